/- What the proof of the law StrashRuns needs, part 5: the walks of the functions that it reaches, and the plain words on what these compute. -/
import Derived.Deep.RegionLaw
import Derived.DeepKeys5
import Derived.IntWalk
import Derived.Laws.BitsAllLaws
import Derived.Laws.CopyOwn
import Derived.LoopIn
import Derived.LoopNIn
import Derived.OwnWalkIn
import Derived.RangeFuncBound
import Derived.RangeFuncCalls
import Derived.RangeFuncLeaves
import Derived.RangeFuncNested
import Derived.Shelf.Abstract
import Derived.Shelf.RegionOpen
import Derived.StillTailTactics
import Derived.TacticsInMore
import Derived.WalkKit
import Derived.WideKeyEntry
import Derived.Test.YteiiodlgdbiimaaRd
section
namespace Go.Proofs.Yteiiodlgdbiimaa.F
open Go.RowKit Go.Proofs.YteiiodlgdbiimaaW.PrintWords Go.Proofs.YteiiodlgdbiimaaW.PrintLast Go.Proofs.YteiiodlgdbiimaaW.PrintMore
attribute [local go_sem] max2_int min2_int max_two min_two max_three min_three max_four min_four
set_option linter.unusedVariables false
set_option linter.unusedSimpArgs false
def bits_Mul64.f (a0 : Int) (a1 : Int) : Option (Int × Int) := some (IntKind.u64.wrap ((IntKind.u64.wrap ((IntKind.u64.wrap ((a0 / 4294967296) * (a1 / 4294967296))) + ((IntKind.u64.wrap ((IntKind.u64.wrap ((a0 / 4294967296) * (Go.bits .and .u64 a1 4294967295))) + ((IntKind.u64.wrap ((Go.bits .and .u64 a0 4294967295) * (Go.bits .and .u64 a1 4294967295))) / 4294967296))) / 4294967296))) + ((IntKind.u64.wrap ((Go.bits .and .u64 (IntKind.u64.wrap ((IntKind.u64.wrap ((a0 / 4294967296) * (Go.bits .and .u64 a1 4294967295))) + ((IntKind.u64.wrap ((Go.bits .and .u64 a0 4294967295) * (Go.bits .and .u64 a1 4294967295))) / 4294967296))) 4294967295) + (IntKind.u64.wrap ((Go.bits .and .u64 a0 4294967295) * (a1 / 4294967296))))) / 4294967296)), IntKind.u64.wrap (a0 * a1))
set_option maxHeartbeats 8000000 in
set_option maxRecDepth 100000 in
theorem bits_Mul64.calls (a0 : Int) (a1 : Int) (r1 : Int) (r2 : Int) (w : World) (h : bits_Mul64.f a0 a1 = some (r1, r2)) :
    Calls Try.prog 179 #[.int .u64 a0, .int .u64 a1] w fun e w' => e = .returned (.tuple #[.int .u64 r1, .int .u64 r2]) ∧ Drawn0 w w' := by
  have H : (some (IntKind.u64.wrap ((IntKind.u64.wrap ((IntKind.u64.wrap ((a0 / 4294967296) * (a1 / 4294967296))) + ((IntKind.u64.wrap ((IntKind.u64.wrap ((a0 / 4294967296) * (Go.bits .and .u64 a1 4294967295))) + ((IntKind.u64.wrap ((Go.bits .and .u64 a0 4294967295) * (Go.bits .and .u64 a1 4294967295))) / 4294967296))) / 4294967296))) + ((IntKind.u64.wrap ((Go.bits .and .u64 (IntKind.u64.wrap ((IntKind.u64.wrap ((a0 / 4294967296) * (Go.bits .and .u64 a1 4294967295))) + ((IntKind.u64.wrap ((Go.bits .and .u64 a0 4294967295) * (Go.bits .and .u64 a1 4294967295))) / 4294967296))) 4294967295) + (IntKind.u64.wrap ((Go.bits .and .u64 a0 4294967295) * (a1 / 4294967296))))) / 4294967296)), IntKind.u64.wrap (a0 * a1))) = some (r1, r2) := h
  clear h
  simp only [Option.some.injEq, Prod.mk.injEq] at H
  obtain ⟨rfl, rfl⟩ := H
  go_enter Try.func179, Try.ntmps179
  go_wp2
  go_ret2
  exact ⟨by first | rfl | (simp; done) | (simp [*]; done), by repeat (first | exact Drawn0.refl _ | apply Drawn0.step)⟩
end Go.Proofs.Yteiiodlgdbiimaa.F
end
section
namespace Go.Proofs.Yteiiodlgdbiimaa.F
open Go.RowKit Go.Proofs.YteiiodlgdbiimaaW.PrintWords Go.Proofs.YteiiodlgdbiimaaW.PrintLast Go.Proofs.YteiiodlgdbiimaaW.PrintMore
attribute [local go_sem] max2_int min2_int max_two min_two max_three min_three max_four min_four
set_option linter.unusedVariables false
set_option linter.unusedSimpArgs false
def bits_Mul.f (a0 : Int) (a1 : Int) : Option (Int × Int) := (bits_Mul64.f a0 a1).bind fun bt307 => (some (bt307.1, bt307.2))
set_option maxHeartbeats 8000000 in
set_option maxRecDepth 100000 in
theorem bits_Mul.calls (a0 : Int) (a1 : Int) (r1 : Int) (r2 : Int) (w : World) (h : bits_Mul.f a0 a1 = some (r1, r2)) :
    Calls Try.prog 146 #[.int .u64 a0, .int .u64 a1] w fun e w' => e = .returned (.tuple #[.int .u64 r1, .int .u64 r2]) ∧ Drawn0 w w' := by
  have H : ((bits_Mul64.f a0 a1).bind fun bt307 => (some (bt307.1, bt307.2))) = some (r1, r2) := h
  clear h
  replace H := Option.bind_eq_some_iff.mp H
  obtain ⟨⟨t307, t308⟩, A30, H⟩ := H
  replace H : (some (t307, t308)) = some (r1, r2) := H
  have A3 := Aside0.mk A30
  clear A30
  simp only [Option.some.injEq, Prod.mk.injEq] at H
  obtain ⟨rfl, rfl⟩ := H
  go_enter Try.func146, Try.ntmps146
  go_wp2_with (first | ((with_reducible refine gate_callee (f := 179) rfl ?_); refine goesL_ (some 25) rfl rfl Try.func179 (by kernel_rfl) rfl #[.int .u64 a0, .int .u64 a1] rfl (by (try simp only [List.map_toArray, List.map_cons, List.map_nil]); first | done | rfl | (simp only [List.length_drop, List.length_take]; rfl)) ?_; (with_reducible refine (bits_Mul64.calls a0 a1 t307 t308 _ A3.out).mono ?_); rintro e w' ⟨rfl, ⟨nd, rfl⟩⟩; refine ⟨_, rfl, ?_⟩))
  go_ret2
  exact ⟨by first | rfl | (simp; done) | (simp [*]; done), by repeat (first | exact Drawn0.refl _ | apply Drawn0.step)⟩
end Go.Proofs.Yteiiodlgdbiimaa.F
end
section
namespace Go.Proofs.Yteiiodlgdbiimaa.F
open Go.RowKit Go.Shelf Go.Proofs.YteiiodlgdbiimaaW.PrintWords Go.Proofs.YteiiodlgdbiimaaW.PrintLast Go.Proofs.YteiiodlgdbiimaaW.PrintMore
set_option linter.unusedVariables false
set_option linter.unusedSimpArgs false
theorem u64_id {x : Int} (h0 : 0 ≤ x) (h1 : x < 18446744073709551616) : IntKind.u64.wrap x = x := by
  simp [IntKind.wrap, IntKind.bits, IntKind.signed]
  omega
theorem mul_one_u64 (n : Nat) (h : n ≤ 1000000) : bits_Mul.f 1 (n : Int) = some (0, (n : Int)) := by
  have e1 : Go.bits .and .u64 (n : Int) 4294967295 = (n : Int) := by
    have := u64_and_nat n 4294967295 (by omega) (by omega)
    rw [show ((4294967295 : Nat) : Int) = 4294967295 from rfl] at this
    rw [this, show (4294967295 : Nat) = 2 ^ 32 - 1 from rfl, Nat.and_two_pow_sub_one_eq_mod, Nat.mod_eq_of_lt (by omega)]
  have e2 : Go.bits .and .u64 1 4294967295 = 1 := by decide
  have e3 : Go.bits .and .u64 0 4294967295 = 0 := by decide
  have e4 : ((1 : Int) / 4294967296) = 0 := by decide
  have e5 : ((n : Int) / 4294967296) = 0 := by omega
  simp only [bits_Mul.f, bits_Mul64.f, Option.bind_some]
  rw [e1, e2, e4, e5]
  simp only [Int.one_mul, Int.zero_mul, Int.mul_zero]
  have e6 : IntKind.u64.wrap 0 = 0 := by decide
  simp only [u64_id (x := (n : Int)) (by omega) (by omega), e5, e6, Int.add_zero, e3, e4]
  rfl
def slices_Repeat_uint8_uint8.f (l0 : List Int) (a1 : Int) : Option (List Int) :=
  match l0 with
  | [x] => if 0 ≤ a1 ∧ a1 ≤ 1000000 then some (List.replicate a1.toNat x) else none
  | _ => none
def someX (x : Value) (j n : Nat) : List Value := List.replicate j x ++ List.replicate (n - j) (.int .u8 0)
theorem splice_someX (x : Value) (j m n : Nat) (h : j + m ≤ n) : splice (someX x j n) j (List.replicate m x) = someX x (j + m) n := by
  unfold splice someX
  have e1 : n - j = m + (n - (j + m)) := by omega
  generalize n - (j + m) = d at e1 ⊢
  rw [e1, List.length_replicate, List.take_append_of_le_length (by simp), List.take_of_length_le (by simp), List.drop_append]
  simp [List.drop_replicate, ← List.append_assoc, List.replicate_append_replicate]
theorem info5x : (Try.prog.info? 5).map (·.size) = some 1 := by kernel_rfl
theorem made_someX (x : Value) (n : Nat) : madeCells #[.int .u8 0] n = (someX x 0 n).toArray := by
  apply Array.ext'
  apply List.ext_getElem
  · simp [someX, size_madeCells]
  · intro i h1 h2
    simp [someX, madeCells, Nat.mod_one]
theorem copy1 {W : World} {ad : Addr} {x : Value} {n j : Nat} {v : Value} (h : W.cell? ad = some x) (hj : (List.replicate (Nat.min 1 n) x)[j]? = some v) : W.cell? (ad.add j) = some v := by
  rw [List.getElem?_replicate] at hj
  split at hj
  · rename_i hlt
    have : Nat.min 1 n ≤ 1 := Nat.min_le_left 1 n
    obtain rfl : j = 0 := by omega
    rw [← Option.some.inj hj]
    simpa [Addr.add] using h
  · cases hj
theorem one_rep (k : Nat) (x : Int) : ∀ v ∈ List.replicate k (Value.int .u8 x), v.oneCell' = true := fun v hv => by
  rw [List.eq_of_mem_replicate hv]
  rfl
set_option maxHeartbeats 4000000 in
set_option maxRecDepth 100000 in
theorem slices_Repeat_uint8_uint8.calls (A0 : Option Addr) (c0 : Nat) (l0 : List Int) (a1 : Int) (r : List Int) (w : World) (hr0 : Kd.C (Kd.int .u8) w A0 l0.length l0) (hc0 : l0.length ≤ c0)
  (h : slices_Repeat_uint8_uint8.f l0 a1 = some r) :
  Calls Try.prog 100 #[.slice A0 l0.length c0, .int .i64 a1] w fun e w' => ∃ v0_ : Value, e = .returned (v0_) ∧ Kd.R (Kd.int .u8) 5 w' w.heap.size (fun _ => True) v0_ r ∧ Below w.heap.size w w' := by
 unfold slices_Repeat_uint8_uint8.f at h
 split at h
 case h_2 => cases h
 case h_1 x =>
 split at h
 case isFalse => cases h
 case isTrue hn =>
 obtain ⟨n, rfl⟩ := Int.eq_ofNat_of_zero_le hn.1
 have hn6 : n ≤ 1000000 := by omega
 obtain rfl := Option.some.inj h
 clear h hn
 obtain ⟨ad, e, hx0⟩ := Kd.at_int hr0 0 (by omega) (by simp)
 cases e
 have hx : w.cell? ad = some (.int .u8 x) := by simpa [rd, Addr.add] using hx0
 clear hx0
 have HR := Aside0.mk hr0
 clear hr0
 have HM := Aside0.mk (fun W => bits_Mul.calls 1 (n : Int) 0 (n : Int) W (mul_one_u64 n hn6))
 have hmk : ∀ W : World, (Instr.makeSlice 28 (.int .i64 (n : Int)) (.int .i64 (n : Int))).run Try.prog W = .ok (.slice (some ⟨W.heap.size, 0, none⟩) n n) (W.alloc (.cells (madeCells #[.int .u8 0] n) 5)) := fun W =>
  run_make_row' (P := Try.prog) 28 5 (.int .u8 0) 1 Try.underlying28 info5 rfl .i64 .i64 n (by omega) (by omega) W
 rw [Int.toNat_natCast]
 go_enter Try.func100, Try.ntmps100
 go_wp2_with (first | (go_at_call 146; refine (HM.out _).mono ?_; rintro e w1 ⟨rfl, ⟨nd, rfl⟩⟩) | ((with_reducible refine gate_dst (N := 30) rfl ?_); refine slice_event rfl (N := 30) rfl (n := n) (c := n) (cs := madeCells #[.int .u8 0] n) (t := 5) ?hr ?_; (case hr => first | (go_simp; done) | (go_simp; rfl)); intro g hg_ w2 BK hb2; have GE := Aside0.mk (show w.heap.size ≤ g from by rw [hg_]; exact (below_drewN' w nd).size); clear hg_; have HB := Aside0.mk (below_step (below_drewN' w nd) hb2); have hx2 := pw_cell_below hb2 (show (w.drewN nd).cell? ad = _ from hx); clear hb2; clear hx; have HBK := Aside0.mk (show w2.heap[g]? = some (.cells (someX (.int .u8 x) 0 n).toArray 5 (0, 0)) from by rw [← made_someX (.int .u8 x) n]; exact BK); clear BK) | ((with_reducible refine gate_builtin (b := .copy) (xs := #[.tmp 31, .tmp 32]) rfl ?_); refine wpList_copy_splice (B := w.heap.size) (w0 := w) rfl (.tmp 31) (.tmp 32) 28 28 ?h0 5 Try.underlying28 info5x (some ⟨g, 0, none⟩) (some ad) n n 1 c0 ?h1 ?h2 g 0 (someX (.int .u8 x) 0 n) 5 HBK.out (List.replicate (Nat.min 1 n) (.int .u8 x)) ?h4 ?h5 ?h6 (one_rep _ _) HB.out GE.out ?_; (case h0 => rfl); (case h1 => rfl); (case h2 => rfl); (case h4 => simp); (case h5 => exact fun _ => ⟨rfl, ad, rfl, fun j v hj => copy1 hx2 hj⟩); (case h6 => have : Nat.min 1 n ≤ n := Nat.min_le_right 1 n; simp [someX]; omega); intro w3 HBK3 HB3; have HBK3 := Aside0.mk HBK3.out; have HB3 := Aside0.mk HB3; rw [splice_someX _ _ _ _ (by have : Nat.min 1 n ≤ n := Nat.min_le_right 1 n; omega)] at HBK3; clear HBK HB))
 go_loopg [8] n (fun gg v8 wr => ∃ j : Nat, n - j ≤ gg ∧ v8 = .int .i64 j ∧ Aside0 (j ≤ n ∧ (1 ≤ j ∨ n = 0)) ∧ Aside0 (wr.heap[g]? = some (.cells (someX (.int .u8 x) j n).toArray 5 (0, 0))) ∧ Aside0 (Below w.heap.size w wr))
 case atStart => exact ⟨Nat.min 1 n, by omega, rfl, ⟨Nat.min_le_right 1 n, by show 1 ≤ Nat.min 1 n ∨ n = 0; rcases Nat.eq_zero_or_pos n with h | h; exact .inr h; exact .inl (Nat.le_min.2 ⟨Nat.le_refl _, h⟩)⟩, ⟨by rw [Nat.zero_add] at HBK3; exact HBK3.out⟩, HB3⟩
 case round =>
  clear HBK3 HB3
  obtain ⟨j, hg, rfl, HJ, HK, HB⟩ := hrel
  have hj1 := HJ.out.1
  by_cases hlt : j < n
  ·
   have hltz : (j : Int) < (n : Int) := by omega
   go_wp2
   obtain ⟨m, hm1, hm2, hm⟩ : ∃ m : Nat, m = Nat.min j (n - j) ∧ j + m ≤ n ∧ (1 ≤ m) := by
    refine ⟨Nat.min j (n - j), rfl, ?_, ?_⟩
    ·
     have : Nat.min j (n - j) ≤ n - j := Nat.min_le_right _ _
     omega
    · exact Nat.le_min.2 ⟨by have := HJ.out.2; omega, by omega⟩
   have HMM := Aside0.mk hm1
   clear hm1
   have hnj : ¬ n = j := by omega
   have HSRC := Aside0.mk (show ∀ (q : Nat) v, (List.replicate m (Value.int .u8 x))[q]? = some v → wr.cell? ((⟨g, 0, none⟩ : Addr).add q) = some v from fun q v hq => by
    rw [List.getElem?_replicate] at hq
    split at hq
    ·
     rename_i hqm
     have hmj : m ≤ j := by rw [HMM.out]; exact Nat.min_le_left _ _
     rw [← Option.some.inj hq, add_plain]
     refine (blk_cell HK.out q).trans ?_
     simp only [someX, List.getElem?_toArray]
     rw [List.getElem?_append_left (by simp; omega), List.getElem?_replicate, if_pos (by omega)]
    · cases hq)
   have HLEN := Aside0.mk (show (List.replicate m (Value.int .u8 x)).length = Nat.min j (n - j) from by rw [List.length_replicate]; exact HMM.out)
   go_region_law ((with_reducible refine step_copy_splice (B := w.heap.size) (w0 := w) ?hgd (.tmp 41) (.tmp 44) 28 28 ?h0 5 Try.underlying28 info5x (some ⟨g, j, none⟩) (some ⟨g, 0, none⟩) (n - j) (n - j) j n ?h1 ?h2 g j (someX (.int .u8 x) j n) 5 ?hK (List.replicate m (.int .u8 x)) HLEN.out ?h5 ?h6 (one_rep _ _) ?hB GE.out ?_); (case hgd => rfl); (case h0 => rfl); (case h1 => simp [Act.eval, Act.put]); (case h2 => simp [Act.eval, Act.put]); (case hK => exact HK.out); (case hB => exact below_drew HB.out); (case h5 => exact fun _ => ⟨rfl, _, rfl, HSRC.out⟩); (case h6 => simp [someX]; omega); intro w3 HBK3 HB3; have HBK3 := Aside0.mk HBK3.out; have HB3 := Aside0.mk HB3)
   have HBK4 := Aside0.mk (show w3.heap[g]? = some (.cells (someX (.int .u8 x) (j + m) n).toArray 5 (0, 0)) from by rw [← splice_someX _ _ _ _ hm2]; exact HBK3.out)
   clear HBK3 HSRC HLEN
   go_wp2
   go_roundg (n - (j + m))
   case measure => omega
   case rel => exact ⟨j + m, by omega, by simp only [Value.int.injEq, true_and, Int.natCast_add]; exact IntWalk.i64_in _ (by omega), ⟨hm2, .inl (by omega)⟩, HBK4, HB3⟩
  ·
   have hltz : ¬ (j : Int) < (n : Int) := by omega
   have hjn : j = n := by omega
   subst hjn
   go_wp2
   go_ret
   refine ⟨_, rfl, ?_, HB.out⟩
   refine Kd.R_of_own (enc := Value.int .u8) (h1 := fun _ => rfl) ?_ (fun _ _ => trivial)
   rw [List.length_replicate]
   exact ⟨by simp [encs], .inr ⟨g, j, (someX (.int .u8 x) j j).toArray, rfl, GE.out, HK.out, Nat.le_refl _, by simp only [maxLen]; omega, by simp [someX], by simp [someX, encs]⟩⟩
end Go.Proofs.Yteiiodlgdbiimaa.F
end
section
namespace Go.Proofs.Yteiiodlgdbiimaa.F
open Go.RowKit Go.Shelf Go.Proofs.YteiiodlgdbiimaaW.PrintWords Go.Proofs.YteiiodlgdbiimaaW.PrintLast Go.Proofs.YteiiodlgdbiimaaW.PrintMore
set_option linter.unusedVariables false
set_option linter.unusedSimpArgs false
attribute [local go_sem] Oper.semAt_some
end Go.Proofs.Yteiiodlgdbiimaa.F
end
section
namespace Go.Proofs.Yteiiodlgdbiimaa.F
open Go.RowKit Go.Shelf Go.Proofs.YteiiodlgdbiimaaW.PrintWords Go.Proofs.YteiiodlgdbiimaaW.PrintLast Go.Proofs.YteiiodlgdbiimaaW.PrintMore
set_option linter.unusedVariables false
set_option linter.unusedSimpArgs false
def u32s (l : List Int) : Bool := l.all fun x => decide (0 ≤ x) && decide (x < 4294967296)
theorem u32s_mem {l : List Int} (h : u32s l = true) {x : Int} (hx : x ∈ l) : 0 ≤ x ∧ x < 4294967296 := by
  have := List.all_eq_true.1 h x hx
  simpa using this
def okIn (l1 : List S41) (l2 : List S68) : Bool := decide (l1.length ≤ 1099511627776) && decide (l2.length ≤ 1099511627776) && u32s (l1.map (·.f0)) && u32s (l2.map (·.f0)) && u32s (l2.map (·.f1))
theorem wrap64_id {x : Int} (h0 : -9223372036854775808 ≤ x) (h1 : x < 9223372036854775808) : wrap64 x = x := by unfold wrap64; omega
theorem u32_id {x : Int} (h0 : 0 ≤ x) (h1 : x < 4294967296) : IntKind.u32.wrap x = x := by
  simp [IntKind.wrap, IntKind.bits, IntKind.signed]
  omega
theorem gatesOk_at : ∀ (l : List S68) (o : Int), 0 ≤ o → o + (l.length : Int) < 4294967296 → gatesOk o l = true → ∀ k (h : k < l.length), l[k].f0 / 2 < o + 1 + (k : Int) ∧ l[k].f1 ≤ l[k].f0
  | [], o, _, _, _, k, h => by simp at h
  | x :: l, o, h0, h1, hg, k, h => by
    simp only [gatesOk, Bool.and_eq_true, Bool.not_eq_true', decide_eq_false_iff_not] at hg
    rw [List.length_cons] at h1
    rw [u32_id (by omega) (by omega)] at hg
    obtain ⟨⟨ha, hb⟩, hc⟩ := hg
    cases k with
    | zero => simp only [List.getElem_cons_zero]; omega
    | succ k =>
      have := gatesOk_at l (o + 1) (by omega) (by omega) hc k (by simpa using h)
      simp only [List.getElem_cons_succ]
      omega
structure Valid (a0 : Int) (l1 : List S41) (l2 : List S68) (l3 l4 l5 : List Int) : Prop where
  pos : 0 ≤ a0
  le : a0 + (l1.length : Int) + (l2.length : Int) ≤ 16384
  next : ∀ k (h : k < l1.length), 0 ≤ l1[k].f0 ∧ l1[k].f0 / 2 ≤ a0 + (l1.length : Int) + (l2.length : Int)
  reset : ∀ k (h : k < l1.length), l1[k].f1 ≤ 2
  gate : ∀ k (h : k < l2.length), 0 ≤ l2[k].f1 ∧ l2[k].f1 ≤ l2[k].f0 ∧ l2[k].f0 / 2 < a0 + (l1.length : Int) + 1 + (k : Int)
  outs : l3.length ≤ 1024 ∧ ∀ x ∈ l3, wrap64 (x / 2) ≤ a0 + (l1.length : Int) + (l2.length : Int)
  bads : l4.length ≤ 1024 ∧ ∀ x ∈ l4, wrap64 (x / 2) ≤ a0 + (l1.length : Int) + (l2.length : Int)
  cons : l5.length ≤ 1024 ∧ ∀ x ∈ l5, wrap64 (x / 2) ≤ a0 + (l1.length : Int) + (l2.length : Int)
theorem varsW_id {a0 : Int} {n m : Nat} (h0 : -9223372036854775808 ≤ a0) (h1 : a0 < 4611686018427387904) (hn : n ≤ 1099511627776) (hm : m ≤ 1099511627776) : varsW a0 n m = a0 + (n : Int) + (m : Int) := by
  unfold varsW
  rw [wrap64_id (x := a0 + (n : Int)) (by omega) (by omega), wrap64_id (by omega) (by omega)]
theorem listOk_iff {V : Int} {l : List Int} : listOk V l = true ↔ l.length ≤ 1024 ∧ ∀ x ∈ l, wrap64 (x / 2) ≤ V := by
  unfold listOk beyW
  simp only [Bool.and_eq_true, Bool.not_eq_true', decide_eq_false_iff_not, List.any_eq_false, decide_eq_true_eq]
  constructor
  · rintro ⟨h, k⟩
    exact ⟨by omega, fun x hx => by have := k x hx; omega⟩
  · rintro ⟨h, k⟩
    exact ⟨by omega, fun x hx => by have := k x hx; omega⟩
theorem valid_of_may {a0 : Int} {l1 : List S41} {l2 : List S68} {l3 l4 l5 : List Int} (hk : okIn l1 l2 = true) (h : mayB a0 l1 l2 l3 l4 l5 = true) : Valid a0 l1 l2 l3 l4 l5 ∧ varsW a0 l1.length l2.length = a0 + (l1.length : Int) + (l2.length : Int) := by
  simp only [okIn, Bool.and_eq_true, decide_eq_true_eq] at hk
  obtain ⟨⟨⟨⟨hn, hm⟩, h10⟩, h20⟩, h21⟩ := hk
  simp only [mayB, Bool.and_eq_true, Bool.not_eq_true', decide_eq_false_iff_not] at h
  obtain ⟨⟨⟨⟨⟨⟨⟨ha, hb⟩, hc⟩, hd⟩, he⟩, hf⟩, hg⟩, hi⟩ := h
  have hV := varsW_id (a0 := a0) (n := l1.length) (m := l2.length) (by omega) (by omega) hn hm
  rw [hV] at hc hd he hf hg
  rw [wrap64_id (by omega) (by omega), u32_id (by omega) (by omega)] at hi
  refine ⟨⟨by omega, by omega, fun k h => ?_, fun k h => ?_, fun k h => ?_, listOk_iff.1 hd, listOk_iff.1 he, listOk_iff.1 hf⟩, hV⟩
  · have h1 := List.all_eq_true.1 hg l1[k] (List.getElem_mem h)
    have h2 := u32s_mem h10 (List.mem_map_of_mem (List.getElem_mem h))
    simp only [latchOk, beyW, Bool.and_eq_true, Bool.not_eq_true', decide_eq_false_iff_not] at h1
    rw [wrap64_id (by omega) (by omega)] at h1
    omega
  · have h1 := List.all_eq_true.1 hg l1[k] (List.getElem_mem h)
    simp only [latchOk, beyW, Bool.and_eq_true, Bool.not_eq_true', decide_eq_false_iff_not] at h1
    omega
  · have h1 := gatesOk_at l2 _ (by omega) (by omega) hi k h
    have h2 := u32s_mem h21 (List.mem_map_of_mem (List.getElem_mem h))
    exact ⟨h2.1, h1.2, by omega⟩
end Go.Proofs.Yteiiodlgdbiimaa.F
end
section
namespace Go.Proofs.Yteiiodlgdbiimaa.F
open Go.RowKit Go.Shelf Go.Proofs.YteiiodlgdbiimaaW.PrintWords Go.Proofs.YteiiodlgdbiimaaW.PrintLast Go.Proofs.YteiiodlgdbiimaaW.PrintMore
set_option linter.unusedVariables false
set_option linter.unusedSimpArgs false
section
variable {P : Program} {ops : Array Oper} {o : Oper} {a : Act} {Q : Exit → Act → World → Prop} {Kc : Act → World → Prop}
theorem skip_step {W w1 : World} (hw : Region.wanted o (yielded ops a.tmps) = true) (hN : o.dst = none) (hrun : (execOp a.eval o).run P W = .ok .skip w1) (h : Kc a w1) : if Region.wanted o (yielded ops a.tmps) = true then Oper.wp P o a W Kc Q else Kc (a.put none undef) W := by
  rw [if_pos hw]
  unfold Oper.wp
  rw [hrun]
  show Kc (a.put o.dst undef) w1
  rw [hN]
  exact h
end
section
variable {P : Program} {ops : Array Oper} {rest : List Oper} {o : Oper} {a : Act} {Q : Exit → Act → World → Prop} {m : Nat}
end
section
variable {a0 : Int} {A1 : Option Addr} {c1 : Nat} {l1 : List S41} {A2 : Option Addr} {c2 : Nat} {l2 : List S68} {A3 : Option Addr} {c3 : Nat} {l3 : List Int} {A4 : Option Addr} {c4 : Nat} {l4 : List Int} {A5 : Option Addr} {c5 : Nat} {l5 : List Int} {w0 : World} {b8 b9 g n : Nat} {v9 : Value} {rows : Nat → List Bool} {W W' : World}
end
end Go.Proofs.Yteiiodlgdbiimaa.F
end
section
namespace Go.Proofs.Yteiiodlgdbiimaa.F
open Go.RowKit Go.Shelf Go.ChangeMaps Go.MapKept Go.Proofs.YteiiodlgdbiimaaW.PrintWords Go.Proofs.YteiiodlgdbiimaaW.PrintLast Go.Proofs.YteiiodlgdbiimaaW.PrintMore
set_option linter.unusedVariables false
set_option linter.unusedSimpArgs false
theorem laid68 : laidOutB Try.prog = true := by kernel_rfl
theorem klaw68 : WideMaps.KeyLaw Try.prog 68 := deep_law_gate laid68 (of_decide_eq_true (by kernel_rfl)) (of_decide_eq_true (by kernel_rfl)) (by kernel_rfl) (by kernel_rfl)
def keyG (a b : Int) : Value := .agg #[.int .u32 a, .int .u32 b]
theorem wf_u32_mk {x : Int} (h : 0 ≤ x ∧ x < 4294967296) : (Lit.int .u32 x).wf = true := by
  simp only [Lit.wf, Bool.and_eq_true, decide_eq_true_eq]
  rw [show IntKind.u32.min = 0 from by decide, show IntKind.u32.max = 4294967295 from by decide]
  omega
theorem key_isG {a b : Int} (ha : 0 ≤ a ∧ a < 4294967296) (hb : 0 ≤ b ∧ b < 4294967296) : ∃ l, keyOf Try.prog 68 (keyG a b) = some l := by
  obtain ⟨m, hm⟩ : ∃ m, Try.prog.types.size = m + 1 := ⟨Try.prog.types.size - 1, by have : 0 < Try.prog.types.size := of_decide_eq_true (by kernel_rfl); omega⟩
  have e1 : Try.prog.keyType 68 = true := by kernel_rfl
  have e2 : (keyG a b).formed Try.prog 68 = true := by kernel_rfl
  have e3 : ∃ ls, Try.prog.keyLits (Try.prog.types.size + 1) 68 (keyG a b).cells.toList = some ls := by
    rw [hm]
    have c68 : Try.prog.cellsOf 68 = 2 := by kernel_rfl
    have c39 : Try.prog.cellsOf 39 = 1 := by kernel_rfl
    simp [Program.keyLits, keyG, Value.cells, Try.underlying68, Try.underlying39, c68, c39, wf_u32_mk ha, wf_u32_mk hb]
  obtain ⟨ls, e3⟩ := e3
  unfold keyOf
  rw [Try.underlying68]
  simp only [e1, e2, e3, Bool.and_self, if_true, Option.map_some]
  exact ⟨_, rfl⟩
def Gate32 (g : S68) : Prop := (0 ≤ g.f0 ∧ g.f0 < 4294967296) ∧ (0 ≤ g.f1 ∧ g.f1 < 4294967296)
def entG (first : Int) (gs : List S68) : List MapEntry := gs.zipIdx.map fun p => { key := keyG p.1.f0 p.1.f1, val := .int .u32 (2 * (first + (p.2 : Int))), born := p.2 }
theorem entG_snoc (first : Int) (gs : List S68) (g : S68) : entG first (gs ++ [g]) = entG first gs ++ [{ key := keyG g.f0 g.f1, val := .int .u32 (2 * (first + (gs.length : Int))), born := gs.length }] := by
  simp [entG, List.zipIdx_append]
theorem entG_len (first : Int) (gs : List S68) : (entG first gs).length = gs.length := by simp [entG]
theorem entG_at {first : Int} {gs : List S68} {j : Nat} {e : MapEntry} (h : (entG first gs)[j]? = some e) : ∃ g, gs[j]? = some g ∧ e = { key := keyG g.f0 g.f1, val := .int .u32 (2 * (first + (j : Int))), born := j } := by
  simp only [entG, List.getElem?_map, List.getElem?_zipIdx] at h
  cases hg : gs[j]? with
  | none => rw [hg] at h; cases h
  | some g =>
    rw [hg] at h
    simp only [Option.map_some, Nat.zero_add, Option.some.injEq] at h
    exact ⟨g, rfl, h.symm⟩
theorem entG_mem {first : Int} {gs : List S68} {g : S68} {j : Nat} (h : gs[j]? = some g) : ({ key := keyG g.f0 g.f1, val := .int .u32 (2 * (first + (j : Int))), born := j } : MapEntry) ∈ entG first gs := by
  refine List.mem_of_getElem? (i := j) ?_
  simp [entG, List.getElem?_zipIdx, h]
def idxG : List S68 → Int → Int → Option Nat
  | [], _, _ => none
  | g :: r, a, b => if g.f0 = a ∧ g.f1 = b then some 0 else (idxG r a b).map (· + 1)
theorem idxG_none {a b : Int} : ∀ gs : List S68, idxG gs a b = none → ∀ g ∈ gs, ¬ (g.f0 = a ∧ g.f1 = b)
  | [], _, g, hg => by cases hg
  | x :: r, h, g, hg => by
    unfold idxG at h
    split at h
    · cases h
    · rename_i hc
      rcases List.mem_cons.1 hg with rfl | hg
      · exact hc
      · exact idxG_none r (by simpa using h) g hg
theorem idxG_some {a b : Int} : ∀ (gs : List S68) (j : Nat), idxG gs a b = some j → (∃ g, gs[j]? = some g ∧ g.f0 = a ∧ g.f1 = b) ∧ ∀ i, i < j → ∀ g, gs[i]? = some g → ¬ (g.f0 = a ∧ g.f1 = b)
  | [], j, h => by cases h
  | x :: r, j, h => by
    unfold idxG at h
    split at h
    · rename_i hc
      cases h
      exact ⟨⟨x, rfl, hc⟩, fun i hi => by omega⟩
    · rename_i hc
      obtain ⟨k, hk, rfl⟩ := Option.map_eq_some_iff.1 h
      obtain ⟨h1, h2⟩ := idxG_some r k hk
      refine ⟨by simpa using h1, fun i hi g hg => ?_⟩
      cases i with
      | zero =>
        cases hg
        exact hc
      | succ i => exact h2 i (by omega) g (by simpa using hg)
def Apart68 (gs : List S68) : Prop := ∀ (i j : Nat) (g h : S68), gs[i]? = some g → gs[j]? = some h → g.f0 = h.f0 → g.f1 = h.f1 → i = j
theorem zero39 (w : World) : (zeroValue 39).run Try.prog w = .ok (.int .u32 0) w := by kernel_rfl
section
variable {first : Int} {gs : List S68} {w : World} {mb : Nat} {a b : Int}
theorem keys68 (hg : ∀ g ∈ gs, Gate32 g) : ∀ e ∈ entG first gs, ∃ l, keyOf Try.prog 68 e.key = some l := by
  intro e he
  obtain ⟨j, hj⟩ := List.getElem?_of_mem he
  obtain ⟨g, h1, rfl⟩ := entG_at hj
  have := hg g (List.mem_of_getElem? h1)
  exact key_isG this.1 this.2
theorem keyG_inj {a b c d : Int} (h : keyG a b = keyG c d) : a = c ∧ b = d := by
  unfold keyG at h
  injection h with h
  have h1 : [Value.int .u32 a, Value.int .u32 b] = [Value.int .u32 c, Value.int .u32 d] := congrArg Array.toList h
  injection h1 with e1 h2
  injection h2 with e2 _
  injection e1 with _ e1
  injection e2 with _ e2
  exact ⟨e1, e2⟩
theorem find_none (hg : ∀ g ∈ gs, Gate32 g) (ha : 0 ≤ a ∧ a < 4294967296) (hb : 0 ≤ b ∧ b < 4294967296) (hn : ∀ g ∈ gs, ¬ (g.f0 = a ∧ g.f1 = b)) (w : World) : (Instr.findKey 68 (keyG a b) (entG first gs)).run Try.prog w = .ok none w := by
  obtain ⟨l, hl⟩ := key_isG ha hb
  rcases klaw68.find w hl (entG first gs) (keys68 hg) with ⟨h1, _⟩ | ⟨j, e, _, h2, h3⟩
  · exact h1
  · obtain ⟨g, hg1, rfl⟩ := entG_at h2
    obtain ⟨e1, e2⟩ := keyG_inj h3
    exact absurd ⟨e1, e2⟩ (hn g (List.mem_of_getElem? hg1))
theorem find_some (hg : ∀ g ∈ gs, Gate32 g) (hd : Apart68 gs) (ha : 0 ≤ a ∧ a < 4294967296) (hb : 0 ≤ b ∧ b < 4294967296) {j : Nat} {g : S68} (hj : gs[j]? = some g) (h0 : g.f0 = a) (h1 : g.f1 = b) (w : World) :
    (Instr.findKey 68 (keyG a b) (entG first gs)).run Try.prog w = .ok (some (j, .int .u32 (2 * (first + (j : Int))))) w := by
  obtain ⟨l, hl⟩ := key_isG ha hb
  rcases klaw68.find w hl (entG first gs) (keys68 hg) with ⟨_, h2⟩ | ⟨i, e, hr, h2, h3⟩
  · exact absurd (show keyG g.f0 g.f1 = keyG a b by rw [h0, h1]) (h2 _ (entG_mem hj))
  · obtain ⟨g', hg1, rfl⟩ := entG_at h2
    obtain ⟨e1, e2⟩ := keyG_inj h3
    obtain rfl : i = j := hd i j g' g hg1 hj (by rw [e1, h0]) (by rw [e2, h1])
    exact hr
theorem lookG_none (hm : w.heap[mb]? = some (.map (entG first gs).toArray gs.length)) (hg : ∀ g ∈ gs, Gate32 g) (ha : 0 ≤ a ∧ a < 4294967296) (hb : 0 ≤ b ∧ b < 4294967296) (hn : ∀ g ∈ gs, ¬ (g.f0 = a ∧ g.f1 = b)) :
    (Instr.lookup 121 (.map (some mb)) (keyG a b) true).run Try.prog w = .ok (.tuple #[.int .u32 0, .bool false]) w := by
  obtain ⟨l, hl⟩ := key_isG ha hb
  have h1 := find_none (first := first) hg ha hb hn w
  simp [Instr.lookup, run_underlying Try.underlying121, MapKept.run_getObj_map hm, klaw68.check w _ hl, h1, zero39, Result.andThen]
theorem lookG_some (hm : w.heap[mb]? = some (.map (entG first gs).toArray gs.length)) (hg : ∀ g ∈ gs, Gate32 g) (hd : Apart68 gs) (ha : 0 ≤ a ∧ a < 4294967296) (hb : 0 ≤ b ∧ b < 4294967296) {j : Nat} {g : S68} (hj : gs[j]? = some g) (h0 : g.f0 = a) (h1 : g.f1 = b) :
    (Instr.lookup 121 (.map (some mb)) (keyG a b) true).run Try.prog w = .ok (.tuple #[.int .u32 (2 * (first + (j : Int))), .bool true]) w := by
  obtain ⟨l, hl⟩ := key_isG ha hb
  have h2 := find_some (first := first) hg hd ha hb hj h0 h1 w
  simp [Instr.lookup, run_underlying Try.underlying121, MapKept.run_getObj_map hm, klaw68.check w _ hl, h2, Result.andThen]
theorem mapG_entry (hm : w.heap[mb]? = some (.map (entG first gs).toArray gs.length)) (hg : ∀ g ∈ gs, Gate32 g) (ha : 0 ≤ a ∧ a < 4294967296) (hb : 0 ≤ b ∧ b < 4294967296) (hn : ∀ g ∈ gs, ¬ (g.f0 = a ∧ g.f1 = b)) :
    (Instr.mapEntry 121 (.map (some mb)) (keyG a b)).run Try.prog w = .ok (.tuple #[.int .u32 0, .int .i64 gs.length]) (setBlock w mb (.map ((entG first gs).toArray.push ⟨keyG a b, .int .u32 0, gs.length⟩) (gs.length + 1))) := by
  obtain ⟨l, hl⟩ := key_isG ha hb
  have h1 := find_none (first := first) hg ha hb hn w
  simp [Instr.mapEntry, run_underlying Try.underlying121, MapKept.run_getObj_map hm, klaw68.check w false hl, h1, zero39, MapKept.run_setObj_map _ hm, Result.andThen, setBlock, goInt]
theorem mapG_store (v : Value) (hm : w.heap[mb]? = some (.map ((entG first gs).toArray.push ⟨keyG a b, .int .u32 0, gs.length⟩) (gs.length + 1))) :
    (Instr.entryStore 121 (.map (some mb)) (.int .i64 gs.length) v).run Try.prog w = .ok () (setBlock w mb (.map ((entG first gs).toArray.push ⟨keyG a b, v, gs.length⟩) (gs.length + 1))) := by
  have hidx : ((entG first gs).toArray.push ⟨keyG a b, .int .u32 0, gs.length⟩).findIdx? (fun e => ((e.born : Nat) : Int) == ((gs.length : Nat) : Int)) = some gs.length := by
    rw [WideElems.findIdx_arr]
    refine WideElems.findIdx_born (e0 := ⟨keyG a b, .int .u32 0, gs.length⟩) ?_ ?_
    · have e : ((entG first gs).toArray.push ⟨keyG a b, .int .u32 0, gs.length⟩).toList.map (·.born) = List.range (gs.length + 1) := by
        apply List.ext_getElem?
        intro i
        simp [entG, List.getElem?_append, List.getElem?_range, List.getElem?_zipIdx, List.range_succ]
        by_cases hi : i < gs.length
        · simp [hi]
        · simp [hi]
      rw [e]
      exact List.nodup_range
    · simp [entG_len]
  have hmod : ((entG first gs).toArray.push ⟨keyG a b, .int .u32 0, gs.length⟩).modify gs.length (fun e => { e with val := v }) = (entG first gs).toArray.push ⟨keyG a b, v, gs.length⟩ := by
    apply Array.ext'
    have := WideElems.modify_last (fun e : MapEntry => { e with val := v }) (⟨keyG a b, .int .u32 0, gs.length⟩ : MapEntry) (entG first gs)
    rw [entG_len] at this
    rw [Array.toList_modify, Array.toList_push, Array.toList_push]
    simpa using this
  generalize (entG first gs).toArray.push ⟨keyG a b, .int .u32 0, gs.length⟩ = es at hm hidx hmod
  generalize (entG first gs).toArray.push ⟨keyG a b, v, gs.length⟩ = es' at hmod ⊢
  simp [Instr.entryStore, MapKept.run_getObj_map hm, asInt, asIntOf, hidx, hmod, MapKept.run_setObj_map _ hm, Result.andThen, setBlock]
end
end Go.Proofs.Yteiiodlgdbiimaa.F
end
section
namespace Go.Proofs.Yteiiodlgdbiimaa.F
open Go.RowKit Go.Shelf Go.ChangeMaps Go.MapKept Go.Proofs.YteiiodlgdbiimaaW.PrintWords Go.Proofs.YteiiodlgdbiimaaW.PrintLast Go.Proofs.YteiiodlgdbiimaaW.PrintMore
set_option linter.unusedVariables false
set_option linter.unusedSimpArgs false
attribute [local go_sem] max2_int min2_int max_two min_two max_three min_three max_four min_four
def OthersG (W W' : World) : Prop := ∀ (b : Nat) (cs : Array Value) (t : TypeId), W.heap[b]? = some (.cells cs t (0, 0)) → t ≠ 123 → t ≠ 68 → W'.heap[b]? = some (.cells cs t (0, 0))
theorem OthersG.refl (W : World) : OthersG W W := fun _ _ _ h _ _ => h
theorem OthersG.trans {W W1 W2 : World} (h : OthersG W W1) (k : OthersG W1 W2) : OthersG W W2 := fun b cs t hb h1 h2 => k b cs t (h b cs t hb h1 h2) h1 h2
theorem OthersG.below {W W1 : World} (h : Below W.heap.size W W1) : OthersG W W1 := fun b cs t hb _ _ => blk_below hb h
theorem R_othersG {W W' : World} {base : Nat} {v : Value} {xs : List Int} (h : Kd.R (Kd.int .u32) 39 W base (fun _ => True) v xs) (ho : OthersG W W') : Kd.R (Kd.int .u32) 39 W' base (fun _ => True) v xs :=
  Kd.R_mono (Kd.R_move (Kd.R_tight rfl h) (fun k hk => by
    obtain ⟨cs, hc⟩ := Kd.R_typed h k hk.symm
    rw [hc]
    exact ho k cs 39 hc (by decide) (by decide))) (fun _ _ => trivial)
def Keeps68 (first : Int) (gm mb : Nat) (W W' : World) : Prop := ∀ (b : Nat) (cs : Array Value), W.heap[b]? = some (.cells cs 68 (0, 0)) → (∀ vg, W.heap[gm]? = some (.cells #[.int .u32 first, vg, .map (some mb)] 123 (0, 0)) → some b ≠ vg.ownBlock) → W'.heap[b]? = some (.cells cs 68 (0, 0))
structure MkSt (first : Int) (gs : List S68) (w0 : World) (gm mb : Nat) (W : World) : Prop where
  below : Below w0.heap.size w0 W
  gm0 : w0.heap.size ≤ gm
  mb0 : w0.heap.size ≤ mb
  ok : ∀ g ∈ gs, Gate32 g
  ap : Apart68 gs
  map : W.heap[mb]? = some (.map (entG first gs).toArray gs.length)
  st : ∃ vg, W.heap[gm]? = some (.cells #[.int .u32 first, vg, .map (some mb)] 123 (0, 0)) ∧ Kd.R k68 68 W w0.heap.size (fun _ => True) vg gs
theorem MkSt.step {first : Int} {gs : List S68} {w0 : World} {gm mb : Nat} {W W' : World} (h : MkSt first gs w0 gm mb W) (hb : Below W.heap.size W W') : MkSt first gs w0 gm mb W' := by
  obtain ⟨vg, hk, hq⟩ := h.st
  exact ⟨below_step h.below hb, h.gm0, h.mb0, h.ok, h.ap, blk_below h.map hb, vg, blk_below hk hb, Kd.R_below hq hb⟩
theorem setBlock_grown {w : World} {b : Nat} {es : Array MapEntry} {k : Nat} {o' : Obj} (h : w.heap[b]? = some (.map es k)) : w.grownBy (setBlock w b o') (some b) := ⟨rfl, rfl, rfl, by simp [setBlock], fun i _ hi => heap_setBlock_other h _ (fun e => hi (by rw [e]))⟩
theorem Apart68.snoc {gs : List S68} (h : Apart68 gs) {a b : Int} (hn : ∀ g ∈ gs, ¬ (g.f0 = a ∧ g.f1 = b)) : Apart68 (gs ++ [⟨a, b⟩]) := by
  intro i j g k hg hk e0 e1
  by_cases hi : i < gs.length <;> by_cases hj : j < gs.length
  · rw [List.getElem?_append_left hi] at hg
    rw [List.getElem?_append_left hj] at hk
    exact h i j g k hg hk e0 e1
  · rw [List.getElem?_append_left hi] at hg
    have hj2 : j = gs.length := by have := (List.getElem?_eq_some_iff.1 hk).1; simp at this; omega
    subst hj2
    simp at hk
    subst hk
    exact absurd ⟨e0, e1⟩ (hn g (List.mem_of_getElem? hg))
  · rw [List.getElem?_append_left hj] at hk
    have hi2 : i = gs.length := by have := (List.getElem?_eq_some_iff.1 hg).1; simp at this; omega
    subst hi2
    simp at hg
    subst hg
    exact absurd ⟨e0.symm, e1.symm⟩ (hn k (List.mem_of_getElem? hk))
  · have hi2 := (List.getElem?_eq_some_iff.1 hg).1
    have hj2 := (List.getElem?_eq_some_iff.1 hk).1
    simp at hi2 hj2
    omega
theorem MkSt.added {first : Int} {gs : List S68} {w0 : World} {gm mb : Nat} {W w1 : World} {vg v1 : Value} {a b : Int} (h : MkSt first gs w0 gm mb W) (hk : W.heap[gm]? = some (.cells #[.int .u32 first, vg, .map (some mb)] 123 (0, 0))) (hq : Kd.R k68 68 W w0.heap.size (fun _ => True) vg gs)
    (hn : ∀ g ∈ gs, ¬ (g.f0 = a ∧ g.f1 = b)) (ha : 0 ≤ a ∧ a < 4294967296) (hb : 0 ≤ b ∧ b < 4294967296)
    (hR : Kd.R k68 68 w1 w0.heap.size (fun _ => True) v1 (gs ++ [⟨a, b⟩])) (hB : Below w0.heap.size w0 w1) (hg : W.grownBy w1 vg.ownBlock) (es1 es2 : Array MapEntry) (k1 k2 : Nat) (hm2 : es2 = (entG first (gs ++ [⟨a, b⟩])).toArray ∧ k2 = (gs ++ [(⟨a, b⟩ : S68)]).length) :
    MkSt first (gs ++ [⟨a, b⟩]) w0 gm mb ((setBlock (setBlock w1 mb (.map es1 k1)) mb (.map es2 k2)).setCell ⟨gm, 1, none⟩ v1) ∧ OthersG W ((setBlock (setBlock w1 mb (.map es1 k1)) mb (.map es2 k2)).setCell ⟨gm, 1, none⟩ v1) ∧ w1.heap[gm]? = some (.cells #[.int .u32 first, vg, .map (some mb)] 123 (0, 0)) ∧ w1.heap[mb]? = some (.map (entG first gs).toArray gs.length)
      ∧ (setBlock (setBlock w1 mb (.map es1 k1)) mb (.map es2 k2)).heap[gm]? = some (.cells #[.int .u32 first, vg, .map (some mb)] 123 (0, 0))
      ∧ (∀ (b' : Nat) (cs : Array Value), W.heap[b']? = some (.cells cs 68 (0, 0)) → some b' ≠ vg.ownBlock → ((setBlock (setBlock w1 mb (.map es1 k1)) mb (.map es2 k2)).setCell ⟨gm, 1, none⟩ v1).heap[b']? = some (.cells cs 68 (0, 0))) := by
  have hk1 := blk_grown hk hg (Kd.R_ne hq hk (by decide))
  have hm1 : w1.heap[mb]? = some (.map (entG first gs).toArray gs.length) := blk_grown h.map hg (fun e => by
    obtain ⟨cs, hc⟩ := Kd.R_typed hq mb e.symm
    rw [h.map] at hc
    cases hc)
  have hne : gm ≠ mb := fun e => by rw [e, hm1] at hk1; cases hk1
  have g1 := setBlock_grown (o' := .map es1 k1) hm1
  have hm2' : (setBlock w1 mb (.map es1 k1)).heap[mb]? = some (.map es1 k1) := heap_setBlock_same hm1 _
  have g2 := setBlock_grown (o' := .map es2 k2) hm2'
  have hm3 : (setBlock (setBlock w1 mb (.map es1 k1)) mb (.map es2 k2)).heap[mb]? = some (.map es2 k2) := heap_setBlock_same hm2' _
  have hx : ∀ (k : Nat) (cs : Array Value) (t : TypeId), w1.heap[k]? = some (.cells cs t (0, 0)) → (setBlock (setBlock w1 mb (.map es1 k1)) mb (.map es2 k2)).heap[k]? = some (.cells cs t (0, 0)) := fun k cs t hc => by
    have hkm : k ≠ mb := fun e => by rw [e, hm1] at hc; cases hc
    exact (heap_setBlock_other hm2' _ hkm).trans ((heap_setBlock_other hm1 _ hkm).trans hc)
  have hB2 : Below w0.heap.size w0 (setBlock (setBlock w1 mb (.map es1 k1)) mb (.map es2 k2)) := (hB.grown g1 hB.size (fun r e => by cases e; exact h.mb0)).grown g2 (Nat.le_trans hB.size g1.size) (fun r e => by cases e; exact h.mb0)
  have hR2 : Kd.R k68 68 (setBlock (setBlock w1 mb (.map es1 k1)) mb (.map es2 k2)) w0.heap.size (fun _ => True) v1 (gs ++ [⟨a, b⟩]) := Kd.R_mono (Kd.R_move (Kd.R_bound hR) (fun k hk => by
    obtain ⟨_, _, _, q, _, cells, hc⟩ := hk
    rw [hc]
    exact hx k cells q hc)) (fun _ _ => trivial)
  have hk3 := hx gm _ _ hk1
  refine ⟨⟨hB2.setCell (p := ⟨gm, 1, none⟩) h.gm0 v1, h.gm0, h.mb0, fun g hg => ?_, h.ap.snoc hn, ?_, v1, by simpa using blk_set hk3 1 v1, Kd.R_set hR2 hk3 (by decide) 1 v1⟩, fun b' cs t hb' h1 h2 => ?_, hk1, hm1, hk3, fun b' cs hb' hne' => ?_⟩
  · rcases List.mem_append.1 hg with hg | hg
    · exact h.ok g hg
    · rw [List.mem_singleton.1 hg]
      exact ⟨ha, hb⟩
  · rw [Below.heap_setCell _ _ _ mb (fun e => hne e.symm), hm3, hm2.1, hm2.2]
  · have e1 := blk_grown hb' hg (Kd.R_ne hq hb' (fun e => h2 e.symm))
    have e2 := hx b' cs t e1
    exact blk_far e2 (p := ⟨gm, 1, none⟩) (blk_ne e2 hk3 h1) v1
  · have e2 := hx b' cs 68 (blk_grown hb' hg hne')
    exact blk_far e2 (p := ⟨gm, 1, none⟩) (blk_ne e2 hk3 (by decide)) v1
def gateP (first : Int) (gs : List S68) (a b : Int) : Int × List S68 :=
  if mn a b = 0 then (0, gs) else if mx a b = Go.bits .xor .u32 (mn a b) 1 then (0, gs) else if mn a b = 1 then (mx a b, gs) else if mx a b = mn a b then (mx a b, gs)
  else match idxG gs (mx a b) (mn a b) with
    | some j => (2 * (first + (j : Int)), gs)
    | none => (2 * (first + (gs.length : Int)), gs ++ [⟨mx a b, mn a b⟩])
set_option maxHeartbeats 8000000 in
set_option maxRecDepth 100000 in
theorem gate103 (first : Int) (gs : List S68) (w0 : World) (gm mb : Nat) (w : World) (a b : Int) (hf : 0 ≤ first ∧ first ≤ 40000) (hl : gs.length ≤ 40000) (ha : 0 ≤ a ∧ a < 4294967296) (hb : 0 ≤ b ∧ b < 4294967296) (h : MkSt first gs w0 gm mb w) :
  Calls Try.prog 103 #[.pointer (some ⟨gm, 0, none⟩), .int .u32 a, .int .u32 b] w fun e w' => e = .returned (.int .u32 (gateP first gs a b).1) ∧ MkSt first (gateP first gs a b).2 w0 gm mb w' ∧ OthersG w w' ∧ Keeps68 first gm mb w w' := by
 have H := Aside0.mk h
 have hu68 := Try.underlying68
 have hu123 := Try.underlying123
 have hHI : 0 ≤ mx a b ∧ mx a b < 4294967296 := by unfold mx; split <;> omega
 have hLO : 0 ≤ mn a b ∧ mn a b < 4294967296 := by unfold mn; split <;> omega
 unfold gateP
 obtain ⟨hi, hhi⟩ : ∃ hi, mx a b = hi := ⟨_, rfl⟩
 obtain ⟨lo, hlo⟩ : ∃ lo, mn a b = lo := ⟨_, rfl⟩
 rw [hhi] at hHI
 rw [hlo] at hLO
 rw [hhi, hlo]
 have hhi_ : (if a < b then b else a) = hi := hhi
 have hlo_ : (if b < a then b else a) = lo := hlo
 have HHI := Aside0.mk hHI
 have HLO := Aside0.mk hLO
 have HFB := Aside0.mk hf
 have HGL := Aside0.mk hl
 clear hHI hLO ha hb hf hl
 by_cases c0 : lo = 0
 ·
  rw [if_pos c0]
  subst c0
  clear h
  go_enter Try.func103, Try.ntmps103
  go_wp2
  go_ret
  exact ⟨rfl, H.out, OthersG.refl _, fun _ _ h _ => h⟩
 rw [if_neg c0]
 have d0 : (lo == 0) = false := beq_eq_false_iff_ne.mpr c0
 by_cases c1 : hi = Go.bits .xor .u32 lo 1
 ·
  rw [if_pos c1]
  have d1 : (hi == Go.bits .xor .u32 lo 1) = true := beq_iff_eq.mpr c1
  clear c1 c0 h
  go_enter Try.func103, Try.ntmps103
  go_wp2
  go_ret
  exact ⟨rfl, H.out, OthersG.refl _, fun _ _ h _ => h⟩
 rw [if_neg c1]
 have d1 : (hi == Go.bits .xor .u32 lo 1) = false := beq_eq_false_iff_ne.mpr c1
 by_cases c2 : lo = 1
 ·
  rw [if_pos c2]
  have d2 : (lo == 1) = true := beq_iff_eq.mpr c2
  clear c2 c1 c0 h
  go_enter Try.func103, Try.ntmps103
  go_wp2
  go_ret
  exact ⟨rfl, H.out, OthersG.refl _, fun _ _ h _ => h⟩
 rw [if_neg c2]
 have d2 : (lo == 1) = false := beq_eq_false_iff_ne.mpr c2
 by_cases c3 : hi = lo
 ·
  rw [if_pos c3]
  have d3 : (hi == lo) = true := beq_iff_eq.mpr c3
  clear c3 c2 c1 c0 h
  go_enter Try.func103, Try.ntmps103
  go_wp2
  go_ret
  exact ⟨rfl, H.out, OthersG.refl _, fun _ _ h _ => h⟩
 rw [if_neg c3]
 have d3 : (hi == lo) = false := beq_eq_false_iff_ne.mpr c3
 clear c3 c2 c1 c0
 obtain ⟨vg, hk, hq⟩ := h.st
 obtain ⟨Ag, cg, rfl⟩ := Kd.R_slice hq
 have HQ0 := Aside0.mk hq
 have HK0 := Aside0.mk hk
 clear h hk hq
 cases hx : idxG gs hi lo with
 | some j =>
  obtain ⟨⟨g, hj, e0, e1⟩, _⟩ := idxG_some gs j hx
  have HJ := Aside0.mk (And.intro hj (And.intro e0 e1))
  clear hx hj e0 e1
  go_enter Try.func103, Try.ntmps103
  go_wp2_with (first | ((with_reducible refine gate_dst (N := 7) rfl ?_); refine box_event ?hg (N := 7) ?hd (cs := #[.int .u32 0, .int .u32 0]) (t := 68) ?hr ?_; (case hd => rfl); (case hg => rfl); (case hr => first | (go_simp; done) | (go_simp; rfl)); intro g7 hg_ wa_ bk_ hb_; have GE_ := Aside0.mk (Nat.le_of_eq hg_.symm); clear hg_; have HB_ := Aside0.mk hb_; have BK_ := Aside0.mk bk_; have qa_ : wa_.cell? ⟨g7, 0, none⟩ = some (.int .u32 0) := (blk_cell bk_ 0).trans rfl; have qb_ : wa_.cell? ⟨g7, 1, none⟩ = some (.int .u32 0) := (blk_cell bk_ 1).trans rfl; have fa_ := blk_frozen bk_ 0; have fb_ := blk_frozen bk_ 1; clear hb_ bk_) | ((with_reducible refine gate_store (t := 68) (p := .tmp 7) (x := .tmp 32) rfl ?_); refine skip_event (W' := (wa_.setCell ⟨g7, 0, none⟩ (.int .u32 hi)).setCell ⟨g7, 1, none⟩ (.int .u32 lo)) ?hn ?hs ?hr ?_; (case hn => rfl); (case hs => rfl); (case hr => first | (go_simp; done) | (go_simp; rfl)); intro w8 hw_; have BK8 := Aside0.mk (show w8.heap[g7]? = some (.cells #[.int .u32 hi, .int .u32 lo] 68 (0, 0)) from by rw [hw_]; exact blk_set2 BK_.out _ _); have HB8 := Aside0.mk (show Below w.heap.size w w8 from by rw [hw_]; exact below_set2 HB_.out GE_.out _ _); have GE7 := GE_; clear hw_ qa_ qb_ fa_ fb_ BK_ HB_ GE_; have qg7_0 : w8.cell? ⟨g7, 0, none⟩ = some (.int .u32 hi) := (blk_cell BK8.out 0).trans rfl; have qg7_1 : w8.cell? ⟨g7, 1, none⟩ = some (.int .u32 lo) := (blk_cell BK8.out 1).trans rfl; skip))
  have HM8 := Aside0.mk (H.out.step HB8.out)
  have KM8 := Aside0.mk (blk_below HK0.out HB8.out)
  have HO8 := Aside0.mk (OthersG.below HB8.out)
  refine start_ (n := 11) (S := fun w' => w'.cell? ⟨gm, 2, none⟩ = some (.map (some mb)) ∧ w'.cell? ⟨g7, 0, none⟩ = some (.int .u32 hi) ∧ w'.cell? ⟨g7, 1, none⟩ = some (.int .u32 lo) ∧ (Instr.lookup 121 (.map (some mb)) (.agg #[.int .u32 hi, .int .u32 lo]) true).run Try.prog w' = .ok (.tuple #[.int .u32 (2 * (first + (j : Int))), .bool true]) w') (ds := []) #[false, false, false, false, false, false, false, false, false, false, false] (by kernel_rfl) rfl rfl ⟨(blk_cell KM8.out 2).trans rfl, (blk_cell BK8.out 0).trans rfl, (blk_cell BK8.out 1).trans rfl, lookG_some (w := w8.drew) HM8.out.map HM8.out.ok HM8.out.ap HHI.out HLO.out HJ.out.1 HJ.out.2.1 HJ.out.2.2⟩ (fun hHeld => ?_)
  have HM9 := Aside0.mk (HM8.out.step (W' := w8.drew) (below_drew1 (Below.refl _ _)))
  have HO9 := Aside0.mk (HO8.out.trans (OthersG.below (W1 := w8.drew) (below_drew1 (Below.refl _ _))))
  have HS9 := Aside0.mk (show Keeps68 first gm mb w w8.drew from fun b cs h _ => blk_drew (blk_below h HB8.out))
  have HW9 := Aside0.mk (show ∀ (b : Nat) (cs : Array Value), w.heap[b]? = some (.cells cs 68 (0, 0)) → w8.drew.heap[b]? = some (.cells cs 68 (0, 0)) from fun b cs h => blk_drew (blk_below h HB8.out))
  have HG0 := HK0
  clear HM8 KM8 HO8 BK8 HB8 qg7_0 qg7_1 HK0 HQ0
  generalize w8.drew = w9 at HM9 HO9 HS9 HW9 hHeld ⊢
  refine pure_ (i := 0) (N := some 34) (v := ?_) (a' := ?_) #[true, false, false, false, false, false, false, false, false, false, false] rfl rfl (by kernel_rfl) (fun _ _ _ h => h) (Or.inl ⟨by rfl, ?_⟩) ?_ ?_
  rotate_left
  ·
   intro w'
   go_simp
   with_reducible rfl
  rotate_left
  ·
   simp only [Act.put, List.setIfInBounds_toArray, List.set_cons_zero, List.set_cons_succ]
   rfl
  refine pure_ (i := 1) (N := some 35) (v := ?_) (a' := ?_) #[true, true, false, false, false, false, false, false, false, false, false] rfl rfl (by kernel_rfl) (fun _ _ _ h => h) (Or.inl ⟨by rfl, ?_⟩) ?_ ?_
  rotate_left
  ·
   intro w'
   go_simp
   with_reducible rfl
  rotate_left
  ·
   simp only [Act.put, List.setIfInBounds_toArray, List.set_cons_zero, List.set_cons_succ]
   rfl
  refine pure_ (i := 2) (N := some 36) (v := ?_) (a' := ?_) #[true, true, true, false, false, false, false, false, false, false, false] rfl rfl (by kernel_rfl) (fun _ _ _ h => h) (Or.inl ⟨by rfl, ?_⟩) ?_ ?_
  rotate_left
  ·
   intro w'
   go_simp
   with_reducible rfl
  rotate_left
  ·
   simp only [Act.put, List.setIfInBounds_toArray, List.set_cons_zero, List.set_cons_succ]
   rfl
  refine take_ (i := 3) (N := some 37) (v := ?_) (a' := ?_) #[true, true, true, true, false, false, false, false, false, false, false] rfl rfl (by kernel_rfl) (fun _ _ _ h => h) (Or.inl ⟨by rfl, ?_⟩) hHeld ?_ ?_
  rotate_left
  ·
   rintro w' ⟨s0, s1, s2, s3⟩
   go_simp
   with_reducible rfl
  rotate_left
  ·
   simp only [Act.put, List.setIfInBounds_toArray, List.set_cons_zero, List.set_cons_succ]
   rfl
  refine take_ (i := 4) (N := some 38) (v := ?_) (a' := ?_) #[true, true, true, true, true, false, false, false, false, false, false] rfl rfl (by kernel_rfl) (fun _ _ _ h => h) (Or.inl ⟨by rfl, ?_⟩) hHeld ?_ ?_
  rotate_left
  ·
   rintro w' ⟨s0, s1, s2, s3⟩
   go_simp
   with_reducible rfl
  rotate_left
  ·
   simp only [Act.put, List.setIfInBounds_toArray, List.set_cons_zero, List.set_cons_succ]
   rfl
  refine take_ (i := 5) (N := some 39) (v := ?_) (a' := ?_) #[true, true, true, true, true, true, false, false, false, false, false] rfl rfl (by kernel_rfl) (fun _ _ _ h => h) (Or.inl ⟨by rfl, ?_⟩) hHeld ?_ ?_
  rotate_left
  ·
   rintro w' ⟨s0, s1, s2, s3⟩
   go_simp
   with_reducible rfl
  rotate_left
  ·
   simp only [Act.put, List.setIfInBounds_toArray, List.set_cons_zero, List.set_cons_succ]
   rfl
  refine pure_ (i := 6) (N := some 33) (v := ?_) (a' := ?_) #[true, true, true, true, true, true, true, false, false, false, false] rfl rfl (by kernel_rfl) (fun _ _ _ h => h) (Or.inl ⟨by rfl, ?_⟩) ?_ ?_
  rotate_left
  ·
   intro w'
   go_simp
   with_reducible rfl
  rotate_left
  ·
   simp only [Act.put, List.setIfInBounds_toArray, List.set_cons_zero, List.set_cons_succ]
   rfl
  refine pure_ (i := 7) (N := some 40) (v := ?_) (a' := ?_) #[true, true, true, true, true, true, true, true, false, false, false] rfl rfl (by kernel_rfl) (fun _ _ _ h => h) (Or.inl ⟨by rfl, ?_⟩) ?_ ?_
  rotate_left
  ·
   intro w'
   go_simp
   with_reducible rfl
  rotate_left
  ·
   simp only [Act.put, List.setIfInBounds_toArray, List.set_cons_zero, List.set_cons_succ]
   rfl
  refine pure_ (i := 8) (N := some 41) (v := ?_) (a' := ?_) #[true, true, true, true, true, true, true, true, true, false, false] rfl rfl (by kernel_rfl) (fun _ _ _ h => h) (Or.inl ⟨by rfl, ?_⟩) ?_ ?_
  rotate_left
  ·
   intro w'
   go_simp
   with_reducible rfl
  rotate_left
  ·
   simp only [Act.put, List.setIfInBounds_toArray, List.set_cons_zero, List.set_cons_succ]
   rfl
  refine pure_ (i := 9) (N := some 8) (v := ?_) (a' := ?_) #[true, true, true, true, true, true, true, true, true, true, false] rfl rfl (by kernel_rfl) (fun _ _ _ h => h) (Or.inl ⟨by rfl, ?_⟩) ?_ ?_
  rotate_left
  ·
   intro w'
   go_simp
   with_reducible rfl
  rotate_left
  ·
   simp only [Act.put, List.setIfInBounds_toArray, List.set_cons_zero, List.set_cons_succ]
   rfl
  refine pure_ (i := 10) (N := some 9) (v := ?_) (a' := ?_) #[true, true, true, true, true, true, true, true, true, true, true] rfl rfl (by kernel_rfl) (fun _ _ _ h => h) (Or.inl ⟨by rfl, ?_⟩) ?_ ?_
  rotate_left
  ·
   intro w'
   go_simp
   with_reducible rfl
  rotate_left
  ·
   simp only [Act.put, List.setIfInBounds_toArray, List.set_cons_zero, List.set_cons_succ]
   rfl
  refine done_ (by kernel_rfl) ?_
  clear hHeld
  go_wp2
  go_ret
  exact ⟨rfl, HM9.out, HO9.out, HS9.out⟩
 | none =>
  have HNO := Aside0.mk (idxG_none gs hx)
  clear hx
  go_enter Try.func103, Try.ntmps103
  go_wp2_with (first | ((with_reducible refine gate_dst (N := 7) rfl ?_); refine box_event ?hg (N := 7) ?hd (cs := #[.int .u32 0, .int .u32 0]) (t := 68) ?hr ?_; (case hd => rfl); (case hg => rfl); (case hr => first | (go_simp; done) | (go_simp; rfl)); intro g7 hg_ wa_ bk_ hb_; have GE_ := Aside0.mk (Nat.le_of_eq hg_.symm); clear hg_; have HB_ := Aside0.mk hb_; have BK_ := Aside0.mk bk_; have qa_ : wa_.cell? ⟨g7, 0, none⟩ = some (.int .u32 0) := (blk_cell bk_ 0).trans rfl; have qb_ : wa_.cell? ⟨g7, 1, none⟩ = some (.int .u32 0) := (blk_cell bk_ 1).trans rfl; have fa_ := blk_frozen bk_ 0; have fb_ := blk_frozen bk_ 1; clear hb_ bk_) | ((with_reducible refine gate_store (t := 68) (p := .tmp 7) (x := .tmp 32) rfl ?_); refine skip_event (W' := (wa_.setCell ⟨g7, 0, none⟩ (.int .u32 hi)).setCell ⟨g7, 1, none⟩ (.int .u32 lo)) ?hn ?hs ?hr ?_; (case hn => rfl); (case hs => rfl); (case hr => first | (go_simp; done) | (go_simp; rfl)); intro w8 hw_; have BK8 := Aside0.mk (show w8.heap[g7]? = some (.cells #[.int .u32 hi, .int .u32 lo] 68 (0, 0)) from by rw [hw_]; exact blk_set2 BK_.out _ _); have HB8 := Aside0.mk (show Below w.heap.size w w8 from by rw [hw_]; exact below_set2 HB_.out GE_.out _ _); have GE7 := GE_; clear hw_ qa_ qb_ fa_ fb_ BK_ HB_ GE_; have qg7_0 : w8.cell? ⟨g7, 0, none⟩ = some (.int .u32 hi) := (blk_cell BK8.out 0).trans rfl; have qg7_1 : w8.cell? ⟨g7, 1, none⟩ = some (.int .u32 lo) := (blk_cell BK8.out 1).trans rfl; skip))
  have HM8 := Aside0.mk (H.out.step HB8.out)
  have KM8 := Aside0.mk (blk_below HK0.out HB8.out)
  have HO8 := Aside0.mk (OthersG.below HB8.out)
  have HQ8 := Aside0.mk (Kd.R_below HQ0.out HB8.out)
  have HG7 := Aside0.mk (show some g7 ≠ (Value.slice Ag gs.length cg).ownBlock from fun e => by have h1 := Kd.R_lt HQ0.out g7 e.symm; have h2 := GE7.out; omega)
  refine start_ (n := 11) (S := fun w' => w'.cell? ⟨gm, 2, none⟩ = some (.map (some mb)) ∧ w'.cell? ⟨g7, 0, none⟩ = some (.int .u32 hi) ∧ w'.cell? ⟨g7, 1, none⟩ = some (.int .u32 lo) ∧ (Instr.lookup 121 (.map (some mb)) (.agg #[.int .u32 hi, .int .u32 lo]) true).run Try.prog w' = .ok (.tuple #[.int .u32 0, .bool false]) w') (ds := []) #[false, false, false, false, false, false, false, false, false, false, false] (by kernel_rfl) rfl rfl ⟨(blk_cell KM8.out 2).trans rfl, (blk_cell BK8.out 0).trans rfl, (blk_cell BK8.out 1).trans rfl, lookG_none (w := w8.drew) HM8.out.map HM8.out.ok HHI.out HLO.out HNO.out⟩ (fun hHeld => ?_)
  have HM9 := Aside0.mk (HM8.out.step (W' := w8.drew) (below_drew1 (Below.refl _ _)))
  have HO9 := Aside0.mk (HO8.out.trans (OthersG.below (W1 := w8.drew) (below_drew1 (Below.refl _ _))))
  have HS9 := Aside0.mk (show Keeps68 first gm mb w w8.drew from fun b cs h _ => blk_drew (blk_below h HB8.out))
  have HW9 := Aside0.mk (show ∀ (b : Nat) (cs : Array Value), w.heap[b]? = some (.cells cs 68 (0, 0)) → w8.drew.heap[b]? = some (.cells cs 68 (0, 0)) from fun b cs h => blk_drew (blk_below h HB8.out))
  have HG0 := HK0
  have KM9 := Aside0.mk (blk_drew KM8.out)
  have BK9 := Aside0.mk (blk_drew BK8.out)
  have HQ9 := Aside0.mk (Kd.R_drew HQ8.out)
  clear HM8 KM8 HO8 BK8 HB8 HQ8 qg7_0 qg7_1 HK0 HQ0
  generalize w8.drew = w9 at HM9 HO9 KM9 BK9 HQ9 HS9 HW9 hHeld ⊢
  refine pure_ (i := 0) (N := some 34) (v := ?_) (a' := ?_) #[true, false, false, false, false, false, false, false, false, false, false] rfl rfl (by kernel_rfl) (fun _ _ _ h => h) (Or.inl ⟨by rfl, ?_⟩) ?_ ?_
  rotate_left
  ·
   intro w'
   go_simp
   with_reducible rfl
  rotate_left
  ·
   simp only [Act.put, List.setIfInBounds_toArray, List.set_cons_zero, List.set_cons_succ]
   rfl
  refine pure_ (i := 1) (N := some 35) (v := ?_) (a' := ?_) #[true, true, false, false, false, false, false, false, false, false, false] rfl rfl (by kernel_rfl) (fun _ _ _ h => h) (Or.inl ⟨by rfl, ?_⟩) ?_ ?_
  rotate_left
  ·
   intro w'
   go_simp
   with_reducible rfl
  rotate_left
  ·
   simp only [Act.put, List.setIfInBounds_toArray, List.set_cons_zero, List.set_cons_succ]
   rfl
  refine pure_ (i := 2) (N := some 36) (v := ?_) (a' := ?_) #[true, true, true, false, false, false, false, false, false, false, false] rfl rfl (by kernel_rfl) (fun _ _ _ h => h) (Or.inl ⟨by rfl, ?_⟩) ?_ ?_
  rotate_left
  ·
   intro w'
   go_simp
   with_reducible rfl
  rotate_left
  ·
   simp only [Act.put, List.setIfInBounds_toArray, List.set_cons_zero, List.set_cons_succ]
   rfl
  refine take_ (i := 3) (N := some 37) (v := ?_) (a' := ?_) #[true, true, true, true, false, false, false, false, false, false, false] rfl rfl (by kernel_rfl) (fun _ _ _ h => h) (Or.inl ⟨by rfl, ?_⟩) hHeld ?_ ?_
  rotate_left
  ·
   rintro w' ⟨s0, s1, s2, s3⟩
   go_simp
   with_reducible rfl
  rotate_left
  ·
   simp only [Act.put, List.setIfInBounds_toArray, List.set_cons_zero, List.set_cons_succ]
   rfl
  refine take_ (i := 4) (N := some 38) (v := ?_) (a' := ?_) #[true, true, true, true, true, false, false, false, false, false, false] rfl rfl (by kernel_rfl) (fun _ _ _ h => h) (Or.inl ⟨by rfl, ?_⟩) hHeld ?_ ?_
  rotate_left
  ·
   rintro w' ⟨s0, s1, s2, s3⟩
   go_simp
   with_reducible rfl
  rotate_left
  ·
   simp only [Act.put, List.setIfInBounds_toArray, List.set_cons_zero, List.set_cons_succ]
   rfl
  refine take_ (i := 5) (N := some 39) (v := ?_) (a' := ?_) #[true, true, true, true, true, true, false, false, false, false, false] rfl rfl (by kernel_rfl) (fun _ _ _ h => h) (Or.inl ⟨by rfl, ?_⟩) hHeld ?_ ?_
  rotate_left
  ·
   rintro w' ⟨s0, s1, s2, s3⟩
   go_simp
   with_reducible rfl
  rotate_left
  ·
   simp only [Act.put, List.setIfInBounds_toArray, List.set_cons_zero, List.set_cons_succ]
   rfl
  refine pure_ (i := 6) (N := some 33) (v := ?_) (a' := ?_) #[true, true, true, true, true, true, true, false, false, false, false] rfl rfl (by kernel_rfl) (fun _ _ _ h => h) (Or.inl ⟨by rfl, ?_⟩) ?_ ?_
  rotate_left
  ·
   intro w'
   go_simp
   with_reducible rfl
  rotate_left
  ·
   simp only [Act.put, List.setIfInBounds_toArray, List.set_cons_zero, List.set_cons_succ]
   rfl
  refine pure_ (i := 7) (N := some 40) (v := ?_) (a' := ?_) #[true, true, true, true, true, true, true, true, false, false, false] rfl rfl (by kernel_rfl) (fun _ _ _ h => h) (Or.inl ⟨by rfl, ?_⟩) ?_ ?_
  rotate_left
  ·
   intro w'
   go_simp
   with_reducible rfl
  rotate_left
  ·
   simp only [Act.put, List.setIfInBounds_toArray, List.set_cons_zero, List.set_cons_succ]
   rfl
  refine pure_ (i := 8) (N := some 41) (v := ?_) (a' := ?_) #[true, true, true, true, true, true, true, true, true, false, false] rfl rfl (by kernel_rfl) (fun _ _ _ h => h) (Or.inl ⟨by rfl, ?_⟩) ?_ ?_
  rotate_left
  ·
   intro w'
   go_simp
   with_reducible rfl
  rotate_left
  ·
   simp only [Act.put, List.setIfInBounds_toArray, List.set_cons_zero, List.set_cons_succ]
   rfl
  refine pure_ (i := 9) (N := some 8) (v := ?_) (a' := ?_) #[true, true, true, true, true, true, true, true, true, true, false] rfl rfl (by kernel_rfl) (fun _ _ _ h => h) (Or.inl ⟨by rfl, ?_⟩) ?_ ?_
  rotate_left
  ·
   intro w'
   go_simp
   with_reducible rfl
  rotate_left
  ·
   simp only [Act.put, List.setIfInBounds_toArray, List.set_cons_zero, List.set_cons_succ]
   rfl
  refine pure_ (i := 10) (N := some 9) (v := ?_) (a' := ?_) #[true, true, true, true, true, true, true, true, true, true, true] rfl rfl (by kernel_rfl) (fun _ _ _ h => h) (Or.inl ⟨by rfl, ?_⟩) ?_ ?_
  rotate_left
  ·
   intro w'
   go_simp
   with_reducible rfl
  rotate_left
  ·
   simp only [Act.put, List.setIfInBounds_toArray, List.set_cons_zero, List.set_cons_succ]
   rfl
  refine done_ (by kernel_rfl) ?_
  clear hHeld
  have es1 : IntKind.u32.wrap (gs.length : Int) = (gs.length : Int) := u32_id (by omega) (by have := HGL.out; omega)
  have es2 : IntKind.u32.wrap (first + (gs.length : Int)) = first + (gs.length : Int) := u32_id (by have := HFB.out; omega) (by have := HGL.out; have := HFB.out; omega)
  have es3 : IntKind.u32.wrap (2 * (first + (gs.length : Int))) = 2 * (first + (gs.length : Int)) := u32_id (by have := HFB.out; omega) (by have := HGL.out; have := HFB.out; omega)
  go_wp2_with fail
  refine start_ (n := 13) (S := fun w' => w'.cell? ⟨gm, 0, none⟩ = some (.int .u32 first) ∧ w'.cell? ⟨gm, 1, none⟩ = some (.slice Ag gs.length cg)) (ds := []) #[false, false, false, false, false, false, false, false, false, false, false, false, false] (by kernel_rfl) rfl rfl ⟨(blk_cell KM9.out 0).trans rfl, (blk_cell KM9.out 1).trans rfl⟩ (fun hHeld => ?_)
  have HMX := Aside0.mk (HM9.out.step (W' := w9.drew) (below_drew1 (Below.refl _ _)))
  have HWX := Aside0.mk (show ∀ (b : Nat) (cs : Array Value), w.heap[b]? = some (.cells cs 68 (0, 0)) → w9.drew.heap[b]? = some (.cells cs 68 (0, 0)) from fun b cs h => blk_drew (HW9.out b cs h))
  have HOX := Aside0.mk (HO9.out.trans (OthersG.below (W1 := w9.drew) (below_drew1 (Below.refl _ _))))
  have KMX := Aside0.mk (blk_drew KM9.out)
  have BKX := Aside0.mk (blk_drew BK9.out)
  have HQX := Aside0.mk (Kd.R_drew HQ9.out)
  clear HM9 HO9 KM9 BK9 HQ9 HS9 HW9
  generalize w9.drew = wx at HMX HOX KMX BKX HQX HWX hHeld ⊢
  refine pure_ (i := 0) (N := some 44) (v := ?_) (a' := ?_) #[true, false, false, false, false, false, false, false, false, false, false, false, false] rfl rfl (by kernel_rfl) (fun _ _ _ h => h) (Or.inl ⟨by rfl, ?_⟩) ?_ ?_
  rotate_left
  ·
   intro w'
   go_simp
   with_reducible rfl
  rotate_left
  ·
   simp only [Act.put, List.setIfInBounds_toArray, List.set_cons_zero, List.set_cons_succ]
   rfl
  refine pure_ (i := 1) (N := some 45) (v := ?_) (a' := ?_) #[true, true, false, false, false, false, false, false, false, false, false, false, false] rfl rfl (by kernel_rfl) (fun _ _ _ h => h) (Or.inl ⟨by rfl, ?_⟩) ?_ ?_
  rotate_left
  ·
   intro w'
   go_simp
   with_reducible rfl
  rotate_left
  ·
   simp only [Act.put, List.setIfInBounds_toArray, List.set_cons_zero, List.set_cons_succ]
   rfl
  refine pure_ (i := 2) (N := some 46) (v := ?_) (a' := ?_) #[true, true, true, false, false, false, false, false, false, false, false, false, false] rfl rfl (by kernel_rfl) (fun _ _ _ h => h) (Or.inl ⟨by rfl, ?_⟩) ?_ ?_
  rotate_left
  ·
   intro w'
   go_simp
   with_reducible rfl
  rotate_left
  ·
   simp only [Act.put, List.setIfInBounds_toArray, List.set_cons_zero, List.set_cons_succ]
   rfl
  refine take_ (i := 3) (N := some 47) (v := ?_) (a' := ?_) #[true, true, true, true, false, false, false, false, false, false, false, false, false] rfl rfl (by kernel_rfl) (fun _ _ _ h => h) (Or.inl ⟨by rfl, ?_⟩) hHeld ?_ ?_
  rotate_left
  ·
   rintro w' ⟨s0, s1⟩
   go_simp
   with_reducible rfl
  rotate_left
  ·
   simp only [Act.put, List.setIfInBounds_toArray, List.set_cons_zero, List.set_cons_succ]
   rfl
  refine pure_ (i := 4) (N := some 48) (v := ?_) (a' := ?_) #[true, true, true, true, true, false, false, false, false, false, false, false, false] rfl rfl (by kernel_rfl) (fun _ _ _ h => h) (Or.inl ⟨by rfl, ?_⟩) ?_ ?_
  rotate_left
  ·
   intro w'
   go_simp
   with_reducible rfl
  rotate_left
  ·
   simp only [Act.put, List.setIfInBounds_toArray, List.set_cons_zero, List.set_cons_succ]
   rfl
  refine pure_ (i := 5) (N := some 49) (v := ?_) (a' := ?_) #[true, true, true, true, true, true, false, false, false, false, false, false, false] rfl rfl (by kernel_rfl) (fun _ _ _ h => h) (Or.inl ⟨by rfl, ?_⟩) ?_ ?_
  rotate_left
  ·
   intro w'
   go_simp
   with_reducible rfl
  rotate_left
  ·
   simp only [Act.put, List.setIfInBounds_toArray, List.set_cons_zero, List.set_cons_succ]
   rfl
  refine pure_ (i := 6) (N := some 50) (v := ?_) (a' := ?_) #[true, true, true, true, true, true, true, false, false, false, false, false, false] rfl rfl (by kernel_rfl) (fun _ _ _ h => h) (Or.inl ⟨by rfl, ?_⟩) ?_ ?_
  rotate_left
  ·
   intro w'
   go_simp
   with_reducible rfl
  rotate_left
  ·
   simp only [Act.put, List.setIfInBounds_toArray, List.set_cons_zero, List.set_cons_succ]
   rfl
  refine take_ (i := 7) (N := some 51) (v := ?_) (a' := ?_) #[true, true, true, true, true, true, true, true, false, false, false, false, false] rfl rfl (by kernel_rfl) (fun _ _ _ h => h) (Or.inl ⟨by rfl, ?_⟩) hHeld ?_ ?_
  rotate_left
  ·
   rintro w' ⟨s0, s1⟩
   go_simp
   with_reducible rfl
  rotate_left
  ·
   simp only [Act.put, List.setIfInBounds_toArray, List.set_cons_zero, List.set_cons_succ]
   rfl
  refine pure_ (i := 8) (N := some 52) (v := ?_) (a' := ?_) #[true, true, true, true, true, true, true, true, true, false, false, false, false] rfl rfl (by kernel_rfl) (fun _ _ _ h => h) (Or.inl ⟨by rfl, ?_⟩) ?_ ?_
  rotate_left
  ·
   intro w'
   go_simp
   with_reducible rfl
  rotate_left
  ·
   simp only [Act.put, List.setIfInBounds_toArray, List.set_cons_zero, List.set_cons_succ]
   rfl
  refine pure_ (i := 9) (N := some 53) (v := ?_) (a' := ?_) #[true, true, true, true, true, true, true, true, true, true, false, false, false] rfl rfl (by kernel_rfl) (fun _ _ _ h => h) (Or.inl ⟨by rfl, ?_⟩) ?_ ?_
  rotate_left
  ·
   intro w'
   go_simp
   with_reducible rfl
  rotate_left
  ·
   simp only [Act.put, List.setIfInBounds_toArray, List.set_cons_zero, List.set_cons_succ]
   rfl
  refine pure_ (i := 10) (N := some 54) (v := ?_) (a' := ?_) #[true, true, true, true, true, true, true, true, true, true, true, false, false] rfl rfl (by kernel_rfl) (fun _ _ _ h => h) (Or.inl ⟨by rfl, ?_⟩) ?_ ?_
  rotate_left
  ·
   intro w'
   go_simp
   with_reducible rfl
  rotate_left
  ·
   simp only [Act.put, List.setIfInBounds_toArray, List.set_cons_zero, List.set_cons_succ]
   rfl
  refine pure_ (i := 11) (N := some 55) (v := ?_) (a' := ?_) #[true, true, true, true, true, true, true, true, true, true, true, true, false] rfl rfl (by kernel_rfl) (fun _ _ _ h => h) (Or.inl ⟨by rfl, ?_⟩) ?_ ?_
  rotate_left
  ·
   intro w'
   go_simp
   with_reducible rfl
  rotate_left
  ·
   simp only [Act.put, List.setIfInBounds_toArray, List.set_cons_zero, List.set_cons_succ]
   rfl
  refine pure_ (i := 12) (N := some 8) (v := ?_) (a' := ?_) #[true, true, true, true, true, true, true, true, true, true, true, true, true] rfl rfl (by kernel_rfl) (fun _ _ _ h => h) (Or.inl ⟨by rfl, ?_⟩) ?_ ?_
  rotate_left
  ·
   intro w'
   go_simp
   with_reducible rfl
  rotate_left
  ·
   simp only [Act.put, List.setIfInBounds_toArray, List.set_cons_zero, List.set_cons_succ]
   rfl
  refine done_ (by kernel_rfl) ?_
  clear hHeld es1 es2 es3
  go_wp2_with fail
  refine start_ (n := 20) (S := fun w' => w'.cell? ⟨gm, 1, none⟩ = some (.slice Ag gs.length cg) ∧ w'.cell? ⟨gm, 2, none⟩ = some (.map (some mb)) ∧ w'.cell? ⟨g7, 0, none⟩ = some (.int .u32 hi) ∧ w'.cell? ⟨g7, 1, none⟩ = some (.int .u32 lo)) (ds := [19]) #[false, false, false, false, false, false, false, false, false, false, false, false, false, false, false, false, false, false, false, false] (by kernel_rfl) rfl rfl ⟨(blk_cell KMX.out 1).trans rfl, (blk_cell KMX.out 2).trans rfl, (blk_cell BKX.out 0).trans rfl, (blk_cell BKX.out 1).trans rfl⟩ (fun hHeld => ?_)
  have HMA := Aside0.mk (HMX.out.step (W' := wx.drew) (below_drew1 (Below.refl _ _)))
  have HWA := Aside0.mk (show ∀ (b : Nat) (cs : Array Value), w.heap[b]? = some (.cells cs 68 (0, 0)) → wx.drew.heap[b]? = some (.cells cs 68 (0, 0)) from fun b cs h => blk_drew (HWX.out b cs h))
  have HOA := Aside0.mk (HOX.out.trans (OthersG.below (W1 := wx.drew) (below_drew1 (Below.refl _ _))))
  have KM := Aside0.mk (blk_drew KMX.out)
  have BKA := Aside0.mk (blk_drew BKX.out)
  have HQ := Aside0.mk (Kd.R_drew HQX.out)
  clear HMX HOX KMX BKX HQX HWX
  generalize wx.drew = wa at HMA HOA KM BKA HQ HWA hHeld ⊢
  refine pure_ (i := 0) (N := some 56) (v := ?_) (a' := ?_) #[true, false, false, false, false, false, false, false, false, false, false, false, false, false, false, false, false, false, false, false] rfl rfl (by kernel_rfl) (fun _ _ _ h => h) (Or.inl ⟨by rfl, ?_⟩) ?_ ?_
  rotate_left
  ·
   intro w'
   go_simp
   with_reducible rfl
  rotate_left
  ·
   simp only [Act.put, List.setIfInBounds_toArray, List.set_cons_zero, List.set_cons_succ]
   rfl
  refine pure_ (i := 1) (N := some 57) (v := ?_) (a' := ?_) #[true, true, false, false, false, false, false, false, false, false, false, false, false, false, false, false, false, false, false, false] rfl rfl (by kernel_rfl) (fun _ _ _ h => h) (Or.inl ⟨by rfl, ?_⟩) ?_ ?_
  rotate_left
  ·
   intro w'
   go_simp
   with_reducible rfl
  rotate_left
  ·
   simp only [Act.put, List.setIfInBounds_toArray, List.set_cons_zero, List.set_cons_succ]
   rfl
  refine pure_ (i := 2) (N := some 58) (v := ?_) (a' := ?_) #[true, true, true, false, false, false, false, false, false, false, false, false, false, false, false, false, false, false, false, false] rfl rfl (by kernel_rfl) (fun _ _ _ h => h) (Or.inl ⟨by rfl, ?_⟩) ?_ ?_
  rotate_left
  ·
   intro w'
   go_simp
   with_reducible rfl
  rotate_left
  ·
   simp only [Act.put, List.setIfInBounds_toArray, List.set_cons_zero, List.set_cons_succ]
   rfl
  refine take_ (i := 3) (N := some 59) (v := ?_) (a' := ?_) #[true, true, true, true, false, false, false, false, false, false, false, false, false, false, false, false, false, false, false, false] rfl rfl (by kernel_rfl) (fun _ _ _ h => h) (Or.inl ⟨by rfl, ?_⟩) hHeld ?_ ?_
  rotate_left
  ·
   rintro w' ⟨s0, s1, s2, s3⟩
   go_simp
   with_reducible rfl
  rotate_left
  ·
   simp only [Act.put, List.setIfInBounds_toArray, List.set_cons_zero, List.set_cons_succ]
   rfl
  refine take_ (i := 4) (N := some 60) (v := ?_) (a' := ?_) #[true, true, true, true, true, false, false, false, false, false, false, false, false, false, false, false, false, false, false, false] rfl rfl (by kernel_rfl) (fun _ _ _ h => h) (Or.inl ⟨by rfl, ?_⟩) hHeld ?_ ?_
  rotate_left
  ·
   rintro w' ⟨s0, s1, s2, s3⟩
   go_simp
   with_reducible rfl
  rotate_left
  ·
   simp only [Act.put, List.setIfInBounds_toArray, List.set_cons_zero, List.set_cons_succ]
   rfl
  refine pure_ (i := 5) (N := some 61) (v := ?_) (a' := ?_) #[true, true, true, true, true, true, false, false, false, false, false, false, false, false, false, false, false, false, false, false] rfl rfl (by kernel_rfl) (fun _ _ _ h => h) (Or.inl ⟨by rfl, ?_⟩) ?_ ?_
  rotate_left
  ·
   intro w'
   go_simp
   with_reducible rfl
  rotate_left
  ·
   simp only [Act.put, List.setIfInBounds_toArray, List.set_cons_zero, List.set_cons_succ]
   rfl
  refine pure_ (i := 6) (N := some 62) (v := ?_) (a' := ?_) #[true, true, true, true, true, true, true, false, false, false, false, false, false, false, false, false, false, false, false, false] rfl rfl (by kernel_rfl) (fun _ _ _ h => h) (Or.inl ⟨by rfl, ?_⟩) ?_ ?_
  rotate_left
  ·
   intro w'
   go_simp
   with_reducible rfl
  rotate_left
  ·
   simp only [Act.put, List.setIfInBounds_toArray, List.set_cons_zero, List.set_cons_succ]
   rfl
  refine pure_ (i := 7) (N := some 63) (v := ?_) (a' := ?_) #[true, true, true, true, true, true, true, true, false, false, false, false, false, false, false, false, false, false, false, false] rfl rfl (by kernel_rfl) (fun _ _ _ h => h) (Or.inl ⟨by rfl, ?_⟩) ?_ ?_
  rotate_left
  ·
   intro w'
   go_simp
   with_reducible rfl
  rotate_left
  ·
   simp only [Act.put, List.setIfInBounds_toArray, List.set_cons_zero, List.set_cons_succ]
   rfl
  refine pure_ (i := 8) (N := some 64) (v := ?_) (a' := ?_) #[true, true, true, true, true, true, true, true, true, false, false, false, false, false, false, false, false, false, false, false] rfl rfl (by kernel_rfl) (fun _ _ _ h => h) (Or.inl ⟨by rfl, ?_⟩) ?_ ?_
  rotate_left
  ·
   intro w'
   go_simp
   with_reducible rfl
  rotate_left
  ·
   simp only [Act.put, List.setIfInBounds_toArray, List.set_cons_zero, List.set_cons_succ]
   rfl
  refine pure_ (i := 9) (N := some 65) (v := ?_) (a' := ?_) #[true, true, true, true, true, true, true, true, true, true, false, false, false, false, false, false, false, false, false, false] rfl rfl (by kernel_rfl) (fun _ _ _ h => h) (Or.inl ⟨by rfl, ?_⟩) ?_ ?_
  rotate_left
  ·
   intro w'
   go_simp
   with_reducible rfl
  rotate_left
  ·
   simp only [Act.put, List.setIfInBounds_toArray, List.set_cons_zero, List.set_cons_succ]
   rfl
  refine take_ (i := 10) (N := some 66) (v := ?_) (a' := ?_) #[true, true, true, true, true, true, true, true, true, true, true, false, false, false, false, false, false, false, false, false] rfl rfl (by kernel_rfl) (fun _ _ _ h => h) (Or.inl ⟨by rfl, ?_⟩) hHeld ?_ ?_
  rotate_left
  ·
   rintro w' ⟨s0, s1, s2, s3⟩
   go_simp
   with_reducible rfl
  rotate_left
  ·
   simp only [Act.put, List.setIfInBounds_toArray, List.set_cons_zero, List.set_cons_succ]
   rfl
  refine take_ (i := 11) (N := some 67) (v := ?_) (a' := ?_) #[true, true, true, true, true, true, true, true, true, true, true, true, false, false, false, false, false, false, false, false] rfl rfl (by kernel_rfl) (fun _ _ _ h => h) (Or.inl ⟨by rfl, ?_⟩) hHeld ?_ ?_
  rotate_left
  ·
   rintro w' ⟨s0, s1, s2, s3⟩
   go_simp
   with_reducible rfl
  rotate_left
  ·
   simp only [Act.put, List.setIfInBounds_toArray, List.set_cons_zero, List.set_cons_succ]
   rfl
  refine one_ (i := 12) (N := some 68) #[true, true, true, true, true, true, true, true, true, true, true, true, true, false, false, false, false, false, false, false] rfl rfl (by kernel_rfl) (by decide) (fun K hK => ?_)
  refine value_ (w1 := ?_) (v := ?_) (by rfl) rfl ?_ ?_
  rotate_left 2
  ·
   go_simp
   constructor
   · rfl
   · rfl
  refine hK.out _ _ ⟨(blk_cell (blk_alloc KM.out _) 1).trans rfl, (blk_cell (blk_alloc KM.out _) 2).trans rfl, (blk_cell (blk_alloc BKA.out _) 0).trans rfl, (blk_cell (blk_alloc BKA.out _) 1).trans rfl⟩ (fun hHeld => ?_)
  clear hK K
  refine norm_ (a' := ?_) ?_ ?_
  rotate_left
  ·
   show Act.put _ (some 68) _ = _
   simp only [Act.put, List.setIfInBounds_toArray, List.set_cons_zero, List.set_cons_succ]
   rfl
  refine one_ (i := 13) (N := some 69) #[true, true, true, true, true, true, true, true, true, true, true, true, true, true, false, false, false, false, false, false] rfl rfl (by kernel_rfl) (by decide) (fun K hK => ?_)
  refine Kd.R_append_step k68 (w0 := w0) w0.heap.size (by rfl) (.tmp 66) (.tmp 68) 23 68 (.agg #[(.int .u32 0), (.int .u32 0)]) 8 rfl Try.underlying23 info68 rfl (by decide) (by omega) (.slice Ag gs.length cg) gs (⟨hi, lo⟩ : S68) [.int .u32 hi, .int .u32 lo] (fun _ => True) (fun _ => False) rfl rfl (k68_mkM _ _ _ (⟨hi, lo⟩ : S68)) (fun _ hk => hk.elim) (fun _ _ => trivial) HQ.out HMA.out.below HMA.out.below.size (by have := HGL.out; omega) ?_
  intro v1 w1 hR hB hg _
  obtain ⟨Av, cv, hv_⟩ := Kd.R_slice hR
  subst hv_
  have HAD := Aside0.mk (fun es1 k1 => HMA.out.added KM.out HQ.out HNO.out HHI.out HLO.out hR hB hg es1 ((entG first gs).toArray.push ⟨keyG hi lo, .int .u32 (2 * (first + (gs.length : Int))), gs.length⟩) k1 (gs.length + 1) ⟨by simp [entG_snoc], by simp⟩)
  have KM1 := Aside0.mk (HAD.out #[] 0).2.2.1
  have MP1 := Aside0.mk (HAD.out #[] 0).2.2.2.1
  have BKB := Aside0.mk (blk_grown BKA.out hg HG7.out)
  clear hR hB hg
  refine hK.out _ _ ⟨(blk_cell KM1.out 1).trans rfl, (blk_cell KM1.out 2).trans rfl, (blk_cell BKB.out 0).trans rfl, (blk_cell BKB.out 1).trans rfl⟩ (fun hHeld => ?_)
  clear hK K
  refine norm_ (a' := ?_) ?_ ?_
  rotate_left
  ·
   show Act.put _ (some 69) _ = _
   simp only [Act.put, List.setIfInBounds_toArray, List.set_cons_zero, List.set_cons_succ]
   rfl
  obtain ⟨w2, hw2⟩ : ∃ w2, setBlock w1 mb (.map ((entG first gs).toArray.push ⟨keyG hi lo, .int .u32 0, gs.length⟩) (gs.length + 1)) = w2 := ⟨_, rfl⟩
  have hme := mapG_entry MP1.out HMA.out.ok HHI.out HLO.out HNO.out
  rw [hw2] at hme
  unfold keyG at hme
  have HME := Aside0.mk hme
  clear hme
  have KM2 := Aside0.mk (show w2.heap[gm]? = some (.cells #[.int .u32 first, .slice Ag gs.length cg, .map (some mb)] 123 (0, 0)) from by rw [← hw2]; exact (heap_setBlock_other MP1.out _ (fun e => by have := KM1.out; rw [e, MP1.out] at this; cases this)).trans KM1.out)
  have BKC := Aside0.mk (show w2.heap[g7]? = some (.cells #[.int .u32 hi, .int .u32 lo] 68 (0, 0)) from by rw [← hw2]; exact (heap_setBlock_other MP1.out _ (fun e => by have := BKB.out; rw [e, MP1.out] at this; cases this)).trans BKB.out)
  have MP2 := Aside0.mk (show w2.heap[mb]? = some (.map ((entG first gs).toArray.push ⟨keyG hi lo, .int .u32 0, gs.length⟩) (gs.length + 1)) from by rw [← hw2]; exact heap_setBlock_same MP1.out _)
  have HW2 := Aside0.mk hw2
  clear hw2
  refine one_ (i := 14) (N := some 70) #[true, true, true, true, true, true, true, true, true, true, true, true, true, true, true, false, false, false, false, false] rfl rfl (by kernel_rfl) (by decide) (fun K hK => ?_)
  refine value_ (w1 := ?_) (v := ?_) (by rfl) rfl ?_ ?_
  rotate_left 2
  ·
   have hme := HME.out
   go_simp
   constructor
   · rfl
   · rfl
  refine hK.out _ _ ⟨(blk_cell KM2.out 1).trans rfl, (blk_cell KM2.out 2).trans rfl, (blk_cell BKC.out 0).trans rfl, (blk_cell BKC.out 1).trans rfl⟩ (fun hHeld => ?_)
  clear hK K
  refine norm_ (a' := ?_) ?_ ?_
  rotate_left
  ·
   show Act.put _ (some 70) _ = _
   simp only [Act.put, List.setIfInBounds_toArray, List.set_cons_zero, List.set_cons_succ]
   rfl
  refine pure_ (i := 15) (N := some 71) (v := ?_) (a' := ?_) #[true, true, true, true, true, true, true, true, true, true, true, true, true, true, true, true, false, false, false, false] rfl rfl (by kernel_rfl) (fun _ _ _ h => h) (Or.inl ⟨by rfl, ?_⟩) ?_ ?_
  rotate_left
  ·
   intro w'
   go_simp
   with_reducible rfl
  rotate_left
  ·
   simp only [Act.put, List.setIfInBounds_toArray, List.set_cons_zero, List.set_cons_succ]
   rfl
  obtain ⟨w3, hw3⟩ : ∃ w3, setBlock w2 mb (.map ((entG first gs).toArray.push ⟨keyG hi lo, .int .u32 (2 * (first + (gs.length : Int))), gs.length⟩) (gs.length + 1)) = w3 := ⟨_, rfl⟩
  have hms := mapG_store (.int .u32 (2 * (first + (gs.length : Int)))) MP2.out
  rw [hw3] at hms
  have HMS := Aside0.mk hms
  clear hms
  have KM3 := Aside0.mk (show w3.heap[gm]? = some (.cells #[.int .u32 first, .slice Ag gs.length cg, .map (some mb)] 123 (0, 0)) from by rw [← hw3]; exact (heap_setBlock_other MP2.out _ (fun e => by have := KM2.out; rw [e, MP2.out] at this; cases this)).trans KM2.out)
  have BKD := Aside0.mk (show w3.heap[g7]? = some (.cells #[.int .u32 hi, .int .u32 lo] 68 (0, 0)) from by rw [← hw3]; exact (heap_setBlock_other MP2.out _ (fun e => by have := BKC.out; rw [e, MP2.out] at this; cases this)).trans BKC.out)
  have HFIN := HAD.out ((entG first gs).toArray.push ⟨keyG hi lo, .int .u32 0, gs.length⟩) (gs.length + 1)
  rw [HW2.out, hw3, show (gs ++ [(⟨hi, lo⟩ : S68)]).length = gs.length + 1 from by simp] at HFIN
  replace HFIN := Aside0.mk HFIN
  clear hw3 HAD
  refine one_ (i := 16) (N := none) #[true, true, true, true, true, true, true, true, true, true, true, true, true, true, true, true, true, false, false, false] rfl rfl (by kernel_rfl) (by decide) (fun K hK => ?_)
  refine skip_step (w1 := ?_) (by rfl) rfl ?_ ?_
  rotate_left
  ·
   have hme := HMS.out
   go_simp
   rfl
  refine hK.out _ _ ⟨(blk_cell KM3.out 1).trans rfl, (blk_cell KM3.out 2).trans rfl, (blk_cell BKD.out 0).trans rfl, (blk_cell BKD.out 1).trans rfl⟩ (fun hHeld => ?_)
  clear hK K
  refine pure_ (i := 17) (N := some 72) (v := ?_) (a' := ?_) #[true, true, true, true, true, true, true, true, true, true, true, true, true, true, true, true, true, true, false, false] rfl rfl (by kernel_rfl) (fun _ _ _ h => h) (Or.inl ⟨by rfl, ?_⟩) ?_ ?_
  rotate_left
  ·
   intro w'
   go_simp
   with_reducible rfl
  rotate_left
  ·
   simp only [Act.put, List.setIfInBounds_toArray, List.set_cons_zero, List.set_cons_succ]
   rfl
  refine pure_ (i := 18) (N := some 73) (v := ?_) (a' := ?_) #[true, true, true, true, true, true, true, true, true, true, true, true, true, true, true, true, true, true, true, false] rfl rfl (by kernel_rfl) (fun _ _ _ h => h) (Or.inl ⟨by rfl, ?_⟩) ?_ ?_
  rotate_left
  ·
   intro w'
   go_simp
   with_reducible rfl
  rotate_left
  ·
   simp only [Act.put, List.setIfInBounds_toArray, List.set_cons_zero, List.set_cons_succ]
   rfl
  have i1 : w3.cell? ⟨gm, 1, none⟩ = some (.slice Ag gs.length cg) := (blk_cell KM3.out 1).trans rfl
  have fr := blk_frozen KM3.out 1
  clear hHeld
  refine last_ (i := 19) (N := none) #[true, true, true, true, true, true, true, true, true, true, true, true, true, true, true, true, true, true, true, true] rfl rfl (by kernel_rfl) (by decide) (fun K hK => ?_)
  refine skip_step (w1 := ?_) (by rfl) rfl ?_ ?_
  rotate_left
  ·
   go_simp
   rfl
  refine hK.out _ _ ?_
  clear hK K
  refine done_ (by kernel_rfl) ?_
  clear i1 fr
  go_wp2
  go_ret
  exact ⟨rfl, HFIN.out.1, HOA.out.trans HFIN.out.2.1, fun b cs h hv => HFIN.out.2.2.2.2.2 b cs (HWA.out b cs h) (hv _ HG0.out)⟩
end Go.Proofs.Yteiiodlgdbiimaa.F
end
