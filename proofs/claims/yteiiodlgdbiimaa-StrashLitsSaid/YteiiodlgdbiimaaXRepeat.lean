/- slices.Repeat of one byte comes to that byte, so often. -/
import Derived.Test.YteiiodlgdbiimaaXBase
import Derived.Test.YteiiodlgdbiimaaFn146
import Derived.Shelf.Abstract
import Derived.StillTailTactics
import Derived.IntWalk
import Derived.Laws.CopyOwn
import Derived.Laws.BitsAllLaws
import Derived.Deep.RegionLaw
namespace Go.Proofs.Yteiiodlgdbiimaa.F
open Go.RowKit Go.Shelf Go.Proofs.YteiiodlgdbiimaaW.PrintWords Go.Proofs.YteiiodlgdbiimaaW.PrintLast Go.Proofs.YteiiodlgdbiimaaW.PrintMore
set_option linter.unusedVariables false
set_option linter.unusedSimpArgs false

theorem u64_id {x : Int} (h0 : 0 ≤ x) (h1 : x < 18446744073709551616) : IntKind.u64.wrap x = x := by
  simp [IntKind.wrap, IntKind.bits, IntKind.signed]
  omega
theorem mul_one_u64 (n : Nat) (h : n ≤ 1000000) : bits_Mul.f 1 (n : Int) = some (0, (n : Int)) := by
  have e1 : Go.bits .and .u64 (n : Int) 4294967295 = (n : Int) := by
    have := u64_and_nat n 4294967295 (by omega) (by omega)
    rw [show ((4294967295 : Nat) : Int) = 4294967295 from rfl] at this
    rw [this, show (4294967295 : Nat) = 2 ^ 32 - 1 from rfl, Nat.and_two_pow_sub_one_eq_mod, Nat.mod_eq_of_lt (by omega)]
  have e2 : Go.bits .and .u64 1 4294967295 = 1 := by decide
  have e3 : Go.bits .and .u64 0 4294967295 = 0 := by decide
  have e4 : ((1 : Int) / 4294967296) = 0 := by decide
  have e5 : ((n : Int) / 4294967296) = 0 := by omega
  simp only [bits_Mul.f, bits_Mul64.f, Option.bind_some]
  rw [e1, e2, e4, e5]
  simp only [Int.one_mul, Int.zero_mul, Int.mul_zero]
  have e6 : IntKind.u64.wrap 0 = 0 := by decide
  simp only [u64_id (x := (n : Int)) (by omega) (by omega), e5, e6, Int.add_zero, e3, e4]
  rfl

def slices_Repeat_uint8_uint8.f (l0 : List Int) (a1 : Int) : Option (List Int) :=
  match l0 with
  | [x] => if 0 ≤ a1 ∧ a1 ≤ 1000000 then some (List.replicate a1.toNat x) else none
  | _ => none
def someX (x : Value) (j n : Nat) : List Value := List.replicate j x ++ List.replicate (n - j) (.int .u8 0)
theorem splice_someX (x : Value) (j m n : Nat) (h : j + m ≤ n) : splice (someX x j n) j (List.replicate m x) = someX x (j + m) n := by
  unfold splice someX
  have e1 : n - j = m + (n - (j + m)) := by omega
  generalize n - (j + m) = d at e1 ⊢
  rw [e1, List.length_replicate, List.take_append_of_le_length (by simp), List.take_of_length_le (by simp), List.drop_append]
  simp [List.drop_replicate, ← List.append_assoc, List.replicate_append_replicate]
theorem info5x : (Try.prog.info? 5).map (·.size) = some 1 := by kernel_rfl
theorem made_someX (x : Value) (n : Nat) : madeCells #[.int .u8 0] n = (someX x 0 n).toArray := by
  apply Array.ext'
  apply List.ext_getElem
  · simp [someX, size_madeCells]
  · intro i h1 h2
    simp [someX, madeCells, Nat.mod_one]
theorem copy1 {W : World} {ad : Addr} {x : Value} {n j : Nat} {v : Value} (h : W.cell? ad = some x) (hj : (List.replicate (Nat.min 1 n) x)[j]? = some v) : W.cell? (ad.add j) = some v := by
  rw [List.getElem?_replicate] at hj
  split at hj
  · rename_i hlt
    have : Nat.min 1 n ≤ 1 := Nat.min_le_left 1 n
    obtain rfl : j = 0 := by omega
    rw [← Option.some.inj hj]
    simpa [Addr.add] using h
  · cases hj
theorem one_rep (k : Nat) (x : Int) : ∀ v ∈ List.replicate k (Value.int .u8 x), v.oneCell' = true := fun v hv => by
  rw [List.eq_of_mem_replicate hv]
  rfl
set_option maxHeartbeats 4000000 in
set_option maxRecDepth 100000 in
theorem slices_Repeat_uint8_uint8.calls (A0 : Option Addr) (c0 : Nat) (l0 : List Int) (a1 : Int) (r : List Int) (w : World) (hr0 : Kd.C (Kd.int .u8) w A0 l0.length l0) (hc0 : l0.length ≤ c0)
    (h : slices_Repeat_uint8_uint8.f l0 a1 = some r) :
    Calls Try.prog 100 #[.slice A0 l0.length c0, .int .i64 a1] w fun e w' => ∃ v0_ : Value, e = .returned (v0_) ∧ Kd.R (Kd.int .u8) 5 w' w.heap.size (fun _ => True) v0_ r ∧ Below w.heap.size w w' := by
  unfold slices_Repeat_uint8_uint8.f at h
  split at h
  case h_2 => cases h
  case h_1 x =>
  split at h
  case isFalse => cases h
  case isTrue hn =>
  obtain ⟨n, rfl⟩ := Int.eq_ofNat_of_zero_le hn.1
  have hn6 : n ≤ 1000000 := by omega
  obtain rfl := Option.some.inj h
  clear h hn
  obtain ⟨ad, e, hx0⟩ := Kd.at_int hr0 0 (by omega) (by simp)
  cases e
  have hx : w.cell? ad = some (.int .u8 x) := by simpa [rd, Addr.add] using hx0
  clear hx0
  have HR := Aside0.mk hr0
  clear hr0
  have HM := Aside0.mk (fun W => bits_Mul.calls 1 (n : Int) 0 (n : Int) W (mul_one_u64 n hn6))
  have hmk : ∀ W : World, (Instr.makeSlice 28 (.int .i64 (n : Int)) (.int .i64 (n : Int))).run Try.prog W = .ok (.slice (some ⟨W.heap.size, 0, none⟩) n n) (W.alloc (.cells (madeCells #[.int .u8 0] n) 5)) := fun W =>
    run_make_row' (P := Try.prog) 28 5 (.int .u8 0) 1 Try.underlying28 info5 rfl .i64 .i64 n (by omega) (by omega) W
  rw [Int.toNat_natCast]
  go_enter Try.func100, Try.ntmps100
  go_wp2_with (first | (go_at_call 146; refine (HM.out _).mono ?_; rintro e w1 ⟨rfl, ⟨nd, rfl⟩⟩) | ((with_reducible refine gate_dst (N := 30) rfl ?_); refine slice_event rfl (N := 30) rfl (n := n) (c := n) (cs := madeCells #[.int .u8 0] n) (t := 5) ?hr ?_; (case hr => first | (go_simp; done) | (go_simp; rfl)); intro g hg_ w2 BK hb2; have GE := Aside0.mk (show w.heap.size ≤ g from by rw [hg_]; exact (below_drewN' w nd).size); clear hg_; have HB := Aside0.mk (below_step (below_drewN' w nd) hb2); have hx2 := pw_cell_below hb2 (show (w.drewN nd).cell? ad = _ from hx); clear hb2; clear hx; have HBK := Aside0.mk (show w2.heap[g]? = some (.cells (someX (.int .u8 x) 0 n).toArray 5 (0, 0)) from by rw [← made_someX (.int .u8 x) n]; exact BK); clear BK) | ((with_reducible refine gate_builtin (b := .copy) (xs := #[.tmp 31, .tmp 32]) rfl ?_); refine wpList_copy_splice (B := w.heap.size) (w0 := w) rfl (.tmp 31) (.tmp 32) 28 28 ?h0 5 Try.underlying28 info5x (some ⟨g, 0, none⟩) (some ad) n n 1 c0 ?h1 ?h2 g 0 (someX (.int .u8 x) 0 n) 5 HBK.out (List.replicate (Nat.min 1 n) (.int .u8 x)) ?h4 ?h5 ?h6 (one_rep _ _) HB.out GE.out ?_; (case h0 => rfl); (case h1 => rfl); (case h2 => rfl); (case h4 => simp); (case h5 => exact fun _ => ⟨rfl, ad, rfl, fun j v hj => copy1 hx2 hj⟩); (case h6 => have : Nat.min 1 n ≤ n := Nat.min_le_right 1 n; simp [someX]; omega); intro w3 HBK3 HB3; have HBK3 := Aside0.mk HBK3.out; have HB3 := Aside0.mk HB3; rw [splice_someX _ _ _ _ (by have : Nat.min 1 n ≤ n := Nat.min_le_right 1 n; omega)] at HBK3; clear HBK HB))
  go_loopg [8] n (fun gg v8 wr => ∃ j : Nat, n - j ≤ gg ∧ v8 = .int .i64 j ∧ Aside0 (j ≤ n ∧ (1 ≤ j ∨ n = 0)) ∧ Aside0 (wr.heap[g]? = some (.cells (someX (.int .u8 x) j n).toArray 5 (0, 0))) ∧ Aside0 (Below w.heap.size w wr))
  case atStart => exact ⟨Nat.min 1 n, by omega, rfl, ⟨Nat.min_le_right 1 n, by show 1 ≤ Nat.min 1 n ∨ n = 0; rcases Nat.eq_zero_or_pos n with h | h; exact .inr h; exact .inl (Nat.le_min.2 ⟨Nat.le_refl _, h⟩)⟩, ⟨by rw [Nat.zero_add] at HBK3; exact HBK3.out⟩, HB3⟩
  case round =>
    clear HBK3 HB3
    obtain ⟨j, hg, rfl, HJ, HK, HB⟩ := hrel
    have hj1 := HJ.out.1
    by_cases hlt : j < n
    · have hltz : (j : Int) < (n : Int) := by omega
      go_wp2
      obtain ⟨m, hm1, hm2, hm⟩ : ∃ m : Nat, m = Nat.min j (n - j) ∧ j + m ≤ n ∧ (1 ≤ m) := by
        refine ⟨Nat.min j (n - j), rfl, ?_, ?_⟩
        · have : Nat.min j (n - j) ≤ n - j := Nat.min_le_right _ _
          omega
        · exact Nat.le_min.2 ⟨by have := HJ.out.2; omega, by omega⟩
      have HMM := Aside0.mk hm1
      clear hm1
      have hnj : ¬ n = j := by omega
      have HSRC := Aside0.mk (show ∀ (q : Nat) v, (List.replicate m (Value.int .u8 x))[q]? = some v → wr.cell? ((⟨g, 0, none⟩ : Addr).add q) = some v from fun q v hq => by
        rw [List.getElem?_replicate] at hq
        split at hq
        · rename_i hqm
          have hmj : m ≤ j := by rw [HMM.out]; exact Nat.min_le_left _ _
          rw [← Option.some.inj hq, add_plain]
          refine (blk_cell HK.out q).trans ?_
          simp only [someX, List.getElem?_toArray]
          rw [List.getElem?_append_left (by simp; omega), List.getElem?_replicate, if_pos (by omega)]
        · cases hq)
      have HLEN := Aside0.mk (show (List.replicate m (Value.int .u8 x)).length = Nat.min j (n - j) from by rw [List.length_replicate]; exact HMM.out)
      go_region_law ((with_reducible refine step_copy_splice (B := w.heap.size) (w0 := w) ?hgd (.tmp 41) (.tmp 44) 28 28 ?h0 5 Try.underlying28 info5x (some ⟨g, j, none⟩) (some ⟨g, 0, none⟩) (n - j) (n - j) j n ?h1 ?h2 g j (someX (.int .u8 x) j n) 5 ?hK (List.replicate m (.int .u8 x)) HLEN.out ?h5 ?h6 (one_rep _ _) ?hB GE.out ?_); (case hgd => rfl); (case h0 => rfl); (case h1 => simp [Act.eval, Act.put]); (case h2 => simp [Act.eval, Act.put]); (case hK => exact HK.out); (case hB => exact below_drew HB.out); (case h5 => exact fun _ => ⟨rfl, _, rfl, HSRC.out⟩); (case h6 => simp [someX]; omega); intro w3 HBK3 HB3; have HBK3 := Aside0.mk HBK3.out; have HB3 := Aside0.mk HB3)
      have HBK4 := Aside0.mk (show w3.heap[g]? = some (.cells (someX (.int .u8 x) (j + m) n).toArray 5 (0, 0)) from by rw [← splice_someX _ _ _ _ hm2]; exact HBK3.out)
      clear HBK3 HSRC HLEN
      go_wp2
      go_roundg (n - (j + m))
      case measure => omega
      case rel => exact ⟨j + m, by omega, by simp only [Value.int.injEq, true_and, Int.natCast_add]; exact IntWalk.i64_in _ (by omega), ⟨hm2, .inl (by omega)⟩, HBK4, HB3⟩
    · have hltz : ¬ (j : Int) < (n : Int) := by omega
      have hjn : j = n := by omega
      subst hjn
      go_wp2
      go_ret
      refine ⟨_, rfl, ?_, HB.out⟩
      refine Kd.R_of_own (enc := Value.int .u8) (h1 := fun _ => rfl) ?_ (fun _ _ => trivial)
      rw [List.length_replicate]
      exact ⟨by simp [encs], .inr ⟨g, j, (someX (.int .u8 x) j j).toArray, rfl, GE.out, HK.out, Nat.le_refl _, by simp only [maxLen]; omega, by simp [someX], by simp [someX, encs]⟩⟩
end Go.Proofs.Yteiiodlgdbiimaa.F
