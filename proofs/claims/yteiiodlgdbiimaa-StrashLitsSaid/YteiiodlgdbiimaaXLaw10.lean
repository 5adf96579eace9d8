/- The law StrashLits walked: it returns true. -/
import Derived.Test.YteiiodlgdbiimaaFn37
import Derived.Test.YteiiodlgdbiimaaXLits
namespace Go.Proofs.Yteiiodlgdbiimaa.F
open Go.RowKit Go.Shelf Go.Proofs.YteiiodlgdbiimaaW.PrintWords Go.Proofs.YteiiodlgdbiimaaW.PrintLast Go.Proofs.YteiiodlgdbiimaaW.PrintMore
set_option linter.unusedVariables false
set_option linter.unusedSimpArgs false
theorem lives24_true : inquestlaw24_lives.f 20 = some true := by kernel_rfl
set_option maxHeartbeats 1000000 in
set_option maxRecDepth 100000 in
theorem law10 (A : Option Addr) (c : Nat) (l : List Int) (a : Int) (w : World) (hl : Kd.C (Kd.int .u32) w A l.length l) (hc : l.length ≤ c) (hu : InU32 l) (h0 : 0 ≤ a) (h1 : a < 4294967296) :
    Calls Try.prog 10 #[.slice A l.length c, .int .u32 a] w fun e w' => e = .returned (.bool true) ∧ Below w.heap.size w w' := by
  have HL := Aside0.mk hl
  have HU := Aside0.mk hu
  clear hl hu
  obtain ⟨v, hv⟩ : ∃ v, a % 1073741824 = v := ⟨_, rfl⟩
  have hv0 : 0 ≤ v := by omega
  have hv1 : v < 1073741824 := by omega
  have HV := Aside0.mk (And.intro hv0 hv1)
  have hr := rd_u32 HU.out v
  by_cases hlt : v < (l.length : Int)
  · obtain ⟨p, hp⟩ : ∃ p, rd l v = p := ⟨_, rfl⟩
    have l1 : litP l (2 * v) = p := by
      unfold litP
      rw [show 2 * v / 2 = v by omega, if_pos hlt, and_one (by omega) (by omega), show 2 * v % 2 = 0 by omega, xor_zero32 hr.1 hr.2, hp]
    obtain ⟨q, hq⟩ : ∃ q, 2 * (p / 2) + (p + 1) % 2 = q := ⟨_, rfl⟩
    have l2 : litP l (2 * v + 1) = q := by
      unfold litP
      rw [show (2 * v + 1) / 2 = v by omega, if_pos hlt, and_one (by omega) (by omega), show (2 * v + 1) % 2 = 1 by omega, xor_one hr.1 hr.2, hp, hq]
    rw [hp] at hr
    have L1 := Aside0.mk l1
    have L2 := Aside0.mk l2
    have HR := Aside0.mk hr
    obtain ⟨ad, e, xq⟩ := Kd.at_int HL.out v hv0 hlt
    cases e
    rw [hp] at xq
    have X := Aside0.mk xq
    have hpq : (p == q) = false := beq_eq_false_iff_ne.mpr (by omega)
    have hpn : (p != q) = true := bne_iff_ne.mpr (by omega)
    have hq0 : 0 ≤ q ∧ q < 4294967296 := by omega
    have hh : p / 2 = q / 2 := by omega
    have HQ := Aside0.mk hh
    have t1 : Int.tdiv p 2 = p / 2 := Int.tdiv_eq_ediv_of_nonneg hr.1
    have t2 : Int.tdiv q 2 = p / 2 := by rw [Int.tdiv_eq_ediv_of_nonneg hq0.1]; omega
    have t3 : IntKind.u32.wrap (p / 2) = p / 2 := u32_id (by omega) (by omega)
    have t4 : wrap64 v = v := wrap64_id (by omega) (by omega)
    have t5 : IntKind.i64.wrap v = v := IntWalk.i64_in _ (by omega)
    have t6 : a.tmod 1073741824 = v := by rw [Int.tmod_eq_emod_of_nonneg h0, hv]
    have hltn : ¬ (l.length : Int) ≤ v := by omega
    clear l1 l2 xq hr hp hq hh hq0
    go_enter Try.func10, Try.ntmps10
    go_wp2_with (first | ((with_reducible refine gate_callee (f := 45) rfl ?_); refine goesL_ (some 12) rfl rfl Try.func45 (by kernel_rfl) rfl #[.slice (some ad) l.length c, .int .u32 (2 * v)] rfl (by (try simp only [List.map_toArray, List.map_cons, List.map_nil]); first | done | rfl) ?_; refine (strash_Lit.calls (some ad) c l (2 * v) p w HL.out hc (by rw [← L1.out]; exact lit_is (by have := HV.out; omega) (by have := HV.out; omega))).mono ?_; rintro e w2 ⟨rfl, hd⟩; refine ⟨_, rfl, ?_⟩; have HB2 := Aside0.mk hd.below; clear hd) | ((with_reducible refine gate_callee (f := 45) rfl ?_); refine goesL_ (some 17) rfl rfl Try.func45 (by kernel_rfl) rfl #[.slice (some ad) l.length c, .int .u32 (2 * v + 1)] rfl (by (try simp only [List.map_toArray, List.map_cons, List.map_nil]); first | done | rfl) ?_; refine (strash_Lit.calls (some ad) c l (2 * v + 1) q w2 (Kd.C_below HL.out HB2.out) hc (by rw [← L2.out]; exact lit_is (by have := HV.out; omega) (by have := HV.out; omega))).mono ?_; rintro e w3 ⟨rfl, hd⟩; refine ⟨_, rfl, ?_⟩; have HB3 := Aside0.mk (below_step HB2.out hd.below); clear hd; have xq := (HB3.out.cell (World.block_lt_of_cell? w _ X.out)).trans X.out) | (go_at_call 37; refine (inquestlaw24_lives.calls 20 true _ lives24_true).mono ?_; rintro e w4 ⟨rfl, hb⟩; have HB4 := Aside0.mk (below_step HB3.out hb); clear hb xq))
    go_ret
    exact ⟨rfl, HB4.out⟩
  · have l1 : litP l (2 * v) = 0 := by
      unfold litP
      rw [show 2 * v / 2 = v by omega, if_neg hlt]
    have l2 : litP l (2 * v + 1) = 0 := by
      unfold litP
      rw [show (2 * v + 1) / 2 = v by omega, if_neg hlt]
    have L1 := Aside0.mk l1
    have L2 := Aside0.mk l2
    have t4 : wrap64 v = v := wrap64_id (by omega) (by omega)
    have t5 : IntKind.i64.wrap v = v := IntWalk.i64_in _ (by omega)
    have t6 : a.tmod 1073741824 = v := by rw [Int.tmod_eq_emod_of_nonneg h0, hv]
    have hltn : (l.length : Int) ≤ v := by omega
    clear l1 l2 hr
    go_enter Try.func10, Try.ntmps10
    go_wp2_with (first | ((with_reducible refine gate_callee (f := 45) rfl ?_); refine goesL_ (some 12) rfl rfl Try.func45 (by kernel_rfl) rfl #[.slice A l.length c, .int .u32 (2 * v)] rfl (by (try simp only [List.map_toArray, List.map_cons, List.map_nil]); first | done | rfl) ?_; refine (strash_Lit.calls A c l (2 * v) 0 w HL.out hc (by rw [← L1.out]; exact lit_is (by have := HV.out; omega) (by have := HV.out; omega))).mono ?_; rintro e w2 ⟨rfl, hd⟩; refine ⟨_, rfl, ?_⟩; have HB2 := Aside0.mk hd.below; clear hd) | ((with_reducible refine gate_callee (f := 45) rfl ?_); refine goesL_ (some 17) rfl rfl Try.func45 (by kernel_rfl) rfl #[.slice A l.length c, .int .u32 (2 * v + 1)] rfl (by (try simp only [List.map_toArray, List.map_cons, List.map_nil]); first | done | rfl) ?_; refine (strash_Lit.calls A c l (2 * v + 1) 0 w2 (Kd.C_below HL.out HB2.out) hc (by rw [← L2.out]; exact lit_is (by have := HV.out; omega) (by have := HV.out; omega))).mono ?_; rintro e w3 ⟨rfl, hd⟩; refine ⟨_, rfl, ?_⟩; have HB3 := Aside0.mk (below_step HB2.out hd.below); clear hd) | (go_at_call 37; refine (inquestlaw24_lives.calls 20 true _ lives24_true).mono ?_; rintro e w4 ⟨rfl, hb⟩; have HB4 := Aside0.mk (below_step HB3.out hb); clear hb))
    go_ret
    exact ⟨rfl, HB4.out⟩
end Go.Proofs.Yteiiodlgdbiimaa.F
