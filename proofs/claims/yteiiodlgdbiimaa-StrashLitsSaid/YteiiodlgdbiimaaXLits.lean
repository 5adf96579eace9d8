/- What a literal became, and the closure of strash.With that tells it of a list (104). -/
import Derived.Test.YteiiodlgdbiimaaXGate
import Derived.Test.YteiiodlgdbiimaaXEv
import Derived.Test.YteiiodlgdbiimaaFn45
namespace Go.Proofs.Yteiiodlgdbiimaa.F
open Go.RowKit Go.Shelf Go.Proofs.YteiiodlgdbiimaaW.PrintWords Go.Proofs.YteiiodlgdbiimaaW.PrintLast Go.Proofs.YteiiodlgdbiimaaW.PrintMore
set_option linter.unusedVariables false
set_option linter.unusedSimpArgs false
theorem u32_nat {x : Int} (h0 : 0 ≤ x) (h1 : x < 4294967296) : ∃ n : Nat, x = (n : Int) ∧ n < 2 ^ 32 := by
  obtain ⟨n, rfl⟩ := Int.eq_ofNat_of_zero_le h0
  exact ⟨n, rfl, by omega⟩
theorem xor_one {x : Int} (h0 : 0 ≤ x) (h1 : x < 4294967296) : Go.bits .xor .u32 x 1 = 2 * (x / 2) + (x + 1) % 2 := by
  obtain ⟨n, rfl, hn⟩ := u32_nat h0 h1
  have e : Go.bits .xor .u32 (n : Int) 1 = IntKind.u32.wrap ((n ^^^ 1 : Nat) : Int) := by
    have h32 : IntKind.u32.bits = 32 := rfl
    simp only [Go.bits, h32]
    have h1' : (1 : Int) = ((1 : Nat) : Int) := rfl
    rw [h1', BitVec.ofInt_natCast, BitVec.ofInt_natCast, BitVec.toNat_xor, BitVec.toNat_ofNat, BitVec.toNat_ofNat, h32, Nat.mod_eq_of_lt hn]
  have hd : (n ^^^ 1) / 2 = n / 2 := by rw [Nat.xor_div_two]; simp
  have hm : (n ^^^ 1) % 2 = (n + 1) % 2 := by
    have ht := Nat.testBit_xor n 1 0
    simp only [Nat.testBit_zero] at ht
    rw [show decide True = true from rfl] at ht
    by_cases hc : n % 2 = 1
    · rw [decide_eq_true hc] at ht
      have := of_decide_eq_false (show decide ((n ^^^ 1) % 2 = 1) = false from ht)
      omega
    · rw [decide_eq_false hc] at ht
      have := of_decide_eq_true (show decide ((n ^^^ 1) % 2 = 1) = true from ht)
      omega
  rw [e, u32_id (by omega) (by omega)]
  omega
theorem xor_zero32 {x : Int} (h0 : 0 ≤ x) (h1 : x < 4294967296) : Go.bits .xor .u32 x 0 = x := by
  obtain ⟨n, rfl, hn⟩ := u32_nat h0 h1
  have e : Go.bits .xor .u32 (n : Int) 0 = IntKind.u32.wrap ((n ^^^ 0 : Nat) : Int) := by
    have h32 : IntKind.u32.bits = 32 := rfl
    simp only [Go.bits, h32]
    have h1' : (0 : Int) = ((0 : Nat) : Int) := rfl
    rw [h1', BitVec.ofInt_natCast, BitVec.ofInt_natCast, BitVec.toNat_xor, BitVec.toNat_ofNat, BitVec.toNat_ofNat, h32, Nat.mod_eq_of_lt hn]
  rw [e, Nat.xor_zero, u32_id (by omega) (by omega)]
theorem and_one {x : Int} (h0 : 0 ≤ x) (h1 : x < 4294967296) : Go.bits .and .u32 x 1 = x % 2 := by
  obtain ⟨n, rfl, hn⟩ := u32_nat h0 h1
  have e : Go.bits .and .u32 (n : Int) 1 = IntKind.u32.wrap ((n &&& 1 : Nat) : Int) := by
    have h32 : IntKind.u32.bits = 32 := rfl
    simp only [Go.bits, h32]
    have h1' : (1 : Int) = ((1 : Nat) : Int) := rfl
    rw [h1', BitVec.ofInt_natCast, BitVec.ofInt_natCast, BitVec.toNat_and, BitVec.toNat_ofNat, BitVec.toNat_ofNat, h32, Nat.mod_eq_of_lt hn]
  rw [e, Nat.and_one_is_mod, u32_id (by omega) (by omega)]
  omega
theorem xinfoU' : (Try.prog.info? 39).map (fun i => (i.zero, i.size, i.bytes)) = some (some (.int .u32 0), 1, 4) := by kernel_rfl
theorem take_next {α : Type} {l : List α} {k : Nat} (h : k < l.length) : l.take (k + 1) = l.take k ++ [l[k]] := by
  rw [List.take_add_one, List.getElem?_eq_getElem h]
  rfl
/-- what a literal became -/
def litP (tl : List Int) (x : Int) : Int := if x / 2 < (tl.length : Int) then Go.bits .xor .u32 (rd tl (x / 2)) (Go.bits .and .u32 x 1) else 0
theorem lit_is {tl : List Int} {x : Int} (h0 : 0 ≤ x) (h1 : x < 4294967296) : strash_Lit.f tl x = some (litP tl x) := by
  unfold strash_Lit.f litP
  rw [wrap64_id (by omega) (by omega)]
  split
  · rename_i h
    have h2 : 0 ≤ x / 2 := by omega
    simp only [h, h2, if_true]
  · rfl
theorem rd_u32 {tl : List Int} (ht : InU32 tl) (i : Int) : 0 ≤ rd tl i ∧ rd tl i < 4294967296 := by
  unfold rd
  rw [List.getD_eq_getElem?_getD]
  cases h : tl[i.toNat]? with
  | none => simp
  | some v => exact ht v (List.mem_of_getElem? h)
theorem litP_u32 {tl : List Int} (ht : InU32 tl) {x : Int} (h0 : 0 ≤ x) (h1 : x < 4294967296) : 0 ≤ litP tl x ∧ litP tl x < 4294967296 := by
  unfold litP
  have hr := rd_u32 ht (x / 2)
  split
  · rw [and_one h0 h1]
    rcases (show x % 2 = 0 ∨ x % 2 = 1 by omega) with e | e
    · rw [e, xor_zero32 hr.1 hr.2]
      exact hr
    · rw [e, xor_one hr.1 hr.2]
      omega
  · omega
set_option maxHeartbeats 4000000 in
set_option maxRecDepth 100000 in
theorem lits104 (tl : List Int) (At : Option Addr) (ct g5 : Nat) (l : List Int) (A : Option Addr) (c : Nat) (w : World) (hl : Kd.C (Kd.int .u32) w A l.length l) (hu : InU32 l) (hn : l.length ≤ 5000) (hto : Kd.C (Kd.int .u32) w At tl.length tl) (hct : tl.length ≤ ct)
    (hb : w.heap[g5]? = some (.cells #[.slice At tl.length ct] 24 (0, 0))) :
    Calls Try.prog 104 #[.slice A l.length c, .pointer (some ⟨g5, 0, none⟩)] w fun e w' => ∃ v : Value, e = .returned v ∧ Kd.R (Kd.int .u32) 39 w' w.heap.size (fun _ => True) v (l.map (litP tl)) ∧ Below w.heap.size w w' := by
  have HL := Aside0.mk hl
  have HU := Aside0.mk hu
  have HN := Aside0.mk hn
  have HT := Aside0.mk hto
  have HB5 := Aside0.mk hb
  clear hl hu hn hto hb
  go_enter Try.func104, Try.ntmps104
  go_wp2
  go_loopg [3, 8] l.length (fun gg v3 v8 wr => ∃ (k : Nat) (ys : List Int), l.length - k ≤ gg ∧ v8 = .int .i64 k ∧ Aside0 (k ≤ l.length) ∧ Aside0 (ys = (l.take k).map (litP tl)) ∧ Aside0 (Below w.heap.size w wr) ∧ Aside0 (Kd.R (Kd.int .u32) 39 wr w.heap.size (fun _ => True) v3 ys))
  case atStart => exact ⟨0, [], by omega, rfl, ⟨Nat.zero_le _⟩, ⟨rfl⟩, ⟨Below.refl _ _⟩, ⟨Kd.R_nil _ _ _ _ _⟩⟩
  case round =>
    obtain ⟨k, ys, hg, rfl, HKP, HY, HBL, HR⟩ := hrel
    have hln := HN.out
    by_cases hlt : k < l.length
    · have hltz : (k : Int) < (l.length : Int) := by omega
      obtain ⟨ad, e, xq⟩ := Kd.at_int (Kd.C_below HL.out HBL.out) (k : Int) (by omega) hltz
      cases e
      have ek : (k : Int).toNat = k := by omega
      rw [ek] at xq
      clear ek
      have hx : 0 ≤ rd l (k : Int) ∧ rd l (k : Int) < 4294967296 := rd_u32 HU.out _
      have E : Aside0 (ys ++ [litP tl (rd l (k : Int))] = (l.take (k + 1)).map (litP tl)) := ⟨by rw [HY.out, take_next hlt, List.map_append, rd_at hlt]; rfl⟩
      have HYL := Aside0.mk (show ys.length ≤ 5000 from by rw [HY.out]; simp; omega)
      generalize rd l (k : Int) = x at xq hx E
      have HX := Aside0.mk hx
      have z5 : wr.cell? ⟨g5, 0, none⟩ = some (.slice At tl.length ct) := (blk_cell (blk_below HB5.out HBL.out) 0).trans rfl
      obtain ⟨A3, c3, rfl⟩ := Kd.R_slice HR.out
      clear hx HY
      go_wp2_with (first | (go_at_call 45; refine (strash_Lit.calls At ct tl x (litP tl x) _ (Kd.C_below HT.out HBL.out) hct (lit_is HX.out.1 HX.out.2)).mono ?_; rintro e w2 ⟨rfl, hd⟩; have HD := Aside0.mk (below_step HBL.out hd.below); have HRD := Aside0.mk (Kd.R_below HR.out hd.below); clear hd z5 xq) | ((with_reducible refine gate_builtin (b := .append) (xs := #[.tmp 12, .tmp 16]) rfl ?_); at_builtin; refine Kd.R_append (Kd.int .u32) (w0 := w) w.heap.size rfl (.tmp 12) (.tmp 16) 24 39 (.int .u32 0) 4 rfl Try.underlying24 xinfoU' rfl (by decide) (by omega) (.slice A3 ys.length c3) ys (litP tl x) [.int .u32 (litP tl x)] (fun _ => True) (fun _ => False) rfl (by first | (go_simp; done) | (go_simp; rfl)) rfl (fun _ hk => hk.elim) (fun _ _ => trivial) HRD.out HD.out HD.out.size (by have := HYL.out; omega) ?_; intro v1 w3 hR hB _ _; have HR3 := Aside0.mk hR; have HB3 := Aside0.mk hB; clear hR hB))
      go_wp2
      go_roundg (l.length - (k + 1))
      case measure => omega
      case rel => exact ⟨k + 1, _, by omega, by go_num, ⟨by omega⟩, E, HB3, HR3⟩
    · have hltz : ¬ (k : Int) < (l.length : Int) := by omega
      have E : Aside0 (ys = l.map (litP tl)) := ⟨by rw [HY.out, List.take_of_length_le (by omega)]⟩
      go_wp2
      go_ret
      exact ⟨_, rfl, by rw [← E.out]; exact HR.out, HBL.out⟩
end Go.Proofs.Yteiiodlgdbiimaa.F
