/- (*cone).add sets the bit of a literal's variable, and has the variable wait, if it is not set. -/
import Derived.Test.YteiiodlgdbiimaaXMay
namespace Go.Proofs.Yteiiodlgdbiimaa.F
open Go.RowKit Go.Shelf Go.Proofs.YteiiodlgdbiimaaW.PrintWords Go.Proofs.YteiiodlgdbiimaaW.PrintLast Go.Proofs.YteiiodlgdbiimaaW.PrintMore
set_option linter.unusedVariables false
set_option linter.unusedSimpArgs false

theorem xinfo3 : (Try.prog.info? 3).map (fun i => (i.zero, i.size, i.bytes)) = some (some (.int .i64 0), 1, 8) := by kernel_rfl
theorem xinfo4 : (Try.prog.info? 4).map (fun i => (i.zero, i.size, i.bytes)) = some (some (.bool false), 1, 1) := by kernel_rfl
def vOf (x : Int) : Int := wrap64 (x / 2)
def addP (s : List Bool × List Int) (x : Int) : List Bool × List Int :=
  if 0 < vOf x ∧ s.1.getD (vOf x).toNat false = false then (s.1.set (vOf x).toNat true, s.2 ++ [vOf x]) else s

/-- what is neither a cone, nor bits, nor a queue stays -/
def Others (W W' : World) : Prop := ∀ (b : Nat) (cs : Array Value) (t : TypeId), W.heap[b]? = some (.cells cs t (0, 0)) → t ≠ 150 → t ≠ 4 → t ≠ 3 → W'.heap[b]? = some (.cells cs t (0, 0))
theorem Others.refl (W : World) : Others W W := fun _ _ _ h _ _ _ => h
theorem Others.trans {W W1 W2 : World} (h : Others W W1) (k : Others W1 W2) : Others W W2 := fun b cs t hb h1 h2 h3 => k b cs t (h b cs t hb h1 h2 h3) h1 h2 h3
theorem Others.below {W W1 : World} (h : Below W.heap.size W W1) : Others W W1 := fun b cs t hb _ _ _ => blk_below hb h
structure ConeSt (a0 : Int) (A1 : Option Addr) (c1 : Nat) (l1 : List S41) (A2 : Option Addr) (c2 : Nat) (l2 : List S68) (A3 : Option Addr) (c3 : Nat) (l3 : List Int) (A4 : Option Addr) (c4 : Nat) (l4 : List Int) (A5 : Option Addr) (c5 : Nat) (l5 : List Int) (ever : Bool) (w0 : World) (g gi ci n : Nat) (xs : List Bool) (q : List Int) (W : World) : Prop where
  below : Below w0.heap.size w0 W
  ge : w0.heap.size ≤ g
  len : xs.length = n
  is : Kd.R Kd.bool 4 W w0.heap.size (fun _ => True) (.slice (some ⟨gi, 0, none⟩) n ci) xs
  st : ∃ vq, W.heap[g]? = some (.cells #[.int .i64 a0, .slice A1 l1.length c1, .slice A2 l2.length c2, .slice A3 l3.length c3, .slice A4 l4.length c4, .slice A5 l5.length c5, .slice (some ⟨gi, 0, none⟩) n ci, vq, .bool ever] 150 (0, 0)) ∧ Kd.R (Kd.int .i64) 3 W w0.heap.size (fun _ => True) vq q
theorem ConeSt.gi_ge {a0 : Int} {A1 : Option Addr} {c1 : Nat} {l1 : List S41} {A2 : Option Addr} {c2 : Nat} {l2 : List S68} {A3 : Option Addr} {c3 : Nat} {l3 : List Int} {A4 : Option Addr} {c4 : Nat} {l4 : List Int} {A5 : Option Addr} {c5 : Nat} {l5 : List Int} {ever : Bool} {w0 : World} {g gi ci n : Nat} {xs : List Bool} {q : List Int} {W : World}
    (h : ConeSt a0 A1 c1 l1 A2 c2 l2 A3 c3 l3 A4 c4 l4 A5 c5 l5 ever w0 g gi ci n xs q W) : w0.heap.size ≤ gi := by
  obtain ⟨inner, ho⟩ := Kd.R_own h.is
  exact own_base ho gi (by simp [Value.ownBlock])
theorem ConeSt.step {a0 : Int} {A1 : Option Addr} {c1 : Nat} {l1 : List S41} {A2 : Option Addr} {c2 : Nat} {l2 : List S68} {A3 : Option Addr} {c3 : Nat} {l3 : List Int} {A4 : Option Addr} {c4 : Nat} {l4 : List Int} {A5 : Option Addr} {c5 : Nat} {l5 : List Int} {ever : Bool} {w0 : World} {g gi ci n : Nat} {xs : List Bool} {q : List Int} {W W' : World}
    (h : ConeSt a0 A1 c1 l1 A2 c2 l2 A3 c3 l3 A4 c4 l4 A5 c5 l5 ever w0 g gi ci n xs q W) (hb : Below W.heap.size W W') : ConeSt a0 A1 c1 l1 A2 c2 l2 A3 c3 l3 A4 c4 l4 A5 c5 l5 ever w0 g gi ci n xs q W' := by
  obtain ⟨vq, hk, hq⟩ := h.st
  exact ⟨below_step h.below hb, h.ge, h.len, Kd.R_below h.is hb, vq, blk_below hk hb, Kd.R_below hq hb⟩
/-- what the store and the append leave -/
theorem ConeSt.added {a0 : Int} {A1 : Option Addr} {c1 : Nat} {l1 : List S41} {A2 : Option Addr} {c2 : Nat} {l2 : List S68} {A3 : Option Addr} {c3 : Nat} {l3 : List Int} {A4 : Option Addr} {c4 : Nat} {l4 : List Int} {A5 : Option Addr} {c5 : Nat} {l5 : List Int} {ever : Bool} {w0 : World} {g gi ci n : Nat} {xs : List Bool} {q : List Int} {W w9 : World}
    {vq v1 : Value} {i : Int} (hge : w0.heap.size ≤ g) (hlen : xs.length = n) (his : Kd.R Kd.bool 4 W w0.heap.size (fun _ => True) (.slice (some ⟨gi, 0, none⟩) n ci) xs)
    (hk : W.heap[g]? = some (.cells #[.int .i64 a0, .slice A1 l1.length c1, .slice A2 l2.length c2, .slice A3 l3.length c3, .slice A4 l4.length c4, .slice A5 l5.length c5, .slice (some ⟨gi, 0, none⟩) n ci, vq, .bool ever] 150 (0, 0))) (hq : Kd.R (Kd.int .i64) 3 (W.setCell ⟨gi, i.toNat, none⟩ (.bool true)) w0.heap.size (fun _ => True) vq q)
    (h1 : Kd.R (Kd.int .i64) 3 w9 w0.heap.size (fun _ => True) v1 (q ++ [i])) (hb : Below w0.heap.size w0 w9) (hg : (W.setCell ⟨gi, i.toNat, none⟩ (.bool true)).grownBy w9 vq.ownBlock) :
    ConeSt a0 A1 c1 l1 A2 c2 l2 A3 c3 l3 A4 c4 l4 A5 c5 l5 ever w0 g gi ci n (xs.set i.toNat true) (q ++ [i]) (w9.setCell ⟨g, 7, none⟩ v1) ∧ w9.heap[g]? = some (.cells #[.int .i64 a0, .slice A1 l1.length c1, .slice A2 l2.length c2, .slice A3 l3.length c3, .slice A4 l4.length c4, .slice A5 l5.length c5, .slice (some ⟨gi, 0, none⟩) n ci, vq, .bool ever] 150 (0, 0)) ∧ Others W (w9.setCell ⟨g, 7, none⟩ v1) := by
  have hgi : g ≠ gi := by
    have := Kd.R_ne his hk (by decide)
    simpa [Value.ownBlock] using this
  have hk1 := blk_far hk (p := ⟨gi, i.toNat, none⟩) hgi (.bool true)
  have his1 := Kd.R_putn (enc := Value.bool) his i true
  have hk2 := blk_grown hk1 hg (Kd.R_ne hq hk1 (by decide))
  obtain ⟨inner, ho⟩ := Kd.R_own his1
  obtain ⟨ci_, hci⟩ := own_typed ho gi (by simp [Value.ownBlock])
  have hgq : some gi ≠ vq.ownBlock := Kd.R_ne hq hci (by decide)
  have his2 : Kd.R Kd.bool 4 w9 w0.heap.size (fun _ => True) (.slice (some ⟨gi, 0, none⟩) n ci) (xs.set i.toNat true) := by
    refine Kd.R_mono (Kd.R_grown (ok := fun k => k = gi) ⟨fun k hk => ?_, his1.2.imp_ (fun _ _ hp => hp)⟩ hg (fun k hk => by rw [hk]; exact hgq)) (fun _ _ => trivial)
    simpa [Value.ownBlock] using hk.symm
  refine ⟨⟨hb.setCell (p := ⟨g, 7, none⟩) hge _, hge, by rw [List.length_set]; exact hlen, ?_, v1, by simpa using blk_set hk2 7 v1, ?_⟩, hk2, fun b cs t hb' h150 h4 h3 => ?_⟩
  · exact Kd.R_mono (Kd.R_far (p := ⟨g, 7, none⟩) (Kd.R_types his2 hk2 (by decide)) (fun _ h => h.2) _) (fun _ h => h.1)
  · exact Kd.R_mono (Kd.R_far (p := ⟨g, 7, none⟩) (Kd.R_types h1 hk2 (by decide)) (fun _ h => h.2) _) (fun _ h => h.1)
  · obtain ⟨inner0, ho0⟩ := Kd.R_own his
    obtain ⟨ci0, hci0⟩ := own_typed ho0 gi (by simp [Value.ownBlock])
    have e1 := blk_far hb' (p := ⟨gi, i.toNat, none⟩) (blk_ne hb' hci0 h4) (.bool true)
    have e2 := blk_grown e1 hg (Kd.R_ne hq e1 (fun e => h3 e.symm))
    exact blk_far e2 (p := ⟨g, 7, none⟩) (blk_ne e2 hk2 h150) v1

theorem ConeSt.cleared {a0 : Int} {A1 : Option Addr} {c1 : Nat} {l1 : List S41} {A2 : Option Addr} {c2 : Nat} {l2 : List S68} {A3 : Option Addr} {c3 : Nat} {l3 : List Int} {A4 : Option Addr} {c4 : Nat} {l4 : List Int} {A5 : Option Addr} {c5 : Nat} {l5 : List Int} {ever : Bool} {w0 : World} {g gi ci n : Nat} {xs : List Bool} {q : List Int} {W : World}
    (h : ConeSt a0 A1 c1 l1 A2 c2 l2 A3 c3 l3 A4 c4 l4 A5 c5 l5 ever w0 g gi ci n xs q W) : ConeSt a0 A1 c1 l1 A2 c2 l2 A3 c3 l3 A4 c4 l4 A5 c5 l5 ever w0 g gi ci n xs [] (W.setCell ⟨g, 7, none⟩ (.slice none 0 0)) := by
  obtain ⟨vq, hk, hq⟩ := h.st
  refine ⟨h.below.setCell (p := ⟨g, 7, none⟩) h.ge _, h.ge, h.len, ?_, .slice none 0 0, by simpa using blk_set hk 7 (.slice none 0 0), Kd.R_nil _ _ _ _ _⟩
  exact Kd.R_mono (Kd.R_far (p := ⟨g, 7, none⟩) (Kd.R_types h.is hk (by decide)) (fun _ h => h.2) _) (fun _ h => h.1)
set_option maxHeartbeats 4000000 in
set_option maxRecDepth 100000 in
theorem add141 (a0 : Int) (A1 : Option Addr) (c1 : Nat) (l1 : List S41) (A2 : Option Addr) (c2 : Nat) (l2 : List S68) (A3 : Option Addr) (c3 : Nat) (l3 : List Int) (A4 : Option Addr) (c4 : Nat) (l4 : List Int) (A5 : Option Addr) (c5 : Nat) (l5 : List Int) (ever : Bool) (w0 : World) (g gi ci n : Nat) (xs : List Bool) (q : List Int) (w : World) (x : Int) (hx : vOf x < (n : Int)) (hql : q.length ≤ 60000)
    (h : ConeSt a0 A1 c1 l1 A2 c2 l2 A3 c3 l3 A4 c4 l4 A5 c5 l5 ever w0 g gi ci n xs q w) :
    Calls Try.prog 141 #[.pointer (some ⟨g, 0, none⟩), .int .u32 x] w fun e w' => e = .returned (.tuple #[]) ∧ ConeSt a0 A1 c1 l1 A2 c2 l2 A3 c3 l3 A4 c4 l4 A5 c5 l5 ever w0 g gi ci n (addP (xs, q) x).1 (addP (xs, q) x).2 w' ∧ Others w w' := by
  have H := Aside0.mk h
  obtain ⟨hb, hge, hlen, his, vq, hk, hq⟩ := h
  have hu150 := Try.underlying150
  have hi6 : w.cell? ⟨g, 6, none⟩ = some (.slice (some ⟨gi, 0, none⟩) n ci) := (blk_cell hk 6).trans rfl
  have hi7 : w.cell? ⟨g, 7, none⟩ = some vq := (blk_cell hk 7).trans rfl
  unfold vOf at hx
  by_cases h0 : 0 < wrap64 (x / 2)
  · have h0b : decide (0 < wrap64 (x / 2)) = true := decide_eq_true h0
    obtain ⟨hc, hf⟩ := Kd.R_celln (enc := Value.bool) false his (wrap64 (x / 2)) (by omega) hx
    cases hv : rdOf false xs (wrap64 (x / 2)) with
    | true =>
      have R : Aside0 (addP (xs, q) x = (xs, q)) := ⟨by
        unfold addP vOf
        rw [if_neg]
        rintro ⟨_, h2⟩
        rw [show rdOf false xs (wrap64 (x / 2)) = xs.getD (wrap64 (x / 2)).toNat false from rfl] at hv
        rw [hv] at h2
        cases h2⟩
      rw [hv] at hc
      clear hk hq his hb hv
      go_enter Try.func141, Try.ntmps141
      go_wp2
      go_end0
      exact ⟨rfl, by rw [R.out]; exact H.out, Others.refl _⟩
    | false =>
      have R : Aside0 (addP (xs, q) x = (xs.set (wrap64 (x / 2)).toNat true, q ++ [wrap64 (x / 2)])) := ⟨by
        unfold addP vOf
        rw [if_pos]
        exact ⟨h0, hv⟩⟩
      rw [hv] at hc
      have HQ : Aside0 (Kd.R (Kd.int .i64) 3 (w.setCell ⟨gi, (wrap64 (x / 2)).toNat, none⟩ (.bool true)) w0.heap.size (fun _ => True) vq q) := ⟨by
        obtain ⟨inner, ho⟩ := Kd.R_own his
        obtain ⟨ci_, hci⟩ := own_typed ho gi (by simp [Value.ownBlock])
        exact Kd.R_mono (Kd.R_far (p := ⟨gi, (wrap64 (x / 2)).toNat, none⟩) (Kd.R_types hq hci (by decide)) (fun _ h => h.2) _) (fun _ h => h.1)⟩
      have HB : Aside0 (Below w0.heap.size w0 (w.setCell ⟨gi, (wrap64 (x / 2)).toNat, none⟩ (.bool true))) := ⟨hb.setCell (p := ⟨gi, _, none⟩) (H.out.gi_ge) _⟩
      have HK := Aside0.mk hk
      have HI := Aside0.mk his
      have HL := Aside0.mk hql
      have hi7' : (w.setCell ⟨gi, (wrap64 (x / 2)).toNat, none⟩ (.bool true)).cell? ⟨g, 7, none⟩ = some vq := by
        have hgi : g ≠ gi := by
          have := Kd.R_ne his hk (by decide)
          simpa [Value.ownBlock] using this
        exact (blk_cell (blk_far hk (p := ⟨gi, (wrap64 (x / 2)).toNat, none⟩) hgi (.bool true)) 7).trans rfl
      have HF : Aside0 (g ≠ gi) := ⟨by
        have := Kd.R_ne his hk (by decide)
        simpa [Value.ownBlock] using this⟩
      clear hk hq his hb hv hql hlen
      go_enter Try.func141, Try.ntmps141
      go_wp2_with ((with_reducible refine gate_builtin (b := .append) (xs := #[.tmp 30, .tmp 32]) rfl ?_); at_builtin; refine Kd.R_append (Kd.int .i64) (w0 := w0) w0.heap.size rfl (.tmp 30) (.tmp 32) 47 3 (.int .i64 0) 8 rfl Try.underlying47 xinfo3 rfl (by decide) (by omega) vq q (wrap64 (x / 2)) [.int .i64 (wrap64 (x / 2))] (fun _ => True) (fun _ => False) rfl (by first | (go_simp; done) | (go_simp; rfl)) ?aP (fun _ hk => hk.elim) ?aF ?aO ?aB ?aS ?aL ?_; (case aP => exact rfl); (case aB => exact HB.out); (case aF => exact (fun _ _ => trivial)); (case aO => exact HQ.out); (case aS => have := HB.out.size; exact this); (case aL => have := HL.out; omega); intro v1 w9 hR hbl hgr hat; obtain ⟨Av, cv, rfl⟩ := Kd.R_slice hR; have HA := Aside0.mk (ConeSt.added hge H.out.len HI.out HK.out HQ.out hR hbl hgr); have hi8 : w9.cell? ⟨g, 7, none⟩ = some vq := (blk_cell HA.out.2.1 7).trans rfl; have hf8 := blk_frozen HA.out.2.1 7; clear hR hbl hgr hat)
      go_end0
      exact ⟨rfl, by rw [R.out]; have h9 := HA.out.1; rw [List.length_append, List.length_singleton] at h9; exact h9, by have h9 := HA.out.2.2; rw [List.length_append, List.length_singleton] at h9; exact h9⟩
  · have h0b : decide (0 < wrap64 (x / 2)) = false := decide_eq_false h0
    have R : Aside0 (addP (xs, q) x = (xs, q)) := ⟨by
      unfold addP vOf
      rw [if_neg]
      rintro ⟨h2, _⟩
      exact h0 h2⟩
    clear hk hq his hb
    go_enter Try.func141, Try.ntmps141
    go_wp2
    go_end0
    exact ⟨rfl, by rw [R.out]; exact H.out, Others.refl _⟩
end Go.Proofs.Yteiiodlgdbiimaa.F
