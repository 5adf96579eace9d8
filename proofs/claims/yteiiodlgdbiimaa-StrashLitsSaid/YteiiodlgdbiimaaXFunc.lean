/- slices.IndexFunc and slices.ContainsFunc come to the first index, and to whether there is one, of a predicate that only reads and lays blocks of its own. -/
import Derived.Test.YteiiodlgdbiimaaF0
import Derived.Shelf.Abstract
namespace Go.Proofs.Yteiiodlgdbiimaa.F
open Go.RowKit Go.Shelf Go.Proofs.YteiiodlgdbiimaaW.PrintWords Go.Proofs.YteiiodlgdbiimaaW.PrintLast Go.Proofs.YteiiodlgdbiimaaW.PrintMore
set_option linter.unusedVariables false
set_option linter.unusedSimpArgs false

/-- the first j below n of which p holds, or -1 -/
def idx (p : Nat → Bool) (n : Nat) : Int := match (List.range n).find? p with
  | some j => (j : Int)
  | none => -1
theorem idx_hit (p : Nat → Bool) (n k : Nat) (hk : k < n) (h : p k = true) (hn : ∀ j, j < k → p j = false) : idx p n = (k : Int) := by
  have : (List.range n).find? p = some k := by
    rw [List.find?_range_eq_some]
    exact ⟨h, List.mem_range.2 hk, fun j hj => by simp [hn j hj]⟩
  simp [idx, this]
theorem idx_miss (p : Nat → Bool) (n : Nat) (hn : ∀ j, j < n → p j = false) : idx p n = -1 := by
  have : (List.range n).find? p = none := by
    rw [List.find?_range_eq_none]
    exact fun j hj => by simp [hn j hj]
  simp [idx, this]
theorem idx_any (p : Nat → Bool) (n : Nat) : decide (0 ≤ idx p n) = (List.range n).any p := by
  rw [Bool.eq_iff_iff, decide_eq_true_iff, List.any_eq_true]
  unfold idx
  split
  · rename_i j h
    constructor
    · intro _
      exact ⟨j, List.mem_of_find?_eq_some h, List.find?_some h⟩
    · intro _
      omega
  · rename_i h
    rw [List.find?_eq_none] at h
    constructor
    · intro h0
      omega
    · rintro ⟨j, hj, hp⟩
      exact absurd hp (h j hj)

set_option maxHeartbeats 4000000 in
theorem index177 (g : Nat) (lb : Array Value) (eg : ∀ args w, (callFunc g args).run Try.prog w = .ok (.enter g args) w) (ev : Nat → Value) (pv : Nat → Bool)
    (A : Option Addr) (n c : Nat) (w : World) (hn : n ≤ 9223372036854775807)
    (hc : ∀ j, j < n → ∃ ad, A = some ad ∧ w.cell? (ad.add j) = some (ev j))
    (hp : ∀ j, j < n → ∀ W, Below w.heap.size w W → Calls Try.prog g (#[ev j] ++ lb) W fun e w' => e = .returned (.bool (pv j)) ∧ Below W.heap.size W w') :
    Calls Try.prog 177 #[.slice A n c, .func (.func g) #[] lb] w fun e w' => e = .returned (.int .i64 (idx pv n)) ∧ Below w.heap.size w w' := by
  have HC := Aside0.mk hc
  have HP := Aside0.mk hp
  clear hc hp
  go_enter Try.func177, Try.ntmps177
  go_wp2
  go_loopg [5, 8] n (fun gg _ s8 wr => ∃ kk : Nat, kk ≤ n ∧ n - kk ≤ gg ∧ s8 = .int .i64 kk ∧ Aside0 (Below w.heap.size w wr) ∧ Aside0 (∀ j, j < kk → pv j = false))
  case atStart => exact ⟨0, Nat.zero_le _, by omega, rfl, ⟨Below.refl _ w⟩, ⟨fun j hj => absurd hj (Nat.not_lt_zero _)⟩⟩
  case round =>
    obtain ⟨kk, hkk, hg, rfl, BW, HA⟩ := hrel
    by_cases hlt : kk < n
    · have hltz : (kk : Int) < (n : Int) := by omega
      obtain ⟨ad, rfl, hx0⟩ := HC.out kk hlt
      have hx := pw_cell_below BW.out hx0
      have hcall := HP.out kk hlt wr BW.out
      generalize hy : ev kk = y at hx hcall
      clear hy hx0
      cases hq : pv kk with
      | true =>
        rw [hq] at hcall
        go_wp2_with (go_at_fn g; refine hcall.mono ?_; rintro e w' ⟨rfl, hb'⟩)
        go_ret
        exact ⟨by rw [idx_hit pv n kk hlt hq HA.out]; rfl, below_step BW.out hb'⟩
      | false =>
        rw [hq] at hcall
        go_wp2_with (go_at_fn g; refine hcall.mono ?_; rintro e w' ⟨rfl, hb'⟩)
        go_roundg (n - (kk + 1))
        case measure => omega
        case rel =>
          refine ⟨kk + 1, by omega, by omega, by go_num, ⟨below_step BW.out hb'⟩, ⟨fun j hj => ?_⟩⟩
          by_cases e : j = kk
          · subst e
            exact hq
          · exact HA.out j (by omega)
    · have hltz : ¬ (kk : Int) < (n : Int) := by omega
      have : kk = n := by omega
      subst this
      go_wp2
      go_ret
      exact ⟨by rw [idx_miss pv kk HA.out]; rfl, BW.out⟩
set_option maxHeartbeats 4000000 in
theorem contains177 (g : Nat) (lb : Array Value) (eg : ∀ args w, (callFunc g args).run Try.prog w = .ok (.enter g args) w) (ev : Nat → Value) (pv : Nat → Bool)
    (A : Option Addr) (n c : Nat) (w : World) (hn : n ≤ 9223372036854775807)
    (hc : ∀ j, j < n → ∃ ad, A = some ad ∧ w.cell? (ad.add j) = some (ev j))
    (hp : ∀ j, j < n → ∀ W, Below w.heap.size w W → Calls Try.prog g (#[ev j] ++ lb) W fun e w' => e = .returned (.bool (pv j)) ∧ Below W.heap.size W w') :
    Calls Try.prog 139 #[.slice A n c, .func (.func g) #[] lb] w fun e w' => e = .returned (.bool ((List.range n).any pv)) ∧ Below w.heap.size w w' := by
  have H := Aside0.mk (index177 g lb eg ev pv A n c w hn hc hp)
  clear hc hp
  rw [← idx_any pv n]
  go_enter Try.func139, Try.ntmps139
  go_wp2_with (go_at_call 177; refine H.out.mono ?_; rintro e w' ⟨rfl, hb'⟩)
  go_ret
  exact ⟨rfl, hb'⟩

set_option maxHeartbeats 4000000 in
theorem index182 (g : Nat) (lb : Array Value) (eg : ∀ args w, (callFunc g args).run Try.prog w = .ok (.enter g args) w) (ev : Nat → Value) (pv : Nat → Bool)
    (A : Option Addr) (n c : Nat) (w : World) (hn : n ≤ 9223372036854775807)
    (hc : ∀ j, j < n → ∃ ad, A = some ad ∧ w.cell? (ad.add j) = some (ev j))
    (hp : ∀ j, j < n → ∀ W, Below w.heap.size w W → Calls Try.prog g (#[ev j] ++ lb) W fun e w' => e = .returned (.bool (pv j)) ∧ Below W.heap.size W w') :
    Calls Try.prog 182 #[.slice A n c, .func (.func g) #[] lb] w fun e w' => e = .returned (.int .i64 (idx pv n)) ∧ Below w.heap.size w w' := by
  have HC := Aside0.mk hc
  have HP := Aside0.mk hp
  clear hc hp
  go_enter Try.func182, Try.ntmps182
  go_wp2
  go_loopg [5, 8] n (fun gg _ s8 wr => ∃ kk : Nat, kk ≤ n ∧ n - kk ≤ gg ∧ s8 = .int .i64 kk ∧ Aside0 (Below w.heap.size w wr) ∧ Aside0 (∀ j, j < kk → pv j = false))
  case atStart => exact ⟨0, Nat.zero_le _, by omega, rfl, ⟨Below.refl _ w⟩, ⟨fun j hj => absurd hj (Nat.not_lt_zero _)⟩⟩
  case round =>
    obtain ⟨kk, hkk, hg, rfl, BW, HA⟩ := hrel
    by_cases hlt : kk < n
    · have hltz : (kk : Int) < (n : Int) := by omega
      obtain ⟨ad, rfl, hx0⟩ := HC.out kk hlt
      have hx := pw_cell_below BW.out hx0
      have hcall := HP.out kk hlt wr BW.out
      generalize hy : ev kk = y at hx hcall
      clear hy hx0
      cases hq : pv kk with
      | true =>
        rw [hq] at hcall
        go_wp2_with (go_at_fn g; refine hcall.mono ?_; rintro e w' ⟨rfl, hb'⟩)
        go_ret
        exact ⟨by rw [idx_hit pv n kk hlt hq HA.out]; rfl, below_step BW.out hb'⟩
      | false =>
        rw [hq] at hcall
        go_wp2_with (go_at_fn g; refine hcall.mono ?_; rintro e w' ⟨rfl, hb'⟩)
        go_roundg (n - (kk + 1))
        case measure => omega
        case rel =>
          refine ⟨kk + 1, by omega, by omega, by go_num, ⟨below_step BW.out hb'⟩, ⟨fun j hj => ?_⟩⟩
          by_cases e : j = kk
          · subst e
            exact hq
          · exact HA.out j (by omega)
    · have hltz : ¬ (kk : Int) < (n : Int) := by omega
      have : kk = n := by omega
      subst this
      go_wp2
      go_ret
      exact ⟨by rw [idx_miss pv kk HA.out]; rfl, BW.out⟩
set_option maxHeartbeats 4000000 in
theorem contains182 (g : Nat) (lb : Array Value) (eg : ∀ args w, (callFunc g args).run Try.prog w = .ok (.enter g args) w) (ev : Nat → Value) (pv : Nat → Bool)
    (A : Option Addr) (n c : Nat) (w : World) (hn : n ≤ 9223372036854775807)
    (hc : ∀ j, j < n → ∃ ad, A = some ad ∧ w.cell? (ad.add j) = some (ev j))
    (hp : ∀ j, j < n → ∀ W, Below w.heap.size w W → Calls Try.prog g (#[ev j] ++ lb) W fun e w' => e = .returned (.bool (pv j)) ∧ Below W.heap.size W w') :
    Calls Try.prog 148 #[.slice A n c, .func (.func g) #[] lb] w fun e w' => e = .returned (.bool ((List.range n).any pv)) ∧ Below w.heap.size w w' := by
  have H := Aside0.mk (index182 g lb eg ev pv A n c w hn hc hp)
  clear hc hp
  rw [← idx_any pv n]
  go_enter Try.func148, Try.ntmps148
  go_wp2_with (go_at_call 182; refine H.out.mono ?_; rintro e w' ⟨rfl, hb'⟩)
  go_ret
  exact ⟨rfl, hb'⟩

set_option maxHeartbeats 4000000 in
theorem index192 (g : Nat) (lb : Array Value) (eg : ∀ args w, (callFunc g args).run Try.prog w = .ok (.enter g args) w) (ev : Nat → Value) (pv : Nat → Bool)
    (A : Option Addr) (n c : Nat) (w : World) (hn : n ≤ 9223372036854775807)
    (hc : ∀ j, j < n → ∃ ad, A = some ad ∧ w.cell? (ad.add j) = some (ev j))
    (hp : ∀ j, j < n → ∀ W, Below w.heap.size w W → Calls Try.prog g (#[ev j] ++ lb) W fun e w' => e = .returned (.bool (pv j)) ∧ Below W.heap.size W w') :
    Calls Try.prog 192 #[.slice A n c, .func (.func g) #[] lb] w fun e w' => e = .returned (.int .i64 (idx pv n)) ∧ Below w.heap.size w w' := by
  have HC := Aside0.mk hc
  have HP := Aside0.mk hp
  clear hc hp
  go_enter Try.func192, Try.ntmps192
  go_wp2
  go_loopg [5, 8] n (fun gg _ s8 wr => ∃ kk : Nat, kk ≤ n ∧ n - kk ≤ gg ∧ s8 = .int .i64 kk ∧ Aside0 (Below w.heap.size w wr) ∧ Aside0 (∀ j, j < kk → pv j = false))
  case atStart => exact ⟨0, Nat.zero_le _, by omega, rfl, ⟨Below.refl _ w⟩, ⟨fun j hj => absurd hj (Nat.not_lt_zero _)⟩⟩
  case round =>
    obtain ⟨kk, hkk, hg, rfl, BW, HA⟩ := hrel
    by_cases hlt : kk < n
    · have hltz : (kk : Int) < (n : Int) := by omega
      obtain ⟨ad, rfl, hx0⟩ := HC.out kk hlt
      have hx := pw_cell_below BW.out hx0
      have hcall := HP.out kk hlt wr BW.out
      generalize hy : ev kk = y at hx hcall
      clear hy hx0
      cases hq : pv kk with
      | true =>
        rw [hq] at hcall
        go_wp2_with (go_at_fn g; refine hcall.mono ?_; rintro e w' ⟨rfl, hb'⟩)
        go_ret
        exact ⟨by rw [idx_hit pv n kk hlt hq HA.out]; rfl, below_step BW.out hb'⟩
      | false =>
        rw [hq] at hcall
        go_wp2_with (go_at_fn g; refine hcall.mono ?_; rintro e w' ⟨rfl, hb'⟩)
        go_roundg (n - (kk + 1))
        case measure => omega
        case rel =>
          refine ⟨kk + 1, by omega, by omega, by go_num, ⟨below_step BW.out hb'⟩, ⟨fun j hj => ?_⟩⟩
          by_cases e : j = kk
          · subst e
            exact hq
          · exact HA.out j (by omega)
    · have hltz : ¬ (kk : Int) < (n : Int) := by omega
      have : kk = n := by omega
      subst this
      go_wp2
      go_ret
      exact ⟨by rw [idx_miss pv kk HA.out]; rfl, BW.out⟩
set_option maxHeartbeats 4000000 in
theorem contains192 (g : Nat) (lb : Array Value) (eg : ∀ args w, (callFunc g args).run Try.prog w = .ok (.enter g args) w) (ev : Nat → Value) (pv : Nat → Bool)
    (A : Option Addr) (n c : Nat) (w : World) (hn : n ≤ 9223372036854775807)
    (hc : ∀ j, j < n → ∃ ad, A = some ad ∧ w.cell? (ad.add j) = some (ev j))
    (hp : ∀ j, j < n → ∀ W, Below w.heap.size w W → Calls Try.prog g (#[ev j] ++ lb) W fun e w' => e = .returned (.bool (pv j)) ∧ Below W.heap.size W w') :
    Calls Try.prog 180 #[.slice A n c, .func (.func g) #[] lb] w fun e w' => e = .returned (.bool ((List.range n).any pv)) ∧ Below w.heap.size w w' := by
  have H := Aside0.mk (index192 g lb eg ev pv A n c w hn hc hp)
  clear hc hp
  rw [← idx_any pv n]
  go_enter Try.func180, Try.ntmps180
  go_wp2_with (go_at_call 192; refine H.out.mono ?_; rintro e w' ⟨rfl, hb'⟩)
  go_ret
  exact ⟨rfl, hb'⟩
end Go.Proofs.Yteiiodlgdbiimaa.F
