/-
  vespersref16.Same, window.Sign. No condition.
-/
import Derived.Test.YtelmgipnlflmaaaKeep
import Derived.Deep.QuietTactic
import Derived.BigQuiet
import Derived.LoopTactic
namespace Go.Proofs.Ytelmgipnlflmaaa
open Go.RowKit Go.Shelf

/-- A slice's whole numbers. -/
def IntsAt (w : World) (a : Option Addr) (n : Nat) (z : Nat → Int) : Prop := ∀ k, k < n → ∃ b o, a = some ⟨b, o, none⟩ ∧ w.cell? ⟨b, o + k, none⟩ = some (.int .i64 (z k))
def sameB (n m : Nat) (x y : Nat → Int) : Bool := decide (n = m ∧ ∀ k, k < n → x k = y k)
theorem IntsAt.grow {w W : World} {a : Option Addr} {n : Nat} {z : Nat → Int} (h : IntsAt w a n z) (hg : Grow w W) : IntsAt W a n z := by
  intro k hk
  obtain ⟨b, o, ha, hc⟩ := h k hk
  exact ⟨b, o, ha, (hg.cells.1 _ _ (lt_of_cell hc)).trans hc⟩
theorem IntsAt.own {w : World} {base : Nat} {e : TypeId} {v : Value} {xs : List Int} (h : w.ownsRow base e 1 v xs.length (xs.map (.int .i64))) : ∃ a c, v = .slice a xs.length c ∧ IntsAt w a xs.length (fun k => xs.getD k 0) := by
  have hc := fun g hg => h.cells (g := g) hg
  rcases h.2 with ⟨rfl, h0⟩ | ⟨g, cap, cur, rfl, _⟩
  · exact ⟨none, 0, by rw [h0], fun k hk => by omega⟩
  · refine ⟨_, _, rfl, fun k hk => ⟨g, 0, rfl, ?_⟩⟩
    have := hc g rfl k (.int .i64 (xs.getD k 0)) (by simp [hk])
    have ha : (⟨g, 0, none⟩ : Addr).add k = ⟨g, 0 + k, none⟩ := by unfold Addr.add; split <;> simp_all
    rw [← ha]
    exact this
theorem Grow.drewN {w W : World} (h : Grow w W) (n : Nat) : Grow w (W.drewN n) := by
  induction n with
  | zero => exact h
  | succ n ih => exact ih.drew
set_option maxRecDepth 100000 in
set_option maxHeartbeats 600000 in
theorem Same_any (a b : Option Addr) (n m c d : Nat) (hn : n ≤ 65536) (hm : m ≤ 65536) (x y : Nat → Int) (w : World) (hx : IntsAt w a n x) (hy : IntsAt w b m y) :
    Calls Try.prog 26 #[.slice a n c, .slice b m d] w fun e w' => e = .returned (.bool (sameB n m x y)) ∧ Grow w w' := by
  by_cases hnm : n = m
  · subst hnm
    have hx := Lib.hid hx
    have hy := Lib.hid hy
    go_enter Try.func26, Try.ntmps26
    go_wp2
    go_loopw [5] (fun s5 wr => ∃ k : Nat, k ≤ n ∧ s5 = .int .i64 k ∧ Grow w wr ∧ ∀ j, j < k → x j = y j) (fun s5 _ => n - (intOf s5).toNat)
    case atStart => exact ⟨0, Nat.zero_le _, rfl, Grow.refl _, fun j hj => by omega⟩
    case round =>
      obtain ⟨k, hk, rfl, hg, hall⟩ := hrel
      by_cases hlt : k < n
      · obtain ⟨b1, o1, rfl, hc1⟩ := (hx.out.grow hg) k hlt
        obtain ⟨b2, o2, rfl, hc2⟩ := (hy.out.grow hg) k hlt
        generalize hxk : x k = u at *
        generalize hyk : y k = v at *
        have hki : (k : Int) < (n : Int) := by omega
        by_cases hne : u = v
        · subst hne
          go_wp2
          go_quiet (fail)
          go_wp2
          go_roundw
          case rel => exact ⟨k + 1, by omega, by go_num, (hg.drewN _), fun j hj => by
            by_cases e : j = k
            · rw [e, hxk, hyk]
            · exact hall j (by omega)⟩
          case measure => simp [intOf]; omega
        · have hb : (u != v) = true := by simpa using hne
          have hb2 : (u == v) = false := by simpa using hne
          go_wp2
          go_quiet (fail)
          go_wp2
          go_ret
          refine ⟨?_, (hg.drewN _)⟩
          apply ret_bool
          unfold sameB
          symm
          rw [decide_eq_false_iff_not]
          intro hh
          exact hne (by rw [← hxk, ← hyk]; exact hh.2 k hlt)
      · obtain rfl : k = n := by omega
        go_wp2
        go_ret
        refine ⟨ret_bool ?_, hg⟩
        unfold sameB
        symm
        rw [decide_eq_true_iff]
        exact ⟨rfl, hall⟩
  · have hb : ((n : Int) != (m : Int)) = true := by rw [bne_iff_ne]; omega
    have hb2 : ((n : Int) == (m : Int)) = false := by rw [beq_eq_false_iff_ne]; omega
    go_enter Try.func26, Try.ntmps26
    go_wp2
    go_ret
    refine ⟨ret_bool ?_, Grow.refl _⟩
    unfold sameB
    symm
    rw [decide_eq_false_iff_not]
    exact fun hh => hnm hh.1

def cmpN (x y : Int) : Int := if x < y then -1 else if y < x then 1 else 0
set_option maxHeartbeats 400000 in
theorem isNaN_any (x : Int) (w : World) : Calls Try.prog 85 #[.int .i64 x] w fun e w' => e = .returned (.bool false) ∧ w = w' := by
  go_enter Try.func85, Try.ntmps85
  go_wp2
  go_ret
  exact ⟨by simp, rfl⟩
set_option maxHeartbeats 400000 in
theorem Compare_any (x y : Int) (w : World) : Calls Try.prog 60 #[.int .i64 x, .int .i64 y] w fun e w' => e = .returned (.int .i64 (cmpN x y)) ∧ Grow w w' := by
  unfold cmpN
  by_cases h1 : x < y
  · rw [if_pos h1]
    go_enter Try.func60, Try.ntmps60
    go_wp2_with (go_at_call 85; refine (isNaN_any _ _).mono ?_; rintro e w1 ⟨rfl, rfl⟩)
    go_ret
    exact ⟨rfl, Grow.refl _⟩
  · rw [if_neg h1]
    by_cases h2 : y < x
    · rw [if_pos h2]
      go_enter Try.func60, Try.ntmps60
      go_wp2_with (go_at_call 85; refine (isNaN_any _ _).mono ?_; rintro e w1 ⟨rfl, rfl⟩)
      go_ret
      exact ⟨rfl, Grow.refl _⟩
    · rw [if_neg h2]
      go_enter Try.func60, Try.ntmps60
      go_wp2_with (go_at_call 85; refine (isNaN_any _ _).mono ?_; rintro e w1 ⟨rfl, rfl⟩)
      go_ret
      exact ⟨rfl, Grow.refl _⟩
set_option maxHeartbeats 400000 in
theorem Sign_any (x : Int) (w : World) : Calls Try.prog 29 #[.int .i64 x] w fun e w' => e = .returned (.int .i64 (cmpN x 0)) ∧ Grow w w' := by
  go_enter Try.func29, Try.ntmps29
  go_wp2_with (go_at_call 60; refine (Compare_any _ _ _).mono ?_; rintro e w1 ⟨rfl, hg⟩)
  go_ret
  exact ⟨rfl, hg⟩
end Go.Proofs.Ytelmgipnlflmaaa
