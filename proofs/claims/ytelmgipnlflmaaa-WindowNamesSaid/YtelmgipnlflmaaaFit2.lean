/-
  plan.Fit at the wishes of the chapters' examples: 4 nodes, one faulty, payloads of up to 32 bytes. Condition: the payload's bound.
-/
import Derived.Test.YtelmgipnlflmaaaFit
import Derived.LoopN
namespace Go.Proofs.Ytelmgipnlflmaaa
open Go.RowKit

def wishP (pl : Int) : Plan := ⟨4, 1, 0, 0, 0, 1, 1, 3, 100000, 0, 0, 0, 2, 1, pl, 0⟩
def L0 (pl : Int) : Plan := ⟨4, 1, 1, 0, 0, 1, 1, 3, 100000, 0, 0, 0, 2, 1, pl, 0⟩
def L1 (pl : Int) : Plan := ⟨4, 1, 1, 248, 96, 1, 1, 3, 100000, 88, 64, 196, 2, 1, pl, 160⟩
def L2 (pl : Int) : Plan := ⟨4, 1, 512, 248, 96, 1, 1, 3, 100000, 88, 64, 196, 2, 1, pl, 160⟩
def fitP (pl : Int) : Plan := ⟨4, 1, 512, 248, 96, 1, 1, 3, 100000, 88, 64, 10416, 2, 1, pl, 81920⟩

theorem known_lit {p : Plan} (h1 : decide p.c1 = true) (h2 : decide p.c2 = true) (h3 : decide p.c3 = true) : p.Known := ⟨of_decide_eq_true h1, of_decide_eq_true h2, of_decide_eq_true h3⟩
theorem leasts_one (pl : Int) (h1 : 1 ≤ pl) (h2 : pl ≤ 32) : Leasts (L0 pl) (L0 pl).s1 (L0 pl).s1.s2 (L0 pl).s1.s2.s3 (L0 pl).s1.s2.s3.s4 (L0 pl).s1.s2.s3.s4.s5 (L1 pl) where
  e1 := rfl
  e2 := rfl
  e3 := rfl
  e4 := rfl
  e5 := rfl
  e6 := by kernel_rfl
  k := known_lit (by kernel_rfl) (by kernel_rfl) (by kernel_rfl)
  k1 := known_lit (by kernel_rfl) (by kernel_rfl) (by kernel_rfl)
  k2 := known_lit (by kernel_rfl) (by kernel_rfl) (by kernel_rfl)
  k3 := known_lit (by kernel_rfl) (by kernel_rfl) (by kernel_rfl)
  k4 := known_lit (by kernel_rfl) (by kernel_rfl) (by kernel_rfl)
  k5 := known_lit (by kernel_rfl) (by kernel_rfl) (by kernel_rfl)
  k6 := known_lit (by kernel_rfl) (by kernel_rfl) (by kernel_rfl)
  a1 := of_decide_eq_true (by kernel_rfl)
  a3 := of_decide_eq_true (by kernel_rfl)
  a4 := of_decide_eq_true (by kernel_rfl)
  b3 := of_decide_eq_true (by kernel_rfl)
  b4 := ⟨by show (1 : Int) ≤ 2; omega, by show (2 : Int) ≤ 64; omega, by show (1 : Int) ≤ 1; omega, by show (1 : Int) ≤ 8; omega, h1, h2⟩
  c3 := of_decide_eq_true (by kernel_rfl)
theorem leasts_two (pl : Int) (h1 : 1 ≤ pl) (h2 : pl ≤ 32) : Leasts (L2 pl) (L2 pl).s1 (L2 pl).s1.s2 (L2 pl).s1.s2.s3 (L2 pl).s1.s2.s3.s4 (L2 pl).s1.s2.s3.s4.s5 (fitP pl) where
  e1 := rfl
  e2 := rfl
  e3 := rfl
  e4 := rfl
  e5 := rfl
  e6 := by kernel_rfl
  k := known_lit (by kernel_rfl) (by kernel_rfl) (by kernel_rfl)
  k1 := known_lit (by kernel_rfl) (by kernel_rfl) (by kernel_rfl)
  k2 := known_lit (by kernel_rfl) (by kernel_rfl) (by kernel_rfl)
  k3 := known_lit (by kernel_rfl) (by kernel_rfl) (by kernel_rfl)
  k4 := known_lit (by kernel_rfl) (by kernel_rfl) (by kernel_rfl)
  k5 := known_lit (by kernel_rfl) (by kernel_rfl) (by kernel_rfl)
  k6 := known_lit (by kernel_rfl) (by kernel_rfl) (by kernel_rfl)
  a1 := of_decide_eq_true (by kernel_rfl)
  a3 := of_decide_eq_true (by kernel_rfl)
  a4 := of_decide_eq_true (by kernel_rfl)
  b3 := of_decide_eq_true (by kernel_rfl)
  b4 := ⟨by show (1 : Int) ≤ 2; omega, by show (2 : Int) ≤ 64; omega, by show (1 : Int) ≤ 1; omega, by show (1 : Int) ≤ 8; omega, h1, h2⟩
  c3 := of_decide_eq_true (by kernel_rfl)
theorem fit_ok (pl : Int) (h1 : 1 ≤ pl) (h2 : pl ≤ 32) : (fitP pl).Ok where
  c1 := of_decide_eq_true (by kernel_rfl)
  c2 := of_decide_eq_true (by kernel_rfl)
  c3 := of_decide_eq_true (by kernel_rfl)
  c4 := of_decide_eq_true (by kernel_rfl)
  c5 := of_decide_eq_true (by kernel_rfl)
  c6 := of_decide_eq_true (by kernel_rfl)
  c7 := of_decide_eq_true (by kernel_rfl)
  c8 := of_decide_eq_true (by kernel_rfl)
  c9 := ⟨by show (1 : Int) ≤ 2; omega, by show (2 : Int) ≤ 64; omega, by show (1 : Int) ≤ 1; omega, by show (1 : Int) ≤ 8; omega, h1, h2⟩
  c10 := of_decide_eq_true (by kernel_rfl)
  c11 := of_decide_eq_true (by kernel_rfl)

theorem lSlot_lit (p : Plan) (v : Int) (hv : p.lSlot = v) (h : p.Known) (h4 : decide p.c4 = true) (h5 : decide p.c5 = true) (h6 : decide p.c6 = true) (h7 : decide p.c7 = true) (w : World) :
    Calls Try.prog 82 #[planV p] w fun e w' => e = .returned (.int .i64 v) ∧ Grow w w' := by
  rw [← hv]
  exact lSlot_any p h (of_decide_eq_true h4) (of_decide_eq_true h5) (of_decide_eq_true h6) (of_decide_eq_true h7) w

end Go.Proofs.Ytelmgipnlflmaaa
