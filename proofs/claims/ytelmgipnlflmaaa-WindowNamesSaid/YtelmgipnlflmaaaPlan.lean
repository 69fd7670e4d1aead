/-
  Package plan: what its small functions come to, for every plan of numbers. Conditions: those that stand ahead of each.
-/
import Derived.Test.YtelmgipnlflmaaaBase
namespace Go.Proofs.Ytelmgipnlflmaaa
open Go.RowKit

structure Plan where
  (nodes k slot sendOff window air dmin dmax rho pi cap delta queue burst payload horizon : Int)

def planC (p : Plan) : Array Value := #[.int .i64 p.nodes, .int .i64 p.k, .int .i64 p.slot, .int .i64 p.sendOff, .int .i64 p.window, .int .i64 p.air, .int .i64 p.dmin, .int .i64 p.dmax, .int .i64 p.rho, .int .i64 p.pi, .int .i64 p.cap, .int .i64 p.delta, .int .i64 p.queue, .int .i64 p.burst, .int .i64 p.payload, .int .i64 p.horizon]
abbrev planV (p : Plan) : Value := .agg (planC p)

def I64 (n : Int) : Prop := -9223372036854775808 ≤ n ∧ n ≤ 9223372036854775807
structure Plan.Wf (p : Plan) : Prop where
  (nodes : I64 p.nodes) (k : I64 p.k) (slot : I64 p.slot) (sendOff : I64 p.sendOff) (window : I64 p.window) (air : I64 p.air) (dmin : I64 p.dmin) (dmax : I64 p.dmax)
  (rho : I64 p.rho) (pi : I64 p.pi) (cap : I64 p.cap) (delta : I64 p.delta) (queue : I64 p.queue) (burst : I64 p.burst) (payload : I64 p.payload) (horizon : I64 p.horizon)

def Plan.R (p : Plan) : Int := p.nodes * p.slot
def Plan.e (p : Plan) : Int := p.dmax - p.dmin + 6
def Plan.g (p : Plan) : Int := 2 * (2 * p.R / p.rho + 4)
def Plan.a (p : Plan) : Int := 2 * (p.e + p.g)
def Plan.lPi (p : Plan) : Int := 2 * (p.a + p.g) + p.e
def Plan.lWindow (p : Plan) : Int := p.pi + p.e
def Plan.lCap (p : Plan) : Int := p.a + 2 * p.g + 2 * p.e
def Plan.lOff (p : Plan) : Int := p.window + p.cap + p.pi
def Plan.lSlot (p : Plan) : Int := p.sendOff + p.window + 2 * (p.dmax + p.air) + p.cap + p.pi + 8
def Plan.lDelta (p : Plan) : Int := ((p.queue + p.burst - 1) / p.burst + 3) * p.R + 2 * p.pi

def Plan.c1 (p : Plan) : Prop := 4 ≤ p.nodes ∧ p.nodes ≤ 16 ∧ 0 ≤ p.k ∧ 2 * p.k + 2 ≤ p.nodes
def Plan.c2 (p : Plan) : Prop := 1 ≤ p.air ∧ p.air ≤ 1048576 ∧ 0 ≤ p.dmin ∧ p.dmin ≤ p.dmax ∧ p.dmax ≤ 1048576
def Plan.c3 (p : Plan) : Prop := 1 ≤ p.slot ∧ p.slot ≤ 1048576 ∧ 4 ≤ p.rho ∧ p.rho ≤ 1048576
def Plan.c4 (p : Plan) : Prop := p.lPi ≤ p.pi ∧ p.pi ≤ 1048576
def Plan.c5 (p : Plan) : Prop := p.lWindow ≤ p.window ∧ p.window ≤ 1048576
def Plan.c6 (p : Plan) : Prop := p.lCap ≤ p.cap ∧ p.cap ≤ 1048576
def Plan.c7 (p : Plan) : Prop := p.lOff ≤ p.sendOff ∧ p.sendOff ≤ 1048576
def Plan.c8 (p : Plan) : Prop := p.lSlot ≤ p.slot
def Plan.c9 (p : Plan) : Prop := 1 ≤ p.queue ∧ p.queue ≤ 64 ∧ 1 ≤ p.burst ∧ p.burst ≤ 8 ∧ 1 ≤ p.payload ∧ p.payload ≤ 32
def Plan.c10 (p : Plan) : Prop := p.lDelta ≤ p.delta ∧ p.delta ≤ 64 * p.R
def Plan.c11 (p : Plan) : Prop := 40 * p.R ≤ p.horizon ∧ p.horizon ≤ 2147483648
instance (p : Plan) : Decidable p.c1 := by unfold Plan.c1; infer_instance
instance (p : Plan) : Decidable p.c2 := by unfold Plan.c2; infer_instance
instance (p : Plan) : Decidable p.c3 := by unfold Plan.c3; infer_instance
instance (p : Plan) : Decidable p.c4 := by unfold Plan.c4; infer_instance
instance (p : Plan) : Decidable p.c5 := by unfold Plan.c5; infer_instance
instance (p : Plan) : Decidable p.c6 := by unfold Plan.c6; infer_instance
instance (p : Plan) : Decidable p.c7 := by unfold Plan.c7; infer_instance
instance (p : Plan) : Decidable p.c8 := by unfold Plan.c8; infer_instance
instance (p : Plan) : Decidable p.c9 := by unfold Plan.c9; infer_instance
instance (p : Plan) : Decidable p.c10 := by unfold Plan.c10; infer_instance
instance (p : Plan) : Decidable p.c11 := by unfold Plan.c11; infer_instance

/-- Conditions 1 to 3. -/
structure Plan.Known (p : Plan) : Prop where
  (c1 : p.c1) (c2 : p.c2) (c3 : p.c3)

theorem R_bd {p : Plan} (h : p.Known) : 4 ≤ p.R ∧ p.R ≤ 16777216 := by
  obtain ⟨⟨h1, h2, _, _⟩, _, ⟨h3, h4, _, _⟩⟩ := h
  unfold Plan.R
  constructor
  · exact Int.le_trans (by omega) (Int.mul_le_mul h1 h3 (by omega) (by omega))
  · exact Int.le_trans (Int.mul_le_mul h2 h4 (by omega) (by omega)) (by omega)
theorem e_bd {p : Plan} (h : p.Known) : 6 ≤ p.e ∧ p.e ≤ 1048582 := by
  obtain ⟨_, ⟨_, _, h1, h2, h3⟩, _⟩ := h
  unfold Plan.e
  omega
theorem q_bd {p : Plan} (h : p.Known) : 0 ≤ 2 * p.R / p.rho ∧ 2 * p.R / p.rho ≤ 8388608 := by
  have hR := R_bd h
  obtain ⟨_, _, ⟨_, _, h3, h4⟩⟩ := h
  have h0 : 0 ≤ 2 * p.R / p.rho := Int.ediv_nonneg (by omega) (by omega)
  have h1 := Int.ediv_mul_le (2 * p.R) (b := p.rho) (by omega)
  have h2 : 2 * p.R / p.rho * 4 ≤ 2 * p.R / p.rho * p.rho := Int.mul_le_mul_of_nonneg_left h3 h0
  omega
theorem g_bd {p : Plan} (h : p.Known) : 8 ≤ p.g ∧ p.g ≤ 16777224 := by
  have := q_bd h
  unfold Plan.g
  omega
theorem a_bd {p : Plan} (h : p.Known) : 28 ≤ p.a ∧ p.a ≤ 35651612 := by
  have := g_bd h
  have := e_bd h
  unfold Plan.a
  omega

def inB (n a b : Int) : Bool := decide (a ≤ n) && decide (n ≤ b)
theorem inB_true {n a b : Int} (h1 : a ≤ n) (h2 : n ≤ b) : inB n a b = true := by simp [inB, h1, h2]
theorem inB_false {n a b : Int} (h : ¬ (a ≤ n ∧ n ≤ b)) : inB n a b = false := by
  simp only [inB, Bool.and_eq_false_iff, decide_eq_false_iff_not]
  omega
theorem inB_iff {n a b : Int} : inB n a b = true ↔ a ≤ n ∧ n ≤ b := by simp [inB]
theorem inB_dec (n a b : Int) : inB n a b = decide (a ≤ n ∧ n ≤ b) := by simp [inB]
set_option maxHeartbeats 400000 in
theorem in_any (n a b : Int) (w : World) :
    Calls Try.prog 101 #[.int .i64 n, .int .i64 a, .int .i64 b] w fun e w' => e = .returned (.bool (inB n a b)) ∧ w = w' := by
  by_cases h : a ≤ n
  · go_enter Try.func101, Try.ntmps101
    go_wp2
    go_ret
    exact ⟨by simp [inB, h], rfl⟩
  · go_enter Try.func101, Try.ntmps101
    go_wp2
    go_ret
    exact ⟨by simp [inB]; omega, rfl⟩

set_option maxHeartbeats 400000 in
theorem nodes_any (p : Plan) (w : World) :
    Calls Try.prog 72 #[planV p] w fun e w' => e = .returned (.bool (decide p.c1)) ∧ Grow w w' := by
  unfold planV planC
  by_cases h : inB p.nodes 4 16 = true
  · have h' := inB_iff.1 h
    have hb1 := h'.1
    have hb2 := h'.2
    clear h'
    go_enter Try.func72, Try.ntmps72
    go_wp2_with (go_at_call 101; refine (in_any _ _ _ _).mono ?_; rintro e w' ⟨rfl, rfl⟩)
    go_ret
    refine ⟨ret_bool ?_, (Grow.refl _).alloc _⟩
    rw [inB_dec, decide_eq_decide]
    unfold Plan.c1
    omega
  · have h0 : inB p.nodes 4 16 = false := by simpa using h
    clear h
    go_enter Try.func72, Try.ntmps72
    go_wp2_with (go_at_call 101; refine (in_any _ _ _ _).mono ?_; rintro e w' ⟨rfl, rfl⟩)
    go_ret
    refine ⟨ret_bool ?_, (Grow.refl _).alloc _⟩
    symm
    rw [decide_eq_false_iff_not]
    intro hc
    rw [inB_true hc.1 hc.2.1] at h0
    cases h0
set_option maxHeartbeats 400000 in
theorem slot_any (p : Plan) (w : World) :
    Calls Try.prog 74 #[planV p] w fun e w' => e = .returned (.bool (decide p.c3)) ∧ Grow w w' := by
  unfold planV planC
  by_cases h : inB p.slot 1 1048576 = true
  · have h' := inB_iff.1 h
    have hb1 := h'.1
    have hb2 := h'.2
    clear h'
    go_enter Try.func74, Try.ntmps74
    go_wp2_with (go_at_call 101; refine (in_any _ _ _ _).mono ?_; rintro e w' ⟨rfl, rfl⟩)
    go_ret
    refine ⟨ret_bool ?_, (Grow.refl _).alloc _⟩
    rw [inB_dec, decide_eq_decide]
    unfold Plan.c3
    omega
  · have h0 : inB p.slot 1 1048576 = false := by simpa using h
    clear h
    go_enter Try.func74, Try.ntmps74
    go_wp2_with (go_at_call 101; refine (in_any _ _ _ _).mono ?_; rintro e w' ⟨rfl, rfl⟩)
    go_ret
    refine ⟨ret_bool ?_, (Grow.refl _).alloc _⟩
    symm
    rw [decide_eq_false_iff_not]
    intro hc
    rw [inB_true hc.1 hc.2.1] at h0
    cases h0
theorem c2_of {p : Plan} (h1 : inB p.air 1 1048576 = true) (h2 : 0 ≤ p.dmin) : inB p.dmax p.dmin 1048576 = decide p.c2 := by
  have := inB_iff.1 h1
  rw [inB_dec, decide_eq_decide]
  unfold Plan.c2
  omega
theorem c2_not1 {p : Plan} (h1 : inB p.air 1 1048576 = false) : false = decide p.c2 := by
  symm
  rw [decide_eq_false_iff_not]
  intro hc
  rw [inB_true hc.1 hc.2.1] at h1
  cases h1
theorem c2_not2 {p : Plan} (h1 : p.dmin < 0) : false = decide p.c2 := by
  symm
  rw [decide_eq_false_iff_not]
  intro hc
  have := hc.2.2.1
  omega
set_option maxHeartbeats 400000 in
theorem air_any (p : Plan) (w : World) :
    Calls Try.prog 73 #[planV p] w fun e w' => e = .returned (.bool (decide p.c2)) ∧ Grow w w' := by
  unfold planV planC
  cases h : inB p.air 1 1048576
  · go_enter Try.func73, Try.ntmps73
    go_wp2_with (go_at_call 101; refine (in_any _ _ _ _).mono ?_; rintro e w' ⟨rfl, rfl⟩)
    go_ret
    exact ⟨ret_bool (c2_not1 h), (Grow.refl _).alloc _⟩
  · by_cases h2 : 0 ≤ p.dmin
    · go_enter Try.func73, Try.ntmps73
      go_wp2_with (go_at_call 101; refine (in_any _ _ _ _).mono ?_; rintro e w' ⟨rfl, rfl⟩)
      go_ret
      exact ⟨ret_bool (c2_of h h2), (Grow.refl _).alloc _⟩
    · go_enter Try.func73, Try.ntmps73
      go_wp2_with (go_at_call 101; refine (in_any _ _ _ _).mono ?_; rintro e w' ⟨rfl, rfl⟩)
      go_ret
      exact ⟨ret_bool (c2_not2 h2), (Grow.refl _).alloc _⟩
theorem c9_of {p : Plan} (h1 : inB p.queue 1 64 = true) (h2 : inB p.burst 1 8 = true) : inB p.payload 1 32 = decide p.c9 := by
  have := inB_iff.1 h1
  have := inB_iff.1 h2
  rw [inB_dec, decide_eq_decide]
  unfold Plan.c9
  omega
theorem c9_not1 {p : Plan} (h1 : inB p.queue 1 64 = false) : false = decide p.c9 := by
  symm
  rw [decide_eq_false_iff_not]
  intro hc
  rw [inB_true hc.1 hc.2.1] at h1
  cases h1
theorem c9_not2 {p : Plan} (h1 : inB p.burst 1 8 = false) : false = decide p.c9 := by
  symm
  rw [decide_eq_false_iff_not]
  intro hc
  rw [inB_true hc.2.2.1 hc.2.2.2.1] at h1
  cases h1
set_option maxHeartbeats 400000 in
theorem queue_any (p : Plan) (w : World) :
    Calls Try.prog 80 #[planV p] w fun e w' => e = .returned (.bool (decide p.c9)) ∧ Grow w w' := by
  unfold planV planC
  cases h : inB p.queue 1 64
  · go_enter Try.func80, Try.ntmps80
    go_wp2_with (go_at_call 101; refine (in_any _ _ _ _).mono ?_; rintro e w' ⟨rfl, rfl⟩)
    go_ret
    exact ⟨ret_bool (c9_not1 h), (Grow.refl _).alloc _⟩
  · cases h2 : inB p.burst 1 8
    · go_enter Try.func80, Try.ntmps80
      go_wp2_with (go_at_call 101; refine (in_any _ _ _ _).mono ?_; rintro e w' ⟨rfl, rfl⟩)
      go_ret
      exact ⟨ret_bool (c9_not2 h2), (Grow.refl _).alloc _⟩
    · go_enter Try.func80, Try.ntmps80
      go_wp2_with (go_at_call 101; refine (in_any _ _ _ _).mono ?_; rintro e w' ⟨rfl, rfl⟩)
      go_ret
      exact ⟨ret_bool (c9_of h h2), (Grow.refl _).alloc _⟩
end Go.Proofs.Ytelmgipnlflmaaa
