/-
  Plain law: a clock that keeps a plan's bound, and is set by at most the cap each time with a round but the cap between, stays within the envelope. Conditions: those that stand ahead of each.
-/
import Derived.Test.YtelmgipnlflmaaaBounds
import Derived.Test.YtelmgipnlflmaaaRate2
namespace Go.Proofs.Ytelmgipnlflmaaa
open Go.RowKit

theorem cancel_le {a b k : Int} (hk : 0 < k) (h : k * a ≤ k * b) : a ≤ b := Int.le_of_mul_le_mul_left h hk
theorem gone_lo {n d rho t : Int} (hd : 1 ≤ d) (hr : 1 ≤ rho) (ht : 0 ≤ t) (h : d * (rho - 1) ≤ n * rho) : t * (rho - 1) / rho ≤ n * t / d := by
  refine (Int.le_ediv_iff_mul_le (by omega)).2 (cancel_le (k := rho) (by omega) ?_)
  have h1 : t * (rho - 1) / rho * rho ≤ t * (rho - 1) := Int.ediv_mul_le _ (by omega)
  have h2 : t * (rho - 1) / rho * rho * d ≤ t * (rho - 1) * d := Int.mul_le_mul_of_nonneg_right h1 (by omega)
  have h3 : t * (d * (rho - 1)) ≤ t * (n * rho) := Int.mul_le_mul_of_nonneg_left h ht
  have e1 : rho * (t * (rho - 1) / rho * d) = t * (rho - 1) / rho * rho * d := by
    generalize t * (rho - 1) / rho = z
    rw [← Int.mul_assoc, Int.mul_comm rho z]
  have e2 : t * (rho - 1) * d = t * (d * (rho - 1)) := by rw [Int.mul_assoc, Int.mul_comm (rho - 1) d]
  have e3 : rho * (n * t) = t * (n * rho) := by
    rw [Int.mul_comm n t, ← Int.mul_assoc, Int.mul_comm rho t, Int.mul_assoc, Int.mul_comm rho n]
  rw [e1, e3]
  rw [e2] at h2
  exact Int.le_trans h2 h3
theorem gone_hi {n d rho t : Int} (hd : 1 ≤ d) (hr : 1 ≤ rho) (ht : 0 ≤ t) (h : n * rho ≤ d * (rho + 1)) : n * t / d ≤ (t * (rho + 1) + rho - 1) / rho := by
  refine (Int.le_ediv_iff_mul_le (by omega)).2 ?_
  have h1 : n * t / d * d ≤ n * t := Int.ediv_mul_le _ (by omega)
  have h2 : n * t / d * d * rho ≤ n * t * rho := Int.mul_le_mul_of_nonneg_right h1 (by omega)
  have h3 : t * (n * rho) ≤ t * (d * (rho + 1)) := Int.mul_le_mul_of_nonneg_left h ht
  have h4 : n * t / d * rho ≤ t * (rho + 1) := by
    refine cancel_le (k := d) (by omega) ?_
    have e1 : d * (n * t / d * rho) = n * t / d * d * rho := by
      generalize n * t / d = z
      rw [← Int.mul_assoc, Int.mul_comm d z]
    have e2 : n * t * rho = t * (n * rho) := by rw [Int.mul_comm n t, Int.mul_assoc]
    have e3 : d * (t * (rho + 1)) = t * (d * (rho + 1)) := by rw [← Int.mul_assoc, Int.mul_comm d t, Int.mul_assoc]
    rw [e1, e3]
    rw [e2] at h2
    exact Int.le_trans h2 h3
  omega
theorem ticks_ge {n d x : Int} (hn : 1 ≤ n) (hd : 1 ≤ d) : x ≤ n * ((x * d + n - 1) / n) / d := by
  refine (Int.le_ediv_iff_mul_le (by omega)).2 ?_
  have h := Int.lt_ediv_add_one_mul_self (x * d + n - 1) (show 0 < n by omega)
  rw [Int.add_mul] at h
  rw [Int.mul_comm n]
  omega
theorem gap_q {n d rho A T D : Int} (hn : 1 ≤ n) (hd : 1 ≤ d) (hr : 1 ≤ rho) (hD : 1 ≤ D) (h : n * rho ≤ d * (rho + 1)) (hg : n * A / d + D ≤ n * T / d) : (D - 1) * rho / (rho + 1) ≤ T - A ∧ 0 < T - A := by
  have h1 : n * T / d * d ≤ n * T := Int.ediv_mul_le _ (by omega)
  have h2 := Int.lt_ediv_add_one_mul_self (n * A) (show 0 < d by omega)
  have h3 : (n * A / d + D) * d ≤ n * T / d * d := Int.mul_le_mul_of_nonneg_right hg (by omega)
  rw [Int.add_mul] at h2 h3
  have e0 : n * (T - A) = n * T - n * A := Int.mul_sub n T A
  have e1 : (D - 1) * d = D * d - d := by rw [Int.sub_mul, Int.one_mul]
  have h4 : (D - 1) * d < n * (T - A) := by omega
  have h5 : 0 ≤ (D - 1) * d := Int.mul_nonneg (by omega) (by omega)
  have h6 : 0 < T - A := by
    refine Int.lt_of_not_ge fun hle => ?_
    have : n * (T - A) ≤ n * 0 := Int.mul_le_mul_of_nonneg_left hle (by omega)
    omega
  refine ⟨Int.ediv_le_of_le_mul (by omega) (cancel_le (k := d) (by omega) ?_), h6⟩
  have h7 : (D - 1) * d * rho ≤ n * (T - A) * rho := Int.mul_le_mul_of_nonneg_right (by omega) (by omega)
  have h8 : n * rho * (T - A) ≤ d * (rho + 1) * (T - A) := Int.mul_le_mul_of_nonneg_right h (by omega)
  have e2 : d * ((D - 1) * rho) = (D - 1) * d * rho := by rw [← Int.mul_assoc, Int.mul_comm d]
  have e3 : n * (T - A) * rho = n * rho * (T - A) := by rw [Int.mul_assoc, Int.mul_comm (T - A), ← Int.mul_assoc]
  have e4 : d * ((T - A) * (rho + 1)) = d * (rho + 1) * (T - A) := by rw [Int.mul_comm (T - A), ← Int.mul_assoc]
  rw [e2, e4]
  rw [e3] at h7
  exact Int.le_trans h7 h8

/-- The rate of the law's clock. -/
def lawNum (rho num : Int) : Int := 65536 - 65536 / rho + num % (2 * (65536 / rho) + 1)
theorem lawNum_bd {rho num : Int} (h1 : 4 ≤ rho) (_ : 0 ≤ num) : 0 ≤ 65536 / rho ∧ 65536 / rho ≤ 16384 ∧ 0 ≤ num % (2 * (65536 / rho) + 1) ∧ num % (2 * (65536 / rho) + 1) ≤ 2 * (65536 / rho) ∧
    65536 * (rho - 1) ≤ lawNum rho num * rho ∧ lawNum rho num * rho ≤ 65536 * (rho + 1) := by
  have a1 : 0 ≤ 65536 / rho := Int.ediv_nonneg (by omega) (by omega)
  have a2 : 65536 / rho * rho ≤ 65536 := Int.ediv_mul_le _ (by omega)
  have a3 : 65536 / rho * 4 ≤ 65536 / rho * rho := Int.mul_le_mul_of_nonneg_left h1 a1
  have a4 := Int.emod_nonneg num (show 2 * (65536 / rho) + 1 ≠ 0 by omega)
  have a5 := Int.emod_lt_of_pos num (show 0 < 2 * (65536 / rho) + 1 by omega)
  refine ⟨a1, by omega, a4, by omega, ?_, ?_⟩
  · have : (65536 - 65536 / rho) * rho ≤ lawNum rho num * rho := Int.mul_le_mul_of_nonneg_right (by unfold lawNum; omega) (by omega)
    rw [Int.sub_mul] at this
    omega
  · have : lawNum rho num * rho ≤ (65536 + 65536 / rho) * rho := Int.mul_le_mul_of_nonneg_right (by unfold lawNum; omega) (by omega)
    rw [Int.add_mul] at this
    omega
theorem lawClk_fine {rho num on : Int} (h1 : 4 ≤ rho) (h2 : 0 ≤ num) (h3 : 0 ≤ on) (h4 : on ≤ 65535) (adj : Int) : (⟨lawNum rho num, 65536, on, adj⟩ : Clk).Fine := by
  have := lawNum_bd h1 h2
  have e : lawNum rho num = 65536 - 65536 / rho + num % (2 * (65536 / rho) + 1) := rfl
  exact ⟨show (1 : Int) ≤ 65536 by decide, show (65536 : Int) ≤ 65536 by decide, show 1 ≤ lawNum rho num by omega, show lawNum rho num ≤ 2 * 65536 by omega, h3, show on ≤ 4294967296 by omega⟩

/-- How far the law has come behind k corrections. -/
structure Kept (p : Plan) (num on adj t : Int) (k : Nat) : Prop where
  (adj1 : -(p.cap * k) ≤ adj) (adj2 : adj ≤ p.cap * k) (t1 : on ≤ t) (t2 : t ≤ on + 2147483648) (q : reL p.rho (p.R - p.cap) * k ≤ t - on)
theorem kept_env {p : Plan} {num on adj t : Int} {k : Nat} (h : p.Ok) (hn : 0 ≤ num) (hk : Kept p num on adj t k) :
    enL p.rho p.R p.cap (t - on) ≤ (⟨lawNum p.rho num, 65536, on, adj⟩ : Clk).at t ∧ (⟨lawNum p.rho num, 65536, on, adj⟩ : Clk).at t ≤ enM p.rho p.R p.cap (t - on) := by
  have hr := h.c3.2.2.1
  obtain ⟨_, _, _, _, l1, l2⟩ := lawNum_bd hr hn
  have g1 := gone_lo (n := lawNum p.rho num) (d := 65536) (rho := p.rho) (t := t - on) (by omega) (by omega) (by have := hk.t1; omega) l1
  have g2 := gone_hi (n := lawNum p.rho num) (d := 65536) (rho := p.rho) (t := t - on) (by omega) (by omega) (by have := hk.t1; omega) l2
  have hq := reL_bd hr (rc_bd h).1 (rc_bd h).2
  have hc := cap_lt h
  have ht : (k : Int) ≤ (t - on) / reL p.rho (p.R - p.cap) := (Int.le_ediv_iff_mul_le (by omega)).2 (by rw [Int.mul_comm]; exact hk.q)
  have hm : p.cap * k ≤ p.cap * turnsN p.rho p.R p.cap (t - on) := Int.mul_le_mul_of_nonneg_left (by unfold turnsN; omega) (by omega)
  have ha1 := hk.adj1
  have ha2 := hk.adj2
  have hl : goL p.rho (t - on) ≤ lawNum p.rho num * (t - on) / 65536 := by
    have h0 : 0 ≤ lawNum p.rho num * (t - on) / 65536 := by
      refine Int.ediv_nonneg (Int.mul_nonneg ?_ (by have := hk.t1; omega)) (by omega)
      have := lawNum_bd hr hn
      unfold lawNum
      omega
    unfold goL mx
    split <;> omega
  unfold Clk.at Clk.gone enL enM goM
  constructor <;> simp only <;> omega
theorem kept_zero (p : Plan) (num on : Int) : Kept p num on 0 on 0 := ⟨by simp, by simp, by omega, by omega, by simp⟩
theorem at_zero (rho num on : Int) : (⟨lawNum rho num, 65536, on, 0⟩ : Clk).at on = 0 := by
  unfold Clk.at Clk.gone
  simp
/-- One correction more. -/
theorem kept_step {p : Plan} {num on adj t nxt b : Int} {k : Nat} (h : p.Ok) (hn : 0 ≤ num) (hk : Kept p num on adj t k)
    (hx : (⟨lawNum p.rho num, 65536, on, adj⟩ : Clk).at t + (p.R - p.cap) ≤ nxt) (hT : (⟨lawNum p.rho num, 65536, on, adj⟩ : Clk).ticks (nxt - adj) ≤ 2147483648) (hb1 : -p.cap ≤ b) (hb2 : b ≤ p.cap) :
    adj < nxt ∧ t < on + (⟨lawNum p.rho num, 65536, on, adj⟩ : Clk).ticks (nxt - adj) ∧ Kept p num on (adj + b) (on + (⟨lawNum p.rho num, 65536, on, adj⟩ : Clk).ticks (nxt - adj)) (k + 1) := by
  have hr := h.c3.2.2.1
  obtain ⟨m1, m2, m3, m4, l1, l2⟩ := lawNum_bd hr hn
  have hN : 1 ≤ lawNum p.rho num := by unfold lawNum; omega
  have hrc := rc_bd h
  have hc := cap_lt h
  have hg0 : 0 ≤ lawNum p.rho num * (t - on) / 65536 := Int.ediv_nonneg (Int.mul_nonneg (by omega) (by have := hk.t1; omega)) (by omega)
  have hge := ticks_ge (x := nxt - adj) hN (show (1 : Int) ≤ 65536 by omega)
  unfold Clk.at Clk.gone at hx
  unfold Clk.ticks at *
  simp only at *
  have hgap := gap_q (n := lawNum p.rho num) (d := 65536) (rho := p.rho) (A := t - on) (D := p.R - p.cap) hN (by omega) (by omega) (by omega) l2 (Int.le_trans (by omega) hge)
  generalize ((nxt - adj) * 65536 + lawNum p.rho num - 1) / lawNum p.rho num = T at *
  refine ⟨by omega, by omega, ?_⟩
  have hq := hk.q
  have ht1 := hk.t1
  have e1 : p.cap * ((k + 1 : Nat) : Int) = p.cap * k + p.cap := by push_cast; rw [Int.mul_add, Int.mul_one]
  have e2 : reL p.rho (p.R - p.cap) * ((k + 1 : Nat) : Int) = reL p.rho (p.R - p.cap) * k + reL p.rho (p.R - p.cap) := by push_cast; rw [Int.mul_add, Int.mul_one]
  have e3 : reL p.rho (p.R - p.cap) = (p.R - p.cap - 1) * p.rho / (p.rho + 1) := rfl
  have ha1 := hk.adj1
  have ha2 := hk.adj2
  exact ⟨by rw [e1]; omega, by rw [e1]; omega, by omega, by omega, by rw [e2]; omega⟩
theorem tmod_bd (a : Int) {m : Int} (hm : 0 < m) : -(m - 1) ≤ a.tmod m ∧ a.tmod m ≤ m - 1 := by
  rcases Int.le_total 0 a with h | h
  · rw [Int.tmod_eq_emod_of_nonneg h]
    have := Int.emod_nonneg a (show m ≠ 0 by omega)
    have := Int.emod_lt_of_pos a hm
    omega
  · have e : a.tmod m = -((-a).tmod m) := by rw [Int.neg_tmod]; omega
    rw [e, Int.tmod_eq_emod_of_nonneg (show 0 ≤ -a by omega)]
    have := Int.emod_nonneg (-a) (show m ≠ 0 by omega)
    have := Int.emod_lt_of_pos (-a) hm
    omega
theorem at_ge {c : Clk} (h : c.Fine) {t : Int} (h0 : c.on ≤ t) (h1 : t ≤ 4294967296) : c.adj ≤ c.at t := by
  have := gone_bd h (t := t - c.on) (by omega) (by have := h.on1; omega)
  unfold Clk.at
  omega
end Go.Proofs.Ytelmgipnlflmaaa
