/-
  Package window: the readings' verdicts, told one by one. Conditions: the plan has the place; what a round keeps.
-/
import Derived.Test.YtelmgipnlflmaaaWindow
import Derived.Test.YtelmgipnlflmaaaRange
import Derived.Deep.DeepCutAuto
namespace Go.Proofs.Ytelmgipnlflmaaa
open Go.RowKit Go.Shelf

/-- A reading's verdict (0: it may not be), and its deviation. -/
def vdN (p : Plan) (r s x : Int) : Int := if mayB x = true then verd (p.exp r s - p.window) (p.exp r s + p.window) x else 0
def dvN (p : Plan) (r s x : Int) : Int := if mayB x = true then x - p.exp r s else 0
/-- Judge, in one word each way. -/
def Judged (p : Plan) (r s x : Int) (w : World) (e : Ending) (w' : World) : Prop := ∃ er : Int, e = .returned (.tuple #[.int .i64 (vdN p r s x), .int .i64 (dvN p r s x), .int .i64 er]) ∧ Grow w w'
theorem Judge_any (p : Plan) (r s x : Int) (h : p.has r s) (w : World) : Calls Try.prog 25 #[planV p, placeV r s, .int .i64 x] w (Judged p r s x w) := by
  unfold Judged vdN dvN
  cases hm : mayB x
  · exact (Judge_out p r s x h hm w).mono fun e w' ⟨he, hg⟩ => ⟨160, by simpa using he, hg⟩
  · exact (Judge_in p r s x h hm w).mono fun e w' ⟨he, hg⟩ => ⟨0, by simpa using he, hg⟩

/-- A whole row is read, in a fence. -/
theorem wpListIn_load_rowg {F : Fence} {n : Nat} {P : Program} {ops : Array Oper} {rest : List Oper} {o : Oper} {a : Act} {w : World} {Q : Exit → Act → World → Prop} (hg : o.guard = none) (ty : TypeId) (x : Operand) (ho : o.op = .load ty x)
    (g : Nat) (hx : a.eval x = .pointer (some ⟨g, 0, none⟩)) (t : TypeId) (cs : Array Value) (fr : Nat × Nat) (d : TypeDesc) (hrow : w.heap[g]? = some (.cells cs t fr))
    (hu : P.underlying ty = some d) (hd : (match d with | .struct _ | .array _ _ => true | _ => false) = true) (hi : (P.info? ty).map (·.size) = some cs.size)
    (h : wpListIn F n P ops Q rest (a.put o.dst (.agg cs)) w) : wpListIn F n P ops Q (o :: rest) a w := by
  refine wpListIn_plain hg fun K hK => ?_
  unfold Oper.wpIn
  refine ⟨by simp [Oper.about, ho], ?_⟩
  rw [Oper.semAt_plain F _ _ (by rw [ho]; intro c hc'; cases hc')]
  simp [execOp, ho, hx, Instr.loadAt, Instr.sureAddr, run_loadVar_row w g t ty cs fr d hrow hu hd hi, Result.andThen]
  exact hK _ _ h
set_option maxRecDepth 100000 in
set_option maxHeartbeats 2000000 in
theorem judged_iter (p : Plan) (r s : Int) (h : p.has r s) (a : Option Addr) (len cap : Nat) (hl : len ≤ maxLen) (z : Nat → Int) (L Bx Bp Bl : Nat) (J : Nat → World → Prop) (Jx : World → Prop) (w : World)
    (hJr : ∀ k W, J k W → W.heap[Bx]? = some (.cells #[.slice a len cap] 36) ∧ W.heap[Bp]? = some (.cells (planC p) 23) ∧ W.heap[Bl]? = some (.cells #[.int .i64 r, .int .i64 s] 52) ∧
      (k < len → ∃ b o, a = some ⟨b, o, none⟩ ∧ W.cell? ⟨b, o + k, none⟩ = some (.int .i64 (z k))))
    (hJg : ∀ k W W', J k W → Grow W W' → J k W')
    (hY : ∀ (k : Nat) W, k < len → J k W → YieldAt Fence.wide 3 Try.prog L #[.int .i64 (vdN p r s (z k)), .int .i64 (dvN p r s (z k))] W fun e W' =>
      (e = .returned (.bool true) ∧ J (k + 1) W') ∨ (e = .returned (.bool false) ∧ Jx W')) (h0 : J 0 w) :
    CallsIn Fence.wide 4 Try.prog 84 #[.func (.yield L) #[] #[], .pointer (some ⟨Bx, 0, none⟩), .pointer (some ⟨Bp, 0, none⟩), .pointer (some ⟨Bl, 0, none⟩)] w fun e W => (∃ v, e = .returned v) ∧ (J len W ∨ Jx W) := by
  have hj0 := hJr 0 w h0
  have hc0 : w.cell? ⟨Bx, 0, none⟩ = some (.slice a len cap) := cell_of_row w _ 0 _ _ _ hj0.1
  unfold maxLen at hl
  clear hj0
  refine callsIn_of_wp Try.func84 rfl trivial ?_ rfl
  simp only [Try.ntmps84, List.size_toArray, List.length_cons, List.length_nil, Nat.reduceAdd, Nat.reduceSub, Array.replicate_succ, Array.replicate_zero, List.push_toArray, List.append_toArray, List.nil_append, List.cons_append]
  have HJ := Lib.hid (Judge_any p r s)
  have HR := Lib.hid hJr
  have HG := Lib.hid hJg
  have HY := Lib.hid hY
  clear hJr hJg hY
  refine wpIn_wide.2 ?_
  go_wp2_with fail
  refine (wpIn_wide (n := 4)).1 ?_
  gi_loopw [6, 7, 8, 9, 12] (fun _ _ _ _ n wr => ∃ k : Nat, k ≤ len ∧ n = .int .i64 k ∧ J k wr) (fun _ _ _ _ n _ => len - (intOf n).toNat)
  case atStart => exact ⟨0, by omega, rfl, h0⟩
  case round =>
    obtain ⟨k, hk, rfl, hJ⟩ := hrel
    obtain ⟨j1, j2, j3, j4⟩ := HR.out k wr hJ
    by_cases hlt : k < len
    · obtain ⟨b, o, rfl, hcell⟩ := j4 hlt
      have hki : (k : Int) < (len : Int) := by omega
      gi_wp2_with (first
        | (refine wpListIn_load_rowg rfl 23 _ rfl _ rfl _ _ _ _ j2 Try.underlying23 rfl (by kernel_rfl) ?_)
        | (refine wpListIn_load_rowg rfl 52 _ rfl _ rfl _ _ _ _ j3 Try.underlying52 rfl (by kernel_rfl) ?_))
      refine ⟨trivial, ?_⟩
      refine (callsIn_wide.2 (HJ.out _ h _)).mono ?_
      rintro e W1 ⟨er, rfl, hg⟩
      obtain ⟨fn, tmps, assign, body, hy, hRd⟩ := HY.out k W1 hlt (HG.out k wr W1 hJ hg)
      clear HY HG j1 j2 j3 j4 hcell
      gi_wp2
      refine hRd.mono ?_
      rintro e W2 (⟨rfl, hJ2⟩ | ⟨rfl, hx⟩)
      · gi_wp2
        go_roundw
        case rel => exact ⟨k + 1, by omega, by go_num, hJ2⟩
        case measure => simp [intOf]; omega
      · gi_wp2
        refine bodyPost_ret (results_none rfl _ _ _) rfl ?_
        exact ⟨⟨_, rfl⟩, .inr hx⟩
    · obtain rfl : k = len := by omega
      gi_wp2
      go_end0
      exact ⟨⟨_, rfl⟩, .inl hJ⟩
end Go.Proofs.Ytelmgipnlflmaaa
