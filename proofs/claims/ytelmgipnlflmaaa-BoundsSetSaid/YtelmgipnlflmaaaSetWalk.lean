/-
  The law BoundsSet of a plan that may be. Conditions: those that stand ahead of each.
-/
import Derived.Test.YtelmgipnlflmaaaSetLaw
import Derived.Test.YtelmgipnlflmaaaAlive29
import Derived.Test.YtelmgipnlflmaaaIsRow
import Derived.Test.YtelmgipnlflmaaaTail2
import Derived.Outline
import Derived.Deep.DeepCutAuto
namespace Go.Proofs.Ytelmgipnlflmaaa
open Go.RowKit

/-- What a round of the law's loop leaves. -/
def SetRel (p : Plan) (num on : Int) (len2 B : Nat) (w : World) (s16 s17 s71 : Value) (wr : World) : Prop :=
  ∃ (k : Nat) (adj t : Int), k ≤ len2 ∧ s71 = .int .i64 k ∧ s16 = .int .i64 t ∧ s17 = .int .i64 ((⟨lawNum p.rho num, 65536, on, adj⟩ : Clk).at t) ∧ Kept p num on adj t k ∧ -4294967296 ≤ adj ∧ adj ≤ 4294967296 ∧
    Grow w wr ∧ wr.heap[w.heap.size]? = some (.cells (planC p) 23) ∧ wr.heap[B]? = some (.cells (clkC ⟨lawNum p.rho num, 65536, on, adj⟩) 43)

set_option maxRecDepth 100000 in
set_option maxHeartbeats 8000000 in
theorem set_law (p : Plan) (h : p.Ok) (num : Int) (hn0 : 0 ≤ num) (hn1 : num ≤ 4294967295) (a2 : Option Addr) (len2 cap2 : Nat) (z2 : List Int) (hl : len2 ≤ 50)
    (a3 : Option Addr) (len3 cap3 : Nat) (z3 : List Int) (on : Int) (ho0 : 0 ≤ on) (ho1 : on ≤ 65535) (w : World) (h2 : IsRow .i64 w a2 len2 cap2 z2) (h3 : IsRow .u16 w a3 len3 cap3 z3) :
    Calls Try.prog 4 #[planV p, .int .u32 num, .slice a2 len2 cap2, .slice a3 len3 cap3, .int .u16 on] w fun e w' => e = .returned (.bool true) ∧ Grow w w' := by
  have hA := Lib.hid alive29_any
  have hC := Lib.hid (check_ok p h)
  have hf := lawClk_fine h.c3.2.2.1 hn0 ho0 ho1 0
  have hR := Reads_any _ ⟨hf, show -4294967296 ≤ (0 : Int) by decide, show (0 : Int) ≤ 4294967296 by decide⟩ on (show on ≤ on by omega) (show on ≤ 4294967296 by omega)
  rw [at_zero] at hR
  have HR := Lib.hid hR
  obtain ⟨m1, m2, m3, m4, _, _⟩ := lawNum_bd h.c3.2.2.1 hn0
  have hrho := h.c3.2.2.1
  have hrho2 := h.c3.2.2.2
  have hr0 := row_new w (.cells (planC p) 23)
  have q0 : (65536 : Int).tdiv p.rho = 65536 / p.rho := quo_of _ _ (by omega)
  have q1 := iw (65536 / p.rho) (by omega) (by omega)
  have q2 := iw (65536 - 65536 / p.rho) (by omega) (by omega)
  have q3 := iw (2 * (65536 / p.rho)) (by omega) (by omega)
  have q4 := iw (2 * (65536 / p.rho) + 1) (by omega) (by omega)
  have q5 : num.tmod (2 * (65536 / p.rho) + 1) = num % (2 * (65536 / p.rho) + 1) := Int.tmod_eq_emod_of_nonneg hn0
  have q6 := iw (65536 - 65536 / p.rho + num % (2 * (65536 / p.rho) + 1)) (by omega) (by omega)
  have q7 : ¬ p.rho = 0 := by omega
  have q8 : ¬ 2 * (65536 / p.rho) + 1 = 0 := by omega
  have q9 := iw (num % (2 * (65536 / p.rho) + 1)) (by omega) (by omega)
  have K := Lib.hid (⟨h, h2, h3, hf⟩ : p.Ok ∧ IsRow .i64 w a2 len2 cap2 z2 ∧ IsRow .u16 w a3 len3 cap3 z3 ∧ _)
  have q10 : ¬ (50 : Int) < (len2 : Int) := by omega
  clear h h2 h3 hf hR
  go_enter Try.func4, Try.ntmps4
  go_wp2_with (first
    | (go_at_call 13; refine (hA.out _).mono ?_; rintro e w1 ⟨rfl, hg1⟩; have hr1 := hg1.row hr0)
    | (go_at_call 14; refine (hC.out _).mono ?_; rintro e w2 ⟨rfl, hg2⟩; have hr2 := hg2.row hr1; have k8 : w2.cell? ⟨w.heap.size, 8, none⟩ = some (.int .i64 p.rho) := cell_of_row w2 _ 8 _ _ _ hr2)
    | (go_at_call 15; refine (HR.out _).mono ?_; rintro e w3 ⟨rfl, hg3⟩; have hn3 := hg3.row (row_new w2 (.cells (clkC ⟨lawNum p.rho num, 65536, on, 0⟩) 43)); have k2 : w3.cell? ⟨w2.heap.size, 2, none⟩ = some (.int .i64 on) := cell_of_row w3 _ 2 _ _ _ hn3)
    | (refine wpList_isload 23 _ rfl ?_; refine wpList_load_rowg 23 _ rfl rfl _ rfl _ _ _ _ (by first | exact row_new _ _ | exact row_old (row_new _ _) | exact row_old (row_old (row_new _ _)) | exact row_old (row_old (row_old (row_new _ _))) | assumption) Try.underlying23 rfl (by kernel_rfl) ?_) | (refine wpList_isload 43 _ rfl ?_; refine wpList_load_rowg 43 _ rfl rfl _ rfl _ _ _ _ (by first | exact row_new _ _ | exact row_old (row_new _ _) | exact row_old (row_old (row_new _ _)) | exact row_old (row_old (row_old (row_new _ _))) | assumption) Try.underlying43 rfl (by kernel_rfl) ?_))
  have hB : w.heap.size < w2.heap.size := (Array.getElem?_eq_some_iff.1 hr2).1
  have hgw : Grow w w3 := (((Grow.refl _).alloc _).trans (hg1.trans hg2)).trans ((Grow.to_alloc _ _).trans hg3)
  have hr3 := hg3.row (row_old (o' := .cells (clkC ⟨lawNum p.rho num, 65536, on, 0⟩) 43) hr2)
  have KK := Lib.hid (⟨hgw, hr3, hn3⟩ : Grow w w3 ∧ w3.heap[w.heap.size]? = some (.cells (planC p) 23) ∧ w3.heap[w2.heap.size]? = some (.cells (clkC ⟨lawNum p.rho num, 65536, on, 0⟩) 43))
  clear hgw hr3 hn3 hr2 hr1 hr0 k8 k2 hg1 hg2 hg3 q0 q1 q2 q3 q4 q5 q6 q7 q8 q9 m1 m2 m3 m4 hA hC HR
  go_loopw [15, 16, 17, 18, 19, 20, 21, 22, 23, 24, 25, 26, 71] (fun _ s16 s17 _ _ _ _ _ _ _ _ _ s71 wr => SetRel p num on len2 w2.heap.size w s16 s17 s71 wr) (fun _ _ _ _ _ _ _ _ _ _ _ _ s71 _ => len2 - (intOf s71).toNat)
  case atStart =>
    obtain ⟨k1, k2, k3⟩ := KK.out
    exact ⟨0, 0, on, Nat.zero_le _, rfl, rfl, by rw [at_zero], kept_zero _ _ _, by decide, by decide, k1, k2, k3⟩
  case round =>
    obtain ⟨k, adj, t, hk, rfl, rfl, rfl, hkept, hj1, hj2, hgw, hrp, hrc⟩ := hrel
    clear KK
    by_cases hlt : k < len2
    · obtain ⟨hok, h2, h3, _⟩ := id K.out
      have hf0 : (⟨lawNum p.rho num, 65536, on, adj⟩ : Clk).Fine := lawClk_fine hok.c3.2.2.1 hn0 ho0 ho1 adj
      have hat := at_bd (c := ⟨lawNum p.rho num, 65536, on, adj⟩) ⟨hf0, hj1, hj2⟩ hkept.t1 (by have := hkept.t2; omega)
      have hR2 := R_bd hok.known
      have hcp := cap_lt hok
      have hcs := (slot_bd hok).2
      have hrc2 := rc_bd hok
      obtain ⟨_, h2c⟩ := h2.cells
      obtain ⟨b2, o2, rfl, hb2, hc2⟩ := h2c (by omega)
      have hcell2 : w.cell? ⟨b2, o2 + k, none⟩ = some (.int .i64 (z2.getD k 0)) := (hc2 k hlt).1
      generalize z2.getD k 0 = zk at hcell2
      obtain ⟨_, h3c⟩ := h3.cells
      have hRd := Lib.hid (Round_any p hok.known)
      have hzz : w.heap.size < wr.heap.size := (Array.getElem?_eq_some_iff.1 hrp).1
      have k10 : wr.cell? ⟨w.heap.size, 10, none⟩ = some (.int .i64 p.cap) := cell_of_row wr _ 10 _ _ _ hrp
      generalize hrd : (⟨lawNum p.rho num, 65536, on, adj⟩ : Clk).at t = rd at *
      have HRD := Lib.hid hrd
      have HK := Lib.hid hkept
      have q1 := iw (rd + p.R) (by omega) (by omega)
      have q2 := iw (rd + p.R - p.cap) (by omega) (by omega)
      have HB := Lib.hid hat
      have HOK := Lib.hid hok
      have H3C := Lib.hid h3c
      clear hrd hkept hat h2 h3 h2c h3c hc2 hok
      go_wp2_with fail
      refine wp_region_grow (by kernel_rfl) (by kernel_rfl) ?_
      repeat
        apply wpQuiet_op rfl
        · intro W hW
          first
            | exact quiet_load_row 23 _ rfl _ rfl _ _ _ _ (hW.row (by first | exact row_new _ _ | exact row_old (row_new _ _) | exact row_old (row_old (row_new _ _)) | exact row_old (row_old (row_old (row_new _ _))) | assumption)) Try.underlying23 rfl (by kernel_rfl)
            | (obtain ⟨hc, hf⟩ := hW.cells
               go_simp
               first
                 | (go_at_call 16; exact Calls.grow hW (hRd.out _))
                 | exact rfl
                 | exact ⟨rfl, rfl⟩)
        simp only [Act.put, List.setIfInBounds_toArray, List.set_cons_zero, List.set_cons_succ]
      refine wpQuiet_nil ?_
      intro W hW
      have hz := hW.size
      obtain ⟨hc, hf⟩ := hW.cells
      have hG13 := hW
      have hrp13 := hW.row hrp
      have hrc13 := hW.row hrc
      clear hc hf hz hW hrp hrc k10 hzz q1 q2
      go_upto_if 84 with (fail)
      go_cut [19, 71] from 71 to 162 (fun s19 s71 wx => ∃ zz : Int, 0 ≤ zz ∧ zz ≤ 65535 ∧ s19 = .int .i64 (rd + p.R - p.cap + zz) ∧ s71 = .int .i64 k ∧ wx = W)
      case first =>
        by_cases hl3 : k < len3
        · obtain ⟨b3, o3, rfl, hb3, hc3⟩ := H3C.out (by omega)
          have hcell3 : W.cell? ⟨b3, o3 + k, none⟩ = some (.int .u16 (z3.getD k 0)) := ((hgw.trans hG13).cells.1 b3 _ hb3).trans (hc3 k hl3).1
          have hz3 := bounds_u16 (hc3 k hl3).2
          generalize z3.getD k 0 = zz at *
          obtain ⟨z31, z32⟩ := hz3
          have q3 := iw (rd + p.R - p.cap + zz) (by have := HB.out; omega) (by have := HB.out; omega)
          clear hc3 H3C
          go_wp2_with fail
          go_meet
          exact ⟨zz, z31, z32, rfl, rfl, rfl⟩
        · clear H3C
          go_wp2_with fail
          go_meet
          exact ⟨0, by omega, by omega, by rw [Int.add_zero], rfl, rfl⟩
      case rest =>
        obtain ⟨zz, z31, z32, rfl, rfl, rfl⟩ := hcut
        clear H3C
        obtain ⟨hb1, hb2'⟩ := HB.out
        have hadj : adj < (rd + p.R - p.cap + zz) := by
          have h1 := at_ge hf0 (HK.out).t1 (by have := (HK.out).t2; omega)
          rw [HRD.out] at h1
          simp only at h1
          omega
        by_cases hnv : (⟨lawNum p.rho num, 65536, on, adj⟩ : Clk).at 4294967296 < (rd + p.R - p.cap + zz)
        · have hWn := Lib.hid (When_never (⟨lawNum p.rho num, 65536, on, adj⟩ : Clk) ⟨hf0, hj1, hj2⟩ ((rd + p.R - p.cap + zz)) hnv)
          clear hnv hf0
          go_wp2_with (first
            | (go_at_call 17; refine (hWn.out _).mono ?_; rintro e w5 ⟨rfl, hg5⟩)
            | (refine wpList_isload 43 _ rfl ?_; refine wpList_load_rowg 43 _ rfl rfl _ rfl _ _ _ _ (by first | exact row_new _ _ | exact row_old (row_new _ _) | exact row_old (row_old (row_new _ _)) | exact row_old (row_old (row_old (row_new _ _))) | assumption) Try.underlying43 rfl (by kernel_rfl) ?_))
          go_ret
          exact ⟨rfl, (hgw.trans hG13).trans hg5⟩
        · have hWa := When_at (⟨lawNum p.rho num, 65536, on, adj⟩ : Clk) ⟨hf0, hj1, hj2⟩ ((rd + p.R - p.cap + zz)) (by omega) hadj
          have htk := (ticks_bd hf0 (x := (rd + p.R - p.cap + zz) - adj) (by omega) (by omega)).2.2
          have hks := fun (b : Int) hT h1 h2 => kept_step (nxt := (rd + p.R - p.cap + zz)) (b := b) HOK.out hn0 HK.out (by rw [HRD.out]; omega) hT h1 h2
          generalize hTT : (⟨lawNum p.rho num, 65536, on, adj⟩ : Clk).ticks ((rd + p.R - p.cap + zz) - adj) = T at *
          have HWa := Lib.hid hWa
          have HTT := Lib.hid hTT
          have q5 : on + T - on = T := by omega
          clear hnv hWa hTT
          by_cases hT : T ≤ 2147483648
          · have hb := tmod_bd zk (m := p.cap + 1) (by omega)
            obtain ⟨_, ht2, _⟩ := hks 0 hT (by omega) (by omega)
            have hki : (k : Int) < (len2 : Int) := by omega
            have hkn : 0 ≤ (k : Int) := by omega
            have q6 := iw (p.cap + 1) (by omega) (by omega)
            have q7 : ¬ p.cap + 1 = 0 := by omega
            have q8 := iw (zk.tmod (p.cap + 1)) (by omega) (by omega)
            generalize hbb : zk.tmod (p.cap + 1) = bb at *
            have hks2 := hks bb hT (by omega) (by omega)
            have HKS := Lib.hid hks2
            clear hks hks2
            by_cases hs : -4294967296 ≤ adj + bb ∧ adj + bb ≤ 4294967296
            · have hSet : ∀ w, Calls Try.prog 18 #[clkV (⟨lawNum p.rho num, 65536, on, adj⟩ : Clk), .int .i64 bb] w fun e w' => e = .returned (.tuple #[clkV (⟨lawNum p.rho num, 65536, on, adj + bb⟩ : Clk), .int .i64 0]) ∧ Grow w w' := Set_ok (⟨lawNum p.rho num, 65536, on, adj⟩ : Clk) bb ⟨hf0, hj1, hj2⟩ (by omega) (by omega) ⟨Clk.set_fine hf0 bb, hs.1, hs.2⟩
              have HSet := Lib.hid hSet
              have hf1 : (⟨lawNum p.rho num, 65536, on, adj + bb⟩ : Clk).Fine := lawClk_fine (HOK.out).c3.2.2.1 hn0 ho0 ho1 (adj + bb)
              have hR := Reads_any (⟨lawNum p.rho num, 65536, on, adj + bb⟩ : Clk) ⟨hf1, hs.1, hs.2⟩ (on + T) (show on ≤ on + T by omega) (by omega)
              have hE := Benv p T HOK.out (by omega) (by omega)
              obtain ⟨e1, e2⟩ := kept_env HOK.out hn0 (HKS.out).2.2
              obtain ⟨b1, b2'⟩ := at_bd (c := (⟨lawNum p.rho num, 65536, on, adj + bb⟩ : Clk)) ⟨hf1, hs.1, hs.2⟩ (t := on + T) (show on ≤ on + T by omega) (by omega)
              rw [q5] at e1 e2
              generalize hr2 : (⟨lawNum p.rho num, 65536, on, adj + bb⟩ : Clk).at (on + T) = rd2 at *
              generalize enL p.rho p.R p.cap T = eL at *
              generalize enM p.rho p.R p.cap T = eM at *
              have HR := Lib.hid hR
              have HE := Lib.hid hE
              have HR2 := Lib.hid hr2
              clear hSet hR hE hr2
              go_wp2_with (first
                | (go_at_call 17; refine (HWa.out _).mono ?_; rintro e w5 ⟨rfl, hg5⟩; have hrp5 := hg5.row hrp13; have hrc5 := hg5.row hrc13; have k5 : w5.cell? ⟨w2.heap.size, 2, none⟩ = some (.int .i64 on) := cell_of_row w5 _ 2 _ _ _ hrc5; have k6 : w5.cell? ⟨w.heap.size, 10, none⟩ = some (.int .i64 p.cap) := cell_of_row w5 _ 10 _ _ _ hrp5; have k7 : w5.cell? ⟨b2, o2 + k, none⟩ = some (.int .i64 zk) := (((hgw.trans hG13).trans hg5).cells.1 b2 _ hb2).trans hcell2; have hz5 : w2.heap.size < w5.heap.size := (Array.getElem?_eq_some_iff.1 hrc5).1; have hz6 : w.heap.size < w5.heap.size := (Array.getElem?_eq_some_iff.1 hrp5).1; have hz7 : b2 < w5.heap.size := Nat.lt_trans hb2 hz6)
                | (refine wpList_isload 43 _ rfl ?_; refine wpList_load_rowg 43 _ rfl rfl _ rfl _ _ _ _ (by first | exact row_new _ _ | exact row_old (row_new _ _) | exact row_old (row_old (row_new _ _)) | exact row_old (row_old (row_old (row_new _ _))) | assumption) Try.underlying43 rfl (by kernel_rfl) ?_))
              refine wp_region_new 13 (by kernel_rfl) (by kernel_rfl) ?_
              simp only [List.take_succ_cons, List.take_zero, List.drop_succ_cons, List.drop_zero]
              repeat
                apply walkR_op rfl
                · intro W hW
                  first
                    | exact quiet_load_row 43 _ rfl _ rfl _ _ _ _ (hW.row (by first | exact row_new _ _ | exact row_old (row_new _ _) | exact row_old (row_old (row_new _ _)) | exact row_old (row_old (row_old (row_new _ _))) | assumption)) Try.underlying43 rfl (by kernel_rfl)
                    | (obtain ⟨hc, hf⟩ := hW.cells
                       go_simp
                       first
                         | (go_at_call 18; exact (HSet.out _))
                         | exact rfl
                         | exact ⟨rfl, rfl⟩)
                simp only [Act.put, List.setIfInBounds_toArray, List.set_cons_zero, List.set_cons_succ]
              refine walkR_nil ?_
              refine tailR_alloc (Grow.refl _) rfl #[.int .i64 0, .int .i64 0, .int .i64 0, .int .i64 0] 43 (fun _ => by kernel_rfl) ?_
              intro g V hle hV hv
              simp only [Act.put, List.setIfInBounds_toArray, List.set_cons_zero, List.set_cons_succ]
              refine tailR_store hV rfl 43 _ _ rfl g (clkC (⟨lawNum p.rho num, 65536, on, adj + bb⟩ : Clk)) rfl rfl 43 _ hv (by kernel_rfl) rfl (by kernel_rfl) hle ?_
              intro U hU hu
              simp only [Act.put]
              refine tailR_op hU rfl (.int .i64 0) (fun _ _ => ⟨rfl, rfl⟩) ?_
              simp only [Act.put, List.setIfInBounds_toArray, List.set_cons_zero, List.set_cons_succ]
              refine tailR_end ?_
              intro W6 hW6
              have hu6 := hW6.row hu
              have hg6 := hU.trans hW6
              clear hv hV hle hu hU hW6
              have hgw6 : Grow w W6 := ((hgw.trans hG13).trans hg5).trans hg6
              have hrp6 := hg6.row hrp5
              have hrc6 := hg6.row hrc5
              have hrc7 : (W6.setRow w2.heap.size (clkC (⟨lawNum p.rho num, 65536, on, adj + bb⟩ : Clk))).heap[w2.heap.size]? = some (.cells (clkC (⟨lawNum p.rho num, 65536, on, adj + bb⟩ : Clk)) 43) := setRow_heap _ _ _ _ _ _ hrc6
              have hrp7 : (W6.setRow w2.heap.size (clkC (⟨lawNum p.rho num, 65536, on, adj + bb⟩ : Clk))).heap[w.heap.size]? = some (.cells (planC p) 23) := (setRow_other W6 w2.heap.size w.heap.size (clkC (⟨lawNum p.rho num, 65536, on, adj + bb⟩ : Clk)) (by omega)).trans hrp6
              have hgw7 : Grow w (W6.setRow w2.heap.size (clkC (⟨lawNum p.rho num, 65536, on, adj + bb⟩ : Clk))) := hgw6.setRow (by omega) _
              clear hrp6 hrp5 hrc5 k5 k6 k7 hz5 hz6 hz7 q6 q7 q8 HSet HWa hg5 hg6 hG13
              go_wp2_with (first
                | (go_at_call 15; refine (HR.out _).mono ?_; rintro e w8 ⟨rfl, hg8⟩; have hrp8 := hg8.row hrp7; have hrc8 := hg8.row hrc7; have k8 : w8.cell? ⟨w2.heap.size, 2, none⟩ = some (.int .i64 on) := cell_of_row w8 _ 2 _ _ _ hrc8)
                | (go_at_call 19; refine (HE.out _).mono ?_; rintro e w9 ⟨rfl, hg9⟩)
                | (refine wpList_store_row rfl 43 _ _ rfl w2.heap.size (clkC (⟨lawNum p.rho num, 65536, on, adj + bb⟩ : Clk)) rfl rfl 43 _ hrc6 (by kernel_rfl) rfl (by kernel_rfl) ?_)
                | (refine wpList_isload 43 _ rfl ?_; refine wpList_load_rowg 43 _ rfl rfl _ rfl _ _ _ _ (by first | exact row_new _ _ | exact row_old (row_new _ _) | exact row_old (row_old (row_new _ _)) | exact row_old (row_old (row_old (row_new _ _))) | assumption) Try.underlying43 rfl (by kernel_rfl) ?_) | (refine wpList_isload 23 _ rfl ?_; refine wpList_load_rowg 23 _ rfl rfl _ rfl _ _ _ _ (by first | exact row_new _ _ | exact row_old (row_new _ _) | exact row_old (row_old (row_new _ _)) | exact row_old (row_old (row_old (row_new _ _))) | assumption) Try.underlying23 rfl (by kernel_rfl) ?_))
              go_roundw
              case rel => exact ⟨k + 1, adj + bb, on + T, by omega, by go_num, rfl, by rw [HR2.out], (HKS.out).2.2, hs.1, hs.2, (hgw7.trans hg8).trans hg9, hg9.row hrp8, hg9.row hrc8⟩
              case measure => simp [intOf]; omega
            · have hSet : ∀ w, Calls Try.prog 18 #[clkV (⟨lawNum p.rho num, 65536, on, adj⟩ : Clk), .int .i64 bb] w fun e w' => e = .returned (.tuple #[clkV Clk.zero, .int .i64 60]) ∧ Grow w w' := Set_bad (⟨lawNum p.rho num, 65536, on, adj⟩ : Clk) bb ⟨hf0, hj1, hj2⟩ (by omega) (by omega) hs
              have HSet := Lib.hid hSet
              clear hSet
              go_wp2_with (first
                | (go_at_call 17; refine (HWa.out _).mono ?_; rintro e w5 ⟨rfl, hg5⟩; have hrp5 := hg5.row hrp13; have hrc5 := hg5.row hrc13; have k5 : w5.cell? ⟨w2.heap.size, 2, none⟩ = some (.int .i64 on) := cell_of_row w5 _ 2 _ _ _ hrc5; have k6 : w5.cell? ⟨w.heap.size, 10, none⟩ = some (.int .i64 p.cap) := cell_of_row w5 _ 10 _ _ _ hrp5; have k7 : w5.cell? ⟨b2, o2 + k, none⟩ = some (.int .i64 zk) := (((hgw.trans hG13).trans hg5).cells.1 b2 _ hb2).trans hcell2; have hz5 : w2.heap.size < w5.heap.size := (Array.getElem?_eq_some_iff.1 hrc5).1; have hz6 : w.heap.size < w5.heap.size := (Array.getElem?_eq_some_iff.1 hrp5).1; have hz7 : b2 < w5.heap.size := Nat.lt_trans hb2 hz6)
                | (refine wpList_isload 43 _ rfl ?_; refine wpList_load_rowg 43 _ rfl rfl _ rfl _ _ _ _ (by first | exact row_new _ _ | exact row_old (row_new _ _) | exact row_old (row_old (row_new _ _)) | exact row_old (row_old (row_old (row_new _ _))) | assumption) Try.underlying43 rfl (by kernel_rfl) ?_))
              refine wp_region_new 13 (by kernel_rfl) (by kernel_rfl) ?_
              simp only [List.take_succ_cons, List.take_zero, List.drop_succ_cons, List.drop_zero]
              repeat
                apply walkR_op rfl
                · intro W hW
                  first
                    | exact quiet_load_row 43 _ rfl _ rfl _ _ _ _ (hW.row (by first | exact row_new _ _ | exact row_old (row_new _ _) | exact row_old (row_old (row_new _ _)) | exact row_old (row_old (row_old (row_new _ _))) | assumption)) Try.underlying43 rfl (by kernel_rfl)
                    | (obtain ⟨hc, hf⟩ := hW.cells
                       go_simp
                       first
                         | (go_at_call 18; exact (HSet.out _))
                         | exact rfl
                         | exact ⟨rfl, rfl⟩)
                simp only [Act.put, List.setIfInBounds_toArray, List.set_cons_zero, List.set_cons_succ]
              refine walkR_nil ?_
              refine tailR_alloc (Grow.refl _) rfl #[.int .i64 0, .int .i64 0, .int .i64 0, .int .i64 0] 43 (fun _ => by kernel_rfl) ?_
              intro g V hle hV hv
              simp only [Act.put, List.setIfInBounds_toArray, List.set_cons_zero, List.set_cons_succ]
              refine tailR_store hV rfl 43 _ _ rfl g (clkC Clk.zero) rfl rfl 43 _ hv (by kernel_rfl) rfl (by kernel_rfl) hle ?_
              intro U hU hu
              simp only [Act.put]
              refine tailR_op hU rfl (.int .i64 60) (fun _ _ => ⟨rfl, rfl⟩) ?_
              simp only [Act.put, List.setIfInBounds_toArray, List.set_cons_zero, List.set_cons_succ]
              refine tailR_end ?_
              intro W6 hW6
              have hu6 := hW6.row hu
              have hg6 := hU.trans hW6
              clear hv hV hle hu hU hW6
              clear hrp5 hrc5 k5 k6 k7 hz5 hz6 hz7 q6 q7 q8 HSet HWa hu6
              go_wp2_with fail
              go_ret
              exact ⟨rfl, ((hgw.trans hG13).trans hg5).trans hg6⟩
          · go_wp2_with (first
              | (go_at_call 17; refine (HWa.out _).mono ?_; rintro e w5 ⟨rfl, hg5⟩; have hrc5 := hg5.row hrc13; have k5 : w5.cell? ⟨w2.heap.size, 2, none⟩ = some (.int .i64 on) := cell_of_row w5 _ 2 _ _ _ hrc5)
              | (refine wpList_isload 43 _ rfl ?_; refine wpList_load_rowg 43 _ rfl rfl _ rfl _ _ _ _ (by first | exact row_new _ _ | exact row_old (row_new _ _) | exact row_old (row_old (row_new _ _)) | exact row_old (row_old (row_old (row_new _ _))) | assumption) Try.underlying43 rfl (by kernel_rfl) ?_))
            go_ret
            exact ⟨rfl, (hgw.trans hG13).trans hg5⟩
    · go_wp2
      go_ret
      exact ⟨rfl, hgw⟩
end Go.Proofs.Ytelmgipnlflmaaa
