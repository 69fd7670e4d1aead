/-
  vesperslaw16.WindowNames: the walk. No condition.
-/
import Derived.Test.YtelmgipnlflmaaaNames16
import Derived.Test.YtelmgipnlflmaaaGuard
namespace Go.Proofs.Ytelmgipnlflmaaa
open Go.RowKit Go.Shelf

def z16 : Nat → Int := fun k => ([-96, 0, 96] : List Int).getD k 0
theorem same16 (a : Option Addr) (c b : Nat) (w : World) (hI : IntsAt w a 3 z16) (h : w.heap[b]? = some (.cells #[.int .i64 (-96), .int .i64 0, .int .i64 96] 2 (0, 0))) :
    Calls Try.prog 26 #[.slice a 3 c, .slice (some ⟨b, 0, none⟩) 3 3] w fun e w' => e = .returned (.bool true) ∧ Grow w w' := by
  have hz : IntsAt w (some ⟨b, 0, none⟩) 3 z16 := ints_of_row [-96, 0, 96] h
  have hs : sameB 3 3 z16 z16 = true := decide_eq_true ⟨rfl, fun _ _ => rfl⟩
  have := Same_any a (some ⟨b, 0, none⟩) 3 3 c 3 (by omega) (by omega) z16 z16 w hI hz
  rw [hs] at this
  exact this
theorem sign16_a (w : World) : Calls Try.prog 29 #[.int .i64 (-5)] w fun e w' => e = .returned (.int .i64 (-1)) ∧ Grow w w' := Sign_any (-5) w
theorem sign16_b (w : World) : Calls Try.prog 29 #[.int .i64 5] w fun e w' => e = .returned (.int .i64 1) ∧ Grow w w' := Sign_any 5 w
theorem sign16_c (w : World) : Calls Try.prog 29 #[.int .i64 0] w fun e w' => e = .returned (.int .i64 0) ∧ Grow w w' := Sign_any 0 w
set_option maxRecDepth 100000 in
set_option maxHeartbeats 4000000 in
theorem windowNames_walk (w : World) :
    Calls Try.prog 6 #[] w fun e w' => e = .returned (.bool true) ∧ Grow w w' := by
  have hS := Lib.hid some16_any
  have hA := Lib.hid alive16_any
  have p1 := Lib.hid place16_a
  have p2 := Lib.hid place16_b
  have p3 := Lib.hid place16_c
  have p4 := Lib.hid place16_d
  have k1 := Lib.hid keep16_a
  have k2 := Lib.hid keep16_b
  have k3 := Lib.hid keep16_c
  have k4 := Lib.hid keep16_d
  have j1 := Lib.hid judge16_a
  have j2 := Lib.hid judge16_b
  have j3 := Lib.hid judge16_c
  have j4 := Lib.hid judge16_d
  have hm := Lib.hid same16
  have hJ := Lib.hid (judged16_any 154 2 (-96) 1904 (by decide) (by decide) (by decide) (by decide) (by decide) (by decide) (by decide) (by decide))
  have s1 := Lib.hid sign16_a
  have s2 := Lib.hid sign16_b
  have s3 := Lib.hid sign16_c
  go_enter Try.func6, Try.ntmps6
  go_wp2_with (first
    | (refine wpList_isstore 23 _ _ rfl ?_; refine wpList_store_new 23 _ _ rfl rfl _ (planC (fitP 4)) _ _ rfl rfl (by kernel_rfl) rfl (by kernel_rfl) ?_)
    | (refine wpList_isstore 52 _ _ rfl ?_; first
       | refine wpList_store_new 52 _ _ rfl rfl _ #[.int .i64 0, .int .i64 0] _ _ rfl rfl (by kernel_rfl) rfl (by kernel_rfl) ?_
       | refine wpList_store_new 52 _ _ rfl rfl _ #[.int .i64 0, .int .i64 1] _ _ rfl rfl (by kernel_rfl) rfl (by kernel_rfl) ?_)
    | (refine wpList_isload 23 _ rfl ?_; refine wpList_load_rowg 23 _ rfl rfl _ rfl _ _ _ _ rr Try.underlying23 rfl (by kernel_rfl) ?_)
    | (refine wpList_isload 52 _ rfl ?_; first
       | (with_reducible refine wpList_load_rowg 52 _ rfl (by rfl) _ rfl _ _ _ _ aa Try.underlying52 rfl (by kernel_rfl) ?_)
       | refine wpList_load_rowg 52 _ rfl rfl _ rfl _ _ _ _ aa Try.underlying52 rfl (by kernel_rfl) ?_
       | refine wpList_load_rowg 52 _ rfl rfl _ rfl _ _ _ _ bb Try.underlying52 rfl (by kernel_rfl) ?_)
    | (go_at_call 22; refine (hS.out _).mono ?_; rintro e w1 ⟨rfl, g1⟩; have rr := row_new w1 (.cells (planC (fitP 4)) 23); clear hS)
    | (go_at_call 23; refine (p1.out _).mono ?_; rintro e w2 ⟨rfl, g2⟩; replace rr := row_old (o' := .cells #[.int .i64 0, .int .i64 0] 52) (g2.row rr); have aa := row_new w2 (.cells #[.int .i64 0, .int .i64 0] 52); clear p1)
    | (go_at_call 23; refine (p2.out _).mono ?_; rintro e w3 ⟨rfl, g3⟩; replace rr := row_old (o' := .cells #[.int .i64 0, .int .i64 0] 52) (g3.row rr); replace aa := row_old (o' := .cells #[.int .i64 0, .int .i64 0] 52) (g3.row aa); clear p2)
    | (go_at_call 23; refine (p3.out _).mono ?_; rintro e w4 ⟨rfl, g4⟩; replace rr := row_old (o' := .cells #[.int .i64 0, .int .i64 1] 52) (g4.row rr); replace aa := row_old (o' := .cells #[.int .i64 0, .int .i64 1] 52) (g4.row aa); have bb := row_new w4 (.cells #[.int .i64 0, .int .i64 1] 52); clear p3)
    | (go_at_call 23; refine (p4.out _).mono ?_; rintro e w5 ⟨rfl, g5⟩; replace rr := row_old (o' := .cells #[.int .i64 0, .int .i64 0] 52) (g5.row rr); replace aa := row_old (o' := .cells #[.int .i64 0, .int .i64 0] 52) (g5.row aa); replace bb := row_old (o' := .cells #[.int .i64 0, .int .i64 0] 52) (g5.row bb); clear p4)
    | (go_at_call 24; refine (k1.out _ _ (row_new2 _ _ _)).mono ?_; rintro e w6 ⟨a6, c6, rfl, I6, g6⟩; replace rr := g6.row (row_old rr); clear k1 aa bb)
    | (go_at_call 24; refine (k2.out _).mono ?_; rintro e w7 ⟨a7, c7, rfl, g7⟩; replace rr := g7.row rr; replace I6 := I6.grow g7; clear k2)
    | (go_at_call 24; refine (k3.out _ _).mono ?_; rintro e w8 ⟨rfl, g8⟩; replace rr := g8.row (row_old rr); replace I6 := (I6.grow (Grow.to_alloc _ _)).grow g8; clear k3)
    | (go_at_call 24; refine (k4.out _ _ (row_new _ _)).mono ?_; rintro e w9 ⟨rfl, g9⟩; replace rr := g9.row (row_old rr); replace I6 := (I6.grow (Grow.to_alloc _ _)).grow g9; clear k4)
    | (go_at_call 25; refine (j1.out _).mono ?_; rintro e w10 ⟨rfl, g10⟩; replace rr := g10.row rr; replace I6 := I6.grow g10; clear j1)
    | (go_at_call 25; refine (j2.out _).mono ?_; rintro e w11 ⟨rfl, g11⟩; replace rr := g11.row rr; replace I6 := I6.grow g11; clear j2)
    | (go_at_call 25; refine (j3.out _).mono ?_; rintro e w12 ⟨rfl, g12⟩; replace rr := g12.row rr; replace I6 := I6.grow g12; clear j3)
    | (go_at_call 25; refine (j4.out _).mono ?_; rintro e w13 ⟨rfl, g13⟩; replace I6 := I6.grow g13; clear j4 rr)
    | (go_at_call 26; refine (hm.out _ _ _ _ (I6.grow (Grow.to_alloc _ _)) (row_new _ _)).mono ?_; rintro e w14 ⟨rfl, g14⟩; clear hm)
    | (go_at_call 27; refine (hA.out _).mono ?_; rintro e w15 ⟨rfl, g15⟩; clear hA)
    | (go_at_call 28; refine (hJ.out _).mono ?_; rintro e w16 ⟨rfl, g16⟩; clear hJ)
    | (go_at_call 29; refine (s1.out _).mono ?_; rintro e w17 ⟨rfl, g17⟩; clear s1)
    | (go_at_call 29; refine (s2.out _).mono ?_; rintro e w18 ⟨rfl, g18⟩; clear s2)
    | (go_at_call 29; refine (s3.out _).mono ?_; rintro e w19 ⟨rfl, g19⟩; clear s3))
  go_ret
  refine ⟨rfl, ?_⟩
  have h5 := ((((((g1.alloc _).trans g2).alloc _).trans g3).alloc _).trans g4).alloc (.cells #[.int .i64 0, .int .i64 1] 52)
  have h9 := (((((((h5.trans g5).alloc _).alloc _).trans g6).trans g7).alloc _).trans g8).alloc (.cells #[.int .i64 250, .int .i64 1152921504606846977] 2)
  exact (((((((((((h9.trans g9).trans g10).trans g11).trans g12).trans g13).alloc _).trans g14).trans g15).trans g16).trans g17).trans g18).trans g19
end Go.Proofs.Ytelmgipnlflmaaa
