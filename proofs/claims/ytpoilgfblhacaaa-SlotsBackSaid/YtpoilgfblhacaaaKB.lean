/- math/bits.OnesCount64; package bitmap: words, mask, Check, Count; the method count of marks. -/
import Derived.Test.YtpoilgfblhacaaaKB0
namespace Go.Proofs.Ytpoilgfblhacaaa
open Go.RowKit
set_option linter.unusedVariables false
set_option linter.unusedSimpArgs false
set_option maxRecDepth 100000

theorem words_any (n : Nat) (hn : n ≤ 1024) (w : World) : Calls Try.prog 53 #[.int .i64 (n : Int)] w (RetB w (.returned (.int .i64 (((n + 64 - 1) / 64 : Nat) : Int)))) := by
  have hbel0 := below0 w
  refine sx_enter (N := 7) [(0, .int .i64 (n : Int))] Try.func53 rfl Try.ntmps53 (by simp) (fun a z d s => ((Ag.nil z d).cons (s 0 _ rfl))) ?_
  intro a0 hA0
  refine wp_seq ?_
  refine wp_region_lit ?_
  refine sx_val hA0 rfl (ev_assign (ec _ (.int .i64 0)) _ rfl) ?_
  intro a1 hA1; clear hA0
  refine sx_nil ?_
  refine then_n ?_
  refine wp_seq ?_
  refine wp_region_lit ?_
  refine sx_val hA1 rfl (ev_move (hA1.ev (i := 0) (v := .int .i64 (n : Int))) _ rfl) ?_
  intro a2 hA2; clear hA1
  refine sx_val (v := .int .i64 (((n + 64) : Nat) : Int)) hA2 rfl (ev_addI (m := n) (n := 64) (hA2.ev (i := 3)) (ec _ (.int .i64 64)) rfl (by omega) _ rfl) ?_
  intro a3 hA3; clear hA2
  refine sx_val (v := .int .i64 ((((n + 64) - 1) : Nat) : Int)) hA3 rfl (ev_subR (k := .i64) (m := (((n + 64) : Nat) : Int)) (n := 1) (r := ((((n + 64) - 1) : Nat) : Int)) (hA3.ev (i := 4)) (ec _ (.int .i64 1)) (wr (by omega) (by omega) (by omega)) _ rfl) ?_
  intro a4 hA4; clear hA3
  refine sx_val (v := .int .i64 (((((n + 64) - 1) / 64) : Nat) : Int)) hA4 rfl (ev_quoN (m := ((n + 64) - 1)) (n := 64) (hA4.ev (i := 5)) (ec _ (.int .i64 64)) (by decide) (by omega) rfl _ rfl) ?_
  intro a5 hA5; clear hA4
  refine sx_val hA5 rfl (ev_assign (hA5.ev (i := 6) (v := .int .i64 (((((n + 64) - 1) / 64) : Nat) : Int))) _ rfl) ?_
  intro a6 hA6; clear hA5
  refine sx_nil ?_
  refine then_n ?_
  refine wp_ret ?_
  refine bodyPost_ret (rs_t (v := .int .i64 (((((n + 64) - 1) / 64) : Nat) : Int)) Try.results53 hA6 (by kernel_rfl) ) hA6.2.1 ?_
  exact ⟨rfl, hbel0⟩

set_option maxHeartbeats 1000000 in
theorem mask_any (i n : Nat) (hi : 64 * i < n) (hn : n ≤ 256) (w : World) : Calls Try.prog 52 #[.int .i64 (i : Int), .int .i64 0, .int .i64 (n : Int)] w (RetB w (.returned (.int .u64 ((2 ^ hgh i n - 1 : Nat) : Int)))) := by
  have hbel0 := below0 w
  refine sx_enter (N := 30) [(0, .int .i64 (i : Int)), (1, .int .i64 0), (2, .int .i64 (n : Int))] Try.func52 rfl Try.ntmps52 (by simp) (fun a z d s => ((((Ag.nil z d).cons (s 2 _ rfl)).cons (s 1 _ rfl)).cons (s 0 _ rfl))) ?_
  intro a0 hA0
  refine wp_seq ?_
  refine wp_region_lit ?_
  refine sx_val hA0 rfl (ev_assign (ec _ (.int .u64 0)) _ rfl) ?_
  intro a1 hA1; clear hA0
  refine sx_nil ?_
  refine then_n ?_
  refine wp_seq ?_
  refine wp_region_lit ?_
  refine sx_val hA1 rfl (ev_move (hA1.ev (i := 1) (v := .int .i64 0)) _ rfl) ?_
  intro a2 hA2; clear hA1
  refine sx_val hA2 rfl (ev_move (hA2.ev (i := 0) (v := .int .i64 (i : Int))) _ rfl) ?_
  intro a3 hA3; clear hA2
  refine sx_val (v := .int .i64 ((i : Int) * 64)) hA3 rfl (ev_mulR (k := .i64) (m := (i : Int)) (n := 64) (r := (i : Int) * 64) (hA3.ev (i := 10)) (ec _ (.int .i64 64)) (wr (by omega) (by omega) (by omega)) _ rfl) ?_
  intro a4 hA4; clear hA3
  refine sx_val (v := .int .i64 (0 - (i : Int) * 64)) hA4 rfl (ev_subR (k := .i64) (m := 0) (n := (i : Int) * 64) (r := 0 - (i : Int) * 64) (hA4.ev (i := 9)) (hA4.ev (i := 11)) (wr (by omega) (by omega) (by omega)) _ rfl) ?_
  intro a5 hA5; clear hA4
  refine sx_val (v := .int .i64 0) hA5 rfl (ev_maxY (hA5.ev (i := 12) (v := .int .i64 (0 - (i : Int) * 64))) (ec _ (.int .i64 0)) (by omega) _ rfl) ?_
  intro a6 hA6; clear hA5
  refine sx_val hA6 rfl (ev_assign (hA6.ev (i := 13) (v := .int .i64 0)) _ rfl) ?_
  intro a7 hA7; clear hA6
  refine sx_nil ?_
  refine then_n ?_
  refine wp_seq ?_
  refine wp_region_lit ?_
  refine sx_val hA7 rfl (ev_move (hA7.ev (i := 2) (v := .int .i64 (n : Int))) _ rfl) ?_
  intro a8 hA8; clear hA7
  refine sx_val hA8 rfl (ev_move (hA8.ev (i := 0) (v := .int .i64 (i : Int))) _ rfl) ?_
  intro a9 hA9; clear hA8
  refine sx_val (v := .int .i64 ((i : Int) * 64)) hA9 rfl (ev_mulR (k := .i64) (m := (i : Int)) (n := 64) (r := (i : Int) * 64) (hA9.ev (i := 15)) (ec _ (.int .i64 64)) (wr (by omega) (by omega) (by omega)) _ rfl) ?_
  intro a10 hA10; clear hA9
  refine sx_val (v := .int .i64 ((n : Int) - (i : Int) * 64)) hA10 rfl (ev_subR (k := .i64) (m := (n : Int)) (n := (i : Int) * 64) (r := (n : Int) - (i : Int) * 64) (hA10.ev (i := 14)) (hA10.ev (i := 16)) (wr (by omega) (by omega) (by omega)) _ rfl) ?_
  intro a11 hA11; clear hA10
  cases hd12 : decide ((n : Int) - (i : Int) * 64 ≤ 64)
  · have hp12 := of_decide_eq_false hd12
    refine sx_val (v := .int .i64 64) hA11 rfl (ev_minY (hA11.ev (i := 17) (v := .int .i64 ((n : Int) - (i : Int) * 64))) (ec _ (.int .i64 64)) (by omega) _ rfl) ?_
    intro a13 hA13; clear hA11
    refine sx_val hA13 rfl (ev_assign (hA13.ev (i := 18) (v := .int .i64 64)) _ rfl) ?_
    intro a14 hA14; clear hA13
    refine sx_nil ?_
    refine then_n ?_
    refine wp_seq ?_
    refine wp_seq ?_
    refine wp_region_lit ?_
    refine sx_val hA14 rfl (ev_move (hA14.ev (i := 7) (v := .int .i64 0)) _ rfl) ?_
    intro a15 hA15; clear hA14
    refine sx_val hA15 rfl (ev_move (hA15.ev (i := 8) (v := .int .i64 64)) _ rfl) ?_
    intro a16 hA16; clear hA15
    refine sx_val (v := .bool false) hA16 rfl (ev_geqB (k := .i64) (m := 0) (n := 64) (hA16.ev (i := 19)) (hA16.ev (i := 20)) (by decide) _ rfl) ?_
    intro a17 hA17; clear hA16
    refine sx_nil ?_
    refine then_n ?_
    refine wp_cond_false (hA17.ev (i := 21) (v := .bool false)) ?_
    refine wp_skip ?_
    refine then_n ?_
    refine wp_seq ?_
    refine wp_region_lit ?_
    refine sx_val hA17 rfl (ev_move (hA17.ev (i := 7) (v := .int .i64 0)) _ rfl) ?_
    intro a18 hA18; clear hA17
    refine sx_val (v := .int .u64 0) hA18 rfl (ev_convN (m := 0) (hA18.ev (i := 22)) (by decide) _ rfl) ?_
    intro a19 hA19; clear hA18
    refine sx_val (v := .int .u64 (((18446744073709551615 * 2 ^ 0 % 18446744073709551616) : Nat) : Int)) hA19 rfl (ev_shlN (k := .u64) (m := 18446744073709551615) (n := 0) (ec _ (.int .u64 18446744073709551615)) (hA19.ev (i := 23)) (by decide) rfl _ rfl) ?_
    intro a20 hA20; clear hA19
    refine sx_val hA20 rfl (ev_move (hA20.ev (i := 8) (v := .int .i64 64)) _ rfl) ?_
    intro a21 hA21; clear hA20
    refine sx_val (v := .int .i64 0) hA21 rfl (ev_subR (k := .i64) (m := 64) (n := 64) (r := 0) (ec _ (.int .i64 64)) (hA21.ev (i := 25)) (wr (by omega) (by omega) (by omega)) _ rfl) ?_
    intro a22 hA22; clear hA21
    refine sx_val (v := .int .u64 0) hA22 rfl (ev_convN (m := 0) (hA22.ev (i := 26)) (by decide) _ rfl) ?_
    intro a23 hA23; clear hA22
    refine sx_val (v := .int .u64 (((18446744073709551615 / 2 ^ 0) : Nat) : Int)) hA23 rfl (ev_shrN (k := .u64) (m := 18446744073709551615) (n := 0) (ec _ (.int .u64 18446744073709551615)) (hA23.ev (i := 27)) (by decide) rfl _ rfl) ?_
    intro a24 hA24; clear hA23
    refine sx_val (v := .int .u64 (((2 ^ 64 - 1) : Nat) : Int)) hA24 rfl (ev_andN (m := (18446744073709551615 * 2 ^ 0 % 18446744073709551616)) (n := (18446744073709551615 / 2 ^ 0)) (hA24.ev (i := 24)) (hA24.ev (i := 28)) (by decide) (Nat.lt_of_le_of_lt (Nat.div_le_self _ _) (by decide)) (mask_nat 64 (by omega)) _ rfl) ?_
    intro a25 hA25; clear hA24
    refine sx_val hA25 rfl (ev_assign (hA25.ev (i := 29) (v := .int .u64 (((2 ^ 64 - 1) : Nat) : Int))) _ rfl) ?_
    intro a26 hA26; clear hA25
    refine sx_nil ?_
    refine then_n ?_
    refine wp_ret ?_
    refine bodyPost_ret (rs_t (v := .int .u64 (((2 ^ 64 - 1) : Nat) : Int)) Try.results52 hA26 (by kernel_rfl) ) hA26.2.1 ?_
    exact ⟨by rw [show hgh i n = 64 from if_neg (by omega)], hbel0⟩
  have hp12 := of_decide_eq_true hd12
  refine sx_val (v := .int .i64 ((n : Int) - (i : Int) * 64)) hA11 rfl (ev_minX (hA11.ev (i := 17) (v := .int .i64 ((n : Int) - (i : Int) * 64))) (ec _ (.int .i64 64)) (by omega) _ rfl) ?_
  intro a27 hA27; clear hA11
  refine sx_val hA27 rfl (ev_assign (hA27.ev (i := 18) (v := .int .i64 ((n : Int) - (i : Int) * 64))) _ rfl) ?_
  intro a28 hA28; clear hA27
  refine sx_nil ?_
  refine then_n ?_
  refine wp_seq ?_
  refine wp_seq ?_
  refine wp_region_lit ?_
  refine sx_val hA28 rfl (ev_move (hA28.ev (i := 7) (v := .int .i64 0)) _ rfl) ?_
  intro a29 hA29; clear hA28
  refine sx_val hA29 rfl (ev_move (hA29.ev (i := 8) (v := .int .i64 ((n : Int) - (i : Int) * 64))) _ rfl) ?_
  intro a30 hA30; clear hA29
  refine sx_val (v := .bool false) hA30 rfl (ev_geqB (k := .i64) (m := 0) (n := (n : Int) - (i : Int) * 64) (hA30.ev (i := 19)) (hA30.ev (i := 20)) (by simp; omega) _ rfl) ?_
  intro a31 hA31; clear hA30
  refine sx_nil ?_
  refine then_n ?_
  refine wp_cond_false (hA31.ev (i := 21) (v := .bool false)) ?_
  refine wp_skip ?_
  refine then_n ?_
  refine wp_seq ?_
  refine wp_region_lit ?_
  refine sx_val hA31 rfl (ev_move (hA31.ev (i := 7) (v := .int .i64 0)) _ rfl) ?_
  intro a32 hA32; clear hA31
  refine sx_val (v := .int .u64 0) hA32 rfl (ev_convN (m := 0) (hA32.ev (i := 22)) (by decide) _ rfl) ?_
  intro a33 hA33; clear hA32
  refine sx_val (v := .int .u64 (((18446744073709551615 * 2 ^ 0 % 18446744073709551616) : Nat) : Int)) hA33 rfl (ev_shlN (k := .u64) (m := 18446744073709551615) (n := 0) (ec _ (.int .u64 18446744073709551615)) (hA33.ev (i := 23)) (by decide) rfl _ rfl) ?_
  intro a34 hA34; clear hA33
  refine sx_val hA34 rfl (ev_move (hA34.ev (i := 8) (v := .int .i64 ((n : Int) - (i : Int) * 64))) _ rfl) ?_
  intro a35 hA35; clear hA34
  refine sx_val (v := .int .i64 (((64 - (n - 64 * i)) : Nat) : Int)) hA35 rfl (ev_subR (k := .i64) (m := 64) (n := (n : Int) - (i : Int) * 64) (r := (((64 - (n - 64 * i)) : Nat) : Int)) (ec _ (.int .i64 64)) (hA35.ev (i := 25)) (wr (by omega) (by omega) (by omega)) _ rfl) ?_
  intro a36 hA36; clear hA35
  refine sx_val (v := .int .u64 (((64 - (n - 64 * i)) : Nat) : Int)) hA36 rfl (ev_convN (m := (64 - (n - 64 * i))) (hA36.ev (i := 26)) (by omega) _ rfl) ?_
  intro a37 hA37; clear hA36
  refine sx_val (v := .int .u64 (((18446744073709551615 / 2 ^ (64 - (n - 64 * i))) : Nat) : Int)) hA37 rfl (ev_shrN (k := .u64) (m := 18446744073709551615) (n := (64 - (n - 64 * i))) (ec _ (.int .u64 18446744073709551615)) (hA37.ev (i := 27)) (by omega) rfl _ rfl) ?_
  intro a38 hA38; clear hA37
  refine sx_val (v := .int .u64 (((2 ^ (n - 64 * i) - 1) : Nat) : Int)) hA38 rfl (ev_andN (m := (18446744073709551615 * 2 ^ 0 % 18446744073709551616)) (n := (18446744073709551615 / 2 ^ (64 - (n - 64 * i)))) (hA38.ev (i := 24)) (hA38.ev (i := 28)) (by decide) (Nat.lt_of_le_of_lt (Nat.div_le_self _ _) (by decide)) (mask_nat (n - 64 * i) (by omega)) _ rfl) ?_
  intro a39 hA39; clear hA38
  refine sx_val hA39 rfl (ev_assign (hA39.ev (i := 29) (v := .int .u64 (((2 ^ (n - 64 * i) - 1) : Nat) : Int))) _ rfl) ?_
  intro a40 hA40; clear hA39
  refine sx_nil ?_
  refine then_n ?_
  refine wp_ret ?_
  refine bodyPost_ret (rs_t (v := .int .u64 (((2 ^ (n - 64 * i) - 1) : Nat) : Int)) Try.results52 hA40 (by kernel_rfl) ) hA40.2.1 ?_
  exact ⟨by rw [show hgh i n = n - 64 * i from if_pos (by omega)], hbel0⟩

set_option maxHeartbeats 1000000 in
theorem ones_any (S : Nat → Bool) (o : Nat) (w : World) : Calls Try.prog 51 #[.int .u64 ((wdn S o 64 : Nat) : Int)] w (RetB w (.returned (.int .i64 ((cntS S o 64 : Nat) : Int)))) := by
  obtain ⟨x0, hx0⟩ : ∃ x0, wdn S o 64 = x0 := ⟨_, rfl⟩
  have hb0 : x0 < 18446744073709551616 := by rw [← hx0]; exact wd64 S o
  obtain ⟨x1, hx1⟩ : ∃ x1, (x0 / 2 ^ 1 &&& 6148914691236517205) + (x0 &&& 6148914691236517205) = x1 := ⟨_, rfl⟩
  obtain ⟨x2, hx2⟩ : ∃ x2, (x1 / 2 ^ 2 &&& 3689348814741910323) + (x1 &&& 3689348814741910323) = x2 := ⟨_, rfl⟩
  obtain ⟨x3, hx3⟩ : ∃ x3, (x2 / 2 ^ 4 + x2) &&& 1085102592571150095 = x3 := ⟨_, rfl⟩
  obtain ⟨x4, hx4⟩ : ∃ x4, x3 + x3 / 2 ^ 8 = x4 := ⟨_, rfl⟩
  obtain ⟨x5, hx5⟩ : ∃ x5, x4 + x4 / 2 ^ 16 = x5 := ⟨_, rfl⟩
  obtain ⟨x6, hx6⟩ : ∃ x6, x5 + x5 / 2 ^ 32 = x6 := ⟨_, rfl⟩
  have hb1 : x1 ≤ 12297829382473034410 := by rw [← hx1]; exact and2'
  have hb2 : x2 ≤ 7378697629483820646 := by rw [← hx2]; exact and2'
  have ones := ones_wdn S o (X := x3) (Y := x4) (Z := x5) (by rw [hx0, ← hx3, ← hx2, ← hx1]; rfl) hx4.symm hx5.symm
  rw [show x5 + x5 / 4294967296 = x6 from hx6] at ones
  rw [hx0]
  have hbel0 := below0 w
  refine sx_enter (N := 35) [(0, .int .u64 ((x0 : Nat) : Int))] Try.func51 rfl Try.ntmps51 (by simp) (fun a z d s => ((Ag.nil z d).cons (s 0 _ rfl))) ?_
  intro a0 hA0
  refine wp_seq ?_
  refine wp_region_lit ?_
  refine sx_val hA0 rfl (ev_assign (ec _ (.int .i64 0)) _ rfl) ?_
  intro a1 hA1; clear hA0
  refine sx_nil ?_
  refine then_n ?_
  refine wp_seq ?_
  refine wp_region_lit ?_
  refine sx_val hA1 rfl (ev_move (hA1.ev (i := 0) (v := .int .u64 ((x0 : Nat) : Int))) _ rfl) ?_
  intro a2 hA2; clear hA1
  refine sx_val (v := .int .u64 (((x0 / 2 ^ 1) : Nat) : Int)) hA2 rfl (ev_shrN (k := .u64) (m := x0) (n := 1) (hA2.ev (i := 3)) (ec _ (.int .u64 1)) (by decide) rfl _ rfl) ?_
  intro a3 hA3; clear hA2
  refine sx_val (v := .int .u64 ((((x0 / 2 ^ 1) &&& 6148914691236517205) : Nat) : Int)) hA3 rfl (ev_andN (m := (x0 / 2 ^ 1)) (n := 6148914691236517205) (hA3.ev (i := 4)) (ec _ (.int .u64 6148914691236517205)) (by omega) (by decide) rfl _ rfl) ?_
  intro a4 hA4; clear hA3
  refine sx_val hA4 rfl (ev_move (hA4.ev (i := 0) (v := .int .u64 ((x0 : Nat) : Int))) _ rfl) ?_
  intro a5 hA5; clear hA4
  refine sx_val (v := .int .u64 (((x0 &&& 6148914691236517205) : Nat) : Int)) hA5 rfl (ev_andN (m := x0) (n := 6148914691236517205) (hA5.ev (i := 6)) (ec _ (.int .u64 6148914691236517205)) (by omega) (by decide) rfl _ rfl) ?_
  intro a6 hA6; clear hA5
  refine sx_val (v := .int .u64 ((x1 : Nat) : Int)) hA6 rfl (ev_addN (m := ((x0 / 2 ^ 1) &&& 6148914691236517205)) (n := (x0 &&& 6148914691236517205)) (hA6.ev (i := 5)) (hA6.ev (i := 7)) (and2 (by decide)) hx1 _ rfl) ?_
  intro a7 hA7; clear hA6
  refine sx_val hA7 rfl (ev_assign (hA7.ev (i := 8) (v := .int .u64 ((x1 : Nat) : Int))) _ rfl) ?_
  intro a8 hA8; clear hA7
  refine sx_nil ?_
  refine then_n ?_
  refine wp_seq ?_
  refine wp_region_lit ?_
  refine sx_val hA8 rfl (ev_move (hA8.ev (i := 0) (v := .int .u64 ((x1 : Nat) : Int))) _ rfl) ?_
  intro a9 hA9; clear hA8
  refine sx_val (v := .int .u64 (((x1 / 2 ^ 2) : Nat) : Int)) hA9 rfl (ev_shrN (k := .u64) (m := x1) (n := 2) (hA9.ev (i := 9)) (ec _ (.int .u64 2)) (by decide) rfl _ rfl) ?_
  intro a10 hA10; clear hA9
  refine sx_val (v := .int .u64 ((((x1 / 2 ^ 2) &&& 3689348814741910323) : Nat) : Int)) hA10 rfl (ev_andN (m := (x1 / 2 ^ 2)) (n := 3689348814741910323) (hA10.ev (i := 10)) (ec _ (.int .u64 3689348814741910323)) (by omega) (by decide) rfl _ rfl) ?_
  intro a11 hA11; clear hA10
  refine sx_val hA11 rfl (ev_move (hA11.ev (i := 0) (v := .int .u64 ((x1 : Nat) : Int))) _ rfl) ?_
  intro a12 hA12; clear hA11
  refine sx_val (v := .int .u64 (((x1 &&& 3689348814741910323) : Nat) : Int)) hA12 rfl (ev_andN (m := x1) (n := 3689348814741910323) (hA12.ev (i := 12)) (ec _ (.int .u64 3689348814741910323)) (by omega) (by decide) rfl _ rfl) ?_
  intro a13 hA13; clear hA12
  refine sx_val (v := .int .u64 ((x2 : Nat) : Int)) hA13 rfl (ev_addN (m := ((x1 / 2 ^ 2) &&& 3689348814741910323)) (n := (x1 &&& 3689348814741910323)) (hA13.ev (i := 11)) (hA13.ev (i := 13)) (and2 (by decide)) hx2 _ rfl) ?_
  intro a14 hA14; clear hA13
  refine sx_val hA14 rfl (ev_assign (hA14.ev (i := 14) (v := .int .u64 ((x2 : Nat) : Int))) _ rfl) ?_
  intro a15 hA15; clear hA14
  refine sx_nil ?_
  refine then_n ?_
  refine wp_seq ?_
  refine wp_region_lit ?_
  refine sx_val hA15 rfl (ev_move (hA15.ev (i := 0) (v := .int .u64 ((x2 : Nat) : Int))) _ rfl) ?_
  intro a16 hA16; clear hA15
  refine sx_val (v := .int .u64 (((x2 / 2 ^ 4) : Nat) : Int)) hA16 rfl (ev_shrN (k := .u64) (m := x2) (n := 4) (hA16.ev (i := 15)) (ec _ (.int .u64 4)) (by decide) rfl _ rfl) ?_
  intro a17 hA17; clear hA16
  refine sx_val hA17 rfl (ev_move (hA17.ev (i := 0) (v := .int .u64 ((x2 : Nat) : Int))) _ rfl) ?_
  intro a18 hA18; clear hA17
  refine sx_val (v := .int .u64 (((x2 / 2 ^ 4 + x2) : Nat) : Int)) hA18 rfl (ev_addN (m := (x2 / 2 ^ 4)) (n := x2) (hA18.ev (i := 16)) (hA18.ev (i := 17)) (by omega) rfl _ rfl) ?_
  intro a19 hA19; clear hA18
  refine sx_val (v := .int .u64 ((x3 : Nat) : Int)) hA19 rfl (ev_andN (m := (x2 / 2 ^ 4 + x2)) (n := 1085102592571150095) (hA19.ev (i := 18)) (ec _ (.int .u64 1085102592571150095)) (by omega) (by decide) hx3 _ rfl) ?_
  intro a20 hA20; clear hA19
  refine sx_val hA20 rfl (ev_assign (hA20.ev (i := 19) (v := .int .u64 ((x3 : Nat) : Int))) _ rfl) ?_
  intro a21 hA21; clear hA20
  refine sx_nil ?_
  refine then_n ?_
  refine wp_seq ?_
  refine wp_region_lit ?_
  refine sx_val hA21 rfl (ev_move (hA21.ev (i := 0) (v := .int .u64 ((x3 : Nat) : Int))) _ rfl) ?_
  intro a22 hA22; clear hA21
  refine sx_val hA22 rfl (ev_move (hA22.ev (i := 0) (v := .int .u64 ((x3 : Nat) : Int))) _ rfl) ?_
  intro a23 hA23; clear hA22
  refine sx_val (v := .int .u64 (((x3 / 2 ^ 8) : Nat) : Int)) hA23 rfl (ev_shrN (k := .u64) (m := x3) (n := 8) (hA23.ev (i := 21)) (ec _ (.int .u64 8)) (by decide) rfl _ rfl) ?_
  intro a24 hA24; clear hA23
  refine sx_val (v := .int .u64 ((x4 : Nat) : Int)) hA24 rfl (ev_addN (m := x3) (n := (x3 / 2 ^ 8)) (hA24.ev (i := 20)) (hA24.ev (i := 22)) (by omega) hx4 _ rfl) ?_
  intro a25 hA25; clear hA24
  refine sx_val hA25 rfl (ev_assign (hA25.ev (i := 23) (v := .int .u64 ((x4 : Nat) : Int))) _ rfl) ?_
  intro a26 hA26; clear hA25
  refine sx_nil ?_
  refine then_n ?_
  refine wp_seq ?_
  refine wp_region_lit ?_
  refine sx_val hA26 rfl (ev_move (hA26.ev (i := 0) (v := .int .u64 ((x4 : Nat) : Int))) _ rfl) ?_
  intro a27 hA27; clear hA26
  refine sx_val hA27 rfl (ev_move (hA27.ev (i := 0) (v := .int .u64 ((x4 : Nat) : Int))) _ rfl) ?_
  intro a28 hA28; clear hA27
  refine sx_val (v := .int .u64 (((x4 / 2 ^ 16) : Nat) : Int)) hA28 rfl (ev_shrN (k := .u64) (m := x4) (n := 16) (hA28.ev (i := 25)) (ec _ (.int .u64 16)) (by decide) rfl _ rfl) ?_
  intro a29 hA29; clear hA28
  refine sx_val (v := .int .u64 ((x5 : Nat) : Int)) hA29 rfl (ev_addN (m := x4) (n := (x4 / 2 ^ 16)) (hA29.ev (i := 24)) (hA29.ev (i := 26)) (by omega) hx5 _ rfl) ?_
  intro a30 hA30; clear hA29
  refine sx_val hA30 rfl (ev_assign (hA30.ev (i := 27) (v := .int .u64 ((x5 : Nat) : Int))) _ rfl) ?_
  intro a31 hA31; clear hA30
  refine sx_nil ?_
  refine then_n ?_
  refine wp_seq ?_
  refine wp_region_lit ?_
  refine sx_val hA31 rfl (ev_move (hA31.ev (i := 0) (v := .int .u64 ((x5 : Nat) : Int))) _ rfl) ?_
  intro a32 hA32; clear hA31
  refine sx_val hA32 rfl (ev_move (hA32.ev (i := 0) (v := .int .u64 ((x5 : Nat) : Int))) _ rfl) ?_
  intro a33 hA33; clear hA32
  refine sx_val (v := .int .u64 (((x5 / 2 ^ 32) : Nat) : Int)) hA33 rfl (ev_shrN (k := .u64) (m := x5) (n := 32) (hA33.ev (i := 29)) (ec _ (.int .u64 32)) (by decide) rfl _ rfl) ?_
  intro a34 hA34; clear hA33
  refine sx_val (v := .int .u64 ((x6 : Nat) : Int)) hA34 rfl (ev_addN (m := x5) (n := (x5 / 2 ^ 32)) (hA34.ev (i := 28)) (hA34.ev (i := 30)) (by omega) hx6 _ rfl) ?_
  intro a35 hA35; clear hA34
  refine sx_val hA35 rfl (ev_assign (hA35.ev (i := 31) (v := .int .u64 ((x6 : Nat) : Int))) _ rfl) ?_
  intro a36 hA36; clear hA35
  refine sx_nil ?_
  refine then_n ?_
  refine wp_seq ?_
  refine wp_region_lit ?_
  refine sx_val hA36 rfl (ev_move (hA36.ev (i := 0) (v := .int .u64 ((x6 : Nat) : Int))) _ rfl) ?_
  intro a37 hA37; clear hA36
  refine sx_val (v := .int .i64 ((x6 : Nat) : Int)) hA37 rfl (ev_convI (m := x6) (hA37.ev (i := 32)) (by omega) _ rfl) ?_
  intro a38 hA38; clear hA37
  refine sx_val (v := .int .i64 ((cntS S o 64 : Nat) : Int)) hA38 rfl (ev_andI (m := x6) (hA38.ev (i := 33)) (ec _ (.int .i64 127)) (by omega) ones.2 _ rfl) ?_
  intro a39 hA39; clear hA38
  refine sx_val hA39 rfl (ev_assign (hA39.ev (i := 34) (v := .int .i64 ((cntS S o 64 : Nat) : Int))) _ rfl) ?_
  intro a40 hA40; clear hA39
  refine sx_nil ?_
  refine then_n ?_
  refine wp_ret ?_
  refine bodyPost_ret (rs_t (v := .int .i64 ((cntS S o 64 : Nat) : Int)) Try.results51 hA40 (by kernel_rfl) ) hA40.2.1 ?_
  exact ⟨rfl, hbel0⟩

set_option maxHeartbeats 2000000 in
theorem bCheck_any (A : Option Addr) (c m n : Nat) (S : Nat → Bool) (w : World) (hg : GR 1 uva w A c (wls S m)) (h1 : 1 ≤ n) (hn : n ≤ 256) (hm : m = (n + 64 - 1) / 64) (hS : ∀ j, n ≤ j → S j = false) : Calls Try.prog 50 #[.agg #[.int .i64 (n : Int), .slice A m c]] w (RetB w (.returned (.int .i64 0))) := by
  have hwl := wls_len S m
  have hmw : decide ((m : Int) = ((((n + 64 - 1) / 64) : Nat) : Int)) = true := decide_eq_true (by omega)
  have hbel0 := below0 w
  refine sx_enter (N := 38) [(0, .agg #[.int .i64 (n : Int), .slice A m c])] Try.func50 rfl Try.ntmps50 (by simp) (fun a z d s => ((Ag.nil z d).cons (s 0 _ rfl))) ?_
  intro a0 hA0
  refine wp_seq ?_
  refine wp_region_lit ?_
  refine sx_new (cs := #[.int .i64 (n : Int), .slice A m c]) (t := 76) hA0 rfl (by decide) (.inl rfl) (ev_box (hA0.ev (i := 0) (v := .agg #[.int .i64 (n : Int), .slice A m c])) rfl _ rfl) ?_
  intro B1 w1 a1 hB1 hx1 hg1 hA1
  clear hA0
  have hs1 := hg1.size
  have hl1 := hx1.lt
  refine sx_val hA1 rfl (ev_assign (ec _ (.int .i64 0)) _ rfl) ?_
  intro a2 hA2; clear hA1
  refine sx_nil ?_
  refine then_n ?_
  refine wp_seq ?_
  refine wp_seq ?_
  refine wp_region_lit ?_
  refine sx_val (v := .pointer (some ⟨B1, 0, none⟩)) hA2 rfl (fb_Bits_0 (hA2.ev (i := 1) (v := .pointer (some ⟨B1, 0, none⟩))) _ rfl) ?_
  intro a3 hA3; clear hA2
  refine sx_val (v := .int .i64 (n : Int)) hA3 rfl (ev_cell (v := .int .i64 (n : Int)) (hA3.ev (i := 4) (v := .pointer (some ⟨B1, 0, none⟩))) ((hx1.cell 0).trans rfl) Try.underlying3 rfl _ rfl) ?_
  intro a4 hA4; clear hA3
  refine sx_val (v := .bool false) hA4 rfl (ev_lssB (k := .i64) (m := (n : Int)) (n := 0) (hA4.ev (i := 5)) (ec _ (.int .i64 0)) (by simp) _ rfl) ?_
  intro a5 hA5; clear hA4
  refine sx_val hA5 rfl (ev_move (hA5.ev (i := 6) (v := .bool false)) _ rfl) ?_
  intro a6 hA6; clear hA5
  refine sx_val (hg := (.inr ⟨3, false, 7, rfl, rfl, by kernel_rfl⟩)) (v := .pointer (some ⟨B1, 0, none⟩)) hA6 rfl (fb_Bits_0 (hA6.ev (i := 1) (v := .pointer (some ⟨B1, 0, none⟩))) _ rfl) ?_
  intro a7 hA7; clear hA6
  refine sx_val (hg := (.inr ⟨3, false, 7, rfl, rfl, by kernel_rfl⟩)) (v := .int .i64 (n : Int)) hA7 rfl (ev_cell (v := .int .i64 (n : Int)) (hA7.ev (i := 8) (v := .pointer (some ⟨B1, 0, none⟩))) ((hx1.cell 0).trans rfl) Try.underlying3 rfl _ rfl) ?_
  intro a8 hA8; clear hA7
  refine sx_val (hg := (.inr ⟨3, false, 7, rfl, rfl, by kernel_rfl⟩)) (v := .bool false) hA8 rfl (ev_gtrB (k := .i64) (m := (n : Int)) (n := 1024) (hA8.ev (i := 9)) (ec _ (.int .i64 1024)) (by simp; omega) _ rfl) ?_
  intro a9 hA9; clear hA8
  refine sx_val hA9 rfl (ev_pickF (hA9.ev (i := 7) (v := .bool false)) (hA9.ev (i := 10) (v := .bool false)) _ rfl) ?_
  intro a10 hA10; clear hA9
  refine sx_nil ?_
  refine then_n ?_
  refine wp_cond_false (hA10.ev (i := 11) (v := .bool false)) ?_
  refine wp_skip ?_
  refine then_n ?_
  refine wp_seq ?_
  refine wp_seq ?_
  have hbel0_11 := Below.gN hbel0 hg1 hbel0.size
  refine region_D (n := 7) (by kernel_rfl) (by kernel_rfl) rfl (fun L ac wc => Below w.heap.size w wc ∧ w1.heap.size ≤ wc.heap.size ∧ Bx wc B1 76 (#[.int .i64 (n : Int), .slice A m c]) ∧ (L 0 = true → Sv ac 12 (.pointer (some ⟨B1, 1, none⟩))) ∧ (L 1 = true → Sv ac 13 (.slice A m c)) ∧ (L 2 = true → Sv ac 14 (.int .i64 (m : Int))) ∧ (L 3 = true → Sv ac 15 (.pointer (some ⟨B1, 0, none⟩))) ∧ (L 4 = true → Sv ac 16 (.int .i64 (n : Int))) ∧ (L 5 = true → Sv ac 17 (.int .i64 ((((n + 64 - 1) / 64) : Nat) : Int))) ∧ (L 6 = true → Sv ac 18 (.bool false))) ⟨(Below.gN hbel0_11 (gdr _) hbel0_11.size), (Nat.le_refl _), (hx1.gN (gdr _)), (fun h => by cases h), (fun h => by cases h), (fun h => by cases h), (fun h => by cases h), (fun h => by cases h), (fun h => by cases h), (fun h => by cases h)⟩ ?_ ?_
  · intro iq hiq o ho L hL hdep ac wc hF hJ
    obtain ⟨bl, sz, b_B1, s_12, s_13, s_14, s_15, s_16, s_17, s_18⟩ := hJ
    have zq := hF.1.trans hA10.1
    match iq, hiq with
    | 0, _ =>
      obtain rfl := Option.some.inj (show some _ = some o from ho); clear ho
      have v1 := hF.sv (s := 1) (by kernel_rfl) (hA10.get (i := 1) (v := .pointer (some ⟨B1, 0, none⟩)))
      refine dj_val (i := 0) (v := .pointer (some ⟨B1, 1, none⟩)) rfl (.inl rfl) (fb_Bits_1 v1.eval _ rfl) ?_
      exact ⟨⟨_, rfl⟩, bl, sz, b_B1, (fun _ => Sv.self (by rw [zq]; decide) _), (so s_13), (so s_14), (so s_15), (so s_16), (so s_17), (so s_18)⟩
    | 1, _ =>
      obtain rfl := Option.some.inj (show some _ = some o from ho); clear ho
      have v12 := s_12 (dp hdep 0)
      refine dj_val (i := 1) (v := .slice A m c) rfl (.inl rfl) (ev_cell (v := .slice A m c) v12.eval ((b_B1.cell 1).trans rfl) Try.underlying74 rfl _ rfl) ?_
      exact ⟨⟨_, rfl⟩, bl, sz, b_B1, (so s_12), (fun _ => Sv.self (by rw [zq]; decide) _), (so s_14), (so s_15), (so s_16), (so s_17), (so s_18)⟩
    | 2, _ =>
      obtain rfl := Option.some.inj (show some _ = some o from ho); clear ho
      have v13 := s_13 (dp hdep 1)
      refine dj_val (i := 2) (v := .int .i64 (m : Int)) rfl (.inl rfl) (ev_len v13.eval Try.underlying74 _ rfl) ?_
      exact ⟨⟨_, rfl⟩, bl, sz, b_B1, (so s_12), (so s_13), (fun _ => Sv.self (by rw [zq]; decide) _), (so s_15), (so s_16), (so s_17), (so s_18)⟩
    | 3, _ =>
      obtain rfl := Option.some.inj (show some _ = some o from ho); clear ho
      have v1 := hF.sv (s := 1) (by kernel_rfl) (hA10.get (i := 1) (v := .pointer (some ⟨B1, 0, none⟩)))
      refine dj_val (i := 3) (v := .pointer (some ⟨B1, 0, none⟩)) rfl (.inl rfl) (fb_Bits_0 v1.eval _ rfl) ?_
      exact ⟨⟨_, rfl⟩, bl, sz, b_B1, (so s_12), (so s_13), (so s_14), (fun _ => Sv.self (by rw [zq]; decide) _), (so s_16), (so s_17), (so s_18)⟩
    | 4, _ =>
      obtain rfl := Option.some.inj (show some _ = some o from ho); clear ho
      have v15 := s_15 (dp hdep 3)
      refine dj_val (i := 4) (v := .int .i64 (n : Int)) rfl (.inl rfl) (ev_cell (v := .int .i64 (n : Int)) v15.eval ((b_B1.cell 0).trans rfl) Try.underlying3 rfl _ rfl) ?_
      exact ⟨⟨_, rfl⟩, bl, sz, b_B1, (so s_12), (so s_13), (so s_14), (so s_15), (fun _ => Sv.self (by rw [zq]; decide) _), (so s_17), (so s_18)⟩
    | 5, _ =>
      obtain rfl := Option.some.inj (show some _ = some o from ho); clear ho
      have v16 := s_16 (dp hdep 4)
      refine dj_call (i := 5) (f := 53) (args := #[.int .i64 (n : Int)]) rfl (.inl rfl) (ev_fn rfl (mp1 v16.eval) (by kernel_rfl) _ rfl) (words_any n (by omega) _) ?_
      intro e wk5 hR
      obtain ⟨rfl, hb5⟩ := hR
      refine ⟨_, rfl, ?_⟩
      have hg := g0 hb5
      exact ⟨⟨_, rfl⟩, (Below.gN bl hg bl.size), (Nat.le_trans sz hg.size), (b_B1.gN hg), (so s_12), (so s_13), (so s_14), (so s_15), (so s_16), (fun _ => Sv.self (by rw [zq]; decide) _), (so s_18)⟩
    | 6, _ =>
      obtain rfl := Option.some.inj (show some _ = some o from ho); clear ho
      have v14 := s_14 (dp hdep 2)
      have v17 := s_17 (dp hdep 5)
      refine dj_val (i := 6) (v := .bool false) rfl (.inl rfl) (ev_neqB (k := .i64) (m := (m : Int)) (n := ((((n + 64 - 1) / 64) : Nat) : Int)) v14.eval v17.eval (by simpa using hmw) _ rfl) ?_
      exact ⟨⟨_, rfl⟩, bl, sz, b_B1, (so s_12), (so s_13), (so s_14), (so s_15), (so s_16), (so s_17), (fun _ => Sv.self (by rw [zq]; decide) _)⟩
    | k + 7, h => exact absurd h (by omega)
  · intro L hall ac12 wc12 hF hJ
    obtain ⟨bl, sz, b_B1, s_12, s_13, s_14, s_15, s_16, s_17, s_18⟩ := hJ
    have hA12 : Ag ac12 38 [(1, .pointer (some ⟨B1, 0, none⟩)), (2, .int .i64 0), (18, .bool false)] := ((((Ag.nil (hF.1.trans hA10.1) (hF.2.1.trans hA10.2.1)).cons (s_18 (hall 6 (by decide)))).cons (hF.sv (s := 2) (by kernel_rfl) (hA10.get (i := 2) (v := .int .i64 0)))).cons (hF.sv (s := 1) (by kernel_rfl) (hA10.get (i := 1) (v := .pointer (some ⟨B1, 0, none⟩)))))
    have bl12 := bl
    have sz12 := sz
    have b12_B1 := b_B1
    clear hF bl sz b_B1 s_12 s_13 s_14 s_15 s_16 s_17 s_18 hall hA10
    refine then_n ?_
    refine wp_cond_false (hA12.ev (i := 18) (v := .bool false)) ?_
    refine wp_skip ?_
    refine then_n ?_
    refine wp_seq ?_
    refine wp_seq ?_
    refine wp_region_lit ?_
    refine sx_val (v := .pointer (some ⟨B1, 0, none⟩)) hA12 rfl (fb_Bits_0 (hA12.ev (i := 1) (v := .pointer (some ⟨B1, 0, none⟩))) _ rfl) ?_
    intro a13 hA13; clear hA12
    refine sx_val (v := .int .i64 (n : Int)) hA13 rfl (ev_cell (v := .int .i64 (n : Int)) (hA13.ev (i := 19) (v := .pointer (some ⟨B1, 0, none⟩))) ((b12_B1.cell 0).trans rfl) Try.underlying3 rfl _ rfl) ?_
    intro a14 hA14; clear hA13
    refine sx_val (v := .int .u64 (n : Int)) hA14 rfl (ev_convN (m := n) (hA14.ev (i := 20)) (by omega) _ rfl) ?_
    intro a15 hA15; clear hA14
    refine sx_val (v := .int .u64 (((n % 64) : Nat) : Int)) hA15 rfl (ev_remN (k := .u64) (m := n) (n := 64) (hA15.ev (i := 21)) (ec _ (.int .u64 64)) (by decide) rfl _ rfl) ?_
    intro a16 hA16; clear hA15
    refine sx_val hA16 rfl (ev_assign (hA16.ev (i := 22) (v := .int .u64 (((n % 64) : Nat) : Int))) _ rfl) ?_
    intro a17 hA17; clear hA16
    refine sx_nil ?_
    refine then_n ?_
    refine wp_seq ?_
    refine wp_region_lit ?_
    refine sx_val hA17 rfl (ev_move (hA17.ev (i := 3) (v := .int .u64 (((n % 64) : Nat) : Int))) _ rfl) ?_
    intro a18 hA18; clear hA17
    cases hd19 : decide ((((n % 64) : Nat) : Int) = 0)
    rotate_left
    · have hp19 := of_decide_eq_true hd19
      refine sx_val (v := .bool false) hA18 rfl (ev_neqB (k := .u64) (m := (((n % 64) : Nat) : Int)) (n := 0) (hA18.ev (i := 23)) (ec _ (.int .u64 0)) (by simpa using hd19) _ rfl) ?_
      intro a36 hA36; clear hA18
      refine sx_val hA36 rfl (ev_move (hA36.ev (i := 24) (v := .bool false)) _ rfl) ?_
      intro a37 hA37; clear hA36
      refine sx_no (j := 2) (s := 25) (want := true) (b := false) hA37 rfl ?_
      intro a38 hA38; clear hA37
      refine sx_no (j := 2) (s := 25) (want := true) (b := false) hA38 rfl ?_
      intro a39 hA39; clear hA38
      refine sx_no (j := 2) (s := 25) (want := true) (b := false) hA39 rfl ?_
      intro a40 hA40; clear hA39
      refine sx_no (j := 2) (s := 25) (want := true) (b := false) hA40 rfl ?_
      intro a41 hA41; clear hA40
      refine sx_no (j := 2) (s := 25) (want := true) (b := false) hA41 rfl ?_
      intro a42 hA42; clear hA41
      refine sx_no (j := 2) (s := 25) (want := true) (b := false) hA42 rfl ?_
      intro a43 hA43; clear hA42
      refine sx_no (j := 2) (s := 25) (want := true) (b := false) hA43 rfl ?_
      intro a44 hA44; clear hA43
      refine sx_no (j := 2) (s := 25) (want := true) (b := false) hA44 rfl ?_
      intro a45 hA45; clear hA44
      refine sx_no (j := 2) (s := 25) (want := true) (b := false) hA45 rfl ?_
      intro a46 hA46; clear hA45
      refine sx_no (j := 2) (s := 25) (want := true) (b := false) hA46 rfl ?_
      intro a47 hA47; clear hA46
      refine sx_no (j := 2) (s := 25) (want := true) (b := false) hA47 rfl ?_
      intro a48 hA48; clear hA47
      refine sx_val hA48 rfl (ev_pickF (hA48.ev (i := 25) (v := .bool false)) (ec _ (.bool false)) _ rfl) ?_
      intro a49 hA49; clear hA48
      refine sx_nil ?_
      refine then_n ?_
      refine wp_cond_false (hA49.ev (i := 37) (v := .bool false)) ?_
      refine wp_skip ?_
      refine then_n ?_
      refine wp_seq ?_
      refine wp_region_lit ?_
      refine sx_val hA49 rfl (ev_assign (ec _ (.int .i64 0)) _ rfl) ?_
      intro a50 hA50; clear hA49
      refine sx_nil ?_
      refine then_n ?_
      refine wp_ret ?_
      refine bodyPost_ret (rs_t (v := .int .i64 0) Try.results50 hA50 (by kernel_rfl) ) hA50.2.1 ?_
      exact ⟨rfl, bl12⟩
    have hp19 := of_decide_eq_false hd19
    refine sx_val (v := .bool true) hA18 rfl (ev_neqB (k := .u64) (m := (((n % 64) : Nat) : Int)) (n := 0) (hA18.ev (i := 23)) (ec _ (.int .u64 0)) (by simpa using hd19) _ rfl) ?_
    intro a20 hA20; clear hA18
    refine sx_val hA20 rfl (ev_move (hA20.ev (i := 24) (v := .bool true)) _ rfl) ?_
    intro a21 hA21; clear hA20
    refine sx_val (hg := (.inr ⟨2, true, 25, rfl, rfl, by kernel_rfl⟩)) (v := .pointer (some ⟨B1, 1, none⟩)) hA21 rfl (fb_Bits_1 (hA21.ev (i := 1) (v := .pointer (some ⟨B1, 0, none⟩))) _ rfl) ?_
    intro a22 hA22; clear hA21
    refine sx_val (hg := (.inr ⟨2, true, 25, rfl, rfl, by kernel_rfl⟩)) (v := .slice A m c) hA22 rfl (ev_cell (v := .slice A m c) (hA22.ev (i := 26) (v := .pointer (some ⟨B1, 1, none⟩))) ((b12_B1.cell 1).trans rfl) Try.underlying74 rfl _ rfl) ?_
    intro a23 hA23; clear hA22
    refine sx_val (hg := (.inr ⟨2, true, 25, rfl, rfl, by kernel_rfl⟩)) (v := .pointer (some ⟨B1, 1, none⟩)) hA23 rfl (fb_Bits_1 (hA23.ev (i := 1) (v := .pointer (some ⟨B1, 0, none⟩))) _ rfl) ?_
    intro a24 hA24; clear hA23
    refine sx_val (hg := (.inr ⟨2, true, 25, rfl, rfl, by kernel_rfl⟩)) (v := .slice A m c) hA24 rfl (ev_cell (v := .slice A m c) (hA24.ev (i := 28) (v := .pointer (some ⟨B1, 1, none⟩))) ((b12_B1.cell 1).trans rfl) Try.underlying74 rfl _ rfl) ?_
    intro a25 hA25; clear hA24
    refine sx_val (hg := (.inr ⟨2, true, 25, rfl, rfl, by kernel_rfl⟩)) (v := .int .i64 (m : Int)) hA25 rfl (ev_len (hA25.ev (i := 29) (v := .slice A m c)) Try.underlying74 _ rfl) ?_
    intro a26 hA26; clear hA25
    refine sx_val (hg := (.inr ⟨2, true, 25, rfl, rfl, by kernel_rfl⟩)) (v := .int .i64 (((m - 1) : Nat) : Int)) hA26 rfl (ev_subR (k := .i64) (m := (m : Int)) (n := 1) (r := (((m - 1) : Nat) : Int)) (hA26.ev (i := 30)) (ec _ (.int .i64 1)) (wr (by omega) (by omega) (by omega)) _ rfl) ?_
    intro a27 hA27; clear hA26
    obtain ⟨ad28, hAd28⟩ := GR.adr (hg.below bl12) uva_sz (wls_at S (by omega : m - 1 < m))
    refine sx_val (hg := (.inr ⟨2, true, 25, rfl, rfl, by kernel_rfl⟩)) (v := .pointer (some (ad28.add ((m - 1) * 1)))) hA27 rfl (ev_idx (k := (m - 1)) (hA27.ev (i := 27) (v := .slice A m c)) hAd28 (hA27.ev (i := 31) (v := .int .i64 (((m - 1) : Nat) : Int))) rfl (by omega) Try.underlying74 (by kernel_rfl) _ rfl) ?_
    intro a29 hA29; clear hA27
    refine sx_val (hg := (.inr ⟨2, true, 25, rfl, rfl, by kernel_rfl⟩)) (v := .int .u64 ((wdn S (64 * (m - 1)) 64 : Nat) : Int)) hA29 rfl (ev_cell (hA29.ev (i := 32) (v := .pointer (some (ad28.add ((m - 1) * 1))))) ((GR.cel (hg.below bl12) hAd28 uva_sz (wls_at S (by omega : m - 1 < m))) 0 _ rfl) Try.underlying52 rfl _ rfl) ?_
    intro a30 hA30; clear hA29
    refine sx_val (hg := (.inr ⟨2, true, 25, rfl, rfl, by kernel_rfl⟩)) hA30 rfl (ev_move (hA30.ev (i := 3) (v := .int .u64 (((n % 64) : Nat) : Int))) _ rfl) ?_
    intro a31 hA31; clear hA30
    refine sx_val (hg := (.inr ⟨2, true, 25, rfl, rfl, by kernel_rfl⟩)) (v := .int .u64 ((((wdn S (64 * (m - 1)) 64) / 2 ^ (n % 64)) : Nat) : Int)) hA31 rfl (ev_shrN (k := .u64) (m := (wdn S (64 * (m - 1)) 64)) (n := (n % 64)) (hA31.ev (i := 33)) (hA31.ev (i := 34)) (by omega) rfl _ rfl) ?_
    intro a32 hA32; clear hA31
    refine sx_val (hg := (.inr ⟨2, true, 25, rfl, rfl, by kernel_rfl⟩)) (v := .bool false) hA32 rfl (ev_neqB (k := .u64) (m := ((((wdn S (64 * (m - 1)) 64) / 2 ^ (n % 64)) : Nat) : Int)) (n := 0) (b := false) (hA32.ev (i := 35)) (ec _ (.int .u64 0)) (by rw [hm, wdn_top S n (by omega) hS]; rfl) _ rfl) ?_
    intro a33 hA33; clear hA32
    refine sx_val hA33 rfl (ev_pickT (hA33.ev (i := 25) (v := .bool true)) (hA33.ev (i := 36) (v := .bool false)) _ rfl) ?_
    intro a34 hA34; clear hA33
    refine sx_nil ?_
    refine then_n ?_
    refine wp_cond_false (hA34.ev (i := 37) (v := .bool false)) ?_
    refine wp_skip ?_
    refine then_n ?_
    refine wp_seq ?_
    refine wp_region_lit ?_
    refine sx_val hA34 rfl (ev_assign (ec _ (.int .i64 0)) _ rfl) ?_
    intro a35 hA35; clear hA34
    refine sx_nil ?_
    refine then_n ?_
    refine wp_ret ?_
    refine bodyPost_ret (rs_t (v := .int .i64 0) Try.results50 hA35 (by kernel_rfl) ) hA35.2.1 ?_
    exact ⟨rfl, bl12⟩

set_option maxHeartbeats 2000000 in
theorem bCount_any (A : Option Addr) (c m n : Nat) (S : Nat → Bool) (w : World) (hg : GR 1 uva w A c (wls S m)) (h1 : 1 ≤ n) (hn : n ≤ 256) (hm : m = (n + 64 - 1) / 64) (hS : ∀ j, n ≤ j → S j = false) : Calls Try.prog 49 #[.agg #[.int .i64 (n : Int), .slice A m c], .int .i64 0, .int .i64 (n : Int)] w (RetB w (.returned (.tuple #[.int .i64 ((cntS S 0 n : Nat) : Int), .int .i64 0]))) := by
  have hwl := wls_len S m
  have hbel0 := below0 w
  refine sx_enter (N := 49) [(0, .agg #[.int .i64 (n : Int), .slice A m c]), (1, .int .i64 0), (2, .int .i64 (n : Int))] Try.func49 rfl Try.ntmps49 (by simp) (fun a z d s => ((((Ag.nil z d).cons (s 2 _ rfl)).cons (s 1 _ rfl)).cons (s 0 _ rfl))) ?_
  intro a0 hA0
  refine wp_seq ?_
  refine wp_region_lit ?_
  refine sx_new (cs := #[.int .i64 (n : Int), .slice A m c]) (t := 76) hA0 rfl (by decide) (.inl rfl) (ev_box (hA0.ev (i := 0) (v := .agg #[.int .i64 (n : Int), .slice A m c])) rfl _ rfl) ?_
  intro B1 w1 a1 hB1 hx1 hg1 hA1
  clear hA0
  have hs1 := hg1.size
  have hl1 := hx1.lt
  refine sx_val hA1 rfl (ev_assign (ec _ (.int .i64 0)) _ rfl) ?_
  intro a2 hA2; clear hA1
  refine sx_val hA2 rfl (ev_assign (ec _ (.int .i64 0)) _ rfl) ?_
  intro a3 hA3; clear hA2
  refine sx_nil ?_
  refine then_n ?_
  refine wp_seq ?_
  refine wp_seq ?_
  refine wp_region_lit ?_
  refine sx_val (v := .agg #[.int .i64 (n : Int), .slice A m c]) hA3 rfl (ev_row (hA3.ev (i := 3) (v := .pointer (some ⟨B1, 0, none⟩))) hx1 Try.underlying76 rfl (n := 2) (by kernel_rfl) rfl _ rfl) ?_
  intro a4 hA4; clear hA3
  have hbel0_6 := Below.gN hbel0 hg1 hbel0.size
  refine sx_call (f := 50) (args := #[.agg #[.int .i64 (n : Int), .slice A m c]]) hA4 rfl (by decide) (.inl rfl) (ev_fn rfl (mp1 (hA4.ev (i := 12) (v := .agg #[.int .i64 (n : Int), .slice A m c]))) (by kernel_rfl) _ rfl) (bCheck_any A c m n S _ (hg.below hbel0_6) h1 hn hm hS) ?_
  intro e5 w5 hR5
  obtain ⟨rfl, hb5⟩ := hR5
  refine ⟨_, rfl, ?_⟩
  intro a5 hA5
  clear hA4
  have hg5 := g0 hb5
  have hs5 := hg5.size
  clear hb5
  refine sx_val hA5 rfl (ev_assign (hA5.ev (i := 13) (v := .int .i64 0)) _ rfl) ?_
  intro a7 hA7; clear hA5
  refine sx_nil ?_
  refine then_n ?_
  refine wp_seq ?_
  refine wp_region_lit ?_
  refine sx_val hA7 rfl (ev_move (hA7.ev (i := 8) (v := .int .i64 0)) _ rfl) ?_
  intro a8 hA8; clear hA7
  refine sx_val (v := .bool false) hA8 rfl (ev_neqB (k := .i64) (m := 0) (n := 0) (hA8.ev (i := 14)) (ec _ (.int .i64 0)) (by decide) _ rfl) ?_
  intro a9 hA9; clear hA8
  refine sx_nil ?_
  refine then_n ?_
  refine wp_cond_false (hA9.ev (i := 15) (v := .bool false)) ?_
  refine wp_skip ?_
  refine then_n ?_
  refine wp_seq ?_
  refine wp_seq ?_
  refine wp_region_lit ?_
  refine sx_val hA9 rfl (ev_move (hA9.ev (i := 1) (v := .int .i64 0)) _ rfl) ?_
  intro a10 hA10; clear hA9
  refine sx_val (v := .bool false) hA10 rfl (ev_lssB (k := .i64) (m := 0) (n := 0) (hA10.ev (i := 17)) (ec _ (.int .i64 0)) (by decide) _ rfl) ?_
  intro a11 hA11; clear hA10
  refine sx_val hA11 rfl (ev_move (hA11.ev (i := 18) (v := .bool false)) _ rfl) ?_
  intro a12 hA12; clear hA11
  refine sx_val (hg := (.inr ⟨2, false, 19, rfl, rfl, by kernel_rfl⟩)) hA12 rfl (ev_move (hA12.ev (i := 1) (v := .int .i64 0)) _ rfl) ?_
  intro a13 hA13; clear hA12
  refine sx_val (hg := (.inr ⟨2, false, 19, rfl, rfl, by kernel_rfl⟩)) hA13 rfl (ev_move (hA13.ev (i := 2) (v := .int .i64 (n : Int))) _ rfl) ?_
  intro a14 hA14; clear hA13
  refine sx_val (hg := (.inr ⟨2, false, 19, rfl, rfl, by kernel_rfl⟩)) (v := .bool false) hA14 rfl (ev_gtrB (k := .i64) (m := 0) (n := (n : Int)) (hA14.ev (i := 20)) (hA14.ev (i := 21)) (by simp) _ rfl) ?_
  intro a15 hA15; clear hA14
  refine sx_val hA15 rfl (ev_pickF (hA15.ev (i := 19) (v := .bool false)) (hA15.ev (i := 22) (v := .bool false)) _ rfl) ?_
  intro a16 hA16; clear hA15
  refine sx_val hA16 rfl (ev_move (hA16.ev (i := 23) (v := .bool false)) _ rfl) ?_
  intro a17 hA17; clear hA16
  refine sx_val (hg := (.inr ⟨7, false, 24, rfl, rfl, by kernel_rfl⟩)) hA17 rfl (ev_move (hA17.ev (i := 2) (v := .int .i64 (n : Int))) _ rfl) ?_
  intro a18 hA18; clear hA17
  refine sx_val (hg := (.inr ⟨7, false, 24, rfl, rfl, by kernel_rfl⟩)) (v := .pointer (some ⟨B1, 0, none⟩)) hA18 rfl (fb_Bits_0 (hA18.ev (i := 3) (v := .pointer (some ⟨B1, 0, none⟩))) _ rfl) ?_
  intro a19 hA19; clear hA18
  have hx1_20 := hx1.gN hg5
  refine sx_val (hg := (.inr ⟨7, false, 24, rfl, rfl, by kernel_rfl⟩)) (v := .int .i64 (n : Int)) hA19 rfl (ev_cell (v := .int .i64 (n : Int)) (hA19.ev (i := 26) (v := .pointer (some ⟨B1, 0, none⟩))) ((hx1_20.cell 0).trans rfl) Try.underlying3 rfl _ rfl) ?_
  intro a21 hA21; clear hA19
  refine sx_val (hg := (.inr ⟨7, false, 24, rfl, rfl, by kernel_rfl⟩)) (v := .bool false) hA21 rfl (ev_gtrB (k := .i64) (m := (n : Int)) (n := (n : Int)) (hA21.ev (i := 25)) (hA21.ev (i := 27)) (by simp) _ rfl) ?_
  intro a22 hA22; clear hA21
  refine sx_val hA22 rfl (ev_pickF (hA22.ev (i := 24) (v := .bool false)) (hA22.ev (i := 28) (v := .bool false)) _ rfl) ?_
  intro a23 hA23; clear hA22
  refine sx_nil ?_
  refine then_n ?_
  refine wp_cond_false (hA23.ev (i := 29) (v := .bool false)) ?_
  refine wp_skip ?_
  refine then_n ?_
  refine wp_seq ?_
  refine wp_region_lit ?_
  refine sx_val hA23 rfl (ev_assign (ec _ (.int .i64 0)) _ rfl) ?_
  intro a24 hA24; clear hA23
  refine sx_nil ?_
  refine then_n ?_
  refine wp_seq ?_
  refine wp_seq ?_
  refine wp_region_lit ?_
  refine sx_val (v := .pointer (some ⟨B1, 1, none⟩)) hA24 rfl (fb_Bits_1 (hA24.ev (i := 3) (v := .pointer (some ⟨B1, 0, none⟩))) _ rfl) ?_
  intro a25 hA25; clear hA24
  refine sx_val (v := .slice A m c) hA25 rfl (ev_cell (v := .slice A m c) (hA25.ev (i := 30) (v := .pointer (some ⟨B1, 1, none⟩))) ((hx1_20.cell 1).trans rfl) Try.underlying74 rfl _ rfl) ?_
  intro a26 hA26; clear hA25
  refine sx_val (v := .int .i64 (m : Int)) hA26 rfl (ev_len (hA26.ev (i := 31) (v := .slice A m c)) Try.underlying74 _ rfl) ?_
  intro a27 hA27; clear hA26
  refine sx_val hA27 rfl (ev_move (ec _ (.int .i64 0)) _ rfl) ?_
  intro a28 hA28; clear hA27
  refine sx_nil ?_
  refine then_n ?_
  refine wp_block ?_
  have hbel0_30 := Below.gN hbel0_6 hg5 hbel0_6.size
  refine wp_loop_ghost (fun gz a wl => ∃ (k : Nat), gz = m - k ∧ Ag a 49 [(1, .int .i64 0), (2, .int .i64 (n : Int)), (6, .int .i64 0), (7, .int .i64 0), (31, .slice A m c), (32, .int .i64 (m : Int)), (33, .int .i64 (k : Int)), (9, .int .i64 ((cntS S 0 (64 * k) : Nat) : Int))] ∧ k ≤ m ∧ w5.heap.size ≤ wl.heap.size ∧ Below w.heap.size w wl) (m - 0) ⟨0, rfl, (((((((((Ag.nil hA28.1 hA28.2.1).cons (hA28.get (i := 9) (v := .int .i64 0))).cons (hA28.get (i := 33) (v := .int .i64 0))).cons (hA28.get (i := 32) (v := .int .i64 (m : Int)))).cons (hA28.get (i := 31) (v := .slice A m c))).cons (hA28.get (i := 7) (v := .int .i64 0))).cons (hA28.get (i := 6) (v := .int .i64 0))).cons (hA28.get (i := 2) (v := .int .i64 (n : Int)))).cons (hA28.get (i := 1) (v := .int .i64 0))), Nat.zero_le _, Nat.le_refl _, hbel0_30⟩ ?_
  intro n29 a29 w29 hI29
  obtain ⟨k, hn29, hA29, q29_0, hsz29, hbel29⟩ := hI29
  subst hn29
  clear hA28
  cases hd31 : decide ((k : Int) < (m : Int))
  · have hp31 := of_decide_eq_false hd31
    refine wp_seq ?_
    refine wp_region_lit ?_
    refine sx_val (v := .bool false) hA29 rfl (ev_lssB (k := .i64) (m := (k : Int)) (n := (m : Int)) (hA29.ev (i := 33)) (hA29.ev (i := 32)) hd31 _ rfl) ?_
    intro a32 hA32; clear hA29
    refine sx_nil ?_
    refine then_n ?_
    refine wp_seq ?_
    refine wp_cond_false (hA32.ev (i := 34) (v := .bool false)) ?_
    refine wp_exit ?_
    refine then_x ?_
    refine then_x ?_
    refine blk_hit ?_
    refine then_n ?_
    refine wp_seq ?_
    refine wp_region_lit ?_
    refine sx_val hA32 rfl (ev_move (hA32.ev (i := 9) (v := .int .i64 ((cntS S 0 (64 * k) : Nat) : Int))) _ rfl) ?_
    intro a33 hA33; clear hA32
    refine sx_val hA33 rfl (ev_assign (hA33.ev (i := 48) (v := .int .i64 ((cntS S 0 (64 * k) : Nat) : Int))) _ rfl) ?_
    intro a34 hA34; clear hA33
    refine sx_val hA34 rfl (ev_assign (ec _ (.int .i64 0)) _ rfl) ?_
    intro a35 hA35; clear hA34
    refine sx_nil ?_
    refine then_n ?_
    refine wp_ret ?_
    refine bodyPost_ret (rs_tt (v := .int .i64 ((cntS S 0 (64 * k) : Nat) : Int)) (v2 := .int .i64 0) Try.results49 hA35 (by kernel_rfl) (by kernel_rfl) ) hA35.2.1 ?_
    have hkm : k = m := by omega
    have E : cntS S 0 (64 * k) = cntS S 0 n := by
      obtain ⟨d, hd⟩ : ∃ d, 64 * k = n + d := ⟨64 * k - n, by omega⟩
      rw [hd, cnt_tail S n hS]
    exact ⟨by rw [E], hbel29⟩
  have hp31 := of_decide_eq_true hd31
  refine wp_seq ?_
  refine wp_region_lit ?_
  refine sx_val (v := .bool true) hA29 rfl (ev_lssB (k := .i64) (m := (k : Int)) (n := (m : Int)) (hA29.ev (i := 33)) (hA29.ev (i := 32)) hd31 _ rfl) ?_
  intro a36 hA36; clear hA29
  refine sx_nil ?_
  refine then_n ?_
  refine wp_seq ?_
  refine wp_cond_true (hA36.ev (i := 34) (v := .bool true)) ?_
  refine wp_skip ?_
  refine then_n ?_
  refine wp_seq ?_
  refine wp_block ?_
  refine wp_seq ?_
  refine wp_region_lit ?_
  refine sx_val hA36 rfl (ev_move (hA36.ev (i := 33) (v := .int .i64 (k : Int))) _ rfl) ?_
  intro a37 hA37; clear hA36
  obtain ⟨ad38, hAd38⟩ := GR.adr (hg.below hbel29) uva_sz (wls_at S (by omega : k < m))
  refine sx_val (v := .pointer (some (ad38.add (k * 1)))) hA37 rfl (ev_idx (k := k) (hA37.ev (i := 31) (v := .slice A m c)) hAd38 (hA37.ev (i := 33) (v := .int .i64 (k : Int))) rfl (by omega) Try.underlying74 (by kernel_rfl) _ rfl) ?_
  intro a39 hA39; clear hA37
  refine sx_val (v := .int .u64 ((wdn S (64 * k) 64 : Nat) : Int)) hA39 rfl (ev_cell (hA39.ev (i := 36) (v := .pointer (some (ad38.add (k * 1))))) ((GR.cel (hg.below hbel29) hAd38 uva_sz (wls_at S (by omega : k < m))) 0 _ rfl) Try.underlying52 rfl _ rfl) ?_
  intro a40 hA40; clear hA39
  refine sx_val hA40 rfl (ev_assign (hA40.ev (i := 35) (v := .int .i64 (k : Int))) _ rfl) ?_
  intro a41 hA41; clear hA40
  refine sx_val hA41 rfl (ev_assign (hA41.ev (i := 37) (v := .int .u64 ((wdn S (64 * k) 64 : Nat) : Int))) _ rfl) ?_
  intro a42 hA42; clear hA41
  refine sx_nil ?_
  refine then_n ?_
  refine wp_region_lit ?_
  refine sx_val hA42 rfl (ev_move (hA42.ev (i := 9) (v := .int .i64 ((cntS S 0 (64 * k) : Nat) : Int))) _ rfl) ?_
  intro a43 hA43; clear hA42
  refine sx_val hA43 rfl (ev_move (hA43.ev (i := 11) (v := .int .u64 ((wdn S (64 * k) 64 : Nat) : Int))) _ rfl) ?_
  intro a44 hA44; clear hA43
  refine sx_val hA44 rfl (ev_move (hA44.ev (i := 10) (v := .int .i64 (k : Int))) _ rfl) ?_
  intro a45 hA45; clear hA44
  refine sx_val hA45 rfl (ev_move (hA45.ev (i := 1) (v := .int .i64 0)) _ rfl) ?_
  intro a46 hA46; clear hA45
  refine sx_val hA46 rfl (ev_move (hA46.ev (i := 2) (v := .int .i64 (n : Int))) _ rfl) ?_
  intro a47 hA47; clear hA46
  refine sx_call (f := 52) (args := #[.int .i64 (k : Int), .int .i64 0, .int .i64 (n : Int)]) hA47 rfl (by decide) (.inl rfl) (ev_fn rfl (mp3 (hA47.ev (i := 40) (v := .int .i64 (k : Int))) (hA47.ev (i := 41) (v := .int .i64 0)) (hA47.ev (i := 42) (v := .int .i64 (n : Int)))) (by kernel_rfl) _ rfl) (mask_any k n (by omega) hn _) ?_
  intro e48 w48 hR48
  obtain ⟨rfl, hb48⟩ := hR48
  refine ⟨_, rfl, ?_⟩
  intro a48 hA48
  clear hA47
  have hg48 := g0 hb48
  have hs48 := hg48.size
  clear hb48
  refine sx_val (v := .int .u64 ((wdn S (64 * k) 64 : Nat) : Int)) hA48 rfl (ev_andN (m := (wdn S (64 * k) 64)) (n := (2 ^ hgh k n - 1)) (hA48.ev (i := 39)) (hA48.ev (i := 43)) (wd64 _ _) (mask_lt _ (hgh_le _ _)) (wdn_mask S k n hS) _ rfl) ?_
  intro a49 hA49; clear hA48
  refine sx_call (f := 51) (args := #[.int .u64 ((wdn S (64 * k) 64 : Nat) : Int)]) hA49 rfl (by decide) (.inl rfl) (ev_fn rfl (mp1 (hA49.ev (i := 44) (v := .int .u64 ((wdn S (64 * k) 64 : Nat) : Int)))) (by kernel_rfl) _ rfl) (ones_any S (64 * k) _) ?_
  intro e50 w50 hR50
  obtain ⟨rfl, hb50⟩ := hR50
  refine ⟨_, rfl, ?_⟩
  intro a50 hA50
  clear hA49
  have hg50 := g0 hb50
  have hs50 := hg50.size
  clear hb50
  refine sx_val (v := .int .i64 ((cntS S 0 (64 * (k + 1)) : Nat) : Int)) hA50 rfl (ev_addI (m := (cntS S 0 (64 * k))) (n := (cntS S (64 * k) 64)) (hA50.ev (i := 38)) (hA50.ev (i := 45)) (cnt_word S k) (by have := cntS_le S 0 (64 * (k + 1)); omega) _ rfl) ?_
  intro a51 hA51; clear hA50
  refine sx_val hA51 rfl (ev_assign (hA51.ev (i := 46) (v := .int .i64 ((cntS S 0 (64 * (k + 1)) : Nat) : Int))) _ rfl) ?_
  intro a52 hA52; clear hA51
  refine sx_nil ?_
  refine blk_n ?_
  refine then_n ?_
  refine wp_region_lit ?_
  refine sx_val (v := .int .i64 ((k + 1 : Nat) : Int)) hA52 rfl (ev_addR (k := .i64) (m := (k : Int)) (n := 1) (r := ((k + 1 : Nat) : Int)) (hA52.ev (i := 33)) (ec _ (.int .i64 1)) (wr (by omega) (by omega) (by omega)) _ rfl) ?_
  intro a53 hA53; clear hA52
  refine sx_val hA53 rfl (ev_move (hA53.ev (i := 47) (v := .int .i64 ((k + 1 : Nat) : Int))) _ rfl) ?_
  intro a54 hA54; clear hA53
  refine sx_nil ?_
  refine then_n ?_
  have hbel29_55 := Below.gN hbel29 hg48 hbel29.size
  have hbel29_56 := Below.gN hbel29_55 hg50 hbel29_55.size
  refine ⟨m - (k + 1), by omega, k + 1, rfl, (((((((((Ag.nil hA54.1 hA54.2.1).cons (hA54.get (i := 9) (v := .int .i64 ((cntS S 0 (64 * (k + 1)) : Nat) : Int)))).cons (hA54.get (i := 33) (v := .int .i64 ((k + 1 : Nat) : Int)))).cons (hA54.get (i := 32) (v := .int .i64 (m : Int)))).cons (hA54.get (i := 31) (v := .slice A m c))).cons (hA54.get (i := 7) (v := .int .i64 0))).cons (hA54.get (i := 6) (v := .int .i64 0))).cons (hA54.get (i := 2) (v := .int .i64 (n : Int)))).cons (hA54.get (i := 1) (v := .int .i64 0))), by omega, by omega, hbel29_56⟩

set_option maxHeartbeats 2000000 in
theorem mcount_any (n : Nat) (S : Nat → Bool) (w : World) (h1 : 1 ≤ n) (hn : n ≤ 256) (hS : ∀ j, n ≤ j → S j = false) : Calls Try.prog 48 #[.agg (mrow S), .int .i64 (n : Int)] w (RetB w (.returned (.tuple #[.int .i64 ((cntS S 0 n : Nat) : Int), .int .i64 0]))) := by
  have hbel0 := below0 w
  refine sx_enter (N := 19) [(0, .agg (mrow S)), (1, .int .i64 (n : Int))] Try.func48 rfl Try.ntmps48 (by simp) (fun a z d s => (((Ag.nil z d).cons (s 1 _ rfl)).cons (s 0 _ rfl))) ?_
  intro a0 hA0
  refine wp_seq ?_
  refine wp_region_lit ?_
  refine sx_new (cs := (mrow S)) (t := 54) hA0 rfl (by decide) (.inl rfl) (ev_box (hA0.ev (i := 0) (v := .agg (mrow S))) rfl _ rfl) ?_
  intro B1 w1 a1 hB1 hx1 hg1 hA1
  clear hA0
  have hs1 := hg1.size
  have hl1 := hx1.lt
  refine sx_val hA1 rfl (ev_assign (ec _ (.int .i64 0)) _ rfl) ?_
  intro a2 hA2; clear hA1
  refine sx_val hA2 rfl (ev_assign (ec _ (.int .i64 0)) _ rfl) ?_
  intro a3 hA3; clear hA2
  refine sx_nil ?_
  refine then_n ?_
  refine wp_seq ?_
  refine wp_region_lit ?_
  refine sx_val hA3 rfl (ev_move (hA3.ev (i := 1) (v := .int .i64 (n : Int))) _ rfl) ?_
  intro a4 hA4; clear hA3
  refine sx_val (v := .int .i64 (((n + 64) : Nat) : Int)) hA4 rfl (ev_addI (m := n) (n := 64) (hA4.ev (i := 7)) (ec _ (.int .i64 64)) rfl (by omega) _ rfl) ?_
  intro a5 hA5; clear hA4
  refine sx_val (v := .int .i64 ((((n + 64) - 1) : Nat) : Int)) hA5 rfl (ev_subR (k := .i64) (m := (((n + 64) : Nat) : Int)) (n := 1) (r := ((((n + 64) - 1) : Nat) : Int)) (hA5.ev (i := 8)) (ec _ (.int .i64 1)) (wr (by omega) (by omega) (by omega)) _ rfl) ?_
  intro a6 hA6; clear hA5
  refine sx_val (v := .int .i64 (((((n + 64) - 1) / 64) : Nat) : Int)) hA6 rfl (ev_quoN (m := ((n + 64) - 1)) (n := 64) (hA6.ev (i := 9)) (ec _ (.int .i64 64)) (by decide) (by omega) rfl _ rfl) ?_
  intro a7 hA7; clear hA6
  refine sx_val hA7 rfl (ev_assign (hA7.ev (i := 10) (v := .int .i64 (((((n + 64) - 1) / 64) : Nat) : Int))) _ rfl) ?_
  intro a8 hA8; clear hA7
  refine sx_nil ?_
  refine then_n ?_
  refine wp_seq ?_
  refine wp_region_lit ?_
  refine sx_val hA8 rfl (ev_move (hA8.ev (i := 1) (v := .int .i64 (n : Int))) _ rfl) ?_
  intro a9 hA9; clear hA8
  refine sx_val hA9 rfl (ev_move (hA9.ev (i := 6) (v := .int .i64 (((((n + 64) - 1) / 64) : Nat) : Int))) _ rfl) ?_
  intro a10 hA10; clear hA9
  refine sx_val (v := .slice (some ⟨B1, 0, none⟩) (((n + 64) - 1) / 64) 4) hA10 rfl (ev_sliceA (n := 4) (h := (((n + 64) - 1) / 64)) (hA10.ev (i := 2) (v := .pointer (some ⟨B1, 0, none⟩))) (hA10.ev (i := 12)) (by omega) (by decide) Try.underlying54 (by kernel_rfl) _ rfl) ?_
  intro a11 hA11; clear hA10
  refine sx_val (v := .agg #[.int .i64 (n : Int), .slice (some ⟨B1, 0, none⟩) (((n + 64) - 1) / 64) 4]) hA11 rfl (bd_Bits_0_1 (hA11.ev (i := 11) (v := .int .i64 (n : Int))) (hA11.ev (i := 13) (v := .slice (some ⟨B1, 0, none⟩) (((n + 64) - 1) / 64) 4)) _ rfl) ?_
  intro a12 hA12; clear hA11
  refine sx_val hA12 rfl (ev_move (hA12.ev (i := 1) (v := .int .i64 (n : Int))) _ rfl) ?_
  intro a13 hA13; clear hA12
  refine sx_call (f := 49) (args := #[.agg #[.int .i64 (n : Int), .slice (some ⟨B1, 0, none⟩) (((n + 64) - 1) / 64) 4], .int .i64 0, .int .i64 (n : Int)]) hA13 rfl (by decide) (.inl rfl) (ev_fn rfl (mp3 (hA13.ev (i := 14) (v := .agg #[.int .i64 (n : Int), .slice (some ⟨B1, 0, none⟩) (((n + 64) - 1) / 64) 4])) (ec _ (.int .i64 0)) (hA13.ev (i := 15) (v := .int .i64 (n : Int)))) (by kernel_rfl) _ rfl) (bCount_any (some ⟨B1, 0, none⟩) 4 (((n + 64) - 1) / 64) n S _ (GR.marks hx1 (by omega)) h1 hn rfl hS) ?_
  intro e14 w14 hR14
  obtain ⟨rfl, hb14⟩ := hR14
  refine ⟨_, rfl, ?_⟩
  intro a14 hA14
  clear hA13
  have hg14 := g0 hb14
  have hs14 := hg14.size
  clear hb14
  refine sx_val (v := .int .i64 ((cntS S 0 n : Nat) : Int)) hA14 rfl (ev_ext (hA14.ev (i := 16) (v := .tuple #[.int .i64 ((cntS S 0 n : Nat) : Int), .int .i64 0])) rfl _ rfl) ?_
  intro a15 hA15; clear hA14
  refine sx_val (v := .int .i64 0) hA15 rfl (ev_ext (hA15.ev (i := 16) (v := .tuple #[.int .i64 ((cntS S 0 n : Nat) : Int), .int .i64 0])) rfl _ rfl) ?_
  intro a16 hA16; clear hA15
  refine sx_val hA16 rfl (ev_assign (hA16.ev (i := 17) (v := .int .i64 ((cntS S 0 n : Nat) : Int))) _ rfl) ?_
  intro a17 hA17; clear hA16
  refine sx_val hA17 rfl (ev_assign (hA17.ev (i := 18) (v := .int .i64 0)) _ rfl) ?_
  intro a18 hA18; clear hA17
  refine sx_nil ?_
  refine then_n ?_
  refine wp_ret ?_
  refine bodyPost_ret (rs_tt (v := .int .i64 ((cntS S 0 n : Nat) : Int)) (v2 := .int .i64 0) Try.results48 hA18 (by kernel_rfl) (by kernel_rfl) ) hA18.2.1 ?_
  have hbel0_19 := Below.gN hbel0 hg1 hbel0.size
  have hbel0_20 := Below.gN hbel0_19 hg14 hbel0_19.size
  exact ⟨rfl, hbel0_20⟩
end Go.Proofs.Ytpoilgfblhacaaa
