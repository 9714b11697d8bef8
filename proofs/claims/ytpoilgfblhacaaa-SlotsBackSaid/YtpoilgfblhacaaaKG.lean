/- Package slots: First, Alloc, Count. -/
import Derived.Test.YtpoilgfblhacaaaKF
namespace Go.Proofs.Ytpoilgfblhacaaa
open Go.RowKit
set_option linter.unusedVariables false
set_option linter.unusedSimpArgs false
set_option maxRecDepth 100000

set_option maxHeartbeats 4000000 in
theorem First_any (A1 : Option Addr) (c1 : Nat) (A2 : Option Addr) (c2 : Nat) (rs : List Int) (bs : List Bool) (w : World) (hs : GS w A1 c1 A2 c2 rs bs) (hl : rs.length ≤ 900000) (hb : bs.length ≤ 900000) : Calls Try.prog 24 #[.agg #[.slice A1 rs.length c1, .slice A2 bs.length c2]] w (RetB w (.returned (.tuple #[.int .i64 (frst ⟨rs, bs⟩).1, .int .i64 (frst ⟨rs, bs⟩).2]))) := by
  have hbel0 := below0 w
  refine sx_enter (N := 22) [(0, .agg #[.slice A1 rs.length c1, .slice A2 bs.length c2])] Try.func24 rfl Try.ntmps24 (by simp) (fun a z d s => ((Ag.nil z d).cons (s 0 _ rfl))) ?_
  intro a0 hA0
  refine wp_seq ?_
  refine wp_region_lit ?_
  refine sx_new (cs := #[.slice A1 rs.length c1, .slice A2 bs.length c2]) (t := 25) hA0 rfl (by decide) (.inl rfl) (ev_box (hA0.ev (i := 0) (v := .agg #[.slice A1 rs.length c1, .slice A2 bs.length c2])) rfl _ rfl) ?_
  intro B1 w1 a1 hB1 hx1 hg1 hA1
  clear hA0
  have hs1 := hg1.size
  have hl1 := hx1.lt
  refine sx_val hA1 rfl (ev_assign (ec _ (.int .i64 0)) _ rfl) ?_
  intro a2 hA2; clear hA1
  refine sx_val hA2 rfl (ev_assign (ec _ (.int .i64 0)) _ rfl) ?_
  intro a3 hA3; clear hA2
  refine sx_nil ?_
  refine then_n ?_
  refine wp_seq ?_
  refine wp_seq ?_
  refine wp_region_lit ?_
  refine sx_val (v := .agg #[.slice A1 rs.length c1, .slice A2 bs.length c2]) hA3 rfl (ev_row (hA3.ev (i := 1) (v := .pointer (some ⟨B1, 0, none⟩))) hx1 Try.underlying25 rfl (n := 2) (by kernel_rfl) rfl _ rfl) ?_
  intro a4 hA4; clear hA3
  have hbel0_6 := Below.gN hbel0 hg1 hbel0.size
  refine sx_call (f := 20) (args := #[.agg #[.slice A1 rs.length c1, .slice A2 bs.length c2]]) hA4 rfl (by decide) (.inl rfl) (ev_fn rfl (mp1 (hA4.ev (i := 9) (v := .agg #[.slice A1 rs.length c1, .slice A2 bs.length c2]))) (by kernel_rfl) _ rfl) (Check_any A1 c1 A2 c2 rs bs _ ⟨(hs.r.below hbel0_6), (hs.b.below hbel0_6)⟩ (by omega) (by omega)) ?_
  intro e5 w5 hR5
  obtain ⟨rfl, hb5⟩ := hR5
  refine ⟨_, rfl, ?_⟩
  intro a5 hA5
  clear hA4
  have hg5 := g0 hb5
  have hs5 := hg5.size
  clear hb5
  refine sx_val hA5 rfl (ev_move (hA5.ev (i := 10) (v := .tuple #[.int .i64 (chs ⟨rs, bs⟩).1, .int .i64 (chs ⟨rs, bs⟩).2])) _ rfl) ?_
  intro a7 hA7; clear hA5
  refine sx_val (v := .int .i64 (chs ⟨rs, bs⟩).1) hA7 rfl (ev_ext (hA7.ev (i := 8) (v := .tuple #[.int .i64 (chs ⟨rs, bs⟩).1, .int .i64 (chs ⟨rs, bs⟩).2])) rfl _ rfl) ?_
  intro a8 hA8; clear hA7
  refine sx_val (v := .int .i64 (chs ⟨rs, bs⟩).2) hA8 rfl (ev_ext (hA8.ev (i := 8) (v := .tuple #[.int .i64 (chs ⟨rs, bs⟩).1, .int .i64 (chs ⟨rs, bs⟩).2])) rfl _ rfl) ?_
  intro a9 hA9; clear hA8
  refine sx_val hA9 rfl (ev_assign (hA9.ev (i := 11) (v := .int .i64 (chs ⟨rs, bs⟩).1)) _ rfl) ?_
  intro a10 hA10; clear hA9
  refine sx_val hA10 rfl (ev_assign (hA10.ev (i := 12) (v := .int .i64 (chs ⟨rs, bs⟩).2)) _ rfl) ?_
  intro a11 hA11; clear hA10
  refine sx_nil ?_
  refine then_n ?_
  refine wp_seq ?_
  refine wp_region_lit ?_
  refine sx_val hA11 rfl (ev_move (hA11.ev (i := 4) (v := .int .i64 (chs ⟨rs, bs⟩).1)) _ rfl) ?_
  intro a12 hA12; clear hA11
  cases hd13 : decide ((chs ⟨rs, bs⟩).1 = 0)
  · have hp13 := of_decide_eq_false hd13
    refine sx_val (v := .bool true) hA12 rfl (ev_neqB (k := .i64) (m := (chs ⟨rs, bs⟩).1) (n := 0) (hA12.ev (i := 13)) (ec _ (.int .i64 0)) (by simpa using hd13) _ rfl) ?_
    intro a14 hA14; clear hA12
    refine sx_nil ?_
    refine then_n ?_
    refine wp_cond_true (hA14.ev (i := 14) (v := .bool true)) ?_
    refine wp_seq ?_
    refine wp_region_lit ?_
    refine sx_val hA14 rfl (ev_move (hA14.ev (i := 4) (v := .int .i64 (chs ⟨rs, bs⟩).1)) _ rfl) ?_
    intro a15 hA15; clear hA14
    refine sx_val hA15 rfl (ev_assign (ec _ (.int .i64 0)) _ rfl) ?_
    intro a16 hA16; clear hA15
    refine sx_val hA16 rfl (ev_assign (hA16.ev (i := 15) (v := .int .i64 (chs ⟨rs, bs⟩).1)) _ rfl) ?_
    intro a17 hA17; clear hA16
    refine sx_nil ?_
    refine then_n ?_
    refine wp_ret ?_
    refine then_r ?_
    refine bodyPost_ret (rs_tt (v := .int .i64 0) (v2 := .int .i64 (chs ⟨rs, bs⟩).1) Try.results24 hA17 (by kernel_rfl) (by kernel_rfl) ) hA17.2.1 ?_
    have E : frst ⟨rs, bs⟩ = (0, (chs ⟨rs, bs⟩).1) := if_pos hp13
    have hbel0_18 := Below.gN hbel0_6 hg5 hbel0_6.size
    exact ⟨by rw [E], hbel0_18⟩
  have hp13 := of_decide_eq_true hd13
  refine sx_val (v := .bool false) hA12 rfl (ev_neqB (k := .i64) (m := (chs ⟨rs, bs⟩).1) (n := 0) (hA12.ev (i := 13)) (ec _ (.int .i64 0)) (by simpa using hd13) _ rfl) ?_
  intro a19 hA19; clear hA12
  refine sx_nil ?_
  refine then_n ?_
  refine wp_cond_false (hA19.ev (i := 14) (v := .bool false)) ?_
  refine wp_skip ?_
  refine then_n ?_
  refine wp_seq ?_
  refine wp_region_lit ?_
  have hx1_20 := hx1.gN hg5
  refine sx_val (v := .agg #[.slice A1 rs.length c1, .slice A2 bs.length c2]) hA19 rfl (ev_row (hA19.ev (i := 1) (v := .pointer (some ⟨B1, 0, none⟩))) hx1_20 Try.underlying25 rfl (n := 2) (by kernel_rfl) rfl _ rfl) ?_
  intro a21 hA21; clear hA19
  have hbel0_23 := Below.gN hbel0_6 hg5 hbel0_6.size
  have hok := (chs_ok (s := ⟨rs, bs⟩) (by omega)).2
  have hrl : rs.length ≤ 256 := hok.hi
  have hr1 : 1 ≤ rs.length := hok.lo
  have hbl : bs.length = rs.length := hok.len
  refine sx_call (f := 46) (args := #[.agg #[.slice A1 rs.length c1, .slice A2 bs.length c2]]) hA21 rfl (by decide) (.inl rfl) (ev_fn rfl (mp1 (hA21.ev (i := 16) (v := .agg #[.slice A1 rs.length c1, .slice A2 bs.length c2]))) (by kernel_rfl) _ rfl) (open_any A1 c1 A2 c2 rs bs _ ⟨(hs.r.below hbel0_23), (hs.b.below hbel0_23)⟩ hok.hi hok.len) ?_
  intro e22 w22 hR22
  obtain ⟨Mo22, rfl, hmp22, hle22, hb22⟩ := hR22
  refine ⟨_, rfl, ?_⟩
  intro a22 hA22
  clear hA21
  have hg22 := g0 hb22
  have hs22 := hg22.size
  clear hb22
  have hmMo22 := hmp22
  have hlMo22 := hmMo22.lt
  have hqMo22 := hle22
  refine sx_new (cs := #[.int .i64 0, .map none, .int .u64 0, .int .u64 0, .int .u64 0, .int .u64 0]) (t := 56) hA22 rfl (by decide) (.inl rfl) (ev_alloc (z := .agg (#[.int .i64 0, .map none, .int .u64 0, .int .u64 0, .int .u64 0, .int .u64 0])) (by kernel_rfl) (by kernel_rfl) _ rfl) ?_
  intro B24 w24 a24 hB24 hx24 hg24 hA24
  clear hA22
  have hs24 := hg24.size
  have hl24 := hx24.lt
  refine sx_store hA24 rfl (.inl rfl) rfl (hA24.ev (i := 6) (v := .pointer (some ⟨B24, 0, none⟩))) (hA24.ev (i := 17) (v := .agg (bkr rs.length Mo22 (opm bs)))) hx24 (by kernel_rfl) rfl (bkr_one _ _ _) ?_
  intro w25 hx25 hg25
  have hs25 := hg25.size
  refine sx_nil ?_
  refine then_n ?_
  refine wp_seq ?_
  refine wp_region_lit ?_
  have hmMo22_27 := hmMo22.gN hg24
  have hmMo22_28 := hmMo22_27.gB hg25 (by omega)
  cases hd29 : decide ((fr ⟨rs, bs⟩) < 0)
  rotate_left
  · have hp29 := of_decide_eq_true hd29
    refine sx_call (f := 47) (args := #[.pointer (some ⟨B24, 0, none⟩)]) hA24 rfl (by decide) (.inl rfl) (ev_fn rfl (mp1 (hA24.ev (i := 6) (v := .pointer (some ⟨B24, 0, none⟩)))) (by kernel_rfl) _ rfl) (first_any _ B24 Mo22 rs.length rs bs ⟨hx25, hmMo22_28⟩ (by omega) rfl) ?_
    intro e41 w41 hR41
    obtain ⟨rfl, hb41⟩ := hR41
    refine ⟨_, rfl, ?_⟩
    intro a41 hA41
    clear hA24
    have hg41 := g0 hb41
    have hs41 := hg41.size
    clear hb41
    refine sx_val hA41 rfl (ev_assign (hA41.ev (i := 18) (v := .int .i64 (fr ⟨rs, bs⟩))) _ rfl) ?_
    intro a42 hA42; clear hA41
    refine sx_nil ?_
    refine then_n ?_
    refine wp_seq ?_
    refine wp_seq ?_
    refine wp_region_lit ?_
    refine sx_val hA42 rfl (ev_move (hA42.ev (i := 7) (v := .int .i64 (fr ⟨rs, bs⟩))) _ rfl) ?_
    intro a43 hA43; clear hA42
    refine sx_val (v := .bool true) hA43 rfl (ev_lssB (k := .i64) (m := (fr ⟨rs, bs⟩)) (n := 0) (hA43.ev (i := 19)) (ec _ (.int .i64 0)) hd29 _ rfl) ?_
    intro a44 hA44; clear hA43
    refine sx_nil ?_
    refine then_n ?_
    refine wp_cond_true (hA44.ev (i := 20) (v := .bool true)) ?_
    refine wp_seq ?_
    refine wp_region_lit ?_
    refine sx_val hA44 rfl (ev_assign (ec _ (.int .i64 0)) _ rfl) ?_
    intro a45 hA45; clear hA44
    refine sx_val hA45 rfl (ev_assign (ec _ (.int .i64 5)) _ rfl) ?_
    intro a46 hA46; clear hA45
    refine sx_nil ?_
    refine then_n ?_
    refine wp_ret ?_
    refine then_r ?_
    refine bodyPost_ret (rs_tt (v := .int .i64 0) (v2 := .int .i64 5) Try.results24 hA46 (by kernel_rfl) (by kernel_rfl) ) hA46.2.1 ?_
    have E : frst ⟨rs, bs⟩ = (0, 5) := by
      unfold frst
      rw [if_neg (by omega), if_pos hp29]
    have hbel0_47 := Below.gN hbel0_23 hg22 hbel0_23.size
    have hbel0_48 := Below.gN hbel0_47 hg24 hbel0_47.size
    have hbel0_49 := Below.gB hbel0_48 hg25 hbel0_48.size (by omega)
    have hbel0_50 := Below.gN hbel0_49 hg41 hbel0_49.size
    exact ⟨by rw [E], hbel0_50⟩
  have hp29 := of_decide_eq_false hd29
  obtain ⟨j, hj, hjl, hjf, hjm⟩ := fr_pos hp29
  have hjr : j < rs.length := hjl
  refine sx_call (f := 47) (args := #[.pointer (some ⟨B24, 0, none⟩)]) hA24 rfl (by decide) (.inl rfl) (ev_fn rfl (mp1 (hA24.ev (i := 6) (v := .pointer (some ⟨B24, 0, none⟩)))) (by kernel_rfl) _ rfl) (first_any _ B24 Mo22 rs.length rs bs ⟨hx25, hmMo22_28⟩ (by omega) rfl) ?_
  intro e30 w30 hR30
  obtain ⟨he30, hb30⟩ := hR30
  rw [hj] at he30
  subst he30
  refine ⟨_, rfl, ?_⟩
  intro a30 hA30
  clear hA24
  have hg30 := g0 hb30
  have hs30 := hg30.size
  clear hb30
  refine sx_val hA30 rfl (ev_assign (hA30.ev (i := 18) (v := .int .i64 (j : Int))) _ rfl) ?_
  intro a31 hA31; clear hA30
  refine sx_nil ?_
  refine then_n ?_
  refine wp_seq ?_
  refine wp_seq ?_
  refine wp_region_lit ?_
  refine sx_val hA31 rfl (ev_move (hA31.ev (i := 7) (v := .int .i64 (j : Int))) _ rfl) ?_
  intro a32 hA32; clear hA31
  refine sx_val (v := .bool false) hA32 rfl (ev_lssB (k := .i64) (m := (j : Int)) (n := 0) (hA32.ev (i := 19)) (ec _ (.int .i64 0)) (by simp) _ rfl) ?_
  intro a33 hA33; clear hA32
  refine sx_nil ?_
  refine then_n ?_
  refine wp_cond_false (hA33.ev (i := 20) (v := .bool false)) ?_
  refine wp_skip ?_
  refine then_n ?_
  refine wp_seq ?_
  refine wp_region_lit ?_
  refine sx_val hA33 rfl (ev_move (hA33.ev (i := 7) (v := .int .i64 (j : Int))) _ rfl) ?_
  intro a34 hA34; clear hA33
  refine sx_val hA34 rfl (ev_assign (hA34.ev (i := 21) (v := .int .i64 (j : Int))) _ rfl) ?_
  intro a35 hA35; clear hA34
  refine sx_val hA35 rfl (ev_assign (ec _ (.int .i64 0)) _ rfl) ?_
  intro a36 hA36; clear hA35
  refine sx_nil ?_
  refine then_n ?_
  refine wp_ret ?_
  refine bodyPost_ret (rs_tt (v := .int .i64 (j : Int)) (v2 := .int .i64 0) Try.results24 hA36 (by kernel_rfl) (by kernel_rfl) ) hA36.2.1 ?_
  have E : frst ⟨rs, bs⟩ = ((j : Int), 0) := by
    unfold frst
    rw [if_neg (by omega), if_neg hp29, hj]
  have hbel0_37 := Below.gN hbel0_23 hg22 hbel0_23.size
  have hbel0_38 := Below.gN hbel0_37 hg24 hbel0_37.size
  have hbel0_39 := Below.gB hbel0_38 hg25 hbel0_38.size (by omega)
  have hbel0_40 := Below.gN hbel0_39 hg30 hbel0_39.size
  exact ⟨by rw [E], hbel0_40⟩

set_option maxHeartbeats 4000000 in
theorem Alloc_any (A1 : Option Addr) (c1 : Nat) (A2 : Option Addr) (c2 : Nat) (rs : List Int) (bs : List Bool) (r : Int) (w : World) (hs : GS w A1 c1 A2 c2 rs bs) (hl : rs.length ≤ 900000) (hb : bs.length ≤ 900000) : Calls Try.prog 22 #[.agg #[.slice A1 rs.length c1, .slice A2 bs.length c2], .int .i64 r] w (RSl w (alc ⟨rs, bs⟩ r).1 fun v => .tuple #[v, .int .i64 (alc ⟨rs, bs⟩ r).2.1, .int .i64 (alc ⟨rs, bs⟩ r).2.2]) := by
  have hbel0 := below0 w
  refine sx_enter (N := 42) [(0, .agg #[.slice A1 rs.length c1, .slice A2 bs.length c2]), (1, .int .i64 r)] Try.func22 rfl Try.ntmps22 (by simp) (fun a z d s => (((Ag.nil z d).cons (s 1 _ rfl)).cons (s 0 _ rfl))) ?_
  intro a0 hA0
  refine wp_seq ?_
  refine wp_region_lit ?_
  refine sx_new (cs := #[.slice A1 rs.length c1, .slice A2 bs.length c2]) (t := 25) hA0 rfl (by decide) (.inl rfl) (ev_box (hA0.ev (i := 0) (v := .agg #[.slice A1 rs.length c1, .slice A2 bs.length c2])) rfl _ rfl) ?_
  intro B1 w1 a1 hB1 hx1 hg1 hA1
  clear hA0
  have hs1 := hg1.size
  have hl1 := hx1.lt
  refine sx_new (cs := #[.slice none 0 0, .slice none 0 0]) (t := 25) hA1 rfl (by decide) (.inl rfl) (ev_alloc (z := .agg (#[.slice none 0 0, .slice none 0 0])) (by kernel_rfl) (by kernel_rfl) _ rfl) ?_
  intro B2 w2 a2 hB2 hx2 hg2 hA2
  clear hA1
  have hs2 := hg2.size
  have hl2 := hx2.lt
  refine sx_val hA2 rfl (ev_assign (ec _ (.int .i64 0)) _ rfl) ?_
  intro a3 hA3; clear hA2
  refine sx_val hA3 rfl (ev_assign (ec _ (.int .i64 0)) _ rfl) ?_
  intro a4 hA4; clear hA3
  refine sx_nil ?_
  refine then_n ?_
  refine wp_seq ?_
  refine wp_seq ?_
  refine wp_region_lit ?_
  have hx1_5 := hx1.gN hg2
  refine sx_val (v := .agg #[.slice A1 rs.length c1, .slice A2 bs.length c2]) hA4 rfl (ev_row (hA4.ev (i := 2) (v := .pointer (some ⟨B1, 0, none⟩))) hx1_5 Try.underlying25 rfl (n := 2) (by kernel_rfl) rfl _ rfl) ?_
  intro a6 hA6; clear hA4
  have hbel0_8 := Below.gN hbel0 hg1 hbel0.size
  have hbel0_9 := Below.gN hbel0_8 hg2 hbel0_8.size
  refine sx_call (f := 20) (args := #[.agg #[.slice A1 rs.length c1, .slice A2 bs.length c2]]) hA6 rfl (by decide) (.inl rfl) (ev_fn rfl (mp1 (hA6.ev (i := 12) (v := .agg #[.slice A1 rs.length c1, .slice A2 bs.length c2]))) (by kernel_rfl) _ rfl) (Check_any A1 c1 A2 c2 rs bs _ ⟨(hs.r.below hbel0_9), (hs.b.below hbel0_9)⟩ (by omega) (by omega)) ?_
  intro e7 w7 hR7
  obtain ⟨rfl, hb7⟩ := hR7
  refine ⟨_, rfl, ?_⟩
  intro a7 hA7
  clear hA6
  have hg7 := g0 hb7
  have hs7 := hg7.size
  clear hb7
  refine sx_val hA7 rfl (ev_move (hA7.ev (i := 13) (v := .tuple #[.int .i64 (chs ⟨rs, bs⟩).1, .int .i64 (chs ⟨rs, bs⟩).2])) _ rfl) ?_
  intro a10 hA10; clear hA7
  refine sx_val (v := .int .i64 (chs ⟨rs, bs⟩).1) hA10 rfl (ev_ext (hA10.ev (i := 11) (v := .tuple #[.int .i64 (chs ⟨rs, bs⟩).1, .int .i64 (chs ⟨rs, bs⟩).2])) rfl _ rfl) ?_
  intro a11 hA11; clear hA10
  refine sx_val (v := .int .i64 (chs ⟨rs, bs⟩).2) hA11 rfl (ev_ext (hA11.ev (i := 11) (v := .tuple #[.int .i64 (chs ⟨rs, bs⟩).1, .int .i64 (chs ⟨rs, bs⟩).2])) rfl _ rfl) ?_
  intro a12 hA12; clear hA11
  refine sx_val hA12 rfl (ev_assign (hA12.ev (i := 14) (v := .int .i64 (chs ⟨rs, bs⟩).1)) _ rfl) ?_
  intro a13 hA13; clear hA12
  refine sx_val hA13 rfl (ev_assign (hA13.ev (i := 15) (v := .int .i64 (chs ⟨rs, bs⟩).2)) _ rfl) ?_
  intro a14 hA14; clear hA13
  refine sx_nil ?_
  refine then_n ?_
  refine wp_seq ?_
  refine wp_region_lit ?_
  refine sx_val hA14 rfl (ev_move (hA14.ev (i := 7) (v := .int .i64 (chs ⟨rs, bs⟩).1)) _ rfl) ?_
  intro a15 hA15; clear hA14
  cases hd16 : decide ((chs ⟨rs, bs⟩).1 = 0)
  · have hp16 := of_decide_eq_false hd16
    refine sx_val (v := .bool true) hA15 rfl (ev_neqB (k := .i64) (m := (chs ⟨rs, bs⟩).1) (n := 0) (hA15.ev (i := 16)) (ec _ (.int .i64 0)) (by simpa using hd16) _ rfl) ?_
    intro a17 hA17; clear hA15
    refine sx_nil ?_
    refine then_n ?_
    refine wp_cond_true (hA17.ev (i := 17) (v := .bool true)) ?_
    refine wp_seq ?_
    refine wp_region_lit ?_
    refine sx_val (v := .agg #[.slice none 0 0, .slice none 0 0]) hA17 rfl (bd0_Slots _ rfl) ?_
    intro a18 hA18; clear hA17
    refine sx_val hA18 rfl (ev_move (hA18.ev (i := 7) (v := .int .i64 (chs ⟨rs, bs⟩).1)) _ rfl) ?_
    intro a19 hA19; clear hA18
    have hx2_21 := hx2.gN hg7
    refine sx_store hA19 rfl (.inl rfl) rfl (hA19.ev (i := 4) (v := .pointer (some ⟨B2, 0, none⟩))) (hA19.ev (i := 18) (v := .agg #[.slice none 0 0, .slice none 0 0])) hx2_21 (by kernel_rfl) rfl (by simp [Value.oneCell']) ?_
    intro w20 hx20 hg20
    have hs20 := hg20.size
    refine sx_val hA19 rfl (ev_assign (ec _ (.int .i64 0)) _ rfl) ?_
    intro a22 hA22; clear hA19
    refine sx_val hA22 rfl (ev_assign (hA22.ev (i := 19) (v := .int .i64 (chs ⟨rs, bs⟩).1)) _ rfl) ?_
    intro a23 hA23; clear hA22
    refine sx_nil ?_
    refine then_n ?_
    refine wp_ret ?_
    refine then_r ?_
    refine bodyPost_ret (rs_ctt (v := .int .i64 0) (v2 := .int .i64 (chs ⟨rs, bs⟩).1) Try.results22 hA23 (by kernel_rfl) (by kernel_rfl) (by kernel_rfl) hx20 Try.underlying25 rfl (by kernel_rfl)) hA23.2.1 ?_
    have hbel0_24 := Below.gN hbel0_9 hg7 hbel0_9.size
    have hbel0_25 := Below.gB hbel0_24 hg20 hbel0_24.size (by omega)
    rw [show alc ⟨rs, bs⟩ r = (Ss.nil, 0, (chs ⟨rs, bs⟩).1) from if_pos hp16]
    exact RSl.nil rfl hbel0_25
  have hp16 := of_decide_eq_true hd16
  refine sx_val (v := .bool false) hA15 rfl (ev_neqB (k := .i64) (m := (chs ⟨rs, bs⟩).1) (n := 0) (hA15.ev (i := 16)) (ec _ (.int .i64 0)) (by simpa using hd16) _ rfl) ?_
  intro a26 hA26; clear hA15
  refine sx_nil ?_
  refine then_n ?_
  refine wp_cond_false (hA26.ev (i := 17) (v := .bool false)) ?_
  refine wp_skip ?_
  refine then_n ?_
  refine wp_seq ?_
  refine wp_seq ?_
  refine wp_region_lit ?_
  refine sx_val hA26 rfl (ev_move (hA26.ev (i := 1) (v := .int .i64 r)) _ rfl) ?_
  intro a27 hA27; clear hA26
  cases hd28 : decide (r < 1)
  rotate_left
  · have hp28 := of_decide_eq_true hd28
    refine sx_val (v := .bool true) hA27 rfl (ev_lssB (k := .i64) (m := r) (n := 1) (hA27.ev (i := 20)) (ec _ (.int .i64 1)) hd28 _ rfl) ?_
    intro a111 hA111; clear hA27
    refine sx_val hA111 rfl (ev_move (hA111.ev (i := 21) (v := .bool true)) _ rfl) ?_
    intro a112 hA112; clear hA111
    refine sx_no (j := 2) (s := 22) (want := false) (b := true) hA112 rfl ?_
    intro a113 hA113; clear hA112
    refine sx_no (j := 2) (s := 22) (want := false) (b := true) hA113 rfl ?_
    intro a114 hA114; clear hA113
    refine sx_val hA114 rfl (ev_pickT (hA114.ev (i := 22) (v := .bool true)) (ec _ (.bool true)) _ rfl) ?_
    intro a115 hA115; clear hA114
    refine sx_nil ?_
    refine then_n ?_
    refine wp_cond_true (hA115.ev (i := 25) (v := .bool true)) ?_
    refine wp_seq ?_
    refine wp_region_lit ?_
    refine sx_val (v := .agg #[.slice none 0 0, .slice none 0 0]) hA115 rfl (bd0_Slots _ rfl) ?_
    intro a116 hA116; clear hA115
    have hx2_118 := hx2.gN hg7
    refine sx_store hA116 rfl (.inl rfl) rfl (hA116.ev (i := 4) (v := .pointer (some ⟨B2, 0, none⟩))) (hA116.ev (i := 26) (v := .agg #[.slice none 0 0, .slice none 0 0])) hx2_118 (by kernel_rfl) rfl (by simp [Value.oneCell']) ?_
    intro w117 hx117 hg117
    have hs117 := hg117.size
    refine sx_val hA116 rfl (ev_assign (ec _ (.int .i64 0)) _ rfl) ?_
    intro a119 hA119; clear hA116
    refine sx_val hA119 rfl (ev_assign (ec _ (.int .i64 15)) _ rfl) ?_
    intro a120 hA120; clear hA119
    refine sx_nil ?_
    refine then_n ?_
    refine wp_ret ?_
    refine then_r ?_
    refine bodyPost_ret (rs_ctt (v := .int .i64 0) (v2 := .int .i64 15) Try.results22 hA120 (by kernel_rfl) (by kernel_rfl) (by kernel_rfl) hx117 Try.underlying25 rfl (by kernel_rfl)) hA120.2.1 ?_
    have hbel0_121 := Below.gN hbel0_9 hg7 hbel0_9.size
    have hbel0_122 := Below.gB hbel0_121 hg117 hbel0_121.size (by omega)
    have E : alc ⟨rs, bs⟩ r = (Ss.nil, 0, 15) := by
      unfold alc
      rw [if_neg (by omega), if_pos (by omega)]
    rw [E]
    exact RSl.nil rfl hbel0_122
  have hp28 := of_decide_eq_false hd28
  refine sx_val (v := .bool false) hA27 rfl (ev_lssB (k := .i64) (m := r) (n := 1) (hA27.ev (i := 20)) (ec _ (.int .i64 1)) hd28 _ rfl) ?_
  intro a29 hA29; clear hA27
  refine sx_val hA29 rfl (ev_move (hA29.ev (i := 21) (v := .bool false)) _ rfl) ?_
  intro a30 hA30; clear hA29
  refine sx_val (hg := (.inr ⟨2, false, 22, rfl, rfl, by kernel_rfl⟩)) hA30 rfl (ev_move (hA30.ev (i := 1) (v := .int .i64 r)) _ rfl) ?_
  intro a31 hA31; clear hA30
  cases hd32 : decide (512 < r)
  rotate_left
  · have hp32 := of_decide_eq_true hd32
    refine sx_val (hg := (.inr ⟨2, false, 22, rfl, rfl, by kernel_rfl⟩)) (v := .bool true) hA31 rfl (ev_gtrB (k := .i64) (m := r) (n := 512) (hA31.ev (i := 23)) (ec _ (.int .i64 512)) hd32 _ rfl) ?_
    intro a102 hA102; clear hA31
    refine sx_val hA102 rfl (ev_pickF (hA102.ev (i := 22) (v := .bool false)) (hA102.ev (i := 24) (v := .bool true)) _ rfl) ?_
    intro a103 hA103; clear hA102
    refine sx_nil ?_
    refine then_n ?_
    refine wp_cond_true (hA103.ev (i := 25) (v := .bool true)) ?_
    refine wp_seq ?_
    refine wp_region_lit ?_
    refine sx_val (v := .agg #[.slice none 0 0, .slice none 0 0]) hA103 rfl (bd0_Slots _ rfl) ?_
    intro a104 hA104; clear hA103
    have hx2_106 := hx2.gN hg7
    refine sx_store hA104 rfl (.inl rfl) rfl (hA104.ev (i := 4) (v := .pointer (some ⟨B2, 0, none⟩))) (hA104.ev (i := 26) (v := .agg #[.slice none 0 0, .slice none 0 0])) hx2_106 (by kernel_rfl) rfl (by simp [Value.oneCell']) ?_
    intro w105 hx105 hg105
    have hs105 := hg105.size
    refine sx_val hA104 rfl (ev_assign (ec _ (.int .i64 0)) _ rfl) ?_
    intro a107 hA107; clear hA104
    refine sx_val hA107 rfl (ev_assign (ec _ (.int .i64 15)) _ rfl) ?_
    intro a108 hA108; clear hA107
    refine sx_nil ?_
    refine then_n ?_
    refine wp_ret ?_
    refine then_r ?_
    refine bodyPost_ret (rs_ctt (v := .int .i64 0) (v2 := .int .i64 15) Try.results22 hA108 (by kernel_rfl) (by kernel_rfl) (by kernel_rfl) hx105 Try.underlying25 rfl (by kernel_rfl)) hA108.2.1 ?_
    have hbel0_109 := Below.gN hbel0_9 hg7 hbel0_9.size
    have hbel0_110 := Below.gB hbel0_109 hg105 hbel0_109.size (by omega)
    have E : alc ⟨rs, bs⟩ r = (Ss.nil, 0, 15) := by
      unfold alc
      rw [if_neg (by omega), if_pos (by omega)]
    rw [E]
    exact RSl.nil rfl hbel0_110
  have hp32 := of_decide_eq_false hd32
  refine sx_val (hg := (.inr ⟨2, false, 22, rfl, rfl, by kernel_rfl⟩)) (v := .bool false) hA31 rfl (ev_gtrB (k := .i64) (m := r) (n := 512) (hA31.ev (i := 23)) (ec _ (.int .i64 512)) hd32 _ rfl) ?_
  intro a33 hA33; clear hA31
  refine sx_val hA33 rfl (ev_pickF (hA33.ev (i := 22) (v := .bool false)) (hA33.ev (i := 24) (v := .bool false)) _ rfl) ?_
  intro a34 hA34; clear hA33
  refine sx_nil ?_
  refine then_n ?_
  refine wp_cond_false (hA34.ev (i := 25) (v := .bool false)) ?_
  refine wp_skip ?_
  refine then_n ?_
  refine wp_seq ?_
  refine wp_region_lit ?_
  have hx1_35 := hx1_5.gN hg7
  refine sx_val (v := .agg #[.slice A1 rs.length c1, .slice A2 bs.length c2]) hA34 rfl (ev_row (hA34.ev (i := 2) (v := .pointer (some ⟨B1, 0, none⟩))) hx1_35 Try.underlying25 rfl (n := 2) (by kernel_rfl) rfl _ rfl) ?_
  intro a36 hA36; clear hA34
  have hbel0_38 := Below.gN hbel0_9 hg7 hbel0_9.size
  have hok := (chs_ok (s := ⟨rs, bs⟩) (by omega)).2
  have hrl : rs.length ≤ 256 := hok.hi
  have hr1 : 1 ≤ rs.length := hok.lo
  have hbl : bs.length = rs.length := hok.len
  refine sx_call (f := 46) (args := #[.agg #[.slice A1 rs.length c1, .slice A2 bs.length c2]]) hA36 rfl (by decide) (.inl rfl) (ev_fn rfl (mp1 (hA36.ev (i := 27) (v := .agg #[.slice A1 rs.length c1, .slice A2 bs.length c2]))) (by kernel_rfl) _ rfl) (open_any A1 c1 A2 c2 rs bs _ ⟨(hs.r.below hbel0_38), (hs.b.below hbel0_38)⟩ hok.hi hok.len) ?_
  intro e37 w37 hR37
  obtain ⟨Mo37, rfl, hmp37, hle37, hb37⟩ := hR37
  refine ⟨_, rfl, ?_⟩
  intro a37 hA37
  clear hA36
  have hg37 := g0 hb37
  have hs37 := hg37.size
  clear hb37
  have hmMo37 := hmp37
  have hlMo37 := hmMo37.lt
  have hqMo37 := hle37
  refine sx_new (cs := #[.int .i64 0, .map none, .int .u64 0, .int .u64 0, .int .u64 0, .int .u64 0]) (t := 56) hA37 rfl (by decide) (.inl rfl) (ev_alloc (z := .agg (#[.int .i64 0, .map none, .int .u64 0, .int .u64 0, .int .u64 0, .int .u64 0])) (by kernel_rfl) (by kernel_rfl) _ rfl) ?_
  intro B39 w39 a39 hB39 hx39 hg39 hA39
  clear hA37
  have hs39 := hg39.size
  have hl39 := hx39.lt
  refine sx_store hA39 rfl (.inl rfl) rfl (hA39.ev (i := 9) (v := .pointer (some ⟨B39, 0, none⟩))) (hA39.ev (i := 28) (v := .agg (bkr rs.length Mo37 (opm bs)))) hx39 (by kernel_rfl) rfl (bkr_one _ _ _) ?_
  intro w40 hx40 hg40
  have hs40 := hg40.size
  refine sx_nil ?_
  refine then_n ?_
  refine wp_seq ?_
  refine wp_region_lit ?_
  have hmMo37_42 := hmMo37.gN hg39
  have hmMo37_43 := hmMo37_42.gB hg40 (by omega)
  cases hd44 : decide ((fr ⟨rs, bs⟩) < 0)
  rotate_left
  · have hp44 := of_decide_eq_true hd44
    refine sx_call (f := 47) (args := #[.pointer (some ⟨B39, 0, none⟩)]) hA39 rfl (by decide) (.inl rfl) (ev_fn rfl (mp1 (hA39.ev (i := 9) (v := .pointer (some ⟨B39, 0, none⟩)))) (by kernel_rfl) _ rfl) (first_any _ B39 Mo37 rs.length rs bs ⟨hx40, hmMo37_43⟩ (by omega) rfl) ?_
    intro e84 w84 hR84
    obtain ⟨rfl, hb84⟩ := hR84
    refine ⟨_, rfl, ?_⟩
    intro a84 hA84
    clear hA39
    have hg84 := g0 hb84
    have hs84 := hg84.size
    clear hb84
    refine sx_val hA84 rfl (ev_assign (hA84.ev (i := 29) (v := .int .i64 (fr ⟨rs, bs⟩))) _ rfl) ?_
    intro a85 hA85; clear hA84
    refine sx_nil ?_
    refine then_n ?_
    refine wp_seq ?_
    refine wp_seq ?_
    refine wp_region_lit ?_
    refine sx_val hA85 rfl (ev_move (hA85.ev (i := 10) (v := .int .i64 (fr ⟨rs, bs⟩))) _ rfl) ?_
    intro a86 hA86; clear hA85
    refine sx_val (v := .bool true) hA86 rfl (ev_lssB (k := .i64) (m := (fr ⟨rs, bs⟩)) (n := 0) (hA86.ev (i := 30)) (ec _ (.int .i64 0)) hd44 _ rfl) ?_
    intro a87 hA87; clear hA86
    refine sx_nil ?_
    refine then_n ?_
    refine wp_cond_true (hA87.ev (i := 31) (v := .bool true)) ?_
    refine wp_seq ?_
    refine wp_region_lit ?_
    refine sx_val (v := .agg #[.slice none 0 0, .slice none 0 0]) hA87 rfl (bd0_Slots _ rfl) ?_
    intro a88 hA88; clear hA87
    have hx2_90 := hx2.gN hg7
    have hx2_91 := hx2_90.gN hg37
    have hx2_92 := hx2_91.gN hg39
    have hx2_93 := hx2_92.gB hg40 (by omega)
    have hx2_94 := hx2_93.gN hg84
    refine sx_store hA88 rfl (.inl rfl) rfl (hA88.ev (i := 4) (v := .pointer (some ⟨B2, 0, none⟩))) (hA88.ev (i := 32) (v := .agg #[.slice none 0 0, .slice none 0 0])) hx2_94 (by kernel_rfl) rfl (by simp [Value.oneCell']) ?_
    intro w89 hx89 hg89
    have hs89 := hg89.size
    refine sx_val hA88 rfl (ev_assign (ec _ (.int .i64 0)) _ rfl) ?_
    intro a95 hA95; clear hA88
    refine sx_val hA95 rfl (ev_assign (ec _ (.int .i64 5)) _ rfl) ?_
    intro a96 hA96; clear hA95
    refine sx_nil ?_
    refine then_n ?_
    refine wp_ret ?_
    refine then_r ?_
    refine bodyPost_ret (rs_ctt (v := .int .i64 0) (v2 := .int .i64 5) Try.results22 hA96 (by kernel_rfl) (by kernel_rfl) (by kernel_rfl) hx89 Try.underlying25 rfl (by kernel_rfl)) hA96.2.1 ?_
    have hbel0_97 := Below.gN hbel0_38 hg37 hbel0_38.size
    have hbel0_98 := Below.gN hbel0_97 hg39 hbel0_97.size
    have hbel0_99 := Below.gB hbel0_98 hg40 hbel0_98.size (by omega)
    have hbel0_100 := Below.gN hbel0_99 hg84 hbel0_99.size
    have hbel0_101 := Below.gB hbel0_100 hg89 hbel0_100.size (by omega)
    have E : alc ⟨rs, bs⟩ r = (Ss.nil, 0, 5) := by
      unfold alc
      rw [if_neg (by omega), if_neg (by omega), if_pos hp44]
    rw [E]
    exact RSl.nil rfl hbel0_101
  have hp44 := of_decide_eq_false hd44
  obtain ⟨j, hj, hjl, hjf, hjm⟩ := fr_pos hp44
  have hjr : j < rs.length := hjl
  refine sx_call (f := 47) (args := #[.pointer (some ⟨B39, 0, none⟩)]) hA39 rfl (by decide) (.inl rfl) (ev_fn rfl (mp1 (hA39.ev (i := 9) (v := .pointer (some ⟨B39, 0, none⟩)))) (by kernel_rfl) _ rfl) (first_any _ B39 Mo37 rs.length rs bs ⟨hx40, hmMo37_43⟩ (by omega) rfl) ?_
  intro e45 w45 hR45
  obtain ⟨he45, hb45⟩ := hR45
  rw [hj] at he45
  subst he45
  refine ⟨_, rfl, ?_⟩
  intro a45 hA45
  clear hA39
  have hg45 := g0 hb45
  have hs45 := hg45.size
  clear hb45
  refine sx_val hA45 rfl (ev_assign (hA45.ev (i := 29) (v := .int .i64 (j : Int))) _ rfl) ?_
  intro a46 hA46; clear hA45
  refine sx_nil ?_
  refine then_n ?_
  refine wp_seq ?_
  refine wp_seq ?_
  refine wp_region_lit ?_
  refine sx_val hA46 rfl (ev_move (hA46.ev (i := 10) (v := .int .i64 (j : Int))) _ rfl) ?_
  intro a47 hA47; clear hA46
  refine sx_val (v := .bool false) hA47 rfl (ev_lssB (k := .i64) (m := (j : Int)) (n := 0) (hA47.ev (i := 30)) (ec _ (.int .i64 0)) (by simp) _ rfl) ?_
  intro a48 hA48; clear hA47
  refine sx_nil ?_
  refine then_n ?_
  refine wp_cond_false (hA48.ev (i := 31) (v := .bool false)) ?_
  refine wp_skip ?_
  refine then_n ?_
  refine wp_seq ?_
  refine wp_region_lit ?_
  refine sx_val (v := .pointer (some ⟨B39, 1, none⟩)) hA48 rfl (fb_book_1 (hA48.ev (i := 9) (v := .pointer (some ⟨B39, 0, none⟩))) _ rfl) ?_
  intro a49 hA49; clear hA48
  have hx40_50 := hx40.gN hg45
  refine sx_val (v := .map (some Mo37)) hA49 rfl (ev_cell (v := .map (some Mo37)) (hA49.ev (i := 33) (v := .pointer (some ⟨B39, 1, none⟩))) ((hx40_50.cell 1).trans rfl) Try.underlying51 rfl _ rfl) ?_
  intro a51 hA51; clear hA49
  refine sx_val hA51 rfl (ev_move (hA51.ev (i := 10) (v := .int .i64 (j : Int))) _ rfl) ?_
  intro a52 hA52; clear hA51
  refine sx_val hA52 rfl (ev_move (hA52.ev (i := 1) (v := .int .i64 r)) _ rfl) ?_
  intro a53 hA53; clear hA52
  have hmMo37_54 := hmMo37_43.gN hg45
  refine sx_upd mk_int (k := (j : Int)) (v := r) hA53 rfl (.inl rfl) rfl Try.underlying51 hmMo37_54 (hA53.ev (i := 34) (v := .map (some Mo37))) (hA53.ev (i := 35) (v := .int .i64 (j : Int))) (hA53.ev (i := 36) (v := .int .i64 r)) ?_
  intro w55 hm55 hg55
  have hs55 := hg55.size
  replace hm55 := Mp.congr' hm55 (opf_set (by omega) (by omega))
  refine sx_nil ?_
  refine then_n ?_
  refine wp_seq ?_
  refine wp_region_lit ?_
  refine sx_val (v := .pointer (some ⟨B39, 2, none⟩)) hA53 rfl (fb_book_2 (hA53.ev (i := 9) (v := .pointer (some ⟨B39, 0, none⟩))) _ rfl) ?_
  intro a56 hA56; clear hA53
  refine sx_val hA56 rfl (ev_move (hA56.ev (i := 10) (v := .int .i64 (j : Int))) _ rfl) ?_
  intro a57 hA57; clear hA56
  have hx40_59 := hx40_50.gB hg55 (by omega)
  refine sx_call (f := 45) (args := #[.pointer (some ⟨B39, 2, none⟩), .int .i64 (j : Int), .bool true]) hA57 rfl (by decide) (.inl rfl) (ev_fn rfl (mp3 (hA57.ev (i := 37) (v := .pointer (some ⟨B39, 2, none⟩))) (hA57.ev (i := 38) (v := .int .i64 (j : Int))) (ec _ (.bool true))) (by kernel_rfl) _ rfl) (put_bk_t B39 rs.length Mo37 (opm bs) j _ hx40_59 (by omega)) ?_
  intro e58 w58 hR58
  obtain ⟨rfl, hx58, hg58⟩ := hR58
  refine ⟨_, rfl, ?_⟩
  intro a58 hA58
  clear hA57
  have hs58 := hg58.size
  have hy58 : Bx w58 B39 56 (bkr rs.length Mo37 (opm (bs.set j true))) := by rw [← opm_set true (by omega)]; exact hx58
  refine sx_nil ?_
  refine then_n ?_
  refine wp_seq ?_
  refine wp_region_lit ?_
  have hm55_61 := hm55.gB hg58 (by omega)
  refine sx_call (f := 38) (args := #[.pointer (some ⟨B39, 0, none⟩)]) hA58 rfl (by decide) (.inl rfl) (ev_fn rfl (mp1 (hA58.ev (i := 9) (v := .pointer (some ⟨B39, 0, none⟩)))) (by kernel_rfl) _ rfl) (slots_any _ B39 Mo37 rs.length (rs.set j r) (bs.set j true) ⟨hy58, hm55_61⟩ (by omega) (by omega) (by first | omega | (rw [List.length_set] <;> omega)) (by first | omega | (rw [List.length_set] <;> omega))) ?_
  intro e60 w60 hR60
  obtain ⟨Ap60, cp60, Aj60, cj60, rfl, hC60, hJ60, hb60⟩ := hR60
  refine ⟨_, rfl, ?_⟩
  intro a60 hA60
  clear hA58
  have hg60 := g0 hb60
  have hs60 := hg60.size
  clear hb60
  have ho60_0 : Own w60 (w58.heap.size) 3 1 (.slice Ap60 (rs.set j r).length cp60) (rs.set j r).length (flat iva (rs.set j r)) := hC60
  have hh60_0 := Own.hi ho60_0
  have ho60_1 : Own w60 (w58.heap.size) 4 1 (.slice Aj60 (bs.set j true).length cj60) (bs.set j true).length (flat bva (bs.set j true)) := hJ60
  have hh60_1 := Own.hi ho60_1
  refine sx_val hA60 rfl (ev_move (hA60.ev (i := 10) (v := .int .i64 (j : Int))) _ rfl) ?_
  intro a62 hA62; clear hA60
  have hx2_64 := hx2.gN hg7
  have hx2_65 := hx2_64.gN hg37
  have hx2_66 := hx2_65.gN hg39
  have hx2_67 := hx2_66.gB hg40 (by omega)
  have hx2_68 := hx2_67.gN hg45
  have hx2_69 := hx2_68.gB hg55 (by omega)
  have hx2_70 := hx2_69.gB hg58 (by omega)
  have hx2_71 := hx2_70.gN hg60
  refine sx_store hA62 rfl (.inl rfl) rfl (hA62.ev (i := 4) (v := .pointer (some ⟨B2, 0, none⟩))) (hA62.ev (i := 40) (v := .agg #[.slice Ap60 (rs.set j r).length cp60, .slice Aj60 (bs.set j true).length cj60])) hx2_71 (by kernel_rfl) rfl (by simp [Value.oneCell']) ?_
  intro w63 hx63 hg63
  have hs63 := hg63.size
  refine sx_val hA62 rfl (ev_assign (hA62.ev (i := 41) (v := .int .i64 (j : Int))) _ rfl) ?_
  intro a72 hA72; clear hA62
  refine sx_val hA72 rfl (ev_assign (ec _ (.int .i64 0)) _ rfl) ?_
  intro a73 hA73; clear hA72
  refine sx_nil ?_
  refine then_n ?_
  refine wp_ret ?_
  refine bodyPost_ret (rs_ctt (v := .int .i64 (j : Int)) (v2 := .int .i64 0) Try.results22 hA73 (by kernel_rfl) (by kernel_rfl) (by kernel_rfl) hx63 Try.underlying25 rfl (by kernel_rfl)) hA73.2.1 ?_
  have hbel0_74 := Below.gN hbel0_38 hg37 hbel0_38.size
  have hbel0_75 := Below.gN hbel0_74 hg39 hbel0_74.size
  have hbel0_76 := Below.gB hbel0_75 hg40 hbel0_75.size (by omega)
  have hbel0_77 := Below.gN hbel0_76 hg45 hbel0_76.size
  have hbel0_78 := Below.gB hbel0_77 hg55 hbel0_77.size (by omega)
  have hbel0_79 := Below.gB hbel0_78 hg58 hbel0_78.size (by omega)
  have hbel0_80 := Below.gN hbel0_79 hg60 hbel0_79.size
  have hbel0_81 := Below.gB hbel0_80 hg63 hbel0_80.size (by omega)
  rw [alc_ok (by omega) (by omega) (by omega) hj]
  have ho60_82 := Own.gBT ho60_0 hg63 hx2_71 (by decide)
  have ho60_83 := Own.gBT ho60_1 hg63 hx2_71 (by decide)
  exact ⟨_, _, _, _, rfl, Own.mono ho60_82 (by omega), Own.mono ho60_83 (by omega), hbel0_81⟩

set_option maxHeartbeats 4000000 in
theorem Count_any (A1 : Option Addr) (c1 : Nat) (A2 : Option Addr) (c2 : Nat) (rs : List Int) (bs : List Bool) (w : World) (hs : GS w A1 c1 A2 c2 rs bs) (hl : rs.length ≤ 900000) (hb : bs.length ≤ 900000) : Calls Try.prog 26 #[.agg #[.slice A1 rs.length c1, .slice A2 bs.length c2]] w (RetB w (.returned (.tuple #[.int .i64 (cnt ⟨rs, bs⟩).1, .int .i64 (cnt ⟨rs, bs⟩).2.1, .int .i64 (cnt ⟨rs, bs⟩).2.2.1, .int .i64 (cnt ⟨rs, bs⟩).2.2.2]))) := by
  have hbel0 := below0 w
  refine sx_enter (N := 51) [(0, .agg #[.slice A1 rs.length c1, .slice A2 bs.length c2])] Try.func26 rfl Try.ntmps26 (by simp) (fun a z d s => ((Ag.nil z d).cons (s 0 _ rfl))) ?_
  intro a0 hA0
  refine wp_seq ?_
  refine wp_region_lit ?_
  refine sx_new (cs := #[.slice A1 rs.length c1, .slice A2 bs.length c2]) (t := 25) hA0 rfl (by decide) (.inl rfl) (ev_box (hA0.ev (i := 0) (v := .agg #[.slice A1 rs.length c1, .slice A2 bs.length c2])) rfl _ rfl) ?_
  intro B1 w1 a1 hB1 hx1 hg1 hA1
  clear hA0
  have hs1 := hg1.size
  have hl1 := hx1.lt
  refine sx_val hA1 rfl (ev_assign (ec _ (.int .i64 0)) _ rfl) ?_
  intro a2 hA2; clear hA1
  refine sx_val hA2 rfl (ev_assign (ec _ (.int .i64 0)) _ rfl) ?_
  intro a3 hA3; clear hA2
  refine sx_val hA3 rfl (ev_assign (ec _ (.int .i64 0)) _ rfl) ?_
  intro a4 hA4; clear hA3
  refine sx_val hA4 rfl (ev_assign (ec _ (.int .i64 0)) _ rfl) ?_
  intro a5 hA5; clear hA4
  refine sx_nil ?_
  refine then_n ?_
  refine wp_seq ?_
  refine wp_seq ?_
  refine wp_region_lit ?_
  refine sx_val (v := .agg #[.slice A1 rs.length c1, .slice A2 bs.length c2]) hA5 rfl (ev_row (hA5.ev (i := 1) (v := .pointer (some ⟨B1, 0, none⟩))) hx1 Try.underlying25 rfl (n := 2) (by kernel_rfl) rfl _ rfl) ?_
  intro a6 hA6; clear hA5
  have hbel0_8 := Below.gN hbel0 hg1 hbel0.size
  refine sx_call (f := 20) (args := #[.agg #[.slice A1 rs.length c1, .slice A2 bs.length c2]]) hA6 rfl (by decide) (.inl rfl) (ev_fn rfl (mp1 (hA6.ev (i := 12) (v := .agg #[.slice A1 rs.length c1, .slice A2 bs.length c2]))) (by kernel_rfl) _ rfl) (Check_any A1 c1 A2 c2 rs bs _ ⟨(hs.r.below hbel0_8), (hs.b.below hbel0_8)⟩ (by omega) (by omega)) ?_
  intro e7 w7 hR7
  obtain ⟨rfl, hb7⟩ := hR7
  refine ⟨_, rfl, ?_⟩
  intro a7 hA7
  clear hA6
  have hg7 := g0 hb7
  have hs7 := hg7.size
  clear hb7
  refine sx_val hA7 rfl (ev_move (hA7.ev (i := 13) (v := .tuple #[.int .i64 (chs ⟨rs, bs⟩).1, .int .i64 (chs ⟨rs, bs⟩).2])) _ rfl) ?_
  intro a9 hA9; clear hA7
  refine sx_val (v := .int .i64 (chs ⟨rs, bs⟩).1) hA9 rfl (ev_ext (hA9.ev (i := 11) (v := .tuple #[.int .i64 (chs ⟨rs, bs⟩).1, .int .i64 (chs ⟨rs, bs⟩).2])) rfl _ rfl) ?_
  intro a10 hA10; clear hA9
  refine sx_val (v := .int .i64 (chs ⟨rs, bs⟩).2) hA10 rfl (ev_ext (hA10.ev (i := 11) (v := .tuple #[.int .i64 (chs ⟨rs, bs⟩).1, .int .i64 (chs ⟨rs, bs⟩).2])) rfl _ rfl) ?_
  intro a11 hA11; clear hA10
  refine sx_val hA11 rfl (ev_assign (hA11.ev (i := 14) (v := .int .i64 (chs ⟨rs, bs⟩).1)) _ rfl) ?_
  intro a12 hA12; clear hA11
  refine sx_val hA12 rfl (ev_assign (hA12.ev (i := 15) (v := .int .i64 (chs ⟨rs, bs⟩).2)) _ rfl) ?_
  intro a13 hA13; clear hA12
  refine sx_nil ?_
  refine then_n ?_
  refine wp_seq ?_
  refine wp_region_lit ?_
  refine sx_val hA13 rfl (ev_move (hA13.ev (i := 6) (v := .int .i64 (chs ⟨rs, bs⟩).1)) _ rfl) ?_
  intro a14 hA14; clear hA13
  cases hd15 : decide ((chs ⟨rs, bs⟩).1 = 0)
  · have hp15 := of_decide_eq_false hd15
    refine sx_val (v := .bool true) hA14 rfl (ev_neqB (k := .i64) (m := (chs ⟨rs, bs⟩).1) (n := 0) (hA14.ev (i := 16)) (ec _ (.int .i64 0)) (by simpa using hd15) _ rfl) ?_
    intro a16 hA16; clear hA14
    refine sx_nil ?_
    refine then_n ?_
    refine wp_cond_true (hA16.ev (i := 17) (v := .bool true)) ?_
    refine wp_seq ?_
    refine wp_region_lit ?_
    refine sx_val hA16 rfl (ev_move (hA16.ev (i := 6) (v := .int .i64 (chs ⟨rs, bs⟩).1)) _ rfl) ?_
    intro a17 hA17; clear hA16
    refine sx_val hA17 rfl (ev_assign (ec _ (.int .i64 0)) _ rfl) ?_
    intro a18 hA18; clear hA17
    refine sx_val hA18 rfl (ev_assign (ec _ (.int .i64 0)) _ rfl) ?_
    intro a19 hA19; clear hA18
    refine sx_val hA19 rfl (ev_assign (ec _ (.int .i64 0)) _ rfl) ?_
    intro a20 hA20; clear hA19
    refine sx_val hA20 rfl (ev_assign (hA20.ev (i := 18) (v := .int .i64 (chs ⟨rs, bs⟩).1)) _ rfl) ?_
    intro a21 hA21; clear hA20
    refine sx_nil ?_
    refine then_n ?_
    refine wp_ret ?_
    refine then_r ?_
    refine bodyPost_ret (rs_tttt (v := .int .i64 0) (v2 := .int .i64 0) (v3 := .int .i64 0) (v4 := .int .i64 (chs ⟨rs, bs⟩).1) Try.results26 hA21 (by kernel_rfl) (by kernel_rfl) (by kernel_rfl) (by kernel_rfl) ) hA21.2.1 ?_
    have E : cnt ⟨rs, bs⟩ = (0, 0, 0, (chs ⟨rs, bs⟩).1) := if_pos hp15
    have hbel0_22 := Below.gN hbel0_8 hg7 hbel0_8.size
    exact ⟨by rw [E], hbel0_22⟩
  have hp15 := of_decide_eq_true hd15
  refine sx_val (v := .bool false) hA14 rfl (ev_neqB (k := .i64) (m := (chs ⟨rs, bs⟩).1) (n := 0) (hA14.ev (i := 16)) (ec _ (.int .i64 0)) (by simpa using hd15) _ rfl) ?_
  intro a23 hA23; clear hA14
  refine sx_nil ?_
  refine then_n ?_
  refine wp_cond_false (hA23.ev (i := 17) (v := .bool false)) ?_
  refine wp_skip ?_
  refine then_n ?_
  refine wp_seq ?_
  refine wp_region_lit ?_
  have hx1_24 := hx1.gN hg7
  refine sx_val (v := .agg #[.slice A1 rs.length c1, .slice A2 bs.length c2]) hA23 rfl (ev_row (hA23.ev (i := 1) (v := .pointer (some ⟨B1, 0, none⟩))) hx1_24 Try.underlying25 rfl (n := 2) (by kernel_rfl) rfl _ rfl) ?_
  intro a25 hA25; clear hA23
  have hbel0_27 := Below.gN hbel0_8 hg7 hbel0_8.size
  have hok := (chs_ok (s := ⟨rs, bs⟩) (by omega)).2
  have hrl : rs.length ≤ 256 := hok.hi
  have hr1 : 1 ≤ rs.length := hok.lo
  have hbl : bs.length = rs.length := hok.len
  refine sx_call (f := 46) (args := #[.agg #[.slice A1 rs.length c1, .slice A2 bs.length c2]]) hA25 rfl (by decide) (.inl rfl) (ev_fn rfl (mp1 (hA25.ev (i := 19) (v := .agg #[.slice A1 rs.length c1, .slice A2 bs.length c2]))) (by kernel_rfl) _ rfl) (open_any A1 c1 A2 c2 rs bs _ ⟨(hs.r.below hbel0_27), (hs.b.below hbel0_27)⟩ hok.hi hok.len) ?_
  intro e26 w26 hR26
  obtain ⟨Mo26, rfl, hmp26, hle26, hb26⟩ := hR26
  refine ⟨_, rfl, ?_⟩
  intro a26 hA26
  clear hA25
  have hg26 := g0 hb26
  have hs26 := hg26.size
  clear hb26
  have hmMo26 := hmp26
  have hlMo26 := hmMo26.lt
  have hqMo26 := hle26
  refine sx_new (cs := #[.int .i64 0, .map none, .int .u64 0, .int .u64 0, .int .u64 0, .int .u64 0]) (t := 56) hA26 rfl (by decide) (.inl rfl) (ev_alloc (z := .agg (#[.int .i64 0, .map none, .int .u64 0, .int .u64 0, .int .u64 0, .int .u64 0])) (by kernel_rfl) (by kernel_rfl) _ rfl) ?_
  intro B28 w28 a28 hB28 hx28 hg28 hA28
  clear hA26
  have hs28 := hg28.size
  have hl28 := hx28.lt
  refine sx_store hA28 rfl (.inl rfl) rfl (hA28.ev (i := 8) (v := .pointer (some ⟨B28, 0, none⟩))) (hA28.ev (i := 20) (v := .agg (bkr rs.length Mo26 (opm bs)))) hx28 (by kernel_rfl) rfl (bkr_one _ _ _) ?_
  intro w29 hx29 hg29
  have hs29 := hg29.size
  refine sx_nil ?_
  refine then_n ?_
  refine wp_seq ?_
  refine wp_seq ?_
  refine wp_region_lit ?_
  refine sx_val (v := .pointer (some ⟨B28, 0, none⟩)) hA28 rfl (fb_book_0 (hA28.ev (i := 8) (v := .pointer (some ⟨B28, 0, none⟩))) _ rfl) ?_
  intro a30 hA30; clear hA28
  refine sx_val (v := .int .i64 (rs.length : Int)) hA30 rfl (ev_cell (v := .int .i64 (rs.length : Int)) (hA30.ev (i := 21) (v := .pointer (some ⟨B28, 0, none⟩))) ((hx29.cell 0).trans rfl) Try.underlying3 rfl _ rfl) ?_
  intro a31 hA31; clear hA30
  refine sx_val hA31 rfl (ev_move (ec _ (.int .i64 0)) _ rfl) ?_
  intro a32 hA32; clear hA31
  refine sx_nil ?_
  refine then_n ?_
  refine wp_block ?_
  have hmMo26_34 := hmMo26.gN hg28
  have hmMo26_35 := hmMo26_34.gB hg29 (by omega)
  have hbel0_36 := Below.gN hbel0_27 hg26 hbel0_27.size
  have hbel0_37 := Below.gN hbel0_36 hg28 hbel0_36.size
  have hbel0_38 := Below.gB hbel0_37 hg29 hbel0_37.size (by omega)
  refine wp_loop_ghost (fun gz a wl => ∃ (k : Nat), gz = rs.length - k ∧ Ag a 51 [(3, .int .i64 0), (5, .int .i64 0), (8, .pointer (some ⟨B28, 0, none⟩)), (22, .int .i64 (rs.length : Int)), (23, .int .i64 (k : Int)), (2, .int .i64 ((cfr ⟨rs, bs⟩ k : Nat) : Int)), (4, .int .i64 (sumr rs k))] ∧ k ≤ rs.length ∧ Bx wl B28 56 (bkr rs.length Mo26 (opm bs)) ∧ Mp wl Mo26 (Value.int .i64) (Value.int .i64) (opf rs) ∧ w29.heap.size ≤ wl.heap.size ∧ Below w.heap.size w wl) (rs.length - 0) ⟨0, rfl, ((((((((Ag.nil hA32.1 hA32.2.1).cons (hA32.get (i := 4) (v := .int .i64 0))).cons (hA32.get (i := 2) (v := .int .i64 0))).cons (hA32.get (i := 23) (v := .int .i64 0))).cons (hA32.get (i := 22) (v := .int .i64 (rs.length : Int)))).cons (hA32.get (i := 8) (v := .pointer (some ⟨B28, 0, none⟩)))).cons (hA32.get (i := 5) (v := .int .i64 0))).cons (hA32.get (i := 3) (v := .int .i64 0))), Nat.zero_le _, hx29, hmMo26_35, Nat.le_refl _, hbel0_38⟩ ?_
  intro n33 a33 w33 hI33
  obtain ⟨k, hn33, hA33, q33_0, f33_0, f33_1, hsz33, hbel33⟩ := hI33
  subst hn33
  clear hA32
  have hlB28_33 := f33_0.lt
  have hlMo26_33 := f33_1.lt
  cases hd39 : decide ((k : Int) < (rs.length : Int))
  · have hp39 := of_decide_eq_false hd39
    refine wp_seq ?_
    refine wp_region_lit ?_
    refine sx_val (v := .bool false) hA33 rfl (ev_lssB (k := .i64) (m := (k : Int)) (n := (rs.length : Int)) (hA33.ev (i := 23)) (hA33.ev (i := 22)) hd39 _ rfl) ?_
    intro a40 hA40; clear hA33
    refine sx_nil ?_
    refine then_n ?_
    refine wp_seq ?_
    refine wp_cond_false (hA40.ev (i := 24) (v := .bool false)) ?_
    refine wp_exit ?_
    refine then_x ?_
    refine then_x ?_
    refine blk_hit ?_
    refine then_n ?_
    refine wp_seq ?_
    refine wp_region_lit ?_
    refine sx_val (v := .pointer (some ⟨B28, 2, none⟩)) hA40 rfl (fb_book_2 (hA40.ev (i := 8) (v := .pointer (some ⟨B28, 0, none⟩))) _ rfl) ?_
    intro a41 hA41; clear hA40
    refine sx_val (v := .agg (mrow (opm bs))) hA41 rfl (ev_loadR (cs := (mrow (opm bs))) (n := 4) (hA41.ev (i := 38) (v := .pointer (some ⟨B28, 2, none⟩))) (bk_part f33_0) Try.underlying54 rfl (by kernel_rfl) rfl _ rfl) ?_
    intro a42 hA42; clear hA41
    refine sx_val (v := .pointer (some ⟨B28, 0, none⟩)) hA42 rfl (fb_book_0 (hA42.ev (i := 8) (v := .pointer (some ⟨B28, 0, none⟩))) _ rfl) ?_
    intro a43 hA43; clear hA42
    refine sx_val (v := .int .i64 (rs.length : Int)) hA43 rfl (ev_cell (v := .int .i64 (rs.length : Int)) (hA43.ev (i := 40) (v := .pointer (some ⟨B28, 0, none⟩))) ((f33_0.cell 0).trans rfl) Try.underlying3 rfl _ rfl) ?_
    intro a44 hA44; clear hA43
    refine sx_call (f := 48) (args := #[.agg (mrow (opm bs)), .int .i64 (rs.length : Int)]) hA44 rfl (by decide) (.inl rfl) (ev_fn rfl (mp2 (hA44.ev (i := 39) (v := .agg (mrow (opm bs)))) (hA44.ev (i := 41) (v := .int .i64 (rs.length : Int)))) (by kernel_rfl) _ rfl) (mcount_any rs.length (opm bs) _ (by omega) (by omega) (opm_out hbl)) ?_
    intro e45 w45 hR45
    obtain ⟨rfl, hb45⟩ := hR45
    refine ⟨_, rfl, ?_⟩
    intro a45 hA45
    clear hA44
    have hg45 := g0 hb45
    have hs45 := hg45.size
    clear hb45
    refine sx_val hA45 rfl (ev_move (hA45.ev (i := 42) (v := .tuple #[.int .i64 ((cntS (opm bs) 0 rs.length : Nat) : Int), .int .i64 0])) _ rfl) ?_
    intro a46 hA46; clear hA45
    refine sx_val (v := .int .i64 ((cntS (opm bs) 0 rs.length : Nat) : Int)) hA46 rfl (ev_ext (hA46.ev (i := 37) (v := .tuple #[.int .i64 ((cntS (opm bs) 0 rs.length : Nat) : Int), .int .i64 0])) rfl _ rfl) ?_
    intro a47 hA47; clear hA46
    refine sx_val (v := .int .i64 0) hA47 rfl (ev_ext (hA47.ev (i := 37) (v := .tuple #[.int .i64 ((cntS (opm bs) 0 rs.length : Nat) : Int), .int .i64 0])) rfl _ rfl) ?_
    intro a48 hA48; clear hA47
    refine sx_val hA48 rfl (ev_assign (hA48.ev (i := 43) (v := .int .i64 ((cntS (opm bs) 0 rs.length : Nat) : Int))) _ rfl) ?_
    intro a49 hA49; clear hA48
    refine sx_val hA49 rfl (ev_assign (hA49.ev (i := 44) (v := .int .i64 0)) _ rfl) ?_
    intro a50 hA50; clear hA49
    refine sx_nil ?_
    refine then_n ?_
    refine wp_seq ?_
    refine wp_seq ?_
    refine wp_region_lit ?_
    refine sx_val hA50 rfl (ev_move (hA50.ev (i := 10) (v := .int .i64 0)) _ rfl) ?_
    intro a51 hA51; clear hA50
    refine sx_val (v := .bool false) hA51 rfl (ev_neqB (k := .i64) (m := 0) (n := 0) (hA51.ev (i := 45)) (ec _ (.int .i64 0)) (by decide) _ rfl) ?_
    intro a52 hA52; clear hA51
    refine sx_nil ?_
    refine then_n ?_
    refine wp_cond_false (hA52.ev (i := 46) (v := .bool false)) ?_
    refine wp_skip ?_
    refine then_n ?_
    refine wp_seq ?_
    refine wp_region_lit ?_
    refine sx_val hA52 rfl (ev_move (hA52.ev (i := 2) (v := .int .i64 ((cfr ⟨rs, bs⟩ k : Nat) : Int))) _ rfl) ?_
    intro a53 hA53; clear hA52
    refine sx_val hA53 rfl (ev_move (hA53.ev (i := 3) (v := .int .i64 ((cntS (opm bs) 0 rs.length : Nat) : Int))) _ rfl) ?_
    intro a54 hA54; clear hA53
    refine sx_val hA54 rfl (ev_move (hA54.ev (i := 4) (v := .int .i64 (sumr rs k))) _ rfl) ?_
    intro a55 hA55; clear hA54
    refine sx_val hA55 rfl (ev_assign (hA55.ev (i := 48) (v := .int .i64 ((cfr ⟨rs, bs⟩ k : Nat) : Int))) _ rfl) ?_
    intro a56 hA56; clear hA55
    refine sx_val hA56 rfl (ev_assign (hA56.ev (i := 49) (v := .int .i64 ((cntS (opm bs) 0 rs.length : Nat) : Int))) _ rfl) ?_
    intro a57 hA57; clear hA56
    refine sx_val hA57 rfl (ev_assign (hA57.ev (i := 50) (v := .int .i64 (sumr rs k))) _ rfl) ?_
    intro a58 hA58; clear hA57
    refine sx_val hA58 rfl (ev_assign (ec _ (.int .i64 0)) _ rfl) ?_
    intro a59 hA59; clear hA58
    refine sx_nil ?_
    refine then_n ?_
    refine wp_ret ?_
    refine bodyPost_ret (rs_tttt (v := .int .i64 ((cfr ⟨rs, bs⟩ k : Nat) : Int)) (v2 := .int .i64 ((cntS (opm bs) 0 rs.length : Nat) : Int)) (v3 := .int .i64 (sumr rs k)) (v4 := .int .i64 0) Try.results26 hA59 (by kernel_rfl) (by kernel_rfl) (by kernel_rfl) (by kernel_rfl) ) hA59.2.1 ?_
    have hkn : k = rs.length := by omega
    have E : cnt ⟨rs, bs⟩ = (((cfr ⟨rs, bs⟩ k : Nat) : Int), ((cntS (opm bs) 0 rs.length : Nat) : Int), sumr rs k, 0) := by
      rw [hkn]
      exact if_neg (by omega)
    have hbel33_60 := Below.gN hbel33 hg45 hbel33.size
    exact ⟨by rw [E], hbel33_60⟩
  have hp39 := of_decide_eq_true hd39
  obtain ⟨x, hx⟩ : ∃ x, rs[k]? = some x := ⟨_, List.getElem?_eq_getElem (by omega)⟩
  have hs1 := sumr_bd hok.val k
  have hs2 := sumr_bd hok.val (k + 1)
  have hc1 := cfr_le ⟨rs, bs⟩ (k + 1)
  simp only at hs1 hs2
  refine wp_seq ?_
  refine wp_region_lit ?_
  refine sx_val (v := .bool true) hA33 rfl (ev_lssB (k := .i64) (m := (k : Int)) (n := (rs.length : Int)) (hA33.ev (i := 23)) (hA33.ev (i := 22)) hd39 _ rfl) ?_
  intro a61 hA61; clear hA33
  refine sx_nil ?_
  refine then_n ?_
  refine wp_seq ?_
  refine wp_cond_true (hA61.ev (i := 24) (v := .bool true)) ?_
  refine wp_skip ?_
  refine then_n ?_
  refine wp_seq ?_
  refine wp_block ?_
  refine wp_seq ?_
  refine wp_region_lit ?_
  refine sx_val hA61 rfl (ev_move (hA61.ev (i := 23) (v := .int .i64 (k : Int))) _ rfl) ?_
  intro a62 hA62; clear hA61
  refine sx_val hA62 rfl (ev_assign (hA62.ev (i := 25) (v := .int .i64 (k : Int))) _ rfl) ?_
  intro a63 hA63; clear hA62
  refine sx_nil ?_
  refine then_n ?_
  refine wp_seq ?_
  refine wp_seq ?_
  refine wp_region_lit ?_
  refine sx_val hA63 rfl (ev_move (hA63.ev (i := 9) (v := .int .i64 (k : Int))) _ rfl) ?_
  intro a64 hA64; clear hA63
  cases hd66 : fre ⟨rs, bs⟩ k
  · refine sx_call (f := 37) (args := #[.pointer (some ⟨B28, 0, none⟩), .int .i64 (k : Int)]) hA64 rfl (by decide) (.inl rfl) (ev_fn rfl (mp2 (hA64.ev (i := 8) (v := .pointer (some ⟨B28, 0, none⟩))) (hA64.ev (i := 26) (v := .int .i64 (k : Int)))) (by kernel_rfl) _ rfl) (bfree_any _ B28 Mo26 rs.length rs bs ⟨f33_0, f33_1⟩ k (by omega)) ?_
    intro e67 w67 hR67
    obtain ⟨he67, hb67⟩ := hR67
    rw [hd66] at he67
    subst he67
    refine ⟨_, rfl, ?_⟩
    intro a67 hA67
    clear hA64
    have hg67 := g0 hb67
    have hs67 := hg67.size
    clear hb67
    refine sx_nil ?_
    refine then_n ?_
    refine wp_cond_false (hA67.ev (i := 27) (v := .bool false)) ?_
    refine wp_skip ?_
    refine then_n ?_
    refine wp_region_lit ?_
    refine sx_val hA67 rfl (ev_move (hA67.ev (i := 4) (v := .int .i64 (sumr rs k))) _ rfl) ?_
    intro a68 hA68; clear hA67
    refine sx_val (v := .pointer (some ⟨B28, 1, none⟩)) hA68 rfl (fb_book_1 (hA68.ev (i := 8) (v := .pointer (some ⟨B28, 0, none⟩))) _ rfl) ?_
    intro a69 hA69; clear hA68
    have f33_70 := f33_0.gN hg67
    refine sx_val (v := .map (some Mo26)) hA69 rfl (ev_cell (v := .map (some Mo26)) (hA69.ev (i := 31) (v := .pointer (some ⟨B28, 1, none⟩))) ((f33_70.cell 1).trans rfl) Try.underlying51 rfl _ rfl) ?_
    intro a71 hA71; clear hA69
    refine sx_val hA71 rfl (ev_move (hA71.ev (i := 9) (v := .int .i64 (k : Int))) _ rfl) ?_
    intro a72 hA72; clear hA71
    have f33_73 := f33_1.gN hg67
    refine sx_val (v := .int .i64 x) hA72 rfl (ev_look mk_int f33_73 Try.underlying51 (by kernel_rfl) (k := (k : Int)) (r := .int .i64 x) (hA72.ev (i := 32) (v := .map (some Mo26))) (hA72.ev (i := 33) (v := .int .i64 (k : Int))) (look_at hx) _ rfl) ?_
    intro a74 hA74; clear hA72
    refine sx_val (v := .int .i64 (sumr rs (k + 1))) hA74 rfl (ev_addR (k := .i64) (m := (sumr rs k)) (n := x) (r := (sumr rs (k + 1))) (hA74.ev (i := 30)) (hA74.ev (i := 34)) (wr (sumr_succ hx) (by omega) (by omega)) _ rfl) ?_
    intro a75 hA75; clear hA74
    refine sx_val hA75 rfl (ev_assign (hA75.ev (i := 35) (v := .int .i64 (sumr rs (k + 1)))) _ rfl) ?_
    intro a76 hA76; clear hA75
    refine sx_nil ?_
    refine blk_n ?_
    refine then_n ?_
    refine wp_region_lit ?_
    refine sx_val (v := .int .i64 ((k + 1 : Nat) : Int)) hA76 rfl (ev_addR (k := .i64) (m := (k : Int)) (n := 1) (r := ((k + 1 : Nat) : Int)) (hA76.ev (i := 23)) (ec _ (.int .i64 1)) (wr (by omega) (by omega) (by omega)) _ rfl) ?_
    intro a77 hA77; clear hA76
    refine sx_val hA77 rfl (ev_move (hA77.ev (i := 36) (v := .int .i64 ((k + 1 : Nat) : Int))) _ rfl) ?_
    intro a78 hA78; clear hA77
    refine sx_nil ?_
    refine then_n ?_
    rw [cfr_f hd66] at hA78
    have hbel33_79 := Below.gN hbel33 hg67 hbel33.size
    refine ⟨rs.length - (k + 1), by omega, k + 1, rfl, ((((((((Ag.nil hA78.1 hA78.2.1).cons (hA78.get (i := 4) (v := .int .i64 (sumr rs (k + 1))))).cons (hA78.get (i := 2) (v := .int .i64 ((cfr ⟨rs, bs⟩ (k + 1) : Nat) : Int)))).cons (hA78.get (i := 23) (v := .int .i64 ((k + 1 : Nat) : Int)))).cons (hA78.get (i := 22) (v := .int .i64 (rs.length : Int)))).cons (hA78.get (i := 8) (v := .pointer (some ⟨B28, 0, none⟩)))).cons (hA78.get (i := 5) (v := .int .i64 0))).cons (hA78.get (i := 3) (v := .int .i64 0))), by omega, f33_70, f33_73, by omega, hbel33_79⟩
  refine sx_call (f := 37) (args := #[.pointer (some ⟨B28, 0, none⟩), .int .i64 (k : Int)]) hA64 rfl (by decide) (.inl rfl) (ev_fn rfl (mp2 (hA64.ev (i := 8) (v := .pointer (some ⟨B28, 0, none⟩))) (hA64.ev (i := 26) (v := .int .i64 (k : Int)))) (by kernel_rfl) _ rfl) (bfree_any _ B28 Mo26 rs.length rs bs ⟨f33_0, f33_1⟩ k (by omega)) ?_
  intro e80 w80 hR80
  obtain ⟨he80, hb80⟩ := hR80
  rw [hd66] at he80
  subst he80
  refine ⟨_, rfl, ?_⟩
  intro a80 hA80
  clear hA64
  have hg80 := g0 hb80
  have hs80 := hg80.size
  clear hb80
  refine sx_nil ?_
  refine then_n ?_
  refine wp_cond_true (hA80.ev (i := 27) (v := .bool true)) ?_
  refine wp_region_lit ?_
  refine sx_val hA80 rfl (ev_move (hA80.ev (i := 2) (v := .int .i64 ((cfr ⟨rs, bs⟩ k : Nat) : Int))) _ rfl) ?_
  intro a81 hA81; clear hA80
  refine sx_val (v := .int .i64 ((cfr ⟨rs, bs⟩ (k + 1) : Nat) : Int)) hA81 rfl (ev_addR (k := .i64) (m := ((cfr ⟨rs, bs⟩ k : Nat) : Int)) (n := 1) (r := ((cfr ⟨rs, bs⟩ (k + 1) : Nat) : Int)) (hA81.ev (i := 28)) (ec _ (.int .i64 1)) (wr (by have := cfr_t hd66; omega) (by omega) (by omega)) _ rfl) ?_
  intro a82 hA82; clear hA81
  refine sx_val hA82 rfl (ev_assign (hA82.ev (i := 29) (v := .int .i64 ((cfr ⟨rs, bs⟩ (k + 1) : Nat) : Int))) _ rfl) ?_
  intro a83 hA83; clear hA82
  refine sx_nil ?_
  refine then_n ?_
  refine wp_region_lit ?_
  refine sx_val hA83 rfl (ev_move (hA83.ev (i := 4) (v := .int .i64 (sumr rs k))) _ rfl) ?_
  intro a84 hA84; clear hA83
  refine sx_val (v := .pointer (some ⟨B28, 1, none⟩)) hA84 rfl (fb_book_1 (hA84.ev (i := 8) (v := .pointer (some ⟨B28, 0, none⟩))) _ rfl) ?_
  intro a85 hA85; clear hA84
  have f33_86 := f33_0.gN hg80
  refine sx_val (v := .map (some Mo26)) hA85 rfl (ev_cell (v := .map (some Mo26)) (hA85.ev (i := 31) (v := .pointer (some ⟨B28, 1, none⟩))) ((f33_86.cell 1).trans rfl) Try.underlying51 rfl _ rfl) ?_
  intro a87 hA87; clear hA85
  refine sx_val hA87 rfl (ev_move (hA87.ev (i := 9) (v := .int .i64 (k : Int))) _ rfl) ?_
  intro a88 hA88; clear hA87
  have f33_89 := f33_1.gN hg80
  refine sx_val (v := .int .i64 x) hA88 rfl (ev_look mk_int f33_89 Try.underlying51 (by kernel_rfl) (k := (k : Int)) (r := .int .i64 x) (hA88.ev (i := 32) (v := .map (some Mo26))) (hA88.ev (i := 33) (v := .int .i64 (k : Int))) (look_at hx) _ rfl) ?_
  intro a90 hA90; clear hA88
  refine sx_val (v := .int .i64 (sumr rs (k + 1))) hA90 rfl (ev_addR (k := .i64) (m := (sumr rs k)) (n := x) (r := (sumr rs (k + 1))) (hA90.ev (i := 30)) (hA90.ev (i := 34)) (wr (sumr_succ hx) (by omega) (by omega)) _ rfl) ?_
  intro a91 hA91; clear hA90
  refine sx_val hA91 rfl (ev_assign (hA91.ev (i := 35) (v := .int .i64 (sumr rs (k + 1)))) _ rfl) ?_
  intro a92 hA92; clear hA91
  refine sx_nil ?_
  refine blk_n ?_
  refine then_n ?_
  refine wp_region_lit ?_
  refine sx_val (v := .int .i64 ((k + 1 : Nat) : Int)) hA92 rfl (ev_addR (k := .i64) (m := (k : Int)) (n := 1) (r := ((k + 1 : Nat) : Int)) (hA92.ev (i := 23)) (ec _ (.int .i64 1)) (wr (by omega) (by omega) (by omega)) _ rfl) ?_
  intro a93 hA93; clear hA92
  refine sx_val hA93 rfl (ev_move (hA93.ev (i := 36) (v := .int .i64 ((k + 1 : Nat) : Int))) _ rfl) ?_
  intro a94 hA94; clear hA93
  refine sx_nil ?_
  refine then_n ?_
  have hbel33_95 := Below.gN hbel33 hg80 hbel33.size
  refine ⟨rs.length - (k + 1), by omega, k + 1, rfl, ((((((((Ag.nil hA94.1 hA94.2.1).cons (hA94.get (i := 4) (v := .int .i64 (sumr rs (k + 1))))).cons (hA94.get (i := 2) (v := .int .i64 ((cfr ⟨rs, bs⟩ (k + 1) : Nat) : Int)))).cons (hA94.get (i := 23) (v := .int .i64 ((k + 1 : Nat) : Int)))).cons (hA94.get (i := 22) (v := .int .i64 (rs.length : Int)))).cons (hA94.get (i := 8) (v := .pointer (some ⟨B28, 0, none⟩)))).cons (hA94.get (i := 5) (v := .int .i64 0))).cons (hA94.get (i := 3) (v := .int .i64 0))), by omega, f33_86, f33_89, by omega, hbel33_95⟩
end Go.Proofs.Ytpoilgfblhacaaa
