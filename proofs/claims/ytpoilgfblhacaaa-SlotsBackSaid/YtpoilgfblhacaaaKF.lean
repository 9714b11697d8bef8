/- Package slots: Ref, Unref, Start, Settle. -/
import Derived.Test.YtpoilgfblhacaaaKF0
namespace Go.Proofs.Ytpoilgfblhacaaa
open Go.RowKit
set_option linter.unusedVariables false
set_option linter.unusedSimpArgs false
set_option maxRecDepth 100000

set_option maxHeartbeats 4000000 in
theorem Ref_bad (A1 : Option Addr) (c1 : Nat) (A2 : Option Addr) (c2 : Nat) (rs : List Int) (bs : List Bool) (k : Int) (w : World) (hs : GS w A1 c1 A2 c2 rs bs) (hl : rs.length ≤ 900000) (hb : bs.length ≤ 900000) (ha : ask ⟨rs, bs⟩ k ≠ 0) : Calls Try.prog 11 #[.agg #[.slice A1 rs.length c1, .slice A2 bs.length c2], .int .i64 k] w (RSl w (rff ⟨rs, bs⟩ k).1 fun v => .tuple #[v, .int .i64 (rff ⟨rs, bs⟩ k).2]) := by
  have hbel0 := below0 w
  refine sx_enter (N := 33) [(0, .agg #[.slice A1 rs.length c1, .slice A2 bs.length c2]), (1, .int .i64 k)] Try.func11 rfl Try.ntmps11 (by simp) (fun a z d s => (((Ag.nil z d).cons (s 1 _ rfl)).cons (s 0 _ rfl))) ?_
  intro a0 hA0
  refine wp_seq ?_
  refine wp_region_lit ?_
  refine sx_new (cs := #[.slice A1 rs.length c1, .slice A2 bs.length c2]) (t := 25) hA0 rfl (by decide) (.inl rfl) (ev_box (hA0.ev (i := 0) (v := .agg #[.slice A1 rs.length c1, .slice A2 bs.length c2])) rfl _ rfl) ?_
  intro B1 w1 a1 hB1 hx1 hg1 hA1
  clear hA0
  have hs1 := hg1.size
  have hl1 := hx1.lt
  refine sx_new (cs := #[.slice none 0 0, .slice none 0 0]) (t := 25) hA1 rfl (by decide) (.inl rfl) (ev_alloc (z := .agg (#[.slice none 0 0, .slice none 0 0])) (by kernel_rfl) (by kernel_rfl) _ rfl) ?_
  intro B2 w2 a2 hB2 hx2 hg2 hA2
  clear hA1
  have hs2 := hg2.size
  have hl2 := hx2.lt
  refine sx_val hA2 rfl (ev_assign (ec _ (.int .i64 0)) _ rfl) ?_
  intro a3 hA3; clear hA2
  refine sx_nil ?_
  refine then_n ?_
  refine wp_seq ?_
  refine wp_region_lit ?_
  have hx1_4 := hx1.gN hg2
  refine sx_val (v := .agg #[.slice A1 rs.length c1, .slice A2 bs.length c2]) hA3 rfl (ev_row (hA3.ev (i := 2) (v := .pointer (some ⟨B1, 0, none⟩))) hx1_4 Try.underlying25 rfl (n := 2) (by kernel_rfl) rfl _ rfl) ?_
  intro a5 hA5; clear hA3
  refine sx_val hA5 rfl (ev_move (hA5.ev (i := 1) (v := .int .i64 k)) _ rfl) ?_
  intro a6 hA6; clear hA5
  have hbel0_8 := Below.gN hbel0 hg1 hbel0.size
  have hbel0_9 := Below.gN hbel0_8 hg2 hbel0_8.size
  refine sx_call (f := 36) (args := #[.agg #[.slice A1 rs.length c1, .slice A2 bs.length c2], .int .i64 k]) hA6 rfl (by decide) (.inl rfl) (ev_fn rfl (mp2 (hA6.ev (i := 9) (v := .agg #[.slice A1 rs.length c1, .slice A2 bs.length c2])) (hA6.ev (i := 10) (v := .int .i64 k))) (by kernel_rfl) _ rfl) (at_bad A1 c1 A2 c2 rs bs k _ ⟨(hs.r.below hbel0_9), (hs.b.below hbel0_9)⟩ (by omega) (by omega) ha) ?_
  intro e7 w7 hR7
  obtain ⟨rfl, hb7⟩ := hR7
  refine ⟨_, rfl, ?_⟩
  intro a7 hA7
  clear hA6
  have hg7 := g0 hb7
  have hs7 := hg7.size
  clear hb7
  refine sx_val hA7 rfl (ev_move (hA7.ev (i := 11) (v := .tuple #[.agg #[.int .i64 0, .map none, .int .u64 0, .int .u64 0, .int .u64 0, .int .u64 0], .int .i64 (ask ⟨rs, bs⟩ k)])) _ rfl) ?_
  intro a10 hA10; clear hA7
  refine sx_val (v := .agg #[.int .i64 0, .map none, .int .u64 0, .int .u64 0, .int .u64 0, .int .u64 0]) hA10 rfl (ev_ext (hA10.ev (i := 8) (v := .tuple #[.agg #[.int .i64 0, .map none, .int .u64 0, .int .u64 0, .int .u64 0, .int .u64 0], .int .i64 (ask ⟨rs, bs⟩ k)])) rfl _ rfl) ?_
  intro a11 hA11; clear hA10
  refine sx_val (v := .int .i64 (ask ⟨rs, bs⟩ k)) hA11 rfl (ev_ext (hA11.ev (i := 8) (v := .tuple #[.agg #[.int .i64 0, .map none, .int .u64 0, .int .u64 0, .int .u64 0, .int .u64 0], .int .i64 (ask ⟨rs, bs⟩ k)])) rfl _ rfl) ?_
  intro a12 hA12; clear hA11
  refine sx_new (cs := #[.int .i64 0, .map none, .int .u64 0, .int .u64 0, .int .u64 0, .int .u64 0]) (t := 56) hA12 rfl (by decide) (.inl rfl) (ev_alloc (z := .agg (#[.int .i64 0, .map none, .int .u64 0, .int .u64 0, .int .u64 0, .int .u64 0])) (by kernel_rfl) (by kernel_rfl) _ rfl) ?_
  intro B13 w13 a13 hB13 hx13 hg13 hA13
  clear hA12
  have hs13 := hg13.size
  have hl13 := hx13.lt
  refine sx_store hA13 rfl (.inl rfl) rfl (hA13.ev (i := 6) (v := .pointer (some ⟨B13, 0, none⟩))) (hA13.ev (i := 12) (v := .agg #[.int .i64 0, .map none, .int .u64 0, .int .u64 0, .int .u64 0, .int .u64 0])) hx13 (by kernel_rfl) rfl (by simp [Value.oneCell']) ?_
  intro w14 hx14 hg14
  have hs14 := hg14.size
  refine sx_val hA13 rfl (ev_assign (hA13.ev (i := 13) (v := .int .i64 (ask ⟨rs, bs⟩ k))) _ rfl) ?_
  intro a15 hA15; clear hA13
  refine sx_nil ?_
  refine then_n ?_
  refine wp_seq ?_
  refine wp_seq ?_
  refine wp_region_lit ?_
  refine sx_val hA15 rfl (ev_move (hA15.ev (i := 7) (v := .int .i64 (ask ⟨rs, bs⟩ k))) _ rfl) ?_
  intro a16 hA16; clear hA15
  refine sx_val (v := .bool true) hA16 rfl (ev_neqB (k := .i64) (m := (ask ⟨rs, bs⟩ k)) (n := 0) (hA16.ev (i := 14)) (ec _ (.int .i64 0)) (by simpa using (decide_eq_false ha)) _ rfl) ?_
  intro a17 hA17; clear hA16
  refine sx_nil ?_
  refine then_n ?_
  refine wp_cond_true (hA17.ev (i := 15) (v := .bool true)) ?_
  refine wp_seq ?_
  refine wp_region_lit ?_
  refine sx_val (v := .agg #[.slice none 0 0, .slice none 0 0]) hA17 rfl (bd0_Slots _ rfl) ?_
  intro a18 hA18; clear hA17
  refine sx_val hA18 rfl (ev_move (hA18.ev (i := 7) (v := .int .i64 (ask ⟨rs, bs⟩ k))) _ rfl) ?_
  intro a19 hA19; clear hA18
  have hx2_21 := hx2.gN hg7
  have hx2_22 := hx2_21.gN hg13
  have hx2_23 := hx2_22.gB hg14 (by omega)
  refine sx_store hA19 rfl (.inl rfl) rfl (hA19.ev (i := 4) (v := .pointer (some ⟨B2, 0, none⟩))) (hA19.ev (i := 16) (v := .agg #[.slice none 0 0, .slice none 0 0])) hx2_23 (by kernel_rfl) rfl (by simp [Value.oneCell']) ?_
  intro w20 hx20 hg20
  have hs20 := hg20.size
  refine sx_val hA19 rfl (ev_assign (hA19.ev (i := 17) (v := .int .i64 (ask ⟨rs, bs⟩ k))) _ rfl) ?_
  intro a24 hA24; clear hA19
  refine sx_nil ?_
  refine then_n ?_
  refine wp_ret ?_
  refine then_r ?_
  refine bodyPost_ret (rs_ct (v := .int .i64 (ask ⟨rs, bs⟩ k)) Try.results11 hA24 (by kernel_rfl) (by kernel_rfl) hx20 Try.underlying25 rfl (by kernel_rfl)) hA24.2.1 ?_
  rw [show rff ⟨rs, bs⟩ k = (Ss.nil, ask ⟨rs, bs⟩ k) from if_pos ha]
  have hbel0_25 := Below.gN hbel0_9 hg7 hbel0_9.size
  have hbel0_26 := Below.gN hbel0_25 hg13 hbel0_25.size
  have hbel0_27 := Below.gB hbel0_26 hg14 hbel0_26.size (by omega)
  have hbel0_28 := Below.gB hbel0_27 hg20 hbel0_27.size (by omega)
  exact RSl.nil rfl hbel0_28

set_option maxHeartbeats 4000000 in
theorem Ref_ok1 (A1 : Option Addr) (c1 : Nat) (A2 : Option Addr) (c2 : Nat) (rs : List Int) (bs : List Bool) (k : Nat) (w : World) (hs : GS w A1 c1 A2 c2 rs bs) (ha : ask ⟨rs, bs⟩ (k : Int) = 0) : Calls Try.prog 11 #[.agg #[.slice A1 rs.length c1, .slice A2 bs.length c2], .int .i64 (k : Int)] w (RSl w (rff ⟨rs, bs⟩ (k : Int)).1 fun v => .tuple #[v, .int .i64 (rff ⟨rs, bs⟩ (k : Int)).2]) := by
  have hq := ask_zero ha
  have hkr : k < rs.length := by have := hq.2.2; simp only at this; omega
  have hok := (chs_ok hq.1).2
  have hrl : rs.length ≤ 256 := hok.hi
  have hr1 : 1 ≤ rs.length := hok.lo
  have hbl : bs.length = rs.length := hok.len
  obtain ⟨x, hx⟩ : ∃ x, rs[k]? = some x := ⟨_, List.getElem?_eq_getElem hkr⟩
  have hxv : 0 ≤ x ∧ x ≤ 512 := hok.val k x hx
  have hbel0 := below0 w
  refine sx_enter (N := 33) [(0, .agg #[.slice A1 rs.length c1, .slice A2 bs.length c2]), (1, .int .i64 (k : Int))] Try.func11 rfl Try.ntmps11 (by simp) (fun a z d s => (((Ag.nil z d).cons (s 1 _ rfl)).cons (s 0 _ rfl))) ?_
  intro a0 hA0
  refine wp_seq ?_
  refine wp_region_lit ?_
  refine sx_new (cs := #[.slice A1 rs.length c1, .slice A2 bs.length c2]) (t := 25) hA0 rfl (by decide) (.inl rfl) (ev_box (hA0.ev (i := 0) (v := .agg #[.slice A1 rs.length c1, .slice A2 bs.length c2])) rfl _ rfl) ?_
  intro B1 w1 a1 hB1 hx1 hg1 hA1
  clear hA0
  have hs1 := hg1.size
  have hl1 := hx1.lt
  refine sx_new (cs := #[.slice none 0 0, .slice none 0 0]) (t := 25) hA1 rfl (by decide) (.inl rfl) (ev_alloc (z := .agg (#[.slice none 0 0, .slice none 0 0])) (by kernel_rfl) (by kernel_rfl) _ rfl) ?_
  intro B2 w2 a2 hB2 hx2 hg2 hA2
  clear hA1
  have hs2 := hg2.size
  have hl2 := hx2.lt
  refine sx_val hA2 rfl (ev_assign (ec _ (.int .i64 0)) _ rfl) ?_
  intro a3 hA3; clear hA2
  refine sx_nil ?_
  refine then_n ?_
  refine wp_seq ?_
  refine wp_region_lit ?_
  have hx1_4 := hx1.gN hg2
  refine sx_val (v := .agg #[.slice A1 rs.length c1, .slice A2 bs.length c2]) hA3 rfl (ev_row (hA3.ev (i := 2) (v := .pointer (some ⟨B1, 0, none⟩))) hx1_4 Try.underlying25 rfl (n := 2) (by kernel_rfl) rfl _ rfl) ?_
  intro a5 hA5; clear hA3
  refine sx_val hA5 rfl (ev_move (hA5.ev (i := 1) (v := .int .i64 (k : Int))) _ rfl) ?_
  intro a6 hA6; clear hA5
  have hbel0_8 := Below.gN hbel0 hg1 hbel0.size
  have hbel0_9 := Below.gN hbel0_8 hg2 hbel0_8.size
  refine sx_call (f := 36) (args := #[.agg #[.slice A1 rs.length c1, .slice A2 bs.length c2], .int .i64 (k : Int)]) hA6 rfl (by decide) (.inl rfl) (ev_fn rfl (mp2 (hA6.ev (i := 9) (v := .agg #[.slice A1 rs.length c1, .slice A2 bs.length c2])) (hA6.ev (i := 10) (v := .int .i64 (k : Int)))) (by kernel_rfl) _ rfl) (at_ok A1 c1 A2 c2 rs bs (k : Int) _ ⟨(hs.r.below hbel0_9), (hs.b.below hbel0_9)⟩ ha) ?_
  intro e7 w7 hR7
  obtain ⟨Mo7, rfl, hmp7, hle7, hb7⟩ := hR7
  refine ⟨_, rfl, ?_⟩
  intro a7 hA7
  clear hA6
  have hg7 := g0 hb7
  have hs7 := hg7.size
  clear hb7
  have hmMo7 := hmp7
  have hlMo7 := hmMo7.lt
  have hqMo7 := hle7
  refine sx_val hA7 rfl (ev_move (hA7.ev (i := 11) (v := .tuple #[.agg (bkr rs.length Mo7 (opm bs)), .int .i64 0])) _ rfl) ?_
  intro a10 hA10; clear hA7
  refine sx_val (v := .agg (bkr rs.length Mo7 (opm bs))) hA10 rfl (ev_ext (hA10.ev (i := 8) (v := .tuple #[.agg (bkr rs.length Mo7 (opm bs)), .int .i64 0])) rfl _ rfl) ?_
  intro a11 hA11; clear hA10
  refine sx_val (v := .int .i64 0) hA11 rfl (ev_ext (hA11.ev (i := 8) (v := .tuple #[.agg (bkr rs.length Mo7 (opm bs)), .int .i64 0])) rfl _ rfl) ?_
  intro a12 hA12; clear hA11
  refine sx_new (cs := #[.int .i64 0, .map none, .int .u64 0, .int .u64 0, .int .u64 0, .int .u64 0]) (t := 56) hA12 rfl (by decide) (.inl rfl) (ev_alloc (z := .agg (#[.int .i64 0, .map none, .int .u64 0, .int .u64 0, .int .u64 0, .int .u64 0])) (by kernel_rfl) (by kernel_rfl) _ rfl) ?_
  intro B13 w13 a13 hB13 hx13 hg13 hA13
  clear hA12
  have hs13 := hg13.size
  have hl13 := hx13.lt
  refine sx_store hA13 rfl (.inl rfl) rfl (hA13.ev (i := 6) (v := .pointer (some ⟨B13, 0, none⟩))) (hA13.ev (i := 12) (v := .agg (bkr rs.length Mo7 (opm bs)))) hx13 (by kernel_rfl) rfl (bkr_one _ _ _) ?_
  intro w14 hx14 hg14
  have hs14 := hg14.size
  refine sx_val hA13 rfl (ev_assign (hA13.ev (i := 13) (v := .int .i64 0)) _ rfl) ?_
  intro a15 hA15; clear hA13
  refine sx_nil ?_
  refine then_n ?_
  refine wp_seq ?_
  refine wp_seq ?_
  refine wp_region_lit ?_
  refine sx_val hA15 rfl (ev_move (hA15.ev (i := 7) (v := .int .i64 0)) _ rfl) ?_
  intro a16 hA16; clear hA15
  refine sx_val (v := .bool false) hA16 rfl (ev_neqB (k := .i64) (m := 0) (n := 0) (hA16.ev (i := 14)) (ec _ (.int .i64 0)) (by decide) _ rfl) ?_
  intro a17 hA17; clear hA16
  refine sx_nil ?_
  refine then_n ?_
  refine wp_cond_false (hA17.ev (i := 15) (v := .bool false)) ?_
  refine wp_skip ?_
  refine then_n ?_
  refine wp_seq ?_
  refine wp_seq ?_
  refine wp_region_lit ?_
  refine sx_val hA17 rfl (ev_move (hA17.ev (i := 1) (v := .int .i64 (k : Int))) _ rfl) ?_
  intro a18 hA18; clear hA17
  have hmMo7_20 := hmMo7.gN hg13
  have hmMo7_21 := hmMo7_20.gB hg14 (by omega)
  refine sx_call (f := 37) (args := #[.pointer (some ⟨B13, 0, none⟩), .int .i64 (k : Int)]) hA18 rfl (by decide) (.inl rfl) (ev_fn rfl (mp2 (hA18.ev (i := 6) (v := .pointer (some ⟨B13, 0, none⟩))) (hA18.ev (i := 18) (v := .int .i64 (k : Int)))) (by kernel_rfl) _ rfl) (bfree_any _ B13 Mo7 rs.length rs bs ⟨hx14, hmMo7_21⟩ k (by omega)) ?_
  intro e19 w19 hR19
  obtain ⟨rfl, hb19⟩ := hR19
  refine ⟨_, rfl, ?_⟩
  intro a19 hA19
  clear hA18
  have hg19 := g0 hb19
  have hs19 := hg19.size
  clear hb19
  refine sx_nil ?_
  refine then_n ?_
  cases hd22 : fre ⟨rs, bs⟩ k
  rotate_left
  · rw [hd22] at hA19
    refine wp_cond_true (hA19.ev (i := 19) (v := .bool true)) ?_
    refine wp_seq ?_
    refine wp_region_lit ?_
    refine sx_val (v := .agg #[.slice none 0 0, .slice none 0 0]) hA19 rfl (bd0_Slots _ rfl) ?_
    intro a69 hA69; clear hA19
    have hx2_71 := hx2.gN hg7
    have hx2_72 := hx2_71.gN hg13
    have hx2_73 := hx2_72.gB hg14 (by omega)
    have hx2_74 := hx2_73.gN hg19
    refine sx_store hA69 rfl (.inl rfl) rfl (hA69.ev (i := 4) (v := .pointer (some ⟨B2, 0, none⟩))) (hA69.ev (i := 20) (v := .agg #[.slice none 0 0, .slice none 0 0])) hx2_74 (by kernel_rfl) rfl (by simp [Value.oneCell']) ?_
    intro w70 hx70 hg70
    have hs70 := hg70.size
    refine sx_val hA69 rfl (ev_assign (ec _ (.int .i64 9)) _ rfl) ?_
    intro a75 hA75; clear hA69
    refine sx_nil ?_
    refine then_n ?_
    refine wp_ret ?_
    refine then_r ?_
    refine bodyPost_ret (rs_ct (v := .int .i64 9) Try.results11 hA75 (by kernel_rfl) (by kernel_rfl) hx70 Try.underlying25 rfl (by kernel_rfl)) hA75.2.1 ?_
    rw [rff_ok ha hx (by omega), if_pos hd22]
    have hbel0_76 := Below.gN hbel0_9 hg7 hbel0_9.size
    have hbel0_77 := Below.gN hbel0_76 hg13 hbel0_76.size
    have hbel0_78 := Below.gB hbel0_77 hg14 hbel0_77.size (by omega)
    have hbel0_79 := Below.gN hbel0_78 hg19 hbel0_78.size
    have hbel0_80 := Below.gB hbel0_79 hg70 hbel0_79.size (by omega)
    exact RSl.nil rfl hbel0_80
  rw [hd22] at hA19
  refine wp_cond_false (hA19.ev (i := 19) (v := .bool false)) ?_
  refine wp_skip ?_
  refine then_n ?_
  refine wp_seq ?_
  refine wp_seq ?_
  refine wp_region_lit ?_
  refine sx_val (v := .pointer (some ⟨B13, 1, none⟩)) hA19 rfl (fb_book_1 (hA19.ev (i := 6) (v := .pointer (some ⟨B13, 0, none⟩))) _ rfl) ?_
  intro a23 hA23; clear hA19
  have hx14_24 := hx14.gN hg19
  refine sx_val (v := .map (some Mo7)) hA23 rfl (ev_cell (v := .map (some Mo7)) (hA23.ev (i := 21) (v := .pointer (some ⟨B13, 1, none⟩))) ((hx14_24.cell 1).trans rfl) Try.underlying51 rfl _ rfl) ?_
  intro a25 hA25; clear hA23
  refine sx_val hA25 rfl (ev_move (hA25.ev (i := 1) (v := .int .i64 (k : Int))) _ rfl) ?_
  intro a26 hA26; clear hA25
  have hmMo7_27 := hmMo7_21.gN hg19
  refine sx_val (v := .int .i64 x) hA26 rfl (ev_look mk_int hmMo7_27 Try.underlying51 (by kernel_rfl) (k := (k : Int)) (r := .int .i64 x) (hA26.ev (i := 22) (v := .map (some Mo7))) (hA26.ev (i := 23) (v := .int .i64 (k : Int))) (look_at hx) _ rfl) ?_
  intro a28 hA28; clear hA26
  cases hd29 : decide (512 ≤ x)
  rotate_left
  · have hp29 := of_decide_eq_true hd29
    refine sx_val (v := .bool true) hA28 rfl (ev_geqB (k := .i64) (m := x) (n := 512) (hA28.ev (i := 24)) (ec _ (.int .i64 512)) hd29 _ rfl) ?_
    intro a56 hA56; clear hA28
    refine sx_nil ?_
    refine then_n ?_
    refine wp_cond_true (hA56.ev (i := 25) (v := .bool true)) ?_
    refine wp_seq ?_
    refine wp_region_lit ?_
    refine sx_val (v := .agg #[.slice none 0 0, .slice none 0 0]) hA56 rfl (bd0_Slots _ rfl) ?_
    intro a57 hA57; clear hA56
    have hx2_59 := hx2.gN hg7
    have hx2_60 := hx2_59.gN hg13
    have hx2_61 := hx2_60.gB hg14 (by omega)
    have hx2_62 := hx2_61.gN hg19
    refine sx_store hA57 rfl (.inl rfl) rfl (hA57.ev (i := 4) (v := .pointer (some ⟨B2, 0, none⟩))) (hA57.ev (i := 26) (v := .agg #[.slice none 0 0, .slice none 0 0])) hx2_62 (by kernel_rfl) rfl (by simp [Value.oneCell']) ?_
    intro w58 hx58 hg58
    have hs58 := hg58.size
    refine sx_val hA57 rfl (ev_assign (ec _ (.int .i64 15)) _ rfl) ?_
    intro a63 hA63; clear hA57
    refine sx_nil ?_
    refine then_n ?_
    refine wp_ret ?_
    refine then_r ?_
    refine bodyPost_ret (rs_ct (v := .int .i64 15) Try.results11 hA63 (by kernel_rfl) (by kernel_rfl) hx58 Try.underlying25 rfl (by kernel_rfl)) hA63.2.1 ?_
    rw [rff_ok ha hx (by omega), if_neg (by rw [hd22]; decide), if_pos hp29]
    have hbel0_64 := Below.gN hbel0_9 hg7 hbel0_9.size
    have hbel0_65 := Below.gN hbel0_64 hg13 hbel0_64.size
    have hbel0_66 := Below.gB hbel0_65 hg14 hbel0_65.size (by omega)
    have hbel0_67 := Below.gN hbel0_66 hg19 hbel0_66.size
    have hbel0_68 := Below.gB hbel0_67 hg58 hbel0_67.size (by omega)
    exact RSl.nil rfl hbel0_68
  have hp29 := of_decide_eq_false hd29
  refine sx_val (v := .bool false) hA28 rfl (ev_geqB (k := .i64) (m := x) (n := 512) (hA28.ev (i := 24)) (ec _ (.int .i64 512)) hd29 _ rfl) ?_
  intro a30 hA30; clear hA28
  refine sx_nil ?_
  refine then_n ?_
  refine wp_cond_false (hA30.ev (i := 25) (v := .bool false)) ?_
  refine wp_skip ?_
  refine then_n ?_
  refine wp_seq ?_
  refine wp_region_lit ?_
  refine sx_val (v := .pointer (some ⟨B13, 1, none⟩)) hA30 rfl (fb_book_1 (hA30.ev (i := 6) (v := .pointer (some ⟨B13, 0, none⟩))) _ rfl) ?_
  intro a31 hA31; clear hA30
  refine sx_val (v := .map (some Mo7)) hA31 rfl (ev_cell (v := .map (some Mo7)) (hA31.ev (i := 27) (v := .pointer (some ⟨B13, 1, none⟩))) ((hx14_24.cell 1).trans rfl) Try.underlying51 rfl _ rfl) ?_
  intro a32 hA32; clear hA31
  refine sx_val hA32 rfl (ev_move (hA32.ev (i := 1) (v := .int .i64 (k : Int))) _ rfl) ?_
  intro a33 hA33; clear hA32
  refine sx_val (v := .int .i64 x) hA33 rfl (ev_look mk_int hmMo7_27 Try.underlying51 (by kernel_rfl) (k := (k : Int)) (r := .int .i64 x) (hA33.ev (i := 28) (v := .map (some Mo7))) (hA33.ev (i := 29) (v := .int .i64 (k : Int))) (look_at hx) _ rfl) ?_
  intro a34 hA34; clear hA33
  refine sx_val (v := .int .i64 (x + 1)) hA34 rfl (ev_addR (k := .i64) (m := x) (n := 1) (r := x + 1) (hA34.ev (i := 30)) (ec _ (.int .i64 1)) (wr (by omega) (by omega) (by omega)) _ rfl) ?_
  intro a35 hA35; clear hA34
  refine sx_upd mk_int (k := (k : Int)) (v := (x + 1)) hA35 rfl (.inl rfl) rfl Try.underlying51 hmMo7_27 (hA35.ev (i := 28) (v := .map (some Mo7))) (hA35.ev (i := 29) (v := .int .i64 (k : Int))) (hA35.ev (i := 31) (v := .int .i64 (x + 1))) ?_
  intro w36 hm36 hg36
  have hs36 := hg36.size
  replace hm36 := Mp.congr' hm36 (opf_set (by omega) (by omega))
  refine sx_nil ?_
  refine then_n ?_
  refine wp_seq ?_
  refine wp_region_lit ?_
  have hx14_38 := hx14_24.gB hg36 (by omega)
  refine sx_call (f := 38) (args := #[.pointer (some ⟨B13, 0, none⟩)]) hA35 rfl (by decide) (.inl rfl) (ev_fn rfl (mp1 (hA35.ev (i := 6) (v := .pointer (some ⟨B13, 0, none⟩)))) (by kernel_rfl) _ rfl) (slots_any _ B13 Mo7 rs.length (rs.set k (x + 1)) bs ⟨hx14_38, hm36⟩ (by omega) (by omega) (by first | omega | (rw [List.length_set] <;> omega)) (by first | omega | (rw [List.length_set] <;> omega))) ?_
  intro e37 w37 hR37
  obtain ⟨Ap37, cp37, Aj37, cj37, rfl, hC37, hJ37, hb37⟩ := hR37
  refine ⟨_, rfl, ?_⟩
  intro a37 hA37
  clear hA35
  have hg37 := g0 hb37
  have hs37 := hg37.size
  clear hb37
  have ho37_0 : Own w37 (w36.heap.size) 3 1 (.slice Ap37 (rs.set k (x + 1)).length cp37) (rs.set k (x + 1)).length (flat iva (rs.set k (x + 1))) := hC37
  have hh37_0 := Own.hi ho37_0
  have ho37_1 : Own w37 (w36.heap.size) 4 1 (.slice Aj37 bs.length cj37) bs.length (flat bva bs) := hJ37
  have hh37_1 := Own.hi ho37_1
  have hx2_40 := hx2.gN hg7
  have hx2_41 := hx2_40.gN hg13
  have hx2_42 := hx2_41.gB hg14 (by omega)
  have hx2_43 := hx2_42.gN hg19
  have hx2_44 := hx2_43.gB hg36 (by omega)
  have hx2_45 := hx2_44.gN hg37
  refine sx_store hA37 rfl (.inl rfl) rfl (hA37.ev (i := 4) (v := .pointer (some ⟨B2, 0, none⟩))) (hA37.ev (i := 32) (v := .agg #[.slice Ap37 (rs.set k (x + 1)).length cp37, .slice Aj37 bs.length cj37])) hx2_45 (by kernel_rfl) rfl (by simp [Value.oneCell']) ?_
  intro w39 hx39 hg39
  have hs39 := hg39.size
  refine sx_val hA37 rfl (ev_assign (ec _ (.int .i64 0)) _ rfl) ?_
  intro a46 hA46; clear hA37
  refine sx_nil ?_
  refine then_n ?_
  refine wp_ret ?_
  refine bodyPost_ret (rs_ct (v := .int .i64 0) Try.results11 hA46 (by kernel_rfl) (by kernel_rfl) hx39 Try.underlying25 rfl (by kernel_rfl)) hA46.2.1 ?_
  rw [rff_ok ha hx (by omega), if_neg (by rw [hd22]; decide), if_neg hp29]
  have ho37_47 := Own.gBT ho37_0 hg39 hx2_45 (by decide)
  have ho37_48 := Own.gBT ho37_1 hg39 hx2_45 (by decide)
  have hbel0_49 := Below.gN hbel0_9 hg7 hbel0_9.size
  have hbel0_50 := Below.gN hbel0_49 hg13 hbel0_49.size
  have hbel0_51 := Below.gB hbel0_50 hg14 hbel0_50.size (by omega)
  have hbel0_52 := Below.gN hbel0_51 hg19 hbel0_51.size
  have hbel0_53 := Below.gB hbel0_52 hg36 hbel0_52.size (by omega)
  have hbel0_54 := Below.gN hbel0_53 hg37 hbel0_53.size
  have hbel0_55 := Below.gB hbel0_54 hg39 hbel0_54.size (by omega)
  exact ⟨_, _, _, _, rfl, Own.mono ho37_47 (by omega), Own.mono ho37_48 (by omega), hbel0_55⟩

theorem Ref_any (A1 : Option Addr) (c1 : Nat) (A2 : Option Addr) (c2 : Nat) (rs : List Int) (bs : List Bool) (k : Int) (w : World) (hs : GS w A1 c1 A2 c2 rs bs) (hl : rs.length ≤ 900000) (hb : bs.length ≤ 900000) : Calls Try.prog 11 #[.agg #[.slice A1 rs.length c1, .slice A2 bs.length c2], .int .i64 k] w (RSl w (rff ⟨rs, bs⟩ k).1 fun v => .tuple #[v, .int .i64 (rff ⟨rs, bs⟩ k).2]) := by
  by_cases ha : ask ⟨rs, bs⟩ k = 0
  · obtain ⟨kn, rfl, _, _⟩ := ask_of ha
    exact Ref_ok1 A1 c1 A2 c2 rs bs kn w hs ha
  · exact Ref_bad A1 c1 A2 c2 rs bs k w hs hl hb ha

set_option maxHeartbeats 4000000 in
theorem Unref_bad (A1 : Option Addr) (c1 : Nat) (A2 : Option Addr) (c2 : Nat) (rs : List Int) (bs : List Bool) (k : Int) (w : World) (hs : GS w A1 c1 A2 c2 rs bs) (hl : rs.length ≤ 900000) (hb : bs.length ≤ 900000) (ha : ask ⟨rs, bs⟩ k ≠ 0) : Calls Try.prog 14 #[.agg #[.slice A1 rs.length c1, .slice A2 bs.length c2], .int .i64 k] w (RSl w (unr ⟨rs, bs⟩ k).1 fun v => .tuple #[v, .bool (unr ⟨rs, bs⟩ k).2.1, .int .i64 (unr ⟨rs, bs⟩ k).2.2]) := by
  have hbel0 := below0 w
  refine sx_enter (N := 41) [(0, .agg #[.slice A1 rs.length c1, .slice A2 bs.length c2]), (1, .int .i64 k)] Try.func14 rfl Try.ntmps14 (by simp) (fun a z d s => (((Ag.nil z d).cons (s 1 _ rfl)).cons (s 0 _ rfl))) ?_
  intro a0 hA0
  refine wp_seq ?_
  refine wp_region_lit ?_
  refine sx_new (cs := #[.slice A1 rs.length c1, .slice A2 bs.length c2]) (t := 25) hA0 rfl (by decide) (.inl rfl) (ev_box (hA0.ev (i := 0) (v := .agg #[.slice A1 rs.length c1, .slice A2 bs.length c2])) rfl _ rfl) ?_
  intro B1 w1 a1 hB1 hx1 hg1 hA1
  clear hA0
  have hs1 := hg1.size
  have hl1 := hx1.lt
  refine sx_new (cs := #[.slice none 0 0, .slice none 0 0]) (t := 25) hA1 rfl (by decide) (.inl rfl) (ev_alloc (z := .agg (#[.slice none 0 0, .slice none 0 0])) (by kernel_rfl) (by kernel_rfl) _ rfl) ?_
  intro B2 w2 a2 hB2 hx2 hg2 hA2
  clear hA1
  have hs2 := hg2.size
  have hl2 := hx2.lt
  refine sx_val hA2 rfl (ev_assign (ec _ (.bool false)) _ rfl) ?_
  intro a3 hA3; clear hA2
  refine sx_val hA3 rfl (ev_assign (ec _ (.int .i64 0)) _ rfl) ?_
  intro a4 hA4; clear hA3
  refine sx_nil ?_
  refine then_n ?_
  refine wp_seq ?_
  refine wp_region_lit ?_
  have hx1_5 := hx1.gN hg2
  refine sx_val (v := .agg #[.slice A1 rs.length c1, .slice A2 bs.length c2]) hA4 rfl (ev_row (hA4.ev (i := 2) (v := .pointer (some ⟨B1, 0, none⟩))) hx1_5 Try.underlying25 rfl (n := 2) (by kernel_rfl) rfl _ rfl) ?_
  intro a6 hA6; clear hA4
  refine sx_val hA6 rfl (ev_move (hA6.ev (i := 1) (v := .int .i64 k)) _ rfl) ?_
  intro a7 hA7; clear hA6
  have hbel0_9 := Below.gN hbel0 hg1 hbel0.size
  have hbel0_10 := Below.gN hbel0_9 hg2 hbel0_9.size
  refine sx_call (f := 36) (args := #[.agg #[.slice A1 rs.length c1, .slice A2 bs.length c2], .int .i64 k]) hA7 rfl (by decide) (.inl rfl) (ev_fn rfl (mp2 (hA7.ev (i := 10) (v := .agg #[.slice A1 rs.length c1, .slice A2 bs.length c2])) (hA7.ev (i := 11) (v := .int .i64 k))) (by kernel_rfl) _ rfl) (at_bad A1 c1 A2 c2 rs bs k _ ⟨(hs.r.below hbel0_10), (hs.b.below hbel0_10)⟩ (by omega) (by omega) ha) ?_
  intro e8 w8 hR8
  obtain ⟨rfl, hb8⟩ := hR8
  refine ⟨_, rfl, ?_⟩
  intro a8 hA8
  clear hA7
  have hg8 := g0 hb8
  have hs8 := hg8.size
  clear hb8
  refine sx_val hA8 rfl (ev_move (hA8.ev (i := 12) (v := .tuple #[.agg #[.int .i64 0, .map none, .int .u64 0, .int .u64 0, .int .u64 0, .int .u64 0], .int .i64 (ask ⟨rs, bs⟩ k)])) _ rfl) ?_
  intro a11 hA11; clear hA8
  refine sx_val (v := .agg #[.int .i64 0, .map none, .int .u64 0, .int .u64 0, .int .u64 0, .int .u64 0]) hA11 rfl (ev_ext (hA11.ev (i := 9) (v := .tuple #[.agg #[.int .i64 0, .map none, .int .u64 0, .int .u64 0, .int .u64 0, .int .u64 0], .int .i64 (ask ⟨rs, bs⟩ k)])) rfl _ rfl) ?_
  intro a12 hA12; clear hA11
  refine sx_val (v := .int .i64 (ask ⟨rs, bs⟩ k)) hA12 rfl (ev_ext (hA12.ev (i := 9) (v := .tuple #[.agg #[.int .i64 0, .map none, .int .u64 0, .int .u64 0, .int .u64 0, .int .u64 0], .int .i64 (ask ⟨rs, bs⟩ k)])) rfl _ rfl) ?_
  intro a13 hA13; clear hA12
  refine sx_new (cs := #[.int .i64 0, .map none, .int .u64 0, .int .u64 0, .int .u64 0, .int .u64 0]) (t := 56) hA13 rfl (by decide) (.inl rfl) (ev_alloc (z := .agg (#[.int .i64 0, .map none, .int .u64 0, .int .u64 0, .int .u64 0, .int .u64 0])) (by kernel_rfl) (by kernel_rfl) _ rfl) ?_
  intro B14 w14 a14 hB14 hx14 hg14 hA14
  clear hA13
  have hs14 := hg14.size
  have hl14 := hx14.lt
  refine sx_store hA14 rfl (.inl rfl) rfl (hA14.ev (i := 7) (v := .pointer (some ⟨B14, 0, none⟩))) (hA14.ev (i := 13) (v := .agg #[.int .i64 0, .map none, .int .u64 0, .int .u64 0, .int .u64 0, .int .u64 0])) hx14 (by kernel_rfl) rfl (by simp [Value.oneCell']) ?_
  intro w15 hx15 hg15
  have hs15 := hg15.size
  refine sx_val hA14 rfl (ev_assign (hA14.ev (i := 14) (v := .int .i64 (ask ⟨rs, bs⟩ k))) _ rfl) ?_
  intro a16 hA16; clear hA14
  refine sx_nil ?_
  refine then_n ?_
  refine wp_seq ?_
  refine wp_seq ?_
  refine wp_region_lit ?_
  refine sx_val hA16 rfl (ev_move (hA16.ev (i := 8) (v := .int .i64 (ask ⟨rs, bs⟩ k))) _ rfl) ?_
  intro a17 hA17; clear hA16
  refine sx_val (v := .bool true) hA17 rfl (ev_neqB (k := .i64) (m := (ask ⟨rs, bs⟩ k)) (n := 0) (hA17.ev (i := 15)) (ec _ (.int .i64 0)) (by simpa using (decide_eq_false ha)) _ rfl) ?_
  intro a18 hA18; clear hA17
  refine sx_nil ?_
  refine then_n ?_
  refine wp_cond_true (hA18.ev (i := 16) (v := .bool true)) ?_
  refine wp_seq ?_
  refine wp_region_lit ?_
  refine sx_val (v := .agg #[.slice none 0 0, .slice none 0 0]) hA18 rfl (bd0_Slots _ rfl) ?_
  intro a19 hA19; clear hA18
  refine sx_val hA19 rfl (ev_move (hA19.ev (i := 8) (v := .int .i64 (ask ⟨rs, bs⟩ k))) _ rfl) ?_
  intro a20 hA20; clear hA19
  have hx2_22 := hx2.gN hg8
  have hx2_23 := hx2_22.gN hg14
  have hx2_24 := hx2_23.gB hg15 (by omega)
  refine sx_store hA20 rfl (.inl rfl) rfl (hA20.ev (i := 4) (v := .pointer (some ⟨B2, 0, none⟩))) (hA20.ev (i := 17) (v := .agg #[.slice none 0 0, .slice none 0 0])) hx2_24 (by kernel_rfl) rfl (by simp [Value.oneCell']) ?_
  intro w21 hx21 hg21
  have hs21 := hg21.size
  refine sx_val hA20 rfl (ev_assign (ec _ (.bool false)) _ rfl) ?_
  intro a25 hA25; clear hA20
  refine sx_val hA25 rfl (ev_assign (hA25.ev (i := 18) (v := .int .i64 (ask ⟨rs, bs⟩ k))) _ rfl) ?_
  intro a26 hA26; clear hA25
  refine sx_nil ?_
  refine then_n ?_
  refine wp_ret ?_
  refine then_r ?_
  refine bodyPost_ret (rs_ctt (v := .bool false) (v2 := .int .i64 (ask ⟨rs, bs⟩ k)) Try.results14 hA26 (by kernel_rfl) (by kernel_rfl) (by kernel_rfl) hx21 Try.underlying25 rfl (by kernel_rfl)) hA26.2.1 ?_
  rw [show unr ⟨rs, bs⟩ k = (Ss.nil, false, ask ⟨rs, bs⟩ k) from if_pos ha]
  have hbel0_27 := Below.gN hbel0_10 hg8 hbel0_10.size
  have hbel0_28 := Below.gN hbel0_27 hg14 hbel0_27.size
  have hbel0_29 := Below.gB hbel0_28 hg15 hbel0_28.size (by omega)
  have hbel0_30 := Below.gB hbel0_29 hg21 hbel0_29.size (by omega)
  exact RSl.nil rfl hbel0_30

set_option maxHeartbeats 4000000 in
theorem Unref_ok1 (A1 : Option Addr) (c1 : Nat) (A2 : Option Addr) (c2 : Nat) (rs : List Int) (bs : List Bool) (k : Nat) (w : World) (hs : GS w A1 c1 A2 c2 rs bs) (ha : ask ⟨rs, bs⟩ (k : Int) = 0) : Calls Try.prog 14 #[.agg #[.slice A1 rs.length c1, .slice A2 bs.length c2], .int .i64 (k : Int)] w (RSl w (unr ⟨rs, bs⟩ (k : Int)).1 fun v => .tuple #[v, .bool (unr ⟨rs, bs⟩ (k : Int)).2.1, .int .i64 (unr ⟨rs, bs⟩ (k : Int)).2.2]) := by
  have hq := ask_zero ha
  have hkr : k < rs.length := by have := hq.2.2; simp only at this; omega
  have hok := (chs_ok hq.1).2
  have hrl : rs.length ≤ 256 := hok.hi
  have hr1 : 1 ≤ rs.length := hok.lo
  have hbl : bs.length = rs.length := hok.len
  obtain ⟨x, hx⟩ : ∃ x, rs[k]? = some x := ⟨_, List.getElem?_eq_getElem hkr⟩
  have hxv : 0 ≤ x ∧ x ≤ 512 := hok.val k x hx
  have hbel0 := below0 w
  refine sx_enter (N := 41) [(0, .agg #[.slice A1 rs.length c1, .slice A2 bs.length c2]), (1, .int .i64 (k : Int))] Try.func14 rfl Try.ntmps14 (by simp) (fun a z d s => (((Ag.nil z d).cons (s 1 _ rfl)).cons (s 0 _ rfl))) ?_
  intro a0 hA0
  refine wp_seq ?_
  refine wp_region_lit ?_
  refine sx_new (cs := #[.slice A1 rs.length c1, .slice A2 bs.length c2]) (t := 25) hA0 rfl (by decide) (.inl rfl) (ev_box (hA0.ev (i := 0) (v := .agg #[.slice A1 rs.length c1, .slice A2 bs.length c2])) rfl _ rfl) ?_
  intro B1 w1 a1 hB1 hx1 hg1 hA1
  clear hA0
  have hs1 := hg1.size
  have hl1 := hx1.lt
  refine sx_new (cs := #[.slice none 0 0, .slice none 0 0]) (t := 25) hA1 rfl (by decide) (.inl rfl) (ev_alloc (z := .agg (#[.slice none 0 0, .slice none 0 0])) (by kernel_rfl) (by kernel_rfl) _ rfl) ?_
  intro B2 w2 a2 hB2 hx2 hg2 hA2
  clear hA1
  have hs2 := hg2.size
  have hl2 := hx2.lt
  refine sx_val hA2 rfl (ev_assign (ec _ (.bool false)) _ rfl) ?_
  intro a3 hA3; clear hA2
  refine sx_val hA3 rfl (ev_assign (ec _ (.int .i64 0)) _ rfl) ?_
  intro a4 hA4; clear hA3
  refine sx_nil ?_
  refine then_n ?_
  refine wp_seq ?_
  refine wp_region_lit ?_
  have hx1_5 := hx1.gN hg2
  refine sx_val (v := .agg #[.slice A1 rs.length c1, .slice A2 bs.length c2]) hA4 rfl (ev_row (hA4.ev (i := 2) (v := .pointer (some ⟨B1, 0, none⟩))) hx1_5 Try.underlying25 rfl (n := 2) (by kernel_rfl) rfl _ rfl) ?_
  intro a6 hA6; clear hA4
  refine sx_val hA6 rfl (ev_move (hA6.ev (i := 1) (v := .int .i64 (k : Int))) _ rfl) ?_
  intro a7 hA7; clear hA6
  have hbel0_9 := Below.gN hbel0 hg1 hbel0.size
  have hbel0_10 := Below.gN hbel0_9 hg2 hbel0_9.size
  refine sx_call (f := 36) (args := #[.agg #[.slice A1 rs.length c1, .slice A2 bs.length c2], .int .i64 (k : Int)]) hA7 rfl (by decide) (.inl rfl) (ev_fn rfl (mp2 (hA7.ev (i := 10) (v := .agg #[.slice A1 rs.length c1, .slice A2 bs.length c2])) (hA7.ev (i := 11) (v := .int .i64 (k : Int)))) (by kernel_rfl) _ rfl) (at_ok A1 c1 A2 c2 rs bs (k : Int) _ ⟨(hs.r.below hbel0_10), (hs.b.below hbel0_10)⟩ ha) ?_
  intro e8 w8 hR8
  obtain ⟨Mo8, rfl, hmp8, hle8, hb8⟩ := hR8
  refine ⟨_, rfl, ?_⟩
  intro a8 hA8
  clear hA7
  have hg8 := g0 hb8
  have hs8 := hg8.size
  clear hb8
  have hmMo8 := hmp8
  have hlMo8 := hmMo8.lt
  have hqMo8 := hle8
  refine sx_val hA8 rfl (ev_move (hA8.ev (i := 12) (v := .tuple #[.agg (bkr rs.length Mo8 (opm bs)), .int .i64 0])) _ rfl) ?_
  intro a11 hA11; clear hA8
  refine sx_val (v := .agg (bkr rs.length Mo8 (opm bs))) hA11 rfl (ev_ext (hA11.ev (i := 9) (v := .tuple #[.agg (bkr rs.length Mo8 (opm bs)), .int .i64 0])) rfl _ rfl) ?_
  intro a12 hA12; clear hA11
  refine sx_val (v := .int .i64 0) hA12 rfl (ev_ext (hA12.ev (i := 9) (v := .tuple #[.agg (bkr rs.length Mo8 (opm bs)), .int .i64 0])) rfl _ rfl) ?_
  intro a13 hA13; clear hA12
  refine sx_new (cs := #[.int .i64 0, .map none, .int .u64 0, .int .u64 0, .int .u64 0, .int .u64 0]) (t := 56) hA13 rfl (by decide) (.inl rfl) (ev_alloc (z := .agg (#[.int .i64 0, .map none, .int .u64 0, .int .u64 0, .int .u64 0, .int .u64 0])) (by kernel_rfl) (by kernel_rfl) _ rfl) ?_
  intro B14 w14 a14 hB14 hx14 hg14 hA14
  clear hA13
  have hs14 := hg14.size
  have hl14 := hx14.lt
  refine sx_store hA14 rfl (.inl rfl) rfl (hA14.ev (i := 7) (v := .pointer (some ⟨B14, 0, none⟩))) (hA14.ev (i := 13) (v := .agg (bkr rs.length Mo8 (opm bs)))) hx14 (by kernel_rfl) rfl (bkr_one _ _ _) ?_
  intro w15 hx15 hg15
  have hs15 := hg15.size
  refine sx_val hA14 rfl (ev_assign (hA14.ev (i := 14) (v := .int .i64 0)) _ rfl) ?_
  intro a16 hA16; clear hA14
  refine sx_nil ?_
  refine then_n ?_
  refine wp_seq ?_
  refine wp_seq ?_
  refine wp_region_lit ?_
  refine sx_val hA16 rfl (ev_move (hA16.ev (i := 8) (v := .int .i64 0)) _ rfl) ?_
  intro a17 hA17; clear hA16
  refine sx_val (v := .bool false) hA17 rfl (ev_neqB (k := .i64) (m := 0) (n := 0) (hA17.ev (i := 15)) (ec _ (.int .i64 0)) (by decide) _ rfl) ?_
  intro a18 hA18; clear hA17
  refine sx_nil ?_
  refine then_n ?_
  refine wp_cond_false (hA18.ev (i := 16) (v := .bool false)) ?_
  refine wp_skip ?_
  refine then_n ?_
  refine wp_seq ?_
  refine wp_seq ?_
  refine wp_region_lit ?_
  refine sx_val (v := .pointer (some ⟨B14, 1, none⟩)) hA18 rfl (fb_book_1 (hA18.ev (i := 7) (v := .pointer (some ⟨B14, 0, none⟩))) _ rfl) ?_
  intro a19 hA19; clear hA18
  refine sx_val (v := .map (some Mo8)) hA19 rfl (ev_cell (v := .map (some Mo8)) (hA19.ev (i := 19) (v := .pointer (some ⟨B14, 1, none⟩))) ((hx15.cell 1).trans rfl) Try.underlying51 rfl _ rfl) ?_
  intro a20 hA20; clear hA19
  refine sx_val hA20 rfl (ev_move (hA20.ev (i := 1) (v := .int .i64 (k : Int))) _ rfl) ?_
  intro a21 hA21; clear hA20
  have hmMo8_22 := hmMo8.gN hg14
  have hmMo8_23 := hmMo8_22.gB hg15 (by omega)
  refine sx_val (v := .int .i64 x) hA21 rfl (ev_look mk_int hmMo8_23 Try.underlying51 (by kernel_rfl) (k := (k : Int)) (r := .int .i64 x) (hA21.ev (i := 20) (v := .map (some Mo8))) (hA21.ev (i := 21) (v := .int .i64 (k : Int))) (look_at hx) _ rfl) ?_
  intro a24 hA24; clear hA21
  cases hd25 : decide (x = 0)
  rotate_left
  · have hp25 := of_decide_eq_true hd25
    refine sx_val (v := .bool true) hA24 rfl (ev_eqlB (k := .i64) (m := x) (n := 0) (hA24.ev (i := 22)) (ec _ (.int .i64 0)) hd25 _ rfl) ?_
    intro a98 hA98; clear hA24
    refine sx_nil ?_
    refine then_n ?_
    refine wp_cond_true (hA98.ev (i := 23) (v := .bool true)) ?_
    refine wp_seq ?_
    refine wp_region_lit ?_
    refine sx_val (v := .agg #[.slice none 0 0, .slice none 0 0]) hA98 rfl (bd0_Slots _ rfl) ?_
    intro a99 hA99; clear hA98
    have hx2_101 := hx2.gN hg8
    have hx2_102 := hx2_101.gN hg14
    have hx2_103 := hx2_102.gB hg15 (by omega)
    refine sx_store hA99 rfl (.inl rfl) rfl (hA99.ev (i := 4) (v := .pointer (some ⟨B2, 0, none⟩))) (hA99.ev (i := 24) (v := .agg #[.slice none 0 0, .slice none 0 0])) hx2_103 (by kernel_rfl) rfl (by simp [Value.oneCell']) ?_
    intro w100 hx100 hg100
    have hs100 := hg100.size
    refine sx_val hA99 rfl (ev_assign (ec _ (.bool false)) _ rfl) ?_
    intro a104 hA104; clear hA99
    refine sx_val hA104 rfl (ev_assign (ec _ (.int .i64 15)) _ rfl) ?_
    intro a105 hA105; clear hA104
    refine sx_nil ?_
    refine then_n ?_
    refine wp_ret ?_
    refine then_r ?_
    refine bodyPost_ret (rs_ctt (v := .bool false) (v2 := .int .i64 15) Try.results14 hA105 (by kernel_rfl) (by kernel_rfl) (by kernel_rfl) hx100 Try.underlying25 rfl (by kernel_rfl)) hA105.2.1 ?_
    rw [unr_ok ha hx (by omega), if_pos hp25]
    have hbel0_106 := Below.gN hbel0_10 hg8 hbel0_10.size
    have hbel0_107 := Below.gN hbel0_106 hg14 hbel0_106.size
    have hbel0_108 := Below.gB hbel0_107 hg15 hbel0_107.size (by omega)
    have hbel0_109 := Below.gB hbel0_108 hg100 hbel0_108.size (by omega)
    exact RSl.nil rfl hbel0_109
  have hp25 := of_decide_eq_false hd25
  refine sx_val (v := .bool false) hA24 rfl (ev_eqlB (k := .i64) (m := x) (n := 0) (hA24.ev (i := 22)) (ec _ (.int .i64 0)) hd25 _ rfl) ?_
  intro a26 hA26; clear hA24
  refine sx_nil ?_
  refine then_n ?_
  refine wp_cond_false (hA26.ev (i := 23) (v := .bool false)) ?_
  refine wp_skip ?_
  refine then_n ?_
  refine wp_seq ?_
  refine wp_region_lit ?_
  refine sx_val (v := .pointer (some ⟨B14, 1, none⟩)) hA26 rfl (fb_book_1 (hA26.ev (i := 7) (v := .pointer (some ⟨B14, 0, none⟩))) _ rfl) ?_
  intro a27 hA27; clear hA26
  refine sx_val (v := .map (some Mo8)) hA27 rfl (ev_cell (v := .map (some Mo8)) (hA27.ev (i := 25) (v := .pointer (some ⟨B14, 1, none⟩))) ((hx15.cell 1).trans rfl) Try.underlying51 rfl _ rfl) ?_
  intro a28 hA28; clear hA27
  refine sx_val hA28 rfl (ev_move (hA28.ev (i := 1) (v := .int .i64 (k : Int))) _ rfl) ?_
  intro a29 hA29; clear hA28
  refine sx_val (v := .int .i64 x) hA29 rfl (ev_look mk_int hmMo8_23 Try.underlying51 (by kernel_rfl) (k := (k : Int)) (r := .int .i64 x) (hA29.ev (i := 26) (v := .map (some Mo8))) (hA29.ev (i := 27) (v := .int .i64 (k : Int))) (look_at hx) _ rfl) ?_
  intro a30 hA30; clear hA29
  refine sx_val (v := .int .i64 (x - 1)) hA30 rfl (ev_subR (k := .i64) (m := x) (n := 1) (r := x - 1) (hA30.ev (i := 28)) (ec _ (.int .i64 1)) (wr (by omega) (by omega) (by omega)) _ rfl) ?_
  intro a31 hA31; clear hA30
  refine sx_upd mk_int (k := (k : Int)) (v := (x - 1)) hA31 rfl (.inl rfl) rfl Try.underlying51 hmMo8_23 (hA31.ev (i := 26) (v := .map (some Mo8))) (hA31.ev (i := 27) (v := .int .i64 (k : Int))) (hA31.ev (i := 29) (v := .int .i64 (x - 1))) ?_
  intro w32 hm32 hg32
  have hs32 := hg32.size
  refine sx_nil ?_
  refine then_n ?_
  refine wp_seq ?_
  refine wp_seq ?_
  refine wp_region_lit ?_
  refine sx_val (v := .pointer (some ⟨B14, 1, none⟩)) hA31 rfl (fb_book_1 (hA31.ev (i := 7) (v := .pointer (some ⟨B14, 0, none⟩))) _ rfl) ?_
  intro a33 hA33; clear hA31
  have hx15_34 := hx15.gB hg32 (by omega)
  refine sx_val (v := .map (some Mo8)) hA33 rfl (ev_cell (v := .map (some Mo8)) (hA33.ev (i := 30) (v := .pointer (some ⟨B14, 1, none⟩))) ((hx15_34.cell 1).trans rfl) Try.underlying51 rfl _ rfl) ?_
  intro a35 hA35; clear hA33
  refine sx_val hA35 rfl (ev_move (hA35.ev (i := 1) (v := .int .i64 (k : Int))) _ rfl) ?_
  intro a36 hA36; clear hA35
  refine sx_val (v := .int .i64 (x - 1)) hA36 rfl (ev_look mk_int hm32 Try.underlying51 (by kernel_rfl) (k := (k : Int)) (r := .int .i64 (x - 1)) (hA36.ev (i := 31) (v := .map (some Mo8))) (hA36.ev (i := 32) (v := .int .i64 (k : Int))) (look_upd _ _ _) _ rfl) ?_
  intro a37 hA37; clear hA36
  cases hd38 : decide ((x - 1) = 0)
  · have hp38 := of_decide_eq_false hd38
    refine sx_val (v := .bool false) hA37 rfl (ev_eqlB (k := .i64) (m := (x - 1)) (n := 0) (hA37.ev (i := 33)) (ec _ (.int .i64 0)) hd38 _ rfl) ?_
    intro a39 hA39; clear hA37
    refine sx_nil ?_
    refine then_n ?_
    refine wp_cond_false (hA39.ev (i := 34) (v := .bool false)) ?_
    refine wp_skip ?_
    refine then_n ?_
    refine wp_seq ?_
    refine wp_region_lit ?_
    have hu40 := Mp.congr' hm32 (opf_set (k := k) (v := (x - 1)) (by omega) (by omega))
    refine sx_call (f := 38) (args := #[.pointer (some ⟨B14, 0, none⟩)]) hA39 rfl (by decide) (.inl rfl) (ev_fn rfl (mp1 (hA39.ev (i := 7) (v := .pointer (some ⟨B14, 0, none⟩)))) (by kernel_rfl) _ rfl) (slots_any _ B14 Mo8 rs.length (rs.set k (x - 1)) bs ⟨hx15_34, hu40⟩ (by omega) (by omega) (by first | omega | (rw [List.length_set] <;> omega)) (by first | omega | (rw [List.length_set] <;> omega))) ?_
    intro e40 w40 hR40
    obtain ⟨Ap40, cp40, Aj40, cj40, rfl, hC40, hJ40, hb40⟩ := hR40
    refine ⟨_, rfl, ?_⟩
    intro a40 hA40
    clear hA39
    have hg40 := g0 hb40
    have hs40 := hg40.size
    clear hb40
    have ho40_0 : Own w40 (w32.heap.size) 3 1 (.slice Ap40 (rs.set k (x - 1)).length cp40) (rs.set k (x - 1)).length (flat iva (rs.set k (x - 1))) := hC40
    have hh40_0 := Own.hi ho40_0
    have ho40_1 : Own w40 (w32.heap.size) 4 1 (.slice Aj40 bs.length cj40) bs.length (flat bva bs) := hJ40
    have hh40_1 := Own.hi ho40_1
    refine sx_val hA40 rfl (ev_move (hA40.ev (i := 1) (v := .int .i64 (k : Int))) _ rfl) ?_
    intro a41 hA41; clear hA40
    have hx15_43 := hx15_34.gN hg40
    have hu40_44 := hu40.gN hg40
    refine sx_call (f := 37) (args := #[.pointer (some ⟨B14, 0, none⟩), .int .i64 (k : Int)]) hA41 rfl (by decide) (.inl rfl) (ev_fn rfl (mp2 (hA41.ev (i := 7) (v := .pointer (some ⟨B14, 0, none⟩))) (hA41.ev (i := 39) (v := .int .i64 (k : Int)))) (by kernel_rfl) _ rfl) (bfree_any _ B14 Mo8 rs.length (rs.set k (x - 1)) bs ⟨hx15_43, hu40_44⟩ k (by omega)) ?_
    intro e42 w42 hR42
    obtain ⟨rfl, hb42⟩ := hR42
    refine ⟨_, rfl, ?_⟩
    intro a42 hA42
    clear hA41
    have hg42 := g0 hb42
    have hs42 := hg42.size
    clear hb42
    have hx2_46 := hx2.gN hg8
    have hx2_47 := hx2_46.gN hg14
    have hx2_48 := hx2_47.gB hg15 (by omega)
    have hx2_49 := hx2_48.gB hg32 (by omega)
    have hx2_50 := hx2_49.gN hg40
    have hx2_51 := hx2_50.gN hg42
    refine sx_store hA42 rfl (.inl rfl) rfl (hA42.ev (i := 4) (v := .pointer (some ⟨B2, 0, none⟩))) (hA42.ev (i := 38) (v := .agg #[.slice Ap40 (rs.set k (x - 1)).length cp40, .slice Aj40 bs.length cj40])) hx2_51 (by kernel_rfl) rfl (by simp [Value.oneCell']) ?_
    intro w45 hx45 hg45
    have hs45 := hg45.size
    refine sx_val hA42 rfl (ev_assign (hA42.ev (i := 40) (v := .bool (fre ⟨rs.set k (x - 1), bs⟩ k))) _ rfl) ?_
    intro a52 hA52; clear hA42
    refine sx_val hA52 rfl (ev_assign (ec _ (.int .i64 0)) _ rfl) ?_
    intro a53 hA53; clear hA52
    refine sx_nil ?_
    refine then_n ?_
    refine wp_ret ?_
    refine bodyPost_ret (rs_ctt (v := .bool (fre ⟨rs.set k (x - 1), bs⟩ k)) (v2 := .int .i64 0) Try.results14 hA53 (by kernel_rfl) (by kernel_rfl) (by kernel_rfl) hx45 Try.underlying25 rfl (by kernel_rfl)) hA53.2.1 ?_
    rw [unr_ok ha hx (by omega), if_neg hp25]
    have ho40_54 := Own.gN ho40_0 hg42
    have ho40_55 := Own.gBT ho40_54 hg45 hx2_51 (by decide)
    have ho40_56 := Own.gN ho40_1 hg42
    have ho40_57 := Own.gBT ho40_56 hg45 hx2_51 (by decide)
    have hbel0_58 := Below.gN hbel0_10 hg8 hbel0_10.size
    have hbel0_59 := Below.gN hbel0_58 hg14 hbel0_58.size
    have hbel0_60 := Below.gB hbel0_59 hg15 hbel0_59.size (by omega)
    have hbel0_61 := Below.gB hbel0_60 hg32 hbel0_60.size (by omega)
    have hbel0_62 := Below.gN hbel0_61 hg40 hbel0_61.size
    have hbel0_63 := Below.gN hbel0_62 hg42 hbel0_62.size
    have hbel0_64 := Below.gB hbel0_63 hg45 hbel0_63.size (by omega)
    exact ⟨_, _, _, _, rfl, Own.mono ho40_55 (by omega), Own.mono ho40_57 (by omega), hbel0_64⟩
  have hp38 := of_decide_eq_true hd38
  refine sx_val (v := .bool true) hA37 rfl (ev_eqlB (k := .i64) (m := (x - 1)) (n := 0) (hA37.ev (i := 33)) (ec _ (.int .i64 0)) hd38 _ rfl) ?_
  intro a65 hA65; clear hA37
  refine sx_nil ?_
  refine then_n ?_
  refine wp_cond_true (hA65.ev (i := 34) (v := .bool true)) ?_
  refine wp_region_lit ?_
  refine sx_val (v := .pointer (some ⟨B14, 1, none⟩)) hA65 rfl (fb_book_1 (hA65.ev (i := 7) (v := .pointer (some ⟨B14, 0, none⟩))) _ rfl) ?_
  intro a66 hA66; clear hA65
  refine sx_val (v := .map (some Mo8)) hA66 rfl (ev_cell (v := .map (some Mo8)) (hA66.ev (i := 35) (v := .pointer (some ⟨B14, 1, none⟩))) ((hx15_34.cell 1).trans rfl) Try.underlying51 rfl _ rfl) ?_
  intro a67 hA67; clear hA66
  refine sx_val hA67 rfl (ev_move (hA67.ev (i := 1) (v := .int .i64 (k : Int))) _ rfl) ?_
  intro a68 hA68; clear hA67
  refine sx_del mk_int (k := (k : Int)) hA68 rfl (.inl rfl) rfl Try.underlying51 hm32 (hA68.ev (i := 36) (v := .map (some Mo8))) (hA68.ev (i := 37) (v := .int .i64 (k : Int))) ?_
  intro w69 hm69 hg69
  have hs69 := hg69.size
  replace hm69 := Mp.congr' hm69 (opf_unset (by omega) (by omega))
  refine sx_nil ?_
  refine then_n ?_
  refine wp_seq ?_
  refine wp_region_lit ?_
  have hx15_71 := hx15_34.gB hg69 (by omega)
  refine sx_call (f := 38) (args := #[.pointer (some ⟨B14, 0, none⟩)]) hA68 rfl (by decide) (.inl rfl) (ev_fn rfl (mp1 (hA68.ev (i := 7) (v := .pointer (some ⟨B14, 0, none⟩)))) (by kernel_rfl) _ rfl) (slots_any _ B14 Mo8 rs.length (rs.set k (x - 1)) bs ⟨hx15_71, hm69⟩ (by omega) (by omega) (by first | omega | (rw [List.length_set] <;> omega)) (by first | omega | (rw [List.length_set] <;> omega))) ?_
  intro e70 w70 hR70
  obtain ⟨Ap70, cp70, Aj70, cj70, rfl, hC70, hJ70, hb70⟩ := hR70
  refine ⟨_, rfl, ?_⟩
  intro a70 hA70
  clear hA68
  have hg70 := g0 hb70
  have hs70 := hg70.size
  clear hb70
  have ho70_0 : Own w70 (w69.heap.size) 3 1 (.slice Ap70 (rs.set k (x - 1)).length cp70) (rs.set k (x - 1)).length (flat iva (rs.set k (x - 1))) := hC70
  have hh70_0 := Own.hi ho70_0
  have ho70_1 : Own w70 (w69.heap.size) 4 1 (.slice Aj70 bs.length cj70) bs.length (flat bva bs) := hJ70
  have hh70_1 := Own.hi ho70_1
  refine sx_val hA70 rfl (ev_move (hA70.ev (i := 1) (v := .int .i64 (k : Int))) _ rfl) ?_
  intro a72 hA72; clear hA70
  have hx15_74 := hx15_71.gN hg70
  have hm69_75 := hm69.gN hg70
  refine sx_call (f := 37) (args := #[.pointer (some ⟨B14, 0, none⟩), .int .i64 (k : Int)]) hA72 rfl (by decide) (.inl rfl) (ev_fn rfl (mp2 (hA72.ev (i := 7) (v := .pointer (some ⟨B14, 0, none⟩))) (hA72.ev (i := 39) (v := .int .i64 (k : Int)))) (by kernel_rfl) _ rfl) (bfree_any _ B14 Mo8 rs.length (rs.set k (x - 1)) bs ⟨hx15_74, hm69_75⟩ k (by omega)) ?_
  intro e73 w73 hR73
  obtain ⟨rfl, hb73⟩ := hR73
  refine ⟨_, rfl, ?_⟩
  intro a73 hA73
  clear hA72
  have hg73 := g0 hb73
  have hs73 := hg73.size
  clear hb73
  have hx2_77 := hx2.gN hg8
  have hx2_78 := hx2_77.gN hg14
  have hx2_79 := hx2_78.gB hg15 (by omega)
  have hx2_80 := hx2_79.gB hg32 (by omega)
  have hx2_81 := hx2_80.gB hg69 (by omega)
  have hx2_82 := hx2_81.gN hg70
  have hx2_83 := hx2_82.gN hg73
  refine sx_store hA73 rfl (.inl rfl) rfl (hA73.ev (i := 4) (v := .pointer (some ⟨B2, 0, none⟩))) (hA73.ev (i := 38) (v := .agg #[.slice Ap70 (rs.set k (x - 1)).length cp70, .slice Aj70 bs.length cj70])) hx2_83 (by kernel_rfl) rfl (by simp [Value.oneCell']) ?_
  intro w76 hx76 hg76
  have hs76 := hg76.size
  refine sx_val hA73 rfl (ev_assign (hA73.ev (i := 40) (v := .bool (fre ⟨rs.set k (x - 1), bs⟩ k))) _ rfl) ?_
  intro a84 hA84; clear hA73
  refine sx_val hA84 rfl (ev_assign (ec _ (.int .i64 0)) _ rfl) ?_
  intro a85 hA85; clear hA84
  refine sx_nil ?_
  refine then_n ?_
  refine wp_ret ?_
  refine bodyPost_ret (rs_ctt (v := .bool (fre ⟨rs.set k (x - 1), bs⟩ k)) (v2 := .int .i64 0) Try.results14 hA85 (by kernel_rfl) (by kernel_rfl) (by kernel_rfl) hx76 Try.underlying25 rfl (by kernel_rfl)) hA85.2.1 ?_
  rw [unr_ok ha hx (by omega), if_neg hp25]
  have ho70_86 := Own.gN ho70_0 hg73
  have ho70_87 := Own.gBT ho70_86 hg76 hx2_83 (by decide)
  have ho70_88 := Own.gN ho70_1 hg73
  have ho70_89 := Own.gBT ho70_88 hg76 hx2_83 (by decide)
  have hbel0_90 := Below.gN hbel0_10 hg8 hbel0_10.size
  have hbel0_91 := Below.gN hbel0_90 hg14 hbel0_90.size
  have hbel0_92 := Below.gB hbel0_91 hg15 hbel0_91.size (by omega)
  have hbel0_93 := Below.gB hbel0_92 hg32 hbel0_92.size (by omega)
  have hbel0_94 := Below.gB hbel0_93 hg69 hbel0_93.size (by omega)
  have hbel0_95 := Below.gN hbel0_94 hg70 hbel0_94.size
  have hbel0_96 := Below.gN hbel0_95 hg73 hbel0_95.size
  have hbel0_97 := Below.gB hbel0_96 hg76 hbel0_96.size (by omega)
  exact ⟨_, _, _, _, rfl, Own.mono ho70_87 (by omega), Own.mono ho70_89 (by omega), hbel0_97⟩

theorem Unref_any (A1 : Option Addr) (c1 : Nat) (A2 : Option Addr) (c2 : Nat) (rs : List Int) (bs : List Bool) (k : Int) (w : World) (hs : GS w A1 c1 A2 c2 rs bs) (hl : rs.length ≤ 900000) (hb : bs.length ≤ 900000) : Calls Try.prog 14 #[.agg #[.slice A1 rs.length c1, .slice A2 bs.length c2], .int .i64 k] w (RSl w (unr ⟨rs, bs⟩ k).1 fun v => .tuple #[v, .bool (unr ⟨rs, bs⟩ k).2.1, .int .i64 (unr ⟨rs, bs⟩ k).2.2]) := by
  by_cases ha : ask ⟨rs, bs⟩ k = 0
  · obtain ⟨kn, rfl, _, _⟩ := ask_of ha
    exact Unref_ok1 A1 c1 A2 c2 rs bs kn w hs ha
  · exact Unref_bad A1 c1 A2 c2 rs bs k w hs hl hb ha

set_option maxHeartbeats 4000000 in
theorem Start_bad (A1 : Option Addr) (c1 : Nat) (A2 : Option Addr) (c2 : Nat) (rs : List Int) (bs : List Bool) (k : Int) (w : World) (hs : GS w A1 c1 A2 c2 rs bs) (hl : rs.length ≤ 900000) (hb : bs.length ≤ 900000) (ha : ask ⟨rs, bs⟩ k ≠ 0) : Calls Try.prog 16 #[.agg #[.slice A1 rs.length c1, .slice A2 bs.length c2], .int .i64 k] w (RSl w (sta ⟨rs, bs⟩ k).1 fun v => .tuple #[v, .int .i64 (sta ⟨rs, bs⟩ k).2]) := by
  have hbel0 := below0 w
  refine sx_enter (N := 32) [(0, .agg #[.slice A1 rs.length c1, .slice A2 bs.length c2]), (1, .int .i64 k)] Try.func16 rfl Try.ntmps16 (by simp) (fun a z d s => (((Ag.nil z d).cons (s 1 _ rfl)).cons (s 0 _ rfl))) ?_
  intro a0 hA0
  refine wp_seq ?_
  refine wp_region_lit ?_
  refine sx_new (cs := #[.slice A1 rs.length c1, .slice A2 bs.length c2]) (t := 25) hA0 rfl (by decide) (.inl rfl) (ev_box (hA0.ev (i := 0) (v := .agg #[.slice A1 rs.length c1, .slice A2 bs.length c2])) rfl _ rfl) ?_
  intro B1 w1 a1 hB1 hx1 hg1 hA1
  clear hA0
  have hs1 := hg1.size
  have hl1 := hx1.lt
  refine sx_new (cs := #[.slice none 0 0, .slice none 0 0]) (t := 25) hA1 rfl (by decide) (.inl rfl) (ev_alloc (z := .agg (#[.slice none 0 0, .slice none 0 0])) (by kernel_rfl) (by kernel_rfl) _ rfl) ?_
  intro B2 w2 a2 hB2 hx2 hg2 hA2
  clear hA1
  have hs2 := hg2.size
  have hl2 := hx2.lt
  refine sx_val hA2 rfl (ev_assign (ec _ (.int .i64 0)) _ rfl) ?_
  intro a3 hA3; clear hA2
  refine sx_nil ?_
  refine then_n ?_
  refine wp_seq ?_
  refine wp_region_lit ?_
  have hx1_4 := hx1.gN hg2
  refine sx_val (v := .agg #[.slice A1 rs.length c1, .slice A2 bs.length c2]) hA3 rfl (ev_row (hA3.ev (i := 2) (v := .pointer (some ⟨B1, 0, none⟩))) hx1_4 Try.underlying25 rfl (n := 2) (by kernel_rfl) rfl _ rfl) ?_
  intro a5 hA5; clear hA3
  refine sx_val hA5 rfl (ev_move (hA5.ev (i := 1) (v := .int .i64 k)) _ rfl) ?_
  intro a6 hA6; clear hA5
  have hbel0_8 := Below.gN hbel0 hg1 hbel0.size
  have hbel0_9 := Below.gN hbel0_8 hg2 hbel0_8.size
  refine sx_call (f := 36) (args := #[.agg #[.slice A1 rs.length c1, .slice A2 bs.length c2], .int .i64 k]) hA6 rfl (by decide) (.inl rfl) (ev_fn rfl (mp2 (hA6.ev (i := 9) (v := .agg #[.slice A1 rs.length c1, .slice A2 bs.length c2])) (hA6.ev (i := 10) (v := .int .i64 k))) (by kernel_rfl) _ rfl) (at_bad A1 c1 A2 c2 rs bs k _ ⟨(hs.r.below hbel0_9), (hs.b.below hbel0_9)⟩ (by omega) (by omega) ha) ?_
  intro e7 w7 hR7
  obtain ⟨rfl, hb7⟩ := hR7
  refine ⟨_, rfl, ?_⟩
  intro a7 hA7
  clear hA6
  have hg7 := g0 hb7
  have hs7 := hg7.size
  clear hb7
  refine sx_val hA7 rfl (ev_move (hA7.ev (i := 11) (v := .tuple #[.agg #[.int .i64 0, .map none, .int .u64 0, .int .u64 0, .int .u64 0, .int .u64 0], .int .i64 (ask ⟨rs, bs⟩ k)])) _ rfl) ?_
  intro a10 hA10; clear hA7
  refine sx_val (v := .agg #[.int .i64 0, .map none, .int .u64 0, .int .u64 0, .int .u64 0, .int .u64 0]) hA10 rfl (ev_ext (hA10.ev (i := 8) (v := .tuple #[.agg #[.int .i64 0, .map none, .int .u64 0, .int .u64 0, .int .u64 0, .int .u64 0], .int .i64 (ask ⟨rs, bs⟩ k)])) rfl _ rfl) ?_
  intro a11 hA11; clear hA10
  refine sx_val (v := .int .i64 (ask ⟨rs, bs⟩ k)) hA11 rfl (ev_ext (hA11.ev (i := 8) (v := .tuple #[.agg #[.int .i64 0, .map none, .int .u64 0, .int .u64 0, .int .u64 0, .int .u64 0], .int .i64 (ask ⟨rs, bs⟩ k)])) rfl _ rfl) ?_
  intro a12 hA12; clear hA11
  refine sx_new (cs := #[.int .i64 0, .map none, .int .u64 0, .int .u64 0, .int .u64 0, .int .u64 0]) (t := 56) hA12 rfl (by decide) (.inl rfl) (ev_alloc (z := .agg (#[.int .i64 0, .map none, .int .u64 0, .int .u64 0, .int .u64 0, .int .u64 0])) (by kernel_rfl) (by kernel_rfl) _ rfl) ?_
  intro B13 w13 a13 hB13 hx13 hg13 hA13
  clear hA12
  have hs13 := hg13.size
  have hl13 := hx13.lt
  refine sx_store hA13 rfl (.inl rfl) rfl (hA13.ev (i := 6) (v := .pointer (some ⟨B13, 0, none⟩))) (hA13.ev (i := 12) (v := .agg #[.int .i64 0, .map none, .int .u64 0, .int .u64 0, .int .u64 0, .int .u64 0])) hx13 (by kernel_rfl) rfl (by simp [Value.oneCell']) ?_
  intro w14 hx14 hg14
  have hs14 := hg14.size
  refine sx_val hA13 rfl (ev_assign (hA13.ev (i := 13) (v := .int .i64 (ask ⟨rs, bs⟩ k))) _ rfl) ?_
  intro a15 hA15; clear hA13
  refine sx_nil ?_
  refine then_n ?_
  refine wp_seq ?_
  refine wp_seq ?_
  refine wp_region_lit ?_
  refine sx_val hA15 rfl (ev_move (hA15.ev (i := 7) (v := .int .i64 (ask ⟨rs, bs⟩ k))) _ rfl) ?_
  intro a16 hA16; clear hA15
  refine sx_val (v := .bool true) hA16 rfl (ev_neqB (k := .i64) (m := (ask ⟨rs, bs⟩ k)) (n := 0) (hA16.ev (i := 14)) (ec _ (.int .i64 0)) (by simpa using (decide_eq_false ha)) _ rfl) ?_
  intro a17 hA17; clear hA16
  refine sx_nil ?_
  refine then_n ?_
  refine wp_cond_true (hA17.ev (i := 15) (v := .bool true)) ?_
  refine wp_seq ?_
  refine wp_region_lit ?_
  refine sx_val (v := .agg #[.slice none 0 0, .slice none 0 0]) hA17 rfl (bd0_Slots _ rfl) ?_
  intro a18 hA18; clear hA17
  refine sx_val hA18 rfl (ev_move (hA18.ev (i := 7) (v := .int .i64 (ask ⟨rs, bs⟩ k))) _ rfl) ?_
  intro a19 hA19; clear hA18
  have hx2_21 := hx2.gN hg7
  have hx2_22 := hx2_21.gN hg13
  have hx2_23 := hx2_22.gB hg14 (by omega)
  refine sx_store hA19 rfl (.inl rfl) rfl (hA19.ev (i := 4) (v := .pointer (some ⟨B2, 0, none⟩))) (hA19.ev (i := 16) (v := .agg #[.slice none 0 0, .slice none 0 0])) hx2_23 (by kernel_rfl) rfl (by simp [Value.oneCell']) ?_
  intro w20 hx20 hg20
  have hs20 := hg20.size
  refine sx_val hA19 rfl (ev_assign (hA19.ev (i := 17) (v := .int .i64 (ask ⟨rs, bs⟩ k))) _ rfl) ?_
  intro a24 hA24; clear hA19
  refine sx_nil ?_
  refine then_n ?_
  refine wp_ret ?_
  refine then_r ?_
  refine bodyPost_ret (rs_ct (v := .int .i64 (ask ⟨rs, bs⟩ k)) Try.results16 hA24 (by kernel_rfl) (by kernel_rfl) hx20 Try.underlying25 rfl (by kernel_rfl)) hA24.2.1 ?_
  rw [show sta ⟨rs, bs⟩ k = (Ss.nil, ask ⟨rs, bs⟩ k) from if_pos ha]
  have hbel0_25 := Below.gN hbel0_9 hg7 hbel0_9.size
  have hbel0_26 := Below.gN hbel0_25 hg13 hbel0_25.size
  have hbel0_27 := Below.gB hbel0_26 hg14 hbel0_26.size (by omega)
  have hbel0_28 := Below.gB hbel0_27 hg20 hbel0_27.size (by omega)
  exact RSl.nil rfl hbel0_28

set_option maxHeartbeats 4000000 in
theorem Start_ok1 (A1 : Option Addr) (c1 : Nat) (A2 : Option Addr) (c2 : Nat) (rs : List Int) (bs : List Bool) (k : Nat) (w : World) (hs : GS w A1 c1 A2 c2 rs bs) (ha : ask ⟨rs, bs⟩ (k : Int) = 0) : Calls Try.prog 16 #[.agg #[.slice A1 rs.length c1, .slice A2 bs.length c2], .int .i64 (k : Int)] w (RSl w (sta ⟨rs, bs⟩ (k : Int)).1 fun v => .tuple #[v, .int .i64 (sta ⟨rs, bs⟩ (k : Int)).2]) := by
  have hq := ask_zero ha
  have hkr : k < rs.length := by have := hq.2.2; simp only at this; omega
  have hok := (chs_ok hq.1).2
  have hrl : rs.length ≤ 256 := hok.hi
  have hr1 : 1 ≤ rs.length := hok.lo
  have hbl : bs.length = rs.length := hok.len
  obtain ⟨x, hx⟩ : ∃ x, rs[k]? = some x := ⟨_, List.getElem?_eq_getElem hkr⟩
  have hxv : 0 ≤ x ∧ x ≤ 512 := hok.val k x hx
  have hbel0 := below0 w
  refine sx_enter (N := 32) [(0, .agg #[.slice A1 rs.length c1, .slice A2 bs.length c2]), (1, .int .i64 (k : Int))] Try.func16 rfl Try.ntmps16 (by simp) (fun a z d s => (((Ag.nil z d).cons (s 1 _ rfl)).cons (s 0 _ rfl))) ?_
  intro a0 hA0
  refine wp_seq ?_
  refine wp_region_lit ?_
  refine sx_new (cs := #[.slice A1 rs.length c1, .slice A2 bs.length c2]) (t := 25) hA0 rfl (by decide) (.inl rfl) (ev_box (hA0.ev (i := 0) (v := .agg #[.slice A1 rs.length c1, .slice A2 bs.length c2])) rfl _ rfl) ?_
  intro B1 w1 a1 hB1 hx1 hg1 hA1
  clear hA0
  have hs1 := hg1.size
  have hl1 := hx1.lt
  refine sx_new (cs := #[.slice none 0 0, .slice none 0 0]) (t := 25) hA1 rfl (by decide) (.inl rfl) (ev_alloc (z := .agg (#[.slice none 0 0, .slice none 0 0])) (by kernel_rfl) (by kernel_rfl) _ rfl) ?_
  intro B2 w2 a2 hB2 hx2 hg2 hA2
  clear hA1
  have hs2 := hg2.size
  have hl2 := hx2.lt
  refine sx_val hA2 rfl (ev_assign (ec _ (.int .i64 0)) _ rfl) ?_
  intro a3 hA3; clear hA2
  refine sx_nil ?_
  refine then_n ?_
  refine wp_seq ?_
  refine wp_region_lit ?_
  have hx1_4 := hx1.gN hg2
  refine sx_val (v := .agg #[.slice A1 rs.length c1, .slice A2 bs.length c2]) hA3 rfl (ev_row (hA3.ev (i := 2) (v := .pointer (some ⟨B1, 0, none⟩))) hx1_4 Try.underlying25 rfl (n := 2) (by kernel_rfl) rfl _ rfl) ?_
  intro a5 hA5; clear hA3
  refine sx_val hA5 rfl (ev_move (hA5.ev (i := 1) (v := .int .i64 (k : Int))) _ rfl) ?_
  intro a6 hA6; clear hA5
  have hbel0_8 := Below.gN hbel0 hg1 hbel0.size
  have hbel0_9 := Below.gN hbel0_8 hg2 hbel0_8.size
  refine sx_call (f := 36) (args := #[.agg #[.slice A1 rs.length c1, .slice A2 bs.length c2], .int .i64 (k : Int)]) hA6 rfl (by decide) (.inl rfl) (ev_fn rfl (mp2 (hA6.ev (i := 9) (v := .agg #[.slice A1 rs.length c1, .slice A2 bs.length c2])) (hA6.ev (i := 10) (v := .int .i64 (k : Int)))) (by kernel_rfl) _ rfl) (at_ok A1 c1 A2 c2 rs bs (k : Int) _ ⟨(hs.r.below hbel0_9), (hs.b.below hbel0_9)⟩ ha) ?_
  intro e7 w7 hR7
  obtain ⟨Mo7, rfl, hmp7, hle7, hb7⟩ := hR7
  refine ⟨_, rfl, ?_⟩
  intro a7 hA7
  clear hA6
  have hg7 := g0 hb7
  have hs7 := hg7.size
  clear hb7
  have hmMo7 := hmp7
  have hlMo7 := hmMo7.lt
  have hqMo7 := hle7
  refine sx_val hA7 rfl (ev_move (hA7.ev (i := 11) (v := .tuple #[.agg (bkr rs.length Mo7 (opm bs)), .int .i64 0])) _ rfl) ?_
  intro a10 hA10; clear hA7
  refine sx_val (v := .agg (bkr rs.length Mo7 (opm bs))) hA10 rfl (ev_ext (hA10.ev (i := 8) (v := .tuple #[.agg (bkr rs.length Mo7 (opm bs)), .int .i64 0])) rfl _ rfl) ?_
  intro a11 hA11; clear hA10
  refine sx_val (v := .int .i64 0) hA11 rfl (ev_ext (hA11.ev (i := 8) (v := .tuple #[.agg (bkr rs.length Mo7 (opm bs)), .int .i64 0])) rfl _ rfl) ?_
  intro a12 hA12; clear hA11
  refine sx_new (cs := #[.int .i64 0, .map none, .int .u64 0, .int .u64 0, .int .u64 0, .int .u64 0]) (t := 56) hA12 rfl (by decide) (.inl rfl) (ev_alloc (z := .agg (#[.int .i64 0, .map none, .int .u64 0, .int .u64 0, .int .u64 0, .int .u64 0])) (by kernel_rfl) (by kernel_rfl) _ rfl) ?_
  intro B13 w13 a13 hB13 hx13 hg13 hA13
  clear hA12
  have hs13 := hg13.size
  have hl13 := hx13.lt
  refine sx_store hA13 rfl (.inl rfl) rfl (hA13.ev (i := 6) (v := .pointer (some ⟨B13, 0, none⟩))) (hA13.ev (i := 12) (v := .agg (bkr rs.length Mo7 (opm bs)))) hx13 (by kernel_rfl) rfl (bkr_one _ _ _) ?_
  intro w14 hx14 hg14
  have hs14 := hg14.size
  refine sx_val hA13 rfl (ev_assign (hA13.ev (i := 13) (v := .int .i64 0)) _ rfl) ?_
  intro a15 hA15; clear hA13
  refine sx_nil ?_
  refine then_n ?_
  refine wp_seq ?_
  refine wp_seq ?_
  refine wp_region_lit ?_
  refine sx_val hA15 rfl (ev_move (hA15.ev (i := 7) (v := .int .i64 0)) _ rfl) ?_
  intro a16 hA16; clear hA15
  refine sx_val (v := .bool false) hA16 rfl (ev_neqB (k := .i64) (m := 0) (n := 0) (hA16.ev (i := 14)) (ec _ (.int .i64 0)) (by decide) _ rfl) ?_
  intro a17 hA17; clear hA16
  refine sx_nil ?_
  refine then_n ?_
  refine wp_cond_false (hA17.ev (i := 15) (v := .bool false)) ?_
  refine wp_skip ?_
  refine then_n ?_
  refine wp_seq ?_
  refine wp_seq ?_
  refine wp_region_lit ?_
  refine sx_val (v := .pointer (some ⟨B13, 2, none⟩)) hA17 rfl (fb_book_2 (hA17.ev (i := 6) (v := .pointer (some ⟨B13, 0, none⟩))) _ rfl) ?_
  intro a18 hA18; clear hA17
  refine sx_val hA18 rfl (ev_move (hA18.ev (i := 1) (v := .int .i64 (k : Int))) _ rfl) ?_
  intro a19 hA19; clear hA18
  refine sx_call (f := 44) (args := #[.pointer (some ⟨B13, 2, none⟩), .int .i64 (k : Int)]) hA19 rfl (by decide) (.inl rfl) (ev_fn rfl (mp2 (hA19.ev (i := 18) (v := .pointer (some ⟨B13, 2, none⟩))) (hA19.ev (i := 19) (v := .int .i64 (k : Int)))) (by kernel_rfl) _ rfl) (has_bk B13 rs.length Mo7 (opm bs) k _ hx14 (by omega)) ?_
  intro e20 w20 hR20
  obtain ⟨rfl, hb20⟩ := hR20
  refine ⟨_, rfl, ?_⟩
  intro a20 hA20
  clear hA19
  have hg20 := g0 hb20
  have hs20 := hg20.size
  clear hb20
  refine sx_nil ?_
  refine then_n ?_
  cases hd21 : (opm bs k)
  rotate_left
  · rw [hd21] at hA20
    refine wp_cond_true (hA20.ev (i := 20) (v := .bool true)) ?_
    refine wp_seq ?_
    refine wp_region_lit ?_
    refine sx_val (v := .agg #[.slice none 0 0, .slice none 0 0]) hA20 rfl (bd0_Slots _ rfl) ?_
    intro a67 hA67; clear hA20
    have hx2_69 := hx2.gN hg7
    have hx2_70 := hx2_69.gN hg13
    have hx2_71 := hx2_70.gB hg14 (by omega)
    have hx2_72 := hx2_71.gN hg20
    refine sx_store hA67 rfl (.inl rfl) rfl (hA67.ev (i := 4) (v := .pointer (some ⟨B2, 0, none⟩))) (hA67.ev (i := 21) (v := .agg #[.slice none 0 0, .slice none 0 0])) hx2_72 (by kernel_rfl) rfl (by simp [Value.oneCell']) ?_
    intro w68 hx68 hg68
    have hs68 := hg68.size
    refine sx_val hA67 rfl (ev_assign (ec _ (.int .i64 10)) _ rfl) ?_
    intro a73 hA73; clear hA67
    refine sx_nil ?_
    refine then_n ?_
    refine wp_ret ?_
    refine then_r ?_
    refine bodyPost_ret (rs_ct (v := .int .i64 10) Try.results16 hA73 (by kernel_rfl) (by kernel_rfl) hx68 Try.underlying25 rfl (by kernel_rfl)) hA73.2.1 ?_
    rw [sta_ok ha hx, if_pos hd21]
    have hbel0_74 := Below.gN hbel0_9 hg7 hbel0_9.size
    have hbel0_75 := Below.gN hbel0_74 hg13 hbel0_74.size
    have hbel0_76 := Below.gB hbel0_75 hg14 hbel0_75.size (by omega)
    have hbel0_77 := Below.gN hbel0_76 hg20 hbel0_76.size
    have hbel0_78 := Below.gB hbel0_77 hg68 hbel0_77.size (by omega)
    exact RSl.nil rfl hbel0_78
  rw [hd21] at hA20
  refine wp_cond_false (hA20.ev (i := 20) (v := .bool false)) ?_
  refine wp_skip ?_
  refine then_n ?_
  refine wp_seq ?_
  refine wp_seq ?_
  refine wp_region_lit ?_
  refine sx_val (v := .pointer (some ⟨B13, 1, none⟩)) hA20 rfl (fb_book_1 (hA20.ev (i := 6) (v := .pointer (some ⟨B13, 0, none⟩))) _ rfl) ?_
  intro a22 hA22; clear hA20
  have hx14_23 := hx14.gN hg20
  refine sx_val (v := .map (some Mo7)) hA22 rfl (ev_cell (v := .map (some Mo7)) (hA22.ev (i := 22) (v := .pointer (some ⟨B13, 1, none⟩))) ((hx14_23.cell 1).trans rfl) Try.underlying51 rfl _ rfl) ?_
  intro a24 hA24; clear hA22
  refine sx_val hA24 rfl (ev_move (hA24.ev (i := 1) (v := .int .i64 (k : Int))) _ rfl) ?_
  intro a25 hA25; clear hA24
  have hmMo7_26 := hmMo7.gN hg13
  have hmMo7_27 := hmMo7_26.gB hg14 (by omega)
  have hmMo7_28 := hmMo7_27.gN hg20
  refine sx_val (v := .int .i64 x) hA25 rfl (ev_look mk_int hmMo7_28 Try.underlying51 (by kernel_rfl) (k := (k : Int)) (r := .int .i64 x) (hA25.ev (i := 23) (v := .map (some Mo7))) (hA25.ev (i := 24) (v := .int .i64 (k : Int))) (look_at hx) _ rfl) ?_
  intro a29 hA29; clear hA25
  cases hd30 : decide (x = 0)
  rotate_left
  · have hp30 := of_decide_eq_true hd30
    refine sx_val (v := .bool true) hA29 rfl (ev_eqlB (k := .i64) (m := x) (n := 0) (hA29.ev (i := 25)) (ec _ (.int .i64 0)) hd30 _ rfl) ?_
    intro a54 hA54; clear hA29
    refine sx_nil ?_
    refine then_n ?_
    refine wp_cond_true (hA54.ev (i := 26) (v := .bool true)) ?_
    refine wp_seq ?_
    refine wp_region_lit ?_
    refine sx_val (v := .agg #[.slice none 0 0, .slice none 0 0]) hA54 rfl (bd0_Slots _ rfl) ?_
    intro a55 hA55; clear hA54
    have hx2_57 := hx2.gN hg7
    have hx2_58 := hx2_57.gN hg13
    have hx2_59 := hx2_58.gB hg14 (by omega)
    have hx2_60 := hx2_59.gN hg20
    refine sx_store hA55 rfl (.inl rfl) rfl (hA55.ev (i := 4) (v := .pointer (some ⟨B2, 0, none⟩))) (hA55.ev (i := 27) (v := .agg #[.slice none 0 0, .slice none 0 0])) hx2_60 (by kernel_rfl) rfl (by simp [Value.oneCell']) ?_
    intro w56 hx56 hg56
    have hs56 := hg56.size
    refine sx_val hA55 rfl (ev_assign (ec _ (.int .i64 9)) _ rfl) ?_
    intro a61 hA61; clear hA55
    refine sx_nil ?_
    refine then_n ?_
    refine wp_ret ?_
    refine then_r ?_
    refine bodyPost_ret (rs_ct (v := .int .i64 9) Try.results16 hA61 (by kernel_rfl) (by kernel_rfl) hx56 Try.underlying25 rfl (by kernel_rfl)) hA61.2.1 ?_
    rw [sta_ok ha hx, if_neg (by rw [hd21]; decide), if_pos hp30]
    have hbel0_62 := Below.gN hbel0_9 hg7 hbel0_9.size
    have hbel0_63 := Below.gN hbel0_62 hg13 hbel0_62.size
    have hbel0_64 := Below.gB hbel0_63 hg14 hbel0_63.size (by omega)
    have hbel0_65 := Below.gN hbel0_64 hg20 hbel0_64.size
    have hbel0_66 := Below.gB hbel0_65 hg56 hbel0_65.size (by omega)
    exact RSl.nil rfl hbel0_66
  have hp30 := of_decide_eq_false hd30
  refine sx_val (v := .bool false) hA29 rfl (ev_eqlB (k := .i64) (m := x) (n := 0) (hA29.ev (i := 25)) (ec _ (.int .i64 0)) hd30 _ rfl) ?_
  intro a31 hA31; clear hA29
  refine sx_nil ?_
  refine then_n ?_
  refine wp_cond_false (hA31.ev (i := 26) (v := .bool false)) ?_
  refine wp_skip ?_
  refine then_n ?_
  refine wp_seq ?_
  refine wp_region_lit ?_
  refine sx_val (v := .pointer (some ⟨B13, 2, none⟩)) hA31 rfl (fb_book_2 (hA31.ev (i := 6) (v := .pointer (some ⟨B13, 0, none⟩))) _ rfl) ?_
  intro a32 hA32; clear hA31
  refine sx_val hA32 rfl (ev_move (hA32.ev (i := 1) (v := .int .i64 (k : Int))) _ rfl) ?_
  intro a33 hA33; clear hA32
  refine sx_call (f := 45) (args := #[.pointer (some ⟨B13, 2, none⟩), .int .i64 (k : Int), .bool true]) hA33 rfl (by decide) (.inl rfl) (ev_fn rfl (mp3 (hA33.ev (i := 28) (v := .pointer (some ⟨B13, 2, none⟩))) (hA33.ev (i := 29) (v := .int .i64 (k : Int))) (ec _ (.bool true))) (by kernel_rfl) _ rfl) (put_bk_t B13 rs.length Mo7 (opm bs) k _ hx14_23 (by omega)) ?_
  intro e34 w34 hR34
  obtain ⟨rfl, hx34, hg34⟩ := hR34
  refine ⟨_, rfl, ?_⟩
  intro a34 hA34
  clear hA33
  have hs34 := hg34.size
  have hy34 : Bx w34 B13 56 (bkr rs.length Mo7 (opm (bs.set k true))) := by rw [← opm_set true (by omega)]; exact hx34
  refine sx_nil ?_
  refine then_n ?_
  refine wp_seq ?_
  refine wp_region_lit ?_
  have hmMo7_36 := hmMo7_28.gB hg34 (by omega)
  refine sx_call (f := 38) (args := #[.pointer (some ⟨B13, 0, none⟩)]) hA34 rfl (by decide) (.inl rfl) (ev_fn rfl (mp1 (hA34.ev (i := 6) (v := .pointer (some ⟨B13, 0, none⟩)))) (by kernel_rfl) _ rfl) (slots_any _ B13 Mo7 rs.length rs (bs.set k true) ⟨hy34, hmMo7_36⟩ (by omega) (by omega) (by first | omega | (rw [List.length_set] <;> omega)) (by first | omega | (rw [List.length_set] <;> omega))) ?_
  intro e35 w35 hR35
  obtain ⟨Ap35, cp35, Aj35, cj35, rfl, hC35, hJ35, hb35⟩ := hR35
  refine ⟨_, rfl, ?_⟩
  intro a35 hA35
  clear hA34
  have hg35 := g0 hb35
  have hs35 := hg35.size
  clear hb35
  have ho35_0 : Own w35 (w34.heap.size) 3 1 (.slice Ap35 rs.length cp35) rs.length (flat iva rs) := hC35
  have hh35_0 := Own.hi ho35_0
  have ho35_1 : Own w35 (w34.heap.size) 4 1 (.slice Aj35 (bs.set k true).length cj35) (bs.set k true).length (flat bva (bs.set k true)) := hJ35
  have hh35_1 := Own.hi ho35_1
  have hx2_38 := hx2.gN hg7
  have hx2_39 := hx2_38.gN hg13
  have hx2_40 := hx2_39.gB hg14 (by omega)
  have hx2_41 := hx2_40.gN hg20
  have hx2_42 := hx2_41.gB hg34 (by omega)
  have hx2_43 := hx2_42.gN hg35
  refine sx_store hA35 rfl (.inl rfl) rfl (hA35.ev (i := 4) (v := .pointer (some ⟨B2, 0, none⟩))) (hA35.ev (i := 31) (v := .agg #[.slice Ap35 rs.length cp35, .slice Aj35 (bs.set k true).length cj35])) hx2_43 (by kernel_rfl) rfl (by simp [Value.oneCell']) ?_
  intro w37 hx37 hg37
  have hs37 := hg37.size
  refine sx_val hA35 rfl (ev_assign (ec _ (.int .i64 0)) _ rfl) ?_
  intro a44 hA44; clear hA35
  refine sx_nil ?_
  refine then_n ?_
  refine wp_ret ?_
  refine bodyPost_ret (rs_ct (v := .int .i64 0) Try.results16 hA44 (by kernel_rfl) (by kernel_rfl) hx37 Try.underlying25 rfl (by kernel_rfl)) hA44.2.1 ?_
  rw [sta_ok ha hx, if_neg (by rw [hd21]; decide), if_neg hp30]
  have ho35_45 := Own.gBT ho35_0 hg37 hx2_43 (by decide)
  have ho35_46 := Own.gBT ho35_1 hg37 hx2_43 (by decide)
  have hbel0_47 := Below.gN hbel0_9 hg7 hbel0_9.size
  have hbel0_48 := Below.gN hbel0_47 hg13 hbel0_47.size
  have hbel0_49 := Below.gB hbel0_48 hg14 hbel0_48.size (by omega)
  have hbel0_50 := Below.gN hbel0_49 hg20 hbel0_49.size
  have hbel0_51 := Below.gB hbel0_50 hg34 hbel0_50.size (by omega)
  have hbel0_52 := Below.gN hbel0_51 hg35 hbel0_51.size
  have hbel0_53 := Below.gB hbel0_52 hg37 hbel0_52.size (by omega)
  exact ⟨_, _, _, _, rfl, Own.mono ho35_45 (by omega), Own.mono ho35_46 (by omega), hbel0_53⟩

theorem Start_any (A1 : Option Addr) (c1 : Nat) (A2 : Option Addr) (c2 : Nat) (rs : List Int) (bs : List Bool) (k : Int) (w : World) (hs : GS w A1 c1 A2 c2 rs bs) (hl : rs.length ≤ 900000) (hb : bs.length ≤ 900000) : Calls Try.prog 16 #[.agg #[.slice A1 rs.length c1, .slice A2 bs.length c2], .int .i64 k] w (RSl w (sta ⟨rs, bs⟩ k).1 fun v => .tuple #[v, .int .i64 (sta ⟨rs, bs⟩ k).2]) := by
  by_cases ha : ask ⟨rs, bs⟩ k = 0
  · obtain ⟨kn, rfl, _, _⟩ := ask_of ha
    exact Start_ok1 A1 c1 A2 c2 rs bs kn w hs ha
  · exact Start_bad A1 c1 A2 c2 rs bs k w hs hl hb ha

set_option maxHeartbeats 4000000 in
theorem Settle_bad (A1 : Option Addr) (c1 : Nat) (A2 : Option Addr) (c2 : Nat) (rs : List Int) (bs : List Bool) (k : Int) (w : World) (hs : GS w A1 c1 A2 c2 rs bs) (hl : rs.length ≤ 900000) (hb : bs.length ≤ 900000) (ha : ask ⟨rs, bs⟩ k ≠ 0) : Calls Try.prog 18 #[.agg #[.slice A1 rs.length c1, .slice A2 bs.length c2], .int .i64 k] w (RSl w (stl ⟨rs, bs⟩ k).1 fun v => .tuple #[v, .bool (stl ⟨rs, bs⟩ k).2.1, .int .i64 (stl ⟨rs, bs⟩ k).2.2]) := by
  have hbel0 := below0 w
  refine sx_enter (N := 30) [(0, .agg #[.slice A1 rs.length c1, .slice A2 bs.length c2]), (1, .int .i64 k)] Try.func18 rfl Try.ntmps18 (by simp) (fun a z d s => (((Ag.nil z d).cons (s 1 _ rfl)).cons (s 0 _ rfl))) ?_
  intro a0 hA0
  refine wp_seq ?_
  refine wp_region_lit ?_
  refine sx_new (cs := #[.slice A1 rs.length c1, .slice A2 bs.length c2]) (t := 25) hA0 rfl (by decide) (.inl rfl) (ev_box (hA0.ev (i := 0) (v := .agg #[.slice A1 rs.length c1, .slice A2 bs.length c2])) rfl _ rfl) ?_
  intro B1 w1 a1 hB1 hx1 hg1 hA1
  clear hA0
  have hs1 := hg1.size
  have hl1 := hx1.lt
  refine sx_new (cs := #[.slice none 0 0, .slice none 0 0]) (t := 25) hA1 rfl (by decide) (.inl rfl) (ev_alloc (z := .agg (#[.slice none 0 0, .slice none 0 0])) (by kernel_rfl) (by kernel_rfl) _ rfl) ?_
  intro B2 w2 a2 hB2 hx2 hg2 hA2
  clear hA1
  have hs2 := hg2.size
  have hl2 := hx2.lt
  refine sx_val hA2 rfl (ev_assign (ec _ (.bool false)) _ rfl) ?_
  intro a3 hA3; clear hA2
  refine sx_val hA3 rfl (ev_assign (ec _ (.int .i64 0)) _ rfl) ?_
  intro a4 hA4; clear hA3
  refine sx_nil ?_
  refine then_n ?_
  refine wp_seq ?_
  refine wp_region_lit ?_
  have hx1_5 := hx1.gN hg2
  refine sx_val (v := .agg #[.slice A1 rs.length c1, .slice A2 bs.length c2]) hA4 rfl (ev_row (hA4.ev (i := 2) (v := .pointer (some ⟨B1, 0, none⟩))) hx1_5 Try.underlying25 rfl (n := 2) (by kernel_rfl) rfl _ rfl) ?_
  intro a6 hA6; clear hA4
  refine sx_val hA6 rfl (ev_move (hA6.ev (i := 1) (v := .int .i64 k)) _ rfl) ?_
  intro a7 hA7; clear hA6
  have hbel0_9 := Below.gN hbel0 hg1 hbel0.size
  have hbel0_10 := Below.gN hbel0_9 hg2 hbel0_9.size
  refine sx_call (f := 36) (args := #[.agg #[.slice A1 rs.length c1, .slice A2 bs.length c2], .int .i64 k]) hA7 rfl (by decide) (.inl rfl) (ev_fn rfl (mp2 (hA7.ev (i := 10) (v := .agg #[.slice A1 rs.length c1, .slice A2 bs.length c2])) (hA7.ev (i := 11) (v := .int .i64 k))) (by kernel_rfl) _ rfl) (at_bad A1 c1 A2 c2 rs bs k _ ⟨(hs.r.below hbel0_10), (hs.b.below hbel0_10)⟩ (by omega) (by omega) ha) ?_
  intro e8 w8 hR8
  obtain ⟨rfl, hb8⟩ := hR8
  refine ⟨_, rfl, ?_⟩
  intro a8 hA8
  clear hA7
  have hg8 := g0 hb8
  have hs8 := hg8.size
  clear hb8
  refine sx_val hA8 rfl (ev_move (hA8.ev (i := 12) (v := .tuple #[.agg #[.int .i64 0, .map none, .int .u64 0, .int .u64 0, .int .u64 0, .int .u64 0], .int .i64 (ask ⟨rs, bs⟩ k)])) _ rfl) ?_
  intro a11 hA11; clear hA8
  refine sx_val (v := .agg #[.int .i64 0, .map none, .int .u64 0, .int .u64 0, .int .u64 0, .int .u64 0]) hA11 rfl (ev_ext (hA11.ev (i := 9) (v := .tuple #[.agg #[.int .i64 0, .map none, .int .u64 0, .int .u64 0, .int .u64 0, .int .u64 0], .int .i64 (ask ⟨rs, bs⟩ k)])) rfl _ rfl) ?_
  intro a12 hA12; clear hA11
  refine sx_val (v := .int .i64 (ask ⟨rs, bs⟩ k)) hA12 rfl (ev_ext (hA12.ev (i := 9) (v := .tuple #[.agg #[.int .i64 0, .map none, .int .u64 0, .int .u64 0, .int .u64 0, .int .u64 0], .int .i64 (ask ⟨rs, bs⟩ k)])) rfl _ rfl) ?_
  intro a13 hA13; clear hA12
  refine sx_new (cs := #[.int .i64 0, .map none, .int .u64 0, .int .u64 0, .int .u64 0, .int .u64 0]) (t := 56) hA13 rfl (by decide) (.inl rfl) (ev_alloc (z := .agg (#[.int .i64 0, .map none, .int .u64 0, .int .u64 0, .int .u64 0, .int .u64 0])) (by kernel_rfl) (by kernel_rfl) _ rfl) ?_
  intro B14 w14 a14 hB14 hx14 hg14 hA14
  clear hA13
  have hs14 := hg14.size
  have hl14 := hx14.lt
  refine sx_store hA14 rfl (.inl rfl) rfl (hA14.ev (i := 7) (v := .pointer (some ⟨B14, 0, none⟩))) (hA14.ev (i := 13) (v := .agg #[.int .i64 0, .map none, .int .u64 0, .int .u64 0, .int .u64 0, .int .u64 0])) hx14 (by kernel_rfl) rfl (by simp [Value.oneCell']) ?_
  intro w15 hx15 hg15
  have hs15 := hg15.size
  refine sx_val hA14 rfl (ev_assign (hA14.ev (i := 14) (v := .int .i64 (ask ⟨rs, bs⟩ k))) _ rfl) ?_
  intro a16 hA16; clear hA14
  refine sx_nil ?_
  refine then_n ?_
  refine wp_seq ?_
  refine wp_seq ?_
  refine wp_region_lit ?_
  refine sx_val hA16 rfl (ev_move (hA16.ev (i := 8) (v := .int .i64 (ask ⟨rs, bs⟩ k))) _ rfl) ?_
  intro a17 hA17; clear hA16
  refine sx_val (v := .bool true) hA17 rfl (ev_neqB (k := .i64) (m := (ask ⟨rs, bs⟩ k)) (n := 0) (hA17.ev (i := 15)) (ec _ (.int .i64 0)) (by simpa using (decide_eq_false ha)) _ rfl) ?_
  intro a18 hA18; clear hA17
  refine sx_nil ?_
  refine then_n ?_
  refine wp_cond_true (hA18.ev (i := 16) (v := .bool true)) ?_
  refine wp_seq ?_
  refine wp_region_lit ?_
  refine sx_val (v := .agg #[.slice none 0 0, .slice none 0 0]) hA18 rfl (bd0_Slots _ rfl) ?_
  intro a19 hA19; clear hA18
  refine sx_val hA19 rfl (ev_move (hA19.ev (i := 8) (v := .int .i64 (ask ⟨rs, bs⟩ k))) _ rfl) ?_
  intro a20 hA20; clear hA19
  have hx2_22 := hx2.gN hg8
  have hx2_23 := hx2_22.gN hg14
  have hx2_24 := hx2_23.gB hg15 (by omega)
  refine sx_store hA20 rfl (.inl rfl) rfl (hA20.ev (i := 4) (v := .pointer (some ⟨B2, 0, none⟩))) (hA20.ev (i := 17) (v := .agg #[.slice none 0 0, .slice none 0 0])) hx2_24 (by kernel_rfl) rfl (by simp [Value.oneCell']) ?_
  intro w21 hx21 hg21
  have hs21 := hg21.size
  refine sx_val hA20 rfl (ev_assign (ec _ (.bool false)) _ rfl) ?_
  intro a25 hA25; clear hA20
  refine sx_val hA25 rfl (ev_assign (hA25.ev (i := 18) (v := .int .i64 (ask ⟨rs, bs⟩ k))) _ rfl) ?_
  intro a26 hA26; clear hA25
  refine sx_nil ?_
  refine then_n ?_
  refine wp_ret ?_
  refine then_r ?_
  refine bodyPost_ret (rs_ctt (v := .bool false) (v2 := .int .i64 (ask ⟨rs, bs⟩ k)) Try.results18 hA26 (by kernel_rfl) (by kernel_rfl) (by kernel_rfl) hx21 Try.underlying25 rfl (by kernel_rfl)) hA26.2.1 ?_
  rw [show stl ⟨rs, bs⟩ k = (Ss.nil, false, ask ⟨rs, bs⟩ k) from if_pos ha]
  have hbel0_27 := Below.gN hbel0_10 hg8 hbel0_10.size
  have hbel0_28 := Below.gN hbel0_27 hg14 hbel0_27.size
  have hbel0_29 := Below.gB hbel0_28 hg15 hbel0_28.size (by omega)
  have hbel0_30 := Below.gB hbel0_29 hg21 hbel0_29.size (by omega)
  exact RSl.nil rfl hbel0_30

set_option maxHeartbeats 4000000 in
theorem Settle_ok1 (A1 : Option Addr) (c1 : Nat) (A2 : Option Addr) (c2 : Nat) (rs : List Int) (bs : List Bool) (k : Nat) (w : World) (hs : GS w A1 c1 A2 c2 rs bs) (ha : ask ⟨rs, bs⟩ (k : Int) = 0) : Calls Try.prog 18 #[.agg #[.slice A1 rs.length c1, .slice A2 bs.length c2], .int .i64 (k : Int)] w (RSl w (stl ⟨rs, bs⟩ (k : Int)).1 fun v => .tuple #[v, .bool (stl ⟨rs, bs⟩ (k : Int)).2.1, .int .i64 (stl ⟨rs, bs⟩ (k : Int)).2.2]) := by
  have hq := ask_zero ha
  have hkr : k < rs.length := by have := hq.2.2; simp only at this; omega
  have hok := (chs_ok hq.1).2
  have hrl : rs.length ≤ 256 := hok.hi
  have hr1 : 1 ≤ rs.length := hok.lo
  have hbl : bs.length = rs.length := hok.len
  obtain ⟨x, hx⟩ : ∃ x, rs[k]? = some x := ⟨_, List.getElem?_eq_getElem hkr⟩
  have hxv : 0 ≤ x ∧ x ≤ 512 := hok.val k x hx
  have hbel0 := below0 w
  refine sx_enter (N := 30) [(0, .agg #[.slice A1 rs.length c1, .slice A2 bs.length c2]), (1, .int .i64 (k : Int))] Try.func18 rfl Try.ntmps18 (by simp) (fun a z d s => (((Ag.nil z d).cons (s 1 _ rfl)).cons (s 0 _ rfl))) ?_
  intro a0 hA0
  refine wp_seq ?_
  refine wp_region_lit ?_
  refine sx_new (cs := #[.slice A1 rs.length c1, .slice A2 bs.length c2]) (t := 25) hA0 rfl (by decide) (.inl rfl) (ev_box (hA0.ev (i := 0) (v := .agg #[.slice A1 rs.length c1, .slice A2 bs.length c2])) rfl _ rfl) ?_
  intro B1 w1 a1 hB1 hx1 hg1 hA1
  clear hA0
  have hs1 := hg1.size
  have hl1 := hx1.lt
  refine sx_new (cs := #[.slice none 0 0, .slice none 0 0]) (t := 25) hA1 rfl (by decide) (.inl rfl) (ev_alloc (z := .agg (#[.slice none 0 0, .slice none 0 0])) (by kernel_rfl) (by kernel_rfl) _ rfl) ?_
  intro B2 w2 a2 hB2 hx2 hg2 hA2
  clear hA1
  have hs2 := hg2.size
  have hl2 := hx2.lt
  refine sx_val hA2 rfl (ev_assign (ec _ (.bool false)) _ rfl) ?_
  intro a3 hA3; clear hA2
  refine sx_val hA3 rfl (ev_assign (ec _ (.int .i64 0)) _ rfl) ?_
  intro a4 hA4; clear hA3
  refine sx_nil ?_
  refine then_n ?_
  refine wp_seq ?_
  refine wp_region_lit ?_
  have hx1_5 := hx1.gN hg2
  refine sx_val (v := .agg #[.slice A1 rs.length c1, .slice A2 bs.length c2]) hA4 rfl (ev_row (hA4.ev (i := 2) (v := .pointer (some ⟨B1, 0, none⟩))) hx1_5 Try.underlying25 rfl (n := 2) (by kernel_rfl) rfl _ rfl) ?_
  intro a6 hA6; clear hA4
  refine sx_val hA6 rfl (ev_move (hA6.ev (i := 1) (v := .int .i64 (k : Int))) _ rfl) ?_
  intro a7 hA7; clear hA6
  have hbel0_9 := Below.gN hbel0 hg1 hbel0.size
  have hbel0_10 := Below.gN hbel0_9 hg2 hbel0_9.size
  refine sx_call (f := 36) (args := #[.agg #[.slice A1 rs.length c1, .slice A2 bs.length c2], .int .i64 (k : Int)]) hA7 rfl (by decide) (.inl rfl) (ev_fn rfl (mp2 (hA7.ev (i := 10) (v := .agg #[.slice A1 rs.length c1, .slice A2 bs.length c2])) (hA7.ev (i := 11) (v := .int .i64 (k : Int)))) (by kernel_rfl) _ rfl) (at_ok A1 c1 A2 c2 rs bs (k : Int) _ ⟨(hs.r.below hbel0_10), (hs.b.below hbel0_10)⟩ ha) ?_
  intro e8 w8 hR8
  obtain ⟨Mo8, rfl, hmp8, hle8, hb8⟩ := hR8
  refine ⟨_, rfl, ?_⟩
  intro a8 hA8
  clear hA7
  have hg8 := g0 hb8
  have hs8 := hg8.size
  clear hb8
  have hmMo8 := hmp8
  have hlMo8 := hmMo8.lt
  have hqMo8 := hle8
  refine sx_val hA8 rfl (ev_move (hA8.ev (i := 12) (v := .tuple #[.agg (bkr rs.length Mo8 (opm bs)), .int .i64 0])) _ rfl) ?_
  intro a11 hA11; clear hA8
  refine sx_val (v := .agg (bkr rs.length Mo8 (opm bs))) hA11 rfl (ev_ext (hA11.ev (i := 9) (v := .tuple #[.agg (bkr rs.length Mo8 (opm bs)), .int .i64 0])) rfl _ rfl) ?_
  intro a12 hA12; clear hA11
  refine sx_val (v := .int .i64 0) hA12 rfl (ev_ext (hA12.ev (i := 9) (v := .tuple #[.agg (bkr rs.length Mo8 (opm bs)), .int .i64 0])) rfl _ rfl) ?_
  intro a13 hA13; clear hA12
  refine sx_new (cs := #[.int .i64 0, .map none, .int .u64 0, .int .u64 0, .int .u64 0, .int .u64 0]) (t := 56) hA13 rfl (by decide) (.inl rfl) (ev_alloc (z := .agg (#[.int .i64 0, .map none, .int .u64 0, .int .u64 0, .int .u64 0, .int .u64 0])) (by kernel_rfl) (by kernel_rfl) _ rfl) ?_
  intro B14 w14 a14 hB14 hx14 hg14 hA14
  clear hA13
  have hs14 := hg14.size
  have hl14 := hx14.lt
  refine sx_store hA14 rfl (.inl rfl) rfl (hA14.ev (i := 7) (v := .pointer (some ⟨B14, 0, none⟩))) (hA14.ev (i := 13) (v := .agg (bkr rs.length Mo8 (opm bs)))) hx14 (by kernel_rfl) rfl (bkr_one _ _ _) ?_
  intro w15 hx15 hg15
  have hs15 := hg15.size
  refine sx_val hA14 rfl (ev_assign (hA14.ev (i := 14) (v := .int .i64 0)) _ rfl) ?_
  intro a16 hA16; clear hA14
  refine sx_nil ?_
  refine then_n ?_
  refine wp_seq ?_
  refine wp_seq ?_
  refine wp_region_lit ?_
  refine sx_val hA16 rfl (ev_move (hA16.ev (i := 8) (v := .int .i64 0)) _ rfl) ?_
  intro a17 hA17; clear hA16
  refine sx_val (v := .bool false) hA17 rfl (ev_neqB (k := .i64) (m := 0) (n := 0) (hA17.ev (i := 15)) (ec _ (.int .i64 0)) (by decide) _ rfl) ?_
  intro a18 hA18; clear hA17
  refine sx_nil ?_
  refine then_n ?_
  refine wp_cond_false (hA18.ev (i := 16) (v := .bool false)) ?_
  refine wp_skip ?_
  refine then_n ?_
  refine wp_seq ?_
  refine wp_seq ?_
  refine wp_region_lit ?_
  refine sx_val (v := .pointer (some ⟨B14, 2, none⟩)) hA18 rfl (fb_book_2 (hA18.ev (i := 7) (v := .pointer (some ⟨B14, 0, none⟩))) _ rfl) ?_
  intro a19 hA19; clear hA18
  refine sx_val hA19 rfl (ev_move (hA19.ev (i := 1) (v := .int .i64 (k : Int))) _ rfl) ?_
  intro a20 hA20; clear hA19
  refine sx_call (f := 44) (args := #[.pointer (some ⟨B14, 2, none⟩), .int .i64 (k : Int)]) hA20 rfl (by decide) (.inl rfl) (ev_fn rfl (mp2 (hA20.ev (i := 19) (v := .pointer (some ⟨B14, 2, none⟩))) (hA20.ev (i := 20) (v := .int .i64 (k : Int)))) (by kernel_rfl) _ rfl) (has_bk B14 rs.length Mo8 (opm bs) k _ hx15 (by omega)) ?_
  intro e21 w21 hR21
  obtain ⟨rfl, hb21⟩ := hR21
  refine ⟨_, rfl, ?_⟩
  intro a21 hA21
  clear hA20
  have hg21 := g0 hb21
  have hs21 := hg21.size
  clear hb21
  cases hd22 : (opm bs k)
  · rw [hd22] at hA21
    refine sx_val (v := .bool true) hA21 rfl (ev_notF (hA21.ev (i := 21) (v := .bool false)) _ rfl) ?_
    intro a23 hA23; clear hA21
    refine sx_nil ?_
    refine then_n ?_
    refine wp_cond_true (hA23.ev (i := 22) (v := .bool true)) ?_
    refine wp_seq ?_
    refine wp_region_lit ?_
    refine sx_val (v := .agg #[.slice none 0 0, .slice none 0 0]) hA23 rfl (bd0_Slots _ rfl) ?_
    intro a24 hA24; clear hA23
    have hx2_26 := hx2.gN hg8
    have hx2_27 := hx2_26.gN hg14
    have hx2_28 := hx2_27.gB hg15 (by omega)
    have hx2_29 := hx2_28.gN hg21
    refine sx_store hA24 rfl (.inl rfl) rfl (hA24.ev (i := 4) (v := .pointer (some ⟨B2, 0, none⟩))) (hA24.ev (i := 23) (v := .agg #[.slice none 0 0, .slice none 0 0])) hx2_29 (by kernel_rfl) rfl (by simp [Value.oneCell']) ?_
    intro w25 hx25 hg25
    have hs25 := hg25.size
    refine sx_val hA24 rfl (ev_assign (ec _ (.bool false)) _ rfl) ?_
    intro a30 hA30; clear hA24
    refine sx_val hA30 rfl (ev_assign (ec _ (.int .i64 9)) _ rfl) ?_
    intro a31 hA31; clear hA30
    refine sx_nil ?_
    refine then_n ?_
    refine wp_ret ?_
    refine then_r ?_
    refine bodyPost_ret (rs_ctt (v := .bool false) (v2 := .int .i64 9) Try.results18 hA31 (by kernel_rfl) (by kernel_rfl) (by kernel_rfl) hx25 Try.underlying25 rfl (by kernel_rfl)) hA31.2.1 ?_
    rw [stl_ok ha hx, if_pos hd22]
    have hbel0_32 := Below.gN hbel0_10 hg8 hbel0_10.size
    have hbel0_33 := Below.gN hbel0_32 hg14 hbel0_32.size
    have hbel0_34 := Below.gB hbel0_33 hg15 hbel0_33.size (by omega)
    have hbel0_35 := Below.gN hbel0_34 hg21 hbel0_34.size
    have hbel0_36 := Below.gB hbel0_35 hg25 hbel0_35.size (by omega)
    exact RSl.nil rfl hbel0_36
  rw [hd22] at hA21
  refine sx_val (v := .bool false) hA21 rfl (ev_notT (hA21.ev (i := 21) (v := .bool true)) _ rfl) ?_
  intro a37 hA37; clear hA21
  refine sx_nil ?_
  refine then_n ?_
  refine wp_cond_false (hA37.ev (i := 22) (v := .bool false)) ?_
  refine wp_skip ?_
  refine then_n ?_
  refine wp_seq ?_
  refine wp_region_lit ?_
  refine sx_val (v := .pointer (some ⟨B14, 2, none⟩)) hA37 rfl (fb_book_2 (hA37.ev (i := 7) (v := .pointer (some ⟨B14, 0, none⟩))) _ rfl) ?_
  intro a38 hA38; clear hA37
  refine sx_val hA38 rfl (ev_move (hA38.ev (i := 1) (v := .int .i64 (k : Int))) _ rfl) ?_
  intro a39 hA39; clear hA38
  have hx15_41 := hx15.gN hg21
  refine sx_call (f := 45) (args := #[.pointer (some ⟨B14, 2, none⟩), .int .i64 (k : Int), .bool false]) hA39 rfl (by decide) (.inl rfl) (ev_fn rfl (mp3 (hA39.ev (i := 24) (v := .pointer (some ⟨B14, 2, none⟩))) (hA39.ev (i := 25) (v := .int .i64 (k : Int))) (ec _ (.bool false))) (by kernel_rfl) _ rfl) (put_bk_f B14 rs.length Mo8 (opm bs) k _ hx15_41 (by omega)) ?_
  intro e40 w40 hR40
  obtain ⟨rfl, hx40, hg40⟩ := hR40
  refine ⟨_, rfl, ?_⟩
  intro a40 hA40
  clear hA39
  have hs40 := hg40.size
  have hy40 : Bx w40 B14 56 (bkr rs.length Mo8 (opm (bs.set k false))) := by rw [← opm_set false (by omega)]; exact hx40
  refine sx_nil ?_
  refine then_n ?_
  refine wp_seq ?_
  refine wp_region_lit ?_
  have hmMo8_43 := hmMo8.gN hg14
  have hmMo8_44 := hmMo8_43.gB hg15 (by omega)
  have hmMo8_45 := hmMo8_44.gN hg21
  have hmMo8_46 := hmMo8_45.gB hg40 (by omega)
  refine sx_call (f := 38) (args := #[.pointer (some ⟨B14, 0, none⟩)]) hA40 rfl (by decide) (.inl rfl) (ev_fn rfl (mp1 (hA40.ev (i := 7) (v := .pointer (some ⟨B14, 0, none⟩)))) (by kernel_rfl) _ rfl) (slots_any _ B14 Mo8 rs.length rs (bs.set k false) ⟨hy40, hmMo8_46⟩ (by omega) (by omega) (by first | omega | (rw [List.length_set] <;> omega)) (by first | omega | (rw [List.length_set] <;> omega))) ?_
  intro e42 w42 hR42
  obtain ⟨Ap42, cp42, Aj42, cj42, rfl, hC42, hJ42, hb42⟩ := hR42
  refine ⟨_, rfl, ?_⟩
  intro a42 hA42
  clear hA40
  have hg42 := g0 hb42
  have hs42 := hg42.size
  clear hb42
  have ho42_0 : Own w42 (w40.heap.size) 3 1 (.slice Ap42 rs.length cp42) rs.length (flat iva rs) := hC42
  have hh42_0 := Own.hi ho42_0
  have ho42_1 : Own w42 (w40.heap.size) 4 1 (.slice Aj42 (bs.set k false).length cj42) (bs.set k false).length (flat bva (bs.set k false)) := hJ42
  have hh42_1 := Own.hi ho42_1
  refine sx_val hA42 rfl (ev_move (hA42.ev (i := 1) (v := .int .i64 (k : Int))) _ rfl) ?_
  intro a47 hA47; clear hA42
  have hy40_49 := hy40.gN hg42
  have hmMo8_50 := hmMo8_46.gN hg42
  refine sx_call (f := 37) (args := #[.pointer (some ⟨B14, 0, none⟩), .int .i64 (k : Int)]) hA47 rfl (by decide) (.inl rfl) (ev_fn rfl (mp2 (hA47.ev (i := 7) (v := .pointer (some ⟨B14, 0, none⟩))) (hA47.ev (i := 28) (v := .int .i64 (k : Int)))) (by kernel_rfl) _ rfl) (bfree_any _ B14 Mo8 rs.length rs (bs.set k false) ⟨hy40_49, hmMo8_50⟩ k (by omega)) ?_
  intro e48 w48 hR48
  obtain ⟨rfl, hb48⟩ := hR48
  refine ⟨_, rfl, ?_⟩
  intro a48 hA48
  clear hA47
  have hg48 := g0 hb48
  have hs48 := hg48.size
  clear hb48
  have hx2_52 := hx2.gN hg8
  have hx2_53 := hx2_52.gN hg14
  have hx2_54 := hx2_53.gB hg15 (by omega)
  have hx2_55 := hx2_54.gN hg21
  have hx2_56 := hx2_55.gB hg40 (by omega)
  have hx2_57 := hx2_56.gN hg42
  have hx2_58 := hx2_57.gN hg48
  refine sx_store hA48 rfl (.inl rfl) rfl (hA48.ev (i := 4) (v := .pointer (some ⟨B2, 0, none⟩))) (hA48.ev (i := 27) (v := .agg #[.slice Ap42 rs.length cp42, .slice Aj42 (bs.set k false).length cj42])) hx2_58 (by kernel_rfl) rfl (by simp [Value.oneCell']) ?_
  intro w51 hx51 hg51
  have hs51 := hg51.size
  refine sx_val hA48 rfl (ev_assign (hA48.ev (i := 29) (v := .bool (fre ⟨rs, bs.set k false⟩ k))) _ rfl) ?_
  intro a59 hA59; clear hA48
  refine sx_val hA59 rfl (ev_assign (ec _ (.int .i64 0)) _ rfl) ?_
  intro a60 hA60; clear hA59
  refine sx_nil ?_
  refine then_n ?_
  refine wp_ret ?_
  refine bodyPost_ret (rs_ctt (v := .bool (fre ⟨rs, bs.set k false⟩ k)) (v2 := .int .i64 0) Try.results18 hA60 (by kernel_rfl) (by kernel_rfl) (by kernel_rfl) hx51 Try.underlying25 rfl (by kernel_rfl)) hA60.2.1 ?_
  rw [stl_ok ha hx, if_neg (by rw [hd22]; decide)]
  have ho42_61 := Own.gN ho42_0 hg48
  have ho42_62 := Own.gBT ho42_61 hg51 hx2_58 (by decide)
  have ho42_63 := Own.gN ho42_1 hg48
  have ho42_64 := Own.gBT ho42_63 hg51 hx2_58 (by decide)
  have hbel0_65 := Below.gN hbel0_10 hg8 hbel0_10.size
  have hbel0_66 := Below.gN hbel0_65 hg14 hbel0_65.size
  have hbel0_67 := Below.gB hbel0_66 hg15 hbel0_66.size (by omega)
  have hbel0_68 := Below.gN hbel0_67 hg21 hbel0_67.size
  have hbel0_69 := Below.gB hbel0_68 hg40 hbel0_68.size (by omega)
  have hbel0_70 := Below.gN hbel0_69 hg42 hbel0_69.size
  have hbel0_71 := Below.gN hbel0_70 hg48 hbel0_70.size
  have hbel0_72 := Below.gB hbel0_71 hg51 hbel0_71.size (by omega)
  exact ⟨_, _, _, _, rfl, Own.mono ho42_62 (by omega), Own.mono ho42_64 (by omega), hbel0_72⟩

theorem Settle_any (A1 : Option Addr) (c1 : Nat) (A2 : Option Addr) (c2 : Nat) (rs : List Int) (bs : List Bool) (k : Int) (w : World) (hs : GS w A1 c1 A2 c2 rs bs) (hl : rs.length ≤ 900000) (hb : bs.length ≤ 900000) : Calls Try.prog 18 #[.agg #[.slice A1 rs.length c1, .slice A2 bs.length c2], .int .i64 k] w (RSl w (stl ⟨rs, bs⟩ k).1 fun v => .tuple #[v, .bool (stl ⟨rs, bs⟩ k).2.1, .int .i64 (stl ⟨rs, bs⟩ k).2.2]) := by
  by_cases ha : ask ⟨rs, bs⟩ k = 0
  · obtain ⟨kn, rfl, _, _⟩ := ask_of ha
    exact Settle_ok1 A1 c1 A2 c2 rs bs kn w hs ha
  · exact Settle_bad A1 c1 A2 c2 rs bs k w hs hl hb ha
end Go.Proofs.Ytpoilgfblhacaaa
