/- Package slots: Check, New. -/
import Derived.Test.YtpoilgfblhacaaaKB
namespace Go.Proofs.Ytpoilgfblhacaaa
open Go.RowKit
set_option linter.unusedVariables false
set_option linter.unusedSimpArgs false
set_option maxRecDepth 100000

theorem ret2 {a b c d : Int} (h : (a, b) = (c, d)) : Ending.returned (.tuple #[.int .i64 a, .int .i64 b]) = .returned (.tuple #[.int .i64 c, .int .i64 d]) := by cases h; rfl
set_option maxHeartbeats 4000000 in
theorem Check_any (A1 : Option Addr) (c1 : Nat) (A2 : Option Addr) (c2 : Nat) (rs : List Int) (bs : List Bool) (w : World) (hs : GS w A1 c1 A2 c2 rs bs) (hl : rs.length ≤ 900000) (hb : bs.length ≤ 900000) : Calls Try.prog 20 #[.agg #[.slice A1 rs.length c1, .slice A2 bs.length c2]] w (RetB w (.returned (.tuple #[.int .i64 (chs ⟨rs, bs⟩).1, .int .i64 (chs ⟨rs, bs⟩).2]))) := by
  have hbel0 := below0 w
  refine sx_enter (N := 39) [(0, .agg #[.slice A1 rs.length c1, .slice A2 bs.length c2])] Try.func20 rfl Try.ntmps20 (by simp) (fun a z d s => ((Ag.nil z d).cons (s 0 _ rfl))) ?_
  intro a0 hA0
  refine wp_seq ?_
  refine wp_region_lit ?_
  refine sx_new (cs := #[.slice A1 rs.length c1, .slice A2 bs.length c2]) (t := 25) hA0 rfl (by decide) (.inl rfl) (ev_box (hA0.ev (i := 0) (v := .agg #[.slice A1 rs.length c1, .slice A2 bs.length c2])) rfl _ rfl) ?_
  intro B1 w1 a1 hB1 hx1 hg1 hA1
  clear hA0
  have hs1 := hg1.size
  have hl1 := hx1.lt
  refine sx_val hA1 rfl (ev_assign (ec _ (.int .i64 0)) _ rfl) ?_
  intro a2 hA2; clear hA1
  refine sx_val hA2 rfl (ev_assign (ec _ (.int .i64 0)) _ rfl) ?_
  intro a3 hA3; clear hA2
  refine sx_nil ?_
  refine then_n ?_
  refine wp_seq ?_
  refine wp_seq ?_
  refine wp_region_lit ?_
  refine sx_val (v := .pointer (some ⟨B1, 0, none⟩)) hA3 rfl (fb_Slots_0 (hA3.ev (i := 1) (v := .pointer (some ⟨B1, 0, none⟩))) _ rfl) ?_
  intro a4 hA4; clear hA3
  refine sx_val (v := .slice A1 rs.length c1) hA4 rfl (ev_cell (v := .slice A1 rs.length c1) (hA4.ev (i := 6) (v := .pointer (some ⟨B1, 0, none⟩))) ((hx1.cell 0).trans rfl) Try.underlying22 rfl _ rfl) ?_
  intro a5 hA5; clear hA4
  refine sx_val (v := .int .i64 (rs.length : Int)) hA5 rfl (ev_len (hA5.ev (i := 7) (v := .slice A1 rs.length c1)) Try.underlying22 _ rfl) ?_
  intro a6 hA6; clear hA5
  cases hd7 : decide ((rs.length : Int) < 1)
  rotate_left
  · have hp7 := of_decide_eq_true hd7
    refine sx_val (v := .bool true) hA6 rfl (ev_lssB (k := .i64) (m := (rs.length : Int)) (n := 1) (hA6.ev (i := 8)) (ec _ (.int .i64 1)) hd7 _ rfl) ?_
    intro a73 hA73; clear hA6
    refine sx_val hA73 rfl (ev_move (hA73.ev (i := 9) (v := .bool true)) _ rfl) ?_
    intro a74 hA74; clear hA73
    refine sx_no (j := 4) (s := 10) (want := false) (b := true) hA74 rfl ?_
    intro a75 hA75; clear hA74
    refine sx_no (j := 4) (s := 10) (want := false) (b := true) hA75 rfl ?_
    intro a76 hA76; clear hA75
    refine sx_no (j := 4) (s := 10) (want := false) (b := true) hA76 rfl ?_
    intro a77 hA77; clear hA76
    refine sx_no (j := 4) (s := 10) (want := false) (b := true) hA77 rfl ?_
    intro a78 hA78; clear hA77
    refine sx_val hA78 rfl (ev_pickT (hA78.ev (i := 10) (v := .bool true)) (ec _ (.bool true)) _ rfl) ?_
    intro a79 hA79; clear hA78
    refine sx_nil ?_
    refine then_n ?_
    refine wp_cond_true (hA79.ev (i := 15) (v := .bool true)) ?_
    refine wp_seq ?_
    refine wp_region_lit ?_
    refine sx_val hA79 rfl (ev_assign (ec _ (.int .i64 2)) _ rfl) ?_
    intro a80 hA80; clear hA79
    refine sx_val hA80 rfl (ev_assign (ec _ (.int .i64 0)) _ rfl) ?_
    intro a81 hA81; clear hA80
    refine sx_nil ?_
    refine then_n ?_
    refine wp_ret ?_
    refine then_r ?_
    refine bodyPost_ret (rs_tt (v := .int .i64 2) (v2 := .int .i64 0) Try.results20 hA81 (by kernel_rfl) (by kernel_rfl) ) hA81.2.1 ?_
    have hbel0_82 := Below.gN hbel0 hg1 hbel0.size
    have E : chs ⟨rs, bs⟩ = (2, 0) := if_pos (by show rs.length < 1 ∨ 256 < rs.length; omega)
    exact ⟨ret2 (by rw [E]), hbel0_82⟩
  have hp7 := of_decide_eq_false hd7
  refine sx_val (v := .bool false) hA6 rfl (ev_lssB (k := .i64) (m := (rs.length : Int)) (n := 1) (hA6.ev (i := 8)) (ec _ (.int .i64 1)) hd7 _ rfl) ?_
  intro a8 hA8; clear hA6
  refine sx_val hA8 rfl (ev_move (hA8.ev (i := 9) (v := .bool false)) _ rfl) ?_
  intro a9 hA9; clear hA8
  refine sx_val (hg := (.inr ⟨4, false, 10, rfl, rfl, by kernel_rfl⟩)) (v := .pointer (some ⟨B1, 0, none⟩)) hA9 rfl (fb_Slots_0 (hA9.ev (i := 1) (v := .pointer (some ⟨B1, 0, none⟩))) _ rfl) ?_
  intro a10 hA10; clear hA9
  refine sx_val (hg := (.inr ⟨4, false, 10, rfl, rfl, by kernel_rfl⟩)) (v := .slice A1 rs.length c1) hA10 rfl (ev_cell (v := .slice A1 rs.length c1) (hA10.ev (i := 11) (v := .pointer (some ⟨B1, 0, none⟩))) ((hx1.cell 0).trans rfl) Try.underlying22 rfl _ rfl) ?_
  intro a11 hA11; clear hA10
  refine sx_val (hg := (.inr ⟨4, false, 10, rfl, rfl, by kernel_rfl⟩)) (v := .int .i64 (rs.length : Int)) hA11 rfl (ev_len (hA11.ev (i := 12) (v := .slice A1 rs.length c1)) Try.underlying22 _ rfl) ?_
  intro a12 hA12; clear hA11
  cases hd13 : decide (256 < (rs.length : Int))
  rotate_left
  · have hp13 := of_decide_eq_true hd13
    refine sx_val (hg := (.inr ⟨4, false, 10, rfl, rfl, by kernel_rfl⟩)) (v := .bool true) hA12 rfl (ev_gtrB (k := .i64) (m := (rs.length : Int)) (n := 256) (hA12.ev (i := 13)) (ec _ (.int .i64 256)) hd13 _ rfl) ?_
    intro a68 hA68; clear hA12
    refine sx_val hA68 rfl (ev_pickF (hA68.ev (i := 10) (v := .bool false)) (hA68.ev (i := 14) (v := .bool true)) _ rfl) ?_
    intro a69 hA69; clear hA68
    refine sx_nil ?_
    refine then_n ?_
    refine wp_cond_true (hA69.ev (i := 15) (v := .bool true)) ?_
    refine wp_seq ?_
    refine wp_region_lit ?_
    refine sx_val hA69 rfl (ev_assign (ec _ (.int .i64 2)) _ rfl) ?_
    intro a70 hA70; clear hA69
    refine sx_val hA70 rfl (ev_assign (ec _ (.int .i64 0)) _ rfl) ?_
    intro a71 hA71; clear hA70
    refine sx_nil ?_
    refine then_n ?_
    refine wp_ret ?_
    refine then_r ?_
    refine bodyPost_ret (rs_tt (v := .int .i64 2) (v2 := .int .i64 0) Try.results20 hA71 (by kernel_rfl) (by kernel_rfl) ) hA71.2.1 ?_
    have hbel0_72 := Below.gN hbel0 hg1 hbel0.size
    have E : chs ⟨rs, bs⟩ = (2, 0) := if_pos (by show rs.length < 1 ∨ 256 < rs.length; omega)
    exact ⟨ret2 (by rw [E]), hbel0_72⟩
  have hp13 := of_decide_eq_false hd13
  refine sx_val (hg := (.inr ⟨4, false, 10, rfl, rfl, by kernel_rfl⟩)) (v := .bool false) hA12 rfl (ev_gtrB (k := .i64) (m := (rs.length : Int)) (n := 256) (hA12.ev (i := 13)) (ec _ (.int .i64 256)) hd13 _ rfl) ?_
  intro a14 hA14; clear hA12
  refine sx_val hA14 rfl (ev_pickF (hA14.ev (i := 10) (v := .bool false)) (hA14.ev (i := 14) (v := .bool false)) _ rfl) ?_
  intro a15 hA15; clear hA14
  refine sx_nil ?_
  refine then_n ?_
  refine wp_cond_false (hA15.ev (i := 15) (v := .bool false)) ?_
  refine wp_skip ?_
  refine then_n ?_
  refine wp_seq ?_
  refine wp_seq ?_
  refine wp_region_lit ?_
  refine sx_val (v := .pointer (some ⟨B1, 1, none⟩)) hA15 rfl (fb_Slots_1 (hA15.ev (i := 1) (v := .pointer (some ⟨B1, 0, none⟩))) _ rfl) ?_
  intro a16 hA16; clear hA15
  refine sx_val (v := .slice A2 bs.length c2) hA16 rfl (ev_cell (v := .slice A2 bs.length c2) (hA16.ev (i := 16) (v := .pointer (some ⟨B1, 1, none⟩))) ((hx1.cell 1).trans rfl) Try.underlying23 rfl _ rfl) ?_
  intro a17 hA17; clear hA16
  refine sx_val (v := .int .i64 (bs.length : Int)) hA17 rfl (ev_len (hA17.ev (i := 17) (v := .slice A2 bs.length c2)) Try.underlying23 _ rfl) ?_
  intro a18 hA18; clear hA17
  refine sx_val (v := .pointer (some ⟨B1, 0, none⟩)) hA18 rfl (fb_Slots_0 (hA18.ev (i := 1) (v := .pointer (some ⟨B1, 0, none⟩))) _ rfl) ?_
  intro a19 hA19; clear hA18
  refine sx_val (v := .slice A1 rs.length c1) hA19 rfl (ev_cell (v := .slice A1 rs.length c1) (hA19.ev (i := 19) (v := .pointer (some ⟨B1, 0, none⟩))) ((hx1.cell 0).trans rfl) Try.underlying22 rfl _ rfl) ?_
  intro a20 hA20; clear hA19
  refine sx_val (v := .int .i64 (rs.length : Int)) hA20 rfl (ev_len (hA20.ev (i := 20) (v := .slice A1 rs.length c1)) Try.underlying22 _ rfl) ?_
  intro a21 hA21; clear hA20
  cases hd22 : decide ((bs.length : Int) = (rs.length : Int))
  · have hp22 := of_decide_eq_false hd22
    refine sx_val (v := .bool true) hA21 rfl (ev_neqB (k := .i64) (m := (bs.length : Int)) (n := (rs.length : Int)) (hA21.ev (i := 18)) (hA21.ev (i := 21)) (by simpa using hd22) _ rfl) ?_
    intro a23 hA23; clear hA21
    refine sx_nil ?_
    refine then_n ?_
    refine wp_cond_true (hA23.ev (i := 22) (v := .bool true)) ?_
    refine wp_seq ?_
    refine wp_region_lit ?_
    refine sx_val hA23 rfl (ev_assign (ec _ (.int .i64 3)) _ rfl) ?_
    intro a24 hA24; clear hA23
    refine sx_val hA24 rfl (ev_assign (ec _ (.int .i64 0)) _ rfl) ?_
    intro a25 hA25; clear hA24
    refine sx_nil ?_
    refine then_n ?_
    refine wp_ret ?_
    refine then_r ?_
    refine bodyPost_ret (rs_tt (v := .int .i64 3) (v2 := .int .i64 0) Try.results20 hA25 (by kernel_rfl) (by kernel_rfl) ) hA25.2.1 ?_
    have hbel0_26 := Below.gN hbel0 hg1 hbel0.size
    have E : chs ⟨rs, bs⟩ = (3, 0) := by
      unfold chs
      rw [if_neg (by show ¬ (rs.length < 1 ∨ 256 < rs.length); omega), if_pos (by show bs.length ≠ rs.length; omega)]
    exact ⟨ret2 (by rw [E]), hbel0_26⟩
  have hp22 := of_decide_eq_true hd22
  refine sx_val (v := .bool false) hA21 rfl (ev_neqB (k := .i64) (m := (bs.length : Int)) (n := (rs.length : Int)) (hA21.ev (i := 18)) (hA21.ev (i := 21)) (by simpa using hd22) _ rfl) ?_
  intro a27 hA27; clear hA21
  refine sx_nil ?_
  refine then_n ?_
  refine wp_cond_false (hA27.ev (i := 22) (v := .bool false)) ?_
  refine wp_skip ?_
  refine then_n ?_
  refine wp_seq ?_
  refine wp_seq ?_
  refine wp_region_lit ?_
  refine sx_val (v := .pointer (some ⟨B1, 0, none⟩)) hA27 rfl (fb_Slots_0 (hA27.ev (i := 1) (v := .pointer (some ⟨B1, 0, none⟩))) _ rfl) ?_
  intro a28 hA28; clear hA27
  refine sx_val (v := .slice A1 rs.length c1) hA28 rfl (ev_cell (v := .slice A1 rs.length c1) (hA28.ev (i := 23) (v := .pointer (some ⟨B1, 0, none⟩))) ((hx1.cell 0).trans rfl) Try.underlying22 rfl _ rfl) ?_
  intro a29 hA29; clear hA28
  refine sx_val (v := .int .i64 (rs.length : Int)) hA29 rfl (ev_len (hA29.ev (i := 24) (v := .slice A1 rs.length c1)) Try.underlying22 _ rfl) ?_
  intro a30 hA30; clear hA29
  refine sx_val hA30 rfl (ev_move (ec _ (.int .i64 0)) _ rfl) ?_
  intro a31 hA31; clear hA30
  refine sx_nil ?_
  refine then_n ?_
  refine wp_block ?_
  have hbel0_33 := Below.gN hbel0 hg1 hbel0.size
  refine wp_loop_ghost (fun gz a wl => ∃ (k : Nat), gz = rs.length - k ∧ Ag a 39 [(24, .slice A1 rs.length c1), (25, .int .i64 (rs.length : Int)), (26, .int .i64 (k : Int))] ∧ k ≤ rs.length ∧ chs ⟨rs, bs⟩ = ckS rs k (rs.length - k) ∧ w1.heap.size ≤ wl.heap.size ∧ Below w.heap.size w wl) (rs.length - 0) ⟨0, rfl, ((((Ag.nil hA31.1 hA31.2.1).cons (hA31.get (i := 26) (v := .int .i64 0))).cons (hA31.get (i := 25) (v := .int .i64 (rs.length : Int)))).cons (hA31.get (i := 24) (v := .slice A1 rs.length c1))), Nat.zero_le _, (by unfold chs; rw [if_neg (by show ¬ (rs.length < 1 ∨ 256 < rs.length); omega), if_neg (by show ¬ (bs.length ≠ rs.length); omega)]; rfl), Nat.le_refl _, hbel0_33⟩ ?_
  intro n32 a32 w32 hI32
  obtain ⟨k, hn32, hA32, q32_0, q32_1, hsz32, hbel32⟩ := hI32
  subst hn32
  clear hA31
  cases hd34 : decide ((k : Int) < (rs.length : Int))
  · have hp34 := of_decide_eq_false hd34
    refine wp_seq ?_
    refine wp_region_lit ?_
    refine sx_val (v := .bool false) hA32 rfl (ev_lssB (k := .i64) (m := (k : Int)) (n := (rs.length : Int)) (hA32.ev (i := 26)) (hA32.ev (i := 25)) hd34 _ rfl) ?_
    intro a35 hA35; clear hA32
    refine sx_nil ?_
    refine then_n ?_
    refine wp_seq ?_
    refine wp_cond_false (hA35.ev (i := 27) (v := .bool false)) ?_
    refine wp_exit ?_
    refine then_x ?_
    refine then_x ?_
    refine blk_hit ?_
    refine then_n ?_
    refine wp_seq ?_
    refine wp_region_lit ?_
    refine sx_val hA35 rfl (ev_assign (ec _ (.int .i64 0)) _ rfl) ?_
    intro a36 hA36; clear hA35
    refine sx_val hA36 rfl (ev_assign (ec _ (.int .i64 0)) _ rfl) ?_
    intro a37 hA37; clear hA36
    refine sx_nil ?_
    refine then_n ?_
    refine wp_ret ?_
    refine bodyPost_ret (rs_tt (v := .int .i64 0) (v2 := .int .i64 0) Try.results20 hA37 (by kernel_rfl) (by kernel_rfl) ) hA37.2.1 ?_
    have E : chs ⟨rs, bs⟩ = (0, 0) := by
      rw [q32_1, show rs.length - k = 0 by omega]
      rfl
    exact ⟨ret2 (by rw [E]), hbel32⟩
  have hp34 := of_decide_eq_true hd34
  obtain ⟨x, hx⟩ : ∃ x, rs[k]? = some x := ⟨_, List.getElem?_eq_getElem (by omega)⟩
  refine wp_seq ?_
  refine wp_region_lit ?_
  refine sx_val (v := .bool true) hA32 rfl (ev_lssB (k := .i64) (m := (k : Int)) (n := (rs.length : Int)) (hA32.ev (i := 26)) (hA32.ev (i := 25)) hd34 _ rfl) ?_
  intro a38 hA38; clear hA32
  refine sx_nil ?_
  refine then_n ?_
  refine wp_seq ?_
  refine wp_cond_true (hA38.ev (i := 27) (v := .bool true)) ?_
  refine wp_skip ?_
  refine then_n ?_
  refine wp_seq ?_
  refine wp_block ?_
  refine wp_seq ?_
  refine wp_region_lit ?_
  refine sx_val hA38 rfl (ev_move (hA38.ev (i := 26) (v := .int .i64 (k : Int))) _ rfl) ?_
  intro a39 hA39; clear hA38
  obtain ⟨ad40, hAd40⟩ := GR.adr (hs.r.below hbel32) iva_sz hx
  refine sx_val (v := .pointer (some (ad40.add (k * 1)))) hA39 rfl (ev_idx (k := k) (hA39.ev (i := 24) (v := .slice A1 rs.length c1)) hAd40 (hA39.ev (i := 26) (v := .int .i64 (k : Int))) rfl (by omega) Try.underlying22 (by kernel_rfl) _ rfl) ?_
  intro a41 hA41; clear hA39
  refine sx_val (v := .int .i64 x) hA41 rfl (ev_cell (hA41.ev (i := 29) (v := .pointer (some (ad40.add (k * 1))))) ((GR.cel (hs.r.below hbel32) hAd40 iva_sz hx) 0 _ rfl) Try.underlying3 rfl _ rfl) ?_
  intro a42 hA42; clear hA41
  refine sx_val hA42 rfl (ev_assign (hA42.ev (i := 28) (v := .int .i64 (k : Int))) _ rfl) ?_
  intro a43 hA43; clear hA42
  refine sx_val hA43 rfl (ev_assign (hA43.ev (i := 30) (v := .int .i64 x)) _ rfl) ?_
  intro a44 hA44; clear hA43
  refine sx_nil ?_
  refine then_n ?_
  refine wp_seq ?_
  refine wp_region_lit ?_
  refine sx_val hA44 rfl (ev_move (hA44.ev (i := 5) (v := .int .i64 x)) _ rfl) ?_
  intro a45 hA45; clear hA44
  cases hd46 : decide (x < 0)
  rotate_left
  · have hp46 := of_decide_eq_true hd46
    refine sx_val (v := .bool true) hA45 rfl (ev_lssB (k := .i64) (m := x) (n := 0) (hA45.ev (i := 31)) (ec _ (.int .i64 0)) hd46 _ rfl) ?_
    intro a60 hA60; clear hA45
    refine sx_val hA60 rfl (ev_move (hA60.ev (i := 32) (v := .bool true)) _ rfl) ?_
    intro a61 hA61; clear hA60
    refine sx_no (j := 2) (s := 33) (want := false) (b := true) hA61 rfl ?_
    intro a62 hA62; clear hA61
    refine sx_no (j := 2) (s := 33) (want := false) (b := true) hA62 rfl ?_
    intro a63 hA63; clear hA62
    refine sx_val hA63 rfl (ev_pickT (hA63.ev (i := 33) (v := .bool true)) (ec _ (.bool true)) _ rfl) ?_
    intro a64 hA64; clear hA63
    refine sx_nil ?_
    refine then_n ?_
    refine wp_cond_true (hA64.ev (i := 36) (v := .bool true)) ?_
    refine wp_seq ?_
    refine wp_region_lit ?_
    refine sx_val hA64 rfl (ev_move (hA64.ev (i := 4) (v := .int .i64 (k : Int))) _ rfl) ?_
    intro a65 hA65; clear hA64
    refine sx_val hA65 rfl (ev_assign (ec _ (.int .i64 15)) _ rfl) ?_
    intro a66 hA66; clear hA65
    refine sx_val hA66 rfl (ev_assign (hA66.ev (i := 37) (v := .int .i64 (k : Int))) _ rfl) ?_
    intro a67 hA67; clear hA66
    refine sx_nil ?_
    refine then_n ?_
    refine wp_ret ?_
    refine blk_r ?_
    refine then_r ?_
    refine then_r ?_
    refine blk_r ?_
    refine then_r ?_
    refine bodyPost_ret (rs_tt (v := .int .i64 15) (v2 := .int .i64 (k : Int)) Try.results20 hA67 (by kernel_rfl) (by kernel_rfl) ) hA67.2.1 ?_
    have E : chs ⟨rs, bs⟩ = (15, (k : Int)) := by
      rw [q32_1, ckS_step hx (by omega), if_pos (by omega)]
    exact ⟨ret2 (by rw [E]), hbel32⟩
  have hp46 := of_decide_eq_false hd46
  refine sx_val (v := .bool false) hA45 rfl (ev_lssB (k := .i64) (m := x) (n := 0) (hA45.ev (i := 31)) (ec _ (.int .i64 0)) hd46 _ rfl) ?_
  intro a47 hA47; clear hA45
  refine sx_val hA47 rfl (ev_move (hA47.ev (i := 32) (v := .bool false)) _ rfl) ?_
  intro a48 hA48; clear hA47
  refine sx_val (hg := (.inr ⟨2, false, 33, rfl, rfl, by kernel_rfl⟩)) hA48 rfl (ev_move (hA48.ev (i := 5) (v := .int .i64 x)) _ rfl) ?_
  intro a49 hA49; clear hA48
  cases hd50 : decide (512 < x)
  · have hp50 := of_decide_eq_false hd50
    refine sx_val (hg := (.inr ⟨2, false, 33, rfl, rfl, by kernel_rfl⟩)) (v := .bool false) hA49 rfl (ev_gtrB (k := .i64) (m := x) (n := 512) (hA49.ev (i := 34)) (ec _ (.int .i64 512)) hd50 _ rfl) ?_
    intro a51 hA51; clear hA49
    refine sx_val hA51 rfl (ev_pickF (hA51.ev (i := 33) (v := .bool false)) (hA51.ev (i := 35) (v := .bool false)) _ rfl) ?_
    intro a52 hA52; clear hA51
    refine sx_nil ?_
    refine then_n ?_
    refine wp_cond_false (hA52.ev (i := 36) (v := .bool false)) ?_
    refine wp_skip ?_
    refine blk_n ?_
    refine then_n ?_
    refine wp_region_lit ?_
    refine sx_val (v := .int .i64 ((k + 1 : Nat) : Int)) hA52 rfl (ev_addR (k := .i64) (m := (k : Int)) (n := 1) (r := ((k + 1 : Nat) : Int)) (hA52.ev (i := 26)) (ec _ (.int .i64 1)) (wr (by omega) (by omega) (by omega)) _ rfl) ?_
    intro a53 hA53; clear hA52
    refine sx_val hA53 rfl (ev_move (hA53.ev (i := 38) (v := .int .i64 ((k + 1 : Nat) : Int))) _ rfl) ?_
    intro a54 hA54; clear hA53
    refine sx_nil ?_
    refine then_n ?_
    refine ⟨rs.length - (k + 1), by omega, k + 1, rfl, ((((Ag.nil hA54.1 hA54.2.1).cons (hA54.get (i := 26) (v := .int .i64 ((k + 1 : Nat) : Int)))).cons (hA54.get (i := 25) (v := .int .i64 (rs.length : Int)))).cons (hA54.get (i := 24) (v := .slice A1 rs.length c1))), by omega, by rw [q32_1, ckS_step hx (by omega), if_neg (by omega)], by omega, hbel32⟩
  have hp50 := of_decide_eq_true hd50
  refine sx_val (hg := (.inr ⟨2, false, 33, rfl, rfl, by kernel_rfl⟩)) (v := .bool true) hA49 rfl (ev_gtrB (k := .i64) (m := x) (n := 512) (hA49.ev (i := 34)) (ec _ (.int .i64 512)) hd50 _ rfl) ?_
  intro a55 hA55; clear hA49
  refine sx_val hA55 rfl (ev_pickF (hA55.ev (i := 33) (v := .bool false)) (hA55.ev (i := 35) (v := .bool true)) _ rfl) ?_
  intro a56 hA56; clear hA55
  refine sx_nil ?_
  refine then_n ?_
  refine wp_cond_true (hA56.ev (i := 36) (v := .bool true)) ?_
  refine wp_seq ?_
  refine wp_region_lit ?_
  refine sx_val hA56 rfl (ev_move (hA56.ev (i := 4) (v := .int .i64 (k : Int))) _ rfl) ?_
  intro a57 hA57; clear hA56
  refine sx_val hA57 rfl (ev_assign (ec _ (.int .i64 15)) _ rfl) ?_
  intro a58 hA58; clear hA57
  refine sx_val hA58 rfl (ev_assign (hA58.ev (i := 37) (v := .int .i64 (k : Int))) _ rfl) ?_
  intro a59 hA59; clear hA58
  refine sx_nil ?_
  refine then_n ?_
  refine wp_ret ?_
  refine blk_r ?_
  refine then_r ?_
  refine then_r ?_
  refine blk_r ?_
  refine then_r ?_
  refine bodyPost_ret (rs_tt (v := .int .i64 15) (v2 := .int .i64 (k : Int)) Try.results20 hA59 (by kernel_rfl) (by kernel_rfl) ) hA59.2.1 ?_
  have E : chs ⟨rs, bs⟩ = (15, (k : Int)) := by
    rw [q32_1, ckS_step hx (by omega), if_pos (by omega)]
  exact ⟨ret2 (by rw [E]), hbel32⟩

set_option maxHeartbeats 2000000 in
theorem New_any (n : Int) (w : World) : Calls Try.prog 28 #[.int .i64 n] w (RSl w (nws n).1 fun v => .tuple #[v, .int .i64 (nws n).2]) := by
  have hbel0 := below0 w
  refine sx_enter (N := 16) [(0, .int .i64 n)] Try.func28 rfl Try.ntmps28 (by simp) (fun a z d s => ((Ag.nil z d).cons (s 0 _ rfl))) ?_
  intro a0 hA0
  refine wp_seq ?_
  refine wp_region_lit ?_
  refine sx_new (cs := #[.slice none 0 0, .slice none 0 0]) (t := 25) hA0 rfl (by decide) (.inl rfl) (ev_alloc (z := .agg (#[.slice none 0 0, .slice none 0 0])) (by kernel_rfl) (by kernel_rfl) _ rfl) ?_
  intro B1 w1 a1 hB1 hx1 hg1 hA1
  clear hA0
  have hs1 := hg1.size
  have hl1 := hx1.lt
  refine sx_val hA1 rfl (ev_assign (ec _ (.int .i64 0)) _ rfl) ?_
  intro a2 hA2; clear hA1
  refine sx_nil ?_
  refine then_n ?_
  refine wp_seq ?_
  refine wp_seq ?_
  refine wp_region_lit ?_
  refine sx_val hA2 rfl (ev_move (hA2.ev (i := 0) (v := .int .i64 n)) _ rfl) ?_
  intro a3 hA3; clear hA2
  cases hd4 : decide (n < 1)
  rotate_left
  · have hp4 := of_decide_eq_true hd4
    refine sx_val (v := .bool true) hA3 rfl (ev_lssB (k := .i64) (m := n) (n := 1) (hA3.ev (i := 4)) (ec _ (.int .i64 1)) hd4 _ rfl) ?_
    intro a20 hA20; clear hA3
    refine sx_val hA20 rfl (ev_move (hA20.ev (i := 5) (v := .bool true)) _ rfl) ?_
    intro a21 hA21; clear hA20
    refine sx_no (j := 2) (s := 6) (want := false) (b := true) hA21 rfl ?_
    intro a22 hA22; clear hA21
    refine sx_no (j := 2) (s := 6) (want := false) (b := true) hA22 rfl ?_
    intro a23 hA23; clear hA22
    refine sx_val hA23 rfl (ev_pickT (hA23.ev (i := 6) (v := .bool true)) (ec _ (.bool true)) _ rfl) ?_
    intro a24 hA24; clear hA23
    refine sx_nil ?_
    refine then_n ?_
    refine wp_cond_true (hA24.ev (i := 9) (v := .bool true)) ?_
    refine wp_seq ?_
    refine wp_region_lit ?_
    refine sx_val (v := .agg #[.slice none 0 0, .slice none 0 0]) hA24 rfl (bd0_Slots _ rfl) ?_
    intro a25 hA25; clear hA24
    refine sx_store hA25 rfl (.inl rfl) rfl (hA25.ev (i := 2) (v := .pointer (some ⟨B1, 0, none⟩))) (hA25.ev (i := 10) (v := .agg #[.slice none 0 0, .slice none 0 0])) hx1 (by kernel_rfl) rfl (by simp [Value.oneCell']) ?_
    intro w26 hx26 hg26
    have hs26 := hg26.size
    refine sx_val hA25 rfl (ev_assign (ec _ (.int .i64 2)) _ rfl) ?_
    intro a27 hA27; clear hA25
    refine sx_nil ?_
    refine then_n ?_
    refine wp_ret ?_
    refine then_r ?_
    refine bodyPost_ret (rs_ct (v := .int .i64 2) Try.results28 hA27 (by kernel_rfl) (by kernel_rfl) hx26 Try.underlying25 rfl (by kernel_rfl)) hA27.2.1 ?_
    have E : nws n = (Ss.nil, 2) := if_pos (by omega)
    rw [E]
    have hbel0_28 := Below.gN hbel0 hg1 hbel0.size
    have hbel0_29 := Below.gB hbel0_28 hg26 hbel0_28.size (by omega)
    exact ⟨none, 0, none, 0, rfl, Own.nil _ _ _ 1, Own.nil _ _ _ 1, hbel0_29⟩
  have hp4 := of_decide_eq_false hd4
  refine sx_val (v := .bool false) hA3 rfl (ev_lssB (k := .i64) (m := n) (n := 1) (hA3.ev (i := 4)) (ec _ (.int .i64 1)) hd4 _ rfl) ?_
  intro a5 hA5; clear hA3
  refine sx_val hA5 rfl (ev_move (hA5.ev (i := 5) (v := .bool false)) _ rfl) ?_
  intro a6 hA6; clear hA5
  refine sx_val (hg := (.inr ⟨2, false, 6, rfl, rfl, by kernel_rfl⟩)) hA6 rfl (ev_move (hA6.ev (i := 0) (v := .int .i64 n)) _ rfl) ?_
  intro a7 hA7; clear hA6
  cases hd8 : decide (256 < n)
  rotate_left
  · have hp8 := of_decide_eq_true hd8
    refine sx_val (hg := (.inr ⟨2, false, 6, rfl, rfl, by kernel_rfl⟩)) (v := .bool true) hA7 rfl (ev_gtrB (k := .i64) (m := n) (n := 256) (hA7.ev (i := 7)) (ec _ (.int .i64 256)) hd8 _ rfl) ?_
    intro a13 hA13; clear hA7
    refine sx_val hA13 rfl (ev_pickF (hA13.ev (i := 6) (v := .bool false)) (hA13.ev (i := 8) (v := .bool true)) _ rfl) ?_
    intro a14 hA14; clear hA13
    refine sx_nil ?_
    refine then_n ?_
    refine wp_cond_true (hA14.ev (i := 9) (v := .bool true)) ?_
    refine wp_seq ?_
    refine wp_region_lit ?_
    refine sx_val (v := .agg #[.slice none 0 0, .slice none 0 0]) hA14 rfl (bd0_Slots _ rfl) ?_
    intro a15 hA15; clear hA14
    refine sx_store hA15 rfl (.inl rfl) rfl (hA15.ev (i := 2) (v := .pointer (some ⟨B1, 0, none⟩))) (hA15.ev (i := 10) (v := .agg #[.slice none 0 0, .slice none 0 0])) hx1 (by kernel_rfl) rfl (by simp [Value.oneCell']) ?_
    intro w16 hx16 hg16
    have hs16 := hg16.size
    refine sx_val hA15 rfl (ev_assign (ec _ (.int .i64 2)) _ rfl) ?_
    intro a17 hA17; clear hA15
    refine sx_nil ?_
    refine then_n ?_
    refine wp_ret ?_
    refine then_r ?_
    refine bodyPost_ret (rs_ct (v := .int .i64 2) Try.results28 hA17 (by kernel_rfl) (by kernel_rfl) hx16 Try.underlying25 rfl (by kernel_rfl)) hA17.2.1 ?_
    have E : nws n = (Ss.nil, 2) := if_pos (by omega)
    rw [E]
    have hbel0_18 := Below.gN hbel0 hg1 hbel0.size
    have hbel0_19 := Below.gB hbel0_18 hg16 hbel0_18.size (by omega)
    exact ⟨none, 0, none, 0, rfl, Own.nil _ _ _ 1, Own.nil _ _ _ 1, hbel0_19⟩
  have hp8 := of_decide_eq_false hd8
  refine sx_val (hg := (.inr ⟨2, false, 6, rfl, rfl, by kernel_rfl⟩)) (v := .bool false) hA7 rfl (ev_gtrB (k := .i64) (m := n) (n := 256) (hA7.ev (i := 7)) (ec _ (.int .i64 256)) hd8 _ rfl) ?_
  intro a9 hA9; clear hA7
  refine sx_val hA9 rfl (ev_pickF (hA9.ev (i := 6) (v := .bool false)) (hA9.ev (i := 8) (v := .bool false)) _ rfl) ?_
  intro a10 hA10; clear hA9
  refine sx_nil ?_
  refine then_n ?_
  refine wp_cond_false (hA10.ev (i := 9) (v := .bool false)) ?_
  refine wp_skip ?_
  refine then_n ?_
  refine wp_seq ?_
  have hbel0_11 := Below.gN hbel0 hg1 hbel0.size
  refine region_D (n := 7) (by kernel_rfl) (by kernel_rfl) rfl (fun L ac wc => ∃ Am1r3 : Option Addr, ∃ Am3r3 : Option Addr, Below w.heap.size w wc ∧ w1.heap.size ≤ wc.heap.size ∧ Bx wc B1 25 (bif L 5 then (#[.slice Am1r3 n.toNat n.toNat, .slice Am3r3 n.toNat n.toNat]) else (#[.slice none 0 0, .slice none 0 0])) ∧ (L 1 = true → Own wc w1.heap.size 3 1 (.slice Am1r3 n.toNat n.toNat) n.toNat (flat iva (List.replicate n.toNat (0 : Int)))) ∧ (L 3 = true → Own wc w1.heap.size 4 1 (.slice Am3r3 n.toNat n.toNat) n.toNat (flat bva (List.replicate n.toNat false))) ∧ (L 4 = true → L 1 = true) ∧ (L 5 = true → L 1 = true) ∧ (L 4 = true → L 3 = true) ∧ (L 5 = true → L 3 = true) ∧ (L 0 = true → Sv ac 11 (.int .i64 n)) ∧ (L 1 = true → Sv ac 12 (.slice Am1r3 n.toNat n.toNat)) ∧ (L 2 = true → Sv ac 13 (.int .i64 n)) ∧ (L 3 = true → Sv ac 14 (.slice Am3r3 n.toNat n.toNat)) ∧ (L 4 = true → Sv ac 15 (.agg #[.slice Am1r3 n.toNat n.toNat, .slice Am3r3 n.toNat n.toNat])) ∧ (L 6 = true → Sv ac 3 (.int .i64 0))) ⟨none, none, (Below.gN hbel0_11 (gdr _) hbel0_11.size), (Nat.le_refl _), (hx1.gN (gdr _)), (fun h => by cases h), (fun h => by cases h), (fun h => by cases h), (fun h => by cases h), (fun h => by cases h), (fun h => by cases h), (fun h => by cases h), (fun h => by cases h), (fun h => by cases h), (fun h => by cases h), (fun h => by cases h), (fun h => by cases h)⟩ ?_ ?_
  · intro iq hiq o ho L hL hdep ac wc hF hJ
    obtain ⟨Am1r3, Am3r3, bl, sz, b_B1, a_1, a_3, cl_4_1, cl_5_1, cl_4_3, cl_5_3, s_11, s_12, s_13, s_14, s_15, s_3⟩ := hJ
    have zq := hF.1.trans hA10.1
    match iq, hiq with
    | 0, _ =>
      obtain rfl := Option.some.inj (show some _ = some o from ho); clear ho
      have v0 := hF.sv (s := 0) (by kernel_rfl) (hA10.get (i := 0) (v := .int .i64 n))
      refine dj_val (i := 0) (v := .int .i64 n) rfl (.inl rfl) (ev_move v0.eval _ rfl) ?_
      exact ⟨⟨_, rfl⟩, Am1r3, Am3r3, bl, sz, b_B1, a_1, a_3, cl_4_1, cl_5_1, cl_4_3, cl_5_3, (fun _ => Sv.self (by rw [zq]; decide) _), (so s_12), (so s_13), (so s_14), (so s_15), (so s_3)⟩
    | 1, _ =>
      obtain rfl := Option.some.inj (show some _ = some o from ho); clear ho
      have v11 := s_11 (dp hdep 0)
      have e1 := v11.eval
      have e2 := v11.eval
      obtain ⟨Am1r3, wq2, hrun, hown, hg⟩ := run_mk (w := wc) (va := iva) (x0 := (0 : Int)) (n := n.toNat) (z := .int .i64 0) (size := 1) (bytes := 8) (P := Try.prog) (m := n) (m2 := n) (by omega) (by omega) Try.underlying22 (by kernel_rfl) rfl iva_sz (by decide) (by omega) (by omega)
      replace hown : Own wq2 w1.heap.size 3 1 (.slice Am1r3 n.toNat n.toNat) n.toNat (flat iva (List.replicate n.toNat (0 : Int))) := Own.mono hown sz
      refine dj_val (i := 1) (v := .slice Am1r3 n.toNat n.toNat) (w' := wq2) rfl (.inl rfl) (by simp only [execOp, e1, e2, Sem.run_bind, hrun, Result.andThen_ok, Sem.run_pure]) ?_
      exact ⟨⟨_, rfl⟩, Am1r3, Am3r3, (Below.gN bl hg bl.size), (Nat.le_trans sz hg.size), (by
          have e0 : L 5 = false := by
            cases hc : L 5
            · rfl
            · exact absurd (cl_5_1 hc) (by rw [hL]; decide)
          have h0 := b_B1.gN hg
          rw [e0] at h0
          show Bx _ _ _ (bif L 5 then _ else _)
          rw [e0]
          exact h0), (fun _ => hown), (fun h => Own.gN (a_3 h) hg), (fun _ => rfl), (fun _ => rfl), cl_4_3, cl_5_3, (so s_11), (fun _ => Sv.self (by rw [zq]; decide) _), (so s_13), (so s_14), (fun h => absurd (cl_4_1 h) (by rw [hL]; decide)), (so s_3)⟩
    | 2, _ =>
      obtain rfl := Option.some.inj (show some _ = some o from ho); clear ho
      have v0 := hF.sv (s := 0) (by kernel_rfl) (hA10.get (i := 0) (v := .int .i64 n))
      refine dj_val (i := 2) (v := .int .i64 n) rfl (.inl rfl) (ev_move v0.eval _ rfl) ?_
      exact ⟨⟨_, rfl⟩, Am1r3, Am3r3, bl, sz, b_B1, a_1, a_3, cl_4_1, cl_5_1, cl_4_3, cl_5_3, (so s_11), (so s_12), (fun _ => Sv.self (by rw [zq]; decide) _), (so s_14), (so s_15), (so s_3)⟩
    | 3, _ =>
      obtain rfl := Option.some.inj (show some _ = some o from ho); clear ho
      have v13 := s_13 (dp hdep 2)
      have e1 := v13.eval
      have e2 := v13.eval
      obtain ⟨Am3r3, wq2, hrun, hown, hg⟩ := run_mk (w := wc) (va := bva) (x0 := false) (n := n.toNat) (z := .bool false) (size := 1) (bytes := 1) (P := Try.prog) (m := n) (m2 := n) (by omega) (by omega) Try.underlying23 (by kernel_rfl) rfl bva_sz (by decide) (by omega) (by omega)
      replace hown : Own wq2 w1.heap.size 4 1 (.slice Am3r3 n.toNat n.toNat) n.toNat (flat bva (List.replicate n.toNat false)) := Own.mono hown sz
      refine dj_val (i := 3) (v := .slice Am3r3 n.toNat n.toNat) (w' := wq2) rfl (.inl rfl) (by simp only [execOp, e1, e2, Sem.run_bind, hrun, Result.andThen_ok, Sem.run_pure]) ?_
      exact ⟨⟨_, rfl⟩, Am1r3, Am3r3, (Below.gN bl hg bl.size), (Nat.le_trans sz hg.size), (by
          have e0 : L 5 = false := by
            cases hc : L 5
            · rfl
            · exact absurd (cl_5_3 hc) (by rw [hL]; decide)
          have h0 := b_B1.gN hg
          rw [e0] at h0
          show Bx _ _ _ (bif L 5 then _ else _)
          rw [e0]
          exact h0), (fun h => Own.gN (a_1 h) hg), (fun _ => hown), cl_4_1, cl_5_1, (fun _ => rfl), (fun _ => rfl), (so s_11), (so s_12), (so s_13), (fun _ => Sv.self (by rw [zq]; decide) _), (fun h => absurd (cl_4_3 h) (by rw [hL]; decide)), (so s_3)⟩
    | 4, _ =>
      obtain rfl := Option.some.inj (show some _ = some o from ho); clear ho
      have v12 := s_12 (dp hdep 1)
      have v14 := s_14 (dp hdep 3)
      refine dj_val (i := 4) (v := .agg #[.slice Am1r3 n.toNat n.toNat, .slice Am3r3 n.toNat n.toNat]) rfl (.inl rfl) (bd_Slots_0_1 v12.eval v14.eval _ rfl) ?_
      exact ⟨⟨_, rfl⟩, Am1r3, Am3r3, bl, sz, b_B1, a_1, a_3, (fun _ => dp hdep 1), cl_5_1, (fun _ => dp hdep 3), cl_5_3, (so s_11), (so s_12), (so s_13), (so s_14), (fun _ => Sv.self (by rw [zq]; decide) _), (so s_3)⟩
    | 5, _ =>
      obtain rfl := Option.some.inj (show some _ = some o from ho); clear ho
      have v2 := hF.sv (s := 2) (by kernel_rfl) (hA10.get (i := 2) (v := .pointer (some ⟨B1, 0, none⟩)))
      have v15 := s_15 (dp hdep 4)
      have eB1 : L 5 = false := hL
      have yB1 := b_B1
      rw [eB1] at yB1
      refine dj_skip (i := 5) rfl rfl (.inl rfl) (w' := wc.setRow B1 (#[.slice Am1r3 n.toNat n.toNat, .slice Am3r3 n.toNat n.toNat])) (ev_srow v2.eval v15.eval yB1 (n := 2) (by kernel_rfl) rfl rfl (by simp [Value.oneCell']) _ rfl) ?_
      have hg := grw yB1 (#[.slice Am1r3 n.toNat n.toNat, .slice Am3r3 n.toNat n.toNat])
      have hx := yB1.row (#[.slice Am1r3 n.toNat n.toNat, .slice Am3r3 n.toNat n.toNat])
      exact ⟨⟨undef, rfl⟩, Am1r3, Am3r3, (Below.gB bl hg bl.size (by omega)), (Nat.le_trans sz hg.size), hx, (fun h => Own.gBT (a_1 h) hg yB1 (by decide)), (fun h => Own.gBT (a_3 h) hg yB1 (by decide)), cl_4_1, (fun _ => cl_4_1 (dp hdep 4)), cl_4_3, (fun _ => cl_4_3 (dp hdep 4)), s_11, s_12, s_13, s_14, s_15, s_3⟩
    | 6, _ =>
      obtain rfl := Option.some.inj (show some _ = some o from ho); clear ho
      refine dj_val (i := 6) (v := .int .i64 0) rfl (.inl rfl) (ev_assign (ec ac (.int .i64 0)) _ rfl) ?_
      exact ⟨⟨_, rfl⟩, Am1r3, Am3r3, bl, sz, b_B1, a_1, a_3, cl_4_1, cl_5_1, cl_4_3, cl_5_3, (so s_11), (so s_12), (so s_13), (so s_14), (so s_15), (fun _ => Sv.self (by rw [zq]; decide) _)⟩
    | k + 7, h => exact absurd h (by omega)
  · intro L hall ac12 wc12 hF hJ
    obtain ⟨Am1r3, Am3r3, bl, sz, b_B1, a_1, a_3, cl_4_1, cl_5_1, cl_4_3, cl_5_3, s_11, s_12, s_13, s_14, s_15, s_3⟩ := hJ
    have hA12 : Ag ac12 16 [(2, .pointer (some ⟨B1, 0, none⟩)), (3, .int .i64 0)] := (((Ag.nil (hF.1.trans hA10.1) (hF.2.1.trans hA10.2.1)).cons (s_3 (hall 6 (by decide)))).cons (hF.sv (s := 2) (by kernel_rfl) (hA10.get (i := 2) (v := .pointer (some ⟨B1, 0, none⟩)))))
    have bl12 := bl
    have sz12 := sz
    have b12_B1 : Bx wc12 B1 25 (#[.slice Am1r3 n.toNat n.toNat, .slice Am3r3 n.toNat n.toNat]) := by
      have h := b_B1
      rw [hall 5 (by decide)] at h
      exact h
    have a12_1 := a_1 (hall 1 (by decide))
    have hha12_1 := Own.hi a12_1
    have a12_3 := a_3 (hall 3 (by decide))
    have hha12_3 := Own.hi a12_3
    clear hF bl sz b_B1 a_1 a_3 cl_4_1 cl_5_1 cl_4_3 cl_5_3 s_11 s_12 s_13 s_14 s_15 s_3 hall hA10
    refine then_n ?_
    refine wp_ret ?_
    refine bodyPost_ret (rs_ct (v := .int .i64 0) Try.results28 hA12 (by kernel_rfl) (by kernel_rfl) b12_B1 Try.underlying25 rfl (by kernel_rfl)) hA12.2.1 ?_
    have E : nws n = (⟨List.replicate n.toNat 0, List.replicate n.toNat false⟩, 0) := if_neg (by omega)
    rw [E]
    refine ⟨Am1r3, n.toNat, Am3r3, n.toNat, ?_, ?_, ?_, bl12⟩
    · simp only [List.length_replicate]
    · simp only [List.length_replicate]; exact Own.mono a12_1 (by omega)
    · simp only [List.length_replicate]; exact Own.mono a12_3 (by omega)
end Go.Proofs.Ytpoilgfblhacaaa
