/- The reference of disk: All. -/
import Derived.Test.YtbkdimildnahaaaDX
namespace Go.Proofs.Ytbkdimildnahaaa
open Go.RowKit
set_option linter.unusedVariables false
set_option maxRecDepth 100000

set_option maxHeartbeats 8000000 in
theorem sAll_any (A1 : Option Addr) (c1 : Nat) (A2 : Option Addr) (c2 : Nat) (cs : List Ct) (js : List Jb) (room : Int) (w : World) (hd : GD w A1 c1 A2 c2 cs js) (hl : cs.length ≤ 900000) (hj : js.length ≤ 900000) : Calls Try.prog 20 #[.agg #[.slice A1 cs.length c1, .slice A2 js.length c2, .int .i64 room]] w (RetDL w (all ⟨cs, js, room⟩)) := by
  have hbel0 := below0 w
  refine sx_enter (N := 40) [(0, .agg #[.slice A1 cs.length c1, .slice A2 js.length c2, .int .i64 room])] Try.func20 rfl Try.ntmps20 (by simp) (fun a z d s => ((Ag.nil z d).cons (s 0 _ rfl))) ?_
  intro a0 hA0
  refine wp_seq ?_
  refine wp_region_lit ?_
  refine sx_new (cs := #[.slice A1 cs.length c1, .slice A2 js.length c2, .int .i64 room]) (t := 25) hA0 rfl (by decide) (.inl rfl) (ev_box (hA0.ev (i := 0) (v := .agg #[.slice A1 cs.length c1, .slice A2 js.length c2, .int .i64 room])) rfl _ rfl) ?_
  intro B1 w1 a1 hB1 hx1 hg1 hA1
  clear hA0
  have hs1 := hg1.size
  have hl1 := hx1.lt
  refine sx_new (cs := #[.slice none 0 0, .slice none 0 0, .int .i64 0]) (t := 25) hA1 rfl (by decide) (.inl rfl) (ev_alloc (z := .agg (#[.slice none 0 0, .slice none 0 0, .int .i64 0])) (by kernel_rfl) (by kernel_rfl) _ rfl) ?_
  intro B2 w2 a2 hB2 hx2 hg2 hA2
  clear hA1
  have hs2 := hg2.size
  have hl2 := hx2.lt
  refine sx_val hA2 rfl (ev_assign (ec _ (.slice none 0 0)) _ rfl) ?_
  intro a3 hA3; clear hA2
  refine sx_val hA3 rfl (ev_assign (ec _ (.int .i64 0)) _ rfl) ?_
  intro a4 hA4; clear hA3
  refine sx_nil ?_
  refine then_n ?_
  refine wp_seq ?_
  refine wp_region_lit ?_
  have hx1_5 := hx1.gN hg2
  refine sx_val (v := .agg #[.slice A1 cs.length c1, .slice A2 js.length c2, .int .i64 room]) hA4 rfl (ev_row (hA4.ev (i := 1) (v := .pointer (some ⟨B1, 0, none⟩))) hx1_5 Try.underlying25 rfl (n := 3) (by kernel_rfl) rfl _ rfl) ?_
  intro a6 hA6; clear hA4
  have hbel0_8 := Below.gN hbel0 hg1 hbel0.size
  have hbel0_9 := Below.gN hbel0_8 hg2 hbel0_8.size
  refine sx_call (f := 25) (args := #[.agg #[.slice A1 cs.length c1, .slice A2 js.length c2, .int .i64 room]]) hA6 rfl (by decide) (.inl rfl) (ev_fn rfl (mp1 (hA6.ev (i := 13) (v := .agg #[.slice A1 cs.length c1, .slice A2 js.length c2, .int .i64 room]))) (by kernel_rfl) _ rfl) (sCheck_any A1 c1 A2 c2 cs js room _ ⟨(hd.s.below hbel0_9), (hd.j.below hbel0_9)⟩ (by omega)) ?_
  intro e7 w7 hR7
  obtain ⟨rfl, hb7⟩ := hR7
  refine ⟨_, rfl, ?_⟩
  intro a7 hA7
  clear hA6
  have hg7 := g0 hb7
  have hs7 := hg7.size
  clear hb7
  refine sx_val hA7 rfl (ev_move (hA7.ev (i := 14) (v := .tuple #[.int .i64 (chk ⟨cs, js, room⟩).1, .int .i64 (chk ⟨cs, js, room⟩).2])) _ rfl) ?_
  intro a10 hA10; clear hA7
  refine sx_val (v := .int .i64 (chk ⟨cs, js, room⟩).1) hA10 rfl (ev_ext (hA10.ev (i := 12) (v := .tuple #[.int .i64 (chk ⟨cs, js, room⟩).1, .int .i64 (chk ⟨cs, js, room⟩).2])) rfl _ rfl) ?_
  intro a11 hA11; clear hA10
  refine sx_val (v := .int .i64 (chk ⟨cs, js, room⟩).2) hA11 rfl (ev_ext (hA11.ev (i := 12) (v := .tuple #[.int .i64 (chk ⟨cs, js, room⟩).1, .int .i64 (chk ⟨cs, js, room⟩).2])) rfl _ rfl) ?_
  intro a12 hA12; clear hA11
  refine sx_val hA12 rfl (ev_assign (hA12.ev (i := 15) (v := .int .i64 (chk ⟨cs, js, room⟩).1)) _ rfl) ?_
  intro a13 hA13; clear hA12
  refine sx_val hA13 rfl (ev_assign (hA13.ev (i := 16) (v := .int .i64 (chk ⟨cs, js, room⟩).2)) _ rfl) ?_
  intro a14 hA14; clear hA13
  refine sx_nil ?_
  refine then_n ?_
  refine wp_seq ?_
  refine wp_seq ?_
  refine wp_region_lit ?_
  refine sx_val hA14 rfl (ev_move (hA14.ev (i := 5) (v := .int .i64 (chk ⟨cs, js, room⟩).1)) _ rfl) ?_
  intro a15 hA15; clear hA14
  cases hd16 : decide ((chk ⟨cs, js, room⟩).1 = 0)
  · have hp16 := of_decide_eq_false hd16
    refine sx_val (v := .bool true) hA15 rfl (ev_neqB (k := .i64) (m := (chk ⟨cs, js, room⟩).1) (n := 0) (hA15.ev (i := 17)) (ec _ (.int .i64 0)) (by simpa using hd16) _ rfl) ?_
    intro a17 hA17; clear hA15
    refine sx_nil ?_
    refine then_n ?_
    refine wp_cond_true (hA17.ev (i := 18) (v := .bool true)) ?_
    refine wp_seq ?_
    refine wp_region_lit ?_
    refine sx_val (v := .agg #[.slice none 0 0, .slice none 0 0, .int .i64 0]) hA17 rfl (bd0_Disk _ rfl) ?_
    intro a18 hA18; clear hA17
    refine sx_val hA18 rfl (ev_move (hA18.ev (i := 5) (v := .int .i64 (chk ⟨cs, js, room⟩).1)) _ rfl) ?_
    intro a19 hA19; clear hA18
    have hx2_21 := hx2.gN hg7
    refine sx_store hA19 rfl (.inl rfl) rfl (hA19.ev (i := 2) (v := .pointer (some ⟨B2, 0, none⟩))) (hA19.ev (i := 19) (v := .agg #[.slice none 0 0, .slice none 0 0, .int .i64 0])) hx2_21 (by kernel_rfl) rfl (dk_one _ _ _ _ _ _ _) ?_
    intro w20 hx20 hg20
    have hs20 := hg20.size
    refine sx_val hA19 rfl (ev_assign (ec _ (.slice none 0 0)) _ rfl) ?_
    intro a22 hA22; clear hA19
    refine sx_val hA22 rfl (ev_assign (hA22.ev (i := 20) (v := .int .i64 (chk ⟨cs, js, room⟩).1)) _ rfl) ?_
    intro a23 hA23; clear hA22
    refine sx_nil ?_
    refine then_n ?_
    refine wp_ret ?_
    refine then_r ?_
    refine bodyPost_ret (rs_ctt (v := .slice none 0 0) (v2 := .int .i64 (chk ⟨cs, js, room⟩).1) Try.results20 hA23 (by kernel_rfl) (by kernel_rfl) (by kernel_rfl) hx20 Try.underlying25 rfl (by kernel_rfl)) hA23.2.1 ?_
    have hbel0_24 := Below.gN hbel0_9 hg7 hbel0_9.size
    have hbel0_25 := Below.gB hbel0_24 hg20 hbel0_24.size (by omega)
    rw [show all ⟨cs, js, room⟩ = (Dk.nil, [], (chk ⟨cs, js, room⟩).1) from if_neg hp16]
    exact ⟨none, 0, none, 0, none, 0, rfl, OwC.nil _ _, OwJ.nil _ _, OwJ.nil _ _, hbel0_25⟩
  have hp16 := of_decide_eq_true hd16
  refine sx_val (v := .bool false) hA15 rfl (ev_neqB (k := .i64) (m := (chk ⟨cs, js, room⟩).1) (n := 0) (hA15.ev (i := 17)) (ec _ (.int .i64 0)) (by simpa using hd16) _ rfl) ?_
  intro a26 hA26; clear hA15
  refine sx_nil ?_
  refine then_n ?_
  refine wp_cond_false (hA26.ev (i := 18) (v := .bool false)) ?_
  refine wp_skip ?_
  refine then_n ?_
  refine wp_seq ?_
  refine wp_region_lit ?_
  refine sx_val hA26 rfl (ev_assign (ec _ (.slice none 0 0)) _ rfl) ?_
  intro a27 hA27; clear hA26
  refine sx_nil ?_
  refine then_n ?_
  refine wp_seq ?_
  refine wp_region_lit ?_
  have hx1_28 := hx1_5.gN hg7
  refine sx_val (v := .agg #[.slice A1 cs.length c1, .slice A2 js.length c2, .int .i64 room]) hA27 rfl (ev_row (hA27.ev (i := 1) (v := .pointer (some ⟨B1, 0, none⟩))) hx1_28 Try.underlying25 rfl (n := 3) (by kernel_rfl) rfl _ rfl) ?_
  intro a29 hA29; clear hA27
  have hbel0_31 := Below.gN hbel0_9 hg7 hbel0_9.size
  refine sx_call (f := 42) (args := #[.agg #[.slice A1 cs.length c1, .slice A2 js.length c2, .int .i64 room]]) hA29 rfl (by decide) (.inl rfl) (ev_fn rfl (mp1 (hA29.ev (i := 21) (v := .agg #[.slice A1 cs.length c1, .slice A2 js.length c2, .int .i64 room]))) (by kernel_rfl) _ rfl) (sOwn_any A1 c1 A2 c2 cs js room _ ⟨(hd.s.below hbel0_31), (hd.j.below hbel0_31)⟩ (by omega) (by omega)) ?_
  intro e30 w30 hR30
  obtain ⟨Ap30, cp30, Aj30, cj30, rfl, hC30, hJ30, hb30⟩ := hR30
  refine ⟨_, rfl, ?_⟩
  intro a30 hA30
  clear hA29
  have hg30 := g0 hb30
  have hs30 := hg30.size
  clear hb30
  have ho30_0 : Own w30 (w7.heap.size) 28 8 (.slice Ap30 cs.length cp30) cs.length (flat Ct.va cs) := hC30.2
  have hh30_0 := Own.hi ho30_0
  have ho30_1 : Own w30 (w7.heap.size) 38 11 (.slice Aj30 js.length cj30) js.length (flat Jb.va js) := hJ30.2
  have hh30_1 := Own.hi ho30_1
  refine sx_new (cs := #[.slice none 0 0, .slice none 0 0, .int .i64 0]) (t := 25) hA30 rfl (by decide) (.inl rfl) (ev_alloc (z := .agg (#[.slice none 0 0, .slice none 0 0, .int .i64 0])) (by kernel_rfl) (by kernel_rfl) _ rfl) ?_
  intro B32 w32 a32 hB32 hx32 hg32 hA32
  clear hA30
  have hs32 := hg32.size
  have hl32 := hx32.lt
  refine sx_store hA32 rfl (.inl rfl) rfl (hA32.ev (i := 8) (v := .pointer (some ⟨B32, 0, none⟩))) (hA32.ev (i := 22) (v := .agg #[.slice Ap30 cs.length cp30, .slice Aj30 js.length cj30, .int .i64 room])) hx32 (by kernel_rfl) rfl (dk_one _ _ _ _ _ _ _) ?_
  intro w33 hx33 hg33
  have hs33 := hg33.size
  refine sx_nil ?_
  refine then_n ?_
  refine wp_seq ?_
  refine wp_block ?_
  have hok := chk_ok hp16
  have ho30_35 := Own.gN ho30_0 hg32
  have ho30_36 := Own.gBT ho30_35 hg33 hx32 (by decide)
  have ho30_37 := Own.gN ho30_1 hg32
  have ho30_38 := Own.gBT ho30_37 hg33 hx32 (by decide)
  have hx2_39 := hx2.gN hg7
  have hx2_40 := hx2_39.gN hg30
  have hx2_41 := hx2_40.gN hg32
  have hx2_42 := hx2_41.gB hg33 (by omega)
  have hbel0_43 := Below.gN hbel0_31 hg30 hbel0_31.size
  have hbel0_44 := Below.gN hbel0_43 hg32 hbel0_43.size
  have hbel0_45 := Below.gB hbel0_44 hg33 hbel0_44.size (by omega)
  refine wp_loop_ghost (fun n a wl => ∃ (d : Dk) (l : List Jb) (A1g : Option Addr) (c1g : Nat) (A2g : Option Addr) (c2g : Nat) (Al : Option Addr) (cl : Nat), n = d.js.length ∧ Ag a 40 [(2, .pointer (some ⟨B2, 0, none⟩)), (3, .slice none 0 0), (4, .int .i64 0), (8, .pointer (some ⟨B32, 0, none⟩)), (7, .slice Al l.length cl)] ∧ OkD d ∧ d.cs.length = cs.length ∧ l.length + d.js.length = js.length ∧ allJ d.js.length d l = allJ js.length ⟨cs, js, room⟩ [] ∧ Bx wl B2 25 #[.slice none 0 0, .slice none 0 0, .int .i64 0] ∧ Bx wl B32 25 #[.slice A1g d.cs.length c1g, .slice A2g d.js.length c2g, .int .i64 d.room] ∧ Own wl (w7.heap.size) 28 8 (.slice A1g d.cs.length c1g) d.cs.length (flat Ct.va d.cs) ∧ Own wl (w7.heap.size) 38 11 (.slice A2g d.js.length c2g) d.js.length (flat Jb.va d.js) ∧ Own wl (w7.heap.size) 38 11 (.slice Al l.length cl) l.length (flat Jb.va l) ∧ w33.heap.size ≤ wl.heap.size ∧ Below w.heap.size w wl) ((⟨cs, js, room⟩ : Dk).js.length) ⟨(⟨cs, js, room⟩ : Dk), [], Ap30, cp30, Aj30, cj30, none, 0, rfl, ((((((Ag.nil hA32.1 hA32.2.1).cons (hA32.get (i := 7) (v := .slice none 0 0))).cons (hA32.get (i := 8) (v := .pointer (some ⟨B32, 0, none⟩)))).cons (hA32.get (i := 4) (v := .int .i64 0))).cons (hA32.get (i := 3) (v := .slice none 0 0))).cons (hA32.get (i := 2) (v := .pointer (some ⟨B2, 0, none⟩)))), hok, rfl, (by simp), rfl, hx2_42, hx33, ho30_36, ho30_38, (Own.nil _ _ _ 11), Nat.le_refl _, hbel0_45⟩ ?_
  intro n34 a34 w34 hI34
  obtain ⟨d, l, A1g, c1g, A2g, c2g, Al, cl, hn34, hA34, q34_0, q34_1, q34_2, q34_3, f34_0, f34_1, f34_2, f34_3, f34_4, hsz34, hbel34⟩ := hI34
  subst hn34
  clear hA32
  have hlB2_34 := f34_0.lt
  have hlB32_34 := f34_1.lt
  have hhA1g_34 := Own.hi f34_2
  have hhA2g_34 := Own.hi f34_3
  have hhAl_34 := Own.hi f34_4
  refine wp_seq ?_
  refine wp_seq ?_
  refine wp_region_lit ?_
  refine sx_val (v := .pointer (some ⟨B32, 1, none⟩)) hA34 rfl (fb_Disk_1 (hA34.ev (i := 8) (v := .pointer (some ⟨B32, 0, none⟩))) _ rfl) ?_
  intro a46 hA46; clear hA34
  refine sx_val (v := .slice A2g d.js.length c2g) hA46 rfl (ev_cell (v := .slice A2g d.js.length c2g) (hA46.ev (i := 23) (v := .pointer (some ⟨B32, 1, none⟩))) ((f34_1.cell 1).trans rfl) Try.underlying23 rfl _ rfl) ?_
  intro a47 hA47; clear hA46
  refine sx_val (v := .int .i64 (d.js.length : Int)) hA47 rfl (ev_len (hA47.ev (i := 24) (v := .slice A2g d.js.length c2g)) Try.underlying23 _ rfl) ?_
  intro a48 hA48; clear hA47
  cases hd49 : decide (0 < (d.js.length : Int))
  · have hp49 := of_decide_eq_false hd49
    refine sx_val (v := .bool false) hA48 rfl (ev_gtrB (k := .i64) (m := (d.js.length : Int)) (n := 0) (hA48.ev (i := 25)) (ec _ (.int .i64 0)) hd49 _ rfl) ?_
    intro a50 hA50; clear hA48
    refine sx_nil ?_
    refine then_n ?_
    refine wp_cond_false (hA50.ev (i := 26) (v := .bool false)) ?_
    refine wp_exit ?_
    refine then_x ?_
    refine then_x ?_
    refine blk_hit ?_
    refine then_n ?_
    refine wp_seq ?_
    refine wp_region_lit ?_
    refine sx_val (v := .agg #[.slice A1g d.cs.length c1g, .slice A2g d.js.length c2g, .int .i64 d.room]) hA50 rfl (ev_row (hA50.ev (i := 8) (v := .pointer (some ⟨B32, 0, none⟩))) f34_1 Try.underlying25 rfl (n := 3) (by kernel_rfl) rfl _ rfl) ?_
    intro a51 hA51; clear hA50
    refine sx_val hA51 rfl (ev_move (hA51.ev (i := 7) (v := .slice Al l.length cl)) _ rfl) ?_
    intro a52 hA52; clear hA51
    refine sx_store hA52 rfl (.inl rfl) rfl (hA52.ev (i := 2) (v := .pointer (some ⟨B2, 0, none⟩))) (hA52.ev (i := 38) (v := .agg #[.slice A1g d.cs.length c1g, .slice A2g d.js.length c2g, .int .i64 d.room])) f34_0 (by kernel_rfl) rfl (dk_one _ _ _ _ _ _ _) ?_
    intro w53 hx53 hg53
    have hs53 := hg53.size
    refine sx_val hA52 rfl (ev_assign (hA52.ev (i := 39) (v := .slice Al l.length cl)) _ rfl) ?_
    intro a54 hA54; clear hA52
    refine sx_val hA54 rfl (ev_assign (ec _ (.int .i64 0)) _ rfl) ?_
    intro a55 hA55; clear hA54
    refine sx_nil ?_
    refine then_n ?_
    refine wp_ret ?_
    refine bodyPost_ret (rs_ctt (v := .slice Al l.length cl) (v2 := .int .i64 0) Try.results20 hA55 (by kernel_rfl) (by kernel_rfl) (by kernel_rfl) hx53 Try.underlying25 rfl (by kernel_rfl)) hA55.2.1 ?_
    have hbel34_56 := Below.gB hbel34 hg53 hbel34.size (by omega)
    have hz : ¬ 0 < d.js.length := by omega
    have E : all ⟨cs, js, room⟩ = (d, l, 0) := by
      unfold all
      rw [if_pos hp16, ← q34_3, allJ_nil hz]
    rw [E]
    have f34_57 := Own.gBT f34_2 hg53 f34_0 (by decide)
    have f34_58 := Own.gBT f34_3 hg53 f34_0 (by decide)
    have f34_59 := Own.gBT f34_4 hg53 f34_0 (by decide)
    exact ⟨_, _, _, _, _, _, rfl, ⟨rfl, Own.mono f34_57 (by omega)⟩, ⟨rfl, Own.mono f34_58 (by omega)⟩, ⟨rfl, Own.mono f34_59 (by omega)⟩, hbel34_56⟩
  have hp49 := of_decide_eq_true hd49
  refine sx_val (v := .bool true) hA48 rfl (ev_gtrB (k := .i64) (m := (d.js.length : Int)) (n := 0) (hA48.ev (i := 25)) (ec _ (.int .i64 0)) hd49 _ rfl) ?_
  intro a60 hA60; clear hA48
  refine sx_nil ?_
  refine then_n ?_
  refine wp_cond_true (hA60.ev (i := 26) (v := .bool true)) ?_
  refine wp_skip ?_
  refine then_n ?_
  refine wp_block ?_
  refine wp_seq ?_
  refine wp_region_lit ?_
  refine sx_val (v := .agg #[.slice A1g d.cs.length c1g, .slice A2g d.js.length c2g, .int .i64 d.room]) hA60 rfl (ev_row (hA60.ev (i := 8) (v := .pointer (some ⟨B32, 0, none⟩))) f34_1 Try.underlying25 rfl (n := 3) (by kernel_rfl) rfl _ rfl) ?_
  intro a61 hA61; clear hA60
  have hpos : 0 < d.js.length := by omega
  refine sx_call (f := 18) (args := #[.agg #[.slice A1g d.cs.length c1g, .slice A2g d.js.length c2g, .int .i64 d.room], .int .i64 0]) hA61 rfl (by decide) (.inl rfl) (ev_fn rfl (mp2 (hA61.ev (i := 28) (v := .agg #[.slice A1g d.cs.length c1g, .slice A2g d.js.length c2g, .int .i64 d.room])) (ec _ (.int .i64 0))) (by kernel_rfl) _ rfl) ((show Calls Try.prog 18 #[.agg #[.slice A1g d.cs.length c1g, .slice A2g d.js.length c2g, .int .i64 d.room], .int .i64 0] _ (RetDJ _ ((com d 0).1, (com d 0).2, 0)) from by
      have h := sComplete_any A1g c1g A2g c2g d.cs d.js d.room 0 w34 ⟨(OwnR.gr (e := 28) ⟨rfl, f34_2⟩), (OwnR.gr (e := 38) ⟨rfl, f34_3⟩)⟩ (by omega) (by omega)
      rw [show cmp ⟨d.cs, d.js, d.room⟩ 0 = _ from cmp_ok (k := 0) q34_0 hpos] at h
      exact h)) ?_
  intro e62 w62 hR62
  obtain ⟨Ap62, cp62, Aj62, cj62, rfl, hC62, hJ62, hb62⟩ := hR62
  refine ⟨_, rfl, ?_⟩
  intro a62 hA62
  clear hA61
  have hg62 := g0 hb62
  have hs62 := hg62.size
  clear hb62
  have ho62_0 : Own w62 (w34.heap.size) 28 8 (.slice Ap62 (com d 0).1.cs.length cp62) (com d 0).1.cs.length (flat Ct.va (com d 0).1.cs) := hC62.2
  have hh62_0 := Own.hi ho62_0
  have ho62_1 : Own w62 (w34.heap.size) 38 11 (.slice Aj62 (com d 0).1.js.length cj62) (com d 0).1.js.length (flat Jb.va (com d 0).1.js) := hJ62.2
  have hh62_1 := Own.hi ho62_1
  refine sx_val hA62 rfl (ev_move (hA62.ev (i := 29) (v := .tuple #[.agg #[.slice Ap62 (com d 0).1.cs.length cp62, .slice Aj62 (com d 0).1.js.length cj62, .int .i64 (com d 0).1.room], .agg (com d 0).2.va, .int .i64 0])) _ rfl) ?_
  intro a63 hA63; clear hA62
  refine sx_val (v := .agg #[.slice Ap62 (com d 0).1.cs.length cp62, .slice Aj62 (com d 0).1.js.length cj62, .int .i64 (com d 0).1.room]) hA63 rfl (ev_ext (hA63.ev (i := 27) (v := .tuple #[.agg #[.slice Ap62 (com d 0).1.cs.length cp62, .slice Aj62 (com d 0).1.js.length cj62, .int .i64 (com d 0).1.room], .agg (com d 0).2.va, .int .i64 0])) rfl _ rfl) ?_
  intro a64 hA64; clear hA63
  refine sx_val (v := .agg (com d 0).2.va) hA64 rfl (ev_ext (hA64.ev (i := 27) (v := .tuple #[.agg #[.slice Ap62 (com d 0).1.cs.length cp62, .slice Aj62 (com d 0).1.js.length cj62, .int .i64 (com d 0).1.room], .agg (com d 0).2.va, .int .i64 0])) rfl _ rfl) ?_
  intro a65 hA65; clear hA64
  refine sx_val (v := .int .i64 0) hA65 rfl (ev_ext (hA65.ev (i := 27) (v := .tuple #[.agg #[.slice Ap62 (com d 0).1.cs.length cp62, .slice Aj62 (com d 0).1.js.length cj62, .int .i64 (com d 0).1.room], .agg (com d 0).2.va, .int .i64 0])) rfl _ rfl) ?_
  intro a66 hA66; clear hA65
  refine sx_new (cs := #[.slice none 0 0, .slice none 0 0, .int .i64 0]) (t := 25) hA66 rfl (by decide) (.inl rfl) (ev_alloc (z := .agg (#[.slice none 0 0, .slice none 0 0, .int .i64 0])) (by kernel_rfl) (by kernel_rfl) _ rfl) ?_
  intro B67 w67 a67 hB67 hx67 hg67 hA67
  clear hA66
  have hs67 := hg67.size
  have hl67 := hx67.lt
  refine sx_new (cs := Jb.zero.va) (t := 38) hA67 rfl (by decide) (.inl rfl) (ev_alloc (z := .agg Jb.zero.va) (by kernel_rfl) (by kernel_rfl) _ rfl) ?_
  intro B68 w68 a68 hB68 hx68 hg68 hA68
  clear hA67
  have hs68 := hg68.size
  have hl68 := hx68.lt
  have hx67_70 := hx67.gN hg68
  refine sx_store hA68 rfl (.inl rfl) rfl (hA68.ev (i := 9) (v := .pointer (some ⟨B67, 0, none⟩))) (hA68.ev (i := 30) (v := .agg #[.slice Ap62 (com d 0).1.cs.length cp62, .slice Aj62 (com d 0).1.js.length cj62, .int .i64 (com d 0).1.room])) hx67_70 (by kernel_rfl) rfl (dk_one _ _ _ _ _ _ _) ?_
  intro w69 hx69 hg69
  have hs69 := hg69.size
  have hx68_72 := hx68.gB hg69 (by omega)
  refine sx_store hA68 rfl (.inl rfl) rfl (hA68.ev (i := 10) (v := .pointer (some ⟨B68, 0, none⟩))) (hA68.ev (i := 31) (v := .agg (com d 0).2.va)) hx68_72 (by kernel_rfl) rfl (jb_one _) ?_
  intro w71 hx71 hg71
  have hs71 := hg71.size
  refine sx_val hA68 rfl (ev_assign (hA68.ev (i := 32) (v := .int .i64 0)) _ rfl) ?_
  intro a73 hA73; clear hA68
  refine sx_nil ?_
  refine then_n ?_
  refine wp_seq ?_
  refine wp_region_lit ?_
  have hx69_74 := hx69.gB hg71 (by omega)
  refine sx_val (v := .agg #[.slice Ap62 (com d 0).1.cs.length cp62, .slice Aj62 (com d 0).1.js.length cj62, .int .i64 (com d 0).1.room]) hA73 rfl (ev_row (hA73.ev (i := 9) (v := .pointer (some ⟨B67, 0, none⟩))) hx69_74 Try.underlying25 rfl (n := 3) (by kernel_rfl) rfl _ rfl) ?_
  intro a75 hA75; clear hA73
  have f34_77 := f34_1.gN hg62
  have f34_78 := f34_77.gN hg67
  have f34_79 := f34_78.gN hg68
  have f34_80 := f34_79.gB hg69 (by omega)
  have f34_81 := f34_80.gB hg71 (by omega)
  refine sx_store hA75 rfl (.inl rfl) rfl (hA75.ev (i := 8) (v := .pointer (some ⟨B32, 0, none⟩))) (hA75.ev (i := 33) (v := .agg #[.slice Ap62 (com d 0).1.cs.length cp62, .slice Aj62 (com d 0).1.js.length cj62, .int .i64 (com d 0).1.room])) f34_81 (by kernel_rfl) rfl (dk_one _ _ _ _ _ _ _) ?_
  intro w76 hx76 hg76
  have hs76 := hg76.size
  refine sx_nil ?_
  refine then_n ?_
  refine wp_region_lit ?_
  refine sx_val hA75 rfl (ev_move (hA75.ev (i := 7) (v := .slice Al l.length cl)) _ rfl) ?_
  intro a82 hA82; clear hA75
  have hx71_83 := hx71.gB hg76 (by omega)
  refine sx_val (v := .agg (com d 0).2.va) hA82 rfl (ev_row (hA82.ev (i := 10) (v := .pointer (some ⟨B68, 0, none⟩))) hx71_83 Try.underlying38 rfl (n := 11) (by kernel_rfl) rfl _ rfl) ?_
  intro a84 hA84; clear hA82
  refine sx_bs (n := 1) (cs := (com d 0).2.va) (e := 38) hA84 rfl (by decide) (.inl rfl) (bs1_Job (hA84.ev (i := 35) (v := .agg (com d 0).2.va)) _ rfl) ?_
  intro B85 w85 a85 hB85 hx85 hg85 hA85
  clear hA84
  have hs85 := hg85.size
  have hl85 := hx85.lt
  have f34_87 := Own.gN f34_4 hg62
  have f34_88 := Own.gN f34_87 hg67
  have f34_89 := Own.gN f34_88 hg68
  have f34_90 := Own.gBT f34_89 hg69 hx67_70 (by decide)
  have f34_91 := Own.gB f34_90 hg71 hhAl_34 (by omega)
  have f34_92 := Own.gBT f34_91 hg76 f34_81 (by decide)
  have f34_93 := Own.gN f34_92 hg85
  refine sx_app (va := Jb.va) (l1 := l) (l2 := [(com d 0).2]) (z := .agg Jb.zero.va) (size := 11) (bytes := 88) hA85 rfl (by decide) (.inl rfl) rfl (hA85.ev (i := 34) (v := .slice Al l.length cl)) (hA85.ev (i := 36) (v := .slice (some ⟨B85, 0, none⟩) 1 1)) rfl rfl Try.underlying23 (by kernel_rfl) rfl (by decide) jb_one (base := w7.heap.size) f34_93 (Sl.bx1 (va := Jb.va) (x := (com d 0).2) hx85 (jb_sz _)) (by omega) (by decide) (by omega) ?_
  intro A86 c86 w86 a86 ho86 hg86 hA86
  clear hA85
  have hs86 := hg86.size
  have hh86 := Own.hi ho86
  replace ho86 : Own w86 (w7.heap.size) 38 11 (.slice A86 (l ++ [(com d 0).2]).length c86) (l ++ [(com d 0).2]).length (flat Jb.va (l ++ [(com d 0).2])) := ho86
  refine sx_val hA86 rfl (ev_assign (hA86.ev (i := 37) (v := .slice A86 (l ++ [(com d 0).2]).length c86)) _ rfl) ?_
  intro a94 hA94; clear hA86
  refine sx_nil ?_
  refine blk_n ?_
  refine then_n ?_
  have ho62_95 := Own.gN ho62_0 hg67
  have ho62_96 := Own.gN ho62_95 hg68
  have ho62_97 := Own.gBT ho62_96 hg69 hx67_70 (by decide)
  have ho62_98 := Own.gBT ho62_97 hg71 hx68_72 (by decide)
  have ho62_99 := Own.gBT ho62_98 hg76 f34_81 (by decide)
  have ho62_100 := Own.gN ho62_99 hg85
  have ho62_101 := Own.gOT ho62_100 hg86 f34_93 (by decide)
  have ho62_102 := Own.gN ho62_1 hg67
  have ho62_103 := Own.gN ho62_102 hg68
  have ho62_104 := Own.gBT ho62_103 hg69 hx67_70 (by decide)
  have ho62_105 := Own.gB ho62_104 hg71 hh62_1 (by omega)
  have ho62_106 := Own.gBT ho62_105 hg76 f34_81 (by decide)
  have ho62_107 := Own.gN ho62_106 hg85
  have ho62_108 := Own.gO ho62_107 hg86 f34_93 hh62_1 hhAl_34 (by omega)
  have hx76_109 := hx76.gN hg85
  have hx76_110 := hx76_109.gOT hg86 f34_93 (by decide)
  have hjs : (com d 0).1.js = d.js.eraseIdx 0 := com_js _ 0 hpos
  have hjl : (d.js.eraseIdx 0).length = d.js.length - 1 := by rw [List.length_eraseIdx]; simp [hpos]
  have f34_111 := f34_0.gN hg62
  have f34_112 := f34_111.gN hg67
  have f34_113 := f34_112.gN hg68
  have f34_114 := f34_113.gB hg69 (by omega)
  have f34_115 := f34_114.gB hg71 (by omega)
  have f34_116 := f34_115.gB hg76 (by omega)
  have f34_117 := f34_116.gN hg85
  have f34_118 := f34_117.gOT hg86 f34_93 (by decide)
  have hbel34_119 := Below.gN hbel34 hg62 hbel34.size
  have hbel34_120 := Below.gN hbel34_119 hg67 hbel34_119.size
  have hbel34_121 := Below.gN hbel34_120 hg68 hbel34_120.size
  have hbel34_122 := Below.gB hbel34_121 hg69 hbel34_121.size (by omega)
  have hbel34_123 := Below.gB hbel34_122 hg71 hbel34_122.size (by omega)
  have hbel34_124 := Below.gB hbel34_123 hg76 hbel34_123.size (by omega)
  have hbel34_125 := Below.gN hbel34_124 hg85 hbel34_124.size
  have hbel34_126 := Below.gO hbel34_125 hg86 f34_93 hbel34_125.size (by omega)
  refine ⟨(com d 0).1.js.length, by rw [hjs, hjl]; omega, (com d 0).1, (l ++ [(com d 0).2]), Ap62, cp62, Aj62, cj62, A86, c86, rfl, ((((((Ag.nil hA94.1 hA94.2.1).cons (hA94.get (i := 7) (v := .slice A86 (l ++ [(com d 0).2]).length c86))).cons (hA94.get (i := 8) (v := .pointer (some ⟨B32, 0, none⟩)))).cons (hA94.get (i := 4) (v := .int .i64 0))).cons (hA94.get (i := 3) (v := .slice none 0 0))).cons (hA94.get (i := 2) (v := .pointer (some ⟨B2, 0, none⟩)))), com_ok q34_0 hpos, by rw [com_len]; exact q34_1, by rw [hjs, hjl, List.length_append]; simp; omega, by rw [← q34_3, allJ_step hpos], f34_118, hx76_110, (Own.mono ho62_101 (by omega)), (Own.mono ho62_108 (by omega)), ho86, by omega, hbel34_126⟩
end Go.Proofs.Ytbkdimildnahaaa
