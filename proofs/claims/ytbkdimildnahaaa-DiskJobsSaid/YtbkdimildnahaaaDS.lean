/- The reference of disk: add, Write, Read. -/
import Derived.Test.YtbkdimildnahaaaDR
namespace Go.Proofs.Ytbkdimildnahaaa
open Go.RowKit
set_option linter.unusedVariables false
set_option maxRecDepth 100000

set_option maxHeartbeats 8000000 in
theorem sAdd_any (A1 : Option Addr) (c1 : Nat) (A2 : Option Addr) (c2 : Nat) (cs : List Ct) (js : List Jb) (room : Int) (x : Jb) (w : World) (hd : GD w A1 c1 A2 c2 cs js) (hl : cs.length ≤ 900000) (hj : js.length ≤ 900000) : Calls Try.prog 39 #[.agg #[.slice A1 cs.length c1, .slice A2 js.length c2, .int .i64 room], .agg x.va] w (RetD w (sub ⟨cs, js, room⟩ x)) := by
  have hbel0 := below0 w
  refine sx_enter (N := 75) [(0, .agg #[.slice A1 cs.length c1, .slice A2 js.length c2, .int .i64 room]), (1, .agg x.va)] Try.func39 rfl Try.ntmps39 (by simp) (fun a z d s => (((Ag.nil z d).cons (s 1 _ rfl)).cons (s 0 _ rfl))) ?_
  intro a0 hA0
  refine wp_seq ?_
  refine wp_region_lit ?_
  refine sx_new (cs := #[.slice A1 cs.length c1, .slice A2 js.length c2, .int .i64 room]) (t := 25) hA0 rfl (by decide) (.inl rfl) (ev_box (hA0.ev (i := 0) (v := .agg #[.slice A1 cs.length c1, .slice A2 js.length c2, .int .i64 room])) rfl _ rfl) ?_
  intro B1 w1 a1 hB1 hx1 hg1 hA1
  clear hA0
  have hs1 := hg1.size
  have hl1 := hx1.lt
  refine sx_new (cs := x.va) (t := 38) hA1 rfl (by decide) (.inl rfl) (ev_box (hA1.ev (i := 1) (v := .agg x.va)) rfl _ rfl) ?_
  intro B2 w2 a2 hB2 hx2 hg2 hA2
  clear hA1
  have hs2 := hg2.size
  have hl2 := hx2.lt
  refine sx_new (cs := #[.slice none 0 0, .slice none 0 0, .int .i64 0]) (t := 25) hA2 rfl (by decide) (.inl rfl) (ev_alloc (z := .agg (#[.slice none 0 0, .slice none 0 0, .int .i64 0])) (by kernel_rfl) (by kernel_rfl) _ rfl) ?_
  intro B3 w3 a3 hB3 hx3 hg3 hA3
  clear hA2
  have hs3 := hg3.size
  have hl3 := hx3.lt
  refine sx_val hA3 rfl (ev_assign (ec _ (.int .i64 0)) _ rfl) ?_
  intro a4 hA4; clear hA3
  refine sx_nil ?_
  refine then_n ?_
  refine wp_seq ?_
  refine wp_region_lit ?_
  have hx1_5 := hx1.gN hg2
  have hx1_6 := hx1_5.gN hg3
  refine sx_val (v := .agg #[.slice A1 cs.length c1, .slice A2 js.length c2, .int .i64 room]) hA4 rfl (ev_row (hA4.ev (i := 2) (v := .pointer (some ⟨B1, 0, none⟩))) hx1_6 Try.underlying25 rfl (n := 3) (by kernel_rfl) rfl _ rfl) ?_
  intro a7 hA7; clear hA4
  have hbel0_9 := Below.gN hbel0 hg1 hbel0.size
  have hbel0_10 := Below.gN hbel0_9 hg2 hbel0_9.size
  have hbel0_11 := Below.gN hbel0_10 hg3 hbel0_10.size
  refine sx_call (f := 25) (args := #[.agg #[.slice A1 cs.length c1, .slice A2 js.length c2, .int .i64 room]]) hA7 rfl (by decide) (.inl rfl) (ev_fn rfl (mp1 (hA7.ev (i := 11) (v := .agg #[.slice A1 cs.length c1, .slice A2 js.length c2, .int .i64 room]))) (by kernel_rfl) _ rfl) (sCheck_any A1 c1 A2 c2 cs js room _ ⟨(hd.s.below hbel0_11), (hd.j.below hbel0_11)⟩ (by omega)) ?_
  intro e8 w8 hR8
  obtain ⟨rfl, hb8⟩ := hR8
  refine ⟨_, rfl, ?_⟩
  intro a8 hA8
  clear hA7
  have hg8 := g0 hb8
  have hs8 := hg8.size
  clear hb8
  refine sx_val hA8 rfl (ev_move (hA8.ev (i := 12) (v := .tuple #[.int .i64 (chk ⟨cs, js, room⟩).1, .int .i64 (chk ⟨cs, js, room⟩).2])) _ rfl) ?_
  intro a12 hA12; clear hA8
  refine sx_val (v := .int .i64 (chk ⟨cs, js, room⟩).1) hA12 rfl (ev_ext (hA12.ev (i := 10) (v := .tuple #[.int .i64 (chk ⟨cs, js, room⟩).1, .int .i64 (chk ⟨cs, js, room⟩).2])) rfl _ rfl) ?_
  intro a13 hA13; clear hA12
  refine sx_val (v := .int .i64 (chk ⟨cs, js, room⟩).2) hA13 rfl (ev_ext (hA13.ev (i := 10) (v := .tuple #[.int .i64 (chk ⟨cs, js, room⟩).1, .int .i64 (chk ⟨cs, js, room⟩).2])) rfl _ rfl) ?_
  intro a14 hA14; clear hA13
  refine sx_val hA14 rfl (ev_assign (hA14.ev (i := 13) (v := .int .i64 (chk ⟨cs, js, room⟩).1)) _ rfl) ?_
  intro a15 hA15; clear hA14
  refine sx_val hA15 rfl (ev_assign (hA15.ev (i := 14) (v := .int .i64 (chk ⟨cs, js, room⟩).2)) _ rfl) ?_
  intro a16 hA16; clear hA15
  refine sx_nil ?_
  refine then_n ?_
  refine wp_seq ?_
  refine wp_seq ?_
  refine wp_region_lit ?_
  refine sx_val hA16 rfl (ev_move (hA16.ev (i := 6) (v := .int .i64 (chk ⟨cs, js, room⟩).1)) _ rfl) ?_
  intro a17 hA17; clear hA16
  cases hd18 : decide ((chk ⟨cs, js, room⟩).1 = 0)
  · have hp18 := of_decide_eq_false hd18
    refine sx_val (v := .bool true) hA17 rfl (ev_neqB (k := .i64) (m := (chk ⟨cs, js, room⟩).1) (n := 0) (hA17.ev (i := 15)) (ec _ (.int .i64 0)) (by simpa using hd18) _ rfl) ?_
    intro a19 hA19; clear hA17
    refine sx_nil ?_
    refine then_n ?_
    refine wp_cond_true (hA19.ev (i := 16) (v := .bool true)) ?_
    refine wp_seq ?_
    refine wp_region_lit ?_
    refine sx_val (v := .agg #[.slice none 0 0, .slice none 0 0, .int .i64 0]) hA19 rfl (bd0_Disk _ rfl) ?_
    intro a20 hA20; clear hA19
    refine sx_val hA20 rfl (ev_move (hA20.ev (i := 6) (v := .int .i64 (chk ⟨cs, js, room⟩).1)) _ rfl) ?_
    intro a21 hA21; clear hA20
    have hx3_23 := hx3.gN hg8
    refine sx_store hA21 rfl (.inl rfl) rfl (hA21.ev (i := 4) (v := .pointer (some ⟨B3, 0, none⟩))) (hA21.ev (i := 17) (v := .agg #[.slice none 0 0, .slice none 0 0, .int .i64 0])) hx3_23 (by kernel_rfl) rfl (dk_one _ _ _ _ _ _ _) ?_
    intro w22 hx22 hg22
    have hs22 := hg22.size
    refine sx_val hA21 rfl (ev_assign (hA21.ev (i := 18) (v := .int .i64 (chk ⟨cs, js, room⟩).1)) _ rfl) ?_
    intro a24 hA24; clear hA21
    refine sx_nil ?_
    refine then_n ?_
    refine wp_ret ?_
    refine then_r ?_
    refine bodyPost_ret (rs_ct (v := .int .i64 (chk ⟨cs, js, room⟩).1) Try.results39 hA24 (by kernel_rfl) (by kernel_rfl) hx22 Try.underlying25 rfl (by kernel_rfl)) hA24.2.1 ?_
    have hbel0_25 := Below.gN hbel0_11 hg8 hbel0_11.size
    have hbel0_26 := Below.gB hbel0_25 hg22 hbel0_25.size (by omega)
    rw [show sub ⟨cs, js, room⟩ x = (Dk.nil, (chk ⟨cs, js, room⟩).1) from if_neg hp18]
    exact ⟨none, 0, none, 0, rfl, OwC.nil _ _, OwJ.nil _ _, hbel0_26⟩
  have hp18 := of_decide_eq_true hd18
  refine sx_val (v := .bool false) hA17 rfl (ev_neqB (k := .i64) (m := (chk ⟨cs, js, room⟩).1) (n := 0) (hA17.ev (i := 15)) (ec _ (.int .i64 0)) (by simpa using hd18) _ rfl) ?_
  intro a27 hA27; clear hA17
  refine sx_nil ?_
  refine then_n ?_
  refine wp_cond_false (hA27.ev (i := 16) (v := .bool false)) ?_
  refine wp_skip ?_
  refine then_n ?_
  refine wp_seq ?_
  refine wp_seq ?_
  refine wp_region_lit ?_
  have hx1_28 := hx1_6.gN hg8
  refine sx_val (v := .agg #[.slice A1 cs.length c1, .slice A2 js.length c2, .int .i64 room]) hA27 rfl (ev_row (hA27.ev (i := 2) (v := .pointer (some ⟨B1, 0, none⟩))) hx1_28 Try.underlying25 rfl (n := 3) (by kernel_rfl) rfl _ rfl) ?_
  intro a29 hA29; clear hA27
  refine sx_val (v := .pointer (some ⟨B2, 1, none⟩)) hA29 rfl (fb_Job_1 (hA29.ev (i := 3) (v := .pointer (some ⟨B2, 0, none⟩))) _ rfl) ?_
  intro a30 hA30; clear hA29
  have hx2_31 := hx2.gN hg3
  have hx2_32 := hx2_31.gN hg8
  refine sx_val (v := .int .i64 x.slot) hA30 rfl (ev_cell (v := .int .i64 x.slot) (hA30.ev (i := 20) (v := .pointer (some ⟨B2, 1, none⟩))) ((hx2_32.cell 1).trans rfl) Try.underlying3 rfl _ rfl) ?_
  intro a33 hA33; clear hA30
  cases hd35 : inS cs.length x.slot
  · refine sx_call (f := 44) (args := #[.agg #[.slice A1 cs.length c1, .slice A2 js.length c2, .int .i64 room], .int .i64 x.slot]) hA33 rfl (by decide) (.inl rfl) (ev_fn rfl (mp2 (hA33.ev (i := 19) (v := .agg #[.slice A1 cs.length c1, .slice A2 js.length c2, .int .i64 room])) (hA33.ev (i := 21) (v := .int .i64 x.slot))) (by kernel_rfl) _ rfl) (slot_any A1 c1 A2 c2 cs js room x.slot _) ?_
    intro e36 w36 hR36
    obtain ⟨he36, hb36⟩ := hR36
    rw [hd35] at he36
    subst he36
    refine ⟨_, rfl, ?_⟩
    intro a36 hA36
    clear hA33
    have hg36 := g0 hb36
    have hs36 := hg36.size
    clear hb36
    refine sx_val (v := .bool true) hA36 rfl (ev_notF (hA36.ev (i := 22) (v := .bool false)) _ rfl) ?_
    intro a37 hA37; clear hA36
    refine sx_val hA37 rfl (ev_move (hA37.ev (i := 23) (v := .bool true)) _ rfl) ?_
    intro a38 hA38; clear hA37
    refine sx_no (j := 5) (s := 24) (want := false) (b := true) hA38 rfl ?_
    intro a39 hA39; clear hA38
    refine sx_no (j := 5) (s := 24) (want := false) (b := true) hA39 rfl ?_
    intro a40 hA40; clear hA39
    refine sx_no (j := 5) (s := 24) (want := false) (b := true) hA40 rfl ?_
    intro a41 hA41; clear hA40
    refine sx_no (j := 5) (s := 24) (want := false) (b := true) hA41 rfl ?_
    intro a42 hA42; clear hA41
    refine sx_val hA42 rfl (ev_pickT (hA42.ev (i := 24) (v := .bool true)) (ec _ (.bool true)) _ rfl) ?_
    intro a43 hA43; clear hA42
    refine sx_nil ?_
    refine then_n ?_
    refine wp_cond_true (hA43.ev (i := 29) (v := .bool true)) ?_
    refine wp_seq ?_
    refine wp_region_lit ?_
    refine sx_val (v := .agg #[.slice none 0 0, .slice none 0 0, .int .i64 0]) hA43 rfl (bd0_Disk _ rfl) ?_
    intro a44 hA44; clear hA43
    have hx3_46 := hx3.gN hg8
    have hx3_47 := hx3_46.gN hg36
    refine sx_store hA44 rfl (.inl rfl) rfl (hA44.ev (i := 4) (v := .pointer (some ⟨B3, 0, none⟩))) (hA44.ev (i := 30) (v := .agg #[.slice none 0 0, .slice none 0 0, .int .i64 0])) hx3_47 (by kernel_rfl) rfl (dk_one _ _ _ _ _ _ _) ?_
    intro w45 hx45 hg45
    have hs45 := hg45.size
    refine sx_val hA44 rfl (ev_assign (ec _ (.int .i64 2)) _ rfl) ?_
    intro a48 hA48; clear hA44
    refine sx_nil ?_
    refine then_n ?_
    refine wp_ret ?_
    refine then_r ?_
    refine bodyPost_ret (rs_ct (v := .int .i64 2) Try.results39 hA48 (by kernel_rfl) (by kernel_rfl) hx45 Try.underlying25 rfl (by kernel_rfl)) hA48.2.1 ?_
    have hbel0_49 := Below.gN hbel0_11 hg8 hbel0_11.size
    have hbel0_50 := Below.gN hbel0_49 hg36 hbel0_49.size
    have hbel0_51 := Below.gB hbel0_50 hg45 hbel0_50.size (by omega)
    have E : sub ⟨cs, js, room⟩ x = (Dk.nil, 2) := by
      unfold sub
      rw [if_pos hp18, if_pos (by rw [inR_eq]; simp [hd35])]
    rw [E]
    exact ⟨none, 0, none, 0, rfl, OwC.nil _ _, OwJ.nil _ _, hbel0_51⟩
  refine sx_call (f := 44) (args := #[.agg #[.slice A1 cs.length c1, .slice A2 js.length c2, .int .i64 room], .int .i64 x.slot]) hA33 rfl (by decide) (.inl rfl) (ev_fn rfl (mp2 (hA33.ev (i := 19) (v := .agg #[.slice A1 cs.length c1, .slice A2 js.length c2, .int .i64 room])) (hA33.ev (i := 21) (v := .int .i64 x.slot))) (by kernel_rfl) _ rfl) (slot_any A1 c1 A2 c2 cs js room x.slot _) ?_
  intro e52 w52 hR52
  obtain ⟨he52, hb52⟩ := hR52
  rw [hd35] at he52
  subst he52
  refine ⟨_, rfl, ?_⟩
  intro a52 hA52
  clear hA33
  have hg52 := g0 hb52
  have hs52 := hg52.size
  clear hb52
  refine sx_val (v := .bool false) hA52 rfl (ev_notT (hA52.ev (i := 22) (v := .bool true)) _ rfl) ?_
  intro a53 hA53; clear hA52
  refine sx_val hA53 rfl (ev_move (hA53.ev (i := 23) (v := .bool false)) _ rfl) ?_
  intro a54 hA54; clear hA53
  refine sx_val (hg := (.inr ⟨5, false, 24, rfl, rfl, by kernel_rfl⟩)) (v := .pointer (some ⟨B2, 2, none⟩)) hA54 rfl (fb_Job_2 (hA54.ev (i := 3) (v := .pointer (some ⟨B2, 0, none⟩))) _ rfl) ?_
  intro a55 hA55; clear hA54
  have hx2_56 := hx2_32.gN hg52
  refine sx_val (hg := (.inr ⟨5, false, 24, rfl, rfl, by kernel_rfl⟩)) (v := .int .i64 x.frame) hA55 rfl (ev_cell (v := .int .i64 x.frame) (hA55.ev (i := 25) (v := .pointer (some ⟨B2, 2, none⟩))) ((hx2_56.cell 2).trans rfl) Try.underlying3 rfl _ rfl) ?_
  intro a57 hA57; clear hA55
  cases hd59 : inF x.frame
  · refine sx_call (f := 45) (args := #[.int .i64 x.frame]) hA57 rfl (by decide) (.inr ⟨5, false, 24, rfl, rfl, by kernel_rfl⟩) (ev_fn rfl (mp1 (hA57.ev (i := 26) (v := .int .i64 x.frame))) (by kernel_rfl) _ rfl) (frame_any x.frame _) ?_
    intro e60 w60 hR60
    obtain ⟨he60, hb60⟩ := hR60
    rw [hd59] at he60
    subst he60
    refine ⟨_, rfl, ?_⟩
    intro a60 hA60
    clear hA57
    have hg60 := g0 hb60
    have hs60 := hg60.size
    clear hb60
    refine sx_val (hg := (.inr ⟨5, false, 24, rfl, rfl, by kernel_rfl⟩)) (v := .bool true) hA60 rfl (ev_notF (hA60.ev (i := 27) (v := .bool false)) _ rfl) ?_
    intro a61 hA61; clear hA60
    refine sx_val hA61 rfl (ev_pickF (hA61.ev (i := 24) (v := .bool false)) (hA61.ev (i := 28) (v := .bool true)) _ rfl) ?_
    intro a62 hA62; clear hA61
    refine sx_nil ?_
    refine then_n ?_
    refine wp_cond_true (hA62.ev (i := 29) (v := .bool true)) ?_
    refine wp_seq ?_
    refine wp_region_lit ?_
    refine sx_val (v := .agg #[.slice none 0 0, .slice none 0 0, .int .i64 0]) hA62 rfl (bd0_Disk _ rfl) ?_
    intro a63 hA63; clear hA62
    have hx3_65 := hx3.gN hg8
    have hx3_66 := hx3_65.gN hg52
    have hx3_67 := hx3_66.gN hg60
    refine sx_store hA63 rfl (.inl rfl) rfl (hA63.ev (i := 4) (v := .pointer (some ⟨B3, 0, none⟩))) (hA63.ev (i := 30) (v := .agg #[.slice none 0 0, .slice none 0 0, .int .i64 0])) hx3_67 (by kernel_rfl) rfl (dk_one _ _ _ _ _ _ _) ?_
    intro w64 hx64 hg64
    have hs64 := hg64.size
    refine sx_val hA63 rfl (ev_assign (ec _ (.int .i64 2)) _ rfl) ?_
    intro a68 hA68; clear hA63
    refine sx_nil ?_
    refine then_n ?_
    refine wp_ret ?_
    refine then_r ?_
    refine bodyPost_ret (rs_ct (v := .int .i64 2) Try.results39 hA68 (by kernel_rfl) (by kernel_rfl) hx64 Try.underlying25 rfl (by kernel_rfl)) hA68.2.1 ?_
    have hbel0_69 := Below.gN hbel0_11 hg8 hbel0_11.size
    have hbel0_70 := Below.gN hbel0_69 hg52 hbel0_69.size
    have hbel0_71 := Below.gN hbel0_70 hg60 hbel0_70.size
    have hbel0_72 := Below.gB hbel0_71 hg64 hbel0_71.size (by omega)
    have E : sub ⟨cs, js, room⟩ x = (Dk.nil, 2) := by
      unfold sub
      rw [if_pos hp18, if_pos (by rw [inR_eq]; simp [hd35, hd59])]
    rw [E]
    exact ⟨none, 0, none, 0, rfl, OwC.nil _ _, OwJ.nil _ _, hbel0_72⟩
  refine sx_call (f := 45) (args := #[.int .i64 x.frame]) hA57 rfl (by decide) (.inr ⟨5, false, 24, rfl, rfl, by kernel_rfl⟩) (ev_fn rfl (mp1 (hA57.ev (i := 26) (v := .int .i64 x.frame))) (by kernel_rfl) _ rfl) (frame_any x.frame _) ?_
  intro e73 w73 hR73
  obtain ⟨he73, hb73⟩ := hR73
  rw [hd59] at he73
  subst he73
  refine ⟨_, rfl, ?_⟩
  intro a73 hA73
  clear hA57
  have hg73 := g0 hb73
  have hs73 := hg73.size
  clear hb73
  refine sx_val (hg := (.inr ⟨5, false, 24, rfl, rfl, by kernel_rfl⟩)) (v := .bool false) hA73 rfl (ev_notT (hA73.ev (i := 27) (v := .bool true)) _ rfl) ?_
  intro a74 hA74; clear hA73
  refine sx_val hA74 rfl (ev_pickF (hA74.ev (i := 24) (v := .bool false)) (hA74.ev (i := 28) (v := .bool false)) _ rfl) ?_
  intro a75 hA75; clear hA74
  refine sx_nil ?_
  refine then_n ?_
  refine wp_cond_false (hA75.ev (i := 29) (v := .bool false)) ?_
  refine wp_skip ?_
  refine then_n ?_
  refine wp_seq ?_
  refine wp_seq ?_
  refine wp_region_lit ?_
  refine sx_val hA75 rfl (ev_assign (ec _ (.int .i64 0)) _ rfl) ?_
  intro a76 hA76; clear hA75
  refine sx_nil ?_
  refine then_n ?_
  refine wp_block ?_
  have hx1_78 := hx1_28.gN hg52
  have hx1_79 := hx1_78.gN hg73
  have hx2_80 := hx2_56.gN hg73
  have hx3_81 := hx3.gN hg8
  have hx3_82 := hx3_81.gN hg52
  have hx3_83 := hx3_82.gN hg73
  have hbel0_84 := Below.gN hbel0_11 hg8 hbel0_11.size
  have hbel0_85 := Below.gN hbel0_84 hg52 hbel0_84.size
  have hbel0_86 := Below.gN hbel0_85 hg73 hbel0_85.size
  refine wp_loop_ghost (fun n a wl => ∃ (m : Nat), n = js.length - m ∧ Ag a 75 [(2, .pointer (some ⟨B1, 0, none⟩)), (3, .pointer (some ⟨B2, 0, none⟩)), (4, .pointer (some ⟨B3, 0, none⟩)), (8, .int .i64 (m : Int))] ∧ m ≤ js.length ∧ (js.take m).any (hits x) = false ∧ Bx wl B1 25 #[.slice A1 cs.length c1, .slice A2 js.length c2, .int .i64 room] ∧ Bx wl B2 38 x.va ∧ Bx wl B3 25 #[.slice none 0 0, .slice none 0 0, .int .i64 0] ∧ w73.heap.size ≤ wl.heap.size ∧ Below w.heap.size w wl) (js.length - 0) ⟨0, rfl, (((((Ag.nil hA76.1 hA76.2.1).cons (hA76.get (i := 8) (v := .int .i64 0))).cons (hA76.get (i := 4) (v := .pointer (some ⟨B3, 0, none⟩)))).cons (hA76.get (i := 3) (v := .pointer (some ⟨B2, 0, none⟩)))).cons (hA76.get (i := 2) (v := .pointer (some ⟨B1, 0, none⟩)))), Nat.zero_le _, (by simp), hx1_79, hx2_80, hx3_83, Nat.le_refl _, hbel0_86⟩ ?_
  intro n77 a77 w77 hI77
  obtain ⟨m, hn77, hA77, q77_0, q77_1, f77_0, f77_1, f77_2, hsz77, hbel77⟩ := hI77
  subst hn77
  clear hA76
  have hlB1_77 := f77_0.lt
  have hlB2_77 := f77_1.lt
  have hlB3_77 := f77_2.lt
  cases hd87 : decide ((m : Int) < (js.length : Int))
  · have hp87 := of_decide_eq_false hd87
    have hno : js.any (hits x) = false := by
      have h := q77_1
      rw [List.take_of_length_le (by omega)] at h
      exact h
    refine wp_seq ?_
    refine wp_seq ?_
    refine wp_region_lit ?_
    refine sx_val hA77 rfl (ev_move (hA77.ev (i := 8) (v := .int .i64 (m : Int))) _ rfl) ?_
    intro a88 hA88; clear hA77
    refine sx_val (v := .pointer (some ⟨B1, 1, none⟩)) hA88 rfl (fb_Disk_1 (hA88.ev (i := 2) (v := .pointer (some ⟨B1, 0, none⟩))) _ rfl) ?_
    intro a89 hA89; clear hA88
    refine sx_val (v := .slice A2 js.length c2) hA89 rfl (ev_cell (v := .slice A2 js.length c2) (hA89.ev (i := 32) (v := .pointer (some ⟨B1, 1, none⟩))) ((f77_0.cell 1).trans rfl) Try.underlying23 rfl _ rfl) ?_
    intro a90 hA90; clear hA89
    refine sx_val (v := .int .i64 (js.length : Int)) hA90 rfl (ev_len (hA90.ev (i := 33) (v := .slice A2 js.length c2)) Try.underlying23 _ rfl) ?_
    intro a91 hA91; clear hA90
    refine sx_val (v := .bool false) hA91 rfl (ev_lssB (k := .i64) (m := (m : Int)) (n := (js.length : Int)) (hA91.ev (i := 31)) (hA91.ev (i := 34)) hd87 _ rfl) ?_
    intro a92 hA92; clear hA91
    refine sx_nil ?_
    refine then_n ?_
    refine wp_cond_false (hA92.ev (i := 35) (v := .bool false)) ?_
    refine wp_exit ?_
    refine then_x ?_
    refine then_x ?_
    refine blk_hit ?_
    refine then_n ?_
    refine wp_seq ?_
    refine wp_seq ?_
    refine wp_region_lit ?_
    refine sx_val (v := .pointer (some ⟨B1, 1, none⟩)) hA92 rfl (fb_Disk_1 (hA92.ev (i := 2) (v := .pointer (some ⟨B1, 0, none⟩))) _ rfl) ?_
    intro a93 hA93; clear hA92
    refine sx_val (v := .slice A2 js.length c2) hA93 rfl (ev_cell (v := .slice A2 js.length c2) (hA93.ev (i := 59) (v := .pointer (some ⟨B1, 1, none⟩))) ((f77_0.cell 1).trans rfl) Try.underlying23 rfl _ rfl) ?_
    intro a94 hA94; clear hA93
    refine sx_val (v := .int .i64 (js.length : Int)) hA94 rfl (ev_len (hA94.ev (i := 60) (v := .slice A2 js.length c2)) Try.underlying23 _ rfl) ?_
    intro a95 hA95; clear hA94
    refine sx_val (v := .pointer (some ⟨B1, 2, none⟩)) hA95 rfl (fb_Disk_2 (hA95.ev (i := 2) (v := .pointer (some ⟨B1, 0, none⟩))) _ rfl) ?_
    intro a96 hA96; clear hA95
    refine sx_val (v := .int .i64 room) hA96 rfl (ev_cell (v := .int .i64 room) (hA96.ev (i := 62) (v := .pointer (some ⟨B1, 2, none⟩))) ((f77_0.cell 2).trans rfl) Try.underlying3 rfl _ rfl) ?_
    intro a97 hA97; clear hA96
    cases hd98 : decide ((js.length : Int) = room)
    rotate_left
    · have hp98 := of_decide_eq_true hd98
      refine sx_val (v := .bool true) hA97 rfl (ev_eqlB (k := .i64) (m := (js.length : Int)) (n := room) (hA97.ev (i := 61)) (hA97.ev (i := 63)) hd98 _ rfl) ?_
      intro a143 hA143; clear hA97
      refine sx_nil ?_
      refine then_n ?_
      refine wp_cond_true (hA143.ev (i := 64) (v := .bool true)) ?_
      refine wp_seq ?_
      refine wp_region_lit ?_
      refine sx_val (v := .agg #[.slice none 0 0, .slice none 0 0, .int .i64 0]) hA143 rfl (bd0_Disk _ rfl) ?_
      intro a144 hA144; clear hA143
      refine sx_store hA144 rfl (.inl rfl) rfl (hA144.ev (i := 4) (v := .pointer (some ⟨B3, 0, none⟩))) (hA144.ev (i := 65) (v := .agg #[.slice none 0 0, .slice none 0 0, .int .i64 0])) f77_2 (by kernel_rfl) rfl (dk_one _ _ _ _ _ _ _) ?_
      intro w145 hx145 hg145
      have hs145 := hg145.size
      refine sx_val hA144 rfl (ev_assign (ec _ (.int .i64 5)) _ rfl) ?_
      intro a146 hA146; clear hA144
      refine sx_nil ?_
      refine then_n ?_
      refine wp_ret ?_
      refine then_r ?_
      refine bodyPost_ret (rs_ct (v := .int .i64 5) Try.results39 hA146 (by kernel_rfl) (by kernel_rfl) hx145 Try.underlying25 rfl (by kernel_rfl)) hA146.2.1 ?_
      have hbel77_147 := Below.gB hbel77 hg145 hbel77.size (by omega)
      have hok := chk_ok hp18
      have hfit : (js.length : Int) ≤ room := hok.fit
      have E : sub ⟨cs, js, room⟩ x = (Dk.nil, 5) := by
        unfold sub
        rw [if_pos hp18, if_neg (by rw [inR_eq]; simp [hd35, hd59]), if_neg (by rw [hno]; decide), if_pos (by show room ≤ (js.length : Int); omega)]
      rw [E]
      exact ⟨none, 0, none, 0, rfl, OwC.nil _ _, OwJ.nil _ _, hbel77_147⟩
    have hp98 := of_decide_eq_false hd98
    refine sx_val (v := .bool false) hA97 rfl (ev_eqlB (k := .i64) (m := (js.length : Int)) (n := room) (hA97.ev (i := 61)) (hA97.ev (i := 63)) hd98 _ rfl) ?_
    intro a99 hA99; clear hA97
    refine sx_nil ?_
    refine then_n ?_
    refine wp_cond_false (hA99.ev (i := 64) (v := .bool false)) ?_
    refine wp_skip ?_
    refine then_n ?_
    refine wp_seq ?_
    refine wp_region_lit ?_
    refine sx_val (v := .agg #[.slice A1 cs.length c1, .slice A2 js.length c2, .int .i64 room]) hA99 rfl (ev_row (hA99.ev (i := 2) (v := .pointer (some ⟨B1, 0, none⟩))) f77_0 Try.underlying25 rfl (n := 3) (by kernel_rfl) rfl _ rfl) ?_
    intro a100 hA100; clear hA99
    refine sx_call (f := 42) (args := #[.agg #[.slice A1 cs.length c1, .slice A2 js.length c2, .int .i64 room]]) hA100 rfl (by decide) (.inl rfl) (ev_fn rfl (mp1 (hA100.ev (i := 66) (v := .agg #[.slice A1 cs.length c1, .slice A2 js.length c2, .int .i64 room]))) (by kernel_rfl) _ rfl) (sOwn_any A1 c1 A2 c2 cs js room _ ⟨(hd.s.below hbel77), (hd.j.below hbel77)⟩ (by omega) (by omega)) ?_
    intro e101 w101 hR101
    obtain ⟨Ap101, cp101, Aj101, cj101, rfl, hC101, hJ101, hb101⟩ := hR101
    refine ⟨_, rfl, ?_⟩
    intro a101 hA101
    clear hA100
    have hg101 := g0 hb101
    have hs101 := hg101.size
    clear hb101
    have ho101_0 : Own w101 (w77.heap.size) 28 8 (.slice Ap101 cs.length cp101) cs.length (flat Ct.va cs) := hC101.2
    have hh101_0 := Own.hi ho101_0
    have ho101_1 : Own w101 (w77.heap.size) 38 11 (.slice Aj101 js.length cj101) js.length (flat Jb.va js) := hJ101.2
    have hh101_1 := Own.hi ho101_1
    refine sx_new (cs := #[.slice none 0 0, .slice none 0 0, .int .i64 0]) (t := 25) hA101 rfl (by decide) (.inl rfl) (ev_alloc (z := .agg (#[.slice none 0 0, .slice none 0 0, .int .i64 0])) (by kernel_rfl) (by kernel_rfl) _ rfl) ?_
    intro B102 w102 a102 hB102 hx102 hg102 hA102
    clear hA101
    have hs102 := hg102.size
    have hl102 := hx102.lt
    refine sx_store hA102 rfl (.inl rfl) rfl (hA102.ev (i := 9) (v := .pointer (some ⟨B102, 0, none⟩))) (hA102.ev (i := 67) (v := .agg #[.slice Ap101 cs.length cp101, .slice Aj101 js.length cj101, .int .i64 room])) hx102 (by kernel_rfl) rfl (dk_one _ _ _ _ _ _ _) ?_
    intro w103 hx103 hg103
    have hs103 := hg103.size
    refine sx_nil ?_
    refine then_n ?_
    refine wp_seq ?_
    refine wp_region_lit ?_
    refine sx_val (v := .pointer (some ⟨B102, 1, none⟩)) hA102 rfl (fb_Disk_1 (hA102.ev (i := 9) (v := .pointer (some ⟨B102, 0, none⟩))) _ rfl) ?_
    intro a104 hA104; clear hA102
    refine sx_val (v := .slice Aj101 js.length cj101) hA104 rfl (ev_cell (v := .slice Aj101 js.length cj101) (hA104.ev (i := 68) (v := .pointer (some ⟨B102, 1, none⟩))) ((hx103.cell 1).trans rfl) Try.underlying23 rfl _ rfl) ?_
    intro a105 hA105; clear hA104
    have f77_106 := f77_1.gN hg101
    have f77_107 := f77_106.gN hg102
    have f77_108 := f77_107.gB hg103 (by omega)
    refine sx_val (v := .agg x.va) hA105 rfl (ev_row (hA105.ev (i := 3) (v := .pointer (some ⟨B2, 0, none⟩))) f77_108 Try.underlying38 rfl (n := 11) (by kernel_rfl) rfl _ rfl) ?_
    intro a109 hA109; clear hA105
    refine sx_bs (n := 1) (cs := x.va) (e := 38) hA109 rfl (by decide) (.inl rfl) (bs1_Job (hA109.ev (i := 70) (v := .agg x.va)) _ rfl) ?_
    intro B110 w110 a110 hB110 hx110 hg110 hA110
    clear hA109
    have hs110 := hg110.size
    have hl110 := hx110.lt
    have ho101_112 := Own.gN ho101_1 hg102
    have ho101_113 := Own.gBT ho101_112 hg103 hx102 (by decide)
    have ho101_114 := Own.gN ho101_113 hg110
    refine sx_app (va := Jb.va) (l1 := js) (l2 := [x]) (z := .agg Jb.zero.va) (size := 11) (bytes := 88) hA110 rfl (by decide) (.inl rfl) rfl (hA110.ev (i := 69) (v := .slice Aj101 js.length cj101)) (hA110.ev (i := 71) (v := .slice (some ⟨B110, 0, none⟩) 1 1)) rfl rfl Try.underlying23 (by kernel_rfl) rfl (by decide) jb_one (base := w77.heap.size) ho101_114 (Sl.bx1 (va := Jb.va) (x := x) hx110 (jb_sz _)) (by omega) (by decide) (by omega) ?_
    intro A111 c111 w111 a111 ho111 hg111 hA111
    clear hA110
    have hs111 := hg111.size
    have hh111 := Own.hi ho111
    replace ho111 : Own w111 (w77.heap.size) 38 11 (.slice A111 (js ++ [x]).length c111) (js ++ [x]).length (flat Jb.va (js ++ [x])) := ho111
    refine sx_val (v := .pointer (some ⟨B102, 1, none⟩)) hA111 rfl (fb_Disk_1 (hA111.ev (i := 9) (v := .pointer (some ⟨B102, 0, none⟩))) _ rfl) ?_
    intro a115 hA115; clear hA111
    have hx103_117 := hx103.gN hg110
    have hx103_118 := hx103_117.gOT hg111 ho101_114 (by decide)
    refine sx_scell (v := .slice A111 (js ++ [x]).length c111) (v0 := .slice Aj101 js.length cj101) hA115 rfl (.inl rfl) rfl (hA115.ev (i := 73) (v := .pointer (some ⟨B102, 1, none⟩))) (hA115.ev (i := 72) (v := .slice A111 (js ++ [x]).length c111)) hx103_118 rfl (by kernel_rfl) rfl ?_
    intro w116 hx116 hg116
    have hx116 : Bx w116 B102 25 #[.slice Ap101 cs.length cp101, .slice A111 (js ++ [x]).length c111, .int .i64 room] := hx116
    have hs116 := hg116.size
    refine sx_nil ?_
    refine then_n ?_
    refine wp_seq ?_
    refine wp_region_lit ?_
    refine sx_val (v := .agg #[.slice Ap101 cs.length cp101, .slice A111 (js ++ [x]).length c111, .int .i64 room]) hA115 rfl (ev_row (hA115.ev (i := 9) (v := .pointer (some ⟨B102, 0, none⟩))) hx116 Try.underlying25 rfl (n := 3) (by kernel_rfl) rfl _ rfl) ?_
    intro a119 hA119; clear hA115
    have f77_121 := f77_2.gN hg101
    have f77_122 := f77_121.gN hg102
    have f77_123 := f77_122.gB hg103 (by omega)
    have f77_124 := f77_123.gN hg110
    have f77_125 := f77_124.gOT hg111 ho101_114 (by decide)
    have f77_126 := f77_125.gB hg116 (by omega)
    refine sx_store hA119 rfl (.inl rfl) rfl (hA119.ev (i := 4) (v := .pointer (some ⟨B3, 0, none⟩))) (hA119.ev (i := 74) (v := .agg #[.slice Ap101 cs.length cp101, .slice A111 (js ++ [x]).length c111, .int .i64 room])) f77_126 (by kernel_rfl) rfl (dk_one _ _ _ _ _ _ _) ?_
    intro w120 hx120 hg120
    have hs120 := hg120.size
    refine sx_val hA119 rfl (ev_assign (ec _ (.int .i64 0)) _ rfl) ?_
    intro a127 hA127; clear hA119
    refine sx_nil ?_
    refine then_n ?_
    refine wp_ret ?_
    refine bodyPost_ret (rs_ct (v := .int .i64 0) Try.results39 hA127 (by kernel_rfl) (by kernel_rfl) hx120 Try.underlying25 rfl (by kernel_rfl)) hA127.2.1 ?_
    have hbel77_128 := Below.gN hbel77 hg101 hbel77.size
    have hbel77_129 := Below.gN hbel77_128 hg102 hbel77_128.size
    have hbel77_130 := Below.gB hbel77_129 hg103 hbel77_129.size (by omega)
    have hbel77_131 := Below.gN hbel77_130 hg110 hbel77_130.size
    have hbel77_132 := Below.gO hbel77_131 hg111 ho101_114 hbel77_131.size (by omega)
    have hbel77_133 := Below.gB hbel77_132 hg116 hbel77_132.size (by omega)
    have hbel77_134 := Below.gB hbel77_133 hg120 hbel77_133.size (by omega)
    have hok := chk_ok hp18
    have hfit : (js.length : Int) ≤ room := hok.fit
    have E : sub ⟨cs, js, room⟩ x = (⟨cs, js ++ [x], room⟩, 0) := by
      unfold sub
      rw [if_pos hp18, if_neg (by rw [inR_eq]; simp [hd35, hd59]), if_neg (by rw [hno]; decide), if_neg (by show ¬ room ≤ (js.length : Int); omega)]
    rw [E]
    have ho101_135 := Own.gN ho101_0 hg102
    have ho101_136 := Own.gBT ho101_135 hg103 hx102 (by decide)
    have ho101_137 := Own.gN ho101_136 hg110
    have ho101_138 := Own.gOT ho101_137 hg111 ho101_114 (by decide)
    have ho101_139 := Own.gBT ho101_138 hg116 hx103_118 (by decide)
    have ho101_140 := Own.gBT ho101_139 hg120 f77_126 (by decide)
    have ho111_141 := Own.gBT ho111 hg116 hx103_118 (by decide)
    have ho111_142 := Own.gBT ho111_141 hg120 f77_126 (by decide)
    exact ⟨_, _, _, _, rfl, ⟨rfl, Own.mono ho101_140 (by omega)⟩, ⟨rfl, Own.mono ho111_142 (by omega)⟩, hbel77_134⟩
  have hp87 := of_decide_eq_true hd87
  obtain ⟨y, hy⟩ : ∃ y, js[m]? = some y := ⟨_, List.getElem?_eq_getElem (by omega)⟩
  obtain ⟨ad2, hAd2⟩ := GR.adr (hd.j.below hbel77) jb_sz hy
  refine wp_seq ?_
  refine wp_seq ?_
  refine wp_region_lit ?_
  refine sx_val hA77 rfl (ev_move (hA77.ev (i := 8) (v := .int .i64 (m : Int))) _ rfl) ?_
  intro a148 hA148; clear hA77
  refine sx_val (v := .pointer (some ⟨B1, 1, none⟩)) hA148 rfl (fb_Disk_1 (hA148.ev (i := 2) (v := .pointer (some ⟨B1, 0, none⟩))) _ rfl) ?_
  intro a149 hA149; clear hA148
  refine sx_val (v := .slice A2 js.length c2) hA149 rfl (ev_cell (v := .slice A2 js.length c2) (hA149.ev (i := 32) (v := .pointer (some ⟨B1, 1, none⟩))) ((f77_0.cell 1).trans rfl) Try.underlying23 rfl _ rfl) ?_
  intro a150 hA150; clear hA149
  refine sx_val (v := .int .i64 (js.length : Int)) hA150 rfl (ev_len (hA150.ev (i := 33) (v := .slice A2 js.length c2)) Try.underlying23 _ rfl) ?_
  intro a151 hA151; clear hA150
  refine sx_val (v := .bool true) hA151 rfl (ev_lssB (k := .i64) (m := (m : Int)) (n := (js.length : Int)) (hA151.ev (i := 31)) (hA151.ev (i := 34)) hd87 _ rfl) ?_
  intro a152 hA152; clear hA151
  refine sx_nil ?_
  refine then_n ?_
  refine wp_cond_true (hA152.ev (i := 35) (v := .bool true)) ?_
  refine wp_skip ?_
  refine then_n ?_
  refine wp_seq ?_
  refine wp_block ?_
  refine wp_seq ?_
  cases hd153 : decide (y.slot = x.slot)
  rotate_left
  · have hp153 := of_decide_eq_true hd153
    refine region_D (n := 20) (by kernel_rfl) (by kernel_rfl) rfl (fun L ac wc => Below w.heap.size w wc ∧ w77.heap.size ≤ wc.heap.size ∧ Bx wc B1 25 (#[.slice A1 cs.length c1, .slice A2 js.length c2, .int .i64 room]) ∧ Bx wc B2 38 x.va ∧ Bx wc B3 25 (#[.slice none 0 0, .slice none 0 0, .int .i64 0]) ∧ (L 0 = true → Sv ac 38 (.pointer (some ⟨B1, 1, none⟩))) ∧ (L 1 = true → Sv ac 39 (.slice A2 js.length c2)) ∧ (L 2 = true → Sv ac 40 (.int .i64 (m : Int))) ∧ (L 3 = true → Sv ac 41 (.pointer (some (ad2.add (m * 11))))) ∧ (L 4 = true → Sv ac 42 (.pointer (some ((ad2.add (m * 11)).add 1)))) ∧ (L 5 = true → Sv ac 43 (.int .i64 y.slot)) ∧ (L 6 = true → Sv ac 44 (.pointer (some ⟨B2, 1, none⟩))) ∧ (L 7 = true → Sv ac 45 (.int .i64 x.slot)) ∧ (L 8 = true → Sv ac 46 (.bool true)) ∧ (L 9 = true → Sv ac 47 (.bool true)) ∧ (L 19 = true → Sv ac 57 (.bool true))) ⟨(Below.gN hbel77 (gdr _) hbel77.size), (Nat.le_refl _), (f77_0.gN (gdr _)), (f77_1.gN (gdr _)), (f77_2.gN (gdr _)), (fun h => by cases h), (fun h => by cases h), (fun h => by cases h), (fun h => by cases h), (fun h => by cases h), (fun h => by cases h), (fun h => by cases h), (fun h => by cases h), (fun h => by cases h), (fun h => by cases h), (fun h => by cases h)⟩ ?_ ?_
    · intro iq hiq o ho L hL hdep ac wc hF hJ
      obtain ⟨bl, sz, b_B1, b_B2, b_B3, s_38, s_39, s_40, s_41, s_42, s_43, s_44, s_45, s_46, s_47, s_57⟩ := hJ
      have z := hF.1.trans hA152.1
      match iq, hiq with
      | 0, _ =>
        obtain rfl := Option.some.inj (show some _ = some o from ho); clear ho
        have v2 := hF.sv (s := 2) (by kernel_rfl) (hA152.get (i := 2) (v := .pointer (some ⟨B1, 0, none⟩)))
        refine dj_val (i := 0) (v := .pointer (some ⟨B1, 1, none⟩)) rfl (.inl rfl) (fb_Disk_1 v2.eval _ rfl) ?_
        exact ⟨⟨_, rfl⟩, bl, sz, b_B1, b_B2, b_B3, (fun _ => Sv.self (by rw [z]; decide) _), (so s_39), (so s_40), (so s_41), (so s_42), (so s_43), (so s_44), (so s_45), (so s_46), (so s_47), (so s_57)⟩
      | 1, _ =>
        obtain rfl := Option.some.inj (show some _ = some o from ho); clear ho
        have v38 := s_38 (dp hdep 0)
        refine dj_val (i := 1) (v := .slice A2 js.length c2) rfl (.inl rfl) (ev_cell (v := .slice A2 js.length c2) v38.eval ((b_B1.cell 1).trans rfl) Try.underlying23 rfl _ rfl) ?_
        exact ⟨⟨_, rfl⟩, bl, sz, b_B1, b_B2, b_B3, (so s_38), (fun _ => Sv.self (by rw [z]; decide) _), (so s_40), (so s_41), (so s_42), (so s_43), (so s_44), (so s_45), (so s_46), (so s_47), (so s_57)⟩
      | 2, _ =>
        obtain rfl := Option.some.inj (show some _ = some o from ho); clear ho
        have v8 := hF.sv (s := 8) (by kernel_rfl) (hA152.get (i := 8) (v := .int .i64 (m : Int)))
        refine dj_val (i := 2) (v := .int .i64 (m : Int)) rfl (.inl rfl) (ev_move v8.eval _ rfl) ?_
        exact ⟨⟨_, rfl⟩, bl, sz, b_B1, b_B2, b_B3, (so s_38), (so s_39), (fun _ => Sv.self (by rw [z]; decide) _), (so s_41), (so s_42), (so s_43), (so s_44), (so s_45), (so s_46), (so s_47), (so s_57)⟩
      | 3, _ =>
        obtain rfl := Option.some.inj (show some _ = some o from ho); clear ho
        have v39 := s_39 (dp hdep 1)
        have v40 := s_40 (dp hdep 2)
        refine dj_val (i := 3) (v := .pointer (some (ad2.add (m * 11)))) rfl (.inl rfl) (ev_idx (k := m) v39.eval hAd2 v40.eval rfl (by omega) Try.underlying23 (by kernel_rfl) _ rfl) ?_
        exact ⟨⟨_, rfl⟩, bl, sz, b_B1, b_B2, b_B3, (so s_38), (so s_39), (so s_40), (fun _ => Sv.self (by rw [z]; decide) _), (so s_42), (so s_43), (so s_44), (so s_45), (so s_46), (so s_47), (so s_57)⟩
      | 4, _ =>
        obtain rfl := Option.some.inj (show some _ = some o from ho); clear ho
        have v41 := s_41 (dp hdep 3)
        refine dj_val (i := 4) (v := .pointer (some ((ad2.add (m * 11)).add 1))) rfl (.inl rfl) (fa_Job_1 v41.eval _ rfl) ?_
        exact ⟨⟨_, rfl⟩, bl, sz, b_B1, b_B2, b_B3, (so s_38), (so s_39), (so s_40), (so s_41), (fun _ => Sv.self (by rw [z]; decide) _), (so s_43), (so s_44), (so s_45), (so s_46), (so s_47), (so s_57)⟩
      | 5, _ =>
        obtain rfl := Option.some.inj (show some _ = some o from ho); clear ho
        have v42 := s_42 (dp hdep 4)
        refine dj_val (i := 5) (v := .int .i64 y.slot) rfl (.inl rfl) (ev_cell v42.eval ((GR.cel (hd.j.below bl) hAd2 jb_sz hy) 1 _ rfl) Try.underlying3 rfl _ rfl) ?_
        exact ⟨⟨_, rfl⟩, bl, sz, b_B1, b_B2, b_B3, (so s_38), (so s_39), (so s_40), (so s_41), (so s_42), (fun _ => Sv.self (by rw [z]; decide) _), (so s_44), (so s_45), (so s_46), (so s_47), (so s_57)⟩
      | 6, _ =>
        obtain rfl := Option.some.inj (show some _ = some o from ho); clear ho
        have v3 := hF.sv (s := 3) (by kernel_rfl) (hA152.get (i := 3) (v := .pointer (some ⟨B2, 0, none⟩)))
        refine dj_val (i := 6) (v := .pointer (some ⟨B2, 1, none⟩)) rfl (.inl rfl) (fb_Job_1 v3.eval _ rfl) ?_
        exact ⟨⟨_, rfl⟩, bl, sz, b_B1, b_B2, b_B3, (so s_38), (so s_39), (so s_40), (so s_41), (so s_42), (so s_43), (fun _ => Sv.self (by rw [z]; decide) _), (so s_45), (so s_46), (so s_47), (so s_57)⟩
      | 7, _ =>
        obtain rfl := Option.some.inj (show some _ = some o from ho); clear ho
        have v44 := s_44 (dp hdep 6)
        refine dj_val (i := 7) (v := .int .i64 x.slot) rfl (.inl rfl) (ev_cell (v := .int .i64 x.slot) v44.eval ((b_B2.cell 1).trans rfl) Try.underlying3 rfl _ rfl) ?_
        exact ⟨⟨_, rfl⟩, bl, sz, b_B1, b_B2, b_B3, (so s_38), (so s_39), (so s_40), (so s_41), (so s_42), (so s_43), (so s_44), (fun _ => Sv.self (by rw [z]; decide) _), (so s_46), (so s_47), (so s_57)⟩
      | 8, _ =>
        obtain rfl := Option.some.inj (show some _ = some o from ho); clear ho
        have v43 := s_43 (dp hdep 5)
        have v45 := s_45 (dp hdep 7)
        refine dj_val (i := 8) (v := .bool true) rfl (.inl rfl) (ev_eqlB (k := .i64) (m := y.slot) (n := x.slot) v43.eval v45.eval hd153 _ rfl) ?_
        exact ⟨⟨_, rfl⟩, bl, sz, b_B1, b_B2, b_B3, (so s_38), (so s_39), (so s_40), (so s_41), (so s_42), (so s_43), (so s_44), (so s_45), (fun _ => Sv.self (by rw [z]; decide) _), (so s_47), (so s_57)⟩
      | 9, _ =>
        obtain rfl := Option.some.inj (show some _ = some o from ho); clear ho
        have v46 := s_46 (dp hdep 8)
        refine dj_val (i := 9) (v := .bool true) rfl (.inl rfl) (ev_move v46.eval _ rfl) ?_
        exact ⟨⟨_, rfl⟩, bl, sz, b_B1, b_B2, b_B3, (so s_38), (so s_39), (so s_40), (so s_41), (so s_42), (so s_43), (so s_44), (so s_45), (so s_46), (fun _ => Sv.self (by rw [z]; decide) _), (so s_57)⟩
      | 10, _ =>
        obtain rfl := Option.some.inj (show some _ = some o from ho); clear ho
        have v47 := s_47 (dp hdep 9)
        refine dj_no (i := 10) rfl (j := 9) (s := 47) (want := false) (b := true) rfl (by kernel_rfl) v47 rfl ?_
        exact ⟨⟨_, rfl⟩, bl, sz, b_B1, b_B2, b_B3, (so s_38), (so s_39), (so s_40), (so s_41), (so s_42), (so s_43), (so s_44), (so s_45), (so s_46), (so s_47), (so s_57)⟩
      | 11, _ =>
        obtain rfl := Option.some.inj (show some _ = some o from ho); clear ho
        have v47 := s_47 (dp hdep 9)
        refine dj_no (i := 11) rfl (j := 9) (s := 47) (want := false) (b := true) rfl (by kernel_rfl) v47 rfl ?_
        exact ⟨⟨_, rfl⟩, bl, sz, b_B1, b_B2, b_B3, (so s_38), (so s_39), (so s_40), (so s_41), (so s_42), (so s_43), (so s_44), (so s_45), (so s_46), (so s_47), (so s_57)⟩
      | 12, _ =>
        obtain rfl := Option.some.inj (show some _ = some o from ho); clear ho
        have v47 := s_47 (dp hdep 9)
        refine dj_no (i := 12) rfl (j := 9) (s := 47) (want := false) (b := true) rfl (by kernel_rfl) v47 rfl ?_
        exact ⟨⟨_, rfl⟩, bl, sz, b_B1, b_B2, b_B3, (so s_38), (so s_39), (so s_40), (so s_41), (so s_42), (so s_43), (so s_44), (so s_45), (so s_46), (so s_47), (so s_57)⟩
      | 13, _ =>
        obtain rfl := Option.some.inj (show some _ = some o from ho); clear ho
        have v47 := s_47 (dp hdep 9)
        refine dj_no (i := 13) rfl (j := 9) (s := 47) (want := false) (b := true) rfl (by kernel_rfl) v47 rfl ?_
        exact ⟨⟨_, rfl⟩, bl, sz, b_B1, b_B2, b_B3, (so s_38), (so s_39), (so s_40), (so s_41), (so s_42), (so s_43), (so s_44), (so s_45), (so s_46), (so s_47), (so s_57)⟩
      | 14, _ =>
        obtain rfl := Option.some.inj (show some _ = some o from ho); clear ho
        have v47 := s_47 (dp hdep 9)
        refine dj_no (i := 14) rfl (j := 9) (s := 47) (want := false) (b := true) rfl (by kernel_rfl) v47 rfl ?_
        exact ⟨⟨_, rfl⟩, bl, sz, b_B1, b_B2, b_B3, (so s_38), (so s_39), (so s_40), (so s_41), (so s_42), (so s_43), (so s_44), (so s_45), (so s_46), (so s_47), (so s_57)⟩
      | 15, _ =>
        obtain rfl := Option.some.inj (show some _ = some o from ho); clear ho
        have v47 := s_47 (dp hdep 9)
        refine dj_no (i := 15) rfl (j := 9) (s := 47) (want := false) (b := true) rfl (by kernel_rfl) v47 rfl ?_
        exact ⟨⟨_, rfl⟩, bl, sz, b_B1, b_B2, b_B3, (so s_38), (so s_39), (so s_40), (so s_41), (so s_42), (so s_43), (so s_44), (so s_45), (so s_46), (so s_47), (so s_57)⟩
      | 16, _ =>
        obtain rfl := Option.some.inj (show some _ = some o from ho); clear ho
        have v47 := s_47 (dp hdep 9)
        refine dj_no (i := 16) rfl (j := 9) (s := 47) (want := false) (b := true) rfl (by kernel_rfl) v47 rfl ?_
        exact ⟨⟨_, rfl⟩, bl, sz, b_B1, b_B2, b_B3, (so s_38), (so s_39), (so s_40), (so s_41), (so s_42), (so s_43), (so s_44), (so s_45), (so s_46), (so s_47), (so s_57)⟩
      | 17, _ =>
        obtain rfl := Option.some.inj (show some _ = some o from ho); clear ho
        have v47 := s_47 (dp hdep 9)
        refine dj_no (i := 17) rfl (j := 9) (s := 47) (want := false) (b := true) rfl (by kernel_rfl) v47 rfl ?_
        exact ⟨⟨_, rfl⟩, bl, sz, b_B1, b_B2, b_B3, (so s_38), (so s_39), (so s_40), (so s_41), (so s_42), (so s_43), (so s_44), (so s_45), (so s_46), (so s_47), (so s_57)⟩
      | 18, _ =>
        obtain rfl := Option.some.inj (show some _ = some o from ho); clear ho
        have v47 := s_47 (dp hdep 9)
        refine dj_no (i := 18) rfl (j := 9) (s := 47) (want := false) (b := true) rfl (by kernel_rfl) v47 rfl ?_
        exact ⟨⟨_, rfl⟩, bl, sz, b_B1, b_B2, b_B3, (so s_38), (so s_39), (so s_40), (so s_41), (so s_42), (so s_43), (so s_44), (so s_45), (so s_46), (so s_47), (so s_57)⟩
      | 19, _ =>
        obtain rfl := Option.some.inj (show some _ = some o from ho); clear ho
        have v47 := s_47 (dp hdep 9)
        refine dj_val (i := 19) (v := .bool true) rfl (.inl rfl) (ev_pickT v47.eval (ec ac (.bool true)) _ rfl) ?_
        exact ⟨⟨_, rfl⟩, bl, sz, b_B1, b_B2, b_B3, (so s_38), (so s_39), (so s_40), (so s_41), (so s_42), (so s_43), (so s_44), (so s_45), (so s_46), (so s_47), (fun _ => Sv.self (by rw [z]; decide) _)⟩
      | k + 20, h => exact absurd h (by omega)
    · intro L hall ac164 wc164 hF hJ
      obtain ⟨bl, sz, b_B1, b_B2, b_B3, s_38, s_39, s_40, s_41, s_42, s_43, s_44, s_45, s_46, s_47, s_57⟩ := hJ
      have hA164 : Ag ac164 75 [(2, .pointer (some ⟨B1, 0, none⟩)), (3, .pointer (some ⟨B2, 0, none⟩)), (4, .pointer (some ⟨B3, 0, none⟩)), (8, .int .i64 (m : Int)), (31, .int .i64 (m : Int)), (32, .pointer (some ⟨B1, 1, none⟩)), (33, .slice A2 js.length c2), (34, .int .i64 (js.length : Int)), (35, .bool true), (38, .pointer (some ⟨B1, 1, none⟩)), (39, .slice A2 js.length c2), (40, .int .i64 (m : Int)), (41, .pointer (some (ad2.add (m * 11)))), (42, .pointer (some ((ad2.add (m * 11)).add 1))), (43, .int .i64 y.slot), (44, .pointer (some ⟨B2, 1, none⟩)), (45, .int .i64 x.slot), (46, .bool true), (47, .bool true), (57, .bool true)] := (((((((((((((((((((((Ag.nil (hF.1.trans hA152.1) (hF.2.1.trans hA152.2.1)).cons (s_57 (hall 19 (by decide)))).cons (s_47 (hall 9 (by decide)))).cons (s_46 (hall 8 (by decide)))).cons (s_45 (hall 7 (by decide)))).cons (s_44 (hall 6 (by decide)))).cons (s_43 (hall 5 (by decide)))).cons (s_42 (hall 4 (by decide)))).cons (s_41 (hall 3 (by decide)))).cons (s_40 (hall 2 (by decide)))).cons (s_39 (hall 1 (by decide)))).cons (s_38 (hall 0 (by decide)))).cons (hF.sv (s := 35) (by kernel_rfl) (hA152.get (i := 35) (v := .bool true)))).cons (hF.sv (s := 34) (by kernel_rfl) (hA152.get (i := 34) (v := .int .i64 (js.length : Int))))).cons (hF.sv (s := 33) (by kernel_rfl) (hA152.get (i := 33) (v := .slice A2 js.length c2)))).cons (hF.sv (s := 32) (by kernel_rfl) (hA152.get (i := 32) (v := .pointer (some ⟨B1, 1, none⟩))))).cons (hF.sv (s := 31) (by kernel_rfl) (hA152.get (i := 31) (v := .int .i64 (m : Int))))).cons (hF.sv (s := 8) (by kernel_rfl) (hA152.get (i := 8) (v := .int .i64 (m : Int))))).cons (hF.sv (s := 4) (by kernel_rfl) (hA152.get (i := 4) (v := .pointer (some ⟨B3, 0, none⟩))))).cons (hF.sv (s := 3) (by kernel_rfl) (hA152.get (i := 3) (v := .pointer (some ⟨B2, 0, none⟩))))).cons (hF.sv (s := 2) (by kernel_rfl) (hA152.get (i := 2) (v := .pointer (some ⟨B1, 0, none⟩)))))
      have bl164 := bl
      have sz164 := sz
      have b164_B1 := b_B1
      have b164_B2 := b_B2
      have b164_B3 := b_B3
      clear hF bl sz b_B1 b_B2 b_B3 s_38 s_39 s_40 s_41 s_42 s_43 s_44 s_45 s_46 s_47 s_57 hall hA152
      refine then_n ?_
      refine wp_cond_true (hA164.ev (i := 57) (v := .bool true)) ?_
      refine wp_seq ?_
      refine wp_region_lit ?_
      refine sx_val (v := .agg #[.slice none 0 0, .slice none 0 0, .int .i64 0]) hA164 rfl (bd0_Disk _ rfl) ?_
      intro a165 hA165; clear hA164
      refine sx_store hA165 rfl (.inl rfl) rfl (hA165.ev (i := 4) (v := .pointer (some ⟨B3, 0, none⟩))) (hA165.ev (i := 58) (v := .agg #[.slice none 0 0, .slice none 0 0, .int .i64 0])) b164_B3 (by kernel_rfl) rfl (dk_one _ _ _ _ _ _ _) ?_
      intro w166 hx166 hg166
      have hs166 := hg166.size
      refine sx_val hA165 rfl (ev_assign (ec _ (.int .i64 10)) _ rfl) ?_
      intro a167 hA167; clear hA165
      refine sx_nil ?_
      refine then_n ?_
      refine wp_ret ?_
      refine blk_r ?_
      refine then_r ?_
      refine then_r ?_
      refine blk_r ?_
      refine then_r ?_
      refine bodyPost_ret (rs_ct (v := .int .i64 10) Try.results39 hA167 (by kernel_rfl) (by kernel_rfl) hx166 Try.underlying25 rfl (by kernel_rfl)) hA167.2.1 ?_
      have bl164_168 := Below.gB bl164 hg166 bl164.size (by omega)
      have E : sub ⟨cs, js, room⟩ x = (Dk.nil, 10) := by
        unfold sub
        rw [if_pos hp18, if_neg (by rw [inR_eq]; simp [hd35, hd59]), if_pos (by rw [List.any_eq_true]; exact ⟨y, List.mem_of_getElem? hy, by simp [hits, hp153]⟩)]
      rw [E]
      exact ⟨none, 0, none, 0, rfl, OwC.nil _ _, OwJ.nil _ _, bl164_168⟩
  have hp153 := of_decide_eq_false hd153
  cases hd154 : decide (y.frame = x.frame)
  · have hp154 := of_decide_eq_false hd154
    refine region_D (n := 20) (by kernel_rfl) (by kernel_rfl) rfl (fun L ac wc => Below w.heap.size w wc ∧ w77.heap.size ≤ wc.heap.size ∧ Bx wc B1 25 (#[.slice A1 cs.length c1, .slice A2 js.length c2, .int .i64 room]) ∧ Bx wc B2 38 x.va ∧ Bx wc B3 25 (#[.slice none 0 0, .slice none 0 0, .int .i64 0]) ∧ (L 0 = true → Sv ac 38 (.pointer (some ⟨B1, 1, none⟩))) ∧ (L 1 = true → Sv ac 39 (.slice A2 js.length c2)) ∧ (L 2 = true → Sv ac 40 (.int .i64 (m : Int))) ∧ (L 3 = true → Sv ac 41 (.pointer (some (ad2.add (m * 11))))) ∧ (L 4 = true → Sv ac 42 (.pointer (some ((ad2.add (m * 11)).add 1)))) ∧ (L 5 = true → Sv ac 43 (.int .i64 y.slot)) ∧ (L 6 = true → Sv ac 44 (.pointer (some ⟨B2, 1, none⟩))) ∧ (L 7 = true → Sv ac 45 (.int .i64 x.slot)) ∧ (L 8 = true → Sv ac 46 (.bool false)) ∧ (L 9 = true → Sv ac 47 (.bool false)) ∧ (L 10 = true → Sv ac 48 (.pointer (some ⟨B1, 1, none⟩))) ∧ (L 11 = true → Sv ac 49 (.slice A2 js.length c2)) ∧ (L 12 = true → Sv ac 50 (.int .i64 (m : Int))) ∧ (L 13 = true → Sv ac 51 (.pointer (some (ad2.add (m * 11))))) ∧ (L 14 = true → Sv ac 52 (.pointer (some ((ad2.add (m * 11)).add 2)))) ∧ (L 15 = true → Sv ac 53 (.int .i64 y.frame)) ∧ (L 16 = true → Sv ac 54 (.pointer (some ⟨B2, 2, none⟩))) ∧ (L 17 = true → Sv ac 55 (.int .i64 x.frame)) ∧ (L 18 = true → Sv ac 56 (.bool false)) ∧ (L 19 = true → Sv ac 57 (.bool false))) ⟨(Below.gN hbel77 (gdr _) hbel77.size), (Nat.le_refl _), (f77_0.gN (gdr _)), (f77_1.gN (gdr _)), (f77_2.gN (gdr _)), (fun h => by cases h), (fun h => by cases h), (fun h => by cases h), (fun h => by cases h), (fun h => by cases h), (fun h => by cases h), (fun h => by cases h), (fun h => by cases h), (fun h => by cases h), (fun h => by cases h), (fun h => by cases h), (fun h => by cases h), (fun h => by cases h), (fun h => by cases h), (fun h => by cases h), (fun h => by cases h), (fun h => by cases h), (fun h => by cases h), (fun h => by cases h), (fun h => by cases h)⟩ ?_ ?_
    · intro iq hiq o ho L hL hdep ac wc hF hJ
      obtain ⟨bl, sz, b_B1, b_B2, b_B3, s_38, s_39, s_40, s_41, s_42, s_43, s_44, s_45, s_46, s_47, s_48, s_49, s_50, s_51, s_52, s_53, s_54, s_55, s_56, s_57⟩ := hJ
      have z := hF.1.trans hA152.1
      match iq, hiq with
      | 0, _ =>
        obtain rfl := Option.some.inj (show some _ = some o from ho); clear ho
        have v2 := hF.sv (s := 2) (by kernel_rfl) (hA152.get (i := 2) (v := .pointer (some ⟨B1, 0, none⟩)))
        refine dj_val (i := 0) (v := .pointer (some ⟨B1, 1, none⟩)) rfl (.inl rfl) (fb_Disk_1 v2.eval _ rfl) ?_
        exact ⟨⟨_, rfl⟩, bl, sz, b_B1, b_B2, b_B3, (fun _ => Sv.self (by rw [z]; decide) _), (so s_39), (so s_40), (so s_41), (so s_42), (so s_43), (so s_44), (so s_45), (so s_46), (so s_47), (so s_48), (so s_49), (so s_50), (so s_51), (so s_52), (so s_53), (so s_54), (so s_55), (so s_56), (so s_57)⟩
      | 1, _ =>
        obtain rfl := Option.some.inj (show some _ = some o from ho); clear ho
        have v38 := s_38 (dp hdep 0)
        refine dj_val (i := 1) (v := .slice A2 js.length c2) rfl (.inl rfl) (ev_cell (v := .slice A2 js.length c2) v38.eval ((b_B1.cell 1).trans rfl) Try.underlying23 rfl _ rfl) ?_
        exact ⟨⟨_, rfl⟩, bl, sz, b_B1, b_B2, b_B3, (so s_38), (fun _ => Sv.self (by rw [z]; decide) _), (so s_40), (so s_41), (so s_42), (so s_43), (so s_44), (so s_45), (so s_46), (so s_47), (so s_48), (so s_49), (so s_50), (so s_51), (so s_52), (so s_53), (so s_54), (so s_55), (so s_56), (so s_57)⟩
      | 2, _ =>
        obtain rfl := Option.some.inj (show some _ = some o from ho); clear ho
        have v8 := hF.sv (s := 8) (by kernel_rfl) (hA152.get (i := 8) (v := .int .i64 (m : Int)))
        refine dj_val (i := 2) (v := .int .i64 (m : Int)) rfl (.inl rfl) (ev_move v8.eval _ rfl) ?_
        exact ⟨⟨_, rfl⟩, bl, sz, b_B1, b_B2, b_B3, (so s_38), (so s_39), (fun _ => Sv.self (by rw [z]; decide) _), (so s_41), (so s_42), (so s_43), (so s_44), (so s_45), (so s_46), (so s_47), (so s_48), (so s_49), (so s_50), (so s_51), (so s_52), (so s_53), (so s_54), (so s_55), (so s_56), (so s_57)⟩
      | 3, _ =>
        obtain rfl := Option.some.inj (show some _ = some o from ho); clear ho
        have v39 := s_39 (dp hdep 1)
        have v40 := s_40 (dp hdep 2)
        refine dj_val (i := 3) (v := .pointer (some (ad2.add (m * 11)))) rfl (.inl rfl) (ev_idx (k := m) v39.eval hAd2 v40.eval rfl (by omega) Try.underlying23 (by kernel_rfl) _ rfl) ?_
        exact ⟨⟨_, rfl⟩, bl, sz, b_B1, b_B2, b_B3, (so s_38), (so s_39), (so s_40), (fun _ => Sv.self (by rw [z]; decide) _), (so s_42), (so s_43), (so s_44), (so s_45), (so s_46), (so s_47), (so s_48), (so s_49), (so s_50), (so s_51), (so s_52), (so s_53), (so s_54), (so s_55), (so s_56), (so s_57)⟩
      | 4, _ =>
        obtain rfl := Option.some.inj (show some _ = some o from ho); clear ho
        have v41 := s_41 (dp hdep 3)
        refine dj_val (i := 4) (v := .pointer (some ((ad2.add (m * 11)).add 1))) rfl (.inl rfl) (fa_Job_1 v41.eval _ rfl) ?_
        exact ⟨⟨_, rfl⟩, bl, sz, b_B1, b_B2, b_B3, (so s_38), (so s_39), (so s_40), (so s_41), (fun _ => Sv.self (by rw [z]; decide) _), (so s_43), (so s_44), (so s_45), (so s_46), (so s_47), (so s_48), (so s_49), (so s_50), (so s_51), (so s_52), (so s_53), (so s_54), (so s_55), (so s_56), (so s_57)⟩
      | 5, _ =>
        obtain rfl := Option.some.inj (show some _ = some o from ho); clear ho
        have v42 := s_42 (dp hdep 4)
        refine dj_val (i := 5) (v := .int .i64 y.slot) rfl (.inl rfl) (ev_cell v42.eval ((GR.cel (hd.j.below bl) hAd2 jb_sz hy) 1 _ rfl) Try.underlying3 rfl _ rfl) ?_
        exact ⟨⟨_, rfl⟩, bl, sz, b_B1, b_B2, b_B3, (so s_38), (so s_39), (so s_40), (so s_41), (so s_42), (fun _ => Sv.self (by rw [z]; decide) _), (so s_44), (so s_45), (so s_46), (so s_47), (so s_48), (so s_49), (so s_50), (so s_51), (so s_52), (so s_53), (so s_54), (so s_55), (so s_56), (so s_57)⟩
      | 6, _ =>
        obtain rfl := Option.some.inj (show some _ = some o from ho); clear ho
        have v3 := hF.sv (s := 3) (by kernel_rfl) (hA152.get (i := 3) (v := .pointer (some ⟨B2, 0, none⟩)))
        refine dj_val (i := 6) (v := .pointer (some ⟨B2, 1, none⟩)) rfl (.inl rfl) (fb_Job_1 v3.eval _ rfl) ?_
        exact ⟨⟨_, rfl⟩, bl, sz, b_B1, b_B2, b_B3, (so s_38), (so s_39), (so s_40), (so s_41), (so s_42), (so s_43), (fun _ => Sv.self (by rw [z]; decide) _), (so s_45), (so s_46), (so s_47), (so s_48), (so s_49), (so s_50), (so s_51), (so s_52), (so s_53), (so s_54), (so s_55), (so s_56), (so s_57)⟩
      | 7, _ =>
        obtain rfl := Option.some.inj (show some _ = some o from ho); clear ho
        have v44 := s_44 (dp hdep 6)
        refine dj_val (i := 7) (v := .int .i64 x.slot) rfl (.inl rfl) (ev_cell (v := .int .i64 x.slot) v44.eval ((b_B2.cell 1).trans rfl) Try.underlying3 rfl _ rfl) ?_
        exact ⟨⟨_, rfl⟩, bl, sz, b_B1, b_B2, b_B3, (so s_38), (so s_39), (so s_40), (so s_41), (so s_42), (so s_43), (so s_44), (fun _ => Sv.self (by rw [z]; decide) _), (so s_46), (so s_47), (so s_48), (so s_49), (so s_50), (so s_51), (so s_52), (so s_53), (so s_54), (so s_55), (so s_56), (so s_57)⟩
      | 8, _ =>
        obtain rfl := Option.some.inj (show some _ = some o from ho); clear ho
        have v43 := s_43 (dp hdep 5)
        have v45 := s_45 (dp hdep 7)
        refine dj_val (i := 8) (v := .bool false) rfl (.inl rfl) (ev_eqlB (k := .i64) (m := y.slot) (n := x.slot) v43.eval v45.eval hd153 _ rfl) ?_
        exact ⟨⟨_, rfl⟩, bl, sz, b_B1, b_B2, b_B3, (so s_38), (so s_39), (so s_40), (so s_41), (so s_42), (so s_43), (so s_44), (so s_45), (fun _ => Sv.self (by rw [z]; decide) _), (so s_47), (so s_48), (so s_49), (so s_50), (so s_51), (so s_52), (so s_53), (so s_54), (so s_55), (so s_56), (so s_57)⟩
      | 9, _ =>
        obtain rfl := Option.some.inj (show some _ = some o from ho); clear ho
        have v46 := s_46 (dp hdep 8)
        refine dj_val (i := 9) (v := .bool false) rfl (.inl rfl) (ev_move v46.eval _ rfl) ?_
        exact ⟨⟨_, rfl⟩, bl, sz, b_B1, b_B2, b_B3, (so s_38), (so s_39), (so s_40), (so s_41), (so s_42), (so s_43), (so s_44), (so s_45), (so s_46), (fun _ => Sv.self (by rw [z]; decide) _), (so s_48), (so s_49), (so s_50), (so s_51), (so s_52), (so s_53), (so s_54), (so s_55), (so s_56), (so s_57)⟩
      | 10, _ =>
        obtain rfl := Option.some.inj (show some _ = some o from ho); clear ho
        have v47 := s_47 (dp hdep 9)
        have v2 := hF.sv (s := 2) (by kernel_rfl) (hA152.get (i := 2) (v := .pointer (some ⟨B1, 0, none⟩)))
        refine dj_val (i := 10) (v := .pointer (some ⟨B1, 1, none⟩)) rfl (.inr ⟨9, false, 47, rfl, by kernel_rfl, v47⟩) (fb_Disk_1 v2.eval _ rfl) ?_
        exact ⟨⟨_, rfl⟩, bl, sz, b_B1, b_B2, b_B3, (so s_38), (so s_39), (so s_40), (so s_41), (so s_42), (so s_43), (so s_44), (so s_45), (so s_46), (so s_47), (fun _ => Sv.self (by rw [z]; decide) _), (so s_49), (so s_50), (so s_51), (so s_52), (so s_53), (so s_54), (so s_55), (so s_56), (so s_57)⟩
      | 11, _ =>
        obtain rfl := Option.some.inj (show some _ = some o from ho); clear ho
        have v47 := s_47 (dp hdep 9)
        have v48 := s_48 (dp hdep 10)
        refine dj_val (i := 11) (v := .slice A2 js.length c2) rfl (.inr ⟨9, false, 47, rfl, by kernel_rfl, v47⟩) (ev_cell (v := .slice A2 js.length c2) v48.eval ((b_B1.cell 1).trans rfl) Try.underlying23 rfl _ rfl) ?_
        exact ⟨⟨_, rfl⟩, bl, sz, b_B1, b_B2, b_B3, (so s_38), (so s_39), (so s_40), (so s_41), (so s_42), (so s_43), (so s_44), (so s_45), (so s_46), (so s_47), (so s_48), (fun _ => Sv.self (by rw [z]; decide) _), (so s_50), (so s_51), (so s_52), (so s_53), (so s_54), (so s_55), (so s_56), (so s_57)⟩
      | 12, _ =>
        obtain rfl := Option.some.inj (show some _ = some o from ho); clear ho
        have v47 := s_47 (dp hdep 9)
        have v8 := hF.sv (s := 8) (by kernel_rfl) (hA152.get (i := 8) (v := .int .i64 (m : Int)))
        refine dj_val (i := 12) (v := .int .i64 (m : Int)) rfl (.inr ⟨9, false, 47, rfl, by kernel_rfl, v47⟩) (ev_move v8.eval _ rfl) ?_
        exact ⟨⟨_, rfl⟩, bl, sz, b_B1, b_B2, b_B3, (so s_38), (so s_39), (so s_40), (so s_41), (so s_42), (so s_43), (so s_44), (so s_45), (so s_46), (so s_47), (so s_48), (so s_49), (fun _ => Sv.self (by rw [z]; decide) _), (so s_51), (so s_52), (so s_53), (so s_54), (so s_55), (so s_56), (so s_57)⟩
      | 13, _ =>
        obtain rfl := Option.some.inj (show some _ = some o from ho); clear ho
        have v47 := s_47 (dp hdep 9)
        have v49 := s_49 (dp hdep 11)
        have v50 := s_50 (dp hdep 12)
        refine dj_val (i := 13) (v := .pointer (some (ad2.add (m * 11)))) rfl (.inr ⟨9, false, 47, rfl, by kernel_rfl, v47⟩) (ev_idx (k := m) v49.eval hAd2 v50.eval rfl (by omega) Try.underlying23 (by kernel_rfl) _ rfl) ?_
        exact ⟨⟨_, rfl⟩, bl, sz, b_B1, b_B2, b_B3, (so s_38), (so s_39), (so s_40), (so s_41), (so s_42), (so s_43), (so s_44), (so s_45), (so s_46), (so s_47), (so s_48), (so s_49), (so s_50), (fun _ => Sv.self (by rw [z]; decide) _), (so s_52), (so s_53), (so s_54), (so s_55), (so s_56), (so s_57)⟩
      | 14, _ =>
        obtain rfl := Option.some.inj (show some _ = some o from ho); clear ho
        have v47 := s_47 (dp hdep 9)
        have v51 := s_51 (dp hdep 13)
        refine dj_val (i := 14) (v := .pointer (some ((ad2.add (m * 11)).add 2))) rfl (.inr ⟨9, false, 47, rfl, by kernel_rfl, v47⟩) (fa_Job_2 v51.eval _ rfl) ?_
        exact ⟨⟨_, rfl⟩, bl, sz, b_B1, b_B2, b_B3, (so s_38), (so s_39), (so s_40), (so s_41), (so s_42), (so s_43), (so s_44), (so s_45), (so s_46), (so s_47), (so s_48), (so s_49), (so s_50), (so s_51), (fun _ => Sv.self (by rw [z]; decide) _), (so s_53), (so s_54), (so s_55), (so s_56), (so s_57)⟩
      | 15, _ =>
        obtain rfl := Option.some.inj (show some _ = some o from ho); clear ho
        have v47 := s_47 (dp hdep 9)
        have v52 := s_52 (dp hdep 14)
        refine dj_val (i := 15) (v := .int .i64 y.frame) rfl (.inr ⟨9, false, 47, rfl, by kernel_rfl, v47⟩) (ev_cell v52.eval ((GR.cel (hd.j.below bl) hAd2 jb_sz hy) 2 _ rfl) Try.underlying3 rfl _ rfl) ?_
        exact ⟨⟨_, rfl⟩, bl, sz, b_B1, b_B2, b_B3, (so s_38), (so s_39), (so s_40), (so s_41), (so s_42), (so s_43), (so s_44), (so s_45), (so s_46), (so s_47), (so s_48), (so s_49), (so s_50), (so s_51), (so s_52), (fun _ => Sv.self (by rw [z]; decide) _), (so s_54), (so s_55), (so s_56), (so s_57)⟩
      | 16, _ =>
        obtain rfl := Option.some.inj (show some _ = some o from ho); clear ho
        have v47 := s_47 (dp hdep 9)
        have v3 := hF.sv (s := 3) (by kernel_rfl) (hA152.get (i := 3) (v := .pointer (some ⟨B2, 0, none⟩)))
        refine dj_val (i := 16) (v := .pointer (some ⟨B2, 2, none⟩)) rfl (.inr ⟨9, false, 47, rfl, by kernel_rfl, v47⟩) (fb_Job_2 v3.eval _ rfl) ?_
        exact ⟨⟨_, rfl⟩, bl, sz, b_B1, b_B2, b_B3, (so s_38), (so s_39), (so s_40), (so s_41), (so s_42), (so s_43), (so s_44), (so s_45), (so s_46), (so s_47), (so s_48), (so s_49), (so s_50), (so s_51), (so s_52), (so s_53), (fun _ => Sv.self (by rw [z]; decide) _), (so s_55), (so s_56), (so s_57)⟩
      | 17, _ =>
        obtain rfl := Option.some.inj (show some _ = some o from ho); clear ho
        have v47 := s_47 (dp hdep 9)
        have v54 := s_54 (dp hdep 16)
        refine dj_val (i := 17) (v := .int .i64 x.frame) rfl (.inr ⟨9, false, 47, rfl, by kernel_rfl, v47⟩) (ev_cell (v := .int .i64 x.frame) v54.eval ((b_B2.cell 2).trans rfl) Try.underlying3 rfl _ rfl) ?_
        exact ⟨⟨_, rfl⟩, bl, sz, b_B1, b_B2, b_B3, (so s_38), (so s_39), (so s_40), (so s_41), (so s_42), (so s_43), (so s_44), (so s_45), (so s_46), (so s_47), (so s_48), (so s_49), (so s_50), (so s_51), (so s_52), (so s_53), (so s_54), (fun _ => Sv.self (by rw [z]; decide) _), (so s_56), (so s_57)⟩
      | 18, _ =>
        obtain rfl := Option.some.inj (show some _ = some o from ho); clear ho
        have v47 := s_47 (dp hdep 9)
        have v53 := s_53 (dp hdep 15)
        have v55 := s_55 (dp hdep 17)
        refine dj_val (i := 18) (v := .bool false) rfl (.inr ⟨9, false, 47, rfl, by kernel_rfl, v47⟩) (ev_eqlB (k := .i64) (m := y.frame) (n := x.frame) v53.eval v55.eval hd154 _ rfl) ?_
        exact ⟨⟨_, rfl⟩, bl, sz, b_B1, b_B2, b_B3, (so s_38), (so s_39), (so s_40), (so s_41), (so s_42), (so s_43), (so s_44), (so s_45), (so s_46), (so s_47), (so s_48), (so s_49), (so s_50), (so s_51), (so s_52), (so s_53), (so s_54), (so s_55), (fun _ => Sv.self (by rw [z]; decide) _), (so s_57)⟩
      | 19, _ =>
        obtain rfl := Option.some.inj (show some _ = some o from ho); clear ho
        have v47 := s_47 (dp hdep 9)
        have v56 := s_56 (dp hdep 18)
        refine dj_val (i := 19) (v := .bool false) rfl (.inl rfl) (ev_pickF v47.eval v56.eval _ rfl) ?_
        exact ⟨⟨_, rfl⟩, bl, sz, b_B1, b_B2, b_B3, (so s_38), (so s_39), (so s_40), (so s_41), (so s_42), (so s_43), (so s_44), (so s_45), (so s_46), (so s_47), (so s_48), (so s_49), (so s_50), (so s_51), (so s_52), (so s_53), (so s_54), (so s_55), (so s_56), (fun _ => Sv.self (by rw [z]; decide) _)⟩
      | k + 20, h => exact absurd h (by omega)
    · intro L hall ac155 wc155 hF hJ
      obtain ⟨bl, sz, b_B1, b_B2, b_B3, s_38, s_39, s_40, s_41, s_42, s_43, s_44, s_45, s_46, s_47, s_48, s_49, s_50, s_51, s_52, s_53, s_54, s_55, s_56, s_57⟩ := hJ
      have hA155 : Ag ac155 75 [(2, .pointer (some ⟨B1, 0, none⟩)), (3, .pointer (some ⟨B2, 0, none⟩)), (4, .pointer (some ⟨B3, 0, none⟩)), (8, .int .i64 (m : Int)), (31, .int .i64 (m : Int)), (32, .pointer (some ⟨B1, 1, none⟩)), (33, .slice A2 js.length c2), (34, .int .i64 (js.length : Int)), (35, .bool true), (38, .pointer (some ⟨B1, 1, none⟩)), (39, .slice A2 js.length c2), (40, .int .i64 (m : Int)), (41, .pointer (some (ad2.add (m * 11)))), (42, .pointer (some ((ad2.add (m * 11)).add 1))), (43, .int .i64 y.slot), (44, .pointer (some ⟨B2, 1, none⟩)), (45, .int .i64 x.slot), (46, .bool false), (47, .bool false), (48, .pointer (some ⟨B1, 1, none⟩)), (49, .slice A2 js.length c2), (50, .int .i64 (m : Int)), (51, .pointer (some (ad2.add (m * 11)))), (52, .pointer (some ((ad2.add (m * 11)).add 2))), (53, .int .i64 y.frame), (54, .pointer (some ⟨B2, 2, none⟩)), (55, .int .i64 x.frame), (56, .bool false), (57, .bool false)] := ((((((((((((((((((((((((((((((Ag.nil (hF.1.trans hA152.1) (hF.2.1.trans hA152.2.1)).cons (s_57 (hall 19 (by decide)))).cons (s_56 (hall 18 (by decide)))).cons (s_55 (hall 17 (by decide)))).cons (s_54 (hall 16 (by decide)))).cons (s_53 (hall 15 (by decide)))).cons (s_52 (hall 14 (by decide)))).cons (s_51 (hall 13 (by decide)))).cons (s_50 (hall 12 (by decide)))).cons (s_49 (hall 11 (by decide)))).cons (s_48 (hall 10 (by decide)))).cons (s_47 (hall 9 (by decide)))).cons (s_46 (hall 8 (by decide)))).cons (s_45 (hall 7 (by decide)))).cons (s_44 (hall 6 (by decide)))).cons (s_43 (hall 5 (by decide)))).cons (s_42 (hall 4 (by decide)))).cons (s_41 (hall 3 (by decide)))).cons (s_40 (hall 2 (by decide)))).cons (s_39 (hall 1 (by decide)))).cons (s_38 (hall 0 (by decide)))).cons (hF.sv (s := 35) (by kernel_rfl) (hA152.get (i := 35) (v := .bool true)))).cons (hF.sv (s := 34) (by kernel_rfl) (hA152.get (i := 34) (v := .int .i64 (js.length : Int))))).cons (hF.sv (s := 33) (by kernel_rfl) (hA152.get (i := 33) (v := .slice A2 js.length c2)))).cons (hF.sv (s := 32) (by kernel_rfl) (hA152.get (i := 32) (v := .pointer (some ⟨B1, 1, none⟩))))).cons (hF.sv (s := 31) (by kernel_rfl) (hA152.get (i := 31) (v := .int .i64 (m : Int))))).cons (hF.sv (s := 8) (by kernel_rfl) (hA152.get (i := 8) (v := .int .i64 (m : Int))))).cons (hF.sv (s := 4) (by kernel_rfl) (hA152.get (i := 4) (v := .pointer (some ⟨B3, 0, none⟩))))).cons (hF.sv (s := 3) (by kernel_rfl) (hA152.get (i := 3) (v := .pointer (some ⟨B2, 0, none⟩))))).cons (hF.sv (s := 2) (by kernel_rfl) (hA152.get (i := 2) (v := .pointer (some ⟨B1, 0, none⟩)))))
      have bl155 := bl
      have sz155 := sz
      have b155_B1 := b_B1
      have b155_B2 := b_B2
      have b155_B3 := b_B3
      clear hF bl sz b_B1 b_B2 b_B3 s_38 s_39 s_40 s_41 s_42 s_43 s_44 s_45 s_46 s_47 s_48 s_49 s_50 s_51 s_52 s_53 s_54 s_55 s_56 s_57 hall hA152
      refine then_n ?_
      refine wp_cond_false (hA155.ev (i := 57) (v := .bool false)) ?_
      refine wp_skip ?_
      refine blk_n ?_
      refine then_n ?_
      refine wp_region_lit ?_
      refine sx_val hA155 rfl (ev_move (hA155.ev (i := 8) (v := .int .i64 (m : Int))) _ rfl) ?_
      intro a156 hA156; clear hA155
      refine sx_val (v := .int .i64 ((m + 1 : Nat) : Int)) hA156 rfl (ev_addR (k := .i64) (m := (m : Int)) (n := 1) (r := ((m + 1 : Nat) : Int)) (hA156.ev (i := 36)) (ec _ (.int .i64 1)) (wr (by omega) (by omega) (by omega)) _ rfl) ?_
      intro a157 hA157; clear hA156
      refine sx_val hA157 rfl (ev_assign (hA157.ev (i := 37) (v := .int .i64 ((m + 1 : Nat) : Int))) _ rfl) ?_
      intro a158 hA158; clear hA157
      refine sx_nil ?_
      refine then_n ?_
      refine ⟨js.length - (m + 1), by omega, m + 1, rfl, (((((Ag.nil hA158.1 hA158.2.1).cons (hA158.get (i := 8) (v := .int .i64 ((m + 1 : Nat) : Int)))).cons (hA158.get (i := 4) (v := .pointer (some ⟨B3, 0, none⟩)))).cons (hA158.get (i := 3) (v := .pointer (some ⟨B2, 0, none⟩)))).cons (hA158.get (i := 2) (v := .pointer (some ⟨B1, 0, none⟩)))), by omega, by rw [take_any hy, q77_1]; simp [hits, hp153, hp154], b155_B1, b155_B2, b155_B3, by omega, bl155⟩
  have hp154 := of_decide_eq_true hd154
  refine region_D (n := 20) (by kernel_rfl) (by kernel_rfl) rfl (fun L ac wc => Below w.heap.size w wc ∧ w77.heap.size ≤ wc.heap.size ∧ Bx wc B1 25 (#[.slice A1 cs.length c1, .slice A2 js.length c2, .int .i64 room]) ∧ Bx wc B2 38 x.va ∧ Bx wc B3 25 (#[.slice none 0 0, .slice none 0 0, .int .i64 0]) ∧ (L 0 = true → Sv ac 38 (.pointer (some ⟨B1, 1, none⟩))) ∧ (L 1 = true → Sv ac 39 (.slice A2 js.length c2)) ∧ (L 2 = true → Sv ac 40 (.int .i64 (m : Int))) ∧ (L 3 = true → Sv ac 41 (.pointer (some (ad2.add (m * 11))))) ∧ (L 4 = true → Sv ac 42 (.pointer (some ((ad2.add (m * 11)).add 1)))) ∧ (L 5 = true → Sv ac 43 (.int .i64 y.slot)) ∧ (L 6 = true → Sv ac 44 (.pointer (some ⟨B2, 1, none⟩))) ∧ (L 7 = true → Sv ac 45 (.int .i64 x.slot)) ∧ (L 8 = true → Sv ac 46 (.bool false)) ∧ (L 9 = true → Sv ac 47 (.bool false)) ∧ (L 10 = true → Sv ac 48 (.pointer (some ⟨B1, 1, none⟩))) ∧ (L 11 = true → Sv ac 49 (.slice A2 js.length c2)) ∧ (L 12 = true → Sv ac 50 (.int .i64 (m : Int))) ∧ (L 13 = true → Sv ac 51 (.pointer (some (ad2.add (m * 11))))) ∧ (L 14 = true → Sv ac 52 (.pointer (some ((ad2.add (m * 11)).add 2)))) ∧ (L 15 = true → Sv ac 53 (.int .i64 y.frame)) ∧ (L 16 = true → Sv ac 54 (.pointer (some ⟨B2, 2, none⟩))) ∧ (L 17 = true → Sv ac 55 (.int .i64 x.frame)) ∧ (L 18 = true → Sv ac 56 (.bool true)) ∧ (L 19 = true → Sv ac 57 (.bool true))) ⟨(Below.gN hbel77 (gdr _) hbel77.size), (Nat.le_refl _), (f77_0.gN (gdr _)), (f77_1.gN (gdr _)), (f77_2.gN (gdr _)), (fun h => by cases h), (fun h => by cases h), (fun h => by cases h), (fun h => by cases h), (fun h => by cases h), (fun h => by cases h), (fun h => by cases h), (fun h => by cases h), (fun h => by cases h), (fun h => by cases h), (fun h => by cases h), (fun h => by cases h), (fun h => by cases h), (fun h => by cases h), (fun h => by cases h), (fun h => by cases h), (fun h => by cases h), (fun h => by cases h), (fun h => by cases h), (fun h => by cases h)⟩ ?_ ?_
  · intro iq hiq o ho L hL hdep ac wc hF hJ
    obtain ⟨bl, sz, b_B1, b_B2, b_B3, s_38, s_39, s_40, s_41, s_42, s_43, s_44, s_45, s_46, s_47, s_48, s_49, s_50, s_51, s_52, s_53, s_54, s_55, s_56, s_57⟩ := hJ
    have z := hF.1.trans hA152.1
    match iq, hiq with
    | 0, _ =>
      obtain rfl := Option.some.inj (show some _ = some o from ho); clear ho
      have v2 := hF.sv (s := 2) (by kernel_rfl) (hA152.get (i := 2) (v := .pointer (some ⟨B1, 0, none⟩)))
      refine dj_val (i := 0) (v := .pointer (some ⟨B1, 1, none⟩)) rfl (.inl rfl) (fb_Disk_1 v2.eval _ rfl) ?_
      exact ⟨⟨_, rfl⟩, bl, sz, b_B1, b_B2, b_B3, (fun _ => Sv.self (by rw [z]; decide) _), (so s_39), (so s_40), (so s_41), (so s_42), (so s_43), (so s_44), (so s_45), (so s_46), (so s_47), (so s_48), (so s_49), (so s_50), (so s_51), (so s_52), (so s_53), (so s_54), (so s_55), (so s_56), (so s_57)⟩
    | 1, _ =>
      obtain rfl := Option.some.inj (show some _ = some o from ho); clear ho
      have v38 := s_38 (dp hdep 0)
      refine dj_val (i := 1) (v := .slice A2 js.length c2) rfl (.inl rfl) (ev_cell (v := .slice A2 js.length c2) v38.eval ((b_B1.cell 1).trans rfl) Try.underlying23 rfl _ rfl) ?_
      exact ⟨⟨_, rfl⟩, bl, sz, b_B1, b_B2, b_B3, (so s_38), (fun _ => Sv.self (by rw [z]; decide) _), (so s_40), (so s_41), (so s_42), (so s_43), (so s_44), (so s_45), (so s_46), (so s_47), (so s_48), (so s_49), (so s_50), (so s_51), (so s_52), (so s_53), (so s_54), (so s_55), (so s_56), (so s_57)⟩
    | 2, _ =>
      obtain rfl := Option.some.inj (show some _ = some o from ho); clear ho
      have v8 := hF.sv (s := 8) (by kernel_rfl) (hA152.get (i := 8) (v := .int .i64 (m : Int)))
      refine dj_val (i := 2) (v := .int .i64 (m : Int)) rfl (.inl rfl) (ev_move v8.eval _ rfl) ?_
      exact ⟨⟨_, rfl⟩, bl, sz, b_B1, b_B2, b_B3, (so s_38), (so s_39), (fun _ => Sv.self (by rw [z]; decide) _), (so s_41), (so s_42), (so s_43), (so s_44), (so s_45), (so s_46), (so s_47), (so s_48), (so s_49), (so s_50), (so s_51), (so s_52), (so s_53), (so s_54), (so s_55), (so s_56), (so s_57)⟩
    | 3, _ =>
      obtain rfl := Option.some.inj (show some _ = some o from ho); clear ho
      have v39 := s_39 (dp hdep 1)
      have v40 := s_40 (dp hdep 2)
      refine dj_val (i := 3) (v := .pointer (some (ad2.add (m * 11)))) rfl (.inl rfl) (ev_idx (k := m) v39.eval hAd2 v40.eval rfl (by omega) Try.underlying23 (by kernel_rfl) _ rfl) ?_
      exact ⟨⟨_, rfl⟩, bl, sz, b_B1, b_B2, b_B3, (so s_38), (so s_39), (so s_40), (fun _ => Sv.self (by rw [z]; decide) _), (so s_42), (so s_43), (so s_44), (so s_45), (so s_46), (so s_47), (so s_48), (so s_49), (so s_50), (so s_51), (so s_52), (so s_53), (so s_54), (so s_55), (so s_56), (so s_57)⟩
    | 4, _ =>
      obtain rfl := Option.some.inj (show some _ = some o from ho); clear ho
      have v41 := s_41 (dp hdep 3)
      refine dj_val (i := 4) (v := .pointer (some ((ad2.add (m * 11)).add 1))) rfl (.inl rfl) (fa_Job_1 v41.eval _ rfl) ?_
      exact ⟨⟨_, rfl⟩, bl, sz, b_B1, b_B2, b_B3, (so s_38), (so s_39), (so s_40), (so s_41), (fun _ => Sv.self (by rw [z]; decide) _), (so s_43), (so s_44), (so s_45), (so s_46), (so s_47), (so s_48), (so s_49), (so s_50), (so s_51), (so s_52), (so s_53), (so s_54), (so s_55), (so s_56), (so s_57)⟩
    | 5, _ =>
      obtain rfl := Option.some.inj (show some _ = some o from ho); clear ho
      have v42 := s_42 (dp hdep 4)
      refine dj_val (i := 5) (v := .int .i64 y.slot) rfl (.inl rfl) (ev_cell v42.eval ((GR.cel (hd.j.below bl) hAd2 jb_sz hy) 1 _ rfl) Try.underlying3 rfl _ rfl) ?_
      exact ⟨⟨_, rfl⟩, bl, sz, b_B1, b_B2, b_B3, (so s_38), (so s_39), (so s_40), (so s_41), (so s_42), (fun _ => Sv.self (by rw [z]; decide) _), (so s_44), (so s_45), (so s_46), (so s_47), (so s_48), (so s_49), (so s_50), (so s_51), (so s_52), (so s_53), (so s_54), (so s_55), (so s_56), (so s_57)⟩
    | 6, _ =>
      obtain rfl := Option.some.inj (show some _ = some o from ho); clear ho
      have v3 := hF.sv (s := 3) (by kernel_rfl) (hA152.get (i := 3) (v := .pointer (some ⟨B2, 0, none⟩)))
      refine dj_val (i := 6) (v := .pointer (some ⟨B2, 1, none⟩)) rfl (.inl rfl) (fb_Job_1 v3.eval _ rfl) ?_
      exact ⟨⟨_, rfl⟩, bl, sz, b_B1, b_B2, b_B3, (so s_38), (so s_39), (so s_40), (so s_41), (so s_42), (so s_43), (fun _ => Sv.self (by rw [z]; decide) _), (so s_45), (so s_46), (so s_47), (so s_48), (so s_49), (so s_50), (so s_51), (so s_52), (so s_53), (so s_54), (so s_55), (so s_56), (so s_57)⟩
    | 7, _ =>
      obtain rfl := Option.some.inj (show some _ = some o from ho); clear ho
      have v44 := s_44 (dp hdep 6)
      refine dj_val (i := 7) (v := .int .i64 x.slot) rfl (.inl rfl) (ev_cell (v := .int .i64 x.slot) v44.eval ((b_B2.cell 1).trans rfl) Try.underlying3 rfl _ rfl) ?_
      exact ⟨⟨_, rfl⟩, bl, sz, b_B1, b_B2, b_B3, (so s_38), (so s_39), (so s_40), (so s_41), (so s_42), (so s_43), (so s_44), (fun _ => Sv.self (by rw [z]; decide) _), (so s_46), (so s_47), (so s_48), (so s_49), (so s_50), (so s_51), (so s_52), (so s_53), (so s_54), (so s_55), (so s_56), (so s_57)⟩
    | 8, _ =>
      obtain rfl := Option.some.inj (show some _ = some o from ho); clear ho
      have v43 := s_43 (dp hdep 5)
      have v45 := s_45 (dp hdep 7)
      refine dj_val (i := 8) (v := .bool false) rfl (.inl rfl) (ev_eqlB (k := .i64) (m := y.slot) (n := x.slot) v43.eval v45.eval hd153 _ rfl) ?_
      exact ⟨⟨_, rfl⟩, bl, sz, b_B1, b_B2, b_B3, (so s_38), (so s_39), (so s_40), (so s_41), (so s_42), (so s_43), (so s_44), (so s_45), (fun _ => Sv.self (by rw [z]; decide) _), (so s_47), (so s_48), (so s_49), (so s_50), (so s_51), (so s_52), (so s_53), (so s_54), (so s_55), (so s_56), (so s_57)⟩
    | 9, _ =>
      obtain rfl := Option.some.inj (show some _ = some o from ho); clear ho
      have v46 := s_46 (dp hdep 8)
      refine dj_val (i := 9) (v := .bool false) rfl (.inl rfl) (ev_move v46.eval _ rfl) ?_
      exact ⟨⟨_, rfl⟩, bl, sz, b_B1, b_B2, b_B3, (so s_38), (so s_39), (so s_40), (so s_41), (so s_42), (so s_43), (so s_44), (so s_45), (so s_46), (fun _ => Sv.self (by rw [z]; decide) _), (so s_48), (so s_49), (so s_50), (so s_51), (so s_52), (so s_53), (so s_54), (so s_55), (so s_56), (so s_57)⟩
    | 10, _ =>
      obtain rfl := Option.some.inj (show some _ = some o from ho); clear ho
      have v47 := s_47 (dp hdep 9)
      have v2 := hF.sv (s := 2) (by kernel_rfl) (hA152.get (i := 2) (v := .pointer (some ⟨B1, 0, none⟩)))
      refine dj_val (i := 10) (v := .pointer (some ⟨B1, 1, none⟩)) rfl (.inr ⟨9, false, 47, rfl, by kernel_rfl, v47⟩) (fb_Disk_1 v2.eval _ rfl) ?_
      exact ⟨⟨_, rfl⟩, bl, sz, b_B1, b_B2, b_B3, (so s_38), (so s_39), (so s_40), (so s_41), (so s_42), (so s_43), (so s_44), (so s_45), (so s_46), (so s_47), (fun _ => Sv.self (by rw [z]; decide) _), (so s_49), (so s_50), (so s_51), (so s_52), (so s_53), (so s_54), (so s_55), (so s_56), (so s_57)⟩
    | 11, _ =>
      obtain rfl := Option.some.inj (show some _ = some o from ho); clear ho
      have v47 := s_47 (dp hdep 9)
      have v48 := s_48 (dp hdep 10)
      refine dj_val (i := 11) (v := .slice A2 js.length c2) rfl (.inr ⟨9, false, 47, rfl, by kernel_rfl, v47⟩) (ev_cell (v := .slice A2 js.length c2) v48.eval ((b_B1.cell 1).trans rfl) Try.underlying23 rfl _ rfl) ?_
      exact ⟨⟨_, rfl⟩, bl, sz, b_B1, b_B2, b_B3, (so s_38), (so s_39), (so s_40), (so s_41), (so s_42), (so s_43), (so s_44), (so s_45), (so s_46), (so s_47), (so s_48), (fun _ => Sv.self (by rw [z]; decide) _), (so s_50), (so s_51), (so s_52), (so s_53), (so s_54), (so s_55), (so s_56), (so s_57)⟩
    | 12, _ =>
      obtain rfl := Option.some.inj (show some _ = some o from ho); clear ho
      have v47 := s_47 (dp hdep 9)
      have v8 := hF.sv (s := 8) (by kernel_rfl) (hA152.get (i := 8) (v := .int .i64 (m : Int)))
      refine dj_val (i := 12) (v := .int .i64 (m : Int)) rfl (.inr ⟨9, false, 47, rfl, by kernel_rfl, v47⟩) (ev_move v8.eval _ rfl) ?_
      exact ⟨⟨_, rfl⟩, bl, sz, b_B1, b_B2, b_B3, (so s_38), (so s_39), (so s_40), (so s_41), (so s_42), (so s_43), (so s_44), (so s_45), (so s_46), (so s_47), (so s_48), (so s_49), (fun _ => Sv.self (by rw [z]; decide) _), (so s_51), (so s_52), (so s_53), (so s_54), (so s_55), (so s_56), (so s_57)⟩
    | 13, _ =>
      obtain rfl := Option.some.inj (show some _ = some o from ho); clear ho
      have v47 := s_47 (dp hdep 9)
      have v49 := s_49 (dp hdep 11)
      have v50 := s_50 (dp hdep 12)
      refine dj_val (i := 13) (v := .pointer (some (ad2.add (m * 11)))) rfl (.inr ⟨9, false, 47, rfl, by kernel_rfl, v47⟩) (ev_idx (k := m) v49.eval hAd2 v50.eval rfl (by omega) Try.underlying23 (by kernel_rfl) _ rfl) ?_
      exact ⟨⟨_, rfl⟩, bl, sz, b_B1, b_B2, b_B3, (so s_38), (so s_39), (so s_40), (so s_41), (so s_42), (so s_43), (so s_44), (so s_45), (so s_46), (so s_47), (so s_48), (so s_49), (so s_50), (fun _ => Sv.self (by rw [z]; decide) _), (so s_52), (so s_53), (so s_54), (so s_55), (so s_56), (so s_57)⟩
    | 14, _ =>
      obtain rfl := Option.some.inj (show some _ = some o from ho); clear ho
      have v47 := s_47 (dp hdep 9)
      have v51 := s_51 (dp hdep 13)
      refine dj_val (i := 14) (v := .pointer (some ((ad2.add (m * 11)).add 2))) rfl (.inr ⟨9, false, 47, rfl, by kernel_rfl, v47⟩) (fa_Job_2 v51.eval _ rfl) ?_
      exact ⟨⟨_, rfl⟩, bl, sz, b_B1, b_B2, b_B3, (so s_38), (so s_39), (so s_40), (so s_41), (so s_42), (so s_43), (so s_44), (so s_45), (so s_46), (so s_47), (so s_48), (so s_49), (so s_50), (so s_51), (fun _ => Sv.self (by rw [z]; decide) _), (so s_53), (so s_54), (so s_55), (so s_56), (so s_57)⟩
    | 15, _ =>
      obtain rfl := Option.some.inj (show some _ = some o from ho); clear ho
      have v47 := s_47 (dp hdep 9)
      have v52 := s_52 (dp hdep 14)
      refine dj_val (i := 15) (v := .int .i64 y.frame) rfl (.inr ⟨9, false, 47, rfl, by kernel_rfl, v47⟩) (ev_cell v52.eval ((GR.cel (hd.j.below bl) hAd2 jb_sz hy) 2 _ rfl) Try.underlying3 rfl _ rfl) ?_
      exact ⟨⟨_, rfl⟩, bl, sz, b_B1, b_B2, b_B3, (so s_38), (so s_39), (so s_40), (so s_41), (so s_42), (so s_43), (so s_44), (so s_45), (so s_46), (so s_47), (so s_48), (so s_49), (so s_50), (so s_51), (so s_52), (fun _ => Sv.self (by rw [z]; decide) _), (so s_54), (so s_55), (so s_56), (so s_57)⟩
    | 16, _ =>
      obtain rfl := Option.some.inj (show some _ = some o from ho); clear ho
      have v47 := s_47 (dp hdep 9)
      have v3 := hF.sv (s := 3) (by kernel_rfl) (hA152.get (i := 3) (v := .pointer (some ⟨B2, 0, none⟩)))
      refine dj_val (i := 16) (v := .pointer (some ⟨B2, 2, none⟩)) rfl (.inr ⟨9, false, 47, rfl, by kernel_rfl, v47⟩) (fb_Job_2 v3.eval _ rfl) ?_
      exact ⟨⟨_, rfl⟩, bl, sz, b_B1, b_B2, b_B3, (so s_38), (so s_39), (so s_40), (so s_41), (so s_42), (so s_43), (so s_44), (so s_45), (so s_46), (so s_47), (so s_48), (so s_49), (so s_50), (so s_51), (so s_52), (so s_53), (fun _ => Sv.self (by rw [z]; decide) _), (so s_55), (so s_56), (so s_57)⟩
    | 17, _ =>
      obtain rfl := Option.some.inj (show some _ = some o from ho); clear ho
      have v47 := s_47 (dp hdep 9)
      have v54 := s_54 (dp hdep 16)
      refine dj_val (i := 17) (v := .int .i64 x.frame) rfl (.inr ⟨9, false, 47, rfl, by kernel_rfl, v47⟩) (ev_cell (v := .int .i64 x.frame) v54.eval ((b_B2.cell 2).trans rfl) Try.underlying3 rfl _ rfl) ?_
      exact ⟨⟨_, rfl⟩, bl, sz, b_B1, b_B2, b_B3, (so s_38), (so s_39), (so s_40), (so s_41), (so s_42), (so s_43), (so s_44), (so s_45), (so s_46), (so s_47), (so s_48), (so s_49), (so s_50), (so s_51), (so s_52), (so s_53), (so s_54), (fun _ => Sv.self (by rw [z]; decide) _), (so s_56), (so s_57)⟩
    | 18, _ =>
      obtain rfl := Option.some.inj (show some _ = some o from ho); clear ho
      have v47 := s_47 (dp hdep 9)
      have v53 := s_53 (dp hdep 15)
      have v55 := s_55 (dp hdep 17)
      refine dj_val (i := 18) (v := .bool true) rfl (.inr ⟨9, false, 47, rfl, by kernel_rfl, v47⟩) (ev_eqlB (k := .i64) (m := y.frame) (n := x.frame) v53.eval v55.eval hd154 _ rfl) ?_
      exact ⟨⟨_, rfl⟩, bl, sz, b_B1, b_B2, b_B3, (so s_38), (so s_39), (so s_40), (so s_41), (so s_42), (so s_43), (so s_44), (so s_45), (so s_46), (so s_47), (so s_48), (so s_49), (so s_50), (so s_51), (so s_52), (so s_53), (so s_54), (so s_55), (fun _ => Sv.self (by rw [z]; decide) _), (so s_57)⟩
    | 19, _ =>
      obtain rfl := Option.some.inj (show some _ = some o from ho); clear ho
      have v47 := s_47 (dp hdep 9)
      have v56 := s_56 (dp hdep 18)
      refine dj_val (i := 19) (v := .bool true) rfl (.inl rfl) (ev_pickF v47.eval v56.eval _ rfl) ?_
      exact ⟨⟨_, rfl⟩, bl, sz, b_B1, b_B2, b_B3, (so s_38), (so s_39), (so s_40), (so s_41), (so s_42), (so s_43), (so s_44), (so s_45), (so s_46), (so s_47), (so s_48), (so s_49), (so s_50), (so s_51), (so s_52), (so s_53), (so s_54), (so s_55), (so s_56), (fun _ => Sv.self (by rw [z]; decide) _)⟩
    | k + 20, h => exact absurd h (by omega)
  · intro L hall ac159 wc159 hF hJ
    obtain ⟨bl, sz, b_B1, b_B2, b_B3, s_38, s_39, s_40, s_41, s_42, s_43, s_44, s_45, s_46, s_47, s_48, s_49, s_50, s_51, s_52, s_53, s_54, s_55, s_56, s_57⟩ := hJ
    have hA159 : Ag ac159 75 [(2, .pointer (some ⟨B1, 0, none⟩)), (3, .pointer (some ⟨B2, 0, none⟩)), (4, .pointer (some ⟨B3, 0, none⟩)), (8, .int .i64 (m : Int)), (31, .int .i64 (m : Int)), (32, .pointer (some ⟨B1, 1, none⟩)), (33, .slice A2 js.length c2), (34, .int .i64 (js.length : Int)), (35, .bool true), (38, .pointer (some ⟨B1, 1, none⟩)), (39, .slice A2 js.length c2), (40, .int .i64 (m : Int)), (41, .pointer (some (ad2.add (m * 11)))), (42, .pointer (some ((ad2.add (m * 11)).add 1))), (43, .int .i64 y.slot), (44, .pointer (some ⟨B2, 1, none⟩)), (45, .int .i64 x.slot), (46, .bool false), (47, .bool false), (48, .pointer (some ⟨B1, 1, none⟩)), (49, .slice A2 js.length c2), (50, .int .i64 (m : Int)), (51, .pointer (some (ad2.add (m * 11)))), (52, .pointer (some ((ad2.add (m * 11)).add 2))), (53, .int .i64 y.frame), (54, .pointer (some ⟨B2, 2, none⟩)), (55, .int .i64 x.frame), (56, .bool true), (57, .bool true)] := ((((((((((((((((((((((((((((((Ag.nil (hF.1.trans hA152.1) (hF.2.1.trans hA152.2.1)).cons (s_57 (hall 19 (by decide)))).cons (s_56 (hall 18 (by decide)))).cons (s_55 (hall 17 (by decide)))).cons (s_54 (hall 16 (by decide)))).cons (s_53 (hall 15 (by decide)))).cons (s_52 (hall 14 (by decide)))).cons (s_51 (hall 13 (by decide)))).cons (s_50 (hall 12 (by decide)))).cons (s_49 (hall 11 (by decide)))).cons (s_48 (hall 10 (by decide)))).cons (s_47 (hall 9 (by decide)))).cons (s_46 (hall 8 (by decide)))).cons (s_45 (hall 7 (by decide)))).cons (s_44 (hall 6 (by decide)))).cons (s_43 (hall 5 (by decide)))).cons (s_42 (hall 4 (by decide)))).cons (s_41 (hall 3 (by decide)))).cons (s_40 (hall 2 (by decide)))).cons (s_39 (hall 1 (by decide)))).cons (s_38 (hall 0 (by decide)))).cons (hF.sv (s := 35) (by kernel_rfl) (hA152.get (i := 35) (v := .bool true)))).cons (hF.sv (s := 34) (by kernel_rfl) (hA152.get (i := 34) (v := .int .i64 (js.length : Int))))).cons (hF.sv (s := 33) (by kernel_rfl) (hA152.get (i := 33) (v := .slice A2 js.length c2)))).cons (hF.sv (s := 32) (by kernel_rfl) (hA152.get (i := 32) (v := .pointer (some ⟨B1, 1, none⟩))))).cons (hF.sv (s := 31) (by kernel_rfl) (hA152.get (i := 31) (v := .int .i64 (m : Int))))).cons (hF.sv (s := 8) (by kernel_rfl) (hA152.get (i := 8) (v := .int .i64 (m : Int))))).cons (hF.sv (s := 4) (by kernel_rfl) (hA152.get (i := 4) (v := .pointer (some ⟨B3, 0, none⟩))))).cons (hF.sv (s := 3) (by kernel_rfl) (hA152.get (i := 3) (v := .pointer (some ⟨B2, 0, none⟩))))).cons (hF.sv (s := 2) (by kernel_rfl) (hA152.get (i := 2) (v := .pointer (some ⟨B1, 0, none⟩)))))
    have bl159 := bl
    have sz159 := sz
    have b159_B1 := b_B1
    have b159_B2 := b_B2
    have b159_B3 := b_B3
    clear hF bl sz b_B1 b_B2 b_B3 s_38 s_39 s_40 s_41 s_42 s_43 s_44 s_45 s_46 s_47 s_48 s_49 s_50 s_51 s_52 s_53 s_54 s_55 s_56 s_57 hall hA152
    refine then_n ?_
    refine wp_cond_true (hA159.ev (i := 57) (v := .bool true)) ?_
    refine wp_seq ?_
    refine wp_region_lit ?_
    refine sx_val (v := .agg #[.slice none 0 0, .slice none 0 0, .int .i64 0]) hA159 rfl (bd0_Disk _ rfl) ?_
    intro a160 hA160; clear hA159
    refine sx_store hA160 rfl (.inl rfl) rfl (hA160.ev (i := 4) (v := .pointer (some ⟨B3, 0, none⟩))) (hA160.ev (i := 58) (v := .agg #[.slice none 0 0, .slice none 0 0, .int .i64 0])) b159_B3 (by kernel_rfl) rfl (dk_one _ _ _ _ _ _ _) ?_
    intro w161 hx161 hg161
    have hs161 := hg161.size
    refine sx_val hA160 rfl (ev_assign (ec _ (.int .i64 10)) _ rfl) ?_
    intro a162 hA162; clear hA160
    refine sx_nil ?_
    refine then_n ?_
    refine wp_ret ?_
    refine blk_r ?_
    refine then_r ?_
    refine then_r ?_
    refine blk_r ?_
    refine then_r ?_
    refine bodyPost_ret (rs_ct (v := .int .i64 10) Try.results39 hA162 (by kernel_rfl) (by kernel_rfl) hx161 Try.underlying25 rfl (by kernel_rfl)) hA162.2.1 ?_
    have bl159_163 := Below.gB bl159 hg161 bl159.size (by omega)
    have E : sub ⟨cs, js, room⟩ x = (Dk.nil, 10) := by
      unfold sub
      rw [if_pos hp18, if_neg (by rw [inR_eq]; simp [hd35, hd59]), if_pos (by rw [List.any_eq_true]; exact ⟨y, List.mem_of_getElem? hy, by simp [hits, hp153, hp154]⟩)]
    rw [E]
    exact ⟨none, 0, none, 0, rfl, OwC.nil _ _, OwJ.nil _ _, bl159_163⟩

set_option maxHeartbeats 4000000 in
theorem sWrite_any (A1 : Option Addr) (c1 : Nat) (A2 : Option Addr) (c2 : Nat) (cs : List Ct) (js : List Jb) (room : Int) (s f : Int) (c : Ct) (w : World) (hd : GD w A1 c1 A2 c2 cs js) (hl : cs.length ≤ 900000) (hj : js.length ≤ 900000) : Calls Try.prog 13 #[.agg #[.slice A1 cs.length c1, .slice A2 js.length c2, .int .i64 room], .int .i64 s, .int .i64 f, .agg c.va] w (RetD w (sub ⟨cs, js, room⟩ ⟨true, s, f, c⟩)) := by
  have hbel0 := below0 w
  refine sx_enter (N := 18) [(0, .agg #[.slice A1 cs.length c1, .slice A2 js.length c2, .int .i64 room]), (1, .int .i64 s), (2, .int .i64 f), (3, .agg c.va)] Try.func13 rfl Try.ntmps13 (by simp) (fun a z d s => (((((Ag.nil z d).cons (s 3 _ rfl)).cons (s 2 _ rfl)).cons (s 1 _ rfl)).cons (s 0 _ rfl))) ?_
  intro a0 hA0
  refine wp_seq ?_
  refine wp_region_lit ?_
  refine sx_new (cs := #[.slice A1 cs.length c1, .slice A2 js.length c2, .int .i64 room]) (t := 25) hA0 rfl (by decide) (.inl rfl) (ev_box (hA0.ev (i := 0) (v := .agg #[.slice A1 cs.length c1, .slice A2 js.length c2, .int .i64 room])) rfl _ rfl) ?_
  intro B1 w1 a1 hB1 hx1 hg1 hA1
  clear hA0
  have hs1 := hg1.size
  have hl1 := hx1.lt
  refine sx_new (cs := c.va) (t := 28) hA1 rfl (by decide) (.inl rfl) (ev_box (hA1.ev (i := 3) (v := .agg c.va)) rfl _ rfl) ?_
  intro B2 w2 a2 hB2 hx2 hg2 hA2
  clear hA1
  have hs2 := hg2.size
  have hl2 := hx2.lt
  refine sx_new (cs := #[.slice none 0 0, .slice none 0 0, .int .i64 0]) (t := 25) hA2 rfl (by decide) (.inl rfl) (ev_alloc (z := .agg (#[.slice none 0 0, .slice none 0 0, .int .i64 0])) (by kernel_rfl) (by kernel_rfl) _ rfl) ?_
  intro B3 w3 a3 hB3 hx3 hg3 hA3
  clear hA2
  have hs3 := hg3.size
  have hl3 := hx3.lt
  refine sx_val hA3 rfl (ev_assign (ec _ (.int .i64 0)) _ rfl) ?_
  intro a4 hA4; clear hA3
  refine sx_nil ?_
  refine then_n ?_
  refine wp_seq ?_
  refine wp_region_lit ?_
  have hx1_5 := hx1.gN hg2
  have hx1_6 := hx1_5.gN hg3
  refine sx_val (v := .agg #[.slice A1 cs.length c1, .slice A2 js.length c2, .int .i64 room]) hA4 rfl (ev_row (hA4.ev (i := 4) (v := .pointer (some ⟨B1, 0, none⟩))) hx1_6 Try.underlying25 rfl (n := 3) (by kernel_rfl) rfl _ rfl) ?_
  intro a7 hA7; clear hA4
  refine sx_val hA7 rfl (ev_move (hA7.ev (i := 1) (v := .int .i64 s)) _ rfl) ?_
  intro a8 hA8; clear hA7
  refine sx_val hA8 rfl (ev_move (hA8.ev (i := 2) (v := .int .i64 f)) _ rfl) ?_
  intro a9 hA9; clear hA8
  have hx2_10 := hx2.gN hg3
  refine sx_val (v := .agg c.va) hA9 rfl (ev_row (hA9.ev (i := 7) (v := .pointer (some ⟨B2, 0, none⟩))) hx2_10 Try.underlying28 rfl (n := 8) (by kernel_rfl) rfl _ rfl) ?_
  intro a11 hA11; clear hA9
  refine sx_val (v := .agg (Jb.va ⟨true, s, f, c⟩)) hA11 rfl (bd_Job_0_1_2_3 (ec _ (.bool true)) (hA11.ev (i := 11) (v := .int .i64 s)) (hA11.ev (i := 12) (v := .int .i64 f)) (hA11.ev (i := 13) (v := .agg c.va)) _ rfl) ?_
  intro a12 hA12; clear hA11
  have hbel0_14 := Below.gN hbel0 hg1 hbel0.size
  have hbel0_15 := Below.gN hbel0_14 hg2 hbel0_14.size
  have hbel0_16 := Below.gN hbel0_15 hg3 hbel0_15.size
  refine sx_call (f := 39) (args := #[.agg #[.slice A1 cs.length c1, .slice A2 js.length c2, .int .i64 room], .agg (Jb.va ⟨true, s, f, c⟩)]) hA12 rfl (by decide) (.inl rfl) (ev_fn rfl (mp2 (hA12.ev (i := 10) (v := .agg #[.slice A1 cs.length c1, .slice A2 js.length c2, .int .i64 room])) (hA12.ev (i := 14) (v := .agg (Jb.va ⟨true, s, f, c⟩)))) (by kernel_rfl) _ rfl) (sAdd_any A1 c1 A2 c2 cs js room ⟨true, s, f, c⟩ _ ⟨(hd.s.below hbel0_16), (hd.j.below hbel0_16)⟩ (by omega) (by omega)) ?_
  intro e13 w13 hR13
  obtain ⟨Ap13, cp13, Aj13, cj13, rfl, hC13, hJ13, hb13⟩ := hR13
  refine ⟨_, rfl, ?_⟩
  intro a13 hA13
  clear hA12
  have hg13 := g0 hb13
  have hs13 := hg13.size
  clear hb13
  have ho13_0 : Own w13 (w3.heap.size) 28 8 (.slice Ap13 (sub ⟨cs, js, room⟩ ⟨true, s, f, c⟩).1.cs.length cp13) (sub ⟨cs, js, room⟩ ⟨true, s, f, c⟩).1.cs.length (flat Ct.va (sub ⟨cs, js, room⟩ ⟨true, s, f, c⟩).1.cs) := hC13.2
  have hh13_0 := Own.hi ho13_0
  have ho13_1 : Own w13 (w3.heap.size) 38 11 (.slice Aj13 (sub ⟨cs, js, room⟩ ⟨true, s, f, c⟩).1.js.length cj13) (sub ⟨cs, js, room⟩ ⟨true, s, f, c⟩).1.js.length (flat Jb.va (sub ⟨cs, js, room⟩ ⟨true, s, f, c⟩).1.js) := hJ13.2
  have hh13_1 := Own.hi ho13_1
  refine sx_val (v := .agg #[.slice Ap13 (sub ⟨cs, js, room⟩ ⟨true, s, f, c⟩).1.cs.length cp13, .slice Aj13 (sub ⟨cs, js, room⟩ ⟨true, s, f, c⟩).1.js.length cj13, .int .i64 (sub ⟨cs, js, room⟩ ⟨true, s, f, c⟩).1.room]) hA13 rfl (ev_ext (hA13.ev (i := 15) (v := .tuple #[.agg #[.slice Ap13 (sub ⟨cs, js, room⟩ ⟨true, s, f, c⟩).1.cs.length cp13, .slice Aj13 (sub ⟨cs, js, room⟩ ⟨true, s, f, c⟩).1.js.length cj13, .int .i64 (sub ⟨cs, js, room⟩ ⟨true, s, f, c⟩).1.room], .int .i64 (sub ⟨cs, js, room⟩ ⟨true, s, f, c⟩).2])) rfl _ rfl) ?_
  intro a17 hA17; clear hA13
  refine sx_val (v := .int .i64 (sub ⟨cs, js, room⟩ ⟨true, s, f, c⟩).2) hA17 rfl (ev_ext (hA17.ev (i := 15) (v := .tuple #[.agg #[.slice Ap13 (sub ⟨cs, js, room⟩ ⟨true, s, f, c⟩).1.cs.length cp13, .slice Aj13 (sub ⟨cs, js, room⟩ ⟨true, s, f, c⟩).1.js.length cj13, .int .i64 (sub ⟨cs, js, room⟩ ⟨true, s, f, c⟩).1.room], .int .i64 (sub ⟨cs, js, room⟩ ⟨true, s, f, c⟩).2])) rfl _ rfl) ?_
  intro a18 hA18; clear hA17
  have hx3_20 := hx3.gN hg13
  refine sx_store hA18 rfl (.inl rfl) rfl (hA18.ev (i := 8) (v := .pointer (some ⟨B3, 0, none⟩))) (hA18.ev (i := 16) (v := .agg #[.slice Ap13 (sub ⟨cs, js, room⟩ ⟨true, s, f, c⟩).1.cs.length cp13, .slice Aj13 (sub ⟨cs, js, room⟩ ⟨true, s, f, c⟩).1.js.length cj13, .int .i64 (sub ⟨cs, js, room⟩ ⟨true, s, f, c⟩).1.room])) hx3_20 (by kernel_rfl) rfl (dk_one _ _ _ _ _ _ _) ?_
  intro w19 hx19 hg19
  have hs19 := hg19.size
  refine sx_val hA18 rfl (ev_assign (hA18.ev (i := 17) (v := .int .i64 (sub ⟨cs, js, room⟩ ⟨true, s, f, c⟩).2)) _ rfl) ?_
  intro a21 hA21; clear hA18
  refine sx_nil ?_
  refine then_n ?_
  refine wp_ret ?_
  refine bodyPost_ret (rs_ct (v := .int .i64 (sub ⟨cs, js, room⟩ ⟨true, s, f, c⟩).2) Try.results13 hA21 (by kernel_rfl) (by kernel_rfl) hx19 Try.underlying25 rfl (by kernel_rfl)) hA21.2.1 ?_
  have ho13_22 := Own.gBT ho13_0 hg19 hx3_20 (by decide)
  have ho13_23 := Own.gBT ho13_1 hg19 hx3_20 (by decide)
  have hbel0_24 := Below.gN hbel0_16 hg13 hbel0_16.size
  have hbel0_25 := Below.gB hbel0_24 hg19 hbel0_24.size (by omega)
  exact ⟨_, _, _, _, rfl, ⟨rfl, Own.mono ho13_22 (by omega)⟩, ⟨rfl, Own.mono ho13_23 (by omega)⟩, hbel0_25⟩

set_option maxHeartbeats 4000000 in
theorem sRead_any (A1 : Option Addr) (c1 : Nat) (A2 : Option Addr) (c2 : Nat) (cs : List Ct) (js : List Jb) (room : Int) (s f : Int) (w : World) (hd : GD w A1 c1 A2 c2 cs js) (hl : cs.length ≤ 900000) (hj : js.length ≤ 900000) : Calls Try.prog 16 #[.agg #[.slice A1 cs.length c1, .slice A2 js.length c2, .int .i64 room], .int .i64 s, .int .i64 f] w (RetD w (sub ⟨cs, js, room⟩ ⟨false, s, f, Ct.zero⟩)) := by
  have hbel0 := below0 w
  refine sx_enter (N := 15) [(0, .agg #[.slice A1 cs.length c1, .slice A2 js.length c2, .int .i64 room]), (1, .int .i64 s), (2, .int .i64 f)] Try.func16 rfl Try.ntmps16 (by simp) (fun a z d s => ((((Ag.nil z d).cons (s 2 _ rfl)).cons (s 1 _ rfl)).cons (s 0 _ rfl))) ?_
  intro a0 hA0
  refine wp_seq ?_
  refine wp_region_lit ?_
  refine sx_new (cs := #[.slice A1 cs.length c1, .slice A2 js.length c2, .int .i64 room]) (t := 25) hA0 rfl (by decide) (.inl rfl) (ev_box (hA0.ev (i := 0) (v := .agg #[.slice A1 cs.length c1, .slice A2 js.length c2, .int .i64 room])) rfl _ rfl) ?_
  intro B1 w1 a1 hB1 hx1 hg1 hA1
  clear hA0
  have hs1 := hg1.size
  have hl1 := hx1.lt
  refine sx_new (cs := #[.slice none 0 0, .slice none 0 0, .int .i64 0]) (t := 25) hA1 rfl (by decide) (.inl rfl) (ev_alloc (z := .agg (#[.slice none 0 0, .slice none 0 0, .int .i64 0])) (by kernel_rfl) (by kernel_rfl) _ rfl) ?_
  intro B2 w2 a2 hB2 hx2 hg2 hA2
  clear hA1
  have hs2 := hg2.size
  have hl2 := hx2.lt
  refine sx_val hA2 rfl (ev_assign (ec _ (.int .i64 0)) _ rfl) ?_
  intro a3 hA3; clear hA2
  refine sx_nil ?_
  refine then_n ?_
  refine wp_seq ?_
  refine wp_region_lit ?_
  have hx1_4 := hx1.gN hg2
  refine sx_val (v := .agg #[.slice A1 cs.length c1, .slice A2 js.length c2, .int .i64 room]) hA3 rfl (ev_row (hA3.ev (i := 3) (v := .pointer (some ⟨B1, 0, none⟩))) hx1_4 Try.underlying25 rfl (n := 3) (by kernel_rfl) rfl _ rfl) ?_
  intro a5 hA5; clear hA3
  refine sx_val hA5 rfl (ev_move (hA5.ev (i := 1) (v := .int .i64 s)) _ rfl) ?_
  intro a6 hA6; clear hA5
  refine sx_val hA6 rfl (ev_move (hA6.ev (i := 2) (v := .int .i64 f)) _ rfl) ?_
  intro a7 hA7; clear hA6
  refine sx_val (v := .agg (Jb.va ⟨false, s, f, Ct.zero⟩)) hA7 rfl (bd_Job_1_2 (hA7.ev (i := 9) (v := .int .i64 s)) (hA7.ev (i := 10) (v := .int .i64 f)) _ rfl) ?_
  intro a8 hA8; clear hA7
  have hbel0_10 := Below.gN hbel0 hg1 hbel0.size
  have hbel0_11 := Below.gN hbel0_10 hg2 hbel0_10.size
  refine sx_call (f := 39) (args := #[.agg #[.slice A1 cs.length c1, .slice A2 js.length c2, .int .i64 room], .agg (Jb.va ⟨false, s, f, Ct.zero⟩)]) hA8 rfl (by decide) (.inl rfl) (ev_fn rfl (mp2 (hA8.ev (i := 8) (v := .agg #[.slice A1 cs.length c1, .slice A2 js.length c2, .int .i64 room])) (hA8.ev (i := 11) (v := .agg (Jb.va ⟨false, s, f, Ct.zero⟩)))) (by kernel_rfl) _ rfl) (sAdd_any A1 c1 A2 c2 cs js room ⟨false, s, f, Ct.zero⟩ _ ⟨(hd.s.below hbel0_11), (hd.j.below hbel0_11)⟩ (by omega) (by omega)) ?_
  intro e9 w9 hR9
  obtain ⟨Ap9, cp9, Aj9, cj9, rfl, hC9, hJ9, hb9⟩ := hR9
  refine ⟨_, rfl, ?_⟩
  intro a9 hA9
  clear hA8
  have hg9 := g0 hb9
  have hs9 := hg9.size
  clear hb9
  have ho9_0 : Own w9 (w2.heap.size) 28 8 (.slice Ap9 (sub ⟨cs, js, room⟩ ⟨false, s, f, Ct.zero⟩).1.cs.length cp9) (sub ⟨cs, js, room⟩ ⟨false, s, f, Ct.zero⟩).1.cs.length (flat Ct.va (sub ⟨cs, js, room⟩ ⟨false, s, f, Ct.zero⟩).1.cs) := hC9.2
  have hh9_0 := Own.hi ho9_0
  have ho9_1 : Own w9 (w2.heap.size) 38 11 (.slice Aj9 (sub ⟨cs, js, room⟩ ⟨false, s, f, Ct.zero⟩).1.js.length cj9) (sub ⟨cs, js, room⟩ ⟨false, s, f, Ct.zero⟩).1.js.length (flat Jb.va (sub ⟨cs, js, room⟩ ⟨false, s, f, Ct.zero⟩).1.js) := hJ9.2
  have hh9_1 := Own.hi ho9_1
  refine sx_val (v := .agg #[.slice Ap9 (sub ⟨cs, js, room⟩ ⟨false, s, f, Ct.zero⟩).1.cs.length cp9, .slice Aj9 (sub ⟨cs, js, room⟩ ⟨false, s, f, Ct.zero⟩).1.js.length cj9, .int .i64 (sub ⟨cs, js, room⟩ ⟨false, s, f, Ct.zero⟩).1.room]) hA9 rfl (ev_ext (hA9.ev (i := 12) (v := .tuple #[.agg #[.slice Ap9 (sub ⟨cs, js, room⟩ ⟨false, s, f, Ct.zero⟩).1.cs.length cp9, .slice Aj9 (sub ⟨cs, js, room⟩ ⟨false, s, f, Ct.zero⟩).1.js.length cj9, .int .i64 (sub ⟨cs, js, room⟩ ⟨false, s, f, Ct.zero⟩).1.room], .int .i64 (sub ⟨cs, js, room⟩ ⟨false, s, f, Ct.zero⟩).2])) rfl _ rfl) ?_
  intro a12 hA12; clear hA9
  refine sx_val (v := .int .i64 (sub ⟨cs, js, room⟩ ⟨false, s, f, Ct.zero⟩).2) hA12 rfl (ev_ext (hA12.ev (i := 12) (v := .tuple #[.agg #[.slice Ap9 (sub ⟨cs, js, room⟩ ⟨false, s, f, Ct.zero⟩).1.cs.length cp9, .slice Aj9 (sub ⟨cs, js, room⟩ ⟨false, s, f, Ct.zero⟩).1.js.length cj9, .int .i64 (sub ⟨cs, js, room⟩ ⟨false, s, f, Ct.zero⟩).1.room], .int .i64 (sub ⟨cs, js, room⟩ ⟨false, s, f, Ct.zero⟩).2])) rfl _ rfl) ?_
  intro a13 hA13; clear hA12
  have hx2_15 := hx2.gN hg9
  refine sx_store hA13 rfl (.inl rfl) rfl (hA13.ev (i := 6) (v := .pointer (some ⟨B2, 0, none⟩))) (hA13.ev (i := 13) (v := .agg #[.slice Ap9 (sub ⟨cs, js, room⟩ ⟨false, s, f, Ct.zero⟩).1.cs.length cp9, .slice Aj9 (sub ⟨cs, js, room⟩ ⟨false, s, f, Ct.zero⟩).1.js.length cj9, .int .i64 (sub ⟨cs, js, room⟩ ⟨false, s, f, Ct.zero⟩).1.room])) hx2_15 (by kernel_rfl) rfl (dk_one _ _ _ _ _ _ _) ?_
  intro w14 hx14 hg14
  have hs14 := hg14.size
  refine sx_val hA13 rfl (ev_assign (hA13.ev (i := 14) (v := .int .i64 (sub ⟨cs, js, room⟩ ⟨false, s, f, Ct.zero⟩).2)) _ rfl) ?_
  intro a16 hA16; clear hA13
  refine sx_nil ?_
  refine then_n ?_
  refine wp_ret ?_
  refine bodyPost_ret (rs_ct (v := .int .i64 (sub ⟨cs, js, room⟩ ⟨false, s, f, Ct.zero⟩).2) Try.results16 hA16 (by kernel_rfl) (by kernel_rfl) hx14 Try.underlying25 rfl (by kernel_rfl)) hA16.2.1 ?_
  have ho9_17 := Own.gBT ho9_0 hg14 hx2_15 (by decide)
  have ho9_18 := Own.gBT ho9_1 hg14 hx2_15 (by decide)
  have hbel0_19 := Below.gN hbel0_11 hg9 hbel0_11.size
  have hbel0_20 := Below.gB hbel0_19 hg14 hbel0_19.size (by omega)
  exact ⟨_, _, _, _, rfl, ⟨rfl, Own.mono ho9_17 (by omega)⟩, ⟨rfl, Own.mono ho9_18 (by omega)⟩, hbel0_20⟩
end Go.Proofs.Ytbkdimildnahaaa
