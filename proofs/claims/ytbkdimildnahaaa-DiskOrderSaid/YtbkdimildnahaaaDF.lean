/- Package disk: submit, Write, Read. -/
import Derived.Test.YtbkdimildnahaaaDE
namespace Go.Proofs.Ytbkdimildnahaaa
open Go.RowKit
set_option linter.unusedVariables false
set_option maxRecDepth 100000

theorem bs1_Job {ρ : Operand → Value} {w : World} {x : Operand} {j : Jb} (hx : ρ x = .agg j.va) (o : Oper) (ho : o.op = .buildSlice 23 1 #[(0, x)]) : (execOp ρ o).run Try.prog w = .ok (.value (.slice (some ⟨w.heap.size, 0, none⟩) 1 1)) (w.alloc (.cells j.va 38)) := by
  simp [execOp, ho, hx, go_sem, Jb.va]
theorem jm_look (o : Option Int) : (o.map (Value.int .i64)).getD (.int .i64 0) = .int .i64 (o.getD 0) := by cases o <;> rfl
theorem any_hits (js : List Jb) (x : Jb) : js.any (hits x) = ((jmf js js.length (false, x.slot)).isSome || (jmf js js.length (true, x.frame)).isSome) := by
  rw [jmf_some, jmf_some, List.take_length]
  unfold hits
  induction js with
  | nil => rfl
  | cons y l ih => simp only [List.any_cons, ih]; simp; cases (y.slot == x.slot) <;> cases (y.frame == x.frame) <;> simp

set_option maxHeartbeats 4000000 in
theorem submit_any (A1 : Option Addr) (c1 : Nat) (A2 : Option Addr) (c2 : Nat) (cs : List Ct) (js : List Jb) (room : Int) (x : Jb) (w : World) (hd : GD w A1 c1 A2 c2 cs js) (hl : cs.length ≤ 900000) (hj : js.length ≤ 900000) : Calls Try.prog 38 #[.agg #[.slice A1 cs.length c1, .slice A2 js.length c2, .int .i64 room], .agg x.va] w (RetD w (sub ⟨cs, js, room⟩ x)) := by
  have hbel0 := below0 w
  refine sx_enter (N := 69) [(0, .agg #[.slice A1 cs.length c1, .slice A2 js.length c2, .int .i64 room]), (1, .agg x.va)] Try.func38 rfl Try.ntmps38 (by simp) (fun a z d s => (((Ag.nil z d).cons (s 1 _ rfl)).cons (s 0 _ rfl))) ?_
  intro a0 hA0
  refine wp_seq ?_
  refine wp_region_lit ?_
  refine sx_new (cs := #[.slice A1 cs.length c1, .slice A2 js.length c2, .int .i64 room]) (t := 25) hA0 rfl (by decide) (.inl rfl) (ev_box (hA0.ev (i := 0) (v := .agg #[.slice A1 cs.length c1, .slice A2 js.length c2, .int .i64 room])) rfl _ rfl) ?_
  intro B1 w1 a1 hB1 hx1 hg1 hA1
  clear hA0
  have hs1 := hg1.size
  have hl1 := hx1.lt
  refine sx_new (cs := x.va) (t := 38) hA1 rfl (by decide) (.inl rfl) (ev_box (hA1.ev (i := 1) (v := .agg x.va)) rfl _ rfl) ?_
  intro B2 w2 a2 hB2 hx2 hg2 hA2
  clear hA1
  have hs2 := hg2.size
  have hl2 := hx2.lt
  refine sx_new (cs := #[.slice none 0 0, .slice none 0 0, .int .i64 0]) (t := 25) hA2 rfl (by decide) (.inl rfl) (ev_alloc (z := .agg (#[.slice none 0 0, .slice none 0 0, .int .i64 0])) (by kernel_rfl) (by kernel_rfl) _ rfl) ?_
  intro B3 w3 a3 hB3 hx3 hg3 hA3
  clear hA2
  have hs3 := hg3.size
  have hl3 := hx3.lt
  refine sx_val hA3 rfl (ev_assign (ec _ (.int .i64 0)) _ rfl) ?_
  intro a4 hA4; clear hA3
  refine sx_nil ?_
  refine then_n ?_
  refine wp_seq ?_
  refine wp_seq ?_
  refine wp_region_lit ?_
  have hx1_5 := hx1.gN hg2
  have hx1_6 := hx1_5.gN hg3
  refine sx_val (v := .agg #[.slice A1 cs.length c1, .slice A2 js.length c2, .int .i64 room]) hA4 rfl (ev_row (hA4.ev (i := 2) (v := .pointer (some ⟨B1, 0, none⟩))) hx1_6 Try.underlying25 rfl (n := 3) (by kernel_rfl) rfl _ rfl) ?_
  intro a7 hA7; clear hA4
  have hbel0_9 := Below.gN hbel0 hg1 hbel0.size
  have hbel0_10 := Below.gN hbel0_9 hg2 hbel0_9.size
  have hbel0_11 := Below.gN hbel0_10 hg3 hbel0_10.size
  refine sx_call (f := 24) (args := #[.agg #[.slice A1 cs.length c1, .slice A2 js.length c2, .int .i64 room]]) hA7 rfl (by decide) (.inl rfl) (ev_fn rfl (mp1 (hA7.ev (i := 15) (v := .agg #[.slice A1 cs.length c1, .slice A2 js.length c2, .int .i64 room]))) (by kernel_rfl) _ rfl) (Check_any A1 c1 A2 c2 cs js room _ ⟨(hd.s.below hbel0_11), (hd.j.below hbel0_11)⟩ (by omega)) ?_
  intro e8 w8 hR8
  obtain ⟨rfl, hb8⟩ := hR8
  refine ⟨_, rfl, ?_⟩
  intro a8 hA8
  clear hA7
  have hg8 := g0 hb8
  have hs8 := hg8.size
  clear hb8
  refine sx_val hA8 rfl (ev_move (hA8.ev (i := 16) (v := .tuple #[.int .i64 (chk ⟨cs, js, room⟩).1, .int .i64 (chk ⟨cs, js, room⟩).2])) _ rfl) ?_
  intro a12 hA12; clear hA8
  refine sx_val (v := .int .i64 (chk ⟨cs, js, room⟩).1) hA12 rfl (ev_ext (hA12.ev (i := 14) (v := .tuple #[.int .i64 (chk ⟨cs, js, room⟩).1, .int .i64 (chk ⟨cs, js, room⟩).2])) rfl _ rfl) ?_
  intro a13 hA13; clear hA12
  refine sx_val (v := .int .i64 (chk ⟨cs, js, room⟩).2) hA13 rfl (ev_ext (hA13.ev (i := 14) (v := .tuple #[.int .i64 (chk ⟨cs, js, room⟩).1, .int .i64 (chk ⟨cs, js, room⟩).2])) rfl _ rfl) ?_
  intro a14 hA14; clear hA13
  refine sx_val hA14 rfl (ev_assign (hA14.ev (i := 17) (v := .int .i64 (chk ⟨cs, js, room⟩).1)) _ rfl) ?_
  intro a15 hA15; clear hA14
  refine sx_val hA15 rfl (ev_assign (hA15.ev (i := 18) (v := .int .i64 (chk ⟨cs, js, room⟩).2)) _ rfl) ?_
  intro a16 hA16; clear hA15
  refine sx_nil ?_
  refine then_n ?_
  refine wp_seq ?_
  refine wp_region_lit ?_
  refine sx_val hA16 rfl (ev_move (hA16.ev (i := 6) (v := .int .i64 (chk ⟨cs, js, room⟩).1)) _ rfl) ?_
  intro a17 hA17; clear hA16
  cases hd18 : decide ((chk ⟨cs, js, room⟩).1 = 0)
  · have hp18 := of_decide_eq_false hd18
    refine sx_val (v := .bool true) hA17 rfl (ev_neqB (k := .i64) (m := (chk ⟨cs, js, room⟩).1) (n := 0) (hA17.ev (i := 19)) (ec _ (.int .i64 0)) (by simpa using hd18) _ rfl) ?_
    intro a19 hA19; clear hA17
    refine sx_nil ?_
    refine then_n ?_
    refine wp_cond_true (hA19.ev (i := 20) (v := .bool true)) ?_
    refine wp_seq ?_
    refine wp_region_lit ?_
    refine sx_val (v := .agg #[.slice none 0 0, .slice none 0 0, .int .i64 0]) hA19 rfl (bd0_Disk _ rfl) ?_
    intro a20 hA20; clear hA19
    refine sx_val hA20 rfl (ev_move (hA20.ev (i := 6) (v := .int .i64 (chk ⟨cs, js, room⟩).1)) _ rfl) ?_
    intro a21 hA21; clear hA20
    have hx3_23 := hx3.gN hg8
    refine sx_store hA21 rfl (.inl rfl) rfl (hA21.ev (i := 4) (v := .pointer (some ⟨B3, 0, none⟩))) (hA21.ev (i := 21) (v := .agg #[.slice none 0 0, .slice none 0 0, .int .i64 0])) hx3_23 (by kernel_rfl) rfl (dk_one _ _ _ _ _ _ _) ?_
    intro w22 hx22 hg22
    have hs22 := hg22.size
    refine sx_val hA21 rfl (ev_assign (hA21.ev (i := 22) (v := .int .i64 (chk ⟨cs, js, room⟩).1)) _ rfl) ?_
    intro a24 hA24; clear hA21
    refine sx_nil ?_
    refine then_n ?_
    refine wp_ret ?_
    refine then_r ?_
    refine bodyPost_ret (rs_ct (v := .int .i64 (chk ⟨cs, js, room⟩).1) Try.results38 hA24 (by kernel_rfl) (by kernel_rfl) hx22 Try.underlying25 rfl (by kernel_rfl)) hA24.2.1 ?_
    have hbel0_25 := Below.gN hbel0_11 hg8 hbel0_11.size
    have hbel0_26 := Below.gB hbel0_25 hg22 hbel0_25.size (by omega)
    rw [show sub ⟨cs, js, room⟩ x = (Dk.nil, (chk ⟨cs, js, room⟩).1) from if_neg hp18]
    exact ⟨none, 0, none, 0, rfl, OwC.nil _ _, OwJ.nil _ _, hbel0_26⟩
  have hp18 := of_decide_eq_true hd18
  refine sx_val (v := .bool false) hA17 rfl (ev_neqB (k := .i64) (m := (chk ⟨cs, js, room⟩).1) (n := 0) (hA17.ev (i := 19)) (ec _ (.int .i64 0)) (by simpa using hd18) _ rfl) ?_
  intro a27 hA27; clear hA17
  refine sx_nil ?_
  refine then_n ?_
  refine wp_cond_false (hA27.ev (i := 20) (v := .bool false)) ?_
  refine wp_skip ?_
  refine then_n ?_
  refine wp_seq ?_
  refine wp_seq ?_
  refine wp_region_lit ?_
  have hx1_28 := hx1_6.gN hg8
  refine sx_val (v := .agg #[.slice A1 cs.length c1, .slice A2 js.length c2, .int .i64 room]) hA27 rfl (ev_row (hA27.ev (i := 2) (v := .pointer (some ⟨B1, 0, none⟩))) hx1_28 Try.underlying25 rfl (n := 3) (by kernel_rfl) rfl _ rfl) ?_
  intro a29 hA29; clear hA27
  refine sx_val (v := .pointer (some ⟨B2, 1, none⟩)) hA29 rfl (fb_Job_1 (hA29.ev (i := 3) (v := .pointer (some ⟨B2, 0, none⟩))) _ rfl) ?_
  intro a30 hA30; clear hA29
  have hx2_31 := hx2.gN hg3
  have hx2_32 := hx2_31.gN hg8
  refine sx_val (v := .int .i64 x.slot) hA30 rfl (ev_cell (v := .int .i64 x.slot) (hA30.ev (i := 24) (v := .pointer (some ⟨B2, 1, none⟩))) ((hx2_32.cell 1).trans rfl) Try.underlying3 rfl _ rfl) ?_
  intro a33 hA33; clear hA30
  refine sx_val (v := .pointer (some ⟨B2, 2, none⟩)) hA33 rfl (fb_Job_2 (hA33.ev (i := 3) (v := .pointer (some ⟨B2, 0, none⟩))) _ rfl) ?_
  intro a34 hA34; clear hA33
  refine sx_val (v := .int .i64 x.frame) hA34 rfl (ev_cell (v := .int .i64 x.frame) (hA34.ev (i := 26) (v := .pointer (some ⟨B2, 2, none⟩))) ((hx2_32.cell 2).trans rfl) Try.underlying3 rfl _ rfl) ?_
  intro a35 hA35; clear hA34
  cases hd37 : inR cs.length x.slot x.frame
  · refine sx_call (f := 43) (args := #[.agg #[.slice A1 cs.length c1, .slice A2 js.length c2, .int .i64 room], .int .i64 x.slot, .int .i64 x.frame]) hA35 rfl (by decide) (.inl rfl) (ev_fn rfl (mp3 (hA35.ev (i := 23) (v := .agg #[.slice A1 cs.length c1, .slice A2 js.length c2, .int .i64 room])) (hA35.ev (i := 25) (v := .int .i64 x.slot)) (hA35.ev (i := 27) (v := .int .i64 x.frame))) (by kernel_rfl) _ rfl) (inRange_any A1 c1 A2 c2 cs js room x.slot x.frame _) ?_
    intro e38 w38 hR38
    obtain ⟨he38, hb38⟩ := hR38
    rw [hd37] at he38
    subst he38
    refine ⟨_, rfl, ?_⟩
    intro a38 hA38
    clear hA35
    have hg38 := g0 hb38
    have hs38 := hg38.size
    clear hb38
    refine sx_val (v := .bool true) hA38 rfl (ev_notF (hA38.ev (i := 28) (v := .bool false)) _ rfl) ?_
    intro a39 hA39; clear hA38
    refine sx_nil ?_
    refine then_n ?_
    refine wp_cond_true (hA39.ev (i := 29) (v := .bool true)) ?_
    refine wp_seq ?_
    refine wp_region_lit ?_
    refine sx_val (v := .agg #[.slice none 0 0, .slice none 0 0, .int .i64 0]) hA39 rfl (bd0_Disk _ rfl) ?_
    intro a40 hA40; clear hA39
    have hx3_42 := hx3.gN hg8
    have hx3_43 := hx3_42.gN hg38
    refine sx_store hA40 rfl (.inl rfl) rfl (hA40.ev (i := 4) (v := .pointer (some ⟨B3, 0, none⟩))) (hA40.ev (i := 30) (v := .agg #[.slice none 0 0, .slice none 0 0, .int .i64 0])) hx3_43 (by kernel_rfl) rfl (dk_one _ _ _ _ _ _ _) ?_
    intro w41 hx41 hg41
    have hs41 := hg41.size
    refine sx_val hA40 rfl (ev_assign (ec _ (.int .i64 2)) _ rfl) ?_
    intro a44 hA44; clear hA40
    refine sx_nil ?_
    refine then_n ?_
    refine wp_ret ?_
    refine then_r ?_
    refine bodyPost_ret (rs_ct (v := .int .i64 2) Try.results38 hA44 (by kernel_rfl) (by kernel_rfl) hx41 Try.underlying25 rfl (by kernel_rfl)) hA44.2.1 ?_
    have hbel0_45 := Below.gN hbel0_11 hg8 hbel0_11.size
    have hbel0_46 := Below.gN hbel0_45 hg38 hbel0_45.size
    have hbel0_47 := Below.gB hbel0_46 hg41 hbel0_46.size (by omega)
    have E : sub ⟨cs, js, room⟩ x = (Dk.nil, 2) := by
      unfold sub
      rw [if_pos hp18, if_pos hd37]
    rw [E]
    exact ⟨none, 0, none, 0, rfl, OwC.nil _ _, OwJ.nil _ _, hbel0_47⟩
  refine sx_call (f := 43) (args := #[.agg #[.slice A1 cs.length c1, .slice A2 js.length c2, .int .i64 room], .int .i64 x.slot, .int .i64 x.frame]) hA35 rfl (by decide) (.inl rfl) (ev_fn rfl (mp3 (hA35.ev (i := 23) (v := .agg #[.slice A1 cs.length c1, .slice A2 js.length c2, .int .i64 room])) (hA35.ev (i := 25) (v := .int .i64 x.slot)) (hA35.ev (i := 27) (v := .int .i64 x.frame))) (by kernel_rfl) _ rfl) (inRange_any A1 c1 A2 c2 cs js room x.slot x.frame _) ?_
  intro e48 w48 hR48
  obtain ⟨he48, hb48⟩ := hR48
  rw [hd37] at he48
  subst he48
  refine ⟨_, rfl, ?_⟩
  intro a48 hA48
  clear hA35
  have hg48 := g0 hb48
  have hs48 := hg48.size
  clear hb48
  refine sx_val (v := .bool false) hA48 rfl (ev_notT (hA48.ev (i := 28) (v := .bool true)) _ rfl) ?_
  intro a49 hA49; clear hA48
  refine sx_nil ?_
  refine then_n ?_
  refine wp_cond_false (hA49.ev (i := 29) (v := .bool false)) ?_
  refine wp_skip ?_
  refine then_n ?_
  refine wp_seq ?_
  refine wp_region_lit ?_
  have hx1_50 := hx1_28.gN hg48
  refine sx_val (v := .agg #[.slice A1 cs.length c1, .slice A2 js.length c2, .int .i64 room]) hA49 rfl (ev_row (hA49.ev (i := 2) (v := .pointer (some ⟨B1, 0, none⟩))) hx1_50 Try.underlying25 rfl (n := 3) (by kernel_rfl) rfl _ rfl) ?_
  intro a51 hA51; clear hA49
  have hbel0_53 := Below.gN hbel0_11 hg8 hbel0_11.size
  have hbel0_54 := Below.gN hbel0_53 hg48 hbel0_53.size
  refine sx_call (f := 46) (args := #[.agg #[.slice A1 cs.length c1, .slice A2 js.length c2, .int .i64 room]]) hA51 rfl (by decide) (.inl rfl) (ev_fn rfl (mp1 (hA51.ev (i := 31) (v := .agg #[.slice A1 cs.length c1, .slice A2 js.length c2, .int .i64 room]))) (by kernel_rfl) _ rfl) (jobs_any A1 c1 A2 c2 cs js room _ ⟨(hd.s.below hbel0_54), (hd.j.below hbel0_54)⟩ (by omega)) ?_
  intro e52 w52 hR52
  obtain ⟨Bm52, rfl, hmp52, hle52, hb52⟩ := hR52
  refine ⟨_, rfl, ?_⟩
  intro a52 hA52
  clear hA51
  have hg52 := g0 hb52
  have hs52 := hg52.size
  clear hb52
  have hmBm52 := hmp52
  have hlBm52 := hmBm52.lt
  have hqBm52 := hle52
  refine sx_val hA52 rfl (ev_assign (hA52.ev (i := 32) (v := .map (some Bm52))) _ rfl) ?_
  intro a55 hA55; clear hA52
  refine sx_nil ?_
  refine then_n ?_
  refine wp_seq ?_
  refine wp_seq ?_
  refine wp_region_lit ?_
  refine sx_val hA55 rfl (ev_move (hA55.ev (i := 8) (v := .map (some Bm52))) _ rfl) ?_
  intro a56 hA56; clear hA55
  refine sx_val (v := .pointer (some ⟨B2, 1, none⟩)) hA56 rfl (fb_Job_1 (hA56.ev (i := 3) (v := .pointer (some ⟨B2, 0, none⟩))) _ rfl) ?_
  intro a57 hA57; clear hA56
  have hx2_58 := hx2_32.gN hg48
  have hx2_59 := hx2_58.gN hg52
  refine sx_val (v := .int .i64 x.slot) hA57 rfl (ev_cell (v := .int .i64 x.slot) (hA57.ev (i := 35) (v := .pointer (some ⟨B2, 1, none⟩))) ((hx2_59.cell 1).trans rfl) Try.underlying3 rfl _ rfl) ?_
  intro a60 hA60; clear hA57
  refine sx_val (v := .agg #[.bool false, .int .i64 x.slot]) hA60 rfl (bd_key_1 (hA60.ev (i := 36) (v := .int .i64 x.slot)) _ rfl) ?_
  intro a61 hA61; clear hA60
  refine sx_val (v := .tuple #[.int .i64 ((jmf js js.length (false, x.slot)).getD 0), .bool (jmf js js.length (false, x.slot)).isSome]) hA61 rfl (ev_look2 mk_key hmBm52 Try.underlying74 (by kernel_rfl) (k := (false, x.slot)) (r := .int .i64 ((jmf js js.length (false, x.slot)).getD 0)) (ok := (jmf js js.length (false, x.slot)).isSome) (hA61.ev (i := 34) (v := .map (some Bm52))) (hA61.ev (i := 37) (v := .agg #[.bool false, .int .i64 x.slot])) (jm_look _) rfl _ rfl) ?_
  intro a62 hA62; clear hA61
  refine sx_val hA62 rfl (ev_move (hA62.ev (i := 38) (v := .tuple #[.int .i64 ((jmf js js.length (false, x.slot)).getD 0), .bool (jmf js js.length (false, x.slot)).isSome])) _ rfl) ?_
  intro a63 hA63; clear hA62
  refine sx_val (v := .int .i64 ((jmf js js.length (false, x.slot)).getD 0)) hA63 rfl (ev_ext (hA63.ev (i := 33) (v := .tuple #[.int .i64 ((jmf js js.length (false, x.slot)).getD 0), .bool (jmf js js.length (false, x.slot)).isSome])) rfl _ rfl) ?_
  intro a64 hA64; clear hA63
  refine sx_val (v := .bool (jmf js js.length (false, x.slot)).isSome) hA64 rfl (ev_ext (hA64.ev (i := 33) (v := .tuple #[.int .i64 ((jmf js js.length (false, x.slot)).getD 0), .bool (jmf js js.length (false, x.slot)).isSome])) rfl _ rfl) ?_
  intro a65 hA65; clear hA64
  refine sx_val hA65 rfl (ev_assign (hA65.ev (i := 39) (v := .int .i64 ((jmf js js.length (false, x.slot)).getD 0))) _ rfl) ?_
  intro a66 hA66; clear hA65
  refine sx_val hA66 rfl (ev_assign (hA66.ev (i := 40) (v := .bool (jmf js js.length (false, x.slot)).isSome)) _ rfl) ?_
  intro a67 hA67; clear hA66
  refine sx_nil ?_
  refine then_n ?_
  refine wp_seq ?_
  refine wp_region_lit ?_
  refine sx_val hA67 rfl (ev_move (hA67.ev (i := 10) (v := .bool (jmf js js.length (false, x.slot)).isSome)) _ rfl) ?_
  intro a68 hA68; clear hA67
  refine sx_nil ?_
  refine then_n ?_
  cases hd69 : (jmf js js.length (false, x.slot)).isSome
  rotate_left
  · rw [hd69] at hA68
    refine wp_cond_true (hA68.ev (i := 41) (v := .bool true)) ?_
    refine wp_seq ?_
    refine wp_region_lit ?_
    refine sx_val (v := .agg #[.slice none 0 0, .slice none 0 0, .int .i64 0]) hA68 rfl (bd0_Disk _ rfl) ?_
    intro a154 hA154; clear hA68
    have hx3_156 := hx3.gN hg8
    have hx3_157 := hx3_156.gN hg48
    have hx3_158 := hx3_157.gN hg52
    refine sx_store hA154 rfl (.inl rfl) rfl (hA154.ev (i := 4) (v := .pointer (some ⟨B3, 0, none⟩))) (hA154.ev (i := 42) (v := .agg #[.slice none 0 0, .slice none 0 0, .int .i64 0])) hx3_158 (by kernel_rfl) rfl (dk_one _ _ _ _ _ _ _) ?_
    intro w155 hx155 hg155
    have hs155 := hg155.size
    refine sx_val hA154 rfl (ev_assign (ec _ (.int .i64 10)) _ rfl) ?_
    intro a159 hA159; clear hA154
    refine sx_nil ?_
    refine then_n ?_
    refine wp_ret ?_
    refine then_r ?_
    refine bodyPost_ret (rs_ct (v := .int .i64 10) Try.results38 hA159 (by kernel_rfl) (by kernel_rfl) hx155 Try.underlying25 rfl (by kernel_rfl)) hA159.2.1 ?_
    have hbel0_160 := Below.gN hbel0_54 hg52 hbel0_54.size
    have hbel0_161 := Below.gB hbel0_160 hg155 hbel0_160.size (by omega)
    have E : sub ⟨cs, js, room⟩ x = (Dk.nil, 10) := by
      unfold sub
      rw [if_pos hp18, if_neg (by rw [hd37]; decide), if_pos (by rw [any_hits]; simp [hd69])]
    rw [E]
    exact ⟨none, 0, none, 0, rfl, OwC.nil _ _, OwJ.nil _ _, hbel0_161⟩
  rw [hd69] at hA68
  refine wp_cond_false (hA68.ev (i := 41) (v := .bool false)) ?_
  refine wp_skip ?_
  refine then_n ?_
  refine wp_seq ?_
  refine wp_seq ?_
  refine wp_region_lit ?_
  refine sx_val hA68 rfl (ev_move (hA68.ev (i := 8) (v := .map (some Bm52))) _ rfl) ?_
  intro a70 hA70; clear hA68
  refine sx_val (v := .pointer (some ⟨B2, 2, none⟩)) hA70 rfl (fb_Job_2 (hA70.ev (i := 3) (v := .pointer (some ⟨B2, 0, none⟩))) _ rfl) ?_
  intro a71 hA71; clear hA70
  refine sx_val (v := .int .i64 x.frame) hA71 rfl (ev_cell (v := .int .i64 x.frame) (hA71.ev (i := 45) (v := .pointer (some ⟨B2, 2, none⟩))) ((hx2_59.cell 2).trans rfl) Try.underlying3 rfl _ rfl) ?_
  intro a72 hA72; clear hA71
  refine sx_val (v := .agg #[.bool true, .int .i64 x.frame]) hA72 rfl (bd_key_0_1 (ec _ (.bool true)) (hA72.ev (i := 46) (v := .int .i64 x.frame)) _ rfl) ?_
  intro a73 hA73; clear hA72
  refine sx_val (v := .tuple #[.int .i64 ((jmf js js.length (true, x.frame)).getD 0), .bool (jmf js js.length (true, x.frame)).isSome]) hA73 rfl (ev_look2 mk_key hmBm52 Try.underlying74 (by kernel_rfl) (k := (true, x.frame)) (r := .int .i64 ((jmf js js.length (true, x.frame)).getD 0)) (ok := (jmf js js.length (true, x.frame)).isSome) (hA73.ev (i := 44) (v := .map (some Bm52))) (hA73.ev (i := 47) (v := .agg #[.bool true, .int .i64 x.frame])) (jm_look _) rfl _ rfl) ?_
  intro a74 hA74; clear hA73
  refine sx_val hA74 rfl (ev_move (hA74.ev (i := 48) (v := .tuple #[.int .i64 ((jmf js js.length (true, x.frame)).getD 0), .bool (jmf js js.length (true, x.frame)).isSome])) _ rfl) ?_
  intro a75 hA75; clear hA74
  refine sx_val (v := .int .i64 ((jmf js js.length (true, x.frame)).getD 0)) hA75 rfl (ev_ext (hA75.ev (i := 43) (v := .tuple #[.int .i64 ((jmf js js.length (true, x.frame)).getD 0), .bool (jmf js js.length (true, x.frame)).isSome])) rfl _ rfl) ?_
  intro a76 hA76; clear hA75
  refine sx_val (v := .bool (jmf js js.length (true, x.frame)).isSome) hA76 rfl (ev_ext (hA76.ev (i := 43) (v := .tuple #[.int .i64 ((jmf js js.length (true, x.frame)).getD 0), .bool (jmf js js.length (true, x.frame)).isSome])) rfl _ rfl) ?_
  intro a77 hA77; clear hA76
  refine sx_val hA77 rfl (ev_assign (hA77.ev (i := 49) (v := .int .i64 ((jmf js js.length (true, x.frame)).getD 0))) _ rfl) ?_
  intro a78 hA78; clear hA77
  refine sx_val hA78 rfl (ev_assign (hA78.ev (i := 50) (v := .bool (jmf js js.length (true, x.frame)).isSome)) _ rfl) ?_
  intro a79 hA79; clear hA78
  refine sx_nil ?_
  refine then_n ?_
  refine wp_seq ?_
  refine wp_region_lit ?_
  refine sx_val hA79 rfl (ev_move (hA79.ev (i := 12) (v := .bool (jmf js js.length (true, x.frame)).isSome)) _ rfl) ?_
  intro a80 hA80; clear hA79
  refine sx_nil ?_
  refine then_n ?_
  cases hd81 : (jmf js js.length (true, x.frame)).isSome
  rotate_left
  · rw [hd81] at hA80
    refine wp_cond_true (hA80.ev (i := 51) (v := .bool true)) ?_
    refine wp_seq ?_
    refine wp_region_lit ?_
    refine sx_val (v := .agg #[.slice none 0 0, .slice none 0 0, .int .i64 0]) hA80 rfl (bd0_Disk _ rfl) ?_
    intro a146 hA146; clear hA80
    have hx3_148 := hx3.gN hg8
    have hx3_149 := hx3_148.gN hg48
    have hx3_150 := hx3_149.gN hg52
    refine sx_store hA146 rfl (.inl rfl) rfl (hA146.ev (i := 4) (v := .pointer (some ⟨B3, 0, none⟩))) (hA146.ev (i := 52) (v := .agg #[.slice none 0 0, .slice none 0 0, .int .i64 0])) hx3_150 (by kernel_rfl) rfl (dk_one _ _ _ _ _ _ _) ?_
    intro w147 hx147 hg147
    have hs147 := hg147.size
    refine sx_val hA146 rfl (ev_assign (ec _ (.int .i64 10)) _ rfl) ?_
    intro a151 hA151; clear hA146
    refine sx_nil ?_
    refine then_n ?_
    refine wp_ret ?_
    refine then_r ?_
    refine bodyPost_ret (rs_ct (v := .int .i64 10) Try.results38 hA151 (by kernel_rfl) (by kernel_rfl) hx147 Try.underlying25 rfl (by kernel_rfl)) hA151.2.1 ?_
    have hbel0_152 := Below.gN hbel0_54 hg52 hbel0_54.size
    have hbel0_153 := Below.gB hbel0_152 hg147 hbel0_152.size (by omega)
    have E : sub ⟨cs, js, room⟩ x = (Dk.nil, 10) := by
      unfold sub
      rw [if_pos hp18, if_neg (by rw [hd37]; decide), if_pos (by rw [any_hits]; simp [hd69, hd81])]
    rw [E]
    exact ⟨none, 0, none, 0, rfl, OwC.nil _ _, OwJ.nil _ _, hbel0_153⟩
  rw [hd81] at hA80
  refine wp_cond_false (hA80.ev (i := 51) (v := .bool false)) ?_
  refine wp_skip ?_
  refine then_n ?_
  refine wp_seq ?_
  refine wp_seq ?_
  refine wp_region_lit ?_
  refine sx_val (v := .pointer (some ⟨B1, 1, none⟩)) hA80 rfl (fb_Disk_1 (hA80.ev (i := 2) (v := .pointer (some ⟨B1, 0, none⟩))) _ rfl) ?_
  intro a82 hA82; clear hA80
  have hx1_83 := hx1_50.gN hg52
  refine sx_val (v := .slice A2 js.length c2) hA82 rfl (ev_cell (v := .slice A2 js.length c2) (hA82.ev (i := 53) (v := .pointer (some ⟨B1, 1, none⟩))) ((hx1_83.cell 1).trans rfl) Try.underlying23 rfl _ rfl) ?_
  intro a84 hA84; clear hA82
  refine sx_val (v := .int .i64 (js.length : Int)) hA84 rfl (ev_len (hA84.ev (i := 54) (v := .slice A2 js.length c2)) Try.underlying23 _ rfl) ?_
  intro a85 hA85; clear hA84
  refine sx_val (v := .pointer (some ⟨B1, 2, none⟩)) hA85 rfl (fb_Disk_2 (hA85.ev (i := 2) (v := .pointer (some ⟨B1, 0, none⟩))) _ rfl) ?_
  intro a86 hA86; clear hA85
  refine sx_val (v := .int .i64 room) hA86 rfl (ev_cell (v := .int .i64 room) (hA86.ev (i := 56) (v := .pointer (some ⟨B1, 2, none⟩))) ((hx1_83.cell 2).trans rfl) Try.underlying3 rfl _ rfl) ?_
  intro a87 hA87; clear hA86
  cases hd88 : decide (room ≤ (js.length : Int))
  rotate_left
  · have hp88 := of_decide_eq_true hd88
    refine sx_val (v := .bool true) hA87 rfl (ev_geqB (k := .i64) (m := (js.length : Int)) (n := room) (hA87.ev (i := 55)) (hA87.ev (i := 57)) hd88 _ rfl) ?_
    intro a137 hA137; clear hA87
    refine sx_nil ?_
    refine then_n ?_
    refine wp_cond_true (hA137.ev (i := 58) (v := .bool true)) ?_
    refine wp_seq ?_
    refine wp_region_lit ?_
    refine sx_val (v := .agg #[.slice none 0 0, .slice none 0 0, .int .i64 0]) hA137 rfl (bd0_Disk _ rfl) ?_
    intro a138 hA138; clear hA137
    have hx3_140 := hx3.gN hg8
    have hx3_141 := hx3_140.gN hg48
    have hx3_142 := hx3_141.gN hg52
    refine sx_store hA138 rfl (.inl rfl) rfl (hA138.ev (i := 4) (v := .pointer (some ⟨B3, 0, none⟩))) (hA138.ev (i := 59) (v := .agg #[.slice none 0 0, .slice none 0 0, .int .i64 0])) hx3_142 (by kernel_rfl) rfl (dk_one _ _ _ _ _ _ _) ?_
    intro w139 hx139 hg139
    have hs139 := hg139.size
    refine sx_val hA138 rfl (ev_assign (ec _ (.int .i64 5)) _ rfl) ?_
    intro a143 hA143; clear hA138
    refine sx_nil ?_
    refine then_n ?_
    refine wp_ret ?_
    refine then_r ?_
    refine bodyPost_ret (rs_ct (v := .int .i64 5) Try.results38 hA143 (by kernel_rfl) (by kernel_rfl) hx139 Try.underlying25 rfl (by kernel_rfl)) hA143.2.1 ?_
    have hbel0_144 := Below.gN hbel0_54 hg52 hbel0_54.size
    have hbel0_145 := Below.gB hbel0_144 hg139 hbel0_144.size (by omega)
    have E : sub ⟨cs, js, room⟩ x = (Dk.nil, 5) := by
      unfold sub
      rw [if_pos hp18, if_neg (by rw [hd37]; decide), if_neg (by rw [any_hits]; simp [hd69, hd81]), if_pos hp88]
    rw [E]
    exact ⟨none, 0, none, 0, rfl, OwC.nil _ _, OwJ.nil _ _, hbel0_145⟩
  have hp88 := of_decide_eq_false hd88
  refine sx_val (v := .bool false) hA87 rfl (ev_geqB (k := .i64) (m := (js.length : Int)) (n := room) (hA87.ev (i := 55)) (hA87.ev (i := 57)) hd88 _ rfl) ?_
  intro a89 hA89; clear hA87
  refine sx_nil ?_
  refine then_n ?_
  refine wp_cond_false (hA89.ev (i := 58) (v := .bool false)) ?_
  refine wp_skip ?_
  refine then_n ?_
  refine wp_seq ?_
  refine wp_region_lit ?_
  refine sx_val (v := .agg #[.slice A1 cs.length c1, .slice A2 js.length c2, .int .i64 room]) hA89 rfl (ev_row (hA89.ev (i := 2) (v := .pointer (some ⟨B1, 0, none⟩))) hx1_83 Try.underlying25 rfl (n := 3) (by kernel_rfl) rfl _ rfl) ?_
  intro a90 hA90; clear hA89
  have hbel0_92 := Below.gN hbel0_54 hg52 hbel0_54.size
  refine sx_call (f := 40) (args := #[.agg #[.slice A1 cs.length c1, .slice A2 js.length c2, .int .i64 room]]) hA90 rfl (by decide) (.inl rfl) (ev_fn rfl (mp1 (hA90.ev (i := 60) (v := .agg #[.slice A1 cs.length c1, .slice A2 js.length c2, .int .i64 room]))) (by kernel_rfl) _ rfl) (clone_any A1 c1 A2 c2 cs js room _ ⟨(hd.s.below hbel0_92), (hd.j.below hbel0_92)⟩ (by omega) (by omega)) ?_
  intro e91 w91 hR91
  obtain ⟨Ap91, cp91, Aj91, cj91, rfl, hC91, hJ91, hb91⟩ := hR91
  refine ⟨_, rfl, ?_⟩
  intro a91 hA91
  clear hA90
  have hg91 := g0 hb91
  have hs91 := hg91.size
  clear hb91
  have ho91_0 : Own w91 (w52.heap.size) 28 8 (.slice Ap91 cs.length cp91) cs.length (flat Ct.va cs) := hC91.2
  have hh91_0 := Own.hi ho91_0
  have ho91_1 : Own w91 (w52.heap.size) 38 11 (.slice Aj91 js.length cj91) js.length (flat Jb.va js) := hJ91.2
  have hh91_1 := Own.hi ho91_1
  refine sx_new (cs := #[.slice none 0 0, .slice none 0 0, .int .i64 0]) (t := 25) hA91 rfl (by decide) (.inl rfl) (ev_alloc (z := .agg (#[.slice none 0 0, .slice none 0 0, .int .i64 0])) (by kernel_rfl) (by kernel_rfl) _ rfl) ?_
  intro B93 w93 a93 hB93 hx93 hg93 hA93
  clear hA91
  have hs93 := hg93.size
  have hl93 := hx93.lt
  refine sx_store hA93 rfl (.inl rfl) rfl (hA93.ev (i := 13) (v := .pointer (some ⟨B93, 0, none⟩))) (hA93.ev (i := 61) (v := .agg #[.slice Ap91 cs.length cp91, .slice Aj91 js.length cj91, .int .i64 room])) hx93 (by kernel_rfl) rfl (dk_one _ _ _ _ _ _ _) ?_
  intro w94 hx94 hg94
  have hs94 := hg94.size
  refine sx_nil ?_
  refine then_n ?_
  refine wp_seq ?_
  refine wp_region_lit ?_
  refine sx_val (v := .pointer (some ⟨B93, 1, none⟩)) hA93 rfl (fb_Disk_1 (hA93.ev (i := 13) (v := .pointer (some ⟨B93, 0, none⟩))) _ rfl) ?_
  intro a95 hA95; clear hA93
  refine sx_val (v := .slice Aj91 js.length cj91) hA95 rfl (ev_cell (v := .slice Aj91 js.length cj91) (hA95.ev (i := 62) (v := .pointer (some ⟨B93, 1, none⟩))) ((hx94.cell 1).trans rfl) Try.underlying23 rfl _ rfl) ?_
  intro a96 hA96; clear hA95
  have hx2_97 := hx2_59.gN hg91
  have hx2_98 := hx2_97.gN hg93
  have hx2_99 := hx2_98.gB hg94 (by omega)
  refine sx_val (v := .agg x.va) hA96 rfl (ev_row (hA96.ev (i := 3) (v := .pointer (some ⟨B2, 0, none⟩))) hx2_99 Try.underlying38 rfl (n := 11) (by kernel_rfl) rfl _ rfl) ?_
  intro a100 hA100; clear hA96
  refine sx_bs (n := 1) (cs := x.va) (e := 38) hA100 rfl (by decide) (.inl rfl) (bs1_Job (hA100.ev (i := 64) (v := .agg x.va)) _ rfl) ?_
  intro B101 w101 a101 hB101 hx101 hg101 hA101
  clear hA100
  have hs101 := hg101.size
  have hl101 := hx101.lt
  have ho91_103 := Own.gN ho91_1 hg93
  have ho91_104 := Own.gBT ho91_103 hg94 hx93 (by decide)
  have ho91_105 := Own.gN ho91_104 hg101
  refine sx_app (va := Jb.va) (l1 := js) (l2 := [x]) (z := .agg Jb.zero.va) (size := 11) (bytes := 88) hA101 rfl (by decide) (.inl rfl) rfl (hA101.ev (i := 63) (v := .slice Aj91 js.length cj91)) (hA101.ev (i := 65) (v := .slice (some ⟨B101, 0, none⟩) 1 1)) rfl rfl Try.underlying23 (by kernel_rfl) rfl (by decide) jb_one (base := w52.heap.size) ho91_105 (Sl.bx1 (va := Jb.va) (x := x) hx101 (jb_sz _)) (by omega) (by decide) (by omega) ?_
  intro A102 c102 w102 a102 ho102 hg102 hA102
  clear hA101
  have hs102 := hg102.size
  have hh102 := Own.hi ho102
  replace ho102 : Own w102 (w52.heap.size) 38 11 (.slice A102 (js ++ [x]).length c102) (js ++ [x]).length (flat Jb.va (js ++ [x])) := ho102
  refine sx_val (v := .pointer (some ⟨B93, 1, none⟩)) hA102 rfl (fb_Disk_1 (hA102.ev (i := 13) (v := .pointer (some ⟨B93, 0, none⟩))) _ rfl) ?_
  intro a106 hA106; clear hA102
  have hx94_108 := hx94.gN hg101
  have hx94_109 := hx94_108.gOT hg102 ho91_105 (by decide)
  refine sx_scell (v := .slice A102 (js ++ [x]).length c102) (v0 := .slice Aj91 js.length cj91) hA106 rfl (.inl rfl) rfl (hA106.ev (i := 67) (v := .pointer (some ⟨B93, 1, none⟩))) (hA106.ev (i := 66) (v := .slice A102 (js ++ [x]).length c102)) hx94_109 rfl (by kernel_rfl) rfl ?_
  intro w107 hx107 hg107
  have hx107 : Bx w107 B93 25 #[.slice Ap91 cs.length cp91, .slice A102 (js ++ [x]).length c102, .int .i64 room] := hx107
  have hs107 := hg107.size
  refine sx_nil ?_
  refine then_n ?_
  refine wp_seq ?_
  refine wp_region_lit ?_
  refine sx_val (v := .agg #[.slice Ap91 cs.length cp91, .slice A102 (js ++ [x]).length c102, .int .i64 room]) hA106 rfl (ev_row (hA106.ev (i := 13) (v := .pointer (some ⟨B93, 0, none⟩))) hx107 Try.underlying25 rfl (n := 3) (by kernel_rfl) rfl _ rfl) ?_
  intro a110 hA110; clear hA106
  have hx3_112 := hx3.gN hg8
  have hx3_113 := hx3_112.gN hg48
  have hx3_114 := hx3_113.gN hg52
  have hx3_115 := hx3_114.gN hg91
  have hx3_116 := hx3_115.gN hg93
  have hx3_117 := hx3_116.gB hg94 (by omega)
  have hx3_118 := hx3_117.gN hg101
  have hx3_119 := hx3_118.gOT hg102 ho91_105 (by decide)
  have hx3_120 := hx3_119.gB hg107 (by omega)
  refine sx_store hA110 rfl (.inl rfl) rfl (hA110.ev (i := 4) (v := .pointer (some ⟨B3, 0, none⟩))) (hA110.ev (i := 68) (v := .agg #[.slice Ap91 cs.length cp91, .slice A102 (js ++ [x]).length c102, .int .i64 room])) hx3_120 (by kernel_rfl) rfl (dk_one _ _ _ _ _ _ _) ?_
  intro w111 hx111 hg111
  have hs111 := hg111.size
  refine sx_val hA110 rfl (ev_assign (ec _ (.int .i64 0)) _ rfl) ?_
  intro a121 hA121; clear hA110
  refine sx_nil ?_
  refine then_n ?_
  refine wp_ret ?_
  refine bodyPost_ret (rs_ct (v := .int .i64 0) Try.results38 hA121 (by kernel_rfl) (by kernel_rfl) hx111 Try.underlying25 rfl (by kernel_rfl)) hA121.2.1 ?_
  have hbel0_122 := Below.gN hbel0_92 hg91 hbel0_92.size
  have hbel0_123 := Below.gN hbel0_122 hg93 hbel0_122.size
  have hbel0_124 := Below.gB hbel0_123 hg94 hbel0_123.size (by omega)
  have hbel0_125 := Below.gN hbel0_124 hg101 hbel0_124.size
  have hbel0_126 := Below.gO hbel0_125 hg102 ho91_105 hbel0_125.size (by omega)
  have hbel0_127 := Below.gB hbel0_126 hg107 hbel0_126.size (by omega)
  have hbel0_128 := Below.gB hbel0_127 hg111 hbel0_127.size (by omega)
  have E : sub ⟨cs, js, room⟩ x = (⟨cs, js ++ [x], room⟩, 0) := by
    unfold sub
    rw [if_pos hp18, if_neg (by rw [hd37]; decide), if_neg (by rw [any_hits]; simp [hd69, hd81]), if_neg hp88]
  rw [E]
  have ho91_129 := Own.gN ho91_0 hg93
  have ho91_130 := Own.gBT ho91_129 hg94 hx93 (by decide)
  have ho91_131 := Own.gN ho91_130 hg101
  have ho91_132 := Own.gOT ho91_131 hg102 ho91_105 (by decide)
  have ho91_133 := Own.gBT ho91_132 hg107 hx94_109 (by decide)
  have ho91_134 := Own.gBT ho91_133 hg111 hx3_120 (by decide)
  have ho102_135 := Own.gBT ho102 hg107 hx94_109 (by decide)
  have ho102_136 := Own.gBT ho102_135 hg111 hx3_120 (by decide)
  exact ⟨_, _, _, _, rfl, ⟨rfl, Own.mono ho91_134 (by omega)⟩, ⟨rfl, Own.mono ho102_136 (by omega)⟩, hbel0_128⟩

set_option maxHeartbeats 4000000 in
theorem Write_any (A1 : Option Addr) (c1 : Nat) (A2 : Option Addr) (c2 : Nat) (cs : List Ct) (js : List Jb) (room : Int) (s f : Int) (c : Ct) (w : World) (hd : GD w A1 c1 A2 c2 cs js) (hl : cs.length ≤ 900000) (hj : js.length ≤ 900000) : Calls Try.prog 12 #[.agg #[.slice A1 cs.length c1, .slice A2 js.length c2, .int .i64 room], .int .i64 s, .int .i64 f, .agg c.va] w (RetD w (sub ⟨cs, js, room⟩ ⟨true, s, f, c⟩)) := by
  have hbel0 := below0 w
  refine sx_enter (N := 18) [(0, .agg #[.slice A1 cs.length c1, .slice A2 js.length c2, .int .i64 room]), (1, .int .i64 s), (2, .int .i64 f), (3, .agg c.va)] Try.func12 rfl Try.ntmps12 (by simp) (fun a z d s => (((((Ag.nil z d).cons (s 3 _ rfl)).cons (s 2 _ rfl)).cons (s 1 _ rfl)).cons (s 0 _ rfl))) ?_
  intro a0 hA0
  refine wp_seq ?_
  refine wp_region_lit ?_
  refine sx_new (cs := #[.slice A1 cs.length c1, .slice A2 js.length c2, .int .i64 room]) (t := 25) hA0 rfl (by decide) (.inl rfl) (ev_box (hA0.ev (i := 0) (v := .agg #[.slice A1 cs.length c1, .slice A2 js.length c2, .int .i64 room])) rfl _ rfl) ?_
  intro B1 w1 a1 hB1 hx1 hg1 hA1
  clear hA0
  have hs1 := hg1.size
  have hl1 := hx1.lt
  refine sx_new (cs := c.va) (t := 28) hA1 rfl (by decide) (.inl rfl) (ev_box (hA1.ev (i := 3) (v := .agg c.va)) rfl _ rfl) ?_
  intro B2 w2 a2 hB2 hx2 hg2 hA2
  clear hA1
  have hs2 := hg2.size
  have hl2 := hx2.lt
  refine sx_new (cs := #[.slice none 0 0, .slice none 0 0, .int .i64 0]) (t := 25) hA2 rfl (by decide) (.inl rfl) (ev_alloc (z := .agg (#[.slice none 0 0, .slice none 0 0, .int .i64 0])) (by kernel_rfl) (by kernel_rfl) _ rfl) ?_
  intro B3 w3 a3 hB3 hx3 hg3 hA3
  clear hA2
  have hs3 := hg3.size
  have hl3 := hx3.lt
  refine sx_val hA3 rfl (ev_assign (ec _ (.int .i64 0)) _ rfl) ?_
  intro a4 hA4; clear hA3
  refine sx_nil ?_
  refine then_n ?_
  refine wp_seq ?_
  refine wp_region_lit ?_
  have hx1_5 := hx1.gN hg2
  have hx1_6 := hx1_5.gN hg3
  refine sx_val (v := .agg #[.slice A1 cs.length c1, .slice A2 js.length c2, .int .i64 room]) hA4 rfl (ev_row (hA4.ev (i := 4) (v := .pointer (some ⟨B1, 0, none⟩))) hx1_6 Try.underlying25 rfl (n := 3) (by kernel_rfl) rfl _ rfl) ?_
  intro a7 hA7; clear hA4
  refine sx_val hA7 rfl (ev_move (hA7.ev (i := 1) (v := .int .i64 s)) _ rfl) ?_
  intro a8 hA8; clear hA7
  refine sx_val hA8 rfl (ev_move (hA8.ev (i := 2) (v := .int .i64 f)) _ rfl) ?_
  intro a9 hA9; clear hA8
  have hx2_10 := hx2.gN hg3
  refine sx_val (v := .agg c.va) hA9 rfl (ev_row (hA9.ev (i := 7) (v := .pointer (some ⟨B2, 0, none⟩))) hx2_10 Try.underlying28 rfl (n := 8) (by kernel_rfl) rfl _ rfl) ?_
  intro a11 hA11; clear hA9
  refine sx_val (v := .agg (Jb.va ⟨true, s, f, c⟩)) hA11 rfl (bd_Job_0_1_2_3 (ec _ (.bool true)) (hA11.ev (i := 11) (v := .int .i64 s)) (hA11.ev (i := 12) (v := .int .i64 f)) (hA11.ev (i := 13) (v := .agg c.va)) _ rfl) ?_
  intro a12 hA12; clear hA11
  have hbel0_14 := Below.gN hbel0 hg1 hbel0.size
  have hbel0_15 := Below.gN hbel0_14 hg2 hbel0_14.size
  have hbel0_16 := Below.gN hbel0_15 hg3 hbel0_15.size
  refine sx_call (f := 38) (args := #[.agg #[.slice A1 cs.length c1, .slice A2 js.length c2, .int .i64 room], .agg (Jb.va ⟨true, s, f, c⟩)]) hA12 rfl (by decide) (.inl rfl) (ev_fn rfl (mp2 (hA12.ev (i := 10) (v := .agg #[.slice A1 cs.length c1, .slice A2 js.length c2, .int .i64 room])) (hA12.ev (i := 14) (v := .agg (Jb.va ⟨true, s, f, c⟩)))) (by kernel_rfl) _ rfl) (submit_any A1 c1 A2 c2 cs js room ⟨true, s, f, c⟩ _ ⟨(hd.s.below hbel0_16), (hd.j.below hbel0_16)⟩ (by omega) (by omega)) ?_
  intro e13 w13 hR13
  obtain ⟨Ap13, cp13, Aj13, cj13, rfl, hC13, hJ13, hb13⟩ := hR13
  refine ⟨_, rfl, ?_⟩
  intro a13 hA13
  clear hA12
  have hg13 := g0 hb13
  have hs13 := hg13.size
  clear hb13
  have ho13_0 : Own w13 (w3.heap.size) 28 8 (.slice Ap13 (sub ⟨cs, js, room⟩ ⟨true, s, f, c⟩).1.cs.length cp13) (sub ⟨cs, js, room⟩ ⟨true, s, f, c⟩).1.cs.length (flat Ct.va (sub ⟨cs, js, room⟩ ⟨true, s, f, c⟩).1.cs) := hC13.2
  have hh13_0 := Own.hi ho13_0
  have ho13_1 : Own w13 (w3.heap.size) 38 11 (.slice Aj13 (sub ⟨cs, js, room⟩ ⟨true, s, f, c⟩).1.js.length cj13) (sub ⟨cs, js, room⟩ ⟨true, s, f, c⟩).1.js.length (flat Jb.va (sub ⟨cs, js, room⟩ ⟨true, s, f, c⟩).1.js) := hJ13.2
  have hh13_1 := Own.hi ho13_1
  refine sx_val (v := .agg #[.slice Ap13 (sub ⟨cs, js, room⟩ ⟨true, s, f, c⟩).1.cs.length cp13, .slice Aj13 (sub ⟨cs, js, room⟩ ⟨true, s, f, c⟩).1.js.length cj13, .int .i64 (sub ⟨cs, js, room⟩ ⟨true, s, f, c⟩).1.room]) hA13 rfl (ev_ext (hA13.ev (i := 15) (v := .tuple #[.agg #[.slice Ap13 (sub ⟨cs, js, room⟩ ⟨true, s, f, c⟩).1.cs.length cp13, .slice Aj13 (sub ⟨cs, js, room⟩ ⟨true, s, f, c⟩).1.js.length cj13, .int .i64 (sub ⟨cs, js, room⟩ ⟨true, s, f, c⟩).1.room], .int .i64 (sub ⟨cs, js, room⟩ ⟨true, s, f, c⟩).2])) rfl _ rfl) ?_
  intro a17 hA17; clear hA13
  refine sx_val (v := .int .i64 (sub ⟨cs, js, room⟩ ⟨true, s, f, c⟩).2) hA17 rfl (ev_ext (hA17.ev (i := 15) (v := .tuple #[.agg #[.slice Ap13 (sub ⟨cs, js, room⟩ ⟨true, s, f, c⟩).1.cs.length cp13, .slice Aj13 (sub ⟨cs, js, room⟩ ⟨true, s, f, c⟩).1.js.length cj13, .int .i64 (sub ⟨cs, js, room⟩ ⟨true, s, f, c⟩).1.room], .int .i64 (sub ⟨cs, js, room⟩ ⟨true, s, f, c⟩).2])) rfl _ rfl) ?_
  intro a18 hA18; clear hA17
  have hx3_20 := hx3.gN hg13
  refine sx_store hA18 rfl (.inl rfl) rfl (hA18.ev (i := 8) (v := .pointer (some ⟨B3, 0, none⟩))) (hA18.ev (i := 16) (v := .agg #[.slice Ap13 (sub ⟨cs, js, room⟩ ⟨true, s, f, c⟩).1.cs.length cp13, .slice Aj13 (sub ⟨cs, js, room⟩ ⟨true, s, f, c⟩).1.js.length cj13, .int .i64 (sub ⟨cs, js, room⟩ ⟨true, s, f, c⟩).1.room])) hx3_20 (by kernel_rfl) rfl (dk_one _ _ _ _ _ _ _) ?_
  intro w19 hx19 hg19
  have hs19 := hg19.size
  refine sx_val hA18 rfl (ev_assign (hA18.ev (i := 17) (v := .int .i64 (sub ⟨cs, js, room⟩ ⟨true, s, f, c⟩).2)) _ rfl) ?_
  intro a21 hA21; clear hA18
  refine sx_nil ?_
  refine then_n ?_
  refine wp_ret ?_
  refine bodyPost_ret (rs_ct (v := .int .i64 (sub ⟨cs, js, room⟩ ⟨true, s, f, c⟩).2) Try.results12 hA21 (by kernel_rfl) (by kernel_rfl) hx19 Try.underlying25 rfl (by kernel_rfl)) hA21.2.1 ?_
  have ho13_22 := Own.gBT ho13_0 hg19 hx3_20 (by decide)
  have ho13_23 := Own.gBT ho13_1 hg19 hx3_20 (by decide)
  have hbel0_24 := Below.gN hbel0_16 hg13 hbel0_16.size
  have hbel0_25 := Below.gB hbel0_24 hg19 hbel0_24.size (by omega)
  exact ⟨_, _, _, _, rfl, ⟨rfl, Own.mono ho13_22 (by omega)⟩, ⟨rfl, Own.mono ho13_23 (by omega)⟩, hbel0_25⟩

set_option maxHeartbeats 4000000 in
theorem Read_any (A1 : Option Addr) (c1 : Nat) (A2 : Option Addr) (c2 : Nat) (cs : List Ct) (js : List Jb) (room : Int) (s f : Int) (w : World) (hd : GD w A1 c1 A2 c2 cs js) (hl : cs.length ≤ 900000) (hj : js.length ≤ 900000) : Calls Try.prog 15 #[.agg #[.slice A1 cs.length c1, .slice A2 js.length c2, .int .i64 room], .int .i64 s, .int .i64 f] w (RetD w (sub ⟨cs, js, room⟩ ⟨false, s, f, Ct.zero⟩)) := by
  have hbel0 := below0 w
  refine sx_enter (N := 15) [(0, .agg #[.slice A1 cs.length c1, .slice A2 js.length c2, .int .i64 room]), (1, .int .i64 s), (2, .int .i64 f)] Try.func15 rfl Try.ntmps15 (by simp) (fun a z d s => ((((Ag.nil z d).cons (s 2 _ rfl)).cons (s 1 _ rfl)).cons (s 0 _ rfl))) ?_
  intro a0 hA0
  refine wp_seq ?_
  refine wp_region_lit ?_
  refine sx_new (cs := #[.slice A1 cs.length c1, .slice A2 js.length c2, .int .i64 room]) (t := 25) hA0 rfl (by decide) (.inl rfl) (ev_box (hA0.ev (i := 0) (v := .agg #[.slice A1 cs.length c1, .slice A2 js.length c2, .int .i64 room])) rfl _ rfl) ?_
  intro B1 w1 a1 hB1 hx1 hg1 hA1
  clear hA0
  have hs1 := hg1.size
  have hl1 := hx1.lt
  refine sx_new (cs := #[.slice none 0 0, .slice none 0 0, .int .i64 0]) (t := 25) hA1 rfl (by decide) (.inl rfl) (ev_alloc (z := .agg (#[.slice none 0 0, .slice none 0 0, .int .i64 0])) (by kernel_rfl) (by kernel_rfl) _ rfl) ?_
  intro B2 w2 a2 hB2 hx2 hg2 hA2
  clear hA1
  have hs2 := hg2.size
  have hl2 := hx2.lt
  refine sx_val hA2 rfl (ev_assign (ec _ (.int .i64 0)) _ rfl) ?_
  intro a3 hA3; clear hA2
  refine sx_nil ?_
  refine then_n ?_
  refine wp_seq ?_
  refine wp_region_lit ?_
  have hx1_4 := hx1.gN hg2
  refine sx_val (v := .agg #[.slice A1 cs.length c1, .slice A2 js.length c2, .int .i64 room]) hA3 rfl (ev_row (hA3.ev (i := 3) (v := .pointer (some ⟨B1, 0, none⟩))) hx1_4 Try.underlying25 rfl (n := 3) (by kernel_rfl) rfl _ rfl) ?_
  intro a5 hA5; clear hA3
  refine sx_val hA5 rfl (ev_move (hA5.ev (i := 1) (v := .int .i64 s)) _ rfl) ?_
  intro a6 hA6; clear hA5
  refine sx_val hA6 rfl (ev_move (hA6.ev (i := 2) (v := .int .i64 f)) _ rfl) ?_
  intro a7 hA7; clear hA6
  refine sx_val (v := .agg (Jb.va ⟨false, s, f, Ct.zero⟩)) hA7 rfl (bd_Job_1_2 (hA7.ev (i := 9) (v := .int .i64 s)) (hA7.ev (i := 10) (v := .int .i64 f)) _ rfl) ?_
  intro a8 hA8; clear hA7
  have hbel0_10 := Below.gN hbel0 hg1 hbel0.size
  have hbel0_11 := Below.gN hbel0_10 hg2 hbel0_10.size
  refine sx_call (f := 38) (args := #[.agg #[.slice A1 cs.length c1, .slice A2 js.length c2, .int .i64 room], .agg (Jb.va ⟨false, s, f, Ct.zero⟩)]) hA8 rfl (by decide) (.inl rfl) (ev_fn rfl (mp2 (hA8.ev (i := 8) (v := .agg #[.slice A1 cs.length c1, .slice A2 js.length c2, .int .i64 room])) (hA8.ev (i := 11) (v := .agg (Jb.va ⟨false, s, f, Ct.zero⟩)))) (by kernel_rfl) _ rfl) (submit_any A1 c1 A2 c2 cs js room ⟨false, s, f, Ct.zero⟩ _ ⟨(hd.s.below hbel0_11), (hd.j.below hbel0_11)⟩ (by omega) (by omega)) ?_
  intro e9 w9 hR9
  obtain ⟨Ap9, cp9, Aj9, cj9, rfl, hC9, hJ9, hb9⟩ := hR9
  refine ⟨_, rfl, ?_⟩
  intro a9 hA9
  clear hA8
  have hg9 := g0 hb9
  have hs9 := hg9.size
  clear hb9
  have ho9_0 : Own w9 (w2.heap.size) 28 8 (.slice Ap9 (sub ⟨cs, js, room⟩ ⟨false, s, f, Ct.zero⟩).1.cs.length cp9) (sub ⟨cs, js, room⟩ ⟨false, s, f, Ct.zero⟩).1.cs.length (flat Ct.va (sub ⟨cs, js, room⟩ ⟨false, s, f, Ct.zero⟩).1.cs) := hC9.2
  have hh9_0 := Own.hi ho9_0
  have ho9_1 : Own w9 (w2.heap.size) 38 11 (.slice Aj9 (sub ⟨cs, js, room⟩ ⟨false, s, f, Ct.zero⟩).1.js.length cj9) (sub ⟨cs, js, room⟩ ⟨false, s, f, Ct.zero⟩).1.js.length (flat Jb.va (sub ⟨cs, js, room⟩ ⟨false, s, f, Ct.zero⟩).1.js) := hJ9.2
  have hh9_1 := Own.hi ho9_1
  refine sx_val (v := .agg #[.slice Ap9 (sub ⟨cs, js, room⟩ ⟨false, s, f, Ct.zero⟩).1.cs.length cp9, .slice Aj9 (sub ⟨cs, js, room⟩ ⟨false, s, f, Ct.zero⟩).1.js.length cj9, .int .i64 (sub ⟨cs, js, room⟩ ⟨false, s, f, Ct.zero⟩).1.room]) hA9 rfl (ev_ext (hA9.ev (i := 12) (v := .tuple #[.agg #[.slice Ap9 (sub ⟨cs, js, room⟩ ⟨false, s, f, Ct.zero⟩).1.cs.length cp9, .slice Aj9 (sub ⟨cs, js, room⟩ ⟨false, s, f, Ct.zero⟩).1.js.length cj9, .int .i64 (sub ⟨cs, js, room⟩ ⟨false, s, f, Ct.zero⟩).1.room], .int .i64 (sub ⟨cs, js, room⟩ ⟨false, s, f, Ct.zero⟩).2])) rfl _ rfl) ?_
  intro a12 hA12; clear hA9
  refine sx_val (v := .int .i64 (sub ⟨cs, js, room⟩ ⟨false, s, f, Ct.zero⟩).2) hA12 rfl (ev_ext (hA12.ev (i := 12) (v := .tuple #[.agg #[.slice Ap9 (sub ⟨cs, js, room⟩ ⟨false, s, f, Ct.zero⟩).1.cs.length cp9, .slice Aj9 (sub ⟨cs, js, room⟩ ⟨false, s, f, Ct.zero⟩).1.js.length cj9, .int .i64 (sub ⟨cs, js, room⟩ ⟨false, s, f, Ct.zero⟩).1.room], .int .i64 (sub ⟨cs, js, room⟩ ⟨false, s, f, Ct.zero⟩).2])) rfl _ rfl) ?_
  intro a13 hA13; clear hA12
  have hx2_15 := hx2.gN hg9
  refine sx_store hA13 rfl (.inl rfl) rfl (hA13.ev (i := 6) (v := .pointer (some ⟨B2, 0, none⟩))) (hA13.ev (i := 13) (v := .agg #[.slice Ap9 (sub ⟨cs, js, room⟩ ⟨false, s, f, Ct.zero⟩).1.cs.length cp9, .slice Aj9 (sub ⟨cs, js, room⟩ ⟨false, s, f, Ct.zero⟩).1.js.length cj9, .int .i64 (sub ⟨cs, js, room⟩ ⟨false, s, f, Ct.zero⟩).1.room])) hx2_15 (by kernel_rfl) rfl (dk_one _ _ _ _ _ _ _) ?_
  intro w14 hx14 hg14
  have hs14 := hg14.size
  refine sx_val hA13 rfl (ev_assign (hA13.ev (i := 14) (v := .int .i64 (sub ⟨cs, js, room⟩ ⟨false, s, f, Ct.zero⟩).2)) _ rfl) ?_
  intro a16 hA16; clear hA13
  refine sx_nil ?_
  refine then_n ?_
  refine wp_ret ?_
  refine bodyPost_ret (rs_ct (v := .int .i64 (sub ⟨cs, js, room⟩ ⟨false, s, f, Ct.zero⟩).2) Try.results15 hA16 (by kernel_rfl) (by kernel_rfl) hx14 Try.underlying25 rfl (by kernel_rfl)) hA16.2.1 ?_
  have ho9_17 := Own.gBT ho9_0 hg14 hx2_15 (by decide)
  have ho9_18 := Own.gBT ho9_1 hg14 hx2_15 (by decide)
  have hbel0_19 := Below.gN hbel0_11 hg9 hbel0_11.size
  have hbel0_20 := Below.gB hbel0_19 hg14 hbel0_19.size (by omega)
  exact ⟨_, _, _, _, rfl, ⟨rfl, Own.mono ho9_17 (by omega)⟩, ⟨rfl, Own.mono ho9_18 (by omega)⟩, hbel0_20⟩
end Go.Proofs.Ytbkdimildnahaaa
