/- The reference of disk: Complete. -/
import Derived.Test.YtbkdimildnahaaaDU
namespace Go.Proofs.Ytbkdimildnahaaa
open Go.RowKit
set_option linter.unusedVariables false
set_option maxRecDepth 100000

set_option maxHeartbeats 8000000 in
theorem sComplete_any (A1 : Option Addr) (c1 : Nat) (A2 : Option Addr) (c2 : Nat) (cs : List Ct) (js : List Jb) (room : Int) (i : Int) (w : World) (hd : GD w A1 c1 A2 c2 cs js) (hl : cs.length ≤ 900000) (hj : js.length ≤ 900000) : Calls Try.prog 18 #[.agg #[.slice A1 cs.length c1, .slice A2 js.length c2, .int .i64 room], .int .i64 i] w (RetDJ w (cmp ⟨cs, js, room⟩ i)) := by
  have hbel0 := below0 w
  refine sx_enter (N := 68) [(0, .agg #[.slice A1 cs.length c1, .slice A2 js.length c2, .int .i64 room]), (1, .int .i64 i)] Try.func18 rfl Try.ntmps18 (by simp) (fun a z d s => (((Ag.nil z d).cons (s 1 _ rfl)).cons (s 0 _ rfl))) ?_
  intro a0 hA0
  refine wp_seq ?_
  refine wp_region_lit ?_
  refine sx_new (cs := #[.slice A1 cs.length c1, .slice A2 js.length c2, .int .i64 room]) (t := 25) hA0 rfl (by decide) (.inl rfl) (ev_box (hA0.ev (i := 0) (v := .agg #[.slice A1 cs.length c1, .slice A2 js.length c2, .int .i64 room])) rfl _ rfl) ?_
  intro B1 w1 a1 hB1 hx1 hg1 hA1
  clear hA0
  have hs1 := hg1.size
  have hl1 := hx1.lt
  refine sx_new (cs := #[.slice none 0 0, .slice none 0 0, .int .i64 0]) (t := 25) hA1 rfl (by decide) (.inl rfl) (ev_alloc (z := .agg (#[.slice none 0 0, .slice none 0 0, .int .i64 0])) (by kernel_rfl) (by kernel_rfl) _ rfl) ?_
  intro B2 w2 a2 hB2 hx2 hg2 hA2
  clear hA1
  have hs2 := hg2.size
  have hl2 := hx2.lt
  refine sx_new (cs := Jb.zero.va) (t := 38) hA2 rfl (by decide) (.inl rfl) (ev_alloc (z := .agg Jb.zero.va) (by kernel_rfl) (by kernel_rfl) _ rfl) ?_
  intro B3 w3 a3 hB3 hx3 hg3 hA3
  clear hA2
  have hs3 := hg3.size
  have hl3 := hx3.lt
  refine sx_val hA3 rfl (ev_assign (ec _ (.int .i64 0)) _ rfl) ?_
  intro a4 hA4; clear hA3
  refine sx_nil ?_
  refine then_n ?_
  refine wp_seq ?_
  refine wp_region_lit ?_
  have hx1_5 := hx1.gN hg2
  have hx1_6 := hx1_5.gN hg3
  refine sx_val (v := .agg #[.slice A1 cs.length c1, .slice A2 js.length c2, .int .i64 room]) hA4 rfl (ev_row (hA4.ev (i := 2) (v := .pointer (some ⟨B1, 0, none⟩))) hx1_6 Try.underlying25 rfl (n := 3) (by kernel_rfl) rfl _ rfl) ?_
  intro a7 hA7; clear hA4
  have hbel0_9 := Below.gN hbel0 hg1 hbel0.size
  have hbel0_10 := Below.gN hbel0_9 hg2 hbel0_9.size
  have hbel0_11 := Below.gN hbel0_10 hg3 hbel0_10.size
  refine sx_call (f := 25) (args := #[.agg #[.slice A1 cs.length c1, .slice A2 js.length c2, .int .i64 room]]) hA7 rfl (by decide) (.inl rfl) (ev_fn rfl (mp1 (hA7.ev (i := 12) (v := .agg #[.slice A1 cs.length c1, .slice A2 js.length c2, .int .i64 room]))) (by kernel_rfl) _ rfl) (sCheck_any A1 c1 A2 c2 cs js room _ ⟨(hd.s.below hbel0_11), (hd.j.below hbel0_11)⟩ (by omega)) ?_
  intro e8 w8 hR8
  obtain ⟨rfl, hb8⟩ := hR8
  refine ⟨_, rfl, ?_⟩
  intro a8 hA8
  clear hA7
  have hg8 := g0 hb8
  have hs8 := hg8.size
  clear hb8
  refine sx_val hA8 rfl (ev_move (hA8.ev (i := 13) (v := .tuple #[.int .i64 (chk ⟨cs, js, room⟩).1, .int .i64 (chk ⟨cs, js, room⟩).2])) _ rfl) ?_
  intro a12 hA12; clear hA8
  refine sx_val (v := .int .i64 (chk ⟨cs, js, room⟩).1) hA12 rfl (ev_ext (hA12.ev (i := 11) (v := .tuple #[.int .i64 (chk ⟨cs, js, room⟩).1, .int .i64 (chk ⟨cs, js, room⟩).2])) rfl _ rfl) ?_
  intro a13 hA13; clear hA12
  refine sx_val (v := .int .i64 (chk ⟨cs, js, room⟩).2) hA13 rfl (ev_ext (hA13.ev (i := 11) (v := .tuple #[.int .i64 (chk ⟨cs, js, room⟩).1, .int .i64 (chk ⟨cs, js, room⟩).2])) rfl _ rfl) ?_
  intro a14 hA14; clear hA13
  refine sx_val hA14 rfl (ev_assign (hA14.ev (i := 14) (v := .int .i64 (chk ⟨cs, js, room⟩).1)) _ rfl) ?_
  intro a15 hA15; clear hA14
  refine sx_val hA15 rfl (ev_assign (hA15.ev (i := 15) (v := .int .i64 (chk ⟨cs, js, room⟩).2)) _ rfl) ?_
  intro a16 hA16; clear hA15
  refine sx_nil ?_
  refine then_n ?_
  refine wp_seq ?_
  refine wp_seq ?_
  refine wp_region_lit ?_
  refine sx_val hA16 rfl (ev_move (hA16.ev (i := 7) (v := .int .i64 (chk ⟨cs, js, room⟩).1)) _ rfl) ?_
  intro a17 hA17; clear hA16
  cases hd18 : decide ((chk ⟨cs, js, room⟩).1 = 0)
  · have hp18 := of_decide_eq_false hd18
    refine sx_val (v := .bool true) hA17 rfl (ev_neqB (k := .i64) (m := (chk ⟨cs, js, room⟩).1) (n := 0) (hA17.ev (i := 16)) (ec _ (.int .i64 0)) (by simpa using hd18) _ rfl) ?_
    intro a19 hA19; clear hA17
    refine sx_nil ?_
    refine then_n ?_
    refine wp_cond_true (hA19.ev (i := 17) (v := .bool true)) ?_
    refine wp_seq ?_
    refine wp_region_lit ?_
    refine sx_val (v := .agg #[.slice none 0 0, .slice none 0 0, .int .i64 0]) hA19 rfl (bd0_Disk _ rfl) ?_
    intro a20 hA20; clear hA19
    refine sx_val (v := .agg Jb.zero.va) hA20 rfl (bd0_Job _ rfl) ?_
    intro a21 hA21; clear hA20
    refine sx_val hA21 rfl (ev_move (hA21.ev (i := 7) (v := .int .i64 (chk ⟨cs, js, room⟩).1)) _ rfl) ?_
    intro a22 hA22; clear hA21
    have hx2_24 := hx2.gN hg3
    have hx2_25 := hx2_24.gN hg8
    refine sx_store hA22 rfl (.inl rfl) rfl (hA22.ev (i := 4) (v := .pointer (some ⟨B2, 0, none⟩))) (hA22.ev (i := 18) (v := .agg #[.slice none 0 0, .slice none 0 0, .int .i64 0])) hx2_25 (by kernel_rfl) rfl (dk_one _ _ _ _ _ _ _) ?_
    intro w23 hx23 hg23
    have hs23 := hg23.size
    have hx3_27 := hx3.gN hg8
    have hx3_28 := hx3_27.gB hg23 (by omega)
    refine sx_store hA22 rfl (.inl rfl) rfl (hA22.ev (i := 5) (v := .pointer (some ⟨B3, 0, none⟩))) (hA22.ev (i := 19) (v := .agg Jb.zero.va)) hx3_28 (by kernel_rfl) rfl (jb_one _) ?_
    intro w26 hx26 hg26
    have hs26 := hg26.size
    refine sx_val hA22 rfl (ev_assign (hA22.ev (i := 20) (v := .int .i64 (chk ⟨cs, js, room⟩).1)) _ rfl) ?_
    intro a29 hA29; clear hA22
    refine sx_nil ?_
    refine then_n ?_
    refine wp_ret ?_
    refine then_r ?_
    have hx23_30 := hx23.gB hg26 (by omega)
    refine bodyPost_ret (rs_cct (v := .int .i64 (chk ⟨cs, js, room⟩).1) Try.results18 hA29 (by kernel_rfl) (by kernel_rfl) (by kernel_rfl) hx23_30 Try.underlying25 rfl (by kernel_rfl) hx26 Try.underlying38 rfl (by kernel_rfl)) hA29.2.1 ?_
    have hbel0_31 := Below.gN hbel0_11 hg8 hbel0_11.size
    have hbel0_32 := Below.gB hbel0_31 hg23 hbel0_31.size (by omega)
    have hbel0_33 := Below.gB hbel0_32 hg26 hbel0_32.size (by omega)
    rw [show cmp ⟨cs, js, room⟩ i = (Dk.nil, Jb.zero, (chk ⟨cs, js, room⟩).1) from if_neg hp18]
    exact ⟨none, 0, none, 0, rfl, OwC.nil _ _, OwJ.nil _ _, hbel0_33⟩
  have hp18 := of_decide_eq_true hd18
  refine sx_val (v := .bool false) hA17 rfl (ev_neqB (k := .i64) (m := (chk ⟨cs, js, room⟩).1) (n := 0) (hA17.ev (i := 16)) (ec _ (.int .i64 0)) (by simpa using hd18) _ rfl) ?_
  intro a34 hA34; clear hA17
  refine sx_nil ?_
  refine then_n ?_
  refine wp_cond_false (hA34.ev (i := 17) (v := .bool false)) ?_
  refine wp_skip ?_
  refine then_n ?_
  refine wp_seq ?_
  refine wp_seq ?_
  refine wp_region_lit ?_
  refine sx_val hA34 rfl (ev_move (hA34.ev (i := 1) (v := .int .i64 i)) _ rfl) ?_
  intro a35 hA35; clear hA34
  cases hd36 : decide (i < 0)
  rotate_left
  · have hp36 := of_decide_eq_true hd36
    refine sx_val (v := .bool true) hA35 rfl (ev_lssB (k := .i64) (m := i) (n := 0) (hA35.ev (i := 21)) (ec _ (.int .i64 0)) hd36 _ rfl) ?_
    intro a145 hA145; clear hA35
    refine sx_val hA145 rfl (ev_move (hA145.ev (i := 22) (v := .bool true)) _ rfl) ?_
    intro a146 hA146; clear hA145
    refine sx_no (j := 2) (s := 23) (want := false) (b := true) hA146 rfl ?_
    intro a147 hA147; clear hA146
    refine sx_no (j := 2) (s := 23) (want := false) (b := true) hA147 rfl ?_
    intro a148 hA148; clear hA147
    refine sx_no (j := 2) (s := 23) (want := false) (b := true) hA148 rfl ?_
    intro a149 hA149; clear hA148
    refine sx_no (j := 2) (s := 23) (want := false) (b := true) hA149 rfl ?_
    intro a150 hA150; clear hA149
    refine sx_no (j := 2) (s := 23) (want := false) (b := true) hA150 rfl ?_
    intro a151 hA151; clear hA150
    refine sx_val hA151 rfl (ev_pickT (hA151.ev (i := 23) (v := .bool true)) (ec _ (.bool true)) _ rfl) ?_
    intro a152 hA152; clear hA151
    refine sx_nil ?_
    refine then_n ?_
    refine wp_cond_true (hA152.ev (i := 29) (v := .bool true)) ?_
    refine wp_seq ?_
    refine wp_region_lit ?_
    refine sx_val (v := .agg #[.slice none 0 0, .slice none 0 0, .int .i64 0]) hA152 rfl (bd0_Disk _ rfl) ?_
    intro a153 hA153; clear hA152
    refine sx_val (v := .agg Jb.zero.va) hA153 rfl (bd0_Job _ rfl) ?_
    intro a154 hA154; clear hA153
    have hx2_156 := hx2.gN hg3
    have hx2_157 := hx2_156.gN hg8
    refine sx_store hA154 rfl (.inl rfl) rfl (hA154.ev (i := 4) (v := .pointer (some ⟨B2, 0, none⟩))) (hA154.ev (i := 30) (v := .agg #[.slice none 0 0, .slice none 0 0, .int .i64 0])) hx2_157 (by kernel_rfl) rfl (dk_one _ _ _ _ _ _ _) ?_
    intro w155 hx155 hg155
    have hs155 := hg155.size
    have hx3_159 := hx3.gN hg8
    have hx3_160 := hx3_159.gB hg155 (by omega)
    refine sx_store hA154 rfl (.inl rfl) rfl (hA154.ev (i := 5) (v := .pointer (some ⟨B3, 0, none⟩))) (hA154.ev (i := 31) (v := .agg Jb.zero.va)) hx3_160 (by kernel_rfl) rfl (jb_one _) ?_
    intro w158 hx158 hg158
    have hs158 := hg158.size
    refine sx_val hA154 rfl (ev_assign (ec _ (.int .i64 6)) _ rfl) ?_
    intro a161 hA161; clear hA154
    refine sx_nil ?_
    refine then_n ?_
    refine wp_ret ?_
    refine then_r ?_
    have hx155_162 := hx155.gB hg158 (by omega)
    refine bodyPost_ret (rs_cct (v := .int .i64 6) Try.results18 hA161 (by kernel_rfl) (by kernel_rfl) (by kernel_rfl) hx155_162 Try.underlying25 rfl (by kernel_rfl) hx158 Try.underlying38 rfl (by kernel_rfl)) hA161.2.1 ?_
    have hbel0_163 := Below.gN hbel0_11 hg8 hbel0_11.size
    have hbel0_164 := Below.gB hbel0_163 hg155 hbel0_163.size (by omega)
    have hbel0_165 := Below.gB hbel0_164 hg158 hbel0_164.size (by omega)
    have E : cmp ⟨cs, js, room⟩ i = (Dk.nil, Jb.zero, 6) := by
      unfold cmp
      rw [if_pos hp18, if_pos (by show i < 0 ∨ (js.length : Int) ≤ i; omega)]
    rw [E]
    exact ⟨none, 0, none, 0, rfl, OwC.nil _ _, OwJ.nil _ _, hbel0_165⟩
  have hp36 := of_decide_eq_false hd36
  refine sx_val (v := .bool false) hA35 rfl (ev_lssB (k := .i64) (m := i) (n := 0) (hA35.ev (i := 21)) (ec _ (.int .i64 0)) hd36 _ rfl) ?_
  intro a37 hA37; clear hA35
  refine sx_val hA37 rfl (ev_move (hA37.ev (i := 22) (v := .bool false)) _ rfl) ?_
  intro a38 hA38; clear hA37
  refine sx_val (hg := (.inr ⟨2, false, 23, rfl, rfl, by kernel_rfl⟩)) hA38 rfl (ev_move (hA38.ev (i := 1) (v := .int .i64 i)) _ rfl) ?_
  intro a39 hA39; clear hA38
  refine sx_val (hg := (.inr ⟨2, false, 23, rfl, rfl, by kernel_rfl⟩)) (v := .pointer (some ⟨B1, 1, none⟩)) hA39 rfl (fb_Disk_1 (hA39.ev (i := 2) (v := .pointer (some ⟨B1, 0, none⟩))) _ rfl) ?_
  intro a40 hA40; clear hA39
  have hx1_41 := hx1_6.gN hg8
  refine sx_val (hg := (.inr ⟨2, false, 23, rfl, rfl, by kernel_rfl⟩)) (v := .slice A2 js.length c2) hA40 rfl (ev_cell (v := .slice A2 js.length c2) (hA40.ev (i := 25) (v := .pointer (some ⟨B1, 1, none⟩))) ((hx1_41.cell 1).trans rfl) Try.underlying23 rfl _ rfl) ?_
  intro a42 hA42; clear hA40
  refine sx_val (hg := (.inr ⟨2, false, 23, rfl, rfl, by kernel_rfl⟩)) (v := .int .i64 (js.length : Int)) hA42 rfl (ev_len (hA42.ev (i := 26) (v := .slice A2 js.length c2)) Try.underlying23 _ rfl) ?_
  intro a43 hA43; clear hA42
  cases hd44 : decide ((js.length : Int) ≤ i)
  rotate_left
  · have hp44 := of_decide_eq_true hd44
    refine sx_val (hg := (.inr ⟨2, false, 23, rfl, rfl, by kernel_rfl⟩)) (v := .bool true) hA43 rfl (ev_geqB (k := .i64) (m := i) (n := (js.length : Int)) (hA43.ev (i := 24)) (hA43.ev (i := 27)) hd44 _ rfl) ?_
    intro a130 hA130; clear hA43
    refine sx_val hA130 rfl (ev_pickF (hA130.ev (i := 23) (v := .bool false)) (hA130.ev (i := 28) (v := .bool true)) _ rfl) ?_
    intro a131 hA131; clear hA130
    refine sx_nil ?_
    refine then_n ?_
    refine wp_cond_true (hA131.ev (i := 29) (v := .bool true)) ?_
    refine wp_seq ?_
    refine wp_region_lit ?_
    refine sx_val (v := .agg #[.slice none 0 0, .slice none 0 0, .int .i64 0]) hA131 rfl (bd0_Disk _ rfl) ?_
    intro a132 hA132; clear hA131
    refine sx_val (v := .agg Jb.zero.va) hA132 rfl (bd0_Job _ rfl) ?_
    intro a133 hA133; clear hA132
    have hx2_135 := hx2.gN hg3
    have hx2_136 := hx2_135.gN hg8
    refine sx_store hA133 rfl (.inl rfl) rfl (hA133.ev (i := 4) (v := .pointer (some ⟨B2, 0, none⟩))) (hA133.ev (i := 30) (v := .agg #[.slice none 0 0, .slice none 0 0, .int .i64 0])) hx2_136 (by kernel_rfl) rfl (dk_one _ _ _ _ _ _ _) ?_
    intro w134 hx134 hg134
    have hs134 := hg134.size
    have hx3_138 := hx3.gN hg8
    have hx3_139 := hx3_138.gB hg134 (by omega)
    refine sx_store hA133 rfl (.inl rfl) rfl (hA133.ev (i := 5) (v := .pointer (some ⟨B3, 0, none⟩))) (hA133.ev (i := 31) (v := .agg Jb.zero.va)) hx3_139 (by kernel_rfl) rfl (jb_one _) ?_
    intro w137 hx137 hg137
    have hs137 := hg137.size
    refine sx_val hA133 rfl (ev_assign (ec _ (.int .i64 6)) _ rfl) ?_
    intro a140 hA140; clear hA133
    refine sx_nil ?_
    refine then_n ?_
    refine wp_ret ?_
    refine then_r ?_
    have hx134_141 := hx134.gB hg137 (by omega)
    refine bodyPost_ret (rs_cct (v := .int .i64 6) Try.results18 hA140 (by kernel_rfl) (by kernel_rfl) (by kernel_rfl) hx134_141 Try.underlying25 rfl (by kernel_rfl) hx137 Try.underlying38 rfl (by kernel_rfl)) hA140.2.1 ?_
    have hbel0_142 := Below.gN hbel0_11 hg8 hbel0_11.size
    have hbel0_143 := Below.gB hbel0_142 hg134 hbel0_142.size (by omega)
    have hbel0_144 := Below.gB hbel0_143 hg137 hbel0_143.size (by omega)
    have E : cmp ⟨cs, js, room⟩ i = (Dk.nil, Jb.zero, 6) := by
      unfold cmp
      rw [if_pos hp18, if_pos (by show i < 0 ∨ (js.length : Int) ≤ i; omega)]
    rw [E]
    exact ⟨none, 0, none, 0, rfl, OwC.nil _ _, OwJ.nil _ _, hbel0_144⟩
  have hp44 := of_decide_eq_false hd44
  refine sx_val (hg := (.inr ⟨2, false, 23, rfl, rfl, by kernel_rfl⟩)) (v := .bool false) hA43 rfl (ev_geqB (k := .i64) (m := i) (n := (js.length : Int)) (hA43.ev (i := 24)) (hA43.ev (i := 27)) hd44 _ rfl) ?_
  intro a45 hA45; clear hA43
  refine sx_val hA45 rfl (ev_pickF (hA45.ev (i := 23) (v := .bool false)) (hA45.ev (i := 28) (v := .bool false)) _ rfl) ?_
  intro a46 hA46; clear hA45
  refine sx_nil ?_
  refine then_n ?_
  refine wp_cond_false (hA46.ev (i := 29) (v := .bool false)) ?_
  refine wp_skip ?_
  refine then_n ?_
  refine wp_seq ?_
  refine wp_region_lit ?_
  refine sx_val (v := .agg #[.slice A1 cs.length c1, .slice A2 js.length c2, .int .i64 room]) hA46 rfl (ev_row (hA46.ev (i := 2) (v := .pointer (some ⟨B1, 0, none⟩))) hx1_41 Try.underlying25 rfl (n := 3) (by kernel_rfl) rfl _ rfl) ?_
  intro a47 hA47; clear hA46
  have hbel0_49 := Below.gN hbel0_11 hg8 hbel0_11.size
  refine sx_call (f := 42) (args := #[.agg #[.slice A1 cs.length c1, .slice A2 js.length c2, .int .i64 room]]) hA47 rfl (by decide) (.inl rfl) (ev_fn rfl (mp1 (hA47.ev (i := 32) (v := .agg #[.slice A1 cs.length c1, .slice A2 js.length c2, .int .i64 room]))) (by kernel_rfl) _ rfl) (sOwn_any A1 c1 A2 c2 cs js room _ ⟨(hd.s.below hbel0_49), (hd.j.below hbel0_49)⟩ (by omega) (by omega)) ?_
  intro e48 w48 hR48
  obtain ⟨Ap48, cp48, Aj48, cj48, rfl, hC48, hJ48, hb48⟩ := hR48
  refine ⟨_, rfl, ?_⟩
  intro a48 hA48
  clear hA47
  have hg48 := g0 hb48
  have hs48 := hg48.size
  clear hb48
  have ho48_0 : Own w48 (w8.heap.size) 28 8 (.slice Ap48 cs.length cp48) cs.length (flat Ct.va cs) := hC48.2
  have hh48_0 := Own.hi ho48_0
  have ho48_1 : Own w48 (w8.heap.size) 38 11 (.slice Aj48 js.length cj48) js.length (flat Jb.va js) := hJ48.2
  have hh48_1 := Own.hi ho48_1
  refine sx_new (cs := #[.slice none 0 0, .slice none 0 0, .int .i64 0]) (t := 25) hA48 rfl (by decide) (.inl rfl) (ev_alloc (z := .agg (#[.slice none 0 0, .slice none 0 0, .int .i64 0])) (by kernel_rfl) (by kernel_rfl) _ rfl) ?_
  intro B50 w50 a50 hB50 hx50 hg50 hA50
  clear hA48
  have hs50 := hg50.size
  have hl50 := hx50.lt
  refine sx_store hA50 rfl (.inl rfl) rfl (hA50.ev (i := 9) (v := .pointer (some ⟨B50, 0, none⟩))) (hA50.ev (i := 33) (v := .agg #[.slice Ap48 cs.length cp48, .slice Aj48 js.length cj48, .int .i64 room])) hx50 (by kernel_rfl) rfl (dk_one _ _ _ _ _ _ _) ?_
  intro w51 hx51 hg51
  have hs51 := hg51.size
  refine sx_nil ?_
  refine then_n ?_
  refine wp_seq ?_
  refine wp_region_lit ?_
  refine sx_val (v := .pointer (some ⟨B1, 1, none⟩)) hA50 rfl (fb_Disk_1 (hA50.ev (i := 2) (v := .pointer (some ⟨B1, 0, none⟩))) _ rfl) ?_
  intro a52 hA52; clear hA50
  have hx1_53 := hx1_41.gN hg48
  have hx1_54 := hx1_53.gN hg50
  have hx1_55 := hx1_54.gB hg51 (by omega)
  refine sx_val (v := .slice A2 js.length c2) hA52 rfl (ev_cell (v := .slice A2 js.length c2) (hA52.ev (i := 34) (v := .pointer (some ⟨B1, 1, none⟩))) ((hx1_55.cell 1).trans rfl) Try.underlying23 rfl _ rfl) ?_
  intro a56 hA56; clear hA52
  refine sx_val hA56 rfl (ev_move (hA56.ev (i := 1) (v := .int .i64 i)) _ rfl) ?_
  intro a57 hA57; clear hA56
  have hok := chk_ok hp18
  obtain ⟨x, hx⟩ : ∃ x, js[i.toNat]? = some x := ⟨_, List.getElem?_eq_getElem (by omega)⟩
  have hsl : 0 ≤ x.slot ∧ x.slot < (cs.length : Int) := inR_s (hok.inr _ _ hx)
  obtain ⟨c, hcc⟩ : ∃ c, cs[x.slot.toNat]? = some c := ⟨_, List.getElem?_eq_getElem (by omega)⟩
  have hbel0_59 := Below.gN hbel0_49 hg48 hbel0_49.size
  have hbel0_60 := Below.gN hbel0_59 hg50 hbel0_59.size
  have hbel0_61 := Below.gB hbel0_60 hg51 hbel0_60.size (by omega)
  obtain ⟨ad58, hAd58⟩ := GR.adr (hd.j.below hbel0_61) jb_sz hx
  refine sx_val (v := .pointer (some (ad58.add (i.toNat * 11)))) hA57 rfl (ev_idx (k := i.toNat) (hA57.ev (i := 35) (v := .slice A2 js.length c2)) hAd58 (hA57.ev (i := 36) (v := .int .i64 i)) (by omega) (by omega) Try.underlying23 (by kernel_rfl) _ rfl) ?_
  intro a62 hA62; clear hA57
  refine sx_val (v := .agg x.va) hA62 rfl (ev_loadR (cs := x.va) (n := 11) (hA62.ev (i := 37) (v := .pointer (some (ad58.add (i.toNat * 11))))) (GR.cel (hd.j.below hbel0_61) hAd58 jb_sz hx) Try.underlying38 rfl (by kernel_rfl) rfl _ rfl) ?_
  intro a63 hA63; clear hA62
  refine sx_new (cs := Jb.zero.va) (t := 38) hA63 rfl (by decide) (.inl rfl) (ev_alloc (z := .agg Jb.zero.va) (by kernel_rfl) (by kernel_rfl) _ rfl) ?_
  intro B64 w64 a64 hB64 hx64 hg64 hA64
  clear hA63
  have hs64 := hg64.size
  have hl64 := hx64.lt
  refine sx_store hA64 rfl (.inl rfl) rfl (hA64.ev (i := 10) (v := .pointer (some ⟨B64, 0, none⟩))) (hA64.ev (i := 38) (v := .agg x.va)) hx64 (by kernel_rfl) rfl (jb_one _) ?_
  intro w65 hx65 hg65
  have hs65 := hg65.size
  refine sx_nil ?_
  refine then_n ?_
  refine wp_seq ?_
  have ho48_66 := Own.gN ho48_0 hg50
  have ho48_67 := Own.gBT ho48_66 hg51 hx50 (by decide)
  have ho48_68 := Own.gN ho48_67 hg64
  have ho48_69 := Own.gBT ho48_68 hg65 hx64 (by decide)
  obtain ⟨gx70, ox70, hxe70, -, -, -⟩ := Own.cells ho48_69 (by omega)
  subst hxe70
  have ho48_71 := Own.gN ho48_1 hg50
  have ho48_72 := Own.gBT ho48_71 hg51 hx50 (by decide)
  have ho48_73 := Own.gN ho48_72 hg64
  have ho48_74 := Own.gB ho48_73 hg65 hh48_1 (by omega)
  obtain ⟨gx75, ox75, hxe75, -, -, -⟩ := Own.cells ho48_74 (by omega)
  subst hxe75
  have hcap := (Own.cap ho48_74).1
  obtain ⟨AAs, hAAs⟩ : ∃ A, (if cj48 = i.toNat + 1 then ((some ⟨gx75, ox75, none⟩) : Option Addr) else ((some ⟨gx75, ox75, none⟩) : Option Addr).map fun a => a.add ((i.toNat + 1) * 11)) = A := ⟨_, rfl⟩
  have hx1_76 := hx1_55.gN hg64
  have hx1_77 := hx1_76.gB hg65 (by omega)
  have hx2_78 := hx2.gN hg3
  have hx2_79 := hx2_78.gN hg8
  have hx2_80 := hx2_79.gN hg48
  have hx2_81 := hx2_80.gN hg50
  have hx2_82 := hx2_81.gB hg51 (by omega)
  have hx2_83 := hx2_82.gN hg64
  have hx2_84 := hx2_83.gB hg65 (by omega)
  have hx3_85 := hx3.gN hg8
  have hx3_86 := hx3_85.gN hg48
  have hx3_87 := hx3_86.gN hg50
  have hx3_88 := hx3_87.gB hg51 (by omega)
  have hx3_89 := hx3_88.gN hg64
  have hx3_90 := hx3_89.gB hg65 (by omega)
  have hx51_91 := hx51.gN hg64
  have hx51_92 := hx51_91.gB hg65 (by omega)
  have hbel0_93 := Below.gN hbel0_61 hg64 hbel0_61.size
  have hbel0_94 := Below.gB hbel0_93 hg65 hbel0_93.size (by omega)
  refine region_D (n := 12) (by kernel_rfl) (by kernel_rfl) rfl (fun L ac wc => Below w.heap.size w wc ∧ w65.heap.size ≤ wc.heap.size ∧ Bx wc B1 25 (#[.slice A1 cs.length c1, .slice A2 js.length c2, .int .i64 room]) ∧ Bx wc B2 25 (#[.slice none 0 0, .slice none 0 0, .int .i64 0]) ∧ Bx wc B3 38 Jb.zero.va ∧ Bx wc B50 25 (bif L 11 then (#[.slice (some ⟨gx70, ox70, none⟩) cs.length cp48, .slice (some ⟨gx75, ox75, none⟩) (js.take i.toNat ++ js.drop (i.toNat + 1)).length cj48, .int .i64 room]) else (#[.slice (some ⟨gx70, ox70, none⟩) cs.length cp48, .slice (some ⟨gx75, ox75, none⟩) js.length cj48, .int .i64 room])) ∧ Bx wc B64 38 x.va ∧ Own wc (w8.heap.size) 28 8 (.slice (some ⟨gx70, ox70, none⟩) cs.length cp48) cs.length (flat Ct.va cs) ∧ (L 9 = false → Own wc (w8.heap.size) 38 11 (.slice (some ⟨gx75, ox75, none⟩) js.length cj48) js.length (flat Jb.va js)) ∧ (L 9 = true → Own wc (w8.heap.size) 38 11 (.slice (some ⟨gx75, ox75, none⟩) (js.take i.toNat ++ js.drop (i.toNat + 1)).length cj48) (js.take i.toNat ++ js.drop (i.toNat + 1)).length (flat Jb.va (js.take i.toNat ++ js.drop (i.toNat + 1)))) ∧ (L 11 = true → L 1 = true) ∧ (L 11 = true → L 5 = true) ∧ (L 3 = true → L 1 = true) ∧ (L 9 = true → L 1 = true) ∧ (L 8 = true → L 5 = true) ∧ (L 9 = true → L 5 = true) ∧ (L 0 = true → Sv ac 39 (.pointer (some ⟨B50, 1, none⟩))) ∧ (L 1 = true → Sv ac 40 (.slice (some ⟨gx75, ox75, none⟩) js.length cj48)) ∧ (L 2 = true → Sv ac 41 (.int .i64 i)) ∧ (L 3 = true → Sv ac 42 (.slice (some ⟨gx75, ox75, none⟩) i.toNat cj48)) ∧ (L 4 = true → Sv ac 43 (.pointer (some ⟨B50, 1, none⟩))) ∧ (L 5 = true → Sv ac 44 (.slice (some ⟨gx75, ox75, none⟩) js.length cj48)) ∧ (L 6 = true → Sv ac 45 (.int .i64 i)) ∧ (L 7 = true → Sv ac 46 (.int .i64 (i + 1))) ∧ (L 8 = true → Sv ac 47 (.slice AAs (js.length - (i.toNat + 1)) (cj48 - (i.toNat + 1)))) ∧ (L 9 = true → Sv ac 48 (.slice (some ⟨gx75, ox75, none⟩) (js.take i.toNat ++ js.drop (i.toNat + 1)).length cj48)) ∧ (L 10 = true → Sv ac 49 (.pointer (some ⟨B50, 1, none⟩)))) ⟨(Below.gN hbel0_94 (gdr _) hbel0_94.size), (Nat.le_refl _), (hx1_77.gN (gdr _)), (hx2_84.gN (gdr _)), (hx3_90.gN (gdr _)), (hx51_92.gN (gdr _)), (hx65.gN (gdr _)), (Own.gN ho48_69 (gdr _)), (fun _ => Own.gN ho48_74 (gdr _)), (fun h => by cases h), (fun h => by cases h), (fun h => by cases h), (fun h => by cases h), (fun h => by cases h), (fun h => by cases h), (fun h => by cases h), (fun h => by cases h), (fun h => by cases h), (fun h => by cases h), (fun h => by cases h), (fun h => by cases h), (fun h => by cases h), (fun h => by cases h), (fun h => by cases h), (fun h => by cases h), (fun h => by cases h), (fun h => by cases h)⟩ ?_ ?_
  · intro iq hiq o ho L hL hdep ac wc hF hJ
    obtain ⟨bl, sz, b_B1, b_B2, b_B3, b_B50, b_B64, p_0, p_1, oo, cl_11_1, cl_11_5, cl_3_1, cl_9_1, cl_8_5, cl_9_5, s_39, s_40, s_41, s_42, s_43, s_44, s_45, s_46, s_47, s_48, s_49⟩ := hJ
    have z := hF.1.trans hA64.1
    match iq, hiq with
    | 0, _ =>
      obtain rfl := Option.some.inj (show some _ = some o from ho); clear ho
      have v9 := hF.sv (s := 9) (by kernel_rfl) (hA64.get (i := 9) (v := .pointer (some ⟨B50, 0, none⟩)))
      refine dj_val (i := 0) (v := .pointer (some ⟨B50, 1, none⟩)) rfl (.inl rfl) (fb_Disk_1 v9.eval _ rfl) ?_
      exact ⟨⟨_, rfl⟩, bl, sz, b_B1, b_B2, b_B3, b_B50, b_B64, p_0, p_1, oo, cl_11_1, cl_11_5, cl_3_1, cl_9_1, cl_8_5, cl_9_5, (fun _ => Sv.self (by rw [z]; decide) _), (so s_40), (so s_41), (so s_42), (so s_43), (so s_44), (so s_45), (so s_46), (so s_47), (so s_48), (so s_49)⟩
    | 1, _ =>
      obtain rfl := Option.some.inj (show some _ = some o from ho); clear ho
      have v39 := s_39 (dp hdep 0)
      have eB50 : L 11 = false := by
          cases hc : L 11
          · rfl
          · exact absurd (cl_11_1 hc) (by rw [hL]; decide)
      have yB50 := b_B50
      rw [eB50] at yB50
      refine dj_val (i := 1) (v := .slice (some ⟨gx75, ox75, none⟩) js.length cj48) rfl (.inl rfl) (ev_cell (v := .slice (some ⟨gx75, ox75, none⟩) js.length cj48) v39.eval ((yB50.cell 1).trans rfl) Try.underlying23 rfl _ rfl) ?_
      exact ⟨⟨_, rfl⟩, bl, sz, b_B1, b_B2, b_B3, b_B50, b_B64, p_0, p_1, oo, (fun _ => rfl), cl_11_5, (fun _ => rfl), (fun _ => rfl), cl_8_5, cl_9_5, (so s_39), (fun _ => Sv.self (by rw [z]; decide) _), (so s_41), (so s_42), (so s_43), (so s_44), (so s_45), (so s_46), (so s_47), (so s_48), (so s_49)⟩
    | 2, _ =>
      obtain rfl := Option.some.inj (show some _ = some o from ho); clear ho
      have v1 := hF.sv (s := 1) (by kernel_rfl) (hA64.get (i := 1) (v := .int .i64 i))
      refine dj_val (i := 2) (v := .int .i64 i) rfl (.inl rfl) (ev_move v1.eval _ rfl) ?_
      exact ⟨⟨_, rfl⟩, bl, sz, b_B1, b_B2, b_B3, b_B50, b_B64, p_0, p_1, oo, cl_11_1, cl_11_5, cl_3_1, cl_9_1, cl_8_5, cl_9_5, (so s_39), (so s_40), (fun _ => Sv.self (by rw [z]; decide) _), (so s_42), (so s_43), (so s_44), (so s_45), (so s_46), (so s_47), (so s_48), (so s_49)⟩
    | 3, _ =>
      obtain rfl := Option.some.inj (show some _ = some o from ho); clear ho
      have v40 := s_40 (dp hdep 1)
      have v41 := s_41 (dp hdep 2)
      refine dj_val (i := 3) (v := .slice (some ⟨gx75, ox75, none⟩) i.toNat cj48) rfl (.inl rfl) (ev_sl_h (size := 11) (h := i.toNat) v40.eval v41.eval (by omega) (by omega) Try.underlying23 (by kernel_rfl) _ rfl) ?_
      exact ⟨⟨_, rfl⟩, bl, sz, b_B1, b_B2, b_B3, b_B50, b_B64, p_0, p_1, oo, cl_11_1, cl_11_5, (fun _ => dp hdep 1), cl_9_1, cl_8_5, cl_9_5, (so s_39), (so s_40), (so s_41), (fun _ => Sv.self (by rw [z]; decide) _), (so s_43), (so s_44), (so s_45), (so s_46), (so s_47), (so s_48), (so s_49)⟩
    | 4, _ =>
      obtain rfl := Option.some.inj (show some _ = some o from ho); clear ho
      have v9 := hF.sv (s := 9) (by kernel_rfl) (hA64.get (i := 9) (v := .pointer (some ⟨B50, 0, none⟩)))
      refine dj_val (i := 4) (v := .pointer (some ⟨B50, 1, none⟩)) rfl (.inl rfl) (fb_Disk_1 v9.eval _ rfl) ?_
      exact ⟨⟨_, rfl⟩, bl, sz, b_B1, b_B2, b_B3, b_B50, b_B64, p_0, p_1, oo, cl_11_1, cl_11_5, cl_3_1, cl_9_1, cl_8_5, cl_9_5, (so s_39), (so s_40), (so s_41), (so s_42), (fun _ => Sv.self (by rw [z]; decide) _), (so s_44), (so s_45), (so s_46), (so s_47), (so s_48), (so s_49)⟩
    | 5, _ =>
      obtain rfl := Option.some.inj (show some _ = some o from ho); clear ho
      have v43 := s_43 (dp hdep 4)
      have eB50 : L 11 = false := by
          cases hc : L 11
          · rfl
          · exact absurd (cl_11_5 hc) (by rw [hL]; decide)
      have yB50 := b_B50
      rw [eB50] at yB50
      refine dj_val (i := 5) (v := .slice (some ⟨gx75, ox75, none⟩) js.length cj48) rfl (.inl rfl) (ev_cell (v := .slice (some ⟨gx75, ox75, none⟩) js.length cj48) v43.eval ((yB50.cell 1).trans rfl) Try.underlying23 rfl _ rfl) ?_
      exact ⟨⟨_, rfl⟩, bl, sz, b_B1, b_B2, b_B3, b_B50, b_B64, p_0, p_1, oo, cl_11_1, (fun _ => rfl), cl_3_1, cl_9_1, (fun _ => rfl), (fun _ => rfl), (so s_39), (so s_40), (so s_41), (so s_42), (so s_43), (fun _ => Sv.self (by rw [z]; decide) _), (so s_45), (so s_46), (so s_47), (so s_48), (so s_49)⟩
    | 6, _ =>
      obtain rfl := Option.some.inj (show some _ = some o from ho); clear ho
      have v1 := hF.sv (s := 1) (by kernel_rfl) (hA64.get (i := 1) (v := .int .i64 i))
      refine dj_val (i := 6) (v := .int .i64 i) rfl (.inl rfl) (ev_move v1.eval _ rfl) ?_
      exact ⟨⟨_, rfl⟩, bl, sz, b_B1, b_B2, b_B3, b_B50, b_B64, p_0, p_1, oo, cl_11_1, cl_11_5, cl_3_1, cl_9_1, cl_8_5, cl_9_5, (so s_39), (so s_40), (so s_41), (so s_42), (so s_43), (so s_44), (fun _ => Sv.self (by rw [z]; decide) _), (so s_46), (so s_47), (so s_48), (so s_49)⟩
    | 7, _ =>
      obtain rfl := Option.some.inj (show some _ = some o from ho); clear ho
      have v45 := s_45 (dp hdep 6)
      refine dj_val (i := 7) (v := .int .i64 (i + 1)) rfl (.inl rfl) (ev_addR (k := .i64) (m := i) (n := 1) (r := i + 1) v45.eval (ec ac (.int .i64 1)) (wr rfl (by omega) (by omega)) _ rfl) ?_
      exact ⟨⟨_, rfl⟩, bl, sz, b_B1, b_B2, b_B3, b_B50, b_B64, p_0, p_1, oo, cl_11_1, cl_11_5, cl_3_1, cl_9_1, cl_8_5, cl_9_5, (so s_39), (so s_40), (so s_41), (so s_42), (so s_43), (so s_44), (so s_45), (fun _ => Sv.self (by rw [z]; decide) _), (so s_47), (so s_48), (so s_49)⟩
    | 8, _ =>
      obtain rfl := Option.some.inj (show some _ = some o from ho); clear ho
      have v44 := s_44 (dp hdep 5)
      have v46 := s_46 (dp hdep 7)
      refine dj_val (i := 8) (v := .slice AAs (js.length - (i.toNat + 1)) (cj48 - (i.toNat + 1))) rfl (.inl rfl) (ev_sl_l (l := i.toNat + 1) v44.eval v46.eval (by omega) (by omega) hAAs Try.underlying23 (by kernel_rfl) _ rfl) ?_
      exact ⟨⟨_, rfl⟩, bl, sz, b_B1, b_B2, b_B3, b_B50, b_B64, p_0, p_1, oo, cl_11_1, cl_11_5, cl_3_1, cl_9_1, (fun _ => dp hdep 5), cl_9_5, (so s_39), (so s_40), (so s_41), (so s_42), (so s_43), (so s_44), (so s_45), (so s_46), (fun _ => Sv.self (by rw [z]; decide) _), (so s_48), (so s_49)⟩
    | 9, _ =>
      obtain rfl := Option.some.inj (show some _ = some o from ho); clear ho
      have v42 := s_42 (dp hdep 3)
      have v47 := s_47 (dp hdep 8)
      obtain ⟨wq2, hr, hown, hg⟩ := run_close (P := Try.prog) (t := 23) (ty := 23) (p_1 hL) jb_sz jb_one rfl (i := i.toNat) (j := i.toNat + 1) (by omega) (by omega) hAAs Try.underlying23 (by kernel_rfl)
      replace hg : World.grownBy wc wq2 (Value.ownBlock (.slice (some ⟨gx75, ox75, none⟩) js.length cj48)) := hg
      have e1 := v42.eval
      have e2 := v47.eval
      refine dj_val (i := 9) (v := .slice (some ⟨gx75, ox75, none⟩) (js.take i.toNat ++ js.drop (i.toNat + 1)).length cj48) (w' := wq2) rfl (.inl rfl) (by simp only [execOp, resolve, invoke, builtin, Sem.run_bind, Sem.run_pure, Result.andThen_ok, List.map_toArray, List.map_cons, List.map_nil, e1, e2, hr]) ?_
      exact ⟨⟨_, rfl⟩, (Below.gO bl hg (p_1 hL) bl.size (by omega)), (Nat.le_trans sz hg.size), (b_B1.gOT hg (p_1 hL) (by decide)), (b_B2.gOT hg (p_1 hL) (by decide)), (b_B3.gO hg (p_1 hL) hh48_1 (by omega)), (b_B50.gOT hg (p_1 hL) (by decide)), (b_B64.gO hg (p_1 hL) hh48_1 (by omega)), (Own.gOT p_0 hg (p_1 hL) (by decide)), (fun h => by cases h), (fun _ => hown), cl_11_1, cl_11_5, cl_3_1, (fun _ => cl_3_1 (dp hdep 3)), cl_8_5, (fun _ => cl_8_5 (dp hdep 8)), (so s_39), (so s_40), (so s_41), (so s_42), (so s_43), (so s_44), (so s_45), (so s_46), (so s_47), (fun _ => Sv.self (by rw [z]; decide) _), (so s_49)⟩
    | 10, _ =>
      obtain rfl := Option.some.inj (show some _ = some o from ho); clear ho
      have v9 := hF.sv (s := 9) (by kernel_rfl) (hA64.get (i := 9) (v := .pointer (some ⟨B50, 0, none⟩)))
      refine dj_val (i := 10) (v := .pointer (some ⟨B50, 1, none⟩)) rfl (.inl rfl) (fb_Disk_1 v9.eval _ rfl) ?_
      exact ⟨⟨_, rfl⟩, bl, sz, b_B1, b_B2, b_B3, b_B50, b_B64, p_0, p_1, oo, cl_11_1, cl_11_5, cl_3_1, cl_9_1, cl_8_5, cl_9_5, (so s_39), (so s_40), (so s_41), (so s_42), (so s_43), (so s_44), (so s_45), (so s_46), (so s_47), (so s_48), (fun _ => Sv.self (by rw [z]; decide) _)⟩
    | 11, _ =>
      obtain rfl := Option.some.inj (show some _ = some o from ho); clear ho
      have v49 := s_49 (dp hdep 10)
      have v48 := s_48 (dp hdep 9)
      have eB50 : L 11 = false := hL
      have yB50 := b_B50
      rw [eB50] at yB50
      refine dj_skip (i := 11) rfl rfl (.inl rfl) (w' := wc.setCell ⟨B50, 1, none⟩ (.slice (some ⟨gx75, ox75, none⟩) (js.take i.toNat ++ js.drop (i.toNat + 1)).length cj48)) (ev_scell (v := .slice (some ⟨gx75, ox75, none⟩) (js.take i.toNat ++ js.drop (i.toNat + 1)).length cj48) v49.eval v48.eval ((yB50.cell 1).trans rfl) (yB50.frozen 1) (by kernel_rfl) rfl _ rfl) ?_
      have hg := gsc (i := 1) yB50 (.slice (some ⟨gx75, ox75, none⟩) (js.take i.toNat ++ js.drop (i.toNat + 1)).length cj48)
      have hx := (yB50.set 1 (.slice (some ⟨gx75, ox75, none⟩) (js.take i.toNat ++ js.drop (i.toNat + 1)).length cj48))
      exact ⟨⟨undef, rfl⟩, (Below.gB bl hg bl.size (by omega)), (Nat.le_trans sz hg.size), (b_B1.gB hg (by omega)), (b_B2.gB hg (by omega)), (b_B3.gB hg (by omega)), hx, (b_B64.gB hg (by omega)), (Own.gBT p_0 hg yB50 (by decide)), (fun h => Own.gBT (p_1 h) hg yB50 (by decide)), (fun h => Own.gBT (oo h) hg yB50 (by decide)), (fun _ => cl_9_1 (dp hdep 9)), (fun _ => cl_9_5 (dp hdep 9)), cl_3_1, cl_9_1, cl_8_5, cl_9_5, s_39, s_40, s_41, s_42, s_43, s_44, s_45, s_46, s_47, s_48, s_49⟩
    | k + 12, h => exact absurd h (by omega)
  · intro L hall ac95 wc95 hF hJ
    obtain ⟨bl, sz, b_B1, b_B2, b_B3, b_B50, b_B64, p_0, p_1, oo, cl_11_1, cl_11_5, cl_3_1, cl_9_1, cl_8_5, cl_9_5, s_39, s_40, s_41, s_42, s_43, s_44, s_45, s_46, s_47, s_48, s_49⟩ := hJ
    have hA95 : Ag ac95 68 [(2, .pointer (some ⟨B1, 0, none⟩)), (4, .pointer (some ⟨B2, 0, none⟩)), (5, .pointer (some ⟨B3, 0, none⟩)), (6, .int .i64 0), (9, .pointer (some ⟨B50, 0, none⟩)), (10, .pointer (some ⟨B64, 0, none⟩))] := (((((((Ag.nil (hF.1.trans hA64.1) (hF.2.1.trans hA64.2.1)).cons (hF.sv (s := 10) (by kernel_rfl) (hA64.get (i := 10) (v := .pointer (some ⟨B64, 0, none⟩))))).cons (hF.sv (s := 9) (by kernel_rfl) (hA64.get (i := 9) (v := .pointer (some ⟨B50, 0, none⟩))))).cons (hF.sv (s := 6) (by kernel_rfl) (hA64.get (i := 6) (v := .int .i64 0)))).cons (hF.sv (s := 5) (by kernel_rfl) (hA64.get (i := 5) (v := .pointer (some ⟨B3, 0, none⟩))))).cons (hF.sv (s := 4) (by kernel_rfl) (hA64.get (i := 4) (v := .pointer (some ⟨B2, 0, none⟩))))).cons (hF.sv (s := 2) (by kernel_rfl) (hA64.get (i := 2) (v := .pointer (some ⟨B1, 0, none⟩)))))
    have bl95 := bl
    have sz95 := sz
    have b95_B1 := b_B1
    have b95_B2 := b_B2
    have b95_B3 := b_B3
    have b95_B50 : Bx wc95 B50 25 (#[.slice (some ⟨gx70, ox70, none⟩) cs.length cp48, .slice (some ⟨gx75, ox75, none⟩) (js.take i.toNat ++ js.drop (i.toNat + 1)).length cj48, .int .i64 room]) := by
      have h := b_B50
      rw [hall 11 (by decide)] at h
      exact h
    have b95_B64 := b_B64
    have p95_0 := p_0
    have oo95 := oo (hall 9 (by decide))
    have hhh95 := Own.hi oo95
    clear hF bl sz b_B1 b_B2 b_B3 b_B50 b_B64 p_0 p_1 oo cl_11_1 cl_11_5 cl_3_1 cl_9_1 cl_8_5 cl_9_5 s_39 s_40 s_41 s_42 s_43 s_44 s_45 s_46 s_47 s_48 s_49 hall hA64
    refine then_n ?_
    refine wp_seq ?_
    refine wp_seq ?_
    refine wp_region_lit ?_
    refine sx_val (v := .pointer (some ⟨B64, 0, none⟩)) hA95 rfl (fb_Job_0 (hA95.ev (i := 10) (v := .pointer (some ⟨B64, 0, none⟩))) _ rfl) ?_
    intro a96 hA96; clear hA95
    refine sx_val (v := .bool x.wr) hA96 rfl (ev_cell (v := .bool x.wr) (hA96.ev (i := 50) (v := .pointer (some ⟨B64, 0, none⟩))) ((b95_B64.cell 0).trans rfl) Try.underlying4 rfl _ rfl) ?_
    intro a97 hA97; clear hA96
    refine sx_nil ?_
    refine then_n ?_
    cases hd98 : x.wr
    · rw [hd98] at hA97
      refine wp_cond_false (hA97.ev (i := 51) (v := .bool false)) ?_
      refine wp_region_lit ?_
      refine sx_val (v := .pointer (some ⟨B1, 0, none⟩)) hA97 rfl (fb_Disk_0 (hA97.ev (i := 2) (v := .pointer (some ⟨B1, 0, none⟩))) _ rfl) ?_
      intro a99 hA99; clear hA97
      refine sx_val (v := .slice A1 cs.length c1) hA99 rfl (ev_cell (v := .slice A1 cs.length c1) (hA99.ev (i := 59) (v := .pointer (some ⟨B1, 0, none⟩))) ((b95_B1.cell 0).trans rfl) Try.underlying22 rfl _ rfl) ?_
      intro a100 hA100; clear hA99
      refine sx_val (v := .pointer (some ⟨B64, 1, none⟩)) hA100 rfl (fb_Job_1 (hA100.ev (i := 10) (v := .pointer (some ⟨B64, 0, none⟩))) _ rfl) ?_
      intro a101 hA101; clear hA100
      refine sx_val (v := .int .i64 x.slot) hA101 rfl (ev_cell (v := .int .i64 x.slot) (hA101.ev (i := 61) (v := .pointer (some ⟨B64, 1, none⟩))) ((b95_B64.cell 1).trans rfl) Try.underlying3 rfl _ rfl) ?_
      intro a102 hA102; clear hA101
      obtain ⟨ad103, hAd103⟩ := GR.adr (hd.s.below bl95) ct_sz hcc
      refine sx_val (v := .pointer (some (ad103.add (x.slot.toNat * 8)))) hA102 rfl (ev_idx (k := x.slot.toNat) (hA102.ev (i := 60) (v := .slice A1 cs.length c1)) hAd103 (hA102.ev (i := 62) (v := .int .i64 x.slot)) (by omega) (by omega) Try.underlying22 (by kernel_rfl) _ rfl) ?_
      intro a104 hA104; clear hA102
      refine sx_val (v := .agg c.va) hA104 rfl (ev_loadR (cs := c.va) (n := 8) (hA104.ev (i := 63) (v := .pointer (some (ad103.add (x.slot.toNat * 8))))) (GR.cel (hd.s.below bl95) hAd103 ct_sz hcc) Try.underlying28 rfl (by kernel_rfl) rfl _ rfl) ?_
      intro a105 hA105; clear hA104
      refine sx_val (v := .pointer (some ⟨B64, 3, none⟩)) hA105 rfl (fb_Job_3 (hA105.ev (i := 10) (v := .pointer (some ⟨B64, 0, none⟩))) _ rfl) ?_
      intro a106 hA106; clear hA105
      obtain ⟨w107, hr107, hx107, hg107⟩ := ev_spart (x := .tmp 65) (y := .tmp 64) (c := c) (hA106.ev (i := 65) (v := .pointer (some ⟨B64, 3, none⟩))) (hA106.ev (i := 64) (v := .agg c.va)) b95_B64
      refine sx_skip (w' := w107) hA106 rfl (.inl rfl) (hr107 _ rfl) ?_
      have hs107 := hg107.size
      refine sx_nil ?_
      refine then_n ?_
      refine wp_seq ?_
      have b95_B2_108 := b95_B2.gB hg107 (by omega)
      have b95_B3_109 := b95_B3.gB hg107 (by omega)
      have b95_B50_110 := b95_B50.gB hg107 (by omega)
      have p95_111 := Own.gBT p95_0 hg107 b95_B64 (by decide)
      have oo95_112 := Own.gB oo95 hg107 hh48_1 (by omega)
      have bl95_113 := Below.gB bl95 hg107 bl95.size (by omega)
      refine region_D (n := 5) (by kernel_rfl) (by kernel_rfl) rfl (fun L ac wc => Below w.heap.size w wc ∧ w107.heap.size ≤ wc.heap.size ∧ Bx wc B2 25 (bif L 2 then (#[.slice (some ⟨gx70, ox70, none⟩) cs.length cp48, .slice (some ⟨gx75, ox75, none⟩) (js.take i.toNat ++ js.drop (i.toNat + 1)).length cj48, .int .i64 room]) else (#[.slice none 0 0, .slice none 0 0, .int .i64 0])) ∧ Bx wc B3 38 (bif L 3 then (Jb.va ⟨x.wr, x.slot, x.frame, c⟩) else Jb.zero.va) ∧ Bx wc B50 25 (#[.slice (some ⟨gx70, ox70, none⟩) cs.length cp48, .slice (some ⟨gx75, ox75, none⟩) (js.take i.toNat ++ js.drop (i.toNat + 1)).length cj48, .int .i64 room]) ∧ Bx wc B64 38 (Jb.va ⟨x.wr, x.slot, x.frame, c⟩) ∧ Own wc (w8.heap.size) 28 8 (.slice (some ⟨gx70, ox70, none⟩) cs.length cp48) cs.length (flat Ct.va cs) ∧ Own wc (w8.heap.size) 38 11 (.slice (some ⟨gx75, ox75, none⟩) (js.take i.toNat ++ js.drop (i.toNat + 1)).length cj48) (js.take i.toNat ++ js.drop (i.toNat + 1)).length (flat Jb.va (js.take i.toNat ++ js.drop (i.toNat + 1))) ∧ (L 0 = true → Sv ac 66 (.agg #[.slice (some ⟨gx70, ox70, none⟩) cs.length cp48, .slice (some ⟨gx75, ox75, none⟩) (js.take i.toNat ++ js.drop (i.toNat + 1)).length cj48, .int .i64 room])) ∧ (L 1 = true → Sv ac 67 (.agg (Jb.va ⟨x.wr, x.slot, x.frame, c⟩))) ∧ (L 4 = true → Sv ac 6 (.int .i64 0))) ⟨(Below.gN bl95_113 (gdr _) bl95_113.size), (Nat.le_refl _), (b95_B2_108.gN (gdr _)), (b95_B3_109.gN (gdr _)), (b95_B50_110.gN (gdr _)), (hx107.gN (gdr _)), (Own.gN p95_111 (gdr _)), (Own.gN oo95_112 (gdr _)), (fun h => by cases h), (fun h => by cases h), (fun h => by cases h)⟩ ?_ ?_
      · intro iq hiq o ho L hL hdep ac wc hF hJ
        obtain ⟨bl, sz, b_B2, b_B3, b_B50, b_B64, p_0, p_1, s_66, s_67, s_6⟩ := hJ
        have z := hF.1.trans hA106.1
        match iq, hiq with
        | 0, _ =>
          obtain rfl := Option.some.inj (show some _ = some o from ho); clear ho
          have v9 := hF.sv (s := 9) (by kernel_rfl) (hA106.get (i := 9) (v := .pointer (some ⟨B50, 0, none⟩)))
          refine dj_val (i := 0) (v := .agg #[.slice (some ⟨gx70, ox70, none⟩) cs.length cp48, .slice (some ⟨gx75, ox75, none⟩) (js.take i.toNat ++ js.drop (i.toNat + 1)).length cj48, .int .i64 room]) rfl (.inl rfl) (ev_row v9.eval b_B50 Try.underlying25 rfl (n := 3) (by kernel_rfl) rfl _ rfl) ?_
          exact ⟨⟨_, rfl⟩, bl, sz, b_B2, b_B3, b_B50, b_B64, p_0, p_1, (fun _ => Sv.self (by rw [z]; decide) _), (so s_67), (so s_6)⟩
        | 1, _ =>
          obtain rfl := Option.some.inj (show some _ = some o from ho); clear ho
          have v10 := hF.sv (s := 10) (by kernel_rfl) (hA106.get (i := 10) (v := .pointer (some ⟨B64, 0, none⟩)))
          refine dj_val (i := 1) (v := .agg (Jb.va ⟨x.wr, x.slot, x.frame, c⟩)) rfl (.inl rfl) (ev_row v10.eval b_B64 Try.underlying38 rfl (n := 11) (by kernel_rfl) rfl _ rfl) ?_
          exact ⟨⟨_, rfl⟩, bl, sz, b_B2, b_B3, b_B50, b_B64, p_0, p_1, (so s_66), (fun _ => Sv.self (by rw [z]; decide) _), (so s_6)⟩
        | 2, _ =>
          obtain rfl := Option.some.inj (show some _ = some o from ho); clear ho
          have v4 := hF.sv (s := 4) (by kernel_rfl) (hA106.get (i := 4) (v := .pointer (some ⟨B2, 0, none⟩)))
          have v66 := s_66 (dp hdep 0)
          have eB2 : L 2 = false := hL
          have yB2 := b_B2
          rw [eB2] at yB2
          refine dj_skip (i := 2) rfl rfl (.inl rfl) (w' := wc.setRow B2 (#[.slice (some ⟨gx70, ox70, none⟩) cs.length cp48, .slice (some ⟨gx75, ox75, none⟩) (js.take i.toNat ++ js.drop (i.toNat + 1)).length cj48, .int .i64 room])) (ev_srow v4.eval v66.eval yB2 (n := 3) (by kernel_rfl) rfl rfl (dk_one _ _ _ _ _ _ _) _ rfl) ?_
          have hg := grw yB2 (#[.slice (some ⟨gx70, ox70, none⟩) cs.length cp48, .slice (some ⟨gx75, ox75, none⟩) (js.take i.toNat ++ js.drop (i.toNat + 1)).length cj48, .int .i64 room])
          have hx := yB2.row (#[.slice (some ⟨gx70, ox70, none⟩) cs.length cp48, .slice (some ⟨gx75, ox75, none⟩) (js.take i.toNat ++ js.drop (i.toNat + 1)).length cj48, .int .i64 room])
          exact ⟨⟨undef, rfl⟩, (Below.gB bl hg bl.size (by omega)), (Nat.le_trans sz hg.size), hx, (b_B3.gB hg (by omega)), (b_B50.gB hg (by omega)), (b_B64.gB hg (by omega)), (Own.gBT p_0 hg yB2 (by decide)), (Own.gBT p_1 hg yB2 (by decide)), s_66, s_67, s_6⟩
        | 3, _ =>
          obtain rfl := Option.some.inj (show some _ = some o from ho); clear ho
          have v5 := hF.sv (s := 5) (by kernel_rfl) (hA106.get (i := 5) (v := .pointer (some ⟨B3, 0, none⟩)))
          have v67 := s_67 (dp hdep 1)
          have eB3 : L 3 = false := hL
          have yB3 := b_B3
          rw [eB3] at yB3
          refine dj_skip (i := 3) rfl rfl (.inl rfl) (w' := wc.setRow B3 (Jb.va ⟨x.wr, x.slot, x.frame, c⟩)) (ev_srow v5.eval v67.eval yB3 (n := 11) (by kernel_rfl) rfl rfl (jb_one _) _ rfl) ?_
          have hg := grw yB3 (Jb.va ⟨x.wr, x.slot, x.frame, c⟩)
          have hx := yB3.row (Jb.va ⟨x.wr, x.slot, x.frame, c⟩)
          exact ⟨⟨undef, rfl⟩, (Below.gB bl hg bl.size (by omega)), (Nat.le_trans sz hg.size), (b_B2.gB hg (by omega)), hx, (b_B50.gB hg (by omega)), (b_B64.gB hg (by omega)), (Own.gBT p_0 hg yB3 (by decide)), (Own.gB p_1 hg hh48_1 (by omega)), s_66, s_67, s_6⟩
        | 4, _ =>
          obtain rfl := Option.some.inj (show some _ = some o from ho); clear ho
          refine dj_val (i := 4) (v := .int .i64 0) rfl (.inl rfl) (ev_assign (ec ac (.int .i64 0)) _ rfl) ?_
          exact ⟨⟨_, rfl⟩, bl, sz, b_B2, b_B3, b_B50, b_B64, p_0, p_1, (so s_66), (so s_67), (fun _ => Sv.self (by rw [z]; decide) _)⟩
        | k + 5, h => exact absurd h (by omega)
      · intro L hall ac114 wc114 hF hJ
        obtain ⟨bl, sz, b_B2, b_B3, b_B50, b_B64, p_0, p_1, s_66, s_67, s_6⟩ := hJ
        have hA114 : Ag ac114 68 [(4, .pointer (some ⟨B2, 0, none⟩)), (5, .pointer (some ⟨B3, 0, none⟩)), (6, .int .i64 0)] := ((((Ag.nil (hF.1.trans hA106.1) (hF.2.1.trans hA106.2.1)).cons (s_6 (hall 4 (by decide)))).cons (hF.sv (s := 5) (by kernel_rfl) (hA106.get (i := 5) (v := .pointer (some ⟨B3, 0, none⟩))))).cons (hF.sv (s := 4) (by kernel_rfl) (hA106.get (i := 4) (v := .pointer (some ⟨B2, 0, none⟩)))))
        have bl114 := bl
        have sz114 := sz
        have b114_B2 : Bx wc114 B2 25 (#[.slice (some ⟨gx70, ox70, none⟩) cs.length cp48, .slice (some ⟨gx75, ox75, none⟩) (js.take i.toNat ++ js.drop (i.toNat + 1)).length cj48, .int .i64 room]) := by
          have h := b_B2
          rw [hall 2 (by decide)] at h
          exact h
        have b114_B3 : Bx wc114 B3 38 (Jb.va ⟨x.wr, x.slot, x.frame, c⟩) := by
          have h := b_B3
          rw [hall 3 (by decide)] at h
          exact h
        have b114_B50 := b_B50
        have b114_B64 := b_B64
        have p114_0 := p_0
        have p114_1 := p_1
        clear hF bl sz b_B2 b_B3 b_B50 b_B64 p_0 p_1 s_66 s_67 s_6 hall hA106
        refine then_n ?_
        refine wp_ret ?_
        refine bodyPost_ret (rs_cct (v := .int .i64 0) Try.results18 hA114 (by kernel_rfl) (by kernel_rfl) (by kernel_rfl) b114_B2 Try.underlying25 rfl (by kernel_rfl) b114_B3 Try.underlying38 rfl (by kernel_rfl)) hA114.2.1 ?_
        have E0 : com ⟨cs, js, room⟩ i.toNat = (⟨cs, js.eraseIdx i.toNat, room⟩, ⟨x.wr, x.slot, x.frame, c⟩) := by
          unfold com
          simp only [hx, hd98, Bool.false_eq_true, if_false, hcc, Option.getD_some]
        have E : cmp ⟨cs, js, room⟩ i = ((com ⟨cs, js, room⟩ i.toNat).1, (com ⟨cs, js, room⟩ i.toNat).2, 0) := by
          unfold cmp
          rw [if_pos hp18, if_neg (by show ¬ (i < 0 ∨ (js.length : Int) ≤ i); omega)]
        rw [E, E0]
        rw [← erase_eq i.toNat]
        exact ⟨_, _, _, _, rfl, ⟨rfl, Own.mono p114_0 (by omega)⟩, ⟨rfl, Own.mono p114_1 (by omega)⟩, bl114⟩
    rw [hd98] at hA97
    refine wp_cond_true (hA97.ev (i := 51) (v := .bool true)) ?_
    refine wp_region_lit ?_
    refine sx_val (v := .pointer (some ⟨B50, 0, none⟩)) hA97 rfl (fb_Disk_0 (hA97.ev (i := 9) (v := .pointer (some ⟨B50, 0, none⟩))) _ rfl) ?_
    intro a115 hA115; clear hA97
    refine sx_val (v := .slice (some ⟨gx70, ox70, none⟩) cs.length cp48) hA115 rfl (ev_cell (v := .slice (some ⟨gx70, ox70, none⟩) cs.length cp48) (hA115.ev (i := 52) (v := .pointer (some ⟨B50, 0, none⟩))) ((b95_B50.cell 0).trans rfl) Try.underlying22 rfl _ rfl) ?_
    intro a116 hA116; clear hA115
    refine sx_val (v := .pointer (some ⟨B64, 1, none⟩)) hA116 rfl (fb_Job_1 (hA116.ev (i := 10) (v := .pointer (some ⟨B64, 0, none⟩))) _ rfl) ?_
    intro a117 hA117; clear hA116
    refine sx_val (v := .int .i64 x.slot) hA117 rfl (ev_cell (v := .int .i64 x.slot) (hA117.ev (i := 54) (v := .pointer (some ⟨B64, 1, none⟩))) ((b95_B64.cell 1).trans rfl) Try.underlying3 rfl _ rfl) ?_
    intro a118 hA118; clear hA117
    refine sx_val (v := .pointer (some ⟨B64, 3, none⟩)) hA118 rfl (fb_Job_3 (hA118.ev (i := 10) (v := .pointer (some ⟨B64, 0, none⟩))) _ rfl) ?_
    intro a119 hA119; clear hA118
    refine sx_val (v := .agg x.data.va) hA119 rfl (ev_loadR (cs := x.data.va) (n := 8) (hA119.ev (i := 56) (v := .pointer (some ⟨B64, 3, none⟩))) (jb_part b95_B64) Try.underlying28 rfl (by kernel_rfl) rfl _ rfl) ?_
    intro a120 hA120; clear hA119
    refine sx_val (v := .pointer (some ((⟨gx70, ox70, none⟩ : Addr).add (x.slot.toNat * 8)))) hA120 rfl (ev_idx (k := x.slot.toNat) (hA120.ev (i := 53) (v := .slice (some ⟨gx70, ox70, none⟩) cs.length cp48)) rfl (hA120.ev (i := 55) (v := .int .i64 x.slot)) (by omega) (by omega) Try.underlying22 (by kernel_rfl) _ rfl) ?_
    intro a121 hA121; clear hA120
    obtain ⟨w122, hr122, ho122, hg122⟩ := run_store_el (P := Try.prog) p95_0 ct_sz ct_one rfl (k := x.slot.toNat) (by omega) x.data (by kernel_rfl)
    have e1 := (hA121.ev (i := 58) (v := .pointer (some ((⟨gx70, ox70, none⟩ : Addr).add (x.slot.toNat * 8)))))
    rw [mk_add] at e1
    have e2 := (hA121.ev (i := 57) (v := .agg x.data.va))
    refine sx_skip (w' := w122) hA121 rfl (.inl rfl) (by simp only [execOp, e1, e2, Sem.run_bind, hr122, Result.andThen_ok, Sem.run_pure]) ?_
    clear e1 e2 hr122
    have hs122 := hg122.size
    replace hg122 : World.grownBy _ _ (Value.ownBlock (.slice (some ⟨gx70, ox70, none⟩) cs.length cp48)) := hg122
    refine sx_nil ?_
    refine then_n ?_
    refine wp_seq ?_
    have b95_B2_123 := b95_B2.gOT hg122 p95_0 (by decide)
    have b95_B3_124 := b95_B3.gOT hg122 p95_0 (by decide)
    have b95_B50_125 := b95_B50.gOT hg122 p95_0 (by decide)
    have b95_B64_126 := b95_B64.gOT hg122 p95_0 (by decide)
    have oo95_127 := Own.gOT oo95 hg122 p95_0 (by decide)
    have bl95_128 := Below.gO bl95 hg122 p95_0 bl95.size (by omega)
    refine region_D (n := 5) (by kernel_rfl) (by kernel_rfl) rfl (fun L ac wc => Below w.heap.size w wc ∧ w122.heap.size ≤ wc.heap.size ∧ Bx wc B2 25 (bif L 2 then (#[.slice (some ⟨gx70, ox70, none⟩) cs.length cp48, .slice (some ⟨gx75, ox75, none⟩) (js.take i.toNat ++ js.drop (i.toNat + 1)).length cj48, .int .i64 room]) else (#[.slice none 0 0, .slice none 0 0, .int .i64 0])) ∧ Bx wc B3 38 (bif L 3 then x.va else Jb.zero.va) ∧ Bx wc B50 25 (#[.slice (some ⟨gx70, ox70, none⟩) cs.length cp48, .slice (some ⟨gx75, ox75, none⟩) (js.take i.toNat ++ js.drop (i.toNat + 1)).length cj48, .int .i64 room]) ∧ Bx wc B64 38 x.va ∧ Own wc (w8.heap.size) 28 8 (.slice (some ⟨gx70, ox70, none⟩) cs.length cp48) cs.length (flat Ct.va (cs.set x.slot.toNat x.data)) ∧ Own wc (w8.heap.size) 38 11 (.slice (some ⟨gx75, ox75, none⟩) (js.take i.toNat ++ js.drop (i.toNat + 1)).length cj48) (js.take i.toNat ++ js.drop (i.toNat + 1)).length (flat Jb.va (js.take i.toNat ++ js.drop (i.toNat + 1))) ∧ (L 0 = true → Sv ac 66 (.agg #[.slice (some ⟨gx70, ox70, none⟩) cs.length cp48, .slice (some ⟨gx75, ox75, none⟩) (js.take i.toNat ++ js.drop (i.toNat + 1)).length cj48, .int .i64 room])) ∧ (L 1 = true → Sv ac 67 (.agg x.va)) ∧ (L 4 = true → Sv ac 6 (.int .i64 0))) ⟨(Below.gN bl95_128 (gdr _) bl95_128.size), (Nat.le_refl _), (b95_B2_123.gN (gdr _)), (b95_B3_124.gN (gdr _)), (b95_B50_125.gN (gdr _)), (b95_B64_126.gN (gdr _)), (Own.gN ho122 (gdr _)), (Own.gN oo95_127 (gdr _)), (fun h => by cases h), (fun h => by cases h), (fun h => by cases h)⟩ ?_ ?_
    · intro iq hiq o ho L hL hdep ac wc hF hJ
      obtain ⟨bl, sz, b_B2, b_B3, b_B50, b_B64, p_0, p_1, s_66, s_67, s_6⟩ := hJ
      have z := hF.1.trans hA121.1
      match iq, hiq with
      | 0, _ =>
        obtain rfl := Option.some.inj (show some _ = some o from ho); clear ho
        have v9 := hF.sv (s := 9) (by kernel_rfl) (hA121.get (i := 9) (v := .pointer (some ⟨B50, 0, none⟩)))
        refine dj_val (i := 0) (v := .agg #[.slice (some ⟨gx70, ox70, none⟩) cs.length cp48, .slice (some ⟨gx75, ox75, none⟩) (js.take i.toNat ++ js.drop (i.toNat + 1)).length cj48, .int .i64 room]) rfl (.inl rfl) (ev_row v9.eval b_B50 Try.underlying25 rfl (n := 3) (by kernel_rfl) rfl _ rfl) ?_
        exact ⟨⟨_, rfl⟩, bl, sz, b_B2, b_B3, b_B50, b_B64, p_0, p_1, (fun _ => Sv.self (by rw [z]; decide) _), (so s_67), (so s_6)⟩
      | 1, _ =>
        obtain rfl := Option.some.inj (show some _ = some o from ho); clear ho
        have v10 := hF.sv (s := 10) (by kernel_rfl) (hA121.get (i := 10) (v := .pointer (some ⟨B64, 0, none⟩)))
        refine dj_val (i := 1) (v := .agg x.va) rfl (.inl rfl) (ev_row v10.eval b_B64 Try.underlying38 rfl (n := 11) (by kernel_rfl) rfl _ rfl) ?_
        exact ⟨⟨_, rfl⟩, bl, sz, b_B2, b_B3, b_B50, b_B64, p_0, p_1, (so s_66), (fun _ => Sv.self (by rw [z]; decide) _), (so s_6)⟩
      | 2, _ =>
        obtain rfl := Option.some.inj (show some _ = some o from ho); clear ho
        have v4 := hF.sv (s := 4) (by kernel_rfl) (hA121.get (i := 4) (v := .pointer (some ⟨B2, 0, none⟩)))
        have v66 := s_66 (dp hdep 0)
        have eB2 : L 2 = false := hL
        have yB2 := b_B2
        rw [eB2] at yB2
        refine dj_skip (i := 2) rfl rfl (.inl rfl) (w' := wc.setRow B2 (#[.slice (some ⟨gx70, ox70, none⟩) cs.length cp48, .slice (some ⟨gx75, ox75, none⟩) (js.take i.toNat ++ js.drop (i.toNat + 1)).length cj48, .int .i64 room])) (ev_srow v4.eval v66.eval yB2 (n := 3) (by kernel_rfl) rfl rfl (dk_one _ _ _ _ _ _ _) _ rfl) ?_
        have hg := grw yB2 (#[.slice (some ⟨gx70, ox70, none⟩) cs.length cp48, .slice (some ⟨gx75, ox75, none⟩) (js.take i.toNat ++ js.drop (i.toNat + 1)).length cj48, .int .i64 room])
        have hx := yB2.row (#[.slice (some ⟨gx70, ox70, none⟩) cs.length cp48, .slice (some ⟨gx75, ox75, none⟩) (js.take i.toNat ++ js.drop (i.toNat + 1)).length cj48, .int .i64 room])
        exact ⟨⟨undef, rfl⟩, (Below.gB bl hg bl.size (by omega)), (Nat.le_trans sz hg.size), hx, (b_B3.gB hg (by omega)), (b_B50.gB hg (by omega)), (b_B64.gB hg (by omega)), (Own.gBT p_0 hg yB2 (by decide)), (Own.gBT p_1 hg yB2 (by decide)), s_66, s_67, s_6⟩
      | 3, _ =>
        obtain rfl := Option.some.inj (show some _ = some o from ho); clear ho
        have v5 := hF.sv (s := 5) (by kernel_rfl) (hA121.get (i := 5) (v := .pointer (some ⟨B3, 0, none⟩)))
        have v67 := s_67 (dp hdep 1)
        have eB3 : L 3 = false := hL
        have yB3 := b_B3
        rw [eB3] at yB3
        refine dj_skip (i := 3) rfl rfl (.inl rfl) (w' := wc.setRow B3 x.va) (ev_srow v5.eval v67.eval yB3 (n := 11) (by kernel_rfl) rfl rfl (jb_one _) _ rfl) ?_
        have hg := grw yB3 x.va
        have hx := yB3.row x.va
        exact ⟨⟨undef, rfl⟩, (Below.gB bl hg bl.size (by omega)), (Nat.le_trans sz hg.size), (b_B2.gB hg (by omega)), hx, (b_B50.gB hg (by omega)), (b_B64.gB hg (by omega)), (Own.gBT p_0 hg yB3 (by decide)), (Own.gB p_1 hg hh48_1 (by omega)), s_66, s_67, s_6⟩
      | 4, _ =>
        obtain rfl := Option.some.inj (show some _ = some o from ho); clear ho
        refine dj_val (i := 4) (v := .int .i64 0) rfl (.inl rfl) (ev_assign (ec ac (.int .i64 0)) _ rfl) ?_
        exact ⟨⟨_, rfl⟩, bl, sz, b_B2, b_B3, b_B50, b_B64, p_0, p_1, (so s_66), (so s_67), (fun _ => Sv.self (by rw [z]; decide) _)⟩
      | k + 5, h => exact absurd h (by omega)
    · intro L hall ac129 wc129 hF hJ
      obtain ⟨bl, sz, b_B2, b_B3, b_B50, b_B64, p_0, p_1, s_66, s_67, s_6⟩ := hJ
      have hA129 : Ag ac129 68 [(4, .pointer (some ⟨B2, 0, none⟩)), (5, .pointer (some ⟨B3, 0, none⟩)), (6, .int .i64 0)] := ((((Ag.nil (hF.1.trans hA121.1) (hF.2.1.trans hA121.2.1)).cons (s_6 (hall 4 (by decide)))).cons (hF.sv (s := 5) (by kernel_rfl) (hA121.get (i := 5) (v := .pointer (some ⟨B3, 0, none⟩))))).cons (hF.sv (s := 4) (by kernel_rfl) (hA121.get (i := 4) (v := .pointer (some ⟨B2, 0, none⟩)))))
      have bl129 := bl
      have sz129 := sz
      have b129_B2 : Bx wc129 B2 25 (#[.slice (some ⟨gx70, ox70, none⟩) cs.length cp48, .slice (some ⟨gx75, ox75, none⟩) (js.take i.toNat ++ js.drop (i.toNat + 1)).length cj48, .int .i64 room]) := by
        have h := b_B2
        rw [hall 2 (by decide)] at h
        exact h
      have b129_B3 : Bx wc129 B3 38 x.va := by
        have h := b_B3
        rw [hall 3 (by decide)] at h
        exact h
      have b129_B50 := b_B50
      have b129_B64 := b_B64
      have p129_0 := p_0
      have p129_1 := p_1
      clear hF bl sz b_B2 b_B3 b_B50 b_B64 p_0 p_1 s_66 s_67 s_6 hall hA121
      refine then_n ?_
      refine wp_ret ?_
      refine bodyPost_ret (rs_cct (v := .int .i64 0) Try.results18 hA129 (by kernel_rfl) (by kernel_rfl) (by kernel_rfl) b129_B2 Try.underlying25 rfl (by kernel_rfl) b129_B3 Try.underlying38 rfl (by kernel_rfl)) hA129.2.1 ?_
      have E0 : com ⟨cs, js, room⟩ i.toNat = (⟨cs.set x.slot.toNat x.data, js.eraseIdx i.toNat, room⟩, x) := by
        unfold com
        simp only [hx, hd98, if_true]
      have E : cmp ⟨cs, js, room⟩ i = ((com ⟨cs, js, room⟩ i.toNat).1, (com ⟨cs, js, room⟩ i.toNat).2, 0) := by
        unfold cmp
        rw [if_pos hp18, if_neg (by show ¬ (i < 0 ∨ (js.length : Int) ≤ i); omega)]
      rw [E, E0]
      rw [← erase_eq i.toNat]
      have hlen : (cs.set x.slot.toNat x.data).length = cs.length := List.length_set
      refine ⟨(some ⟨gx70, ox70, none⟩), cp48, (some ⟨gx75, ox75, none⟩), cj48, by simp only [hlen], ⟨rfl, ?_⟩, ⟨rfl, Own.mono p129_1 (by omega)⟩, bl129⟩
      simp only [hlen]
      exact Own.mono p129_0 (by omega)
end Go.Proofs.Ytbkdimildnahaaa
