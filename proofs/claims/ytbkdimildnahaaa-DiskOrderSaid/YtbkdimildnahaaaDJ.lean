/- Package disk: Complete. -/
import Derived.Test.YtbkdimildnahaaaDI
namespace Go.Proofs.Ytbkdimildnahaaa
open Go.RowKit
set_option linter.unusedVariables false
set_option maxRecDepth 100000

theorem complete_int (Bd : Nat) (A1x : Option Addr) (c1 : Nat) (A2 : Option Addr) (c2 : Nat) (cs : List Ct) (js : List Jb) (room : Int) (ii : Int) (i base base2 : Nat) (x : Jb) (w : World) (hx : Bx w Bd 25 #[.slice A1x cs.length c1, .slice A2 js.length c2, .int .i64 room]) (h1 : Own w base 28 8 (.slice A1x cs.length c1) cs.length (flat Ct.va cs)) (h2 : Own w base2 38 11 (.slice A2 js.length c2) js.length (flat Jb.va js)) (hxi : js[i]? = some x) (hs0 : 0 ≤ x.slot) (hs1 : x.slot < cs.length) (hl : cs.length ≤ 900000) (hj : js.length ≤ 900000) (hik : ii = (i : Int)) : Calls Try.prog 41 #[.pointer (some ⟨Bd, 0, none⟩), .int .i64 ii] w (RetCp w Bd base A1x c1 cs.length (com ⟨cs, js, room⟩ i)) := by
  subst hik
  exact complete_any Bd A1x c1 A2 c2 cs js room i base base2 x w hx h1 h2 hxi hs0 hs1 hl hj
theorem com_len (d : Dk) (k : Nat) : (com d k).1.cs.length = d.cs.length := by
  unfold com
  cases d.js[k]? with
  | none => rfl
  | some x => cases hx : x.wr <;> simp [hx]
theorem com_room (d : Dk) (k : Nat) : (com d k).1.room = d.room := by
  unfold com
  cases d.js[k]? with
  | none => rfl
  | some x => cases hx : x.wr <;> simp [hx]
theorem com_js (d : Dk) (k : Nat) (hk : k < d.js.length) : (com d k).1.js = d.js.eraseIdx k := by
  unfold com
  rw [List.getElem?_eq_getElem hk]
  simp only []
  split <;> rfl
theorem inR_s {n : Nat} {s f : Int} (h : inR n s f = true) : 0 ≤ s ∧ s < n := by
  simp [inR] at h; omega

set_option maxHeartbeats 8000000 in
theorem Complete_any (A1 : Option Addr) (c1 : Nat) (A2 : Option Addr) (c2 : Nat) (cs : List Ct) (js : List Jb) (room : Int) (i : Int) (w : World) (hd : GD w A1 c1 A2 c2 cs js) (hl : cs.length ≤ 900000) (hj : js.length ≤ 900000) : Calls Try.prog 17 #[.agg #[.slice A1 cs.length c1, .slice A2 js.length c2, .int .i64 room], .int .i64 i] w (RetDJ w (cmp ⟨cs, js, room⟩ i)) := by
  have hbel0 := below0 w
  refine sx_enter (N := 38) [(0, .agg #[.slice A1 cs.length c1, .slice A2 js.length c2, .int .i64 room]), (1, .int .i64 i)] Try.func17 rfl Try.ntmps17 (by simp) (fun a z d s => (((Ag.nil z d).cons (s 1 _ rfl)).cons (s 0 _ rfl))) ?_
  intro a0 hA0
  refine wp_seq ?_
  refine wp_region_lit ?_
  refine sx_new (cs := #[.slice A1 cs.length c1, .slice A2 js.length c2, .int .i64 room]) (t := 25) hA0 rfl (by decide) (.inl rfl) (ev_box (hA0.ev (i := 0) (v := .agg #[.slice A1 cs.length c1, .slice A2 js.length c2, .int .i64 room])) rfl _ rfl) ?_
  intro B1 w1 a1 hB1 hx1 hg1 hA1
  clear hA0
  have hs1 := hg1.size
  have hl1 := hx1.lt
  refine sx_new (cs := #[.slice none 0 0, .slice none 0 0, .int .i64 0]) (t := 25) hA1 rfl (by decide) (.inl rfl) (ev_alloc (z := .agg (#[.slice none 0 0, .slice none 0 0, .int .i64 0])) (by kernel_rfl) (by kernel_rfl) _ rfl) ?_
  intro B2 w2 a2 hB2 hx2 hg2 hA2
  clear hA1
  have hs2 := hg2.size
  have hl2 := hx2.lt
  refine sx_new (cs := Jb.zero.va) (t := 38) hA2 rfl (by decide) (.inl rfl) (ev_alloc (z := .agg Jb.zero.va) (by kernel_rfl) (by kernel_rfl) _ rfl) ?_
  intro B3 w3 a3 hB3 hx3 hg3 hA3
  clear hA2
  have hs3 := hg3.size
  have hl3 := hx3.lt
  refine sx_val hA3 rfl (ev_assign (ec _ (.int .i64 0)) _ rfl) ?_
  intro a4 hA4; clear hA3
  refine sx_nil ?_
  refine then_n ?_
  refine wp_seq ?_
  refine wp_seq ?_
  refine wp_region_lit ?_
  have hx1_5 := hx1.gN hg2
  have hx1_6 := hx1_5.gN hg3
  refine sx_val (v := .agg #[.slice A1 cs.length c1, .slice A2 js.length c2, .int .i64 room]) hA4 rfl (ev_row (hA4.ev (i := 2) (v := .pointer (some ⟨B1, 0, none⟩))) hx1_6 Try.underlying25 rfl (n := 3) (by kernel_rfl) rfl _ rfl) ?_
  intro a7 hA7; clear hA4
  have hbel0_9 := Below.gN hbel0 hg1 hbel0.size
  have hbel0_10 := Below.gN hbel0_9 hg2 hbel0_9.size
  have hbel0_11 := Below.gN hbel0_10 hg3 hbel0_10.size
  refine sx_call (f := 24) (args := #[.agg #[.slice A1 cs.length c1, .slice A2 js.length c2, .int .i64 room]]) hA7 rfl (by decide) (.inl rfl) (ev_fn rfl (mp1 (hA7.ev (i := 12) (v := .agg #[.slice A1 cs.length c1, .slice A2 js.length c2, .int .i64 room]))) (by kernel_rfl) _ rfl) (Check_any A1 c1 A2 c2 cs js room _ ⟨(hd.s.below hbel0_11), (hd.j.below hbel0_11)⟩ (by omega)) ?_
  intro e8 w8 hR8
  obtain ⟨rfl, hb8⟩ := hR8
  refine ⟨_, rfl, ?_⟩
  intro a8 hA8
  clear hA7
  have hg8 := g0 hb8
  have hs8 := hg8.size
  clear hb8
  refine sx_val hA8 rfl (ev_move (hA8.ev (i := 13) (v := .tuple #[.int .i64 (chk ⟨cs, js, room⟩).1, .int .i64 (chk ⟨cs, js, room⟩).2])) _ rfl) ?_
  intro a12 hA12; clear hA8
  refine sx_val (v := .int .i64 (chk ⟨cs, js, room⟩).1) hA12 rfl (ev_ext (hA12.ev (i := 11) (v := .tuple #[.int .i64 (chk ⟨cs, js, room⟩).1, .int .i64 (chk ⟨cs, js, room⟩).2])) rfl _ rfl) ?_
  intro a13 hA13; clear hA12
  refine sx_val (v := .int .i64 (chk ⟨cs, js, room⟩).2) hA13 rfl (ev_ext (hA13.ev (i := 11) (v := .tuple #[.int .i64 (chk ⟨cs, js, room⟩).1, .int .i64 (chk ⟨cs, js, room⟩).2])) rfl _ rfl) ?_
  intro a14 hA14; clear hA13
  refine sx_val hA14 rfl (ev_assign (hA14.ev (i := 14) (v := .int .i64 (chk ⟨cs, js, room⟩).1)) _ rfl) ?_
  intro a15 hA15; clear hA14
  refine sx_val hA15 rfl (ev_assign (hA15.ev (i := 15) (v := .int .i64 (chk ⟨cs, js, room⟩).2)) _ rfl) ?_
  intro a16 hA16; clear hA15
  refine sx_nil ?_
  refine then_n ?_
  refine wp_seq ?_
  refine wp_region_lit ?_
  refine sx_val hA16 rfl (ev_move (hA16.ev (i := 7) (v := .int .i64 (chk ⟨cs, js, room⟩).1)) _ rfl) ?_
  intro a17 hA17; clear hA16
  cases hd18 : decide ((chk ⟨cs, js, room⟩).1 = 0)
  · have hp18 := of_decide_eq_false hd18
    refine sx_val (v := .bool true) hA17 rfl (ev_neqB (k := .i64) (m := (chk ⟨cs, js, room⟩).1) (n := 0) (hA17.ev (i := 16)) (ec _ (.int .i64 0)) (by simpa using hd18) _ rfl) ?_
    intro a19 hA19; clear hA17
    refine sx_nil ?_
    refine then_n ?_
    refine wp_cond_true (hA19.ev (i := 17) (v := .bool true)) ?_
    refine wp_seq ?_
    refine wp_region_lit ?_
    refine sx_val (v := .agg #[.slice none 0 0, .slice none 0 0, .int .i64 0]) hA19 rfl (bd0_Disk _ rfl) ?_
    intro a20 hA20; clear hA19
    refine sx_val (v := .agg Jb.zero.va) hA20 rfl (bd0_Job _ rfl) ?_
    intro a21 hA21; clear hA20
    refine sx_val hA21 rfl (ev_move (hA21.ev (i := 7) (v := .int .i64 (chk ⟨cs, js, room⟩).1)) _ rfl) ?_
    intro a22 hA22; clear hA21
    have hx2_24 := hx2.gN hg3
    have hx2_25 := hx2_24.gN hg8
    refine sx_store hA22 rfl (.inl rfl) rfl (hA22.ev (i := 4) (v := .pointer (some ⟨B2, 0, none⟩))) (hA22.ev (i := 18) (v := .agg #[.slice none 0 0, .slice none 0 0, .int .i64 0])) hx2_25 (by kernel_rfl) rfl (dk_one _ _ _ _ _ _ _) ?_
    intro w23 hx23 hg23
    have hs23 := hg23.size
    have hx3_27 := hx3.gN hg8
    have hx3_28 := hx3_27.gB hg23 (by omega)
    refine sx_store hA22 rfl (.inl rfl) rfl (hA22.ev (i := 5) (v := .pointer (some ⟨B3, 0, none⟩))) (hA22.ev (i := 19) (v := .agg Jb.zero.va)) hx3_28 (by kernel_rfl) rfl (jb_one _) ?_
    intro w26 hx26 hg26
    have hs26 := hg26.size
    refine sx_val hA22 rfl (ev_assign (hA22.ev (i := 20) (v := .int .i64 (chk ⟨cs, js, room⟩).1)) _ rfl) ?_
    intro a29 hA29; clear hA22
    refine sx_nil ?_
    refine then_n ?_
    refine wp_ret ?_
    refine then_r ?_
    have hx23_30 := hx23.gB hg26 (by omega)
    refine bodyPost_ret (rs_cct (v := .int .i64 (chk ⟨cs, js, room⟩).1) Try.results17 hA29 (by kernel_rfl) (by kernel_rfl) (by kernel_rfl) hx23_30 Try.underlying25 rfl (by kernel_rfl) hx26 Try.underlying38 rfl (by kernel_rfl)) hA29.2.1 ?_
    have hbel0_31 := Below.gN hbel0_11 hg8 hbel0_11.size
    have hbel0_32 := Below.gB hbel0_31 hg23 hbel0_31.size (by omega)
    have hbel0_33 := Below.gB hbel0_32 hg26 hbel0_32.size (by omega)
    rw [show cmp ⟨cs, js, room⟩ i = (Dk.nil, Jb.zero, (chk ⟨cs, js, room⟩).1) from if_neg hp18]
    exact ⟨none, 0, none, 0, rfl, OwC.nil _ _, OwJ.nil _ _, hbel0_33⟩
  have hp18 := of_decide_eq_true hd18
  refine sx_val (v := .bool false) hA17 rfl (ev_neqB (k := .i64) (m := (chk ⟨cs, js, room⟩).1) (n := 0) (hA17.ev (i := 16)) (ec _ (.int .i64 0)) (by simpa using hd18) _ rfl) ?_
  intro a34 hA34; clear hA17
  refine sx_nil ?_
  refine then_n ?_
  refine wp_cond_false (hA34.ev (i := 17) (v := .bool false)) ?_
  refine wp_skip ?_
  refine then_n ?_
  refine wp_seq ?_
  refine wp_seq ?_
  refine wp_region_lit ?_
  refine sx_val hA34 rfl (ev_move (hA34.ev (i := 1) (v := .int .i64 i)) _ rfl) ?_
  intro a35 hA35; clear hA34
  cases hd36 : decide (i < 0)
  rotate_left
  · have hp36 := of_decide_eq_true hd36
    refine sx_val (v := .bool true) hA35 rfl (ev_lssB (k := .i64) (m := i) (n := 0) (hA35.ev (i := 21)) (ec _ (.int .i64 0)) hd36 _ rfl) ?_
    intro a103 hA103; clear hA35
    refine sx_val hA103 rfl (ev_move (hA103.ev (i := 22) (v := .bool true)) _ rfl) ?_
    intro a104 hA104; clear hA103
    refine sx_no (j := 2) (s := 23) (want := false) (b := true) hA104 rfl ?_
    intro a105 hA105; clear hA104
    refine sx_no (j := 2) (s := 23) (want := false) (b := true) hA105 rfl ?_
    intro a106 hA106; clear hA105
    refine sx_no (j := 2) (s := 23) (want := false) (b := true) hA106 rfl ?_
    intro a107 hA107; clear hA106
    refine sx_no (j := 2) (s := 23) (want := false) (b := true) hA107 rfl ?_
    intro a108 hA108; clear hA107
    refine sx_no (j := 2) (s := 23) (want := false) (b := true) hA108 rfl ?_
    intro a109 hA109; clear hA108
    refine sx_val hA109 rfl (ev_pickT (hA109.ev (i := 23) (v := .bool true)) (ec _ (.bool true)) _ rfl) ?_
    intro a110 hA110; clear hA109
    refine sx_nil ?_
    refine then_n ?_
    refine wp_cond_true (hA110.ev (i := 29) (v := .bool true)) ?_
    refine wp_seq ?_
    refine wp_region_lit ?_
    refine sx_val (v := .agg #[.slice none 0 0, .slice none 0 0, .int .i64 0]) hA110 rfl (bd0_Disk _ rfl) ?_
    intro a111 hA111; clear hA110
    refine sx_val (v := .agg Jb.zero.va) hA111 rfl (bd0_Job _ rfl) ?_
    intro a112 hA112; clear hA111
    have hx2_114 := hx2.gN hg3
    have hx2_115 := hx2_114.gN hg8
    refine sx_store hA112 rfl (.inl rfl) rfl (hA112.ev (i := 4) (v := .pointer (some ⟨B2, 0, none⟩))) (hA112.ev (i := 30) (v := .agg #[.slice none 0 0, .slice none 0 0, .int .i64 0])) hx2_115 (by kernel_rfl) rfl (dk_one _ _ _ _ _ _ _) ?_
    intro w113 hx113 hg113
    have hs113 := hg113.size
    have hx3_117 := hx3.gN hg8
    have hx3_118 := hx3_117.gB hg113 (by omega)
    refine sx_store hA112 rfl (.inl rfl) rfl (hA112.ev (i := 5) (v := .pointer (some ⟨B3, 0, none⟩))) (hA112.ev (i := 31) (v := .agg Jb.zero.va)) hx3_118 (by kernel_rfl) rfl (jb_one _) ?_
    intro w116 hx116 hg116
    have hs116 := hg116.size
    refine sx_val hA112 rfl (ev_assign (ec _ (.int .i64 6)) _ rfl) ?_
    intro a119 hA119; clear hA112
    refine sx_nil ?_
    refine then_n ?_
    refine wp_ret ?_
    refine then_r ?_
    have hx113_120 := hx113.gB hg116 (by omega)
    refine bodyPost_ret (rs_cct (v := .int .i64 6) Try.results17 hA119 (by kernel_rfl) (by kernel_rfl) (by kernel_rfl) hx113_120 Try.underlying25 rfl (by kernel_rfl) hx116 Try.underlying38 rfl (by kernel_rfl)) hA119.2.1 ?_
    have hbel0_121 := Below.gN hbel0_11 hg8 hbel0_11.size
    have hbel0_122 := Below.gB hbel0_121 hg113 hbel0_121.size (by omega)
    have hbel0_123 := Below.gB hbel0_122 hg116 hbel0_122.size (by omega)
    have E : cmp ⟨cs, js, room⟩ i = (Dk.nil, Jb.zero, 6) := by
      unfold cmp
      rw [if_pos hp18, if_pos (by show i < 0 ∨ (js.length : Int) ≤ i; omega)]
    rw [E]
    exact ⟨none, 0, none, 0, rfl, OwC.nil _ _, OwJ.nil _ _, hbel0_123⟩
  have hp36 := of_decide_eq_false hd36
  refine sx_val (v := .bool false) hA35 rfl (ev_lssB (k := .i64) (m := i) (n := 0) (hA35.ev (i := 21)) (ec _ (.int .i64 0)) hd36 _ rfl) ?_
  intro a37 hA37; clear hA35
  refine sx_val hA37 rfl (ev_move (hA37.ev (i := 22) (v := .bool false)) _ rfl) ?_
  intro a38 hA38; clear hA37
  refine sx_val (hg := (.inr ⟨2, false, 23, rfl, rfl, by kernel_rfl⟩)) hA38 rfl (ev_move (hA38.ev (i := 1) (v := .int .i64 i)) _ rfl) ?_
  intro a39 hA39; clear hA38
  refine sx_val (hg := (.inr ⟨2, false, 23, rfl, rfl, by kernel_rfl⟩)) (v := .pointer (some ⟨B1, 1, none⟩)) hA39 rfl (fb_Disk_1 (hA39.ev (i := 2) (v := .pointer (some ⟨B1, 0, none⟩))) _ rfl) ?_
  intro a40 hA40; clear hA39
  have hx1_41 := hx1_6.gN hg8
  refine sx_val (hg := (.inr ⟨2, false, 23, rfl, rfl, by kernel_rfl⟩)) (v := .slice A2 js.length c2) hA40 rfl (ev_cell (v := .slice A2 js.length c2) (hA40.ev (i := 25) (v := .pointer (some ⟨B1, 1, none⟩))) ((hx1_41.cell 1).trans rfl) Try.underlying23 rfl _ rfl) ?_
  intro a42 hA42; clear hA40
  refine sx_val (hg := (.inr ⟨2, false, 23, rfl, rfl, by kernel_rfl⟩)) (v := .int .i64 (js.length : Int)) hA42 rfl (ev_len (hA42.ev (i := 26) (v := .slice A2 js.length c2)) Try.underlying23 _ rfl) ?_
  intro a43 hA43; clear hA42
  cases hd44 : decide ((js.length : Int) ≤ i)
  rotate_left
  · have hp44 := of_decide_eq_true hd44
    refine sx_val (hg := (.inr ⟨2, false, 23, rfl, rfl, by kernel_rfl⟩)) (v := .bool true) hA43 rfl (ev_geqB (k := .i64) (m := i) (n := (js.length : Int)) (hA43.ev (i := 24)) (hA43.ev (i := 27)) hd44 _ rfl) ?_
    intro a88 hA88; clear hA43
    refine sx_val hA88 rfl (ev_pickF (hA88.ev (i := 23) (v := .bool false)) (hA88.ev (i := 28) (v := .bool true)) _ rfl) ?_
    intro a89 hA89; clear hA88
    refine sx_nil ?_
    refine then_n ?_
    refine wp_cond_true (hA89.ev (i := 29) (v := .bool true)) ?_
    refine wp_seq ?_
    refine wp_region_lit ?_
    refine sx_val (v := .agg #[.slice none 0 0, .slice none 0 0, .int .i64 0]) hA89 rfl (bd0_Disk _ rfl) ?_
    intro a90 hA90; clear hA89
    refine sx_val (v := .agg Jb.zero.va) hA90 rfl (bd0_Job _ rfl) ?_
    intro a91 hA91; clear hA90
    have hx2_93 := hx2.gN hg3
    have hx2_94 := hx2_93.gN hg8
    refine sx_store hA91 rfl (.inl rfl) rfl (hA91.ev (i := 4) (v := .pointer (some ⟨B2, 0, none⟩))) (hA91.ev (i := 30) (v := .agg #[.slice none 0 0, .slice none 0 0, .int .i64 0])) hx2_94 (by kernel_rfl) rfl (dk_one _ _ _ _ _ _ _) ?_
    intro w92 hx92 hg92
    have hs92 := hg92.size
    have hx3_96 := hx3.gN hg8
    have hx3_97 := hx3_96.gB hg92 (by omega)
    refine sx_store hA91 rfl (.inl rfl) rfl (hA91.ev (i := 5) (v := .pointer (some ⟨B3, 0, none⟩))) (hA91.ev (i := 31) (v := .agg Jb.zero.va)) hx3_97 (by kernel_rfl) rfl (jb_one _) ?_
    intro w95 hx95 hg95
    have hs95 := hg95.size
    refine sx_val hA91 rfl (ev_assign (ec _ (.int .i64 6)) _ rfl) ?_
    intro a98 hA98; clear hA91
    refine sx_nil ?_
    refine then_n ?_
    refine wp_ret ?_
    refine then_r ?_
    have hx92_99 := hx92.gB hg95 (by omega)
    refine bodyPost_ret (rs_cct (v := .int .i64 6) Try.results17 hA98 (by kernel_rfl) (by kernel_rfl) (by kernel_rfl) hx92_99 Try.underlying25 rfl (by kernel_rfl) hx95 Try.underlying38 rfl (by kernel_rfl)) hA98.2.1 ?_
    have hbel0_100 := Below.gN hbel0_11 hg8 hbel0_11.size
    have hbel0_101 := Below.gB hbel0_100 hg92 hbel0_100.size (by omega)
    have hbel0_102 := Below.gB hbel0_101 hg95 hbel0_101.size (by omega)
    have E : cmp ⟨cs, js, room⟩ i = (Dk.nil, Jb.zero, 6) := by
      unfold cmp
      rw [if_pos hp18, if_pos (by show i < 0 ∨ (js.length : Int) ≤ i; omega)]
    rw [E]
    exact ⟨none, 0, none, 0, rfl, OwC.nil _ _, OwJ.nil _ _, hbel0_102⟩
  have hp44 := of_decide_eq_false hd44
  refine sx_val (hg := (.inr ⟨2, false, 23, rfl, rfl, by kernel_rfl⟩)) (v := .bool false) hA43 rfl (ev_geqB (k := .i64) (m := i) (n := (js.length : Int)) (hA43.ev (i := 24)) (hA43.ev (i := 27)) hd44 _ rfl) ?_
  intro a45 hA45; clear hA43
  refine sx_val hA45 rfl (ev_pickF (hA45.ev (i := 23) (v := .bool false)) (hA45.ev (i := 28) (v := .bool false)) _ rfl) ?_
  intro a46 hA46; clear hA45
  refine sx_nil ?_
  refine then_n ?_
  refine wp_cond_false (hA46.ev (i := 29) (v := .bool false)) ?_
  refine wp_skip ?_
  refine then_n ?_
  refine wp_seq ?_
  refine wp_region_lit ?_
  refine sx_val (v := .agg #[.slice A1 cs.length c1, .slice A2 js.length c2, .int .i64 room]) hA46 rfl (ev_row (hA46.ev (i := 2) (v := .pointer (some ⟨B1, 0, none⟩))) hx1_41 Try.underlying25 rfl (n := 3) (by kernel_rfl) rfl _ rfl) ?_
  intro a47 hA47; clear hA46
  have hbel0_49 := Below.gN hbel0_11 hg8 hbel0_11.size
  refine sx_call (f := 40) (args := #[.agg #[.slice A1 cs.length c1, .slice A2 js.length c2, .int .i64 room]]) hA47 rfl (by decide) (.inl rfl) (ev_fn rfl (mp1 (hA47.ev (i := 32) (v := .agg #[.slice A1 cs.length c1, .slice A2 js.length c2, .int .i64 room]))) (by kernel_rfl) _ rfl) (clone_any A1 c1 A2 c2 cs js room _ ⟨(hd.s.below hbel0_49), (hd.j.below hbel0_49)⟩ (by omega) (by omega)) ?_
  intro e48 w48 hR48
  obtain ⟨Ap48, cp48, Aj48, cj48, rfl, hC48, hJ48, hb48⟩ := hR48
  refine ⟨_, rfl, ?_⟩
  intro a48 hA48
  clear hA47
  have hg48 := g0 hb48
  have hs48 := hg48.size
  clear hb48
  have ho48_0 : Own w48 (w8.heap.size) 28 8 (.slice Ap48 cs.length cp48) cs.length (flat Ct.va cs) := hC48.2
  have hh48_0 := Own.hi ho48_0
  have ho48_1 : Own w48 (w8.heap.size) 38 11 (.slice Aj48 js.length cj48) js.length (flat Jb.va js) := hJ48.2
  have hh48_1 := Own.hi ho48_1
  refine sx_new (cs := #[.slice none 0 0, .slice none 0 0, .int .i64 0]) (t := 25) hA48 rfl (by decide) (.inl rfl) (ev_alloc (z := .agg (#[.slice none 0 0, .slice none 0 0, .int .i64 0])) (by kernel_rfl) (by kernel_rfl) _ rfl) ?_
  intro B50 w50 a50 hB50 hx50 hg50 hA50
  clear hA48
  have hs50 := hg50.size
  have hl50 := hx50.lt
  refine sx_store hA50 rfl (.inl rfl) rfl (hA50.ev (i := 9) (v := .pointer (some ⟨B50, 0, none⟩))) (hA50.ev (i := 33) (v := .agg #[.slice Ap48 cs.length cp48, .slice Aj48 js.length cj48, .int .i64 room])) hx50 (by kernel_rfl) rfl (dk_one _ _ _ _ _ _ _) ?_
  intro w51 hx51 hg51
  have hs51 := hg51.size
  refine sx_nil ?_
  refine then_n ?_
  refine wp_seq ?_
  refine wp_region_lit ?_
  refine sx_val hA50 rfl (ev_move (hA50.ev (i := 1) (v := .int .i64 i)) _ rfl) ?_
  intro a52 hA52; clear hA50
  have ho48_54 := Own.gN ho48_0 hg50
  have ho48_55 := Own.gBT ho48_54 hg51 hx50 (by decide)
  have ho48_56 := Own.gN ho48_1 hg50
  have ho48_57 := Own.gBT ho48_56 hg51 hx50 (by decide)
  have hok := chk_ok hp18
  obtain ⟨x, hx⟩ : ∃ x, js[i.toNat]? = some x := ⟨_, List.getElem?_eq_getElem (by omega)⟩
  have hsl := inR_s (hok.inr _ _ hx)
  refine sx_call (f := 41) (args := #[.pointer (some ⟨B50, 0, none⟩), .int .i64 i]) hA52 rfl (by decide) (.inl rfl) (ev_fn rfl (mp2 (hA52.ev (i := 9) (v := .pointer (some ⟨B50, 0, none⟩))) (hA52.ev (i := 34) (v := .int .i64 i))) (by kernel_rfl) _ rfl) (complete_int B50 Ap48 cp48 Aj48 cj48 cs js room i i.toNat (w8.heap.size) (w8.heap.size) x _ hx51 ho48_55 ho48_57 hx hsl.1 hsl.2 (by omega) (by omega) (by omega)) ?_
  intro e53 w53 hR53
  obtain ⟨Ay53, cy53, rfl, hx53, hp53_1, hp53_2, hg53⟩ := hR53
  refine ⟨_, rfl, ?_⟩
  intro a53 hA53
  clear hA52
  have hs53 := hg53.size
  have hh53 := Own.hi hp53_1
  have hh53_2 := Own.hi hp53_2
  refine sx_new (cs := Jb.zero.va) (t := 38) hA53 rfl (by decide) (.inl rfl) (ev_alloc (z := .agg Jb.zero.va) (by kernel_rfl) (by kernel_rfl) _ rfl) ?_
  intro B58 w58 a58 hB58 hx58 hg58 hA58
  clear hA53
  have hs58 := hg58.size
  have hl58 := hx58.lt
  refine sx_store hA58 rfl (.inl rfl) rfl (hA58.ev (i := 10) (v := .pointer (some ⟨B58, 0, none⟩))) (hA58.ev (i := 35) (v := .agg (com ⟨cs, js, room⟩ i.toNat).2.va)) hx58 (by kernel_rfl) rfl (jb_one _) ?_
  intro w59 hx59 hg59
  have hs59 := hg59.size
  refine sx_nil ?_
  refine then_n ?_
  refine wp_seq ?_
  have hx2_60 := hx2.gN hg3
  have hx2_61 := hx2_60.gN hg8
  have hx2_62 := hx2_61.gN hg48
  have hx2_63 := hx2_62.gN hg50
  have hx2_64 := hx2_63.gB hg51 (by omega)
  have hx2_65 := hx2_64.g2 hg53 (by omega) ho48_55 (by decide)
  have hx2_66 := hx2_65.gN hg58
  have hx2_67 := hx2_66.gB hg59 (by omega)
  have hx3_68 := hx3.gN hg8
  have hx3_69 := hx3_68.gN hg48
  have hx3_70 := hx3_69.gN hg50
  have hx3_71 := hx3_70.gB hg51 (by omega)
  have hx3_72 := hx3_71.g2 hg53 (by omega) ho48_55 (by decide)
  have hx3_73 := hx3_72.gN hg58
  have hx3_74 := hx3_73.gB hg59 (by omega)
  have hx53_75 := hx53.gN hg58
  have hx53_76 := hx53_75.gB hg59 (by omega)
  have hp53_77 := Own.gN hp53_1 hg58
  have hp53_78 := Own.gBT hp53_77 hg59 hx58 (by decide)
  have hp53_79 := Own.gN hp53_2 hg58
  have hp53_80 := Own.gB hp53_79 hg59 hh53_2 (by omega)
  have hbel0_81 := Below.gN hbel0_49 hg48 hbel0_49.size
  have hbel0_82 := Below.gN hbel0_81 hg50 hbel0_81.size
  have hbel0_83 := Below.gB hbel0_82 hg51 hbel0_82.size (by omega)
  have hbel0_84 := Below.g2 hbel0_83 hg53 hbel0_83.size ho48_55 (by omega) (by omega)
  have hbel0_85 := Below.gN hbel0_84 hg58 hbel0_84.size
  have hbel0_86 := Below.gB hbel0_85 hg59 hbel0_85.size (by omega)
  refine region_D (n := 5) (by kernel_rfl) (by kernel_rfl) rfl (fun L ac wc => Below w.heap.size w wc ∧ w59.heap.size ≤ wc.heap.size ∧ Bx wc B2 25 (bif L 2 then (#[.slice Ap48 cs.length cp48, .slice Ay53 (com ⟨cs, js, room⟩ i.toNat).1.js.length cy53, .int .i64 (com ⟨cs, js, room⟩ i.toNat).1.room]) else (#[.slice none 0 0, .slice none 0 0, .int .i64 0])) ∧ Bx wc B3 38 (bif L 3 then (com ⟨cs, js, room⟩ i.toNat).2.va else Jb.zero.va) ∧ Bx wc B50 25 (#[.slice Ap48 cs.length cp48, .slice Ay53 (com ⟨cs, js, room⟩ i.toNat).1.js.length cy53, .int .i64 (com ⟨cs, js, room⟩ i.toNat).1.room]) ∧ Bx wc B58 38 (com ⟨cs, js, room⟩ i.toNat).2.va ∧ Own wc (w8.heap.size) 28 8 (.slice Ap48 cs.length cp48) cs.length (flat Ct.va (com ⟨cs, js, room⟩ i.toNat).1.cs) ∧ Own wc (w51.heap.size) 38 11 (.slice Ay53 (com ⟨cs, js, room⟩ i.toNat).1.js.length cy53) (com ⟨cs, js, room⟩ i.toNat).1.js.length (flat Jb.va (com ⟨cs, js, room⟩ i.toNat).1.js) ∧ (L 0 = true → Sv ac 36 (.agg #[.slice Ap48 cs.length cp48, .slice Ay53 (com ⟨cs, js, room⟩ i.toNat).1.js.length cy53, .int .i64 (com ⟨cs, js, room⟩ i.toNat).1.room])) ∧ (L 1 = true → Sv ac 37 (.agg (com ⟨cs, js, room⟩ i.toNat).2.va)) ∧ (L 4 = true → Sv ac 6 (.int .i64 0))) ⟨(Below.gN hbel0_86 (gdr _) hbel0_86.size), (Nat.le_refl _), (hx2_67.gN (gdr _)), (hx3_74.gN (gdr _)), (hx53_76.gN (gdr _)), (hx59.gN (gdr _)), (Own.gN hp53_78 (gdr _)), (Own.gN hp53_80 (gdr _)), (fun h => by cases h), (fun h => by cases h), (fun h => by cases h)⟩ ?_ ?_
  · intro iq hiq o ho L hL hdep ac wc hF hJ
    obtain ⟨bl, sz, b_B2, b_B3, b_B50, b_B58, p_0, p_1, s_36, s_37, s_6⟩ := hJ
    have z := hF.1.trans hA58.1
    match iq, hiq with
    | 0, _ =>
      obtain rfl := Option.some.inj (show some _ = some o from ho); clear ho
      have v9 := hF.sv (s := 9) (by kernel_rfl) (hA58.get (i := 9) (v := .pointer (some ⟨B50, 0, none⟩)))
      refine dj_val (i := 0) (v := .agg #[.slice Ap48 cs.length cp48, .slice Ay53 (com ⟨cs, js, room⟩ i.toNat).1.js.length cy53, .int .i64 (com ⟨cs, js, room⟩ i.toNat).1.room]) rfl (.inl rfl) (ev_row v9.eval b_B50 Try.underlying25 rfl (n := 3) (by kernel_rfl) rfl _ rfl) ?_
      exact ⟨⟨_, rfl⟩, bl, sz, b_B2, b_B3, b_B50, b_B58, p_0, p_1, (fun _ => Sv.self (by rw [z]; decide) _), (so s_37), (so s_6)⟩
    | 1, _ =>
      obtain rfl := Option.some.inj (show some _ = some o from ho); clear ho
      have v10 := hF.sv (s := 10) (by kernel_rfl) (hA58.get (i := 10) (v := .pointer (some ⟨B58, 0, none⟩)))
      refine dj_val (i := 1) (v := .agg (com ⟨cs, js, room⟩ i.toNat).2.va) rfl (.inl rfl) (ev_row v10.eval b_B58 Try.underlying38 rfl (n := 11) (by kernel_rfl) rfl _ rfl) ?_
      exact ⟨⟨_, rfl⟩, bl, sz, b_B2, b_B3, b_B50, b_B58, p_0, p_1, (so s_36), (fun _ => Sv.self (by rw [z]; decide) _), (so s_6)⟩
    | 2, _ =>
      obtain rfl := Option.some.inj (show some _ = some o from ho); clear ho
      have v4 := hF.sv (s := 4) (by kernel_rfl) (hA58.get (i := 4) (v := .pointer (some ⟨B2, 0, none⟩)))
      have v36 := s_36 (dp hdep 0)
      have eB2 : L 2 = false := hL
      have yB2 := b_B2
      rw [eB2] at yB2
      refine dj_skip (i := 2) rfl rfl (.inl rfl) (w' := wc.setRow B2 (#[.slice Ap48 cs.length cp48, .slice Ay53 (com ⟨cs, js, room⟩ i.toNat).1.js.length cy53, .int .i64 (com ⟨cs, js, room⟩ i.toNat).1.room])) (ev_srow v4.eval v36.eval yB2 (n := 3) (by kernel_rfl) rfl rfl (dk_one _ _ _ _ _ _ _) _ rfl) ?_
      have hg := grw yB2 (#[.slice Ap48 cs.length cp48, .slice Ay53 (com ⟨cs, js, room⟩ i.toNat).1.js.length cy53, .int .i64 (com ⟨cs, js, room⟩ i.toNat).1.room])
      have hx := yB2.row (#[.slice Ap48 cs.length cp48, .slice Ay53 (com ⟨cs, js, room⟩ i.toNat).1.js.length cy53, .int .i64 (com ⟨cs, js, room⟩ i.toNat).1.room])
      exact ⟨⟨undef, rfl⟩, (Below.gB bl hg bl.size (by omega)), (Nat.le_trans sz hg.size), hx, (b_B3.gB hg (by omega)), (b_B50.gB hg (by omega)), (b_B58.gB hg (by omega)), (Own.gBT p_0 hg yB2 (by decide)), (Own.gBT p_1 hg yB2 (by decide)), s_36, s_37, s_6⟩
    | 3, _ =>
      obtain rfl := Option.some.inj (show some _ = some o from ho); clear ho
      have v5 := hF.sv (s := 5) (by kernel_rfl) (hA58.get (i := 5) (v := .pointer (some ⟨B3, 0, none⟩)))
      have v37 := s_37 (dp hdep 1)
      have eB3 : L 3 = false := hL
      have yB3 := b_B3
      rw [eB3] at yB3
      refine dj_skip (i := 3) rfl rfl (.inl rfl) (w' := wc.setRow B3 (com ⟨cs, js, room⟩ i.toNat).2.va) (ev_srow v5.eval v37.eval yB3 (n := 11) (by kernel_rfl) rfl rfl (jb_one _) _ rfl) ?_
      have hg := grw yB3 (com ⟨cs, js, room⟩ i.toNat).2.va
      have hx := yB3.row (com ⟨cs, js, room⟩ i.toNat).2.va
      exact ⟨⟨undef, rfl⟩, (Below.gB bl hg bl.size (by omega)), (Nat.le_trans sz hg.size), (b_B2.gB hg (by omega)), hx, (b_B50.gB hg (by omega)), (b_B58.gB hg (by omega)), (Own.gBT p_0 hg yB3 (by decide)), (Own.gB p_1 hg hh53_2 (by omega)), s_36, s_37, s_6⟩
    | 4, _ =>
      obtain rfl := Option.some.inj (show some _ = some o from ho); clear ho
      refine dj_val (i := 4) (v := .int .i64 0) rfl (.inl rfl) (ev_assign (ec ac (.int .i64 0)) _ rfl) ?_
      exact ⟨⟨_, rfl⟩, bl, sz, b_B2, b_B3, b_B50, b_B58, p_0, p_1, (so s_36), (so s_37), (fun _ => Sv.self (by rw [z]; decide) _)⟩
    | k + 5, h => exact absurd h (by omega)
  · intro L hall ac87 wc87 hF hJ
    obtain ⟨bl, sz, b_B2, b_B3, b_B50, b_B58, p_0, p_1, s_36, s_37, s_6⟩ := hJ
    have hA87 : Ag ac87 38 [(4, .pointer (some ⟨B2, 0, none⟩)), (5, .pointer (some ⟨B3, 0, none⟩)), (6, .int .i64 0)] := ((((Ag.nil (hF.1.trans hA58.1) (hF.2.1.trans hA58.2.1)).cons (s_6 (hall 4 (by decide)))).cons (hF.sv (s := 5) (by kernel_rfl) (hA58.get (i := 5) (v := .pointer (some ⟨B3, 0, none⟩))))).cons (hF.sv (s := 4) (by kernel_rfl) (hA58.get (i := 4) (v := .pointer (some ⟨B2, 0, none⟩)))))
    have bl87 := bl
    have sz87 := sz
    have b87_B2 : Bx wc87 B2 25 (#[.slice Ap48 cs.length cp48, .slice Ay53 (com ⟨cs, js, room⟩ i.toNat).1.js.length cy53, .int .i64 (com ⟨cs, js, room⟩ i.toNat).1.room]) := by
      have h := b_B2
      rw [hall 2 (by decide)] at h
      exact h
    have b87_B3 : Bx wc87 B3 38 (com ⟨cs, js, room⟩ i.toNat).2.va := by
      have h := b_B3
      rw [hall 3 (by decide)] at h
      exact h
    have b87_B50 := b_B50
    have b87_B58 := b_B58
    have p87_0 := p_0
    have p87_1 := p_1
    clear hF bl sz b_B2 b_B3 b_B50 b_B58 p_0 p_1 s_36 s_37 s_6 hall hA58
    refine then_n ?_
    refine wp_ret ?_
    refine bodyPost_ret (rs_cct (v := .int .i64 0) Try.results17 hA87 (by kernel_rfl) (by kernel_rfl) (by kernel_rfl) b87_B2 Try.underlying25 rfl (by kernel_rfl) b87_B3 Try.underlying38 rfl (by kernel_rfl)) hA87.2.1 ?_
    have E : cmp ⟨cs, js, room⟩ i = ((com ⟨cs, js, room⟩ i.toNat).1, (com ⟨cs, js, room⟩ i.toNat).2, 0) := by
      unfold cmp
      rw [if_pos hp18, if_neg (by show ¬ (i < 0 ∨ (js.length : Int) ≤ i); omega)]
    rw [E]
    have hlen : (com ⟨cs, js, room⟩ i.toNat).1.cs.length = cs.length := com_len _ _
    refine ⟨_, _, _, _, by rw [hlen], ⟨rfl, ?_⟩, ⟨rfl, Own.mono p87_1 (by omega)⟩, bl87⟩
    rw [hlen]
    exact Own.mono p87_0 (by omega)
end Go.Proofs.Ytbkdimildnahaaa
