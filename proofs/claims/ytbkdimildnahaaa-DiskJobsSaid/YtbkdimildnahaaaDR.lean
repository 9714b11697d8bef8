/- The reference of disk: Check, Left. -/
import Derived.Test.YtbkdimildnahaaaDQ
namespace Go.Proofs.Ytbkdimildnahaaa
open Go.RowKit
set_option linter.unusedVariables false
set_option maxRecDepth 100000

theorem clash_succ {js : List Jb} {m : Nat} {x y : Jb} (h : js[m]? = some y) : clash js (m + 1) x = (clash js m x || hits x y) := take_any h (hits x)
theorem clash_hit {js : List Jb} {m k : Nat} {x y : Jb} (h : js[m]? = some y) (hm : m < k) (hh : hits x y = true) : clash js k x = true := by
  unfold clash
  rw [List.any_eq_true]
  have hl := (List.getElem?_eq_some_iff.1 h).1
  refine ⟨y, ?_, hh⟩
  rw [List.mem_take_iff_getElem]
  exact ⟨m, by omega, (List.getElem?_eq_some_iff.1 h).2⟩

set_option maxHeartbeats 16000000 in
theorem sCheck_any (A1 : Option Addr) (c1 : Nat) (A2 : Option Addr) (c2 : Nat) (cs : List Ct) (js : List Jb) (room : Int) (w : World) (hd : GD w A1 c1 A2 c2 cs js) (hj : js.length ≤ 900000) : Calls Try.prog 25 #[.agg #[.slice A1 cs.length c1, .slice A2 js.length c2, .int .i64 room]] w (RetB w (.returned (.tuple #[.int .i64 (chk ⟨cs, js, room⟩).1, .int .i64 (chk ⟨cs, js, room⟩).2]))) := by
  have hbel0 := below0 w
  refine sx_enter (N := 93) [(0, .agg #[.slice A1 cs.length c1, .slice A2 js.length c2, .int .i64 room])] Try.func25 rfl Try.ntmps25 (by simp) (fun a z d s => ((Ag.nil z d).cons (s 0 _ rfl))) ?_
  intro a0 hA0
  refine wp_seq ?_
  refine wp_region_lit ?_
  refine sx_new (cs := #[.slice A1 cs.length c1, .slice A2 js.length c2, .int .i64 room]) (t := 25) hA0 rfl (by decide) (.inl rfl) (ev_box (hA0.ev (i := 0) (v := .agg #[.slice A1 cs.length c1, .slice A2 js.length c2, .int .i64 room])) rfl _ rfl) ?_
  intro B1 w1 a1 hB1 hx1 hg1 hA1
  clear hA0
  have hs1 := hg1.size
  have hl1 := hx1.lt
  refine sx_val hA1 rfl (ev_assign (ec _ (.int .i64 0)) _ rfl) ?_
  intro a2 hA2; clear hA1
  refine sx_val hA2 rfl (ev_assign (ec _ (.int .i64 0)) _ rfl) ?_
  intro a3 hA3; clear hA2
  refine sx_nil ?_
  refine then_n ?_
  refine wp_seq ?_
  refine wp_seq ?_
  refine wp_region_lit ?_
  refine sx_val (v := .pointer (some ⟨B1, 0, none⟩)) hA3 rfl (fb_Disk_0 (hA3.ev (i := 1) (v := .pointer (some ⟨B1, 0, none⟩))) _ rfl) ?_
  intro a4 hA4; clear hA3
  refine sx_val (v := .slice A1 cs.length c1) hA4 rfl (ev_cell (v := .slice A1 cs.length c1) (hA4.ev (i := 7) (v := .pointer (some ⟨B1, 0, none⟩))) ((hx1.cell 0).trans rfl) Try.underlying22 rfl _ rfl) ?_
  intro a5 hA5; clear hA4
  refine sx_val (v := .int .i64 (cs.length : Int)) hA5 rfl (ev_len (hA5.ev (i := 8) (v := .slice A1 cs.length c1)) Try.underlying22 _ rfl) ?_
  intro a6 hA6; clear hA5
  cases hd7 : decide ((cs.length : Int) < 1)
  rotate_left
  · have hp7 := of_decide_eq_true hd7
    refine sx_val (v := .bool true) hA6 rfl (ev_lssB (k := .i64) (m := (cs.length : Int)) (n := 1) (hA6.ev (i := 9)) (ec _ (.int .i64 1)) hd7 _ rfl) ?_
    intro a194 hA194; clear hA6
    refine sx_val hA194 rfl (ev_move (hA194.ev (i := 10) (v := .bool true)) _ rfl) ?_
    intro a195 hA195; clear hA194
    refine sx_no (j := 4) (s := 11) (want := false) (b := true) hA195 rfl ?_
    intro a196 hA196; clear hA195
    refine sx_no (j := 4) (s := 11) (want := false) (b := true) hA196 rfl ?_
    intro a197 hA197; clear hA196
    refine sx_no (j := 4) (s := 11) (want := false) (b := true) hA197 rfl ?_
    intro a198 hA198; clear hA197
    refine sx_no (j := 4) (s := 11) (want := false) (b := true) hA198 rfl ?_
    intro a199 hA199; clear hA198
    refine sx_val hA199 rfl (ev_pickT (hA199.ev (i := 11) (v := .bool true)) (ec _ (.bool true)) _ rfl) ?_
    intro a200 hA200; clear hA199
    refine sx_val hA200 rfl (ev_move (hA200.ev (i := 16) (v := .bool true)) _ rfl) ?_
    intro a201 hA201; clear hA200
    refine sx_no (j := 10) (s := 17) (want := false) (b := true) hA201 rfl ?_
    intro a202 hA202; clear hA201
    refine sx_no (j := 10) (s := 17) (want := false) (b := true) hA202 rfl ?_
    intro a203 hA203; clear hA202
    refine sx_no (j := 10) (s := 17) (want := false) (b := true) hA203 rfl ?_
    intro a204 hA204; clear hA203
    refine sx_val hA204 rfl (ev_pickT (hA204.ev (i := 17) (v := .bool true)) (ec _ (.bool true)) _ rfl) ?_
    intro a205 hA205; clear hA204
    refine sx_val hA205 rfl (ev_move (hA205.ev (i := 21) (v := .bool true)) _ rfl) ?_
    intro a206 hA206; clear hA205
    refine sx_no (j := 15) (s := 22) (want := false) (b := true) hA206 rfl ?_
    intro a207 hA207; clear hA206
    refine sx_no (j := 15) (s := 22) (want := false) (b := true) hA207 rfl ?_
    intro a208 hA208; clear hA207
    refine sx_no (j := 15) (s := 22) (want := false) (b := true) hA208 rfl ?_
    intro a209 hA209; clear hA208
    refine sx_val hA209 rfl (ev_pickT (hA209.ev (i := 22) (v := .bool true)) (ec _ (.bool true)) _ rfl) ?_
    intro a210 hA210; clear hA209
    refine sx_nil ?_
    refine then_n ?_
    refine wp_cond_true (hA210.ev (i := 26) (v := .bool true)) ?_
    refine wp_seq ?_
    refine wp_region_lit ?_
    refine sx_val hA210 rfl (ev_assign (ec _ (.int .i64 2)) _ rfl) ?_
    intro a211 hA211; clear hA210
    refine sx_val hA211 rfl (ev_assign (ec _ (.int .i64 0)) _ rfl) ?_
    intro a212 hA212; clear hA211
    refine sx_nil ?_
    refine then_n ?_
    refine wp_ret ?_
    refine then_r ?_
    refine bodyPost_ret (rs_tt (v := .int .i64 2) (v2 := .int .i64 0) Try.results25 hA212 (by kernel_rfl) (by kernel_rfl) ) hA212.2.1 ?_
    have hbel0_213 := Below.gN hbel0 hg1 hbel0.size
    have E : chk ⟨cs, js, room⟩ = (2, 0) := if_pos (by show cs.length < 1 ∨ 256 < cs.length ∨ room < 1 ∨ 32 < room; omega)
    exact ⟨ret2 (by rw [E]), hbel0_213⟩
  have hp7 := of_decide_eq_false hd7
  refine sx_val (v := .bool false) hA6 rfl (ev_lssB (k := .i64) (m := (cs.length : Int)) (n := 1) (hA6.ev (i := 9)) (ec _ (.int .i64 1)) hd7 _ rfl) ?_
  intro a8 hA8; clear hA6
  refine sx_val hA8 rfl (ev_move (hA8.ev (i := 10) (v := .bool false)) _ rfl) ?_
  intro a9 hA9; clear hA8
  refine sx_val (hg := (.inr ⟨4, false, 11, rfl, rfl, by kernel_rfl⟩)) (v := .pointer (some ⟨B1, 0, none⟩)) hA9 rfl (fb_Disk_0 (hA9.ev (i := 1) (v := .pointer (some ⟨B1, 0, none⟩))) _ rfl) ?_
  intro a10 hA10; clear hA9
  refine sx_val (hg := (.inr ⟨4, false, 11, rfl, rfl, by kernel_rfl⟩)) (v := .slice A1 cs.length c1) hA10 rfl (ev_cell (v := .slice A1 cs.length c1) (hA10.ev (i := 12) (v := .pointer (some ⟨B1, 0, none⟩))) ((hx1.cell 0).trans rfl) Try.underlying22 rfl _ rfl) ?_
  intro a11 hA11; clear hA10
  refine sx_val (hg := (.inr ⟨4, false, 11, rfl, rfl, by kernel_rfl⟩)) (v := .int .i64 (cs.length : Int)) hA11 rfl (ev_len (hA11.ev (i := 13) (v := .slice A1 cs.length c1)) Try.underlying22 _ rfl) ?_
  intro a12 hA12; clear hA11
  cases hd13 : decide (256 < (cs.length : Int))
  rotate_left
  · have hp13 := of_decide_eq_true hd13
    refine sx_val (hg := (.inr ⟨4, false, 11, rfl, rfl, by kernel_rfl⟩)) (v := .bool true) hA12 rfl (ev_gtrB (k := .i64) (m := (cs.length : Int)) (n := 256) (hA12.ev (i := 14)) (ec _ (.int .i64 256)) hd13 _ rfl) ?_
    intro a179 hA179; clear hA12
    refine sx_val hA179 rfl (ev_pickF (hA179.ev (i := 11) (v := .bool false)) (hA179.ev (i := 15) (v := .bool true)) _ rfl) ?_
    intro a180 hA180; clear hA179
    refine sx_val hA180 rfl (ev_move (hA180.ev (i := 16) (v := .bool true)) _ rfl) ?_
    intro a181 hA181; clear hA180
    refine sx_no (j := 10) (s := 17) (want := false) (b := true) hA181 rfl ?_
    intro a182 hA182; clear hA181
    refine sx_no (j := 10) (s := 17) (want := false) (b := true) hA182 rfl ?_
    intro a183 hA183; clear hA182
    refine sx_no (j := 10) (s := 17) (want := false) (b := true) hA183 rfl ?_
    intro a184 hA184; clear hA183
    refine sx_val hA184 rfl (ev_pickT (hA184.ev (i := 17) (v := .bool true)) (ec _ (.bool true)) _ rfl) ?_
    intro a185 hA185; clear hA184
    refine sx_val hA185 rfl (ev_move (hA185.ev (i := 21) (v := .bool true)) _ rfl) ?_
    intro a186 hA186; clear hA185
    refine sx_no (j := 15) (s := 22) (want := false) (b := true) hA186 rfl ?_
    intro a187 hA187; clear hA186
    refine sx_no (j := 15) (s := 22) (want := false) (b := true) hA187 rfl ?_
    intro a188 hA188; clear hA187
    refine sx_no (j := 15) (s := 22) (want := false) (b := true) hA188 rfl ?_
    intro a189 hA189; clear hA188
    refine sx_val hA189 rfl (ev_pickT (hA189.ev (i := 22) (v := .bool true)) (ec _ (.bool true)) _ rfl) ?_
    intro a190 hA190; clear hA189
    refine sx_nil ?_
    refine then_n ?_
    refine wp_cond_true (hA190.ev (i := 26) (v := .bool true)) ?_
    refine wp_seq ?_
    refine wp_region_lit ?_
    refine sx_val hA190 rfl (ev_assign (ec _ (.int .i64 2)) _ rfl) ?_
    intro a191 hA191; clear hA190
    refine sx_val hA191 rfl (ev_assign (ec _ (.int .i64 0)) _ rfl) ?_
    intro a192 hA192; clear hA191
    refine sx_nil ?_
    refine then_n ?_
    refine wp_ret ?_
    refine then_r ?_
    refine bodyPost_ret (rs_tt (v := .int .i64 2) (v2 := .int .i64 0) Try.results25 hA192 (by kernel_rfl) (by kernel_rfl) ) hA192.2.1 ?_
    have hbel0_193 := Below.gN hbel0 hg1 hbel0.size
    have E : chk ⟨cs, js, room⟩ = (2, 0) := if_pos (by show cs.length < 1 ∨ 256 < cs.length ∨ room < 1 ∨ 32 < room; omega)
    exact ⟨ret2 (by rw [E]), hbel0_193⟩
  have hp13 := of_decide_eq_false hd13
  refine sx_val (hg := (.inr ⟨4, false, 11, rfl, rfl, by kernel_rfl⟩)) (v := .bool false) hA12 rfl (ev_gtrB (k := .i64) (m := (cs.length : Int)) (n := 256) (hA12.ev (i := 14)) (ec _ (.int .i64 256)) hd13 _ rfl) ?_
  intro a14 hA14; clear hA12
  refine sx_val hA14 rfl (ev_pickF (hA14.ev (i := 11) (v := .bool false)) (hA14.ev (i := 15) (v := .bool false)) _ rfl) ?_
  intro a15 hA15; clear hA14
  refine sx_val hA15 rfl (ev_move (hA15.ev (i := 16) (v := .bool false)) _ rfl) ?_
  intro a16 hA16; clear hA15
  refine sx_val (hg := (.inr ⟨10, false, 17, rfl, rfl, by kernel_rfl⟩)) (v := .pointer (some ⟨B1, 2, none⟩)) hA16 rfl (fb_Disk_2 (hA16.ev (i := 1) (v := .pointer (some ⟨B1, 0, none⟩))) _ rfl) ?_
  intro a17 hA17; clear hA16
  refine sx_val (hg := (.inr ⟨10, false, 17, rfl, rfl, by kernel_rfl⟩)) (v := .int .i64 room) hA17 rfl (ev_cell (v := .int .i64 room) (hA17.ev (i := 18) (v := .pointer (some ⟨B1, 2, none⟩))) ((hx1.cell 2).trans rfl) Try.underlying3 rfl _ rfl) ?_
  intro a18 hA18; clear hA17
  cases hd19 : decide (room < 1)
  rotate_left
  · have hp19 := of_decide_eq_true hd19
    refine sx_val (hg := (.inr ⟨10, false, 17, rfl, rfl, by kernel_rfl⟩)) (v := .bool true) hA18 rfl (ev_lssB (k := .i64) (m := room) (n := 1) (hA18.ev (i := 19)) (ec _ (.int .i64 1)) hd19 _ rfl) ?_
    intro a169 hA169; clear hA18
    refine sx_val hA169 rfl (ev_pickF (hA169.ev (i := 17) (v := .bool false)) (hA169.ev (i := 20) (v := .bool true)) _ rfl) ?_
    intro a170 hA170; clear hA169
    refine sx_val hA170 rfl (ev_move (hA170.ev (i := 21) (v := .bool true)) _ rfl) ?_
    intro a171 hA171; clear hA170
    refine sx_no (j := 15) (s := 22) (want := false) (b := true) hA171 rfl ?_
    intro a172 hA172; clear hA171
    refine sx_no (j := 15) (s := 22) (want := false) (b := true) hA172 rfl ?_
    intro a173 hA173; clear hA172
    refine sx_no (j := 15) (s := 22) (want := false) (b := true) hA173 rfl ?_
    intro a174 hA174; clear hA173
    refine sx_val hA174 rfl (ev_pickT (hA174.ev (i := 22) (v := .bool true)) (ec _ (.bool true)) _ rfl) ?_
    intro a175 hA175; clear hA174
    refine sx_nil ?_
    refine then_n ?_
    refine wp_cond_true (hA175.ev (i := 26) (v := .bool true)) ?_
    refine wp_seq ?_
    refine wp_region_lit ?_
    refine sx_val hA175 rfl (ev_assign (ec _ (.int .i64 2)) _ rfl) ?_
    intro a176 hA176; clear hA175
    refine sx_val hA176 rfl (ev_assign (ec _ (.int .i64 0)) _ rfl) ?_
    intro a177 hA177; clear hA176
    refine sx_nil ?_
    refine then_n ?_
    refine wp_ret ?_
    refine then_r ?_
    refine bodyPost_ret (rs_tt (v := .int .i64 2) (v2 := .int .i64 0) Try.results25 hA177 (by kernel_rfl) (by kernel_rfl) ) hA177.2.1 ?_
    have hbel0_178 := Below.gN hbel0 hg1 hbel0.size
    have E : chk ⟨cs, js, room⟩ = (2, 0) := if_pos (by show cs.length < 1 ∨ 256 < cs.length ∨ room < 1 ∨ 32 < room; omega)
    exact ⟨ret2 (by rw [E]), hbel0_178⟩
  have hp19 := of_decide_eq_false hd19
  refine sx_val (hg := (.inr ⟨10, false, 17, rfl, rfl, by kernel_rfl⟩)) (v := .bool false) hA18 rfl (ev_lssB (k := .i64) (m := room) (n := 1) (hA18.ev (i := 19)) (ec _ (.int .i64 1)) hd19 _ rfl) ?_
  intro a20 hA20; clear hA18
  refine sx_val hA20 rfl (ev_pickF (hA20.ev (i := 17) (v := .bool false)) (hA20.ev (i := 20) (v := .bool false)) _ rfl) ?_
  intro a21 hA21; clear hA20
  refine sx_val hA21 rfl (ev_move (hA21.ev (i := 21) (v := .bool false)) _ rfl) ?_
  intro a22 hA22; clear hA21
  refine sx_val (hg := (.inr ⟨15, false, 22, rfl, rfl, by kernel_rfl⟩)) (v := .pointer (some ⟨B1, 2, none⟩)) hA22 rfl (fb_Disk_2 (hA22.ev (i := 1) (v := .pointer (some ⟨B1, 0, none⟩))) _ rfl) ?_
  intro a23 hA23; clear hA22
  refine sx_val (hg := (.inr ⟨15, false, 22, rfl, rfl, by kernel_rfl⟩)) (v := .int .i64 room) hA23 rfl (ev_cell (v := .int .i64 room) (hA23.ev (i := 23) (v := .pointer (some ⟨B1, 2, none⟩))) ((hx1.cell 2).trans rfl) Try.underlying3 rfl _ rfl) ?_
  intro a24 hA24; clear hA23
  cases hd25 : decide (32 < room)
  rotate_left
  · have hp25 := of_decide_eq_true hd25
    refine sx_val (hg := (.inr ⟨15, false, 22, rfl, rfl, by kernel_rfl⟩)) (v := .bool true) hA24 rfl (ev_gtrB (k := .i64) (m := room) (n := 32) (hA24.ev (i := 24)) (ec _ (.int .i64 32)) hd25 _ rfl) ?_
    intro a164 hA164; clear hA24
    refine sx_val hA164 rfl (ev_pickF (hA164.ev (i := 22) (v := .bool false)) (hA164.ev (i := 25) (v := .bool true)) _ rfl) ?_
    intro a165 hA165; clear hA164
    refine sx_nil ?_
    refine then_n ?_
    refine wp_cond_true (hA165.ev (i := 26) (v := .bool true)) ?_
    refine wp_seq ?_
    refine wp_region_lit ?_
    refine sx_val hA165 rfl (ev_assign (ec _ (.int .i64 2)) _ rfl) ?_
    intro a166 hA166; clear hA165
    refine sx_val hA166 rfl (ev_assign (ec _ (.int .i64 0)) _ rfl) ?_
    intro a167 hA167; clear hA166
    refine sx_nil ?_
    refine then_n ?_
    refine wp_ret ?_
    refine then_r ?_
    refine bodyPost_ret (rs_tt (v := .int .i64 2) (v2 := .int .i64 0) Try.results25 hA167 (by kernel_rfl) (by kernel_rfl) ) hA167.2.1 ?_
    have hbel0_168 := Below.gN hbel0 hg1 hbel0.size
    have E : chk ⟨cs, js, room⟩ = (2, 0) := if_pos (by show cs.length < 1 ∨ 256 < cs.length ∨ room < 1 ∨ 32 < room; omega)
    exact ⟨ret2 (by rw [E]), hbel0_168⟩
  have hp25 := of_decide_eq_false hd25
  refine sx_val (hg := (.inr ⟨15, false, 22, rfl, rfl, by kernel_rfl⟩)) (v := .bool false) hA24 rfl (ev_gtrB (k := .i64) (m := room) (n := 32) (hA24.ev (i := 24)) (ec _ (.int .i64 32)) hd25 _ rfl) ?_
  intro a26 hA26; clear hA24
  refine sx_val hA26 rfl (ev_pickF (hA26.ev (i := 22) (v := .bool false)) (hA26.ev (i := 25) (v := .bool false)) _ rfl) ?_
  intro a27 hA27; clear hA26
  refine sx_nil ?_
  refine then_n ?_
  refine wp_cond_false (hA27.ev (i := 26) (v := .bool false)) ?_
  refine wp_skip ?_
  refine then_n ?_
  refine wp_seq ?_
  refine wp_seq ?_
  refine wp_region_lit ?_
  refine sx_val (v := .pointer (some ⟨B1, 1, none⟩)) hA27 rfl (fb_Disk_1 (hA27.ev (i := 1) (v := .pointer (some ⟨B1, 0, none⟩))) _ rfl) ?_
  intro a28 hA28; clear hA27
  refine sx_val (v := .slice A2 js.length c2) hA28 rfl (ev_cell (v := .slice A2 js.length c2) (hA28.ev (i := 27) (v := .pointer (some ⟨B1, 1, none⟩))) ((hx1.cell 1).trans rfl) Try.underlying23 rfl _ rfl) ?_
  intro a29 hA29; clear hA28
  refine sx_val (v := .int .i64 (js.length : Int)) hA29 rfl (ev_len (hA29.ev (i := 28) (v := .slice A2 js.length c2)) Try.underlying23 _ rfl) ?_
  intro a30 hA30; clear hA29
  refine sx_val (v := .pointer (some ⟨B1, 2, none⟩)) hA30 rfl (fb_Disk_2 (hA30.ev (i := 1) (v := .pointer (some ⟨B1, 0, none⟩))) _ rfl) ?_
  intro a31 hA31; clear hA30
  refine sx_val (v := .int .i64 room) hA31 rfl (ev_cell (v := .int .i64 room) (hA31.ev (i := 30) (v := .pointer (some ⟨B1, 2, none⟩))) ((hx1.cell 2).trans rfl) Try.underlying3 rfl _ rfl) ?_
  intro a32 hA32; clear hA31
  cases hd33 : decide (room < (js.length : Int))
  rotate_left
  · have hp33 := of_decide_eq_true hd33
    refine sx_val (v := .bool true) hA32 rfl (ev_gtrB (k := .i64) (m := (js.length : Int)) (n := room) (hA32.ev (i := 29)) (hA32.ev (i := 31)) hd33 _ rfl) ?_
    intro a160 hA160; clear hA32
    refine sx_nil ?_
    refine then_n ?_
    refine wp_cond_true (hA160.ev (i := 32) (v := .bool true)) ?_
    refine wp_seq ?_
    refine wp_region_lit ?_
    refine sx_val hA160 rfl (ev_assign (ec _ (.int .i64 5)) _ rfl) ?_
    intro a161 hA161; clear hA160
    refine sx_val hA161 rfl (ev_assign (ec _ (.int .i64 0)) _ rfl) ?_
    intro a162 hA162; clear hA161
    refine sx_nil ?_
    refine then_n ?_
    refine wp_ret ?_
    refine then_r ?_
    refine bodyPost_ret (rs_tt (v := .int .i64 5) (v2 := .int .i64 0) Try.results25 hA162 (by kernel_rfl) (by kernel_rfl) ) hA162.2.1 ?_
    have hbel0_163 := Below.gN hbel0 hg1 hbel0.size
    have E : chk ⟨cs, js, room⟩ = (5, 0) := by
      unfold chk
      rw [if_neg (by show ¬ (cs.length < 1 ∨ 256 < cs.length ∨ room < 1 ∨ 32 < room); omega), if_pos (by show room < (js.length : Int); omega)]
    exact ⟨ret2 (by rw [E]), hbel0_163⟩
  have hp33 := of_decide_eq_false hd33
  refine sx_val (v := .bool false) hA32 rfl (ev_gtrB (k := .i64) (m := (js.length : Int)) (n := room) (hA32.ev (i := 29)) (hA32.ev (i := 31)) hd33 _ rfl) ?_
  intro a34 hA34; clear hA32
  refine sx_nil ?_
  refine then_n ?_
  refine wp_cond_false (hA34.ev (i := 32) (v := .bool false)) ?_
  refine wp_skip ?_
  refine then_n ?_
  refine wp_seq ?_
  refine wp_seq ?_
  refine wp_region_lit ?_
  refine sx_val hA34 rfl (ev_assign (ec _ (.int .i64 0)) _ rfl) ?_
  intro a35 hA35; clear hA34
  refine sx_nil ?_
  refine then_n ?_
  refine wp_block ?_
  have hbel0_37 := Below.gN hbel0 hg1 hbel0.size
  refine wp_loop_ghost (fun n a wl => ∃ (k : Nat), n = js.length - k ∧ Ag a 93 [(1, .pointer (some ⟨B1, 0, none⟩)), (4, .int .i64 (k : Int))] ∧ k ≤ js.length ∧ chk ⟨cs, js, room⟩ = ckJ cs.length js k (js.length - k) ∧ Bx wl B1 25 #[.slice A1 cs.length c1, .slice A2 js.length c2, .int .i64 room] ∧ w1.heap.size ≤ wl.heap.size ∧ Below w.heap.size w wl) (js.length - 0) ⟨0, rfl, (((Ag.nil hA35.1 hA35.2.1).cons (hA35.get (i := 4) (v := .int .i64 0))).cons (hA35.get (i := 1) (v := .pointer (some ⟨B1, 0, none⟩)))), Nat.zero_le _, (by unfold chk; rw [if_neg (by show ¬ (cs.length < 1 ∨ 256 < cs.length ∨ room < 1 ∨ 32 < room); omega), if_neg (by show ¬ room < (js.length : Int); omega)]; rfl), hx1, Nat.le_refl _, hbel0_37⟩ ?_
  intro n36 a36 w36 hI36
  obtain ⟨k, hn36, hA36, q36_0, q36_1, f36_0, hsz36, hbel36⟩ := hI36
  subst hn36
  clear hA35
  have hlB1_36 := f36_0.lt
  cases hd38 : decide ((k : Int) < (js.length : Int))
  · have hp38 := of_decide_eq_false hd38
    refine wp_seq ?_
    refine wp_seq ?_
    refine wp_region_lit ?_
    refine sx_val hA36 rfl (ev_move (hA36.ev (i := 4) (v := .int .i64 (k : Int))) _ rfl) ?_
    intro a39 hA39; clear hA36
    refine sx_val (v := .pointer (some ⟨B1, 1, none⟩)) hA39 rfl (fb_Disk_1 (hA39.ev (i := 1) (v := .pointer (some ⟨B1, 0, none⟩))) _ rfl) ?_
    intro a40 hA40; clear hA39
    refine sx_val (v := .slice A2 js.length c2) hA40 rfl (ev_cell (v := .slice A2 js.length c2) (hA40.ev (i := 34) (v := .pointer (some ⟨B1, 1, none⟩))) ((f36_0.cell 1).trans rfl) Try.underlying23 rfl _ rfl) ?_
    intro a41 hA41; clear hA40
    refine sx_val (v := .int .i64 (js.length : Int)) hA41 rfl (ev_len (hA41.ev (i := 35) (v := .slice A2 js.length c2)) Try.underlying23 _ rfl) ?_
    intro a42 hA42; clear hA41
    refine sx_val (v := .bool false) hA42 rfl (ev_lssB (k := .i64) (m := (k : Int)) (n := (js.length : Int)) (hA42.ev (i := 33)) (hA42.ev (i := 36)) hd38 _ rfl) ?_
    intro a43 hA43; clear hA42
    refine sx_nil ?_
    refine then_n ?_
    refine wp_cond_false (hA43.ev (i := 37) (v := .bool false)) ?_
    refine wp_exit ?_
    refine then_x ?_
    refine then_x ?_
    refine blk_hit ?_
    refine then_n ?_
    refine wp_seq ?_
    refine wp_region_lit ?_
    refine sx_val hA43 rfl (ev_assign (ec _ (.int .i64 0)) _ rfl) ?_
    intro a44 hA44; clear hA43
    refine sx_val hA44 rfl (ev_assign (ec _ (.int .i64 0)) _ rfl) ?_
    intro a45 hA45; clear hA44
    refine sx_nil ?_
    refine then_n ?_
    refine wp_ret ?_
    refine bodyPost_ret (rs_tt (v := .int .i64 0) (v2 := .int .i64 0) Try.results25 hA45 (by kernel_rfl) (by kernel_rfl) ) hA45.2.1 ?_
    have E : chk ⟨cs, js, room⟩ = (0, 0) := by
      rw [q36_1, show js.length - k = 0 by omega]
      rfl
    exact ⟨ret2 (by rw [E]), hbel36⟩
  have hp38 := of_decide_eq_true hd38
  obtain ⟨x, hx⟩ : ∃ x, js[k]? = some x := ⟨_, List.getElem?_eq_getElem (by omega)⟩
  refine wp_seq ?_
  refine wp_seq ?_
  refine wp_region_lit ?_
  refine sx_val hA36 rfl (ev_move (hA36.ev (i := 4) (v := .int .i64 (k : Int))) _ rfl) ?_
  intro a46 hA46; clear hA36
  refine sx_val (v := .pointer (some ⟨B1, 1, none⟩)) hA46 rfl (fb_Disk_1 (hA46.ev (i := 1) (v := .pointer (some ⟨B1, 0, none⟩))) _ rfl) ?_
  intro a47 hA47; clear hA46
  refine sx_val (v := .slice A2 js.length c2) hA47 rfl (ev_cell (v := .slice A2 js.length c2) (hA47.ev (i := 34) (v := .pointer (some ⟨B1, 1, none⟩))) ((f36_0.cell 1).trans rfl) Try.underlying23 rfl _ rfl) ?_
  intro a48 hA48; clear hA47
  refine sx_val (v := .int .i64 (js.length : Int)) hA48 rfl (ev_len (hA48.ev (i := 35) (v := .slice A2 js.length c2)) Try.underlying23 _ rfl) ?_
  intro a49 hA49; clear hA48
  refine sx_val (v := .bool true) hA49 rfl (ev_lssB (k := .i64) (m := (k : Int)) (n := (js.length : Int)) (hA49.ev (i := 33)) (hA49.ev (i := 36)) hd38 _ rfl) ?_
  intro a50 hA50; clear hA49
  refine sx_nil ?_
  refine then_n ?_
  refine wp_cond_true (hA50.ev (i := 37) (v := .bool true)) ?_
  refine wp_skip ?_
  refine then_n ?_
  refine wp_seq ?_
  refine wp_block ?_
  refine wp_seq ?_
  refine wp_region_lit ?_
  refine sx_val (v := .pointer (some ⟨B1, 1, none⟩)) hA50 rfl (fb_Disk_1 (hA50.ev (i := 1) (v := .pointer (some ⟨B1, 0, none⟩))) _ rfl) ?_
  intro a51 hA51; clear hA50
  refine sx_val (v := .slice A2 js.length c2) hA51 rfl (ev_cell (v := .slice A2 js.length c2) (hA51.ev (i := 40) (v := .pointer (some ⟨B1, 1, none⟩))) ((f36_0.cell 1).trans rfl) Try.underlying23 rfl _ rfl) ?_
  intro a52 hA52; clear hA51
  refine sx_val hA52 rfl (ev_move (hA52.ev (i := 4) (v := .int .i64 (k : Int))) _ rfl) ?_
  intro a53 hA53; clear hA52
  obtain ⟨ad54, hAd54⟩ := GR.adr (hd.j.below hbel36) jb_sz hx
  refine sx_val (v := .pointer (some (ad54.add (k * 11)))) hA53 rfl (ev_idx (k := k) (hA53.ev (i := 41) (v := .slice A2 js.length c2)) hAd54 (hA53.ev (i := 42) (v := .int .i64 (k : Int))) rfl (by omega) Try.underlying23 (by kernel_rfl) _ rfl) ?_
  intro a55 hA55; clear hA53
  refine sx_val (v := .agg x.va) hA55 rfl (ev_loadR (cs := x.va) (n := 11) (hA55.ev (i := 43) (v := .pointer (some (ad54.add (k * 11))))) (GR.cel (hd.j.below hbel36) hAd54 jb_sz hx) Try.underlying38 rfl (by kernel_rfl) rfl _ rfl) ?_
  intro a56 hA56; clear hA55
  refine sx_new (cs := Jb.zero.va) (t := 38) hA56 rfl (by decide) (.inl rfl) (ev_alloc (z := .agg Jb.zero.va) (by kernel_rfl) (by kernel_rfl) _ rfl) ?_
  intro B57 w57 a57 hB57 hx57 hg57 hA57
  clear hA56
  have hs57 := hg57.size
  have hl57 := hx57.lt
  refine sx_store hA57 rfl (.inl rfl) rfl (hA57.ev (i := 5) (v := .pointer (some ⟨B57, 0, none⟩))) (hA57.ev (i := 44) (v := .agg x.va)) hx57 (by kernel_rfl) rfl (jb_one _) ?_
  intro w58 hx58 hg58
  have hs58 := hg58.size
  refine sx_nil ?_
  refine then_n ?_
  refine wp_seq ?_
  refine wp_seq ?_
  refine wp_region_lit ?_
  have f36_59 := f36_0.gN hg57
  have f36_60 := f36_59.gB hg58 (by omega)
  refine sx_val (v := .agg #[.slice A1 cs.length c1, .slice A2 js.length c2, .int .i64 room]) hA57 rfl (ev_row (hA57.ev (i := 1) (v := .pointer (some ⟨B1, 0, none⟩))) f36_60 Try.underlying25 rfl (n := 3) (by kernel_rfl) rfl _ rfl) ?_
  intro a61 hA61; clear hA57
  refine sx_val (v := .pointer (some ⟨B57, 1, none⟩)) hA61 rfl (fb_Job_1 (hA61.ev (i := 5) (v := .pointer (some ⟨B57, 0, none⟩))) _ rfl) ?_
  intro a62 hA62; clear hA61
  refine sx_val (v := .int .i64 x.slot) hA62 rfl (ev_cell (v := .int .i64 x.slot) (hA62.ev (i := 46) (v := .pointer (some ⟨B57, 1, none⟩))) ((hx58.cell 1).trans rfl) Try.underlying3 rfl _ rfl) ?_
  intro a63 hA63; clear hA62
  cases hd65 : inS cs.length x.slot
  · refine sx_call (f := 44) (args := #[.agg #[.slice A1 cs.length c1, .slice A2 js.length c2, .int .i64 room], .int .i64 x.slot]) hA63 rfl (by decide) (.inl rfl) (ev_fn rfl (mp2 (hA63.ev (i := 45) (v := .agg #[.slice A1 cs.length c1, .slice A2 js.length c2, .int .i64 room])) (hA63.ev (i := 47) (v := .int .i64 x.slot))) (by kernel_rfl) _ rfl) (slot_any A1 c1 A2 c2 cs js room x.slot _) ?_
    intro e66 w66 hR66
    obtain ⟨he66, hb66⟩ := hR66
    rw [hd65] at he66
    subst he66
    refine ⟨_, rfl, ?_⟩
    intro a66 hA66
    clear hA63
    have hg66 := g0 hb66
    have hs66 := hg66.size
    clear hb66
    refine sx_val (v := .bool true) hA66 rfl (ev_notF (hA66.ev (i := 48) (v := .bool false)) _ rfl) ?_
    intro a67 hA67; clear hA66
    refine sx_val hA67 rfl (ev_move (hA67.ev (i := 49) (v := .bool true)) _ rfl) ?_
    intro a68 hA68; clear hA67
    refine sx_no (j := 5) (s := 50) (want := false) (b := true) hA68 rfl ?_
    intro a69 hA69; clear hA68
    refine sx_no (j := 5) (s := 50) (want := false) (b := true) hA69 rfl ?_
    intro a70 hA70; clear hA69
    refine sx_no (j := 5) (s := 50) (want := false) (b := true) hA70 rfl ?_
    intro a71 hA71; clear hA70
    refine sx_no (j := 5) (s := 50) (want := false) (b := true) hA71 rfl ?_
    intro a72 hA72; clear hA71
    refine sx_val hA72 rfl (ev_pickT (hA72.ev (i := 50) (v := .bool true)) (ec _ (.bool true)) _ rfl) ?_
    intro a73 hA73; clear hA72
    refine sx_nil ?_
    refine then_n ?_
    refine wp_cond_true (hA73.ev (i := 55) (v := .bool true)) ?_
    refine wp_seq ?_
    refine wp_region_lit ?_
    refine sx_val hA73 rfl (ev_move (hA73.ev (i := 4) (v := .int .i64 (k : Int))) _ rfl) ?_
    intro a74 hA74; clear hA73
    refine sx_val hA74 rfl (ev_assign (ec _ (.int .i64 2)) _ rfl) ?_
    intro a75 hA75; clear hA74
    refine sx_val hA75 rfl (ev_assign (hA75.ev (i := 56) (v := .int .i64 (k : Int))) _ rfl) ?_
    intro a76 hA76; clear hA75
    refine sx_nil ?_
    refine then_n ?_
    refine wp_ret ?_
    refine then_r ?_
    refine blk_r ?_
    refine then_r ?_
    refine then_r ?_
    refine blk_r ?_
    refine then_r ?_
    refine bodyPost_ret (rs_tt (v := .int .i64 2) (v2 := .int .i64 (k : Int)) Try.results25 hA76 (by kernel_rfl) (by kernel_rfl) ) hA76.2.1 ?_
    have hbel36_77 := Below.gN hbel36 hg57 hbel36.size
    have hbel36_78 := Below.gB hbel36_77 hg58 hbel36_77.size (by omega)
    have hbel36_79 := Below.gN hbel36_78 hg66 hbel36_78.size
    have E : chk ⟨cs, js, room⟩ = (2, (k : Int)) := by
      rw [q36_1, ckJ_step hx (by omega), if_pos (by rw [inR_eq]; simp [hd65])]
    exact ⟨ret2 (by rw [E]), hbel36_79⟩
  refine sx_call (f := 44) (args := #[.agg #[.slice A1 cs.length c1, .slice A2 js.length c2, .int .i64 room], .int .i64 x.slot]) hA63 rfl (by decide) (.inl rfl) (ev_fn rfl (mp2 (hA63.ev (i := 45) (v := .agg #[.slice A1 cs.length c1, .slice A2 js.length c2, .int .i64 room])) (hA63.ev (i := 47) (v := .int .i64 x.slot))) (by kernel_rfl) _ rfl) (slot_any A1 c1 A2 c2 cs js room x.slot _) ?_
  intro e80 w80 hR80
  obtain ⟨he80, hb80⟩ := hR80
  rw [hd65] at he80
  subst he80
  refine ⟨_, rfl, ?_⟩
  intro a80 hA80
  clear hA63
  have hg80 := g0 hb80
  have hs80 := hg80.size
  clear hb80
  refine sx_val (v := .bool false) hA80 rfl (ev_notT (hA80.ev (i := 48) (v := .bool true)) _ rfl) ?_
  intro a81 hA81; clear hA80
  refine sx_val hA81 rfl (ev_move (hA81.ev (i := 49) (v := .bool false)) _ rfl) ?_
  intro a82 hA82; clear hA81
  refine sx_val (hg := (.inr ⟨5, false, 50, rfl, rfl, by kernel_rfl⟩)) (v := .pointer (some ⟨B57, 2, none⟩)) hA82 rfl (fb_Job_2 (hA82.ev (i := 5) (v := .pointer (some ⟨B57, 0, none⟩))) _ rfl) ?_
  intro a83 hA83; clear hA82
  have hx58_84 := hx58.gN hg80
  refine sx_val (hg := (.inr ⟨5, false, 50, rfl, rfl, by kernel_rfl⟩)) (v := .int .i64 x.frame) hA83 rfl (ev_cell (v := .int .i64 x.frame) (hA83.ev (i := 51) (v := .pointer (some ⟨B57, 2, none⟩))) ((hx58_84.cell 2).trans rfl) Try.underlying3 rfl _ rfl) ?_
  intro a85 hA85; clear hA83
  cases hd87 : inF x.frame
  · refine sx_call (f := 45) (args := #[.int .i64 x.frame]) hA85 rfl (by decide) (.inr ⟨5, false, 50, rfl, rfl, by kernel_rfl⟩) (ev_fn rfl (mp1 (hA85.ev (i := 52) (v := .int .i64 x.frame))) (by kernel_rfl) _ rfl) (frame_any x.frame _) ?_
    intro e88 w88 hR88
    obtain ⟨he88, hb88⟩ := hR88
    rw [hd87] at he88
    subst he88
    refine ⟨_, rfl, ?_⟩
    intro a88 hA88
    clear hA85
    have hg88 := g0 hb88
    have hs88 := hg88.size
    clear hb88
    refine sx_val (hg := (.inr ⟨5, false, 50, rfl, rfl, by kernel_rfl⟩)) (v := .bool true) hA88 rfl (ev_notF (hA88.ev (i := 53) (v := .bool false)) _ rfl) ?_
    intro a89 hA89; clear hA88
    refine sx_val hA89 rfl (ev_pickF (hA89.ev (i := 50) (v := .bool false)) (hA89.ev (i := 54) (v := .bool true)) _ rfl) ?_
    intro a90 hA90; clear hA89
    refine sx_nil ?_
    refine then_n ?_
    refine wp_cond_true (hA90.ev (i := 55) (v := .bool true)) ?_
    refine wp_seq ?_
    refine wp_region_lit ?_
    refine sx_val hA90 rfl (ev_move (hA90.ev (i := 4) (v := .int .i64 (k : Int))) _ rfl) ?_
    intro a91 hA91; clear hA90
    refine sx_val hA91 rfl (ev_assign (ec _ (.int .i64 2)) _ rfl) ?_
    intro a92 hA92; clear hA91
    refine sx_val hA92 rfl (ev_assign (hA92.ev (i := 56) (v := .int .i64 (k : Int))) _ rfl) ?_
    intro a93 hA93; clear hA92
    refine sx_nil ?_
    refine then_n ?_
    refine wp_ret ?_
    refine then_r ?_
    refine blk_r ?_
    refine then_r ?_
    refine then_r ?_
    refine blk_r ?_
    refine then_r ?_
    refine bodyPost_ret (rs_tt (v := .int .i64 2) (v2 := .int .i64 (k : Int)) Try.results25 hA93 (by kernel_rfl) (by kernel_rfl) ) hA93.2.1 ?_
    have hbel36_94 := Below.gN hbel36 hg57 hbel36.size
    have hbel36_95 := Below.gB hbel36_94 hg58 hbel36_94.size (by omega)
    have hbel36_96 := Below.gN hbel36_95 hg80 hbel36_95.size
    have hbel36_97 := Below.gN hbel36_96 hg88 hbel36_96.size
    have E : chk ⟨cs, js, room⟩ = (2, (k : Int)) := by
      rw [q36_1, ckJ_step hx (by omega), if_pos (by rw [inR_eq]; simp [hd65, hd87])]
    exact ⟨ret2 (by rw [E]), hbel36_97⟩
  refine sx_call (f := 45) (args := #[.int .i64 x.frame]) hA85 rfl (by decide) (.inr ⟨5, false, 50, rfl, rfl, by kernel_rfl⟩) (ev_fn rfl (mp1 (hA85.ev (i := 52) (v := .int .i64 x.frame))) (by kernel_rfl) _ rfl) (frame_any x.frame _) ?_
  intro e98 w98 hR98
  obtain ⟨he98, hb98⟩ := hR98
  rw [hd87] at he98
  subst he98
  refine ⟨_, rfl, ?_⟩
  intro a98 hA98
  clear hA85
  have hg98 := g0 hb98
  have hs98 := hg98.size
  clear hb98
  refine sx_val (hg := (.inr ⟨5, false, 50, rfl, rfl, by kernel_rfl⟩)) (v := .bool false) hA98 rfl (ev_notT (hA98.ev (i := 53) (v := .bool true)) _ rfl) ?_
  intro a99 hA99; clear hA98
  refine sx_val hA99 rfl (ev_pickF (hA99.ev (i := 50) (v := .bool false)) (hA99.ev (i := 54) (v := .bool false)) _ rfl) ?_
  intro a100 hA100; clear hA99
  refine sx_nil ?_
  refine then_n ?_
  refine wp_cond_false (hA100.ev (i := 55) (v := .bool false)) ?_
  refine wp_skip ?_
  refine then_n ?_
  refine wp_seq ?_
  refine wp_seq ?_
  refine wp_region_lit ?_
  refine sx_val hA100 rfl (ev_assign (ec _ (.int .i64 0)) _ rfl) ?_
  intro a101 hA101; clear hA100
  refine sx_nil ?_
  refine then_n ?_
  refine wp_block ?_
  have f36_103 := f36_60.gN hg80
  have f36_104 := f36_103.gN hg98
  have hx58_105 := hx58_84.gN hg98
  have hbel36_106 := Below.gN hbel36 hg57 hbel36.size
  have hbel36_107 := Below.gB hbel36_106 hg58 hbel36_106.size (by omega)
  have hbel36_108 := Below.gN hbel36_107 hg80 hbel36_107.size
  have hbel36_109 := Below.gN hbel36_108 hg98 hbel36_108.size
  refine wp_loop_ghost (fun n a wl => ∃ (m : Nat), n = k - m ∧ Ag a 93 [(1, .pointer (some ⟨B1, 0, none⟩)), (4, .int .i64 (k : Int)), (33, .int .i64 (k : Int)), (34, .pointer (some ⟨B1, 1, none⟩)), (35, .slice A2 js.length c2), (36, .int .i64 (js.length : Int)), (37, .bool true), (40, .pointer (some ⟨B1, 1, none⟩)), (41, .slice A2 js.length c2), (42, .int .i64 (k : Int)), (43, .pointer (some (ad54.add (k * 11)))), (44, .agg x.va), (5, .pointer (some ⟨B57, 0, none⟩)), (45, .agg #[.slice A1 cs.length c1, .slice A2 js.length c2, .int .i64 room]), (46, .pointer (some ⟨B57, 1, none⟩)), (47, .int .i64 x.slot), (48, .bool true), (49, .bool false), (50, .bool false), (51, .pointer (some ⟨B57, 2, none⟩)), (52, .int .i64 x.frame), (53, .bool true), (54, .bool false), (55, .bool false), (6, .int .i64 (m : Int))] ∧ m ≤ k ∧ clash js m x = false ∧ Bx wl B1 25 #[.slice A1 cs.length c1, .slice A2 js.length c2, .int .i64 room] ∧ Bx wl B57 38 x.va ∧ w98.heap.size ≤ wl.heap.size ∧ Below w.heap.size w wl) (k - 0) ⟨0, rfl, ((((((((((((((((((((((((((Ag.nil hA101.1 hA101.2.1).cons (hA101.get (i := 6) (v := .int .i64 0))).cons (hA101.get (i := 55) (v := .bool false))).cons (hA101.get (i := 54) (v := .bool false))).cons (hA101.get (i := 53) (v := .bool true))).cons (hA101.get (i := 52) (v := .int .i64 x.frame))).cons (hA101.get (i := 51) (v := .pointer (some ⟨B57, 2, none⟩)))).cons (hA101.get (i := 50) (v := .bool false))).cons (hA101.get (i := 49) (v := .bool false))).cons (hA101.get (i := 48) (v := .bool true))).cons (hA101.get (i := 47) (v := .int .i64 x.slot))).cons (hA101.get (i := 46) (v := .pointer (some ⟨B57, 1, none⟩)))).cons (hA101.get (i := 45) (v := .agg #[.slice A1 cs.length c1, .slice A2 js.length c2, .int .i64 room]))).cons (hA101.get (i := 5) (v := .pointer (some ⟨B57, 0, none⟩)))).cons (hA101.get (i := 44) (v := .agg x.va))).cons (hA101.get (i := 43) (v := .pointer (some (ad54.add (k * 11)))))).cons (hA101.get (i := 42) (v := .int .i64 (k : Int)))).cons (hA101.get (i := 41) (v := .slice A2 js.length c2))).cons (hA101.get (i := 40) (v := .pointer (some ⟨B1, 1, none⟩)))).cons (hA101.get (i := 37) (v := .bool true))).cons (hA101.get (i := 36) (v := .int .i64 (js.length : Int)))).cons (hA101.get (i := 35) (v := .slice A2 js.length c2))).cons (hA101.get (i := 34) (v := .pointer (some ⟨B1, 1, none⟩)))).cons (hA101.get (i := 33) (v := .int .i64 (k : Int)))).cons (hA101.get (i := 4) (v := .int .i64 (k : Int)))).cons (hA101.get (i := 1) (v := .pointer (some ⟨B1, 0, none⟩)))), Nat.zero_le _, (by simp [clash]), f36_104, hx58_105, Nat.le_refl _, hbel36_109⟩ ?_
  intro n102 a102 w102 hI102
  obtain ⟨m, hn102, hA102, q102_0, q102_1, f102_0, f102_1, hsz102, hbel102⟩ := hI102
  subst hn102
  clear hA101
  have hlB1_102 := f102_0.lt
  have hlB57_102 := f102_1.lt
  cases hd110 : decide ((m : Int) < (k : Int))
  · have hp110 := of_decide_eq_false hd110
    have hmk : m = k := by omega
    have hcl : clash js k x = false := by rw [← hmk]; exact q102_1
    refine wp_seq ?_
    refine wp_seq ?_
    refine wp_region_lit ?_
    refine sx_val hA102 rfl (ev_move (hA102.ev (i := 6) (v := .int .i64 (m : Int))) _ rfl) ?_
    intro a111 hA111; clear hA102
    refine sx_val hA111 rfl (ev_move (hA111.ev (i := 4) (v := .int .i64 (k : Int))) _ rfl) ?_
    intro a112 hA112; clear hA111
    refine sx_val (v := .bool false) hA112 rfl (ev_lssB (k := .i64) (m := (m : Int)) (n := (k : Int)) (hA112.ev (i := 57)) (hA112.ev (i := 58)) hd110 _ rfl) ?_
    intro a113 hA113; clear hA112
    refine sx_nil ?_
    refine then_n ?_
    refine wp_cond_false (hA113.ev (i := 59) (v := .bool false)) ?_
    refine wp_exit ?_
    refine then_x ?_
    refine then_x ?_
    refine blk_hit ?_
    refine then_n ?_
    refine wp_seq ?_
    refine wp_region_lit ?_
    refine sx_val (v := .pointer (some ⟨B57, 0, none⟩)) hA113 rfl (fb_Job_0 (hA113.ev (i := 5) (v := .pointer (some ⟨B57, 0, none⟩))) _ rfl) ?_
    intro a114 hA114; clear hA113
    refine sx_val (v := .bool x.wr) hA114 rfl (ev_cell (v := .bool x.wr) (hA114.ev (i := 83) (v := .pointer (some ⟨B57, 0, none⟩))) ((f102_1.cell 0).trans rfl) Try.underlying4 rfl _ rfl) ?_
    intro a115 hA115; clear hA114
    cases hd116 : x.wr
    rotate_left
    · rw [hd116] at hA115
      refine sx_val (v := .bool false) hA115 rfl (ev_notT (hA115.ev (i := 84) (v := .bool true)) _ rfl) ?_
      intro a133 hA133; clear hA115
      refine sx_val hA133 rfl (ev_move (hA133.ev (i := 85) (v := .bool false)) _ rfl) ?_
      intro a134 hA134; clear hA133
      refine sx_no (j := 3) (s := 86) (want := true) (b := false) hA134 rfl ?_
      intro a135 hA135; clear hA134
      refine sx_no (j := 3) (s := 86) (want := true) (b := false) hA135 rfl ?_
      intro a136 hA136; clear hA135
      refine sx_no (j := 3) (s := 86) (want := true) (b := false) hA136 rfl ?_
      intro a137 hA137; clear hA136
      refine sx_no (j := 3) (s := 86) (want := true) (b := false) hA137 rfl ?_
      intro a138 hA138; clear hA137
      refine sx_val hA138 rfl (ev_pickF (hA138.ev (i := 86) (v := .bool false)) (ec _ (.bool false)) _ rfl) ?_
      intro a139 hA139; clear hA138
      refine sx_nil ?_
      refine then_n ?_
      refine wp_cond_false (hA139.ev (i := 91) (v := .bool false)) ?_
      refine wp_skip ?_
      refine blk_n ?_
      refine then_n ?_
      refine wp_region_lit ?_
      refine sx_val hA139 rfl (ev_move (hA139.ev (i := 4) (v := .int .i64 (k : Int))) _ rfl) ?_
      intro a140 hA140; clear hA139
      refine sx_val (v := .int .i64 ((k + 1 : Nat) : Int)) hA140 rfl (ev_addR (k := .i64) (m := (k : Int)) (n := 1) (r := ((k + 1 : Nat) : Int)) (hA140.ev (i := 38)) (ec _ (.int .i64 1)) (wr (by omega) (by omega) (by omega)) _ rfl) ?_
      intro a141 hA141; clear hA140
      refine sx_val hA141 rfl (ev_assign (hA141.ev (i := 39) (v := .int .i64 ((k + 1 : Nat) : Int))) _ rfl) ?_
      intro a142 hA142; clear hA141
      refine sx_nil ?_
      refine then_n ?_
      refine ⟨js.length - (k + 1), by omega, k + 1, rfl, (((Ag.nil hA142.1 hA142.2.1).cons (hA142.get (i := 4) (v := .int .i64 ((k + 1 : Nat) : Int)))).cons (hA142.get (i := 1) (v := .pointer (some ⟨B1, 0, none⟩)))), by omega, by rw [q36_1, ckJ_step hx (by omega), if_neg (by rw [inR_eq]; simp [hd65, hd87]), if_neg (by rw [hcl]; decide), if_neg (by simp [clean, hd116])], f102_0, by omega, hbel102⟩
    rw [hd116] at hA115
    refine sx_val (v := .bool true) hA115 rfl (ev_notF (hA115.ev (i := 84) (v := .bool false)) _ rfl) ?_
    intro a117 hA117; clear hA115
    refine sx_val hA117 rfl (ev_move (hA117.ev (i := 85) (v := .bool true)) _ rfl) ?_
    intro a118 hA118; clear hA117
    refine sx_val (hg := (.inr ⟨3, true, 86, rfl, rfl, by kernel_rfl⟩)) (v := .pointer (some ⟨B57, 3, none⟩)) hA118 rfl (fb_Job_3 (hA118.ev (i := 5) (v := .pointer (some ⟨B57, 0, none⟩))) _ rfl) ?_
    intro a119 hA119; clear hA118
    refine sx_val (hg := (.inr ⟨3, true, 86, rfl, rfl, by kernel_rfl⟩)) (v := .agg x.data.va) hA119 rfl (ev_loadR (cs := x.data.va) (n := 8) (hA119.ev (i := 87) (v := .pointer (some ⟨B57, 3, none⟩))) (jb_part f102_1) Try.underlying28 rfl (by kernel_rfl) rfl _ rfl) ?_
    intro a120 hA120; clear hA119
    refine sx_val (hg := (.inr ⟨3, true, 86, rfl, rfl, by kernel_rfl⟩)) (v := .agg Ct.zero.va) hA120 rfl (bd0_Content _ rfl) ?_
    intro a121 hA121; clear hA120
    cases hd122 : (x.data == Ct.zero)
    rotate_left
    · refine sx_val (hg := (.inr ⟨3, true, 86, rfl, rfl, by kernel_rfl⟩)) (v := .bool false) hA121 rfl (ev_neCB (a := x.data) (b := Ct.zero) (r := false) (hA121.ev (i := 88) (v := .agg x.data.va)) (hA121.ev (i := 89) (v := .agg Ct.zero.va)) hd122 _ rfl) ?_
      intro a128 hA128; clear hA121
      refine sx_val hA128 rfl (ev_pickT (hA128.ev (i := 86) (v := .bool true)) (hA128.ev (i := 90) (v := .bool false)) _ rfl) ?_
      intro a129 hA129; clear hA128
      refine sx_nil ?_
      refine then_n ?_
      refine wp_cond_false (hA129.ev (i := 91) (v := .bool false)) ?_
      refine wp_skip ?_
      refine blk_n ?_
      refine then_n ?_
      refine wp_region_lit ?_
      refine sx_val hA129 rfl (ev_move (hA129.ev (i := 4) (v := .int .i64 (k : Int))) _ rfl) ?_
      intro a130 hA130; clear hA129
      refine sx_val (v := .int .i64 ((k + 1 : Nat) : Int)) hA130 rfl (ev_addR (k := .i64) (m := (k : Int)) (n := 1) (r := ((k + 1 : Nat) : Int)) (hA130.ev (i := 38)) (ec _ (.int .i64 1)) (wr (by omega) (by omega) (by omega)) _ rfl) ?_
      intro a131 hA131; clear hA130
      refine sx_val hA131 rfl (ev_assign (hA131.ev (i := 39) (v := .int .i64 ((k + 1 : Nat) : Int))) _ rfl) ?_
      intro a132 hA132; clear hA131
      refine sx_nil ?_
      refine then_n ?_
      refine ⟨js.length - (k + 1), by omega, k + 1, rfl, (((Ag.nil hA132.1 hA132.2.1).cons (hA132.get (i := 4) (v := .int .i64 ((k + 1 : Nat) : Int)))).cons (hA132.get (i := 1) (v := .pointer (some ⟨B1, 0, none⟩)))), by omega, by rw [q36_1, ckJ_step hx (by omega), if_neg (by rw [inR_eq]; simp [hd65, hd87]), if_neg (by rw [hcl]; decide), if_neg (by simp [clean, hd116, hd122])], f102_0, by omega, hbel102⟩
    refine sx_val (hg := (.inr ⟨3, true, 86, rfl, rfl, by kernel_rfl⟩)) (v := .bool true) hA121 rfl (ev_neCB (a := x.data) (b := Ct.zero) (r := true) (hA121.ev (i := 88) (v := .agg x.data.va)) (hA121.ev (i := 89) (v := .agg Ct.zero.va)) hd122 _ rfl) ?_
    intro a123 hA123; clear hA121
    refine sx_val hA123 rfl (ev_pickT (hA123.ev (i := 86) (v := .bool true)) (hA123.ev (i := 90) (v := .bool true)) _ rfl) ?_
    intro a124 hA124; clear hA123
    refine sx_nil ?_
    refine then_n ?_
    refine wp_cond_true (hA124.ev (i := 91) (v := .bool true)) ?_
    refine wp_seq ?_
    refine wp_region_lit ?_
    refine sx_val hA124 rfl (ev_move (hA124.ev (i := 4) (v := .int .i64 (k : Int))) _ rfl) ?_
    intro a125 hA125; clear hA124
    refine sx_val hA125 rfl (ev_assign (ec _ (.int .i64 3)) _ rfl) ?_
    intro a126 hA126; clear hA125
    refine sx_val hA126 rfl (ev_assign (hA126.ev (i := 92) (v := .int .i64 (k : Int))) _ rfl) ?_
    intro a127 hA127; clear hA126
    refine sx_nil ?_
    refine then_n ?_
    refine wp_ret ?_
    refine blk_r ?_
    refine then_r ?_
    refine then_r ?_
    refine blk_r ?_
    refine then_r ?_
    refine bodyPost_ret (rs_tt (v := .int .i64 3) (v2 := .int .i64 (k : Int)) Try.results25 hA127 (by kernel_rfl) (by kernel_rfl) ) hA127.2.1 ?_
    have E : chk ⟨cs, js, room⟩ = (3, (k : Int)) := by
      rw [q36_1, ckJ_step hx (by omega), if_neg (by rw [inR_eq]; simp [hd65, hd87]), if_neg (by rw [hcl]; decide), if_pos (by simp [clean, hd116, hd122])]
    exact ⟨ret2 (by rw [E]), hbel102⟩
  have hp110 := of_decide_eq_true hd110
  obtain ⟨y, hy⟩ : ∃ y, js[m]? = some y := ⟨_, List.getElem?_eq_getElem (by omega)⟩
  refine wp_seq ?_
  refine wp_seq ?_
  refine wp_region_lit ?_
  refine sx_val hA102 rfl (ev_move (hA102.ev (i := 6) (v := .int .i64 (m : Int))) _ rfl) ?_
  intro a143 hA143; clear hA102
  refine sx_val hA143 rfl (ev_move (hA143.ev (i := 4) (v := .int .i64 (k : Int))) _ rfl) ?_
  intro a144 hA144; clear hA143
  refine sx_val (v := .bool true) hA144 rfl (ev_lssB (k := .i64) (m := (m : Int)) (n := (k : Int)) (hA144.ev (i := 57)) (hA144.ev (i := 58)) hd110 _ rfl) ?_
  intro a145 hA145; clear hA144
  refine sx_nil ?_
  refine then_n ?_
  refine wp_cond_true (hA145.ev (i := 59) (v := .bool true)) ?_
  refine wp_skip ?_
  refine then_n ?_
  refine wp_seq ?_
  refine wp_block ?_
  refine wp_seq ?_
  cases hd146 : decide (y.slot = x.slot)
  rotate_left
  · have hp146 := of_decide_eq_true hd146
    refine region_D (n := 20) (by kernel_rfl) (by kernel_rfl) rfl (fun L ac wc => Below w.heap.size w wc ∧ w102.heap.size ≤ wc.heap.size ∧ Bx wc B1 25 (#[.slice A1 cs.length c1, .slice A2 js.length c2, .int .i64 room]) ∧ Bx wc B57 38 x.va ∧ (L 0 = true → Sv ac 62 (.pointer (some ⟨B1, 1, none⟩))) ∧ (L 1 = true → Sv ac 63 (.slice A2 js.length c2)) ∧ (L 2 = true → Sv ac 64 (.int .i64 (m : Int))) ∧ (L 3 = true → Sv ac 65 (.pointer (some (ad54.add (m * 11))))) ∧ (L 4 = true → Sv ac 66 (.pointer (some ((ad54.add (m * 11)).add 1)))) ∧ (L 5 = true → Sv ac 67 (.int .i64 y.slot)) ∧ (L 6 = true → Sv ac 68 (.pointer (some ⟨B57, 1, none⟩))) ∧ (L 7 = true → Sv ac 69 (.int .i64 x.slot)) ∧ (L 8 = true → Sv ac 70 (.bool true)) ∧ (L 9 = true → Sv ac 71 (.bool true)) ∧ (L 19 = true → Sv ac 81 (.bool true))) ⟨(Below.gN hbel102 (gdr _) hbel102.size), (Nat.le_refl _), (f102_0.gN (gdr _)), (f102_1.gN (gdr _)), (fun h => by cases h), (fun h => by cases h), (fun h => by cases h), (fun h => by cases h), (fun h => by cases h), (fun h => by cases h), (fun h => by cases h), (fun h => by cases h), (fun h => by cases h), (fun h => by cases h), (fun h => by cases h)⟩ ?_ ?_
    · intro iq hiq o ho L hL hdep ac wc hF hJ
      obtain ⟨bl, sz, b_B1, b_B57, s_62, s_63, s_64, s_65, s_66, s_67, s_68, s_69, s_70, s_71, s_81⟩ := hJ
      have z := hF.1.trans hA145.1
      match iq, hiq with
      | 0, _ =>
        obtain rfl := Option.some.inj (show some _ = some o from ho); clear ho
        have v1 := hF.sv (s := 1) (by kernel_rfl) (hA145.get (i := 1) (v := .pointer (some ⟨B1, 0, none⟩)))
        refine dj_val (i := 0) (v := .pointer (some ⟨B1, 1, none⟩)) rfl (.inl rfl) (fb_Disk_1 v1.eval _ rfl) ?_
        exact ⟨⟨_, rfl⟩, bl, sz, b_B1, b_B57, (fun _ => Sv.self (by rw [z]; decide) _), (so s_63), (so s_64), (so s_65), (so s_66), (so s_67), (so s_68), (so s_69), (so s_70), (so s_71), (so s_81)⟩
      | 1, _ =>
        obtain rfl := Option.some.inj (show some _ = some o from ho); clear ho
        have v62 := s_62 (dp hdep 0)
        refine dj_val (i := 1) (v := .slice A2 js.length c2) rfl (.inl rfl) (ev_cell (v := .slice A2 js.length c2) v62.eval ((b_B1.cell 1).trans rfl) Try.underlying23 rfl _ rfl) ?_
        exact ⟨⟨_, rfl⟩, bl, sz, b_B1, b_B57, (so s_62), (fun _ => Sv.self (by rw [z]; decide) _), (so s_64), (so s_65), (so s_66), (so s_67), (so s_68), (so s_69), (so s_70), (so s_71), (so s_81)⟩
      | 2, _ =>
        obtain rfl := Option.some.inj (show some _ = some o from ho); clear ho
        have v6 := hF.sv (s := 6) (by kernel_rfl) (hA145.get (i := 6) (v := .int .i64 (m : Int)))
        refine dj_val (i := 2) (v := .int .i64 (m : Int)) rfl (.inl rfl) (ev_move v6.eval _ rfl) ?_
        exact ⟨⟨_, rfl⟩, bl, sz, b_B1, b_B57, (so s_62), (so s_63), (fun _ => Sv.self (by rw [z]; decide) _), (so s_65), (so s_66), (so s_67), (so s_68), (so s_69), (so s_70), (so s_71), (so s_81)⟩
      | 3, _ =>
        obtain rfl := Option.some.inj (show some _ = some o from ho); clear ho
        have v63 := s_63 (dp hdep 1)
        have v64 := s_64 (dp hdep 2)
        refine dj_val (i := 3) (v := .pointer (some (ad54.add (m * 11)))) rfl (.inl rfl) (ev_idx (k := m) v63.eval hAd54 v64.eval rfl (by omega) Try.underlying23 (by kernel_rfl) _ rfl) ?_
        exact ⟨⟨_, rfl⟩, bl, sz, b_B1, b_B57, (so s_62), (so s_63), (so s_64), (fun _ => Sv.self (by rw [z]; decide) _), (so s_66), (so s_67), (so s_68), (so s_69), (so s_70), (so s_71), (so s_81)⟩
      | 4, _ =>
        obtain rfl := Option.some.inj (show some _ = some o from ho); clear ho
        have v65 := s_65 (dp hdep 3)
        refine dj_val (i := 4) (v := .pointer (some ((ad54.add (m * 11)).add 1))) rfl (.inl rfl) (fa_Job_1 v65.eval _ rfl) ?_
        exact ⟨⟨_, rfl⟩, bl, sz, b_B1, b_B57, (so s_62), (so s_63), (so s_64), (so s_65), (fun _ => Sv.self (by rw [z]; decide) _), (so s_67), (so s_68), (so s_69), (so s_70), (so s_71), (so s_81)⟩
      | 5, _ =>
        obtain rfl := Option.some.inj (show some _ = some o from ho); clear ho
        have v66 := s_66 (dp hdep 4)
        refine dj_val (i := 5) (v := .int .i64 y.slot) rfl (.inl rfl) (ev_cell v66.eval ((GR.cel (hd.j.below bl) hAd54 jb_sz hy) 1 _ rfl) Try.underlying3 rfl _ rfl) ?_
        exact ⟨⟨_, rfl⟩, bl, sz, b_B1, b_B57, (so s_62), (so s_63), (so s_64), (so s_65), (so s_66), (fun _ => Sv.self (by rw [z]; decide) _), (so s_68), (so s_69), (so s_70), (so s_71), (so s_81)⟩
      | 6, _ =>
        obtain rfl := Option.some.inj (show some _ = some o from ho); clear ho
        have v5 := hF.sv (s := 5) (by kernel_rfl) (hA145.get (i := 5) (v := .pointer (some ⟨B57, 0, none⟩)))
        refine dj_val (i := 6) (v := .pointer (some ⟨B57, 1, none⟩)) rfl (.inl rfl) (fb_Job_1 v5.eval _ rfl) ?_
        exact ⟨⟨_, rfl⟩, bl, sz, b_B1, b_B57, (so s_62), (so s_63), (so s_64), (so s_65), (so s_66), (so s_67), (fun _ => Sv.self (by rw [z]; decide) _), (so s_69), (so s_70), (so s_71), (so s_81)⟩
      | 7, _ =>
        obtain rfl := Option.some.inj (show some _ = some o from ho); clear ho
        have v68 := s_68 (dp hdep 6)
        refine dj_val (i := 7) (v := .int .i64 x.slot) rfl (.inl rfl) (ev_cell (v := .int .i64 x.slot) v68.eval ((b_B57.cell 1).trans rfl) Try.underlying3 rfl _ rfl) ?_
        exact ⟨⟨_, rfl⟩, bl, sz, b_B1, b_B57, (so s_62), (so s_63), (so s_64), (so s_65), (so s_66), (so s_67), (so s_68), (fun _ => Sv.self (by rw [z]; decide) _), (so s_70), (so s_71), (so s_81)⟩
      | 8, _ =>
        obtain rfl := Option.some.inj (show some _ = some o from ho); clear ho
        have v67 := s_67 (dp hdep 5)
        have v69 := s_69 (dp hdep 7)
        refine dj_val (i := 8) (v := .bool true) rfl (.inl rfl) (ev_eqlB (k := .i64) (m := y.slot) (n := x.slot) v67.eval v69.eval hd146 _ rfl) ?_
        exact ⟨⟨_, rfl⟩, bl, sz, b_B1, b_B57, (so s_62), (so s_63), (so s_64), (so s_65), (so s_66), (so s_67), (so s_68), (so s_69), (fun _ => Sv.self (by rw [z]; decide) _), (so s_71), (so s_81)⟩
      | 9, _ =>
        obtain rfl := Option.some.inj (show some _ = some o from ho); clear ho
        have v70 := s_70 (dp hdep 8)
        refine dj_val (i := 9) (v := .bool true) rfl (.inl rfl) (ev_move v70.eval _ rfl) ?_
        exact ⟨⟨_, rfl⟩, bl, sz, b_B1, b_B57, (so s_62), (so s_63), (so s_64), (so s_65), (so s_66), (so s_67), (so s_68), (so s_69), (so s_70), (fun _ => Sv.self (by rw [z]; decide) _), (so s_81)⟩
      | 10, _ =>
        obtain rfl := Option.some.inj (show some _ = some o from ho); clear ho
        have v71 := s_71 (dp hdep 9)
        refine dj_no (i := 10) rfl (j := 9) (s := 71) (want := false) (b := true) rfl (by kernel_rfl) v71 rfl ?_
        exact ⟨⟨_, rfl⟩, bl, sz, b_B1, b_B57, (so s_62), (so s_63), (so s_64), (so s_65), (so s_66), (so s_67), (so s_68), (so s_69), (so s_70), (so s_71), (so s_81)⟩
      | 11, _ =>
        obtain rfl := Option.some.inj (show some _ = some o from ho); clear ho
        have v71 := s_71 (dp hdep 9)
        refine dj_no (i := 11) rfl (j := 9) (s := 71) (want := false) (b := true) rfl (by kernel_rfl) v71 rfl ?_
        exact ⟨⟨_, rfl⟩, bl, sz, b_B1, b_B57, (so s_62), (so s_63), (so s_64), (so s_65), (so s_66), (so s_67), (so s_68), (so s_69), (so s_70), (so s_71), (so s_81)⟩
      | 12, _ =>
        obtain rfl := Option.some.inj (show some _ = some o from ho); clear ho
        have v71 := s_71 (dp hdep 9)
        refine dj_no (i := 12) rfl (j := 9) (s := 71) (want := false) (b := true) rfl (by kernel_rfl) v71 rfl ?_
        exact ⟨⟨_, rfl⟩, bl, sz, b_B1, b_B57, (so s_62), (so s_63), (so s_64), (so s_65), (so s_66), (so s_67), (so s_68), (so s_69), (so s_70), (so s_71), (so s_81)⟩
      | 13, _ =>
        obtain rfl := Option.some.inj (show some _ = some o from ho); clear ho
        have v71 := s_71 (dp hdep 9)
        refine dj_no (i := 13) rfl (j := 9) (s := 71) (want := false) (b := true) rfl (by kernel_rfl) v71 rfl ?_
        exact ⟨⟨_, rfl⟩, bl, sz, b_B1, b_B57, (so s_62), (so s_63), (so s_64), (so s_65), (so s_66), (so s_67), (so s_68), (so s_69), (so s_70), (so s_71), (so s_81)⟩
      | 14, _ =>
        obtain rfl := Option.some.inj (show some _ = some o from ho); clear ho
        have v71 := s_71 (dp hdep 9)
        refine dj_no (i := 14) rfl (j := 9) (s := 71) (want := false) (b := true) rfl (by kernel_rfl) v71 rfl ?_
        exact ⟨⟨_, rfl⟩, bl, sz, b_B1, b_B57, (so s_62), (so s_63), (so s_64), (so s_65), (so s_66), (so s_67), (so s_68), (so s_69), (so s_70), (so s_71), (so s_81)⟩
      | 15, _ =>
        obtain rfl := Option.some.inj (show some _ = some o from ho); clear ho
        have v71 := s_71 (dp hdep 9)
        refine dj_no (i := 15) rfl (j := 9) (s := 71) (want := false) (b := true) rfl (by kernel_rfl) v71 rfl ?_
        exact ⟨⟨_, rfl⟩, bl, sz, b_B1, b_B57, (so s_62), (so s_63), (so s_64), (so s_65), (so s_66), (so s_67), (so s_68), (so s_69), (so s_70), (so s_71), (so s_81)⟩
      | 16, _ =>
        obtain rfl := Option.some.inj (show some _ = some o from ho); clear ho
        have v71 := s_71 (dp hdep 9)
        refine dj_no (i := 16) rfl (j := 9) (s := 71) (want := false) (b := true) rfl (by kernel_rfl) v71 rfl ?_
        exact ⟨⟨_, rfl⟩, bl, sz, b_B1, b_B57, (so s_62), (so s_63), (so s_64), (so s_65), (so s_66), (so s_67), (so s_68), (so s_69), (so s_70), (so s_71), (so s_81)⟩
      | 17, _ =>
        obtain rfl := Option.some.inj (show some _ = some o from ho); clear ho
        have v71 := s_71 (dp hdep 9)
        refine dj_no (i := 17) rfl (j := 9) (s := 71) (want := false) (b := true) rfl (by kernel_rfl) v71 rfl ?_
        exact ⟨⟨_, rfl⟩, bl, sz, b_B1, b_B57, (so s_62), (so s_63), (so s_64), (so s_65), (so s_66), (so s_67), (so s_68), (so s_69), (so s_70), (so s_71), (so s_81)⟩
      | 18, _ =>
        obtain rfl := Option.some.inj (show some _ = some o from ho); clear ho
        have v71 := s_71 (dp hdep 9)
        refine dj_no (i := 18) rfl (j := 9) (s := 71) (want := false) (b := true) rfl (by kernel_rfl) v71 rfl ?_
        exact ⟨⟨_, rfl⟩, bl, sz, b_B1, b_B57, (so s_62), (so s_63), (so s_64), (so s_65), (so s_66), (so s_67), (so s_68), (so s_69), (so s_70), (so s_71), (so s_81)⟩
      | 19, _ =>
        obtain rfl := Option.some.inj (show some _ = some o from ho); clear ho
        have v71 := s_71 (dp hdep 9)
        refine dj_val (i := 19) (v := .bool true) rfl (.inl rfl) (ev_pickT v71.eval (ec ac (.bool true)) _ rfl) ?_
        exact ⟨⟨_, rfl⟩, bl, sz, b_B1, b_B57, (so s_62), (so s_63), (so s_64), (so s_65), (so s_66), (so s_67), (so s_68), (so s_69), (so s_70), (so s_71), (fun _ => Sv.self (by rw [z]; decide) _)⟩
      | k + 20, h => exact absurd h (by omega)
    · intro L hall ac156 wc156 hF hJ
      obtain ⟨bl, sz, b_B1, b_B57, s_62, s_63, s_64, s_65, s_66, s_67, s_68, s_69, s_70, s_71, s_81⟩ := hJ
      have hA156 : Ag ac156 93 [(1, .pointer (some ⟨B1, 0, none⟩)), (4, .int .i64 (k : Int)), (33, .int .i64 (k : Int)), (34, .pointer (some ⟨B1, 1, none⟩)), (35, .slice A2 js.length c2), (36, .int .i64 (js.length : Int)), (37, .bool true), (40, .pointer (some ⟨B1, 1, none⟩)), (41, .slice A2 js.length c2), (42, .int .i64 (k : Int)), (43, .pointer (some (ad54.add (k * 11)))), (44, .agg x.va), (5, .pointer (some ⟨B57, 0, none⟩)), (45, .agg #[.slice A1 cs.length c1, .slice A2 js.length c2, .int .i64 room]), (46, .pointer (some ⟨B57, 1, none⟩)), (47, .int .i64 x.slot), (48, .bool true), (49, .bool false), (50, .bool false), (51, .pointer (some ⟨B57, 2, none⟩)), (52, .int .i64 x.frame), (53, .bool true), (54, .bool false), (55, .bool false), (6, .int .i64 (m : Int)), (57, .int .i64 (m : Int)), (58, .int .i64 (k : Int)), (59, .bool true), (62, .pointer (some ⟨B1, 1, none⟩)), (63, .slice A2 js.length c2), (64, .int .i64 (m : Int)), (65, .pointer (some (ad54.add (m * 11)))), (66, .pointer (some ((ad54.add (m * 11)).add 1))), (67, .int .i64 y.slot), (68, .pointer (some ⟨B57, 1, none⟩)), (69, .int .i64 x.slot), (70, .bool true), (71, .bool true), (81, .bool true)] := ((((((((((((((((((((((((((((((((((((((((Ag.nil (hF.1.trans hA145.1) (hF.2.1.trans hA145.2.1)).cons (s_81 (hall 19 (by decide)))).cons (s_71 (hall 9 (by decide)))).cons (s_70 (hall 8 (by decide)))).cons (s_69 (hall 7 (by decide)))).cons (s_68 (hall 6 (by decide)))).cons (s_67 (hall 5 (by decide)))).cons (s_66 (hall 4 (by decide)))).cons (s_65 (hall 3 (by decide)))).cons (s_64 (hall 2 (by decide)))).cons (s_63 (hall 1 (by decide)))).cons (s_62 (hall 0 (by decide)))).cons (hF.sv (s := 59) (by kernel_rfl) (hA145.get (i := 59) (v := .bool true)))).cons (hF.sv (s := 58) (by kernel_rfl) (hA145.get (i := 58) (v := .int .i64 (k : Int))))).cons (hF.sv (s := 57) (by kernel_rfl) (hA145.get (i := 57) (v := .int .i64 (m : Int))))).cons (hF.sv (s := 6) (by kernel_rfl) (hA145.get (i := 6) (v := .int .i64 (m : Int))))).cons (hF.sv (s := 55) (by kernel_rfl) (hA145.get (i := 55) (v := .bool false)))).cons (hF.sv (s := 54) (by kernel_rfl) (hA145.get (i := 54) (v := .bool false)))).cons (hF.sv (s := 53) (by kernel_rfl) (hA145.get (i := 53) (v := .bool true)))).cons (hF.sv (s := 52) (by kernel_rfl) (hA145.get (i := 52) (v := .int .i64 x.frame)))).cons (hF.sv (s := 51) (by kernel_rfl) (hA145.get (i := 51) (v := .pointer (some ⟨B57, 2, none⟩))))).cons (hF.sv (s := 50) (by kernel_rfl) (hA145.get (i := 50) (v := .bool false)))).cons (hF.sv (s := 49) (by kernel_rfl) (hA145.get (i := 49) (v := .bool false)))).cons (hF.sv (s := 48) (by kernel_rfl) (hA145.get (i := 48) (v := .bool true)))).cons (hF.sv (s := 47) (by kernel_rfl) (hA145.get (i := 47) (v := .int .i64 x.slot)))).cons (hF.sv (s := 46) (by kernel_rfl) (hA145.get (i := 46) (v := .pointer (some ⟨B57, 1, none⟩))))).cons (hF.sv (s := 45) (by kernel_rfl) (hA145.get (i := 45) (v := .agg #[.slice A1 cs.length c1, .slice A2 js.length c2, .int .i64 room])))).cons (hF.sv (s := 5) (by kernel_rfl) (hA145.get (i := 5) (v := .pointer (some ⟨B57, 0, none⟩))))).cons (hF.sv (s := 44) (by kernel_rfl) (hA145.get (i := 44) (v := .agg x.va)))).cons (hF.sv (s := 43) (by kernel_rfl) (hA145.get (i := 43) (v := .pointer (some (ad54.add (k * 11))))))).cons (hF.sv (s := 42) (by kernel_rfl) (hA145.get (i := 42) (v := .int .i64 (k : Int))))).cons (hF.sv (s := 41) (by kernel_rfl) (hA145.get (i := 41) (v := .slice A2 js.length c2)))).cons (hF.sv (s := 40) (by kernel_rfl) (hA145.get (i := 40) (v := .pointer (some ⟨B1, 1, none⟩))))).cons (hF.sv (s := 37) (by kernel_rfl) (hA145.get (i := 37) (v := .bool true)))).cons (hF.sv (s := 36) (by kernel_rfl) (hA145.get (i := 36) (v := .int .i64 (js.length : Int))))).cons (hF.sv (s := 35) (by kernel_rfl) (hA145.get (i := 35) (v := .slice A2 js.length c2)))).cons (hF.sv (s := 34) (by kernel_rfl) (hA145.get (i := 34) (v := .pointer (some ⟨B1, 1, none⟩))))).cons (hF.sv (s := 33) (by kernel_rfl) (hA145.get (i := 33) (v := .int .i64 (k : Int))))).cons (hF.sv (s := 4) (by kernel_rfl) (hA145.get (i := 4) (v := .int .i64 (k : Int))))).cons (hF.sv (s := 1) (by kernel_rfl) (hA145.get (i := 1) (v := .pointer (some ⟨B1, 0, none⟩)))))
      have bl156 := bl
      have sz156 := sz
      have b156_B1 := b_B1
      have b156_B57 := b_B57
      clear hF bl sz b_B1 b_B57 s_62 s_63 s_64 s_65 s_66 s_67 s_68 s_69 s_70 s_71 s_81 hall hA145
      refine then_n ?_
      refine wp_cond_true (hA156.ev (i := 81) (v := .bool true)) ?_
      refine wp_seq ?_
      refine wp_region_lit ?_
      refine sx_val hA156 rfl (ev_move (hA156.ev (i := 4) (v := .int .i64 (k : Int))) _ rfl) ?_
      intro a157 hA157; clear hA156
      refine sx_val hA157 rfl (ev_assign (ec _ (.int .i64 10)) _ rfl) ?_
      intro a158 hA158; clear hA157
      refine sx_val hA158 rfl (ev_assign (hA158.ev (i := 82) (v := .int .i64 (k : Int))) _ rfl) ?_
      intro a159 hA159; clear hA158
      refine sx_nil ?_
      refine then_n ?_
      refine wp_ret ?_
      refine blk_r ?_
      refine then_r ?_
      refine then_r ?_
      refine blk_r ?_
      refine then_r ?_
      refine blk_r ?_
      refine then_r ?_
      refine then_r ?_
      refine blk_r ?_
      refine then_r ?_
      refine bodyPost_ret (rs_tt (v := .int .i64 10) (v2 := .int .i64 (k : Int)) Try.results25 hA159 (by kernel_rfl) (by kernel_rfl) ) hA159.2.1 ?_
      have E : chk ⟨cs, js, room⟩ = (10, (k : Int)) := by
        rw [q36_1, ckJ_step hx (by omega), if_neg (by rw [inR_eq]; simp [hd65, hd87]), if_pos (clash_hit hy (by omega) (by simp [hits, hp146]))]
      exact ⟨ret2 (by rw [E]), bl156⟩
  have hp146 := of_decide_eq_false hd146
  cases hd147 : decide (y.frame = x.frame)
  rotate_left
  · have hp147 := of_decide_eq_true hd147
    refine region_D (n := 20) (by kernel_rfl) (by kernel_rfl) rfl (fun L ac wc => Below w.heap.size w wc ∧ w102.heap.size ≤ wc.heap.size ∧ Bx wc B1 25 (#[.slice A1 cs.length c1, .slice A2 js.length c2, .int .i64 room]) ∧ Bx wc B57 38 x.va ∧ (L 0 = true → Sv ac 62 (.pointer (some ⟨B1, 1, none⟩))) ∧ (L 1 = true → Sv ac 63 (.slice A2 js.length c2)) ∧ (L 2 = true → Sv ac 64 (.int .i64 (m : Int))) ∧ (L 3 = true → Sv ac 65 (.pointer (some (ad54.add (m * 11))))) ∧ (L 4 = true → Sv ac 66 (.pointer (some ((ad54.add (m * 11)).add 1)))) ∧ (L 5 = true → Sv ac 67 (.int .i64 y.slot)) ∧ (L 6 = true → Sv ac 68 (.pointer (some ⟨B57, 1, none⟩))) ∧ (L 7 = true → Sv ac 69 (.int .i64 x.slot)) ∧ (L 8 = true → Sv ac 70 (.bool false)) ∧ (L 9 = true → Sv ac 71 (.bool false)) ∧ (L 10 = true → Sv ac 72 (.pointer (some ⟨B1, 1, none⟩))) ∧ (L 11 = true → Sv ac 73 (.slice A2 js.length c2)) ∧ (L 12 = true → Sv ac 74 (.int .i64 (m : Int))) ∧ (L 13 = true → Sv ac 75 (.pointer (some (ad54.add (m * 11))))) ∧ (L 14 = true → Sv ac 76 (.pointer (some ((ad54.add (m * 11)).add 2)))) ∧ (L 15 = true → Sv ac 77 (.int .i64 y.frame)) ∧ (L 16 = true → Sv ac 78 (.pointer (some ⟨B57, 2, none⟩))) ∧ (L 17 = true → Sv ac 79 (.int .i64 x.frame)) ∧ (L 18 = true → Sv ac 80 (.bool true)) ∧ (L 19 = true → Sv ac 81 (.bool true))) ⟨(Below.gN hbel102 (gdr _) hbel102.size), (Nat.le_refl _), (f102_0.gN (gdr _)), (f102_1.gN (gdr _)), (fun h => by cases h), (fun h => by cases h), (fun h => by cases h), (fun h => by cases h), (fun h => by cases h), (fun h => by cases h), (fun h => by cases h), (fun h => by cases h), (fun h => by cases h), (fun h => by cases h), (fun h => by cases h), (fun h => by cases h), (fun h => by cases h), (fun h => by cases h), (fun h => by cases h), (fun h => by cases h), (fun h => by cases h), (fun h => by cases h), (fun h => by cases h), (fun h => by cases h)⟩ ?_ ?_
    · intro iq hiq o ho L hL hdep ac wc hF hJ
      obtain ⟨bl, sz, b_B1, b_B57, s_62, s_63, s_64, s_65, s_66, s_67, s_68, s_69, s_70, s_71, s_72, s_73, s_74, s_75, s_76, s_77, s_78, s_79, s_80, s_81⟩ := hJ
      have z := hF.1.trans hA145.1
      match iq, hiq with
      | 0, _ =>
        obtain rfl := Option.some.inj (show some _ = some o from ho); clear ho
        have v1 := hF.sv (s := 1) (by kernel_rfl) (hA145.get (i := 1) (v := .pointer (some ⟨B1, 0, none⟩)))
        refine dj_val (i := 0) (v := .pointer (some ⟨B1, 1, none⟩)) rfl (.inl rfl) (fb_Disk_1 v1.eval _ rfl) ?_
        exact ⟨⟨_, rfl⟩, bl, sz, b_B1, b_B57, (fun _ => Sv.self (by rw [z]; decide) _), (so s_63), (so s_64), (so s_65), (so s_66), (so s_67), (so s_68), (so s_69), (so s_70), (so s_71), (so s_72), (so s_73), (so s_74), (so s_75), (so s_76), (so s_77), (so s_78), (so s_79), (so s_80), (so s_81)⟩
      | 1, _ =>
        obtain rfl := Option.some.inj (show some _ = some o from ho); clear ho
        have v62 := s_62 (dp hdep 0)
        refine dj_val (i := 1) (v := .slice A2 js.length c2) rfl (.inl rfl) (ev_cell (v := .slice A2 js.length c2) v62.eval ((b_B1.cell 1).trans rfl) Try.underlying23 rfl _ rfl) ?_
        exact ⟨⟨_, rfl⟩, bl, sz, b_B1, b_B57, (so s_62), (fun _ => Sv.self (by rw [z]; decide) _), (so s_64), (so s_65), (so s_66), (so s_67), (so s_68), (so s_69), (so s_70), (so s_71), (so s_72), (so s_73), (so s_74), (so s_75), (so s_76), (so s_77), (so s_78), (so s_79), (so s_80), (so s_81)⟩
      | 2, _ =>
        obtain rfl := Option.some.inj (show some _ = some o from ho); clear ho
        have v6 := hF.sv (s := 6) (by kernel_rfl) (hA145.get (i := 6) (v := .int .i64 (m : Int)))
        refine dj_val (i := 2) (v := .int .i64 (m : Int)) rfl (.inl rfl) (ev_move v6.eval _ rfl) ?_
        exact ⟨⟨_, rfl⟩, bl, sz, b_B1, b_B57, (so s_62), (so s_63), (fun _ => Sv.self (by rw [z]; decide) _), (so s_65), (so s_66), (so s_67), (so s_68), (so s_69), (so s_70), (so s_71), (so s_72), (so s_73), (so s_74), (so s_75), (so s_76), (so s_77), (so s_78), (so s_79), (so s_80), (so s_81)⟩
      | 3, _ =>
        obtain rfl := Option.some.inj (show some _ = some o from ho); clear ho
        have v63 := s_63 (dp hdep 1)
        have v64 := s_64 (dp hdep 2)
        refine dj_val (i := 3) (v := .pointer (some (ad54.add (m * 11)))) rfl (.inl rfl) (ev_idx (k := m) v63.eval hAd54 v64.eval rfl (by omega) Try.underlying23 (by kernel_rfl) _ rfl) ?_
        exact ⟨⟨_, rfl⟩, bl, sz, b_B1, b_B57, (so s_62), (so s_63), (so s_64), (fun _ => Sv.self (by rw [z]; decide) _), (so s_66), (so s_67), (so s_68), (so s_69), (so s_70), (so s_71), (so s_72), (so s_73), (so s_74), (so s_75), (so s_76), (so s_77), (so s_78), (so s_79), (so s_80), (so s_81)⟩
      | 4, _ =>
        obtain rfl := Option.some.inj (show some _ = some o from ho); clear ho
        have v65 := s_65 (dp hdep 3)
        refine dj_val (i := 4) (v := .pointer (some ((ad54.add (m * 11)).add 1))) rfl (.inl rfl) (fa_Job_1 v65.eval _ rfl) ?_
        exact ⟨⟨_, rfl⟩, bl, sz, b_B1, b_B57, (so s_62), (so s_63), (so s_64), (so s_65), (fun _ => Sv.self (by rw [z]; decide) _), (so s_67), (so s_68), (so s_69), (so s_70), (so s_71), (so s_72), (so s_73), (so s_74), (so s_75), (so s_76), (so s_77), (so s_78), (so s_79), (so s_80), (so s_81)⟩
      | 5, _ =>
        obtain rfl := Option.some.inj (show some _ = some o from ho); clear ho
        have v66 := s_66 (dp hdep 4)
        refine dj_val (i := 5) (v := .int .i64 y.slot) rfl (.inl rfl) (ev_cell v66.eval ((GR.cel (hd.j.below bl) hAd54 jb_sz hy) 1 _ rfl) Try.underlying3 rfl _ rfl) ?_
        exact ⟨⟨_, rfl⟩, bl, sz, b_B1, b_B57, (so s_62), (so s_63), (so s_64), (so s_65), (so s_66), (fun _ => Sv.self (by rw [z]; decide) _), (so s_68), (so s_69), (so s_70), (so s_71), (so s_72), (so s_73), (so s_74), (so s_75), (so s_76), (so s_77), (so s_78), (so s_79), (so s_80), (so s_81)⟩
      | 6, _ =>
        obtain rfl := Option.some.inj (show some _ = some o from ho); clear ho
        have v5 := hF.sv (s := 5) (by kernel_rfl) (hA145.get (i := 5) (v := .pointer (some ⟨B57, 0, none⟩)))
        refine dj_val (i := 6) (v := .pointer (some ⟨B57, 1, none⟩)) rfl (.inl rfl) (fb_Job_1 v5.eval _ rfl) ?_
        exact ⟨⟨_, rfl⟩, bl, sz, b_B1, b_B57, (so s_62), (so s_63), (so s_64), (so s_65), (so s_66), (so s_67), (fun _ => Sv.self (by rw [z]; decide) _), (so s_69), (so s_70), (so s_71), (so s_72), (so s_73), (so s_74), (so s_75), (so s_76), (so s_77), (so s_78), (so s_79), (so s_80), (so s_81)⟩
      | 7, _ =>
        obtain rfl := Option.some.inj (show some _ = some o from ho); clear ho
        have v68 := s_68 (dp hdep 6)
        refine dj_val (i := 7) (v := .int .i64 x.slot) rfl (.inl rfl) (ev_cell (v := .int .i64 x.slot) v68.eval ((b_B57.cell 1).trans rfl) Try.underlying3 rfl _ rfl) ?_
        exact ⟨⟨_, rfl⟩, bl, sz, b_B1, b_B57, (so s_62), (so s_63), (so s_64), (so s_65), (so s_66), (so s_67), (so s_68), (fun _ => Sv.self (by rw [z]; decide) _), (so s_70), (so s_71), (so s_72), (so s_73), (so s_74), (so s_75), (so s_76), (so s_77), (so s_78), (so s_79), (so s_80), (so s_81)⟩
      | 8, _ =>
        obtain rfl := Option.some.inj (show some _ = some o from ho); clear ho
        have v67 := s_67 (dp hdep 5)
        have v69 := s_69 (dp hdep 7)
        refine dj_val (i := 8) (v := .bool false) rfl (.inl rfl) (ev_eqlB (k := .i64) (m := y.slot) (n := x.slot) v67.eval v69.eval hd146 _ rfl) ?_
        exact ⟨⟨_, rfl⟩, bl, sz, b_B1, b_B57, (so s_62), (so s_63), (so s_64), (so s_65), (so s_66), (so s_67), (so s_68), (so s_69), (fun _ => Sv.self (by rw [z]; decide) _), (so s_71), (so s_72), (so s_73), (so s_74), (so s_75), (so s_76), (so s_77), (so s_78), (so s_79), (so s_80), (so s_81)⟩
      | 9, _ =>
        obtain rfl := Option.some.inj (show some _ = some o from ho); clear ho
        have v70 := s_70 (dp hdep 8)
        refine dj_val (i := 9) (v := .bool false) rfl (.inl rfl) (ev_move v70.eval _ rfl) ?_
        exact ⟨⟨_, rfl⟩, bl, sz, b_B1, b_B57, (so s_62), (so s_63), (so s_64), (so s_65), (so s_66), (so s_67), (so s_68), (so s_69), (so s_70), (fun _ => Sv.self (by rw [z]; decide) _), (so s_72), (so s_73), (so s_74), (so s_75), (so s_76), (so s_77), (so s_78), (so s_79), (so s_80), (so s_81)⟩
      | 10, _ =>
        obtain rfl := Option.some.inj (show some _ = some o from ho); clear ho
        have v71 := s_71 (dp hdep 9)
        have v1 := hF.sv (s := 1) (by kernel_rfl) (hA145.get (i := 1) (v := .pointer (some ⟨B1, 0, none⟩)))
        refine dj_val (i := 10) (v := .pointer (some ⟨B1, 1, none⟩)) rfl (.inr ⟨9, false, 71, rfl, by kernel_rfl, v71⟩) (fb_Disk_1 v1.eval _ rfl) ?_
        exact ⟨⟨_, rfl⟩, bl, sz, b_B1, b_B57, (so s_62), (so s_63), (so s_64), (so s_65), (so s_66), (so s_67), (so s_68), (so s_69), (so s_70), (so s_71), (fun _ => Sv.self (by rw [z]; decide) _), (so s_73), (so s_74), (so s_75), (so s_76), (so s_77), (so s_78), (so s_79), (so s_80), (so s_81)⟩
      | 11, _ =>
        obtain rfl := Option.some.inj (show some _ = some o from ho); clear ho
        have v71 := s_71 (dp hdep 9)
        have v72 := s_72 (dp hdep 10)
        refine dj_val (i := 11) (v := .slice A2 js.length c2) rfl (.inr ⟨9, false, 71, rfl, by kernel_rfl, v71⟩) (ev_cell (v := .slice A2 js.length c2) v72.eval ((b_B1.cell 1).trans rfl) Try.underlying23 rfl _ rfl) ?_
        exact ⟨⟨_, rfl⟩, bl, sz, b_B1, b_B57, (so s_62), (so s_63), (so s_64), (so s_65), (so s_66), (so s_67), (so s_68), (so s_69), (so s_70), (so s_71), (so s_72), (fun _ => Sv.self (by rw [z]; decide) _), (so s_74), (so s_75), (so s_76), (so s_77), (so s_78), (so s_79), (so s_80), (so s_81)⟩
      | 12, _ =>
        obtain rfl := Option.some.inj (show some _ = some o from ho); clear ho
        have v71 := s_71 (dp hdep 9)
        have v6 := hF.sv (s := 6) (by kernel_rfl) (hA145.get (i := 6) (v := .int .i64 (m : Int)))
        refine dj_val (i := 12) (v := .int .i64 (m : Int)) rfl (.inr ⟨9, false, 71, rfl, by kernel_rfl, v71⟩) (ev_move v6.eval _ rfl) ?_
        exact ⟨⟨_, rfl⟩, bl, sz, b_B1, b_B57, (so s_62), (so s_63), (so s_64), (so s_65), (so s_66), (so s_67), (so s_68), (so s_69), (so s_70), (so s_71), (so s_72), (so s_73), (fun _ => Sv.self (by rw [z]; decide) _), (so s_75), (so s_76), (so s_77), (so s_78), (so s_79), (so s_80), (so s_81)⟩
      | 13, _ =>
        obtain rfl := Option.some.inj (show some _ = some o from ho); clear ho
        have v71 := s_71 (dp hdep 9)
        have v73 := s_73 (dp hdep 11)
        have v74 := s_74 (dp hdep 12)
        refine dj_val (i := 13) (v := .pointer (some (ad54.add (m * 11)))) rfl (.inr ⟨9, false, 71, rfl, by kernel_rfl, v71⟩) (ev_idx (k := m) v73.eval hAd54 v74.eval rfl (by omega) Try.underlying23 (by kernel_rfl) _ rfl) ?_
        exact ⟨⟨_, rfl⟩, bl, sz, b_B1, b_B57, (so s_62), (so s_63), (so s_64), (so s_65), (so s_66), (so s_67), (so s_68), (so s_69), (so s_70), (so s_71), (so s_72), (so s_73), (so s_74), (fun _ => Sv.self (by rw [z]; decide) _), (so s_76), (so s_77), (so s_78), (so s_79), (so s_80), (so s_81)⟩
      | 14, _ =>
        obtain rfl := Option.some.inj (show some _ = some o from ho); clear ho
        have v71 := s_71 (dp hdep 9)
        have v75 := s_75 (dp hdep 13)
        refine dj_val (i := 14) (v := .pointer (some ((ad54.add (m * 11)).add 2))) rfl (.inr ⟨9, false, 71, rfl, by kernel_rfl, v71⟩) (fa_Job_2 v75.eval _ rfl) ?_
        exact ⟨⟨_, rfl⟩, bl, sz, b_B1, b_B57, (so s_62), (so s_63), (so s_64), (so s_65), (so s_66), (so s_67), (so s_68), (so s_69), (so s_70), (so s_71), (so s_72), (so s_73), (so s_74), (so s_75), (fun _ => Sv.self (by rw [z]; decide) _), (so s_77), (so s_78), (so s_79), (so s_80), (so s_81)⟩
      | 15, _ =>
        obtain rfl := Option.some.inj (show some _ = some o from ho); clear ho
        have v71 := s_71 (dp hdep 9)
        have v76 := s_76 (dp hdep 14)
        refine dj_val (i := 15) (v := .int .i64 y.frame) rfl (.inr ⟨9, false, 71, rfl, by kernel_rfl, v71⟩) (ev_cell v76.eval ((GR.cel (hd.j.below bl) hAd54 jb_sz hy) 2 _ rfl) Try.underlying3 rfl _ rfl) ?_
        exact ⟨⟨_, rfl⟩, bl, sz, b_B1, b_B57, (so s_62), (so s_63), (so s_64), (so s_65), (so s_66), (so s_67), (so s_68), (so s_69), (so s_70), (so s_71), (so s_72), (so s_73), (so s_74), (so s_75), (so s_76), (fun _ => Sv.self (by rw [z]; decide) _), (so s_78), (so s_79), (so s_80), (so s_81)⟩
      | 16, _ =>
        obtain rfl := Option.some.inj (show some _ = some o from ho); clear ho
        have v71 := s_71 (dp hdep 9)
        have v5 := hF.sv (s := 5) (by kernel_rfl) (hA145.get (i := 5) (v := .pointer (some ⟨B57, 0, none⟩)))
        refine dj_val (i := 16) (v := .pointer (some ⟨B57, 2, none⟩)) rfl (.inr ⟨9, false, 71, rfl, by kernel_rfl, v71⟩) (fb_Job_2 v5.eval _ rfl) ?_
        exact ⟨⟨_, rfl⟩, bl, sz, b_B1, b_B57, (so s_62), (so s_63), (so s_64), (so s_65), (so s_66), (so s_67), (so s_68), (so s_69), (so s_70), (so s_71), (so s_72), (so s_73), (so s_74), (so s_75), (so s_76), (so s_77), (fun _ => Sv.self (by rw [z]; decide) _), (so s_79), (so s_80), (so s_81)⟩
      | 17, _ =>
        obtain rfl := Option.some.inj (show some _ = some o from ho); clear ho
        have v71 := s_71 (dp hdep 9)
        have v78 := s_78 (dp hdep 16)
        refine dj_val (i := 17) (v := .int .i64 x.frame) rfl (.inr ⟨9, false, 71, rfl, by kernel_rfl, v71⟩) (ev_cell (v := .int .i64 x.frame) v78.eval ((b_B57.cell 2).trans rfl) Try.underlying3 rfl _ rfl) ?_
        exact ⟨⟨_, rfl⟩, bl, sz, b_B1, b_B57, (so s_62), (so s_63), (so s_64), (so s_65), (so s_66), (so s_67), (so s_68), (so s_69), (so s_70), (so s_71), (so s_72), (so s_73), (so s_74), (so s_75), (so s_76), (so s_77), (so s_78), (fun _ => Sv.self (by rw [z]; decide) _), (so s_80), (so s_81)⟩
      | 18, _ =>
        obtain rfl := Option.some.inj (show some _ = some o from ho); clear ho
        have v71 := s_71 (dp hdep 9)
        have v77 := s_77 (dp hdep 15)
        have v79 := s_79 (dp hdep 17)
        refine dj_val (i := 18) (v := .bool true) rfl (.inr ⟨9, false, 71, rfl, by kernel_rfl, v71⟩) (ev_eqlB (k := .i64) (m := y.frame) (n := x.frame) v77.eval v79.eval hd147 _ rfl) ?_
        exact ⟨⟨_, rfl⟩, bl, sz, b_B1, b_B57, (so s_62), (so s_63), (so s_64), (so s_65), (so s_66), (so s_67), (so s_68), (so s_69), (so s_70), (so s_71), (so s_72), (so s_73), (so s_74), (so s_75), (so s_76), (so s_77), (so s_78), (so s_79), (fun _ => Sv.self (by rw [z]; decide) _), (so s_81)⟩
      | 19, _ =>
        obtain rfl := Option.some.inj (show some _ = some o from ho); clear ho
        have v71 := s_71 (dp hdep 9)
        have v80 := s_80 (dp hdep 18)
        refine dj_val (i := 19) (v := .bool true) rfl (.inl rfl) (ev_pickF v71.eval v80.eval _ rfl) ?_
        exact ⟨⟨_, rfl⟩, bl, sz, b_B1, b_B57, (so s_62), (so s_63), (so s_64), (so s_65), (so s_66), (so s_67), (so s_68), (so s_69), (so s_70), (so s_71), (so s_72), (so s_73), (so s_74), (so s_75), (so s_76), (so s_77), (so s_78), (so s_79), (so s_80), (fun _ => Sv.self (by rw [z]; decide) _)⟩
      | k + 20, h => exact absurd h (by omega)
    · intro L hall ac152 wc152 hF hJ
      obtain ⟨bl, sz, b_B1, b_B57, s_62, s_63, s_64, s_65, s_66, s_67, s_68, s_69, s_70, s_71, s_72, s_73, s_74, s_75, s_76, s_77, s_78, s_79, s_80, s_81⟩ := hJ
      have hA152 : Ag ac152 93 [(1, .pointer (some ⟨B1, 0, none⟩)), (4, .int .i64 (k : Int)), (33, .int .i64 (k : Int)), (34, .pointer (some ⟨B1, 1, none⟩)), (35, .slice A2 js.length c2), (36, .int .i64 (js.length : Int)), (37, .bool true), (40, .pointer (some ⟨B1, 1, none⟩)), (41, .slice A2 js.length c2), (42, .int .i64 (k : Int)), (43, .pointer (some (ad54.add (k * 11)))), (44, .agg x.va), (5, .pointer (some ⟨B57, 0, none⟩)), (45, .agg #[.slice A1 cs.length c1, .slice A2 js.length c2, .int .i64 room]), (46, .pointer (some ⟨B57, 1, none⟩)), (47, .int .i64 x.slot), (48, .bool true), (49, .bool false), (50, .bool false), (51, .pointer (some ⟨B57, 2, none⟩)), (52, .int .i64 x.frame), (53, .bool true), (54, .bool false), (55, .bool false), (6, .int .i64 (m : Int)), (57, .int .i64 (m : Int)), (58, .int .i64 (k : Int)), (59, .bool true), (62, .pointer (some ⟨B1, 1, none⟩)), (63, .slice A2 js.length c2), (64, .int .i64 (m : Int)), (65, .pointer (some (ad54.add (m * 11)))), (66, .pointer (some ((ad54.add (m * 11)).add 1))), (67, .int .i64 y.slot), (68, .pointer (some ⟨B57, 1, none⟩)), (69, .int .i64 x.slot), (70, .bool false), (71, .bool false), (72, .pointer (some ⟨B1, 1, none⟩)), (73, .slice A2 js.length c2), (74, .int .i64 (m : Int)), (75, .pointer (some (ad54.add (m * 11)))), (76, .pointer (some ((ad54.add (m * 11)).add 2))), (77, .int .i64 y.frame), (78, .pointer (some ⟨B57, 2, none⟩)), (79, .int .i64 x.frame), (80, .bool true), (81, .bool true)] := (((((((((((((((((((((((((((((((((((((((((((((((((Ag.nil (hF.1.trans hA145.1) (hF.2.1.trans hA145.2.1)).cons (s_81 (hall 19 (by decide)))).cons (s_80 (hall 18 (by decide)))).cons (s_79 (hall 17 (by decide)))).cons (s_78 (hall 16 (by decide)))).cons (s_77 (hall 15 (by decide)))).cons (s_76 (hall 14 (by decide)))).cons (s_75 (hall 13 (by decide)))).cons (s_74 (hall 12 (by decide)))).cons (s_73 (hall 11 (by decide)))).cons (s_72 (hall 10 (by decide)))).cons (s_71 (hall 9 (by decide)))).cons (s_70 (hall 8 (by decide)))).cons (s_69 (hall 7 (by decide)))).cons (s_68 (hall 6 (by decide)))).cons (s_67 (hall 5 (by decide)))).cons (s_66 (hall 4 (by decide)))).cons (s_65 (hall 3 (by decide)))).cons (s_64 (hall 2 (by decide)))).cons (s_63 (hall 1 (by decide)))).cons (s_62 (hall 0 (by decide)))).cons (hF.sv (s := 59) (by kernel_rfl) (hA145.get (i := 59) (v := .bool true)))).cons (hF.sv (s := 58) (by kernel_rfl) (hA145.get (i := 58) (v := .int .i64 (k : Int))))).cons (hF.sv (s := 57) (by kernel_rfl) (hA145.get (i := 57) (v := .int .i64 (m : Int))))).cons (hF.sv (s := 6) (by kernel_rfl) (hA145.get (i := 6) (v := .int .i64 (m : Int))))).cons (hF.sv (s := 55) (by kernel_rfl) (hA145.get (i := 55) (v := .bool false)))).cons (hF.sv (s := 54) (by kernel_rfl) (hA145.get (i := 54) (v := .bool false)))).cons (hF.sv (s := 53) (by kernel_rfl) (hA145.get (i := 53) (v := .bool true)))).cons (hF.sv (s := 52) (by kernel_rfl) (hA145.get (i := 52) (v := .int .i64 x.frame)))).cons (hF.sv (s := 51) (by kernel_rfl) (hA145.get (i := 51) (v := .pointer (some ⟨B57, 2, none⟩))))).cons (hF.sv (s := 50) (by kernel_rfl) (hA145.get (i := 50) (v := .bool false)))).cons (hF.sv (s := 49) (by kernel_rfl) (hA145.get (i := 49) (v := .bool false)))).cons (hF.sv (s := 48) (by kernel_rfl) (hA145.get (i := 48) (v := .bool true)))).cons (hF.sv (s := 47) (by kernel_rfl) (hA145.get (i := 47) (v := .int .i64 x.slot)))).cons (hF.sv (s := 46) (by kernel_rfl) (hA145.get (i := 46) (v := .pointer (some ⟨B57, 1, none⟩))))).cons (hF.sv (s := 45) (by kernel_rfl) (hA145.get (i := 45) (v := .agg #[.slice A1 cs.length c1, .slice A2 js.length c2, .int .i64 room])))).cons (hF.sv (s := 5) (by kernel_rfl) (hA145.get (i := 5) (v := .pointer (some ⟨B57, 0, none⟩))))).cons (hF.sv (s := 44) (by kernel_rfl) (hA145.get (i := 44) (v := .agg x.va)))).cons (hF.sv (s := 43) (by kernel_rfl) (hA145.get (i := 43) (v := .pointer (some (ad54.add (k * 11))))))).cons (hF.sv (s := 42) (by kernel_rfl) (hA145.get (i := 42) (v := .int .i64 (k : Int))))).cons (hF.sv (s := 41) (by kernel_rfl) (hA145.get (i := 41) (v := .slice A2 js.length c2)))).cons (hF.sv (s := 40) (by kernel_rfl) (hA145.get (i := 40) (v := .pointer (some ⟨B1, 1, none⟩))))).cons (hF.sv (s := 37) (by kernel_rfl) (hA145.get (i := 37) (v := .bool true)))).cons (hF.sv (s := 36) (by kernel_rfl) (hA145.get (i := 36) (v := .int .i64 (js.length : Int))))).cons (hF.sv (s := 35) (by kernel_rfl) (hA145.get (i := 35) (v := .slice A2 js.length c2)))).cons (hF.sv (s := 34) (by kernel_rfl) (hA145.get (i := 34) (v := .pointer (some ⟨B1, 1, none⟩))))).cons (hF.sv (s := 33) (by kernel_rfl) (hA145.get (i := 33) (v := .int .i64 (k : Int))))).cons (hF.sv (s := 4) (by kernel_rfl) (hA145.get (i := 4) (v := .int .i64 (k : Int))))).cons (hF.sv (s := 1) (by kernel_rfl) (hA145.get (i := 1) (v := .pointer (some ⟨B1, 0, none⟩)))))
      have bl152 := bl
      have sz152 := sz
      have b152_B1 := b_B1
      have b152_B57 := b_B57
      clear hF bl sz b_B1 b_B57 s_62 s_63 s_64 s_65 s_66 s_67 s_68 s_69 s_70 s_71 s_72 s_73 s_74 s_75 s_76 s_77 s_78 s_79 s_80 s_81 hall hA145
      refine then_n ?_
      refine wp_cond_true (hA152.ev (i := 81) (v := .bool true)) ?_
      refine wp_seq ?_
      refine wp_region_lit ?_
      refine sx_val hA152 rfl (ev_move (hA152.ev (i := 4) (v := .int .i64 (k : Int))) _ rfl) ?_
      intro a153 hA153; clear hA152
      refine sx_val hA153 rfl (ev_assign (ec _ (.int .i64 10)) _ rfl) ?_
      intro a154 hA154; clear hA153
      refine sx_val hA154 rfl (ev_assign (hA154.ev (i := 82) (v := .int .i64 (k : Int))) _ rfl) ?_
      intro a155 hA155; clear hA154
      refine sx_nil ?_
      refine then_n ?_
      refine wp_ret ?_
      refine blk_r ?_
      refine then_r ?_
      refine then_r ?_
      refine blk_r ?_
      refine then_r ?_
      refine blk_r ?_
      refine then_r ?_
      refine then_r ?_
      refine blk_r ?_
      refine then_r ?_
      refine bodyPost_ret (rs_tt (v := .int .i64 10) (v2 := .int .i64 (k : Int)) Try.results25 hA155 (by kernel_rfl) (by kernel_rfl) ) hA155.2.1 ?_
      have E : chk ⟨cs, js, room⟩ = (10, (k : Int)) := by
        rw [q36_1, ckJ_step hx (by omega), if_neg (by rw [inR_eq]; simp [hd65, hd87]), if_pos (clash_hit hy (by omega) (by simp [hits, hp146, hp147]))]
      exact ⟨ret2 (by rw [E]), bl152⟩
  have hp147 := of_decide_eq_false hd147
  refine region_D (n := 20) (by kernel_rfl) (by kernel_rfl) rfl (fun L ac wc => Below w.heap.size w wc ∧ w102.heap.size ≤ wc.heap.size ∧ Bx wc B1 25 (#[.slice A1 cs.length c1, .slice A2 js.length c2, .int .i64 room]) ∧ Bx wc B57 38 x.va ∧ (L 0 = true → Sv ac 62 (.pointer (some ⟨B1, 1, none⟩))) ∧ (L 1 = true → Sv ac 63 (.slice A2 js.length c2)) ∧ (L 2 = true → Sv ac 64 (.int .i64 (m : Int))) ∧ (L 3 = true → Sv ac 65 (.pointer (some (ad54.add (m * 11))))) ∧ (L 4 = true → Sv ac 66 (.pointer (some ((ad54.add (m * 11)).add 1)))) ∧ (L 5 = true → Sv ac 67 (.int .i64 y.slot)) ∧ (L 6 = true → Sv ac 68 (.pointer (some ⟨B57, 1, none⟩))) ∧ (L 7 = true → Sv ac 69 (.int .i64 x.slot)) ∧ (L 8 = true → Sv ac 70 (.bool false)) ∧ (L 9 = true → Sv ac 71 (.bool false)) ∧ (L 10 = true → Sv ac 72 (.pointer (some ⟨B1, 1, none⟩))) ∧ (L 11 = true → Sv ac 73 (.slice A2 js.length c2)) ∧ (L 12 = true → Sv ac 74 (.int .i64 (m : Int))) ∧ (L 13 = true → Sv ac 75 (.pointer (some (ad54.add (m * 11))))) ∧ (L 14 = true → Sv ac 76 (.pointer (some ((ad54.add (m * 11)).add 2)))) ∧ (L 15 = true → Sv ac 77 (.int .i64 y.frame)) ∧ (L 16 = true → Sv ac 78 (.pointer (some ⟨B57, 2, none⟩))) ∧ (L 17 = true → Sv ac 79 (.int .i64 x.frame)) ∧ (L 18 = true → Sv ac 80 (.bool false)) ∧ (L 19 = true → Sv ac 81 (.bool false))) ⟨(Below.gN hbel102 (gdr _) hbel102.size), (Nat.le_refl _), (f102_0.gN (gdr _)), (f102_1.gN (gdr _)), (fun h => by cases h), (fun h => by cases h), (fun h => by cases h), (fun h => by cases h), (fun h => by cases h), (fun h => by cases h), (fun h => by cases h), (fun h => by cases h), (fun h => by cases h), (fun h => by cases h), (fun h => by cases h), (fun h => by cases h), (fun h => by cases h), (fun h => by cases h), (fun h => by cases h), (fun h => by cases h), (fun h => by cases h), (fun h => by cases h), (fun h => by cases h), (fun h => by cases h)⟩ ?_ ?_
  · intro iq hiq o ho L hL hdep ac wc hF hJ
    obtain ⟨bl, sz, b_B1, b_B57, s_62, s_63, s_64, s_65, s_66, s_67, s_68, s_69, s_70, s_71, s_72, s_73, s_74, s_75, s_76, s_77, s_78, s_79, s_80, s_81⟩ := hJ
    have z := hF.1.trans hA145.1
    match iq, hiq with
    | 0, _ =>
      obtain rfl := Option.some.inj (show some _ = some o from ho); clear ho
      have v1 := hF.sv (s := 1) (by kernel_rfl) (hA145.get (i := 1) (v := .pointer (some ⟨B1, 0, none⟩)))
      refine dj_val (i := 0) (v := .pointer (some ⟨B1, 1, none⟩)) rfl (.inl rfl) (fb_Disk_1 v1.eval _ rfl) ?_
      exact ⟨⟨_, rfl⟩, bl, sz, b_B1, b_B57, (fun _ => Sv.self (by rw [z]; decide) _), (so s_63), (so s_64), (so s_65), (so s_66), (so s_67), (so s_68), (so s_69), (so s_70), (so s_71), (so s_72), (so s_73), (so s_74), (so s_75), (so s_76), (so s_77), (so s_78), (so s_79), (so s_80), (so s_81)⟩
    | 1, _ =>
      obtain rfl := Option.some.inj (show some _ = some o from ho); clear ho
      have v62 := s_62 (dp hdep 0)
      refine dj_val (i := 1) (v := .slice A2 js.length c2) rfl (.inl rfl) (ev_cell (v := .slice A2 js.length c2) v62.eval ((b_B1.cell 1).trans rfl) Try.underlying23 rfl _ rfl) ?_
      exact ⟨⟨_, rfl⟩, bl, sz, b_B1, b_B57, (so s_62), (fun _ => Sv.self (by rw [z]; decide) _), (so s_64), (so s_65), (so s_66), (so s_67), (so s_68), (so s_69), (so s_70), (so s_71), (so s_72), (so s_73), (so s_74), (so s_75), (so s_76), (so s_77), (so s_78), (so s_79), (so s_80), (so s_81)⟩
    | 2, _ =>
      obtain rfl := Option.some.inj (show some _ = some o from ho); clear ho
      have v6 := hF.sv (s := 6) (by kernel_rfl) (hA145.get (i := 6) (v := .int .i64 (m : Int)))
      refine dj_val (i := 2) (v := .int .i64 (m : Int)) rfl (.inl rfl) (ev_move v6.eval _ rfl) ?_
      exact ⟨⟨_, rfl⟩, bl, sz, b_B1, b_B57, (so s_62), (so s_63), (fun _ => Sv.self (by rw [z]; decide) _), (so s_65), (so s_66), (so s_67), (so s_68), (so s_69), (so s_70), (so s_71), (so s_72), (so s_73), (so s_74), (so s_75), (so s_76), (so s_77), (so s_78), (so s_79), (so s_80), (so s_81)⟩
    | 3, _ =>
      obtain rfl := Option.some.inj (show some _ = some o from ho); clear ho
      have v63 := s_63 (dp hdep 1)
      have v64 := s_64 (dp hdep 2)
      refine dj_val (i := 3) (v := .pointer (some (ad54.add (m * 11)))) rfl (.inl rfl) (ev_idx (k := m) v63.eval hAd54 v64.eval rfl (by omega) Try.underlying23 (by kernel_rfl) _ rfl) ?_
      exact ⟨⟨_, rfl⟩, bl, sz, b_B1, b_B57, (so s_62), (so s_63), (so s_64), (fun _ => Sv.self (by rw [z]; decide) _), (so s_66), (so s_67), (so s_68), (so s_69), (so s_70), (so s_71), (so s_72), (so s_73), (so s_74), (so s_75), (so s_76), (so s_77), (so s_78), (so s_79), (so s_80), (so s_81)⟩
    | 4, _ =>
      obtain rfl := Option.some.inj (show some _ = some o from ho); clear ho
      have v65 := s_65 (dp hdep 3)
      refine dj_val (i := 4) (v := .pointer (some ((ad54.add (m * 11)).add 1))) rfl (.inl rfl) (fa_Job_1 v65.eval _ rfl) ?_
      exact ⟨⟨_, rfl⟩, bl, sz, b_B1, b_B57, (so s_62), (so s_63), (so s_64), (so s_65), (fun _ => Sv.self (by rw [z]; decide) _), (so s_67), (so s_68), (so s_69), (so s_70), (so s_71), (so s_72), (so s_73), (so s_74), (so s_75), (so s_76), (so s_77), (so s_78), (so s_79), (so s_80), (so s_81)⟩
    | 5, _ =>
      obtain rfl := Option.some.inj (show some _ = some o from ho); clear ho
      have v66 := s_66 (dp hdep 4)
      refine dj_val (i := 5) (v := .int .i64 y.slot) rfl (.inl rfl) (ev_cell v66.eval ((GR.cel (hd.j.below bl) hAd54 jb_sz hy) 1 _ rfl) Try.underlying3 rfl _ rfl) ?_
      exact ⟨⟨_, rfl⟩, bl, sz, b_B1, b_B57, (so s_62), (so s_63), (so s_64), (so s_65), (so s_66), (fun _ => Sv.self (by rw [z]; decide) _), (so s_68), (so s_69), (so s_70), (so s_71), (so s_72), (so s_73), (so s_74), (so s_75), (so s_76), (so s_77), (so s_78), (so s_79), (so s_80), (so s_81)⟩
    | 6, _ =>
      obtain rfl := Option.some.inj (show some _ = some o from ho); clear ho
      have v5 := hF.sv (s := 5) (by kernel_rfl) (hA145.get (i := 5) (v := .pointer (some ⟨B57, 0, none⟩)))
      refine dj_val (i := 6) (v := .pointer (some ⟨B57, 1, none⟩)) rfl (.inl rfl) (fb_Job_1 v5.eval _ rfl) ?_
      exact ⟨⟨_, rfl⟩, bl, sz, b_B1, b_B57, (so s_62), (so s_63), (so s_64), (so s_65), (so s_66), (so s_67), (fun _ => Sv.self (by rw [z]; decide) _), (so s_69), (so s_70), (so s_71), (so s_72), (so s_73), (so s_74), (so s_75), (so s_76), (so s_77), (so s_78), (so s_79), (so s_80), (so s_81)⟩
    | 7, _ =>
      obtain rfl := Option.some.inj (show some _ = some o from ho); clear ho
      have v68 := s_68 (dp hdep 6)
      refine dj_val (i := 7) (v := .int .i64 x.slot) rfl (.inl rfl) (ev_cell (v := .int .i64 x.slot) v68.eval ((b_B57.cell 1).trans rfl) Try.underlying3 rfl _ rfl) ?_
      exact ⟨⟨_, rfl⟩, bl, sz, b_B1, b_B57, (so s_62), (so s_63), (so s_64), (so s_65), (so s_66), (so s_67), (so s_68), (fun _ => Sv.self (by rw [z]; decide) _), (so s_70), (so s_71), (so s_72), (so s_73), (so s_74), (so s_75), (so s_76), (so s_77), (so s_78), (so s_79), (so s_80), (so s_81)⟩
    | 8, _ =>
      obtain rfl := Option.some.inj (show some _ = some o from ho); clear ho
      have v67 := s_67 (dp hdep 5)
      have v69 := s_69 (dp hdep 7)
      refine dj_val (i := 8) (v := .bool false) rfl (.inl rfl) (ev_eqlB (k := .i64) (m := y.slot) (n := x.slot) v67.eval v69.eval hd146 _ rfl) ?_
      exact ⟨⟨_, rfl⟩, bl, sz, b_B1, b_B57, (so s_62), (so s_63), (so s_64), (so s_65), (so s_66), (so s_67), (so s_68), (so s_69), (fun _ => Sv.self (by rw [z]; decide) _), (so s_71), (so s_72), (so s_73), (so s_74), (so s_75), (so s_76), (so s_77), (so s_78), (so s_79), (so s_80), (so s_81)⟩
    | 9, _ =>
      obtain rfl := Option.some.inj (show some _ = some o from ho); clear ho
      have v70 := s_70 (dp hdep 8)
      refine dj_val (i := 9) (v := .bool false) rfl (.inl rfl) (ev_move v70.eval _ rfl) ?_
      exact ⟨⟨_, rfl⟩, bl, sz, b_B1, b_B57, (so s_62), (so s_63), (so s_64), (so s_65), (so s_66), (so s_67), (so s_68), (so s_69), (so s_70), (fun _ => Sv.self (by rw [z]; decide) _), (so s_72), (so s_73), (so s_74), (so s_75), (so s_76), (so s_77), (so s_78), (so s_79), (so s_80), (so s_81)⟩
    | 10, _ =>
      obtain rfl := Option.some.inj (show some _ = some o from ho); clear ho
      have v71 := s_71 (dp hdep 9)
      have v1 := hF.sv (s := 1) (by kernel_rfl) (hA145.get (i := 1) (v := .pointer (some ⟨B1, 0, none⟩)))
      refine dj_val (i := 10) (v := .pointer (some ⟨B1, 1, none⟩)) rfl (.inr ⟨9, false, 71, rfl, by kernel_rfl, v71⟩) (fb_Disk_1 v1.eval _ rfl) ?_
      exact ⟨⟨_, rfl⟩, bl, sz, b_B1, b_B57, (so s_62), (so s_63), (so s_64), (so s_65), (so s_66), (so s_67), (so s_68), (so s_69), (so s_70), (so s_71), (fun _ => Sv.self (by rw [z]; decide) _), (so s_73), (so s_74), (so s_75), (so s_76), (so s_77), (so s_78), (so s_79), (so s_80), (so s_81)⟩
    | 11, _ =>
      obtain rfl := Option.some.inj (show some _ = some o from ho); clear ho
      have v71 := s_71 (dp hdep 9)
      have v72 := s_72 (dp hdep 10)
      refine dj_val (i := 11) (v := .slice A2 js.length c2) rfl (.inr ⟨9, false, 71, rfl, by kernel_rfl, v71⟩) (ev_cell (v := .slice A2 js.length c2) v72.eval ((b_B1.cell 1).trans rfl) Try.underlying23 rfl _ rfl) ?_
      exact ⟨⟨_, rfl⟩, bl, sz, b_B1, b_B57, (so s_62), (so s_63), (so s_64), (so s_65), (so s_66), (so s_67), (so s_68), (so s_69), (so s_70), (so s_71), (so s_72), (fun _ => Sv.self (by rw [z]; decide) _), (so s_74), (so s_75), (so s_76), (so s_77), (so s_78), (so s_79), (so s_80), (so s_81)⟩
    | 12, _ =>
      obtain rfl := Option.some.inj (show some _ = some o from ho); clear ho
      have v71 := s_71 (dp hdep 9)
      have v6 := hF.sv (s := 6) (by kernel_rfl) (hA145.get (i := 6) (v := .int .i64 (m : Int)))
      refine dj_val (i := 12) (v := .int .i64 (m : Int)) rfl (.inr ⟨9, false, 71, rfl, by kernel_rfl, v71⟩) (ev_move v6.eval _ rfl) ?_
      exact ⟨⟨_, rfl⟩, bl, sz, b_B1, b_B57, (so s_62), (so s_63), (so s_64), (so s_65), (so s_66), (so s_67), (so s_68), (so s_69), (so s_70), (so s_71), (so s_72), (so s_73), (fun _ => Sv.self (by rw [z]; decide) _), (so s_75), (so s_76), (so s_77), (so s_78), (so s_79), (so s_80), (so s_81)⟩
    | 13, _ =>
      obtain rfl := Option.some.inj (show some _ = some o from ho); clear ho
      have v71 := s_71 (dp hdep 9)
      have v73 := s_73 (dp hdep 11)
      have v74 := s_74 (dp hdep 12)
      refine dj_val (i := 13) (v := .pointer (some (ad54.add (m * 11)))) rfl (.inr ⟨9, false, 71, rfl, by kernel_rfl, v71⟩) (ev_idx (k := m) v73.eval hAd54 v74.eval rfl (by omega) Try.underlying23 (by kernel_rfl) _ rfl) ?_
      exact ⟨⟨_, rfl⟩, bl, sz, b_B1, b_B57, (so s_62), (so s_63), (so s_64), (so s_65), (so s_66), (so s_67), (so s_68), (so s_69), (so s_70), (so s_71), (so s_72), (so s_73), (so s_74), (fun _ => Sv.self (by rw [z]; decide) _), (so s_76), (so s_77), (so s_78), (so s_79), (so s_80), (so s_81)⟩
    | 14, _ =>
      obtain rfl := Option.some.inj (show some _ = some o from ho); clear ho
      have v71 := s_71 (dp hdep 9)
      have v75 := s_75 (dp hdep 13)
      refine dj_val (i := 14) (v := .pointer (some ((ad54.add (m * 11)).add 2))) rfl (.inr ⟨9, false, 71, rfl, by kernel_rfl, v71⟩) (fa_Job_2 v75.eval _ rfl) ?_
      exact ⟨⟨_, rfl⟩, bl, sz, b_B1, b_B57, (so s_62), (so s_63), (so s_64), (so s_65), (so s_66), (so s_67), (so s_68), (so s_69), (so s_70), (so s_71), (so s_72), (so s_73), (so s_74), (so s_75), (fun _ => Sv.self (by rw [z]; decide) _), (so s_77), (so s_78), (so s_79), (so s_80), (so s_81)⟩
    | 15, _ =>
      obtain rfl := Option.some.inj (show some _ = some o from ho); clear ho
      have v71 := s_71 (dp hdep 9)
      have v76 := s_76 (dp hdep 14)
      refine dj_val (i := 15) (v := .int .i64 y.frame) rfl (.inr ⟨9, false, 71, rfl, by kernel_rfl, v71⟩) (ev_cell v76.eval ((GR.cel (hd.j.below bl) hAd54 jb_sz hy) 2 _ rfl) Try.underlying3 rfl _ rfl) ?_
      exact ⟨⟨_, rfl⟩, bl, sz, b_B1, b_B57, (so s_62), (so s_63), (so s_64), (so s_65), (so s_66), (so s_67), (so s_68), (so s_69), (so s_70), (so s_71), (so s_72), (so s_73), (so s_74), (so s_75), (so s_76), (fun _ => Sv.self (by rw [z]; decide) _), (so s_78), (so s_79), (so s_80), (so s_81)⟩
    | 16, _ =>
      obtain rfl := Option.some.inj (show some _ = some o from ho); clear ho
      have v71 := s_71 (dp hdep 9)
      have v5 := hF.sv (s := 5) (by kernel_rfl) (hA145.get (i := 5) (v := .pointer (some ⟨B57, 0, none⟩)))
      refine dj_val (i := 16) (v := .pointer (some ⟨B57, 2, none⟩)) rfl (.inr ⟨9, false, 71, rfl, by kernel_rfl, v71⟩) (fb_Job_2 v5.eval _ rfl) ?_
      exact ⟨⟨_, rfl⟩, bl, sz, b_B1, b_B57, (so s_62), (so s_63), (so s_64), (so s_65), (so s_66), (so s_67), (so s_68), (so s_69), (so s_70), (so s_71), (so s_72), (so s_73), (so s_74), (so s_75), (so s_76), (so s_77), (fun _ => Sv.self (by rw [z]; decide) _), (so s_79), (so s_80), (so s_81)⟩
    | 17, _ =>
      obtain rfl := Option.some.inj (show some _ = some o from ho); clear ho
      have v71 := s_71 (dp hdep 9)
      have v78 := s_78 (dp hdep 16)
      refine dj_val (i := 17) (v := .int .i64 x.frame) rfl (.inr ⟨9, false, 71, rfl, by kernel_rfl, v71⟩) (ev_cell (v := .int .i64 x.frame) v78.eval ((b_B57.cell 2).trans rfl) Try.underlying3 rfl _ rfl) ?_
      exact ⟨⟨_, rfl⟩, bl, sz, b_B1, b_B57, (so s_62), (so s_63), (so s_64), (so s_65), (so s_66), (so s_67), (so s_68), (so s_69), (so s_70), (so s_71), (so s_72), (so s_73), (so s_74), (so s_75), (so s_76), (so s_77), (so s_78), (fun _ => Sv.self (by rw [z]; decide) _), (so s_80), (so s_81)⟩
    | 18, _ =>
      obtain rfl := Option.some.inj (show some _ = some o from ho); clear ho
      have v71 := s_71 (dp hdep 9)
      have v77 := s_77 (dp hdep 15)
      have v79 := s_79 (dp hdep 17)
      refine dj_val (i := 18) (v := .bool false) rfl (.inr ⟨9, false, 71, rfl, by kernel_rfl, v71⟩) (ev_eqlB (k := .i64) (m := y.frame) (n := x.frame) v77.eval v79.eval hd147 _ rfl) ?_
      exact ⟨⟨_, rfl⟩, bl, sz, b_B1, b_B57, (so s_62), (so s_63), (so s_64), (so s_65), (so s_66), (so s_67), (so s_68), (so s_69), (so s_70), (so s_71), (so s_72), (so s_73), (so s_74), (so s_75), (so s_76), (so s_77), (so s_78), (so s_79), (fun _ => Sv.self (by rw [z]; decide) _), (so s_81)⟩
    | 19, _ =>
      obtain rfl := Option.some.inj (show some _ = some o from ho); clear ho
      have v71 := s_71 (dp hdep 9)
      have v80 := s_80 (dp hdep 18)
      refine dj_val (i := 19) (v := .bool false) rfl (.inl rfl) (ev_pickF v71.eval v80.eval _ rfl) ?_
      exact ⟨⟨_, rfl⟩, bl, sz, b_B1, b_B57, (so s_62), (so s_63), (so s_64), (so s_65), (so s_66), (so s_67), (so s_68), (so s_69), (so s_70), (so s_71), (so s_72), (so s_73), (so s_74), (so s_75), (so s_76), (so s_77), (so s_78), (so s_79), (so s_80), (fun _ => Sv.self (by rw [z]; decide) _)⟩
    | k + 20, h => exact absurd h (by omega)
  · intro L hall ac148 wc148 hF hJ
    obtain ⟨bl, sz, b_B1, b_B57, s_62, s_63, s_64, s_65, s_66, s_67, s_68, s_69, s_70, s_71, s_72, s_73, s_74, s_75, s_76, s_77, s_78, s_79, s_80, s_81⟩ := hJ
    have hA148 : Ag ac148 93 [(1, .pointer (some ⟨B1, 0, none⟩)), (4, .int .i64 (k : Int)), (33, .int .i64 (k : Int)), (34, .pointer (some ⟨B1, 1, none⟩)), (35, .slice A2 js.length c2), (36, .int .i64 (js.length : Int)), (37, .bool true), (40, .pointer (some ⟨B1, 1, none⟩)), (41, .slice A2 js.length c2), (42, .int .i64 (k : Int)), (43, .pointer (some (ad54.add (k * 11)))), (44, .agg x.va), (5, .pointer (some ⟨B57, 0, none⟩)), (45, .agg #[.slice A1 cs.length c1, .slice A2 js.length c2, .int .i64 room]), (46, .pointer (some ⟨B57, 1, none⟩)), (47, .int .i64 x.slot), (48, .bool true), (49, .bool false), (50, .bool false), (51, .pointer (some ⟨B57, 2, none⟩)), (52, .int .i64 x.frame), (53, .bool true), (54, .bool false), (55, .bool false), (6, .int .i64 (m : Int)), (57, .int .i64 (m : Int)), (58, .int .i64 (k : Int)), (59, .bool true), (62, .pointer (some ⟨B1, 1, none⟩)), (63, .slice A2 js.length c2), (64, .int .i64 (m : Int)), (65, .pointer (some (ad54.add (m * 11)))), (66, .pointer (some ((ad54.add (m * 11)).add 1))), (67, .int .i64 y.slot), (68, .pointer (some ⟨B57, 1, none⟩)), (69, .int .i64 x.slot), (70, .bool false), (71, .bool false), (72, .pointer (some ⟨B1, 1, none⟩)), (73, .slice A2 js.length c2), (74, .int .i64 (m : Int)), (75, .pointer (some (ad54.add (m * 11)))), (76, .pointer (some ((ad54.add (m * 11)).add 2))), (77, .int .i64 y.frame), (78, .pointer (some ⟨B57, 2, none⟩)), (79, .int .i64 x.frame), (80, .bool false), (81, .bool false)] := (((((((((((((((((((((((((((((((((((((((((((((((((Ag.nil (hF.1.trans hA145.1) (hF.2.1.trans hA145.2.1)).cons (s_81 (hall 19 (by decide)))).cons (s_80 (hall 18 (by decide)))).cons (s_79 (hall 17 (by decide)))).cons (s_78 (hall 16 (by decide)))).cons (s_77 (hall 15 (by decide)))).cons (s_76 (hall 14 (by decide)))).cons (s_75 (hall 13 (by decide)))).cons (s_74 (hall 12 (by decide)))).cons (s_73 (hall 11 (by decide)))).cons (s_72 (hall 10 (by decide)))).cons (s_71 (hall 9 (by decide)))).cons (s_70 (hall 8 (by decide)))).cons (s_69 (hall 7 (by decide)))).cons (s_68 (hall 6 (by decide)))).cons (s_67 (hall 5 (by decide)))).cons (s_66 (hall 4 (by decide)))).cons (s_65 (hall 3 (by decide)))).cons (s_64 (hall 2 (by decide)))).cons (s_63 (hall 1 (by decide)))).cons (s_62 (hall 0 (by decide)))).cons (hF.sv (s := 59) (by kernel_rfl) (hA145.get (i := 59) (v := .bool true)))).cons (hF.sv (s := 58) (by kernel_rfl) (hA145.get (i := 58) (v := .int .i64 (k : Int))))).cons (hF.sv (s := 57) (by kernel_rfl) (hA145.get (i := 57) (v := .int .i64 (m : Int))))).cons (hF.sv (s := 6) (by kernel_rfl) (hA145.get (i := 6) (v := .int .i64 (m : Int))))).cons (hF.sv (s := 55) (by kernel_rfl) (hA145.get (i := 55) (v := .bool false)))).cons (hF.sv (s := 54) (by kernel_rfl) (hA145.get (i := 54) (v := .bool false)))).cons (hF.sv (s := 53) (by kernel_rfl) (hA145.get (i := 53) (v := .bool true)))).cons (hF.sv (s := 52) (by kernel_rfl) (hA145.get (i := 52) (v := .int .i64 x.frame)))).cons (hF.sv (s := 51) (by kernel_rfl) (hA145.get (i := 51) (v := .pointer (some ⟨B57, 2, none⟩))))).cons (hF.sv (s := 50) (by kernel_rfl) (hA145.get (i := 50) (v := .bool false)))).cons (hF.sv (s := 49) (by kernel_rfl) (hA145.get (i := 49) (v := .bool false)))).cons (hF.sv (s := 48) (by kernel_rfl) (hA145.get (i := 48) (v := .bool true)))).cons (hF.sv (s := 47) (by kernel_rfl) (hA145.get (i := 47) (v := .int .i64 x.slot)))).cons (hF.sv (s := 46) (by kernel_rfl) (hA145.get (i := 46) (v := .pointer (some ⟨B57, 1, none⟩))))).cons (hF.sv (s := 45) (by kernel_rfl) (hA145.get (i := 45) (v := .agg #[.slice A1 cs.length c1, .slice A2 js.length c2, .int .i64 room])))).cons (hF.sv (s := 5) (by kernel_rfl) (hA145.get (i := 5) (v := .pointer (some ⟨B57, 0, none⟩))))).cons (hF.sv (s := 44) (by kernel_rfl) (hA145.get (i := 44) (v := .agg x.va)))).cons (hF.sv (s := 43) (by kernel_rfl) (hA145.get (i := 43) (v := .pointer (some (ad54.add (k * 11))))))).cons (hF.sv (s := 42) (by kernel_rfl) (hA145.get (i := 42) (v := .int .i64 (k : Int))))).cons (hF.sv (s := 41) (by kernel_rfl) (hA145.get (i := 41) (v := .slice A2 js.length c2)))).cons (hF.sv (s := 40) (by kernel_rfl) (hA145.get (i := 40) (v := .pointer (some ⟨B1, 1, none⟩))))).cons (hF.sv (s := 37) (by kernel_rfl) (hA145.get (i := 37) (v := .bool true)))).cons (hF.sv (s := 36) (by kernel_rfl) (hA145.get (i := 36) (v := .int .i64 (js.length : Int))))).cons (hF.sv (s := 35) (by kernel_rfl) (hA145.get (i := 35) (v := .slice A2 js.length c2)))).cons (hF.sv (s := 34) (by kernel_rfl) (hA145.get (i := 34) (v := .pointer (some ⟨B1, 1, none⟩))))).cons (hF.sv (s := 33) (by kernel_rfl) (hA145.get (i := 33) (v := .int .i64 (k : Int))))).cons (hF.sv (s := 4) (by kernel_rfl) (hA145.get (i := 4) (v := .int .i64 (k : Int))))).cons (hF.sv (s := 1) (by kernel_rfl) (hA145.get (i := 1) (v := .pointer (some ⟨B1, 0, none⟩)))))
    have bl148 := bl
    have sz148 := sz
    have b148_B1 := b_B1
    have b148_B57 := b_B57
    clear hF bl sz b_B1 b_B57 s_62 s_63 s_64 s_65 s_66 s_67 s_68 s_69 s_70 s_71 s_72 s_73 s_74 s_75 s_76 s_77 s_78 s_79 s_80 s_81 hall hA145
    refine then_n ?_
    refine wp_cond_false (hA148.ev (i := 81) (v := .bool false)) ?_
    refine wp_skip ?_
    refine blk_n ?_
    refine then_n ?_
    refine wp_region_lit ?_
    refine sx_val hA148 rfl (ev_move (hA148.ev (i := 6) (v := .int .i64 (m : Int))) _ rfl) ?_
    intro a149 hA149; clear hA148
    refine sx_val (v := .int .i64 ((m + 1 : Nat) : Int)) hA149 rfl (ev_addR (k := .i64) (m := (m : Int)) (n := 1) (r := ((m + 1 : Nat) : Int)) (hA149.ev (i := 60)) (ec _ (.int .i64 1)) (wr (by omega) (by omega) (by omega)) _ rfl) ?_
    intro a150 hA150; clear hA149
    refine sx_val hA150 rfl (ev_assign (hA150.ev (i := 61) (v := .int .i64 ((m + 1 : Nat) : Int))) _ rfl) ?_
    intro a151 hA151; clear hA150
    refine sx_nil ?_
    refine then_n ?_
    refine ⟨k - (m + 1), by omega, m + 1, rfl, ((((((((((((((((((((((((((Ag.nil hA151.1 hA151.2.1).cons (hA151.get (i := 6) (v := .int .i64 ((m + 1 : Nat) : Int)))).cons (hA151.get (i := 55) (v := .bool false))).cons (hA151.get (i := 54) (v := .bool false))).cons (hA151.get (i := 53) (v := .bool true))).cons (hA151.get (i := 52) (v := .int .i64 x.frame))).cons (hA151.get (i := 51) (v := .pointer (some ⟨B57, 2, none⟩)))).cons (hA151.get (i := 50) (v := .bool false))).cons (hA151.get (i := 49) (v := .bool false))).cons (hA151.get (i := 48) (v := .bool true))).cons (hA151.get (i := 47) (v := .int .i64 x.slot))).cons (hA151.get (i := 46) (v := .pointer (some ⟨B57, 1, none⟩)))).cons (hA151.get (i := 45) (v := .agg #[.slice A1 cs.length c1, .slice A2 js.length c2, .int .i64 room]))).cons (hA151.get (i := 5) (v := .pointer (some ⟨B57, 0, none⟩)))).cons (hA151.get (i := 44) (v := .agg x.va))).cons (hA151.get (i := 43) (v := .pointer (some (ad54.add (k * 11)))))).cons (hA151.get (i := 42) (v := .int .i64 (k : Int)))).cons (hA151.get (i := 41) (v := .slice A2 js.length c2))).cons (hA151.get (i := 40) (v := .pointer (some ⟨B1, 1, none⟩)))).cons (hA151.get (i := 37) (v := .bool true))).cons (hA151.get (i := 36) (v := .int .i64 (js.length : Int)))).cons (hA151.get (i := 35) (v := .slice A2 js.length c2))).cons (hA151.get (i := 34) (v := .pointer (some ⟨B1, 1, none⟩)))).cons (hA151.get (i := 33) (v := .int .i64 (k : Int)))).cons (hA151.get (i := 4) (v := .int .i64 (k : Int)))).cons (hA151.get (i := 1) (v := .pointer (some ⟨B1, 0, none⟩)))), by omega, by rw [clash_succ hy, q102_1]; simp [hits, hp146, hp147], b148_B1, b148_B57, by omega, bl148⟩

set_option maxHeartbeats 4000000 in
theorem sLeft_any (A1 : Option Addr) (c1 : Nat) (A2 : Option Addr) (c2 : Nat) (cs : List Ct) (js : List Jb) (room : Int) (w : World) (hd : GD w A1 c1 A2 c2 cs js) (hl : cs.length ≤ 900000) (hj : js.length ≤ 900000) : Calls Try.prog 29 #[.agg #[.slice A1 cs.length c1, .slice A2 js.length c2, .int .i64 room]] w (RetB w (.returned (.tuple #[.int .i64 (lft ⟨cs, js, room⟩).1, .int .i64 (lft ⟨cs, js, room⟩).2]))) := by
  have hbel0 := below0 w
  refine sx_enter (N := 20) [(0, .agg #[.slice A1 cs.length c1, .slice A2 js.length c2, .int .i64 room])] Try.func29 rfl Try.ntmps29 (by simp) (fun a z d s => ((Ag.nil z d).cons (s 0 _ rfl))) ?_
  intro a0 hA0
  refine wp_seq ?_
  refine wp_region_lit ?_
  refine sx_new (cs := #[.slice A1 cs.length c1, .slice A2 js.length c2, .int .i64 room]) (t := 25) hA0 rfl (by decide) (.inl rfl) (ev_box (hA0.ev (i := 0) (v := .agg #[.slice A1 cs.length c1, .slice A2 js.length c2, .int .i64 room])) rfl _ rfl) ?_
  intro B1 w1 a1 hB1 hx1 hg1 hA1
  clear hA0
  have hs1 := hg1.size
  have hl1 := hx1.lt
  refine sx_val hA1 rfl (ev_assign (ec _ (.int .i64 0)) _ rfl) ?_
  intro a2 hA2; clear hA1
  refine sx_val hA2 rfl (ev_assign (ec _ (.int .i64 0)) _ rfl) ?_
  intro a3 hA3; clear hA2
  refine sx_nil ?_
  refine then_n ?_
  refine wp_seq ?_
  refine wp_region_lit ?_
  refine sx_val (v := .agg #[.slice A1 cs.length c1, .slice A2 js.length c2, .int .i64 room]) hA3 rfl (ev_row (hA3.ev (i := 1) (v := .pointer (some ⟨B1, 0, none⟩))) hx1 Try.underlying25 rfl (n := 3) (by kernel_rfl) rfl _ rfl) ?_
  intro a4 hA4; clear hA3
  have hbel0_6 := Below.gN hbel0 hg1 hbel0.size
  refine sx_call (f := 25) (args := #[.agg #[.slice A1 cs.length c1, .slice A2 js.length c2, .int .i64 room]]) hA4 rfl (by decide) (.inl rfl) (ev_fn rfl (mp1 (hA4.ev (i := 7) (v := .agg #[.slice A1 cs.length c1, .slice A2 js.length c2, .int .i64 room]))) (by kernel_rfl) _ rfl) (sCheck_any A1 c1 A2 c2 cs js room _ ⟨(hd.s.below hbel0_6), (hd.j.below hbel0_6)⟩ (by omega)) ?_
  intro e5 w5 hR5
  obtain ⟨rfl, hb5⟩ := hR5
  refine ⟨_, rfl, ?_⟩
  intro a5 hA5
  clear hA4
  have hg5 := g0 hb5
  have hs5 := hg5.size
  clear hb5
  refine sx_val hA5 rfl (ev_move (hA5.ev (i := 8) (v := .tuple #[.int .i64 (chk ⟨cs, js, room⟩).1, .int .i64 (chk ⟨cs, js, room⟩).2])) _ rfl) ?_
  intro a7 hA7; clear hA5
  refine sx_val (v := .int .i64 (chk ⟨cs, js, room⟩).1) hA7 rfl (ev_ext (hA7.ev (i := 6) (v := .tuple #[.int .i64 (chk ⟨cs, js, room⟩).1, .int .i64 (chk ⟨cs, js, room⟩).2])) rfl _ rfl) ?_
  intro a8 hA8; clear hA7
  refine sx_val (v := .int .i64 (chk ⟨cs, js, room⟩).2) hA8 rfl (ev_ext (hA8.ev (i := 6) (v := .tuple #[.int .i64 (chk ⟨cs, js, room⟩).1, .int .i64 (chk ⟨cs, js, room⟩).2])) rfl _ rfl) ?_
  intro a9 hA9; clear hA8
  refine sx_val hA9 rfl (ev_assign (hA9.ev (i := 9) (v := .int .i64 (chk ⟨cs, js, room⟩).1)) _ rfl) ?_
  intro a10 hA10; clear hA9
  refine sx_val hA10 rfl (ev_assign (hA10.ev (i := 10) (v := .int .i64 (chk ⟨cs, js, room⟩).2)) _ rfl) ?_
  intro a11 hA11; clear hA10
  refine sx_nil ?_
  refine then_n ?_
  refine wp_seq ?_
  refine wp_seq ?_
  refine wp_region_lit ?_
  refine sx_val hA11 rfl (ev_move (hA11.ev (i := 4) (v := .int .i64 (chk ⟨cs, js, room⟩).1)) _ rfl) ?_
  intro a12 hA12; clear hA11
  cases hd13 : decide ((chk ⟨cs, js, room⟩).1 = 0)
  · have hp13 := of_decide_eq_false hd13
    refine sx_val (v := .bool true) hA12 rfl (ev_neqB (k := .i64) (m := (chk ⟨cs, js, room⟩).1) (n := 0) (hA12.ev (i := 11)) (ec _ (.int .i64 0)) (by simpa using hd13) _ rfl) ?_
    intro a14 hA14; clear hA12
    refine sx_nil ?_
    refine then_n ?_
    refine wp_cond_true (hA14.ev (i := 12) (v := .bool true)) ?_
    refine wp_seq ?_
    refine wp_region_lit ?_
    refine sx_val hA14 rfl (ev_move (hA14.ev (i := 4) (v := .int .i64 (chk ⟨cs, js, room⟩).1)) _ rfl) ?_
    intro a15 hA15; clear hA14
    refine sx_val hA15 rfl (ev_assign (ec _ (.int .i64 0)) _ rfl) ?_
    intro a16 hA16; clear hA15
    refine sx_val hA16 rfl (ev_assign (hA16.ev (i := 13) (v := .int .i64 (chk ⟨cs, js, room⟩).1)) _ rfl) ?_
    intro a17 hA17; clear hA16
    refine sx_nil ?_
    refine then_n ?_
    refine wp_ret ?_
    refine then_r ?_
    refine bodyPost_ret (rs_tt (v := .int .i64 0) (v2 := .int .i64 (chk ⟨cs, js, room⟩).1) Try.results29 hA17 (by kernel_rfl) (by kernel_rfl) ) hA17.2.1 ?_
    have E : lft ⟨cs, js, room⟩ = (0, (chk ⟨cs, js, room⟩).1) := if_neg hp13
    have hbel0_18 := Below.gN hbel0_6 hg5 hbel0_6.size
    exact ⟨ret2 (by rw [E]), hbel0_18⟩
  have hp13 := of_decide_eq_true hd13
  refine sx_val (v := .bool false) hA12 rfl (ev_neqB (k := .i64) (m := (chk ⟨cs, js, room⟩).1) (n := 0) (hA12.ev (i := 11)) (ec _ (.int .i64 0)) (by simpa using hd13) _ rfl) ?_
  intro a19 hA19; clear hA12
  refine sx_nil ?_
  refine then_n ?_
  refine wp_cond_false (hA19.ev (i := 12) (v := .bool false)) ?_
  refine wp_skip ?_
  refine then_n ?_
  refine wp_seq ?_
  refine wp_region_lit ?_
  refine sx_val (v := .pointer (some ⟨B1, 2, none⟩)) hA19 rfl (fb_Disk_2 (hA19.ev (i := 1) (v := .pointer (some ⟨B1, 0, none⟩))) _ rfl) ?_
  intro a20 hA20; clear hA19
  have hx1_21 := hx1.gN hg5
  refine sx_val (v := .int .i64 room) hA20 rfl (ev_cell (v := .int .i64 room) (hA20.ev (i := 14) (v := .pointer (some ⟨B1, 2, none⟩))) ((hx1_21.cell 2).trans rfl) Try.underlying3 rfl _ rfl) ?_
  intro a22 hA22; clear hA20
  refine sx_val (v := .pointer (some ⟨B1, 1, none⟩)) hA22 rfl (fb_Disk_1 (hA22.ev (i := 1) (v := .pointer (some ⟨B1, 0, none⟩))) _ rfl) ?_
  intro a23 hA23; clear hA22
  refine sx_val (v := .slice A2 js.length c2) hA23 rfl (ev_cell (v := .slice A2 js.length c2) (hA23.ev (i := 16) (v := .pointer (some ⟨B1, 1, none⟩))) ((hx1_21.cell 1).trans rfl) Try.underlying23 rfl _ rfl) ?_
  intro a24 hA24; clear hA23
  refine sx_val (v := .int .i64 (js.length : Int)) hA24 rfl (ev_len (hA24.ev (i := 17) (v := .slice A2 js.length c2)) Try.underlying23 _ rfl) ?_
  intro a25 hA25; clear hA24
  have hok := chk_ok hp13
  have q1 : (js.length : Int) ≤ room := hok.fit
  have q2 : room ≤ 32 := hok.rhi
  have q3 : 1 ≤ room := hok.rlo
  refine sx_val (v := .int .i64 (room - (js.length : Int))) hA25 rfl (ev_subR (k := .i64) (m := room) (n := (js.length : Int)) (r := room - (js.length : Int)) (hA25.ev (i := 15)) (hA25.ev (i := 18)) (wr (by omega) (by omega) (by omega)) _ rfl) ?_
  intro a26 hA26; clear hA25
  refine sx_val hA26 rfl (ev_assign (hA26.ev (i := 19) (v := .int .i64 (room - (js.length : Int)))) _ rfl) ?_
  intro a27 hA27; clear hA26
  refine sx_val hA27 rfl (ev_assign (ec _ (.int .i64 0)) _ rfl) ?_
  intro a28 hA28; clear hA27
  refine sx_nil ?_
  refine then_n ?_
  refine wp_ret ?_
  refine bodyPost_ret (rs_tt (v := .int .i64 (room - (js.length : Int))) (v2 := .int .i64 0) Try.results29 hA28 (by kernel_rfl) (by kernel_rfl) ) hA28.2.1 ?_
  have E : lft ⟨cs, js, room⟩ = (room - js.length, 0) := if_pos hp13
  have hbel0_29 := Below.gN hbel0_6 hg5 hbel0_6.size
  exact ⟨ret2 (by rw [E]), hbel0_29⟩
end Go.Proofs.Ytbkdimildnahaaa
