/- The law: step. -/
import Derived.Test.YtpoilgfblhacaaaKQ
namespace Go.Proofs.Ytpoilgfblhacaaa
open Go.RowKit
set_option linter.unusedVariables false
set_option linter.unusedSimpArgs false
set_option maxRecDepth 100000

set_option maxHeartbeats 8000000 in
theorem step_any (A1 : Option Addr) (c1 : Nat) (A2 : Option Addr) (c2 : Nat) (rs : List Int) (bs : List Bool) (n : Int) (m : Nat) (w : World) (hs : GS w A1 c1 A2 c2 rs bs) (h1 : 1 ≤ rs.length) (hl : rs.length ≤ 1000) (hb : bs.length ≤ 1000) (hm : n % 1048576 = (m : Int)) (hm2 : m < 1048576) : Calls Try.prog 35 #[.agg #[.slice A1 rs.length c1, .slice A2 bs.length c2], .int .i64 n] w (RSl w (stp ⟨rs, bs⟩ m).1 fun v => .tuple #[v, .int .i64 (stp ⟨rs, bs⟩ m).2.1, .int .i64 (stp ⟨rs, bs⟩ m).2.2]) := by
  have hbel0 := below0 w
  refine sx_enter (N := 80) [(0, .agg #[.slice A1 rs.length c1, .slice A2 bs.length c2]), (1, .int .i64 n)] Try.func35 rfl Try.ntmps35 (by simp) (fun a z d s => (((Ag.nil z d).cons (s 1 _ rfl)).cons (s 0 _ rfl))) ?_
  intro a0 hA0
  refine wp_seq ?_
  refine wp_region_lit ?_
  refine sx_new (cs := #[.slice A1 rs.length c1, .slice A2 bs.length c2]) (t := 25) hA0 rfl (by decide) (.inl rfl) (ev_box (hA0.ev (i := 0) (v := .agg #[.slice A1 rs.length c1, .slice A2 bs.length c2])) rfl _ rfl) ?_
  intro B1 w1 a1 hB1 hx1 hg1 hA1
  clear hA0
  have hs1 := hg1.size
  have hl1 := hx1.lt
  refine sx_new (cs := #[.slice none 0 0, .slice none 0 0]) (t := 25) hA1 rfl (by decide) (.inl rfl) (ev_alloc (z := .agg (#[.slice none 0 0, .slice none 0 0])) (by kernel_rfl) (by kernel_rfl) _ rfl) ?_
  intro B2 w2 a2 hB2 hx2 hg2 hA2
  clear hA1
  have hs2 := hg2.size
  have hl2 := hx2.lt
  refine sx_val hA2 rfl (ev_assign (ec _ (.int .i64 0)) _ rfl) ?_
  intro a3 hA3; clear hA2
  refine sx_val hA3 rfl (ev_assign (ec _ (.int .i64 0)) _ rfl) ?_
  intro a4 hA4; clear hA3
  refine sx_nil ?_
  refine then_n ?_
  refine wp_seq ?_
  refine wp_region_lit ?_
  refine sx_val hA4 rfl (ev_move (hA4.ev (i := 1) (v := .int .i64 n)) _ rfl) ?_
  intro a5 hA5; clear hA4
  refine sx_call (f := 34) (args := #[.int .i64 n, .int .i64 1048576]) hA5 rfl (by decide) (.inl rfl) (ev_fn rfl (mp2 (hA5.ev (i := 18) (v := .int .i64 n)) (ec _ (.int .i64 1048576))) (by kernel_rfl) _ rfl) (Mod_any n 1048576 _ (by omega) (by omega)) ?_
  intro e6 w6 hR6
  obtain ⟨he6, hb6⟩ := hR6
  rw [hm] at he6
  subst he6
  refine ⟨_, rfl, ?_⟩
  intro a6 hA6
  clear hA5
  have hg6 := g0 hb6
  have hs6 := hg6.size
  clear hb6
  refine sx_val hA6 rfl (ev_assign (hA6.ev (i := 19) (v := .int .i64 (m : Int))) _ rfl) ?_
  intro a7 hA7; clear hA6
  refine sx_nil ?_
  refine then_n ?_
  refine wp_seq ?_
  refine wp_region_lit ?_
  refine sx_val hA7 rfl (ev_move (hA7.ev (i := 1) (v := .int .i64 (m : Int))) _ rfl) ?_
  intro a8 hA8; clear hA7
  refine sx_val (v := .int .i64 (((m / 6) : Nat) : Int)) hA8 rfl (ev_quoN (m := m) (n := 6) (hA8.ev (i := 20)) (ec _ (.int .i64 6)) (by decide) (by omega) rfl _ rfl) ?_
  intro a9 hA9; clear hA8
  refine sx_val (v := .pointer (some ⟨B1, 0, none⟩)) hA9 rfl (fb_Slots_0 (hA9.ev (i := 2) (v := .pointer (some ⟨B1, 0, none⟩))) _ rfl) ?_
  intro a10 hA10; clear hA9
  have hx1_11 := hx1.gN hg2
  have hx1_12 := hx1_11.gN hg6
  refine sx_val (v := .slice A1 rs.length c1) hA10 rfl (ev_cell (v := .slice A1 rs.length c1) (hA10.ev (i := 22) (v := .pointer (some ⟨B1, 0, none⟩))) ((hx1_12.cell 0).trans rfl) Try.underlying22 rfl _ rfl) ?_
  intro a13 hA13; clear hA10
  refine sx_val (v := .int .i64 (rs.length : Int)) hA13 rfl (ev_len (hA13.ev (i := 23) (v := .slice A1 rs.length c1)) Try.underlying22 _ rfl) ?_
  intro a14 hA14; clear hA13
  refine sx_val (v := .int .i64 ((((m / 6) % rs.length) : Nat) : Int)) hA14 rfl (ev_remN (k := .i64) (m := (m / 6)) (n := rs.length) (hA14.ev (i := 21)) (hA14.ev (i := 24)) (by omega) rfl _ rfl) ?_
  intro a15 hA15; clear hA14
  refine sx_val hA15 rfl (ev_assign (hA15.ev (i := 25) (v := .int .i64 ((((m / 6) % rs.length) : Nat) : Int))) _ rfl) ?_
  intro a16 hA16; clear hA15
  refine sx_nil ?_
  refine then_n ?_
  refine wp_seq ?_
  refine wp_seq ?_
  refine wp_region_lit ?_
  refine sx_val hA16 rfl (ev_move (hA16.ev (i := 1) (v := .int .i64 (m : Int))) _ rfl) ?_
  intro a17 hA17; clear hA16
  refine sx_val (v := .int .i64 (((m % 6) : Nat) : Int)) hA17 rfl (ev_remN (k := .i64) (m := m) (n := 6) (hA17.ev (i := 26)) (ec _ (.int .i64 6)) (by decide) rfl _ rfl) ?_
  intro a18 hA18; clear hA17
  refine sx_nil ?_
  refine then_n ?_
  refine wp_block ?_
  refine wp_seq ?_
  refine wp_seq ?_
  refine wp_region_lit ?_
  cases hd19 : decide ((((m % 6) : Nat) : Int) = 0)
  rotate_left
  · have hp19 := of_decide_eq_true hd19
    refine sx_val (v := .bool true) hA18 rfl (ev_eqlB (k := .i64) (m := (((m % 6) : Nat) : Int)) (n := 0) (hA18.ev (i := 27)) (ec _ (.int .i64 0)) hd19 _ rfl) ?_
    intro a191 hA191; clear hA18
    refine sx_val hA191 rfl (ev_assign (hA191.ev (i := 29) (v := .bool true)) _ rfl) ?_
    intro a192 hA192; clear hA191
    refine sx_nil ?_
    refine then_n ?_
    refine wp_cond_true (hA192.ev (i := 28) (v := .bool true)) ?_
    refine wp_skip ?_
    refine then_n ?_
    refine wp_cond_true (hA192.ev (i := 28) (v := .bool true)) ?_
    refine wp_seq ?_
    refine wp_region_lit ?_
    refine sx_val (v := .agg #[.slice A1 rs.length c1, .slice A2 bs.length c2]) hA192 rfl (ev_row (hA192.ev (i := 2) (v := .pointer (some ⟨B1, 0, none⟩))) hx1_12 Try.underlying25 rfl (n := 2) (by kernel_rfl) rfl _ rfl) ?_
    intro a193 hA193; clear hA192
    refine sx_val hA193 rfl (ev_move (hA193.ev (i := 1) (v := .int .i64 (m : Int))) _ rfl) ?_
    intro a194 hA194; clear hA193
    refine sx_val (v := .int .i64 (((m / 100) : Nat) : Int)) hA194 rfl (ev_quoN (m := m) (n := 100) (hA194.ev (i := 32)) (ec _ (.int .i64 100)) (by decide) (by omega) rfl _ rfl) ?_
    intro a195 hA195; clear hA194
    refine sx_val (v := .int .i64 ((((m / 100) % 3) : Nat) : Int)) hA195 rfl (ev_remN (k := .i64) (m := (m / 100)) (n := 3) (hA195.ev (i := 33)) (ec _ (.int .i64 3)) (by decide) rfl _ rfl) ?_
    intro a196 hA196; clear hA195
    refine sx_val (v := .int .i64 (((1 + ((m / 100) % 3)) : Nat) : Int)) hA196 rfl (ev_addI (m := 1) (n := ((m / 100) % 3)) (ec _ (.int .i64 1)) (hA196.ev (i := 34)) rfl (by omega) _ rfl) ?_
    intro a197 hA197; clear hA196
    have hbel0_199 := Below.gN hbel0 hg1 hbel0.size
    have hbel0_200 := Below.gN hbel0_199 hg2 hbel0_199.size
    have hbel0_201 := Below.gN hbel0_200 hg6 hbel0_200.size
    refine sx_call (f := 22) (args := #[.agg #[.slice A1 rs.length c1, .slice A2 bs.length c2], .int .i64 (((1 + ((m / 100) % 3)) : Nat) : Int)]) hA197 rfl (by decide) (.inl rfl) (ev_fn rfl (mp2 (hA197.ev (i := 31) (v := .agg #[.slice A1 rs.length c1, .slice A2 bs.length c2])) (hA197.ev (i := 35) (v := .int .i64 (((1 + ((m / 100) % 3)) : Nat) : Int)))) (by kernel_rfl) _ rfl) (Alloc_any A1 c1 A2 c2 rs bs (((1 + ((m / 100) % 3)) : Nat) : Int) _ ⟨(hs.r.below hbel0_201), (hs.b.below hbel0_201)⟩ (by omega) (by omega)) ?_
    intro e198 w198 hR198
    obtain ⟨Ap198, cp198, Aj198, cj198, rfl, hC198, hJ198, hb198⟩ := hR198
    refine ⟨_, rfl, ?_⟩
    intro a198 hA198
    clear hA197
    have hg198 := g0 hb198
    have hs198 := hg198.size
    clear hb198
    have ho198_0 : Own w198 (w6.heap.size) 3 1 (.slice Ap198 (alc ⟨rs, bs⟩ (((1 + ((m / 100) % 3)) : Nat) : Int)).1.rs.length cp198) (alc ⟨rs, bs⟩ (((1 + ((m / 100) % 3)) : Nat) : Int)).1.rs.length (flat iva (alc ⟨rs, bs⟩ (((1 + ((m / 100) % 3)) : Nat) : Int)).1.rs) := hC198
    have hh198_0 := Own.hi ho198_0
    have ho198_1 : Own w198 (w6.heap.size) 4 1 (.slice Aj198 (alc ⟨rs, bs⟩ (((1 + ((m / 100) % 3)) : Nat) : Int)).1.bs.length cj198) (alc ⟨rs, bs⟩ (((1 + ((m / 100) % 3)) : Nat) : Int)).1.bs.length (flat bva (alc ⟨rs, bs⟩ (((1 + ((m / 100) % 3)) : Nat) : Int)).1.bs) := hJ198
    have hh198_1 := Own.hi ho198_1
    refine sx_val (v := .agg #[.slice Ap198 (alc ⟨rs, bs⟩ (((1 + ((m / 100) % 3)) : Nat) : Int)).1.rs.length cp198, .slice Aj198 (alc ⟨rs, bs⟩ (((1 + ((m / 100) % 3)) : Nat) : Int)).1.bs.length cj198]) hA198 rfl (ev_ext (hA198.ev (i := 36) (v := .tuple #[.agg #[.slice Ap198 (alc ⟨rs, bs⟩ (((1 + ((m / 100) % 3)) : Nat) : Int)).1.rs.length cp198, .slice Aj198 (alc ⟨rs, bs⟩ (((1 + ((m / 100) % 3)) : Nat) : Int)).1.bs.length cj198], .int .i64 (alc ⟨rs, bs⟩ (((1 + ((m / 100) % 3)) : Nat) : Int)).2.1, .int .i64 (alc ⟨rs, bs⟩ (((1 + ((m / 100) % 3)) : Nat) : Int)).2.2])) rfl _ rfl) ?_
    intro a202 hA202; clear hA198
    refine sx_val (v := .int .i64 (alc ⟨rs, bs⟩ (((1 + ((m / 100) % 3)) : Nat) : Int)).2.1) hA202 rfl (ev_ext (hA202.ev (i := 36) (v := .tuple #[.agg #[.slice Ap198 (alc ⟨rs, bs⟩ (((1 + ((m / 100) % 3)) : Nat) : Int)).1.rs.length cp198, .slice Aj198 (alc ⟨rs, bs⟩ (((1 + ((m / 100) % 3)) : Nat) : Int)).1.bs.length cj198], .int .i64 (alc ⟨rs, bs⟩ (((1 + ((m / 100) % 3)) : Nat) : Int)).2.1, .int .i64 (alc ⟨rs, bs⟩ (((1 + ((m / 100) % 3)) : Nat) : Int)).2.2])) rfl _ rfl) ?_
    intro a203 hA203; clear hA202
    refine sx_val (v := .int .i64 (alc ⟨rs, bs⟩ (((1 + ((m / 100) % 3)) : Nat) : Int)).2.2) hA203 rfl (ev_ext (hA203.ev (i := 36) (v := .tuple #[.agg #[.slice Ap198 (alc ⟨rs, bs⟩ (((1 + ((m / 100) % 3)) : Nat) : Int)).1.rs.length cp198, .slice Aj198 (alc ⟨rs, bs⟩ (((1 + ((m / 100) % 3)) : Nat) : Int)).1.bs.length cj198], .int .i64 (alc ⟨rs, bs⟩ (((1 + ((m / 100) % 3)) : Nat) : Int)).2.1, .int .i64 (alc ⟨rs, bs⟩ (((1 + ((m / 100) % 3)) : Nat) : Int)).2.2])) rfl _ rfl) ?_
    intro a204 hA204; clear hA203
    have hx2_206 := hx2.gN hg6
    have hx2_207 := hx2_206.gN hg198
    refine sx_store hA204 rfl (.inl rfl) rfl (hA204.ev (i := 4) (v := .pointer (some ⟨B2, 0, none⟩))) (hA204.ev (i := 37) (v := .agg #[.slice Ap198 (alc ⟨rs, bs⟩ (((1 + ((m / 100) % 3)) : Nat) : Int)).1.rs.length cp198, .slice Aj198 (alc ⟨rs, bs⟩ (((1 + ((m / 100) % 3)) : Nat) : Int)).1.bs.length cj198])) hx2_207 (by kernel_rfl) rfl (by simp [Value.oneCell']) ?_
    intro w205 hx205 hg205
    have hs205 := hg205.size
    refine sx_val hA204 rfl (ev_assign (hA204.ev (i := 38) (v := .int .i64 (alc ⟨rs, bs⟩ (((1 + ((m / 100) % 3)) : Nat) : Int)).2.1)) _ rfl) ?_
    intro a208 hA208; clear hA204
    refine sx_val hA208 rfl (ev_assign (hA208.ev (i := 39) (v := .int .i64 (alc ⟨rs, bs⟩ (((1 + ((m / 100) % 3)) : Nat) : Int)).2.2)) _ rfl) ?_
    intro a209 hA209; clear hA208
    refine sx_nil ?_
    refine then_n ?_
    refine wp_ret ?_
    refine blk_r ?_
    refine then_r ?_
    refine bodyPost_ret (rs_ctt (v := .int .i64 (alc ⟨rs, bs⟩ (((1 + ((m / 100) % 3)) : Nat) : Int)).2.1) (v2 := .int .i64 (alc ⟨rs, bs⟩ (((1 + ((m / 100) % 3)) : Nat) : Int)).2.2) Try.results35 hA209 (by kernel_rfl) (by kernel_rfl) (by kernel_rfl) hx205 Try.underlying25 rfl (by kernel_rfl)) hA209.2.1 ?_
    have E : stp ⟨rs, bs⟩ m = alc ⟨rs, bs⟩ ((1 + m / 100 % 3 : Nat) : Int) := if_pos (by omega)
    rw [E]
    have ho198_210 := Own.gBT ho198_0 hg205 hx2_207 (by decide)
    have ho198_211 := Own.gBT ho198_1 hg205 hx2_207 (by decide)
    have hbel0_212 := Below.gN hbel0_201 hg198 hbel0_201.size
    have hbel0_213 := Below.gB hbel0_212 hg205 hbel0_212.size (by omega)
    exact ⟨_, _, _, _, rfl, Own.mono ho198_210 (by omega), Own.mono ho198_211 (by omega), hbel0_213⟩
  have hp19 := of_decide_eq_false hd19
  refine sx_val (v := .bool false) hA18 rfl (ev_eqlB (k := .i64) (m := (((m % 6) : Nat) : Int)) (n := 0) (hA18.ev (i := 27)) (ec _ (.int .i64 0)) hd19 _ rfl) ?_
  intro a20 hA20; clear hA18
  refine sx_val hA20 rfl (ev_assign (hA20.ev (i := 29) (v := .bool false)) _ rfl) ?_
  intro a21 hA21; clear hA20
  refine sx_nil ?_
  refine then_n ?_
  refine wp_cond_false (hA21.ev (i := 28) (v := .bool false)) ?_
  refine wp_region_lit ?_
  cases hd22 : decide ((((m % 6) : Nat) : Int) = 1)
  rotate_left
  · have hp22 := of_decide_eq_true hd22
    refine sx_val (v := .bool true) hA21 rfl (ev_eqlB (k := .i64) (m := (((m % 6) : Nat) : Int)) (n := 1) (hA21.ev (i := 27)) (ec _ (.int .i64 1)) hd22 _ rfl) ?_
    intro a168 hA168; clear hA21
    refine sx_val hA168 rfl (ev_assign (hA168.ev (i := 30) (v := .bool true)) _ rfl) ?_
    intro a169 hA169; clear hA168
    refine sx_nil ?_
    refine then_n ?_
    refine wp_cond_true (hA169.ev (i := 28) (v := .bool true)) ?_
    refine wp_seq ?_
    refine wp_region_lit ?_
    refine sx_val (v := .agg #[.slice A1 rs.length c1, .slice A2 bs.length c2]) hA169 rfl (ev_row (hA169.ev (i := 2) (v := .pointer (some ⟨B1, 0, none⟩))) hx1_12 Try.underlying25 rfl (n := 2) (by kernel_rfl) rfl _ rfl) ?_
    intro a170 hA170; clear hA169
    refine sx_val hA170 rfl (ev_move (hA170.ev (i := 1) (v := .int .i64 (m : Int))) _ rfl) ?_
    intro a171 hA171; clear hA170
    refine sx_val (v := .int .i64 (((m / 100) : Nat) : Int)) hA171 rfl (ev_quoN (m := m) (n := 100) (hA171.ev (i := 32)) (ec _ (.int .i64 100)) (by decide) (by omega) rfl _ rfl) ?_
    intro a172 hA172; clear hA171
    refine sx_val (v := .int .i64 ((((m / 100) % 3) : Nat) : Int)) hA172 rfl (ev_remN (k := .i64) (m := (m / 100)) (n := 3) (hA172.ev (i := 33)) (ec _ (.int .i64 3)) (by decide) rfl _ rfl) ?_
    intro a173 hA173; clear hA172
    refine sx_val (v := .int .i64 (((1 + ((m / 100) % 3)) : Nat) : Int)) hA173 rfl (ev_addI (m := 1) (n := ((m / 100) % 3)) (ec _ (.int .i64 1)) (hA173.ev (i := 34)) rfl (by omega) _ rfl) ?_
    intro a174 hA174; clear hA173
    have hbel0_176 := Below.gN hbel0 hg1 hbel0.size
    have hbel0_177 := Below.gN hbel0_176 hg2 hbel0_176.size
    have hbel0_178 := Below.gN hbel0_177 hg6 hbel0_177.size
    refine sx_call (f := 22) (args := #[.agg #[.slice A1 rs.length c1, .slice A2 bs.length c2], .int .i64 (((1 + ((m / 100) % 3)) : Nat) : Int)]) hA174 rfl (by decide) (.inl rfl) (ev_fn rfl (mp2 (hA174.ev (i := 31) (v := .agg #[.slice A1 rs.length c1, .slice A2 bs.length c2])) (hA174.ev (i := 35) (v := .int .i64 (((1 + ((m / 100) % 3)) : Nat) : Int)))) (by kernel_rfl) _ rfl) (Alloc_any A1 c1 A2 c2 rs bs (((1 + ((m / 100) % 3)) : Nat) : Int) _ ⟨(hs.r.below hbel0_178), (hs.b.below hbel0_178)⟩ (by omega) (by omega)) ?_
    intro e175 w175 hR175
    obtain ⟨Ap175, cp175, Aj175, cj175, rfl, hC175, hJ175, hb175⟩ := hR175
    refine ⟨_, rfl, ?_⟩
    intro a175 hA175
    clear hA174
    have hg175 := g0 hb175
    have hs175 := hg175.size
    clear hb175
    have ho175_0 : Own w175 (w6.heap.size) 3 1 (.slice Ap175 (alc ⟨rs, bs⟩ (((1 + ((m / 100) % 3)) : Nat) : Int)).1.rs.length cp175) (alc ⟨rs, bs⟩ (((1 + ((m / 100) % 3)) : Nat) : Int)).1.rs.length (flat iva (alc ⟨rs, bs⟩ (((1 + ((m / 100) % 3)) : Nat) : Int)).1.rs) := hC175
    have hh175_0 := Own.hi ho175_0
    have ho175_1 : Own w175 (w6.heap.size) 4 1 (.slice Aj175 (alc ⟨rs, bs⟩ (((1 + ((m / 100) % 3)) : Nat) : Int)).1.bs.length cj175) (alc ⟨rs, bs⟩ (((1 + ((m / 100) % 3)) : Nat) : Int)).1.bs.length (flat bva (alc ⟨rs, bs⟩ (((1 + ((m / 100) % 3)) : Nat) : Int)).1.bs) := hJ175
    have hh175_1 := Own.hi ho175_1
    refine sx_val (v := .agg #[.slice Ap175 (alc ⟨rs, bs⟩ (((1 + ((m / 100) % 3)) : Nat) : Int)).1.rs.length cp175, .slice Aj175 (alc ⟨rs, bs⟩ (((1 + ((m / 100) % 3)) : Nat) : Int)).1.bs.length cj175]) hA175 rfl (ev_ext (hA175.ev (i := 36) (v := .tuple #[.agg #[.slice Ap175 (alc ⟨rs, bs⟩ (((1 + ((m / 100) % 3)) : Nat) : Int)).1.rs.length cp175, .slice Aj175 (alc ⟨rs, bs⟩ (((1 + ((m / 100) % 3)) : Nat) : Int)).1.bs.length cj175], .int .i64 (alc ⟨rs, bs⟩ (((1 + ((m / 100) % 3)) : Nat) : Int)).2.1, .int .i64 (alc ⟨rs, bs⟩ (((1 + ((m / 100) % 3)) : Nat) : Int)).2.2])) rfl _ rfl) ?_
    intro a179 hA179; clear hA175
    refine sx_val (v := .int .i64 (alc ⟨rs, bs⟩ (((1 + ((m / 100) % 3)) : Nat) : Int)).2.1) hA179 rfl (ev_ext (hA179.ev (i := 36) (v := .tuple #[.agg #[.slice Ap175 (alc ⟨rs, bs⟩ (((1 + ((m / 100) % 3)) : Nat) : Int)).1.rs.length cp175, .slice Aj175 (alc ⟨rs, bs⟩ (((1 + ((m / 100) % 3)) : Nat) : Int)).1.bs.length cj175], .int .i64 (alc ⟨rs, bs⟩ (((1 + ((m / 100) % 3)) : Nat) : Int)).2.1, .int .i64 (alc ⟨rs, bs⟩ (((1 + ((m / 100) % 3)) : Nat) : Int)).2.2])) rfl _ rfl) ?_
    intro a180 hA180; clear hA179
    refine sx_val (v := .int .i64 (alc ⟨rs, bs⟩ (((1 + ((m / 100) % 3)) : Nat) : Int)).2.2) hA180 rfl (ev_ext (hA180.ev (i := 36) (v := .tuple #[.agg #[.slice Ap175 (alc ⟨rs, bs⟩ (((1 + ((m / 100) % 3)) : Nat) : Int)).1.rs.length cp175, .slice Aj175 (alc ⟨rs, bs⟩ (((1 + ((m / 100) % 3)) : Nat) : Int)).1.bs.length cj175], .int .i64 (alc ⟨rs, bs⟩ (((1 + ((m / 100) % 3)) : Nat) : Int)).2.1, .int .i64 (alc ⟨rs, bs⟩ (((1 + ((m / 100) % 3)) : Nat) : Int)).2.2])) rfl _ rfl) ?_
    intro a181 hA181; clear hA180
    have hx2_183 := hx2.gN hg6
    have hx2_184 := hx2_183.gN hg175
    refine sx_store hA181 rfl (.inl rfl) rfl (hA181.ev (i := 4) (v := .pointer (some ⟨B2, 0, none⟩))) (hA181.ev (i := 37) (v := .agg #[.slice Ap175 (alc ⟨rs, bs⟩ (((1 + ((m / 100) % 3)) : Nat) : Int)).1.rs.length cp175, .slice Aj175 (alc ⟨rs, bs⟩ (((1 + ((m / 100) % 3)) : Nat) : Int)).1.bs.length cj175])) hx2_184 (by kernel_rfl) rfl (by simp [Value.oneCell']) ?_
    intro w182 hx182 hg182
    have hs182 := hg182.size
    refine sx_val hA181 rfl (ev_assign (hA181.ev (i := 38) (v := .int .i64 (alc ⟨rs, bs⟩ (((1 + ((m / 100) % 3)) : Nat) : Int)).2.1)) _ rfl) ?_
    intro a185 hA185; clear hA181
    refine sx_val hA185 rfl (ev_assign (hA185.ev (i := 39) (v := .int .i64 (alc ⟨rs, bs⟩ (((1 + ((m / 100) % 3)) : Nat) : Int)).2.2)) _ rfl) ?_
    intro a186 hA186; clear hA185
    refine sx_nil ?_
    refine then_n ?_
    refine wp_ret ?_
    refine blk_r ?_
    refine then_r ?_
    refine bodyPost_ret (rs_ctt (v := .int .i64 (alc ⟨rs, bs⟩ (((1 + ((m / 100) % 3)) : Nat) : Int)).2.1) (v2 := .int .i64 (alc ⟨rs, bs⟩ (((1 + ((m / 100) % 3)) : Nat) : Int)).2.2) Try.results35 hA186 (by kernel_rfl) (by kernel_rfl) (by kernel_rfl) hx182 Try.underlying25 rfl (by kernel_rfl)) hA186.2.1 ?_
    have E : stp ⟨rs, bs⟩ m = alc ⟨rs, bs⟩ ((1 + m / 100 % 3 : Nat) : Int) := if_pos (by omega)
    rw [E]
    have ho175_187 := Own.gBT ho175_0 hg182 hx2_184 (by decide)
    have ho175_188 := Own.gBT ho175_1 hg182 hx2_184 (by decide)
    have hbel0_189 := Below.gN hbel0_178 hg175 hbel0_178.size
    have hbel0_190 := Below.gB hbel0_189 hg182 hbel0_189.size (by omega)
    exact ⟨_, _, _, _, rfl, Own.mono ho175_187 (by omega), Own.mono ho175_188 (by omega), hbel0_190⟩
  have hp22 := of_decide_eq_false hd22
  refine sx_val (v := .bool false) hA21 rfl (ev_eqlB (k := .i64) (m := (((m % 6) : Nat) : Int)) (n := 1) (hA21.ev (i := 27)) (ec _ (.int .i64 1)) hd22 _ rfl) ?_
  intro a23 hA23; clear hA21
  refine sx_val hA23 rfl (ev_assign (hA23.ev (i := 30) (v := .bool false)) _ rfl) ?_
  intro a24 hA24; clear hA23
  refine sx_nil ?_
  refine then_n ?_
  refine wp_cond_false (hA24.ev (i := 28) (v := .bool false)) ?_
  refine wp_seq ?_
  refine wp_region_lit ?_
  cases hd25 : decide ((((m % 6) : Nat) : Int) = 2)
  rotate_left
  · have hp25 := of_decide_eq_true hd25
    refine sx_val (v := .bool true) hA24 rfl (ev_eqlB (k := .i64) (m := (((m % 6) : Nat) : Int)) (n := 2) (hA24.ev (i := 27)) (ec _ (.int .i64 2)) hd25 _ rfl) ?_
    intro a135 hA135; clear hA24
    refine sx_val hA135 rfl (ev_assign (hA135.ev (i := 41) (v := .bool true)) _ rfl) ?_
    intro a136 hA136; clear hA135
    refine sx_nil ?_
    refine then_n ?_
    refine wp_cond_true (hA136.ev (i := 40) (v := .bool true)) ?_
    refine wp_seq ?_
    refine wp_region_lit ?_
    refine sx_val (v := .agg #[.slice A1 rs.length c1, .slice A2 bs.length c2]) hA136 rfl (ev_row (hA136.ev (i := 2) (v := .pointer (some ⟨B1, 0, none⟩))) hx1_12 Try.underlying25 rfl (n := 2) (by kernel_rfl) rfl _ rfl) ?_
    intro a137 hA137; clear hA136
    refine sx_val hA137 rfl (ev_move (hA137.ev (i := 7) (v := .int .i64 ((((m / 6) % rs.length) : Nat) : Int))) _ rfl) ?_
    intro a138 hA138; clear hA137
    have hbel0_140 := Below.gN hbel0 hg1 hbel0.size
    have hbel0_141 := Below.gN hbel0_140 hg2 hbel0_140.size
    have hbel0_142 := Below.gN hbel0_141 hg6 hbel0_141.size
    refine sx_call (f := 11) (args := #[.agg #[.slice A1 rs.length c1, .slice A2 bs.length c2], .int .i64 ((((m / 6) % rs.length) : Nat) : Int)]) hA138 rfl (by decide) (.inl rfl) (ev_fn rfl (mp2 (hA138.ev (i := 43) (v := .agg #[.slice A1 rs.length c1, .slice A2 bs.length c2])) (hA138.ev (i := 44) (v := .int .i64 ((((m / 6) % rs.length) : Nat) : Int)))) (by kernel_rfl) _ rfl) (Ref_any A1 c1 A2 c2 rs bs ((((m / 6) % rs.length) : Nat) : Int) _ ⟨(hs.r.below hbel0_142), (hs.b.below hbel0_142)⟩ (by omega) (by omega)) ?_
    intro e139 w139 hR139
    obtain ⟨Ap139, cp139, Aj139, cj139, rfl, hC139, hJ139, hb139⟩ := hR139
    refine ⟨_, rfl, ?_⟩
    intro a139 hA139
    clear hA138
    have hg139 := g0 hb139
    have hs139 := hg139.size
    clear hb139
    have ho139_0 : Own w139 (w6.heap.size) 3 1 (.slice Ap139 (rff ⟨rs, bs⟩ ((((m / 6) % rs.length) : Nat) : Int)).1.rs.length cp139) (rff ⟨rs, bs⟩ ((((m / 6) % rs.length) : Nat) : Int)).1.rs.length (flat iva (rff ⟨rs, bs⟩ ((((m / 6) % rs.length) : Nat) : Int)).1.rs) := hC139
    have hh139_0 := Own.hi ho139_0
    have ho139_1 : Own w139 (w6.heap.size) 4 1 (.slice Aj139 (rff ⟨rs, bs⟩ ((((m / 6) % rs.length) : Nat) : Int)).1.bs.length cj139) (rff ⟨rs, bs⟩ ((((m / 6) % rs.length) : Nat) : Int)).1.bs.length (flat bva (rff ⟨rs, bs⟩ ((((m / 6) % rs.length) : Nat) : Int)).1.bs) := hJ139
    have hh139_1 := Own.hi ho139_1
    refine sx_val hA139 rfl (ev_move (hA139.ev (i := 45) (v := .tuple #[.agg #[.slice Ap139 (rff ⟨rs, bs⟩ ((((m / 6) % rs.length) : Nat) : Int)).1.rs.length cp139, .slice Aj139 (rff ⟨rs, bs⟩ ((((m / 6) % rs.length) : Nat) : Int)).1.bs.length cj139], .int .i64 (rff ⟨rs, bs⟩ ((((m / 6) % rs.length) : Nat) : Int)).2])) _ rfl) ?_
    intro a143 hA143; clear hA139
    refine sx_val (v := .agg #[.slice Ap139 (rff ⟨rs, bs⟩ ((((m / 6) % rs.length) : Nat) : Int)).1.rs.length cp139, .slice Aj139 (rff ⟨rs, bs⟩ ((((m / 6) % rs.length) : Nat) : Int)).1.bs.length cj139]) hA143 rfl (ev_ext (hA143.ev (i := 42) (v := .tuple #[.agg #[.slice Ap139 (rff ⟨rs, bs⟩ ((((m / 6) % rs.length) : Nat) : Int)).1.rs.length cp139, .slice Aj139 (rff ⟨rs, bs⟩ ((((m / 6) % rs.length) : Nat) : Int)).1.bs.length cj139], .int .i64 (rff ⟨rs, bs⟩ ((((m / 6) % rs.length) : Nat) : Int)).2])) rfl _ rfl) ?_
    intro a144 hA144; clear hA143
    refine sx_val (v := .int .i64 (rff ⟨rs, bs⟩ ((((m / 6) % rs.length) : Nat) : Int)).2) hA144 rfl (ev_ext (hA144.ev (i := 42) (v := .tuple #[.agg #[.slice Ap139 (rff ⟨rs, bs⟩ ((((m / 6) % rs.length) : Nat) : Int)).1.rs.length cp139, .slice Aj139 (rff ⟨rs, bs⟩ ((((m / 6) % rs.length) : Nat) : Int)).1.bs.length cj139], .int .i64 (rff ⟨rs, bs⟩ ((((m / 6) % rs.length) : Nat) : Int)).2])) rfl _ rfl) ?_
    intro a145 hA145; clear hA144
    refine sx_new (cs := #[.slice none 0 0, .slice none 0 0]) (t := 25) hA145 rfl (by decide) (.inl rfl) (ev_alloc (z := .agg (#[.slice none 0 0, .slice none 0 0])) (by kernel_rfl) (by kernel_rfl) _ rfl) ?_
    intro B146 w146 a146 hB146 hx146 hg146 hA146
    clear hA145
    have hs146 := hg146.size
    have hl146 := hx146.lt
    refine sx_store hA146 rfl (.inl rfl) rfl (hA146.ev (i := 8) (v := .pointer (some ⟨B146, 0, none⟩))) (hA146.ev (i := 46) (v := .agg #[.slice Ap139 (rff ⟨rs, bs⟩ ((((m / 6) % rs.length) : Nat) : Int)).1.rs.length cp139, .slice Aj139 (rff ⟨rs, bs⟩ ((((m / 6) % rs.length) : Nat) : Int)).1.bs.length cj139])) hx146 (by kernel_rfl) rfl (by simp [Value.oneCell']) ?_
    intro w147 hx147 hg147
    have hs147 := hg147.size
    refine sx_val hA146 rfl (ev_assign (hA146.ev (i := 47) (v := .int .i64 (rff ⟨rs, bs⟩ ((((m / 6) % rs.length) : Nat) : Int)).2)) _ rfl) ?_
    intro a148 hA148; clear hA146
    refine sx_nil ?_
    refine then_n ?_
    refine wp_seq ?_
    refine wp_region_lit ?_
    refine sx_val (v := .agg #[.slice Ap139 (rff ⟨rs, bs⟩ ((((m / 6) % rs.length) : Nat) : Int)).1.rs.length cp139, .slice Aj139 (rff ⟨rs, bs⟩ ((((m / 6) % rs.length) : Nat) : Int)).1.bs.length cj139]) hA148 rfl (ev_row (hA148.ev (i := 8) (v := .pointer (some ⟨B146, 0, none⟩))) hx147 Try.underlying25 rfl (n := 2) (by kernel_rfl) rfl _ rfl) ?_
    intro a149 hA149; clear hA148
    refine sx_val hA149 rfl (ev_move (hA149.ev (i := 9) (v := .int .i64 (rff ⟨rs, bs⟩ ((((m / 6) % rs.length) : Nat) : Int)).2)) _ rfl) ?_
    intro a150 hA150; clear hA149
    have hx2_152 := hx2.gN hg6
    have hx2_153 := hx2_152.gN hg139
    have hx2_154 := hx2_153.gN hg146
    have hx2_155 := hx2_154.gB hg147 (by omega)
    refine sx_store hA150 rfl (.inl rfl) rfl (hA150.ev (i := 4) (v := .pointer (some ⟨B2, 0, none⟩))) (hA150.ev (i := 48) (v := .agg #[.slice Ap139 (rff ⟨rs, bs⟩ ((((m / 6) % rs.length) : Nat) : Int)).1.rs.length cp139, .slice Aj139 (rff ⟨rs, bs⟩ ((((m / 6) % rs.length) : Nat) : Int)).1.bs.length cj139])) hx2_155 (by kernel_rfl) rfl (by simp [Value.oneCell']) ?_
    intro w151 hx151 hg151
    have hs151 := hg151.size
    refine sx_val hA150 rfl (ev_assign (ec _ (.int .i64 (-1))) _ rfl) ?_
    intro a156 hA156; clear hA150
    refine sx_val hA156 rfl (ev_assign (hA156.ev (i := 49) (v := .int .i64 (rff ⟨rs, bs⟩ ((((m / 6) % rs.length) : Nat) : Int)).2)) _ rfl) ?_
    intro a157 hA157; clear hA156
    refine sx_nil ?_
    refine then_n ?_
    refine wp_ret ?_
    refine blk_r ?_
    refine then_r ?_
    refine bodyPost_ret (rs_ctt (v := .int .i64 (-1)) (v2 := .int .i64 (rff ⟨rs, bs⟩ ((((m / 6) % rs.length) : Nat) : Int)).2) Try.results35 hA157 (by kernel_rfl) (by kernel_rfl) (by kernel_rfl) hx151 Try.underlying25 rfl (by kernel_rfl)) hA157.2.1 ?_
    have E : stp ⟨rs, bs⟩ m = ((rff ⟨rs, bs⟩ ((m / 6 % rs.length : Nat) : Int)).1, -1, (rff ⟨rs, bs⟩ ((m / 6 % rs.length : Nat) : Int)).2) := by
      unfold stp
      rw [if_neg (by omega), if_pos (by omega)]
    rw [E]
    have ho139_158 := Own.gN ho139_0 hg146
    have ho139_159 := Own.gBT ho139_158 hg147 hx146 (by decide)
    have ho139_160 := Own.gBT ho139_159 hg151 hx2_155 (by decide)
    have ho139_161 := Own.gN ho139_1 hg146
    have ho139_162 := Own.gBT ho139_161 hg147 hx146 (by decide)
    have ho139_163 := Own.gBT ho139_162 hg151 hx2_155 (by decide)
    have hbel0_164 := Below.gN hbel0_142 hg139 hbel0_142.size
    have hbel0_165 := Below.gN hbel0_164 hg146 hbel0_164.size
    have hbel0_166 := Below.gB hbel0_165 hg147 hbel0_165.size (by omega)
    have hbel0_167 := Below.gB hbel0_166 hg151 hbel0_166.size (by omega)
    exact ⟨_, _, _, _, rfl, Own.mono ho139_160 (by omega), Own.mono ho139_163 (by omega), hbel0_167⟩
  have hp25 := of_decide_eq_false hd25
  refine sx_val (v := .bool false) hA24 rfl (ev_eqlB (k := .i64) (m := (((m % 6) : Nat) : Int)) (n := 2) (hA24.ev (i := 27)) (ec _ (.int .i64 2)) hd25 _ rfl) ?_
  intro a26 hA26; clear hA24
  refine sx_val hA26 rfl (ev_assign (hA26.ev (i := 41) (v := .bool false)) _ rfl) ?_
  intro a27 hA27; clear hA26
  refine sx_nil ?_
  refine then_n ?_
  refine wp_cond_false (hA27.ev (i := 40) (v := .bool false)) ?_
  refine wp_seq ?_
  refine wp_region_lit ?_
  cases hd28 : decide ((((m % 6) : Nat) : Int) = 3)
  rotate_left
  · have hp28 := of_decide_eq_true hd28
    refine sx_val (v := .bool true) hA27 rfl (ev_eqlB (k := .i64) (m := (((m % 6) : Nat) : Int)) (n := 3) (hA27.ev (i := 27)) (ec _ (.int .i64 3)) hd28 _ rfl) ?_
    intro a100 hA100; clear hA27
    refine sx_val hA100 rfl (ev_assign (hA100.ev (i := 51) (v := .bool true)) _ rfl) ?_
    intro a101 hA101; clear hA100
    refine sx_nil ?_
    refine then_n ?_
    refine wp_cond_true (hA101.ev (i := 50) (v := .bool true)) ?_
    refine wp_seq ?_
    refine wp_region_lit ?_
    refine sx_val (v := .agg #[.slice A1 rs.length c1, .slice A2 bs.length c2]) hA101 rfl (ev_row (hA101.ev (i := 2) (v := .pointer (some ⟨B1, 0, none⟩))) hx1_12 Try.underlying25 rfl (n := 2) (by kernel_rfl) rfl _ rfl) ?_
    intro a102 hA102; clear hA101
    refine sx_val hA102 rfl (ev_move (hA102.ev (i := 7) (v := .int .i64 ((((m / 6) % rs.length) : Nat) : Int))) _ rfl) ?_
    intro a103 hA103; clear hA102
    have hbel0_105 := Below.gN hbel0 hg1 hbel0.size
    have hbel0_106 := Below.gN hbel0_105 hg2 hbel0_105.size
    have hbel0_107 := Below.gN hbel0_106 hg6 hbel0_106.size
    refine sx_call (f := 14) (args := #[.agg #[.slice A1 rs.length c1, .slice A2 bs.length c2], .int .i64 ((((m / 6) % rs.length) : Nat) : Int)]) hA103 rfl (by decide) (.inl rfl) (ev_fn rfl (mp2 (hA103.ev (i := 53) (v := .agg #[.slice A1 rs.length c1, .slice A2 bs.length c2])) (hA103.ev (i := 54) (v := .int .i64 ((((m / 6) % rs.length) : Nat) : Int)))) (by kernel_rfl) _ rfl) (Unref_any A1 c1 A2 c2 rs bs ((((m / 6) % rs.length) : Nat) : Int) _ ⟨(hs.r.below hbel0_107), (hs.b.below hbel0_107)⟩ (by omega) (by omega)) ?_
    intro e104 w104 hR104
    obtain ⟨Ap104, cp104, Aj104, cj104, rfl, hC104, hJ104, hb104⟩ := hR104
    refine ⟨_, rfl, ?_⟩
    intro a104 hA104
    clear hA103
    have hg104 := g0 hb104
    have hs104 := hg104.size
    clear hb104
    have ho104_0 : Own w104 (w6.heap.size) 3 1 (.slice Ap104 (unr ⟨rs, bs⟩ ((((m / 6) % rs.length) : Nat) : Int)).1.rs.length cp104) (unr ⟨rs, bs⟩ ((((m / 6) % rs.length) : Nat) : Int)).1.rs.length (flat iva (unr ⟨rs, bs⟩ ((((m / 6) % rs.length) : Nat) : Int)).1.rs) := hC104
    have hh104_0 := Own.hi ho104_0
    have ho104_1 : Own w104 (w6.heap.size) 4 1 (.slice Aj104 (unr ⟨rs, bs⟩ ((((m / 6) % rs.length) : Nat) : Int)).1.bs.length cj104) (unr ⟨rs, bs⟩ ((((m / 6) % rs.length) : Nat) : Int)).1.bs.length (flat bva (unr ⟨rs, bs⟩ ((((m / 6) % rs.length) : Nat) : Int)).1.bs) := hJ104
    have hh104_1 := Own.hi ho104_1
    refine sx_val hA104 rfl (ev_move (hA104.ev (i := 55) (v := .tuple #[.agg #[.slice Ap104 (unr ⟨rs, bs⟩ ((((m / 6) % rs.length) : Nat) : Int)).1.rs.length cp104, .slice Aj104 (unr ⟨rs, bs⟩ ((((m / 6) % rs.length) : Nat) : Int)).1.bs.length cj104], .bool (unr ⟨rs, bs⟩ ((((m / 6) % rs.length) : Nat) : Int)).2.1, .int .i64 (unr ⟨rs, bs⟩ ((((m / 6) % rs.length) : Nat) : Int)).2.2])) _ rfl) ?_
    intro a108 hA108; clear hA104
    refine sx_val (v := .agg #[.slice Ap104 (unr ⟨rs, bs⟩ ((((m / 6) % rs.length) : Nat) : Int)).1.rs.length cp104, .slice Aj104 (unr ⟨rs, bs⟩ ((((m / 6) % rs.length) : Nat) : Int)).1.bs.length cj104]) hA108 rfl (ev_ext (hA108.ev (i := 52) (v := .tuple #[.agg #[.slice Ap104 (unr ⟨rs, bs⟩ ((((m / 6) % rs.length) : Nat) : Int)).1.rs.length cp104, .slice Aj104 (unr ⟨rs, bs⟩ ((((m / 6) % rs.length) : Nat) : Int)).1.bs.length cj104], .bool (unr ⟨rs, bs⟩ ((((m / 6) % rs.length) : Nat) : Int)).2.1, .int .i64 (unr ⟨rs, bs⟩ ((((m / 6) % rs.length) : Nat) : Int)).2.2])) rfl _ rfl) ?_
    intro a109 hA109; clear hA108
    refine sx_val (v := .bool (unr ⟨rs, bs⟩ ((((m / 6) % rs.length) : Nat) : Int)).2.1) hA109 rfl (ev_ext (hA109.ev (i := 52) (v := .tuple #[.agg #[.slice Ap104 (unr ⟨rs, bs⟩ ((((m / 6) % rs.length) : Nat) : Int)).1.rs.length cp104, .slice Aj104 (unr ⟨rs, bs⟩ ((((m / 6) % rs.length) : Nat) : Int)).1.bs.length cj104], .bool (unr ⟨rs, bs⟩ ((((m / 6) % rs.length) : Nat) : Int)).2.1, .int .i64 (unr ⟨rs, bs⟩ ((((m / 6) % rs.length) : Nat) : Int)).2.2])) rfl _ rfl) ?_
    intro a110 hA110; clear hA109
    refine sx_val (v := .int .i64 (unr ⟨rs, bs⟩ ((((m / 6) % rs.length) : Nat) : Int)).2.2) hA110 rfl (ev_ext (hA110.ev (i := 52) (v := .tuple #[.agg #[.slice Ap104 (unr ⟨rs, bs⟩ ((((m / 6) % rs.length) : Nat) : Int)).1.rs.length cp104, .slice Aj104 (unr ⟨rs, bs⟩ ((((m / 6) % rs.length) : Nat) : Int)).1.bs.length cj104], .bool (unr ⟨rs, bs⟩ ((((m / 6) % rs.length) : Nat) : Int)).2.1, .int .i64 (unr ⟨rs, bs⟩ ((((m / 6) % rs.length) : Nat) : Int)).2.2])) rfl _ rfl) ?_
    intro a111 hA111; clear hA110
    refine sx_new (cs := #[.slice none 0 0, .slice none 0 0]) (t := 25) hA111 rfl (by decide) (.inl rfl) (ev_alloc (z := .agg (#[.slice none 0 0, .slice none 0 0])) (by kernel_rfl) (by kernel_rfl) _ rfl) ?_
    intro B112 w112 a112 hB112 hx112 hg112 hA112
    clear hA111
    have hs112 := hg112.size
    have hl112 := hx112.lt
    refine sx_store hA112 rfl (.inl rfl) rfl (hA112.ev (i := 10) (v := .pointer (some ⟨B112, 0, none⟩))) (hA112.ev (i := 56) (v := .agg #[.slice Ap104 (unr ⟨rs, bs⟩ ((((m / 6) % rs.length) : Nat) : Int)).1.rs.length cp104, .slice Aj104 (unr ⟨rs, bs⟩ ((((m / 6) % rs.length) : Nat) : Int)).1.bs.length cj104])) hx112 (by kernel_rfl) rfl (by simp [Value.oneCell']) ?_
    intro w113 hx113 hg113
    have hs113 := hg113.size
    refine sx_val hA112 rfl (ev_assign (hA112.ev (i := 57) (v := .bool (unr ⟨rs, bs⟩ ((((m / 6) % rs.length) : Nat) : Int)).2.1)) _ rfl) ?_
    intro a114 hA114; clear hA112
    refine sx_val hA114 rfl (ev_assign (hA114.ev (i := 58) (v := .int .i64 (unr ⟨rs, bs⟩ ((((m / 6) % rs.length) : Nat) : Int)).2.2)) _ rfl) ?_
    intro a115 hA115; clear hA114
    refine sx_nil ?_
    refine then_n ?_
    refine wp_seq ?_
    refine wp_region_lit ?_
    refine sx_val (v := .agg #[.slice Ap104 (unr ⟨rs, bs⟩ ((((m / 6) % rs.length) : Nat) : Int)).1.rs.length cp104, .slice Aj104 (unr ⟨rs, bs⟩ ((((m / 6) % rs.length) : Nat) : Int)).1.bs.length cj104]) hA115 rfl (ev_row (hA115.ev (i := 10) (v := .pointer (some ⟨B112, 0, none⟩))) hx113 Try.underlying25 rfl (n := 2) (by kernel_rfl) rfl _ rfl) ?_
    intro a116 hA116; clear hA115
    refine sx_val hA116 rfl (ev_move (hA116.ev (i := 12) (v := .int .i64 (unr ⟨rs, bs⟩ ((((m / 6) % rs.length) : Nat) : Int)).2.2)) _ rfl) ?_
    intro a117 hA117; clear hA116
    have hx2_119 := hx2.gN hg6
    have hx2_120 := hx2_119.gN hg104
    have hx2_121 := hx2_120.gN hg112
    have hx2_122 := hx2_121.gB hg113 (by omega)
    refine sx_store hA117 rfl (.inl rfl) rfl (hA117.ev (i := 4) (v := .pointer (some ⟨B2, 0, none⟩))) (hA117.ev (i := 59) (v := .agg #[.slice Ap104 (unr ⟨rs, bs⟩ ((((m / 6) % rs.length) : Nat) : Int)).1.rs.length cp104, .slice Aj104 (unr ⟨rs, bs⟩ ((((m / 6) % rs.length) : Nat) : Int)).1.bs.length cj104])) hx2_122 (by kernel_rfl) rfl (by simp [Value.oneCell']) ?_
    intro w118 hx118 hg118
    have hs118 := hg118.size
    refine sx_val hA117 rfl (ev_assign (ec _ (.int .i64 (-1))) _ rfl) ?_
    intro a123 hA123; clear hA117
    refine sx_val hA123 rfl (ev_assign (hA123.ev (i := 60) (v := .int .i64 (unr ⟨rs, bs⟩ ((((m / 6) % rs.length) : Nat) : Int)).2.2)) _ rfl) ?_
    intro a124 hA124; clear hA123
    refine sx_nil ?_
    refine then_n ?_
    refine wp_ret ?_
    refine blk_r ?_
    refine then_r ?_
    refine bodyPost_ret (rs_ctt (v := .int .i64 (-1)) (v2 := .int .i64 (unr ⟨rs, bs⟩ ((((m / 6) % rs.length) : Nat) : Int)).2.2) Try.results35 hA124 (by kernel_rfl) (by kernel_rfl) (by kernel_rfl) hx118 Try.underlying25 rfl (by kernel_rfl)) hA124.2.1 ?_
    have E : stp ⟨rs, bs⟩ m = ((unr ⟨rs, bs⟩ ((m / 6 % rs.length : Nat) : Int)).1, -1, (unr ⟨rs, bs⟩ ((m / 6 % rs.length : Nat) : Int)).2.2) := by
      unfold stp
      rw [if_neg (by omega), if_neg (by omega), if_pos (by omega)]
    rw [E]
    have ho104_125 := Own.gN ho104_0 hg112
    have ho104_126 := Own.gBT ho104_125 hg113 hx112 (by decide)
    have ho104_127 := Own.gBT ho104_126 hg118 hx2_122 (by decide)
    have ho104_128 := Own.gN ho104_1 hg112
    have ho104_129 := Own.gBT ho104_128 hg113 hx112 (by decide)
    have ho104_130 := Own.gBT ho104_129 hg118 hx2_122 (by decide)
    have hbel0_131 := Below.gN hbel0_107 hg104 hbel0_107.size
    have hbel0_132 := Below.gN hbel0_131 hg112 hbel0_131.size
    have hbel0_133 := Below.gB hbel0_132 hg113 hbel0_132.size (by omega)
    have hbel0_134 := Below.gB hbel0_133 hg118 hbel0_133.size (by omega)
    exact ⟨_, _, _, _, rfl, Own.mono ho104_127 (by omega), Own.mono ho104_130 (by omega), hbel0_134⟩
  have hp28 := of_decide_eq_false hd28
  refine sx_val (v := .bool false) hA27 rfl (ev_eqlB (k := .i64) (m := (((m % 6) : Nat) : Int)) (n := 3) (hA27.ev (i := 27)) (ec _ (.int .i64 3)) hd28 _ rfl) ?_
  intro a29 hA29; clear hA27
  refine sx_val hA29 rfl (ev_assign (hA29.ev (i := 51) (v := .bool false)) _ rfl) ?_
  intro a30 hA30; clear hA29
  refine sx_nil ?_
  refine then_n ?_
  refine wp_cond_false (hA30.ev (i := 50) (v := .bool false)) ?_
  refine wp_seq ?_
  refine wp_region_lit ?_
  cases hd31 : decide ((((m % 6) : Nat) : Int) = 4)
  rotate_left
  · have hp31 := of_decide_eq_true hd31
    refine sx_val (v := .bool true) hA30 rfl (ev_eqlB (k := .i64) (m := (((m % 6) : Nat) : Int)) (n := 4) (hA30.ev (i := 27)) (ec _ (.int .i64 4)) hd31 _ rfl) ?_
    intro a67 hA67; clear hA30
    refine sx_val hA67 rfl (ev_assign (hA67.ev (i := 62) (v := .bool true)) _ rfl) ?_
    intro a68 hA68; clear hA67
    refine sx_nil ?_
    refine then_n ?_
    refine wp_cond_true (hA68.ev (i := 61) (v := .bool true)) ?_
    refine wp_seq ?_
    refine wp_region_lit ?_
    refine sx_val (v := .agg #[.slice A1 rs.length c1, .slice A2 bs.length c2]) hA68 rfl (ev_row (hA68.ev (i := 2) (v := .pointer (some ⟨B1, 0, none⟩))) hx1_12 Try.underlying25 rfl (n := 2) (by kernel_rfl) rfl _ rfl) ?_
    intro a69 hA69; clear hA68
    refine sx_val hA69 rfl (ev_move (hA69.ev (i := 7) (v := .int .i64 ((((m / 6) % rs.length) : Nat) : Int))) _ rfl) ?_
    intro a70 hA70; clear hA69
    have hbel0_72 := Below.gN hbel0 hg1 hbel0.size
    have hbel0_73 := Below.gN hbel0_72 hg2 hbel0_72.size
    have hbel0_74 := Below.gN hbel0_73 hg6 hbel0_73.size
    refine sx_call (f := 16) (args := #[.agg #[.slice A1 rs.length c1, .slice A2 bs.length c2], .int .i64 ((((m / 6) % rs.length) : Nat) : Int)]) hA70 rfl (by decide) (.inl rfl) (ev_fn rfl (mp2 (hA70.ev (i := 64) (v := .agg #[.slice A1 rs.length c1, .slice A2 bs.length c2])) (hA70.ev (i := 65) (v := .int .i64 ((((m / 6) % rs.length) : Nat) : Int)))) (by kernel_rfl) _ rfl) (Start_any A1 c1 A2 c2 rs bs ((((m / 6) % rs.length) : Nat) : Int) _ ⟨(hs.r.below hbel0_74), (hs.b.below hbel0_74)⟩ (by omega) (by omega)) ?_
    intro e71 w71 hR71
    obtain ⟨Ap71, cp71, Aj71, cj71, rfl, hC71, hJ71, hb71⟩ := hR71
    refine ⟨_, rfl, ?_⟩
    intro a71 hA71
    clear hA70
    have hg71 := g0 hb71
    have hs71 := hg71.size
    clear hb71
    have ho71_0 : Own w71 (w6.heap.size) 3 1 (.slice Ap71 (sta ⟨rs, bs⟩ ((((m / 6) % rs.length) : Nat) : Int)).1.rs.length cp71) (sta ⟨rs, bs⟩ ((((m / 6) % rs.length) : Nat) : Int)).1.rs.length (flat iva (sta ⟨rs, bs⟩ ((((m / 6) % rs.length) : Nat) : Int)).1.rs) := hC71
    have hh71_0 := Own.hi ho71_0
    have ho71_1 : Own w71 (w6.heap.size) 4 1 (.slice Aj71 (sta ⟨rs, bs⟩ ((((m / 6) % rs.length) : Nat) : Int)).1.bs.length cj71) (sta ⟨rs, bs⟩ ((((m / 6) % rs.length) : Nat) : Int)).1.bs.length (flat bva (sta ⟨rs, bs⟩ ((((m / 6) % rs.length) : Nat) : Int)).1.bs) := hJ71
    have hh71_1 := Own.hi ho71_1
    refine sx_val hA71 rfl (ev_move (hA71.ev (i := 66) (v := .tuple #[.agg #[.slice Ap71 (sta ⟨rs, bs⟩ ((((m / 6) % rs.length) : Nat) : Int)).1.rs.length cp71, .slice Aj71 (sta ⟨rs, bs⟩ ((((m / 6) % rs.length) : Nat) : Int)).1.bs.length cj71], .int .i64 (sta ⟨rs, bs⟩ ((((m / 6) % rs.length) : Nat) : Int)).2])) _ rfl) ?_
    intro a75 hA75; clear hA71
    refine sx_val (v := .agg #[.slice Ap71 (sta ⟨rs, bs⟩ ((((m / 6) % rs.length) : Nat) : Int)).1.rs.length cp71, .slice Aj71 (sta ⟨rs, bs⟩ ((((m / 6) % rs.length) : Nat) : Int)).1.bs.length cj71]) hA75 rfl (ev_ext (hA75.ev (i := 63) (v := .tuple #[.agg #[.slice Ap71 (sta ⟨rs, bs⟩ ((((m / 6) % rs.length) : Nat) : Int)).1.rs.length cp71, .slice Aj71 (sta ⟨rs, bs⟩ ((((m / 6) % rs.length) : Nat) : Int)).1.bs.length cj71], .int .i64 (sta ⟨rs, bs⟩ ((((m / 6) % rs.length) : Nat) : Int)).2])) rfl _ rfl) ?_
    intro a76 hA76; clear hA75
    refine sx_val (v := .int .i64 (sta ⟨rs, bs⟩ ((((m / 6) % rs.length) : Nat) : Int)).2) hA76 rfl (ev_ext (hA76.ev (i := 63) (v := .tuple #[.agg #[.slice Ap71 (sta ⟨rs, bs⟩ ((((m / 6) % rs.length) : Nat) : Int)).1.rs.length cp71, .slice Aj71 (sta ⟨rs, bs⟩ ((((m / 6) % rs.length) : Nat) : Int)).1.bs.length cj71], .int .i64 (sta ⟨rs, bs⟩ ((((m / 6) % rs.length) : Nat) : Int)).2])) rfl _ rfl) ?_
    intro a77 hA77; clear hA76
    refine sx_new (cs := #[.slice none 0 0, .slice none 0 0]) (t := 25) hA77 rfl (by decide) (.inl rfl) (ev_alloc (z := .agg (#[.slice none 0 0, .slice none 0 0])) (by kernel_rfl) (by kernel_rfl) _ rfl) ?_
    intro B78 w78 a78 hB78 hx78 hg78 hA78
    clear hA77
    have hs78 := hg78.size
    have hl78 := hx78.lt
    refine sx_store hA78 rfl (.inl rfl) rfl (hA78.ev (i := 13) (v := .pointer (some ⟨B78, 0, none⟩))) (hA78.ev (i := 67) (v := .agg #[.slice Ap71 (sta ⟨rs, bs⟩ ((((m / 6) % rs.length) : Nat) : Int)).1.rs.length cp71, .slice Aj71 (sta ⟨rs, bs⟩ ((((m / 6) % rs.length) : Nat) : Int)).1.bs.length cj71])) hx78 (by kernel_rfl) rfl (by simp [Value.oneCell']) ?_
    intro w79 hx79 hg79
    have hs79 := hg79.size
    refine sx_val hA78 rfl (ev_assign (hA78.ev (i := 68) (v := .int .i64 (sta ⟨rs, bs⟩ ((((m / 6) % rs.length) : Nat) : Int)).2)) _ rfl) ?_
    intro a80 hA80; clear hA78
    refine sx_nil ?_
    refine then_n ?_
    refine wp_seq ?_
    refine wp_region_lit ?_
    refine sx_val (v := .agg #[.slice Ap71 (sta ⟨rs, bs⟩ ((((m / 6) % rs.length) : Nat) : Int)).1.rs.length cp71, .slice Aj71 (sta ⟨rs, bs⟩ ((((m / 6) % rs.length) : Nat) : Int)).1.bs.length cj71]) hA80 rfl (ev_row (hA80.ev (i := 13) (v := .pointer (some ⟨B78, 0, none⟩))) hx79 Try.underlying25 rfl (n := 2) (by kernel_rfl) rfl _ rfl) ?_
    intro a81 hA81; clear hA80
    refine sx_val hA81 rfl (ev_move (hA81.ev (i := 14) (v := .int .i64 (sta ⟨rs, bs⟩ ((((m / 6) % rs.length) : Nat) : Int)).2)) _ rfl) ?_
    intro a82 hA82; clear hA81
    have hx2_84 := hx2.gN hg6
    have hx2_85 := hx2_84.gN hg71
    have hx2_86 := hx2_85.gN hg78
    have hx2_87 := hx2_86.gB hg79 (by omega)
    refine sx_store hA82 rfl (.inl rfl) rfl (hA82.ev (i := 4) (v := .pointer (some ⟨B2, 0, none⟩))) (hA82.ev (i := 69) (v := .agg #[.slice Ap71 (sta ⟨rs, bs⟩ ((((m / 6) % rs.length) : Nat) : Int)).1.rs.length cp71, .slice Aj71 (sta ⟨rs, bs⟩ ((((m / 6) % rs.length) : Nat) : Int)).1.bs.length cj71])) hx2_87 (by kernel_rfl) rfl (by simp [Value.oneCell']) ?_
    intro w83 hx83 hg83
    have hs83 := hg83.size
    refine sx_val hA82 rfl (ev_assign (ec _ (.int .i64 (-1))) _ rfl) ?_
    intro a88 hA88; clear hA82
    refine sx_val hA88 rfl (ev_assign (hA88.ev (i := 70) (v := .int .i64 (sta ⟨rs, bs⟩ ((((m / 6) % rs.length) : Nat) : Int)).2)) _ rfl) ?_
    intro a89 hA89; clear hA88
    refine sx_nil ?_
    refine then_n ?_
    refine wp_ret ?_
    refine blk_r ?_
    refine then_r ?_
    refine bodyPost_ret (rs_ctt (v := .int .i64 (-1)) (v2 := .int .i64 (sta ⟨rs, bs⟩ ((((m / 6) % rs.length) : Nat) : Int)).2) Try.results35 hA89 (by kernel_rfl) (by kernel_rfl) (by kernel_rfl) hx83 Try.underlying25 rfl (by kernel_rfl)) hA89.2.1 ?_
    have E : stp ⟨rs, bs⟩ m = ((sta ⟨rs, bs⟩ ((m / 6 % rs.length : Nat) : Int)).1, -1, (sta ⟨rs, bs⟩ ((m / 6 % rs.length : Nat) : Int)).2) := by
      unfold stp
      rw [if_neg (by omega), if_neg (by omega), if_neg (by omega), if_pos (by omega)]
    rw [E]
    have ho71_90 := Own.gN ho71_0 hg78
    have ho71_91 := Own.gBT ho71_90 hg79 hx78 (by decide)
    have ho71_92 := Own.gBT ho71_91 hg83 hx2_87 (by decide)
    have ho71_93 := Own.gN ho71_1 hg78
    have ho71_94 := Own.gBT ho71_93 hg79 hx78 (by decide)
    have ho71_95 := Own.gBT ho71_94 hg83 hx2_87 (by decide)
    have hbel0_96 := Below.gN hbel0_74 hg71 hbel0_74.size
    have hbel0_97 := Below.gN hbel0_96 hg78 hbel0_96.size
    have hbel0_98 := Below.gB hbel0_97 hg79 hbel0_97.size (by omega)
    have hbel0_99 := Below.gB hbel0_98 hg83 hbel0_98.size (by omega)
    exact ⟨_, _, _, _, rfl, Own.mono ho71_92 (by omega), Own.mono ho71_95 (by omega), hbel0_99⟩
  have hp31 := of_decide_eq_false hd31
  refine sx_val (v := .bool false) hA30 rfl (ev_eqlB (k := .i64) (m := (((m % 6) : Nat) : Int)) (n := 4) (hA30.ev (i := 27)) (ec _ (.int .i64 4)) hd31 _ rfl) ?_
  intro a32 hA32; clear hA30
  refine sx_val hA32 rfl (ev_assign (hA32.ev (i := 62) (v := .bool false)) _ rfl) ?_
  intro a33 hA33; clear hA32
  refine sx_nil ?_
  refine then_n ?_
  refine wp_cond_false (hA33.ev (i := 61) (v := .bool false)) ?_
  refine wp_skip ?_
  refine blk_n ?_
  refine then_n ?_
  refine wp_seq ?_
  refine wp_region_lit ?_
  refine sx_val (v := .agg #[.slice A1 rs.length c1, .slice A2 bs.length c2]) hA33 rfl (ev_row (hA33.ev (i := 2) (v := .pointer (some ⟨B1, 0, none⟩))) hx1_12 Try.underlying25 rfl (n := 2) (by kernel_rfl) rfl _ rfl) ?_
  intro a34 hA34; clear hA33
  refine sx_val hA34 rfl (ev_move (hA34.ev (i := 7) (v := .int .i64 ((((m / 6) % rs.length) : Nat) : Int))) _ rfl) ?_
  intro a35 hA35; clear hA34
  have hbel0_37 := Below.gN hbel0 hg1 hbel0.size
  have hbel0_38 := Below.gN hbel0_37 hg2 hbel0_37.size
  have hbel0_39 := Below.gN hbel0_38 hg6 hbel0_38.size
  refine sx_call (f := 18) (args := #[.agg #[.slice A1 rs.length c1, .slice A2 bs.length c2], .int .i64 ((((m / 6) % rs.length) : Nat) : Int)]) hA35 rfl (by decide) (.inl rfl) (ev_fn rfl (mp2 (hA35.ev (i := 72) (v := .agg #[.slice A1 rs.length c1, .slice A2 bs.length c2])) (hA35.ev (i := 73) (v := .int .i64 ((((m / 6) % rs.length) : Nat) : Int)))) (by kernel_rfl) _ rfl) (Settle_any A1 c1 A2 c2 rs bs ((((m / 6) % rs.length) : Nat) : Int) _ ⟨(hs.r.below hbel0_39), (hs.b.below hbel0_39)⟩ (by omega) (by omega)) ?_
  intro e36 w36 hR36
  obtain ⟨Ap36, cp36, Aj36, cj36, rfl, hC36, hJ36, hb36⟩ := hR36
  refine ⟨_, rfl, ?_⟩
  intro a36 hA36
  clear hA35
  have hg36 := g0 hb36
  have hs36 := hg36.size
  clear hb36
  have ho36_0 : Own w36 (w6.heap.size) 3 1 (.slice Ap36 (stl ⟨rs, bs⟩ ((((m / 6) % rs.length) : Nat) : Int)).1.rs.length cp36) (stl ⟨rs, bs⟩ ((((m / 6) % rs.length) : Nat) : Int)).1.rs.length (flat iva (stl ⟨rs, bs⟩ ((((m / 6) % rs.length) : Nat) : Int)).1.rs) := hC36
  have hh36_0 := Own.hi ho36_0
  have ho36_1 : Own w36 (w6.heap.size) 4 1 (.slice Aj36 (stl ⟨rs, bs⟩ ((((m / 6) % rs.length) : Nat) : Int)).1.bs.length cj36) (stl ⟨rs, bs⟩ ((((m / 6) % rs.length) : Nat) : Int)).1.bs.length (flat bva (stl ⟨rs, bs⟩ ((((m / 6) % rs.length) : Nat) : Int)).1.bs) := hJ36
  have hh36_1 := Own.hi ho36_1
  refine sx_val hA36 rfl (ev_move (hA36.ev (i := 74) (v := .tuple #[.agg #[.slice Ap36 (stl ⟨rs, bs⟩ ((((m / 6) % rs.length) : Nat) : Int)).1.rs.length cp36, .slice Aj36 (stl ⟨rs, bs⟩ ((((m / 6) % rs.length) : Nat) : Int)).1.bs.length cj36], .bool (stl ⟨rs, bs⟩ ((((m / 6) % rs.length) : Nat) : Int)).2.1, .int .i64 (stl ⟨rs, bs⟩ ((((m / 6) % rs.length) : Nat) : Int)).2.2])) _ rfl) ?_
  intro a40 hA40; clear hA36
  refine sx_val (v := .agg #[.slice Ap36 (stl ⟨rs, bs⟩ ((((m / 6) % rs.length) : Nat) : Int)).1.rs.length cp36, .slice Aj36 (stl ⟨rs, bs⟩ ((((m / 6) % rs.length) : Nat) : Int)).1.bs.length cj36]) hA40 rfl (ev_ext (hA40.ev (i := 71) (v := .tuple #[.agg #[.slice Ap36 (stl ⟨rs, bs⟩ ((((m / 6) % rs.length) : Nat) : Int)).1.rs.length cp36, .slice Aj36 (stl ⟨rs, bs⟩ ((((m / 6) % rs.length) : Nat) : Int)).1.bs.length cj36], .bool (stl ⟨rs, bs⟩ ((((m / 6) % rs.length) : Nat) : Int)).2.1, .int .i64 (stl ⟨rs, bs⟩ ((((m / 6) % rs.length) : Nat) : Int)).2.2])) rfl _ rfl) ?_
  intro a41 hA41; clear hA40
  refine sx_val (v := .bool (stl ⟨rs, bs⟩ ((((m / 6) % rs.length) : Nat) : Int)).2.1) hA41 rfl (ev_ext (hA41.ev (i := 71) (v := .tuple #[.agg #[.slice Ap36 (stl ⟨rs, bs⟩ ((((m / 6) % rs.length) : Nat) : Int)).1.rs.length cp36, .slice Aj36 (stl ⟨rs, bs⟩ ((((m / 6) % rs.length) : Nat) : Int)).1.bs.length cj36], .bool (stl ⟨rs, bs⟩ ((((m / 6) % rs.length) : Nat) : Int)).2.1, .int .i64 (stl ⟨rs, bs⟩ ((((m / 6) % rs.length) : Nat) : Int)).2.2])) rfl _ rfl) ?_
  intro a42 hA42; clear hA41
  refine sx_val (v := .int .i64 (stl ⟨rs, bs⟩ ((((m / 6) % rs.length) : Nat) : Int)).2.2) hA42 rfl (ev_ext (hA42.ev (i := 71) (v := .tuple #[.agg #[.slice Ap36 (stl ⟨rs, bs⟩ ((((m / 6) % rs.length) : Nat) : Int)).1.rs.length cp36, .slice Aj36 (stl ⟨rs, bs⟩ ((((m / 6) % rs.length) : Nat) : Int)).1.bs.length cj36], .bool (stl ⟨rs, bs⟩ ((((m / 6) % rs.length) : Nat) : Int)).2.1, .int .i64 (stl ⟨rs, bs⟩ ((((m / 6) % rs.length) : Nat) : Int)).2.2])) rfl _ rfl) ?_
  intro a43 hA43; clear hA42
  refine sx_new (cs := #[.slice none 0 0, .slice none 0 0]) (t := 25) hA43 rfl (by decide) (.inl rfl) (ev_alloc (z := .agg (#[.slice none 0 0, .slice none 0 0])) (by kernel_rfl) (by kernel_rfl) _ rfl) ?_
  intro B44 w44 a44 hB44 hx44 hg44 hA44
  clear hA43
  have hs44 := hg44.size
  have hl44 := hx44.lt
  refine sx_store hA44 rfl (.inl rfl) rfl (hA44.ev (i := 15) (v := .pointer (some ⟨B44, 0, none⟩))) (hA44.ev (i := 75) (v := .agg #[.slice Ap36 (stl ⟨rs, bs⟩ ((((m / 6) % rs.length) : Nat) : Int)).1.rs.length cp36, .slice Aj36 (stl ⟨rs, bs⟩ ((((m / 6) % rs.length) : Nat) : Int)).1.bs.length cj36])) hx44 (by kernel_rfl) rfl (by simp [Value.oneCell']) ?_
  intro w45 hx45 hg45
  have hs45 := hg45.size
  refine sx_val hA44 rfl (ev_assign (hA44.ev (i := 76) (v := .bool (stl ⟨rs, bs⟩ ((((m / 6) % rs.length) : Nat) : Int)).2.1)) _ rfl) ?_
  intro a46 hA46; clear hA44
  refine sx_val hA46 rfl (ev_assign (hA46.ev (i := 77) (v := .int .i64 (stl ⟨rs, bs⟩ ((((m / 6) % rs.length) : Nat) : Int)).2.2)) _ rfl) ?_
  intro a47 hA47; clear hA46
  refine sx_nil ?_
  refine then_n ?_
  refine wp_seq ?_
  refine wp_region_lit ?_
  refine sx_val (v := .agg #[.slice Ap36 (stl ⟨rs, bs⟩ ((((m / 6) % rs.length) : Nat) : Int)).1.rs.length cp36, .slice Aj36 (stl ⟨rs, bs⟩ ((((m / 6) % rs.length) : Nat) : Int)).1.bs.length cj36]) hA47 rfl (ev_row (hA47.ev (i := 15) (v := .pointer (some ⟨B44, 0, none⟩))) hx45 Try.underlying25 rfl (n := 2) (by kernel_rfl) rfl _ rfl) ?_
  intro a48 hA48; clear hA47
  refine sx_val hA48 rfl (ev_move (hA48.ev (i := 17) (v := .int .i64 (stl ⟨rs, bs⟩ ((((m / 6) % rs.length) : Nat) : Int)).2.2)) _ rfl) ?_
  intro a49 hA49; clear hA48
  have hx2_51 := hx2.gN hg6
  have hx2_52 := hx2_51.gN hg36
  have hx2_53 := hx2_52.gN hg44
  have hx2_54 := hx2_53.gB hg45 (by omega)
  refine sx_store hA49 rfl (.inl rfl) rfl (hA49.ev (i := 4) (v := .pointer (some ⟨B2, 0, none⟩))) (hA49.ev (i := 78) (v := .agg #[.slice Ap36 (stl ⟨rs, bs⟩ ((((m / 6) % rs.length) : Nat) : Int)).1.rs.length cp36, .slice Aj36 (stl ⟨rs, bs⟩ ((((m / 6) % rs.length) : Nat) : Int)).1.bs.length cj36])) hx2_54 (by kernel_rfl) rfl (by simp [Value.oneCell']) ?_
  intro w50 hx50 hg50
  have hs50 := hg50.size
  refine sx_val hA49 rfl (ev_assign (ec _ (.int .i64 (-1))) _ rfl) ?_
  intro a55 hA55; clear hA49
  refine sx_val hA55 rfl (ev_assign (hA55.ev (i := 79) (v := .int .i64 (stl ⟨rs, bs⟩ ((((m / 6) % rs.length) : Nat) : Int)).2.2)) _ rfl) ?_
  intro a56 hA56; clear hA55
  refine sx_nil ?_
  refine then_n ?_
  refine wp_ret ?_
  refine bodyPost_ret (rs_ctt (v := .int .i64 (-1)) (v2 := .int .i64 (stl ⟨rs, bs⟩ ((((m / 6) % rs.length) : Nat) : Int)).2.2) Try.results35 hA56 (by kernel_rfl) (by kernel_rfl) (by kernel_rfl) hx50 Try.underlying25 rfl (by kernel_rfl)) hA56.2.1 ?_
  have E : stp ⟨rs, bs⟩ m = ((stl ⟨rs, bs⟩ ((m / 6 % rs.length : Nat) : Int)).1, -1, (stl ⟨rs, bs⟩ ((m / 6 % rs.length : Nat) : Int)).2.2) := by
    unfold stp
    rw [if_neg (by omega), if_neg (by omega), if_neg (by omega), if_neg (by omega)]
  rw [E]
  have ho36_57 := Own.gN ho36_0 hg44
  have ho36_58 := Own.gBT ho36_57 hg45 hx44 (by decide)
  have ho36_59 := Own.gBT ho36_58 hg50 hx2_54 (by decide)
  have ho36_60 := Own.gN ho36_1 hg44
  have ho36_61 := Own.gBT ho36_60 hg45 hx44 (by decide)
  have ho36_62 := Own.gBT ho36_61 hg50 hx2_54 (by decide)
  have hbel0_63 := Below.gN hbel0_39 hg36 hbel0_39.size
  have hbel0_64 := Below.gN hbel0_63 hg44 hbel0_63.size
  have hbel0_65 := Below.gB hbel0_64 hg45 hbel0_64.size (by omega)
  have hbel0_66 := Below.gB hbel0_65 hg50 hbel0_65.size (by omega)
  exact ⟨_, _, _, _, rfl, Own.mono ho36_59 (by omega), Own.mono ho36_62 (by omega), hbel0_66⟩
end Go.Proofs.Ytpoilgfblhacaaa
