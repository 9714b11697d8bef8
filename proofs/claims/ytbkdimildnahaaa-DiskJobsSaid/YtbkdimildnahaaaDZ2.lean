/- The law: DiskJobs. -/
import Derived.Test.YtbkdimildnahaaaDZ1
namespace Go.Proofs.Ytbkdimildnahaaa
open Go.RowKit
set_option linter.unusedVariables false
set_option maxRecDepth 100000

set_option maxHeartbeats 16000000 in
theorem DiskJobs_walk (A1 : Option Addr) (c1 : Nat) (A2 : Option Addr) (c2 : Nat) (cs : List Ct) (js : List Jb) (room : Int) (s f : Int) (c : Ct) (w : World) (hd : GD w A1 c1 A2 c2 cs js) : Calls Try.prog 3 #[.agg #[.slice A1 cs.length c1, .slice A2 js.length c2, .int .i64 room], .int .i64 s, .int .i64 f, .agg c.va] w (RetB w (.returned (.bool true))) := by
  have hbel0 := below0 w
  refine sx_enter (N := 133) [(0, .agg #[.slice A1 cs.length c1, .slice A2 js.length c2, .int .i64 room]), (1, .int .i64 s), (2, .int .i64 f), (3, .agg c.va)] Try.func3 rfl Try.ntmps3 (by simp) (fun a z d s => (((((Ag.nil z d).cons (s 3 _ rfl)).cons (s 2 _ rfl)).cons (s 1 _ rfl)).cons (s 0 _ rfl))) ?_
  intro a0 hA0
  refine wp_seq ?_
  refine wp_region_lit ?_
  refine sx_new (cs := #[.slice A1 cs.length c1, .slice A2 js.length c2, .int .i64 room]) (t := 25) hA0 rfl (by decide) (.inl rfl) (ev_box (hA0.ev (i := 0) (v := .agg #[.slice A1 cs.length c1, .slice A2 js.length c2, .int .i64 room])) rfl _ rfl) ?_
  intro B1 w1 a1 hB1 hx1 hg1 hA1
  clear hA0
  have hs1 := hg1.size
  have hl1 := hx1.lt
  refine sx_new (cs := c.va) (t := 28) hA1 rfl (by decide) (.inl rfl) (ev_box (hA1.ev (i := 3) (v := .agg c.va)) rfl _ rfl) ?_
  intro B2 w2 a2 hB2 hx2 hg2 hA2
  clear hA1
  have hs2 := hg2.size
  have hl2 := hx2.lt
  refine sx_val hA2 rfl (ev_assign (ec _ (.bool false)) _ rfl) ?_
  intro a3 hA3; clear hA2
  refine sx_nil ?_
  refine then_n ?_
  refine wp_seq ?_
  refine wp_seq ?_
  refine wp_region_lit ?_
  have hx1_4 := hx1.gN hg2
  refine sx_val (v := .agg #[.slice A1 cs.length c1, .slice A2 js.length c2, .int .i64 room]) hA3 rfl (ev_row (hA3.ev (i := 4) (v := .pointer (some ⟨B1, 0, none⟩))) hx1_4 Try.underlying25 rfl (n := 3) (by kernel_rfl) rfl _ rfl) ?_
  intro a5 hA5; clear hA3
  cases hd7 : lgt cs.length js.length
  · refine sx_call (f := 9) (args := #[.agg #[.slice A1 cs.length c1, .slice A2 js.length c2, .int .i64 room]]) hA5 rfl (by decide) (.inl rfl) (ev_fn rfl (mp1 (hA5.ev (i := 18) (v := .agg #[.slice A1 cs.length c1, .slice A2 js.length c2, .int .i64 room]))) (by kernel_rfl) _ rfl) (light_any A1 c1 A2 c2 cs js room _) ?_
    intro e8 w8 hR8
    obtain ⟨he8, hb8⟩ := hR8
    rw [hd7] at he8
    subst he8
    refine ⟨_, rfl, ?_⟩
    intro a8 hA8
    clear hA5
    have hg8 := g0 hb8
    have hs8 := hg8.size
    clear hb8
    refine sx_val (v := .bool true) hA8 rfl (ev_notF (hA8.ev (i := 19) (v := .bool false)) _ rfl) ?_
    intro a9 hA9; clear hA8
    refine sx_nil ?_
    refine then_n ?_
    refine wp_cond_true (hA9.ev (i := 20) (v := .bool true)) ?_
    refine wp_seq ?_
    refine wp_region_lit ?_
    refine sx_call (f := 10) (args := #[]) hA9 rfl (by decide) (.inl rfl) (ev_fn rfl (mp0 ) (by kernel_rfl) _ rfl) (awake_any _) ?_
    intro e10 w10 hR10
    obtain ⟨rfl, hb10⟩ := hR10
    refine ⟨_, rfl, ?_⟩
    intro a10 hA10
    clear hA9
    have hg10 := g0 hb10
    have hs10 := hg10.size
    clear hb10
    refine sx_val hA10 rfl (ev_assign (hA10.ev (i := 21) (v := .bool true)) _ rfl) ?_
    intro a11 hA11; clear hA10
    refine sx_nil ?_
    refine then_n ?_
    refine wp_ret ?_
    refine then_r ?_
    refine bodyPost_ret (rs_t (v := .bool true) Try.results3 hA11 (by kernel_rfl) ) hA11.2.1 ?_
    have hbel0_12 := Below.gN hbel0 hg1 hbel0.size
    have hbel0_13 := Below.gN hbel0_12 hg2 hbel0_12.size
    have hbel0_14 := Below.gN hbel0_13 hg8 hbel0_13.size
    have hbel0_15 := Below.gN hbel0_14 hg10 hbel0_14.size
    exact ⟨rfl, hbel0_15⟩
  have hlg : cs.length ≤ 300 ∧ js.length ≤ 40 := by have h := hd7; simp [lgt] at h; exact h
  refine sx_call (f := 9) (args := #[.agg #[.slice A1 cs.length c1, .slice A2 js.length c2, .int .i64 room]]) hA5 rfl (by decide) (.inl rfl) (ev_fn rfl (mp1 (hA5.ev (i := 18) (v := .agg #[.slice A1 cs.length c1, .slice A2 js.length c2, .int .i64 room]))) (by kernel_rfl) _ rfl) (light_any A1 c1 A2 c2 cs js room _) ?_
  intro e16 w16 hR16
  obtain ⟨he16, hb16⟩ := hR16
  rw [hd7] at he16
  subst he16
  refine ⟨_, rfl, ?_⟩
  intro a16 hA16
  clear hA5
  have hg16 := g0 hb16
  have hs16 := hg16.size
  clear hb16
  refine sx_val (v := .bool false) hA16 rfl (ev_notT (hA16.ev (i := 19) (v := .bool true)) _ rfl) ?_
  intro a17 hA17; clear hA16
  refine sx_nil ?_
  refine then_n ?_
  refine wp_cond_false (hA17.ev (i := 20) (v := .bool false)) ?_
  refine wp_skip ?_
  refine then_n ?_
  refine wp_seq ?_
  refine wp_region_lit ?_
  have hx1_18 := hx1_4.gN hg16
  refine sx_val (v := .agg #[.slice A1 cs.length c1, .slice A2 js.length c2, .int .i64 room]) hA17 rfl (ev_row (hA17.ev (i := 4) (v := .pointer (some ⟨B1, 0, none⟩))) hx1_18 Try.underlying25 rfl (n := 3) (by kernel_rfl) rfl _ rfl) ?_
  intro a19 hA19; clear hA17
  have hbel0_21 := Below.gN hbel0 hg1 hbel0.size
  have hbel0_22 := Below.gN hbel0_21 hg2 hbel0_21.size
  have hbel0_23 := Below.gN hbel0_22 hg16 hbel0_22.size
  refine sx_call (f := 11) (args := #[.agg #[.slice A1 cs.length c1, .slice A2 js.length c2, .int .i64 room]]) hA19 rfl (by decide) (.inl rfl) (ev_fn rfl (mp1 (hA19.ev (i := 22) (v := .agg #[.slice A1 cs.length c1, .slice A2 js.length c2, .int .i64 room]))) (by kernel_rfl) _ rfl) (OwnDisk_any A1 c1 A2 c2 cs js room _ ⟨(hd.s.below hbel0_23), (hd.j.below hbel0_23)⟩ (by omega) (by omega)) ?_
  intro e20 w20 hR20
  obtain ⟨Ap20, cp20, Aj20, cj20, rfl, hC20, hJ20, hb20⟩ := hR20
  refine ⟨_, rfl, ?_⟩
  intro a20 hA20
  clear hA19
  have hg20 := g0 hb20
  have hs20 := hg20.size
  clear hb20
  have ho20_0 : Own w20 (w16.heap.size) 28 8 (.slice Ap20 cs.length cp20) cs.length (flat Ct.va cs) := hC20.2
  have hh20_0 := Own.hi ho20_0
  have ho20_1 : Own w20 (w16.heap.size) 38 11 (.slice Aj20 js.length cj20) js.length (flat Jb.va js) := hJ20.2
  have hh20_1 := Own.hi ho20_1
  refine sx_new (cs := #[.slice none 0 0, .slice none 0 0, .int .i64 0]) (t := 25) hA20 rfl (by decide) (.inl rfl) (ev_alloc (z := .agg (#[.slice none 0 0, .slice none 0 0, .int .i64 0])) (by kernel_rfl) (by kernel_rfl) _ rfl) ?_
  intro B24 w24 a24 hB24 hx24 hg24 hA24
  clear hA20
  have hs24 := hg24.size
  have hl24 := hx24.lt
  refine sx_store hA24 rfl (.inl rfl) rfl (hA24.ev (i := 9) (v := .pointer (some ⟨B24, 0, none⟩))) (hA24.ev (i := 23) (v := .agg #[.slice Ap20 cs.length cp20, .slice Aj20 js.length cj20, .int .i64 room])) hx24 (by kernel_rfl) rfl (dk_one _ _ _ _ _ _ _) ?_
  intro w25 hx25 hg25
  have hs25 := hg25.size
  refine sx_nil ?_
  refine then_n ?_
  refine wp_seq ?_
  refine wp_region_lit ?_
  refine sx_val (v := .agg #[.slice Ap20 cs.length cp20, .slice Aj20 js.length cj20, .int .i64 room]) hA24 rfl (ev_row (hA24.ev (i := 9) (v := .pointer (some ⟨B24, 0, none⟩))) hx25 Try.underlying25 rfl (n := 3) (by kernel_rfl) rfl _ rfl) ?_
  intro a26 hA26; clear hA24
  refine sx_val hA26 rfl (ev_move (hA26.ev (i := 1) (v := .int .i64 s)) _ rfl) ?_
  intro a27 hA27; clear hA26
  refine sx_val hA27 rfl (ev_move (hA27.ev (i := 2) (v := .int .i64 f)) _ rfl) ?_
  intro a28 hA28; clear hA27
  have hx2_29 := hx2.gN hg16
  have hx2_30 := hx2_29.gN hg20
  have hx2_31 := hx2_30.gN hg24
  have hx2_32 := hx2_31.gB hg25 (by omega)
  refine sx_val (v := .agg c.va) hA28 rfl (ev_row (hA28.ev (i := 7) (v := .pointer (some ⟨B2, 0, none⟩))) hx2_32 Try.underlying28 rfl (n := 8) (by kernel_rfl) rfl _ rfl) ?_
  intro a33 hA33; clear hA28
  have ho20_35 := Own.gN ho20_0 hg24
  have ho20_36 := Own.gBT ho20_35 hg25 hx24 (by decide)
  have ho20_37 := Own.gN ho20_1 hg24
  have ho20_38 := Own.gBT ho20_37 hg25 hx24 (by decide)
  refine sx_call (f := 12) (args := #[.agg #[.slice Ap20 cs.length cp20, .slice Aj20 js.length cj20, .int .i64 room], .int .i64 s, .int .i64 f, .agg c.va]) hA33 rfl (by decide) (.inl rfl) (ev_fn rfl (mp4 (hA33.ev (i := 25) (v := .agg #[.slice Ap20 cs.length cp20, .slice Aj20 js.length cj20, .int .i64 room])) (hA33.ev (i := 26) (v := .int .i64 s)) (hA33.ev (i := 27) (v := .int .i64 f)) (hA33.ev (i := 28) (v := .agg c.va))) (by kernel_rfl) _ rfl) (Write_any Ap20 cp20 Aj20 cj20 cs js room s f c _ ⟨(OwnR.gr (e := 28) ⟨rfl, ho20_36⟩), (OwnR.gr (e := 38) ⟨rfl, ho20_38⟩)⟩ (by omega) (by omega)) ?_
  intro e34 w34 hR34
  obtain ⟨Ap34, cp34, Aj34, cj34, rfl, hC34, hJ34, hb34⟩ := hR34
  refine ⟨_, rfl, ?_⟩
  intro a34 hA34
  clear hA33
  have hg34 := g0 hb34
  have hs34 := hg34.size
  clear hb34
  have ho34_0 : Own w34 (w25.heap.size) 28 8 (.slice Ap34 (sub ⟨cs, js, room⟩ ⟨true, s, f, c⟩).1.cs.length cp34) (sub ⟨cs, js, room⟩ ⟨true, s, f, c⟩).1.cs.length (flat Ct.va (sub ⟨cs, js, room⟩ ⟨true, s, f, c⟩).1.cs) := hC34.2
  have hh34_0 := Own.hi ho34_0
  have ho34_1 : Own w34 (w25.heap.size) 38 11 (.slice Aj34 (sub ⟨cs, js, room⟩ ⟨true, s, f, c⟩).1.js.length cj34) (sub ⟨cs, js, room⟩ ⟨true, s, f, c⟩).1.js.length (flat Jb.va (sub ⟨cs, js, room⟩ ⟨true, s, f, c⟩).1.js) := hJ34.2
  have hh34_1 := Own.hi ho34_1
  refine sx_val hA34 rfl (ev_move (hA34.ev (i := 29) (v := .tuple #[.agg #[.slice Ap34 (sub ⟨cs, js, room⟩ ⟨true, s, f, c⟩).1.cs.length cp34, .slice Aj34 (sub ⟨cs, js, room⟩ ⟨true, s, f, c⟩).1.js.length cj34, .int .i64 (sub ⟨cs, js, room⟩ ⟨true, s, f, c⟩).1.room], .int .i64 (sub ⟨cs, js, room⟩ ⟨true, s, f, c⟩).2])) _ rfl) ?_
  intro a39 hA39; clear hA34
  refine sx_val (v := .agg #[.slice Ap34 (sub ⟨cs, js, room⟩ ⟨true, s, f, c⟩).1.cs.length cp34, .slice Aj34 (sub ⟨cs, js, room⟩ ⟨true, s, f, c⟩).1.js.length cj34, .int .i64 (sub ⟨cs, js, room⟩ ⟨true, s, f, c⟩).1.room]) hA39 rfl (ev_ext (hA39.ev (i := 24) (v := .tuple #[.agg #[.slice Ap34 (sub ⟨cs, js, room⟩ ⟨true, s, f, c⟩).1.cs.length cp34, .slice Aj34 (sub ⟨cs, js, room⟩ ⟨true, s, f, c⟩).1.js.length cj34, .int .i64 (sub ⟨cs, js, room⟩ ⟨true, s, f, c⟩).1.room], .int .i64 (sub ⟨cs, js, room⟩ ⟨true, s, f, c⟩).2])) rfl _ rfl) ?_
  intro a40 hA40; clear hA39
  refine sx_val (v := .int .i64 (sub ⟨cs, js, room⟩ ⟨true, s, f, c⟩).2) hA40 rfl (ev_ext (hA40.ev (i := 24) (v := .tuple #[.agg #[.slice Ap34 (sub ⟨cs, js, room⟩ ⟨true, s, f, c⟩).1.cs.length cp34, .slice Aj34 (sub ⟨cs, js, room⟩ ⟨true, s, f, c⟩).1.js.length cj34, .int .i64 (sub ⟨cs, js, room⟩ ⟨true, s, f, c⟩).1.room], .int .i64 (sub ⟨cs, js, room⟩ ⟨true, s, f, c⟩).2])) rfl _ rfl) ?_
  intro a41 hA41; clear hA40
  refine sx_new (cs := #[.slice none 0 0, .slice none 0 0, .int .i64 0]) (t := 25) hA41 rfl (by decide) (.inl rfl) (ev_alloc (z := .agg (#[.slice none 0 0, .slice none 0 0, .int .i64 0])) (by kernel_rfl) (by kernel_rfl) _ rfl) ?_
  intro B42 w42 a42 hB42 hx42 hg42 hA42
  clear hA41
  have hs42 := hg42.size
  have hl42 := hx42.lt
  refine sx_store hA42 rfl (.inl rfl) rfl (hA42.ev (i := 10) (v := .pointer (some ⟨B42, 0, none⟩))) (hA42.ev (i := 30) (v := .agg #[.slice Ap34 (sub ⟨cs, js, room⟩ ⟨true, s, f, c⟩).1.cs.length cp34, .slice Aj34 (sub ⟨cs, js, room⟩ ⟨true, s, f, c⟩).1.js.length cj34, .int .i64 (sub ⟨cs, js, room⟩ ⟨true, s, f, c⟩).1.room])) hx42 (by kernel_rfl) rfl (dk_one _ _ _ _ _ _ _) ?_
  intro w43 hx43 hg43
  have hs43 := hg43.size
  refine sx_val hA42 rfl (ev_assign (hA42.ev (i := 31) (v := .int .i64 (sub ⟨cs, js, room⟩ ⟨true, s, f, c⟩).2)) _ rfl) ?_
  intro a44 hA44; clear hA42
  refine sx_nil ?_
  refine then_n ?_
  refine wp_seq ?_
  refine wp_region_lit ?_
  have hx1_45 := hx1_18.gN hg20
  have hx1_46 := hx1_45.gN hg24
  have hx1_47 := hx1_46.gB hg25 (by omega)
  have hx1_48 := hx1_47.gN hg34
  have hx1_49 := hx1_48.gN hg42
  have hx1_50 := hx1_49.gB hg43 (by omega)
  refine sx_val (v := .agg #[.slice A1 cs.length c1, .slice A2 js.length c2, .int .i64 room]) hA44 rfl (ev_row (hA44.ev (i := 4) (v := .pointer (some ⟨B1, 0, none⟩))) hx1_50 Try.underlying25 rfl (n := 3) (by kernel_rfl) rfl _ rfl) ?_
  intro a51 hA51; clear hA44
  refine sx_val hA51 rfl (ev_move (hA51.ev (i := 1) (v := .int .i64 s)) _ rfl) ?_
  intro a52 hA52; clear hA51
  refine sx_val hA52 rfl (ev_move (hA52.ev (i := 2) (v := .int .i64 f)) _ rfl) ?_
  intro a53 hA53; clear hA52
  have hx2_54 := hx2_32.gN hg34
  have hx2_55 := hx2_54.gN hg42
  have hx2_56 := hx2_55.gB hg43 (by omega)
  refine sx_val (v := .agg c.va) hA53 rfl (ev_row (hA53.ev (i := 7) (v := .pointer (some ⟨B2, 0, none⟩))) hx2_56 Try.underlying28 rfl (n := 8) (by kernel_rfl) rfl _ rfl) ?_
  intro a57 hA57; clear hA53
  have hbel0_59 := Below.gN hbel0_23 hg20 hbel0_23.size
  have hbel0_60 := Below.gN hbel0_59 hg24 hbel0_59.size
  have hbel0_61 := Below.gB hbel0_60 hg25 hbel0_60.size (by omega)
  have hbel0_62 := Below.gN hbel0_61 hg34 hbel0_61.size
  have hbel0_63 := Below.gN hbel0_62 hg42 hbel0_62.size
  have hbel0_64 := Below.gB hbel0_63 hg43 hbel0_63.size (by omega)
  refine sx_call (f := 13) (args := #[.agg #[.slice A1 cs.length c1, .slice A2 js.length c2, .int .i64 room], .int .i64 s, .int .i64 f, .agg c.va]) hA57 rfl (by decide) (.inl rfl) (ev_fn rfl (mp4 (hA57.ev (i := 33) (v := .agg #[.slice A1 cs.length c1, .slice A2 js.length c2, .int .i64 room])) (hA57.ev (i := 34) (v := .int .i64 s)) (hA57.ev (i := 35) (v := .int .i64 f)) (hA57.ev (i := 36) (v := .agg c.va))) (by kernel_rfl) _ rfl) (sWrite_any A1 c1 A2 c2 cs js room s f c _ ⟨(hd.s.below hbel0_64), (hd.j.below hbel0_64)⟩ (by omega) (by omega)) ?_
  intro e58 w58 hR58
  obtain ⟨Ap58, cp58, Aj58, cj58, rfl, hC58, hJ58, hb58⟩ := hR58
  refine ⟨_, rfl, ?_⟩
  intro a58 hA58
  clear hA57
  have hg58 := g0 hb58
  have hs58 := hg58.size
  clear hb58
  have ho58_0 : Own w58 (w43.heap.size) 28 8 (.slice Ap58 (sub ⟨cs, js, room⟩ ⟨true, s, f, c⟩).1.cs.length cp58) (sub ⟨cs, js, room⟩ ⟨true, s, f, c⟩).1.cs.length (flat Ct.va (sub ⟨cs, js, room⟩ ⟨true, s, f, c⟩).1.cs) := hC58.2
  have hh58_0 := Own.hi ho58_0
  have ho58_1 : Own w58 (w43.heap.size) 38 11 (.slice Aj58 (sub ⟨cs, js, room⟩ ⟨true, s, f, c⟩).1.js.length cj58) (sub ⟨cs, js, room⟩ ⟨true, s, f, c⟩).1.js.length (flat Jb.va (sub ⟨cs, js, room⟩ ⟨true, s, f, c⟩).1.js) := hJ58.2
  have hh58_1 := Own.hi ho58_1
  refine sx_val hA58 rfl (ev_move (hA58.ev (i := 37) (v := .tuple #[.agg #[.slice Ap58 (sub ⟨cs, js, room⟩ ⟨true, s, f, c⟩).1.cs.length cp58, .slice Aj58 (sub ⟨cs, js, room⟩ ⟨true, s, f, c⟩).1.js.length cj58, .int .i64 (sub ⟨cs, js, room⟩ ⟨true, s, f, c⟩).1.room], .int .i64 (sub ⟨cs, js, room⟩ ⟨true, s, f, c⟩).2])) _ rfl) ?_
  intro a65 hA65; clear hA58
  refine sx_val (v := .agg #[.slice Ap58 (sub ⟨cs, js, room⟩ ⟨true, s, f, c⟩).1.cs.length cp58, .slice Aj58 (sub ⟨cs, js, room⟩ ⟨true, s, f, c⟩).1.js.length cj58, .int .i64 (sub ⟨cs, js, room⟩ ⟨true, s, f, c⟩).1.room]) hA65 rfl (ev_ext (hA65.ev (i := 32) (v := .tuple #[.agg #[.slice Ap58 (sub ⟨cs, js, room⟩ ⟨true, s, f, c⟩).1.cs.length cp58, .slice Aj58 (sub ⟨cs, js, room⟩ ⟨true, s, f, c⟩).1.js.length cj58, .int .i64 (sub ⟨cs, js, room⟩ ⟨true, s, f, c⟩).1.room], .int .i64 (sub ⟨cs, js, room⟩ ⟨true, s, f, c⟩).2])) rfl _ rfl) ?_
  intro a66 hA66; clear hA65
  refine sx_val (v := .int .i64 (sub ⟨cs, js, room⟩ ⟨true, s, f, c⟩).2) hA66 rfl (ev_ext (hA66.ev (i := 32) (v := .tuple #[.agg #[.slice Ap58 (sub ⟨cs, js, room⟩ ⟨true, s, f, c⟩).1.cs.length cp58, .slice Aj58 (sub ⟨cs, js, room⟩ ⟨true, s, f, c⟩).1.js.length cj58, .int .i64 (sub ⟨cs, js, room⟩ ⟨true, s, f, c⟩).1.room], .int .i64 (sub ⟨cs, js, room⟩ ⟨true, s, f, c⟩).2])) rfl _ rfl) ?_
  intro a67 hA67; clear hA66
  refine sx_new (cs := #[.slice none 0 0, .slice none 0 0, .int .i64 0]) (t := 25) hA67 rfl (by decide) (.inl rfl) (ev_alloc (z := .agg (#[.slice none 0 0, .slice none 0 0, .int .i64 0])) (by kernel_rfl) (by kernel_rfl) _ rfl) ?_
  intro B68 w68 a68 hB68 hx68 hg68 hA68
  clear hA67
  have hs68 := hg68.size
  have hl68 := hx68.lt
  refine sx_store hA68 rfl (.inl rfl) rfl (hA68.ev (i := 12) (v := .pointer (some ⟨B68, 0, none⟩))) (hA68.ev (i := 38) (v := .agg #[.slice Ap58 (sub ⟨cs, js, room⟩ ⟨true, s, f, c⟩).1.cs.length cp58, .slice Aj58 (sub ⟨cs, js, room⟩ ⟨true, s, f, c⟩).1.js.length cj58, .int .i64 (sub ⟨cs, js, room⟩ ⟨true, s, f, c⟩).1.room])) hx68 (by kernel_rfl) rfl (dk_one _ _ _ _ _ _ _) ?_
  intro w69 hx69 hg69
  have hs69 := hg69.size
  refine sx_val hA68 rfl (ev_assign (hA68.ev (i := 39) (v := .int .i64 (sub ⟨cs, js, room⟩ ⟨true, s, f, c⟩).2)) _ rfl) ?_
  intro a70 hA70; clear hA68
  refine sx_nil ?_
  refine then_n ?_
  refine wp_seq ?_
  refine wp_seq ?_
  refine wp_region_lit ?_
  have hx43_71 := hx43.gN hg58
  have hx43_72 := hx43_71.gN hg68
  have hx43_73 := hx43_72.gB hg69 (by omega)
  refine sx_val (v := .agg #[.slice Ap34 (sub ⟨cs, js, room⟩ ⟨true, s, f, c⟩).1.cs.length cp34, .slice Aj34 (sub ⟨cs, js, room⟩ ⟨true, s, f, c⟩).1.js.length cj34, .int .i64 (sub ⟨cs, js, room⟩ ⟨true, s, f, c⟩).1.room]) hA70 rfl (ev_row (hA70.ev (i := 10) (v := .pointer (some ⟨B42, 0, none⟩))) hx43_73 Try.underlying25 rfl (n := 3) (by kernel_rfl) rfl _ rfl) ?_
  intro a74 hA74; clear hA70
  refine sx_val (v := .agg #[.slice Ap58 (sub ⟨cs, js, room⟩ ⟨true, s, f, c⟩).1.cs.length cp58, .slice Aj58 (sub ⟨cs, js, room⟩ ⟨true, s, f, c⟩).1.js.length cj58, .int .i64 (sub ⟨cs, js, room⟩ ⟨true, s, f, c⟩).1.room]) hA74 rfl (ev_row (hA74.ev (i := 12) (v := .pointer (some ⟨B68, 0, none⟩))) hx69 Try.underlying25 rfl (n := 3) (by kernel_rfl) rfl _ rfl) ?_
  intro a75 hA75; clear hA74
  have hle77 : (sub ⟨cs, js, room⟩ ⟨true, s, f, c⟩).1.cs.length ≤ 900000 ∧ (sub ⟨cs, js, room⟩ ⟨true, s, f, c⟩).1.js.length ≤ 900000 := sub_len (d := (⟨cs, js, room⟩ : Dk)) _ (show cs.length ≤ 800000 by omega) (show js.length ≤ 800000 by omega)
  have ho34_78 := Own.gN ho34_0 hg42
  have ho34_79 := Own.gBT ho34_78 hg43 hx42 (by decide)
  have ho34_80 := Own.gN ho34_79 hg58
  have ho34_81 := Own.gN ho34_80 hg68
  have ho34_82 := Own.gBT ho34_81 hg69 hx68 (by decide)
  have ho34_83 := Own.gN ho34_1 hg42
  have ho34_84 := Own.gBT ho34_83 hg43 hx42 (by decide)
  have ho34_85 := Own.gN ho34_84 hg58
  have ho34_86 := Own.gN ho34_85 hg68
  have ho34_87 := Own.gBT ho34_86 hg69 hx68 (by decide)
  have ho58_88 := Own.gN ho58_0 hg68
  have ho58_89 := Own.gBT ho58_88 hg69 hx68 (by decide)
  have ho58_90 := Own.gN ho58_1 hg68
  have ho58_91 := Own.gBT ho58_90 hg69 hx68 (by decide)
  refine sx_call (f := 14) (args := #[.agg #[.slice Ap34 (sub ⟨cs, js, room⟩ ⟨true, s, f, c⟩).1.cs.length cp34, .slice Aj34 (sub ⟨cs, js, room⟩ ⟨true, s, f, c⟩).1.js.length cj34, .int .i64 (sub ⟨cs, js, room⟩ ⟨true, s, f, c⟩).1.room], .agg #[.slice Ap58 (sub ⟨cs, js, room⟩ ⟨true, s, f, c⟩).1.cs.length cp58, .slice Aj58 (sub ⟨cs, js, room⟩ ⟨true, s, f, c⟩).1.js.length cj58, .int .i64 (sub ⟨cs, js, room⟩ ⟨true, s, f, c⟩).1.room]]) hA75 rfl (by decide) (.inl rfl) (ev_fn rfl (mp2 (hA75.ev (i := 40) (v := .agg #[.slice Ap34 (sub ⟨cs, js, room⟩ ⟨true, s, f, c⟩).1.cs.length cp34, .slice Aj34 (sub ⟨cs, js, room⟩ ⟨true, s, f, c⟩).1.js.length cj34, .int .i64 (sub ⟨cs, js, room⟩ ⟨true, s, f, c⟩).1.room])) (hA75.ev (i := 41) (v := .agg #[.slice Ap58 (sub ⟨cs, js, room⟩ ⟨true, s, f, c⟩).1.cs.length cp58, .slice Aj58 (sub ⟨cs, js, room⟩ ⟨true, s, f, c⟩).1.js.length cj58, .int .i64 (sub ⟨cs, js, room⟩ ⟨true, s, f, c⟩).1.room]))) (by kernel_rfl) _ rfl) (SameDisk_any Ap34 cp34 Aj34 cj34 (sub ⟨cs, js, room⟩ ⟨true, s, f, c⟩).1.cs (sub ⟨cs, js, room⟩ ⟨true, s, f, c⟩).1.js (sub ⟨cs, js, room⟩ ⟨true, s, f, c⟩).1.room Ap58 cp58 Aj58 cj58 _ ⟨(OwnR.gr (e := 28) ⟨rfl, ho34_82⟩), (OwnR.gr (e := 38) ⟨rfl, ho34_87⟩)⟩ ⟨(OwnR.gr (e := 28) ⟨rfl, ho58_89⟩), (OwnR.gr (e := 38) ⟨rfl, ho58_91⟩)⟩ hle77.1 hle77.2) ?_
  intro e76 w76 hR76
  obtain ⟨rfl, hb76⟩ := hR76
  refine ⟨_, rfl, ?_⟩
  intro a76 hA76
  clear hA75
  have hg76 := g0 hb76
  have hs76 := hg76.size
  clear hb76
  refine sx_val (v := .bool false) hA76 rfl (ev_notT (hA76.ev (i := 42) (v := .bool true)) _ rfl) ?_
  intro a92 hA92; clear hA76
  refine sx_val hA92 rfl (ev_move (hA92.ev (i := 43) (v := .bool false)) _ rfl) ?_
  intro a93 hA93; clear hA92
  refine sx_val (hg := (.inr ⟨4, false, 44, rfl, rfl, by kernel_rfl⟩)) hA93 rfl (ev_move (hA93.ev (i := 11) (v := .int .i64 (sub ⟨cs, js, room⟩ ⟨true, s, f, c⟩).2)) _ rfl) ?_
  intro a94 hA94; clear hA93
  refine sx_val (hg := (.inr ⟨4, false, 44, rfl, rfl, by kernel_rfl⟩)) hA94 rfl (ev_move (hA94.ev (i := 13) (v := .int .i64 (sub ⟨cs, js, room⟩ ⟨true, s, f, c⟩).2)) _ rfl) ?_
  intro a95 hA95; clear hA94
  refine sx_val (hg := (.inr ⟨4, false, 44, rfl, rfl, by kernel_rfl⟩)) (v := .bool false) hA95 rfl (ev_neqB (k := .i64) (m := (sub ⟨cs, js, room⟩ ⟨true, s, f, c⟩).2) (n := (sub ⟨cs, js, room⟩ ⟨true, s, f, c⟩).2) (hA95.ev (i := 45)) (hA95.ev (i := 46)) (by simp) _ rfl) ?_
  intro a96 hA96; clear hA95
  refine sx_val hA96 rfl (ev_pickF (hA96.ev (i := 44) (v := .bool false)) (hA96.ev (i := 47) (v := .bool false)) _ rfl) ?_
  intro a97 hA97; clear hA96
  refine sx_nil ?_
  refine then_n ?_
  refine wp_cond_false (hA97.ev (i := 48) (v := .bool false)) ?_
  refine wp_skip ?_
  refine then_n ?_
  refine wp_seq ?_
  refine wp_region_lit ?_
  have hx25_98 := hx25.gN hg34
  have hx25_99 := hx25_98.gN hg42
  have hx25_100 := hx25_99.gB hg43 (by omega)
  have hx25_101 := hx25_100.gN hg58
  have hx25_102 := hx25_101.gN hg68
  have hx25_103 := hx25_102.gB hg69 (by omega)
  have hx25_104 := hx25_103.gN hg76
  refine sx_val (v := .agg #[.slice Ap20 cs.length cp20, .slice Aj20 js.length cj20, .int .i64 room]) hA97 rfl (ev_row (hA97.ev (i := 9) (v := .pointer (some ⟨B24, 0, none⟩))) hx25_104 Try.underlying25 rfl (n := 3) (by kernel_rfl) rfl _ rfl) ?_
  intro a105 hA105; clear hA97
  refine sx_val hA105 rfl (ev_move (hA105.ev (i := 1) (v := .int .i64 s)) _ rfl) ?_
  intro a106 hA106; clear hA105
  refine sx_val hA106 rfl (ev_move (hA106.ev (i := 2) (v := .int .i64 f)) _ rfl) ?_
  intro a107 hA107; clear hA106
  have ho20_109 := Own.gN ho20_36 hg34
  have ho20_110 := Own.gN ho20_109 hg42
  have ho20_111 := Own.gBT ho20_110 hg43 hx42 (by decide)
  have ho20_112 := Own.gN ho20_111 hg58
  have ho20_113 := Own.gN ho20_112 hg68
  have ho20_114 := Own.gBT ho20_113 hg69 hx68 (by decide)
  have ho20_115 := Own.gN ho20_114 hg76
  have ho20_116 := Own.gN ho20_38 hg34
  have ho20_117 := Own.gN ho20_116 hg42
  have ho20_118 := Own.gBT ho20_117 hg43 hx42 (by decide)
  have ho20_119 := Own.gN ho20_118 hg58
  have ho20_120 := Own.gN ho20_119 hg68
  have ho20_121 := Own.gBT ho20_120 hg69 hx68 (by decide)
  have ho20_122 := Own.gN ho20_121 hg76
  refine sx_call (f := 15) (args := #[.agg #[.slice Ap20 cs.length cp20, .slice Aj20 js.length cj20, .int .i64 room], .int .i64 s, .int .i64 f]) hA107 rfl (by decide) (.inl rfl) (ev_fn rfl (mp3 (hA107.ev (i := 50) (v := .agg #[.slice Ap20 cs.length cp20, .slice Aj20 js.length cj20, .int .i64 room])) (hA107.ev (i := 51) (v := .int .i64 s)) (hA107.ev (i := 52) (v := .int .i64 f))) (by kernel_rfl) _ rfl) (Read_any Ap20 cp20 Aj20 cj20 cs js room s f _ ⟨(OwnR.gr (e := 28) ⟨rfl, ho20_115⟩), (OwnR.gr (e := 38) ⟨rfl, ho20_122⟩)⟩ (by omega) (by omega)) ?_
  intro e108 w108 hR108
  obtain ⟨Ap108, cp108, Aj108, cj108, rfl, hC108, hJ108, hb108⟩ := hR108
  refine ⟨_, rfl, ?_⟩
  intro a108 hA108
  clear hA107
  have hg108 := g0 hb108
  have hs108 := hg108.size
  clear hb108
  have ho108_0 : Own w108 (w76.heap.size) 28 8 (.slice Ap108 (sub ⟨cs, js, room⟩ ⟨false, s, f, Ct.zero⟩).1.cs.length cp108) (sub ⟨cs, js, room⟩ ⟨false, s, f, Ct.zero⟩).1.cs.length (flat Ct.va (sub ⟨cs, js, room⟩ ⟨false, s, f, Ct.zero⟩).1.cs) := hC108.2
  have hh108_0 := Own.hi ho108_0
  have ho108_1 : Own w108 (w76.heap.size) 38 11 (.slice Aj108 (sub ⟨cs, js, room⟩ ⟨false, s, f, Ct.zero⟩).1.js.length cj108) (sub ⟨cs, js, room⟩ ⟨false, s, f, Ct.zero⟩).1.js.length (flat Jb.va (sub ⟨cs, js, room⟩ ⟨false, s, f, Ct.zero⟩).1.js) := hJ108.2
  have hh108_1 := Own.hi ho108_1
  refine sx_val hA108 rfl (ev_move (hA108.ev (i := 53) (v := .tuple #[.agg #[.slice Ap108 (sub ⟨cs, js, room⟩ ⟨false, s, f, Ct.zero⟩).1.cs.length cp108, .slice Aj108 (sub ⟨cs, js, room⟩ ⟨false, s, f, Ct.zero⟩).1.js.length cj108, .int .i64 (sub ⟨cs, js, room⟩ ⟨false, s, f, Ct.zero⟩).1.room], .int .i64 (sub ⟨cs, js, room⟩ ⟨false, s, f, Ct.zero⟩).2])) _ rfl) ?_
  intro a123 hA123; clear hA108
  refine sx_val (v := .agg #[.slice Ap108 (sub ⟨cs, js, room⟩ ⟨false, s, f, Ct.zero⟩).1.cs.length cp108, .slice Aj108 (sub ⟨cs, js, room⟩ ⟨false, s, f, Ct.zero⟩).1.js.length cj108, .int .i64 (sub ⟨cs, js, room⟩ ⟨false, s, f, Ct.zero⟩).1.room]) hA123 rfl (ev_ext (hA123.ev (i := 49) (v := .tuple #[.agg #[.slice Ap108 (sub ⟨cs, js, room⟩ ⟨false, s, f, Ct.zero⟩).1.cs.length cp108, .slice Aj108 (sub ⟨cs, js, room⟩ ⟨false, s, f, Ct.zero⟩).1.js.length cj108, .int .i64 (sub ⟨cs, js, room⟩ ⟨false, s, f, Ct.zero⟩).1.room], .int .i64 (sub ⟨cs, js, room⟩ ⟨false, s, f, Ct.zero⟩).2])) rfl _ rfl) ?_
  intro a124 hA124; clear hA123
  refine sx_val (v := .int .i64 (sub ⟨cs, js, room⟩ ⟨false, s, f, Ct.zero⟩).2) hA124 rfl (ev_ext (hA124.ev (i := 49) (v := .tuple #[.agg #[.slice Ap108 (sub ⟨cs, js, room⟩ ⟨false, s, f, Ct.zero⟩).1.cs.length cp108, .slice Aj108 (sub ⟨cs, js, room⟩ ⟨false, s, f, Ct.zero⟩).1.js.length cj108, .int .i64 (sub ⟨cs, js, room⟩ ⟨false, s, f, Ct.zero⟩).1.room], .int .i64 (sub ⟨cs, js, room⟩ ⟨false, s, f, Ct.zero⟩).2])) rfl _ rfl) ?_
  intro a125 hA125; clear hA124
  have hx43_127 := hx43_73.gN hg76
  have hx43_128 := hx43_127.gN hg108
  refine sx_store hA125 rfl (.inl rfl) rfl (hA125.ev (i := 10) (v := .pointer (some ⟨B42, 0, none⟩))) (hA125.ev (i := 54) (v := .agg #[.slice Ap108 (sub ⟨cs, js, room⟩ ⟨false, s, f, Ct.zero⟩).1.cs.length cp108, .slice Aj108 (sub ⟨cs, js, room⟩ ⟨false, s, f, Ct.zero⟩).1.js.length cj108, .int .i64 (sub ⟨cs, js, room⟩ ⟨false, s, f, Ct.zero⟩).1.room])) hx43_128 (by kernel_rfl) rfl (dk_one _ _ _ _ _ _ _) ?_
  intro w126 hx126 hg126
  have hs126 := hg126.size
  refine sx_val hA125 rfl (ev_assign (hA125.ev (i := 55) (v := .int .i64 (sub ⟨cs, js, room⟩ ⟨false, s, f, Ct.zero⟩).2)) _ rfl) ?_
  intro a129 hA129; clear hA125
  refine sx_nil ?_
  refine then_n ?_
  refine wp_seq ?_
  refine wp_region_lit ?_
  have hx1_130 := hx1_50.gN hg58
  have hx1_131 := hx1_130.gN hg68
  have hx1_132 := hx1_131.gB hg69 (by omega)
  have hx1_133 := hx1_132.gN hg76
  have hx1_134 := hx1_133.gN hg108
  have hx1_135 := hx1_134.gB hg126 (by omega)
  refine sx_val (v := .agg #[.slice A1 cs.length c1, .slice A2 js.length c2, .int .i64 room]) hA129 rfl (ev_row (hA129.ev (i := 4) (v := .pointer (some ⟨B1, 0, none⟩))) hx1_135 Try.underlying25 rfl (n := 3) (by kernel_rfl) rfl _ rfl) ?_
  intro a136 hA136; clear hA129
  refine sx_val hA136 rfl (ev_move (hA136.ev (i := 1) (v := .int .i64 s)) _ rfl) ?_
  intro a137 hA137; clear hA136
  refine sx_val hA137 rfl (ev_move (hA137.ev (i := 2) (v := .int .i64 f)) _ rfl) ?_
  intro a138 hA138; clear hA137
  have hbel0_140 := Below.gN hbel0_64 hg58 hbel0_64.size
  have hbel0_141 := Below.gN hbel0_140 hg68 hbel0_140.size
  have hbel0_142 := Below.gB hbel0_141 hg69 hbel0_141.size (by omega)
  have hbel0_143 := Below.gN hbel0_142 hg76 hbel0_142.size
  have hbel0_144 := Below.gN hbel0_143 hg108 hbel0_143.size
  have hbel0_145 := Below.gB hbel0_144 hg126 hbel0_144.size (by omega)
  refine sx_call (f := 16) (args := #[.agg #[.slice A1 cs.length c1, .slice A2 js.length c2, .int .i64 room], .int .i64 s, .int .i64 f]) hA138 rfl (by decide) (.inl rfl) (ev_fn rfl (mp3 (hA138.ev (i := 57) (v := .agg #[.slice A1 cs.length c1, .slice A2 js.length c2, .int .i64 room])) (hA138.ev (i := 58) (v := .int .i64 s)) (hA138.ev (i := 59) (v := .int .i64 f))) (by kernel_rfl) _ rfl) (sRead_any A1 c1 A2 c2 cs js room s f _ ⟨(hd.s.below hbel0_145), (hd.j.below hbel0_145)⟩ (by omega) (by omega)) ?_
  intro e139 w139 hR139
  obtain ⟨Ap139, cp139, Aj139, cj139, rfl, hC139, hJ139, hb139⟩ := hR139
  refine ⟨_, rfl, ?_⟩
  intro a139 hA139
  clear hA138
  have hg139 := g0 hb139
  have hs139 := hg139.size
  clear hb139
  have ho139_0 : Own w139 (w126.heap.size) 28 8 (.slice Ap139 (sub ⟨cs, js, room⟩ ⟨false, s, f, Ct.zero⟩).1.cs.length cp139) (sub ⟨cs, js, room⟩ ⟨false, s, f, Ct.zero⟩).1.cs.length (flat Ct.va (sub ⟨cs, js, room⟩ ⟨false, s, f, Ct.zero⟩).1.cs) := hC139.2
  have hh139_0 := Own.hi ho139_0
  have ho139_1 : Own w139 (w126.heap.size) 38 11 (.slice Aj139 (sub ⟨cs, js, room⟩ ⟨false, s, f, Ct.zero⟩).1.js.length cj139) (sub ⟨cs, js, room⟩ ⟨false, s, f, Ct.zero⟩).1.js.length (flat Jb.va (sub ⟨cs, js, room⟩ ⟨false, s, f, Ct.zero⟩).1.js) := hJ139.2
  have hh139_1 := Own.hi ho139_1
  refine sx_val hA139 rfl (ev_move (hA139.ev (i := 60) (v := .tuple #[.agg #[.slice Ap139 (sub ⟨cs, js, room⟩ ⟨false, s, f, Ct.zero⟩).1.cs.length cp139, .slice Aj139 (sub ⟨cs, js, room⟩ ⟨false, s, f, Ct.zero⟩).1.js.length cj139, .int .i64 (sub ⟨cs, js, room⟩ ⟨false, s, f, Ct.zero⟩).1.room], .int .i64 (sub ⟨cs, js, room⟩ ⟨false, s, f, Ct.zero⟩).2])) _ rfl) ?_
  intro a146 hA146; clear hA139
  refine sx_val (v := .agg #[.slice Ap139 (sub ⟨cs, js, room⟩ ⟨false, s, f, Ct.zero⟩).1.cs.length cp139, .slice Aj139 (sub ⟨cs, js, room⟩ ⟨false, s, f, Ct.zero⟩).1.js.length cj139, .int .i64 (sub ⟨cs, js, room⟩ ⟨false, s, f, Ct.zero⟩).1.room]) hA146 rfl (ev_ext (hA146.ev (i := 56) (v := .tuple #[.agg #[.slice Ap139 (sub ⟨cs, js, room⟩ ⟨false, s, f, Ct.zero⟩).1.cs.length cp139, .slice Aj139 (sub ⟨cs, js, room⟩ ⟨false, s, f, Ct.zero⟩).1.js.length cj139, .int .i64 (sub ⟨cs, js, room⟩ ⟨false, s, f, Ct.zero⟩).1.room], .int .i64 (sub ⟨cs, js, room⟩ ⟨false, s, f, Ct.zero⟩).2])) rfl _ rfl) ?_
  intro a147 hA147; clear hA146
  refine sx_val (v := .int .i64 (sub ⟨cs, js, room⟩ ⟨false, s, f, Ct.zero⟩).2) hA147 rfl (ev_ext (hA147.ev (i := 56) (v := .tuple #[.agg #[.slice Ap139 (sub ⟨cs, js, room⟩ ⟨false, s, f, Ct.zero⟩).1.cs.length cp139, .slice Aj139 (sub ⟨cs, js, room⟩ ⟨false, s, f, Ct.zero⟩).1.js.length cj139, .int .i64 (sub ⟨cs, js, room⟩ ⟨false, s, f, Ct.zero⟩).1.room], .int .i64 (sub ⟨cs, js, room⟩ ⟨false, s, f, Ct.zero⟩).2])) rfl _ rfl) ?_
  intro a148 hA148; clear hA147
  have hx69_150 := hx69.gN hg76
  have hx69_151 := hx69_150.gN hg108
  have hx69_152 := hx69_151.gB hg126 (by omega)
  have hx69_153 := hx69_152.gN hg139
  refine sx_store hA148 rfl (.inl rfl) rfl (hA148.ev (i := 12) (v := .pointer (some ⟨B68, 0, none⟩))) (hA148.ev (i := 61) (v := .agg #[.slice Ap139 (sub ⟨cs, js, room⟩ ⟨false, s, f, Ct.zero⟩).1.cs.length cp139, .slice Aj139 (sub ⟨cs, js, room⟩ ⟨false, s, f, Ct.zero⟩).1.js.length cj139, .int .i64 (sub ⟨cs, js, room⟩ ⟨false, s, f, Ct.zero⟩).1.room])) hx69_153 (by kernel_rfl) rfl (dk_one _ _ _ _ _ _ _) ?_
  intro w149 hx149 hg149
  have hs149 := hg149.size
  refine sx_val hA148 rfl (ev_assign (hA148.ev (i := 62) (v := .int .i64 (sub ⟨cs, js, room⟩ ⟨false, s, f, Ct.zero⟩).2)) _ rfl) ?_
  intro a154 hA154; clear hA148
  refine sx_nil ?_
  refine then_n ?_
  refine wp_seq ?_
  refine wp_seq ?_
  refine wp_region_lit ?_
  have hx126_155 := hx126.gN hg139
  have hx126_156 := hx126_155.gB hg149 (by omega)
  refine sx_val (v := .agg #[.slice Ap108 (sub ⟨cs, js, room⟩ ⟨false, s, f, Ct.zero⟩).1.cs.length cp108, .slice Aj108 (sub ⟨cs, js, room⟩ ⟨false, s, f, Ct.zero⟩).1.js.length cj108, .int .i64 (sub ⟨cs, js, room⟩ ⟨false, s, f, Ct.zero⟩).1.room]) hA154 rfl (ev_row (hA154.ev (i := 10) (v := .pointer (some ⟨B42, 0, none⟩))) hx126_156 Try.underlying25 rfl (n := 3) (by kernel_rfl) rfl _ rfl) ?_
  intro a157 hA157; clear hA154
  refine sx_val (v := .agg #[.slice Ap139 (sub ⟨cs, js, room⟩ ⟨false, s, f, Ct.zero⟩).1.cs.length cp139, .slice Aj139 (sub ⟨cs, js, room⟩ ⟨false, s, f, Ct.zero⟩).1.js.length cj139, .int .i64 (sub ⟨cs, js, room⟩ ⟨false, s, f, Ct.zero⟩).1.room]) hA157 rfl (ev_row (hA157.ev (i := 12) (v := .pointer (some ⟨B68, 0, none⟩))) hx149 Try.underlying25 rfl (n := 3) (by kernel_rfl) rfl _ rfl) ?_
  intro a158 hA158; clear hA157
  have hle160 : (sub ⟨cs, js, room⟩ ⟨false, s, f, Ct.zero⟩).1.cs.length ≤ 900000 ∧ (sub ⟨cs, js, room⟩ ⟨false, s, f, Ct.zero⟩).1.js.length ≤ 900000 := sub_len (d := (⟨cs, js, room⟩ : Dk)) _ (show cs.length ≤ 800000 by omega) (show js.length ≤ 800000 by omega)
  have ho108_161 := Own.gBT ho108_0 hg126 hx43_128 (by decide)
  have ho108_162 := Own.gN ho108_161 hg139
  have ho108_163 := Own.gBT ho108_162 hg149 hx69_153 (by decide)
  have ho108_164 := Own.gBT ho108_1 hg126 hx43_128 (by decide)
  have ho108_165 := Own.gN ho108_164 hg139
  have ho108_166 := Own.gBT ho108_165 hg149 hx69_153 (by decide)
  have ho139_167 := Own.gBT ho139_0 hg149 hx69_153 (by decide)
  have ho139_168 := Own.gBT ho139_1 hg149 hx69_153 (by decide)
  refine sx_call (f := 14) (args := #[.agg #[.slice Ap108 (sub ⟨cs, js, room⟩ ⟨false, s, f, Ct.zero⟩).1.cs.length cp108, .slice Aj108 (sub ⟨cs, js, room⟩ ⟨false, s, f, Ct.zero⟩).1.js.length cj108, .int .i64 (sub ⟨cs, js, room⟩ ⟨false, s, f, Ct.zero⟩).1.room], .agg #[.slice Ap139 (sub ⟨cs, js, room⟩ ⟨false, s, f, Ct.zero⟩).1.cs.length cp139, .slice Aj139 (sub ⟨cs, js, room⟩ ⟨false, s, f, Ct.zero⟩).1.js.length cj139, .int .i64 (sub ⟨cs, js, room⟩ ⟨false, s, f, Ct.zero⟩).1.room]]) hA158 rfl (by decide) (.inl rfl) (ev_fn rfl (mp2 (hA158.ev (i := 63) (v := .agg #[.slice Ap108 (sub ⟨cs, js, room⟩ ⟨false, s, f, Ct.zero⟩).1.cs.length cp108, .slice Aj108 (sub ⟨cs, js, room⟩ ⟨false, s, f, Ct.zero⟩).1.js.length cj108, .int .i64 (sub ⟨cs, js, room⟩ ⟨false, s, f, Ct.zero⟩).1.room])) (hA158.ev (i := 64) (v := .agg #[.slice Ap139 (sub ⟨cs, js, room⟩ ⟨false, s, f, Ct.zero⟩).1.cs.length cp139, .slice Aj139 (sub ⟨cs, js, room⟩ ⟨false, s, f, Ct.zero⟩).1.js.length cj139, .int .i64 (sub ⟨cs, js, room⟩ ⟨false, s, f, Ct.zero⟩).1.room]))) (by kernel_rfl) _ rfl) (SameDisk_any Ap108 cp108 Aj108 cj108 (sub ⟨cs, js, room⟩ ⟨false, s, f, Ct.zero⟩).1.cs (sub ⟨cs, js, room⟩ ⟨false, s, f, Ct.zero⟩).1.js (sub ⟨cs, js, room⟩ ⟨false, s, f, Ct.zero⟩).1.room Ap139 cp139 Aj139 cj139 _ ⟨(OwnR.gr (e := 28) ⟨rfl, ho108_163⟩), (OwnR.gr (e := 38) ⟨rfl, ho108_166⟩)⟩ ⟨(OwnR.gr (e := 28) ⟨rfl, ho139_167⟩), (OwnR.gr (e := 38) ⟨rfl, ho139_168⟩)⟩ hle160.1 hle160.2) ?_
  intro e159 w159 hR159
  obtain ⟨rfl, hb159⟩ := hR159
  refine ⟨_, rfl, ?_⟩
  intro a159 hA159
  clear hA158
  have hg159 := g0 hb159
  have hs159 := hg159.size
  clear hb159
  refine sx_val (v := .bool false) hA159 rfl (ev_notT (hA159.ev (i := 65) (v := .bool true)) _ rfl) ?_
  intro a169 hA169; clear hA159
  refine sx_val hA169 rfl (ev_move (hA169.ev (i := 66) (v := .bool false)) _ rfl) ?_
  intro a170 hA170; clear hA169
  refine sx_val (hg := (.inr ⟨4, false, 67, rfl, rfl, by kernel_rfl⟩)) hA170 rfl (ev_move (hA170.ev (i := 11) (v := .int .i64 (sub ⟨cs, js, room⟩ ⟨false, s, f, Ct.zero⟩).2)) _ rfl) ?_
  intro a171 hA171; clear hA170
  refine sx_val (hg := (.inr ⟨4, false, 67, rfl, rfl, by kernel_rfl⟩)) hA171 rfl (ev_move (hA171.ev (i := 13) (v := .int .i64 (sub ⟨cs, js, room⟩ ⟨false, s, f, Ct.zero⟩).2)) _ rfl) ?_
  intro a172 hA172; clear hA171
  refine sx_val (hg := (.inr ⟨4, false, 67, rfl, rfl, by kernel_rfl⟩)) (v := .bool false) hA172 rfl (ev_neqB (k := .i64) (m := (sub ⟨cs, js, room⟩ ⟨false, s, f, Ct.zero⟩).2) (n := (sub ⟨cs, js, room⟩ ⟨false, s, f, Ct.zero⟩).2) (hA172.ev (i := 68)) (hA172.ev (i := 69)) (by simp) _ rfl) ?_
  intro a173 hA173; clear hA172
  refine sx_val hA173 rfl (ev_pickF (hA173.ev (i := 67) (v := .bool false)) (hA173.ev (i := 70) (v := .bool false)) _ rfl) ?_
  intro a174 hA174; clear hA173
  refine sx_nil ?_
  refine then_n ?_
  refine wp_cond_false (hA174.ev (i := 71) (v := .bool false)) ?_
  refine wp_skip ?_
  refine then_n ?_
  refine wp_seq ?_
  refine wp_region_lit ?_
  have hx25_175 := hx25_104.gN hg108
  have hx25_176 := hx25_175.gB hg126 (by omega)
  have hx25_177 := hx25_176.gN hg139
  have hx25_178 := hx25_177.gB hg149 (by omega)
  have hx25_179 := hx25_178.gN hg159
  refine sx_val (v := .agg #[.slice Ap20 cs.length cp20, .slice Aj20 js.length cj20, .int .i64 room]) hA174 rfl (ev_row (hA174.ev (i := 9) (v := .pointer (some ⟨B24, 0, none⟩))) hx25_179 Try.underlying25 rfl (n := 3) (by kernel_rfl) rfl _ rfl) ?_
  intro a180 hA180; clear hA174
  refine sx_val hA180 rfl (ev_move (hA180.ev (i := 1) (v := .int .i64 s)) _ rfl) ?_
  intro a181 hA181; clear hA180
  have ho20_183 := Own.gN ho20_115 hg108
  have ho20_184 := Own.gBT ho20_183 hg126 hx43_128 (by decide)
  have ho20_185 := Own.gN ho20_184 hg139
  have ho20_186 := Own.gBT ho20_185 hg149 hx69_153 (by decide)
  have ho20_187 := Own.gN ho20_186 hg159
  have ho20_188 := Own.gN ho20_122 hg108
  have ho20_189 := Own.gBT ho20_188 hg126 hx43_128 (by decide)
  have ho20_190 := Own.gN ho20_189 hg139
  have ho20_191 := Own.gBT ho20_190 hg149 hx69_153 (by decide)
  have ho20_192 := Own.gN ho20_191 hg159
  refine sx_call (f := 17) (args := #[.agg #[.slice Ap20 cs.length cp20, .slice Aj20 js.length cj20, .int .i64 room], .int .i64 s]) hA181 rfl (by decide) (.inl rfl) (ev_fn rfl (mp2 (hA181.ev (i := 73) (v := .agg #[.slice Ap20 cs.length cp20, .slice Aj20 js.length cj20, .int .i64 room])) (hA181.ev (i := 74) (v := .int .i64 s))) (by kernel_rfl) _ rfl) (Complete_any Ap20 cp20 Aj20 cj20 cs js room s _ ⟨(OwnR.gr (e := 28) ⟨rfl, ho20_187⟩), (OwnR.gr (e := 38) ⟨rfl, ho20_192⟩)⟩ (by omega) (by omega)) ?_
  intro e182 w182 hR182
  obtain ⟨Ap182, cp182, Aj182, cj182, rfl, hC182, hJ182, hb182⟩ := hR182
  refine ⟨_, rfl, ?_⟩
  intro a182 hA182
  clear hA181
  have hg182 := g0 hb182
  have hs182 := hg182.size
  clear hb182
  have ho182_0 : Own w182 (w159.heap.size) 28 8 (.slice Ap182 (cmp ⟨cs, js, room⟩ s).1.cs.length cp182) (cmp ⟨cs, js, room⟩ s).1.cs.length (flat Ct.va (cmp ⟨cs, js, room⟩ s).1.cs) := hC182.2
  have hh182_0 := Own.hi ho182_0
  have ho182_1 : Own w182 (w159.heap.size) 38 11 (.slice Aj182 (cmp ⟨cs, js, room⟩ s).1.js.length cj182) (cmp ⟨cs, js, room⟩ s).1.js.length (flat Jb.va (cmp ⟨cs, js, room⟩ s).1.js) := hJ182.2
  have hh182_1 := Own.hi ho182_1
  refine sx_val hA182 rfl (ev_move (hA182.ev (i := 75) (v := .tuple #[.agg #[.slice Ap182 (cmp ⟨cs, js, room⟩ s).1.cs.length cp182, .slice Aj182 (cmp ⟨cs, js, room⟩ s).1.js.length cj182, .int .i64 (cmp ⟨cs, js, room⟩ s).1.room], .agg (cmp ⟨cs, js, room⟩ s).2.1.va, .int .i64 (cmp ⟨cs, js, room⟩ s).2.2])) _ rfl) ?_
  intro a193 hA193; clear hA182
  refine sx_val (v := .agg #[.slice Ap182 (cmp ⟨cs, js, room⟩ s).1.cs.length cp182, .slice Aj182 (cmp ⟨cs, js, room⟩ s).1.js.length cj182, .int .i64 (cmp ⟨cs, js, room⟩ s).1.room]) hA193 rfl (ev_ext (hA193.ev (i := 72) (v := .tuple #[.agg #[.slice Ap182 (cmp ⟨cs, js, room⟩ s).1.cs.length cp182, .slice Aj182 (cmp ⟨cs, js, room⟩ s).1.js.length cj182, .int .i64 (cmp ⟨cs, js, room⟩ s).1.room], .agg (cmp ⟨cs, js, room⟩ s).2.1.va, .int .i64 (cmp ⟨cs, js, room⟩ s).2.2])) rfl _ rfl) ?_
  intro a194 hA194; clear hA193
  refine sx_val (v := .agg (cmp ⟨cs, js, room⟩ s).2.1.va) hA194 rfl (ev_ext (hA194.ev (i := 72) (v := .tuple #[.agg #[.slice Ap182 (cmp ⟨cs, js, room⟩ s).1.cs.length cp182, .slice Aj182 (cmp ⟨cs, js, room⟩ s).1.js.length cj182, .int .i64 (cmp ⟨cs, js, room⟩ s).1.room], .agg (cmp ⟨cs, js, room⟩ s).2.1.va, .int .i64 (cmp ⟨cs, js, room⟩ s).2.2])) rfl _ rfl) ?_
  intro a195 hA195; clear hA194
  refine sx_val (v := .int .i64 (cmp ⟨cs, js, room⟩ s).2.2) hA195 rfl (ev_ext (hA195.ev (i := 72) (v := .tuple #[.agg #[.slice Ap182 (cmp ⟨cs, js, room⟩ s).1.cs.length cp182, .slice Aj182 (cmp ⟨cs, js, room⟩ s).1.js.length cj182, .int .i64 (cmp ⟨cs, js, room⟩ s).1.room], .agg (cmp ⟨cs, js, room⟩ s).2.1.va, .int .i64 (cmp ⟨cs, js, room⟩ s).2.2])) rfl _ rfl) ?_
  intro a196 hA196; clear hA195
  refine sx_new (cs := Jb.zero.va) (t := 38) hA196 rfl (by decide) (.inl rfl) (ev_alloc (z := .agg Jb.zero.va) (by kernel_rfl) (by kernel_rfl) _ rfl) ?_
  intro B197 w197 a197 hB197 hx197 hg197 hA197
  clear hA196
  have hs197 := hg197.size
  have hl197 := hx197.lt
  have hx126_199 := hx126_156.gN hg159
  have hx126_200 := hx126_199.gN hg182
  have hx126_201 := hx126_200.gN hg197
  refine sx_store hA197 rfl (.inl rfl) rfl (hA197.ev (i := 10) (v := .pointer (some ⟨B42, 0, none⟩))) (hA197.ev (i := 76) (v := .agg #[.slice Ap182 (cmp ⟨cs, js, room⟩ s).1.cs.length cp182, .slice Aj182 (cmp ⟨cs, js, room⟩ s).1.js.length cj182, .int .i64 (cmp ⟨cs, js, room⟩ s).1.room])) hx126_201 (by kernel_rfl) rfl (dk_one _ _ _ _ _ _ _) ?_
  intro w198 hx198 hg198
  have hs198 := hg198.size
  have hx197_203 := hx197.gB hg198 (by omega)
  refine sx_store hA197 rfl (.inl rfl) rfl (hA197.ev (i := 14) (v := .pointer (some ⟨B197, 0, none⟩))) (hA197.ev (i := 77) (v := .agg (cmp ⟨cs, js, room⟩ s).2.1.va)) hx197_203 (by kernel_rfl) rfl (jb_one _) ?_
  intro w202 hx202 hg202
  have hs202 := hg202.size
  refine sx_val hA197 rfl (ev_assign (hA197.ev (i := 78) (v := .int .i64 (cmp ⟨cs, js, room⟩ s).2.2)) _ rfl) ?_
  intro a204 hA204; clear hA197
  refine sx_nil ?_
  refine then_n ?_
  refine wp_seq ?_
  refine wp_region_lit ?_
  have hx1_205 := hx1_135.gN hg139
  have hx1_206 := hx1_205.gB hg149 (by omega)
  have hx1_207 := hx1_206.gN hg159
  have hx1_208 := hx1_207.gN hg182
  have hx1_209 := hx1_208.gN hg197
  have hx1_210 := hx1_209.gB hg198 (by omega)
  have hx1_211 := hx1_210.gB hg202 (by omega)
  refine sx_val (v := .agg #[.slice A1 cs.length c1, .slice A2 js.length c2, .int .i64 room]) hA204 rfl (ev_row (hA204.ev (i := 4) (v := .pointer (some ⟨B1, 0, none⟩))) hx1_211 Try.underlying25 rfl (n := 3) (by kernel_rfl) rfl _ rfl) ?_
  intro a212 hA212; clear hA204
  refine sx_val hA212 rfl (ev_move (hA212.ev (i := 1) (v := .int .i64 s)) _ rfl) ?_
  intro a213 hA213; clear hA212
  have hbel0_215 := Below.gN hbel0_145 hg139 hbel0_145.size
  have hbel0_216 := Below.gB hbel0_215 hg149 hbel0_215.size (by omega)
  have hbel0_217 := Below.gN hbel0_216 hg159 hbel0_216.size
  have hbel0_218 := Below.gN hbel0_217 hg182 hbel0_217.size
  have hbel0_219 := Below.gN hbel0_218 hg197 hbel0_218.size
  have hbel0_220 := Below.gB hbel0_219 hg198 hbel0_219.size (by omega)
  have hbel0_221 := Below.gB hbel0_220 hg202 hbel0_220.size (by omega)
  refine sx_call (f := 18) (args := #[.agg #[.slice A1 cs.length c1, .slice A2 js.length c2, .int .i64 room], .int .i64 s]) hA213 rfl (by decide) (.inl rfl) (ev_fn rfl (mp2 (hA213.ev (i := 80) (v := .agg #[.slice A1 cs.length c1, .slice A2 js.length c2, .int .i64 room])) (hA213.ev (i := 81) (v := .int .i64 s))) (by kernel_rfl) _ rfl) (sComplete_any A1 c1 A2 c2 cs js room s _ ⟨(hd.s.below hbel0_221), (hd.j.below hbel0_221)⟩ (by omega) (by omega)) ?_
  intro e214 w214 hR214
  obtain ⟨Ap214, cp214, Aj214, cj214, rfl, hC214, hJ214, hb214⟩ := hR214
  refine ⟨_, rfl, ?_⟩
  intro a214 hA214
  clear hA213
  have hg214 := g0 hb214
  have hs214 := hg214.size
  clear hb214
  have ho214_0 : Own w214 (w202.heap.size) 28 8 (.slice Ap214 (cmp ⟨cs, js, room⟩ s).1.cs.length cp214) (cmp ⟨cs, js, room⟩ s).1.cs.length (flat Ct.va (cmp ⟨cs, js, room⟩ s).1.cs) := hC214.2
  have hh214_0 := Own.hi ho214_0
  have ho214_1 : Own w214 (w202.heap.size) 38 11 (.slice Aj214 (cmp ⟨cs, js, room⟩ s).1.js.length cj214) (cmp ⟨cs, js, room⟩ s).1.js.length (flat Jb.va (cmp ⟨cs, js, room⟩ s).1.js) := hJ214.2
  have hh214_1 := Own.hi ho214_1
  refine sx_val hA214 rfl (ev_move (hA214.ev (i := 82) (v := .tuple #[.agg #[.slice Ap214 (cmp ⟨cs, js, room⟩ s).1.cs.length cp214, .slice Aj214 (cmp ⟨cs, js, room⟩ s).1.js.length cj214, .int .i64 (cmp ⟨cs, js, room⟩ s).1.room], .agg (cmp ⟨cs, js, room⟩ s).2.1.va, .int .i64 (cmp ⟨cs, js, room⟩ s).2.2])) _ rfl) ?_
  intro a222 hA222; clear hA214
  refine sx_val (v := .agg #[.slice Ap214 (cmp ⟨cs, js, room⟩ s).1.cs.length cp214, .slice Aj214 (cmp ⟨cs, js, room⟩ s).1.js.length cj214, .int .i64 (cmp ⟨cs, js, room⟩ s).1.room]) hA222 rfl (ev_ext (hA222.ev (i := 79) (v := .tuple #[.agg #[.slice Ap214 (cmp ⟨cs, js, room⟩ s).1.cs.length cp214, .slice Aj214 (cmp ⟨cs, js, room⟩ s).1.js.length cj214, .int .i64 (cmp ⟨cs, js, room⟩ s).1.room], .agg (cmp ⟨cs, js, room⟩ s).2.1.va, .int .i64 (cmp ⟨cs, js, room⟩ s).2.2])) rfl _ rfl) ?_
  intro a223 hA223; clear hA222
  refine sx_val (v := .agg (cmp ⟨cs, js, room⟩ s).2.1.va) hA223 rfl (ev_ext (hA223.ev (i := 79) (v := .tuple #[.agg #[.slice Ap214 (cmp ⟨cs, js, room⟩ s).1.cs.length cp214, .slice Aj214 (cmp ⟨cs, js, room⟩ s).1.js.length cj214, .int .i64 (cmp ⟨cs, js, room⟩ s).1.room], .agg (cmp ⟨cs, js, room⟩ s).2.1.va, .int .i64 (cmp ⟨cs, js, room⟩ s).2.2])) rfl _ rfl) ?_
  intro a224 hA224; clear hA223
  refine sx_val (v := .int .i64 (cmp ⟨cs, js, room⟩ s).2.2) hA224 rfl (ev_ext (hA224.ev (i := 79) (v := .tuple #[.agg #[.slice Ap214 (cmp ⟨cs, js, room⟩ s).1.cs.length cp214, .slice Aj214 (cmp ⟨cs, js, room⟩ s).1.js.length cj214, .int .i64 (cmp ⟨cs, js, room⟩ s).1.room], .agg (cmp ⟨cs, js, room⟩ s).2.1.va, .int .i64 (cmp ⟨cs, js, room⟩ s).2.2])) rfl _ rfl) ?_
  intro a225 hA225; clear hA224
  refine sx_new (cs := Jb.zero.va) (t := 38) hA225 rfl (by decide) (.inl rfl) (ev_alloc (z := .agg Jb.zero.va) (by kernel_rfl) (by kernel_rfl) _ rfl) ?_
  intro B226 w226 a226 hB226 hx226 hg226 hA226
  clear hA225
  have hs226 := hg226.size
  have hl226 := hx226.lt
  have hx149_228 := hx149.gN hg159
  have hx149_229 := hx149_228.gN hg182
  have hx149_230 := hx149_229.gN hg197
  have hx149_231 := hx149_230.gB hg198 (by omega)
  have hx149_232 := hx149_231.gB hg202 (by omega)
  have hx149_233 := hx149_232.gN hg214
  have hx149_234 := hx149_233.gN hg226
  refine sx_store hA226 rfl (.inl rfl) rfl (hA226.ev (i := 12) (v := .pointer (some ⟨B68, 0, none⟩))) (hA226.ev (i := 83) (v := .agg #[.slice Ap214 (cmp ⟨cs, js, room⟩ s).1.cs.length cp214, .slice Aj214 (cmp ⟨cs, js, room⟩ s).1.js.length cj214, .int .i64 (cmp ⟨cs, js, room⟩ s).1.room])) hx149_234 (by kernel_rfl) rfl (dk_one _ _ _ _ _ _ _) ?_
  intro w227 hx227 hg227
  have hs227 := hg227.size
  have hx226_236 := hx226.gB hg227 (by omega)
  refine sx_store hA226 rfl (.inl rfl) rfl (hA226.ev (i := 15) (v := .pointer (some ⟨B226, 0, none⟩))) (hA226.ev (i := 84) (v := .agg (cmp ⟨cs, js, room⟩ s).2.1.va)) hx226_236 (by kernel_rfl) rfl (jb_one _) ?_
  intro w235 hx235 hg235
  have hs235 := hg235.size
  refine sx_val hA226 rfl (ev_assign (hA226.ev (i := 85) (v := .int .i64 (cmp ⟨cs, js, room⟩ s).2.2)) _ rfl) ?_
  intro a237 hA237; clear hA226
  refine sx_nil ?_
  refine then_n ?_
  refine wp_seq ?_
  refine wp_seq ?_
  refine wp_region_lit ?_
  have hx198_238 := hx198.gB hg202 (by omega)
  have hx198_239 := hx198_238.gN hg214
  have hx198_240 := hx198_239.gN hg226
  have hx198_241 := hx198_240.gB hg227 (by omega)
  have hx198_242 := hx198_241.gB hg235 (by omega)
  refine sx_val (v := .agg #[.slice Ap182 (cmp ⟨cs, js, room⟩ s).1.cs.length cp182, .slice Aj182 (cmp ⟨cs, js, room⟩ s).1.js.length cj182, .int .i64 (cmp ⟨cs, js, room⟩ s).1.room]) hA237 rfl (ev_row (hA237.ev (i := 10) (v := .pointer (some ⟨B42, 0, none⟩))) hx198_242 Try.underlying25 rfl (n := 3) (by kernel_rfl) rfl _ rfl) ?_
  intro a243 hA243; clear hA237
  have hx227_244 := hx227.gB hg235 (by omega)
  refine sx_val (v := .agg #[.slice Ap214 (cmp ⟨cs, js, room⟩ s).1.cs.length cp214, .slice Aj214 (cmp ⟨cs, js, room⟩ s).1.js.length cj214, .int .i64 (cmp ⟨cs, js, room⟩ s).1.room]) hA243 rfl (ev_row (hA243.ev (i := 12) (v := .pointer (some ⟨B68, 0, none⟩))) hx227_244 Try.underlying25 rfl (n := 3) (by kernel_rfl) rfl _ rfl) ?_
  intro a245 hA245; clear hA243
  have hle247 : (cmp ⟨cs, js, room⟩ s).1.cs.length ≤ 900000 ∧ (cmp ⟨cs, js, room⟩ s).1.js.length ≤ 900000 := cmp_len (d := (⟨cs, js, room⟩ : Dk)) _ (show cs.length ≤ 800000 by omega) (show js.length ≤ 800000 by omega)
  have ho182_248 := Own.gN ho182_0 hg197
  have ho182_249 := Own.gBT ho182_248 hg198 hx126_201 (by decide)
  have ho182_250 := Own.gBT ho182_249 hg202 hx197_203 (by decide)
  have ho182_251 := Own.gN ho182_250 hg214
  have ho182_252 := Own.gN ho182_251 hg226
  have ho182_253 := Own.gBT ho182_252 hg227 hx149_234 (by decide)
  have ho182_254 := Own.gBT ho182_253 hg235 hx226_236 (by decide)
  have ho182_255 := Own.gN ho182_1 hg197
  have ho182_256 := Own.gBT ho182_255 hg198 hx126_201 (by decide)
  have ho182_257 := Own.gB ho182_256 hg202 hh182_1 (by omega)
  have ho182_258 := Own.gN ho182_257 hg214
  have ho182_259 := Own.gN ho182_258 hg226
  have ho182_260 := Own.gBT ho182_259 hg227 hx149_234 (by decide)
  have ho182_261 := Own.gB ho182_260 hg235 hh182_1 (by omega)
  have ho214_262 := Own.gN ho214_0 hg226
  have ho214_263 := Own.gBT ho214_262 hg227 hx149_234 (by decide)
  have ho214_264 := Own.gBT ho214_263 hg235 hx226_236 (by decide)
  have ho214_265 := Own.gN ho214_1 hg226
  have ho214_266 := Own.gBT ho214_265 hg227 hx149_234 (by decide)
  have ho214_267 := Own.gB ho214_266 hg235 hh214_1 (by omega)
  refine sx_call (f := 14) (args := #[.agg #[.slice Ap182 (cmp ⟨cs, js, room⟩ s).1.cs.length cp182, .slice Aj182 (cmp ⟨cs, js, room⟩ s).1.js.length cj182, .int .i64 (cmp ⟨cs, js, room⟩ s).1.room], .agg #[.slice Ap214 (cmp ⟨cs, js, room⟩ s).1.cs.length cp214, .slice Aj214 (cmp ⟨cs, js, room⟩ s).1.js.length cj214, .int .i64 (cmp ⟨cs, js, room⟩ s).1.room]]) hA245 rfl (by decide) (.inl rfl) (ev_fn rfl (mp2 (hA245.ev (i := 86) (v := .agg #[.slice Ap182 (cmp ⟨cs, js, room⟩ s).1.cs.length cp182, .slice Aj182 (cmp ⟨cs, js, room⟩ s).1.js.length cj182, .int .i64 (cmp ⟨cs, js, room⟩ s).1.room])) (hA245.ev (i := 87) (v := .agg #[.slice Ap214 (cmp ⟨cs, js, room⟩ s).1.cs.length cp214, .slice Aj214 (cmp ⟨cs, js, room⟩ s).1.js.length cj214, .int .i64 (cmp ⟨cs, js, room⟩ s).1.room]))) (by kernel_rfl) _ rfl) (SameDisk_any Ap182 cp182 Aj182 cj182 (cmp ⟨cs, js, room⟩ s).1.cs (cmp ⟨cs, js, room⟩ s).1.js (cmp ⟨cs, js, room⟩ s).1.room Ap214 cp214 Aj214 cj214 _ ⟨(OwnR.gr (e := 28) ⟨rfl, ho182_254⟩), (OwnR.gr (e := 38) ⟨rfl, ho182_261⟩)⟩ ⟨(OwnR.gr (e := 28) ⟨rfl, ho214_264⟩), (OwnR.gr (e := 38) ⟨rfl, ho214_267⟩)⟩ hle247.1 hle247.2) ?_
  intro e246 w246 hR246
  obtain ⟨rfl, hb246⟩ := hR246
  refine ⟨_, rfl, ?_⟩
  intro a246 hA246
  clear hA245
  have hg246 := g0 hb246
  have hs246 := hg246.size
  clear hb246
  refine sx_val (v := .bool false) hA246 rfl (ev_notT (hA246.ev (i := 88) (v := .bool true)) _ rfl) ?_
  intro a268 hA268; clear hA246
  refine sx_val hA268 rfl (ev_move (hA268.ev (i := 89) (v := .bool false)) _ rfl) ?_
  intro a269 hA269; clear hA268
  have hx202_270 := hx202.gN hg214
  have hx202_271 := hx202_270.gN hg226
  have hx202_272 := hx202_271.gB hg227 (by omega)
  have hx202_273 := hx202_272.gB hg235 (by omega)
  have hx202_274 := hx202_273.gN hg246
  refine sx_val (hg := (.inr ⟨4, false, 90, rfl, rfl, by kernel_rfl⟩)) (v := .agg (cmp ⟨cs, js, room⟩ s).2.1.va) hA269 rfl (ev_row (hA269.ev (i := 14) (v := .pointer (some ⟨B197, 0, none⟩))) hx202_274 Try.underlying38 rfl (n := 11) (by kernel_rfl) rfl _ rfl) ?_
  intro a275 hA275; clear hA269
  have hx235_276 := hx235.gN hg246
  refine sx_val (hg := (.inr ⟨4, false, 90, rfl, rfl, by kernel_rfl⟩)) (v := .agg (cmp ⟨cs, js, room⟩ s).2.1.va) hA275 rfl (ev_row (hA275.ev (i := 15) (v := .pointer (some ⟨B226, 0, none⟩))) hx235_276 Try.underlying38 rfl (n := 11) (by kernel_rfl) rfl _ rfl) ?_
  intro a277 hA277; clear hA275
  refine sx_val (hg := (.inr ⟨4, false, 90, rfl, rfl, by kernel_rfl⟩)) (v := .bool false) hA277 rfl (ev_neJB (a := (cmp ⟨cs, js, room⟩ s).2.1) (b := (cmp ⟨cs, js, room⟩ s).2.1) (r := false) (hA277.ev (i := 91) (v := .agg (cmp ⟨cs, js, room⟩ s).2.1.va)) (hA277.ev (i := 92) (v := .agg (cmp ⟨cs, js, room⟩ s).2.1.va)) (by simp) _ rfl) ?_
  intro a278 hA278; clear hA277
  refine sx_val hA278 rfl (ev_pickF (hA278.ev (i := 90) (v := .bool false)) (hA278.ev (i := 93) (v := .bool false)) _ rfl) ?_
  intro a279 hA279; clear hA278
  refine sx_val hA279 rfl (ev_move (hA279.ev (i := 94) (v := .bool false)) _ rfl) ?_
  intro a280 hA280; clear hA279
  refine sx_val (hg := (.inr ⟨9, false, 95, rfl, rfl, by kernel_rfl⟩)) hA280 rfl (ev_move (hA280.ev (i := 11) (v := .int .i64 (cmp ⟨cs, js, room⟩ s).2.2)) _ rfl) ?_
  intro a281 hA281; clear hA280
  refine sx_val (hg := (.inr ⟨9, false, 95, rfl, rfl, by kernel_rfl⟩)) hA281 rfl (ev_move (hA281.ev (i := 13) (v := .int .i64 (cmp ⟨cs, js, room⟩ s).2.2)) _ rfl) ?_
  intro a282 hA282; clear hA281
  refine sx_val (hg := (.inr ⟨9, false, 95, rfl, rfl, by kernel_rfl⟩)) (v := .bool false) hA282 rfl (ev_neqB (k := .i64) (m := (cmp ⟨cs, js, room⟩ s).2.2) (n := (cmp ⟨cs, js, room⟩ s).2.2) (hA282.ev (i := 96)) (hA282.ev (i := 97)) (by simp) _ rfl) ?_
  intro a283 hA283; clear hA282
  refine sx_val hA283 rfl (ev_pickF (hA283.ev (i := 95) (v := .bool false)) (hA283.ev (i := 98) (v := .bool false)) _ rfl) ?_
  intro a284 hA284; clear hA283
  refine sx_nil ?_
  refine then_n ?_
  refine wp_cond_false (hA284.ev (i := 99) (v := .bool false)) ?_
  refine wp_skip ?_
  refine then_n ?_
  refine wp_seq ?_
  refine wp_region_lit ?_
  have hx25_285 := hx25_179.gN hg182
  have hx25_286 := hx25_285.gN hg197
  have hx25_287 := hx25_286.gB hg198 (by omega)
  have hx25_288 := hx25_287.gB hg202 (by omega)
  have hx25_289 := hx25_288.gN hg214
  have hx25_290 := hx25_289.gN hg226
  have hx25_291 := hx25_290.gB hg227 (by omega)
  have hx25_292 := hx25_291.gB hg235 (by omega)
  have hx25_293 := hx25_292.gN hg246
  refine sx_val (v := .agg #[.slice Ap20 cs.length cp20, .slice Aj20 js.length cj20, .int .i64 room]) hA284 rfl (ev_row (hA284.ev (i := 9) (v := .pointer (some ⟨B24, 0, none⟩))) hx25_293 Try.underlying25 rfl (n := 3) (by kernel_rfl) rfl _ rfl) ?_
  intro a294 hA294; clear hA284
  have ho20_296 := Own.gN ho20_187 hg182
  have ho20_297 := Own.gN ho20_296 hg197
  have ho20_298 := Own.gBT ho20_297 hg198 hx126_201 (by decide)
  have ho20_299 := Own.gBT ho20_298 hg202 hx197_203 (by decide)
  have ho20_300 := Own.gN ho20_299 hg214
  have ho20_301 := Own.gN ho20_300 hg226
  have ho20_302 := Own.gBT ho20_301 hg227 hx149_234 (by decide)
  have ho20_303 := Own.gBT ho20_302 hg235 hx226_236 (by decide)
  have ho20_304 := Own.gN ho20_303 hg246
  have ho20_305 := Own.gN ho20_192 hg182
  have ho20_306 := Own.gN ho20_305 hg197
  have ho20_307 := Own.gBT ho20_306 hg198 hx126_201 (by decide)
  have ho20_308 := Own.gB ho20_307 hg202 hh20_1 (by omega)
  have ho20_309 := Own.gN ho20_308 hg214
  have ho20_310 := Own.gN ho20_309 hg226
  have ho20_311 := Own.gBT ho20_310 hg227 hx149_234 (by decide)
  have ho20_312 := Own.gB ho20_311 hg235 hh20_1 (by omega)
  have ho20_313 := Own.gN ho20_312 hg246
  refine sx_call (f := 19) (args := #[.agg #[.slice Ap20 cs.length cp20, .slice Aj20 js.length cj20, .int .i64 room]]) hA294 rfl (by decide) (.inl rfl) (ev_fn rfl (mp1 (hA294.ev (i := 101) (v := .agg #[.slice Ap20 cs.length cp20, .slice Aj20 js.length cj20, .int .i64 room]))) (by kernel_rfl) _ rfl) (All_any Ap20 cp20 Aj20 cj20 cs js room _ ⟨(OwnR.gr (e := 28) ⟨rfl, ho20_304⟩), (OwnR.gr (e := 38) ⟨rfl, ho20_313⟩)⟩ (by omega) (by omega)) ?_
  intro e295 w295 hR295
  obtain ⟨Ap295, cp295, Aj295, cj295, Al295, cl295, rfl, hC295, hJ295, hK295, hb295⟩ := hR295
  refine ⟨_, rfl, ?_⟩
  intro a295 hA295
  clear hA294
  have hg295 := g0 hb295
  have hs295 := hg295.size
  clear hb295
  have ho295_0 : Own w295 (w246.heap.size) 28 8 (.slice Ap295 (all ⟨cs, js, room⟩).1.cs.length cp295) (all ⟨cs, js, room⟩).1.cs.length (flat Ct.va (all ⟨cs, js, room⟩).1.cs) := hC295.2
  have hh295_0 := Own.hi ho295_0
  have ho295_1 : Own w295 (w246.heap.size) 38 11 (.slice Aj295 (all ⟨cs, js, room⟩).1.js.length cj295) (all ⟨cs, js, room⟩).1.js.length (flat Jb.va (all ⟨cs, js, room⟩).1.js) := hJ295.2
  have hh295_1 := Own.hi ho295_1
  have ho295_2 : Own w295 (w246.heap.size) 38 11 (.slice Al295 (all ⟨cs, js, room⟩).2.1.length cl295) (all ⟨cs, js, room⟩).2.1.length (flat Jb.va (all ⟨cs, js, room⟩).2.1) := hK295.2
  have hh295_2 := Own.hi ho295_2
  refine sx_val hA295 rfl (ev_move (hA295.ev (i := 102) (v := .tuple #[.agg #[.slice Ap295 (all ⟨cs, js, room⟩).1.cs.length cp295, .slice Aj295 (all ⟨cs, js, room⟩).1.js.length cj295, .int .i64 (all ⟨cs, js, room⟩).1.room], .slice Al295 (all ⟨cs, js, room⟩).2.1.length cl295, .int .i64 (all ⟨cs, js, room⟩).2.2])) _ rfl) ?_
  intro a314 hA314; clear hA295
  refine sx_val (v := .agg #[.slice Ap295 (all ⟨cs, js, room⟩).1.cs.length cp295, .slice Aj295 (all ⟨cs, js, room⟩).1.js.length cj295, .int .i64 (all ⟨cs, js, room⟩).1.room]) hA314 rfl (ev_ext (hA314.ev (i := 100) (v := .tuple #[.agg #[.slice Ap295 (all ⟨cs, js, room⟩).1.cs.length cp295, .slice Aj295 (all ⟨cs, js, room⟩).1.js.length cj295, .int .i64 (all ⟨cs, js, room⟩).1.room], .slice Al295 (all ⟨cs, js, room⟩).2.1.length cl295, .int .i64 (all ⟨cs, js, room⟩).2.2])) rfl _ rfl) ?_
  intro a315 hA315; clear hA314
  refine sx_val (v := .slice Al295 (all ⟨cs, js, room⟩).2.1.length cl295) hA315 rfl (ev_ext (hA315.ev (i := 100) (v := .tuple #[.agg #[.slice Ap295 (all ⟨cs, js, room⟩).1.cs.length cp295, .slice Aj295 (all ⟨cs, js, room⟩).1.js.length cj295, .int .i64 (all ⟨cs, js, room⟩).1.room], .slice Al295 (all ⟨cs, js, room⟩).2.1.length cl295, .int .i64 (all ⟨cs, js, room⟩).2.2])) rfl _ rfl) ?_
  intro a316 hA316; clear hA315
  refine sx_val (v := .int .i64 (all ⟨cs, js, room⟩).2.2) hA316 rfl (ev_ext (hA316.ev (i := 100) (v := .tuple #[.agg #[.slice Ap295 (all ⟨cs, js, room⟩).1.cs.length cp295, .slice Aj295 (all ⟨cs, js, room⟩).1.js.length cj295, .int .i64 (all ⟨cs, js, room⟩).1.room], .slice Al295 (all ⟨cs, js, room⟩).2.1.length cl295, .int .i64 (all ⟨cs, js, room⟩).2.2])) rfl _ rfl) ?_
  intro a317 hA317; clear hA316
  have hx198_319 := hx198_242.gN hg246
  have hx198_320 := hx198_319.gN hg295
  refine sx_store hA317 rfl (.inl rfl) rfl (hA317.ev (i := 10) (v := .pointer (some ⟨B42, 0, none⟩))) (hA317.ev (i := 103) (v := .agg #[.slice Ap295 (all ⟨cs, js, room⟩).1.cs.length cp295, .slice Aj295 (all ⟨cs, js, room⟩).1.js.length cj295, .int .i64 (all ⟨cs, js, room⟩).1.room])) hx198_320 (by kernel_rfl) rfl (dk_one _ _ _ _ _ _ _) ?_
  intro w318 hx318 hg318
  have hs318 := hg318.size
  refine sx_val hA317 rfl (ev_assign (hA317.ev (i := 104) (v := .slice Al295 (all ⟨cs, js, room⟩).2.1.length cl295)) _ rfl) ?_
  intro a321 hA321; clear hA317
  refine sx_val hA321 rfl (ev_assign (hA321.ev (i := 105) (v := .int .i64 (all ⟨cs, js, room⟩).2.2)) _ rfl) ?_
  intro a322 hA322; clear hA321
  refine sx_nil ?_
  refine then_n ?_
  refine wp_seq ?_
  refine wp_region_lit ?_
  have hx1_323 := hx1_211.gN hg214
  have hx1_324 := hx1_323.gN hg226
  have hx1_325 := hx1_324.gB hg227 (by omega)
  have hx1_326 := hx1_325.gB hg235 (by omega)
  have hx1_327 := hx1_326.gN hg246
  have hx1_328 := hx1_327.gN hg295
  have hx1_329 := hx1_328.gB hg318 (by omega)
  refine sx_val (v := .agg #[.slice A1 cs.length c1, .slice A2 js.length c2, .int .i64 room]) hA322 rfl (ev_row (hA322.ev (i := 4) (v := .pointer (some ⟨B1, 0, none⟩))) hx1_329 Try.underlying25 rfl (n := 3) (by kernel_rfl) rfl _ rfl) ?_
  intro a330 hA330; clear hA322
  have hbel0_332 := Below.gN hbel0_221 hg214 hbel0_221.size
  have hbel0_333 := Below.gN hbel0_332 hg226 hbel0_332.size
  have hbel0_334 := Below.gB hbel0_333 hg227 hbel0_333.size (by omega)
  have hbel0_335 := Below.gB hbel0_334 hg235 hbel0_334.size (by omega)
  have hbel0_336 := Below.gN hbel0_335 hg246 hbel0_335.size
  have hbel0_337 := Below.gN hbel0_336 hg295 hbel0_336.size
  have hbel0_338 := Below.gB hbel0_337 hg318 hbel0_337.size (by omega)
  refine sx_call (f := 20) (args := #[.agg #[.slice A1 cs.length c1, .slice A2 js.length c2, .int .i64 room]]) hA330 rfl (by decide) (.inl rfl) (ev_fn rfl (mp1 (hA330.ev (i := 107) (v := .agg #[.slice A1 cs.length c1, .slice A2 js.length c2, .int .i64 room]))) (by kernel_rfl) _ rfl) (sAll_any A1 c1 A2 c2 cs js room _ ⟨(hd.s.below hbel0_338), (hd.j.below hbel0_338)⟩ (by omega) (by omega)) ?_
  intro e331 w331 hR331
  obtain ⟨Ap331, cp331, Aj331, cj331, Al331, cl331, rfl, hC331, hJ331, hK331, hb331⟩ := hR331
  refine ⟨_, rfl, ?_⟩
  intro a331 hA331
  clear hA330
  have hg331 := g0 hb331
  have hs331 := hg331.size
  clear hb331
  have ho331_0 : Own w331 (w318.heap.size) 28 8 (.slice Ap331 (all ⟨cs, js, room⟩).1.cs.length cp331) (all ⟨cs, js, room⟩).1.cs.length (flat Ct.va (all ⟨cs, js, room⟩).1.cs) := hC331.2
  have hh331_0 := Own.hi ho331_0
  have ho331_1 : Own w331 (w318.heap.size) 38 11 (.slice Aj331 (all ⟨cs, js, room⟩).1.js.length cj331) (all ⟨cs, js, room⟩).1.js.length (flat Jb.va (all ⟨cs, js, room⟩).1.js) := hJ331.2
  have hh331_1 := Own.hi ho331_1
  have ho331_2 : Own w331 (w318.heap.size) 38 11 (.slice Al331 (all ⟨cs, js, room⟩).2.1.length cl331) (all ⟨cs, js, room⟩).2.1.length (flat Jb.va (all ⟨cs, js, room⟩).2.1) := hK331.2
  have hh331_2 := Own.hi ho331_2
  refine sx_val hA331 rfl (ev_move (hA331.ev (i := 108) (v := .tuple #[.agg #[.slice Ap331 (all ⟨cs, js, room⟩).1.cs.length cp331, .slice Aj331 (all ⟨cs, js, room⟩).1.js.length cj331, .int .i64 (all ⟨cs, js, room⟩).1.room], .slice Al331 (all ⟨cs, js, room⟩).2.1.length cl331, .int .i64 (all ⟨cs, js, room⟩).2.2])) _ rfl) ?_
  intro a339 hA339; clear hA331
  refine sx_val (v := .agg #[.slice Ap331 (all ⟨cs, js, room⟩).1.cs.length cp331, .slice Aj331 (all ⟨cs, js, room⟩).1.js.length cj331, .int .i64 (all ⟨cs, js, room⟩).1.room]) hA339 rfl (ev_ext (hA339.ev (i := 106) (v := .tuple #[.agg #[.slice Ap331 (all ⟨cs, js, room⟩).1.cs.length cp331, .slice Aj331 (all ⟨cs, js, room⟩).1.js.length cj331, .int .i64 (all ⟨cs, js, room⟩).1.room], .slice Al331 (all ⟨cs, js, room⟩).2.1.length cl331, .int .i64 (all ⟨cs, js, room⟩).2.2])) rfl _ rfl) ?_
  intro a340 hA340; clear hA339
  refine sx_val (v := .slice Al331 (all ⟨cs, js, room⟩).2.1.length cl331) hA340 rfl (ev_ext (hA340.ev (i := 106) (v := .tuple #[.agg #[.slice Ap331 (all ⟨cs, js, room⟩).1.cs.length cp331, .slice Aj331 (all ⟨cs, js, room⟩).1.js.length cj331, .int .i64 (all ⟨cs, js, room⟩).1.room], .slice Al331 (all ⟨cs, js, room⟩).2.1.length cl331, .int .i64 (all ⟨cs, js, room⟩).2.2])) rfl _ rfl) ?_
  intro a341 hA341; clear hA340
  refine sx_val (v := .int .i64 (all ⟨cs, js, room⟩).2.2) hA341 rfl (ev_ext (hA341.ev (i := 106) (v := .tuple #[.agg #[.slice Ap331 (all ⟨cs, js, room⟩).1.cs.length cp331, .slice Aj331 (all ⟨cs, js, room⟩).1.js.length cj331, .int .i64 (all ⟨cs, js, room⟩).1.room], .slice Al331 (all ⟨cs, js, room⟩).2.1.length cl331, .int .i64 (all ⟨cs, js, room⟩).2.2])) rfl _ rfl) ?_
  intro a342 hA342; clear hA341
  have hx227_344 := hx227_244.gN hg246
  have hx227_345 := hx227_344.gN hg295
  have hx227_346 := hx227_345.gB hg318 (by omega)
  have hx227_347 := hx227_346.gN hg331
  refine sx_store hA342 rfl (.inl rfl) rfl (hA342.ev (i := 12) (v := .pointer (some ⟨B68, 0, none⟩))) (hA342.ev (i := 109) (v := .agg #[.slice Ap331 (all ⟨cs, js, room⟩).1.cs.length cp331, .slice Aj331 (all ⟨cs, js, room⟩).1.js.length cj331, .int .i64 (all ⟨cs, js, room⟩).1.room])) hx227_347 (by kernel_rfl) rfl (dk_one _ _ _ _ _ _ _) ?_
  intro w343 hx343 hg343
  have hs343 := hg343.size
  refine sx_val hA342 rfl (ev_assign (hA342.ev (i := 110) (v := .slice Al331 (all ⟨cs, js, room⟩).2.1.length cl331)) _ rfl) ?_
  intro a348 hA348; clear hA342
  refine sx_val hA348 rfl (ev_assign (hA348.ev (i := 111) (v := .int .i64 (all ⟨cs, js, room⟩).2.2)) _ rfl) ?_
  intro a349 hA349; clear hA348
  refine sx_nil ?_
  refine then_n ?_
  refine wp_seq ?_
  refine wp_region_lit ?_
  have hx318_350 := hx318.gN hg331
  have hx318_351 := hx318_350.gB hg343 (by omega)
  refine sx_val (v := .agg #[.slice Ap295 (all ⟨cs, js, room⟩).1.cs.length cp295, .slice Aj295 (all ⟨cs, js, room⟩).1.js.length cj295, .int .i64 (all ⟨cs, js, room⟩).1.room]) hA349 rfl (ev_row (hA349.ev (i := 10) (v := .pointer (some ⟨B42, 0, none⟩))) hx318_351 Try.underlying25 rfl (n := 3) (by kernel_rfl) rfl _ rfl) ?_
  intro a352 hA352; clear hA349
  refine sx_val (v := .agg #[.slice Ap331 (all ⟨cs, js, room⟩).1.cs.length cp331, .slice Aj331 (all ⟨cs, js, room⟩).1.js.length cj331, .int .i64 (all ⟨cs, js, room⟩).1.room]) hA352 rfl (ev_row (hA352.ev (i := 12) (v := .pointer (some ⟨B68, 0, none⟩))) hx343 Try.underlying25 rfl (n := 3) (by kernel_rfl) rfl _ rfl) ?_
  intro a353 hA353; clear hA352
  have hle355 : (all ⟨cs, js, room⟩).1.cs.length ≤ 900000 ∧ (all ⟨cs, js, room⟩).1.js.length ≤ 900000 ∧ (all ⟨cs, js, room⟩).2.1.length ≤ 900000 := all_len (d := (⟨cs, js, room⟩ : Dk)) (show cs.length ≤ 400000 by omega) (show js.length ≤ 400000 by omega)
  have ho295_356 := Own.gBT ho295_0 hg318 hx198_320 (by decide)
  have ho295_357 := Own.gN ho295_356 hg331
  have ho295_358 := Own.gBT ho295_357 hg343 hx227_347 (by decide)
  have ho295_359 := Own.gBT ho295_1 hg318 hx198_320 (by decide)
  have ho295_360 := Own.gN ho295_359 hg331
  have ho295_361 := Own.gBT ho295_360 hg343 hx227_347 (by decide)
  have ho331_362 := Own.gBT ho331_0 hg343 hx227_347 (by decide)
  have ho331_363 := Own.gBT ho331_1 hg343 hx227_347 (by decide)
  refine sx_call (f := 14) (args := #[.agg #[.slice Ap295 (all ⟨cs, js, room⟩).1.cs.length cp295, .slice Aj295 (all ⟨cs, js, room⟩).1.js.length cj295, .int .i64 (all ⟨cs, js, room⟩).1.room], .agg #[.slice Ap331 (all ⟨cs, js, room⟩).1.cs.length cp331, .slice Aj331 (all ⟨cs, js, room⟩).1.js.length cj331, .int .i64 (all ⟨cs, js, room⟩).1.room]]) hA353 rfl (by decide) (.inl rfl) (ev_fn rfl (mp2 (hA353.ev (i := 112) (v := .agg #[.slice Ap295 (all ⟨cs, js, room⟩).1.cs.length cp295, .slice Aj295 (all ⟨cs, js, room⟩).1.js.length cj295, .int .i64 (all ⟨cs, js, room⟩).1.room])) (hA353.ev (i := 113) (v := .agg #[.slice Ap331 (all ⟨cs, js, room⟩).1.cs.length cp331, .slice Aj331 (all ⟨cs, js, room⟩).1.js.length cj331, .int .i64 (all ⟨cs, js, room⟩).1.room]))) (by kernel_rfl) _ rfl) (SameDisk_any Ap295 cp295 Aj295 cj295 (all ⟨cs, js, room⟩).1.cs (all ⟨cs, js, room⟩).1.js (all ⟨cs, js, room⟩).1.room Ap331 cp331 Aj331 cj331 _ ⟨(OwnR.gr (e := 28) ⟨rfl, ho295_358⟩), (OwnR.gr (e := 38) ⟨rfl, ho295_361⟩)⟩ ⟨(OwnR.gr (e := 28) ⟨rfl, ho331_362⟩), (OwnR.gr (e := 38) ⟨rfl, ho331_363⟩)⟩ hle355.1 hle355.2.1) ?_
  intro e354 w354 hR354
  obtain ⟨rfl, hb354⟩ := hR354
  refine ⟨_, rfl, ?_⟩
  intro a354 hA354
  clear hA353
  have hg354 := g0 hb354
  have hs354 := hg354.size
  clear hb354
  refine sx_val hA354 rfl (ev_move (hA354.ev (i := 114) (v := .bool true)) _ rfl) ?_
  intro a364 hA364; clear hA354
  refine sx_val (hg := (.inr ⟨3, true, 115, rfl, rfl, by kernel_rfl⟩)) hA364 rfl (ev_move (hA364.ev (i := 16) (v := .slice Al295 (all ⟨cs, js, room⟩).2.1.length cl295)) _ rfl) ?_
  intro a365 hA365; clear hA364
  refine sx_val (hg := (.inr ⟨3, true, 115, rfl, rfl, by kernel_rfl⟩)) hA365 rfl (ev_move (hA365.ev (i := 17) (v := .slice Al331 (all ⟨cs, js, room⟩).2.1.length cl331)) _ rfl) ?_
  intro a366 hA366; clear hA365
  have ho295_368 := Own.gBT ho295_2 hg318 hx198_320 (by decide)
  have ho295_369 := Own.gN ho295_368 hg331
  have ho295_370 := Own.gBT ho295_369 hg343 hx227_347 (by decide)
  have ho295_371 := Own.gN ho295_370 hg354
  have ho331_372 := Own.gBT ho331_2 hg343 hx227_347 (by decide)
  have ho331_373 := Own.gN ho331_372 hg354
  refine sx_call (f := 21) (args := #[.slice Al295 (all ⟨cs, js, room⟩).2.1.length cl295, .slice Al331 (all ⟨cs, js, room⟩).2.1.length cl331]) hA366 rfl (by decide) (.inr ⟨3, true, 115, rfl, rfl, by kernel_rfl⟩) (ev_fn rfl (mp2 (hA366.ev (i := 116) (v := .slice Al295 (all ⟨cs, js, room⟩).2.1.length cl295)) (hA366.ev (i := 117) (v := .slice Al331 (all ⟨cs, js, room⟩).2.1.length cl331))) (by kernel_rfl) _ rfl) (same_any Al295 cl295 Al331 cl331 (all ⟨cs, js, room⟩).2.1 _ (OwnR.gr (e := 38) ⟨rfl, ho295_371⟩) (OwnR.gr (e := 38) ⟨rfl, ho331_373⟩) hle355.2.2) ?_
  intro e367 w367 hR367
  obtain ⟨rfl, hb367⟩ := hR367
  refine ⟨_, rfl, ?_⟩
  intro a367 hA367
  clear hA366
  have hg367 := g0 hb367
  have hs367 := hg367.size
  clear hb367
  refine sx_val hA367 rfl (ev_pickT (hA367.ev (i := 115) (v := .bool true)) (hA367.ev (i := 118) (v := .bool true)) _ rfl) ?_
  intro a374 hA374; clear hA367
  refine sx_val hA374 rfl (ev_move (hA374.ev (i := 119) (v := .bool true)) _ rfl) ?_
  intro a375 hA375; clear hA374
  refine sx_val (hg := (.inr ⟨8, true, 120, rfl, rfl, by kernel_rfl⟩)) hA375 rfl (ev_move (hA375.ev (i := 11) (v := .int .i64 (all ⟨cs, js, room⟩).2.2)) _ rfl) ?_
  intro a376 hA376; clear hA375
  refine sx_val (hg := (.inr ⟨8, true, 120, rfl, rfl, by kernel_rfl⟩)) hA376 rfl (ev_move (hA376.ev (i := 13) (v := .int .i64 (all ⟨cs, js, room⟩).2.2)) _ rfl) ?_
  intro a377 hA377; clear hA376
  refine sx_val (hg := (.inr ⟨8, true, 120, rfl, rfl, by kernel_rfl⟩)) (v := .bool true) hA377 rfl (ev_eqlB (k := .i64) (m := (all ⟨cs, js, room⟩).2.2) (n := (all ⟨cs, js, room⟩).2.2) (hA377.ev (i := 121)) (hA377.ev (i := 122)) (by simp) _ rfl) ?_
  intro a378 hA378; clear hA377
  refine sx_val hA378 rfl (ev_pickT (hA378.ev (i := 120) (v := .bool true)) (hA378.ev (i := 123) (v := .bool true)) _ rfl) ?_
  intro a379 hA379; clear hA378
  refine sx_val hA379 rfl (ev_move (hA379.ev (i := 124) (v := .bool true)) _ rfl) ?_
  intro a380 hA380; clear hA379
  have hx25_381 := hx25_293.gN hg295
  have hx25_382 := hx25_381.gB hg318 (by omega)
  have hx25_383 := hx25_382.gN hg331
  have hx25_384 := hx25_383.gB hg343 (by omega)
  have hx25_385 := hx25_384.gN hg354
  have hx25_386 := hx25_385.gN hg367
  refine sx_val (hg := (.inr ⟨13, true, 125, rfl, rfl, by kernel_rfl⟩)) (v := .agg #[.slice Ap20 cs.length cp20, .slice Aj20 js.length cj20, .int .i64 room]) hA380 rfl (ev_row (hA380.ev (i := 9) (v := .pointer (some ⟨B24, 0, none⟩))) hx25_386 Try.underlying25 rfl (n := 3) (by kernel_rfl) rfl _ rfl) ?_
  intro a387 hA387; clear hA380
  have hx1_388 := hx1_329.gN hg331
  have hx1_389 := hx1_388.gB hg343 (by omega)
  have hx1_390 := hx1_389.gN hg354
  have hx1_391 := hx1_390.gN hg367
  refine sx_val (hg := (.inr ⟨13, true, 125, rfl, rfl, by kernel_rfl⟩)) (v := .agg #[.slice A1 cs.length c1, .slice A2 js.length c2, .int .i64 room]) hA387 rfl (ev_row (hA387.ev (i := 4) (v := .pointer (some ⟨B1, 0, none⟩))) hx1_391 Try.underlying25 rfl (n := 3) (by kernel_rfl) rfl _ rfl) ?_
  intro a392 hA392; clear hA387
  have ho20_394 := Own.gN ho20_304 hg295
  have ho20_395 := Own.gBT ho20_394 hg318 hx198_320 (by decide)
  have ho20_396 := Own.gN ho20_395 hg331
  have ho20_397 := Own.gBT ho20_396 hg343 hx227_347 (by decide)
  have ho20_398 := Own.gN ho20_397 hg354
  have ho20_399 := Own.gN ho20_398 hg367
  have ho20_400 := Own.gN ho20_313 hg295
  have ho20_401 := Own.gBT ho20_400 hg318 hx198_320 (by decide)
  have ho20_402 := Own.gN ho20_401 hg331
  have ho20_403 := Own.gBT ho20_402 hg343 hx227_347 (by decide)
  have ho20_404 := Own.gN ho20_403 hg354
  have ho20_405 := Own.gN ho20_404 hg367
  have hbel0_406 := Below.gN hbel0_338 hg331 hbel0_338.size
  have hbel0_407 := Below.gB hbel0_406 hg343 hbel0_406.size (by omega)
  have hbel0_408 := Below.gN hbel0_407 hg354 hbel0_407.size
  have hbel0_409 := Below.gN hbel0_408 hg367 hbel0_408.size
  refine sx_call (f := 14) (args := #[.agg #[.slice Ap20 cs.length cp20, .slice Aj20 js.length cj20, .int .i64 room], .agg #[.slice A1 cs.length c1, .slice A2 js.length c2, .int .i64 room]]) hA392 rfl (by decide) (.inr ⟨13, true, 125, rfl, rfl, by kernel_rfl⟩) (ev_fn rfl (mp2 (hA392.ev (i := 126) (v := .agg #[.slice Ap20 cs.length cp20, .slice Aj20 js.length cj20, .int .i64 room])) (hA392.ev (i := 127) (v := .agg #[.slice A1 cs.length c1, .slice A2 js.length c2, .int .i64 room]))) (by kernel_rfl) _ rfl) (SameDisk_any Ap20 cp20 Aj20 cj20 cs js room A1 c1 A2 c2 _ ⟨(OwnR.gr (e := 28) ⟨rfl, ho20_399⟩), (OwnR.gr (e := 38) ⟨rfl, ho20_405⟩)⟩ ⟨(hd.s.below hbel0_409), (hd.j.below hbel0_409)⟩ (by omega) (by omega)) ?_
  intro e393 w393 hR393
  obtain ⟨rfl, hb393⟩ := hR393
  refine ⟨_, rfl, ?_⟩
  intro a393 hA393
  clear hA392
  have hg393 := g0 hb393
  have hs393 := hg393.size
  clear hb393
  refine sx_val hA393 rfl (ev_pickT (hA393.ev (i := 125) (v := .bool true)) (hA393.ev (i := 128) (v := .bool true)) _ rfl) ?_
  intro a410 hA410; clear hA393
  refine sx_val hA410 rfl (ev_move (hA410.ev (i := 129) (v := .bool true)) _ rfl) ?_
  intro a411 hA411; clear hA410
  refine sx_call (f := 10) (args := #[]) hA411 rfl (by decide) (.inr ⟨18, true, 130, rfl, rfl, by kernel_rfl⟩) (ev_fn rfl (mp0 ) (by kernel_rfl) _ rfl) (awake_any _) ?_
  intro e412 w412 hR412
  obtain ⟨rfl, hb412⟩ := hR412
  refine ⟨_, rfl, ?_⟩
  intro a412 hA412
  clear hA411
  have hg412 := g0 hb412
  have hs412 := hg412.size
  clear hb412
  refine sx_val hA412 rfl (ev_pickT (hA412.ev (i := 130) (v := .bool true)) (hA412.ev (i := 131) (v := .bool true)) _ rfl) ?_
  intro a413 hA413; clear hA412
  refine sx_val hA413 rfl (ev_assign (hA413.ev (i := 132) (v := .bool true)) _ rfl) ?_
  intro a414 hA414; clear hA413
  refine sx_nil ?_
  refine then_n ?_
  refine wp_ret ?_
  refine bodyPost_ret (rs_t (v := .bool true) Try.results3 hA414 (by kernel_rfl) ) hA414.2.1 ?_
  have hbel0_415 := Below.gN hbel0_409 hg393 hbel0_409.size
  have hbel0_416 := Below.gN hbel0_415 hg412 hbel0_415.size
  exact ⟨rfl, hbel0_416⟩
end Go.Proofs.Ytbkdimildnahaaa
