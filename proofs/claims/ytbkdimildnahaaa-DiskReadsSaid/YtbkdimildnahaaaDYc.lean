/- The law: DiskReads. -/
import Derived.Test.YtbkdimildnahaaaDYb
import Derived.Test.YtbkdimildnahaaaDO
namespace Go.Proofs.Ytbkdimildnahaaa
open Go.RowKit
set_option linter.unusedVariables false
set_option maxRecDepth 100000

set_option maxHeartbeats 16000000 in
theorem DiskReads_walk (A : Option Addr) (c : Nat) (xs : List Int) (s n : Int) (w : World) (hx : GR 1 iva w A c xs) : Calls Try.prog 6 #[.slice A xs.length c, .int .i64 s, .int .i64 n] w (RetB w (.returned (.bool true))) := by
  have hxl := hx.len
  have hbel0 := below0 w
  refine sx_enter (N := 174) [(0, .slice A xs.length c), (1, .int .i64 s), (2, .int .i64 n)] Try.func6 rfl Try.ntmps6 (by simp) (fun a z d s => ((((Ag.nil z d).cons (s 2 _ rfl)).cons (s 1 _ rfl)).cons (s 0 _ rfl))) ?_
  intro a0 hA0
  refine wp_seq ?_
  refine wp_region_lit ?_
  refine sx_val hA0 rfl (ev_assign (ec _ (.bool false)) _ rfl) ?_
  intro a1 hA1; clear hA0
  refine sx_nil ?_
  refine then_n ?_
  refine wp_seq ?_
  refine wp_region_lit ?_
  refine sx_call (f := 5) (args := #[]) hA1 rfl (by decide) (.inl rfl) (ev_fn rfl (mp0 ) (by kernel_rfl) _ rfl) (Known_any _) ?_
  intro e2 w2 hR2
  obtain ⟨rfl, hb2⟩ := hR2
  refine ⟨_, rfl, ?_⟩
  intro a2 hA2
  clear hA1
  have hg2 := g0 hb2
  have hs2 := hg2.size
  clear hb2
  refine sx_val hA2 rfl (ev_assign (hA2.ev (i := 29) (v := .bool true)) _ rfl) ?_
  intro a3 hA3; clear hA2
  refine sx_nil ?_
  refine then_n ?_
  refine wp_seq ?_
  refine wp_region_lit ?_
  refine sx_val hA3 rfl (ev_move (hA3.ev (i := 0) (v := .slice A xs.length c)) _ rfl) ?_
  intro a4 hA4; clear hA3
  have hbel0_6 := Below.gN hbel0 hg2 hbel0.size
  refine sx_call (f := 34) (args := #[.slice A xs.length c]) hA4 rfl (by decide) (.inl rfl) (ev_fn rfl (mp1 (hA4.ev (i := 31) (v := .slice A xs.length c))) (by kernel_rfl) _ rfl) (made_any A c xs _ (hx.below hbel0_6)) ?_
  intro e5 w5 hR5
  obtain ⟨d, Ap5, cp5, Aj5, cj5, rfl, h86, hC5, hJ5, hb5⟩ := hR5
  refine ⟨_, rfl, ?_⟩
  intro a5 hA5
  clear hA4
  have hg5 := g0 hb5
  have hs5 := hg5.size
  clear hb5
  have ho5_0 : Own w5 (w2.heap.size) 28 8 (.slice Ap5 d.cs.length cp5) d.cs.length (flat Ct.va d.cs) := hC5
  have hh5_0 := Own.hi ho5_0
  have ho5_1 : Own w5 (w2.heap.size) 38 11 (.slice Aj5 d.js.length cj5) d.js.length (flat Jb.va d.js) := hJ5
  have hh5_1 := Own.hi ho5_1
  have hn8 := h86.n
  have hr6 := h86.r
  have hj6 := h86.jl
  refine sx_val hA5 rfl (ev_move (hA5.ev (i := 32) (v := .tuple #[.agg #[.slice Ap5 d.cs.length cp5, .slice Aj5 d.js.length cj5, .int .i64 d.room], .bool true])) _ rfl) ?_
  intro a7 hA7; clear hA5
  refine sx_val (v := .agg #[.slice Ap5 d.cs.length cp5, .slice Aj5 d.js.length cj5, .int .i64 d.room]) hA7 rfl (ev_ext (hA7.ev (i := 30) (v := .tuple #[.agg #[.slice Ap5 d.cs.length cp5, .slice Aj5 d.js.length cj5, .int .i64 d.room], .bool true])) rfl _ rfl) ?_
  intro a8 hA8; clear hA7
  refine sx_val (v := .bool true) hA8 rfl (ev_ext (hA8.ev (i := 30) (v := .tuple #[.agg #[.slice Ap5 d.cs.length cp5, .slice Aj5 d.js.length cj5, .int .i64 d.room], .bool true])) rfl _ rfl) ?_
  intro a9 hA9; clear hA8
  refine sx_new (cs := #[.slice none 0 0, .slice none 0 0, .int .i64 0]) (t := 25) hA9 rfl (by decide) (.inl rfl) (ev_alloc (z := .agg (#[.slice none 0 0, .slice none 0 0, .int .i64 0])) (by kernel_rfl) (by kernel_rfl) _ rfl) ?_
  intro B10 w10 a10 hB10 hx10 hg10 hA10
  clear hA9
  have hs10 := hg10.size
  have hl10 := hx10.lt
  refine sx_store hA10 rfl (.inl rfl) rfl (hA10.ev (i := 8) (v := .pointer (some ⟨B10, 0, none⟩))) (hA10.ev (i := 33) (v := .agg #[.slice Ap5 d.cs.length cp5, .slice Aj5 d.js.length cj5, .int .i64 d.room])) hx10 (by kernel_rfl) rfl (dk_one _ _ _ _ _ _ _) ?_
  intro w11 hx11 hg11
  have hs11 := hg11.size
  refine sx_val hA10 rfl (ev_assign (hA10.ev (i := 34) (v := .bool true)) _ rfl) ?_
  intro a12 hA12; clear hA10
  refine sx_nil ?_
  refine then_n ?_
  refine wp_seq ?_
  refine wp_region_lit ?_
  refine sx_val (v := .agg #[.slice Ap5 d.cs.length cp5, .slice Aj5 d.js.length cj5, .int .i64 d.room]) hA12 rfl (ev_row (hA12.ev (i := 8) (v := .pointer (some ⟨B10, 0, none⟩))) hx11 Try.underlying25 rfl (n := 3) (by kernel_rfl) rfl _ rfl) ?_
  intro a13 hA13; clear hA12
  have ho5_15 := Own.gN ho5_0 hg10
  have ho5_16 := Own.gBT ho5_15 hg11 hx10 (by decide)
  have ho5_17 := Own.gN ho5_1 hg10
  have ho5_18 := Own.gBT ho5_17 hg11 hx10 (by decide)
  refine sx_call (f := 28) (args := #[.agg #[.slice Ap5 d.cs.length cp5, .slice Aj5 d.js.length cj5, .int .i64 d.room]]) hA13 rfl (by decide) (.inl rfl) (ev_fn rfl (mp1 (hA13.ev (i := 36) (v := .agg #[.slice Ap5 d.cs.length cp5, .slice Aj5 d.js.length cj5, .int .i64 d.room]))) (by kernel_rfl) _ rfl) (Left_any Ap5 cp5 Aj5 cj5 d.cs d.js d.room _ ⟨(OwnR.gr (e := 28) ⟨rfl, ho5_16⟩), (OwnR.gr (e := 38) ⟨rfl, ho5_18⟩)⟩ (by omega) (by omega)) ?_
  intro e14 w14 hR14
  obtain ⟨rfl, hb14⟩ := hR14
  refine ⟨_, rfl, ?_⟩
  intro a14 hA14
  clear hA13
  have hg14 := g0 hb14
  have hs14 := hg14.size
  clear hb14
  have hlf := h86.lft
  refine sx_val hA14 rfl (ev_move (hA14.ev (i := 37) (v := .tuple #[.int .i64 (lft d).1, .int .i64 (lft d).2])) _ rfl) ?_
  intro a19 hA19; clear hA14
  refine sx_val (v := .int .i64 (lft d).1) hA19 rfl (ev_ext (hA19.ev (i := 35) (v := .tuple #[.int .i64 (lft d).1, .int .i64 (lft d).2])) rfl _ rfl) ?_
  intro a20 hA20; clear hA19
  refine sx_val (v := .int .i64 (lft d).2) hA20 rfl (ev_ext (hA20.ev (i := 35) (v := .tuple #[.int .i64 (lft d).1, .int .i64 (lft d).2])) rfl _ rfl) ?_
  intro a21 hA21; clear hA20
  refine sx_val hA21 rfl (ev_assign (hA21.ev (i := 38) (v := .int .i64 (lft d).1)) _ rfl) ?_
  intro a22 hA22; clear hA21
  refine sx_val hA22 rfl (ev_assign (hA22.ev (i := 39) (v := .int .i64 (lft d).2)) _ rfl) ?_
  intro a23 hA23; clear hA22
  refine sx_nil ?_
  refine then_n ?_
  refine wp_seq ?_
  refine wp_region_lit ?_
  refine sx_val hA23 rfl (ev_move (hA23.ev (i := 1) (v := .int .i64 s)) _ rfl) ?_
  intro a24 hA24; clear hA23
  refine sx_call (f := 35) (args := #[.int .i64 s, .int .i64 8]) hA24 rfl (by decide) (.inl rfl) (ev_fn rfl (mp2 (hA24.ev (i := 40) (v := .int .i64 s)) (ec _ (.int .i64 8))) (by kernel_rfl) _ rfl) (Mod_any s 8 _ (by omega) (by omega)) ?_
  intro e25 w25 hR25
  obtain ⟨rfl, hb25⟩ := hR25
  refine ⟨_, rfl, ?_⟩
  intro a25 hA25
  clear hA24
  have hg25 := g0 hb25
  have hs25 := hg25.size
  clear hb25
  refine sx_val hA25 rfl (ev_assign (hA25.ev (i := 41) (v := .int .i64 (s % 8))) _ rfl) ?_
  intro a26 hA26; clear hA25
  refine sx_nil ?_
  refine then_n ?_
  refine wp_seq ?_
  refine wp_seq ?_
  refine wp_region_lit ?_
  refine sx_val hA26 rfl (ev_move (hA26.ev (i := 9) (v := .bool true)) _ rfl) ?_
  intro a27 hA27; clear hA26
  refine sx_val (v := .bool false) hA27 rfl (ev_notT (hA27.ev (i := 42) (v := .bool true)) _ rfl) ?_
  intro a28 hA28; clear hA27
  refine sx_val hA28 rfl (ev_move (hA28.ev (i := 43) (v := .bool false)) _ rfl) ?_
  intro a29 hA29; clear hA28
  refine sx_val (hg := (.inr ⟨2, false, 44, rfl, rfl, by kernel_rfl⟩)) hA29 rfl (ev_move (hA29.ev (i := 11) (v := .int .i64 (lft d).2)) _ rfl) ?_
  intro a30 hA30; clear hA29
  refine sx_val (hg := (.inr ⟨2, false, 44, rfl, rfl, by kernel_rfl⟩)) (v := .bool false) hA30 rfl (ev_neqB (k := .i64) (m := (lft d).2) (n := 0) (hA30.ev (i := 45)) (ec _ (.int .i64 0)) (by simpa using (by rw [hlf] <;> rfl)) _ rfl) ?_
  intro a31 hA31; clear hA30
  refine sx_val hA31 rfl (ev_pickF (hA31.ev (i := 44) (v := .bool false)) (hA31.ev (i := 46) (v := .bool false)) _ rfl) ?_
  intro a32 hA32; clear hA31
  refine sx_val hA32 rfl (ev_move (hA32.ev (i := 47) (v := .bool false)) _ rfl) ?_
  intro a33 hA33; clear hA32
  refine sx_val (hg := (.inr ⟨6, false, 48, rfl, rfl, by kernel_rfl⟩)) hA33 rfl (ev_move (hA33.ev (i := 10) (v := .int .i64 (lft d).1)) _ rfl) ?_
  intro a34 hA34; clear hA33
  refine sx_val (hg := (.inr ⟨6, false, 48, rfl, rfl, by kernel_rfl⟩)) (v := .pointer (some ⟨B10, 1, none⟩)) hA34 rfl (fb_Disk_1 (hA34.ev (i := 8) (v := .pointer (some ⟨B10, 0, none⟩))) _ rfl) ?_
  intro a35 hA35; clear hA34
  have hx11_36 := hx11.gN hg14
  have hx11_37 := hx11_36.gN hg25
  refine sx_val (hg := (.inr ⟨6, false, 48, rfl, rfl, by kernel_rfl⟩)) (v := .slice Aj5 d.js.length cj5) hA35 rfl (ev_cell (v := .slice Aj5 d.js.length cj5) (hA35.ev (i := 50) (v := .pointer (some ⟨B10, 1, none⟩))) ((hx11_37.cell 1).trans rfl) Try.underlying23 rfl _ rfl) ?_
  intro a38 hA38; clear hA35
  refine sx_val (hg := (.inr ⟨6, false, 48, rfl, rfl, by kernel_rfl⟩)) (v := .int .i64 (d.js.length : Int)) hA38 rfl (ev_len (hA38.ev (i := 51) (v := .slice Aj5 d.js.length cj5)) Try.underlying23 _ rfl) ?_
  intro a39 hA39; clear hA38
  refine sx_val (hg := (.inr ⟨6, false, 48, rfl, rfl, by kernel_rfl⟩)) (v := .int .i64 d.room) hA39 rfl (ev_addR (k := .i64) (m := (lft d).1) (n := (d.js.length : Int)) (r := d.room) (hA39.ev (i := 49)) (hA39.ev (i := 52)) (wr (by rw [hlf, hr6]; simp) (by omega) (by omega)) _ rfl) ?_
  intro a40 hA40; clear hA39
  refine sx_val (hg := (.inr ⟨6, false, 48, rfl, rfl, by kernel_rfl⟩)) (v := .pointer (some ⟨B10, 2, none⟩)) hA40 rfl (fb_Disk_2 (hA40.ev (i := 8) (v := .pointer (some ⟨B10, 0, none⟩))) _ rfl) ?_
  intro a41 hA41; clear hA40
  refine sx_val (hg := (.inr ⟨6, false, 48, rfl, rfl, by kernel_rfl⟩)) (v := .int .i64 d.room) hA41 rfl (ev_cell (v := .int .i64 d.room) (hA41.ev (i := 54) (v := .pointer (some ⟨B10, 2, none⟩))) ((hx11_37.cell 2).trans rfl) Try.underlying3 rfl _ rfl) ?_
  intro a42 hA42; clear hA41
  refine sx_val (hg := (.inr ⟨6, false, 48, rfl, rfl, by kernel_rfl⟩)) (v := .bool false) hA42 rfl (ev_neqB (k := .i64) (m := d.room) (n := d.room) (hA42.ev (i := 53)) (hA42.ev (i := 55)) (by simp) _ rfl) ?_
  intro a43 hA43; clear hA42
  refine sx_val hA43 rfl (ev_pickF (hA43.ev (i := 48) (v := .bool false)) (hA43.ev (i := 56) (v := .bool false)) _ rfl) ?_
  intro a44 hA44; clear hA43
  refine sx_nil ?_
  refine then_n ?_
  refine wp_cond_false (hA44.ev (i := 57) (v := .bool false)) ?_
  refine wp_skip ?_
  refine then_n ?_
  refine wp_seq ?_
  refine wp_region_lit ?_
  refine sx_val (v := .agg #[.slice Ap5 d.cs.length cp5, .slice Aj5 d.js.length cj5, .int .i64 d.room]) hA44 rfl (ev_row (hA44.ev (i := 8) (v := .pointer (some ⟨B10, 0, none⟩))) hx11_37 Try.underlying25 rfl (n := 3) (by kernel_rfl) rfl _ rfl) ?_
  intro a45 hA45; clear hA44
  refine sx_val hA45 rfl (ev_move (hA45.ev (i := 1) (v := .int .i64 (s % 8))) _ rfl) ?_
  intro a46 hA46; clear hA45
  have ho5_48 := Own.gN ho5_16 hg14
  have ho5_49 := Own.gN ho5_48 hg25
  have ho5_50 := Own.gN ho5_18 hg14
  have ho5_51 := Own.gN ho5_50 hg25
  refine sx_call (f := 26) (args := #[.agg #[.slice Ap5 d.cs.length cp5, .slice Aj5 d.js.length cj5, .int .i64 d.room], .int .i64 (s % 8)]) hA46 rfl (by decide) (.inl rfl) (ev_fn rfl (mp2 (hA46.ev (i := 59) (v := .agg #[.slice Ap5 d.cs.length cp5, .slice Aj5 d.js.length cj5, .int .i64 d.room])) (hA46.ev (i := 60) (v := .int .i64 (s % 8)))) (by kernel_rfl) _ rfl) (Find_any Ap5 cp5 Aj5 cj5 d.cs d.js d.room (s % 8) _ ⟨(OwnR.gr (e := 28) ⟨rfl, ho5_49⟩), (OwnR.gr (e := 38) ⟨rfl, ho5_51⟩)⟩ (by omega) (by omega)) ?_
  intro e47 w47 hR47
  obtain ⟨rfl, hb47⟩ := hR47
  refine ⟨_, rfl, ?_⟩
  intro a47 hA47
  clear hA46
  have hg47 := g0 hb47
  have hs47 := hg47.size
  clear hb47
  refine sx_val hA47 rfl (ev_move (hA47.ev (i := 61) (v := .tuple #[.int .i64 (fnd d (s % 8)).1, .int .i64 (fnd d (s % 8)).2])) _ rfl) ?_
  intro a52 hA52; clear hA47
  refine sx_val (v := .int .i64 (fnd d (s % 8)).1) hA52 rfl (ev_ext (hA52.ev (i := 58) (v := .tuple #[.int .i64 (fnd d (s % 8)).1, .int .i64 (fnd d (s % 8)).2])) rfl _ rfl) ?_
  intro a53 hA53; clear hA52
  refine sx_val (v := .int .i64 (fnd d (s % 8)).2) hA53 rfl (ev_ext (hA53.ev (i := 58) (v := .tuple #[.int .i64 (fnd d (s % 8)).1, .int .i64 (fnd d (s % 8)).2])) rfl _ rfl) ?_
  intro a54 hA54; clear hA53
  refine sx_val hA54 rfl (ev_assign (hA54.ev (i := 62) (v := .int .i64 (fnd d (s % 8)).1)) _ rfl) ?_
  intro a55 hA55; clear hA54
  refine sx_val hA55 rfl (ev_assign (hA55.ev (i := 63) (v := .int .i64 (fnd d (s % 8)).2)) _ rfl) ?_
  intro a56 hA56; clear hA55
  refine sx_nil ?_
  refine then_n ?_
  refine wp_seq ?_
  refine wp_seq ?_
  refine wp_region_lit ?_
  refine sx_val hA56 rfl (ev_move (hA56.ev (i := 13) (v := .int .i64 (fnd d (s % 8)).2)) _ rfl) ?_
  intro a57 hA57; clear hA56
  cases hd58 : decide ((fnd d (s % 8)).2 = 0)
  rotate_left
  · have hp58 := of_decide_eq_true hd58
    obtain ⟨y1, y2, y3, y4, y5⟩ := rd_find h86 (s := s % 8) (by omega) (by omega) hp58
    refine sx_val (v := .bool true) hA57 rfl (ev_eqlB (k := .i64) (m := (fnd d (s % 8)).2) (n := 0) (hA57.ev (i := 64)) (ec _ (.int .i64 0)) hd58 _ rfl) ?_
    intro a160 hA160; clear hA57
    refine sx_nil ?_
    refine then_n ?_
    refine wp_cond_true (hA160.ev (i := 65) (v := .bool true)) ?_
    refine wp_seq ?_
    refine wp_region_lit ?_
    have hx11_161 := hx11_37.gN hg47
    refine sx_val (v := .agg #[.slice Ap5 d.cs.length cp5, .slice Aj5 d.js.length cj5, .int .i64 d.room]) hA160 rfl (ev_row (hA160.ev (i := 8) (v := .pointer (some ⟨B10, 0, none⟩))) hx11_161 Try.underlying25 rfl (n := 3) (by kernel_rfl) rfl _ rfl) ?_
    intro a162 hA162; clear hA160
    refine sx_val hA162 rfl (ev_move (hA162.ev (i := 12) (v := .int .i64 (fnd d (s % 8)).1)) _ rfl) ?_
    intro a163 hA163; clear hA162
    have ho5_165 := Own.gN ho5_49 hg47
    have ho5_166 := Own.gN ho5_51 hg47
    refine sx_call (f := 17) (args := #[.agg #[.slice Ap5 d.cs.length cp5, .slice Aj5 d.js.length cj5, .int .i64 d.room], .int .i64 (fnd d (s % 8)).1]) hA163 rfl (by decide) (.inl rfl) (ev_fn rfl (mp2 (hA163.ev (i := 67) (v := .agg #[.slice Ap5 d.cs.length cp5, .slice Aj5 d.js.length cj5, .int .i64 d.room])) (hA163.ev (i := 68) (v := .int .i64 (fnd d (s % 8)).1))) (by kernel_rfl) _ rfl) (Complete_any Ap5 cp5 Aj5 cj5 d.cs d.js d.room (fnd d (s % 8)).1 _ ⟨(OwnR.gr (e := 28) ⟨rfl, ho5_165⟩), (OwnR.gr (e := 38) ⟨rfl, ho5_166⟩)⟩ (by omega) (by omega)) ?_
    intro e164 w164 hR164
    obtain ⟨Ap164, cp164, Aj164, cj164, rfl, hC164, hJ164, hb164⟩ := hR164
    refine ⟨_, rfl, ?_⟩
    intro a164 hA164
    clear hA163
    have hg164 := g0 hb164
    have hs164 := hg164.size
    clear hb164
    have ho164_0 : Own w164 (w47.heap.size) 28 8 (.slice Ap164 (cmp d (fnd d (s % 8)).1).1.cs.length cp164) (cmp d (fnd d (s % 8)).1).1.cs.length (flat Ct.va (cmp d (fnd d (s % 8)).1).1.cs) := hC164.2
    have hh164_0 := Own.hi ho164_0
    have ho164_1 : Own w164 (w47.heap.size) 38 11 (.slice Aj164 (cmp d (fnd d (s % 8)).1).1.js.length cj164) (cmp d (fnd d (s % 8)).1).1.js.length (flat Jb.va (cmp d (fnd d (s % 8)).1).1.js) := hJ164.2
    have hh164_1 := Own.hi ho164_1
    refine sx_val hA164 rfl (ev_move (hA164.ev (i := 69) (v := .tuple #[.agg #[.slice Ap164 (cmp d (fnd d (s % 8)).1).1.cs.length cp164, .slice Aj164 (cmp d (fnd d (s % 8)).1).1.js.length cj164, .int .i64 (cmp d (fnd d (s % 8)).1).1.room], .agg (cmp d (fnd d (s % 8)).1).2.1.va, .int .i64 (cmp d (fnd d (s % 8)).1).2.2])) _ rfl) ?_
    intro a167 hA167; clear hA164
    refine sx_val (v := .agg #[.slice Ap164 (cmp d (fnd d (s % 8)).1).1.cs.length cp164, .slice Aj164 (cmp d (fnd d (s % 8)).1).1.js.length cj164, .int .i64 (cmp d (fnd d (s % 8)).1).1.room]) hA167 rfl (ev_ext (hA167.ev (i := 66) (v := .tuple #[.agg #[.slice Ap164 (cmp d (fnd d (s % 8)).1).1.cs.length cp164, .slice Aj164 (cmp d (fnd d (s % 8)).1).1.js.length cj164, .int .i64 (cmp d (fnd d (s % 8)).1).1.room], .agg (cmp d (fnd d (s % 8)).1).2.1.va, .int .i64 (cmp d (fnd d (s % 8)).1).2.2])) rfl _ rfl) ?_
    intro a168 hA168; clear hA167
    refine sx_val (v := .agg (cmp d (fnd d (s % 8)).1).2.1.va) hA168 rfl (ev_ext (hA168.ev (i := 66) (v := .tuple #[.agg #[.slice Ap164 (cmp d (fnd d (s % 8)).1).1.cs.length cp164, .slice Aj164 (cmp d (fnd d (s % 8)).1).1.js.length cj164, .int .i64 (cmp d (fnd d (s % 8)).1).1.room], .agg (cmp d (fnd d (s % 8)).1).2.1.va, .int .i64 (cmp d (fnd d (s % 8)).1).2.2])) rfl _ rfl) ?_
    intro a169 hA169; clear hA168
    refine sx_val (v := .int .i64 (cmp d (fnd d (s % 8)).1).2.2) hA169 rfl (ev_ext (hA169.ev (i := 66) (v := .tuple #[.agg #[.slice Ap164 (cmp d (fnd d (s % 8)).1).1.cs.length cp164, .slice Aj164 (cmp d (fnd d (s % 8)).1).1.js.length cj164, .int .i64 (cmp d (fnd d (s % 8)).1).1.room], .agg (cmp d (fnd d (s % 8)).1).2.1.va, .int .i64 (cmp d (fnd d (s % 8)).1).2.2])) rfl _ rfl) ?_
    intro a170 hA170; clear hA169
    refine sx_new (cs := #[.slice none 0 0, .slice none 0 0, .int .i64 0]) (t := 25) hA170 rfl (by decide) (.inl rfl) (ev_alloc (z := .agg (#[.slice none 0 0, .slice none 0 0, .int .i64 0])) (by kernel_rfl) (by kernel_rfl) _ rfl) ?_
    intro B171 w171 a171 hB171 hx171 hg171 hA171
    clear hA170
    have hs171 := hg171.size
    have hl171 := hx171.lt
    refine sx_new (cs := Jb.zero.va) (t := 38) hA171 rfl (by decide) (.inl rfl) (ev_alloc (z := .agg Jb.zero.va) (by kernel_rfl) (by kernel_rfl) _ rfl) ?_
    intro B172 w172 a172 hB172 hx172 hg172 hA172
    clear hA171
    have hs172 := hg172.size
    have hl172 := hx172.lt
    have hx171_174 := hx171.gN hg172
    refine sx_store hA172 rfl (.inl rfl) rfl (hA172.ev (i := 14) (v := .pointer (some ⟨B171, 0, none⟩))) (hA172.ev (i := 70) (v := .agg #[.slice Ap164 (cmp d (fnd d (s % 8)).1).1.cs.length cp164, .slice Aj164 (cmp d (fnd d (s % 8)).1).1.js.length cj164, .int .i64 (cmp d (fnd d (s % 8)).1).1.room])) hx171_174 (by kernel_rfl) rfl (dk_one _ _ _ _ _ _ _) ?_
    intro w173 hx173 hg173
    have hs173 := hg173.size
    have hx172_176 := hx172.gB hg173 (by omega)
    refine sx_store hA172 rfl (.inl rfl) rfl (hA172.ev (i := 15) (v := .pointer (some ⟨B172, 0, none⟩))) (hA172.ev (i := 71) (v := .agg (cmp d (fnd d (s % 8)).1).2.1.va)) hx172_176 (by kernel_rfl) rfl (jb_one _) ?_
    intro w175 hx175 hg175
    have hs175 := hg175.size
    refine sx_val hA172 rfl (ev_assign (hA172.ev (i := 72) (v := .int .i64 (cmp d (fnd d (s % 8)).1).2.2)) _ rfl) ?_
    intro a177 hA177; clear hA172
    refine sx_nil ?_
    refine then_n ?_
    refine wp_seq ?_
    refine wp_region_lit ?_
    have hx173_178 := hx173.gB hg175 (by omega)
    refine sx_val (v := .agg #[.slice Ap164 (cmp d (fnd d (s % 8)).1).1.cs.length cp164, .slice Aj164 (cmp d (fnd d (s % 8)).1).1.js.length cj164, .int .i64 (cmp d (fnd d (s % 8)).1).1.room]) hA177 rfl (ev_row (hA177.ev (i := 14) (v := .pointer (some ⟨B171, 0, none⟩))) hx173_178 Try.underlying25 rfl (n := 3) (by kernel_rfl) rfl _ rfl) ?_
    intro a179 hA179; clear hA177
    refine sx_val hA179 rfl (ev_move (hA179.ev (i := 1) (v := .int .i64 (s % 8))) _ rfl) ?_
    intro a180 hA180; clear hA179
    have ho164_182 := Own.gN ho164_0 hg171
    have ho164_183 := Own.gN ho164_182 hg172
    have ho164_184 := Own.gBT ho164_183 hg173 hx171_174 (by decide)
    have ho164_185 := Own.gBT ho164_184 hg175 hx172_176 (by decide)
    have ho164_186 := Own.gN ho164_1 hg171
    have ho164_187 := Own.gN ho164_186 hg172
    have ho164_188 := Own.gBT ho164_187 hg173 hx171_174 (by decide)
    have ho164_189 := Own.gB ho164_188 hg175 hh164_1 (by omega)
    refine sx_call (f := 26) (args := #[.agg #[.slice Ap164 (cmp d (fnd d (s % 8)).1).1.cs.length cp164, .slice Aj164 (cmp d (fnd d (s % 8)).1).1.js.length cj164, .int .i64 (cmp d (fnd d (s % 8)).1).1.room], .int .i64 (s % 8)]) hA180 rfl (by decide) (.inl rfl) (ev_fn rfl (mp2 (hA180.ev (i := 74) (v := .agg #[.slice Ap164 (cmp d (fnd d (s % 8)).1).1.cs.length cp164, .slice Aj164 (cmp d (fnd d (s % 8)).1).1.js.length cj164, .int .i64 (cmp d (fnd d (s % 8)).1).1.room])) (hA180.ev (i := 75) (v := .int .i64 (s % 8)))) (by kernel_rfl) _ rfl) (Find_any Ap164 cp164 Aj164 cj164 (cmp d (fnd d (s % 8)).1).1.cs (cmp d (fnd d (s % 8)).1).1.js (cmp d (fnd d (s % 8)).1).1.room (s % 8) _ ⟨(OwnR.gr (e := 28) ⟨rfl, ho164_185⟩), (OwnR.gr (e := 38) ⟨rfl, ho164_189⟩)⟩ (by omega) (by omega)) ?_
    intro e181 w181 hR181
    obtain ⟨rfl, hb181⟩ := hR181
    refine ⟨_, rfl, ?_⟩
    intro a181 hA181
    clear hA180
    have hg181 := g0 hb181
    have hs181 := hg181.size
    clear hb181
    refine sx_val hA181 rfl (ev_move (hA181.ev (i := 76) (v := .tuple #[.int .i64 (fnd (cmp d (fnd d (s % 8)).1).1 (s % 8)).1, .int .i64 (fnd (cmp d (fnd d (s % 8)).1).1 (s % 8)).2])) _ rfl) ?_
    intro a190 hA190; clear hA181
    refine sx_val (v := .int .i64 (fnd (cmp d (fnd d (s % 8)).1).1 (s % 8)).1) hA190 rfl (ev_ext (hA190.ev (i := 73) (v := .tuple #[.int .i64 (fnd (cmp d (fnd d (s % 8)).1).1 (s % 8)).1, .int .i64 (fnd (cmp d (fnd d (s % 8)).1).1 (s % 8)).2])) rfl _ rfl) ?_
    intro a191 hA191; clear hA190
    refine sx_val (v := .int .i64 (fnd (cmp d (fnd d (s % 8)).1).1 (s % 8)).2) hA191 rfl (ev_ext (hA191.ev (i := 73) (v := .tuple #[.int .i64 (fnd (cmp d (fnd d (s % 8)).1).1 (s % 8)).1, .int .i64 (fnd (cmp d (fnd d (s % 8)).1).1 (s % 8)).2])) rfl _ rfl) ?_
    intro a192 hA192; clear hA191
    refine sx_val hA192 rfl (ev_assign (hA192.ev (i := 77) (v := .int .i64 (fnd (cmp d (fnd d (s % 8)).1).1 (s % 8)).1)) _ rfl) ?_
    intro a193 hA193; clear hA192
    refine sx_val hA193 rfl (ev_assign (hA193.ev (i := 78) (v := .int .i64 (fnd (cmp d (fnd d (s % 8)).1).1 (s % 8)).2)) _ rfl) ?_
    intro a194 hA194; clear hA193
    refine sx_nil ?_
    refine then_n ?_
    refine wp_seq ?_
    refine wp_region_lit ?_
    refine sx_val hA194 rfl (ev_move (hA194.ev (i := 7) (v := .bool true)) _ rfl) ?_
    intro a195 hA195; clear hA194
    refine sx_val hA195 rfl (ev_move (hA195.ev (i := 79) (v := .bool true)) _ rfl) ?_
    intro a196 hA196; clear hA195
    refine sx_val (hg := (.inr ⟨1, true, 80, rfl, rfl, by kernel_rfl⟩)) hA196 rfl (ev_move (hA196.ev (i := 16) (v := .int .i64 (cmp d (fnd d (s % 8)).1).2.2)) _ rfl) ?_
    intro a197 hA197; clear hA196
    refine sx_val (hg := (.inr ⟨1, true, 80, rfl, rfl, by kernel_rfl⟩)) (v := .bool true) hA197 rfl (ev_eqlB (k := .i64) (m := (cmp d (fnd d (s % 8)).1).2.2) (n := 0) (hA197.ev (i := 81)) (ec _ (.int .i64 0)) (by rw [y1] <;> rfl) _ rfl) ?_
    intro a198 hA198; clear hA197
    refine sx_val hA198 rfl (ev_pickT (hA198.ev (i := 80) (v := .bool true)) (hA198.ev (i := 82) (v := .bool true)) _ rfl) ?_
    intro a199 hA199; clear hA198
    refine sx_val hA199 rfl (ev_move (hA199.ev (i := 83) (v := .bool true)) _ rfl) ?_
    intro a200 hA200; clear hA199
    refine sx_val (hg := (.inr ⟨5, true, 84, rfl, rfl, by kernel_rfl⟩)) (v := .pointer (some ⟨B172, 1, none⟩)) hA200 rfl (fb_Job_1 (hA200.ev (i := 15) (v := .pointer (some ⟨B172, 0, none⟩))) _ rfl) ?_
    intro a201 hA201; clear hA200
    have hx175_202 := hx175.gN hg181
    refine sx_val (hg := (.inr ⟨5, true, 84, rfl, rfl, by kernel_rfl⟩)) (v := .int .i64 (cmp d (fnd d (s % 8)).1).2.1.slot) hA201 rfl (ev_cell (v := .int .i64 (cmp d (fnd d (s % 8)).1).2.1.slot) (hA201.ev (i := 85) (v := .pointer (some ⟨B172, 1, none⟩))) ((hx175_202.cell 1).trans rfl) Try.underlying3 rfl _ rfl) ?_
    intro a203 hA203; clear hA201
    refine sx_val (hg := (.inr ⟨5, true, 84, rfl, rfl, by kernel_rfl⟩)) hA203 rfl (ev_move (hA203.ev (i := 1) (v := .int .i64 (s % 8))) _ rfl) ?_
    intro a204 hA204; clear hA203
    refine sx_val (hg := (.inr ⟨5, true, 84, rfl, rfl, by kernel_rfl⟩)) (v := .bool true) hA204 rfl (ev_eqlB (k := .i64) (m := (cmp d (fnd d (s % 8)).1).2.1.slot) (n := (s % 8)) (hA204.ev (i := 86)) (hA204.ev (i := 87)) (by rw [y2]; simp) _ rfl) ?_
    intro a205 hA205; clear hA204
    refine sx_val hA205 rfl (ev_pickT (hA205.ev (i := 84) (v := .bool true)) (hA205.ev (i := 88) (v := .bool true)) _ rfl) ?_
    intro a206 hA206; clear hA205
    refine sx_val hA206 rfl (ev_move (hA206.ev (i := 89) (v := .bool true)) _ rfl) ?_
    intro a207 hA207; clear hA206
    refine sx_val (hg := (.inr ⟨11, true, 90, rfl, rfl, by kernel_rfl⟩)) hA207 rfl (ev_move (hA207.ev (i := 18) (v := .int .i64 (fnd (cmp d (fnd d (s % 8)).1).1 (s % 8)).2)) _ rfl) ?_
    intro a208 hA208; clear hA207
    refine sx_val (hg := (.inr ⟨11, true, 90, rfl, rfl, by kernel_rfl⟩)) (v := .bool true) hA208 rfl (ev_eqlB (k := .i64) (m := (fnd (cmp d (fnd d (s % 8)).1).1 (s % 8)).2) (n := 6) (hA208.ev (i := 91)) (ec _ (.int .i64 6)) (by rw [y3] <;> rfl) _ rfl) ?_
    intro a209 hA209; clear hA208
    refine sx_val hA209 rfl (ev_pickT (hA209.ev (i := 90) (v := .bool true)) (hA209.ev (i := 92) (v := .bool true)) _ rfl) ?_
    intro a210 hA210; clear hA209
    refine sx_val hA210 rfl (ev_assign (hA210.ev (i := 93) (v := .bool true)) _ rfl) ?_
    intro a211 hA211; clear hA210
    refine sx_nil ?_
    refine then_n ?_
    refine wp_ret ?_
    refine then_r ?_
    refine bodyPost_ret (rs_t (v := .bool true) Try.results6 hA211 (by kernel_rfl) ) hA211.2.1 ?_
    have hbel0_212 := Below.gN hbel0_6 hg5 hbel0_6.size
    have hbel0_213 := Below.gN hbel0_212 hg10 hbel0_212.size
    have hbel0_214 := Below.gB hbel0_213 hg11 hbel0_213.size (by omega)
    have hbel0_215 := Below.gN hbel0_214 hg14 hbel0_214.size
    have hbel0_216 := Below.gN hbel0_215 hg25 hbel0_215.size
    have hbel0_217 := Below.gN hbel0_216 hg47 hbel0_216.size
    have hbel0_218 := Below.gN hbel0_217 hg164 hbel0_217.size
    have hbel0_219 := Below.gN hbel0_218 hg171 hbel0_218.size
    have hbel0_220 := Below.gN hbel0_219 hg172 hbel0_219.size
    have hbel0_221 := Below.gB hbel0_220 hg173 hbel0_220.size (by omega)
    have hbel0_222 := Below.gB hbel0_221 hg175 hbel0_221.size (by omega)
    have hbel0_223 := Below.gN hbel0_222 hg181 hbel0_222.size
    exact ⟨rfl, hbel0_223⟩
  have hp58 := of_decide_eq_false hd58
  obtain ⟨y1, y2⟩ := rd_no h86 (s := s % 8) (by omega) (by omega) hp58
  refine sx_val (v := .bool false) hA57 rfl (ev_eqlB (k := .i64) (m := (fnd d (s % 8)).2) (n := 0) (hA57.ev (i := 64)) (ec _ (.int .i64 0)) hd58 _ rfl) ?_
  intro a59 hA59; clear hA57
  refine sx_nil ?_
  refine then_n ?_
  refine wp_cond_false (hA59.ev (i := 65) (v := .bool false)) ?_
  refine wp_skip ?_
  refine then_n ?_
  refine wp_seq ?_
  have hx11_60 := hx11_37.gN hg47
  have ho5_61 := Own.gN ho5_49 hg47
  have ho5_62 := Own.gN ho5_51 hg47
  have hbel0_63 := Below.gN hbel0_6 hg5 hbel0_6.size
  have hbel0_64 := Below.gN hbel0_63 hg10 hbel0_63.size
  have hbel0_65 := Below.gB hbel0_64 hg11 hbel0_64.size (by omega)
  have hbel0_66 := Below.gN hbel0_65 hg14 hbel0_65.size
  have hbel0_67 := Below.gN hbel0_66 hg25 hbel0_66.size
  have hbel0_68 := Below.gN hbel0_67 hg47 hbel0_67.size
  refine region_D (n := 13) (by kernel_rfl) (by kernel_rfl) rfl (fun L ac wc => ∃ Ap6r12 : Option Addr, ∃ cp6r12 : Nat, ∃ Aj6r12 : Option Addr, ∃ cj6r12 : Nat, ∃ N10r12 : Nat, Below w.heap.size w wc ∧ w47.heap.size ≤ wc.heap.size ∧ Bx wc B10 25 (#[.slice Ap5 d.cs.length cp5, .slice Aj5 d.js.length cj5, .int .i64 d.room]) ∧ Own wc (w2.heap.size) 28 8 (.slice Ap5 d.cs.length cp5) d.cs.length (flat Ct.va d.cs) ∧ Own wc (w2.heap.size) 38 11 (.slice Aj5 d.js.length cj5) d.js.length (flat Jb.va d.js) ∧ (L 10 = true → w47.heap.size ≤ N10r12 ∧ Bx wc N10r12 25 (bif L 11 then (#[.slice Ap6r12 (sub d ⟨true, (s % 8), 200, (wd (n % 1000))⟩).1.cs.length cp6r12, .slice Aj6r12 (sub d ⟨true, (s % 8), 200, (wd (n % 1000))⟩).1.js.length cj6r12, .int .i64 (sub d ⟨true, (s % 8), 200, (wd (n % 1000))⟩).1.room]) else (#[.slice none 0 0, .slice none 0 0, .int .i64 0]))) ∧ (L 6 = true → Own wc w47.heap.size 28 8 (.slice Ap6r12 (sub d ⟨true, (s % 8), 200, (wd (n % 1000))⟩).1.cs.length cp6r12) (sub d ⟨true, (s % 8), 200, (wd (n % 1000))⟩).1.cs.length (flat Ct.va (sub d ⟨true, (s % 8), 200, (wd (n % 1000))⟩).1.cs)) ∧ (L 6 = true → Own wc w47.heap.size 38 11 (.slice Aj6r12 (sub d ⟨true, (s % 8), 200, (wd (n % 1000))⟩).1.js.length cj6r12) (sub d ⟨true, (s % 8), 200, (wd (n % 1000))⟩).1.js.length (flat Jb.va (sub d ⟨true, (s % 8), 200, (wd (n % 1000))⟩).1.js)) ∧ (L 11 = true → L 10 = true) ∧ (L 7 = true → L 6 = true) ∧ (L 8 = true → L 6 = true) ∧ (L 11 = true → L 6 = true) ∧ (L 0 = true → Sv ac 95 (.agg #[.slice Ap5 d.cs.length cp5, .slice Aj5 d.js.length cj5, .int .i64 d.room])) ∧ (L 1 = true → Sv ac 96 (.int .i64 (s % 8))) ∧ (L 2 = true → Sv ac 97 (.int .i64 n)) ∧ (L 3 = true → Sv ac 98 (.int .i64 (n % 1000))) ∧ (L 4 = true → Sv ac 99 (.int .u64 (n % 1000))) ∧ (L 5 = true → Sv ac 100 (.agg (wd (n % 1000)).va)) ∧ (L 6 = true → Sv ac 101 (.tuple #[.agg #[.slice Ap6r12 (sub d ⟨true, (s % 8), 200, (wd (n % 1000))⟩).1.cs.length cp6r12, .slice Aj6r12 (sub d ⟨true, (s % 8), 200, (wd (n % 1000))⟩).1.js.length cj6r12, .int .i64 (sub d ⟨true, (s % 8), 200, (wd (n % 1000))⟩).1.room], .int .i64 (sub d ⟨true, (s % 8), 200, (wd (n % 1000))⟩).2])) ∧ (L 7 = true → Sv ac 94 (.tuple #[.agg #[.slice Ap6r12 (sub d ⟨true, (s % 8), 200, (wd (n % 1000))⟩).1.cs.length cp6r12, .slice Aj6r12 (sub d ⟨true, (s % 8), 200, (wd (n % 1000))⟩).1.js.length cj6r12, .int .i64 (sub d ⟨true, (s % 8), 200, (wd (n % 1000))⟩).1.room], .int .i64 (sub d ⟨true, (s % 8), 200, (wd (n % 1000))⟩).2])) ∧ (L 8 = true → Sv ac 102 (.agg #[.slice Ap6r12 (sub d ⟨true, (s % 8), 200, (wd (n % 1000))⟩).1.cs.length cp6r12, .slice Aj6r12 (sub d ⟨true, (s % 8), 200, (wd (n % 1000))⟩).1.js.length cj6r12, .int .i64 (sub d ⟨true, (s % 8), 200, (wd (n % 1000))⟩).1.room])) ∧ (L 9 = true → Sv ac 103 (.int .i64 (sub d ⟨true, (s % 8), 200, (wd (n % 1000))⟩).2)) ∧ (L 10 = true → Sv ac 19 (.pointer (some ⟨N10r12, 0, none⟩))) ∧ (L 12 = true → Sv ac 20 (.int .i64 (sub d ⟨true, (s % 8), 200, (wd (n % 1000))⟩).2))) ⟨none, 0, none, 0, 0, (Below.gN hbel0_68 (gdr _) hbel0_68.size), (Nat.le_refl _), (hx11_60.gN (gdr _)), (Own.gN ho5_61 (gdr _)), (Own.gN ho5_62 (gdr _)), (fun h => by cases h), (fun h => by cases h), (fun h => by cases h), (fun h => by cases h), (fun h => by cases h), (fun h => by cases h), (fun h => by cases h), (fun h => by cases h), (fun h => by cases h), (fun h => by cases h), (fun h => by cases h), (fun h => by cases h), (fun h => by cases h), (fun h => by cases h), (fun h => by cases h), (fun h => by cases h), (fun h => by cases h), (fun h => by cases h), (fun h => by cases h)⟩ ?_ ?_
  · intro iq hiq o ho L hL hdep ac wc hF hJ
    obtain ⟨Ap6r12, cp6r12, Aj6r12, cj6r12, N10r12, bl, sz, b_B10, p_0, p_1, n_N10r12, o_6_0, o_6_1, cl_11_10, cl_7_6, cl_8_6, cl_11_6, s_95, s_96, s_97, s_98, s_99, s_100, s_101, s_94, s_102, s_103, s_19, s_20⟩ := hJ
    have zq := hF.1.trans hA59.1
    match iq, hiq with
    | 0, _ =>
      obtain rfl := Option.some.inj (show some _ = some o from ho); clear ho
      have v8 := hF.sv (s := 8) (by kernel_rfl) (hA59.get (i := 8) (v := .pointer (some ⟨B10, 0, none⟩)))
      refine dj_val (i := 0) (v := .agg #[.slice Ap5 d.cs.length cp5, .slice Aj5 d.js.length cj5, .int .i64 d.room]) rfl (.inl rfl) (ev_row v8.eval b_B10 Try.underlying25 rfl (n := 3) (by kernel_rfl) rfl _ rfl) ?_
      exact ⟨⟨_, rfl⟩, Ap6r12, cp6r12, Aj6r12, cj6r12, N10r12, bl, sz, b_B10, p_0, p_1, n_N10r12, o_6_0, o_6_1, cl_11_10, cl_7_6, cl_8_6, cl_11_6, (fun _ => Sv.self (by rw [zq]; decide) _), (so s_96), (so s_97), (so s_98), (so s_99), (so s_100), (so s_101), (so s_94), (so s_102), (so s_103), (so s_19), (so s_20)⟩
    | 1, _ =>
      obtain rfl := Option.some.inj (show some _ = some o from ho); clear ho
      have v1 := hF.sv (s := 1) (by kernel_rfl) (hA59.get (i := 1) (v := .int .i64 (s % 8)))
      refine dj_val (i := 1) (v := .int .i64 (s % 8)) rfl (.inl rfl) (ev_move v1.eval _ rfl) ?_
      exact ⟨⟨_, rfl⟩, Ap6r12, cp6r12, Aj6r12, cj6r12, N10r12, bl, sz, b_B10, p_0, p_1, n_N10r12, o_6_0, o_6_1, cl_11_10, cl_7_6, cl_8_6, cl_11_6, (so s_95), (fun _ => Sv.self (by rw [zq]; decide) _), (so s_97), (so s_98), (so s_99), (so s_100), (so s_101), (so s_94), (so s_102), (so s_103), (so s_19), (so s_20)⟩
    | 2, _ =>
      obtain rfl := Option.some.inj (show some _ = some o from ho); clear ho
      have v2 := hF.sv (s := 2) (by kernel_rfl) (hA59.get (i := 2) (v := .int .i64 n))
      refine dj_val (i := 2) (v := .int .i64 n) rfl (.inl rfl) (ev_move v2.eval _ rfl) ?_
      exact ⟨⟨_, rfl⟩, Ap6r12, cp6r12, Aj6r12, cj6r12, N10r12, bl, sz, b_B10, p_0, p_1, n_N10r12, o_6_0, o_6_1, cl_11_10, cl_7_6, cl_8_6, cl_11_6, (so s_95), (so s_96), (fun _ => Sv.self (by rw [zq]; decide) _), (so s_98), (so s_99), (so s_100), (so s_101), (so s_94), (so s_102), (so s_103), (so s_19), (so s_20)⟩
    | 3, _ =>
      obtain rfl := Option.some.inj (show some _ = some o from ho); clear ho
      have v97 := s_97 (dp hdep 2)
      refine dj_call (i := 3) (f := 35) (args := #[.int .i64 n, .int .i64 1000]) rfl (.inl rfl) (ev_fn rfl (mp2 v97.eval (ec ac (.int .i64 1000))) (by kernel_rfl) _ rfl) (Mod_any n 1000 _ (by omega) (by omega)) ?_
      intro e wk3 hR
      obtain ⟨rfl, hb3⟩ := hR
      refine ⟨_, rfl, ?_⟩
      have hg := g0 hb3
      exact ⟨⟨_, rfl⟩, Ap6r12, cp6r12, Aj6r12, cj6r12, N10r12, (Below.gN bl hg bl.size), (Nat.le_trans sz hg.size), (b_B10.gN hg), (Own.gN p_0 hg), (Own.gN p_1 hg), (fun h => ⟨(n_N10r12 h).1, (n_N10r12 h).2.gN hg⟩), (fun h => Own.gN (o_6_0 h) hg), (fun h => Own.gN (o_6_1 h) hg), cl_11_10, cl_7_6, cl_8_6, cl_11_6, (so s_95), (so s_96), (so s_97), (fun _ => Sv.self (by rw [zq]; decide) _), (so s_99), (so s_100), (so s_101), (so s_94), (so s_102), (so s_103), (so s_19), (so s_20)⟩
    | 4, _ =>
      obtain rfl := Option.some.inj (show some _ = some o from ho); clear ho
      have v98 := s_98 (dp hdep 3)
      refine dj_val (i := 4) (v := .int .u64 (n % 1000)) rfl (.inl rfl) (ev_convU (m := (n % 1000)) v98.eval (by omega) (by omega) _ rfl) ?_
      exact ⟨⟨_, rfl⟩, Ap6r12, cp6r12, Aj6r12, cj6r12, N10r12, bl, sz, b_B10, p_0, p_1, n_N10r12, o_6_0, o_6_1, cl_11_10, cl_7_6, cl_8_6, cl_11_6, (so s_95), (so s_96), (so s_97), (so s_98), (fun _ => Sv.self (by rw [zq]; decide) _), (so s_100), (so s_101), (so s_94), (so s_102), (so s_103), (so s_19), (so s_20)⟩
    | 5, _ =>
      obtain rfl := Option.some.inj (show some _ = some o from ho); clear ho
      have v99 := s_99 (dp hdep 4)
      refine dj_call (i := 5) (f := 33) (args := #[.int .u64 (n % 1000)]) rfl (.inl rfl) (ev_fn rfl (mp1 v99.eval) (by kernel_rfl) _ rfl) (word_any (n % 1000) _) ?_
      intro e wk5 hR
      obtain ⟨rfl, hb5⟩ := hR
      refine ⟨_, rfl, ?_⟩
      have hg := g0 hb5
      exact ⟨⟨_, rfl⟩, Ap6r12, cp6r12, Aj6r12, cj6r12, N10r12, (Below.gN bl hg bl.size), (Nat.le_trans sz hg.size), (b_B10.gN hg), (Own.gN p_0 hg), (Own.gN p_1 hg), (fun h => ⟨(n_N10r12 h).1, (n_N10r12 h).2.gN hg⟩), (fun h => Own.gN (o_6_0 h) hg), (fun h => Own.gN (o_6_1 h) hg), cl_11_10, cl_7_6, cl_8_6, cl_11_6, (so s_95), (so s_96), (so s_97), (so s_98), (so s_99), (fun _ => Sv.self (by rw [zq]; decide) _), (so s_101), (so s_94), (so s_102), (so s_103), (so s_19), (so s_20)⟩
    | 6, _ =>
      obtain rfl := Option.some.inj (show some _ = some o from ho); clear ho
      have v95 := s_95 (dp hdep 0)
      have v96 := s_96 (dp hdep 1)
      have v100 := s_100 (dp hdep 5)
      refine dj_call (i := 6) (f := 12) (args := #[.agg #[.slice Ap5 d.cs.length cp5, .slice Aj5 d.js.length cj5, .int .i64 d.room], .int .i64 (s % 8), .int .i64 200, .agg (wd (n % 1000)).va]) rfl (.inl rfl) (ev_fn rfl (mp4 v95.eval v96.eval (ec ac (.int .i64 200)) v100.eval) (by kernel_rfl) _ rfl) (Write_any Ap5 cp5 Aj5 cj5 d.cs d.js d.room (s % 8) 200 (wd (n % 1000)) _ ⟨(OwnR.gr (e := 28) ⟨rfl, p_0⟩), (OwnR.gr (e := 38) ⟨rfl, p_1⟩)⟩ (by omega) (by omega)) ?_
      intro e wk6 hR
      obtain ⟨Ap6r12, cp6r12, Aj6r12, cj6r12, rfl, hC6, hJ6, hb6⟩ := hR
      refine ⟨_, rfl, ?_⟩
      have hg := g0 hb6
      have hown0 := Own.mono (hC6.2) sz
      have hown1 := Own.mono (hJ6.2) sz
      exact ⟨⟨_, rfl⟩, Ap6r12, cp6r12, Aj6r12, cj6r12, N10r12, (Below.gN bl hg bl.size), (Nat.le_trans sz hg.size), (b_B10.gN hg), (Own.gN p_0 hg), (Own.gN p_1 hg), (fun h => ⟨(n_N10r12 h).1, by
          have e0 : L 11 = false := by
            cases hc : L 11
            · rfl
            · exact absurd (cl_11_6 hc) (by rw [hL]; decide)
          have h0 := (n_N10r12 h).2.gN hg
          rw [e0] at h0
          show Bx _ _ _ (bif L 11 then _ else _)
          rw [e0]
          exact h0⟩), (fun _ => hown0), (fun _ => hown1), cl_11_10, (fun _ => rfl), (fun _ => rfl), (fun _ => rfl), (so s_95), (so s_96), (so s_97), (so s_98), (so s_99), (so s_100), (fun _ => Sv.self (by rw [zq]; decide) _), (fun h => absurd (cl_7_6 h) (by rw [hL]; decide)), (fun h => absurd (cl_8_6 h) (by rw [hL]; decide)), (so s_103), (so s_19), (so s_20)⟩
    | 7, _ =>
      obtain rfl := Option.some.inj (show some _ = some o from ho); clear ho
      have v101 := s_101 (dp hdep 6)
      refine dj_val (i := 7) (v := .tuple #[.agg #[.slice Ap6r12 (sub d ⟨true, (s % 8), 200, (wd (n % 1000))⟩).1.cs.length cp6r12, .slice Aj6r12 (sub d ⟨true, (s % 8), 200, (wd (n % 1000))⟩).1.js.length cj6r12, .int .i64 (sub d ⟨true, (s % 8), 200, (wd (n % 1000))⟩).1.room], .int .i64 (sub d ⟨true, (s % 8), 200, (wd (n % 1000))⟩).2]) rfl (.inl rfl) (ev_move v101.eval _ rfl) ?_
      exact ⟨⟨_, rfl⟩, Ap6r12, cp6r12, Aj6r12, cj6r12, N10r12, bl, sz, b_B10, p_0, p_1, n_N10r12, o_6_0, o_6_1, cl_11_10, (fun _ => dp hdep 6), cl_8_6, cl_11_6, (so s_95), (so s_96), (so s_97), (so s_98), (so s_99), (so s_100), (so s_101), (fun _ => Sv.self (by rw [zq]; decide) _), (so s_102), (so s_103), (so s_19), (so s_20)⟩
    | 8, _ =>
      obtain rfl := Option.some.inj (show some _ = some o from ho); clear ho
      have v94 := s_94 (dp hdep 7)
      refine dj_val (i := 8) (v := .agg #[.slice Ap6r12 (sub d ⟨true, (s % 8), 200, (wd (n % 1000))⟩).1.cs.length cp6r12, .slice Aj6r12 (sub d ⟨true, (s % 8), 200, (wd (n % 1000))⟩).1.js.length cj6r12, .int .i64 (sub d ⟨true, (s % 8), 200, (wd (n % 1000))⟩).1.room]) rfl (.inl rfl) (ev_ext v94.eval rfl _ rfl) ?_
      exact ⟨⟨_, rfl⟩, Ap6r12, cp6r12, Aj6r12, cj6r12, N10r12, bl, sz, b_B10, p_0, p_1, n_N10r12, o_6_0, o_6_1, cl_11_10, cl_7_6, (fun _ => cl_7_6 (dp hdep 7)), cl_11_6, (so s_95), (so s_96), (so s_97), (so s_98), (so s_99), (so s_100), (so s_101), (so s_94), (fun _ => Sv.self (by rw [zq]; decide) _), (so s_103), (so s_19), (so s_20)⟩
    | 9, _ =>
      obtain rfl := Option.some.inj (show some _ = some o from ho); clear ho
      have v94 := s_94 (dp hdep 7)
      refine dj_val (i := 9) (v := .int .i64 (sub d ⟨true, (s % 8), 200, (wd (n % 1000))⟩).2) rfl (.inl rfl) (ev_ext v94.eval rfl _ rfl) ?_
      exact ⟨⟨_, rfl⟩, Ap6r12, cp6r12, Aj6r12, cj6r12, N10r12, bl, sz, b_B10, p_0, p_1, n_N10r12, o_6_0, o_6_1, cl_11_10, cl_7_6, cl_8_6, cl_11_6, (so s_95), (so s_96), (so s_97), (so s_98), (so s_99), (so s_100), (so s_101), (so s_94), (so s_102), (fun _ => Sv.self (by rw [zq]; decide) _), (so s_19), (so s_20)⟩
    | 10, _ =>
      obtain rfl := Option.some.inj (show some _ = some o from ho); clear ho
      refine dj_val (i := 10) rfl (.inl rfl) (w' := wc.alloc (.cells (#[.slice none 0 0, .slice none 0 0, .int .i64 0]) 25)) (v := .pointer (some ⟨wc.heap.size, 0, none⟩)) (ev_alloc (z := .agg (#[.slice none 0 0, .slice none 0 0, .int .i64 0])) (by kernel_rfl) (by kernel_rfl) _ rfl) ?_
      have hx := Bx.new wc 25 (#[.slice none 0 0, .slice none 0 0, .int .i64 0])
      have hg := g0 (al wc (.cells (#[.slice none 0 0, .slice none 0 0, .int .i64 0]) 25))
      have e0 : L 11 = false := by
        cases hc : L 11
        · rfl
        · exact absurd (cl_11_10 hc) (by rw [hL]; decide)
      replace hx : Bx (wc.alloc (.cells (#[.slice none 0 0, .slice none 0 0, .int .i64 0]) 25)) wc.heap.size 25 (bif L 11 then (#[.slice Ap6r12 (sub d ⟨true, (s % 8), 200, (wd (n % 1000))⟩).1.cs.length cp6r12, .slice Aj6r12 (sub d ⟨true, (s % 8), 200, (wd (n % 1000))⟩).1.js.length cj6r12, .int .i64 (sub d ⟨true, (s % 8), 200, (wd (n % 1000))⟩).1.room]) else (#[.slice none 0 0, .slice none 0 0, .int .i64 0])) := by rw [e0]; exact hx
      exact ⟨⟨_, rfl⟩, Ap6r12, cp6r12, Aj6r12, cj6r12, wc.heap.size, (Below.gN bl hg bl.size), (Nat.le_trans sz hg.size), (b_B10.gN hg), (Own.gN p_0 hg), (Own.gN p_1 hg), (fun _ => ⟨sz, hx⟩), (fun h => Own.gN (o_6_0 h) hg), (fun h => Own.gN (o_6_1 h) hg), (fun _ => rfl), cl_7_6, cl_8_6, cl_11_6, (so s_95), (so s_96), (so s_97), (so s_98), (so s_99), (so s_100), (so s_101), (so s_94), (so s_102), (so s_103), (fun _ => Sv.self (by rw [zq]; decide) _), (so s_20)⟩
    | 11, _ =>
      obtain rfl := Option.some.inj (show some _ = some o from ho); clear ho
      have v19 := s_19 (dp hdep 10)
      have v102 := s_102 (dp hdep 8)
      have xN10r12 := (n_N10r12 (dp hdep 10)).2
      rw [hL] at xN10r12
      refine dj_skip (i := 11) rfl rfl (.inl rfl) (w' := wc.setRow N10r12 (#[.slice Ap6r12 (sub d ⟨true, (s % 8), 200, (wd (n % 1000))⟩).1.cs.length cp6r12, .slice Aj6r12 (sub d ⟨true, (s % 8), 200, (wd (n % 1000))⟩).1.js.length cj6r12, .int .i64 (sub d ⟨true, (s % 8), 200, (wd (n % 1000))⟩).1.room])) (ev_srow v19.eval v102.eval xN10r12 (n := 3) (by kernel_rfl) rfl rfl (dk_one _ _ _ _ _ _ _) _ rfl) ?_
      have hg := grw xN10r12 (#[.slice Ap6r12 (sub d ⟨true, (s % 8), 200, (wd (n % 1000))⟩).1.cs.length cp6r12, .slice Aj6r12 (sub d ⟨true, (s % 8), 200, (wd (n % 1000))⟩).1.js.length cj6r12, .int .i64 (sub d ⟨true, (s % 8), 200, (wd (n % 1000))⟩).1.room])
      have hx := xN10r12.row (#[.slice Ap6r12 (sub d ⟨true, (s % 8), 200, (wd (n % 1000))⟩).1.cs.length cp6r12, .slice Aj6r12 (sub d ⟨true, (s % 8), 200, (wd (n % 1000))⟩).1.js.length cj6r12, .int .i64 (sub d ⟨true, (s % 8), 200, (wd (n % 1000))⟩).1.room])
      exact ⟨⟨undef, rfl⟩, Ap6r12, cp6r12, Aj6r12, cj6r12, N10r12, (Below.gB bl hg bl.size (by have := (n_N10r12 (dp hdep 10)).1; omega)), (Nat.le_trans sz hg.size), (b_B10.gB hg (by have := (n_N10r12 (dp hdep 10)).1; omega)), (Own.gB p_0 hg hh5_0 (by have := (n_N10r12 (dp hdep 10)).1; omega)), (Own.gB p_1 hg hh5_1 (by have := (n_N10r12 (dp hdep 10)).1; omega)), (fun h => ⟨(n_N10r12 h).1, hx⟩), (fun h => Own.gBT (o_6_0 h) hg xN10r12 (by decide)), (fun h => Own.gBT (o_6_1 h) hg xN10r12 (by decide)), (fun _ => dp hdep 10), cl_7_6, cl_8_6, (fun _ => cl_8_6 (dp hdep 8)), s_95, s_96, s_97, s_98, s_99, s_100, s_101, s_94, s_102, s_103, s_19, s_20⟩
    | 12, _ =>
      obtain rfl := Option.some.inj (show some _ = some o from ho); clear ho
      have v103 := s_103 (dp hdep 9)
      refine dj_val (i := 12) (v := .int .i64 (sub d ⟨true, (s % 8), 200, (wd (n % 1000))⟩).2) rfl (.inl rfl) (ev_assign v103.eval _ rfl) ?_
      exact ⟨⟨_, rfl⟩, Ap6r12, cp6r12, Aj6r12, cj6r12, N10r12, bl, sz, b_B10, p_0, p_1, n_N10r12, o_6_0, o_6_1, cl_11_10, cl_7_6, cl_8_6, cl_11_6, (so s_95), (so s_96), (so s_97), (so s_98), (so s_99), (so s_100), (so s_101), (so s_94), (so s_102), (so s_103), (so s_19), (fun _ => Sv.self (by rw [zq]; decide) _)⟩
    | k + 13, h => exact absurd h (by omega)
  · intro L hall ac69 wc69 hF hJ
    obtain ⟨Ap6r12, cp6r12, Aj6r12, cj6r12, N10r12, bl, sz, b_B10, p_0, p_1, n_N10r12, o_6_0, o_6_1, cl_11_10, cl_7_6, cl_8_6, cl_11_6, s_95, s_96, s_97, s_98, s_99, s_100, s_101, s_94, s_102, s_103, s_19, s_20⟩ := hJ
    have hA69 : Ag ac69 174 [(1, .int .i64 (s % 8)), (2, .int .i64 n), (6, .bool false), (7, .bool true), (8, .pointer (some ⟨B10, 0, none⟩)), (10, .int .i64 (lft d).1), (13, .int .i64 (fnd d (s % 8)).2), (19, .pointer (some ⟨N10r12, 0, none⟩)), (20, .int .i64 (sub d ⟨true, (s % 8), 200, (wd (n % 1000))⟩).2)] := ((((((((((Ag.nil (hF.1.trans hA59.1) (hF.2.1.trans hA59.2.1)).cons (s_20 (hall 12 (by decide)))).cons (s_19 (hall 10 (by decide)))).cons (hF.sv (s := 13) (by kernel_rfl) (hA59.get (i := 13) (v := .int .i64 (fnd d (s % 8)).2)))).cons (hF.sv (s := 10) (by kernel_rfl) (hA59.get (i := 10) (v := .int .i64 (lft d).1)))).cons (hF.sv (s := 8) (by kernel_rfl) (hA59.get (i := 8) (v := .pointer (some ⟨B10, 0, none⟩))))).cons (hF.sv (s := 7) (by kernel_rfl) (hA59.get (i := 7) (v := .bool true)))).cons (hF.sv (s := 6) (by kernel_rfl) (hA59.get (i := 6) (v := .bool false)))).cons (hF.sv (s := 2) (by kernel_rfl) (hA59.get (i := 2) (v := .int .i64 n)))).cons (hF.sv (s := 1) (by kernel_rfl) (hA59.get (i := 1) (v := .int .i64 (s % 8)))))
    have bl69 := bl
    have sz69 := sz
    have b69_B10 := b_B10
    have p69_0 := p_0
    have p69_1 := p_1
    have n69_N10r12 := (n_N10r12 (hall 10 (by decide))).1
    have b69_N10r12 : Bx wc69 N10r12 25 (#[.slice Ap6r12 (sub d ⟨true, (s % 8), 200, (wd (n % 1000))⟩).1.cs.length cp6r12, .slice Aj6r12 (sub d ⟨true, (s % 8), 200, (wd (n % 1000))⟩).1.js.length cj6r12, .int .i64 (sub d ⟨true, (s % 8), 200, (wd (n % 1000))⟩).1.room]) := by
      have h := (n_N10r12 (hall 10 (by decide))).2
      rw [hall 11 (by decide)] at h
      exact h
    have l69_N10r12 := b69_N10r12.lt
    have o69_6_0 := o_6_0 (hall 6 (by decide))
    have hh69_6_0 := Own.hi o69_6_0
    have o69_6_1 := o_6_1 (hall 6 (by decide))
    have hh69_6_1 := Own.hi o69_6_1
    clear hF bl sz b_B10 p_0 p_1 n_N10r12 o_6_0 o_6_1 cl_11_10 cl_7_6 cl_8_6 cl_11_6 s_95 s_96 s_97 s_98 s_99 s_100 s_101 s_94 s_102 s_103 s_19 s_20 hall hA59
    refine then_n ?_
    refine wp_seq ?_
    refine wp_seq ?_
    refine wp_region_lit ?_
    refine sx_val hA69 rfl (ev_move (hA69.ev (i := 10) (v := .int .i64 (lft d).1)) _ rfl) ?_
    intro a70 hA70; clear hA69
    cases hd71 : decide ((lft d).1 = 0)
    rotate_left
    · have hp71 := of_decide_eq_true hd71
      have hl6 : d.js.length = 6 := by rw [hlf] at hp71; simp at hp71; omega
      have z1 := rd_full h86 (s := s % 8) (c := (wd (n % 1000))) (by omega) (by omega) y2 hl6
      refine sx_val (v := .bool true) hA70 rfl (ev_eqlB (k := .i64) (m := (lft d).1) (n := 0) (hA70.ev (i := 104)) (ec _ (.int .i64 0)) hd71 _ rfl) ?_
      intro a149 hA149; clear hA70
      refine sx_nil ?_
      refine then_n ?_
      refine wp_cond_true (hA149.ev (i := 105) (v := .bool true)) ?_
      refine wp_seq ?_
      refine wp_region_lit ?_
      refine sx_val hA149 rfl (ev_move (hA149.ev (i := 7) (v := .bool true)) _ rfl) ?_
      intro a150 hA150; clear hA149
      refine sx_val hA150 rfl (ev_move (hA150.ev (i := 106) (v := .bool true)) _ rfl) ?_
      intro a151 hA151; clear hA150
      refine sx_val (hg := (.inr ⟨1, true, 107, rfl, rfl, by kernel_rfl⟩)) hA151 rfl (ev_move (hA151.ev (i := 13) (v := .int .i64 (fnd d (s % 8)).2)) _ rfl) ?_
      intro a152 hA152; clear hA151
      refine sx_val (hg := (.inr ⟨1, true, 107, rfl, rfl, by kernel_rfl⟩)) (v := .bool true) hA152 rfl (ev_eqlB (k := .i64) (m := (fnd d (s % 8)).2) (n := 6) (hA152.ev (i := 108)) (ec _ (.int .i64 6)) (by rw [y1] <;> rfl) _ rfl) ?_
      intro a153 hA153; clear hA152
      refine sx_val hA153 rfl (ev_pickT (hA153.ev (i := 107) (v := .bool true)) (hA153.ev (i := 109) (v := .bool true)) _ rfl) ?_
      intro a154 hA154; clear hA153
      refine sx_val hA154 rfl (ev_move (hA154.ev (i := 110) (v := .bool true)) _ rfl) ?_
      intro a155 hA155; clear hA154
      refine sx_val (hg := (.inr ⟨5, true, 111, rfl, rfl, by kernel_rfl⟩)) hA155 rfl (ev_move (hA155.ev (i := 20) (v := .int .i64 (sub d ⟨true, (s % 8), 200, (wd (n % 1000))⟩).2)) _ rfl) ?_
      intro a156 hA156; clear hA155
      refine sx_val (hg := (.inr ⟨5, true, 111, rfl, rfl, by kernel_rfl⟩)) (v := .bool true) hA156 rfl (ev_eqlB (k := .i64) (m := (sub d ⟨true, (s % 8), 200, (wd (n % 1000))⟩).2) (n := 5) (hA156.ev (i := 112)) (ec _ (.int .i64 5)) (by rw [z1] <;> rfl) _ rfl) ?_
      intro a157 hA157; clear hA156
      refine sx_val hA157 rfl (ev_pickT (hA157.ev (i := 111) (v := .bool true)) (hA157.ev (i := 113) (v := .bool true)) _ rfl) ?_
      intro a158 hA158; clear hA157
      refine sx_val hA158 rfl (ev_assign (hA158.ev (i := 114) (v := .bool true)) _ rfl) ?_
      intro a159 hA159; clear hA158
      refine sx_nil ?_
      refine then_n ?_
      refine wp_ret ?_
      refine then_r ?_
      refine bodyPost_ret (rs_t (v := .bool true) Try.results6 hA159 (by kernel_rfl) ) hA159.2.1 ?_
      exact ⟨rfl, bl69⟩
    have hp71 := of_decide_eq_false hd71
    have hl6 : d.js.length < 6 := by rw [hlf] at hp71; simp at hp71; omega
    obtain ⟨z1, z2, z3, z4, z5, z6, z7, z8, z9, z10, z11, z12⟩ := rd_all h86 (s := s % 8) (c := (wd (n % 1000))) (by omega) (by omega) y2 hl6
    refine sx_val (v := .bool false) hA70 rfl (ev_eqlB (k := .i64) (m := (lft d).1) (n := 0) (hA70.ev (i := 104)) (ec _ (.int .i64 0)) hd71 _ rfl) ?_
    intro a72 hA72; clear hA70
    refine sx_nil ?_
    refine then_n ?_
    refine wp_cond_false (hA72.ev (i := 105) (v := .bool false)) ?_
    refine wp_skip ?_
    refine then_n ?_
    refine wp_seq ?_
    refine wp_region_lit ?_
    refine sx_val (v := .agg #[.slice Ap6r12 (sub d ⟨true, (s % 8), 200, (wd (n % 1000))⟩).1.cs.length cp6r12, .slice Aj6r12 (sub d ⟨true, (s % 8), 200, (wd (n % 1000))⟩).1.js.length cj6r12, .int .i64 (sub d ⟨true, (s % 8), 200, (wd (n % 1000))⟩).1.room]) hA72 rfl (ev_row (hA72.ev (i := 19) (v := .pointer (some ⟨N10r12, 0, none⟩))) b69_N10r12 Try.underlying25 rfl (n := 3) (by kernel_rfl) rfl _ rfl) ?_
    intro a73 hA73; clear hA72
    refine sx_val (v := .pointer (some ⟨B10, 1, none⟩)) hA73 rfl (fb_Disk_1 (hA73.ev (i := 8) (v := .pointer (some ⟨B10, 0, none⟩))) _ rfl) ?_
    intro a74 hA74; clear hA73
    refine sx_val (v := .slice Aj5 d.js.length cj5) hA74 rfl (ev_cell (v := .slice Aj5 d.js.length cj5) (hA74.ev (i := 117) (v := .pointer (some ⟨B10, 1, none⟩))) ((b69_B10.cell 1).trans rfl) Try.underlying23 rfl _ rfl) ?_
    intro a75 hA75; clear hA74
    refine sx_val (v := .int .i64 (d.js.length : Int)) hA75 rfl (ev_len (hA75.ev (i := 118) (v := .slice Aj5 d.js.length cj5)) Try.underlying23 _ rfl) ?_
    intro a76 hA76; clear hA75
    refine sx_call (f := 17) (args := #[.agg #[.slice Ap6r12 (sub d ⟨true, (s % 8), 200, (wd (n % 1000))⟩).1.cs.length cp6r12, .slice Aj6r12 (sub d ⟨true, (s % 8), 200, (wd (n % 1000))⟩).1.js.length cj6r12, .int .i64 (sub d ⟨true, (s % 8), 200, (wd (n % 1000))⟩).1.room], .int .i64 (d.js.length : Int)]) hA76 rfl (by decide) (.inl rfl) (ev_fn rfl (mp2 (hA76.ev (i := 116) (v := .agg #[.slice Ap6r12 (sub d ⟨true, (s % 8), 200, (wd (n % 1000))⟩).1.cs.length cp6r12, .slice Aj6r12 (sub d ⟨true, (s % 8), 200, (wd (n % 1000))⟩).1.js.length cj6r12, .int .i64 (sub d ⟨true, (s % 8), 200, (wd (n % 1000))⟩).1.room])) (hA76.ev (i := 119) (v := .int .i64 (d.js.length : Int)))) (by kernel_rfl) _ rfl) (Complete_any Ap6r12 cp6r12 Aj6r12 cj6r12 (sub d ⟨true, (s % 8), 200, (wd (n % 1000))⟩).1.cs (sub d ⟨true, (s % 8), 200, (wd (n % 1000))⟩).1.js (sub d ⟨true, (s % 8), 200, (wd (n % 1000))⟩).1.room (d.js.length : Int) _ ⟨(OwnR.gr (e := 28) ⟨rfl, o69_6_0⟩), (OwnR.gr (e := 38) ⟨rfl, o69_6_1⟩)⟩ (by omega) (by omega)) ?_
    intro e77 w77 hR77
    obtain ⟨Ap77, cp77, Aj77, cj77, rfl, hC77, hJ77, hb77⟩ := hR77
    refine ⟨_, rfl, ?_⟩
    intro a77 hA77
    clear hA76
    have hg77 := g0 hb77
    have hs77 := hg77.size
    clear hb77
    have ho77_0 : Own w77 (wc69.heap.size) 28 8 (.slice Ap77 (cmp (sub d ⟨true, (s % 8), 200, (wd (n % 1000))⟩).1 (d.js.length : Int)).1.cs.length cp77) (cmp (sub d ⟨true, (s % 8), 200, (wd (n % 1000))⟩).1 (d.js.length : Int)).1.cs.length (flat Ct.va (cmp (sub d ⟨true, (s % 8), 200, (wd (n % 1000))⟩).1 (d.js.length : Int)).1.cs) := hC77.2
    have hh77_0 := Own.hi ho77_0
    have ho77_1 : Own w77 (wc69.heap.size) 38 11 (.slice Aj77 (cmp (sub d ⟨true, (s % 8), 200, (wd (n % 1000))⟩).1 (d.js.length : Int)).1.js.length cj77) (cmp (sub d ⟨true, (s % 8), 200, (wd (n % 1000))⟩).1 (d.js.length : Int)).1.js.length (flat Jb.va (cmp (sub d ⟨true, (s % 8), 200, (wd (n % 1000))⟩).1 (d.js.length : Int)).1.js) := hJ77.2
    have hh77_1 := Own.hi ho77_1
    refine sx_val hA77 rfl (ev_move (hA77.ev (i := 120) (v := .tuple #[.agg #[.slice Ap77 (cmp (sub d ⟨true, (s % 8), 200, (wd (n % 1000))⟩).1 (d.js.length : Int)).1.cs.length cp77, .slice Aj77 (cmp (sub d ⟨true, (s % 8), 200, (wd (n % 1000))⟩).1 (d.js.length : Int)).1.js.length cj77, .int .i64 (cmp (sub d ⟨true, (s % 8), 200, (wd (n % 1000))⟩).1 (d.js.length : Int)).1.room], .agg (cmp (sub d ⟨true, (s % 8), 200, (wd (n % 1000))⟩).1 (d.js.length : Int)).2.1.va, .int .i64 (cmp (sub d ⟨true, (s % 8), 200, (wd (n % 1000))⟩).1 (d.js.length : Int)).2.2])) _ rfl) ?_
    intro a78 hA78; clear hA77
    refine sx_val (v := .agg #[.slice Ap77 (cmp (sub d ⟨true, (s % 8), 200, (wd (n % 1000))⟩).1 (d.js.length : Int)).1.cs.length cp77, .slice Aj77 (cmp (sub d ⟨true, (s % 8), 200, (wd (n % 1000))⟩).1 (d.js.length : Int)).1.js.length cj77, .int .i64 (cmp (sub d ⟨true, (s % 8), 200, (wd (n % 1000))⟩).1 (d.js.length : Int)).1.room]) hA78 rfl (ev_ext (hA78.ev (i := 115) (v := .tuple #[.agg #[.slice Ap77 (cmp (sub d ⟨true, (s % 8), 200, (wd (n % 1000))⟩).1 (d.js.length : Int)).1.cs.length cp77, .slice Aj77 (cmp (sub d ⟨true, (s % 8), 200, (wd (n % 1000))⟩).1 (d.js.length : Int)).1.js.length cj77, .int .i64 (cmp (sub d ⟨true, (s % 8), 200, (wd (n % 1000))⟩).1 (d.js.length : Int)).1.room], .agg (cmp (sub d ⟨true, (s % 8), 200, (wd (n % 1000))⟩).1 (d.js.length : Int)).2.1.va, .int .i64 (cmp (sub d ⟨true, (s % 8), 200, (wd (n % 1000))⟩).1 (d.js.length : Int)).2.2])) rfl _ rfl) ?_
    intro a79 hA79; clear hA78
    refine sx_val (v := .agg (cmp (sub d ⟨true, (s % 8), 200, (wd (n % 1000))⟩).1 (d.js.length : Int)).2.1.va) hA79 rfl (ev_ext (hA79.ev (i := 115) (v := .tuple #[.agg #[.slice Ap77 (cmp (sub d ⟨true, (s % 8), 200, (wd (n % 1000))⟩).1 (d.js.length : Int)).1.cs.length cp77, .slice Aj77 (cmp (sub d ⟨true, (s % 8), 200, (wd (n % 1000))⟩).1 (d.js.length : Int)).1.js.length cj77, .int .i64 (cmp (sub d ⟨true, (s % 8), 200, (wd (n % 1000))⟩).1 (d.js.length : Int)).1.room], .agg (cmp (sub d ⟨true, (s % 8), 200, (wd (n % 1000))⟩).1 (d.js.length : Int)).2.1.va, .int .i64 (cmp (sub d ⟨true, (s % 8), 200, (wd (n % 1000))⟩).1 (d.js.length : Int)).2.2])) rfl _ rfl) ?_
    intro a80 hA80; clear hA79
    refine sx_val (v := .int .i64 (cmp (sub d ⟨true, (s % 8), 200, (wd (n % 1000))⟩).1 (d.js.length : Int)).2.2) hA80 rfl (ev_ext (hA80.ev (i := 115) (v := .tuple #[.agg #[.slice Ap77 (cmp (sub d ⟨true, (s % 8), 200, (wd (n % 1000))⟩).1 (d.js.length : Int)).1.cs.length cp77, .slice Aj77 (cmp (sub d ⟨true, (s % 8), 200, (wd (n % 1000))⟩).1 (d.js.length : Int)).1.js.length cj77, .int .i64 (cmp (sub d ⟨true, (s % 8), 200, (wd (n % 1000))⟩).1 (d.js.length : Int)).1.room], .agg (cmp (sub d ⟨true, (s % 8), 200, (wd (n % 1000))⟩).1 (d.js.length : Int)).2.1.va, .int .i64 (cmp (sub d ⟨true, (s % 8), 200, (wd (n % 1000))⟩).1 (d.js.length : Int)).2.2])) rfl _ rfl) ?_
    intro a81 hA81; clear hA80
    refine sx_new (cs := #[.slice none 0 0, .slice none 0 0, .int .i64 0]) (t := 25) hA81 rfl (by decide) (.inl rfl) (ev_alloc (z := .agg (#[.slice none 0 0, .slice none 0 0, .int .i64 0])) (by kernel_rfl) (by kernel_rfl) _ rfl) ?_
    intro B82 w82 a82 hB82 hx82 hg82 hA82
    clear hA81
    have hs82 := hg82.size
    have hl82 := hx82.lt
    refine sx_new (cs := Jb.zero.va) (t := 38) hA82 rfl (by decide) (.inl rfl) (ev_alloc (z := .agg Jb.zero.va) (by kernel_rfl) (by kernel_rfl) _ rfl) ?_
    intro B83 w83 a83 hB83 hx83 hg83 hA83
    clear hA82
    have hs83 := hg83.size
    have hl83 := hx83.lt
    have hx82_85 := hx82.gN hg83
    refine sx_store hA83 rfl (.inl rfl) rfl (hA83.ev (i := 21) (v := .pointer (some ⟨B82, 0, none⟩))) (hA83.ev (i := 121) (v := .agg #[.slice Ap77 (cmp (sub d ⟨true, (s % 8), 200, (wd (n % 1000))⟩).1 (d.js.length : Int)).1.cs.length cp77, .slice Aj77 (cmp (sub d ⟨true, (s % 8), 200, (wd (n % 1000))⟩).1 (d.js.length : Int)).1.js.length cj77, .int .i64 (cmp (sub d ⟨true, (s % 8), 200, (wd (n % 1000))⟩).1 (d.js.length : Int)).1.room])) hx82_85 (by kernel_rfl) rfl (dk_one _ _ _ _ _ _ _) ?_
    intro w84 hx84 hg84
    have hs84 := hg84.size
    have hx83_87 := hx83.gB hg84 (by omega)
    refine sx_store hA83 rfl (.inl rfl) rfl (hA83.ev (i := 22) (v := .pointer (some ⟨B83, 0, none⟩))) (hA83.ev (i := 122) (v := .agg (cmp (sub d ⟨true, (s % 8), 200, (wd (n % 1000))⟩).1 (d.js.length : Int)).2.1.va)) hx83_87 (by kernel_rfl) rfl (jb_one _) ?_
    intro w86 hx86 hg86
    have hs86 := hg86.size
    refine sx_val hA83 rfl (ev_assign (hA83.ev (i := 123) (v := .int .i64 (cmp (sub d ⟨true, (s % 8), 200, (wd (n % 1000))⟩).1 (d.js.length : Int)).2.2)) _ rfl) ?_
    intro a88 hA88; clear hA83
    refine sx_nil ?_
    refine then_n ?_
    refine wp_seq ?_
    refine wp_region_lit ?_
    have hx84_89 := hx84.gB hg86 (by omega)
    refine sx_val (v := .agg #[.slice Ap77 (cmp (sub d ⟨true, (s % 8), 200, (wd (n % 1000))⟩).1 (d.js.length : Int)).1.cs.length cp77, .slice Aj77 (cmp (sub d ⟨true, (s % 8), 200, (wd (n % 1000))⟩).1 (d.js.length : Int)).1.js.length cj77, .int .i64 (cmp (sub d ⟨true, (s % 8), 200, (wd (n % 1000))⟩).1 (d.js.length : Int)).1.room]) hA88 rfl (ev_row (hA88.ev (i := 21) (v := .pointer (some ⟨B82, 0, none⟩))) hx84_89 Try.underlying25 rfl (n := 3) (by kernel_rfl) rfl _ rfl) ?_
    intro a90 hA90; clear hA88
    refine sx_val hA90 rfl (ev_move (hA90.ev (i := 1) (v := .int .i64 (s % 8))) _ rfl) ?_
    intro a91 hA91; clear hA90
    have ho77_93 := Own.gN ho77_0 hg82
    have ho77_94 := Own.gN ho77_93 hg83
    have ho77_95 := Own.gBT ho77_94 hg84 hx82_85 (by decide)
    have ho77_96 := Own.gBT ho77_95 hg86 hx83_87 (by decide)
    have ho77_97 := Own.gN ho77_1 hg82
    have ho77_98 := Own.gN ho77_97 hg83
    have ho77_99 := Own.gBT ho77_98 hg84 hx82_85 (by decide)
    have ho77_100 := Own.gB ho77_99 hg86 hh77_1 (by omega)
    refine sx_call (f := 15) (args := #[.agg #[.slice Ap77 (cmp (sub d ⟨true, (s % 8), 200, (wd (n % 1000))⟩).1 (d.js.length : Int)).1.cs.length cp77, .slice Aj77 (cmp (sub d ⟨true, (s % 8), 200, (wd (n % 1000))⟩).1 (d.js.length : Int)).1.js.length cj77, .int .i64 (cmp (sub d ⟨true, (s % 8), 200, (wd (n % 1000))⟩).1 (d.js.length : Int)).1.room], .int .i64 (s % 8), .int .i64 201]) hA91 rfl (by decide) (.inl rfl) (ev_fn rfl (mp3 (hA91.ev (i := 125) (v := .agg #[.slice Ap77 (cmp (sub d ⟨true, (s % 8), 200, (wd (n % 1000))⟩).1 (d.js.length : Int)).1.cs.length cp77, .slice Aj77 (cmp (sub d ⟨true, (s % 8), 200, (wd (n % 1000))⟩).1 (d.js.length : Int)).1.js.length cj77, .int .i64 (cmp (sub d ⟨true, (s % 8), 200, (wd (n % 1000))⟩).1 (d.js.length : Int)).1.room])) (hA91.ev (i := 126) (v := .int .i64 (s % 8))) (ec _ (.int .i64 201))) (by kernel_rfl) _ rfl) (Read_any Ap77 cp77 Aj77 cj77 (cmp (sub d ⟨true, (s % 8), 200, (wd (n % 1000))⟩).1 (d.js.length : Int)).1.cs (cmp (sub d ⟨true, (s % 8), 200, (wd (n % 1000))⟩).1 (d.js.length : Int)).1.js (cmp (sub d ⟨true, (s % 8), 200, (wd (n % 1000))⟩).1 (d.js.length : Int)).1.room (s % 8) 201 _ ⟨(OwnR.gr (e := 28) ⟨rfl, ho77_96⟩), (OwnR.gr (e := 38) ⟨rfl, ho77_100⟩)⟩ (by omega) (by omega)) ?_
    intro e92 w92 hR92
    obtain ⟨Ap92, cp92, Aj92, cj92, rfl, hC92, hJ92, hb92⟩ := hR92
    refine ⟨_, rfl, ?_⟩
    intro a92 hA92
    clear hA91
    have hg92 := g0 hb92
    have hs92 := hg92.size
    clear hb92
    have ho92_0 : Own w92 (w86.heap.size) 28 8 (.slice Ap92 (sub (cmp (sub d ⟨true, (s % 8), 200, (wd (n % 1000))⟩).1 (d.js.length : Int)).1 ⟨false, (s % 8), 201, Ct.zero⟩).1.cs.length cp92) (sub (cmp (sub d ⟨true, (s % 8), 200, (wd (n % 1000))⟩).1 (d.js.length : Int)).1 ⟨false, (s % 8), 201, Ct.zero⟩).1.cs.length (flat Ct.va (sub (cmp (sub d ⟨true, (s % 8), 200, (wd (n % 1000))⟩).1 (d.js.length : Int)).1 ⟨false, (s % 8), 201, Ct.zero⟩).1.cs) := hC92.2
    have hh92_0 := Own.hi ho92_0
    have ho92_1 : Own w92 (w86.heap.size) 38 11 (.slice Aj92 (sub (cmp (sub d ⟨true, (s % 8), 200, (wd (n % 1000))⟩).1 (d.js.length : Int)).1 ⟨false, (s % 8), 201, Ct.zero⟩).1.js.length cj92) (sub (cmp (sub d ⟨true, (s % 8), 200, (wd (n % 1000))⟩).1 (d.js.length : Int)).1 ⟨false, (s % 8), 201, Ct.zero⟩).1.js.length (flat Jb.va (sub (cmp (sub d ⟨true, (s % 8), 200, (wd (n % 1000))⟩).1 (d.js.length : Int)).1 ⟨false, (s % 8), 201, Ct.zero⟩).1.js) := hJ92.2
    have hh92_1 := Own.hi ho92_1
    refine sx_val hA92 rfl (ev_move (hA92.ev (i := 127) (v := .tuple #[.agg #[.slice Ap92 (sub (cmp (sub d ⟨true, (s % 8), 200, (wd (n % 1000))⟩).1 (d.js.length : Int)).1 ⟨false, (s % 8), 201, Ct.zero⟩).1.cs.length cp92, .slice Aj92 (sub (cmp (sub d ⟨true, (s % 8), 200, (wd (n % 1000))⟩).1 (d.js.length : Int)).1 ⟨false, (s % 8), 201, Ct.zero⟩).1.js.length cj92, .int .i64 (sub (cmp (sub d ⟨true, (s % 8), 200, (wd (n % 1000))⟩).1 (d.js.length : Int)).1 ⟨false, (s % 8), 201, Ct.zero⟩).1.room], .int .i64 (sub (cmp (sub d ⟨true, (s % 8), 200, (wd (n % 1000))⟩).1 (d.js.length : Int)).1 ⟨false, (s % 8), 201, Ct.zero⟩).2])) _ rfl) ?_
    intro a101 hA101; clear hA92
    refine sx_val (v := .agg #[.slice Ap92 (sub (cmp (sub d ⟨true, (s % 8), 200, (wd (n % 1000))⟩).1 (d.js.length : Int)).1 ⟨false, (s % 8), 201, Ct.zero⟩).1.cs.length cp92, .slice Aj92 (sub (cmp (sub d ⟨true, (s % 8), 200, (wd (n % 1000))⟩).1 (d.js.length : Int)).1 ⟨false, (s % 8), 201, Ct.zero⟩).1.js.length cj92, .int .i64 (sub (cmp (sub d ⟨true, (s % 8), 200, (wd (n % 1000))⟩).1 (d.js.length : Int)).1 ⟨false, (s % 8), 201, Ct.zero⟩).1.room]) hA101 rfl (ev_ext (hA101.ev (i := 124) (v := .tuple #[.agg #[.slice Ap92 (sub (cmp (sub d ⟨true, (s % 8), 200, (wd (n % 1000))⟩).1 (d.js.length : Int)).1 ⟨false, (s % 8), 201, Ct.zero⟩).1.cs.length cp92, .slice Aj92 (sub (cmp (sub d ⟨true, (s % 8), 200, (wd (n % 1000))⟩).1 (d.js.length : Int)).1 ⟨false, (s % 8), 201, Ct.zero⟩).1.js.length cj92, .int .i64 (sub (cmp (sub d ⟨true, (s % 8), 200, (wd (n % 1000))⟩).1 (d.js.length : Int)).1 ⟨false, (s % 8), 201, Ct.zero⟩).1.room], .int .i64 (sub (cmp (sub d ⟨true, (s % 8), 200, (wd (n % 1000))⟩).1 (d.js.length : Int)).1 ⟨false, (s % 8), 201, Ct.zero⟩).2])) rfl _ rfl) ?_
    intro a102 hA102; clear hA101
    refine sx_val (v := .int .i64 (sub (cmp (sub d ⟨true, (s % 8), 200, (wd (n % 1000))⟩).1 (d.js.length : Int)).1 ⟨false, (s % 8), 201, Ct.zero⟩).2) hA102 rfl (ev_ext (hA102.ev (i := 124) (v := .tuple #[.agg #[.slice Ap92 (sub (cmp (sub d ⟨true, (s % 8), 200, (wd (n % 1000))⟩).1 (d.js.length : Int)).1 ⟨false, (s % 8), 201, Ct.zero⟩).1.cs.length cp92, .slice Aj92 (sub (cmp (sub d ⟨true, (s % 8), 200, (wd (n % 1000))⟩).1 (d.js.length : Int)).1 ⟨false, (s % 8), 201, Ct.zero⟩).1.js.length cj92, .int .i64 (sub (cmp (sub d ⟨true, (s % 8), 200, (wd (n % 1000))⟩).1 (d.js.length : Int)).1 ⟨false, (s % 8), 201, Ct.zero⟩).1.room], .int .i64 (sub (cmp (sub d ⟨true, (s % 8), 200, (wd (n % 1000))⟩).1 (d.js.length : Int)).1 ⟨false, (s % 8), 201, Ct.zero⟩).2])) rfl _ rfl) ?_
    intro a103 hA103; clear hA102
    refine sx_new (cs := #[.slice none 0 0, .slice none 0 0, .int .i64 0]) (t := 25) hA103 rfl (by decide) (.inl rfl) (ev_alloc (z := .agg (#[.slice none 0 0, .slice none 0 0, .int .i64 0])) (by kernel_rfl) (by kernel_rfl) _ rfl) ?_
    intro B104 w104 a104 hB104 hx104 hg104 hA104
    clear hA103
    have hs104 := hg104.size
    have hl104 := hx104.lt
    refine sx_store hA104 rfl (.inl rfl) rfl (hA104.ev (i := 24) (v := .pointer (some ⟨B104, 0, none⟩))) (hA104.ev (i := 128) (v := .agg #[.slice Ap92 (sub (cmp (sub d ⟨true, (s % 8), 200, (wd (n % 1000))⟩).1 (d.js.length : Int)).1 ⟨false, (s % 8), 201, Ct.zero⟩).1.cs.length cp92, .slice Aj92 (sub (cmp (sub d ⟨true, (s % 8), 200, (wd (n % 1000))⟩).1 (d.js.length : Int)).1 ⟨false, (s % 8), 201, Ct.zero⟩).1.js.length cj92, .int .i64 (sub (cmp (sub d ⟨true, (s % 8), 200, (wd (n % 1000))⟩).1 (d.js.length : Int)).1 ⟨false, (s % 8), 201, Ct.zero⟩).1.room])) hx104 (by kernel_rfl) rfl (dk_one _ _ _ _ _ _ _) ?_
    intro w105 hx105 hg105
    have hs105 := hg105.size
    refine sx_val hA104 rfl (ev_assign (hA104.ev (i := 129) (v := .int .i64 (sub (cmp (sub d ⟨true, (s % 8), 200, (wd (n % 1000))⟩).1 (d.js.length : Int)).1 ⟨false, (s % 8), 201, Ct.zero⟩).2)) _ rfl) ?_
    intro a106 hA106; clear hA104
    refine sx_nil ?_
    refine then_n ?_
    refine wp_seq ?_
    refine wp_region_lit ?_
    refine sx_val (v := .agg #[.slice Ap92 (sub (cmp (sub d ⟨true, (s % 8), 200, (wd (n % 1000))⟩).1 (d.js.length : Int)).1 ⟨false, (s % 8), 201, Ct.zero⟩).1.cs.length cp92, .slice Aj92 (sub (cmp (sub d ⟨true, (s % 8), 200, (wd (n % 1000))⟩).1 (d.js.length : Int)).1 ⟨false, (s % 8), 201, Ct.zero⟩).1.js.length cj92, .int .i64 (sub (cmp (sub d ⟨true, (s % 8), 200, (wd (n % 1000))⟩).1 (d.js.length : Int)).1 ⟨false, (s % 8), 201, Ct.zero⟩).1.room]) hA106 rfl (ev_row (hA106.ev (i := 24) (v := .pointer (some ⟨B104, 0, none⟩))) hx105 Try.underlying25 rfl (n := 3) (by kernel_rfl) rfl _ rfl) ?_
    intro a107 hA107; clear hA106
    refine sx_val (v := .pointer (some ⟨B10, 1, none⟩)) hA107 rfl (fb_Disk_1 (hA107.ev (i := 8) (v := .pointer (some ⟨B10, 0, none⟩))) _ rfl) ?_
    intro a108 hA108; clear hA107
    have b69_B10_109 := b69_B10.gN hg77
    have b69_B10_110 := b69_B10_109.gN hg82
    have b69_B10_111 := b69_B10_110.gN hg83
    have b69_B10_112 := b69_B10_111.gB hg84 (by omega)
    have b69_B10_113 := b69_B10_112.gB hg86 (by omega)
    have b69_B10_114 := b69_B10_113.gN hg92
    have b69_B10_115 := b69_B10_114.gN hg104
    have b69_B10_116 := b69_B10_115.gB hg105 (by omega)
    refine sx_val (v := .slice Aj5 d.js.length cj5) hA108 rfl (ev_cell (v := .slice Aj5 d.js.length cj5) (hA108.ev (i := 132) (v := .pointer (some ⟨B10, 1, none⟩))) ((b69_B10_116.cell 1).trans rfl) Try.underlying23 rfl _ rfl) ?_
    intro a117 hA117; clear hA108
    refine sx_val (v := .int .i64 (d.js.length : Int)) hA117 rfl (ev_len (hA117.ev (i := 133) (v := .slice Aj5 d.js.length cj5)) Try.underlying23 _ rfl) ?_
    intro a118 hA118; clear hA117
    have ho92_120 := Own.gN ho92_0 hg104
    have ho92_121 := Own.gBT ho92_120 hg105 hx104 (by decide)
    have ho92_122 := Own.gN ho92_1 hg104
    have ho92_123 := Own.gBT ho92_122 hg105 hx104 (by decide)
    refine sx_call (f := 17) (args := #[.agg #[.slice Ap92 (sub (cmp (sub d ⟨true, (s % 8), 200, (wd (n % 1000))⟩).1 (d.js.length : Int)).1 ⟨false, (s % 8), 201, Ct.zero⟩).1.cs.length cp92, .slice Aj92 (sub (cmp (sub d ⟨true, (s % 8), 200, (wd (n % 1000))⟩).1 (d.js.length : Int)).1 ⟨false, (s % 8), 201, Ct.zero⟩).1.js.length cj92, .int .i64 (sub (cmp (sub d ⟨true, (s % 8), 200, (wd (n % 1000))⟩).1 (d.js.length : Int)).1 ⟨false, (s % 8), 201, Ct.zero⟩).1.room], .int .i64 (d.js.length : Int)]) hA118 rfl (by decide) (.inl rfl) (ev_fn rfl (mp2 (hA118.ev (i := 131) (v := .agg #[.slice Ap92 (sub (cmp (sub d ⟨true, (s % 8), 200, (wd (n % 1000))⟩).1 (d.js.length : Int)).1 ⟨false, (s % 8), 201, Ct.zero⟩).1.cs.length cp92, .slice Aj92 (sub (cmp (sub d ⟨true, (s % 8), 200, (wd (n % 1000))⟩).1 (d.js.length : Int)).1 ⟨false, (s % 8), 201, Ct.zero⟩).1.js.length cj92, .int .i64 (sub (cmp (sub d ⟨true, (s % 8), 200, (wd (n % 1000))⟩).1 (d.js.length : Int)).1 ⟨false, (s % 8), 201, Ct.zero⟩).1.room])) (hA118.ev (i := 134) (v := .int .i64 (d.js.length : Int)))) (by kernel_rfl) _ rfl) (Complete_any Ap92 cp92 Aj92 cj92 (sub (cmp (sub d ⟨true, (s % 8), 200, (wd (n % 1000))⟩).1 (d.js.length : Int)).1 ⟨false, (s % 8), 201, Ct.zero⟩).1.cs (sub (cmp (sub d ⟨true, (s % 8), 200, (wd (n % 1000))⟩).1 (d.js.length : Int)).1 ⟨false, (s % 8), 201, Ct.zero⟩).1.js (sub (cmp (sub d ⟨true, (s % 8), 200, (wd (n % 1000))⟩).1 (d.js.length : Int)).1 ⟨false, (s % 8), 201, Ct.zero⟩).1.room (d.js.length : Int) _ ⟨(OwnR.gr (e := 28) ⟨rfl, ho92_121⟩), (OwnR.gr (e := 38) ⟨rfl, ho92_123⟩)⟩ (by omega) (by omega)) ?_
    intro e119 w119 hR119
    obtain ⟨Ap119, cp119, Aj119, cj119, rfl, hC119, hJ119, hb119⟩ := hR119
    refine ⟨_, rfl, ?_⟩
    intro a119 hA119
    clear hA118
    have hg119 := g0 hb119
    have hs119 := hg119.size
    clear hb119
    have ho119_0 : Own w119 (w105.heap.size) 28 8 (.slice Ap119 (cmp (sub (cmp (sub d ⟨true, (s % 8), 200, (wd (n % 1000))⟩).1 (d.js.length : Int)).1 ⟨false, (s % 8), 201, Ct.zero⟩).1 (d.js.length : Int)).1.cs.length cp119) (cmp (sub (cmp (sub d ⟨true, (s % 8), 200, (wd (n % 1000))⟩).1 (d.js.length : Int)).1 ⟨false, (s % 8), 201, Ct.zero⟩).1 (d.js.length : Int)).1.cs.length (flat Ct.va (cmp (sub (cmp (sub d ⟨true, (s % 8), 200, (wd (n % 1000))⟩).1 (d.js.length : Int)).1 ⟨false, (s % 8), 201, Ct.zero⟩).1 (d.js.length : Int)).1.cs) := hC119.2
    have hh119_0 := Own.hi ho119_0
    have ho119_1 : Own w119 (w105.heap.size) 38 11 (.slice Aj119 (cmp (sub (cmp (sub d ⟨true, (s % 8), 200, (wd (n % 1000))⟩).1 (d.js.length : Int)).1 ⟨false, (s % 8), 201, Ct.zero⟩).1 (d.js.length : Int)).1.js.length cj119) (cmp (sub (cmp (sub d ⟨true, (s % 8), 200, (wd (n % 1000))⟩).1 (d.js.length : Int)).1 ⟨false, (s % 8), 201, Ct.zero⟩).1 (d.js.length : Int)).1.js.length (flat Jb.va (cmp (sub (cmp (sub d ⟨true, (s % 8), 200, (wd (n % 1000))⟩).1 (d.js.length : Int)).1 ⟨false, (s % 8), 201, Ct.zero⟩).1 (d.js.length : Int)).1.js) := hJ119.2
    have hh119_1 := Own.hi ho119_1
    refine sx_val hA119 rfl (ev_move (hA119.ev (i := 135) (v := .tuple #[.agg #[.slice Ap119 (cmp (sub (cmp (sub d ⟨true, (s % 8), 200, (wd (n % 1000))⟩).1 (d.js.length : Int)).1 ⟨false, (s % 8), 201, Ct.zero⟩).1 (d.js.length : Int)).1.cs.length cp119, .slice Aj119 (cmp (sub (cmp (sub d ⟨true, (s % 8), 200, (wd (n % 1000))⟩).1 (d.js.length : Int)).1 ⟨false, (s % 8), 201, Ct.zero⟩).1 (d.js.length : Int)).1.js.length cj119, .int .i64 (cmp (sub (cmp (sub d ⟨true, (s % 8), 200, (wd (n % 1000))⟩).1 (d.js.length : Int)).1 ⟨false, (s % 8), 201, Ct.zero⟩).1 (d.js.length : Int)).1.room], .agg (cmp (sub (cmp (sub d ⟨true, (s % 8), 200, (wd (n % 1000))⟩).1 (d.js.length : Int)).1 ⟨false, (s % 8), 201, Ct.zero⟩).1 (d.js.length : Int)).2.1.va, .int .i64 (cmp (sub (cmp (sub d ⟨true, (s % 8), 200, (wd (n % 1000))⟩).1 (d.js.length : Int)).1 ⟨false, (s % 8), 201, Ct.zero⟩).1 (d.js.length : Int)).2.2])) _ rfl) ?_
    intro a124 hA124; clear hA119
    refine sx_val (v := .agg #[.slice Ap119 (cmp (sub (cmp (sub d ⟨true, (s % 8), 200, (wd (n % 1000))⟩).1 (d.js.length : Int)).1 ⟨false, (s % 8), 201, Ct.zero⟩).1 (d.js.length : Int)).1.cs.length cp119, .slice Aj119 (cmp (sub (cmp (sub d ⟨true, (s % 8), 200, (wd (n % 1000))⟩).1 (d.js.length : Int)).1 ⟨false, (s % 8), 201, Ct.zero⟩).1 (d.js.length : Int)).1.js.length cj119, .int .i64 (cmp (sub (cmp (sub d ⟨true, (s % 8), 200, (wd (n % 1000))⟩).1 (d.js.length : Int)).1 ⟨false, (s % 8), 201, Ct.zero⟩).1 (d.js.length : Int)).1.room]) hA124 rfl (ev_ext (hA124.ev (i := 130) (v := .tuple #[.agg #[.slice Ap119 (cmp (sub (cmp (sub d ⟨true, (s % 8), 200, (wd (n % 1000))⟩).1 (d.js.length : Int)).1 ⟨false, (s % 8), 201, Ct.zero⟩).1 (d.js.length : Int)).1.cs.length cp119, .slice Aj119 (cmp (sub (cmp (sub d ⟨true, (s % 8), 200, (wd (n % 1000))⟩).1 (d.js.length : Int)).1 ⟨false, (s % 8), 201, Ct.zero⟩).1 (d.js.length : Int)).1.js.length cj119, .int .i64 (cmp (sub (cmp (sub d ⟨true, (s % 8), 200, (wd (n % 1000))⟩).1 (d.js.length : Int)).1 ⟨false, (s % 8), 201, Ct.zero⟩).1 (d.js.length : Int)).1.room], .agg (cmp (sub (cmp (sub d ⟨true, (s % 8), 200, (wd (n % 1000))⟩).1 (d.js.length : Int)).1 ⟨false, (s % 8), 201, Ct.zero⟩).1 (d.js.length : Int)).2.1.va, .int .i64 (cmp (sub (cmp (sub d ⟨true, (s % 8), 200, (wd (n % 1000))⟩).1 (d.js.length : Int)).1 ⟨false, (s % 8), 201, Ct.zero⟩).1 (d.js.length : Int)).2.2])) rfl _ rfl) ?_
    intro a125 hA125; clear hA124
    refine sx_val (v := .agg (cmp (sub (cmp (sub d ⟨true, (s % 8), 200, (wd (n % 1000))⟩).1 (d.js.length : Int)).1 ⟨false, (s % 8), 201, Ct.zero⟩).1 (d.js.length : Int)).2.1.va) hA125 rfl (ev_ext (hA125.ev (i := 130) (v := .tuple #[.agg #[.slice Ap119 (cmp (sub (cmp (sub d ⟨true, (s % 8), 200, (wd (n % 1000))⟩).1 (d.js.length : Int)).1 ⟨false, (s % 8), 201, Ct.zero⟩).1 (d.js.length : Int)).1.cs.length cp119, .slice Aj119 (cmp (sub (cmp (sub d ⟨true, (s % 8), 200, (wd (n % 1000))⟩).1 (d.js.length : Int)).1 ⟨false, (s % 8), 201, Ct.zero⟩).1 (d.js.length : Int)).1.js.length cj119, .int .i64 (cmp (sub (cmp (sub d ⟨true, (s % 8), 200, (wd (n % 1000))⟩).1 (d.js.length : Int)).1 ⟨false, (s % 8), 201, Ct.zero⟩).1 (d.js.length : Int)).1.room], .agg (cmp (sub (cmp (sub d ⟨true, (s % 8), 200, (wd (n % 1000))⟩).1 (d.js.length : Int)).1 ⟨false, (s % 8), 201, Ct.zero⟩).1 (d.js.length : Int)).2.1.va, .int .i64 (cmp (sub (cmp (sub d ⟨true, (s % 8), 200, (wd (n % 1000))⟩).1 (d.js.length : Int)).1 ⟨false, (s % 8), 201, Ct.zero⟩).1 (d.js.length : Int)).2.2])) rfl _ rfl) ?_
    intro a126 hA126; clear hA125
    refine sx_val (v := .int .i64 (cmp (sub (cmp (sub d ⟨true, (s % 8), 200, (wd (n % 1000))⟩).1 (d.js.length : Int)).1 ⟨false, (s % 8), 201, Ct.zero⟩).1 (d.js.length : Int)).2.2) hA126 rfl (ev_ext (hA126.ev (i := 130) (v := .tuple #[.agg #[.slice Ap119 (cmp (sub (cmp (sub d ⟨true, (s % 8), 200, (wd (n % 1000))⟩).1 (d.js.length : Int)).1 ⟨false, (s % 8), 201, Ct.zero⟩).1 (d.js.length : Int)).1.cs.length cp119, .slice Aj119 (cmp (sub (cmp (sub d ⟨true, (s % 8), 200, (wd (n % 1000))⟩).1 (d.js.length : Int)).1 ⟨false, (s % 8), 201, Ct.zero⟩).1 (d.js.length : Int)).1.js.length cj119, .int .i64 (cmp (sub (cmp (sub d ⟨true, (s % 8), 200, (wd (n % 1000))⟩).1 (d.js.length : Int)).1 ⟨false, (s % 8), 201, Ct.zero⟩).1 (d.js.length : Int)).1.room], .agg (cmp (sub (cmp (sub d ⟨true, (s % 8), 200, (wd (n % 1000))⟩).1 (d.js.length : Int)).1 ⟨false, (s % 8), 201, Ct.zero⟩).1 (d.js.length : Int)).2.1.va, .int .i64 (cmp (sub (cmp (sub d ⟨true, (s % 8), 200, (wd (n % 1000))⟩).1 (d.js.length : Int)).1 ⟨false, (s % 8), 201, Ct.zero⟩).1 (d.js.length : Int)).2.2])) rfl _ rfl) ?_
    intro a127 hA127; clear hA126
    refine sx_new (cs := #[.slice none 0 0, .slice none 0 0, .int .i64 0]) (t := 25) hA127 rfl (by decide) (.inl rfl) (ev_alloc (z := .agg (#[.slice none 0 0, .slice none 0 0, .int .i64 0])) (by kernel_rfl) (by kernel_rfl) _ rfl) ?_
    intro B128 w128 a128 hB128 hx128 hg128 hA128
    clear hA127
    have hs128 := hg128.size
    have hl128 := hx128.lt
    refine sx_new (cs := Jb.zero.va) (t := 38) hA128 rfl (by decide) (.inl rfl) (ev_alloc (z := .agg Jb.zero.va) (by kernel_rfl) (by kernel_rfl) _ rfl) ?_
    intro B129 w129 a129 hB129 hx129 hg129 hA129
    clear hA128
    have hs129 := hg129.size
    have hl129 := hx129.lt
    have hx128_131 := hx128.gN hg129
    refine sx_store hA129 rfl (.inl rfl) rfl (hA129.ev (i := 26) (v := .pointer (some ⟨B128, 0, none⟩))) (hA129.ev (i := 136) (v := .agg #[.slice Ap119 (cmp (sub (cmp (sub d ⟨true, (s % 8), 200, (wd (n % 1000))⟩).1 (d.js.length : Int)).1 ⟨false, (s % 8), 201, Ct.zero⟩).1 (d.js.length : Int)).1.cs.length cp119, .slice Aj119 (cmp (sub (cmp (sub d ⟨true, (s % 8), 200, (wd (n % 1000))⟩).1 (d.js.length : Int)).1 ⟨false, (s % 8), 201, Ct.zero⟩).1 (d.js.length : Int)).1.js.length cj119, .int .i64 (cmp (sub (cmp (sub d ⟨true, (s % 8), 200, (wd (n % 1000))⟩).1 (d.js.length : Int)).1 ⟨false, (s % 8), 201, Ct.zero⟩).1 (d.js.length : Int)).1.room])) hx128_131 (by kernel_rfl) rfl (dk_one _ _ _ _ _ _ _) ?_
    intro w130 hx130 hg130
    have hs130 := hg130.size
    have hx129_133 := hx129.gB hg130 (by omega)
    refine sx_store hA129 rfl (.inl rfl) rfl (hA129.ev (i := 27) (v := .pointer (some ⟨B129, 0, none⟩))) (hA129.ev (i := 137) (v := .agg (cmp (sub (cmp (sub d ⟨true, (s % 8), 200, (wd (n % 1000))⟩).1 (d.js.length : Int)).1 ⟨false, (s % 8), 201, Ct.zero⟩).1 (d.js.length : Int)).2.1.va)) hx129_133 (by kernel_rfl) rfl (jb_one _) ?_
    intro w132 hx132 hg132
    have hs132 := hg132.size
    refine sx_val hA129 rfl (ev_assign (hA129.ev (i := 138) (v := .int .i64 (cmp (sub (cmp (sub d ⟨true, (s % 8), 200, (wd (n % 1000))⟩).1 (d.js.length : Int)).1 ⟨false, (s % 8), 201, Ct.zero⟩).1 (d.js.length : Int)).2.2)) _ rfl) ?_
    intro a134 hA134; clear hA129
    refine sx_nil ?_
    refine then_n ?_
    refine wp_seq ?_
    have bl69_135 := Below.gN bl69 hg77 bl69.size
    have bl69_136 := Below.gN bl69_135 hg82 bl69_135.size
    have bl69_137 := Below.gN bl69_136 hg83 bl69_136.size
    have bl69_138 := Below.gB bl69_137 hg84 bl69_137.size (by omega)
    have bl69_139 := Below.gB bl69_138 hg86 bl69_138.size (by omega)
    have bl69_140 := Below.gN bl69_139 hg92 bl69_139.size
    have bl69_141 := Below.gN bl69_140 hg104 bl69_140.size
    have bl69_142 := Below.gB bl69_141 hg105 bl69_141.size (by omega)
    have bl69_143 := Below.gN bl69_142 hg119 bl69_142.size
    have bl69_144 := Below.gN bl69_143 hg128 bl69_143.size
    have bl69_145 := Below.gN bl69_144 hg129 bl69_144.size
    have bl69_146 := Below.gB bl69_145 hg130 bl69_145.size (by omega)
    have bl69_147 := Below.gB bl69_146 hg132 bl69_146.size (by omega)
    refine region_D (n := 36) (by kernel_rfl) (by kernel_rfl) rfl (fun L ac wc => Below w.heap.size w wc ∧ w132.heap.size ≤ wc.heap.size ∧ Bx wc B129 38 (cmp (sub (cmp (sub d ⟨true, (s % 8), 200, (wd (n % 1000))⟩).1 (d.js.length : Int)).1 ⟨false, (s % 8), 201, Ct.zero⟩).1 (d.js.length : Int)).2.1.va ∧ (L 0 = true → Sv ac 139 (.bool true)) ∧ (L 1 = true → Sv ac 140 (.bool true)) ∧ (L 2 = true → Sv ac 141 (.int .i64 (fnd d (s % 8)).2)) ∧ (L 3 = true → Sv ac 142 (.bool true)) ∧ (L 4 = true → Sv ac 143 (.bool true)) ∧ (L 5 = true → Sv ac 144 (.bool true)) ∧ (L 6 = true → Sv ac 145 (.int .i64 (sub d ⟨true, (s % 8), 200, (wd (n % 1000))⟩).2)) ∧ (L 7 = true → Sv ac 146 (.bool true)) ∧ (L 8 = true → Sv ac 147 (.bool true)) ∧ (L 9 = true → Sv ac 148 (.bool true)) ∧ (L 10 = true → Sv ac 149 (.int .i64 (cmp (sub d ⟨true, (s % 8), 200, (wd (n % 1000))⟩).1 (d.js.length : Int)).2.2)) ∧ (L 11 = true → Sv ac 150 (.bool true)) ∧ (L 12 = true → Sv ac 151 (.bool true)) ∧ (L 13 = true → Sv ac 152 (.bool true)) ∧ (L 14 = true → Sv ac 153 (.int .i64 (sub (cmp (sub d ⟨true, (s % 8), 200, (wd (n % 1000))⟩).1 (d.js.length : Int)).1 ⟨false, (s % 8), 201, Ct.zero⟩).2)) ∧ (L 15 = true → Sv ac 154 (.bool true)) ∧ (L 16 = true → Sv ac 155 (.bool true)) ∧ (L 17 = true → Sv ac 156 (.bool true)) ∧ (L 18 = true → Sv ac 157 (.int .i64 (cmp (sub (cmp (sub d ⟨true, (s % 8), 200, (wd (n % 1000))⟩).1 (d.js.length : Int)).1 ⟨false, (s % 8), 201, Ct.zero⟩).1 (d.js.length : Int)).2.2)) ∧ (L 19 = true → Sv ac 158 (.bool true)) ∧ (L 20 = true → Sv ac 159 (.bool true)) ∧ (L 21 = true → Sv ac 160 (.bool true)) ∧ (L 22 = true → Sv ac 161 (.pointer (some ⟨B129, 2, none⟩))) ∧ (L 23 = true → Sv ac 162 (.int .i64 (cmp (sub (cmp (sub d ⟨true, (s % 8), 200, (wd (n % 1000))⟩).1 (d.js.length : Int)).1 ⟨false, (s % 8), 201, Ct.zero⟩).1 (d.js.length : Int)).2.1.frame)) ∧ (L 24 = true → Sv ac 163 (.bool true)) ∧ (L 25 = true → Sv ac 164 (.bool true)) ∧ (L 26 = true → Sv ac 165 (.bool true)) ∧ (L 27 = true → Sv ac 166 (.pointer (some ⟨B129, 3, none⟩))) ∧ (L 28 = true → Sv ac 167 (.agg (cmp (sub (cmp (sub d ⟨true, (s % 8), 200, (wd (n % 1000))⟩).1 (d.js.length : Int)).1 ⟨false, (s % 8), 201, Ct.zero⟩).1 (d.js.length : Int)).2.1.data.va)) ∧ (L 29 = true → Sv ac 168 (.int .i64 n)) ∧ (L 30 = true → Sv ac 169 (.int .i64 (n % 1000))) ∧ (L 31 = true → Sv ac 170 (.int .u64 (n % 1000))) ∧ (L 32 = true → Sv ac 171 (.agg (wd (n % 1000)).va)) ∧ (L 33 = true → Sv ac 172 (.bool true)) ∧ (L 34 = true → Sv ac 173 (.bool true)) ∧ (L 35 = true → Sv ac 6 (.bool true))) ⟨(Below.gN bl69_147 (gdr _) bl69_147.size), (Nat.le_refl _), (hx132.gN (gdr _)), (fun h => by cases h), (fun h => by cases h), (fun h => by cases h), (fun h => by cases h), (fun h => by cases h), (fun h => by cases h), (fun h => by cases h), (fun h => by cases h), (fun h => by cases h), (fun h => by cases h), (fun h => by cases h), (fun h => by cases h), (fun h => by cases h), (fun h => by cases h), (fun h => by cases h), (fun h => by cases h), (fun h => by cases h), (fun h => by cases h), (fun h => by cases h), (fun h => by cases h), (fun h => by cases h), (fun h => by cases h), (fun h => by cases h), (fun h => by cases h), (fun h => by cases h), (fun h => by cases h), (fun h => by cases h), (fun h => by cases h), (fun h => by cases h), (fun h => by cases h), (fun h => by cases h), (fun h => by cases h), (fun h => by cases h), (fun h => by cases h), (fun h => by cases h), (fun h => by cases h)⟩ ?_ ?_
    · intro iq hiq o ho L hL hdep ac wc hF hJ
      obtain ⟨bl, sz, b_B129, s_139, s_140, s_141, s_142, s_143, s_144, s_145, s_146, s_147, s_148, s_149, s_150, s_151, s_152, s_153, s_154, s_155, s_156, s_157, s_158, s_159, s_160, s_161, s_162, s_163, s_164, s_165, s_166, s_167, s_168, s_169, s_170, s_171, s_172, s_173, s_6⟩ := hJ
      have zq := hF.1.trans hA134.1
      match iq, hiq with
      | 0, _ =>
        obtain rfl := Option.some.inj (show some _ = some o from ho); clear ho
        have v7 := hF.sv (s := 7) (by kernel_rfl) (hA134.get (i := 7) (v := .bool true))
        refine dj_val (i := 0) (v := .bool true) rfl (.inl rfl) (ev_move v7.eval _ rfl) ?_
        exact ⟨⟨_, rfl⟩, bl, sz, b_B129, (fun _ => Sv.self (by rw [zq]; decide) _), (so s_140), (so s_141), (so s_142), (so s_143), (so s_144), (so s_145), (so s_146), (so s_147), (so s_148), (so s_149), (so s_150), (so s_151), (so s_152), (so s_153), (so s_154), (so s_155), (so s_156), (so s_157), (so s_158), (so s_159), (so s_160), (so s_161), (so s_162), (so s_163), (so s_164), (so s_165), (so s_166), (so s_167), (so s_168), (so s_169), (so s_170), (so s_171), (so s_172), (so s_173), (so s_6)⟩
      | 1, _ =>
        obtain rfl := Option.some.inj (show some _ = some o from ho); clear ho
        have v139 := s_139 (dp hdep 0)
        refine dj_val (i := 1) (v := .bool true) rfl (.inl rfl) (ev_move v139.eval _ rfl) ?_
        exact ⟨⟨_, rfl⟩, bl, sz, b_B129, (so s_139), (fun _ => Sv.self (by rw [zq]; decide) _), (so s_141), (so s_142), (so s_143), (so s_144), (so s_145), (so s_146), (so s_147), (so s_148), (so s_149), (so s_150), (so s_151), (so s_152), (so s_153), (so s_154), (so s_155), (so s_156), (so s_157), (so s_158), (so s_159), (so s_160), (so s_161), (so s_162), (so s_163), (so s_164), (so s_165), (so s_166), (so s_167), (so s_168), (so s_169), (so s_170), (so s_171), (so s_172), (so s_173), (so s_6)⟩
      | 2, _ =>
        obtain rfl := Option.some.inj (show some _ = some o from ho); clear ho
        have v140 := s_140 (dp hdep 1)
        have v13 := hF.sv (s := 13) (by kernel_rfl) (hA134.get (i := 13) (v := .int .i64 (fnd d (s % 8)).2))
        refine dj_val (i := 2) (v := .int .i64 (fnd d (s % 8)).2) rfl (.inr ⟨1, true, 140, rfl, by kernel_rfl, v140⟩) (ev_move v13.eval _ rfl) ?_
        exact ⟨⟨_, rfl⟩, bl, sz, b_B129, (so s_139), (so s_140), (fun _ => Sv.self (by rw [zq]; decide) _), (so s_142), (so s_143), (so s_144), (so s_145), (so s_146), (so s_147), (so s_148), (so s_149), (so s_150), (so s_151), (so s_152), (so s_153), (so s_154), (so s_155), (so s_156), (so s_157), (so s_158), (so s_159), (so s_160), (so s_161), (so s_162), (so s_163), (so s_164), (so s_165), (so s_166), (so s_167), (so s_168), (so s_169), (so s_170), (so s_171), (so s_172), (so s_173), (so s_6)⟩
      | 3, _ =>
        obtain rfl := Option.some.inj (show some _ = some o from ho); clear ho
        have v140 := s_140 (dp hdep 1)
        have v141 := s_141 (dp hdep 2)
        refine dj_val (i := 3) (v := .bool true) rfl (.inr ⟨1, true, 140, rfl, by kernel_rfl, v140⟩) (ev_eqlB (k := .i64) (m := (fnd d (s % 8)).2) (n := 6) v141.eval (ec ac (.int .i64 6)) (by rw [y1] <;> rfl) _ rfl) ?_
        exact ⟨⟨_, rfl⟩, bl, sz, b_B129, (so s_139), (so s_140), (so s_141), (fun _ => Sv.self (by rw [zq]; decide) _), (so s_143), (so s_144), (so s_145), (so s_146), (so s_147), (so s_148), (so s_149), (so s_150), (so s_151), (so s_152), (so s_153), (so s_154), (so s_155), (so s_156), (so s_157), (so s_158), (so s_159), (so s_160), (so s_161), (so s_162), (so s_163), (so s_164), (so s_165), (so s_166), (so s_167), (so s_168), (so s_169), (so s_170), (so s_171), (so s_172), (so s_173), (so s_6)⟩
      | 4, _ =>
        obtain rfl := Option.some.inj (show some _ = some o from ho); clear ho
        have v140 := s_140 (dp hdep 1)
        have v142 := s_142 (dp hdep 3)
        refine dj_val (i := 4) (v := .bool true) rfl (.inl rfl) (ev_pickT v140.eval v142.eval _ rfl) ?_
        exact ⟨⟨_, rfl⟩, bl, sz, b_B129, (so s_139), (so s_140), (so s_141), (so s_142), (fun _ => Sv.self (by rw [zq]; decide) _), (so s_144), (so s_145), (so s_146), (so s_147), (so s_148), (so s_149), (so s_150), (so s_151), (so s_152), (so s_153), (so s_154), (so s_155), (so s_156), (so s_157), (so s_158), (so s_159), (so s_160), (so s_161), (so s_162), (so s_163), (so s_164), (so s_165), (so s_166), (so s_167), (so s_168), (so s_169), (so s_170), (so s_171), (so s_172), (so s_173), (so s_6)⟩
      | 5, _ =>
        obtain rfl := Option.some.inj (show some _ = some o from ho); clear ho
        have v143 := s_143 (dp hdep 4)
        refine dj_val (i := 5) (v := .bool true) rfl (.inl rfl) (ev_move v143.eval _ rfl) ?_
        exact ⟨⟨_, rfl⟩, bl, sz, b_B129, (so s_139), (so s_140), (so s_141), (so s_142), (so s_143), (fun _ => Sv.self (by rw [zq]; decide) _), (so s_145), (so s_146), (so s_147), (so s_148), (so s_149), (so s_150), (so s_151), (so s_152), (so s_153), (so s_154), (so s_155), (so s_156), (so s_157), (so s_158), (so s_159), (so s_160), (so s_161), (so s_162), (so s_163), (so s_164), (so s_165), (so s_166), (so s_167), (so s_168), (so s_169), (so s_170), (so s_171), (so s_172), (so s_173), (so s_6)⟩
      | 6, _ =>
        obtain rfl := Option.some.inj (show some _ = some o from ho); clear ho
        have v144 := s_144 (dp hdep 5)
        have v20 := hF.sv (s := 20) (by kernel_rfl) (hA134.get (i := 20) (v := .int .i64 (sub d ⟨true, (s % 8), 200, (wd (n % 1000))⟩).2))
        refine dj_val (i := 6) (v := .int .i64 (sub d ⟨true, (s % 8), 200, (wd (n % 1000))⟩).2) rfl (.inr ⟨5, true, 144, rfl, by kernel_rfl, v144⟩) (ev_move v20.eval _ rfl) ?_
        exact ⟨⟨_, rfl⟩, bl, sz, b_B129, (so s_139), (so s_140), (so s_141), (so s_142), (so s_143), (so s_144), (fun _ => Sv.self (by rw [zq]; decide) _), (so s_146), (so s_147), (so s_148), (so s_149), (so s_150), (so s_151), (so s_152), (so s_153), (so s_154), (so s_155), (so s_156), (so s_157), (so s_158), (so s_159), (so s_160), (so s_161), (so s_162), (so s_163), (so s_164), (so s_165), (so s_166), (so s_167), (so s_168), (so s_169), (so s_170), (so s_171), (so s_172), (so s_173), (so s_6)⟩
      | 7, _ =>
        obtain rfl := Option.some.inj (show some _ = some o from ho); clear ho
        have v144 := s_144 (dp hdep 5)
        have v145 := s_145 (dp hdep 6)
        refine dj_val (i := 7) (v := .bool true) rfl (.inr ⟨5, true, 144, rfl, by kernel_rfl, v144⟩) (ev_eqlB (k := .i64) (m := (sub d ⟨true, (s % 8), 200, (wd (n % 1000))⟩).2) (n := 0) v145.eval (ec ac (.int .i64 0)) (by rw [z1] <;> rfl) _ rfl) ?_
        exact ⟨⟨_, rfl⟩, bl, sz, b_B129, (so s_139), (so s_140), (so s_141), (so s_142), (so s_143), (so s_144), (so s_145), (fun _ => Sv.self (by rw [zq]; decide) _), (so s_147), (so s_148), (so s_149), (so s_150), (so s_151), (so s_152), (so s_153), (so s_154), (so s_155), (so s_156), (so s_157), (so s_158), (so s_159), (so s_160), (so s_161), (so s_162), (so s_163), (so s_164), (so s_165), (so s_166), (so s_167), (so s_168), (so s_169), (so s_170), (so s_171), (so s_172), (so s_173), (so s_6)⟩
      | 8, _ =>
        obtain rfl := Option.some.inj (show some _ = some o from ho); clear ho
        have v144 := s_144 (dp hdep 5)
        have v146 := s_146 (dp hdep 7)
        refine dj_val (i := 8) (v := .bool true) rfl (.inl rfl) (ev_pickT v144.eval v146.eval _ rfl) ?_
        exact ⟨⟨_, rfl⟩, bl, sz, b_B129, (so s_139), (so s_140), (so s_141), (so s_142), (so s_143), (so s_144), (so s_145), (so s_146), (fun _ => Sv.self (by rw [zq]; decide) _), (so s_148), (so s_149), (so s_150), (so s_151), (so s_152), (so s_153), (so s_154), (so s_155), (so s_156), (so s_157), (so s_158), (so s_159), (so s_160), (so s_161), (so s_162), (so s_163), (so s_164), (so s_165), (so s_166), (so s_167), (so s_168), (so s_169), (so s_170), (so s_171), (so s_172), (so s_173), (so s_6)⟩
      | 9, _ =>
        obtain rfl := Option.some.inj (show some _ = some o from ho); clear ho
        have v147 := s_147 (dp hdep 8)
        refine dj_val (i := 9) (v := .bool true) rfl (.inl rfl) (ev_move v147.eval _ rfl) ?_
        exact ⟨⟨_, rfl⟩, bl, sz, b_B129, (so s_139), (so s_140), (so s_141), (so s_142), (so s_143), (so s_144), (so s_145), (so s_146), (so s_147), (fun _ => Sv.self (by rw [zq]; decide) _), (so s_149), (so s_150), (so s_151), (so s_152), (so s_153), (so s_154), (so s_155), (so s_156), (so s_157), (so s_158), (so s_159), (so s_160), (so s_161), (so s_162), (so s_163), (so s_164), (so s_165), (so s_166), (so s_167), (so s_168), (so s_169), (so s_170), (so s_171), (so s_172), (so s_173), (so s_6)⟩
      | 10, _ =>
        obtain rfl := Option.some.inj (show some _ = some o from ho); clear ho
        have v148 := s_148 (dp hdep 9)
        have v23 := hF.sv (s := 23) (by kernel_rfl) (hA134.get (i := 23) (v := .int .i64 (cmp (sub d ⟨true, (s % 8), 200, (wd (n % 1000))⟩).1 (d.js.length : Int)).2.2))
        refine dj_val (i := 10) (v := .int .i64 (cmp (sub d ⟨true, (s % 8), 200, (wd (n % 1000))⟩).1 (d.js.length : Int)).2.2) rfl (.inr ⟨9, true, 148, rfl, by kernel_rfl, v148⟩) (ev_move v23.eval _ rfl) ?_
        exact ⟨⟨_, rfl⟩, bl, sz, b_B129, (so s_139), (so s_140), (so s_141), (so s_142), (so s_143), (so s_144), (so s_145), (so s_146), (so s_147), (so s_148), (fun _ => Sv.self (by rw [zq]; decide) _), (so s_150), (so s_151), (so s_152), (so s_153), (so s_154), (so s_155), (so s_156), (so s_157), (so s_158), (so s_159), (so s_160), (so s_161), (so s_162), (so s_163), (so s_164), (so s_165), (so s_166), (so s_167), (so s_168), (so s_169), (so s_170), (so s_171), (so s_172), (so s_173), (so s_6)⟩
      | 11, _ =>
        obtain rfl := Option.some.inj (show some _ = some o from ho); clear ho
        have v148 := s_148 (dp hdep 9)
        have v149 := s_149 (dp hdep 10)
        refine dj_val (i := 11) (v := .bool true) rfl (.inr ⟨9, true, 148, rfl, by kernel_rfl, v148⟩) (ev_eqlB (k := .i64) (m := (cmp (sub d ⟨true, (s % 8), 200, (wd (n % 1000))⟩).1 (d.js.length : Int)).2.2) (n := 0) v149.eval (ec ac (.int .i64 0)) (by rw [z4] <;> rfl) _ rfl) ?_
        exact ⟨⟨_, rfl⟩, bl, sz, b_B129, (so s_139), (so s_140), (so s_141), (so s_142), (so s_143), (so s_144), (so s_145), (so s_146), (so s_147), (so s_148), (so s_149), (fun _ => Sv.self (by rw [zq]; decide) _), (so s_151), (so s_152), (so s_153), (so s_154), (so s_155), (so s_156), (so s_157), (so s_158), (so s_159), (so s_160), (so s_161), (so s_162), (so s_163), (so s_164), (so s_165), (so s_166), (so s_167), (so s_168), (so s_169), (so s_170), (so s_171), (so s_172), (so s_173), (so s_6)⟩
      | 12, _ =>
        obtain rfl := Option.some.inj (show some _ = some o from ho); clear ho
        have v148 := s_148 (dp hdep 9)
        have v150 := s_150 (dp hdep 11)
        refine dj_val (i := 12) (v := .bool true) rfl (.inl rfl) (ev_pickT v148.eval v150.eval _ rfl) ?_
        exact ⟨⟨_, rfl⟩, bl, sz, b_B129, (so s_139), (so s_140), (so s_141), (so s_142), (so s_143), (so s_144), (so s_145), (so s_146), (so s_147), (so s_148), (so s_149), (so s_150), (fun _ => Sv.self (by rw [zq]; decide) _), (so s_152), (so s_153), (so s_154), (so s_155), (so s_156), (so s_157), (so s_158), (so s_159), (so s_160), (so s_161), (so s_162), (so s_163), (so s_164), (so s_165), (so s_166), (so s_167), (so s_168), (so s_169), (so s_170), (so s_171), (so s_172), (so s_173), (so s_6)⟩
      | 13, _ =>
        obtain rfl := Option.some.inj (show some _ = some o from ho); clear ho
        have v151 := s_151 (dp hdep 12)
        refine dj_val (i := 13) (v := .bool true) rfl (.inl rfl) (ev_move v151.eval _ rfl) ?_
        exact ⟨⟨_, rfl⟩, bl, sz, b_B129, (so s_139), (so s_140), (so s_141), (so s_142), (so s_143), (so s_144), (so s_145), (so s_146), (so s_147), (so s_148), (so s_149), (so s_150), (so s_151), (fun _ => Sv.self (by rw [zq]; decide) _), (so s_153), (so s_154), (so s_155), (so s_156), (so s_157), (so s_158), (so s_159), (so s_160), (so s_161), (so s_162), (so s_163), (so s_164), (so s_165), (so s_166), (so s_167), (so s_168), (so s_169), (so s_170), (so s_171), (so s_172), (so s_173), (so s_6)⟩
      | 14, _ =>
        obtain rfl := Option.some.inj (show some _ = some o from ho); clear ho
        have v152 := s_152 (dp hdep 13)
        have v25 := hF.sv (s := 25) (by kernel_rfl) (hA134.get (i := 25) (v := .int .i64 (sub (cmp (sub d ⟨true, (s % 8), 200, (wd (n % 1000))⟩).1 (d.js.length : Int)).1 ⟨false, (s % 8), 201, Ct.zero⟩).2))
        refine dj_val (i := 14) (v := .int .i64 (sub (cmp (sub d ⟨true, (s % 8), 200, (wd (n % 1000))⟩).1 (d.js.length : Int)).1 ⟨false, (s % 8), 201, Ct.zero⟩).2) rfl (.inr ⟨13, true, 152, rfl, by kernel_rfl, v152⟩) (ev_move v25.eval _ rfl) ?_
        exact ⟨⟨_, rfl⟩, bl, sz, b_B129, (so s_139), (so s_140), (so s_141), (so s_142), (so s_143), (so s_144), (so s_145), (so s_146), (so s_147), (so s_148), (so s_149), (so s_150), (so s_151), (so s_152), (fun _ => Sv.self (by rw [zq]; decide) _), (so s_154), (so s_155), (so s_156), (so s_157), (so s_158), (so s_159), (so s_160), (so s_161), (so s_162), (so s_163), (so s_164), (so s_165), (so s_166), (so s_167), (so s_168), (so s_169), (so s_170), (so s_171), (so s_172), (so s_173), (so s_6)⟩
      | 15, _ =>
        obtain rfl := Option.some.inj (show some _ = some o from ho); clear ho
        have v152 := s_152 (dp hdep 13)
        have v153 := s_153 (dp hdep 14)
        refine dj_val (i := 15) (v := .bool true) rfl (.inr ⟨13, true, 152, rfl, by kernel_rfl, v152⟩) (ev_eqlB (k := .i64) (m := (sub (cmp (sub d ⟨true, (s % 8), 200, (wd (n % 1000))⟩).1 (d.js.length : Int)).1 ⟨false, (s % 8), 201, Ct.zero⟩).2) (n := 0) v153.eval (ec ac (.int .i64 0)) (by rw [z7] <;> rfl) _ rfl) ?_
        exact ⟨⟨_, rfl⟩, bl, sz, b_B129, (so s_139), (so s_140), (so s_141), (so s_142), (so s_143), (so s_144), (so s_145), (so s_146), (so s_147), (so s_148), (so s_149), (so s_150), (so s_151), (so s_152), (so s_153), (fun _ => Sv.self (by rw [zq]; decide) _), (so s_155), (so s_156), (so s_157), (so s_158), (so s_159), (so s_160), (so s_161), (so s_162), (so s_163), (so s_164), (so s_165), (so s_166), (so s_167), (so s_168), (so s_169), (so s_170), (so s_171), (so s_172), (so s_173), (so s_6)⟩
      | 16, _ =>
        obtain rfl := Option.some.inj (show some _ = some o from ho); clear ho
        have v152 := s_152 (dp hdep 13)
        have v154 := s_154 (dp hdep 15)
        refine dj_val (i := 16) (v := .bool true) rfl (.inl rfl) (ev_pickT v152.eval v154.eval _ rfl) ?_
        exact ⟨⟨_, rfl⟩, bl, sz, b_B129, (so s_139), (so s_140), (so s_141), (so s_142), (so s_143), (so s_144), (so s_145), (so s_146), (so s_147), (so s_148), (so s_149), (so s_150), (so s_151), (so s_152), (so s_153), (so s_154), (fun _ => Sv.self (by rw [zq]; decide) _), (so s_156), (so s_157), (so s_158), (so s_159), (so s_160), (so s_161), (so s_162), (so s_163), (so s_164), (so s_165), (so s_166), (so s_167), (so s_168), (so s_169), (so s_170), (so s_171), (so s_172), (so s_173), (so s_6)⟩
      | 17, _ =>
        obtain rfl := Option.some.inj (show some _ = some o from ho); clear ho
        have v155 := s_155 (dp hdep 16)
        refine dj_val (i := 17) (v := .bool true) rfl (.inl rfl) (ev_move v155.eval _ rfl) ?_
        exact ⟨⟨_, rfl⟩, bl, sz, b_B129, (so s_139), (so s_140), (so s_141), (so s_142), (so s_143), (so s_144), (so s_145), (so s_146), (so s_147), (so s_148), (so s_149), (so s_150), (so s_151), (so s_152), (so s_153), (so s_154), (so s_155), (fun _ => Sv.self (by rw [zq]; decide) _), (so s_157), (so s_158), (so s_159), (so s_160), (so s_161), (so s_162), (so s_163), (so s_164), (so s_165), (so s_166), (so s_167), (so s_168), (so s_169), (so s_170), (so s_171), (so s_172), (so s_173), (so s_6)⟩
      | 18, _ =>
        obtain rfl := Option.some.inj (show some _ = some o from ho); clear ho
        have v156 := s_156 (dp hdep 17)
        have v28 := hF.sv (s := 28) (by kernel_rfl) (hA134.get (i := 28) (v := .int .i64 (cmp (sub (cmp (sub d ⟨true, (s % 8), 200, (wd (n % 1000))⟩).1 (d.js.length : Int)).1 ⟨false, (s % 8), 201, Ct.zero⟩).1 (d.js.length : Int)).2.2))
        refine dj_val (i := 18) (v := .int .i64 (cmp (sub (cmp (sub d ⟨true, (s % 8), 200, (wd (n % 1000))⟩).1 (d.js.length : Int)).1 ⟨false, (s % 8), 201, Ct.zero⟩).1 (d.js.length : Int)).2.2) rfl (.inr ⟨17, true, 156, rfl, by kernel_rfl, v156⟩) (ev_move v28.eval _ rfl) ?_
        exact ⟨⟨_, rfl⟩, bl, sz, b_B129, (so s_139), (so s_140), (so s_141), (so s_142), (so s_143), (so s_144), (so s_145), (so s_146), (so s_147), (so s_148), (so s_149), (so s_150), (so s_151), (so s_152), (so s_153), (so s_154), (so s_155), (so s_156), (fun _ => Sv.self (by rw [zq]; decide) _), (so s_158), (so s_159), (so s_160), (so s_161), (so s_162), (so s_163), (so s_164), (so s_165), (so s_166), (so s_167), (so s_168), (so s_169), (so s_170), (so s_171), (so s_172), (so s_173), (so s_6)⟩
      | 19, _ =>
        obtain rfl := Option.some.inj (show some _ = some o from ho); clear ho
        have v156 := s_156 (dp hdep 17)
        have v157 := s_157 (dp hdep 18)
        refine dj_val (i := 19) (v := .bool true) rfl (.inr ⟨17, true, 156, rfl, by kernel_rfl, v156⟩) (ev_eqlB (k := .i64) (m := (cmp (sub (cmp (sub d ⟨true, (s % 8), 200, (wd (n % 1000))⟩).1 (d.js.length : Int)).1 ⟨false, (s % 8), 201, Ct.zero⟩).1 (d.js.length : Int)).2.2) (n := 0) v157.eval (ec ac (.int .i64 0)) (by rw [z10] <;> rfl) _ rfl) ?_
        exact ⟨⟨_, rfl⟩, bl, sz, b_B129, (so s_139), (so s_140), (so s_141), (so s_142), (so s_143), (so s_144), (so s_145), (so s_146), (so s_147), (so s_148), (so s_149), (so s_150), (so s_151), (so s_152), (so s_153), (so s_154), (so s_155), (so s_156), (so s_157), (fun _ => Sv.self (by rw [zq]; decide) _), (so s_159), (so s_160), (so s_161), (so s_162), (so s_163), (so s_164), (so s_165), (so s_166), (so s_167), (so s_168), (so s_169), (so s_170), (so s_171), (so s_172), (so s_173), (so s_6)⟩
      | 20, _ =>
        obtain rfl := Option.some.inj (show some _ = some o from ho); clear ho
        have v156 := s_156 (dp hdep 17)
        have v158 := s_158 (dp hdep 19)
        refine dj_val (i := 20) (v := .bool true) rfl (.inl rfl) (ev_pickT v156.eval v158.eval _ rfl) ?_
        exact ⟨⟨_, rfl⟩, bl, sz, b_B129, (so s_139), (so s_140), (so s_141), (so s_142), (so s_143), (so s_144), (so s_145), (so s_146), (so s_147), (so s_148), (so s_149), (so s_150), (so s_151), (so s_152), (so s_153), (so s_154), (so s_155), (so s_156), (so s_157), (so s_158), (fun _ => Sv.self (by rw [zq]; decide) _), (so s_160), (so s_161), (so s_162), (so s_163), (so s_164), (so s_165), (so s_166), (so s_167), (so s_168), (so s_169), (so s_170), (so s_171), (so s_172), (so s_173), (so s_6)⟩
      | 21, _ =>
        obtain rfl := Option.some.inj (show some _ = some o from ho); clear ho
        have v159 := s_159 (dp hdep 20)
        refine dj_val (i := 21) (v := .bool true) rfl (.inl rfl) (ev_move v159.eval _ rfl) ?_
        exact ⟨⟨_, rfl⟩, bl, sz, b_B129, (so s_139), (so s_140), (so s_141), (so s_142), (so s_143), (so s_144), (so s_145), (so s_146), (so s_147), (so s_148), (so s_149), (so s_150), (so s_151), (so s_152), (so s_153), (so s_154), (so s_155), (so s_156), (so s_157), (so s_158), (so s_159), (fun _ => Sv.self (by rw [zq]; decide) _), (so s_161), (so s_162), (so s_163), (so s_164), (so s_165), (so s_166), (so s_167), (so s_168), (so s_169), (so s_170), (so s_171), (so s_172), (so s_173), (so s_6)⟩
      | 22, _ =>
        obtain rfl := Option.some.inj (show some _ = some o from ho); clear ho
        have v160 := s_160 (dp hdep 21)
        have v27 := hF.sv (s := 27) (by kernel_rfl) (hA134.get (i := 27) (v := .pointer (some ⟨B129, 0, none⟩)))
        refine dj_val (i := 22) (v := .pointer (some ⟨B129, 2, none⟩)) rfl (.inr ⟨21, true, 160, rfl, by kernel_rfl, v160⟩) (fb_Job_2 v27.eval _ rfl) ?_
        exact ⟨⟨_, rfl⟩, bl, sz, b_B129, (so s_139), (so s_140), (so s_141), (so s_142), (so s_143), (so s_144), (so s_145), (so s_146), (so s_147), (so s_148), (so s_149), (so s_150), (so s_151), (so s_152), (so s_153), (so s_154), (so s_155), (so s_156), (so s_157), (so s_158), (so s_159), (so s_160), (fun _ => Sv.self (by rw [zq]; decide) _), (so s_162), (so s_163), (so s_164), (so s_165), (so s_166), (so s_167), (so s_168), (so s_169), (so s_170), (so s_171), (so s_172), (so s_173), (so s_6)⟩
      | 23, _ =>
        obtain rfl := Option.some.inj (show some _ = some o from ho); clear ho
        have v160 := s_160 (dp hdep 21)
        have v161 := s_161 (dp hdep 22)
        refine dj_val (i := 23) (v := .int .i64 (cmp (sub (cmp (sub d ⟨true, (s % 8), 200, (wd (n % 1000))⟩).1 (d.js.length : Int)).1 ⟨false, (s % 8), 201, Ct.zero⟩).1 (d.js.length : Int)).2.1.frame) rfl (.inr ⟨21, true, 160, rfl, by kernel_rfl, v160⟩) (ev_cell (v := .int .i64 (cmp (sub (cmp (sub d ⟨true, (s % 8), 200, (wd (n % 1000))⟩).1 (d.js.length : Int)).1 ⟨false, (s % 8), 201, Ct.zero⟩).1 (d.js.length : Int)).2.1.frame) v161.eval ((b_B129.cell 2).trans rfl) Try.underlying3 rfl _ rfl) ?_
        exact ⟨⟨_, rfl⟩, bl, sz, b_B129, (so s_139), (so s_140), (so s_141), (so s_142), (so s_143), (so s_144), (so s_145), (so s_146), (so s_147), (so s_148), (so s_149), (so s_150), (so s_151), (so s_152), (so s_153), (so s_154), (so s_155), (so s_156), (so s_157), (so s_158), (so s_159), (so s_160), (so s_161), (fun _ => Sv.self (by rw [zq]; decide) _), (so s_163), (so s_164), (so s_165), (so s_166), (so s_167), (so s_168), (so s_169), (so s_170), (so s_171), (so s_172), (so s_173), (so s_6)⟩
      | 24, _ =>
        obtain rfl := Option.some.inj (show some _ = some o from ho); clear ho
        have v160 := s_160 (dp hdep 21)
        have v162 := s_162 (dp hdep 23)
        refine dj_val (i := 24) (v := .bool true) rfl (.inr ⟨21, true, 160, rfl, by kernel_rfl, v160⟩) (ev_eqlB (k := .i64) (m := (cmp (sub (cmp (sub d ⟨true, (s % 8), 200, (wd (n % 1000))⟩).1 (d.js.length : Int)).1 ⟨false, (s % 8), 201, Ct.zero⟩).1 (d.js.length : Int)).2.1.frame) (n := 201) v162.eval (ec ac (.int .i64 201)) (by rw [z11] <;> rfl) _ rfl) ?_
        exact ⟨⟨_, rfl⟩, bl, sz, b_B129, (so s_139), (so s_140), (so s_141), (so s_142), (so s_143), (so s_144), (so s_145), (so s_146), (so s_147), (so s_148), (so s_149), (so s_150), (so s_151), (so s_152), (so s_153), (so s_154), (so s_155), (so s_156), (so s_157), (so s_158), (so s_159), (so s_160), (so s_161), (so s_162), (fun _ => Sv.self (by rw [zq]; decide) _), (so s_164), (so s_165), (so s_166), (so s_167), (so s_168), (so s_169), (so s_170), (so s_171), (so s_172), (so s_173), (so s_6)⟩
      | 25, _ =>
        obtain rfl := Option.some.inj (show some _ = some o from ho); clear ho
        have v160 := s_160 (dp hdep 21)
        have v163 := s_163 (dp hdep 24)
        refine dj_val (i := 25) (v := .bool true) rfl (.inl rfl) (ev_pickT v160.eval v163.eval _ rfl) ?_
        exact ⟨⟨_, rfl⟩, bl, sz, b_B129, (so s_139), (so s_140), (so s_141), (so s_142), (so s_143), (so s_144), (so s_145), (so s_146), (so s_147), (so s_148), (so s_149), (so s_150), (so s_151), (so s_152), (so s_153), (so s_154), (so s_155), (so s_156), (so s_157), (so s_158), (so s_159), (so s_160), (so s_161), (so s_162), (so s_163), (fun _ => Sv.self (by rw [zq]; decide) _), (so s_165), (so s_166), (so s_167), (so s_168), (so s_169), (so s_170), (so s_171), (so s_172), (so s_173), (so s_6)⟩
      | 26, _ =>
        obtain rfl := Option.some.inj (show some _ = some o from ho); clear ho
        have v164 := s_164 (dp hdep 25)
        refine dj_val (i := 26) (v := .bool true) rfl (.inl rfl) (ev_move v164.eval _ rfl) ?_
        exact ⟨⟨_, rfl⟩, bl, sz, b_B129, (so s_139), (so s_140), (so s_141), (so s_142), (so s_143), (so s_144), (so s_145), (so s_146), (so s_147), (so s_148), (so s_149), (so s_150), (so s_151), (so s_152), (so s_153), (so s_154), (so s_155), (so s_156), (so s_157), (so s_158), (so s_159), (so s_160), (so s_161), (so s_162), (so s_163), (so s_164), (fun _ => Sv.self (by rw [zq]; decide) _), (so s_166), (so s_167), (so s_168), (so s_169), (so s_170), (so s_171), (so s_172), (so s_173), (so s_6)⟩
      | 27, _ =>
        obtain rfl := Option.some.inj (show some _ = some o from ho); clear ho
        have v165 := s_165 (dp hdep 26)
        have v27 := hF.sv (s := 27) (by kernel_rfl) (hA134.get (i := 27) (v := .pointer (some ⟨B129, 0, none⟩)))
        refine dj_val (i := 27) (v := .pointer (some ⟨B129, 3, none⟩)) rfl (.inr ⟨26, true, 165, rfl, by kernel_rfl, v165⟩) (fb_Job_3 v27.eval _ rfl) ?_
        exact ⟨⟨_, rfl⟩, bl, sz, b_B129, (so s_139), (so s_140), (so s_141), (so s_142), (so s_143), (so s_144), (so s_145), (so s_146), (so s_147), (so s_148), (so s_149), (so s_150), (so s_151), (so s_152), (so s_153), (so s_154), (so s_155), (so s_156), (so s_157), (so s_158), (so s_159), (so s_160), (so s_161), (so s_162), (so s_163), (so s_164), (so s_165), (fun _ => Sv.self (by rw [zq]; decide) _), (so s_167), (so s_168), (so s_169), (so s_170), (so s_171), (so s_172), (so s_173), (so s_6)⟩
      | 28, _ =>
        obtain rfl := Option.some.inj (show some _ = some o from ho); clear ho
        have v165 := s_165 (dp hdep 26)
        have v166 := s_166 (dp hdep 27)
        refine dj_val (i := 28) (v := .agg (cmp (sub (cmp (sub d ⟨true, (s % 8), 200, (wd (n % 1000))⟩).1 (d.js.length : Int)).1 ⟨false, (s % 8), 201, Ct.zero⟩).1 (d.js.length : Int)).2.1.data.va) rfl (.inr ⟨26, true, 165, rfl, by kernel_rfl, v165⟩) (ev_loadR (cs := (cmp (sub (cmp (sub d ⟨true, (s % 8), 200, (wd (n % 1000))⟩).1 (d.js.length : Int)).1 ⟨false, (s % 8), 201, Ct.zero⟩).1 (d.js.length : Int)).2.1.data.va) (n := 8) v166.eval (jb_part b_B129) Try.underlying28 rfl (by kernel_rfl) rfl _ rfl) ?_
        exact ⟨⟨_, rfl⟩, bl, sz, b_B129, (so s_139), (so s_140), (so s_141), (so s_142), (so s_143), (so s_144), (so s_145), (so s_146), (so s_147), (so s_148), (so s_149), (so s_150), (so s_151), (so s_152), (so s_153), (so s_154), (so s_155), (so s_156), (so s_157), (so s_158), (so s_159), (so s_160), (so s_161), (so s_162), (so s_163), (so s_164), (so s_165), (so s_166), (fun _ => Sv.self (by rw [zq]; decide) _), (so s_168), (so s_169), (so s_170), (so s_171), (so s_172), (so s_173), (so s_6)⟩
      | 29, _ =>
        obtain rfl := Option.some.inj (show some _ = some o from ho); clear ho
        have v165 := s_165 (dp hdep 26)
        have v2 := hF.sv (s := 2) (by kernel_rfl) (hA134.get (i := 2) (v := .int .i64 n))
        refine dj_val (i := 29) (v := .int .i64 n) rfl (.inr ⟨26, true, 165, rfl, by kernel_rfl, v165⟩) (ev_move v2.eval _ rfl) ?_
        exact ⟨⟨_, rfl⟩, bl, sz, b_B129, (so s_139), (so s_140), (so s_141), (so s_142), (so s_143), (so s_144), (so s_145), (so s_146), (so s_147), (so s_148), (so s_149), (so s_150), (so s_151), (so s_152), (so s_153), (so s_154), (so s_155), (so s_156), (so s_157), (so s_158), (so s_159), (so s_160), (so s_161), (so s_162), (so s_163), (so s_164), (so s_165), (so s_166), (so s_167), (fun _ => Sv.self (by rw [zq]; decide) _), (so s_169), (so s_170), (so s_171), (so s_172), (so s_173), (so s_6)⟩
      | 30, _ =>
        obtain rfl := Option.some.inj (show some _ = some o from ho); clear ho
        have v165 := s_165 (dp hdep 26)
        have v168 := s_168 (dp hdep 29)
        refine dj_call (i := 30) (f := 35) (args := #[.int .i64 n, .int .i64 1000]) rfl (.inr ⟨26, true, 165, rfl, by kernel_rfl, v165⟩) (ev_fn rfl (mp2 v168.eval (ec ac (.int .i64 1000))) (by kernel_rfl) _ rfl) (Mod_any n 1000 _ (by omega) (by omega)) ?_
        intro e wk30 hR
        obtain ⟨rfl, hb30⟩ := hR
        refine ⟨_, rfl, ?_⟩
        have hg := g0 hb30
        exact ⟨⟨_, rfl⟩, (Below.gN bl hg bl.size), (Nat.le_trans sz hg.size), (b_B129.gN hg), (so s_139), (so s_140), (so s_141), (so s_142), (so s_143), (so s_144), (so s_145), (so s_146), (so s_147), (so s_148), (so s_149), (so s_150), (so s_151), (so s_152), (so s_153), (so s_154), (so s_155), (so s_156), (so s_157), (so s_158), (so s_159), (so s_160), (so s_161), (so s_162), (so s_163), (so s_164), (so s_165), (so s_166), (so s_167), (so s_168), (fun _ => Sv.self (by rw [zq]; decide) _), (so s_170), (so s_171), (so s_172), (so s_173), (so s_6)⟩
      | 31, _ =>
        obtain rfl := Option.some.inj (show some _ = some o from ho); clear ho
        have v165 := s_165 (dp hdep 26)
        have v169 := s_169 (dp hdep 30)
        refine dj_val (i := 31) (v := .int .u64 (n % 1000)) rfl (.inr ⟨26, true, 165, rfl, by kernel_rfl, v165⟩) (ev_convU (m := (n % 1000)) v169.eval (by omega) (by omega) _ rfl) ?_
        exact ⟨⟨_, rfl⟩, bl, sz, b_B129, (so s_139), (so s_140), (so s_141), (so s_142), (so s_143), (so s_144), (so s_145), (so s_146), (so s_147), (so s_148), (so s_149), (so s_150), (so s_151), (so s_152), (so s_153), (so s_154), (so s_155), (so s_156), (so s_157), (so s_158), (so s_159), (so s_160), (so s_161), (so s_162), (so s_163), (so s_164), (so s_165), (so s_166), (so s_167), (so s_168), (so s_169), (fun _ => Sv.self (by rw [zq]; decide) _), (so s_171), (so s_172), (so s_173), (so s_6)⟩
      | 32, _ =>
        obtain rfl := Option.some.inj (show some _ = some o from ho); clear ho
        have v165 := s_165 (dp hdep 26)
        have v170 := s_170 (dp hdep 31)
        refine dj_call (i := 32) (f := 33) (args := #[.int .u64 (n % 1000)]) rfl (.inr ⟨26, true, 165, rfl, by kernel_rfl, v165⟩) (ev_fn rfl (mp1 v170.eval) (by kernel_rfl) _ rfl) (word_any (n % 1000) _) ?_
        intro e wk32 hR
        obtain ⟨rfl, hb32⟩ := hR
        refine ⟨_, rfl, ?_⟩
        have hg := g0 hb32
        exact ⟨⟨_, rfl⟩, (Below.gN bl hg bl.size), (Nat.le_trans sz hg.size), (b_B129.gN hg), (so s_139), (so s_140), (so s_141), (so s_142), (so s_143), (so s_144), (so s_145), (so s_146), (so s_147), (so s_148), (so s_149), (so s_150), (so s_151), (so s_152), (so s_153), (so s_154), (so s_155), (so s_156), (so s_157), (so s_158), (so s_159), (so s_160), (so s_161), (so s_162), (so s_163), (so s_164), (so s_165), (so s_166), (so s_167), (so s_168), (so s_169), (so s_170), (fun _ => Sv.self (by rw [zq]; decide) _), (so s_172), (so s_173), (so s_6)⟩
      | 33, _ =>
        obtain rfl := Option.some.inj (show some _ = some o from ho); clear ho
        have v165 := s_165 (dp hdep 26)
        have v167 := s_167 (dp hdep 28)
        have v171 := s_171 (dp hdep 32)
        refine dj_val (i := 33) (v := .bool true) rfl (.inr ⟨26, true, 165, rfl, by kernel_rfl, v165⟩) (ev_eqCB (a := (cmp (sub (cmp (sub d ⟨true, (s % 8), 200, (wd (n % 1000))⟩).1 (d.js.length : Int)).1 ⟨false, (s % 8), 201, Ct.zero⟩).1 (d.js.length : Int)).2.1.data) (b := (wd (n % 1000))) (r := true) v167.eval v171.eval (by rw [z12]; simp) _ rfl) ?_
        exact ⟨⟨_, rfl⟩, bl, sz, b_B129, (so s_139), (so s_140), (so s_141), (so s_142), (so s_143), (so s_144), (so s_145), (so s_146), (so s_147), (so s_148), (so s_149), (so s_150), (so s_151), (so s_152), (so s_153), (so s_154), (so s_155), (so s_156), (so s_157), (so s_158), (so s_159), (so s_160), (so s_161), (so s_162), (so s_163), (so s_164), (so s_165), (so s_166), (so s_167), (so s_168), (so s_169), (so s_170), (so s_171), (fun _ => Sv.self (by rw [zq]; decide) _), (so s_173), (so s_6)⟩
      | 34, _ =>
        obtain rfl := Option.some.inj (show some _ = some o from ho); clear ho
        have v165 := s_165 (dp hdep 26)
        have v172 := s_172 (dp hdep 33)
        refine dj_val (i := 34) (v := .bool true) rfl (.inl rfl) (ev_pickT v165.eval v172.eval _ rfl) ?_
        exact ⟨⟨_, rfl⟩, bl, sz, b_B129, (so s_139), (so s_140), (so s_141), (so s_142), (so s_143), (so s_144), (so s_145), (so s_146), (so s_147), (so s_148), (so s_149), (so s_150), (so s_151), (so s_152), (so s_153), (so s_154), (so s_155), (so s_156), (so s_157), (so s_158), (so s_159), (so s_160), (so s_161), (so s_162), (so s_163), (so s_164), (so s_165), (so s_166), (so s_167), (so s_168), (so s_169), (so s_170), (so s_171), (so s_172), (fun _ => Sv.self (by rw [zq]; decide) _), (so s_6)⟩
      | 35, _ =>
        obtain rfl := Option.some.inj (show some _ = some o from ho); clear ho
        have v173 := s_173 (dp hdep 34)
        refine dj_val (i := 35) (v := .bool true) rfl (.inl rfl) (ev_assign v173.eval _ rfl) ?_
        exact ⟨⟨_, rfl⟩, bl, sz, b_B129, (so s_139), (so s_140), (so s_141), (so s_142), (so s_143), (so s_144), (so s_145), (so s_146), (so s_147), (so s_148), (so s_149), (so s_150), (so s_151), (so s_152), (so s_153), (so s_154), (so s_155), (so s_156), (so s_157), (so s_158), (so s_159), (so s_160), (so s_161), (so s_162), (so s_163), (so s_164), (so s_165), (so s_166), (so s_167), (so s_168), (so s_169), (so s_170), (so s_171), (so s_172), (so s_173), (fun _ => Sv.self (by rw [zq]; decide) _)⟩
      | k + 36, h => exact absurd h (by omega)
    · intro L hall ac148 wc148 hF hJ
      obtain ⟨bl, sz, b_B129, s_139, s_140, s_141, s_142, s_143, s_144, s_145, s_146, s_147, s_148, s_149, s_150, s_151, s_152, s_153, s_154, s_155, s_156, s_157, s_158, s_159, s_160, s_161, s_162, s_163, s_164, s_165, s_166, s_167, s_168, s_169, s_170, s_171, s_172, s_173, s_6⟩ := hJ
      have hA148 : Ag ac148 174 [(6, .bool true)] := ((Ag.nil (hF.1.trans hA134.1) (hF.2.1.trans hA134.2.1)).cons (s_6 (hall 35 (by decide))))
      have bl148 := bl
      have sz148 := sz
      have b148_B129 := b_B129
      clear hF bl sz b_B129 s_139 s_140 s_141 s_142 s_143 s_144 s_145 s_146 s_147 s_148 s_149 s_150 s_151 s_152 s_153 s_154 s_155 s_156 s_157 s_158 s_159 s_160 s_161 s_162 s_163 s_164 s_165 s_166 s_167 s_168 s_169 s_170 s_171 s_172 s_173 s_6 hall hA134
      refine then_n ?_
      refine wp_ret ?_
      refine bodyPost_ret (rs_t (v := .bool true) Try.results6 hA148 (by kernel_rfl) ) hA148.2.1 ?_
      exact ⟨rfl, bl148⟩
end Go.Proofs.Ytbkdimildnahaaa
