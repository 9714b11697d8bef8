/- The law: awake. -/
import Derived.Test.YtbkdimildnahaaaDM
namespace Go.Proofs.Ytbkdimildnahaaa
open Go.RowKit
set_option linter.unusedVariables false
set_option maxRecDepth 100000

set_option maxHeartbeats 8000000 in
theorem awake_any (w : World) : Calls Try.prog 10 #[] w (RetB w (.returned (.bool true))) := by
  have hbel0 := below0 w
  refine sx_enter (N := 72) [] Try.func10 rfl Try.ntmps10 (by simp) (fun a z d s => (Ag.nil z d)) ?_
  intro a0 hA0
  refine wp_seq ?_
  refine wp_region_lit ?_
  refine sx_val hA0 rfl (ev_assign (ec _ (.bool false)) _ rfl) ?_
  intro a1 hA1; clear hA0
  refine sx_nil ?_
  refine then_n ?_
  refine wp_seq ?_
  refine wp_region_lit ?_
  refine sx_call (f := 32) (args := #[]) hA1 rfl (by decide) (.inl rfl) (ev_fn rfl (mp0 ) (by kernel_rfl) _ rfl) (two_any _) ?_
  intro e2 w2 hR2
  obtain ⟨Ap2, cp2, Aj2, cj2, rfl, hC2, hJ2, hb2⟩ := hR2
  refine ⟨_, rfl, ?_⟩
  intro a2 hA2
  clear hA1
  have hg2 := g0 hb2
  have hs2 := hg2.size
  clear hb2
  have ho2_0 : Own w2 (w.heap.size) 28 8 (.slice Ap2 d2.cs.length cp2) d2.cs.length (flat Ct.va d2.cs) := hC2.2
  have hh2_0 := Own.hi ho2_0
  have ho2_1 : Own w2 (w.heap.size) 38 11 (.slice Aj2 d2.js.length cj2) d2.js.length (flat Jb.va d2.js) := hJ2.2
  have hh2_1 := Own.hi ho2_1
  refine sx_val hA2 rfl (ev_move (hA2.ev (i := 11) (v := .tuple #[.agg #[.slice Ap2 d2.cs.length cp2, .slice Aj2 d2.js.length cj2, .int .i64 d2.room], .bool true])) _ rfl) ?_
  intro a3 hA3; clear hA2
  refine sx_val (v := .agg #[.slice Ap2 d2.cs.length cp2, .slice Aj2 d2.js.length cj2, .int .i64 d2.room]) hA3 rfl (ev_ext (hA3.ev (i := 10) (v := .tuple #[.agg #[.slice Ap2 d2.cs.length cp2, .slice Aj2 d2.js.length cj2, .int .i64 d2.room], .bool true])) rfl _ rfl) ?_
  intro a4 hA4; clear hA3
  refine sx_val (v := .bool true) hA4 rfl (ev_ext (hA4.ev (i := 10) (v := .tuple #[.agg #[.slice Ap2 d2.cs.length cp2, .slice Aj2 d2.js.length cj2, .int .i64 d2.room], .bool true])) rfl _ rfl) ?_
  intro a5 hA5; clear hA4
  refine sx_new (cs := #[.slice none 0 0, .slice none 0 0, .int .i64 0]) (t := 25) hA5 rfl (by decide) (.inl rfl) (ev_alloc (z := .agg (#[.slice none 0 0, .slice none 0 0, .int .i64 0])) (by kernel_rfl) (by kernel_rfl) _ rfl) ?_
  intro B6 w6 a6 hB6 hx6 hg6 hA6
  clear hA5
  have hs6 := hg6.size
  have hl6 := hx6.lt
  refine sx_store hA6 rfl (.inl rfl) rfl (hA6.ev (i := 1) (v := .pointer (some ⟨B6, 0, none⟩))) (hA6.ev (i := 12) (v := .agg #[.slice Ap2 d2.cs.length cp2, .slice Aj2 d2.js.length cj2, .int .i64 d2.room])) hx6 (by kernel_rfl) rfl (dk_one _ _ _ _ _ _ _) ?_
  intro w7 hx7 hg7
  have hs7 := hg7.size
  refine sx_val hA6 rfl (ev_assign (hA6.ev (i := 13) (v := .bool true)) _ rfl) ?_
  intro a8 hA8; clear hA6
  refine sx_nil ?_
  refine then_n ?_
  refine wp_seq ?_
  refine wp_region_lit ?_
  refine sx_val (v := .agg #[.slice Ap2 d2.cs.length cp2, .slice Aj2 d2.js.length cj2, .int .i64 d2.room]) hA8 rfl (ev_row (hA8.ev (i := 1) (v := .pointer (some ⟨B6, 0, none⟩))) hx7 Try.underlying25 rfl (n := 3) (by kernel_rfl) rfl _ rfl) ?_
  intro a9 hA9; clear hA8
  have ho2_11 := Own.gN ho2_0 hg6
  have ho2_12 := Own.gBT ho2_11 hg7 hx6 (by decide)
  have ho2_13 := Own.gN ho2_1 hg6
  have ho2_14 := Own.gBT ho2_13 hg7 hx6 (by decide)
  refine sx_call (f := 28) (args := #[.agg #[.slice Ap2 d2.cs.length cp2, .slice Aj2 d2.js.length cj2, .int .i64 d2.room]]) hA9 rfl (by decide) (.inl rfl) (ev_fn rfl (mp1 (hA9.ev (i := 15) (v := .agg #[.slice Ap2 d2.cs.length cp2, .slice Aj2 d2.js.length cj2, .int .i64 d2.room]))) (by kernel_rfl) _ rfl) (Left_any Ap2 cp2 Aj2 cj2 d2.cs d2.js d2.room _ ⟨(OwnR.gr (e := 28) ⟨rfl, ho2_12⟩), (OwnR.gr (e := 38) ⟨rfl, ho2_14⟩)⟩ (by decide) (by decide)) ?_
  intro e10 w10 hR10
  obtain ⟨rfl, hb10⟩ := hR10
  refine ⟨_, rfl, ?_⟩
  intro a10 hA10
  clear hA9
  have hg10 := g0 hb10
  have hs10 := hg10.size
  clear hb10
  refine sx_val hA10 rfl (ev_move (hA10.ev (i := 16) (v := .tuple #[.int .i64 (lft d2).1, .int .i64 (lft d2).2])) _ rfl) ?_
  intro a15 hA15; clear hA10
  refine sx_val (v := .int .i64 (lft d2).1) hA15 rfl (ev_ext (hA15.ev (i := 14) (v := .tuple #[.int .i64 (lft d2).1, .int .i64 (lft d2).2])) rfl _ rfl) ?_
  intro a16 hA16; clear hA15
  refine sx_val (v := .int .i64 (lft d2).2) hA16 rfl (ev_ext (hA16.ev (i := 14) (v := .tuple #[.int .i64 (lft d2).1, .int .i64 (lft d2).2])) rfl _ rfl) ?_
  intro a17 hA17; clear hA16
  refine sx_val hA17 rfl (ev_assign (hA17.ev (i := 17) (v := .int .i64 (lft d2).1)) _ rfl) ?_
  intro a18 hA18; clear hA17
  refine sx_val hA18 rfl (ev_assign (hA18.ev (i := 18) (v := .int .i64 (lft d2).2)) _ rfl) ?_
  intro a19 hA19; clear hA18
  refine sx_nil ?_
  refine then_n ?_
  refine wp_seq ?_
  refine wp_region_lit ?_
  have hx7_20 := hx7.gN hg10
  refine sx_val (v := .agg #[.slice Ap2 d2.cs.length cp2, .slice Aj2 d2.js.length cj2, .int .i64 d2.room]) hA19 rfl (ev_row (hA19.ev (i := 1) (v := .pointer (some ⟨B6, 0, none⟩))) hx7_20 Try.underlying25 rfl (n := 3) (by kernel_rfl) rfl _ rfl) ?_
  intro a21 hA21; clear hA19
  have ho2_23 := Own.gN ho2_12 hg10
  have ho2_24 := Own.gN ho2_14 hg10
  refine sx_call (f := 30) (args := #[.agg #[.slice Ap2 d2.cs.length cp2, .slice Aj2 d2.js.length cj2, .int .i64 d2.room], .int .i64 1]) hA21 rfl (by decide) (.inl rfl) (ev_fn rfl (mp2 (hA21.ev (i := 20) (v := .agg #[.slice Ap2 d2.cs.length cp2, .slice Aj2 d2.js.length cj2, .int .i64 d2.room])) (ec _ (.int .i64 1))) (by kernel_rfl) _ rfl) (Later_any Ap2 cp2 Aj2 cj2 d2.cs d2.js d2.room 1 _ ⟨(OwnR.gr (e := 28) ⟨rfl, ho2_23⟩), (OwnR.gr (e := 38) ⟨rfl, ho2_24⟩)⟩ (by decide) (by decide)) ?_
  intro e22 w22 hR22
  obtain ⟨rfl, hb22⟩ := hR22
  refine ⟨_, rfl, ?_⟩
  intro a22 hA22
  clear hA21
  have hg22 := g0 hb22
  have hs22 := hg22.size
  clear hb22
  refine sx_val hA22 rfl (ev_move (hA22.ev (i := 21) (v := .tuple #[.agg (lat d2 1).1.va, .int .i64 (lat d2 1).2])) _ rfl) ?_
  intro a25 hA25; clear hA22
  refine sx_val (v := .agg (lat d2 1).1.va) hA25 rfl (ev_ext (hA25.ev (i := 19) (v := .tuple #[.agg (lat d2 1).1.va, .int .i64 (lat d2 1).2])) rfl _ rfl) ?_
  intro a26 hA26; clear hA25
  refine sx_val (v := .int .i64 (lat d2 1).2) hA26 rfl (ev_ext (hA26.ev (i := 19) (v := .tuple #[.agg (lat d2 1).1.va, .int .i64 (lat d2 1).2])) rfl _ rfl) ?_
  intro a27 hA27; clear hA26
  refine sx_new (cs := Ct.zero.va) (t := 28) hA27 rfl (by decide) (.inl rfl) (ev_alloc (z := .agg Ct.zero.va) (by kernel_rfl) (by kernel_rfl) _ rfl) ?_
  intro B28 w28 a28 hB28 hx28 hg28 hA28
  clear hA27
  have hs28 := hg28.size
  have hl28 := hx28.lt
  refine sx_store hA28 rfl (.inl rfl) rfl (hA28.ev (i := 5) (v := .pointer (some ⟨B28, 0, none⟩))) (hA28.ev (i := 22) (v := .agg (lat d2 1).1.va)) hx28 (by kernel_rfl) rfl (ct_one _) ?_
  intro w29 hx29 hg29
  have hs29 := hg29.size
  refine sx_val hA28 rfl (ev_assign (hA28.ev (i := 23) (v := .int .i64 (lat d2 1).2)) _ rfl) ?_
  intro a30 hA30; clear hA28
  refine sx_nil ?_
  refine then_n ?_
  refine wp_seq ?_
  refine wp_region_lit ?_
  have hx7_31 := hx7_20.gN hg22
  have hx7_32 := hx7_31.gN hg28
  have hx7_33 := hx7_32.gB hg29 (by omega)
  refine sx_val (v := .agg #[.slice Ap2 d2.cs.length cp2, .slice Aj2 d2.js.length cj2, .int .i64 d2.room]) hA30 rfl (ev_row (hA30.ev (i := 1) (v := .pointer (some ⟨B6, 0, none⟩))) hx7_33 Try.underlying25 rfl (n := 3) (by kernel_rfl) rfl _ rfl) ?_
  intro a34 hA34; clear hA30
  have ho2_36 := Own.gN ho2_23 hg22
  have ho2_37 := Own.gN ho2_36 hg28
  have ho2_38 := Own.gB ho2_37 hg29 hh2_0 (by omega)
  have ho2_39 := Own.gN ho2_24 hg22
  have ho2_40 := Own.gN ho2_39 hg28
  have ho2_41 := Own.gBT ho2_40 hg29 hx28 (by decide)
  refine sx_call (f := 17) (args := #[.agg #[.slice Ap2 d2.cs.length cp2, .slice Aj2 d2.js.length cj2, .int .i64 d2.room], .int .i64 1]) hA34 rfl (by decide) (.inl rfl) (ev_fn rfl (mp2 (hA34.ev (i := 25) (v := .agg #[.slice Ap2 d2.cs.length cp2, .slice Aj2 d2.js.length cj2, .int .i64 d2.room])) (ec _ (.int .i64 1))) (by kernel_rfl) _ rfl) (Complete_any Ap2 cp2 Aj2 cj2 d2.cs d2.js d2.room 1 _ ⟨(OwnR.gr (e := 28) ⟨rfl, ho2_38⟩), (OwnR.gr (e := 38) ⟨rfl, ho2_41⟩)⟩ (by decide) (by decide)) ?_
  intro e35 w35 hR35
  obtain ⟨Ap35, cp35, Aj35, cj35, rfl, hC35, hJ35, hb35⟩ := hR35
  refine ⟨_, rfl, ?_⟩
  intro a35 hA35
  clear hA34
  have hg35 := g0 hb35
  have hs35 := hg35.size
  clear hb35
  have ho35_0 : Own w35 (w29.heap.size) 28 8 (.slice Ap35 (cmp d2 1).1.cs.length cp35) (cmp d2 1).1.cs.length (flat Ct.va (cmp d2 1).1.cs) := hC35.2
  have hh35_0 := Own.hi ho35_0
  have ho35_1 : Own w35 (w29.heap.size) 38 11 (.slice Aj35 (cmp d2 1).1.js.length cj35) (cmp d2 1).1.js.length (flat Jb.va (cmp d2 1).1.js) := hJ35.2
  have hh35_1 := Own.hi ho35_1
  refine sx_val hA35 rfl (ev_move (hA35.ev (i := 26) (v := .tuple #[.agg #[.slice Ap35 (cmp d2 1).1.cs.length cp35, .slice Aj35 (cmp d2 1).1.js.length cj35, .int .i64 (cmp d2 1).1.room], .agg (cmp d2 1).2.1.va, .int .i64 (cmp d2 1).2.2])) _ rfl) ?_
  intro a42 hA42; clear hA35
  refine sx_val (v := .agg #[.slice Ap35 (cmp d2 1).1.cs.length cp35, .slice Aj35 (cmp d2 1).1.js.length cj35, .int .i64 (cmp d2 1).1.room]) hA42 rfl (ev_ext (hA42.ev (i := 24) (v := .tuple #[.agg #[.slice Ap35 (cmp d2 1).1.cs.length cp35, .slice Aj35 (cmp d2 1).1.js.length cj35, .int .i64 (cmp d2 1).1.room], .agg (cmp d2 1).2.1.va, .int .i64 (cmp d2 1).2.2])) rfl _ rfl) ?_
  intro a43 hA43; clear hA42
  refine sx_val (v := .agg (cmp d2 1).2.1.va) hA43 rfl (ev_ext (hA43.ev (i := 24) (v := .tuple #[.agg #[.slice Ap35 (cmp d2 1).1.cs.length cp35, .slice Aj35 (cmp d2 1).1.js.length cj35, .int .i64 (cmp d2 1).1.room], .agg (cmp d2 1).2.1.va, .int .i64 (cmp d2 1).2.2])) rfl _ rfl) ?_
  intro a44 hA44; clear hA43
  refine sx_val (v := .int .i64 (cmp d2 1).2.2) hA44 rfl (ev_ext (hA44.ev (i := 24) (v := .tuple #[.agg #[.slice Ap35 (cmp d2 1).1.cs.length cp35, .slice Aj35 (cmp d2 1).1.js.length cj35, .int .i64 (cmp d2 1).1.room], .agg (cmp d2 1).2.1.va, .int .i64 (cmp d2 1).2.2])) rfl _ rfl) ?_
  intro a45 hA45; clear hA44
  refine sx_new (cs := #[.slice none 0 0, .slice none 0 0, .int .i64 0]) (t := 25) hA45 rfl (by decide) (.inl rfl) (ev_alloc (z := .agg (#[.slice none 0 0, .slice none 0 0, .int .i64 0])) (by kernel_rfl) (by kernel_rfl) _ rfl) ?_
  intro B46 w46 a46 hB46 hx46 hg46 hA46
  clear hA45
  have hs46 := hg46.size
  have hl46 := hx46.lt
  refine sx_new (cs := Jb.zero.va) (t := 38) hA46 rfl (by decide) (.inl rfl) (ev_alloc (z := .agg Jb.zero.va) (by kernel_rfl) (by kernel_rfl) _ rfl) ?_
  intro B47 w47 a47 hB47 hx47 hg47 hA47
  clear hA46
  have hs47 := hg47.size
  have hl47 := hx47.lt
  have hx46_49 := hx46.gN hg47
  refine sx_store hA47 rfl (.inl rfl) rfl (hA47.ev (i := 7) (v := .pointer (some ⟨B46, 0, none⟩))) (hA47.ev (i := 27) (v := .agg #[.slice Ap35 (cmp d2 1).1.cs.length cp35, .slice Aj35 (cmp d2 1).1.js.length cj35, .int .i64 (cmp d2 1).1.room])) hx46_49 (by kernel_rfl) rfl (dk_one _ _ _ _ _ _ _) ?_
  intro w48 hx48 hg48
  have hs48 := hg48.size
  have hx47_51 := hx47.gB hg48 (by omega)
  refine sx_store hA47 rfl (.inl rfl) rfl (hA47.ev (i := 8) (v := .pointer (some ⟨B47, 0, none⟩))) (hA47.ev (i := 28) (v := .agg (cmp d2 1).2.1.va)) hx47_51 (by kernel_rfl) rfl (jb_one _) ?_
  intro w50 hx50 hg50
  have hs50 := hg50.size
  refine sx_val hA47 rfl (ev_assign (hA47.ev (i := 29) (v := .int .i64 (cmp d2 1).2.2)) _ rfl) ?_
  intro a52 hA52; clear hA47
  refine sx_nil ?_
  refine then_n ?_
  refine wp_seq ?_
  have ho35_53 := Own.gN ho35_1 hg46
  have ho35_54 := Own.gN ho35_53 hg47
  have ho35_55 := Own.gBT ho35_54 hg48 hx46_49 (by decide)
  have ho35_56 := Own.gB ho35_55 hg50 hh35_1 (by omega)
  obtain ⟨adz, hAdz⟩ := GR.adr (OwnR.gr (e := 38) ⟨rfl, ho35_56⟩) jb_sz (k := 0) (x := ⟨true, 1, 5, wd 1⟩) (by kernel_rfl)
  have hx29_57 := hx29.gN hg35
  have hx29_58 := hx29_57.gN hg46
  have hx29_59 := hx29_58.gN hg47
  have hx29_60 := hx29_59.gB hg48 (by omega)
  have hx29_61 := hx29_60.gB hg50 (by omega)
  have hx48_62 := hx48.gB hg50 (by omega)
  have ho35_63 := Own.gN ho35_0 hg46
  have ho35_64 := Own.gN ho35_63 hg47
  have ho35_65 := Own.gBT ho35_64 hg48 hx46_49 (by decide)
  have ho35_66 := Own.gBT ho35_65 hg50 hx47_51 (by decide)
  have hbel0_67 := Below.gN hbel0 hg2 hbel0.size
  have hbel0_68 := Below.gN hbel0_67 hg6 hbel0_67.size
  have hbel0_69 := Below.gB hbel0_68 hg7 hbel0_68.size (by omega)
  have hbel0_70 := Below.gN hbel0_69 hg10 hbel0_69.size
  have hbel0_71 := Below.gN hbel0_70 hg22 hbel0_70.size
  have hbel0_72 := Below.gN hbel0_71 hg28 hbel0_71.size
  have hbel0_73 := Below.gB hbel0_72 hg29 hbel0_72.size (by omega)
  have hbel0_74 := Below.gN hbel0_73 hg35 hbel0_73.size
  have hbel0_75 := Below.gN hbel0_74 hg46 hbel0_74.size
  have hbel0_76 := Below.gN hbel0_75 hg47 hbel0_75.size
  have hbel0_77 := Below.gB hbel0_76 hg48 hbel0_76.size (by omega)
  have hbel0_78 := Below.gB hbel0_77 hg50 hbel0_77.size (by omega)
  refine region_D (n := 43) (by kernel_rfl) (by kernel_rfl) rfl (fun L ac wc => Below w.heap.size w wc ∧ w50.heap.size ≤ wc.heap.size ∧ Bx wc B28 28 (lat d2 1).1.va ∧ Bx wc B46 25 (#[.slice Ap35 (cmp d2 1).1.cs.length cp35, .slice Aj35 (cmp d2 1).1.js.length cj35, .int .i64 (cmp d2 1).1.room]) ∧ Bx wc B47 38 (cmp d2 1).2.1.va ∧ Own wc (w29.heap.size) 28 8 (.slice Ap35 (cmp d2 1).1.cs.length cp35) (cmp d2 1).1.cs.length (flat Ct.va (cmp d2 1).1.cs) ∧ Own wc (w29.heap.size) 38 11 (.slice Aj35 (cmp d2 1).1.js.length cj35) (cmp d2 1).1.js.length (flat Jb.va (cmp d2 1).1.js) ∧ (L 0 = true → Sv ac 30 (.bool true)) ∧ (L 1 = true → Sv ac 31 (.bool true)) ∧ (L 2 = true → Sv ac 32 (.int .i64 (lft d2).2)) ∧ (L 3 = true → Sv ac 33 (.bool true)) ∧ (L 4 = true → Sv ac 34 (.bool true)) ∧ (L 5 = true → Sv ac 35 (.bool true)) ∧ (L 6 = true → Sv ac 36 (.int .i64 (lft d2).1)) ∧ (L 7 = true → Sv ac 37 (.bool true)) ∧ (L 8 = true → Sv ac 38 (.bool true)) ∧ (L 9 = true → Sv ac 39 (.bool true)) ∧ (L 10 = true → Sv ac 40 (.int .i64 (lat d2 1).2)) ∧ (L 11 = true → Sv ac 41 (.bool true)) ∧ (L 12 = true → Sv ac 42 (.bool true)) ∧ (L 13 = true → Sv ac 43 (.bool true)) ∧ (L 14 = true → Sv ac 44 (.agg (lat d2 1).1.va)) ∧ (L 15 = true → Sv ac 45 (.agg (wd 1).va)) ∧ (L 16 = true → Sv ac 46 (.bool true)) ∧ (L 17 = true → Sv ac 47 (.bool true)) ∧ (L 18 = true → Sv ac 48 (.bool true)) ∧ (L 19 = true → Sv ac 49 (.int .i64 (cmp d2 1).2.2)) ∧ (L 20 = true → Sv ac 50 (.bool true)) ∧ (L 21 = true → Sv ac 51 (.bool true)) ∧ (L 22 = true → Sv ac 52 (.bool true)) ∧ (L 23 = true → Sv ac 53 (.agg (cmp d2 1).2.1.va)) ∧ (L 24 = true → Sv ac 54 (.agg (Jb.va ⟨false, 0, 6, Ct.zero⟩))) ∧ (L 25 = true → Sv ac 55 (.bool true)) ∧ (L 26 = true → Sv ac 56 (.bool true)) ∧ (L 27 = true → Sv ac 57 (.bool true)) ∧ (L 28 = true → Sv ac 58 (.pointer (some ⟨B46, 1, none⟩))) ∧ (L 29 = true → Sv ac 59 (.slice Aj35 (cmp d2 1).1.js.length cj35)) ∧ (L 30 = true → Sv ac 60 (.int .i64 ((cmp d2 1).1.js.length : Int))) ∧ (L 31 = true → Sv ac 61 (.bool true)) ∧ (L 32 = true → Sv ac 62 (.bool true)) ∧ (L 33 = true → Sv ac 63 (.bool true)) ∧ (L 34 = true → Sv ac 64 (.pointer (some ⟨B46, 1, none⟩))) ∧ (L 35 = true → Sv ac 65 (.slice Aj35 (cmp d2 1).1.js.length cj35)) ∧ (L 36 = true → Sv ac 66 (.pointer (some (adz.add (0 * 11))))) ∧ (L 37 = true → Sv ac 67 (.agg (⟨true, 1, 5, wd 1⟩ : Jb).va)) ∧ (L 38 = true → Sv ac 68 (.agg (wd 1).va)) ∧ (L 39 = true → Sv ac 69 (.agg (Jb.va ⟨true, 1, 5, (wd 1)⟩))) ∧ (L 40 = true → Sv ac 70 (.bool true)) ∧ (L 41 = true → Sv ac 71 (.bool true)) ∧ (L 42 = true → Sv ac 0 (.bool true))) ⟨(Below.gN hbel0_78 (gdr _) hbel0_78.size), (Nat.le_refl _), (hx29_61.gN (gdr _)), (hx48_62.gN (gdr _)), (hx50.gN (gdr _)), (Own.gN ho35_66 (gdr _)), (Own.gN ho35_56 (gdr _)), (fun h => by cases h), (fun h => by cases h), (fun h => by cases h), (fun h => by cases h), (fun h => by cases h), (fun h => by cases h), (fun h => by cases h), (fun h => by cases h), (fun h => by cases h), (fun h => by cases h), (fun h => by cases h), (fun h => by cases h), (fun h => by cases h), (fun h => by cases h), (fun h => by cases h), (fun h => by cases h), (fun h => by cases h), (fun h => by cases h), (fun h => by cases h), (fun h => by cases h), (fun h => by cases h), (fun h => by cases h), (fun h => by cases h), (fun h => by cases h), (fun h => by cases h), (fun h => by cases h), (fun h => by cases h), (fun h => by cases h), (fun h => by cases h), (fun h => by cases h), (fun h => by cases h), (fun h => by cases h), (fun h => by cases h), (fun h => by cases h), (fun h => by cases h), (fun h => by cases h), (fun h => by cases h), (fun h => by cases h), (fun h => by cases h), (fun h => by cases h), (fun h => by cases h), (fun h => by cases h), (fun h => by cases h)⟩ ?_ ?_
  · intro iq hiq o ho L hL hdep ac wc hF hJ
    obtain ⟨bl, sz, b_B28, b_B46, b_B47, p_0, p_1, s_30, s_31, s_32, s_33, s_34, s_35, s_36, s_37, s_38, s_39, s_40, s_41, s_42, s_43, s_44, s_45, s_46, s_47, s_48, s_49, s_50, s_51, s_52, s_53, s_54, s_55, s_56, s_57, s_58, s_59, s_60, s_61, s_62, s_63, s_64, s_65, s_66, s_67, s_68, s_69, s_70, s_71, s_0⟩ := hJ
    have z := hF.1.trans hA52.1
    match iq, hiq with
    | 0, _ =>
      obtain rfl := Option.some.inj (show some _ = some o from ho); clear ho
      have v2 := hF.sv (s := 2) (by kernel_rfl) (hA52.get (i := 2) (v := .bool true))
      refine dj_val (i := 0) (v := .bool true) rfl (.inl rfl) (ev_move v2.eval _ rfl) ?_
      exact ⟨⟨_, rfl⟩, bl, sz, b_B28, b_B46, b_B47, p_0, p_1, (fun _ => Sv.self (by rw [z]; decide) _), (so s_31), (so s_32), (so s_33), (so s_34), (so s_35), (so s_36), (so s_37), (so s_38), (so s_39), (so s_40), (so s_41), (so s_42), (so s_43), (so s_44), (so s_45), (so s_46), (so s_47), (so s_48), (so s_49), (so s_50), (so s_51), (so s_52), (so s_53), (so s_54), (so s_55), (so s_56), (so s_57), (so s_58), (so s_59), (so s_60), (so s_61), (so s_62), (so s_63), (so s_64), (so s_65), (so s_66), (so s_67), (so s_68), (so s_69), (so s_70), (so s_71), (so s_0)⟩
    | 1, _ =>
      obtain rfl := Option.some.inj (show some _ = some o from ho); clear ho
      have v30 := s_30 (dp hdep 0)
      refine dj_val (i := 1) (v := .bool true) rfl (.inl rfl) (ev_move v30.eval _ rfl) ?_
      exact ⟨⟨_, rfl⟩, bl, sz, b_B28, b_B46, b_B47, p_0, p_1, (so s_30), (fun _ => Sv.self (by rw [z]; decide) _), (so s_32), (so s_33), (so s_34), (so s_35), (so s_36), (so s_37), (so s_38), (so s_39), (so s_40), (so s_41), (so s_42), (so s_43), (so s_44), (so s_45), (so s_46), (so s_47), (so s_48), (so s_49), (so s_50), (so s_51), (so s_52), (so s_53), (so s_54), (so s_55), (so s_56), (so s_57), (so s_58), (so s_59), (so s_60), (so s_61), (so s_62), (so s_63), (so s_64), (so s_65), (so s_66), (so s_67), (so s_68), (so s_69), (so s_70), (so s_71), (so s_0)⟩
    | 2, _ =>
      obtain rfl := Option.some.inj (show some _ = some o from ho); clear ho
      have v31 := s_31 (dp hdep 1)
      have v4 := hF.sv (s := 4) (by kernel_rfl) (hA52.get (i := 4) (v := .int .i64 (lft d2).2))
      refine dj_val (i := 2) (v := .int .i64 (lft d2).2) rfl (.inr ⟨1, true, 31, rfl, by kernel_rfl, v31⟩) (ev_move v4.eval _ rfl) ?_
      exact ⟨⟨_, rfl⟩, bl, sz, b_B28, b_B46, b_B47, p_0, p_1, (so s_30), (so s_31), (fun _ => Sv.self (by rw [z]; decide) _), (so s_33), (so s_34), (so s_35), (so s_36), (so s_37), (so s_38), (so s_39), (so s_40), (so s_41), (so s_42), (so s_43), (so s_44), (so s_45), (so s_46), (so s_47), (so s_48), (so s_49), (so s_50), (so s_51), (so s_52), (so s_53), (so s_54), (so s_55), (so s_56), (so s_57), (so s_58), (so s_59), (so s_60), (so s_61), (so s_62), (so s_63), (so s_64), (so s_65), (so s_66), (so s_67), (so s_68), (so s_69), (so s_70), (so s_71), (so s_0)⟩
    | 3, _ =>
      obtain rfl := Option.some.inj (show some _ = some o from ho); clear ho
      have v31 := s_31 (dp hdep 1)
      have v32 := s_32 (dp hdep 2)
      refine dj_val (i := 3) (v := .bool true) rfl (.inr ⟨1, true, 31, rfl, by kernel_rfl, v31⟩) (ev_eqlB (k := .i64) (m := (lft d2).2) (n := 0) v32.eval (ec ac (.int .i64 0)) (by kernel_rfl) _ rfl) ?_
      exact ⟨⟨_, rfl⟩, bl, sz, b_B28, b_B46, b_B47, p_0, p_1, (so s_30), (so s_31), (so s_32), (fun _ => Sv.self (by rw [z]; decide) _), (so s_34), (so s_35), (so s_36), (so s_37), (so s_38), (so s_39), (so s_40), (so s_41), (so s_42), (so s_43), (so s_44), (so s_45), (so s_46), (so s_47), (so s_48), (so s_49), (so s_50), (so s_51), (so s_52), (so s_53), (so s_54), (so s_55), (so s_56), (so s_57), (so s_58), (so s_59), (so s_60), (so s_61), (so s_62), (so s_63), (so s_64), (so s_65), (so s_66), (so s_67), (so s_68), (so s_69), (so s_70), (so s_71), (so s_0)⟩
    | 4, _ =>
      obtain rfl := Option.some.inj (show some _ = some o from ho); clear ho
      have v31 := s_31 (dp hdep 1)
      have v33 := s_33 (dp hdep 3)
      refine dj_val (i := 4) (v := .bool true) rfl (.inl rfl) (ev_pickT v31.eval v33.eval _ rfl) ?_
      exact ⟨⟨_, rfl⟩, bl, sz, b_B28, b_B46, b_B47, p_0, p_1, (so s_30), (so s_31), (so s_32), (so s_33), (fun _ => Sv.self (by rw [z]; decide) _), (so s_35), (so s_36), (so s_37), (so s_38), (so s_39), (so s_40), (so s_41), (so s_42), (so s_43), (so s_44), (so s_45), (so s_46), (so s_47), (so s_48), (so s_49), (so s_50), (so s_51), (so s_52), (so s_53), (so s_54), (so s_55), (so s_56), (so s_57), (so s_58), (so s_59), (so s_60), (so s_61), (so s_62), (so s_63), (so s_64), (so s_65), (so s_66), (so s_67), (so s_68), (so s_69), (so s_70), (so s_71), (so s_0)⟩
    | 5, _ =>
      obtain rfl := Option.some.inj (show some _ = some o from ho); clear ho
      have v34 := s_34 (dp hdep 4)
      refine dj_val (i := 5) (v := .bool true) rfl (.inl rfl) (ev_move v34.eval _ rfl) ?_
      exact ⟨⟨_, rfl⟩, bl, sz, b_B28, b_B46, b_B47, p_0, p_1, (so s_30), (so s_31), (so s_32), (so s_33), (so s_34), (fun _ => Sv.self (by rw [z]; decide) _), (so s_36), (so s_37), (so s_38), (so s_39), (so s_40), (so s_41), (so s_42), (so s_43), (so s_44), (so s_45), (so s_46), (so s_47), (so s_48), (so s_49), (so s_50), (so s_51), (so s_52), (so s_53), (so s_54), (so s_55), (so s_56), (so s_57), (so s_58), (so s_59), (so s_60), (so s_61), (so s_62), (so s_63), (so s_64), (so s_65), (so s_66), (so s_67), (so s_68), (so s_69), (so s_70), (so s_71), (so s_0)⟩
    | 6, _ =>
      obtain rfl := Option.some.inj (show some _ = some o from ho); clear ho
      have v35 := s_35 (dp hdep 5)
      have v3 := hF.sv (s := 3) (by kernel_rfl) (hA52.get (i := 3) (v := .int .i64 (lft d2).1))
      refine dj_val (i := 6) (v := .int .i64 (lft d2).1) rfl (.inr ⟨5, true, 35, rfl, by kernel_rfl, v35⟩) (ev_move v3.eval _ rfl) ?_
      exact ⟨⟨_, rfl⟩, bl, sz, b_B28, b_B46, b_B47, p_0, p_1, (so s_30), (so s_31), (so s_32), (so s_33), (so s_34), (so s_35), (fun _ => Sv.self (by rw [z]; decide) _), (so s_37), (so s_38), (so s_39), (so s_40), (so s_41), (so s_42), (so s_43), (so s_44), (so s_45), (so s_46), (so s_47), (so s_48), (so s_49), (so s_50), (so s_51), (so s_52), (so s_53), (so s_54), (so s_55), (so s_56), (so s_57), (so s_58), (so s_59), (so s_60), (so s_61), (so s_62), (so s_63), (so s_64), (so s_65), (so s_66), (so s_67), (so s_68), (so s_69), (so s_70), (so s_71), (so s_0)⟩
    | 7, _ =>
      obtain rfl := Option.some.inj (show some _ = some o from ho); clear ho
      have v35 := s_35 (dp hdep 5)
      have v36 := s_36 (dp hdep 6)
      refine dj_val (i := 7) (v := .bool true) rfl (.inr ⟨5, true, 35, rfl, by kernel_rfl, v35⟩) (ev_eqlB (k := .i64) (m := (lft d2).1) (n := 0) v36.eval (ec ac (.int .i64 0)) (by kernel_rfl) _ rfl) ?_
      exact ⟨⟨_, rfl⟩, bl, sz, b_B28, b_B46, b_B47, p_0, p_1, (so s_30), (so s_31), (so s_32), (so s_33), (so s_34), (so s_35), (so s_36), (fun _ => Sv.self (by rw [z]; decide) _), (so s_38), (so s_39), (so s_40), (so s_41), (so s_42), (so s_43), (so s_44), (so s_45), (so s_46), (so s_47), (so s_48), (so s_49), (so s_50), (so s_51), (so s_52), (so s_53), (so s_54), (so s_55), (so s_56), (so s_57), (so s_58), (so s_59), (so s_60), (so s_61), (so s_62), (so s_63), (so s_64), (so s_65), (so s_66), (so s_67), (so s_68), (so s_69), (so s_70), (so s_71), (so s_0)⟩
    | 8, _ =>
      obtain rfl := Option.some.inj (show some _ = some o from ho); clear ho
      have v35 := s_35 (dp hdep 5)
      have v37 := s_37 (dp hdep 7)
      refine dj_val (i := 8) (v := .bool true) rfl (.inl rfl) (ev_pickT v35.eval v37.eval _ rfl) ?_
      exact ⟨⟨_, rfl⟩, bl, sz, b_B28, b_B46, b_B47, p_0, p_1, (so s_30), (so s_31), (so s_32), (so s_33), (so s_34), (so s_35), (so s_36), (so s_37), (fun _ => Sv.self (by rw [z]; decide) _), (so s_39), (so s_40), (so s_41), (so s_42), (so s_43), (so s_44), (so s_45), (so s_46), (so s_47), (so s_48), (so s_49), (so s_50), (so s_51), (so s_52), (so s_53), (so s_54), (so s_55), (so s_56), (so s_57), (so s_58), (so s_59), (so s_60), (so s_61), (so s_62), (so s_63), (so s_64), (so s_65), (so s_66), (so s_67), (so s_68), (so s_69), (so s_70), (so s_71), (so s_0)⟩
    | 9, _ =>
      obtain rfl := Option.some.inj (show some _ = some o from ho); clear ho
      have v38 := s_38 (dp hdep 8)
      refine dj_val (i := 9) (v := .bool true) rfl (.inl rfl) (ev_move v38.eval _ rfl) ?_
      exact ⟨⟨_, rfl⟩, bl, sz, b_B28, b_B46, b_B47, p_0, p_1, (so s_30), (so s_31), (so s_32), (so s_33), (so s_34), (so s_35), (so s_36), (so s_37), (so s_38), (fun _ => Sv.self (by rw [z]; decide) _), (so s_40), (so s_41), (so s_42), (so s_43), (so s_44), (so s_45), (so s_46), (so s_47), (so s_48), (so s_49), (so s_50), (so s_51), (so s_52), (so s_53), (so s_54), (so s_55), (so s_56), (so s_57), (so s_58), (so s_59), (so s_60), (so s_61), (so s_62), (so s_63), (so s_64), (so s_65), (so s_66), (so s_67), (so s_68), (so s_69), (so s_70), (so s_71), (so s_0)⟩
    | 10, _ =>
      obtain rfl := Option.some.inj (show some _ = some o from ho); clear ho
      have v39 := s_39 (dp hdep 9)
      have v6 := hF.sv (s := 6) (by kernel_rfl) (hA52.get (i := 6) (v := .int .i64 (lat d2 1).2))
      refine dj_val (i := 10) (v := .int .i64 (lat d2 1).2) rfl (.inr ⟨9, true, 39, rfl, by kernel_rfl, v39⟩) (ev_move v6.eval _ rfl) ?_
      exact ⟨⟨_, rfl⟩, bl, sz, b_B28, b_B46, b_B47, p_0, p_1, (so s_30), (so s_31), (so s_32), (so s_33), (so s_34), (so s_35), (so s_36), (so s_37), (so s_38), (so s_39), (fun _ => Sv.self (by rw [z]; decide) _), (so s_41), (so s_42), (so s_43), (so s_44), (so s_45), (so s_46), (so s_47), (so s_48), (so s_49), (so s_50), (so s_51), (so s_52), (so s_53), (so s_54), (so s_55), (so s_56), (so s_57), (so s_58), (so s_59), (so s_60), (so s_61), (so s_62), (so s_63), (so s_64), (so s_65), (so s_66), (so s_67), (so s_68), (so s_69), (so s_70), (so s_71), (so s_0)⟩
    | 11, _ =>
      obtain rfl := Option.some.inj (show some _ = some o from ho); clear ho
      have v39 := s_39 (dp hdep 9)
      have v40 := s_40 (dp hdep 10)
      refine dj_val (i := 11) (v := .bool true) rfl (.inr ⟨9, true, 39, rfl, by kernel_rfl, v39⟩) (ev_eqlB (k := .i64) (m := (lat d2 1).2) (n := 0) v40.eval (ec ac (.int .i64 0)) (by kernel_rfl) _ rfl) ?_
      exact ⟨⟨_, rfl⟩, bl, sz, b_B28, b_B46, b_B47, p_0, p_1, (so s_30), (so s_31), (so s_32), (so s_33), (so s_34), (so s_35), (so s_36), (so s_37), (so s_38), (so s_39), (so s_40), (fun _ => Sv.self (by rw [z]; decide) _), (so s_42), (so s_43), (so s_44), (so s_45), (so s_46), (so s_47), (so s_48), (so s_49), (so s_50), (so s_51), (so s_52), (so s_53), (so s_54), (so s_55), (so s_56), (so s_57), (so s_58), (so s_59), (so s_60), (so s_61), (so s_62), (so s_63), (so s_64), (so s_65), (so s_66), (so s_67), (so s_68), (so s_69), (so s_70), (so s_71), (so s_0)⟩
    | 12, _ =>
      obtain rfl := Option.some.inj (show some _ = some o from ho); clear ho
      have v39 := s_39 (dp hdep 9)
      have v41 := s_41 (dp hdep 11)
      refine dj_val (i := 12) (v := .bool true) rfl (.inl rfl) (ev_pickT v39.eval v41.eval _ rfl) ?_
      exact ⟨⟨_, rfl⟩, bl, sz, b_B28, b_B46, b_B47, p_0, p_1, (so s_30), (so s_31), (so s_32), (so s_33), (so s_34), (so s_35), (so s_36), (so s_37), (so s_38), (so s_39), (so s_40), (so s_41), (fun _ => Sv.self (by rw [z]; decide) _), (so s_43), (so s_44), (so s_45), (so s_46), (so s_47), (so s_48), (so s_49), (so s_50), (so s_51), (so s_52), (so s_53), (so s_54), (so s_55), (so s_56), (so s_57), (so s_58), (so s_59), (so s_60), (so s_61), (so s_62), (so s_63), (so s_64), (so s_65), (so s_66), (so s_67), (so s_68), (so s_69), (so s_70), (so s_71), (so s_0)⟩
    | 13, _ =>
      obtain rfl := Option.some.inj (show some _ = some o from ho); clear ho
      have v42 := s_42 (dp hdep 12)
      refine dj_val (i := 13) (v := .bool true) rfl (.inl rfl) (ev_move v42.eval _ rfl) ?_
      exact ⟨⟨_, rfl⟩, bl, sz, b_B28, b_B46, b_B47, p_0, p_1, (so s_30), (so s_31), (so s_32), (so s_33), (so s_34), (so s_35), (so s_36), (so s_37), (so s_38), (so s_39), (so s_40), (so s_41), (so s_42), (fun _ => Sv.self (by rw [z]; decide) _), (so s_44), (so s_45), (so s_46), (so s_47), (so s_48), (so s_49), (so s_50), (so s_51), (so s_52), (so s_53), (so s_54), (so s_55), (so s_56), (so s_57), (so s_58), (so s_59), (so s_60), (so s_61), (so s_62), (so s_63), (so s_64), (so s_65), (so s_66), (so s_67), (so s_68), (so s_69), (so s_70), (so s_71), (so s_0)⟩
    | 14, _ =>
      obtain rfl := Option.some.inj (show some _ = some o from ho); clear ho
      have v43 := s_43 (dp hdep 13)
      have v5 := hF.sv (s := 5) (by kernel_rfl) (hA52.get (i := 5) (v := .pointer (some ⟨B28, 0, none⟩)))
      refine dj_val (i := 14) (v := .agg (lat d2 1).1.va) rfl (.inr ⟨13, true, 43, rfl, by kernel_rfl, v43⟩) (ev_row v5.eval b_B28 Try.underlying28 rfl (n := 8) (by kernel_rfl) rfl _ rfl) ?_
      exact ⟨⟨_, rfl⟩, bl, sz, b_B28, b_B46, b_B47, p_0, p_1, (so s_30), (so s_31), (so s_32), (so s_33), (so s_34), (so s_35), (so s_36), (so s_37), (so s_38), (so s_39), (so s_40), (so s_41), (so s_42), (so s_43), (fun _ => Sv.self (by rw [z]; decide) _), (so s_45), (so s_46), (so s_47), (so s_48), (so s_49), (so s_50), (so s_51), (so s_52), (so s_53), (so s_54), (so s_55), (so s_56), (so s_57), (so s_58), (so s_59), (so s_60), (so s_61), (so s_62), (so s_63), (so s_64), (so s_65), (so s_66), (so s_67), (so s_68), (so s_69), (so s_70), (so s_71), (so s_0)⟩
    | 15, _ =>
      obtain rfl := Option.some.inj (show some _ = some o from ho); clear ho
      have v43 := s_43 (dp hdep 13)
      refine dj_call (i := 15) (f := 33) (args := #[.int .u64 1]) rfl (.inr ⟨13, true, 43, rfl, by kernel_rfl, v43⟩) (ev_fn rfl (mp1 (ec ac (.int .u64 1))) (by kernel_rfl) _ rfl) (word_any 1 _) ?_
      intro e wk15 hR
      obtain ⟨rfl, hb15⟩ := hR
      refine ⟨_, rfl, ?_⟩
      have hg := g0 hb15
      exact ⟨⟨_, rfl⟩, (Below.gN bl hg bl.size), (Nat.le_trans sz hg.size), (b_B28.gN hg), (b_B46.gN hg), (b_B47.gN hg), (Own.gN p_0 hg), (Own.gN p_1 hg), (so s_30), (so s_31), (so s_32), (so s_33), (so s_34), (so s_35), (so s_36), (so s_37), (so s_38), (so s_39), (so s_40), (so s_41), (so s_42), (so s_43), (so s_44), (fun _ => Sv.self (by rw [z]; decide) _), (so s_46), (so s_47), (so s_48), (so s_49), (so s_50), (so s_51), (so s_52), (so s_53), (so s_54), (so s_55), (so s_56), (so s_57), (so s_58), (so s_59), (so s_60), (so s_61), (so s_62), (so s_63), (so s_64), (so s_65), (so s_66), (so s_67), (so s_68), (so s_69), (so s_70), (so s_71), (so s_0)⟩
    | 16, _ =>
      obtain rfl := Option.some.inj (show some _ = some o from ho); clear ho
      have v43 := s_43 (dp hdep 13)
      have v44 := s_44 (dp hdep 14)
      have v45 := s_45 (dp hdep 15)
      refine dj_val (i := 16) (v := .bool true) rfl (.inr ⟨13, true, 43, rfl, by kernel_rfl, v43⟩) (ev_eqCB (a := (lat d2 1).1) (b := (wd 1)) (r := true) v44.eval v45.eval (by kernel_rfl) _ rfl) ?_
      exact ⟨⟨_, rfl⟩, bl, sz, b_B28, b_B46, b_B47, p_0, p_1, (so s_30), (so s_31), (so s_32), (so s_33), (so s_34), (so s_35), (so s_36), (so s_37), (so s_38), (so s_39), (so s_40), (so s_41), (so s_42), (so s_43), (so s_44), (so s_45), (fun _ => Sv.self (by rw [z]; decide) _), (so s_47), (so s_48), (so s_49), (so s_50), (so s_51), (so s_52), (so s_53), (so s_54), (so s_55), (so s_56), (so s_57), (so s_58), (so s_59), (so s_60), (so s_61), (so s_62), (so s_63), (so s_64), (so s_65), (so s_66), (so s_67), (so s_68), (so s_69), (so s_70), (so s_71), (so s_0)⟩
    | 17, _ =>
      obtain rfl := Option.some.inj (show some _ = some o from ho); clear ho
      have v43 := s_43 (dp hdep 13)
      have v46 := s_46 (dp hdep 16)
      refine dj_val (i := 17) (v := .bool true) rfl (.inl rfl) (ev_pickT v43.eval v46.eval _ rfl) ?_
      exact ⟨⟨_, rfl⟩, bl, sz, b_B28, b_B46, b_B47, p_0, p_1, (so s_30), (so s_31), (so s_32), (so s_33), (so s_34), (so s_35), (so s_36), (so s_37), (so s_38), (so s_39), (so s_40), (so s_41), (so s_42), (so s_43), (so s_44), (so s_45), (so s_46), (fun _ => Sv.self (by rw [z]; decide) _), (so s_48), (so s_49), (so s_50), (so s_51), (so s_52), (so s_53), (so s_54), (so s_55), (so s_56), (so s_57), (so s_58), (so s_59), (so s_60), (so s_61), (so s_62), (so s_63), (so s_64), (so s_65), (so s_66), (so s_67), (so s_68), (so s_69), (so s_70), (so s_71), (so s_0)⟩
    | 18, _ =>
      obtain rfl := Option.some.inj (show some _ = some o from ho); clear ho
      have v47 := s_47 (dp hdep 17)
      refine dj_val (i := 18) (v := .bool true) rfl (.inl rfl) (ev_move v47.eval _ rfl) ?_
      exact ⟨⟨_, rfl⟩, bl, sz, b_B28, b_B46, b_B47, p_0, p_1, (so s_30), (so s_31), (so s_32), (so s_33), (so s_34), (so s_35), (so s_36), (so s_37), (so s_38), (so s_39), (so s_40), (so s_41), (so s_42), (so s_43), (so s_44), (so s_45), (so s_46), (so s_47), (fun _ => Sv.self (by rw [z]; decide) _), (so s_49), (so s_50), (so s_51), (so s_52), (so s_53), (so s_54), (so s_55), (so s_56), (so s_57), (so s_58), (so s_59), (so s_60), (so s_61), (so s_62), (so s_63), (so s_64), (so s_65), (so s_66), (so s_67), (so s_68), (so s_69), (so s_70), (so s_71), (so s_0)⟩
    | 19, _ =>
      obtain rfl := Option.some.inj (show some _ = some o from ho); clear ho
      have v48 := s_48 (dp hdep 18)
      have v9 := hF.sv (s := 9) (by kernel_rfl) (hA52.get (i := 9) (v := .int .i64 (cmp d2 1).2.2))
      refine dj_val (i := 19) (v := .int .i64 (cmp d2 1).2.2) rfl (.inr ⟨18, true, 48, rfl, by kernel_rfl, v48⟩) (ev_move v9.eval _ rfl) ?_
      exact ⟨⟨_, rfl⟩, bl, sz, b_B28, b_B46, b_B47, p_0, p_1, (so s_30), (so s_31), (so s_32), (so s_33), (so s_34), (so s_35), (so s_36), (so s_37), (so s_38), (so s_39), (so s_40), (so s_41), (so s_42), (so s_43), (so s_44), (so s_45), (so s_46), (so s_47), (so s_48), (fun _ => Sv.self (by rw [z]; decide) _), (so s_50), (so s_51), (so s_52), (so s_53), (so s_54), (so s_55), (so s_56), (so s_57), (so s_58), (so s_59), (so s_60), (so s_61), (so s_62), (so s_63), (so s_64), (so s_65), (so s_66), (so s_67), (so s_68), (so s_69), (so s_70), (so s_71), (so s_0)⟩
    | 20, _ =>
      obtain rfl := Option.some.inj (show some _ = some o from ho); clear ho
      have v48 := s_48 (dp hdep 18)
      have v49 := s_49 (dp hdep 19)
      refine dj_val (i := 20) (v := .bool true) rfl (.inr ⟨18, true, 48, rfl, by kernel_rfl, v48⟩) (ev_eqlB (k := .i64) (m := (cmp d2 1).2.2) (n := 0) v49.eval (ec ac (.int .i64 0)) (by kernel_rfl) _ rfl) ?_
      exact ⟨⟨_, rfl⟩, bl, sz, b_B28, b_B46, b_B47, p_0, p_1, (so s_30), (so s_31), (so s_32), (so s_33), (so s_34), (so s_35), (so s_36), (so s_37), (so s_38), (so s_39), (so s_40), (so s_41), (so s_42), (so s_43), (so s_44), (so s_45), (so s_46), (so s_47), (so s_48), (so s_49), (fun _ => Sv.self (by rw [z]; decide) _), (so s_51), (so s_52), (so s_53), (so s_54), (so s_55), (so s_56), (so s_57), (so s_58), (so s_59), (so s_60), (so s_61), (so s_62), (so s_63), (so s_64), (so s_65), (so s_66), (so s_67), (so s_68), (so s_69), (so s_70), (so s_71), (so s_0)⟩
    | 21, _ =>
      obtain rfl := Option.some.inj (show some _ = some o from ho); clear ho
      have v48 := s_48 (dp hdep 18)
      have v50 := s_50 (dp hdep 20)
      refine dj_val (i := 21) (v := .bool true) rfl (.inl rfl) (ev_pickT v48.eval v50.eval _ rfl) ?_
      exact ⟨⟨_, rfl⟩, bl, sz, b_B28, b_B46, b_B47, p_0, p_1, (so s_30), (so s_31), (so s_32), (so s_33), (so s_34), (so s_35), (so s_36), (so s_37), (so s_38), (so s_39), (so s_40), (so s_41), (so s_42), (so s_43), (so s_44), (so s_45), (so s_46), (so s_47), (so s_48), (so s_49), (so s_50), (fun _ => Sv.self (by rw [z]; decide) _), (so s_52), (so s_53), (so s_54), (so s_55), (so s_56), (so s_57), (so s_58), (so s_59), (so s_60), (so s_61), (so s_62), (so s_63), (so s_64), (so s_65), (so s_66), (so s_67), (so s_68), (so s_69), (so s_70), (so s_71), (so s_0)⟩
    | 22, _ =>
      obtain rfl := Option.some.inj (show some _ = some o from ho); clear ho
      have v51 := s_51 (dp hdep 21)
      refine dj_val (i := 22) (v := .bool true) rfl (.inl rfl) (ev_move v51.eval _ rfl) ?_
      exact ⟨⟨_, rfl⟩, bl, sz, b_B28, b_B46, b_B47, p_0, p_1, (so s_30), (so s_31), (so s_32), (so s_33), (so s_34), (so s_35), (so s_36), (so s_37), (so s_38), (so s_39), (so s_40), (so s_41), (so s_42), (so s_43), (so s_44), (so s_45), (so s_46), (so s_47), (so s_48), (so s_49), (so s_50), (so s_51), (fun _ => Sv.self (by rw [z]; decide) _), (so s_53), (so s_54), (so s_55), (so s_56), (so s_57), (so s_58), (so s_59), (so s_60), (so s_61), (so s_62), (so s_63), (so s_64), (so s_65), (so s_66), (so s_67), (so s_68), (so s_69), (so s_70), (so s_71), (so s_0)⟩
    | 23, _ =>
      obtain rfl := Option.some.inj (show some _ = some o from ho); clear ho
      have v52 := s_52 (dp hdep 22)
      have v8 := hF.sv (s := 8) (by kernel_rfl) (hA52.get (i := 8) (v := .pointer (some ⟨B47, 0, none⟩)))
      refine dj_val (i := 23) (v := .agg (cmp d2 1).2.1.va) rfl (.inr ⟨22, true, 52, rfl, by kernel_rfl, v52⟩) (ev_row v8.eval b_B47 Try.underlying38 rfl (n := 11) (by kernel_rfl) rfl _ rfl) ?_
      exact ⟨⟨_, rfl⟩, bl, sz, b_B28, b_B46, b_B47, p_0, p_1, (so s_30), (so s_31), (so s_32), (so s_33), (so s_34), (so s_35), (so s_36), (so s_37), (so s_38), (so s_39), (so s_40), (so s_41), (so s_42), (so s_43), (so s_44), (so s_45), (so s_46), (so s_47), (so s_48), (so s_49), (so s_50), (so s_51), (so s_52), (fun _ => Sv.self (by rw [z]; decide) _), (so s_54), (so s_55), (so s_56), (so s_57), (so s_58), (so s_59), (so s_60), (so s_61), (so s_62), (so s_63), (so s_64), (so s_65), (so s_66), (so s_67), (so s_68), (so s_69), (so s_70), (so s_71), (so s_0)⟩
    | 24, _ =>
      obtain rfl := Option.some.inj (show some _ = some o from ho); clear ho
      have v52 := s_52 (dp hdep 22)
      refine dj_val (i := 24) (v := .agg (Jb.va ⟨false, 0, 6, Ct.zero⟩)) rfl (.inr ⟨22, true, 52, rfl, by kernel_rfl, v52⟩) (bd_Job_1_2 (ec ac (.int .i64 0)) (ec ac (.int .i64 6)) _ rfl) ?_
      exact ⟨⟨_, rfl⟩, bl, sz, b_B28, b_B46, b_B47, p_0, p_1, (so s_30), (so s_31), (so s_32), (so s_33), (so s_34), (so s_35), (so s_36), (so s_37), (so s_38), (so s_39), (so s_40), (so s_41), (so s_42), (so s_43), (so s_44), (so s_45), (so s_46), (so s_47), (so s_48), (so s_49), (so s_50), (so s_51), (so s_52), (so s_53), (fun _ => Sv.self (by rw [z]; decide) _), (so s_55), (so s_56), (so s_57), (so s_58), (so s_59), (so s_60), (so s_61), (so s_62), (so s_63), (so s_64), (so s_65), (so s_66), (so s_67), (so s_68), (so s_69), (so s_70), (so s_71), (so s_0)⟩
    | 25, _ =>
      obtain rfl := Option.some.inj (show some _ = some o from ho); clear ho
      have v52 := s_52 (dp hdep 22)
      have v53 := s_53 (dp hdep 23)
      have v54 := s_54 (dp hdep 24)
      refine dj_val (i := 25) (v := .bool true) rfl (.inr ⟨22, true, 52, rfl, by kernel_rfl, v52⟩) (ev_eqJB (a := (cmp d2 1).2.1) (b := (⟨false, 0, 6, Ct.zero⟩ : Jb)) (r := true) v53.eval v54.eval (by kernel_rfl) _ rfl) ?_
      exact ⟨⟨_, rfl⟩, bl, sz, b_B28, b_B46, b_B47, p_0, p_1, (so s_30), (so s_31), (so s_32), (so s_33), (so s_34), (so s_35), (so s_36), (so s_37), (so s_38), (so s_39), (so s_40), (so s_41), (so s_42), (so s_43), (so s_44), (so s_45), (so s_46), (so s_47), (so s_48), (so s_49), (so s_50), (so s_51), (so s_52), (so s_53), (so s_54), (fun _ => Sv.self (by rw [z]; decide) _), (so s_56), (so s_57), (so s_58), (so s_59), (so s_60), (so s_61), (so s_62), (so s_63), (so s_64), (so s_65), (so s_66), (so s_67), (so s_68), (so s_69), (so s_70), (so s_71), (so s_0)⟩
    | 26, _ =>
      obtain rfl := Option.some.inj (show some _ = some o from ho); clear ho
      have v52 := s_52 (dp hdep 22)
      have v55 := s_55 (dp hdep 25)
      refine dj_val (i := 26) (v := .bool true) rfl (.inl rfl) (ev_pickT v52.eval v55.eval _ rfl) ?_
      exact ⟨⟨_, rfl⟩, bl, sz, b_B28, b_B46, b_B47, p_0, p_1, (so s_30), (so s_31), (so s_32), (so s_33), (so s_34), (so s_35), (so s_36), (so s_37), (so s_38), (so s_39), (so s_40), (so s_41), (so s_42), (so s_43), (so s_44), (so s_45), (so s_46), (so s_47), (so s_48), (so s_49), (so s_50), (so s_51), (so s_52), (so s_53), (so s_54), (so s_55), (fun _ => Sv.self (by rw [z]; decide) _), (so s_57), (so s_58), (so s_59), (so s_60), (so s_61), (so s_62), (so s_63), (so s_64), (so s_65), (so s_66), (so s_67), (so s_68), (so s_69), (so s_70), (so s_71), (so s_0)⟩
    | 27, _ =>
      obtain rfl := Option.some.inj (show some _ = some o from ho); clear ho
      have v56 := s_56 (dp hdep 26)
      refine dj_val (i := 27) (v := .bool true) rfl (.inl rfl) (ev_move v56.eval _ rfl) ?_
      exact ⟨⟨_, rfl⟩, bl, sz, b_B28, b_B46, b_B47, p_0, p_1, (so s_30), (so s_31), (so s_32), (so s_33), (so s_34), (so s_35), (so s_36), (so s_37), (so s_38), (so s_39), (so s_40), (so s_41), (so s_42), (so s_43), (so s_44), (so s_45), (so s_46), (so s_47), (so s_48), (so s_49), (so s_50), (so s_51), (so s_52), (so s_53), (so s_54), (so s_55), (so s_56), (fun _ => Sv.self (by rw [z]; decide) _), (so s_58), (so s_59), (so s_60), (so s_61), (so s_62), (so s_63), (so s_64), (so s_65), (so s_66), (so s_67), (so s_68), (so s_69), (so s_70), (so s_71), (so s_0)⟩
    | 28, _ =>
      obtain rfl := Option.some.inj (show some _ = some o from ho); clear ho
      have v57 := s_57 (dp hdep 27)
      have v7 := hF.sv (s := 7) (by kernel_rfl) (hA52.get (i := 7) (v := .pointer (some ⟨B46, 0, none⟩)))
      refine dj_val (i := 28) (v := .pointer (some ⟨B46, 1, none⟩)) rfl (.inr ⟨27, true, 57, rfl, by kernel_rfl, v57⟩) (fb_Disk_1 v7.eval _ rfl) ?_
      exact ⟨⟨_, rfl⟩, bl, sz, b_B28, b_B46, b_B47, p_0, p_1, (so s_30), (so s_31), (so s_32), (so s_33), (so s_34), (so s_35), (so s_36), (so s_37), (so s_38), (so s_39), (so s_40), (so s_41), (so s_42), (so s_43), (so s_44), (so s_45), (so s_46), (so s_47), (so s_48), (so s_49), (so s_50), (so s_51), (so s_52), (so s_53), (so s_54), (so s_55), (so s_56), (so s_57), (fun _ => Sv.self (by rw [z]; decide) _), (so s_59), (so s_60), (so s_61), (so s_62), (so s_63), (so s_64), (so s_65), (so s_66), (so s_67), (so s_68), (so s_69), (so s_70), (so s_71), (so s_0)⟩
    | 29, _ =>
      obtain rfl := Option.some.inj (show some _ = some o from ho); clear ho
      have v57 := s_57 (dp hdep 27)
      have v58 := s_58 (dp hdep 28)
      refine dj_val (i := 29) (v := .slice Aj35 (cmp d2 1).1.js.length cj35) rfl (.inr ⟨27, true, 57, rfl, by kernel_rfl, v57⟩) (ev_cell (v := .slice Aj35 (cmp d2 1).1.js.length cj35) v58.eval ((b_B46.cell 1).trans rfl) Try.underlying23 rfl _ rfl) ?_
      exact ⟨⟨_, rfl⟩, bl, sz, b_B28, b_B46, b_B47, p_0, p_1, (so s_30), (so s_31), (so s_32), (so s_33), (so s_34), (so s_35), (so s_36), (so s_37), (so s_38), (so s_39), (so s_40), (so s_41), (so s_42), (so s_43), (so s_44), (so s_45), (so s_46), (so s_47), (so s_48), (so s_49), (so s_50), (so s_51), (so s_52), (so s_53), (so s_54), (so s_55), (so s_56), (so s_57), (so s_58), (fun _ => Sv.self (by rw [z]; decide) _), (so s_60), (so s_61), (so s_62), (so s_63), (so s_64), (so s_65), (so s_66), (so s_67), (so s_68), (so s_69), (so s_70), (so s_71), (so s_0)⟩
    | 30, _ =>
      obtain rfl := Option.some.inj (show some _ = some o from ho); clear ho
      have v57 := s_57 (dp hdep 27)
      have v59 := s_59 (dp hdep 29)
      refine dj_val (i := 30) (v := .int .i64 ((cmp d2 1).1.js.length : Int)) rfl (.inr ⟨27, true, 57, rfl, by kernel_rfl, v57⟩) (ev_len v59.eval Try.underlying23 _ rfl) ?_
      exact ⟨⟨_, rfl⟩, bl, sz, b_B28, b_B46, b_B47, p_0, p_1, (so s_30), (so s_31), (so s_32), (so s_33), (so s_34), (so s_35), (so s_36), (so s_37), (so s_38), (so s_39), (so s_40), (so s_41), (so s_42), (so s_43), (so s_44), (so s_45), (so s_46), (so s_47), (so s_48), (so s_49), (so s_50), (so s_51), (so s_52), (so s_53), (so s_54), (so s_55), (so s_56), (so s_57), (so s_58), (so s_59), (fun _ => Sv.self (by rw [z]; decide) _), (so s_61), (so s_62), (so s_63), (so s_64), (so s_65), (so s_66), (so s_67), (so s_68), (so s_69), (so s_70), (so s_71), (so s_0)⟩
    | 31, _ =>
      obtain rfl := Option.some.inj (show some _ = some o from ho); clear ho
      have v57 := s_57 (dp hdep 27)
      have v60 := s_60 (dp hdep 30)
      refine dj_val (i := 31) (v := .bool true) rfl (.inr ⟨27, true, 57, rfl, by kernel_rfl, v57⟩) (ev_eqlB (k := .i64) (m := ((cmp d2 1).1.js.length : Int)) (n := 1) v60.eval (ec ac (.int .i64 1)) (by kernel_rfl) _ rfl) ?_
      exact ⟨⟨_, rfl⟩, bl, sz, b_B28, b_B46, b_B47, p_0, p_1, (so s_30), (so s_31), (so s_32), (so s_33), (so s_34), (so s_35), (so s_36), (so s_37), (so s_38), (so s_39), (so s_40), (so s_41), (so s_42), (so s_43), (so s_44), (so s_45), (so s_46), (so s_47), (so s_48), (so s_49), (so s_50), (so s_51), (so s_52), (so s_53), (so s_54), (so s_55), (so s_56), (so s_57), (so s_58), (so s_59), (so s_60), (fun _ => Sv.self (by rw [z]; decide) _), (so s_62), (so s_63), (so s_64), (so s_65), (so s_66), (so s_67), (so s_68), (so s_69), (so s_70), (so s_71), (so s_0)⟩
    | 32, _ =>
      obtain rfl := Option.some.inj (show some _ = some o from ho); clear ho
      have v57 := s_57 (dp hdep 27)
      have v61 := s_61 (dp hdep 31)
      refine dj_val (i := 32) (v := .bool true) rfl (.inl rfl) (ev_pickT v57.eval v61.eval _ rfl) ?_
      exact ⟨⟨_, rfl⟩, bl, sz, b_B28, b_B46, b_B47, p_0, p_1, (so s_30), (so s_31), (so s_32), (so s_33), (so s_34), (so s_35), (so s_36), (so s_37), (so s_38), (so s_39), (so s_40), (so s_41), (so s_42), (so s_43), (so s_44), (so s_45), (so s_46), (so s_47), (so s_48), (so s_49), (so s_50), (so s_51), (so s_52), (so s_53), (so s_54), (so s_55), (so s_56), (so s_57), (so s_58), (so s_59), (so s_60), (so s_61), (fun _ => Sv.self (by rw [z]; decide) _), (so s_63), (so s_64), (so s_65), (so s_66), (so s_67), (so s_68), (so s_69), (so s_70), (so s_71), (so s_0)⟩
    | 33, _ =>
      obtain rfl := Option.some.inj (show some _ = some o from ho); clear ho
      have v62 := s_62 (dp hdep 32)
      refine dj_val (i := 33) (v := .bool true) rfl (.inl rfl) (ev_move v62.eval _ rfl) ?_
      exact ⟨⟨_, rfl⟩, bl, sz, b_B28, b_B46, b_B47, p_0, p_1, (so s_30), (so s_31), (so s_32), (so s_33), (so s_34), (so s_35), (so s_36), (so s_37), (so s_38), (so s_39), (so s_40), (so s_41), (so s_42), (so s_43), (so s_44), (so s_45), (so s_46), (so s_47), (so s_48), (so s_49), (so s_50), (so s_51), (so s_52), (so s_53), (so s_54), (so s_55), (so s_56), (so s_57), (so s_58), (so s_59), (so s_60), (so s_61), (so s_62), (fun _ => Sv.self (by rw [z]; decide) _), (so s_64), (so s_65), (so s_66), (so s_67), (so s_68), (so s_69), (so s_70), (so s_71), (so s_0)⟩
    | 34, _ =>
      obtain rfl := Option.some.inj (show some _ = some o from ho); clear ho
      have v63 := s_63 (dp hdep 33)
      have v7 := hF.sv (s := 7) (by kernel_rfl) (hA52.get (i := 7) (v := .pointer (some ⟨B46, 0, none⟩)))
      refine dj_val (i := 34) (v := .pointer (some ⟨B46, 1, none⟩)) rfl (.inr ⟨33, true, 63, rfl, by kernel_rfl, v63⟩) (fb_Disk_1 v7.eval _ rfl) ?_
      exact ⟨⟨_, rfl⟩, bl, sz, b_B28, b_B46, b_B47, p_0, p_1, (so s_30), (so s_31), (so s_32), (so s_33), (so s_34), (so s_35), (so s_36), (so s_37), (so s_38), (so s_39), (so s_40), (so s_41), (so s_42), (so s_43), (so s_44), (so s_45), (so s_46), (so s_47), (so s_48), (so s_49), (so s_50), (so s_51), (so s_52), (so s_53), (so s_54), (so s_55), (so s_56), (so s_57), (so s_58), (so s_59), (so s_60), (so s_61), (so s_62), (so s_63), (fun _ => Sv.self (by rw [z]; decide) _), (so s_65), (so s_66), (so s_67), (so s_68), (so s_69), (so s_70), (so s_71), (so s_0)⟩
    | 35, _ =>
      obtain rfl := Option.some.inj (show some _ = some o from ho); clear ho
      have v63 := s_63 (dp hdep 33)
      have v64 := s_64 (dp hdep 34)
      refine dj_val (i := 35) (v := .slice Aj35 (cmp d2 1).1.js.length cj35) rfl (.inr ⟨33, true, 63, rfl, by kernel_rfl, v63⟩) (ev_cell (v := .slice Aj35 (cmp d2 1).1.js.length cj35) v64.eval ((b_B46.cell 1).trans rfl) Try.underlying23 rfl _ rfl) ?_
      exact ⟨⟨_, rfl⟩, bl, sz, b_B28, b_B46, b_B47, p_0, p_1, (so s_30), (so s_31), (so s_32), (so s_33), (so s_34), (so s_35), (so s_36), (so s_37), (so s_38), (so s_39), (so s_40), (so s_41), (so s_42), (so s_43), (so s_44), (so s_45), (so s_46), (so s_47), (so s_48), (so s_49), (so s_50), (so s_51), (so s_52), (so s_53), (so s_54), (so s_55), (so s_56), (so s_57), (so s_58), (so s_59), (so s_60), (so s_61), (so s_62), (so s_63), (so s_64), (fun _ => Sv.self (by rw [z]; decide) _), (so s_66), (so s_67), (so s_68), (so s_69), (so s_70), (so s_71), (so s_0)⟩
    | 36, _ =>
      obtain rfl := Option.some.inj (show some _ = some o from ho); clear ho
      have v63 := s_63 (dp hdep 33)
      have v65 := s_65 (dp hdep 35)
      refine dj_val (i := 36) (v := .pointer (some (adz.add (0 * 11)))) rfl (.inr ⟨33, true, 63, rfl, by kernel_rfl, v63⟩) (ev_idx (k := 0) v65.eval hAdz (ec ac (.int .i64 0)) rfl (by decide) Try.underlying23 (by kernel_rfl) _ rfl) ?_
      exact ⟨⟨_, rfl⟩, bl, sz, b_B28, b_B46, b_B47, p_0, p_1, (so s_30), (so s_31), (so s_32), (so s_33), (so s_34), (so s_35), (so s_36), (so s_37), (so s_38), (so s_39), (so s_40), (so s_41), (so s_42), (so s_43), (so s_44), (so s_45), (so s_46), (so s_47), (so s_48), (so s_49), (so s_50), (so s_51), (so s_52), (so s_53), (so s_54), (so s_55), (so s_56), (so s_57), (so s_58), (so s_59), (so s_60), (so s_61), (so s_62), (so s_63), (so s_64), (so s_65), (fun _ => Sv.self (by rw [z]; decide) _), (so s_67), (so s_68), (so s_69), (so s_70), (so s_71), (so s_0)⟩
    | 37, _ =>
      obtain rfl := Option.some.inj (show some _ = some o from ho); clear ho
      have v63 := s_63 (dp hdep 33)
      have v66 := s_66 (dp hdep 36)
      refine dj_val (i := 37) (v := .agg (⟨true, 1, 5, wd 1⟩ : Jb).va) rfl (.inr ⟨33, true, 63, rfl, by kernel_rfl, v63⟩) (ev_loadR (cs := (⟨true, 1, 5, wd 1⟩ : Jb).va) (n := 11) v66.eval (GR.cel (OwnR.gr (e := 38) ⟨rfl, p_1⟩) hAdz jb_sz (k := 0) (x := ⟨true, 1, 5, wd 1⟩) (by kernel_rfl)) Try.underlying38 rfl (by kernel_rfl) rfl _ rfl) ?_
      exact ⟨⟨_, rfl⟩, bl, sz, b_B28, b_B46, b_B47, p_0, p_1, (so s_30), (so s_31), (so s_32), (so s_33), (so s_34), (so s_35), (so s_36), (so s_37), (so s_38), (so s_39), (so s_40), (so s_41), (so s_42), (so s_43), (so s_44), (so s_45), (so s_46), (so s_47), (so s_48), (so s_49), (so s_50), (so s_51), (so s_52), (so s_53), (so s_54), (so s_55), (so s_56), (so s_57), (so s_58), (so s_59), (so s_60), (so s_61), (so s_62), (so s_63), (so s_64), (so s_65), (so s_66), (fun _ => Sv.self (by rw [z]; decide) _), (so s_68), (so s_69), (so s_70), (so s_71), (so s_0)⟩
    | 38, _ =>
      obtain rfl := Option.some.inj (show some _ = some o from ho); clear ho
      have v63 := s_63 (dp hdep 33)
      refine dj_call (i := 38) (f := 33) (args := #[.int .u64 1]) rfl (.inr ⟨33, true, 63, rfl, by kernel_rfl, v63⟩) (ev_fn rfl (mp1 (ec ac (.int .u64 1))) (by kernel_rfl) _ rfl) (word_any 1 _) ?_
      intro e wk38 hR
      obtain ⟨rfl, hb38⟩ := hR
      refine ⟨_, rfl, ?_⟩
      have hg := g0 hb38
      exact ⟨⟨_, rfl⟩, (Below.gN bl hg bl.size), (Nat.le_trans sz hg.size), (b_B28.gN hg), (b_B46.gN hg), (b_B47.gN hg), (Own.gN p_0 hg), (Own.gN p_1 hg), (so s_30), (so s_31), (so s_32), (so s_33), (so s_34), (so s_35), (so s_36), (so s_37), (so s_38), (so s_39), (so s_40), (so s_41), (so s_42), (so s_43), (so s_44), (so s_45), (so s_46), (so s_47), (so s_48), (so s_49), (so s_50), (so s_51), (so s_52), (so s_53), (so s_54), (so s_55), (so s_56), (so s_57), (so s_58), (so s_59), (so s_60), (so s_61), (so s_62), (so s_63), (so s_64), (so s_65), (so s_66), (so s_67), (fun _ => Sv.self (by rw [z]; decide) _), (so s_69), (so s_70), (so s_71), (so s_0)⟩
    | 39, _ =>
      obtain rfl := Option.some.inj (show some _ = some o from ho); clear ho
      have v63 := s_63 (dp hdep 33)
      have v68 := s_68 (dp hdep 38)
      refine dj_val (i := 39) (v := .agg (Jb.va ⟨true, 1, 5, (wd 1)⟩)) rfl (.inr ⟨33, true, 63, rfl, by kernel_rfl, v63⟩) (bd_Job_0_1_2_3 (ec ac (.bool true)) (ec ac (.int .i64 1)) (ec ac (.int .i64 5)) v68.eval _ rfl) ?_
      exact ⟨⟨_, rfl⟩, bl, sz, b_B28, b_B46, b_B47, p_0, p_1, (so s_30), (so s_31), (so s_32), (so s_33), (so s_34), (so s_35), (so s_36), (so s_37), (so s_38), (so s_39), (so s_40), (so s_41), (so s_42), (so s_43), (so s_44), (so s_45), (so s_46), (so s_47), (so s_48), (so s_49), (so s_50), (so s_51), (so s_52), (so s_53), (so s_54), (so s_55), (so s_56), (so s_57), (so s_58), (so s_59), (so s_60), (so s_61), (so s_62), (so s_63), (so s_64), (so s_65), (so s_66), (so s_67), (so s_68), (fun _ => Sv.self (by rw [z]; decide) _), (so s_70), (so s_71), (so s_0)⟩
    | 40, _ =>
      obtain rfl := Option.some.inj (show some _ = some o from ho); clear ho
      have v63 := s_63 (dp hdep 33)
      have v67 := s_67 (dp hdep 37)
      have v69 := s_69 (dp hdep 39)
      refine dj_val (i := 40) (v := .bool true) rfl (.inr ⟨33, true, 63, rfl, by kernel_rfl, v63⟩) (ev_eqJB (a := (⟨true, 1, 5, wd 1⟩ : Jb)) (b := (⟨true, 1, 5, (wd 1)⟩ : Jb)) (r := true) v67.eval v69.eval (by kernel_rfl) _ rfl) ?_
      exact ⟨⟨_, rfl⟩, bl, sz, b_B28, b_B46, b_B47, p_0, p_1, (so s_30), (so s_31), (so s_32), (so s_33), (so s_34), (so s_35), (so s_36), (so s_37), (so s_38), (so s_39), (so s_40), (so s_41), (so s_42), (so s_43), (so s_44), (so s_45), (so s_46), (so s_47), (so s_48), (so s_49), (so s_50), (so s_51), (so s_52), (so s_53), (so s_54), (so s_55), (so s_56), (so s_57), (so s_58), (so s_59), (so s_60), (so s_61), (so s_62), (so s_63), (so s_64), (so s_65), (so s_66), (so s_67), (so s_68), (so s_69), (fun _ => Sv.self (by rw [z]; decide) _), (so s_71), (so s_0)⟩
    | 41, _ =>
      obtain rfl := Option.some.inj (show some _ = some o from ho); clear ho
      have v63 := s_63 (dp hdep 33)
      have v70 := s_70 (dp hdep 40)
      refine dj_val (i := 41) (v := .bool true) rfl (.inl rfl) (ev_pickT v63.eval v70.eval _ rfl) ?_
      exact ⟨⟨_, rfl⟩, bl, sz, b_B28, b_B46, b_B47, p_0, p_1, (so s_30), (so s_31), (so s_32), (so s_33), (so s_34), (so s_35), (so s_36), (so s_37), (so s_38), (so s_39), (so s_40), (so s_41), (so s_42), (so s_43), (so s_44), (so s_45), (so s_46), (so s_47), (so s_48), (so s_49), (so s_50), (so s_51), (so s_52), (so s_53), (so s_54), (so s_55), (so s_56), (so s_57), (so s_58), (so s_59), (so s_60), (so s_61), (so s_62), (so s_63), (so s_64), (so s_65), (so s_66), (so s_67), (so s_68), (so s_69), (so s_70), (fun _ => Sv.self (by rw [z]; decide) _), (so s_0)⟩
    | 42, _ =>
      obtain rfl := Option.some.inj (show some _ = some o from ho); clear ho
      have v71 := s_71 (dp hdep 41)
      refine dj_val (i := 42) (v := .bool true) rfl (.inl rfl) (ev_assign v71.eval _ rfl) ?_
      exact ⟨⟨_, rfl⟩, bl, sz, b_B28, b_B46, b_B47, p_0, p_1, (so s_30), (so s_31), (so s_32), (so s_33), (so s_34), (so s_35), (so s_36), (so s_37), (so s_38), (so s_39), (so s_40), (so s_41), (so s_42), (so s_43), (so s_44), (so s_45), (so s_46), (so s_47), (so s_48), (so s_49), (so s_50), (so s_51), (so s_52), (so s_53), (so s_54), (so s_55), (so s_56), (so s_57), (so s_58), (so s_59), (so s_60), (so s_61), (so s_62), (so s_63), (so s_64), (so s_65), (so s_66), (so s_67), (so s_68), (so s_69), (so s_70), (so s_71), (fun _ => Sv.self (by rw [z]; decide) _)⟩
    | k + 43, h => exact absurd h (by omega)
  · intro L hall ac79 wc79 hF hJ
    obtain ⟨bl, sz, b_B28, b_B46, b_B47, p_0, p_1, s_30, s_31, s_32, s_33, s_34, s_35, s_36, s_37, s_38, s_39, s_40, s_41, s_42, s_43, s_44, s_45, s_46, s_47, s_48, s_49, s_50, s_51, s_52, s_53, s_54, s_55, s_56, s_57, s_58, s_59, s_60, s_61, s_62, s_63, s_64, s_65, s_66, s_67, s_68, s_69, s_70, s_71, s_0⟩ := hJ
    have hA79 : Ag ac79 72 [(0, .bool true)] := ((Ag.nil (hF.1.trans hA52.1) (hF.2.1.trans hA52.2.1)).cons (s_0 (hall 42 (by decide))))
    have bl79 := bl
    have sz79 := sz
    have b79_B28 := b_B28
    have b79_B46 := b_B46
    have b79_B47 := b_B47
    have p79_0 := p_0
    have p79_1 := p_1
    clear hF bl sz b_B28 b_B46 b_B47 p_0 p_1 s_30 s_31 s_32 s_33 s_34 s_35 s_36 s_37 s_38 s_39 s_40 s_41 s_42 s_43 s_44 s_45 s_46 s_47 s_48 s_49 s_50 s_51 s_52 s_53 s_54 s_55 s_56 s_57 s_58 s_59 s_60 s_61 s_62 s_63 s_64 s_65 s_66 s_67 s_68 s_69 s_70 s_71 s_0 hall hA52
    refine then_n ?_
    refine wp_ret ?_
    refine bodyPost_ret (rs_t (v := .bool true) Try.results10 hA79 (by kernel_rfl) ) hA79.2.1 ?_
    exact ⟨rfl, bl79⟩
end Go.Proofs.Ytbkdimildnahaaa
