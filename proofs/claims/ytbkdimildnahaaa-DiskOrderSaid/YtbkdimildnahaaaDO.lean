/- The law: DiskKnown. -/
import Derived.Test.YtbkdimildnahaaaDN
namespace Go.Proofs.Ytbkdimildnahaaa
open Go.RowKit
set_option linter.unusedVariables false
set_option maxRecDepth 100000

set_option maxHeartbeats 16000000 in
theorem Known_any (w : World) : Calls Try.prog 5 #[] w (RetB w (.returned (.bool true))) := by
  have hbel0 := below0 w
  refine sx_enter (N := 233) [] Try.func5 rfl Try.ntmps5 (by simp) (fun a z d s => (Ag.nil z d)) ?_
  intro a0 hA0
  refine wp_seq ?_
  refine wp_region_lit ?_
  refine sx_val hA0 rfl (ev_assign (ec _ (.bool false)) _ rfl) ?_
  intro a1 hA1; clear hA0
  refine sx_nil ?_
  refine then_n ?_
  refine wp_seq ?_
  refine wp_region_lit ?_
  refine sx_call (f := 32) (args := #[]) hA1 rfl (by decide) (.inl rfl) (ev_fn rfl (mp0 ) (by kernel_rfl) _ rfl) (two_any _) ?_
  intro e2 w2 hR2
  obtain ⟨Ap2, cp2, Aj2, cj2, rfl, hC2, hJ2, hb2⟩ := hR2
  refine ⟨_, rfl, ?_⟩
  intro a2 hA2
  clear hA1
  have hg2 := g0 hb2
  have hs2 := hg2.size
  clear hb2
  have ho2_0 : Own w2 (w.heap.size) 28 8 (.slice Ap2 d2.cs.length cp2) d2.cs.length (flat Ct.va d2.cs) := hC2.2
  have hh2_0 := Own.hi ho2_0
  have ho2_1 : Own w2 (w.heap.size) 38 11 (.slice Aj2 d2.js.length cj2) d2.js.length (flat Jb.va d2.js) := hJ2.2
  have hh2_1 := Own.hi ho2_1
  refine sx_val hA2 rfl (ev_move (hA2.ev (i := 41) (v := .tuple #[.agg #[.slice Ap2 d2.cs.length cp2, .slice Aj2 d2.js.length cj2, .int .i64 d2.room], .bool true])) _ rfl) ?_
  intro a3 hA3; clear hA2
  refine sx_val (v := .agg #[.slice Ap2 d2.cs.length cp2, .slice Aj2 d2.js.length cj2, .int .i64 d2.room]) hA3 rfl (ev_ext (hA3.ev (i := 40) (v := .tuple #[.agg #[.slice Ap2 d2.cs.length cp2, .slice Aj2 d2.js.length cj2, .int .i64 d2.room], .bool true])) rfl _ rfl) ?_
  intro a4 hA4; clear hA3
  refine sx_val (v := .bool true) hA4 rfl (ev_ext (hA4.ev (i := 40) (v := .tuple #[.agg #[.slice Ap2 d2.cs.length cp2, .slice Aj2 d2.js.length cj2, .int .i64 d2.room], .bool true])) rfl _ rfl) ?_
  intro a5 hA5; clear hA4
  refine sx_new (cs := #[.slice none 0 0, .slice none 0 0, .int .i64 0]) (t := 25) hA5 rfl (by decide) (.inl rfl) (ev_alloc (z := .agg (#[.slice none 0 0, .slice none 0 0, .int .i64 0])) (by kernel_rfl) (by kernel_rfl) _ rfl) ?_
  intro B6 w6 a6 hB6 hx6 hg6 hA6
  clear hA5
  have hs6 := hg6.size
  have hl6 := hx6.lt
  refine sx_store hA6 rfl (.inl rfl) rfl (hA6.ev (i := 1) (v := .pointer (some ⟨B6, 0, none⟩))) (hA6.ev (i := 42) (v := .agg #[.slice Ap2 d2.cs.length cp2, .slice Aj2 d2.js.length cj2, .int .i64 d2.room])) hx6 (by kernel_rfl) rfl (dk_one _ _ _ _ _ _ _) ?_
  intro w7 hx7 hg7
  have hs7 := hg7.size
  refine sx_val hA6 rfl (ev_assign (hA6.ev (i := 43) (v := .bool true)) _ rfl) ?_
  intro a8 hA8; clear hA6
  refine sx_nil ?_
  refine then_n ?_
  refine wp_seq ?_
  refine wp_region_lit ?_
  refine sx_val (v := .agg #[.slice Ap2 d2.cs.length cp2, .slice Aj2 d2.js.length cj2, .int .i64 d2.room]) hA8 rfl (ev_row (hA8.ev (i := 1) (v := .pointer (some ⟨B6, 0, none⟩))) hx7 Try.underlying25 rfl (n := 3) (by kernel_rfl) rfl _ rfl) ?_
  intro a9 hA9; clear hA8
  have ho2_11 := Own.gN ho2_0 hg6
  have ho2_12 := Own.gBT ho2_11 hg7 hx6 (by decide)
  have ho2_13 := Own.gN ho2_1 hg6
  have ho2_14 := Own.gBT ho2_13 hg7 hx6 (by decide)
  refine sx_call (f := 26) (args := #[.agg #[.slice Ap2 d2.cs.length cp2, .slice Aj2 d2.js.length cj2, .int .i64 d2.room], .int .i64 0]) hA9 rfl (by decide) (.inl rfl) (ev_fn rfl (mp2 (hA9.ev (i := 45) (v := .agg #[.slice Ap2 d2.cs.length cp2, .slice Aj2 d2.js.length cj2, .int .i64 d2.room])) (ec _ (.int .i64 0))) (by kernel_rfl) _ rfl) (Find_any Ap2 cp2 Aj2 cj2 d2.cs d2.js d2.room 0 _ ⟨(OwnR.gr (e := 28) ⟨rfl, ho2_12⟩), (OwnR.gr (e := 38) ⟨rfl, ho2_14⟩)⟩ (by decide) (by decide)) ?_
  intro e10 w10 hR10
  obtain ⟨rfl, hb10⟩ := hR10
  refine ⟨_, rfl, ?_⟩
  intro a10 hA10
  clear hA9
  have hg10 := g0 hb10
  have hs10 := hg10.size
  clear hb10
  refine sx_val hA10 rfl (ev_move (hA10.ev (i := 46) (v := .tuple #[.int .i64 (fnd d2 0).1, .int .i64 (fnd d2 0).2])) _ rfl) ?_
  intro a15 hA15; clear hA10
  refine sx_val (v := .int .i64 (fnd d2 0).1) hA15 rfl (ev_ext (hA15.ev (i := 44) (v := .tuple #[.int .i64 (fnd d2 0).1, .int .i64 (fnd d2 0).2])) rfl _ rfl) ?_
  intro a16 hA16; clear hA15
  refine sx_val (v := .int .i64 (fnd d2 0).2) hA16 rfl (ev_ext (hA16.ev (i := 44) (v := .tuple #[.int .i64 (fnd d2 0).1, .int .i64 (fnd d2 0).2])) rfl _ rfl) ?_
  intro a17 hA17; clear hA16
  refine sx_val hA17 rfl (ev_assign (hA17.ev (i := 47) (v := .int .i64 (fnd d2 0).1)) _ rfl) ?_
  intro a18 hA18; clear hA17
  refine sx_val hA18 rfl (ev_assign (hA18.ev (i := 48) (v := .int .i64 (fnd d2 0).2)) _ rfl) ?_
  intro a19 hA19; clear hA18
  refine sx_nil ?_
  refine then_n ?_
  refine wp_seq ?_
  refine wp_region_lit ?_
  have hx7_20 := hx7.gN hg10
  refine sx_val (v := .agg #[.slice Ap2 d2.cs.length cp2, .slice Aj2 d2.js.length cj2, .int .i64 d2.room]) hA19 rfl (ev_row (hA19.ev (i := 1) (v := .pointer (some ⟨B6, 0, none⟩))) hx7_20 Try.underlying25 rfl (n := 3) (by kernel_rfl) rfl _ rfl) ?_
  intro a21 hA21; clear hA19
  have ho2_23 := Own.gN ho2_12 hg10
  have ho2_24 := Own.gN ho2_14 hg10
  refine sx_call (f := 17) (args := #[.agg #[.slice Ap2 d2.cs.length cp2, .slice Aj2 d2.js.length cj2, .int .i64 d2.room], .int .i64 1]) hA21 rfl (by decide) (.inl rfl) (ev_fn rfl (mp2 (hA21.ev (i := 50) (v := .agg #[.slice Ap2 d2.cs.length cp2, .slice Aj2 d2.js.length cj2, .int .i64 d2.room])) (ec _ (.int .i64 1))) (by kernel_rfl) _ rfl) (Complete_any Ap2 cp2 Aj2 cj2 d2.cs d2.js d2.room 1 _ ⟨(OwnR.gr (e := 28) ⟨rfl, ho2_23⟩), (OwnR.gr (e := 38) ⟨rfl, ho2_24⟩)⟩ (by decide) (by decide)) ?_
  intro e22 w22 hR22
  obtain ⟨Ap22, cp22, Aj22, cj22, rfl, hC22, hJ22, hb22⟩ := hR22
  refine ⟨_, rfl, ?_⟩
  intro a22 hA22
  clear hA21
  have hg22 := g0 hb22
  have hs22 := hg22.size
  clear hb22
  have ho22_0 : Own w22 (w10.heap.size) 28 8 (.slice Ap22 (cmp d2 1).1.cs.length cp22) (cmp d2 1).1.cs.length (flat Ct.va (cmp d2 1).1.cs) := hC22.2
  have hh22_0 := Own.hi ho22_0
  have ho22_1 : Own w22 (w10.heap.size) 38 11 (.slice Aj22 (cmp d2 1).1.js.length cj22) (cmp d2 1).1.js.length (flat Jb.va (cmp d2 1).1.js) := hJ22.2
  have hh22_1 := Own.hi ho22_1
  refine sx_val hA22 rfl (ev_move (hA22.ev (i := 51) (v := .tuple #[.agg #[.slice Ap22 (cmp d2 1).1.cs.length cp22, .slice Aj22 (cmp d2 1).1.js.length cj22, .int .i64 (cmp d2 1).1.room], .agg (cmp d2 1).2.1.va, .int .i64 (cmp d2 1).2.2])) _ rfl) ?_
  intro a25 hA25; clear hA22
  refine sx_val (v := .agg #[.slice Ap22 (cmp d2 1).1.cs.length cp22, .slice Aj22 (cmp d2 1).1.js.length cj22, .int .i64 (cmp d2 1).1.room]) hA25 rfl (ev_ext (hA25.ev (i := 49) (v := .tuple #[.agg #[.slice Ap22 (cmp d2 1).1.cs.length cp22, .slice Aj22 (cmp d2 1).1.js.length cj22, .int .i64 (cmp d2 1).1.room], .agg (cmp d2 1).2.1.va, .int .i64 (cmp d2 1).2.2])) rfl _ rfl) ?_
  intro a26 hA26; clear hA25
  refine sx_val (v := .agg (cmp d2 1).2.1.va) hA26 rfl (ev_ext (hA26.ev (i := 49) (v := .tuple #[.agg #[.slice Ap22 (cmp d2 1).1.cs.length cp22, .slice Aj22 (cmp d2 1).1.js.length cj22, .int .i64 (cmp d2 1).1.room], .agg (cmp d2 1).2.1.va, .int .i64 (cmp d2 1).2.2])) rfl _ rfl) ?_
  intro a27 hA27; clear hA26
  refine sx_val (v := .int .i64 (cmp d2 1).2.2) hA27 rfl (ev_ext (hA27.ev (i := 49) (v := .tuple #[.agg #[.slice Ap22 (cmp d2 1).1.cs.length cp22, .slice Aj22 (cmp d2 1).1.js.length cj22, .int .i64 (cmp d2 1).1.room], .agg (cmp d2 1).2.1.va, .int .i64 (cmp d2 1).2.2])) rfl _ rfl) ?_
  intro a28 hA28; clear hA27
  refine sx_new (cs := #[.slice none 0 0, .slice none 0 0, .int .i64 0]) (t := 25) hA28 rfl (by decide) (.inl rfl) (ev_alloc (z := .agg (#[.slice none 0 0, .slice none 0 0, .int .i64 0])) (by kernel_rfl) (by kernel_rfl) _ rfl) ?_
  intro B29 w29 a29 hB29 hx29 hg29 hA29
  clear hA28
  have hs29 := hg29.size
  have hl29 := hx29.lt
  refine sx_new (cs := Jb.zero.va) (t := 38) hA29 rfl (by decide) (.inl rfl) (ev_alloc (z := .agg Jb.zero.va) (by kernel_rfl) (by kernel_rfl) _ rfl) ?_
  intro B30 w30 a30 hB30 hx30 hg30 hA30
  clear hA29
  have hs30 := hg30.size
  have hl30 := hx30.lt
  have hx29_32 := hx29.gN hg30
  refine sx_store hA30 rfl (.inl rfl) rfl (hA30.ev (i := 5) (v := .pointer (some ⟨B29, 0, none⟩))) (hA30.ev (i := 52) (v := .agg #[.slice Ap22 (cmp d2 1).1.cs.length cp22, .slice Aj22 (cmp d2 1).1.js.length cj22, .int .i64 (cmp d2 1).1.room])) hx29_32 (by kernel_rfl) rfl (dk_one _ _ _ _ _ _ _) ?_
  intro w31 hx31 hg31
  have hs31 := hg31.size
  have hx30_34 := hx30.gB hg31 (by omega)
  refine sx_store hA30 rfl (.inl rfl) rfl (hA30.ev (i := 6) (v := .pointer (some ⟨B30, 0, none⟩))) (hA30.ev (i := 53) (v := .agg (cmp d2 1).2.1.va)) hx30_34 (by kernel_rfl) rfl (jb_one _) ?_
  intro w33 hx33 hg33
  have hs33 := hg33.size
  refine sx_val hA30 rfl (ev_assign (hA30.ev (i := 54) (v := .int .i64 (cmp d2 1).2.2)) _ rfl) ?_
  intro a35 hA35; clear hA30
  refine sx_nil ?_
  refine then_n ?_
  refine wp_seq ?_
  refine wp_region_lit ?_
  have hx31_36 := hx31.gB hg33 (by omega)
  refine sx_val (v := .agg #[.slice Ap22 (cmp d2 1).1.cs.length cp22, .slice Aj22 (cmp d2 1).1.js.length cj22, .int .i64 (cmp d2 1).1.room]) hA35 rfl (ev_row (hA35.ev (i := 5) (v := .pointer (some ⟨B29, 0, none⟩))) hx31_36 Try.underlying25 rfl (n := 3) (by kernel_rfl) rfl _ rfl) ?_
  intro a37 hA37; clear hA35
  have ho22_39 := Own.gN ho22_0 hg29
  have ho22_40 := Own.gN ho22_39 hg30
  have ho22_41 := Own.gBT ho22_40 hg31 hx29_32 (by decide)
  have ho22_42 := Own.gBT ho22_41 hg33 hx30_34 (by decide)
  have ho22_43 := Own.gN ho22_1 hg29
  have ho22_44 := Own.gN ho22_43 hg30
  have ho22_45 := Own.gBT ho22_44 hg31 hx29_32 (by decide)
  have ho22_46 := Own.gB ho22_45 hg33 hh22_1 (by omega)
  refine sx_call (f := 17) (args := #[.agg #[.slice Ap22 (cmp d2 1).1.cs.length cp22, .slice Aj22 (cmp d2 1).1.js.length cj22, .int .i64 (cmp d2 1).1.room], .int .i64 0]) hA37 rfl (by decide) (.inl rfl) (ev_fn rfl (mp2 (hA37.ev (i := 56) (v := .agg #[.slice Ap22 (cmp d2 1).1.cs.length cp22, .slice Aj22 (cmp d2 1).1.js.length cj22, .int .i64 (cmp d2 1).1.room])) (ec _ (.int .i64 0))) (by kernel_rfl) _ rfl) (Complete_any Ap22 cp22 Aj22 cj22 (cmp d2 1).1.cs (cmp d2 1).1.js (cmp d2 1).1.room 0 _ ⟨(OwnR.gr (e := 28) ⟨rfl, ho22_42⟩), (OwnR.gr (e := 38) ⟨rfl, ho22_46⟩)⟩ (by decide) (by decide)) ?_
  intro e38 w38 hR38
  obtain ⟨Ap38, cp38, Aj38, cj38, rfl, hC38, hJ38, hb38⟩ := hR38
  refine ⟨_, rfl, ?_⟩
  intro a38 hA38
  clear hA37
  have hg38 := g0 hb38
  have hs38 := hg38.size
  clear hb38
  have ho38_0 : Own w38 (w33.heap.size) 28 8 (.slice Ap38 (cmp (cmp d2 1).1 0).1.cs.length cp38) (cmp (cmp d2 1).1 0).1.cs.length (flat Ct.va (cmp (cmp d2 1).1 0).1.cs) := hC38.2
  have hh38_0 := Own.hi ho38_0
  have ho38_1 : Own w38 (w33.heap.size) 38 11 (.slice Aj38 (cmp (cmp d2 1).1 0).1.js.length cj38) (cmp (cmp d2 1).1 0).1.js.length (flat Jb.va (cmp (cmp d2 1).1 0).1.js) := hJ38.2
  have hh38_1 := Own.hi ho38_1
  refine sx_val hA38 rfl (ev_move (hA38.ev (i := 57) (v := .tuple #[.agg #[.slice Ap38 (cmp (cmp d2 1).1 0).1.cs.length cp38, .slice Aj38 (cmp (cmp d2 1).1 0).1.js.length cj38, .int .i64 (cmp (cmp d2 1).1 0).1.room], .agg (cmp (cmp d2 1).1 0).2.1.va, .int .i64 (cmp (cmp d2 1).1 0).2.2])) _ rfl) ?_
  intro a47 hA47; clear hA38
  refine sx_val (v := .agg #[.slice Ap38 (cmp (cmp d2 1).1 0).1.cs.length cp38, .slice Aj38 (cmp (cmp d2 1).1 0).1.js.length cj38, .int .i64 (cmp (cmp d2 1).1 0).1.room]) hA47 rfl (ev_ext (hA47.ev (i := 55) (v := .tuple #[.agg #[.slice Ap38 (cmp (cmp d2 1).1 0).1.cs.length cp38, .slice Aj38 (cmp (cmp d2 1).1 0).1.js.length cj38, .int .i64 (cmp (cmp d2 1).1 0).1.room], .agg (cmp (cmp d2 1).1 0).2.1.va, .int .i64 (cmp (cmp d2 1).1 0).2.2])) rfl _ rfl) ?_
  intro a48 hA48; clear hA47
  refine sx_val (v := .agg (cmp (cmp d2 1).1 0).2.1.va) hA48 rfl (ev_ext (hA48.ev (i := 55) (v := .tuple #[.agg #[.slice Ap38 (cmp (cmp d2 1).1 0).1.cs.length cp38, .slice Aj38 (cmp (cmp d2 1).1 0).1.js.length cj38, .int .i64 (cmp (cmp d2 1).1 0).1.room], .agg (cmp (cmp d2 1).1 0).2.1.va, .int .i64 (cmp (cmp d2 1).1 0).2.2])) rfl _ rfl) ?_
  intro a49 hA49; clear hA48
  refine sx_val (v := .int .i64 (cmp (cmp d2 1).1 0).2.2) hA49 rfl (ev_ext (hA49.ev (i := 55) (v := .tuple #[.agg #[.slice Ap38 (cmp (cmp d2 1).1 0).1.cs.length cp38, .slice Aj38 (cmp (cmp d2 1).1 0).1.js.length cj38, .int .i64 (cmp (cmp d2 1).1 0).1.room], .agg (cmp (cmp d2 1).1 0).2.1.va, .int .i64 (cmp (cmp d2 1).1 0).2.2])) rfl _ rfl) ?_
  intro a50 hA50; clear hA49
  refine sx_new (cs := #[.slice none 0 0, .slice none 0 0, .int .i64 0]) (t := 25) hA50 rfl (by decide) (.inl rfl) (ev_alloc (z := .agg (#[.slice none 0 0, .slice none 0 0, .int .i64 0])) (by kernel_rfl) (by kernel_rfl) _ rfl) ?_
  intro B51 w51 a51 hB51 hx51 hg51 hA51
  clear hA50
  have hs51 := hg51.size
  have hl51 := hx51.lt
  refine sx_new (cs := Jb.zero.va) (t := 38) hA51 rfl (by decide) (.inl rfl) (ev_alloc (z := .agg Jb.zero.va) (by kernel_rfl) (by kernel_rfl) _ rfl) ?_
  intro B52 w52 a52 hB52 hx52 hg52 hA52
  clear hA51
  have hs52 := hg52.size
  have hl52 := hx52.lt
  have hx51_54 := hx51.gN hg52
  refine sx_store hA52 rfl (.inl rfl) rfl (hA52.ev (i := 8) (v := .pointer (some ⟨B51, 0, none⟩))) (hA52.ev (i := 58) (v := .agg #[.slice Ap38 (cmp (cmp d2 1).1 0).1.cs.length cp38, .slice Aj38 (cmp (cmp d2 1).1 0).1.js.length cj38, .int .i64 (cmp (cmp d2 1).1 0).1.room])) hx51_54 (by kernel_rfl) rfl (dk_one _ _ _ _ _ _ _) ?_
  intro w53 hx53 hg53
  have hs53 := hg53.size
  have hx52_56 := hx52.gB hg53 (by omega)
  refine sx_store hA52 rfl (.inl rfl) rfl (hA52.ev (i := 9) (v := .pointer (some ⟨B52, 0, none⟩))) (hA52.ev (i := 59) (v := .agg (cmp (cmp d2 1).1 0).2.1.va)) hx52_56 (by kernel_rfl) rfl (jb_one _) ?_
  intro w55 hx55 hg55
  have hs55 := hg55.size
  refine sx_val hA52 rfl (ev_assign (hA52.ev (i := 60) (v := .int .i64 (cmp (cmp d2 1).1 0).2.2)) _ rfl) ?_
  intro a57 hA57; clear hA52
  refine sx_nil ?_
  refine then_n ?_
  refine wp_seq ?_
  refine wp_region_lit ?_
  have hx53_58 := hx53.gB hg55 (by omega)
  refine sx_val (v := .agg #[.slice Ap38 (cmp (cmp d2 1).1 0).1.cs.length cp38, .slice Aj38 (cmp (cmp d2 1).1 0).1.js.length cj38, .int .i64 (cmp (cmp d2 1).1 0).1.room]) hA57 rfl (ev_row (hA57.ev (i := 8) (v := .pointer (some ⟨B51, 0, none⟩))) hx53_58 Try.underlying25 rfl (n := 3) (by kernel_rfl) rfl _ rfl) ?_
  intro a59 hA59; clear hA57
  have ho38_61 := Own.gN ho38_0 hg51
  have ho38_62 := Own.gN ho38_61 hg52
  have ho38_63 := Own.gBT ho38_62 hg53 hx51_54 (by decide)
  have ho38_64 := Own.gBT ho38_63 hg55 hx52_56 (by decide)
  have ho38_65 := Own.gN ho38_1 hg51
  have ho38_66 := Own.gN ho38_65 hg52
  have ho38_67 := Own.gBT ho38_66 hg53 hx51_54 (by decide)
  have ho38_68 := Own.gB ho38_67 hg55 hh38_1 (by omega)
  refine sx_call (f := 15) (args := #[.agg #[.slice Ap38 (cmp (cmp d2 1).1 0).1.cs.length cp38, .slice Aj38 (cmp (cmp d2 1).1 0).1.js.length cj38, .int .i64 (cmp (cmp d2 1).1 0).1.room], .int .i64 1, .int .i64 7]) hA59 rfl (by decide) (.inl rfl) (ev_fn rfl (mp3 (hA59.ev (i := 62) (v := .agg #[.slice Ap38 (cmp (cmp d2 1).1 0).1.cs.length cp38, .slice Aj38 (cmp (cmp d2 1).1 0).1.js.length cj38, .int .i64 (cmp (cmp d2 1).1 0).1.room])) (ec _ (.int .i64 1)) (ec _ (.int .i64 7))) (by kernel_rfl) _ rfl) (Read_any Ap38 cp38 Aj38 cj38 (cmp (cmp d2 1).1 0).1.cs (cmp (cmp d2 1).1 0).1.js (cmp (cmp d2 1).1 0).1.room 1 7 _ ⟨(OwnR.gr (e := 28) ⟨rfl, ho38_64⟩), (OwnR.gr (e := 38) ⟨rfl, ho38_68⟩)⟩ (by decide) (by decide)) ?_
  intro e60 w60 hR60
  obtain ⟨Ap60, cp60, Aj60, cj60, rfl, hC60, hJ60, hb60⟩ := hR60
  refine ⟨_, rfl, ?_⟩
  intro a60 hA60
  clear hA59
  have hg60 := g0 hb60
  have hs60 := hg60.size
  clear hb60
  have ho60_0 : Own w60 (w55.heap.size) 28 8 (.slice Ap60 (sub (cmp (cmp d2 1).1 0).1 ⟨false, 1, 7, Ct.zero⟩).1.cs.length cp60) (sub (cmp (cmp d2 1).1 0).1 ⟨false, 1, 7, Ct.zero⟩).1.cs.length (flat Ct.va (sub (cmp (cmp d2 1).1 0).1 ⟨false, 1, 7, Ct.zero⟩).1.cs) := hC60.2
  have hh60_0 := Own.hi ho60_0
  have ho60_1 : Own w60 (w55.heap.size) 38 11 (.slice Aj60 (sub (cmp (cmp d2 1).1 0).1 ⟨false, 1, 7, Ct.zero⟩).1.js.length cj60) (sub (cmp (cmp d2 1).1 0).1 ⟨false, 1, 7, Ct.zero⟩).1.js.length (flat Jb.va (sub (cmp (cmp d2 1).1 0).1 ⟨false, 1, 7, Ct.zero⟩).1.js) := hJ60.2
  have hh60_1 := Own.hi ho60_1
  refine sx_val hA60 rfl (ev_move (hA60.ev (i := 63) (v := .tuple #[.agg #[.slice Ap60 (sub (cmp (cmp d2 1).1 0).1 ⟨false, 1, 7, Ct.zero⟩).1.cs.length cp60, .slice Aj60 (sub (cmp (cmp d2 1).1 0).1 ⟨false, 1, 7, Ct.zero⟩).1.js.length cj60, .int .i64 (sub (cmp (cmp d2 1).1 0).1 ⟨false, 1, 7, Ct.zero⟩).1.room], .int .i64 (sub (cmp (cmp d2 1).1 0).1 ⟨false, 1, 7, Ct.zero⟩).2])) _ rfl) ?_
  intro a69 hA69; clear hA60
  refine sx_val (v := .agg #[.slice Ap60 (sub (cmp (cmp d2 1).1 0).1 ⟨false, 1, 7, Ct.zero⟩).1.cs.length cp60, .slice Aj60 (sub (cmp (cmp d2 1).1 0).1 ⟨false, 1, 7, Ct.zero⟩).1.js.length cj60, .int .i64 (sub (cmp (cmp d2 1).1 0).1 ⟨false, 1, 7, Ct.zero⟩).1.room]) hA69 rfl (ev_ext (hA69.ev (i := 61) (v := .tuple #[.agg #[.slice Ap60 (sub (cmp (cmp d2 1).1 0).1 ⟨false, 1, 7, Ct.zero⟩).1.cs.length cp60, .slice Aj60 (sub (cmp (cmp d2 1).1 0).1 ⟨false, 1, 7, Ct.zero⟩).1.js.length cj60, .int .i64 (sub (cmp (cmp d2 1).1 0).1 ⟨false, 1, 7, Ct.zero⟩).1.room], .int .i64 (sub (cmp (cmp d2 1).1 0).1 ⟨false, 1, 7, Ct.zero⟩).2])) rfl _ rfl) ?_
  intro a70 hA70; clear hA69
  refine sx_val (v := .int .i64 (sub (cmp (cmp d2 1).1 0).1 ⟨false, 1, 7, Ct.zero⟩).2) hA70 rfl (ev_ext (hA70.ev (i := 61) (v := .tuple #[.agg #[.slice Ap60 (sub (cmp (cmp d2 1).1 0).1 ⟨false, 1, 7, Ct.zero⟩).1.cs.length cp60, .slice Aj60 (sub (cmp (cmp d2 1).1 0).1 ⟨false, 1, 7, Ct.zero⟩).1.js.length cj60, .int .i64 (sub (cmp (cmp d2 1).1 0).1 ⟨false, 1, 7, Ct.zero⟩).1.room], .int .i64 (sub (cmp (cmp d2 1).1 0).1 ⟨false, 1, 7, Ct.zero⟩).2])) rfl _ rfl) ?_
  intro a71 hA71; clear hA70
  refine sx_new (cs := #[.slice none 0 0, .slice none 0 0, .int .i64 0]) (t := 25) hA71 rfl (by decide) (.inl rfl) (ev_alloc (z := .agg (#[.slice none 0 0, .slice none 0 0, .int .i64 0])) (by kernel_rfl) (by kernel_rfl) _ rfl) ?_
  intro B72 w72 a72 hB72 hx72 hg72 hA72
  clear hA71
  have hs72 := hg72.size
  have hl72 := hx72.lt
  refine sx_store hA72 rfl (.inl rfl) rfl (hA72.ev (i := 11) (v := .pointer (some ⟨B72, 0, none⟩))) (hA72.ev (i := 64) (v := .agg #[.slice Ap60 (sub (cmp (cmp d2 1).1 0).1 ⟨false, 1, 7, Ct.zero⟩).1.cs.length cp60, .slice Aj60 (sub (cmp (cmp d2 1).1 0).1 ⟨false, 1, 7, Ct.zero⟩).1.js.length cj60, .int .i64 (sub (cmp (cmp d2 1).1 0).1 ⟨false, 1, 7, Ct.zero⟩).1.room])) hx72 (by kernel_rfl) rfl (dk_one _ _ _ _ _ _ _) ?_
  intro w73 hx73 hg73
  have hs73 := hg73.size
  refine sx_val hA72 rfl (ev_assign (hA72.ev (i := 65) (v := .int .i64 (sub (cmp (cmp d2 1).1 0).1 ⟨false, 1, 7, Ct.zero⟩).2)) _ rfl) ?_
  intro a74 hA74; clear hA72
  refine sx_nil ?_
  refine then_n ?_
  refine wp_seq ?_
  refine wp_region_lit ?_
  refine sx_val (v := .agg #[.slice Ap60 (sub (cmp (cmp d2 1).1 0).1 ⟨false, 1, 7, Ct.zero⟩).1.cs.length cp60, .slice Aj60 (sub (cmp (cmp d2 1).1 0).1 ⟨false, 1, 7, Ct.zero⟩).1.js.length cj60, .int .i64 (sub (cmp (cmp d2 1).1 0).1 ⟨false, 1, 7, Ct.zero⟩).1.room]) hA74 rfl (ev_row (hA74.ev (i := 11) (v := .pointer (some ⟨B72, 0, none⟩))) hx73 Try.underlying25 rfl (n := 3) (by kernel_rfl) rfl _ rfl) ?_
  intro a75 hA75; clear hA74
  have ho60_77 := Own.gN ho60_0 hg72
  have ho60_78 := Own.gBT ho60_77 hg73 hx72 (by decide)
  have ho60_79 := Own.gN ho60_1 hg72
  have ho60_80 := Own.gBT ho60_79 hg73 hx72 (by decide)
  refine sx_call (f := 17) (args := #[.agg #[.slice Ap60 (sub (cmp (cmp d2 1).1 0).1 ⟨false, 1, 7, Ct.zero⟩).1.cs.length cp60, .slice Aj60 (sub (cmp (cmp d2 1).1 0).1 ⟨false, 1, 7, Ct.zero⟩).1.js.length cj60, .int .i64 (sub (cmp (cmp d2 1).1 0).1 ⟨false, 1, 7, Ct.zero⟩).1.room], .int .i64 0]) hA75 rfl (by decide) (.inl rfl) (ev_fn rfl (mp2 (hA75.ev (i := 67) (v := .agg #[.slice Ap60 (sub (cmp (cmp d2 1).1 0).1 ⟨false, 1, 7, Ct.zero⟩).1.cs.length cp60, .slice Aj60 (sub (cmp (cmp d2 1).1 0).1 ⟨false, 1, 7, Ct.zero⟩).1.js.length cj60, .int .i64 (sub (cmp (cmp d2 1).1 0).1 ⟨false, 1, 7, Ct.zero⟩).1.room])) (ec _ (.int .i64 0))) (by kernel_rfl) _ rfl) (Complete_any Ap60 cp60 Aj60 cj60 (sub (cmp (cmp d2 1).1 0).1 ⟨false, 1, 7, Ct.zero⟩).1.cs (sub (cmp (cmp d2 1).1 0).1 ⟨false, 1, 7, Ct.zero⟩).1.js (sub (cmp (cmp d2 1).1 0).1 ⟨false, 1, 7, Ct.zero⟩).1.room 0 _ ⟨(OwnR.gr (e := 28) ⟨rfl, ho60_78⟩), (OwnR.gr (e := 38) ⟨rfl, ho60_80⟩)⟩ (by decide) (by decide)) ?_
  intro e76 w76 hR76
  obtain ⟨Ap76, cp76, Aj76, cj76, rfl, hC76, hJ76, hb76⟩ := hR76
  refine ⟨_, rfl, ?_⟩
  intro a76 hA76
  clear hA75
  have hg76 := g0 hb76
  have hs76 := hg76.size
  clear hb76
  have ho76_0 : Own w76 (w73.heap.size) 28 8 (.slice Ap76 (cmp (sub (cmp (cmp d2 1).1 0).1 ⟨false, 1, 7, Ct.zero⟩).1 0).1.cs.length cp76) (cmp (sub (cmp (cmp d2 1).1 0).1 ⟨false, 1, 7, Ct.zero⟩).1 0).1.cs.length (flat Ct.va (cmp (sub (cmp (cmp d2 1).1 0).1 ⟨false, 1, 7, Ct.zero⟩).1 0).1.cs) := hC76.2
  have hh76_0 := Own.hi ho76_0
  have ho76_1 : Own w76 (w73.heap.size) 38 11 (.slice Aj76 (cmp (sub (cmp (cmp d2 1).1 0).1 ⟨false, 1, 7, Ct.zero⟩).1 0).1.js.length cj76) (cmp (sub (cmp (cmp d2 1).1 0).1 ⟨false, 1, 7, Ct.zero⟩).1 0).1.js.length (flat Jb.va (cmp (sub (cmp (cmp d2 1).1 0).1 ⟨false, 1, 7, Ct.zero⟩).1 0).1.js) := hJ76.2
  have hh76_1 := Own.hi ho76_1
  refine sx_val hA76 rfl (ev_move (hA76.ev (i := 68) (v := .tuple #[.agg #[.slice Ap76 (cmp (sub (cmp (cmp d2 1).1 0).1 ⟨false, 1, 7, Ct.zero⟩).1 0).1.cs.length cp76, .slice Aj76 (cmp (sub (cmp (cmp d2 1).1 0).1 ⟨false, 1, 7, Ct.zero⟩).1 0).1.js.length cj76, .int .i64 (cmp (sub (cmp (cmp d2 1).1 0).1 ⟨false, 1, 7, Ct.zero⟩).1 0).1.room], .agg (cmp (sub (cmp (cmp d2 1).1 0).1 ⟨false, 1, 7, Ct.zero⟩).1 0).2.1.va, .int .i64 (cmp (sub (cmp (cmp d2 1).1 0).1 ⟨false, 1, 7, Ct.zero⟩).1 0).2.2])) _ rfl) ?_
  intro a81 hA81; clear hA76
  refine sx_val (v := .agg #[.slice Ap76 (cmp (sub (cmp (cmp d2 1).1 0).1 ⟨false, 1, 7, Ct.zero⟩).1 0).1.cs.length cp76, .slice Aj76 (cmp (sub (cmp (cmp d2 1).1 0).1 ⟨false, 1, 7, Ct.zero⟩).1 0).1.js.length cj76, .int .i64 (cmp (sub (cmp (cmp d2 1).1 0).1 ⟨false, 1, 7, Ct.zero⟩).1 0).1.room]) hA81 rfl (ev_ext (hA81.ev (i := 66) (v := .tuple #[.agg #[.slice Ap76 (cmp (sub (cmp (cmp d2 1).1 0).1 ⟨false, 1, 7, Ct.zero⟩).1 0).1.cs.length cp76, .slice Aj76 (cmp (sub (cmp (cmp d2 1).1 0).1 ⟨false, 1, 7, Ct.zero⟩).1 0).1.js.length cj76, .int .i64 (cmp (sub (cmp (cmp d2 1).1 0).1 ⟨false, 1, 7, Ct.zero⟩).1 0).1.room], .agg (cmp (sub (cmp (cmp d2 1).1 0).1 ⟨false, 1, 7, Ct.zero⟩).1 0).2.1.va, .int .i64 (cmp (sub (cmp (cmp d2 1).1 0).1 ⟨false, 1, 7, Ct.zero⟩).1 0).2.2])) rfl _ rfl) ?_
  intro a82 hA82; clear hA81
  refine sx_val (v := .agg (cmp (sub (cmp (cmp d2 1).1 0).1 ⟨false, 1, 7, Ct.zero⟩).1 0).2.1.va) hA82 rfl (ev_ext (hA82.ev (i := 66) (v := .tuple #[.agg #[.slice Ap76 (cmp (sub (cmp (cmp d2 1).1 0).1 ⟨false, 1, 7, Ct.zero⟩).1 0).1.cs.length cp76, .slice Aj76 (cmp (sub (cmp (cmp d2 1).1 0).1 ⟨false, 1, 7, Ct.zero⟩).1 0).1.js.length cj76, .int .i64 (cmp (sub (cmp (cmp d2 1).1 0).1 ⟨false, 1, 7, Ct.zero⟩).1 0).1.room], .agg (cmp (sub (cmp (cmp d2 1).1 0).1 ⟨false, 1, 7, Ct.zero⟩).1 0).2.1.va, .int .i64 (cmp (sub (cmp (cmp d2 1).1 0).1 ⟨false, 1, 7, Ct.zero⟩).1 0).2.2])) rfl _ rfl) ?_
  intro a83 hA83; clear hA82
  refine sx_val (v := .int .i64 (cmp (sub (cmp (cmp d2 1).1 0).1 ⟨false, 1, 7, Ct.zero⟩).1 0).2.2) hA83 rfl (ev_ext (hA83.ev (i := 66) (v := .tuple #[.agg #[.slice Ap76 (cmp (sub (cmp (cmp d2 1).1 0).1 ⟨false, 1, 7, Ct.zero⟩).1 0).1.cs.length cp76, .slice Aj76 (cmp (sub (cmp (cmp d2 1).1 0).1 ⟨false, 1, 7, Ct.zero⟩).1 0).1.js.length cj76, .int .i64 (cmp (sub (cmp (cmp d2 1).1 0).1 ⟨false, 1, 7, Ct.zero⟩).1 0).1.room], .agg (cmp (sub (cmp (cmp d2 1).1 0).1 ⟨false, 1, 7, Ct.zero⟩).1 0).2.1.va, .int .i64 (cmp (sub (cmp (cmp d2 1).1 0).1 ⟨false, 1, 7, Ct.zero⟩).1 0).2.2])) rfl _ rfl) ?_
  intro a84 hA84; clear hA83
  refine sx_new (cs := #[.slice none 0 0, .slice none 0 0, .int .i64 0]) (t := 25) hA84 rfl (by decide) (.inl rfl) (ev_alloc (z := .agg (#[.slice none 0 0, .slice none 0 0, .int .i64 0])) (by kernel_rfl) (by kernel_rfl) _ rfl) ?_
  intro B85 w85 a85 hB85 hx85 hg85 hA85
  clear hA84
  have hs85 := hg85.size
  have hl85 := hx85.lt
  refine sx_new (cs := Jb.zero.va) (t := 38) hA85 rfl (by decide) (.inl rfl) (ev_alloc (z := .agg Jb.zero.va) (by kernel_rfl) (by kernel_rfl) _ rfl) ?_
  intro B86 w86 a86 hB86 hx86 hg86 hA86
  clear hA85
  have hs86 := hg86.size
  have hl86 := hx86.lt
  have hx85_88 := hx85.gN hg86
  refine sx_store hA86 rfl (.inl rfl) rfl (hA86.ev (i := 13) (v := .pointer (some ⟨B85, 0, none⟩))) (hA86.ev (i := 69) (v := .agg #[.slice Ap76 (cmp (sub (cmp (cmp d2 1).1 0).1 ⟨false, 1, 7, Ct.zero⟩).1 0).1.cs.length cp76, .slice Aj76 (cmp (sub (cmp (cmp d2 1).1 0).1 ⟨false, 1, 7, Ct.zero⟩).1 0).1.js.length cj76, .int .i64 (cmp (sub (cmp (cmp d2 1).1 0).1 ⟨false, 1, 7, Ct.zero⟩).1 0).1.room])) hx85_88 (by kernel_rfl) rfl (dk_one _ _ _ _ _ _ _) ?_
  intro w87 hx87 hg87
  have hs87 := hg87.size
  have hx86_90 := hx86.gB hg87 (by omega)
  refine sx_store hA86 rfl (.inl rfl) rfl (hA86.ev (i := 14) (v := .pointer (some ⟨B86, 0, none⟩))) (hA86.ev (i := 70) (v := .agg (cmp (sub (cmp (cmp d2 1).1 0).1 ⟨false, 1, 7, Ct.zero⟩).1 0).2.1.va)) hx86_90 (by kernel_rfl) rfl (jb_one _) ?_
  intro w89 hx89 hg89
  have hs89 := hg89.size
  refine sx_val hA86 rfl (ev_assign (hA86.ev (i := 71) (v := .int .i64 (cmp (sub (cmp (cmp d2 1).1 0).1 ⟨false, 1, 7, Ct.zero⟩).1 0).2.2)) _ rfl) ?_
  intro a91 hA91; clear hA86
  refine sx_nil ?_
  refine then_n ?_
  refine wp_seq ?_
  have hx7_92 := hx7_20.gN hg22
  have hx7_93 := hx7_92.gN hg29
  have hx7_94 := hx7_93.gN hg30
  have hx7_95 := hx7_94.gB hg31 (by omega)
  have hx7_96 := hx7_95.gB hg33 (by omega)
  have hx7_97 := hx7_96.gN hg38
  have hx7_98 := hx7_97.gN hg51
  have hx7_99 := hx7_98.gN hg52
  have hx7_100 := hx7_99.gB hg53 (by omega)
  have hx7_101 := hx7_100.gB hg55 (by omega)
  have hx7_102 := hx7_101.gN hg60
  have hx7_103 := hx7_102.gN hg72
  have hx7_104 := hx7_103.gB hg73 (by omega)
  have hx7_105 := hx7_104.gN hg76
  have hx7_106 := hx7_105.gN hg85
  have hx7_107 := hx7_106.gN hg86
  have hx7_108 := hx7_107.gB hg87 (by omega)
  have hx7_109 := hx7_108.gB hg89 (by omega)
  have hx31_110 := hx31_36.gN hg38
  have hx31_111 := hx31_110.gN hg51
  have hx31_112 := hx31_111.gN hg52
  have hx31_113 := hx31_112.gB hg53 (by omega)
  have hx31_114 := hx31_113.gB hg55 (by omega)
  have hx31_115 := hx31_114.gN hg60
  have hx31_116 := hx31_115.gN hg72
  have hx31_117 := hx31_116.gB hg73 (by omega)
  have hx31_118 := hx31_117.gN hg76
  have hx31_119 := hx31_118.gN hg85
  have hx31_120 := hx31_119.gN hg86
  have hx31_121 := hx31_120.gB hg87 (by omega)
  have hx31_122 := hx31_121.gB hg89 (by omega)
  have hx53_123 := hx53_58.gN hg60
  have hx53_124 := hx53_123.gN hg72
  have hx53_125 := hx53_124.gB hg73 (by omega)
  have hx53_126 := hx53_125.gN hg76
  have hx53_127 := hx53_126.gN hg85
  have hx53_128 := hx53_127.gN hg86
  have hx53_129 := hx53_128.gB hg87 (by omega)
  have hx53_130 := hx53_129.gB hg89 (by omega)
  have hx55_131 := hx55.gN hg60
  have hx55_132 := hx55_131.gN hg72
  have hx55_133 := hx55_132.gB hg73 (by omega)
  have hx55_134 := hx55_133.gN hg76
  have hx55_135 := hx55_134.gN hg85
  have hx55_136 := hx55_135.gN hg86
  have hx55_137 := hx55_136.gB hg87 (by omega)
  have hx55_138 := hx55_137.gB hg89 (by omega)
  have ho2_139 := Own.gN ho2_23 hg22
  have ho2_140 := Own.gN ho2_139 hg29
  have ho2_141 := Own.gN ho2_140 hg30
  have ho2_142 := Own.gBT ho2_141 hg31 hx29_32 (by decide)
  have ho2_143 := Own.gBT ho2_142 hg33 hx30_34 (by decide)
  have ho2_144 := Own.gN ho2_143 hg38
  have ho2_145 := Own.gN ho2_144 hg51
  have ho2_146 := Own.gN ho2_145 hg52
  have ho2_147 := Own.gBT ho2_146 hg53 hx51_54 (by decide)
  have ho2_148 := Own.gBT ho2_147 hg55 hx52_56 (by decide)
  have ho2_149 := Own.gN ho2_148 hg60
  have ho2_150 := Own.gN ho2_149 hg72
  have ho2_151 := Own.gBT ho2_150 hg73 hx72 (by decide)
  have ho2_152 := Own.gN ho2_151 hg76
  have ho2_153 := Own.gN ho2_152 hg85
  have ho2_154 := Own.gN ho2_153 hg86
  have ho2_155 := Own.gBT ho2_154 hg87 hx85_88 (by decide)
  have ho2_156 := Own.gBT ho2_155 hg89 hx86_90 (by decide)
  have ho2_157 := Own.gN ho2_24 hg22
  have ho2_158 := Own.gN ho2_157 hg29
  have ho2_159 := Own.gN ho2_158 hg30
  have ho2_160 := Own.gBT ho2_159 hg31 hx29_32 (by decide)
  have ho2_161 := Own.gB ho2_160 hg33 hh2_1 (by omega)
  have ho2_162 := Own.gN ho2_161 hg38
  have ho2_163 := Own.gN ho2_162 hg51
  have ho2_164 := Own.gN ho2_163 hg52
  have ho2_165 := Own.gBT ho2_164 hg53 hx51_54 (by decide)
  have ho2_166 := Own.gB ho2_165 hg55 hh2_1 (by omega)
  have ho2_167 := Own.gN ho2_166 hg60
  have ho2_168 := Own.gN ho2_167 hg72
  have ho2_169 := Own.gBT ho2_168 hg73 hx72 (by decide)
  have ho2_170 := Own.gN ho2_169 hg76
  have ho2_171 := Own.gN ho2_170 hg85
  have ho2_172 := Own.gN ho2_171 hg86
  have ho2_173 := Own.gBT ho2_172 hg87 hx85_88 (by decide)
  have ho2_174 := Own.gB ho2_173 hg89 hh2_1 (by omega)
  have ho22_175 := Own.gN ho22_42 hg38
  have ho22_176 := Own.gN ho22_175 hg51
  have ho22_177 := Own.gN ho22_176 hg52
  have ho22_178 := Own.gBT ho22_177 hg53 hx51_54 (by decide)
  have ho22_179 := Own.gBT ho22_178 hg55 hx52_56 (by decide)
  have ho22_180 := Own.gN ho22_179 hg60
  have ho22_181 := Own.gN ho22_180 hg72
  have ho22_182 := Own.gBT ho22_181 hg73 hx72 (by decide)
  have ho22_183 := Own.gN ho22_182 hg76
  have ho22_184 := Own.gN ho22_183 hg85
  have ho22_185 := Own.gN ho22_184 hg86
  have ho22_186 := Own.gBT ho22_185 hg87 hx85_88 (by decide)
  have ho22_187 := Own.gBT ho22_186 hg89 hx86_90 (by decide)
  have ho22_188 := Own.gN ho22_46 hg38
  have ho22_189 := Own.gN ho22_188 hg51
  have ho22_190 := Own.gN ho22_189 hg52
  have ho22_191 := Own.gBT ho22_190 hg53 hx51_54 (by decide)
  have ho22_192 := Own.gB ho22_191 hg55 hh22_1 (by omega)
  have ho22_193 := Own.gN ho22_192 hg60
  have ho22_194 := Own.gN ho22_193 hg72
  have ho22_195 := Own.gBT ho22_194 hg73 hx72 (by decide)
  have ho22_196 := Own.gN ho22_195 hg76
  have ho22_197 := Own.gN ho22_196 hg85
  have ho22_198 := Own.gN ho22_197 hg86
  have ho22_199 := Own.gBT ho22_198 hg87 hx85_88 (by decide)
  have ho22_200 := Own.gB ho22_199 hg89 hh22_1 (by omega)
  have ho38_201 := Own.gN ho38_64 hg60
  have ho38_202 := Own.gN ho38_201 hg72
  have ho38_203 := Own.gBT ho38_202 hg73 hx72 (by decide)
  have ho38_204 := Own.gN ho38_203 hg76
  have ho38_205 := Own.gN ho38_204 hg85
  have ho38_206 := Own.gN ho38_205 hg86
  have ho38_207 := Own.gBT ho38_206 hg87 hx85_88 (by decide)
  have ho38_208 := Own.gBT ho38_207 hg89 hx86_90 (by decide)
  have ho38_209 := Own.gN ho38_68 hg60
  have ho38_210 := Own.gN ho38_209 hg72
  have ho38_211 := Own.gBT ho38_210 hg73 hx72 (by decide)
  have ho38_212 := Own.gN ho38_211 hg76
  have ho38_213 := Own.gN ho38_212 hg85
  have ho38_214 := Own.gN ho38_213 hg86
  have ho38_215 := Own.gBT ho38_214 hg87 hx85_88 (by decide)
  have ho38_216 := Own.gB ho38_215 hg89 hh38_1 (by omega)
  have hbel0_217 := Below.gN hbel0 hg2 hbel0.size
  have hbel0_218 := Below.gN hbel0_217 hg6 hbel0_217.size
  have hbel0_219 := Below.gB hbel0_218 hg7 hbel0_218.size (by omega)
  have hbel0_220 := Below.gN hbel0_219 hg10 hbel0_219.size
  have hbel0_221 := Below.gN hbel0_220 hg22 hbel0_220.size
  have hbel0_222 := Below.gN hbel0_221 hg29 hbel0_221.size
  have hbel0_223 := Below.gN hbel0_222 hg30 hbel0_222.size
  have hbel0_224 := Below.gB hbel0_223 hg31 hbel0_223.size (by omega)
  have hbel0_225 := Below.gB hbel0_224 hg33 hbel0_224.size (by omega)
  have hbel0_226 := Below.gN hbel0_225 hg38 hbel0_225.size
  have hbel0_227 := Below.gN hbel0_226 hg51 hbel0_226.size
  have hbel0_228 := Below.gN hbel0_227 hg52 hbel0_227.size
  have hbel0_229 := Below.gB hbel0_228 hg53 hbel0_228.size (by omega)
  have hbel0_230 := Below.gB hbel0_229 hg55 hbel0_229.size (by omega)
  have hbel0_231 := Below.gN hbel0_230 hg60 hbel0_230.size
  have hbel0_232 := Below.gN hbel0_231 hg72 hbel0_231.size
  have hbel0_233 := Below.gB hbel0_232 hg73 hbel0_232.size (by omega)
  have hbel0_234 := Below.gN hbel0_233 hg76 hbel0_233.size
  have hbel0_235 := Below.gN hbel0_234 hg85 hbel0_234.size
  have hbel0_236 := Below.gN hbel0_235 hg86 hbel0_235.size
  have hbel0_237 := Below.gB hbel0_236 hg87 hbel0_236.size (by omega)
  have hbel0_238 := Below.gB hbel0_237 hg89 hbel0_237.size (by omega)
  refine region_D (n := 9) (by kernel_rfl) (by kernel_rfl) rfl (fun L ac wc => ∃ Ap2r7 : Option Addr, ∃ cp2r7 : Nat, ∃ Aj2r7 : Option Addr, ∃ cj2r7 : Nat, ∃ N6r7 : Nat, Below w.heap.size w wc ∧ w89.heap.size ≤ wc.heap.size ∧ Bx wc B6 25 (#[.slice Ap2 d2.cs.length cp2, .slice Aj2 d2.js.length cj2, .int .i64 d2.room]) ∧ Bx wc B29 25 (#[.slice Ap22 (cmp d2 1).1.cs.length cp22, .slice Aj22 (cmp d2 1).1.js.length cj22, .int .i64 (cmp d2 1).1.room]) ∧ Bx wc B51 25 (#[.slice Ap38 (cmp (cmp d2 1).1 0).1.cs.length cp38, .slice Aj38 (cmp (cmp d2 1).1 0).1.js.length cj38, .int .i64 (cmp (cmp d2 1).1 0).1.room]) ∧ Bx wc B52 38 (cmp (cmp d2 1).1 0).2.1.va ∧ Bx wc B86 38 (cmp (sub (cmp (cmp d2 1).1 0).1 ⟨false, 1, 7, Ct.zero⟩).1 0).2.1.va ∧ Own wc (w.heap.size) 28 8 (.slice Ap2 d2.cs.length cp2) d2.cs.length (flat Ct.va d2.cs) ∧ Own wc (w.heap.size) 38 11 (.slice Aj2 d2.js.length cj2) d2.js.length (flat Jb.va d2.js) ∧ Own wc (w10.heap.size) 28 8 (.slice Ap22 (cmp d2 1).1.cs.length cp22) (cmp d2 1).1.cs.length (flat Ct.va (cmp d2 1).1.cs) ∧ Own wc (w10.heap.size) 38 11 (.slice Aj22 (cmp d2 1).1.js.length cj22) (cmp d2 1).1.js.length (flat Jb.va (cmp d2 1).1.js) ∧ Own wc (w33.heap.size) 28 8 (.slice Ap38 (cmp (cmp d2 1).1 0).1.cs.length cp38) (cmp (cmp d2 1).1 0).1.cs.length (flat Ct.va (cmp (cmp d2 1).1 0).1.cs) ∧ Own wc (w33.heap.size) 38 11 (.slice Aj38 (cmp (cmp d2 1).1 0).1.js.length cj38) (cmp (cmp d2 1).1 0).1.js.length (flat Jb.va (cmp (cmp d2 1).1 0).1.js) ∧ (L 6 = true → w89.heap.size ≤ N6r7 ∧ Bx wc N6r7 25 (bif L 7 then (#[.slice Ap2r7 (sub (cmp d2 1).1 ⟨true, 1, 8, (wd 2)⟩).1.cs.length cp2r7, .slice Aj2r7 (sub (cmp d2 1).1 ⟨true, 1, 8, (wd 2)⟩).1.js.length cj2r7, .int .i64 (sub (cmp d2 1).1 ⟨true, 1, 8, (wd 2)⟩).1.room]) else (#[.slice none 0 0, .slice none 0 0, .int .i64 0]))) ∧ (L 2 = true → Own wc w89.heap.size 28 8 (.slice Ap2r7 (sub (cmp d2 1).1 ⟨true, 1, 8, (wd 2)⟩).1.cs.length cp2r7) (sub (cmp d2 1).1 ⟨true, 1, 8, (wd 2)⟩).1.cs.length (flat Ct.va (sub (cmp d2 1).1 ⟨true, 1, 8, (wd 2)⟩).1.cs)) ∧ (L 2 = true → Own wc w89.heap.size 38 11 (.slice Aj2r7 (sub (cmp d2 1).1 ⟨true, 1, 8, (wd 2)⟩).1.js.length cj2r7) (sub (cmp d2 1).1 ⟨true, 1, 8, (wd 2)⟩).1.js.length (flat Jb.va (sub (cmp d2 1).1 ⟨true, 1, 8, (wd 2)⟩).1.js)) ∧ (L 7 = true → L 6 = true) ∧ (L 3 = true → L 2 = true) ∧ (L 4 = true → L 2 = true) ∧ (L 7 = true → L 2 = true) ∧ (L 0 = true → Sv ac 73 (.agg #[.slice Ap22 (cmp d2 1).1.cs.length cp22, .slice Aj22 (cmp d2 1).1.js.length cj22, .int .i64 (cmp d2 1).1.room])) ∧ (L 1 = true → Sv ac 74 (.agg (wd 2).va)) ∧ (L 2 = true → Sv ac 75 (.tuple #[.agg #[.slice Ap2r7 (sub (cmp d2 1).1 ⟨true, 1, 8, (wd 2)⟩).1.cs.length cp2r7, .slice Aj2r7 (sub (cmp d2 1).1 ⟨true, 1, 8, (wd 2)⟩).1.js.length cj2r7, .int .i64 (sub (cmp d2 1).1 ⟨true, 1, 8, (wd 2)⟩).1.room], .int .i64 (sub (cmp d2 1).1 ⟨true, 1, 8, (wd 2)⟩).2])) ∧ (L 3 = true → Sv ac 72 (.tuple #[.agg #[.slice Ap2r7 (sub (cmp d2 1).1 ⟨true, 1, 8, (wd 2)⟩).1.cs.length cp2r7, .slice Aj2r7 (sub (cmp d2 1).1 ⟨true, 1, 8, (wd 2)⟩).1.js.length cj2r7, .int .i64 (sub (cmp d2 1).1 ⟨true, 1, 8, (wd 2)⟩).1.room], .int .i64 (sub (cmp d2 1).1 ⟨true, 1, 8, (wd 2)⟩).2])) ∧ (L 4 = true → Sv ac 76 (.agg #[.slice Ap2r7 (sub (cmp d2 1).1 ⟨true, 1, 8, (wd 2)⟩).1.cs.length cp2r7, .slice Aj2r7 (sub (cmp d2 1).1 ⟨true, 1, 8, (wd 2)⟩).1.js.length cj2r7, .int .i64 (sub (cmp d2 1).1 ⟨true, 1, 8, (wd 2)⟩).1.room])) ∧ (L 5 = true → Sv ac 77 (.int .i64 (sub (cmp d2 1).1 ⟨true, 1, 8, (wd 2)⟩).2)) ∧ (L 6 = true → Sv ac 16 (.pointer (some ⟨N6r7, 0, none⟩))) ∧ (L 8 = true → Sv ac 17 (.int .i64 (sub (cmp d2 1).1 ⟨true, 1, 8, (wd 2)⟩).2))) ⟨none, 0, none, 0, 0, (Below.gN hbel0_238 (gdr _) hbel0_238.size), (Nat.le_refl _), (hx7_109.gN (gdr _)), (hx31_122.gN (gdr _)), (hx53_130.gN (gdr _)), (hx55_138.gN (gdr _)), (hx89.gN (gdr _)), (Own.gN ho2_156 (gdr _)), (Own.gN ho2_174 (gdr _)), (Own.gN ho22_187 (gdr _)), (Own.gN ho22_200 (gdr _)), (Own.gN ho38_208 (gdr _)), (Own.gN ho38_216 (gdr _)), (fun h => by cases h), (fun h => by cases h), (fun h => by cases h), (fun h => by cases h), (fun h => by cases h), (fun h => by cases h), (fun h => by cases h), (fun h => by cases h), (fun h => by cases h), (fun h => by cases h), (fun h => by cases h), (fun h => by cases h), (fun h => by cases h), (fun h => by cases h), (fun h => by cases h)⟩ ?_ ?_
  · intro iq hiq o ho L hL hdep ac wc hF hJ
    obtain ⟨Ap2r7, cp2r7, Aj2r7, cj2r7, N6r7, bl, sz, b_B6, b_B29, b_B51, b_B52, b_B86, p_0, p_1, p_2, p_3, p_4, p_5, n_N6r7, o_2_0, o_2_1, cl_7_6, cl_3_2, cl_4_2, cl_7_2, s_73, s_74, s_75, s_72, s_76, s_77, s_16, s_17⟩ := hJ
    have z := hF.1.trans hA91.1
    match iq, hiq with
    | 0, _ =>
      obtain rfl := Option.some.inj (show some _ = some o from ho); clear ho
      have v5 := hF.sv (s := 5) (by kernel_rfl) (hA91.get (i := 5) (v := .pointer (some ⟨B29, 0, none⟩)))
      refine dj_val (i := 0) (v := .agg #[.slice Ap22 (cmp d2 1).1.cs.length cp22, .slice Aj22 (cmp d2 1).1.js.length cj22, .int .i64 (cmp d2 1).1.room]) rfl (.inl rfl) (ev_row v5.eval b_B29 Try.underlying25 rfl (n := 3) (by kernel_rfl) rfl _ rfl) ?_
      exact ⟨⟨_, rfl⟩, Ap2r7, cp2r7, Aj2r7, cj2r7, N6r7, bl, sz, b_B6, b_B29, b_B51, b_B52, b_B86, p_0, p_1, p_2, p_3, p_4, p_5, n_N6r7, o_2_0, o_2_1, cl_7_6, cl_3_2, cl_4_2, cl_7_2, (fun _ => Sv.self (by rw [z]; decide) _), (so s_74), (so s_75), (so s_72), (so s_76), (so s_77), (so s_16), (so s_17)⟩
    | 1, _ =>
      obtain rfl := Option.some.inj (show some _ = some o from ho); clear ho
      refine dj_call (i := 1) (f := 33) (args := #[.int .u64 2]) rfl (.inl rfl) (ev_fn rfl (mp1 (ec ac (.int .u64 2))) (by kernel_rfl) _ rfl) (word_any 2 _) ?_
      intro e wk1 hR
      obtain ⟨rfl, hb1⟩ := hR
      refine ⟨_, rfl, ?_⟩
      have hg := g0 hb1
      exact ⟨⟨_, rfl⟩, Ap2r7, cp2r7, Aj2r7, cj2r7, N6r7, (Below.gN bl hg bl.size), (Nat.le_trans sz hg.size), (b_B6.gN hg), (b_B29.gN hg), (b_B51.gN hg), (b_B52.gN hg), (b_B86.gN hg), (Own.gN p_0 hg), (Own.gN p_1 hg), (Own.gN p_2 hg), (Own.gN p_3 hg), (Own.gN p_4 hg), (Own.gN p_5 hg), (fun h => ⟨(n_N6r7 h).1, (n_N6r7 h).2.gN hg⟩), (fun h => Own.gN (o_2_0 h) hg), (fun h => Own.gN (o_2_1 h) hg), cl_7_6, cl_3_2, cl_4_2, cl_7_2, (so s_73), (fun _ => Sv.self (by rw [z]; decide) _), (so s_75), (so s_72), (so s_76), (so s_77), (so s_16), (so s_17)⟩
    | 2, _ =>
      obtain rfl := Option.some.inj (show some _ = some o from ho); clear ho
      have v73 := s_73 (dp hdep 0)
      have v74 := s_74 (dp hdep 1)
      refine dj_call (i := 2) (f := 12) (args := #[.agg #[.slice Ap22 (cmp d2 1).1.cs.length cp22, .slice Aj22 (cmp d2 1).1.js.length cj22, .int .i64 (cmp d2 1).1.room], .int .i64 1, .int .i64 8, .agg (wd 2).va]) rfl (.inl rfl) (ev_fn rfl (mp4 v73.eval (ec ac (.int .i64 1)) (ec ac (.int .i64 8)) v74.eval) (by kernel_rfl) _ rfl) (Write_any Ap22 cp22 Aj22 cj22 (cmp d2 1).1.cs (cmp d2 1).1.js (cmp d2 1).1.room 1 8 (wd 2) _ ⟨(OwnR.gr (e := 28) ⟨rfl, p_2⟩), (OwnR.gr (e := 38) ⟨rfl, p_3⟩)⟩ (by decide) (by decide)) ?_
      intro e wk2 hR
      obtain ⟨Ap2r7, cp2r7, Aj2r7, cj2r7, rfl, hC2, hJ2, hb2⟩ := hR
      refine ⟨_, rfl, ?_⟩
      have hg := g0 hb2
      have hown0 := Own.mono (hC2.2) sz
      have hown1 := Own.mono (hJ2.2) sz
      exact ⟨⟨_, rfl⟩, Ap2r7, cp2r7, Aj2r7, cj2r7, N6r7, (Below.gN bl hg bl.size), (Nat.le_trans sz hg.size), (b_B6.gN hg), (b_B29.gN hg), (b_B51.gN hg), (b_B52.gN hg), (b_B86.gN hg), (Own.gN p_0 hg), (Own.gN p_1 hg), (Own.gN p_2 hg), (Own.gN p_3 hg), (Own.gN p_4 hg), (Own.gN p_5 hg), (fun h => ⟨(n_N6r7 h).1, by
          have e0 : L 7 = false := by
            cases hc : L 7
            · rfl
            · exact absurd (cl_7_2 hc) (by rw [hL]; decide)
          have h0 := (n_N6r7 h).2.gN hg
          rw [e0] at h0
          show Bx _ _ _ (bif L 7 then _ else _)
          rw [e0]
          exact h0⟩), (fun _ => hown0), (fun _ => hown1), cl_7_6, (fun _ => rfl), (fun _ => rfl), (fun _ => rfl), (so s_73), (so s_74), (fun _ => Sv.self (by rw [z]; decide) _), (fun h => absurd (cl_3_2 h) (by rw [hL]; decide)), (fun h => absurd (cl_4_2 h) (by rw [hL]; decide)), (so s_77), (so s_16), (so s_17)⟩
    | 3, _ =>
      obtain rfl := Option.some.inj (show some _ = some o from ho); clear ho
      have v75 := s_75 (dp hdep 2)
      refine dj_val (i := 3) (v := .tuple #[.agg #[.slice Ap2r7 (sub (cmp d2 1).1 ⟨true, 1, 8, (wd 2)⟩).1.cs.length cp2r7, .slice Aj2r7 (sub (cmp d2 1).1 ⟨true, 1, 8, (wd 2)⟩).1.js.length cj2r7, .int .i64 (sub (cmp d2 1).1 ⟨true, 1, 8, (wd 2)⟩).1.room], .int .i64 (sub (cmp d2 1).1 ⟨true, 1, 8, (wd 2)⟩).2]) rfl (.inl rfl) (ev_move v75.eval _ rfl) ?_
      exact ⟨⟨_, rfl⟩, Ap2r7, cp2r7, Aj2r7, cj2r7, N6r7, bl, sz, b_B6, b_B29, b_B51, b_B52, b_B86, p_0, p_1, p_2, p_3, p_4, p_5, n_N6r7, o_2_0, o_2_1, cl_7_6, (fun _ => dp hdep 2), cl_4_2, cl_7_2, (so s_73), (so s_74), (so s_75), (fun _ => Sv.self (by rw [z]; decide) _), (so s_76), (so s_77), (so s_16), (so s_17)⟩
    | 4, _ =>
      obtain rfl := Option.some.inj (show some _ = some o from ho); clear ho
      have v72 := s_72 (dp hdep 3)
      refine dj_val (i := 4) (v := .agg #[.slice Ap2r7 (sub (cmp d2 1).1 ⟨true, 1, 8, (wd 2)⟩).1.cs.length cp2r7, .slice Aj2r7 (sub (cmp d2 1).1 ⟨true, 1, 8, (wd 2)⟩).1.js.length cj2r7, .int .i64 (sub (cmp d2 1).1 ⟨true, 1, 8, (wd 2)⟩).1.room]) rfl (.inl rfl) (ev_ext v72.eval rfl _ rfl) ?_
      exact ⟨⟨_, rfl⟩, Ap2r7, cp2r7, Aj2r7, cj2r7, N6r7, bl, sz, b_B6, b_B29, b_B51, b_B52, b_B86, p_0, p_1, p_2, p_3, p_4, p_5, n_N6r7, o_2_0, o_2_1, cl_7_6, cl_3_2, (fun _ => cl_3_2 (dp hdep 3)), cl_7_2, (so s_73), (so s_74), (so s_75), (so s_72), (fun _ => Sv.self (by rw [z]; decide) _), (so s_77), (so s_16), (so s_17)⟩
    | 5, _ =>
      obtain rfl := Option.some.inj (show some _ = some o from ho); clear ho
      have v72 := s_72 (dp hdep 3)
      refine dj_val (i := 5) (v := .int .i64 (sub (cmp d2 1).1 ⟨true, 1, 8, (wd 2)⟩).2) rfl (.inl rfl) (ev_ext v72.eval rfl _ rfl) ?_
      exact ⟨⟨_, rfl⟩, Ap2r7, cp2r7, Aj2r7, cj2r7, N6r7, bl, sz, b_B6, b_B29, b_B51, b_B52, b_B86, p_0, p_1, p_2, p_3, p_4, p_5, n_N6r7, o_2_0, o_2_1, cl_7_6, cl_3_2, cl_4_2, cl_7_2, (so s_73), (so s_74), (so s_75), (so s_72), (so s_76), (fun _ => Sv.self (by rw [z]; decide) _), (so s_16), (so s_17)⟩
    | 6, _ =>
      obtain rfl := Option.some.inj (show some _ = some o from ho); clear ho
      refine dj_val (i := 6) rfl (.inl rfl) (w' := wc.alloc (.cells (#[.slice none 0 0, .slice none 0 0, .int .i64 0]) 25)) (v := .pointer (some ⟨wc.heap.size, 0, none⟩)) (ev_alloc (z := .agg (#[.slice none 0 0, .slice none 0 0, .int .i64 0])) (by kernel_rfl) (by kernel_rfl) _ rfl) ?_
      have hx := Bx.new wc 25 (#[.slice none 0 0, .slice none 0 0, .int .i64 0])
      have hg := g0 (al wc (.cells (#[.slice none 0 0, .slice none 0 0, .int .i64 0]) 25))
      have e0 : L 7 = false := by
        cases hc : L 7
        · rfl
        · exact absurd (cl_7_6 hc) (by rw [hL]; decide)
      replace hx : Bx (wc.alloc (.cells (#[.slice none 0 0, .slice none 0 0, .int .i64 0]) 25)) wc.heap.size 25 (bif L 7 then (#[.slice Ap2r7 (sub (cmp d2 1).1 ⟨true, 1, 8, (wd 2)⟩).1.cs.length cp2r7, .slice Aj2r7 (sub (cmp d2 1).1 ⟨true, 1, 8, (wd 2)⟩).1.js.length cj2r7, .int .i64 (sub (cmp d2 1).1 ⟨true, 1, 8, (wd 2)⟩).1.room]) else (#[.slice none 0 0, .slice none 0 0, .int .i64 0])) := by rw [e0]; exact hx
      exact ⟨⟨_, rfl⟩, Ap2r7, cp2r7, Aj2r7, cj2r7, wc.heap.size, (Below.gN bl hg bl.size), (Nat.le_trans sz hg.size), (b_B6.gN hg), (b_B29.gN hg), (b_B51.gN hg), (b_B52.gN hg), (b_B86.gN hg), (Own.gN p_0 hg), (Own.gN p_1 hg), (Own.gN p_2 hg), (Own.gN p_3 hg), (Own.gN p_4 hg), (Own.gN p_5 hg), (fun _ => ⟨sz, hx⟩), (fun h => Own.gN (o_2_0 h) hg), (fun h => Own.gN (o_2_1 h) hg), (fun _ => rfl), cl_3_2, cl_4_2, cl_7_2, (so s_73), (so s_74), (so s_75), (so s_72), (so s_76), (so s_77), (fun _ => Sv.self (by rw [z]; decide) _), (so s_17)⟩
    | 7, _ =>
      obtain rfl := Option.some.inj (show some _ = some o from ho); clear ho
      have v16 := s_16 (dp hdep 6)
      have v76 := s_76 (dp hdep 4)
      have xN6r7 := (n_N6r7 (dp hdep 6)).2
      rw [hL] at xN6r7
      refine dj_skip (i := 7) rfl rfl (.inl rfl) (w' := wc.setRow N6r7 (#[.slice Ap2r7 (sub (cmp d2 1).1 ⟨true, 1, 8, (wd 2)⟩).1.cs.length cp2r7, .slice Aj2r7 (sub (cmp d2 1).1 ⟨true, 1, 8, (wd 2)⟩).1.js.length cj2r7, .int .i64 (sub (cmp d2 1).1 ⟨true, 1, 8, (wd 2)⟩).1.room])) (ev_srow v16.eval v76.eval xN6r7 (n := 3) (by kernel_rfl) rfl rfl (dk_one _ _ _ _ _ _ _) _ rfl) ?_
      have hg := grw xN6r7 (#[.slice Ap2r7 (sub (cmp d2 1).1 ⟨true, 1, 8, (wd 2)⟩).1.cs.length cp2r7, .slice Aj2r7 (sub (cmp d2 1).1 ⟨true, 1, 8, (wd 2)⟩).1.js.length cj2r7, .int .i64 (sub (cmp d2 1).1 ⟨true, 1, 8, (wd 2)⟩).1.room])
      have hx := xN6r7.row (#[.slice Ap2r7 (sub (cmp d2 1).1 ⟨true, 1, 8, (wd 2)⟩).1.cs.length cp2r7, .slice Aj2r7 (sub (cmp d2 1).1 ⟨true, 1, 8, (wd 2)⟩).1.js.length cj2r7, .int .i64 (sub (cmp d2 1).1 ⟨true, 1, 8, (wd 2)⟩).1.room])
      exact ⟨⟨undef, rfl⟩, Ap2r7, cp2r7, Aj2r7, cj2r7, N6r7, (Below.gB bl hg bl.size (by have := (n_N6r7 (dp hdep 6)).1; omega)), (Nat.le_trans sz hg.size), (b_B6.gB hg (by have := (n_N6r7 (dp hdep 6)).1; omega)), (b_B29.gB hg (by have := (n_N6r7 (dp hdep 6)).1; omega)), (b_B51.gB hg (by have := (n_N6r7 (dp hdep 6)).1; omega)), (b_B52.gB hg (by have := (n_N6r7 (dp hdep 6)).1; omega)), (b_B86.gB hg (by have := (n_N6r7 (dp hdep 6)).1; omega)), (Own.gB p_0 hg hh2_0 (by have := (n_N6r7 (dp hdep 6)).1; omega)), (Own.gB p_1 hg hh2_1 (by have := (n_N6r7 (dp hdep 6)).1; omega)), (Own.gB p_2 hg hh22_0 (by have := (n_N6r7 (dp hdep 6)).1; omega)), (Own.gB p_3 hg hh22_1 (by have := (n_N6r7 (dp hdep 6)).1; omega)), (Own.gB p_4 hg hh38_0 (by have := (n_N6r7 (dp hdep 6)).1; omega)), (Own.gB p_5 hg hh38_1 (by have := (n_N6r7 (dp hdep 6)).1; omega)), (fun h => ⟨(n_N6r7 h).1, hx⟩), (fun h => Own.gBT (o_2_0 h) hg xN6r7 (by decide)), (fun h => Own.gBT (o_2_1 h) hg xN6r7 (by decide)), (fun _ => dp hdep 6), cl_3_2, cl_4_2, (fun _ => cl_4_2 (dp hdep 4)), s_73, s_74, s_75, s_72, s_76, s_77, s_16, s_17⟩
    | 8, _ =>
      obtain rfl := Option.some.inj (show some _ = some o from ho); clear ho
      have v77 := s_77 (dp hdep 5)
      refine dj_val (i := 8) (v := .int .i64 (sub (cmp d2 1).1 ⟨true, 1, 8, (wd 2)⟩).2) rfl (.inl rfl) (ev_assign v77.eval _ rfl) ?_
      exact ⟨⟨_, rfl⟩, Ap2r7, cp2r7, Aj2r7, cj2r7, N6r7, bl, sz, b_B6, b_B29, b_B51, b_B52, b_B86, p_0, p_1, p_2, p_3, p_4, p_5, n_N6r7, o_2_0, o_2_1, cl_7_6, cl_3_2, cl_4_2, cl_7_2, (so s_73), (so s_74), (so s_75), (so s_72), (so s_76), (so s_77), (so s_16), (fun _ => Sv.self (by rw [z]; decide) _)⟩
    | k + 9, h => exact absurd h (by omega)
  · intro L hall ac239 wc239 hF hJ
    obtain ⟨Ap2r7, cp2r7, Aj2r7, cj2r7, N6r7, bl, sz, b_B6, b_B29, b_B51, b_B52, b_B86, p_0, p_1, p_2, p_3, p_4, p_5, n_N6r7, o_2_0, o_2_1, cl_7_6, cl_3_2, cl_4_2, cl_7_2, s_73, s_74, s_75, s_72, s_76, s_77, s_16, s_17⟩ := hJ
    have hA239 : Ag ac239 233 [(0, .bool false), (1, .pointer (some ⟨B6, 0, none⟩)), (2, .bool true), (3, .int .i64 (fnd d2 0).1), (4, .int .i64 (fnd d2 0).2), (5, .pointer (some ⟨B29, 0, none⟩)), (7, .int .i64 (cmp d2 1).2.2), (8, .pointer (some ⟨B51, 0, none⟩)), (9, .pointer (some ⟨B52, 0, none⟩)), (10, .int .i64 (cmp (cmp d2 1).1 0).2.2), (12, .int .i64 (sub (cmp (cmp d2 1).1 0).1 ⟨false, 1, 7, Ct.zero⟩).2), (14, .pointer (some ⟨B86, 0, none⟩)), (15, .int .i64 (cmp (sub (cmp (cmp d2 1).1 0).1 ⟨false, 1, 7, Ct.zero⟩).1 0).2.2), (17, .int .i64 (sub (cmp d2 1).1 ⟨true, 1, 8, (wd 2)⟩).2)] := (((((((((((((((Ag.nil (hF.1.trans hA91.1) (hF.2.1.trans hA91.2.1)).cons (s_17 (hall 8 (by decide)))).cons (hF.sv (s := 15) (by kernel_rfl) (hA91.get (i := 15) (v := .int .i64 (cmp (sub (cmp (cmp d2 1).1 0).1 ⟨false, 1, 7, Ct.zero⟩).1 0).2.2)))).cons (hF.sv (s := 14) (by kernel_rfl) (hA91.get (i := 14) (v := .pointer (some ⟨B86, 0, none⟩))))).cons (hF.sv (s := 12) (by kernel_rfl) (hA91.get (i := 12) (v := .int .i64 (sub (cmp (cmp d2 1).1 0).1 ⟨false, 1, 7, Ct.zero⟩).2)))).cons (hF.sv (s := 10) (by kernel_rfl) (hA91.get (i := 10) (v := .int .i64 (cmp (cmp d2 1).1 0).2.2)))).cons (hF.sv (s := 9) (by kernel_rfl) (hA91.get (i := 9) (v := .pointer (some ⟨B52, 0, none⟩))))).cons (hF.sv (s := 8) (by kernel_rfl) (hA91.get (i := 8) (v := .pointer (some ⟨B51, 0, none⟩))))).cons (hF.sv (s := 7) (by kernel_rfl) (hA91.get (i := 7) (v := .int .i64 (cmp d2 1).2.2)))).cons (hF.sv (s := 5) (by kernel_rfl) (hA91.get (i := 5) (v := .pointer (some ⟨B29, 0, none⟩))))).cons (hF.sv (s := 4) (by kernel_rfl) (hA91.get (i := 4) (v := .int .i64 (fnd d2 0).2)))).cons (hF.sv (s := 3) (by kernel_rfl) (hA91.get (i := 3) (v := .int .i64 (fnd d2 0).1)))).cons (hF.sv (s := 2) (by kernel_rfl) (hA91.get (i := 2) (v := .bool true)))).cons (hF.sv (s := 1) (by kernel_rfl) (hA91.get (i := 1) (v := .pointer (some ⟨B6, 0, none⟩))))).cons (hF.sv (s := 0) (by kernel_rfl) (hA91.get (i := 0) (v := .bool false))))
    have bl239 := bl
    have sz239 := sz
    have b239_B6 := b_B6
    have b239_B29 := b_B29
    have b239_B51 := b_B51
    have b239_B52 := b_B52
    have b239_B86 := b_B86
    have p239_0 := p_0
    have p239_1 := p_1
    have p239_2 := p_2
    have p239_3 := p_3
    have p239_4 := p_4
    have p239_5 := p_5
    have n239_N6r7 := (n_N6r7 (hall 6 (by decide))).1
    have b239_N6r7 : Bx wc239 N6r7 25 (#[.slice Ap2r7 (sub (cmp d2 1).1 ⟨true, 1, 8, (wd 2)⟩).1.cs.length cp2r7, .slice Aj2r7 (sub (cmp d2 1).1 ⟨true, 1, 8, (wd 2)⟩).1.js.length cj2r7, .int .i64 (sub (cmp d2 1).1 ⟨true, 1, 8, (wd 2)⟩).1.room]) := by
      have h := (n_N6r7 (hall 6 (by decide))).2
      rw [hall 7 (by decide)] at h
      exact h
    have l239_N6r7 := b239_N6r7.lt
    have o239_2_0 := o_2_0 (hall 2 (by decide))
    have hh239_2_0 := Own.hi o239_2_0
    have o239_2_1 := o_2_1 (hall 2 (by decide))
    have hh239_2_1 := Own.hi o239_2_1
    clear hF bl sz b_B6 b_B29 b_B51 b_B52 b_B86 p_0 p_1 p_2 p_3 p_4 p_5 n_N6r7 o_2_0 o_2_1 cl_7_6 cl_3_2 cl_4_2 cl_7_2 s_73 s_74 s_75 s_72 s_76 s_77 s_16 s_17 hall hA91
    refine then_n ?_
    refine wp_seq ?_
    refine wp_region_lit ?_
    refine sx_val (v := .agg #[.slice Ap22 (cmp d2 1).1.cs.length cp22, .slice Aj22 (cmp d2 1).1.js.length cj22, .int .i64 (cmp d2 1).1.room]) hA239 rfl (ev_row (hA239.ev (i := 5) (v := .pointer (some ⟨B29, 0, none⟩))) b239_B29 Try.underlying25 rfl (n := 3) (by kernel_rfl) rfl _ rfl) ?_
    intro a240 hA240; clear hA239
    refine sx_call (f := 15) (args := #[.agg #[.slice Ap22 (cmp d2 1).1.cs.length cp22, .slice Aj22 (cmp d2 1).1.js.length cj22, .int .i64 (cmp d2 1).1.room], .int .i64 0, .int .i64 5]) hA240 rfl (by decide) (.inl rfl) (ev_fn rfl (mp3 (hA240.ev (i := 79) (v := .agg #[.slice Ap22 (cmp d2 1).1.cs.length cp22, .slice Aj22 (cmp d2 1).1.js.length cj22, .int .i64 (cmp d2 1).1.room])) (ec _ (.int .i64 0)) (ec _ (.int .i64 5))) (by kernel_rfl) _ rfl) (Read_any Ap22 cp22 Aj22 cj22 (cmp d2 1).1.cs (cmp d2 1).1.js (cmp d2 1).1.room 0 5 _ ⟨(OwnR.gr (e := 28) ⟨rfl, p239_2⟩), (OwnR.gr (e := 38) ⟨rfl, p239_3⟩)⟩ (by decide) (by decide)) ?_
    intro e241 w241 hR241
    obtain ⟨Ap241, cp241, Aj241, cj241, rfl, hC241, hJ241, hb241⟩ := hR241
    refine ⟨_, rfl, ?_⟩
    intro a241 hA241
    clear hA240
    have hg241 := g0 hb241
    have hs241 := hg241.size
    clear hb241
    have ho241_0 : Own w241 (wc239.heap.size) 28 8 (.slice Ap241 (sub (cmp d2 1).1 ⟨false, 0, 5, Ct.zero⟩).1.cs.length cp241) (sub (cmp d2 1).1 ⟨false, 0, 5, Ct.zero⟩).1.cs.length (flat Ct.va (sub (cmp d2 1).1 ⟨false, 0, 5, Ct.zero⟩).1.cs) := hC241.2
    have hh241_0 := Own.hi ho241_0
    have ho241_1 : Own w241 (wc239.heap.size) 38 11 (.slice Aj241 (sub (cmp d2 1).1 ⟨false, 0, 5, Ct.zero⟩).1.js.length cj241) (sub (cmp d2 1).1 ⟨false, 0, 5, Ct.zero⟩).1.js.length (flat Jb.va (sub (cmp d2 1).1 ⟨false, 0, 5, Ct.zero⟩).1.js) := hJ241.2
    have hh241_1 := Own.hi ho241_1
    refine sx_val hA241 rfl (ev_move (hA241.ev (i := 80) (v := .tuple #[.agg #[.slice Ap241 (sub (cmp d2 1).1 ⟨false, 0, 5, Ct.zero⟩).1.cs.length cp241, .slice Aj241 (sub (cmp d2 1).1 ⟨false, 0, 5, Ct.zero⟩).1.js.length cj241, .int .i64 (sub (cmp d2 1).1 ⟨false, 0, 5, Ct.zero⟩).1.room], .int .i64 (sub (cmp d2 1).1 ⟨false, 0, 5, Ct.zero⟩).2])) _ rfl) ?_
    intro a242 hA242; clear hA241
    refine sx_val (v := .agg #[.slice Ap241 (sub (cmp d2 1).1 ⟨false, 0, 5, Ct.zero⟩).1.cs.length cp241, .slice Aj241 (sub (cmp d2 1).1 ⟨false, 0, 5, Ct.zero⟩).1.js.length cj241, .int .i64 (sub (cmp d2 1).1 ⟨false, 0, 5, Ct.zero⟩).1.room]) hA242 rfl (ev_ext (hA242.ev (i := 78) (v := .tuple #[.agg #[.slice Ap241 (sub (cmp d2 1).1 ⟨false, 0, 5, Ct.zero⟩).1.cs.length cp241, .slice Aj241 (sub (cmp d2 1).1 ⟨false, 0, 5, Ct.zero⟩).1.js.length cj241, .int .i64 (sub (cmp d2 1).1 ⟨false, 0, 5, Ct.zero⟩).1.room], .int .i64 (sub (cmp d2 1).1 ⟨false, 0, 5, Ct.zero⟩).2])) rfl _ rfl) ?_
    intro a243 hA243; clear hA242
    refine sx_val (v := .int .i64 (sub (cmp d2 1).1 ⟨false, 0, 5, Ct.zero⟩).2) hA243 rfl (ev_ext (hA243.ev (i := 78) (v := .tuple #[.agg #[.slice Ap241 (sub (cmp d2 1).1 ⟨false, 0, 5, Ct.zero⟩).1.cs.length cp241, .slice Aj241 (sub (cmp d2 1).1 ⟨false, 0, 5, Ct.zero⟩).1.js.length cj241, .int .i64 (sub (cmp d2 1).1 ⟨false, 0, 5, Ct.zero⟩).1.room], .int .i64 (sub (cmp d2 1).1 ⟨false, 0, 5, Ct.zero⟩).2])) rfl _ rfl) ?_
    intro a244 hA244; clear hA243
    refine sx_new (cs := #[.slice none 0 0, .slice none 0 0, .int .i64 0]) (t := 25) hA244 rfl (by decide) (.inl rfl) (ev_alloc (z := .agg (#[.slice none 0 0, .slice none 0 0, .int .i64 0])) (by kernel_rfl) (by kernel_rfl) _ rfl) ?_
    intro B245 w245 a245 hB245 hx245 hg245 hA245
    clear hA244
    have hs245 := hg245.size
    have hl245 := hx245.lt
    refine sx_store hA245 rfl (.inl rfl) rfl (hA245.ev (i := 18) (v := .pointer (some ⟨B245, 0, none⟩))) (hA245.ev (i := 81) (v := .agg #[.slice Ap241 (sub (cmp d2 1).1 ⟨false, 0, 5, Ct.zero⟩).1.cs.length cp241, .slice Aj241 (sub (cmp d2 1).1 ⟨false, 0, 5, Ct.zero⟩).1.js.length cj241, .int .i64 (sub (cmp d2 1).1 ⟨false, 0, 5, Ct.zero⟩).1.room])) hx245 (by kernel_rfl) rfl (dk_one _ _ _ _ _ _ _) ?_
    intro w246 hx246 hg246
    have hs246 := hg246.size
    refine sx_val hA245 rfl (ev_assign (hA245.ev (i := 82) (v := .int .i64 (sub (cmp d2 1).1 ⟨false, 0, 5, Ct.zero⟩).2)) _ rfl) ?_
    intro a247 hA247; clear hA245
    refine sx_nil ?_
    refine then_n ?_
    refine wp_seq ?_
    refine wp_region_lit ?_
    have b239_B6_248 := b239_B6.gN hg241
    have b239_B6_249 := b239_B6_248.gN hg245
    have b239_B6_250 := b239_B6_249.gB hg246 (by omega)
    refine sx_val (v := .agg #[.slice Ap2 d2.cs.length cp2, .slice Aj2 d2.js.length cj2, .int .i64 d2.room]) hA247 rfl (ev_row (hA247.ev (i := 1) (v := .pointer (some ⟨B6, 0, none⟩))) b239_B6_250 Try.underlying25 rfl (n := 3) (by kernel_rfl) rfl _ rfl) ?_
    intro a251 hA251; clear hA247
    have p239_253 := Own.gN p239_0 hg241
    have p239_254 := Own.gN p239_253 hg245
    have p239_255 := Own.gBT p239_254 hg246 hx245 (by decide)
    have p239_256 := Own.gN p239_1 hg241
    have p239_257 := Own.gN p239_256 hg245
    have p239_258 := Own.gBT p239_257 hg246 hx245 (by decide)
    refine sx_call (f := 15) (args := #[.agg #[.slice Ap2 d2.cs.length cp2, .slice Aj2 d2.js.length cj2, .int .i64 d2.room], .int .i64 1, .int .i64 9]) hA251 rfl (by decide) (.inl rfl) (ev_fn rfl (mp3 (hA251.ev (i := 84) (v := .agg #[.slice Ap2 d2.cs.length cp2, .slice Aj2 d2.js.length cj2, .int .i64 d2.room])) (ec _ (.int .i64 1)) (ec _ (.int .i64 9))) (by kernel_rfl) _ rfl) (Read_any Ap2 cp2 Aj2 cj2 d2.cs d2.js d2.room 1 9 _ ⟨(OwnR.gr (e := 28) ⟨rfl, p239_255⟩), (OwnR.gr (e := 38) ⟨rfl, p239_258⟩)⟩ (by decide) (by decide)) ?_
    intro e252 w252 hR252
    obtain ⟨Ap252, cp252, Aj252, cj252, rfl, hC252, hJ252, hb252⟩ := hR252
    refine ⟨_, rfl, ?_⟩
    intro a252 hA252
    clear hA251
    have hg252 := g0 hb252
    have hs252 := hg252.size
    clear hb252
    have ho252_0 : Own w252 (w246.heap.size) 28 8 (.slice Ap252 (sub d2 ⟨false, 1, 9, Ct.zero⟩).1.cs.length cp252) (sub d2 ⟨false, 1, 9, Ct.zero⟩).1.cs.length (flat Ct.va (sub d2 ⟨false, 1, 9, Ct.zero⟩).1.cs) := hC252.2
    have hh252_0 := Own.hi ho252_0
    have ho252_1 : Own w252 (w246.heap.size) 38 11 (.slice Aj252 (sub d2 ⟨false, 1, 9, Ct.zero⟩).1.js.length cj252) (sub d2 ⟨false, 1, 9, Ct.zero⟩).1.js.length (flat Jb.va (sub d2 ⟨false, 1, 9, Ct.zero⟩).1.js) := hJ252.2
    have hh252_1 := Own.hi ho252_1
    refine sx_val hA252 rfl (ev_move (hA252.ev (i := 85) (v := .tuple #[.agg #[.slice Ap252 (sub d2 ⟨false, 1, 9, Ct.zero⟩).1.cs.length cp252, .slice Aj252 (sub d2 ⟨false, 1, 9, Ct.zero⟩).1.js.length cj252, .int .i64 (sub d2 ⟨false, 1, 9, Ct.zero⟩).1.room], .int .i64 (sub d2 ⟨false, 1, 9, Ct.zero⟩).2])) _ rfl) ?_
    intro a259 hA259; clear hA252
    refine sx_val (v := .agg #[.slice Ap252 (sub d2 ⟨false, 1, 9, Ct.zero⟩).1.cs.length cp252, .slice Aj252 (sub d2 ⟨false, 1, 9, Ct.zero⟩).1.js.length cj252, .int .i64 (sub d2 ⟨false, 1, 9, Ct.zero⟩).1.room]) hA259 rfl (ev_ext (hA259.ev (i := 83) (v := .tuple #[.agg #[.slice Ap252 (sub d2 ⟨false, 1, 9, Ct.zero⟩).1.cs.length cp252, .slice Aj252 (sub d2 ⟨false, 1, 9, Ct.zero⟩).1.js.length cj252, .int .i64 (sub d2 ⟨false, 1, 9, Ct.zero⟩).1.room], .int .i64 (sub d2 ⟨false, 1, 9, Ct.zero⟩).2])) rfl _ rfl) ?_
    intro a260 hA260; clear hA259
    refine sx_val (v := .int .i64 (sub d2 ⟨false, 1, 9, Ct.zero⟩).2) hA260 rfl (ev_ext (hA260.ev (i := 83) (v := .tuple #[.agg #[.slice Ap252 (sub d2 ⟨false, 1, 9, Ct.zero⟩).1.cs.length cp252, .slice Aj252 (sub d2 ⟨false, 1, 9, Ct.zero⟩).1.js.length cj252, .int .i64 (sub d2 ⟨false, 1, 9, Ct.zero⟩).1.room], .int .i64 (sub d2 ⟨false, 1, 9, Ct.zero⟩).2])) rfl _ rfl) ?_
    intro a261 hA261; clear hA260
    refine sx_new (cs := #[.slice none 0 0, .slice none 0 0, .int .i64 0]) (t := 25) hA261 rfl (by decide) (.inl rfl) (ev_alloc (z := .agg (#[.slice none 0 0, .slice none 0 0, .int .i64 0])) (by kernel_rfl) (by kernel_rfl) _ rfl) ?_
    intro B262 w262 a262 hB262 hx262 hg262 hA262
    clear hA261
    have hs262 := hg262.size
    have hl262 := hx262.lt
    refine sx_store hA262 rfl (.inl rfl) rfl (hA262.ev (i := 20) (v := .pointer (some ⟨B262, 0, none⟩))) (hA262.ev (i := 86) (v := .agg #[.slice Ap252 (sub d2 ⟨false, 1, 9, Ct.zero⟩).1.cs.length cp252, .slice Aj252 (sub d2 ⟨false, 1, 9, Ct.zero⟩).1.js.length cj252, .int .i64 (sub d2 ⟨false, 1, 9, Ct.zero⟩).1.room])) hx262 (by kernel_rfl) rfl (dk_one _ _ _ _ _ _ _) ?_
    intro w263 hx263 hg263
    have hs263 := hg263.size
    refine sx_val hA262 rfl (ev_assign (hA262.ev (i := 87) (v := .int .i64 (sub d2 ⟨false, 1, 9, Ct.zero⟩).2)) _ rfl) ?_
    intro a264 hA264; clear hA262
    refine sx_nil ?_
    refine then_n ?_
    refine wp_seq ?_
    refine wp_region_lit ?_
    refine sx_call (f := 22) (args := #[.int .i64 3, .int .i64 2]) hA264 rfl (by decide) (.inl rfl) (ev_fn rfl (mp2 (ec _ (.int .i64 3)) (ec _ (.int .i64 2))) (by kernel_rfl) _ rfl) (New_any 3 2 _) ?_
    intro e265 w265 hR265
    obtain ⟨Ap265, cp265, Aj265, cj265, rfl, hC265, hJ265, hb265⟩ := hR265
    refine ⟨_, rfl, ?_⟩
    intro a265 hA265
    clear hA264
    have hg265 := g0 hb265
    have hs265 := hg265.size
    clear hb265
    have ho265_0 : Own w265 (w263.heap.size) 28 8 (.slice Ap265 (nw 3 2).1.cs.length cp265) (nw 3 2).1.cs.length (flat Ct.va (nw 3 2).1.cs) := hC265.2
    have hh265_0 := Own.hi ho265_0
    have ho265_1 : Own w265 (w263.heap.size) 38 11 (.slice Aj265 (nw 3 2).1.js.length cj265) (nw 3 2).1.js.length (flat Jb.va (nw 3 2).1.js) := hJ265.2
    have hh265_1 := Own.hi ho265_1
    refine sx_val hA265 rfl (ev_move (hA265.ev (i := 89) (v := .tuple #[.agg #[.slice Ap265 (nw 3 2).1.cs.length cp265, .slice Aj265 (nw 3 2).1.js.length cj265, .int .i64 (nw 3 2).1.room], .int .i64 (nw 3 2).2])) _ rfl) ?_
    intro a266 hA266; clear hA265
    refine sx_val (v := .agg #[.slice Ap265 (nw 3 2).1.cs.length cp265, .slice Aj265 (nw 3 2).1.js.length cj265, .int .i64 (nw 3 2).1.room]) hA266 rfl (ev_ext (hA266.ev (i := 88) (v := .tuple #[.agg #[.slice Ap265 (nw 3 2).1.cs.length cp265, .slice Aj265 (nw 3 2).1.js.length cj265, .int .i64 (nw 3 2).1.room], .int .i64 (nw 3 2).2])) rfl _ rfl) ?_
    intro a267 hA267; clear hA266
    refine sx_val (v := .int .i64 (nw 3 2).2) hA267 rfl (ev_ext (hA267.ev (i := 88) (v := .tuple #[.agg #[.slice Ap265 (nw 3 2).1.cs.length cp265, .slice Aj265 (nw 3 2).1.js.length cj265, .int .i64 (nw 3 2).1.room], .int .i64 (nw 3 2).2])) rfl _ rfl) ?_
    intro a268 hA268; clear hA267
    refine sx_new (cs := #[.slice none 0 0, .slice none 0 0, .int .i64 0]) (t := 25) hA268 rfl (by decide) (.inl rfl) (ev_alloc (z := .agg (#[.slice none 0 0, .slice none 0 0, .int .i64 0])) (by kernel_rfl) (by kernel_rfl) _ rfl) ?_
    intro B269 w269 a269 hB269 hx269 hg269 hA269
    clear hA268
    have hs269 := hg269.size
    have hl269 := hx269.lt
    refine sx_store hA269 rfl (.inl rfl) rfl (hA269.ev (i := 22) (v := .pointer (some ⟨B269, 0, none⟩))) (hA269.ev (i := 90) (v := .agg #[.slice Ap265 (nw 3 2).1.cs.length cp265, .slice Aj265 (nw 3 2).1.js.length cj265, .int .i64 (nw 3 2).1.room])) hx269 (by kernel_rfl) rfl (dk_one _ _ _ _ _ _ _) ?_
    intro w270 hx270 hg270
    have hs270 := hg270.size
    refine sx_val hA269 rfl (ev_assign (hA269.ev (i := 91) (v := .int .i64 (nw 3 2).2)) _ rfl) ?_
    intro a271 hA271; clear hA269
    refine sx_nil ?_
    refine then_n ?_
    refine wp_seq ?_
    refine wp_region_lit ?_
    refine sx_val (v := .agg #[.slice Ap265 (nw 3 2).1.cs.length cp265, .slice Aj265 (nw 3 2).1.js.length cj265, .int .i64 (nw 3 2).1.room]) hA271 rfl (ev_row (hA271.ev (i := 22) (v := .pointer (some ⟨B269, 0, none⟩))) hx270 Try.underlying25 rfl (n := 3) (by kernel_rfl) rfl _ rfl) ?_
    intro a272 hA272; clear hA271
    have ho265_274 := Own.gN ho265_0 hg269
    have ho265_275 := Own.gBT ho265_274 hg270 hx269 (by decide)
    have ho265_276 := Own.gN ho265_1 hg269
    have ho265_277 := Own.gBT ho265_276 hg270 hx269 (by decide)
    refine sx_call (f := 15) (args := #[.agg #[.slice Ap265 (nw 3 2).1.cs.length cp265, .slice Aj265 (nw 3 2).1.js.length cj265, .int .i64 (nw 3 2).1.room], .int .i64 0, .int .i64 0]) hA272 rfl (by decide) (.inl rfl) (ev_fn rfl (mp3 (hA272.ev (i := 93) (v := .agg #[.slice Ap265 (nw 3 2).1.cs.length cp265, .slice Aj265 (nw 3 2).1.js.length cj265, .int .i64 (nw 3 2).1.room])) (ec _ (.int .i64 0)) (ec _ (.int .i64 0))) (by kernel_rfl) _ rfl) (Read_any Ap265 cp265 Aj265 cj265 (nw 3 2).1.cs (nw 3 2).1.js (nw 3 2).1.room 0 0 _ ⟨(OwnR.gr (e := 28) ⟨rfl, ho265_275⟩), (OwnR.gr (e := 38) ⟨rfl, ho265_277⟩)⟩ (by decide) (by decide)) ?_
    intro e273 w273 hR273
    obtain ⟨Ap273, cp273, Aj273, cj273, rfl, hC273, hJ273, hb273⟩ := hR273
    refine ⟨_, rfl, ?_⟩
    intro a273 hA273
    clear hA272
    have hg273 := g0 hb273
    have hs273 := hg273.size
    clear hb273
    have ho273_0 : Own w273 (w270.heap.size) 28 8 (.slice Ap273 (sub (nw 3 2).1 ⟨false, 0, 0, Ct.zero⟩).1.cs.length cp273) (sub (nw 3 2).1 ⟨false, 0, 0, Ct.zero⟩).1.cs.length (flat Ct.va (sub (nw 3 2).1 ⟨false, 0, 0, Ct.zero⟩).1.cs) := hC273.2
    have hh273_0 := Own.hi ho273_0
    have ho273_1 : Own w273 (w270.heap.size) 38 11 (.slice Aj273 (sub (nw 3 2).1 ⟨false, 0, 0, Ct.zero⟩).1.js.length cj273) (sub (nw 3 2).1 ⟨false, 0, 0, Ct.zero⟩).1.js.length (flat Jb.va (sub (nw 3 2).1 ⟨false, 0, 0, Ct.zero⟩).1.js) := hJ273.2
    have hh273_1 := Own.hi ho273_1
    refine sx_val hA273 rfl (ev_move (hA273.ev (i := 94) (v := .tuple #[.agg #[.slice Ap273 (sub (nw 3 2).1 ⟨false, 0, 0, Ct.zero⟩).1.cs.length cp273, .slice Aj273 (sub (nw 3 2).1 ⟨false, 0, 0, Ct.zero⟩).1.js.length cj273, .int .i64 (sub (nw 3 2).1 ⟨false, 0, 0, Ct.zero⟩).1.room], .int .i64 (sub (nw 3 2).1 ⟨false, 0, 0, Ct.zero⟩).2])) _ rfl) ?_
    intro a278 hA278; clear hA273
    refine sx_val (v := .agg #[.slice Ap273 (sub (nw 3 2).1 ⟨false, 0, 0, Ct.zero⟩).1.cs.length cp273, .slice Aj273 (sub (nw 3 2).1 ⟨false, 0, 0, Ct.zero⟩).1.js.length cj273, .int .i64 (sub (nw 3 2).1 ⟨false, 0, 0, Ct.zero⟩).1.room]) hA278 rfl (ev_ext (hA278.ev (i := 92) (v := .tuple #[.agg #[.slice Ap273 (sub (nw 3 2).1 ⟨false, 0, 0, Ct.zero⟩).1.cs.length cp273, .slice Aj273 (sub (nw 3 2).1 ⟨false, 0, 0, Ct.zero⟩).1.js.length cj273, .int .i64 (sub (nw 3 2).1 ⟨false, 0, 0, Ct.zero⟩).1.room], .int .i64 (sub (nw 3 2).1 ⟨false, 0, 0, Ct.zero⟩).2])) rfl _ rfl) ?_
    intro a279 hA279; clear hA278
    refine sx_val (v := .int .i64 (sub (nw 3 2).1 ⟨false, 0, 0, Ct.zero⟩).2) hA279 rfl (ev_ext (hA279.ev (i := 92) (v := .tuple #[.agg #[.slice Ap273 (sub (nw 3 2).1 ⟨false, 0, 0, Ct.zero⟩).1.cs.length cp273, .slice Aj273 (sub (nw 3 2).1 ⟨false, 0, 0, Ct.zero⟩).1.js.length cj273, .int .i64 (sub (nw 3 2).1 ⟨false, 0, 0, Ct.zero⟩).1.room], .int .i64 (sub (nw 3 2).1 ⟨false, 0, 0, Ct.zero⟩).2])) rfl _ rfl) ?_
    intro a280 hA280; clear hA279
    have hx270_282 := hx270.gN hg273
    refine sx_store hA280 rfl (.inl rfl) rfl (hA280.ev (i := 22) (v := .pointer (some ⟨B269, 0, none⟩))) (hA280.ev (i := 95) (v := .agg #[.slice Ap273 (sub (nw 3 2).1 ⟨false, 0, 0, Ct.zero⟩).1.cs.length cp273, .slice Aj273 (sub (nw 3 2).1 ⟨false, 0, 0, Ct.zero⟩).1.js.length cj273, .int .i64 (sub (nw 3 2).1 ⟨false, 0, 0, Ct.zero⟩).1.room])) hx270_282 (by kernel_rfl) rfl (dk_one _ _ _ _ _ _ _) ?_
    intro w281 hx281 hg281
    have hs281 := hg281.size
    refine sx_val hA280 rfl (ev_assign (hA280.ev (i := 96) (v := .int .i64 (sub (nw 3 2).1 ⟨false, 0, 0, Ct.zero⟩).2)) _ rfl) ?_
    intro a283 hA283; clear hA280
    refine sx_nil ?_
    refine then_n ?_
    refine wp_seq ?_
    refine wp_region_lit ?_
    refine sx_val (v := .agg #[.slice Ap273 (sub (nw 3 2).1 ⟨false, 0, 0, Ct.zero⟩).1.cs.length cp273, .slice Aj273 (sub (nw 3 2).1 ⟨false, 0, 0, Ct.zero⟩).1.js.length cj273, .int .i64 (sub (nw 3 2).1 ⟨false, 0, 0, Ct.zero⟩).1.room]) hA283 rfl (ev_row (hA283.ev (i := 22) (v := .pointer (some ⟨B269, 0, none⟩))) hx281 Try.underlying25 rfl (n := 3) (by kernel_rfl) rfl _ rfl) ?_
    intro a284 hA284; clear hA283
    have ho273_286 := Own.gBT ho273_0 hg281 hx270_282 (by decide)
    have ho273_287 := Own.gBT ho273_1 hg281 hx270_282 (by decide)
    refine sx_call (f := 15) (args := #[.agg #[.slice Ap273 (sub (nw 3 2).1 ⟨false, 0, 0, Ct.zero⟩).1.cs.length cp273, .slice Aj273 (sub (nw 3 2).1 ⟨false, 0, 0, Ct.zero⟩).1.js.length cj273, .int .i64 (sub (nw 3 2).1 ⟨false, 0, 0, Ct.zero⟩).1.room], .int .i64 1, .int .i64 1]) hA284 rfl (by decide) (.inl rfl) (ev_fn rfl (mp3 (hA284.ev (i := 98) (v := .agg #[.slice Ap273 (sub (nw 3 2).1 ⟨false, 0, 0, Ct.zero⟩).1.cs.length cp273, .slice Aj273 (sub (nw 3 2).1 ⟨false, 0, 0, Ct.zero⟩).1.js.length cj273, .int .i64 (sub (nw 3 2).1 ⟨false, 0, 0, Ct.zero⟩).1.room])) (ec _ (.int .i64 1)) (ec _ (.int .i64 1))) (by kernel_rfl) _ rfl) (Read_any Ap273 cp273 Aj273 cj273 (sub (nw 3 2).1 ⟨false, 0, 0, Ct.zero⟩).1.cs (sub (nw 3 2).1 ⟨false, 0, 0, Ct.zero⟩).1.js (sub (nw 3 2).1 ⟨false, 0, 0, Ct.zero⟩).1.room 1 1 _ ⟨(OwnR.gr (e := 28) ⟨rfl, ho273_286⟩), (OwnR.gr (e := 38) ⟨rfl, ho273_287⟩)⟩ (by decide) (by decide)) ?_
    intro e285 w285 hR285
    obtain ⟨Ap285, cp285, Aj285, cj285, rfl, hC285, hJ285, hb285⟩ := hR285
    refine ⟨_, rfl, ?_⟩
    intro a285 hA285
    clear hA284
    have hg285 := g0 hb285
    have hs285 := hg285.size
    clear hb285
    have ho285_0 : Own w285 (w281.heap.size) 28 8 (.slice Ap285 (sub (sub (nw 3 2).1 ⟨false, 0, 0, Ct.zero⟩).1 ⟨false, 1, 1, Ct.zero⟩).1.cs.length cp285) (sub (sub (nw 3 2).1 ⟨false, 0, 0, Ct.zero⟩).1 ⟨false, 1, 1, Ct.zero⟩).1.cs.length (flat Ct.va (sub (sub (nw 3 2).1 ⟨false, 0, 0, Ct.zero⟩).1 ⟨false, 1, 1, Ct.zero⟩).1.cs) := hC285.2
    have hh285_0 := Own.hi ho285_0
    have ho285_1 : Own w285 (w281.heap.size) 38 11 (.slice Aj285 (sub (sub (nw 3 2).1 ⟨false, 0, 0, Ct.zero⟩).1 ⟨false, 1, 1, Ct.zero⟩).1.js.length cj285) (sub (sub (nw 3 2).1 ⟨false, 0, 0, Ct.zero⟩).1 ⟨false, 1, 1, Ct.zero⟩).1.js.length (flat Jb.va (sub (sub (nw 3 2).1 ⟨false, 0, 0, Ct.zero⟩).1 ⟨false, 1, 1, Ct.zero⟩).1.js) := hJ285.2
    have hh285_1 := Own.hi ho285_1
    refine sx_val hA285 rfl (ev_move (hA285.ev (i := 99) (v := .tuple #[.agg #[.slice Ap285 (sub (sub (nw 3 2).1 ⟨false, 0, 0, Ct.zero⟩).1 ⟨false, 1, 1, Ct.zero⟩).1.cs.length cp285, .slice Aj285 (sub (sub (nw 3 2).1 ⟨false, 0, 0, Ct.zero⟩).1 ⟨false, 1, 1, Ct.zero⟩).1.js.length cj285, .int .i64 (sub (sub (nw 3 2).1 ⟨false, 0, 0, Ct.zero⟩).1 ⟨false, 1, 1, Ct.zero⟩).1.room], .int .i64 (sub (sub (nw 3 2).1 ⟨false, 0, 0, Ct.zero⟩).1 ⟨false, 1, 1, Ct.zero⟩).2])) _ rfl) ?_
    intro a288 hA288; clear hA285
    refine sx_val (v := .agg #[.slice Ap285 (sub (sub (nw 3 2).1 ⟨false, 0, 0, Ct.zero⟩).1 ⟨false, 1, 1, Ct.zero⟩).1.cs.length cp285, .slice Aj285 (sub (sub (nw 3 2).1 ⟨false, 0, 0, Ct.zero⟩).1 ⟨false, 1, 1, Ct.zero⟩).1.js.length cj285, .int .i64 (sub (sub (nw 3 2).1 ⟨false, 0, 0, Ct.zero⟩).1 ⟨false, 1, 1, Ct.zero⟩).1.room]) hA288 rfl (ev_ext (hA288.ev (i := 97) (v := .tuple #[.agg #[.slice Ap285 (sub (sub (nw 3 2).1 ⟨false, 0, 0, Ct.zero⟩).1 ⟨false, 1, 1, Ct.zero⟩).1.cs.length cp285, .slice Aj285 (sub (sub (nw 3 2).1 ⟨false, 0, 0, Ct.zero⟩).1 ⟨false, 1, 1, Ct.zero⟩).1.js.length cj285, .int .i64 (sub (sub (nw 3 2).1 ⟨false, 0, 0, Ct.zero⟩).1 ⟨false, 1, 1, Ct.zero⟩).1.room], .int .i64 (sub (sub (nw 3 2).1 ⟨false, 0, 0, Ct.zero⟩).1 ⟨false, 1, 1, Ct.zero⟩).2])) rfl _ rfl) ?_
    intro a289 hA289; clear hA288
    refine sx_val (v := .int .i64 (sub (sub (nw 3 2).1 ⟨false, 0, 0, Ct.zero⟩).1 ⟨false, 1, 1, Ct.zero⟩).2) hA289 rfl (ev_ext (hA289.ev (i := 97) (v := .tuple #[.agg #[.slice Ap285 (sub (sub (nw 3 2).1 ⟨false, 0, 0, Ct.zero⟩).1 ⟨false, 1, 1, Ct.zero⟩).1.cs.length cp285, .slice Aj285 (sub (sub (nw 3 2).1 ⟨false, 0, 0, Ct.zero⟩).1 ⟨false, 1, 1, Ct.zero⟩).1.js.length cj285, .int .i64 (sub (sub (nw 3 2).1 ⟨false, 0, 0, Ct.zero⟩).1 ⟨false, 1, 1, Ct.zero⟩).1.room], .int .i64 (sub (sub (nw 3 2).1 ⟨false, 0, 0, Ct.zero⟩).1 ⟨false, 1, 1, Ct.zero⟩).2])) rfl _ rfl) ?_
    intro a290 hA290; clear hA289
    have hx281_292 := hx281.gN hg285
    refine sx_store hA290 rfl (.inl rfl) rfl (hA290.ev (i := 22) (v := .pointer (some ⟨B269, 0, none⟩))) (hA290.ev (i := 100) (v := .agg #[.slice Ap285 (sub (sub (nw 3 2).1 ⟨false, 0, 0, Ct.zero⟩).1 ⟨false, 1, 1, Ct.zero⟩).1.cs.length cp285, .slice Aj285 (sub (sub (nw 3 2).1 ⟨false, 0, 0, Ct.zero⟩).1 ⟨false, 1, 1, Ct.zero⟩).1.js.length cj285, .int .i64 (sub (sub (nw 3 2).1 ⟨false, 0, 0, Ct.zero⟩).1 ⟨false, 1, 1, Ct.zero⟩).1.room])) hx281_292 (by kernel_rfl) rfl (dk_one _ _ _ _ _ _ _) ?_
    intro w291 hx291 hg291
    have hs291 := hg291.size
    refine sx_val hA290 rfl (ev_assign (hA290.ev (i := 101) (v := .int .i64 (sub (sub (nw 3 2).1 ⟨false, 0, 0, Ct.zero⟩).1 ⟨false, 1, 1, Ct.zero⟩).2)) _ rfl) ?_
    intro a293 hA293; clear hA290
    refine sx_nil ?_
    refine then_n ?_
    refine wp_seq ?_
    refine wp_region_lit ?_
    refine sx_val (v := .agg #[.slice Ap285 (sub (sub (nw 3 2).1 ⟨false, 0, 0, Ct.zero⟩).1 ⟨false, 1, 1, Ct.zero⟩).1.cs.length cp285, .slice Aj285 (sub (sub (nw 3 2).1 ⟨false, 0, 0, Ct.zero⟩).1 ⟨false, 1, 1, Ct.zero⟩).1.js.length cj285, .int .i64 (sub (sub (nw 3 2).1 ⟨false, 0, 0, Ct.zero⟩).1 ⟨false, 1, 1, Ct.zero⟩).1.room]) hA293 rfl (ev_row (hA293.ev (i := 22) (v := .pointer (some ⟨B269, 0, none⟩))) hx291 Try.underlying25 rfl (n := 3) (by kernel_rfl) rfl _ rfl) ?_
    intro a294 hA294; clear hA293
    have ho285_296 := Own.gBT ho285_0 hg291 hx281_292 (by decide)
    have ho285_297 := Own.gBT ho285_1 hg291 hx281_292 (by decide)
    refine sx_call (f := 15) (args := #[.agg #[.slice Ap285 (sub (sub (nw 3 2).1 ⟨false, 0, 0, Ct.zero⟩).1 ⟨false, 1, 1, Ct.zero⟩).1.cs.length cp285, .slice Aj285 (sub (sub (nw 3 2).1 ⟨false, 0, 0, Ct.zero⟩).1 ⟨false, 1, 1, Ct.zero⟩).1.js.length cj285, .int .i64 (sub (sub (nw 3 2).1 ⟨false, 0, 0, Ct.zero⟩).1 ⟨false, 1, 1, Ct.zero⟩).1.room], .int .i64 2, .int .i64 2]) hA294 rfl (by decide) (.inl rfl) (ev_fn rfl (mp3 (hA294.ev (i := 103) (v := .agg #[.slice Ap285 (sub (sub (nw 3 2).1 ⟨false, 0, 0, Ct.zero⟩).1 ⟨false, 1, 1, Ct.zero⟩).1.cs.length cp285, .slice Aj285 (sub (sub (nw 3 2).1 ⟨false, 0, 0, Ct.zero⟩).1 ⟨false, 1, 1, Ct.zero⟩).1.js.length cj285, .int .i64 (sub (sub (nw 3 2).1 ⟨false, 0, 0, Ct.zero⟩).1 ⟨false, 1, 1, Ct.zero⟩).1.room])) (ec _ (.int .i64 2)) (ec _ (.int .i64 2))) (by kernel_rfl) _ rfl) (Read_any Ap285 cp285 Aj285 cj285 (sub (sub (nw 3 2).1 ⟨false, 0, 0, Ct.zero⟩).1 ⟨false, 1, 1, Ct.zero⟩).1.cs (sub (sub (nw 3 2).1 ⟨false, 0, 0, Ct.zero⟩).1 ⟨false, 1, 1, Ct.zero⟩).1.js (sub (sub (nw 3 2).1 ⟨false, 0, 0, Ct.zero⟩).1 ⟨false, 1, 1, Ct.zero⟩).1.room 2 2 _ ⟨(OwnR.gr (e := 28) ⟨rfl, ho285_296⟩), (OwnR.gr (e := 38) ⟨rfl, ho285_297⟩)⟩ (by decide) (by decide)) ?_
    intro e295 w295 hR295
    obtain ⟨Ap295, cp295, Aj295, cj295, rfl, hC295, hJ295, hb295⟩ := hR295
    refine ⟨_, rfl, ?_⟩
    intro a295 hA295
    clear hA294
    have hg295 := g0 hb295
    have hs295 := hg295.size
    clear hb295
    have ho295_0 : Own w295 (w291.heap.size) 28 8 (.slice Ap295 (sub (sub (sub (nw 3 2).1 ⟨false, 0, 0, Ct.zero⟩).1 ⟨false, 1, 1, Ct.zero⟩).1 ⟨false, 2, 2, Ct.zero⟩).1.cs.length cp295) (sub (sub (sub (nw 3 2).1 ⟨false, 0, 0, Ct.zero⟩).1 ⟨false, 1, 1, Ct.zero⟩).1 ⟨false, 2, 2, Ct.zero⟩).1.cs.length (flat Ct.va (sub (sub (sub (nw 3 2).1 ⟨false, 0, 0, Ct.zero⟩).1 ⟨false, 1, 1, Ct.zero⟩).1 ⟨false, 2, 2, Ct.zero⟩).1.cs) := hC295.2
    have hh295_0 := Own.hi ho295_0
    have ho295_1 : Own w295 (w291.heap.size) 38 11 (.slice Aj295 (sub (sub (sub (nw 3 2).1 ⟨false, 0, 0, Ct.zero⟩).1 ⟨false, 1, 1, Ct.zero⟩).1 ⟨false, 2, 2, Ct.zero⟩).1.js.length cj295) (sub (sub (sub (nw 3 2).1 ⟨false, 0, 0, Ct.zero⟩).1 ⟨false, 1, 1, Ct.zero⟩).1 ⟨false, 2, 2, Ct.zero⟩).1.js.length (flat Jb.va (sub (sub (sub (nw 3 2).1 ⟨false, 0, 0, Ct.zero⟩).1 ⟨false, 1, 1, Ct.zero⟩).1 ⟨false, 2, 2, Ct.zero⟩).1.js) := hJ295.2
    have hh295_1 := Own.hi ho295_1
    refine sx_val hA295 rfl (ev_move (hA295.ev (i := 104) (v := .tuple #[.agg #[.slice Ap295 (sub (sub (sub (nw 3 2).1 ⟨false, 0, 0, Ct.zero⟩).1 ⟨false, 1, 1, Ct.zero⟩).1 ⟨false, 2, 2, Ct.zero⟩).1.cs.length cp295, .slice Aj295 (sub (sub (sub (nw 3 2).1 ⟨false, 0, 0, Ct.zero⟩).1 ⟨false, 1, 1, Ct.zero⟩).1 ⟨false, 2, 2, Ct.zero⟩).1.js.length cj295, .int .i64 (sub (sub (sub (nw 3 2).1 ⟨false, 0, 0, Ct.zero⟩).1 ⟨false, 1, 1, Ct.zero⟩).1 ⟨false, 2, 2, Ct.zero⟩).1.room], .int .i64 (sub (sub (sub (nw 3 2).1 ⟨false, 0, 0, Ct.zero⟩).1 ⟨false, 1, 1, Ct.zero⟩).1 ⟨false, 2, 2, Ct.zero⟩).2])) _ rfl) ?_
    intro a298 hA298; clear hA295
    refine sx_val (v := .agg #[.slice Ap295 (sub (sub (sub (nw 3 2).1 ⟨false, 0, 0, Ct.zero⟩).1 ⟨false, 1, 1, Ct.zero⟩).1 ⟨false, 2, 2, Ct.zero⟩).1.cs.length cp295, .slice Aj295 (sub (sub (sub (nw 3 2).1 ⟨false, 0, 0, Ct.zero⟩).1 ⟨false, 1, 1, Ct.zero⟩).1 ⟨false, 2, 2, Ct.zero⟩).1.js.length cj295, .int .i64 (sub (sub (sub (nw 3 2).1 ⟨false, 0, 0, Ct.zero⟩).1 ⟨false, 1, 1, Ct.zero⟩).1 ⟨false, 2, 2, Ct.zero⟩).1.room]) hA298 rfl (ev_ext (hA298.ev (i := 102) (v := .tuple #[.agg #[.slice Ap295 (sub (sub (sub (nw 3 2).1 ⟨false, 0, 0, Ct.zero⟩).1 ⟨false, 1, 1, Ct.zero⟩).1 ⟨false, 2, 2, Ct.zero⟩).1.cs.length cp295, .slice Aj295 (sub (sub (sub (nw 3 2).1 ⟨false, 0, 0, Ct.zero⟩).1 ⟨false, 1, 1, Ct.zero⟩).1 ⟨false, 2, 2, Ct.zero⟩).1.js.length cj295, .int .i64 (sub (sub (sub (nw 3 2).1 ⟨false, 0, 0, Ct.zero⟩).1 ⟨false, 1, 1, Ct.zero⟩).1 ⟨false, 2, 2, Ct.zero⟩).1.room], .int .i64 (sub (sub (sub (nw 3 2).1 ⟨false, 0, 0, Ct.zero⟩).1 ⟨false, 1, 1, Ct.zero⟩).1 ⟨false, 2, 2, Ct.zero⟩).2])) rfl _ rfl) ?_
    intro a299 hA299; clear hA298
    refine sx_val (v := .int .i64 (sub (sub (sub (nw 3 2).1 ⟨false, 0, 0, Ct.zero⟩).1 ⟨false, 1, 1, Ct.zero⟩).1 ⟨false, 2, 2, Ct.zero⟩).2) hA299 rfl (ev_ext (hA299.ev (i := 102) (v := .tuple #[.agg #[.slice Ap295 (sub (sub (sub (nw 3 2).1 ⟨false, 0, 0, Ct.zero⟩).1 ⟨false, 1, 1, Ct.zero⟩).1 ⟨false, 2, 2, Ct.zero⟩).1.cs.length cp295, .slice Aj295 (sub (sub (sub (nw 3 2).1 ⟨false, 0, 0, Ct.zero⟩).1 ⟨false, 1, 1, Ct.zero⟩).1 ⟨false, 2, 2, Ct.zero⟩).1.js.length cj295, .int .i64 (sub (sub (sub (nw 3 2).1 ⟨false, 0, 0, Ct.zero⟩).1 ⟨false, 1, 1, Ct.zero⟩).1 ⟨false, 2, 2, Ct.zero⟩).1.room], .int .i64 (sub (sub (sub (nw 3 2).1 ⟨false, 0, 0, Ct.zero⟩).1 ⟨false, 1, 1, Ct.zero⟩).1 ⟨false, 2, 2, Ct.zero⟩).2])) rfl _ rfl) ?_
    intro a300 hA300; clear hA299
    refine sx_new (cs := #[.slice none 0 0, .slice none 0 0, .int .i64 0]) (t := 25) hA300 rfl (by decide) (.inl rfl) (ev_alloc (z := .agg (#[.slice none 0 0, .slice none 0 0, .int .i64 0])) (by kernel_rfl) (by kernel_rfl) _ rfl) ?_
    intro B301 w301 a301 hB301 hx301 hg301 hA301
    clear hA300
    have hs301 := hg301.size
    have hl301 := hx301.lt
    refine sx_store hA301 rfl (.inl rfl) rfl (hA301.ev (i := 26) (v := .pointer (some ⟨B301, 0, none⟩))) (hA301.ev (i := 105) (v := .agg #[.slice Ap295 (sub (sub (sub (nw 3 2).1 ⟨false, 0, 0, Ct.zero⟩).1 ⟨false, 1, 1, Ct.zero⟩).1 ⟨false, 2, 2, Ct.zero⟩).1.cs.length cp295, .slice Aj295 (sub (sub (sub (nw 3 2).1 ⟨false, 0, 0, Ct.zero⟩).1 ⟨false, 1, 1, Ct.zero⟩).1 ⟨false, 2, 2, Ct.zero⟩).1.js.length cj295, .int .i64 (sub (sub (sub (nw 3 2).1 ⟨false, 0, 0, Ct.zero⟩).1 ⟨false, 1, 1, Ct.zero⟩).1 ⟨false, 2, 2, Ct.zero⟩).1.room])) hx301 (by kernel_rfl) rfl (dk_one _ _ _ _ _ _ _) ?_
    intro w302 hx302 hg302
    have hs302 := hg302.size
    refine sx_val hA301 rfl (ev_assign (hA301.ev (i := 106) (v := .int .i64 (sub (sub (sub (nw 3 2).1 ⟨false, 0, 0, Ct.zero⟩).1 ⟨false, 1, 1, Ct.zero⟩).1 ⟨false, 2, 2, Ct.zero⟩).2)) _ rfl) ?_
    intro a303 hA303; clear hA301
    refine sx_nil ?_
    refine then_n ?_
    refine wp_seq ?_
    refine wp_region_lit ?_
    have b239_B6_304 := b239_B6_250.gN hg252
    have b239_B6_305 := b239_B6_304.gN hg262
    have b239_B6_306 := b239_B6_305.gB hg263 (by omega)
    have b239_B6_307 := b239_B6_306.gN hg265
    have b239_B6_308 := b239_B6_307.gN hg269
    have b239_B6_309 := b239_B6_308.gB hg270 (by omega)
    have b239_B6_310 := b239_B6_309.gN hg273
    have b239_B6_311 := b239_B6_310.gB hg281 (by omega)
    have b239_B6_312 := b239_B6_311.gN hg285
    have b239_B6_313 := b239_B6_312.gB hg291 (by omega)
    have b239_B6_314 := b239_B6_313.gN hg295
    have b239_B6_315 := b239_B6_314.gN hg301
    have b239_B6_316 := b239_B6_315.gB hg302 (by omega)
    refine sx_val (v := .agg #[.slice Ap2 d2.cs.length cp2, .slice Aj2 d2.js.length cj2, .int .i64 d2.room]) hA303 rfl (ev_row (hA303.ev (i := 1) (v := .pointer (some ⟨B6, 0, none⟩))) b239_B6_316 Try.underlying25 rfl (n := 3) (by kernel_rfl) rfl _ rfl) ?_
    intro a317 hA317; clear hA303
    have p239_319 := Own.gN p239_255 hg252
    have p239_320 := Own.gN p239_319 hg262
    have p239_321 := Own.gBT p239_320 hg263 hx262 (by decide)
    have p239_322 := Own.gN p239_321 hg265
    have p239_323 := Own.gN p239_322 hg269
    have p239_324 := Own.gBT p239_323 hg270 hx269 (by decide)
    have p239_325 := Own.gN p239_324 hg273
    have p239_326 := Own.gBT p239_325 hg281 hx270_282 (by decide)
    have p239_327 := Own.gN p239_326 hg285
    have p239_328 := Own.gBT p239_327 hg291 hx281_292 (by decide)
    have p239_329 := Own.gN p239_328 hg295
    have p239_330 := Own.gN p239_329 hg301
    have p239_331 := Own.gBT p239_330 hg302 hx301 (by decide)
    have p239_332 := Own.gN p239_258 hg252
    have p239_333 := Own.gN p239_332 hg262
    have p239_334 := Own.gBT p239_333 hg263 hx262 (by decide)
    have p239_335 := Own.gN p239_334 hg265
    have p239_336 := Own.gN p239_335 hg269
    have p239_337 := Own.gBT p239_336 hg270 hx269 (by decide)
    have p239_338 := Own.gN p239_337 hg273
    have p239_339 := Own.gBT p239_338 hg281 hx270_282 (by decide)
    have p239_340 := Own.gN p239_339 hg285
    have p239_341 := Own.gBT p239_340 hg291 hx281_292 (by decide)
    have p239_342 := Own.gN p239_341 hg295
    have p239_343 := Own.gN p239_342 hg301
    have p239_344 := Own.gBT p239_343 hg302 hx301 (by decide)
    refine sx_call (f := 17) (args := #[.agg #[.slice Ap2 d2.cs.length cp2, .slice Aj2 d2.js.length cj2, .int .i64 d2.room], .int .i64 2]) hA317 rfl (by decide) (.inl rfl) (ev_fn rfl (mp2 (hA317.ev (i := 108) (v := .agg #[.slice Ap2 d2.cs.length cp2, .slice Aj2 d2.js.length cj2, .int .i64 d2.room])) (ec _ (.int .i64 2))) (by kernel_rfl) _ rfl) (Complete_any Ap2 cp2 Aj2 cj2 d2.cs d2.js d2.room 2 _ ⟨(OwnR.gr (e := 28) ⟨rfl, p239_331⟩), (OwnR.gr (e := 38) ⟨rfl, p239_344⟩)⟩ (by decide) (by decide)) ?_
    intro e318 w318 hR318
    obtain ⟨Ap318, cp318, Aj318, cj318, rfl, hC318, hJ318, hb318⟩ := hR318
    refine ⟨_, rfl, ?_⟩
    intro a318 hA318
    clear hA317
    have hg318 := g0 hb318
    have hs318 := hg318.size
    clear hb318
    have ho318_0 : Own w318 (w302.heap.size) 28 8 (.slice Ap318 (cmp d2 2).1.cs.length cp318) (cmp d2 2).1.cs.length (flat Ct.va (cmp d2 2).1.cs) := hC318.2
    have hh318_0 := Own.hi ho318_0
    have ho318_1 : Own w318 (w302.heap.size) 38 11 (.slice Aj318 (cmp d2 2).1.js.length cj318) (cmp d2 2).1.js.length (flat Jb.va (cmp d2 2).1.js) := hJ318.2
    have hh318_1 := Own.hi ho318_1
    refine sx_val hA318 rfl (ev_move (hA318.ev (i := 109) (v := .tuple #[.agg #[.slice Ap318 (cmp d2 2).1.cs.length cp318, .slice Aj318 (cmp d2 2).1.js.length cj318, .int .i64 (cmp d2 2).1.room], .agg (cmp d2 2).2.1.va, .int .i64 (cmp d2 2).2.2])) _ rfl) ?_
    intro a345 hA345; clear hA318
    refine sx_val (v := .agg #[.slice Ap318 (cmp d2 2).1.cs.length cp318, .slice Aj318 (cmp d2 2).1.js.length cj318, .int .i64 (cmp d2 2).1.room]) hA345 rfl (ev_ext (hA345.ev (i := 107) (v := .tuple #[.agg #[.slice Ap318 (cmp d2 2).1.cs.length cp318, .slice Aj318 (cmp d2 2).1.js.length cj318, .int .i64 (cmp d2 2).1.room], .agg (cmp d2 2).2.1.va, .int .i64 (cmp d2 2).2.2])) rfl _ rfl) ?_
    intro a346 hA346; clear hA345
    refine sx_val (v := .agg (cmp d2 2).2.1.va) hA346 rfl (ev_ext (hA346.ev (i := 107) (v := .tuple #[.agg #[.slice Ap318 (cmp d2 2).1.cs.length cp318, .slice Aj318 (cmp d2 2).1.js.length cj318, .int .i64 (cmp d2 2).1.room], .agg (cmp d2 2).2.1.va, .int .i64 (cmp d2 2).2.2])) rfl _ rfl) ?_
    intro a347 hA347; clear hA346
    refine sx_val (v := .int .i64 (cmp d2 2).2.2) hA347 rfl (ev_ext (hA347.ev (i := 107) (v := .tuple #[.agg #[.slice Ap318 (cmp d2 2).1.cs.length cp318, .slice Aj318 (cmp d2 2).1.js.length cj318, .int .i64 (cmp d2 2).1.room], .agg (cmp d2 2).2.1.va, .int .i64 (cmp d2 2).2.2])) rfl _ rfl) ?_
    intro a348 hA348; clear hA347
    refine sx_new (cs := #[.slice none 0 0, .slice none 0 0, .int .i64 0]) (t := 25) hA348 rfl (by decide) (.inl rfl) (ev_alloc (z := .agg (#[.slice none 0 0, .slice none 0 0, .int .i64 0])) (by kernel_rfl) (by kernel_rfl) _ rfl) ?_
    intro B349 w349 a349 hB349 hx349 hg349 hA349
    clear hA348
    have hs349 := hg349.size
    have hl349 := hx349.lt
    refine sx_new (cs := Jb.zero.va) (t := 38) hA349 rfl (by decide) (.inl rfl) (ev_alloc (z := .agg Jb.zero.va) (by kernel_rfl) (by kernel_rfl) _ rfl) ?_
    intro B350 w350 a350 hB350 hx350 hg350 hA350
    clear hA349
    have hs350 := hg350.size
    have hl350 := hx350.lt
    have hx349_352 := hx349.gN hg350
    refine sx_store hA350 rfl (.inl rfl) rfl (hA350.ev (i := 28) (v := .pointer (some ⟨B349, 0, none⟩))) (hA350.ev (i := 110) (v := .agg #[.slice Ap318 (cmp d2 2).1.cs.length cp318, .slice Aj318 (cmp d2 2).1.js.length cj318, .int .i64 (cmp d2 2).1.room])) hx349_352 (by kernel_rfl) rfl (dk_one _ _ _ _ _ _ _) ?_
    intro w351 hx351 hg351
    have hs351 := hg351.size
    have hx350_354 := hx350.gB hg351 (by omega)
    refine sx_store hA350 rfl (.inl rfl) rfl (hA350.ev (i := 29) (v := .pointer (some ⟨B350, 0, none⟩))) (hA350.ev (i := 111) (v := .agg (cmp d2 2).2.1.va)) hx350_354 (by kernel_rfl) rfl (jb_one _) ?_
    intro w353 hx353 hg353
    have hs353 := hg353.size
    refine sx_val hA350 rfl (ev_assign (hA350.ev (i := 112) (v := .int .i64 (cmp d2 2).2.2)) _ rfl) ?_
    intro a355 hA355; clear hA350
    refine sx_nil ?_
    refine then_n ?_
    refine wp_seq ?_
    refine wp_seq ?_
    have p239_356 := Own.gN p239_4 hg241
    have p239_357 := Own.gN p239_356 hg245
    have p239_358 := Own.gBT p239_357 hg246 hx245 (by decide)
    have p239_359 := Own.gN p239_358 hg252
    have p239_360 := Own.gN p239_359 hg262
    have p239_361 := Own.gBT p239_360 hg263 hx262 (by decide)
    have p239_362 := Own.gN p239_361 hg265
    have p239_363 := Own.gN p239_362 hg269
    have p239_364 := Own.gBT p239_363 hg270 hx269 (by decide)
    have p239_365 := Own.gN p239_364 hg273
    have p239_366 := Own.gBT p239_365 hg281 hx270_282 (by decide)
    have p239_367 := Own.gN p239_366 hg285
    have p239_368 := Own.gBT p239_367 hg291 hx281_292 (by decide)
    have p239_369 := Own.gN p239_368 hg295
    have p239_370 := Own.gN p239_369 hg301
    have p239_371 := Own.gBT p239_370 hg302 hx301 (by decide)
    have p239_372 := Own.gN p239_371 hg318
    have p239_373 := Own.gN p239_372 hg349
    have p239_374 := Own.gN p239_373 hg350
    have p239_375 := Own.gBT p239_374 hg351 hx349_352 (by decide)
    have p239_376 := Own.gBT p239_375 hg353 hx350_354 (by decide)
    obtain ⟨adz, hAdz⟩ := GR.adr (OwnR.gr (e := 28) ⟨rfl, p239_376⟩) ct_sz (k := 1) (x := wd 1) (by kernel_rfl)
    have b239_B51_377 := b239_B51.gN hg241
    have b239_B51_378 := b239_B51_377.gN hg245
    have b239_B51_379 := b239_B51_378.gB hg246 (by omega)
    have b239_B51_380 := b239_B51_379.gN hg252
    have b239_B51_381 := b239_B51_380.gN hg262
    have b239_B51_382 := b239_B51_381.gB hg263 (by omega)
    have b239_B51_383 := b239_B51_382.gN hg265
    have b239_B51_384 := b239_B51_383.gN hg269
    have b239_B51_385 := b239_B51_384.gB hg270 (by omega)
    have b239_B51_386 := b239_B51_385.gN hg273
    have b239_B51_387 := b239_B51_386.gB hg281 (by omega)
    have b239_B51_388 := b239_B51_387.gN hg285
    have b239_B51_389 := b239_B51_388.gB hg291 (by omega)
    have b239_B51_390 := b239_B51_389.gN hg295
    have b239_B51_391 := b239_B51_390.gN hg301
    have b239_B51_392 := b239_B51_391.gB hg302 (by omega)
    have b239_B51_393 := b239_B51_392.gN hg318
    have b239_B51_394 := b239_B51_393.gN hg349
    have b239_B51_395 := b239_B51_394.gN hg350
    have b239_B51_396 := b239_B51_395.gB hg351 (by omega)
    have b239_B51_397 := b239_B51_396.gB hg353 (by omega)
    have b239_B52_398 := b239_B52.gN hg241
    have b239_B52_399 := b239_B52_398.gN hg245
    have b239_B52_400 := b239_B52_399.gB hg246 (by omega)
    have b239_B52_401 := b239_B52_400.gN hg252
    have b239_B52_402 := b239_B52_401.gN hg262
    have b239_B52_403 := b239_B52_402.gB hg263 (by omega)
    have b239_B52_404 := b239_B52_403.gN hg265
    have b239_B52_405 := b239_B52_404.gN hg269
    have b239_B52_406 := b239_B52_405.gB hg270 (by omega)
    have b239_B52_407 := b239_B52_406.gN hg273
    have b239_B52_408 := b239_B52_407.gB hg281 (by omega)
    have b239_B52_409 := b239_B52_408.gN hg285
    have b239_B52_410 := b239_B52_409.gB hg291 (by omega)
    have b239_B52_411 := b239_B52_410.gN hg295
    have b239_B52_412 := b239_B52_411.gN hg301
    have b239_B52_413 := b239_B52_412.gB hg302 (by omega)
    have b239_B52_414 := b239_B52_413.gN hg318
    have b239_B52_415 := b239_B52_414.gN hg349
    have b239_B52_416 := b239_B52_415.gN hg350
    have b239_B52_417 := b239_B52_416.gB hg351 (by omega)
    have b239_B52_418 := b239_B52_417.gB hg353 (by omega)
    have b239_B86_419 := b239_B86.gN hg241
    have b239_B86_420 := b239_B86_419.gN hg245
    have b239_B86_421 := b239_B86_420.gB hg246 (by omega)
    have b239_B86_422 := b239_B86_421.gN hg252
    have b239_B86_423 := b239_B86_422.gN hg262
    have b239_B86_424 := b239_B86_423.gB hg263 (by omega)
    have b239_B86_425 := b239_B86_424.gN hg265
    have b239_B86_426 := b239_B86_425.gN hg269
    have b239_B86_427 := b239_B86_426.gB hg270 (by omega)
    have b239_B86_428 := b239_B86_427.gN hg273
    have b239_B86_429 := b239_B86_428.gB hg281 (by omega)
    have b239_B86_430 := b239_B86_429.gN hg285
    have b239_B86_431 := b239_B86_430.gB hg291 (by omega)
    have b239_B86_432 := b239_B86_431.gN hg295
    have b239_B86_433 := b239_B86_432.gN hg301
    have b239_B86_434 := b239_B86_433.gB hg302 (by omega)
    have b239_B86_435 := b239_B86_434.gN hg318
    have b239_B86_436 := b239_B86_435.gN hg349
    have b239_B86_437 := b239_B86_436.gN hg350
    have b239_B86_438 := b239_B86_437.gB hg351 (by omega)
    have b239_B86_439 := b239_B86_438.gB hg353 (by omega)
    have p239_440 := Own.gN p239_5 hg241
    have p239_441 := Own.gN p239_440 hg245
    have p239_442 := Own.gBT p239_441 hg246 hx245 (by decide)
    have p239_443 := Own.gN p239_442 hg252
    have p239_444 := Own.gN p239_443 hg262
    have p239_445 := Own.gBT p239_444 hg263 hx262 (by decide)
    have p239_446 := Own.gN p239_445 hg265
    have p239_447 := Own.gN p239_446 hg269
    have p239_448 := Own.gBT p239_447 hg270 hx269 (by decide)
    have p239_449 := Own.gN p239_448 hg273
    have p239_450 := Own.gBT p239_449 hg281 hx270_282 (by decide)
    have p239_451 := Own.gN p239_450 hg285
    have p239_452 := Own.gBT p239_451 hg291 hx281_292 (by decide)
    have p239_453 := Own.gN p239_452 hg295
    have p239_454 := Own.gN p239_453 hg301
    have p239_455 := Own.gBT p239_454 hg302 hx301 (by decide)
    have p239_456 := Own.gN p239_455 hg318
    have p239_457 := Own.gN p239_456 hg349
    have p239_458 := Own.gN p239_457 hg350
    have p239_459 := Own.gBT p239_458 hg351 hx349_352 (by decide)
    have p239_460 := Own.gB p239_459 hg353 hh38_1 (by omega)
    have bl239_461 := Below.gN bl239 hg241 bl239.size
    have bl239_462 := Below.gN bl239_461 hg245 bl239_461.size
    have bl239_463 := Below.gB bl239_462 hg246 bl239_462.size (by omega)
    have bl239_464 := Below.gN bl239_463 hg252 bl239_463.size
    have bl239_465 := Below.gN bl239_464 hg262 bl239_464.size
    have bl239_466 := Below.gB bl239_465 hg263 bl239_465.size (by omega)
    have bl239_467 := Below.gN bl239_466 hg265 bl239_466.size
    have bl239_468 := Below.gN bl239_467 hg269 bl239_467.size
    have bl239_469 := Below.gB bl239_468 hg270 bl239_468.size (by omega)
    have bl239_470 := Below.gN bl239_469 hg273 bl239_469.size
    have bl239_471 := Below.gB bl239_470 hg281 bl239_470.size (by omega)
    have bl239_472 := Below.gN bl239_471 hg285 bl239_471.size
    have bl239_473 := Below.gB bl239_472 hg291 bl239_472.size (by omega)
    have bl239_474 := Below.gN bl239_473 hg295 bl239_473.size
    have bl239_475 := Below.gN bl239_474 hg301 bl239_474.size
    have bl239_476 := Below.gB bl239_475 hg302 bl239_475.size (by omega)
    have bl239_477 := Below.gN bl239_476 hg318 bl239_476.size
    have bl239_478 := Below.gN bl239_477 hg349 bl239_477.size
    have bl239_479 := Below.gN bl239_478 hg350 bl239_478.size
    have bl239_480 := Below.gB bl239_479 hg351 bl239_479.size (by omega)
    have bl239_481 := Below.gB bl239_480 hg353 bl239_480.size (by omega)
    refine region_D (n := 51) (by kernel_rfl) (by kernel_rfl) rfl (fun L ac wc => Below w.heap.size w wc ∧ w353.heap.size ≤ wc.heap.size ∧ Bx wc B51 25 (#[.slice Ap38 (cmp (cmp d2 1).1 0).1.cs.length cp38, .slice Aj38 (cmp (cmp d2 1).1 0).1.js.length cj38, .int .i64 (cmp (cmp d2 1).1 0).1.room]) ∧ Bx wc B52 38 (cmp (cmp d2 1).1 0).2.1.va ∧ Bx wc B86 38 (cmp (sub (cmp (cmp d2 1).1 0).1 ⟨false, 1, 7, Ct.zero⟩).1 0).2.1.va ∧ Own wc (w33.heap.size) 28 8 (.slice Ap38 (cmp (cmp d2 1).1 0).1.cs.length cp38) (cmp (cmp d2 1).1 0).1.cs.length (flat Ct.va (cmp (cmp d2 1).1 0).1.cs) ∧ Own wc (w33.heap.size) 38 11 (.slice Aj38 (cmp (cmp d2 1).1 0).1.js.length cj38) (cmp (cmp d2 1).1 0).1.js.length (flat Jb.va (cmp (cmp d2 1).1 0).1.js) ∧ (L 0 = true → Sv ac 113 (.bool true)) ∧ (L 1 = true → Sv ac 114 (.bool false)) ∧ (L 2 = true → Sv ac 115 (.bool false)) ∧ (L 3 = true → Sv ac 116 (.int .i64 (fnd d2 0).2)) ∧ (L 4 = true → Sv ac 117 (.bool false)) ∧ (L 5 = true → Sv ac 118 (.bool false)) ∧ (L 6 = true → Sv ac 119 (.bool false)) ∧ (L 7 = true → Sv ac 120 (.int .i64 (fnd d2 0).1)) ∧ (L 8 = true → Sv ac 121 (.bool false)) ∧ (L 9 = true → Sv ac 122 (.bool false)) ∧ (L 10 = true → Sv ac 123 (.bool false)) ∧ (L 11 = true → Sv ac 124 (.int .i64 (cmp d2 1).2.2)) ∧ (L 12 = true → Sv ac 125 (.bool false)) ∧ (L 13 = true → Sv ac 126 (.bool false)) ∧ (L 14 = true → Sv ac 127 (.bool false)) ∧ (L 15 = true → Sv ac 128 (.int .i64 (cmp (cmp d2 1).1 0).2.2)) ∧ (L 16 = true → Sv ac 129 (.bool false)) ∧ (L 17 = true → Sv ac 130 (.bool false)) ∧ (L 18 = true → Sv ac 131 (.bool false)) ∧ (L 19 = true → Sv ac 132 (.pointer (some ⟨B52, 0, none⟩))) ∧ (L 20 = true → Sv ac 133 (.bool true)) ∧ (L 21 = true → Sv ac 134 (.bool false)) ∧ (L 22 = true → Sv ac 135 (.bool false)) ∧ (L 23 = true → Sv ac 136 (.bool false)) ∧ (L 24 = true → Sv ac 137 (.pointer (some ⟨B51, 0, none⟩))) ∧ (L 25 = true → Sv ac 138 (.slice Ap38 (cmp (cmp d2 1).1 0).1.cs.length cp38)) ∧ (L 26 = true → Sv ac 139 (.int .i64 ((cmp (cmp d2 1).1 0).1.cs.length : Int))) ∧ (L 27 = true → Sv ac 140 (.bool false)) ∧ (L 28 = true → Sv ac 141 (.bool false)) ∧ (L 29 = true → Sv ac 142 (.bool false)) ∧ (L 30 = true → Sv ac 143 (.pointer (some ⟨B51, 0, none⟩))) ∧ (L 31 = true → Sv ac 144 (.slice Ap38 (cmp (cmp d2 1).1 0).1.cs.length cp38)) ∧ (L 32 = true → Sv ac 145 (.pointer (some (adz.add (1 * 8))))) ∧ (L 33 = true → Sv ac 146 (.agg (wd 1).va)) ∧ (L 34 = true → Sv ac 147 (.agg (wd 1).va)) ∧ (L 35 = true → Sv ac 148 (.bool false)) ∧ (L 36 = true → Sv ac 149 (.bool false)) ∧ (L 37 = true → Sv ac 150 (.bool false)) ∧ (L 38 = true → Sv ac 151 (.int .i64 (sub (cmp (cmp d2 1).1 0).1 ⟨false, 1, 7, Ct.zero⟩).2)) ∧ (L 39 = true → Sv ac 152 (.bool false)) ∧ (L 40 = true → Sv ac 153 (.bool false)) ∧ (L 41 = true → Sv ac 154 (.bool false)) ∧ (L 42 = true → Sv ac 155 (.int .i64 (cmp (sub (cmp (cmp d2 1).1 0).1 ⟨false, 1, 7, Ct.zero⟩).1 0).2.2)) ∧ (L 43 = true → Sv ac 156 (.bool false)) ∧ (L 44 = true → Sv ac 157 (.bool false)) ∧ (L 45 = true → Sv ac 158 (.bool false)) ∧ (L 46 = true → Sv ac 159 (.agg (cmp (sub (cmp (cmp d2 1).1 0).1 ⟨false, 1, 7, Ct.zero⟩).1 0).2.1.va)) ∧ (L 47 = true → Sv ac 160 (.agg (wd 1).va)) ∧ (L 48 = true → Sv ac 161 (.agg (Jb.va ⟨false, 1, 7, (wd 1)⟩))) ∧ (L 49 = true → Sv ac 162 (.bool false)) ∧ (L 50 = true → Sv ac 163 (.bool false))) ⟨(Below.gN bl239_481 (gdr _) bl239_481.size), (Nat.le_refl _), (b239_B51_397.gN (gdr _)), (b239_B52_418.gN (gdr _)), (b239_B86_439.gN (gdr _)), (Own.gN p239_376 (gdr _)), (Own.gN p239_460 (gdr _)), (fun h => by cases h), (fun h => by cases h), (fun h => by cases h), (fun h => by cases h), (fun h => by cases h), (fun h => by cases h), (fun h => by cases h), (fun h => by cases h), (fun h => by cases h), (fun h => by cases h), (fun h => by cases h), (fun h => by cases h), (fun h => by cases h), (fun h => by cases h), (fun h => by cases h), (fun h => by cases h), (fun h => by cases h), (fun h => by cases h), (fun h => by cases h), (fun h => by cases h), (fun h => by cases h), (fun h => by cases h), (fun h => by cases h), (fun h => by cases h), (fun h => by cases h), (fun h => by cases h), (fun h => by cases h), (fun h => by cases h), (fun h => by cases h), (fun h => by cases h), (fun h => by cases h), (fun h => by cases h), (fun h => by cases h), (fun h => by cases h), (fun h => by cases h), (fun h => by cases h), (fun h => by cases h), (fun h => by cases h), (fun h => by cases h), (fun h => by cases h), (fun h => by cases h), (fun h => by cases h), (fun h => by cases h), (fun h => by cases h), (fun h => by cases h), (fun h => by cases h), (fun h => by cases h), (fun h => by cases h), (fun h => by cases h), (fun h => by cases h), (fun h => by cases h)⟩ ?_ ?_
    · intro iq hiq o ho L hL hdep ac wc hF hJ
      obtain ⟨bl, sz, b_B51, b_B52, b_B86, p_0, p_1, s_113, s_114, s_115, s_116, s_117, s_118, s_119, s_120, s_121, s_122, s_123, s_124, s_125, s_126, s_127, s_128, s_129, s_130, s_131, s_132, s_133, s_134, s_135, s_136, s_137, s_138, s_139, s_140, s_141, s_142, s_143, s_144, s_145, s_146, s_147, s_148, s_149, s_150, s_151, s_152, s_153, s_154, s_155, s_156, s_157, s_158, s_159, s_160, s_161, s_162, s_163⟩ := hJ
      have z := hF.1.trans hA355.1
      match iq, hiq with
      | 0, _ =>
        obtain rfl := Option.some.inj (show some _ = some o from ho); clear ho
        have v2 := hF.sv (s := 2) (by kernel_rfl) (hA355.get (i := 2) (v := .bool true))
        refine dj_val (i := 0) (v := .bool true) rfl (.inl rfl) (ev_move v2.eval _ rfl) ?_
        exact ⟨⟨_, rfl⟩, bl, sz, b_B51, b_B52, b_B86, p_0, p_1, (fun _ => Sv.self (by rw [z]; decide) _), (so s_114), (so s_115), (so s_116), (so s_117), (so s_118), (so s_119), (so s_120), (so s_121), (so s_122), (so s_123), (so s_124), (so s_125), (so s_126), (so s_127), (so s_128), (so s_129), (so s_130), (so s_131), (so s_132), (so s_133), (so s_134), (so s_135), (so s_136), (so s_137), (so s_138), (so s_139), (so s_140), (so s_141), (so s_142), (so s_143), (so s_144), (so s_145), (so s_146), (so s_147), (so s_148), (so s_149), (so s_150), (so s_151), (so s_152), (so s_153), (so s_154), (so s_155), (so s_156), (so s_157), (so s_158), (so s_159), (so s_160), (so s_161), (so s_162), (so s_163)⟩
      | 1, _ =>
        obtain rfl := Option.some.inj (show some _ = some o from ho); clear ho
        have v113 := s_113 (dp hdep 0)
        refine dj_val (i := 1) (v := .bool false) rfl (.inl rfl) (ev_notT v113.eval _ rfl) ?_
        exact ⟨⟨_, rfl⟩, bl, sz, b_B51, b_B52, b_B86, p_0, p_1, (so s_113), (fun _ => Sv.self (by rw [z]; decide) _), (so s_115), (so s_116), (so s_117), (so s_118), (so s_119), (so s_120), (so s_121), (so s_122), (so s_123), (so s_124), (so s_125), (so s_126), (so s_127), (so s_128), (so s_129), (so s_130), (so s_131), (so s_132), (so s_133), (so s_134), (so s_135), (so s_136), (so s_137), (so s_138), (so s_139), (so s_140), (so s_141), (so s_142), (so s_143), (so s_144), (so s_145), (so s_146), (so s_147), (so s_148), (so s_149), (so s_150), (so s_151), (so s_152), (so s_153), (so s_154), (so s_155), (so s_156), (so s_157), (so s_158), (so s_159), (so s_160), (so s_161), (so s_162), (so s_163)⟩
      | 2, _ =>
        obtain rfl := Option.some.inj (show some _ = some o from ho); clear ho
        have v114 := s_114 (dp hdep 1)
        refine dj_val (i := 2) (v := .bool false) rfl (.inl rfl) (ev_move v114.eval _ rfl) ?_
        exact ⟨⟨_, rfl⟩, bl, sz, b_B51, b_B52, b_B86, p_0, p_1, (so s_113), (so s_114), (fun _ => Sv.self (by rw [z]; decide) _), (so s_116), (so s_117), (so s_118), (so s_119), (so s_120), (so s_121), (so s_122), (so s_123), (so s_124), (so s_125), (so s_126), (so s_127), (so s_128), (so s_129), (so s_130), (so s_131), (so s_132), (so s_133), (so s_134), (so s_135), (so s_136), (so s_137), (so s_138), (so s_139), (so s_140), (so s_141), (so s_142), (so s_143), (so s_144), (so s_145), (so s_146), (so s_147), (so s_148), (so s_149), (so s_150), (so s_151), (so s_152), (so s_153), (so s_154), (so s_155), (so s_156), (so s_157), (so s_158), (so s_159), (so s_160), (so s_161), (so s_162), (so s_163)⟩
      | 3, _ =>
        obtain rfl := Option.some.inj (show some _ = some o from ho); clear ho
        have v115 := s_115 (dp hdep 2)
        have v4 := hF.sv (s := 4) (by kernel_rfl) (hA355.get (i := 4) (v := .int .i64 (fnd d2 0).2))
        refine dj_val (i := 3) (v := .int .i64 (fnd d2 0).2) rfl (.inr ⟨2, false, 115, rfl, by kernel_rfl, v115⟩) (ev_move v4.eval _ rfl) ?_
        exact ⟨⟨_, rfl⟩, bl, sz, b_B51, b_B52, b_B86, p_0, p_1, (so s_113), (so s_114), (so s_115), (fun _ => Sv.self (by rw [z]; decide) _), (so s_117), (so s_118), (so s_119), (so s_120), (so s_121), (so s_122), (so s_123), (so s_124), (so s_125), (so s_126), (so s_127), (so s_128), (so s_129), (so s_130), (so s_131), (so s_132), (so s_133), (so s_134), (so s_135), (so s_136), (so s_137), (so s_138), (so s_139), (so s_140), (so s_141), (so s_142), (so s_143), (so s_144), (so s_145), (so s_146), (so s_147), (so s_148), (so s_149), (so s_150), (so s_151), (so s_152), (so s_153), (so s_154), (so s_155), (so s_156), (so s_157), (so s_158), (so s_159), (so s_160), (so s_161), (so s_162), (so s_163)⟩
      | 4, _ =>
        obtain rfl := Option.some.inj (show some _ = some o from ho); clear ho
        have v115 := s_115 (dp hdep 2)
        have v116 := s_116 (dp hdep 3)
        refine dj_val (i := 4) (v := .bool false) rfl (.inr ⟨2, false, 115, rfl, by kernel_rfl, v115⟩) (ev_neqB (k := .i64) (m := (fnd d2 0).2) (n := 0) v116.eval (ec ac (.int .i64 0)) (by kernel_rfl) _ rfl) ?_
        exact ⟨⟨_, rfl⟩, bl, sz, b_B51, b_B52, b_B86, p_0, p_1, (so s_113), (so s_114), (so s_115), (so s_116), (fun _ => Sv.self (by rw [z]; decide) _), (so s_118), (so s_119), (so s_120), (so s_121), (so s_122), (so s_123), (so s_124), (so s_125), (so s_126), (so s_127), (so s_128), (so s_129), (so s_130), (so s_131), (so s_132), (so s_133), (so s_134), (so s_135), (so s_136), (so s_137), (so s_138), (so s_139), (so s_140), (so s_141), (so s_142), (so s_143), (so s_144), (so s_145), (so s_146), (so s_147), (so s_148), (so s_149), (so s_150), (so s_151), (so s_152), (so s_153), (so s_154), (so s_155), (so s_156), (so s_157), (so s_158), (so s_159), (so s_160), (so s_161), (so s_162), (so s_163)⟩
      | 5, _ =>
        obtain rfl := Option.some.inj (show some _ = some o from ho); clear ho
        have v115 := s_115 (dp hdep 2)
        have v117 := s_117 (dp hdep 4)
        refine dj_val (i := 5) (v := .bool false) rfl (.inl rfl) (ev_pickF v115.eval v117.eval _ rfl) ?_
        exact ⟨⟨_, rfl⟩, bl, sz, b_B51, b_B52, b_B86, p_0, p_1, (so s_113), (so s_114), (so s_115), (so s_116), (so s_117), (fun _ => Sv.self (by rw [z]; decide) _), (so s_119), (so s_120), (so s_121), (so s_122), (so s_123), (so s_124), (so s_125), (so s_126), (so s_127), (so s_128), (so s_129), (so s_130), (so s_131), (so s_132), (so s_133), (so s_134), (so s_135), (so s_136), (so s_137), (so s_138), (so s_139), (so s_140), (so s_141), (so s_142), (so s_143), (so s_144), (so s_145), (so s_146), (so s_147), (so s_148), (so s_149), (so s_150), (so s_151), (so s_152), (so s_153), (so s_154), (so s_155), (so s_156), (so s_157), (so s_158), (so s_159), (so s_160), (so s_161), (so s_162), (so s_163)⟩
      | 6, _ =>
        obtain rfl := Option.some.inj (show some _ = some o from ho); clear ho
        have v118 := s_118 (dp hdep 5)
        refine dj_val (i := 6) (v := .bool false) rfl (.inl rfl) (ev_move v118.eval _ rfl) ?_
        exact ⟨⟨_, rfl⟩, bl, sz, b_B51, b_B52, b_B86, p_0, p_1, (so s_113), (so s_114), (so s_115), (so s_116), (so s_117), (so s_118), (fun _ => Sv.self (by rw [z]; decide) _), (so s_120), (so s_121), (so s_122), (so s_123), (so s_124), (so s_125), (so s_126), (so s_127), (so s_128), (so s_129), (so s_130), (so s_131), (so s_132), (so s_133), (so s_134), (so s_135), (so s_136), (so s_137), (so s_138), (so s_139), (so s_140), (so s_141), (so s_142), (so s_143), (so s_144), (so s_145), (so s_146), (so s_147), (so s_148), (so s_149), (so s_150), (so s_151), (so s_152), (so s_153), (so s_154), (so s_155), (so s_156), (so s_157), (so s_158), (so s_159), (so s_160), (so s_161), (so s_162), (so s_163)⟩
      | 7, _ =>
        obtain rfl := Option.some.inj (show some _ = some o from ho); clear ho
        have v119 := s_119 (dp hdep 6)
        have v3 := hF.sv (s := 3) (by kernel_rfl) (hA355.get (i := 3) (v := .int .i64 (fnd d2 0).1))
        refine dj_val (i := 7) (v := .int .i64 (fnd d2 0).1) rfl (.inr ⟨6, false, 119, rfl, by kernel_rfl, v119⟩) (ev_move v3.eval _ rfl) ?_
        exact ⟨⟨_, rfl⟩, bl, sz, b_B51, b_B52, b_B86, p_0, p_1, (so s_113), (so s_114), (so s_115), (so s_116), (so s_117), (so s_118), (so s_119), (fun _ => Sv.self (by rw [z]; decide) _), (so s_121), (so s_122), (so s_123), (so s_124), (so s_125), (so s_126), (so s_127), (so s_128), (so s_129), (so s_130), (so s_131), (so s_132), (so s_133), (so s_134), (so s_135), (so s_136), (so s_137), (so s_138), (so s_139), (so s_140), (so s_141), (so s_142), (so s_143), (so s_144), (so s_145), (so s_146), (so s_147), (so s_148), (so s_149), (so s_150), (so s_151), (so s_152), (so s_153), (so s_154), (so s_155), (so s_156), (so s_157), (so s_158), (so s_159), (so s_160), (so s_161), (so s_162), (so s_163)⟩
      | 8, _ =>
        obtain rfl := Option.some.inj (show some _ = some o from ho); clear ho
        have v119 := s_119 (dp hdep 6)
        have v120 := s_120 (dp hdep 7)
        refine dj_val (i := 8) (v := .bool false) rfl (.inr ⟨6, false, 119, rfl, by kernel_rfl, v119⟩) (ev_neqB (k := .i64) (m := (fnd d2 0).1) (n := 1) v120.eval (ec ac (.int .i64 1)) (by kernel_rfl) _ rfl) ?_
        exact ⟨⟨_, rfl⟩, bl, sz, b_B51, b_B52, b_B86, p_0, p_1, (so s_113), (so s_114), (so s_115), (so s_116), (so s_117), (so s_118), (so s_119), (so s_120), (fun _ => Sv.self (by rw [z]; decide) _), (so s_122), (so s_123), (so s_124), (so s_125), (so s_126), (so s_127), (so s_128), (so s_129), (so s_130), (so s_131), (so s_132), (so s_133), (so s_134), (so s_135), (so s_136), (so s_137), (so s_138), (so s_139), (so s_140), (so s_141), (so s_142), (so s_143), (so s_144), (so s_145), (so s_146), (so s_147), (so s_148), (so s_149), (so s_150), (so s_151), (so s_152), (so s_153), (so s_154), (so s_155), (so s_156), (so s_157), (so s_158), (so s_159), (so s_160), (so s_161), (so s_162), (so s_163)⟩
      | 9, _ =>
        obtain rfl := Option.some.inj (show some _ = some o from ho); clear ho
        have v119 := s_119 (dp hdep 6)
        have v121 := s_121 (dp hdep 8)
        refine dj_val (i := 9) (v := .bool false) rfl (.inl rfl) (ev_pickF v119.eval v121.eval _ rfl) ?_
        exact ⟨⟨_, rfl⟩, bl, sz, b_B51, b_B52, b_B86, p_0, p_1, (so s_113), (so s_114), (so s_115), (so s_116), (so s_117), (so s_118), (so s_119), (so s_120), (so s_121), (fun _ => Sv.self (by rw [z]; decide) _), (so s_123), (so s_124), (so s_125), (so s_126), (so s_127), (so s_128), (so s_129), (so s_130), (so s_131), (so s_132), (so s_133), (so s_134), (so s_135), (so s_136), (so s_137), (so s_138), (so s_139), (so s_140), (so s_141), (so s_142), (so s_143), (so s_144), (so s_145), (so s_146), (so s_147), (so s_148), (so s_149), (so s_150), (so s_151), (so s_152), (so s_153), (so s_154), (so s_155), (so s_156), (so s_157), (so s_158), (so s_159), (so s_160), (so s_161), (so s_162), (so s_163)⟩
      | 10, _ =>
        obtain rfl := Option.some.inj (show some _ = some o from ho); clear ho
        have v122 := s_122 (dp hdep 9)
        refine dj_val (i := 10) (v := .bool false) rfl (.inl rfl) (ev_move v122.eval _ rfl) ?_
        exact ⟨⟨_, rfl⟩, bl, sz, b_B51, b_B52, b_B86, p_0, p_1, (so s_113), (so s_114), (so s_115), (so s_116), (so s_117), (so s_118), (so s_119), (so s_120), (so s_121), (so s_122), (fun _ => Sv.self (by rw [z]; decide) _), (so s_124), (so s_125), (so s_126), (so s_127), (so s_128), (so s_129), (so s_130), (so s_131), (so s_132), (so s_133), (so s_134), (so s_135), (so s_136), (so s_137), (so s_138), (so s_139), (so s_140), (so s_141), (so s_142), (so s_143), (so s_144), (so s_145), (so s_146), (so s_147), (so s_148), (so s_149), (so s_150), (so s_151), (so s_152), (so s_153), (so s_154), (so s_155), (so s_156), (so s_157), (so s_158), (so s_159), (so s_160), (so s_161), (so s_162), (so s_163)⟩
      | 11, _ =>
        obtain rfl := Option.some.inj (show some _ = some o from ho); clear ho
        have v123 := s_123 (dp hdep 10)
        have v7 := hF.sv (s := 7) (by kernel_rfl) (hA355.get (i := 7) (v := .int .i64 (cmp d2 1).2.2))
        refine dj_val (i := 11) (v := .int .i64 (cmp d2 1).2.2) rfl (.inr ⟨10, false, 123, rfl, by kernel_rfl, v123⟩) (ev_move v7.eval _ rfl) ?_
        exact ⟨⟨_, rfl⟩, bl, sz, b_B51, b_B52, b_B86, p_0, p_1, (so s_113), (so s_114), (so s_115), (so s_116), (so s_117), (so s_118), (so s_119), (so s_120), (so s_121), (so s_122), (so s_123), (fun _ => Sv.self (by rw [z]; decide) _), (so s_125), (so s_126), (so s_127), (so s_128), (so s_129), (so s_130), (so s_131), (so s_132), (so s_133), (so s_134), (so s_135), (so s_136), (so s_137), (so s_138), (so s_139), (so s_140), (so s_141), (so s_142), (so s_143), (so s_144), (so s_145), (so s_146), (so s_147), (so s_148), (so s_149), (so s_150), (so s_151), (so s_152), (so s_153), (so s_154), (so s_155), (so s_156), (so s_157), (so s_158), (so s_159), (so s_160), (so s_161), (so s_162), (so s_163)⟩
      | 12, _ =>
        obtain rfl := Option.some.inj (show some _ = some o from ho); clear ho
        have v123 := s_123 (dp hdep 10)
        have v124 := s_124 (dp hdep 11)
        refine dj_val (i := 12) (v := .bool false) rfl (.inr ⟨10, false, 123, rfl, by kernel_rfl, v123⟩) (ev_neqB (k := .i64) (m := (cmp d2 1).2.2) (n := 0) v124.eval (ec ac (.int .i64 0)) (by kernel_rfl) _ rfl) ?_
        exact ⟨⟨_, rfl⟩, bl, sz, b_B51, b_B52, b_B86, p_0, p_1, (so s_113), (so s_114), (so s_115), (so s_116), (so s_117), (so s_118), (so s_119), (so s_120), (so s_121), (so s_122), (so s_123), (so s_124), (fun _ => Sv.self (by rw [z]; decide) _), (so s_126), (so s_127), (so s_128), (so s_129), (so s_130), (so s_131), (so s_132), (so s_133), (so s_134), (so s_135), (so s_136), (so s_137), (so s_138), (so s_139), (so s_140), (so s_141), (so s_142), (so s_143), (so s_144), (so s_145), (so s_146), (so s_147), (so s_148), (so s_149), (so s_150), (so s_151), (so s_152), (so s_153), (so s_154), (so s_155), (so s_156), (so s_157), (so s_158), (so s_159), (so s_160), (so s_161), (so s_162), (so s_163)⟩
      | 13, _ =>
        obtain rfl := Option.some.inj (show some _ = some o from ho); clear ho
        have v123 := s_123 (dp hdep 10)
        have v125 := s_125 (dp hdep 12)
        refine dj_val (i := 13) (v := .bool false) rfl (.inl rfl) (ev_pickF v123.eval v125.eval _ rfl) ?_
        exact ⟨⟨_, rfl⟩, bl, sz, b_B51, b_B52, b_B86, p_0, p_1, (so s_113), (so s_114), (so s_115), (so s_116), (so s_117), (so s_118), (so s_119), (so s_120), (so s_121), (so s_122), (so s_123), (so s_124), (so s_125), (fun _ => Sv.self (by rw [z]; decide) _), (so s_127), (so s_128), (so s_129), (so s_130), (so s_131), (so s_132), (so s_133), (so s_134), (so s_135), (so s_136), (so s_137), (so s_138), (so s_139), (so s_140), (so s_141), (so s_142), (so s_143), (so s_144), (so s_145), (so s_146), (so s_147), (so s_148), (so s_149), (so s_150), (so s_151), (so s_152), (so s_153), (so s_154), (so s_155), (so s_156), (so s_157), (so s_158), (so s_159), (so s_160), (so s_161), (so s_162), (so s_163)⟩
      | 14, _ =>
        obtain rfl := Option.some.inj (show some _ = some o from ho); clear ho
        have v126 := s_126 (dp hdep 13)
        refine dj_val (i := 14) (v := .bool false) rfl (.inl rfl) (ev_move v126.eval _ rfl) ?_
        exact ⟨⟨_, rfl⟩, bl, sz, b_B51, b_B52, b_B86, p_0, p_1, (so s_113), (so s_114), (so s_115), (so s_116), (so s_117), (so s_118), (so s_119), (so s_120), (so s_121), (so s_122), (so s_123), (so s_124), (so s_125), (so s_126), (fun _ => Sv.self (by rw [z]; decide) _), (so s_128), (so s_129), (so s_130), (so s_131), (so s_132), (so s_133), (so s_134), (so s_135), (so s_136), (so s_137), (so s_138), (so s_139), (so s_140), (so s_141), (so s_142), (so s_143), (so s_144), (so s_145), (so s_146), (so s_147), (so s_148), (so s_149), (so s_150), (so s_151), (so s_152), (so s_153), (so s_154), (so s_155), (so s_156), (so s_157), (so s_158), (so s_159), (so s_160), (so s_161), (so s_162), (so s_163)⟩
      | 15, _ =>
        obtain rfl := Option.some.inj (show some _ = some o from ho); clear ho
        have v127 := s_127 (dp hdep 14)
        have v10 := hF.sv (s := 10) (by kernel_rfl) (hA355.get (i := 10) (v := .int .i64 (cmp (cmp d2 1).1 0).2.2))
        refine dj_val (i := 15) (v := .int .i64 (cmp (cmp d2 1).1 0).2.2) rfl (.inr ⟨14, false, 127, rfl, by kernel_rfl, v127⟩) (ev_move v10.eval _ rfl) ?_
        exact ⟨⟨_, rfl⟩, bl, sz, b_B51, b_B52, b_B86, p_0, p_1, (so s_113), (so s_114), (so s_115), (so s_116), (so s_117), (so s_118), (so s_119), (so s_120), (so s_121), (so s_122), (so s_123), (so s_124), (so s_125), (so s_126), (so s_127), (fun _ => Sv.self (by rw [z]; decide) _), (so s_129), (so s_130), (so s_131), (so s_132), (so s_133), (so s_134), (so s_135), (so s_136), (so s_137), (so s_138), (so s_139), (so s_140), (so s_141), (so s_142), (so s_143), (so s_144), (so s_145), (so s_146), (so s_147), (so s_148), (so s_149), (so s_150), (so s_151), (so s_152), (so s_153), (so s_154), (so s_155), (so s_156), (so s_157), (so s_158), (so s_159), (so s_160), (so s_161), (so s_162), (so s_163)⟩
      | 16, _ =>
        obtain rfl := Option.some.inj (show some _ = some o from ho); clear ho
        have v127 := s_127 (dp hdep 14)
        have v128 := s_128 (dp hdep 15)
        refine dj_val (i := 16) (v := .bool false) rfl (.inr ⟨14, false, 127, rfl, by kernel_rfl, v127⟩) (ev_neqB (k := .i64) (m := (cmp (cmp d2 1).1 0).2.2) (n := 0) v128.eval (ec ac (.int .i64 0)) (by kernel_rfl) _ rfl) ?_
        exact ⟨⟨_, rfl⟩, bl, sz, b_B51, b_B52, b_B86, p_0, p_1, (so s_113), (so s_114), (so s_115), (so s_116), (so s_117), (so s_118), (so s_119), (so s_120), (so s_121), (so s_122), (so s_123), (so s_124), (so s_125), (so s_126), (so s_127), (so s_128), (fun _ => Sv.self (by rw [z]; decide) _), (so s_130), (so s_131), (so s_132), (so s_133), (so s_134), (so s_135), (so s_136), (so s_137), (so s_138), (so s_139), (so s_140), (so s_141), (so s_142), (so s_143), (so s_144), (so s_145), (so s_146), (so s_147), (so s_148), (so s_149), (so s_150), (so s_151), (so s_152), (so s_153), (so s_154), (so s_155), (so s_156), (so s_157), (so s_158), (so s_159), (so s_160), (so s_161), (so s_162), (so s_163)⟩
      | 17, _ =>
        obtain rfl := Option.some.inj (show some _ = some o from ho); clear ho
        have v127 := s_127 (dp hdep 14)
        have v129 := s_129 (dp hdep 16)
        refine dj_val (i := 17) (v := .bool false) rfl (.inl rfl) (ev_pickF v127.eval v129.eval _ rfl) ?_
        exact ⟨⟨_, rfl⟩, bl, sz, b_B51, b_B52, b_B86, p_0, p_1, (so s_113), (so s_114), (so s_115), (so s_116), (so s_117), (so s_118), (so s_119), (so s_120), (so s_121), (so s_122), (so s_123), (so s_124), (so s_125), (so s_126), (so s_127), (so s_128), (so s_129), (fun _ => Sv.self (by rw [z]; decide) _), (so s_131), (so s_132), (so s_133), (so s_134), (so s_135), (so s_136), (so s_137), (so s_138), (so s_139), (so s_140), (so s_141), (so s_142), (so s_143), (so s_144), (so s_145), (so s_146), (so s_147), (so s_148), (so s_149), (so s_150), (so s_151), (so s_152), (so s_153), (so s_154), (so s_155), (so s_156), (so s_157), (so s_158), (so s_159), (so s_160), (so s_161), (so s_162), (so s_163)⟩
      | 18, _ =>
        obtain rfl := Option.some.inj (show some _ = some o from ho); clear ho
        have v130 := s_130 (dp hdep 17)
        refine dj_val (i := 18) (v := .bool false) rfl (.inl rfl) (ev_move v130.eval _ rfl) ?_
        exact ⟨⟨_, rfl⟩, bl, sz, b_B51, b_B52, b_B86, p_0, p_1, (so s_113), (so s_114), (so s_115), (so s_116), (so s_117), (so s_118), (so s_119), (so s_120), (so s_121), (so s_122), (so s_123), (so s_124), (so s_125), (so s_126), (so s_127), (so s_128), (so s_129), (so s_130), (fun _ => Sv.self (by rw [z]; decide) _), (so s_132), (so s_133), (so s_134), (so s_135), (so s_136), (so s_137), (so s_138), (so s_139), (so s_140), (so s_141), (so s_142), (so s_143), (so s_144), (so s_145), (so s_146), (so s_147), (so s_148), (so s_149), (so s_150), (so s_151), (so s_152), (so s_153), (so s_154), (so s_155), (so s_156), (so s_157), (so s_158), (so s_159), (so s_160), (so s_161), (so s_162), (so s_163)⟩
      | 19, _ =>
        obtain rfl := Option.some.inj (show some _ = some o from ho); clear ho
        have v131 := s_131 (dp hdep 18)
        have v9 := hF.sv (s := 9) (by kernel_rfl) (hA355.get (i := 9) (v := .pointer (some ⟨B52, 0, none⟩)))
        refine dj_val (i := 19) (v := .pointer (some ⟨B52, 0, none⟩)) rfl (.inr ⟨18, false, 131, rfl, by kernel_rfl, v131⟩) (fb_Job_0 v9.eval _ rfl) ?_
        exact ⟨⟨_, rfl⟩, bl, sz, b_B51, b_B52, b_B86, p_0, p_1, (so s_113), (so s_114), (so s_115), (so s_116), (so s_117), (so s_118), (so s_119), (so s_120), (so s_121), (so s_122), (so s_123), (so s_124), (so s_125), (so s_126), (so s_127), (so s_128), (so s_129), (so s_130), (so s_131), (fun _ => Sv.self (by rw [z]; decide) _), (so s_133), (so s_134), (so s_135), (so s_136), (so s_137), (so s_138), (so s_139), (so s_140), (so s_141), (so s_142), (so s_143), (so s_144), (so s_145), (so s_146), (so s_147), (so s_148), (so s_149), (so s_150), (so s_151), (so s_152), (so s_153), (so s_154), (so s_155), (so s_156), (so s_157), (so s_158), (so s_159), (so s_160), (so s_161), (so s_162), (so s_163)⟩
      | 20, _ =>
        obtain rfl := Option.some.inj (show some _ = some o from ho); clear ho
        have v131 := s_131 (dp hdep 18)
        have v132 := s_132 (dp hdep 19)
        refine dj_val (i := 20) (v := .bool true) rfl (.inr ⟨18, false, 131, rfl, by kernel_rfl, v131⟩) (ev_cell (v := .bool true) v132.eval ((b_B52.cell 0).trans (by kernel_rfl)) Try.underlying4 rfl _ rfl) ?_
        exact ⟨⟨_, rfl⟩, bl, sz, b_B51, b_B52, b_B86, p_0, p_1, (so s_113), (so s_114), (so s_115), (so s_116), (so s_117), (so s_118), (so s_119), (so s_120), (so s_121), (so s_122), (so s_123), (so s_124), (so s_125), (so s_126), (so s_127), (so s_128), (so s_129), (so s_130), (so s_131), (so s_132), (fun _ => Sv.self (by rw [z]; decide) _), (so s_134), (so s_135), (so s_136), (so s_137), (so s_138), (so s_139), (so s_140), (so s_141), (so s_142), (so s_143), (so s_144), (so s_145), (so s_146), (so s_147), (so s_148), (so s_149), (so s_150), (so s_151), (so s_152), (so s_153), (so s_154), (so s_155), (so s_156), (so s_157), (so s_158), (so s_159), (so s_160), (so s_161), (so s_162), (so s_163)⟩
      | 21, _ =>
        obtain rfl := Option.some.inj (show some _ = some o from ho); clear ho
        have v131 := s_131 (dp hdep 18)
        have v133 := s_133 (dp hdep 20)
        refine dj_val (i := 21) (v := .bool false) rfl (.inr ⟨18, false, 131, rfl, by kernel_rfl, v131⟩) (ev_notT v133.eval _ rfl) ?_
        exact ⟨⟨_, rfl⟩, bl, sz, b_B51, b_B52, b_B86, p_0, p_1, (so s_113), (so s_114), (so s_115), (so s_116), (so s_117), (so s_118), (so s_119), (so s_120), (so s_121), (so s_122), (so s_123), (so s_124), (so s_125), (so s_126), (so s_127), (so s_128), (so s_129), (so s_130), (so s_131), (so s_132), (so s_133), (fun _ => Sv.self (by rw [z]; decide) _), (so s_135), (so s_136), (so s_137), (so s_138), (so s_139), (so s_140), (so s_141), (so s_142), (so s_143), (so s_144), (so s_145), (so s_146), (so s_147), (so s_148), (so s_149), (so s_150), (so s_151), (so s_152), (so s_153), (so s_154), (so s_155), (so s_156), (so s_157), (so s_158), (so s_159), (so s_160), (so s_161), (so s_162), (so s_163)⟩
      | 22, _ =>
        obtain rfl := Option.some.inj (show some _ = some o from ho); clear ho
        have v131 := s_131 (dp hdep 18)
        have v134 := s_134 (dp hdep 21)
        refine dj_val (i := 22) (v := .bool false) rfl (.inl rfl) (ev_pickF v131.eval v134.eval _ rfl) ?_
        exact ⟨⟨_, rfl⟩, bl, sz, b_B51, b_B52, b_B86, p_0, p_1, (so s_113), (so s_114), (so s_115), (so s_116), (so s_117), (so s_118), (so s_119), (so s_120), (so s_121), (so s_122), (so s_123), (so s_124), (so s_125), (so s_126), (so s_127), (so s_128), (so s_129), (so s_130), (so s_131), (so s_132), (so s_133), (so s_134), (fun _ => Sv.self (by rw [z]; decide) _), (so s_136), (so s_137), (so s_138), (so s_139), (so s_140), (so s_141), (so s_142), (so s_143), (so s_144), (so s_145), (so s_146), (so s_147), (so s_148), (so s_149), (so s_150), (so s_151), (so s_152), (so s_153), (so s_154), (so s_155), (so s_156), (so s_157), (so s_158), (so s_159), (so s_160), (so s_161), (so s_162), (so s_163)⟩
      | 23, _ =>
        obtain rfl := Option.some.inj (show some _ = some o from ho); clear ho
        have v135 := s_135 (dp hdep 22)
        refine dj_val (i := 23) (v := .bool false) rfl (.inl rfl) (ev_move v135.eval _ rfl) ?_
        exact ⟨⟨_, rfl⟩, bl, sz, b_B51, b_B52, b_B86, p_0, p_1, (so s_113), (so s_114), (so s_115), (so s_116), (so s_117), (so s_118), (so s_119), (so s_120), (so s_121), (so s_122), (so s_123), (so s_124), (so s_125), (so s_126), (so s_127), (so s_128), (so s_129), (so s_130), (so s_131), (so s_132), (so s_133), (so s_134), (so s_135), (fun _ => Sv.self (by rw [z]; decide) _), (so s_137), (so s_138), (so s_139), (so s_140), (so s_141), (so s_142), (so s_143), (so s_144), (so s_145), (so s_146), (so s_147), (so s_148), (so s_149), (so s_150), (so s_151), (so s_152), (so s_153), (so s_154), (so s_155), (so s_156), (so s_157), (so s_158), (so s_159), (so s_160), (so s_161), (so s_162), (so s_163)⟩
      | 24, _ =>
        obtain rfl := Option.some.inj (show some _ = some o from ho); clear ho
        have v136 := s_136 (dp hdep 23)
        have v8 := hF.sv (s := 8) (by kernel_rfl) (hA355.get (i := 8) (v := .pointer (some ⟨B51, 0, none⟩)))
        refine dj_val (i := 24) (v := .pointer (some ⟨B51, 0, none⟩)) rfl (.inr ⟨23, false, 136, rfl, by kernel_rfl, v136⟩) (fb_Disk_0 v8.eval _ rfl) ?_
        exact ⟨⟨_, rfl⟩, bl, sz, b_B51, b_B52, b_B86, p_0, p_1, (so s_113), (so s_114), (so s_115), (so s_116), (so s_117), (so s_118), (so s_119), (so s_120), (so s_121), (so s_122), (so s_123), (so s_124), (so s_125), (so s_126), (so s_127), (so s_128), (so s_129), (so s_130), (so s_131), (so s_132), (so s_133), (so s_134), (so s_135), (so s_136), (fun _ => Sv.self (by rw [z]; decide) _), (so s_138), (so s_139), (so s_140), (so s_141), (so s_142), (so s_143), (so s_144), (so s_145), (so s_146), (so s_147), (so s_148), (so s_149), (so s_150), (so s_151), (so s_152), (so s_153), (so s_154), (so s_155), (so s_156), (so s_157), (so s_158), (so s_159), (so s_160), (so s_161), (so s_162), (so s_163)⟩
      | 25, _ =>
        obtain rfl := Option.some.inj (show some _ = some o from ho); clear ho
        have v136 := s_136 (dp hdep 23)
        have v137 := s_137 (dp hdep 24)
        refine dj_val (i := 25) (v := .slice Ap38 (cmp (cmp d2 1).1 0).1.cs.length cp38) rfl (.inr ⟨23, false, 136, rfl, by kernel_rfl, v136⟩) (ev_cell (v := .slice Ap38 (cmp (cmp d2 1).1 0).1.cs.length cp38) v137.eval ((b_B51.cell 0).trans rfl) Try.underlying22 rfl _ rfl) ?_
        exact ⟨⟨_, rfl⟩, bl, sz, b_B51, b_B52, b_B86, p_0, p_1, (so s_113), (so s_114), (so s_115), (so s_116), (so s_117), (so s_118), (so s_119), (so s_120), (so s_121), (so s_122), (so s_123), (so s_124), (so s_125), (so s_126), (so s_127), (so s_128), (so s_129), (so s_130), (so s_131), (so s_132), (so s_133), (so s_134), (so s_135), (so s_136), (so s_137), (fun _ => Sv.self (by rw [z]; decide) _), (so s_139), (so s_140), (so s_141), (so s_142), (so s_143), (so s_144), (so s_145), (so s_146), (so s_147), (so s_148), (so s_149), (so s_150), (so s_151), (so s_152), (so s_153), (so s_154), (so s_155), (so s_156), (so s_157), (so s_158), (so s_159), (so s_160), (so s_161), (so s_162), (so s_163)⟩
      | 26, _ =>
        obtain rfl := Option.some.inj (show some _ = some o from ho); clear ho
        have v136 := s_136 (dp hdep 23)
        have v138 := s_138 (dp hdep 25)
        refine dj_val (i := 26) (v := .int .i64 ((cmp (cmp d2 1).1 0).1.cs.length : Int)) rfl (.inr ⟨23, false, 136, rfl, by kernel_rfl, v136⟩) (ev_len v138.eval Try.underlying22 _ rfl) ?_
        exact ⟨⟨_, rfl⟩, bl, sz, b_B51, b_B52, b_B86, p_0, p_1, (so s_113), (so s_114), (so s_115), (so s_116), (so s_117), (so s_118), (so s_119), (so s_120), (so s_121), (so s_122), (so s_123), (so s_124), (so s_125), (so s_126), (so s_127), (so s_128), (so s_129), (so s_130), (so s_131), (so s_132), (so s_133), (so s_134), (so s_135), (so s_136), (so s_137), (so s_138), (fun _ => Sv.self (by rw [z]; decide) _), (so s_140), (so s_141), (so s_142), (so s_143), (so s_144), (so s_145), (so s_146), (so s_147), (so s_148), (so s_149), (so s_150), (so s_151), (so s_152), (so s_153), (so s_154), (so s_155), (so s_156), (so s_157), (so s_158), (so s_159), (so s_160), (so s_161), (so s_162), (so s_163)⟩
      | 27, _ =>
        obtain rfl := Option.some.inj (show some _ = some o from ho); clear ho
        have v136 := s_136 (dp hdep 23)
        have v139 := s_139 (dp hdep 26)
        refine dj_val (i := 27) (v := .bool false) rfl (.inr ⟨23, false, 136, rfl, by kernel_rfl, v136⟩) (ev_neqB (k := .i64) (m := ((cmp (cmp d2 1).1 0).1.cs.length : Int)) (n := 2) v139.eval (ec ac (.int .i64 2)) (by kernel_rfl) _ rfl) ?_
        exact ⟨⟨_, rfl⟩, bl, sz, b_B51, b_B52, b_B86, p_0, p_1, (so s_113), (so s_114), (so s_115), (so s_116), (so s_117), (so s_118), (so s_119), (so s_120), (so s_121), (so s_122), (so s_123), (so s_124), (so s_125), (so s_126), (so s_127), (so s_128), (so s_129), (so s_130), (so s_131), (so s_132), (so s_133), (so s_134), (so s_135), (so s_136), (so s_137), (so s_138), (so s_139), (fun _ => Sv.self (by rw [z]; decide) _), (so s_141), (so s_142), (so s_143), (so s_144), (so s_145), (so s_146), (so s_147), (so s_148), (so s_149), (so s_150), (so s_151), (so s_152), (so s_153), (so s_154), (so s_155), (so s_156), (so s_157), (so s_158), (so s_159), (so s_160), (so s_161), (so s_162), (so s_163)⟩
      | 28, _ =>
        obtain rfl := Option.some.inj (show some _ = some o from ho); clear ho
        have v136 := s_136 (dp hdep 23)
        have v140 := s_140 (dp hdep 27)
        refine dj_val (i := 28) (v := .bool false) rfl (.inl rfl) (ev_pickF v136.eval v140.eval _ rfl) ?_
        exact ⟨⟨_, rfl⟩, bl, sz, b_B51, b_B52, b_B86, p_0, p_1, (so s_113), (so s_114), (so s_115), (so s_116), (so s_117), (so s_118), (so s_119), (so s_120), (so s_121), (so s_122), (so s_123), (so s_124), (so s_125), (so s_126), (so s_127), (so s_128), (so s_129), (so s_130), (so s_131), (so s_132), (so s_133), (so s_134), (so s_135), (so s_136), (so s_137), (so s_138), (so s_139), (so s_140), (fun _ => Sv.self (by rw [z]; decide) _), (so s_142), (so s_143), (so s_144), (so s_145), (so s_146), (so s_147), (so s_148), (so s_149), (so s_150), (so s_151), (so s_152), (so s_153), (so s_154), (so s_155), (so s_156), (so s_157), (so s_158), (so s_159), (so s_160), (so s_161), (so s_162), (so s_163)⟩
      | 29, _ =>
        obtain rfl := Option.some.inj (show some _ = some o from ho); clear ho
        have v141 := s_141 (dp hdep 28)
        refine dj_val (i := 29) (v := .bool false) rfl (.inl rfl) (ev_move v141.eval _ rfl) ?_
        exact ⟨⟨_, rfl⟩, bl, sz, b_B51, b_B52, b_B86, p_0, p_1, (so s_113), (so s_114), (so s_115), (so s_116), (so s_117), (so s_118), (so s_119), (so s_120), (so s_121), (so s_122), (so s_123), (so s_124), (so s_125), (so s_126), (so s_127), (so s_128), (so s_129), (so s_130), (so s_131), (so s_132), (so s_133), (so s_134), (so s_135), (so s_136), (so s_137), (so s_138), (so s_139), (so s_140), (so s_141), (fun _ => Sv.self (by rw [z]; decide) _), (so s_143), (so s_144), (so s_145), (so s_146), (so s_147), (so s_148), (so s_149), (so s_150), (so s_151), (so s_152), (so s_153), (so s_154), (so s_155), (so s_156), (so s_157), (so s_158), (so s_159), (so s_160), (so s_161), (so s_162), (so s_163)⟩
      | 30, _ =>
        obtain rfl := Option.some.inj (show some _ = some o from ho); clear ho
        have v142 := s_142 (dp hdep 29)
        have v8 := hF.sv (s := 8) (by kernel_rfl) (hA355.get (i := 8) (v := .pointer (some ⟨B51, 0, none⟩)))
        refine dj_val (i := 30) (v := .pointer (some ⟨B51, 0, none⟩)) rfl (.inr ⟨29, false, 142, rfl, by kernel_rfl, v142⟩) (fb_Disk_0 v8.eval _ rfl) ?_
        exact ⟨⟨_, rfl⟩, bl, sz, b_B51, b_B52, b_B86, p_0, p_1, (so s_113), (so s_114), (so s_115), (so s_116), (so s_117), (so s_118), (so s_119), (so s_120), (so s_121), (so s_122), (so s_123), (so s_124), (so s_125), (so s_126), (so s_127), (so s_128), (so s_129), (so s_130), (so s_131), (so s_132), (so s_133), (so s_134), (so s_135), (so s_136), (so s_137), (so s_138), (so s_139), (so s_140), (so s_141), (so s_142), (fun _ => Sv.self (by rw [z]; decide) _), (so s_144), (so s_145), (so s_146), (so s_147), (so s_148), (so s_149), (so s_150), (so s_151), (so s_152), (so s_153), (so s_154), (so s_155), (so s_156), (so s_157), (so s_158), (so s_159), (so s_160), (so s_161), (so s_162), (so s_163)⟩
      | 31, _ =>
        obtain rfl := Option.some.inj (show some _ = some o from ho); clear ho
        have v142 := s_142 (dp hdep 29)
        have v143 := s_143 (dp hdep 30)
        refine dj_val (i := 31) (v := .slice Ap38 (cmp (cmp d2 1).1 0).1.cs.length cp38) rfl (.inr ⟨29, false, 142, rfl, by kernel_rfl, v142⟩) (ev_cell (v := .slice Ap38 (cmp (cmp d2 1).1 0).1.cs.length cp38) v143.eval ((b_B51.cell 0).trans rfl) Try.underlying22 rfl _ rfl) ?_
        exact ⟨⟨_, rfl⟩, bl, sz, b_B51, b_B52, b_B86, p_0, p_1, (so s_113), (so s_114), (so s_115), (so s_116), (so s_117), (so s_118), (so s_119), (so s_120), (so s_121), (so s_122), (so s_123), (so s_124), (so s_125), (so s_126), (so s_127), (so s_128), (so s_129), (so s_130), (so s_131), (so s_132), (so s_133), (so s_134), (so s_135), (so s_136), (so s_137), (so s_138), (so s_139), (so s_140), (so s_141), (so s_142), (so s_143), (fun _ => Sv.self (by rw [z]; decide) _), (so s_145), (so s_146), (so s_147), (so s_148), (so s_149), (so s_150), (so s_151), (so s_152), (so s_153), (so s_154), (so s_155), (so s_156), (so s_157), (so s_158), (so s_159), (so s_160), (so s_161), (so s_162), (so s_163)⟩
      | 32, _ =>
        obtain rfl := Option.some.inj (show some _ = some o from ho); clear ho
        have v142 := s_142 (dp hdep 29)
        have v144 := s_144 (dp hdep 31)
        refine dj_val (i := 32) (v := .pointer (some (adz.add (1 * 8)))) rfl (.inr ⟨29, false, 142, rfl, by kernel_rfl, v142⟩) (ev_idx (k := 1) v144.eval hAdz (ec ac (.int .i64 1)) rfl (by decide) Try.underlying22 (by kernel_rfl) _ rfl) ?_
        exact ⟨⟨_, rfl⟩, bl, sz, b_B51, b_B52, b_B86, p_0, p_1, (so s_113), (so s_114), (so s_115), (so s_116), (so s_117), (so s_118), (so s_119), (so s_120), (so s_121), (so s_122), (so s_123), (so s_124), (so s_125), (so s_126), (so s_127), (so s_128), (so s_129), (so s_130), (so s_131), (so s_132), (so s_133), (so s_134), (so s_135), (so s_136), (so s_137), (so s_138), (so s_139), (so s_140), (so s_141), (so s_142), (so s_143), (so s_144), (fun _ => Sv.self (by rw [z]; decide) _), (so s_146), (so s_147), (so s_148), (so s_149), (so s_150), (so s_151), (so s_152), (so s_153), (so s_154), (so s_155), (so s_156), (so s_157), (so s_158), (so s_159), (so s_160), (so s_161), (so s_162), (so s_163)⟩
      | 33, _ =>
        obtain rfl := Option.some.inj (show some _ = some o from ho); clear ho
        have v142 := s_142 (dp hdep 29)
        have v145 := s_145 (dp hdep 32)
        refine dj_val (i := 33) (v := .agg (wd 1).va) rfl (.inr ⟨29, false, 142, rfl, by kernel_rfl, v142⟩) (ev_loadR (cs := (wd 1).va) (n := 8) v145.eval (GR.cel (OwnR.gr (e := 28) ⟨rfl, p_0⟩) hAdz ct_sz (k := 1) (x := wd 1) (by kernel_rfl)) Try.underlying28 rfl (by kernel_rfl) rfl _ rfl) ?_
        exact ⟨⟨_, rfl⟩, bl, sz, b_B51, b_B52, b_B86, p_0, p_1, (so s_113), (so s_114), (so s_115), (so s_116), (so s_117), (so s_118), (so s_119), (so s_120), (so s_121), (so s_122), (so s_123), (so s_124), (so s_125), (so s_126), (so s_127), (so s_128), (so s_129), (so s_130), (so s_131), (so s_132), (so s_133), (so s_134), (so s_135), (so s_136), (so s_137), (so s_138), (so s_139), (so s_140), (so s_141), (so s_142), (so s_143), (so s_144), (so s_145), (fun _ => Sv.self (by rw [z]; decide) _), (so s_147), (so s_148), (so s_149), (so s_150), (so s_151), (so s_152), (so s_153), (so s_154), (so s_155), (so s_156), (so s_157), (so s_158), (so s_159), (so s_160), (so s_161), (so s_162), (so s_163)⟩
      | 34, _ =>
        obtain rfl := Option.some.inj (show some _ = some o from ho); clear ho
        have v142 := s_142 (dp hdep 29)
        refine dj_call (i := 34) (f := 33) (args := #[.int .u64 1]) rfl (.inr ⟨29, false, 142, rfl, by kernel_rfl, v142⟩) (ev_fn rfl (mp1 (ec ac (.int .u64 1))) (by kernel_rfl) _ rfl) (word_any 1 _) ?_
        intro e wk34 hR
        obtain ⟨rfl, hb34⟩ := hR
        refine ⟨_, rfl, ?_⟩
        have hg := g0 hb34
        exact ⟨⟨_, rfl⟩, (Below.gN bl hg bl.size), (Nat.le_trans sz hg.size), (b_B51.gN hg), (b_B52.gN hg), (b_B86.gN hg), (Own.gN p_0 hg), (Own.gN p_1 hg), (so s_113), (so s_114), (so s_115), (so s_116), (so s_117), (so s_118), (so s_119), (so s_120), (so s_121), (so s_122), (so s_123), (so s_124), (so s_125), (so s_126), (so s_127), (so s_128), (so s_129), (so s_130), (so s_131), (so s_132), (so s_133), (so s_134), (so s_135), (so s_136), (so s_137), (so s_138), (so s_139), (so s_140), (so s_141), (so s_142), (so s_143), (so s_144), (so s_145), (so s_146), (fun _ => Sv.self (by rw [z]; decide) _), (so s_148), (so s_149), (so s_150), (so s_151), (so s_152), (so s_153), (so s_154), (so s_155), (so s_156), (so s_157), (so s_158), (so s_159), (so s_160), (so s_161), (so s_162), (so s_163)⟩
      | 35, _ =>
        obtain rfl := Option.some.inj (show some _ = some o from ho); clear ho
        have v142 := s_142 (dp hdep 29)
        have v146 := s_146 (dp hdep 33)
        have v147 := s_147 (dp hdep 34)
        refine dj_val (i := 35) (v := .bool false) rfl (.inr ⟨29, false, 142, rfl, by kernel_rfl, v142⟩) (ev_neCB (a := (wd 1)) (b := (wd 1)) (r := false) v146.eval v147.eval (by kernel_rfl) _ rfl) ?_
        exact ⟨⟨_, rfl⟩, bl, sz, b_B51, b_B52, b_B86, p_0, p_1, (so s_113), (so s_114), (so s_115), (so s_116), (so s_117), (so s_118), (so s_119), (so s_120), (so s_121), (so s_122), (so s_123), (so s_124), (so s_125), (so s_126), (so s_127), (so s_128), (so s_129), (so s_130), (so s_131), (so s_132), (so s_133), (so s_134), (so s_135), (so s_136), (so s_137), (so s_138), (so s_139), (so s_140), (so s_141), (so s_142), (so s_143), (so s_144), (so s_145), (so s_146), (so s_147), (fun _ => Sv.self (by rw [z]; decide) _), (so s_149), (so s_150), (so s_151), (so s_152), (so s_153), (so s_154), (so s_155), (so s_156), (so s_157), (so s_158), (so s_159), (so s_160), (so s_161), (so s_162), (so s_163)⟩
      | 36, _ =>
        obtain rfl := Option.some.inj (show some _ = some o from ho); clear ho
        have v142 := s_142 (dp hdep 29)
        have v148 := s_148 (dp hdep 35)
        refine dj_val (i := 36) (v := .bool false) rfl (.inl rfl) (ev_pickF v142.eval v148.eval _ rfl) ?_
        exact ⟨⟨_, rfl⟩, bl, sz, b_B51, b_B52, b_B86, p_0, p_1, (so s_113), (so s_114), (so s_115), (so s_116), (so s_117), (so s_118), (so s_119), (so s_120), (so s_121), (so s_122), (so s_123), (so s_124), (so s_125), (so s_126), (so s_127), (so s_128), (so s_129), (so s_130), (so s_131), (so s_132), (so s_133), (so s_134), (so s_135), (so s_136), (so s_137), (so s_138), (so s_139), (so s_140), (so s_141), (so s_142), (so s_143), (so s_144), (so s_145), (so s_146), (so s_147), (so s_148), (fun _ => Sv.self (by rw [z]; decide) _), (so s_150), (so s_151), (so s_152), (so s_153), (so s_154), (so s_155), (so s_156), (so s_157), (so s_158), (so s_159), (so s_160), (so s_161), (so s_162), (so s_163)⟩
      | 37, _ =>
        obtain rfl := Option.some.inj (show some _ = some o from ho); clear ho
        have v149 := s_149 (dp hdep 36)
        refine dj_val (i := 37) (v := .bool false) rfl (.inl rfl) (ev_move v149.eval _ rfl) ?_
        exact ⟨⟨_, rfl⟩, bl, sz, b_B51, b_B52, b_B86, p_0, p_1, (so s_113), (so s_114), (so s_115), (so s_116), (so s_117), (so s_118), (so s_119), (so s_120), (so s_121), (so s_122), (so s_123), (so s_124), (so s_125), (so s_126), (so s_127), (so s_128), (so s_129), (so s_130), (so s_131), (so s_132), (so s_133), (so s_134), (so s_135), (so s_136), (so s_137), (so s_138), (so s_139), (so s_140), (so s_141), (so s_142), (so s_143), (so s_144), (so s_145), (so s_146), (so s_147), (so s_148), (so s_149), (fun _ => Sv.self (by rw [z]; decide) _), (so s_151), (so s_152), (so s_153), (so s_154), (so s_155), (so s_156), (so s_157), (so s_158), (so s_159), (so s_160), (so s_161), (so s_162), (so s_163)⟩
      | 38, _ =>
        obtain rfl := Option.some.inj (show some _ = some o from ho); clear ho
        have v150 := s_150 (dp hdep 37)
        have v12 := hF.sv (s := 12) (by kernel_rfl) (hA355.get (i := 12) (v := .int .i64 (sub (cmp (cmp d2 1).1 0).1 ⟨false, 1, 7, Ct.zero⟩).2))
        refine dj_val (i := 38) (v := .int .i64 (sub (cmp (cmp d2 1).1 0).1 ⟨false, 1, 7, Ct.zero⟩).2) rfl (.inr ⟨37, false, 150, rfl, by kernel_rfl, v150⟩) (ev_move v12.eval _ rfl) ?_
        exact ⟨⟨_, rfl⟩, bl, sz, b_B51, b_B52, b_B86, p_0, p_1, (so s_113), (so s_114), (so s_115), (so s_116), (so s_117), (so s_118), (so s_119), (so s_120), (so s_121), (so s_122), (so s_123), (so s_124), (so s_125), (so s_126), (so s_127), (so s_128), (so s_129), (so s_130), (so s_131), (so s_132), (so s_133), (so s_134), (so s_135), (so s_136), (so s_137), (so s_138), (so s_139), (so s_140), (so s_141), (so s_142), (so s_143), (so s_144), (so s_145), (so s_146), (so s_147), (so s_148), (so s_149), (so s_150), (fun _ => Sv.self (by rw [z]; decide) _), (so s_152), (so s_153), (so s_154), (so s_155), (so s_156), (so s_157), (so s_158), (so s_159), (so s_160), (so s_161), (so s_162), (so s_163)⟩
      | 39, _ =>
        obtain rfl := Option.some.inj (show some _ = some o from ho); clear ho
        have v150 := s_150 (dp hdep 37)
        have v151 := s_151 (dp hdep 38)
        refine dj_val (i := 39) (v := .bool false) rfl (.inr ⟨37, false, 150, rfl, by kernel_rfl, v150⟩) (ev_neqB (k := .i64) (m := (sub (cmp (cmp d2 1).1 0).1 ⟨false, 1, 7, Ct.zero⟩).2) (n := 0) v151.eval (ec ac (.int .i64 0)) (by kernel_rfl) _ rfl) ?_
        exact ⟨⟨_, rfl⟩, bl, sz, b_B51, b_B52, b_B86, p_0, p_1, (so s_113), (so s_114), (so s_115), (so s_116), (so s_117), (so s_118), (so s_119), (so s_120), (so s_121), (so s_122), (so s_123), (so s_124), (so s_125), (so s_126), (so s_127), (so s_128), (so s_129), (so s_130), (so s_131), (so s_132), (so s_133), (so s_134), (so s_135), (so s_136), (so s_137), (so s_138), (so s_139), (so s_140), (so s_141), (so s_142), (so s_143), (so s_144), (so s_145), (so s_146), (so s_147), (so s_148), (so s_149), (so s_150), (so s_151), (fun _ => Sv.self (by rw [z]; decide) _), (so s_153), (so s_154), (so s_155), (so s_156), (so s_157), (so s_158), (so s_159), (so s_160), (so s_161), (so s_162), (so s_163)⟩
      | 40, _ =>
        obtain rfl := Option.some.inj (show some _ = some o from ho); clear ho
        have v150 := s_150 (dp hdep 37)
        have v152 := s_152 (dp hdep 39)
        refine dj_val (i := 40) (v := .bool false) rfl (.inl rfl) (ev_pickF v150.eval v152.eval _ rfl) ?_
        exact ⟨⟨_, rfl⟩, bl, sz, b_B51, b_B52, b_B86, p_0, p_1, (so s_113), (so s_114), (so s_115), (so s_116), (so s_117), (so s_118), (so s_119), (so s_120), (so s_121), (so s_122), (so s_123), (so s_124), (so s_125), (so s_126), (so s_127), (so s_128), (so s_129), (so s_130), (so s_131), (so s_132), (so s_133), (so s_134), (so s_135), (so s_136), (so s_137), (so s_138), (so s_139), (so s_140), (so s_141), (so s_142), (so s_143), (so s_144), (so s_145), (so s_146), (so s_147), (so s_148), (so s_149), (so s_150), (so s_151), (so s_152), (fun _ => Sv.self (by rw [z]; decide) _), (so s_154), (so s_155), (so s_156), (so s_157), (so s_158), (so s_159), (so s_160), (so s_161), (so s_162), (so s_163)⟩
      | 41, _ =>
        obtain rfl := Option.some.inj (show some _ = some o from ho); clear ho
        have v153 := s_153 (dp hdep 40)
        refine dj_val (i := 41) (v := .bool false) rfl (.inl rfl) (ev_move v153.eval _ rfl) ?_
        exact ⟨⟨_, rfl⟩, bl, sz, b_B51, b_B52, b_B86, p_0, p_1, (so s_113), (so s_114), (so s_115), (so s_116), (so s_117), (so s_118), (so s_119), (so s_120), (so s_121), (so s_122), (so s_123), (so s_124), (so s_125), (so s_126), (so s_127), (so s_128), (so s_129), (so s_130), (so s_131), (so s_132), (so s_133), (so s_134), (so s_135), (so s_136), (so s_137), (so s_138), (so s_139), (so s_140), (so s_141), (so s_142), (so s_143), (so s_144), (so s_145), (so s_146), (so s_147), (so s_148), (so s_149), (so s_150), (so s_151), (so s_152), (so s_153), (fun _ => Sv.self (by rw [z]; decide) _), (so s_155), (so s_156), (so s_157), (so s_158), (so s_159), (so s_160), (so s_161), (so s_162), (so s_163)⟩
      | 42, _ =>
        obtain rfl := Option.some.inj (show some _ = some o from ho); clear ho
        have v154 := s_154 (dp hdep 41)
        have v15 := hF.sv (s := 15) (by kernel_rfl) (hA355.get (i := 15) (v := .int .i64 (cmp (sub (cmp (cmp d2 1).1 0).1 ⟨false, 1, 7, Ct.zero⟩).1 0).2.2))
        refine dj_val (i := 42) (v := .int .i64 (cmp (sub (cmp (cmp d2 1).1 0).1 ⟨false, 1, 7, Ct.zero⟩).1 0).2.2) rfl (.inr ⟨41, false, 154, rfl, by kernel_rfl, v154⟩) (ev_move v15.eval _ rfl) ?_
        exact ⟨⟨_, rfl⟩, bl, sz, b_B51, b_B52, b_B86, p_0, p_1, (so s_113), (so s_114), (so s_115), (so s_116), (so s_117), (so s_118), (so s_119), (so s_120), (so s_121), (so s_122), (so s_123), (so s_124), (so s_125), (so s_126), (so s_127), (so s_128), (so s_129), (so s_130), (so s_131), (so s_132), (so s_133), (so s_134), (so s_135), (so s_136), (so s_137), (so s_138), (so s_139), (so s_140), (so s_141), (so s_142), (so s_143), (so s_144), (so s_145), (so s_146), (so s_147), (so s_148), (so s_149), (so s_150), (so s_151), (so s_152), (so s_153), (so s_154), (fun _ => Sv.self (by rw [z]; decide) _), (so s_156), (so s_157), (so s_158), (so s_159), (so s_160), (so s_161), (so s_162), (so s_163)⟩
      | 43, _ =>
        obtain rfl := Option.some.inj (show some _ = some o from ho); clear ho
        have v154 := s_154 (dp hdep 41)
        have v155 := s_155 (dp hdep 42)
        refine dj_val (i := 43) (v := .bool false) rfl (.inr ⟨41, false, 154, rfl, by kernel_rfl, v154⟩) (ev_neqB (k := .i64) (m := (cmp (sub (cmp (cmp d2 1).1 0).1 ⟨false, 1, 7, Ct.zero⟩).1 0).2.2) (n := 0) v155.eval (ec ac (.int .i64 0)) (by kernel_rfl) _ rfl) ?_
        exact ⟨⟨_, rfl⟩, bl, sz, b_B51, b_B52, b_B86, p_0, p_1, (so s_113), (so s_114), (so s_115), (so s_116), (so s_117), (so s_118), (so s_119), (so s_120), (so s_121), (so s_122), (so s_123), (so s_124), (so s_125), (so s_126), (so s_127), (so s_128), (so s_129), (so s_130), (so s_131), (so s_132), (so s_133), (so s_134), (so s_135), (so s_136), (so s_137), (so s_138), (so s_139), (so s_140), (so s_141), (so s_142), (so s_143), (so s_144), (so s_145), (so s_146), (so s_147), (so s_148), (so s_149), (so s_150), (so s_151), (so s_152), (so s_153), (so s_154), (so s_155), (fun _ => Sv.self (by rw [z]; decide) _), (so s_157), (so s_158), (so s_159), (so s_160), (so s_161), (so s_162), (so s_163)⟩
      | 44, _ =>
        obtain rfl := Option.some.inj (show some _ = some o from ho); clear ho
        have v154 := s_154 (dp hdep 41)
        have v156 := s_156 (dp hdep 43)
        refine dj_val (i := 44) (v := .bool false) rfl (.inl rfl) (ev_pickF v154.eval v156.eval _ rfl) ?_
        exact ⟨⟨_, rfl⟩, bl, sz, b_B51, b_B52, b_B86, p_0, p_1, (so s_113), (so s_114), (so s_115), (so s_116), (so s_117), (so s_118), (so s_119), (so s_120), (so s_121), (so s_122), (so s_123), (so s_124), (so s_125), (so s_126), (so s_127), (so s_128), (so s_129), (so s_130), (so s_131), (so s_132), (so s_133), (so s_134), (so s_135), (so s_136), (so s_137), (so s_138), (so s_139), (so s_140), (so s_141), (so s_142), (so s_143), (so s_144), (so s_145), (so s_146), (so s_147), (so s_148), (so s_149), (so s_150), (so s_151), (so s_152), (so s_153), (so s_154), (so s_155), (so s_156), (fun _ => Sv.self (by rw [z]; decide) _), (so s_158), (so s_159), (so s_160), (so s_161), (so s_162), (so s_163)⟩
      | 45, _ =>
        obtain rfl := Option.some.inj (show some _ = some o from ho); clear ho
        have v157 := s_157 (dp hdep 44)
        refine dj_val (i := 45) (v := .bool false) rfl (.inl rfl) (ev_move v157.eval _ rfl) ?_
        exact ⟨⟨_, rfl⟩, bl, sz, b_B51, b_B52, b_B86, p_0, p_1, (so s_113), (so s_114), (so s_115), (so s_116), (so s_117), (so s_118), (so s_119), (so s_120), (so s_121), (so s_122), (so s_123), (so s_124), (so s_125), (so s_126), (so s_127), (so s_128), (so s_129), (so s_130), (so s_131), (so s_132), (so s_133), (so s_134), (so s_135), (so s_136), (so s_137), (so s_138), (so s_139), (so s_140), (so s_141), (so s_142), (so s_143), (so s_144), (so s_145), (so s_146), (so s_147), (so s_148), (so s_149), (so s_150), (so s_151), (so s_152), (so s_153), (so s_154), (so s_155), (so s_156), (so s_157), (fun _ => Sv.self (by rw [z]; decide) _), (so s_159), (so s_160), (so s_161), (so s_162), (so s_163)⟩
      | 46, _ =>
        obtain rfl := Option.some.inj (show some _ = some o from ho); clear ho
        have v158 := s_158 (dp hdep 45)
        have v14 := hF.sv (s := 14) (by kernel_rfl) (hA355.get (i := 14) (v := .pointer (some ⟨B86, 0, none⟩)))
        refine dj_val (i := 46) (v := .agg (cmp (sub (cmp (cmp d2 1).1 0).1 ⟨false, 1, 7, Ct.zero⟩).1 0).2.1.va) rfl (.inr ⟨45, false, 158, rfl, by kernel_rfl, v158⟩) (ev_row v14.eval b_B86 Try.underlying38 rfl (n := 11) (by kernel_rfl) rfl _ rfl) ?_
        exact ⟨⟨_, rfl⟩, bl, sz, b_B51, b_B52, b_B86, p_0, p_1, (so s_113), (so s_114), (so s_115), (so s_116), (so s_117), (so s_118), (so s_119), (so s_120), (so s_121), (so s_122), (so s_123), (so s_124), (so s_125), (so s_126), (so s_127), (so s_128), (so s_129), (so s_130), (so s_131), (so s_132), (so s_133), (so s_134), (so s_135), (so s_136), (so s_137), (so s_138), (so s_139), (so s_140), (so s_141), (so s_142), (so s_143), (so s_144), (so s_145), (so s_146), (so s_147), (so s_148), (so s_149), (so s_150), (so s_151), (so s_152), (so s_153), (so s_154), (so s_155), (so s_156), (so s_157), (so s_158), (fun _ => Sv.self (by rw [z]; decide) _), (so s_160), (so s_161), (so s_162), (so s_163)⟩
      | 47, _ =>
        obtain rfl := Option.some.inj (show some _ = some o from ho); clear ho
        have v158 := s_158 (dp hdep 45)
        refine dj_call (i := 47) (f := 33) (args := #[.int .u64 1]) rfl (.inr ⟨45, false, 158, rfl, by kernel_rfl, v158⟩) (ev_fn rfl (mp1 (ec ac (.int .u64 1))) (by kernel_rfl) _ rfl) (word_any 1 _) ?_
        intro e wk47 hR
        obtain ⟨rfl, hb47⟩ := hR
        refine ⟨_, rfl, ?_⟩
        have hg := g0 hb47
        exact ⟨⟨_, rfl⟩, (Below.gN bl hg bl.size), (Nat.le_trans sz hg.size), (b_B51.gN hg), (b_B52.gN hg), (b_B86.gN hg), (Own.gN p_0 hg), (Own.gN p_1 hg), (so s_113), (so s_114), (so s_115), (so s_116), (so s_117), (so s_118), (so s_119), (so s_120), (so s_121), (so s_122), (so s_123), (so s_124), (so s_125), (so s_126), (so s_127), (so s_128), (so s_129), (so s_130), (so s_131), (so s_132), (so s_133), (so s_134), (so s_135), (so s_136), (so s_137), (so s_138), (so s_139), (so s_140), (so s_141), (so s_142), (so s_143), (so s_144), (so s_145), (so s_146), (so s_147), (so s_148), (so s_149), (so s_150), (so s_151), (so s_152), (so s_153), (so s_154), (so s_155), (so s_156), (so s_157), (so s_158), (so s_159), (fun _ => Sv.self (by rw [z]; decide) _), (so s_161), (so s_162), (so s_163)⟩
      | 48, _ =>
        obtain rfl := Option.some.inj (show some _ = some o from ho); clear ho
        have v158 := s_158 (dp hdep 45)
        have v160 := s_160 (dp hdep 47)
        refine dj_val (i := 48) (v := .agg (Jb.va ⟨false, 1, 7, (wd 1)⟩)) rfl (.inr ⟨45, false, 158, rfl, by kernel_rfl, v158⟩) (bd_Job_1_2_3 (ec ac (.int .i64 1)) (ec ac (.int .i64 7)) v160.eval _ rfl) ?_
        exact ⟨⟨_, rfl⟩, bl, sz, b_B51, b_B52, b_B86, p_0, p_1, (so s_113), (so s_114), (so s_115), (so s_116), (so s_117), (so s_118), (so s_119), (so s_120), (so s_121), (so s_122), (so s_123), (so s_124), (so s_125), (so s_126), (so s_127), (so s_128), (so s_129), (so s_130), (so s_131), (so s_132), (so s_133), (so s_134), (so s_135), (so s_136), (so s_137), (so s_138), (so s_139), (so s_140), (so s_141), (so s_142), (so s_143), (so s_144), (so s_145), (so s_146), (so s_147), (so s_148), (so s_149), (so s_150), (so s_151), (so s_152), (so s_153), (so s_154), (so s_155), (so s_156), (so s_157), (so s_158), (so s_159), (so s_160), (fun _ => Sv.self (by rw [z]; decide) _), (so s_162), (so s_163)⟩
      | 49, _ =>
        obtain rfl := Option.some.inj (show some _ = some o from ho); clear ho
        have v158 := s_158 (dp hdep 45)
        have v159 := s_159 (dp hdep 46)
        have v161 := s_161 (dp hdep 48)
        refine dj_val (i := 49) (v := .bool false) rfl (.inr ⟨45, false, 158, rfl, by kernel_rfl, v158⟩) (ev_neJB (a := (cmp (sub (cmp (cmp d2 1).1 0).1 ⟨false, 1, 7, Ct.zero⟩).1 0).2.1) (b := (⟨false, 1, 7, (wd 1)⟩ : Jb)) (r := false) v159.eval v161.eval (by kernel_rfl) _ rfl) ?_
        exact ⟨⟨_, rfl⟩, bl, sz, b_B51, b_B52, b_B86, p_0, p_1, (so s_113), (so s_114), (so s_115), (so s_116), (so s_117), (so s_118), (so s_119), (so s_120), (so s_121), (so s_122), (so s_123), (so s_124), (so s_125), (so s_126), (so s_127), (so s_128), (so s_129), (so s_130), (so s_131), (so s_132), (so s_133), (so s_134), (so s_135), (so s_136), (so s_137), (so s_138), (so s_139), (so s_140), (so s_141), (so s_142), (so s_143), (so s_144), (so s_145), (so s_146), (so s_147), (so s_148), (so s_149), (so s_150), (so s_151), (so s_152), (so s_153), (so s_154), (so s_155), (so s_156), (so s_157), (so s_158), (so s_159), (so s_160), (so s_161), (fun _ => Sv.self (by rw [z]; decide) _), (so s_163)⟩
      | 50, _ =>
        obtain rfl := Option.some.inj (show some _ = some o from ho); clear ho
        have v158 := s_158 (dp hdep 45)
        have v162 := s_162 (dp hdep 49)
        refine dj_val (i := 50) (v := .bool false) rfl (.inl rfl) (ev_pickF v158.eval v162.eval _ rfl) ?_
        exact ⟨⟨_, rfl⟩, bl, sz, b_B51, b_B52, b_B86, p_0, p_1, (so s_113), (so s_114), (so s_115), (so s_116), (so s_117), (so s_118), (so s_119), (so s_120), (so s_121), (so s_122), (so s_123), (so s_124), (so s_125), (so s_126), (so s_127), (so s_128), (so s_129), (so s_130), (so s_131), (so s_132), (so s_133), (so s_134), (so s_135), (so s_136), (so s_137), (so s_138), (so s_139), (so s_140), (so s_141), (so s_142), (so s_143), (so s_144), (so s_145), (so s_146), (so s_147), (so s_148), (so s_149), (so s_150), (so s_151), (so s_152), (so s_153), (so s_154), (so s_155), (so s_156), (so s_157), (so s_158), (so s_159), (so s_160), (so s_161), (so s_162), (fun _ => Sv.self (by rw [z]; decide) _)⟩
      | k + 51, h => exact absurd h (by omega)
    · intro L hall ac482 wc482 hF hJ
      obtain ⟨bl, sz, b_B51, b_B52, b_B86, p_0, p_1, s_113, s_114, s_115, s_116, s_117, s_118, s_119, s_120, s_121, s_122, s_123, s_124, s_125, s_126, s_127, s_128, s_129, s_130, s_131, s_132, s_133, s_134, s_135, s_136, s_137, s_138, s_139, s_140, s_141, s_142, s_143, s_144, s_145, s_146, s_147, s_148, s_149, s_150, s_151, s_152, s_153, s_154, s_155, s_156, s_157, s_158, s_159, s_160, s_161, s_162, s_163⟩ := hJ
      have hA482 : Ag ac482 233 [(0, .bool false), (8, .pointer (some ⟨B51, 0, none⟩)), (17, .int .i64 (sub (cmp d2 1).1 ⟨true, 1, 8, (wd 2)⟩).2), (19, .int .i64 (sub (cmp d2 1).1 ⟨false, 0, 5, Ct.zero⟩).2), (21, .int .i64 (sub d2 ⟨false, 1, 9, Ct.zero⟩).2), (23, .int .i64 (nw 3 2).2), (24, .int .i64 (sub (nw 3 2).1 ⟨false, 0, 0, Ct.zero⟩).2), (25, .int .i64 (sub (sub (nw 3 2).1 ⟨false, 0, 0, Ct.zero⟩).1 ⟨false, 1, 1, Ct.zero⟩).2), (27, .int .i64 (sub (sub (sub (nw 3 2).1 ⟨false, 0, 0, Ct.zero⟩).1 ⟨false, 1, 1, Ct.zero⟩).1 ⟨false, 2, 2, Ct.zero⟩).2), (30, .int .i64 (cmp d2 2).2.2), (163, .bool false)] := ((((((((((((Ag.nil (hF.1.trans hA355.1) (hF.2.1.trans hA355.2.1)).cons (s_163 (hall 50 (by decide)))).cons (hF.sv (s := 30) (by kernel_rfl) (hA355.get (i := 30) (v := .int .i64 (cmp d2 2).2.2)))).cons (hF.sv (s := 27) (by kernel_rfl) (hA355.get (i := 27) (v := .int .i64 (sub (sub (sub (nw 3 2).1 ⟨false, 0, 0, Ct.zero⟩).1 ⟨false, 1, 1, Ct.zero⟩).1 ⟨false, 2, 2, Ct.zero⟩).2)))).cons (hF.sv (s := 25) (by kernel_rfl) (hA355.get (i := 25) (v := .int .i64 (sub (sub (nw 3 2).1 ⟨false, 0, 0, Ct.zero⟩).1 ⟨false, 1, 1, Ct.zero⟩).2)))).cons (hF.sv (s := 24) (by kernel_rfl) (hA355.get (i := 24) (v := .int .i64 (sub (nw 3 2).1 ⟨false, 0, 0, Ct.zero⟩).2)))).cons (hF.sv (s := 23) (by kernel_rfl) (hA355.get (i := 23) (v := .int .i64 (nw 3 2).2)))).cons (hF.sv (s := 21) (by kernel_rfl) (hA355.get (i := 21) (v := .int .i64 (sub d2 ⟨false, 1, 9, Ct.zero⟩).2)))).cons (hF.sv (s := 19) (by kernel_rfl) (hA355.get (i := 19) (v := .int .i64 (sub (cmp d2 1).1 ⟨false, 0, 5, Ct.zero⟩).2)))).cons (hF.sv (s := 17) (by kernel_rfl) (hA355.get (i := 17) (v := .int .i64 (sub (cmp d2 1).1 ⟨true, 1, 8, (wd 2)⟩).2)))).cons (hF.sv (s := 8) (by kernel_rfl) (hA355.get (i := 8) (v := .pointer (some ⟨B51, 0, none⟩))))).cons (hF.sv (s := 0) (by kernel_rfl) (hA355.get (i := 0) (v := .bool false))))
      have bl482 := bl
      have sz482 := sz
      have b482_B51 := b_B51
      have b482_B52 := b_B52
      have b482_B86 := b_B86
      have p482_0 := p_0
      have p482_1 := p_1
      clear hF bl sz b_B51 b_B52 b_B86 p_0 p_1 s_113 s_114 s_115 s_116 s_117 s_118 s_119 s_120 s_121 s_122 s_123 s_124 s_125 s_126 s_127 s_128 s_129 s_130 s_131 s_132 s_133 s_134 s_135 s_136 s_137 s_138 s_139 s_140 s_141 s_142 s_143 s_144 s_145 s_146 s_147 s_148 s_149 s_150 s_151 s_152 s_153 s_154 s_155 s_156 s_157 s_158 s_159 s_160 s_161 s_162 s_163 hall hA355
      refine then_n ?_
      refine wp_cond_false (hA482.ev (i := 163) (v := .bool false)) ?_
      refine wp_skip ?_
      refine then_n ?_
      refine wp_seq ?_
      refine region_D (n := 9) (by kernel_rfl) (by kernel_rfl) rfl (fun L ac wc => ∃ Ap2r17 : Option Addr, ∃ cp2r17 : Nat, ∃ Aj2r17 : Option Addr, ∃ cj2r17 : Nat, ∃ N6r17 : Nat, Below w.heap.size w wc ∧ wc482.heap.size ≤ wc.heap.size ∧ Bx wc B51 25 (#[.slice Ap38 (cmp (cmp d2 1).1 0).1.cs.length cp38, .slice Aj38 (cmp (cmp d2 1).1 0).1.js.length cj38, .int .i64 (cmp (cmp d2 1).1 0).1.room]) ∧ Own wc (w33.heap.size) 28 8 (.slice Ap38 (cmp (cmp d2 1).1 0).1.cs.length cp38) (cmp (cmp d2 1).1 0).1.cs.length (flat Ct.va (cmp (cmp d2 1).1 0).1.cs) ∧ Own wc (w33.heap.size) 38 11 (.slice Aj38 (cmp (cmp d2 1).1 0).1.js.length cj38) (cmp (cmp d2 1).1 0).1.js.length (flat Jb.va (cmp (cmp d2 1).1 0).1.js) ∧ (L 6 = true → wc482.heap.size ≤ N6r17 ∧ Bx wc N6r17 25 (bif L 7 then (#[.slice Ap2r17 (sub (cmp (cmp d2 1).1 0).1 ⟨true, 2, 0, (wd 1)⟩).1.cs.length cp2r17, .slice Aj2r17 (sub (cmp (cmp d2 1).1 0).1 ⟨true, 2, 0, (wd 1)⟩).1.js.length cj2r17, .int .i64 (sub (cmp (cmp d2 1).1 0).1 ⟨true, 2, 0, (wd 1)⟩).1.room]) else (#[.slice none 0 0, .slice none 0 0, .int .i64 0]))) ∧ (L 2 = true → Own wc wc482.heap.size 28 8 (.slice Ap2r17 (sub (cmp (cmp d2 1).1 0).1 ⟨true, 2, 0, (wd 1)⟩).1.cs.length cp2r17) (sub (cmp (cmp d2 1).1 0).1 ⟨true, 2, 0, (wd 1)⟩).1.cs.length (flat Ct.va (sub (cmp (cmp d2 1).1 0).1 ⟨true, 2, 0, (wd 1)⟩).1.cs)) ∧ (L 2 = true → Own wc wc482.heap.size 38 11 (.slice Aj2r17 (sub (cmp (cmp d2 1).1 0).1 ⟨true, 2, 0, (wd 1)⟩).1.js.length cj2r17) (sub (cmp (cmp d2 1).1 0).1 ⟨true, 2, 0, (wd 1)⟩).1.js.length (flat Jb.va (sub (cmp (cmp d2 1).1 0).1 ⟨true, 2, 0, (wd 1)⟩).1.js)) ∧ (L 7 = true → L 6 = true) ∧ (L 3 = true → L 2 = true) ∧ (L 4 = true → L 2 = true) ∧ (L 7 = true → L 2 = true) ∧ (L 0 = true → Sv ac 165 (.agg #[.slice Ap38 (cmp (cmp d2 1).1 0).1.cs.length cp38, .slice Aj38 (cmp (cmp d2 1).1 0).1.js.length cj38, .int .i64 (cmp (cmp d2 1).1 0).1.room])) ∧ (L 1 = true → Sv ac 166 (.agg (wd 1).va)) ∧ (L 2 = true → Sv ac 167 (.tuple #[.agg #[.slice Ap2r17 (sub (cmp (cmp d2 1).1 0).1 ⟨true, 2, 0, (wd 1)⟩).1.cs.length cp2r17, .slice Aj2r17 (sub (cmp (cmp d2 1).1 0).1 ⟨true, 2, 0, (wd 1)⟩).1.js.length cj2r17, .int .i64 (sub (cmp (cmp d2 1).1 0).1 ⟨true, 2, 0, (wd 1)⟩).1.room], .int .i64 (sub (cmp (cmp d2 1).1 0).1 ⟨true, 2, 0, (wd 1)⟩).2])) ∧ (L 3 = true → Sv ac 164 (.tuple #[.agg #[.slice Ap2r17 (sub (cmp (cmp d2 1).1 0).1 ⟨true, 2, 0, (wd 1)⟩).1.cs.length cp2r17, .slice Aj2r17 (sub (cmp (cmp d2 1).1 0).1 ⟨true, 2, 0, (wd 1)⟩).1.js.length cj2r17, .int .i64 (sub (cmp (cmp d2 1).1 0).1 ⟨true, 2, 0, (wd 1)⟩).1.room], .int .i64 (sub (cmp (cmp d2 1).1 0).1 ⟨true, 2, 0, (wd 1)⟩).2])) ∧ (L 4 = true → Sv ac 168 (.agg #[.slice Ap2r17 (sub (cmp (cmp d2 1).1 0).1 ⟨true, 2, 0, (wd 1)⟩).1.cs.length cp2r17, .slice Aj2r17 (sub (cmp (cmp d2 1).1 0).1 ⟨true, 2, 0, (wd 1)⟩).1.js.length cj2r17, .int .i64 (sub (cmp (cmp d2 1).1 0).1 ⟨true, 2, 0, (wd 1)⟩).1.room])) ∧ (L 5 = true → Sv ac 169 (.int .i64 (sub (cmp (cmp d2 1).1 0).1 ⟨true, 2, 0, (wd 1)⟩).2)) ∧ (L 6 = true → Sv ac 31 (.pointer (some ⟨N6r17, 0, none⟩))) ∧ (L 8 = true → Sv ac 32 (.int .i64 (sub (cmp (cmp d2 1).1 0).1 ⟨true, 2, 0, (wd 1)⟩).2))) ⟨none, 0, none, 0, 0, (Below.gN bl482 (gdr _) bl482.size), (Nat.le_refl _), (b482_B51.gN (gdr _)), (Own.gN p482_0 (gdr _)), (Own.gN p482_1 (gdr _)), (fun h => by cases h), (fun h => by cases h), (fun h => by cases h), (fun h => by cases h), (fun h => by cases h), (fun h => by cases h), (fun h => by cases h), (fun h => by cases h), (fun h => by cases h), (fun h => by cases h), (fun h => by cases h), (fun h => by cases h), (fun h => by cases h), (fun h => by cases h), (fun h => by cases h)⟩ ?_ ?_
      · intro iq hiq o ho L hL hdep ac wc hF hJ
        obtain ⟨Ap2r17, cp2r17, Aj2r17, cj2r17, N6r17, bl, sz, b_B51, p_0, p_1, n_N6r17, o_2_0, o_2_1, cl_7_6, cl_3_2, cl_4_2, cl_7_2, s_165, s_166, s_167, s_164, s_168, s_169, s_31, s_32⟩ := hJ
        have z := hF.1.trans hA482.1
        match iq, hiq with
        | 0, _ =>
          obtain rfl := Option.some.inj (show some _ = some o from ho); clear ho
          have v8 := hF.sv (s := 8) (by kernel_rfl) (hA482.get (i := 8) (v := .pointer (some ⟨B51, 0, none⟩)))
          refine dj_val (i := 0) (v := .agg #[.slice Ap38 (cmp (cmp d2 1).1 0).1.cs.length cp38, .slice Aj38 (cmp (cmp d2 1).1 0).1.js.length cj38, .int .i64 (cmp (cmp d2 1).1 0).1.room]) rfl (.inl rfl) (ev_row v8.eval b_B51 Try.underlying25 rfl (n := 3) (by kernel_rfl) rfl _ rfl) ?_
          exact ⟨⟨_, rfl⟩, Ap2r17, cp2r17, Aj2r17, cj2r17, N6r17, bl, sz, b_B51, p_0, p_1, n_N6r17, o_2_0, o_2_1, cl_7_6, cl_3_2, cl_4_2, cl_7_2, (fun _ => Sv.self (by rw [z]; decide) _), (so s_166), (so s_167), (so s_164), (so s_168), (so s_169), (so s_31), (so s_32)⟩
        | 1, _ =>
          obtain rfl := Option.some.inj (show some _ = some o from ho); clear ho
          refine dj_call (i := 1) (f := 33) (args := #[.int .u64 1]) rfl (.inl rfl) (ev_fn rfl (mp1 (ec ac (.int .u64 1))) (by kernel_rfl) _ rfl) (word_any 1 _) ?_
          intro e wk1 hR
          obtain ⟨rfl, hb1⟩ := hR
          refine ⟨_, rfl, ?_⟩
          have hg := g0 hb1
          exact ⟨⟨_, rfl⟩, Ap2r17, cp2r17, Aj2r17, cj2r17, N6r17, (Below.gN bl hg bl.size), (Nat.le_trans sz hg.size), (b_B51.gN hg), (Own.gN p_0 hg), (Own.gN p_1 hg), (fun h => ⟨(n_N6r17 h).1, (n_N6r17 h).2.gN hg⟩), (fun h => Own.gN (o_2_0 h) hg), (fun h => Own.gN (o_2_1 h) hg), cl_7_6, cl_3_2, cl_4_2, cl_7_2, (so s_165), (fun _ => Sv.self (by rw [z]; decide) _), (so s_167), (so s_164), (so s_168), (so s_169), (so s_31), (so s_32)⟩
        | 2, _ =>
          obtain rfl := Option.some.inj (show some _ = some o from ho); clear ho
          have v165 := s_165 (dp hdep 0)
          have v166 := s_166 (dp hdep 1)
          refine dj_call (i := 2) (f := 12) (args := #[.agg #[.slice Ap38 (cmp (cmp d2 1).1 0).1.cs.length cp38, .slice Aj38 (cmp (cmp d2 1).1 0).1.js.length cj38, .int .i64 (cmp (cmp d2 1).1 0).1.room], .int .i64 2, .int .i64 0, .agg (wd 1).va]) rfl (.inl rfl) (ev_fn rfl (mp4 v165.eval (ec ac (.int .i64 2)) (ec ac (.int .i64 0)) v166.eval) (by kernel_rfl) _ rfl) (Write_any Ap38 cp38 Aj38 cj38 (cmp (cmp d2 1).1 0).1.cs (cmp (cmp d2 1).1 0).1.js (cmp (cmp d2 1).1 0).1.room 2 0 (wd 1) _ ⟨(OwnR.gr (e := 28) ⟨rfl, p_0⟩), (OwnR.gr (e := 38) ⟨rfl, p_1⟩)⟩ (by decide) (by decide)) ?_
          intro e wk2 hR
          obtain ⟨Ap2r17, cp2r17, Aj2r17, cj2r17, rfl, hC2, hJ2, hb2⟩ := hR
          refine ⟨_, rfl, ?_⟩
          have hg := g0 hb2
          have hown0 := Own.mono (hC2.2) sz
          have hown1 := Own.mono (hJ2.2) sz
          exact ⟨⟨_, rfl⟩, Ap2r17, cp2r17, Aj2r17, cj2r17, N6r17, (Below.gN bl hg bl.size), (Nat.le_trans sz hg.size), (b_B51.gN hg), (Own.gN p_0 hg), (Own.gN p_1 hg), (fun h => ⟨(n_N6r17 h).1, by
              have e0 : L 7 = false := by
                cases hc : L 7
                · rfl
                · exact absurd (cl_7_2 hc) (by rw [hL]; decide)
              have h0 := (n_N6r17 h).2.gN hg
              rw [e0] at h0
              show Bx _ _ _ (bif L 7 then _ else _)
              rw [e0]
              exact h0⟩), (fun _ => hown0), (fun _ => hown1), cl_7_6, (fun _ => rfl), (fun _ => rfl), (fun _ => rfl), (so s_165), (so s_166), (fun _ => Sv.self (by rw [z]; decide) _), (fun h => absurd (cl_3_2 h) (by rw [hL]; decide)), (fun h => absurd (cl_4_2 h) (by rw [hL]; decide)), (so s_169), (so s_31), (so s_32)⟩
        | 3, _ =>
          obtain rfl := Option.some.inj (show some _ = some o from ho); clear ho
          have v167 := s_167 (dp hdep 2)
          refine dj_val (i := 3) (v := .tuple #[.agg #[.slice Ap2r17 (sub (cmp (cmp d2 1).1 0).1 ⟨true, 2, 0, (wd 1)⟩).1.cs.length cp2r17, .slice Aj2r17 (sub (cmp (cmp d2 1).1 0).1 ⟨true, 2, 0, (wd 1)⟩).1.js.length cj2r17, .int .i64 (sub (cmp (cmp d2 1).1 0).1 ⟨true, 2, 0, (wd 1)⟩).1.room], .int .i64 (sub (cmp (cmp d2 1).1 0).1 ⟨true, 2, 0, (wd 1)⟩).2]) rfl (.inl rfl) (ev_move v167.eval _ rfl) ?_
          exact ⟨⟨_, rfl⟩, Ap2r17, cp2r17, Aj2r17, cj2r17, N6r17, bl, sz, b_B51, p_0, p_1, n_N6r17, o_2_0, o_2_1, cl_7_6, (fun _ => dp hdep 2), cl_4_2, cl_7_2, (so s_165), (so s_166), (so s_167), (fun _ => Sv.self (by rw [z]; decide) _), (so s_168), (so s_169), (so s_31), (so s_32)⟩
        | 4, _ =>
          obtain rfl := Option.some.inj (show some _ = some o from ho); clear ho
          have v164 := s_164 (dp hdep 3)
          refine dj_val (i := 4) (v := .agg #[.slice Ap2r17 (sub (cmp (cmp d2 1).1 0).1 ⟨true, 2, 0, (wd 1)⟩).1.cs.length cp2r17, .slice Aj2r17 (sub (cmp (cmp d2 1).1 0).1 ⟨true, 2, 0, (wd 1)⟩).1.js.length cj2r17, .int .i64 (sub (cmp (cmp d2 1).1 0).1 ⟨true, 2, 0, (wd 1)⟩).1.room]) rfl (.inl rfl) (ev_ext v164.eval rfl _ rfl) ?_
          exact ⟨⟨_, rfl⟩, Ap2r17, cp2r17, Aj2r17, cj2r17, N6r17, bl, sz, b_B51, p_0, p_1, n_N6r17, o_2_0, o_2_1, cl_7_6, cl_3_2, (fun _ => cl_3_2 (dp hdep 3)), cl_7_2, (so s_165), (so s_166), (so s_167), (so s_164), (fun _ => Sv.self (by rw [z]; decide) _), (so s_169), (so s_31), (so s_32)⟩
        | 5, _ =>
          obtain rfl := Option.some.inj (show some _ = some o from ho); clear ho
          have v164 := s_164 (dp hdep 3)
          refine dj_val (i := 5) (v := .int .i64 (sub (cmp (cmp d2 1).1 0).1 ⟨true, 2, 0, (wd 1)⟩).2) rfl (.inl rfl) (ev_ext v164.eval rfl _ rfl) ?_
          exact ⟨⟨_, rfl⟩, Ap2r17, cp2r17, Aj2r17, cj2r17, N6r17, bl, sz, b_B51, p_0, p_1, n_N6r17, o_2_0, o_2_1, cl_7_6, cl_3_2, cl_4_2, cl_7_2, (so s_165), (so s_166), (so s_167), (so s_164), (so s_168), (fun _ => Sv.self (by rw [z]; decide) _), (so s_31), (so s_32)⟩
        | 6, _ =>
          obtain rfl := Option.some.inj (show some _ = some o from ho); clear ho
          refine dj_val (i := 6) rfl (.inl rfl) (w' := wc.alloc (.cells (#[.slice none 0 0, .slice none 0 0, .int .i64 0]) 25)) (v := .pointer (some ⟨wc.heap.size, 0, none⟩)) (ev_alloc (z := .agg (#[.slice none 0 0, .slice none 0 0, .int .i64 0])) (by kernel_rfl) (by kernel_rfl) _ rfl) ?_
          have hx := Bx.new wc 25 (#[.slice none 0 0, .slice none 0 0, .int .i64 0])
          have hg := g0 (al wc (.cells (#[.slice none 0 0, .slice none 0 0, .int .i64 0]) 25))
          have e0 : L 7 = false := by
            cases hc : L 7
            · rfl
            · exact absurd (cl_7_6 hc) (by rw [hL]; decide)
          replace hx : Bx (wc.alloc (.cells (#[.slice none 0 0, .slice none 0 0, .int .i64 0]) 25)) wc.heap.size 25 (bif L 7 then (#[.slice Ap2r17 (sub (cmp (cmp d2 1).1 0).1 ⟨true, 2, 0, (wd 1)⟩).1.cs.length cp2r17, .slice Aj2r17 (sub (cmp (cmp d2 1).1 0).1 ⟨true, 2, 0, (wd 1)⟩).1.js.length cj2r17, .int .i64 (sub (cmp (cmp d2 1).1 0).1 ⟨true, 2, 0, (wd 1)⟩).1.room]) else (#[.slice none 0 0, .slice none 0 0, .int .i64 0])) := by rw [e0]; exact hx
          exact ⟨⟨_, rfl⟩, Ap2r17, cp2r17, Aj2r17, cj2r17, wc.heap.size, (Below.gN bl hg bl.size), (Nat.le_trans sz hg.size), (b_B51.gN hg), (Own.gN p_0 hg), (Own.gN p_1 hg), (fun _ => ⟨sz, hx⟩), (fun h => Own.gN (o_2_0 h) hg), (fun h => Own.gN (o_2_1 h) hg), (fun _ => rfl), cl_3_2, cl_4_2, cl_7_2, (so s_165), (so s_166), (so s_167), (so s_164), (so s_168), (so s_169), (fun _ => Sv.self (by rw [z]; decide) _), (so s_32)⟩
        | 7, _ =>
          obtain rfl := Option.some.inj (show some _ = some o from ho); clear ho
          have v31 := s_31 (dp hdep 6)
          have v168 := s_168 (dp hdep 4)
          have xN6r17 := (n_N6r17 (dp hdep 6)).2
          rw [hL] at xN6r17
          refine dj_skip (i := 7) rfl rfl (.inl rfl) (w' := wc.setRow N6r17 (#[.slice Ap2r17 (sub (cmp (cmp d2 1).1 0).1 ⟨true, 2, 0, (wd 1)⟩).1.cs.length cp2r17, .slice Aj2r17 (sub (cmp (cmp d2 1).1 0).1 ⟨true, 2, 0, (wd 1)⟩).1.js.length cj2r17, .int .i64 (sub (cmp (cmp d2 1).1 0).1 ⟨true, 2, 0, (wd 1)⟩).1.room])) (ev_srow v31.eval v168.eval xN6r17 (n := 3) (by kernel_rfl) rfl rfl (dk_one _ _ _ _ _ _ _) _ rfl) ?_
          have hg := grw xN6r17 (#[.slice Ap2r17 (sub (cmp (cmp d2 1).1 0).1 ⟨true, 2, 0, (wd 1)⟩).1.cs.length cp2r17, .slice Aj2r17 (sub (cmp (cmp d2 1).1 0).1 ⟨true, 2, 0, (wd 1)⟩).1.js.length cj2r17, .int .i64 (sub (cmp (cmp d2 1).1 0).1 ⟨true, 2, 0, (wd 1)⟩).1.room])
          have hx := xN6r17.row (#[.slice Ap2r17 (sub (cmp (cmp d2 1).1 0).1 ⟨true, 2, 0, (wd 1)⟩).1.cs.length cp2r17, .slice Aj2r17 (sub (cmp (cmp d2 1).1 0).1 ⟨true, 2, 0, (wd 1)⟩).1.js.length cj2r17, .int .i64 (sub (cmp (cmp d2 1).1 0).1 ⟨true, 2, 0, (wd 1)⟩).1.room])
          exact ⟨⟨undef, rfl⟩, Ap2r17, cp2r17, Aj2r17, cj2r17, N6r17, (Below.gB bl hg bl.size (by have := (n_N6r17 (dp hdep 6)).1; omega)), (Nat.le_trans sz hg.size), (b_B51.gB hg (by have := (n_N6r17 (dp hdep 6)).1; omega)), (Own.gB p_0 hg hh38_0 (by have := (n_N6r17 (dp hdep 6)).1; omega)), (Own.gB p_1 hg hh38_1 (by have := (n_N6r17 (dp hdep 6)).1; omega)), (fun h => ⟨(n_N6r17 h).1, hx⟩), (fun h => Own.gBT (o_2_0 h) hg xN6r17 (by decide)), (fun h => Own.gBT (o_2_1 h) hg xN6r17 (by decide)), (fun _ => dp hdep 6), cl_3_2, cl_4_2, (fun _ => cl_4_2 (dp hdep 4)), s_165, s_166, s_167, s_164, s_168, s_169, s_31, s_32⟩
        | 8, _ =>
          obtain rfl := Option.some.inj (show some _ = some o from ho); clear ho
          have v169 := s_169 (dp hdep 5)
          refine dj_val (i := 8) (v := .int .i64 (sub (cmp (cmp d2 1).1 0).1 ⟨true, 2, 0, (wd 1)⟩).2) rfl (.inl rfl) (ev_assign v169.eval _ rfl) ?_
          exact ⟨⟨_, rfl⟩, Ap2r17, cp2r17, Aj2r17, cj2r17, N6r17, bl, sz, b_B51, p_0, p_1, n_N6r17, o_2_0, o_2_1, cl_7_6, cl_3_2, cl_4_2, cl_7_2, (so s_165), (so s_166), (so s_167), (so s_164), (so s_168), (so s_169), (so s_31), (fun _ => Sv.self (by rw [z]; decide) _)⟩
        | k + 9, h => exact absurd h (by omega)
      · intro L hall ac483 wc483 hF hJ
        obtain ⟨Ap2r17, cp2r17, Aj2r17, cj2r17, N6r17, bl, sz, b_B51, p_0, p_1, n_N6r17, o_2_0, o_2_1, cl_7_6, cl_3_2, cl_4_2, cl_7_2, s_165, s_166, s_167, s_164, s_168, s_169, s_31, s_32⟩ := hJ
        have hA483 : Ag ac483 233 [(0, .bool false), (8, .pointer (some ⟨B51, 0, none⟩)), (17, .int .i64 (sub (cmp d2 1).1 ⟨true, 1, 8, (wd 2)⟩).2), (19, .int .i64 (sub (cmp d2 1).1 ⟨false, 0, 5, Ct.zero⟩).2), (21, .int .i64 (sub d2 ⟨false, 1, 9, Ct.zero⟩).2), (23, .int .i64 (nw 3 2).2), (24, .int .i64 (sub (nw 3 2).1 ⟨false, 0, 0, Ct.zero⟩).2), (25, .int .i64 (sub (sub (nw 3 2).1 ⟨false, 0, 0, Ct.zero⟩).1 ⟨false, 1, 1, Ct.zero⟩).2), (27, .int .i64 (sub (sub (sub (nw 3 2).1 ⟨false, 0, 0, Ct.zero⟩).1 ⟨false, 1, 1, Ct.zero⟩).1 ⟨false, 2, 2, Ct.zero⟩).2), (30, .int .i64 (cmp d2 2).2.2), (32, .int .i64 (sub (cmp (cmp d2 1).1 0).1 ⟨true, 2, 0, (wd 1)⟩).2)] := ((((((((((((Ag.nil (hF.1.trans hA482.1) (hF.2.1.trans hA482.2.1)).cons (s_32 (hall 8 (by decide)))).cons (hF.sv (s := 30) (by kernel_rfl) (hA482.get (i := 30) (v := .int .i64 (cmp d2 2).2.2)))).cons (hF.sv (s := 27) (by kernel_rfl) (hA482.get (i := 27) (v := .int .i64 (sub (sub (sub (nw 3 2).1 ⟨false, 0, 0, Ct.zero⟩).1 ⟨false, 1, 1, Ct.zero⟩).1 ⟨false, 2, 2, Ct.zero⟩).2)))).cons (hF.sv (s := 25) (by kernel_rfl) (hA482.get (i := 25) (v := .int .i64 (sub (sub (nw 3 2).1 ⟨false, 0, 0, Ct.zero⟩).1 ⟨false, 1, 1, Ct.zero⟩).2)))).cons (hF.sv (s := 24) (by kernel_rfl) (hA482.get (i := 24) (v := .int .i64 (sub (nw 3 2).1 ⟨false, 0, 0, Ct.zero⟩).2)))).cons (hF.sv (s := 23) (by kernel_rfl) (hA482.get (i := 23) (v := .int .i64 (nw 3 2).2)))).cons (hF.sv (s := 21) (by kernel_rfl) (hA482.get (i := 21) (v := .int .i64 (sub d2 ⟨false, 1, 9, Ct.zero⟩).2)))).cons (hF.sv (s := 19) (by kernel_rfl) (hA482.get (i := 19) (v := .int .i64 (sub (cmp d2 1).1 ⟨false, 0, 5, Ct.zero⟩).2)))).cons (hF.sv (s := 17) (by kernel_rfl) (hA482.get (i := 17) (v := .int .i64 (sub (cmp d2 1).1 ⟨true, 1, 8, (wd 2)⟩).2)))).cons (hF.sv (s := 8) (by kernel_rfl) (hA482.get (i := 8) (v := .pointer (some ⟨B51, 0, none⟩))))).cons (hF.sv (s := 0) (by kernel_rfl) (hA482.get (i := 0) (v := .bool false))))
        have bl483 := bl
        have sz483 := sz
        have b483_B51 := b_B51
        have p483_0 := p_0
        have p483_1 := p_1
        have n483_N6r17 := (n_N6r17 (hall 6 (by decide))).1
        have b483_N6r17 : Bx wc483 N6r17 25 (#[.slice Ap2r17 (sub (cmp (cmp d2 1).1 0).1 ⟨true, 2, 0, (wd 1)⟩).1.cs.length cp2r17, .slice Aj2r17 (sub (cmp (cmp d2 1).1 0).1 ⟨true, 2, 0, (wd 1)⟩).1.js.length cj2r17, .int .i64 (sub (cmp (cmp d2 1).1 0).1 ⟨true, 2, 0, (wd 1)⟩).1.room]) := by
          have h := (n_N6r17 (hall 6 (by decide))).2
          rw [hall 7 (by decide)] at h
          exact h
        have l483_N6r17 := b483_N6r17.lt
        have o483_2_0 := o_2_0 (hall 2 (by decide))
        have hh483_2_0 := Own.hi o483_2_0
        have o483_2_1 := o_2_1 (hall 2 (by decide))
        have hh483_2_1 := Own.hi o483_2_1
        clear hF bl sz b_B51 p_0 p_1 n_N6r17 o_2_0 o_2_1 cl_7_6 cl_3_2 cl_4_2 cl_7_2 s_165 s_166 s_167 s_164 s_168 s_169 s_31 s_32 hall hA482
        refine then_n ?_
        refine wp_seq ?_
        refine wp_region_lit ?_
        refine sx_val (v := .agg #[.slice Ap38 (cmp (cmp d2 1).1 0).1.cs.length cp38, .slice Aj38 (cmp (cmp d2 1).1 0).1.js.length cj38, .int .i64 (cmp (cmp d2 1).1 0).1.room]) hA483 rfl (ev_row (hA483.ev (i := 8) (v := .pointer (some ⟨B51, 0, none⟩))) b483_B51 Try.underlying25 rfl (n := 3) (by kernel_rfl) rfl _ rfl) ?_
        intro a484 hA484; clear hA483
        refine sx_call (f := 15) (args := #[.agg #[.slice Ap38 (cmp (cmp d2 1).1 0).1.cs.length cp38, .slice Aj38 (cmp (cmp d2 1).1 0).1.js.length cj38, .int .i64 (cmp (cmp d2 1).1 0).1.room], .int .i64 0, .int .i64 256]) hA484 rfl (by decide) (.inl rfl) (ev_fn rfl (mp3 (hA484.ev (i := 171) (v := .agg #[.slice Ap38 (cmp (cmp d2 1).1 0).1.cs.length cp38, .slice Aj38 (cmp (cmp d2 1).1 0).1.js.length cj38, .int .i64 (cmp (cmp d2 1).1 0).1.room])) (ec _ (.int .i64 0)) (ec _ (.int .i64 256))) (by kernel_rfl) _ rfl) (Read_any Ap38 cp38 Aj38 cj38 (cmp (cmp d2 1).1 0).1.cs (cmp (cmp d2 1).1 0).1.js (cmp (cmp d2 1).1 0).1.room 0 256 _ ⟨(OwnR.gr (e := 28) ⟨rfl, p483_0⟩), (OwnR.gr (e := 38) ⟨rfl, p483_1⟩)⟩ (by decide) (by decide)) ?_
        intro e485 w485 hR485
        obtain ⟨Ap485, cp485, Aj485, cj485, rfl, hC485, hJ485, hb485⟩ := hR485
        refine ⟨_, rfl, ?_⟩
        intro a485 hA485
        clear hA484
        have hg485 := g0 hb485
        have hs485 := hg485.size
        clear hb485
        have ho485_0 : Own w485 (wc483.heap.size) 28 8 (.slice Ap485 (sub (cmp (cmp d2 1).1 0).1 ⟨false, 0, 256, Ct.zero⟩).1.cs.length cp485) (sub (cmp (cmp d2 1).1 0).1 ⟨false, 0, 256, Ct.zero⟩).1.cs.length (flat Ct.va (sub (cmp (cmp d2 1).1 0).1 ⟨false, 0, 256, Ct.zero⟩).1.cs) := hC485.2
        have hh485_0 := Own.hi ho485_0
        have ho485_1 : Own w485 (wc483.heap.size) 38 11 (.slice Aj485 (sub (cmp (cmp d2 1).1 0).1 ⟨false, 0, 256, Ct.zero⟩).1.js.length cj485) (sub (cmp (cmp d2 1).1 0).1 ⟨false, 0, 256, Ct.zero⟩).1.js.length (flat Jb.va (sub (cmp (cmp d2 1).1 0).1 ⟨false, 0, 256, Ct.zero⟩).1.js) := hJ485.2
        have hh485_1 := Own.hi ho485_1
        refine sx_val hA485 rfl (ev_move (hA485.ev (i := 172) (v := .tuple #[.agg #[.slice Ap485 (sub (cmp (cmp d2 1).1 0).1 ⟨false, 0, 256, Ct.zero⟩).1.cs.length cp485, .slice Aj485 (sub (cmp (cmp d2 1).1 0).1 ⟨false, 0, 256, Ct.zero⟩).1.js.length cj485, .int .i64 (sub (cmp (cmp d2 1).1 0).1 ⟨false, 0, 256, Ct.zero⟩).1.room], .int .i64 (sub (cmp (cmp d2 1).1 0).1 ⟨false, 0, 256, Ct.zero⟩).2])) _ rfl) ?_
        intro a486 hA486; clear hA485
        refine sx_val (v := .agg #[.slice Ap485 (sub (cmp (cmp d2 1).1 0).1 ⟨false, 0, 256, Ct.zero⟩).1.cs.length cp485, .slice Aj485 (sub (cmp (cmp d2 1).1 0).1 ⟨false, 0, 256, Ct.zero⟩).1.js.length cj485, .int .i64 (sub (cmp (cmp d2 1).1 0).1 ⟨false, 0, 256, Ct.zero⟩).1.room]) hA486 rfl (ev_ext (hA486.ev (i := 170) (v := .tuple #[.agg #[.slice Ap485 (sub (cmp (cmp d2 1).1 0).1 ⟨false, 0, 256, Ct.zero⟩).1.cs.length cp485, .slice Aj485 (sub (cmp (cmp d2 1).1 0).1 ⟨false, 0, 256, Ct.zero⟩).1.js.length cj485, .int .i64 (sub (cmp (cmp d2 1).1 0).1 ⟨false, 0, 256, Ct.zero⟩).1.room], .int .i64 (sub (cmp (cmp d2 1).1 0).1 ⟨false, 0, 256, Ct.zero⟩).2])) rfl _ rfl) ?_
        intro a487 hA487; clear hA486
        refine sx_val (v := .int .i64 (sub (cmp (cmp d2 1).1 0).1 ⟨false, 0, 256, Ct.zero⟩).2) hA487 rfl (ev_ext (hA487.ev (i := 170) (v := .tuple #[.agg #[.slice Ap485 (sub (cmp (cmp d2 1).1 0).1 ⟨false, 0, 256, Ct.zero⟩).1.cs.length cp485, .slice Aj485 (sub (cmp (cmp d2 1).1 0).1 ⟨false, 0, 256, Ct.zero⟩).1.js.length cj485, .int .i64 (sub (cmp (cmp d2 1).1 0).1 ⟨false, 0, 256, Ct.zero⟩).1.room], .int .i64 (sub (cmp (cmp d2 1).1 0).1 ⟨false, 0, 256, Ct.zero⟩).2])) rfl _ rfl) ?_
        intro a488 hA488; clear hA487
        refine sx_new (cs := #[.slice none 0 0, .slice none 0 0, .int .i64 0]) (t := 25) hA488 rfl (by decide) (.inl rfl) (ev_alloc (z := .agg (#[.slice none 0 0, .slice none 0 0, .int .i64 0])) (by kernel_rfl) (by kernel_rfl) _ rfl) ?_
        intro B489 w489 a489 hB489 hx489 hg489 hA489
        clear hA488
        have hs489 := hg489.size
        have hl489 := hx489.lt
        refine sx_store hA489 rfl (.inl rfl) rfl (hA489.ev (i := 33) (v := .pointer (some ⟨B489, 0, none⟩))) (hA489.ev (i := 173) (v := .agg #[.slice Ap485 (sub (cmp (cmp d2 1).1 0).1 ⟨false, 0, 256, Ct.zero⟩).1.cs.length cp485, .slice Aj485 (sub (cmp (cmp d2 1).1 0).1 ⟨false, 0, 256, Ct.zero⟩).1.js.length cj485, .int .i64 (sub (cmp (cmp d2 1).1 0).1 ⟨false, 0, 256, Ct.zero⟩).1.room])) hx489 (by kernel_rfl) rfl (dk_one _ _ _ _ _ _ _) ?_
        intro w490 hx490 hg490
        have hs490 := hg490.size
        refine sx_val hA489 rfl (ev_assign (hA489.ev (i := 174) (v := .int .i64 (sub (cmp (cmp d2 1).1 0).1 ⟨false, 0, 256, Ct.zero⟩).2)) _ rfl) ?_
        intro a491 hA491; clear hA489
        refine sx_nil ?_
        refine then_n ?_
        refine wp_seq ?_
        refine wp_region_lit ?_
        refine sx_call (f := 22) (args := #[.int .i64 0, .int .i64 1]) hA491 rfl (by decide) (.inl rfl) (ev_fn rfl (mp2 (ec _ (.int .i64 0)) (ec _ (.int .i64 1))) (by kernel_rfl) _ rfl) (New_any 0 1 _) ?_
        intro e492 w492 hR492
        obtain ⟨Ap492, cp492, Aj492, cj492, rfl, hC492, hJ492, hb492⟩ := hR492
        refine ⟨_, rfl, ?_⟩
        intro a492 hA492
        clear hA491
        have hg492 := g0 hb492
        have hs492 := hg492.size
        clear hb492
        have ho492_0 : Own w492 (w490.heap.size) 28 8 (.slice Ap492 (nw 0 1).1.cs.length cp492) (nw 0 1).1.cs.length (flat Ct.va (nw 0 1).1.cs) := hC492.2
        have hh492_0 := Own.hi ho492_0
        have ho492_1 : Own w492 (w490.heap.size) 38 11 (.slice Aj492 (nw 0 1).1.js.length cj492) (nw 0 1).1.js.length (flat Jb.va (nw 0 1).1.js) := hJ492.2
        have hh492_1 := Own.hi ho492_1
        refine sx_val hA492 rfl (ev_move (hA492.ev (i := 176) (v := .tuple #[.agg #[.slice Ap492 (nw 0 1).1.cs.length cp492, .slice Aj492 (nw 0 1).1.js.length cj492, .int .i64 (nw 0 1).1.room], .int .i64 (nw 0 1).2])) _ rfl) ?_
        intro a493 hA493; clear hA492
        refine sx_val (v := .agg #[.slice Ap492 (nw 0 1).1.cs.length cp492, .slice Aj492 (nw 0 1).1.js.length cj492, .int .i64 (nw 0 1).1.room]) hA493 rfl (ev_ext (hA493.ev (i := 175) (v := .tuple #[.agg #[.slice Ap492 (nw 0 1).1.cs.length cp492, .slice Aj492 (nw 0 1).1.js.length cj492, .int .i64 (nw 0 1).1.room], .int .i64 (nw 0 1).2])) rfl _ rfl) ?_
        intro a494 hA494; clear hA493
        refine sx_val (v := .int .i64 (nw 0 1).2) hA494 rfl (ev_ext (hA494.ev (i := 175) (v := .tuple #[.agg #[.slice Ap492 (nw 0 1).1.cs.length cp492, .slice Aj492 (nw 0 1).1.js.length cj492, .int .i64 (nw 0 1).1.room], .int .i64 (nw 0 1).2])) rfl _ rfl) ?_
        intro a495 hA495; clear hA494
        refine sx_new (cs := #[.slice none 0 0, .slice none 0 0, .int .i64 0]) (t := 25) hA495 rfl (by decide) (.inl rfl) (ev_alloc (z := .agg (#[.slice none 0 0, .slice none 0 0, .int .i64 0])) (by kernel_rfl) (by kernel_rfl) _ rfl) ?_
        intro B496 w496 a496 hB496 hx496 hg496 hA496
        clear hA495
        have hs496 := hg496.size
        have hl496 := hx496.lt
        refine sx_store hA496 rfl (.inl rfl) rfl (hA496.ev (i := 35) (v := .pointer (some ⟨B496, 0, none⟩))) (hA496.ev (i := 177) (v := .agg #[.slice Ap492 (nw 0 1).1.cs.length cp492, .slice Aj492 (nw 0 1).1.js.length cj492, .int .i64 (nw 0 1).1.room])) hx496 (by kernel_rfl) rfl (dk_one _ _ _ _ _ _ _) ?_
        intro w497 hx497 hg497
        have hs497 := hg497.size
        refine sx_val hA496 rfl (ev_assign (hA496.ev (i := 178) (v := .int .i64 (nw 0 1).2)) _ rfl) ?_
        intro a498 hA498; clear hA496
        refine sx_nil ?_
        refine then_n ?_
        refine wp_seq ?_
        refine wp_region_lit ?_
        refine sx_call (f := 22) (args := #[.int .i64 1, .int .i64 33]) hA498 rfl (by decide) (.inl rfl) (ev_fn rfl (mp2 (ec _ (.int .i64 1)) (ec _ (.int .i64 33))) (by kernel_rfl) _ rfl) (New_any 1 33 _) ?_
        intro e499 w499 hR499
        obtain ⟨Ap499, cp499, Aj499, cj499, rfl, hC499, hJ499, hb499⟩ := hR499
        refine ⟨_, rfl, ?_⟩
        intro a499 hA499
        clear hA498
        have hg499 := g0 hb499
        have hs499 := hg499.size
        clear hb499
        have ho499_0 : Own w499 (w497.heap.size) 28 8 (.slice Ap499 (nw 1 33).1.cs.length cp499) (nw 1 33).1.cs.length (flat Ct.va (nw 1 33).1.cs) := hC499.2
        have hh499_0 := Own.hi ho499_0
        have ho499_1 : Own w499 (w497.heap.size) 38 11 (.slice Aj499 (nw 1 33).1.js.length cj499) (nw 1 33).1.js.length (flat Jb.va (nw 1 33).1.js) := hJ499.2
        have hh499_1 := Own.hi ho499_1
        refine sx_val hA499 rfl (ev_move (hA499.ev (i := 180) (v := .tuple #[.agg #[.slice Ap499 (nw 1 33).1.cs.length cp499, .slice Aj499 (nw 1 33).1.js.length cj499, .int .i64 (nw 1 33).1.room], .int .i64 (nw 1 33).2])) _ rfl) ?_
        intro a500 hA500; clear hA499
        refine sx_val (v := .agg #[.slice Ap499 (nw 1 33).1.cs.length cp499, .slice Aj499 (nw 1 33).1.js.length cj499, .int .i64 (nw 1 33).1.room]) hA500 rfl (ev_ext (hA500.ev (i := 179) (v := .tuple #[.agg #[.slice Ap499 (nw 1 33).1.cs.length cp499, .slice Aj499 (nw 1 33).1.js.length cj499, .int .i64 (nw 1 33).1.room], .int .i64 (nw 1 33).2])) rfl _ rfl) ?_
        intro a501 hA501; clear hA500
        refine sx_val (v := .int .i64 (nw 1 33).2) hA501 rfl (ev_ext (hA501.ev (i := 179) (v := .tuple #[.agg #[.slice Ap499 (nw 1 33).1.cs.length cp499, .slice Aj499 (nw 1 33).1.js.length cj499, .int .i64 (nw 1 33).1.room], .int .i64 (nw 1 33).2])) rfl _ rfl) ?_
        intro a502 hA502; clear hA501
        refine sx_new (cs := #[.slice none 0 0, .slice none 0 0, .int .i64 0]) (t := 25) hA502 rfl (by decide) (.inl rfl) (ev_alloc (z := .agg (#[.slice none 0 0, .slice none 0 0, .int .i64 0])) (by kernel_rfl) (by kernel_rfl) _ rfl) ?_
        intro B503 w503 a503 hB503 hx503 hg503 hA503
        clear hA502
        have hs503 := hg503.size
        have hl503 := hx503.lt
        refine sx_store hA503 rfl (.inl rfl) rfl (hA503.ev (i := 37) (v := .pointer (some ⟨B503, 0, none⟩))) (hA503.ev (i := 181) (v := .agg #[.slice Ap499 (nw 1 33).1.cs.length cp499, .slice Aj499 (nw 1 33).1.js.length cj499, .int .i64 (nw 1 33).1.room])) hx503 (by kernel_rfl) rfl (dk_one _ _ _ _ _ _ _) ?_
        intro w504 hx504 hg504
        have hs504 := hg504.size
        refine sx_val hA503 rfl (ev_assign (hA503.ev (i := 182) (v := .int .i64 (nw 1 33).2)) _ rfl) ?_
        intro a505 hA505; clear hA503
        refine sx_nil ?_
        refine then_n ?_
        refine wp_seq ?_
        refine wp_region_lit ?_
        refine sx_val hA505 rfl (ev_move (hA505.ev (i := 17) (v := .int .i64 (sub (cmp d2 1).1 ⟨true, 1, 8, (wd 2)⟩).2)) _ rfl) ?_
        intro a506 hA506; clear hA505
        refine sx_val (v := .bool true) hA506 rfl (ev_eqlB (k := .i64) (m := (sub (cmp d2 1).1 ⟨true, 1, 8, (wd 2)⟩).2) (n := 10) (hA506.ev (i := 183)) (ec _ (.int .i64 10)) (by kernel_rfl) _ rfl) ?_
        intro a507 hA507; clear hA506
        refine sx_val hA507 rfl (ev_move (hA507.ev (i := 184) (v := .bool true)) _ rfl) ?_
        intro a508 hA508; clear hA507
        refine sx_val (hg := (.inr ⟨2, true, 185, rfl, rfl, by kernel_rfl⟩)) hA508 rfl (ev_move (hA508.ev (i := 19) (v := .int .i64 (sub (cmp d2 1).1 ⟨false, 0, 5, Ct.zero⟩).2)) _ rfl) ?_
        intro a509 hA509; clear hA508
        refine sx_val (hg := (.inr ⟨2, true, 185, rfl, rfl, by kernel_rfl⟩)) (v := .bool true) hA509 rfl (ev_eqlB (k := .i64) (m := (sub (cmp d2 1).1 ⟨false, 0, 5, Ct.zero⟩).2) (n := 10) (hA509.ev (i := 186)) (ec _ (.int .i64 10)) (by kernel_rfl) _ rfl) ?_
        intro a510 hA510; clear hA509
        refine sx_val hA510 rfl (ev_pickT (hA510.ev (i := 185) (v := .bool true)) (hA510.ev (i := 187) (v := .bool true)) _ rfl) ?_
        intro a511 hA511; clear hA510
        refine sx_val hA511 rfl (ev_move (hA511.ev (i := 188) (v := .bool true)) _ rfl) ?_
        intro a512 hA512; clear hA511
        refine sx_val (hg := (.inr ⟨6, true, 189, rfl, rfl, by kernel_rfl⟩)) hA512 rfl (ev_move (hA512.ev (i := 21) (v := .int .i64 (sub d2 ⟨false, 1, 9, Ct.zero⟩).2)) _ rfl) ?_
        intro a513 hA513; clear hA512
        refine sx_val (hg := (.inr ⟨6, true, 189, rfl, rfl, by kernel_rfl⟩)) (v := .bool true) hA513 rfl (ev_eqlB (k := .i64) (m := (sub d2 ⟨false, 1, 9, Ct.zero⟩).2) (n := 10) (hA513.ev (i := 190)) (ec _ (.int .i64 10)) (by kernel_rfl) _ rfl) ?_
        intro a514 hA514; clear hA513
        refine sx_val hA514 rfl (ev_pickT (hA514.ev (i := 189) (v := .bool true)) (hA514.ev (i := 191) (v := .bool true)) _ rfl) ?_
        intro a515 hA515; clear hA514
        refine sx_val hA515 rfl (ev_move (hA515.ev (i := 192) (v := .bool true)) _ rfl) ?_
        intro a516 hA516; clear hA515
        refine sx_val (hg := (.inr ⟨10, true, 193, rfl, rfl, by kernel_rfl⟩)) hA516 rfl (ev_move (hA516.ev (i := 23) (v := .int .i64 (nw 3 2).2)) _ rfl) ?_
        intro a517 hA517; clear hA516
        refine sx_val (hg := (.inr ⟨10, true, 193, rfl, rfl, by kernel_rfl⟩)) (v := .bool true) hA517 rfl (ev_eqlB (k := .i64) (m := (nw 3 2).2) (n := 0) (hA517.ev (i := 194)) (ec _ (.int .i64 0)) (by kernel_rfl) _ rfl) ?_
        intro a518 hA518; clear hA517
        refine sx_val hA518 rfl (ev_pickT (hA518.ev (i := 193) (v := .bool true)) (hA518.ev (i := 195) (v := .bool true)) _ rfl) ?_
        intro a519 hA519; clear hA518
        refine sx_val hA519 rfl (ev_move (hA519.ev (i := 196) (v := .bool true)) _ rfl) ?_
        intro a520 hA520; clear hA519
        refine sx_val (hg := (.inr ⟨14, true, 197, rfl, rfl, by kernel_rfl⟩)) hA520 rfl (ev_move (hA520.ev (i := 24) (v := .int .i64 (sub (nw 3 2).1 ⟨false, 0, 0, Ct.zero⟩).2)) _ rfl) ?_
        intro a521 hA521; clear hA520
        refine sx_val (hg := (.inr ⟨14, true, 197, rfl, rfl, by kernel_rfl⟩)) (v := .bool true) hA521 rfl (ev_eqlB (k := .i64) (m := (sub (nw 3 2).1 ⟨false, 0, 0, Ct.zero⟩).2) (n := 0) (hA521.ev (i := 198)) (ec _ (.int .i64 0)) (by kernel_rfl) _ rfl) ?_
        intro a522 hA522; clear hA521
        refine sx_val hA522 rfl (ev_pickT (hA522.ev (i := 197) (v := .bool true)) (hA522.ev (i := 199) (v := .bool true)) _ rfl) ?_
        intro a523 hA523; clear hA522
        refine sx_val hA523 rfl (ev_move (hA523.ev (i := 200) (v := .bool true)) _ rfl) ?_
        intro a524 hA524; clear hA523
        refine sx_val (hg := (.inr ⟨18, true, 201, rfl, rfl, by kernel_rfl⟩)) hA524 rfl (ev_move (hA524.ev (i := 25) (v := .int .i64 (sub (sub (nw 3 2).1 ⟨false, 0, 0, Ct.zero⟩).1 ⟨false, 1, 1, Ct.zero⟩).2)) _ rfl) ?_
        intro a525 hA525; clear hA524
        refine sx_val (hg := (.inr ⟨18, true, 201, rfl, rfl, by kernel_rfl⟩)) (v := .bool true) hA525 rfl (ev_eqlB (k := .i64) (m := (sub (sub (nw 3 2).1 ⟨false, 0, 0, Ct.zero⟩).1 ⟨false, 1, 1, Ct.zero⟩).2) (n := 0) (hA525.ev (i := 202)) (ec _ (.int .i64 0)) (by kernel_rfl) _ rfl) ?_
        intro a526 hA526; clear hA525
        refine sx_val hA526 rfl (ev_pickT (hA526.ev (i := 201) (v := .bool true)) (hA526.ev (i := 203) (v := .bool true)) _ rfl) ?_
        intro a527 hA527; clear hA526
        refine sx_val hA527 rfl (ev_move (hA527.ev (i := 204) (v := .bool true)) _ rfl) ?_
        intro a528 hA528; clear hA527
        refine sx_val (hg := (.inr ⟨22, true, 205, rfl, rfl, by kernel_rfl⟩)) hA528 rfl (ev_move (hA528.ev (i := 27) (v := .int .i64 (sub (sub (sub (nw 3 2).1 ⟨false, 0, 0, Ct.zero⟩).1 ⟨false, 1, 1, Ct.zero⟩).1 ⟨false, 2, 2, Ct.zero⟩).2)) _ rfl) ?_
        intro a529 hA529; clear hA528
        refine sx_val (hg := (.inr ⟨22, true, 205, rfl, rfl, by kernel_rfl⟩)) (v := .bool true) hA529 rfl (ev_eqlB (k := .i64) (m := (sub (sub (sub (nw 3 2).1 ⟨false, 0, 0, Ct.zero⟩).1 ⟨false, 1, 1, Ct.zero⟩).1 ⟨false, 2, 2, Ct.zero⟩).2) (n := 5) (hA529.ev (i := 206)) (ec _ (.int .i64 5)) (by kernel_rfl) _ rfl) ?_
        intro a530 hA530; clear hA529
        refine sx_val hA530 rfl (ev_pickT (hA530.ev (i := 205) (v := .bool true)) (hA530.ev (i := 207) (v := .bool true)) _ rfl) ?_
        intro a531 hA531; clear hA530
        refine sx_val hA531 rfl (ev_move (hA531.ev (i := 208) (v := .bool true)) _ rfl) ?_
        intro a532 hA532; clear hA531
        refine sx_val (hg := (.inr ⟨26, true, 209, rfl, rfl, by kernel_rfl⟩)) hA532 rfl (ev_move (hA532.ev (i := 30) (v := .int .i64 (cmp d2 2).2.2)) _ rfl) ?_
        intro a533 hA533; clear hA532
        refine sx_val (hg := (.inr ⟨26, true, 209, rfl, rfl, by kernel_rfl⟩)) (v := .bool true) hA533 rfl (ev_eqlB (k := .i64) (m := (cmp d2 2).2.2) (n := 6) (hA533.ev (i := 210)) (ec _ (.int .i64 6)) (by kernel_rfl) _ rfl) ?_
        intro a534 hA534; clear hA533
        refine sx_val hA534 rfl (ev_pickT (hA534.ev (i := 209) (v := .bool true)) (hA534.ev (i := 211) (v := .bool true)) _ rfl) ?_
        intro a535 hA535; clear hA534
        refine sx_val hA535 rfl (ev_assign (hA535.ev (i := 212) (v := .bool true)) _ rfl) ?_
        intro a536 hA536; clear hA535
        refine sx_nil ?_
        refine then_n ?_
        refine wp_seq ?_
        refine wp_region_lit ?_
        refine sx_call (f := 10) (args := #[]) hA536 rfl (by decide) (.inl rfl) (ev_fn rfl (mp0 ) (by kernel_rfl) _ rfl) (awake_any _) ?_
        intro e537 w537 hR537
        obtain ⟨rfl, hb537⟩ := hR537
        refine ⟨_, rfl, ?_⟩
        intro a537 hA537
        clear hA536
        have hg537 := g0 hb537
        have hs537 := hg537.size
        clear hb537
        refine sx_val hA537 rfl (ev_move (hA537.ev (i := 213) (v := .bool true)) _ rfl) ?_
        intro a538 hA538; clear hA537
        refine sx_val (hg := (.inr ⟨1, true, 214, rfl, rfl, by kernel_rfl⟩)) hA538 rfl (ev_move (hA538.ev (i := 39) (v := .bool true)) _ rfl) ?_
        intro a539 hA539; clear hA538
        refine sx_val hA539 rfl (ev_pickT (hA539.ev (i := 214) (v := .bool true)) (hA539.ev (i := 215) (v := .bool true)) _ rfl) ?_
        intro a540 hA540; clear hA539
        refine sx_val hA540 rfl (ev_move (hA540.ev (i := 216) (v := .bool true)) _ rfl) ?_
        intro a541 hA541; clear hA540
        refine sx_val (hg := (.inr ⟨4, true, 217, rfl, rfl, by kernel_rfl⟩)) hA541 rfl (ev_move (hA541.ev (i := 32) (v := .int .i64 (sub (cmp (cmp d2 1).1 0).1 ⟨true, 2, 0, (wd 1)⟩).2)) _ rfl) ?_
        intro a542 hA542; clear hA541
        refine sx_val (hg := (.inr ⟨4, true, 217, rfl, rfl, by kernel_rfl⟩)) (v := .bool true) hA542 rfl (ev_eqlB (k := .i64) (m := (sub (cmp (cmp d2 1).1 0).1 ⟨true, 2, 0, (wd 1)⟩).2) (n := 2) (hA542.ev (i := 218)) (ec _ (.int .i64 2)) (by kernel_rfl) _ rfl) ?_
        intro a543 hA543; clear hA542
        refine sx_val hA543 rfl (ev_pickT (hA543.ev (i := 217) (v := .bool true)) (hA543.ev (i := 219) (v := .bool true)) _ rfl) ?_
        intro a544 hA544; clear hA543
        refine sx_val hA544 rfl (ev_move (hA544.ev (i := 220) (v := .bool true)) _ rfl) ?_
        intro a545 hA545; clear hA544
        refine sx_val (hg := (.inr ⟨8, true, 221, rfl, rfl, by kernel_rfl⟩)) hA545 rfl (ev_move (hA545.ev (i := 34) (v := .int .i64 (sub (cmp (cmp d2 1).1 0).1 ⟨false, 0, 256, Ct.zero⟩).2)) _ rfl) ?_
        intro a546 hA546; clear hA545
        refine sx_val (hg := (.inr ⟨8, true, 221, rfl, rfl, by kernel_rfl⟩)) (v := .bool true) hA546 rfl (ev_eqlB (k := .i64) (m := (sub (cmp (cmp d2 1).1 0).1 ⟨false, 0, 256, Ct.zero⟩).2) (n := 2) (hA546.ev (i := 222)) (ec _ (.int .i64 2)) (by kernel_rfl) _ rfl) ?_
        intro a547 hA547; clear hA546
        refine sx_val hA547 rfl (ev_pickT (hA547.ev (i := 221) (v := .bool true)) (hA547.ev (i := 223) (v := .bool true)) _ rfl) ?_
        intro a548 hA548; clear hA547
        refine sx_val hA548 rfl (ev_move (hA548.ev (i := 224) (v := .bool true)) _ rfl) ?_
        intro a549 hA549; clear hA548
        refine sx_val (hg := (.inr ⟨12, true, 225, rfl, rfl, by kernel_rfl⟩)) hA549 rfl (ev_move (hA549.ev (i := 36) (v := .int .i64 (nw 0 1).2)) _ rfl) ?_
        intro a550 hA550; clear hA549
        refine sx_val (hg := (.inr ⟨12, true, 225, rfl, rfl, by kernel_rfl⟩)) (v := .bool true) hA550 rfl (ev_eqlB (k := .i64) (m := (nw 0 1).2) (n := 2) (hA550.ev (i := 226)) (ec _ (.int .i64 2)) (by kernel_rfl) _ rfl) ?_
        intro a551 hA551; clear hA550
        refine sx_val hA551 rfl (ev_pickT (hA551.ev (i := 225) (v := .bool true)) (hA551.ev (i := 227) (v := .bool true)) _ rfl) ?_
        intro a552 hA552; clear hA551
        refine sx_val hA552 rfl (ev_move (hA552.ev (i := 228) (v := .bool true)) _ rfl) ?_
        intro a553 hA553; clear hA552
        refine sx_val (hg := (.inr ⟨16, true, 229, rfl, rfl, by kernel_rfl⟩)) hA553 rfl (ev_move (hA553.ev (i := 38) (v := .int .i64 (nw 1 33).2)) _ rfl) ?_
        intro a554 hA554; clear hA553
        refine sx_val (hg := (.inr ⟨16, true, 229, rfl, rfl, by kernel_rfl⟩)) (v := .bool true) hA554 rfl (ev_eqlB (k := .i64) (m := (nw 1 33).2) (n := 2) (hA554.ev (i := 230)) (ec _ (.int .i64 2)) (by kernel_rfl) _ rfl) ?_
        intro a555 hA555; clear hA554
        refine sx_val hA555 rfl (ev_pickT (hA555.ev (i := 229) (v := .bool true)) (hA555.ev (i := 231) (v := .bool true)) _ rfl) ?_
        intro a556 hA556; clear hA555
        refine sx_val hA556 rfl (ev_assign (hA556.ev (i := 232) (v := .bool true)) _ rfl) ?_
        intro a557 hA557; clear hA556
        refine sx_nil ?_
        refine then_n ?_
        refine wp_ret ?_
        refine bodyPost_ret (rs_t (v := .bool true) Try.results5 hA557 (by kernel_rfl) ) hA557.2.1 ?_
        have bl483_558 := Below.gN bl483 hg485 bl483.size
        have bl483_559 := Below.gN bl483_558 hg489 bl483_558.size
        have bl483_560 := Below.gB bl483_559 hg490 bl483_559.size (by omega)
        have bl483_561 := Below.gN bl483_560 hg492 bl483_560.size
        have bl483_562 := Below.gN bl483_561 hg496 bl483_561.size
        have bl483_563 := Below.gB bl483_562 hg497 bl483_562.size (by omega)
        have bl483_564 := Below.gN bl483_563 hg499 bl483_563.size
        have bl483_565 := Below.gN bl483_564 hg503 bl483_564.size
        have bl483_566 := Below.gB bl483_565 hg504 bl483_565.size (by omega)
        have bl483_567 := Below.gN bl483_566 hg537 bl483_566.size
        exact ⟨rfl, bl483_567⟩
end Go.Proofs.Ytbkdimildnahaaa
