/- The law: SlotsKnown. -/
import Derived.Test.YtpoilgfblhacaaaKJ
namespace Go.Proofs.Ytpoilgfblhacaaa
open Go.RowKit
set_option linter.unusedVariables false
set_option linter.unusedSimpArgs false
set_option maxRecDepth 100000

set_option maxHeartbeats 32000000 in
theorem Known_any (w : World) : Calls Try.prog 5 #[] w (RetB w (.returned (.bool true))) := by
  have hbel0 := below0 w
  refine sx_enter (N := 216) [] Try.func5 rfl Try.ntmps5 (by simp) (fun a z d s => (Ag.nil z d)) ?_
  intro a0 hA0
  refine wp_seq ?_
  refine wp_region_lit ?_
  refine sx_val hA0 rfl (ev_assign (ec _ (.bool false)) _ rfl) ?_
  intro a1 hA1; clear hA0
  refine sx_nil ?_
  refine then_n ?_
  refine wp_seq ?_
  refine wp_region_lit ?_
  refine sx_bs (n := 2) (cs := (flat iva [1002, 1001]).toArray) (e := 3) hA1 rfl (by decide) (.inl rfl) (bsI2 (ec _ (.int .i64 1002)) (ec _ (.int .i64 1001)) _ rfl) ?_
  intro B2 w2 a2 hB2 hx2 hg2 hA2
  clear hA1
  have hs2 := hg2.size
  have hl2 := hx2.lt
  have ho2 := Own.bxn (n := 2) hx2 iva_sz rfl (by decide)
  have hh2 := Own.hi ho2
  refine sx_call (f := 30) (args := #[.slice (some ⟨B2, 0, none⟩) 2 2]) hA2 rfl (by decide) (.inl rfl) (ev_fn rfl (mp1 (hA2.ev (i := 34) (v := .slice (some ⟨B2, 0, none⟩) 2 2))) (by kernel_rfl) _ rfl) (of_any (some ⟨B2, 0, none⟩) 2 [1002, 1001] _ (OwnR.gr (e := 3) ⟨rfl, ho2⟩) (by decide) (by decide)) ?_
  intro e3 w3 hR3
  obtain ⟨Ap3, cp3, Aj3, cj3, rfl, hC3, hJ3, hb3⟩ := hR3
  refine ⟨_, rfl, ?_⟩
  intro a3 hA3
  clear hA2
  have hg3 := g0 hb3
  have hs3 := hg3.size
  clear hb3
  have ho3_0 : Own w3 (w2.heap.size) 3 1 (.slice Ap3 (ofS [1002, 1001]).rs.length cp3) (ofS [1002, 1001]).rs.length (flat iva (ofS [1002, 1001]).rs) := hC3
  have hh3_0 := Own.hi ho3_0
  have ho3_1 : Own w3 (w2.heap.size) 4 1 (.slice Aj3 (ofS [1002, 1001]).bs.length cj3) (ofS [1002, 1001]).bs.length (flat bva (ofS [1002, 1001]).bs) := hJ3
  have hh3_1 := Own.hi ho3_1
  refine sx_call (f := 22) (args := #[.agg #[.slice Ap3 (ofS [1002, 1001]).rs.length cp3, .slice Aj3 (ofS [1002, 1001]).bs.length cj3], .int .i64 1]) hA3 rfl (by decide) (.inl rfl) (ev_fn rfl (mp2 (hA3.ev (i := 35) (v := .agg #[.slice Ap3 (ofS [1002, 1001]).rs.length cp3, .slice Aj3 (ofS [1002, 1001]).bs.length cj3])) (ec _ (.int .i64 1))) (by kernel_rfl) _ rfl) (Alloc_any Ap3 cp3 Aj3 cj3 (ofS [1002, 1001]).rs (ofS [1002, 1001]).bs 1 _ ⟨(OwnR.gr (e := 3) ⟨rfl, ho3_0⟩), (OwnR.gr (e := 4) ⟨rfl, ho3_1⟩)⟩ (by decide) (by decide)) ?_
  intro e4 w4 hR4
  obtain ⟨Ap4, cp4, Aj4, cj4, rfl, hC4, hJ4, hb4⟩ := hR4
  refine ⟨_, rfl, ?_⟩
  intro a4 hA4
  clear hA3
  have hg4 := g0 hb4
  have hs4 := hg4.size
  clear hb4
  have ho4_0 : Own w4 (w3.heap.size) 3 1 (.slice Ap4 (alc (ofS [1002, 1001]) 1).1.rs.length cp4) (alc (ofS [1002, 1001]) 1).1.rs.length (flat iva (alc (ofS [1002, 1001]) 1).1.rs) := hC4
  have hh4_0 := Own.hi ho4_0
  have ho4_1 : Own w4 (w3.heap.size) 4 1 (.slice Aj4 (alc (ofS [1002, 1001]) 1).1.bs.length cj4) (alc (ofS [1002, 1001]) 1).1.bs.length (flat bva (alc (ofS [1002, 1001]) 1).1.bs) := hJ4
  have hh4_1 := Own.hi ho4_1
  refine sx_val hA4 rfl (ev_move (hA4.ev (i := 36) (v := .tuple #[.agg #[.slice Ap4 (alc (ofS [1002, 1001]) 1).1.rs.length cp4, .slice Aj4 (alc (ofS [1002, 1001]) 1).1.bs.length cj4], .int .i64 (alc (ofS [1002, 1001]) 1).2.1, .int .i64 (alc (ofS [1002, 1001]) 1).2.2])) _ rfl) ?_
  intro a5 hA5; clear hA4
  refine sx_val (v := .agg #[.slice Ap4 (alc (ofS [1002, 1001]) 1).1.rs.length cp4, .slice Aj4 (alc (ofS [1002, 1001]) 1).1.bs.length cj4]) hA5 rfl (ev_ext (hA5.ev (i := 33) (v := .tuple #[.agg #[.slice Ap4 (alc (ofS [1002, 1001]) 1).1.rs.length cp4, .slice Aj4 (alc (ofS [1002, 1001]) 1).1.bs.length cj4], .int .i64 (alc (ofS [1002, 1001]) 1).2.1, .int .i64 (alc (ofS [1002, 1001]) 1).2.2])) rfl _ rfl) ?_
  intro a6 hA6; clear hA5
  refine sx_val (v := .int .i64 (alc (ofS [1002, 1001]) 1).2.1) hA6 rfl (ev_ext (hA6.ev (i := 33) (v := .tuple #[.agg #[.slice Ap4 (alc (ofS [1002, 1001]) 1).1.rs.length cp4, .slice Aj4 (alc (ofS [1002, 1001]) 1).1.bs.length cj4], .int .i64 (alc (ofS [1002, 1001]) 1).2.1, .int .i64 (alc (ofS [1002, 1001]) 1).2.2])) rfl _ rfl) ?_
  intro a7 hA7; clear hA6
  refine sx_val (v := .int .i64 (alc (ofS [1002, 1001]) 1).2.2) hA7 rfl (ev_ext (hA7.ev (i := 33) (v := .tuple #[.agg #[.slice Ap4 (alc (ofS [1002, 1001]) 1).1.rs.length cp4, .slice Aj4 (alc (ofS [1002, 1001]) 1).1.bs.length cj4], .int .i64 (alc (ofS [1002, 1001]) 1).2.1, .int .i64 (alc (ofS [1002, 1001]) 1).2.2])) rfl _ rfl) ?_
  intro a8 hA8; clear hA7
  refine sx_new (cs := #[.slice none 0 0, .slice none 0 0]) (t := 25) hA8 rfl (by decide) (.inl rfl) (ev_alloc (z := .agg (#[.slice none 0 0, .slice none 0 0])) (by kernel_rfl) (by kernel_rfl) _ rfl) ?_
  intro B9 w9 a9 hB9 hx9 hg9 hA9
  clear hA8
  have hs9 := hg9.size
  have hl9 := hx9.lt
  refine sx_store hA9 rfl (.inl rfl) rfl (hA9.ev (i := 1) (v := .pointer (some ⟨B9, 0, none⟩))) (hA9.ev (i := 37) (v := .agg #[.slice Ap4 (alc (ofS [1002, 1001]) 1).1.rs.length cp4, .slice Aj4 (alc (ofS [1002, 1001]) 1).1.bs.length cj4])) hx9 (by kernel_rfl) rfl (by simp [Value.oneCell']) ?_
  intro w10 hx10 hg10
  have hs10 := hg10.size
  refine sx_val hA9 rfl (ev_assign (hA9.ev (i := 38) (v := .int .i64 (alc (ofS [1002, 1001]) 1).2.1)) _ rfl) ?_
  intro a11 hA11; clear hA9
  refine sx_val hA11 rfl (ev_assign (hA11.ev (i := 39) (v := .int .i64 (alc (ofS [1002, 1001]) 1).2.2)) _ rfl) ?_
  intro a12 hA12; clear hA11
  refine sx_nil ?_
  refine then_n ?_
  refine wp_seq ?_
  refine wp_region_lit ?_
  refine sx_bs (n := 2) (cs := (flat iva [0, 0]).toArray) (e := 3) hA12 rfl (by decide) (.inl rfl) (bsI2 (ec _ (.int .i64 0)) (ec _ (.int .i64 0)) _ rfl) ?_
  intro B13 w13 a13 hB13 hx13 hg13 hA13
  clear hA12
  have hs13 := hg13.size
  have hl13 := hx13.lt
  have ho13 := Own.bxn (n := 2) hx13 iva_sz rfl (by decide)
  have hh13 := Own.hi ho13
  refine sx_call (f := 30) (args := #[.slice (some ⟨B13, 0, none⟩) 2 2]) hA13 rfl (by decide) (.inl rfl) (ev_fn rfl (mp1 (hA13.ev (i := 41) (v := .slice (some ⟨B13, 0, none⟩) 2 2))) (by kernel_rfl) _ rfl) (of_any (some ⟨B13, 0, none⟩) 2 [0, 0] _ (OwnR.gr (e := 3) ⟨rfl, ho13⟩) (by decide) (by decide)) ?_
  intro e14 w14 hR14
  obtain ⟨Ap14, cp14, Aj14, cj14, rfl, hC14, hJ14, hb14⟩ := hR14
  refine ⟨_, rfl, ?_⟩
  intro a14 hA14
  clear hA13
  have hg14 := g0 hb14
  have hs14 := hg14.size
  clear hb14
  have ho14_0 : Own w14 (w13.heap.size) 3 1 (.slice Ap14 (ofS [0, 0]).rs.length cp14) (ofS [0, 0]).rs.length (flat iva (ofS [0, 0]).rs) := hC14
  have hh14_0 := Own.hi ho14_0
  have ho14_1 : Own w14 (w13.heap.size) 4 1 (.slice Aj14 (ofS [0, 0]).bs.length cj14) (ofS [0, 0]).bs.length (flat bva (ofS [0, 0]).bs) := hJ14
  have hh14_1 := Own.hi ho14_1
  refine sx_call (f := 22) (args := #[.agg #[.slice Ap14 (ofS [0, 0]).rs.length cp14, .slice Aj14 (ofS [0, 0]).bs.length cj14], .int .i64 0]) hA14 rfl (by decide) (.inl rfl) (ev_fn rfl (mp2 (hA14.ev (i := 42) (v := .agg #[.slice Ap14 (ofS [0, 0]).rs.length cp14, .slice Aj14 (ofS [0, 0]).bs.length cj14])) (ec _ (.int .i64 0))) (by kernel_rfl) _ rfl) (Alloc_any Ap14 cp14 Aj14 cj14 (ofS [0, 0]).rs (ofS [0, 0]).bs 0 _ ⟨(OwnR.gr (e := 3) ⟨rfl, ho14_0⟩), (OwnR.gr (e := 4) ⟨rfl, ho14_1⟩)⟩ (by decide) (by decide)) ?_
  intro e15 w15 hR15
  obtain ⟨Ap15, cp15, Aj15, cj15, rfl, hC15, hJ15, hb15⟩ := hR15
  refine ⟨_, rfl, ?_⟩
  intro a15 hA15
  clear hA14
  have hg15 := g0 hb15
  have hs15 := hg15.size
  clear hb15
  have ho15_0 : Own w15 (w14.heap.size) 3 1 (.slice Ap15 (alc (ofS [0, 0]) 0).1.rs.length cp15) (alc (ofS [0, 0]) 0).1.rs.length (flat iva (alc (ofS [0, 0]) 0).1.rs) := hC15
  have hh15_0 := Own.hi ho15_0
  have ho15_1 : Own w15 (w14.heap.size) 4 1 (.slice Aj15 (alc (ofS [0, 0]) 0).1.bs.length cj15) (alc (ofS [0, 0]) 0).1.bs.length (flat bva (alc (ofS [0, 0]) 0).1.bs) := hJ15
  have hh15_1 := Own.hi ho15_1
  refine sx_val hA15 rfl (ev_move (hA15.ev (i := 43) (v := .tuple #[.agg #[.slice Ap15 (alc (ofS [0, 0]) 0).1.rs.length cp15, .slice Aj15 (alc (ofS [0, 0]) 0).1.bs.length cj15], .int .i64 (alc (ofS [0, 0]) 0).2.1, .int .i64 (alc (ofS [0, 0]) 0).2.2])) _ rfl) ?_
  intro a16 hA16; clear hA15
  refine sx_val (v := .agg #[.slice Ap15 (alc (ofS [0, 0]) 0).1.rs.length cp15, .slice Aj15 (alc (ofS [0, 0]) 0).1.bs.length cj15]) hA16 rfl (ev_ext (hA16.ev (i := 40) (v := .tuple #[.agg #[.slice Ap15 (alc (ofS [0, 0]) 0).1.rs.length cp15, .slice Aj15 (alc (ofS [0, 0]) 0).1.bs.length cj15], .int .i64 (alc (ofS [0, 0]) 0).2.1, .int .i64 (alc (ofS [0, 0]) 0).2.2])) rfl _ rfl) ?_
  intro a17 hA17; clear hA16
  refine sx_val (v := .int .i64 (alc (ofS [0, 0]) 0).2.1) hA17 rfl (ev_ext (hA17.ev (i := 40) (v := .tuple #[.agg #[.slice Ap15 (alc (ofS [0, 0]) 0).1.rs.length cp15, .slice Aj15 (alc (ofS [0, 0]) 0).1.bs.length cj15], .int .i64 (alc (ofS [0, 0]) 0).2.1, .int .i64 (alc (ofS [0, 0]) 0).2.2])) rfl _ rfl) ?_
  intro a18 hA18; clear hA17
  refine sx_val (v := .int .i64 (alc (ofS [0, 0]) 0).2.2) hA18 rfl (ev_ext (hA18.ev (i := 40) (v := .tuple #[.agg #[.slice Ap15 (alc (ofS [0, 0]) 0).1.rs.length cp15, .slice Aj15 (alc (ofS [0, 0]) 0).1.bs.length cj15], .int .i64 (alc (ofS [0, 0]) 0).2.1, .int .i64 (alc (ofS [0, 0]) 0).2.2])) rfl _ rfl) ?_
  intro a19 hA19; clear hA18
  refine sx_new (cs := #[.slice none 0 0, .slice none 0 0]) (t := 25) hA19 rfl (by decide) (.inl rfl) (ev_alloc (z := .agg (#[.slice none 0 0, .slice none 0 0])) (by kernel_rfl) (by kernel_rfl) _ rfl) ?_
  intro B20 w20 a20 hB20 hx20 hg20 hA20
  clear hA19
  have hs20 := hg20.size
  have hl20 := hx20.lt
  refine sx_store hA20 rfl (.inl rfl) rfl (hA20.ev (i := 4) (v := .pointer (some ⟨B20, 0, none⟩))) (hA20.ev (i := 44) (v := .agg #[.slice Ap15 (alc (ofS [0, 0]) 0).1.rs.length cp15, .slice Aj15 (alc (ofS [0, 0]) 0).1.bs.length cj15])) hx20 (by kernel_rfl) rfl (by simp [Value.oneCell']) ?_
  intro w21 hx21 hg21
  have hs21 := hg21.size
  refine sx_val hA20 rfl (ev_assign (hA20.ev (i := 45) (v := .int .i64 (alc (ofS [0, 0]) 0).2.1)) _ rfl) ?_
  intro a22 hA22; clear hA20
  refine sx_val hA22 rfl (ev_assign (hA22.ev (i := 46) (v := .int .i64 (alc (ofS [0, 0]) 0).2.2)) _ rfl) ?_
  intro a23 hA23; clear hA22
  refine sx_nil ?_
  refine then_n ?_
  refine wp_seq ?_
  refine wp_region_lit ?_
  refine sx_bs (n := 2) (cs := (flat iva [2, 0]).toArray) (e := 3) hA23 rfl (by decide) (.inl rfl) (bsI2 (ec _ (.int .i64 2)) (ec _ (.int .i64 0)) _ rfl) ?_
  intro B24 w24 a24 hB24 hx24 hg24 hA24
  clear hA23
  have hs24 := hg24.size
  have hl24 := hx24.lt
  have ho24 := Own.bxn (n := 2) hx24 iva_sz rfl (by decide)
  have hh24 := Own.hi ho24
  refine sx_call (f := 30) (args := #[.slice (some ⟨B24, 0, none⟩) 2 2]) hA24 rfl (by decide) (.inl rfl) (ev_fn rfl (mp1 (hA24.ev (i := 48) (v := .slice (some ⟨B24, 0, none⟩) 2 2))) (by kernel_rfl) _ rfl) (of_any (some ⟨B24, 0, none⟩) 2 [2, 0] _ (OwnR.gr (e := 3) ⟨rfl, ho24⟩) (by decide) (by decide)) ?_
  intro e25 w25 hR25
  obtain ⟨Ap25, cp25, Aj25, cj25, rfl, hC25, hJ25, hb25⟩ := hR25
  refine ⟨_, rfl, ?_⟩
  intro a25 hA25
  clear hA24
  have hg25 := g0 hb25
  have hs25 := hg25.size
  clear hb25
  have ho25_0 : Own w25 (w24.heap.size) 3 1 (.slice Ap25 (ofS [2, 0]).rs.length cp25) (ofS [2, 0]).rs.length (flat iva (ofS [2, 0]).rs) := hC25
  have hh25_0 := Own.hi ho25_0
  have ho25_1 : Own w25 (w24.heap.size) 4 1 (.slice Aj25 (ofS [2, 0]).bs.length cj25) (ofS [2, 0]).bs.length (flat bva (ofS [2, 0]).bs) := hJ25
  have hh25_1 := Own.hi ho25_1
  refine sx_call (f := 11) (args := #[.agg #[.slice Ap25 (ofS [2, 0]).rs.length cp25, .slice Aj25 (ofS [2, 0]).bs.length cj25], .int .i64 1]) hA25 rfl (by decide) (.inl rfl) (ev_fn rfl (mp2 (hA25.ev (i := 49) (v := .agg #[.slice Ap25 (ofS [2, 0]).rs.length cp25, .slice Aj25 (ofS [2, 0]).bs.length cj25])) (ec _ (.int .i64 1))) (by kernel_rfl) _ rfl) (Ref_any Ap25 cp25 Aj25 cj25 (ofS [2, 0]).rs (ofS [2, 0]).bs 1 _ ⟨(OwnR.gr (e := 3) ⟨rfl, ho25_0⟩), (OwnR.gr (e := 4) ⟨rfl, ho25_1⟩)⟩ (by decide) (by decide)) ?_
  intro e26 w26 hR26
  obtain ⟨Ap26, cp26, Aj26, cj26, rfl, hC26, hJ26, hb26⟩ := hR26
  refine ⟨_, rfl, ?_⟩
  intro a26 hA26
  clear hA25
  have hg26 := g0 hb26
  have hs26 := hg26.size
  clear hb26
  have ho26_0 : Own w26 (w25.heap.size) 3 1 (.slice Ap26 (rff (ofS [2, 0]) 1).1.rs.length cp26) (rff (ofS [2, 0]) 1).1.rs.length (flat iva (rff (ofS [2, 0]) 1).1.rs) := hC26
  have hh26_0 := Own.hi ho26_0
  have ho26_1 : Own w26 (w25.heap.size) 4 1 (.slice Aj26 (rff (ofS [2, 0]) 1).1.bs.length cj26) (rff (ofS [2, 0]) 1).1.bs.length (flat bva (rff (ofS [2, 0]) 1).1.bs) := hJ26
  have hh26_1 := Own.hi ho26_1
  refine sx_val hA26 rfl (ev_move (hA26.ev (i := 50) (v := .tuple #[.agg #[.slice Ap26 (rff (ofS [2, 0]) 1).1.rs.length cp26, .slice Aj26 (rff (ofS [2, 0]) 1).1.bs.length cj26], .int .i64 (rff (ofS [2, 0]) 1).2])) _ rfl) ?_
  intro a27 hA27; clear hA26
  refine sx_val (v := .agg #[.slice Ap26 (rff (ofS [2, 0]) 1).1.rs.length cp26, .slice Aj26 (rff (ofS [2, 0]) 1).1.bs.length cj26]) hA27 rfl (ev_ext (hA27.ev (i := 47) (v := .tuple #[.agg #[.slice Ap26 (rff (ofS [2, 0]) 1).1.rs.length cp26, .slice Aj26 (rff (ofS [2, 0]) 1).1.bs.length cj26], .int .i64 (rff (ofS [2, 0]) 1).2])) rfl _ rfl) ?_
  intro a28 hA28; clear hA27
  refine sx_val (v := .int .i64 (rff (ofS [2, 0]) 1).2) hA28 rfl (ev_ext (hA28.ev (i := 47) (v := .tuple #[.agg #[.slice Ap26 (rff (ofS [2, 0]) 1).1.rs.length cp26, .slice Aj26 (rff (ofS [2, 0]) 1).1.bs.length cj26], .int .i64 (rff (ofS [2, 0]) 1).2])) rfl _ rfl) ?_
  intro a29 hA29; clear hA28
  refine sx_new (cs := #[.slice none 0 0, .slice none 0 0]) (t := 25) hA29 rfl (by decide) (.inl rfl) (ev_alloc (z := .agg (#[.slice none 0 0, .slice none 0 0])) (by kernel_rfl) (by kernel_rfl) _ rfl) ?_
  intro B30 w30 a30 hB30 hx30 hg30 hA30
  clear hA29
  have hs30 := hg30.size
  have hl30 := hx30.lt
  refine sx_store hA30 rfl (.inl rfl) rfl (hA30.ev (i := 7) (v := .pointer (some ⟨B30, 0, none⟩))) (hA30.ev (i := 51) (v := .agg #[.slice Ap26 (rff (ofS [2, 0]) 1).1.rs.length cp26, .slice Aj26 (rff (ofS [2, 0]) 1).1.bs.length cj26])) hx30 (by kernel_rfl) rfl (by simp [Value.oneCell']) ?_
  intro w31 hx31 hg31
  have hs31 := hg31.size
  refine sx_val hA30 rfl (ev_assign (hA30.ev (i := 52) (v := .int .i64 (rff (ofS [2, 0]) 1).2)) _ rfl) ?_
  intro a32 hA32; clear hA30
  refine sx_nil ?_
  refine then_n ?_
  refine wp_seq ?_
  refine wp_region_lit ?_
  refine sx_bs (n := 2) (cs := (flat iva [1000, 0]).toArray) (e := 3) hA32 rfl (by decide) (.inl rfl) (bsI2 (ec _ (.int .i64 1000)) (ec _ (.int .i64 0)) _ rfl) ?_
  intro B33 w33 a33 hB33 hx33 hg33 hA33
  clear hA32
  have hs33 := hg33.size
  have hl33 := hx33.lt
  have ho33 := Own.bxn (n := 2) hx33 iva_sz rfl (by decide)
  have hh33 := Own.hi ho33
  refine sx_call (f := 30) (args := #[.slice (some ⟨B33, 0, none⟩) 2 2]) hA33 rfl (by decide) (.inl rfl) (ev_fn rfl (mp1 (hA33.ev (i := 54) (v := .slice (some ⟨B33, 0, none⟩) 2 2))) (by kernel_rfl) _ rfl) (of_any (some ⟨B33, 0, none⟩) 2 [1000, 0] _ (OwnR.gr (e := 3) ⟨rfl, ho33⟩) (by decide) (by decide)) ?_
  intro e34 w34 hR34
  obtain ⟨Ap34, cp34, Aj34, cj34, rfl, hC34, hJ34, hb34⟩ := hR34
  refine ⟨_, rfl, ?_⟩
  intro a34 hA34
  clear hA33
  have hg34 := g0 hb34
  have hs34 := hg34.size
  clear hb34
  have ho34_0 : Own w34 (w33.heap.size) 3 1 (.slice Ap34 (ofS [1000, 0]).rs.length cp34) (ofS [1000, 0]).rs.length (flat iva (ofS [1000, 0]).rs) := hC34
  have hh34_0 := Own.hi ho34_0
  have ho34_1 : Own w34 (w33.heap.size) 4 1 (.slice Aj34 (ofS [1000, 0]).bs.length cj34) (ofS [1000, 0]).bs.length (flat bva (ofS [1000, 0]).bs) := hJ34
  have hh34_1 := Own.hi ho34_1
  refine sx_call (f := 11) (args := #[.agg #[.slice Ap34 (ofS [1000, 0]).rs.length cp34, .slice Aj34 (ofS [1000, 0]).bs.length cj34], .int .i64 0]) hA34 rfl (by decide) (.inl rfl) (ev_fn rfl (mp2 (hA34.ev (i := 55) (v := .agg #[.slice Ap34 (ofS [1000, 0]).rs.length cp34, .slice Aj34 (ofS [1000, 0]).bs.length cj34])) (ec _ (.int .i64 0))) (by kernel_rfl) _ rfl) (Ref_any Ap34 cp34 Aj34 cj34 (ofS [1000, 0]).rs (ofS [1000, 0]).bs 0 _ ⟨(OwnR.gr (e := 3) ⟨rfl, ho34_0⟩), (OwnR.gr (e := 4) ⟨rfl, ho34_1⟩)⟩ (by decide) (by decide)) ?_
  intro e35 w35 hR35
  obtain ⟨Ap35, cp35, Aj35, cj35, rfl, hC35, hJ35, hb35⟩ := hR35
  refine ⟨_, rfl, ?_⟩
  intro a35 hA35
  clear hA34
  have hg35 := g0 hb35
  have hs35 := hg35.size
  clear hb35
  have ho35_0 : Own w35 (w34.heap.size) 3 1 (.slice Ap35 (rff (ofS [1000, 0]) 0).1.rs.length cp35) (rff (ofS [1000, 0]) 0).1.rs.length (flat iva (rff (ofS [1000, 0]) 0).1.rs) := hC35
  have hh35_0 := Own.hi ho35_0
  have ho35_1 : Own w35 (w34.heap.size) 4 1 (.slice Aj35 (rff (ofS [1000, 0]) 0).1.bs.length cj35) (rff (ofS [1000, 0]) 0).1.bs.length (flat bva (rff (ofS [1000, 0]) 0).1.bs) := hJ35
  have hh35_1 := Own.hi ho35_1
  refine sx_val hA35 rfl (ev_move (hA35.ev (i := 56) (v := .tuple #[.agg #[.slice Ap35 (rff (ofS [1000, 0]) 0).1.rs.length cp35, .slice Aj35 (rff (ofS [1000, 0]) 0).1.bs.length cj35], .int .i64 (rff (ofS [1000, 0]) 0).2])) _ rfl) ?_
  intro a36 hA36; clear hA35
  refine sx_val (v := .agg #[.slice Ap35 (rff (ofS [1000, 0]) 0).1.rs.length cp35, .slice Aj35 (rff (ofS [1000, 0]) 0).1.bs.length cj35]) hA36 rfl (ev_ext (hA36.ev (i := 53) (v := .tuple #[.agg #[.slice Ap35 (rff (ofS [1000, 0]) 0).1.rs.length cp35, .slice Aj35 (rff (ofS [1000, 0]) 0).1.bs.length cj35], .int .i64 (rff (ofS [1000, 0]) 0).2])) rfl _ rfl) ?_
  intro a37 hA37; clear hA36
  refine sx_val (v := .int .i64 (rff (ofS [1000, 0]) 0).2) hA37 rfl (ev_ext (hA37.ev (i := 53) (v := .tuple #[.agg #[.slice Ap35 (rff (ofS [1000, 0]) 0).1.rs.length cp35, .slice Aj35 (rff (ofS [1000, 0]) 0).1.bs.length cj35], .int .i64 (rff (ofS [1000, 0]) 0).2])) rfl _ rfl) ?_
  intro a38 hA38; clear hA37
  refine sx_new (cs := #[.slice none 0 0, .slice none 0 0]) (t := 25) hA38 rfl (by decide) (.inl rfl) (ev_alloc (z := .agg (#[.slice none 0 0, .slice none 0 0])) (by kernel_rfl) (by kernel_rfl) _ rfl) ?_
  intro B39 w39 a39 hB39 hx39 hg39 hA39
  clear hA38
  have hs39 := hg39.size
  have hl39 := hx39.lt
  refine sx_store hA39 rfl (.inl rfl) rfl (hA39.ev (i := 9) (v := .pointer (some ⟨B39, 0, none⟩))) (hA39.ev (i := 57) (v := .agg #[.slice Ap35 (rff (ofS [1000, 0]) 0).1.rs.length cp35, .slice Aj35 (rff (ofS [1000, 0]) 0).1.bs.length cj35])) hx39 (by kernel_rfl) rfl (by simp [Value.oneCell']) ?_
  intro w40 hx40 hg40
  have hs40 := hg40.size
  refine sx_val hA39 rfl (ev_assign (hA39.ev (i := 58) (v := .int .i64 (rff (ofS [1000, 0]) 0).2)) _ rfl) ?_
  intro a41 hA41; clear hA39
  refine sx_nil ?_
  refine then_n ?_
  refine wp_seq ?_
  refine wp_region_lit ?_
  refine sx_bs (n := 2) (cs := (flat iva [0, 0]).toArray) (e := 3) hA41 rfl (by decide) (.inl rfl) (bsI2 (ec _ (.int .i64 0)) (ec _ (.int .i64 0)) _ rfl) ?_
  intro B42 w42 a42 hB42 hx42 hg42 hA42
  clear hA41
  have hs42 := hg42.size
  have hl42 := hx42.lt
  have ho42 := Own.bxn (n := 2) hx42 iva_sz rfl (by decide)
  have hh42 := Own.hi ho42
  refine sx_call (f := 30) (args := #[.slice (some ⟨B42, 0, none⟩) 2 2]) hA42 rfl (by decide) (.inl rfl) (ev_fn rfl (mp1 (hA42.ev (i := 60) (v := .slice (some ⟨B42, 0, none⟩) 2 2))) (by kernel_rfl) _ rfl) (of_any (some ⟨B42, 0, none⟩) 2 [0, 0] _ (OwnR.gr (e := 3) ⟨rfl, ho42⟩) (by decide) (by decide)) ?_
  intro e43 w43 hR43
  obtain ⟨Ap43, cp43, Aj43, cj43, rfl, hC43, hJ43, hb43⟩ := hR43
  refine ⟨_, rfl, ?_⟩
  intro a43 hA43
  clear hA42
  have hg43 := g0 hb43
  have hs43 := hg43.size
  clear hb43
  have ho43_0 : Own w43 (w42.heap.size) 3 1 (.slice Ap43 (ofS [0, 0]).rs.length cp43) (ofS [0, 0]).rs.length (flat iva (ofS [0, 0]).rs) := hC43
  have hh43_0 := Own.hi ho43_0
  have ho43_1 : Own w43 (w42.heap.size) 4 1 (.slice Aj43 (ofS [0, 0]).bs.length cj43) (ofS [0, 0]).bs.length (flat bva (ofS [0, 0]).bs) := hJ43
  have hh43_1 := Own.hi ho43_1
  refine sx_call (f := 14) (args := #[.agg #[.slice Ap43 (ofS [0, 0]).rs.length cp43, .slice Aj43 (ofS [0, 0]).bs.length cj43], .int .i64 0]) hA43 rfl (by decide) (.inl rfl) (ev_fn rfl (mp2 (hA43.ev (i := 61) (v := .agg #[.slice Ap43 (ofS [0, 0]).rs.length cp43, .slice Aj43 (ofS [0, 0]).bs.length cj43])) (ec _ (.int .i64 0))) (by kernel_rfl) _ rfl) (Unref_any Ap43 cp43 Aj43 cj43 (ofS [0, 0]).rs (ofS [0, 0]).bs 0 _ ⟨(OwnR.gr (e := 3) ⟨rfl, ho43_0⟩), (OwnR.gr (e := 4) ⟨rfl, ho43_1⟩)⟩ (by decide) (by decide)) ?_
  intro e44 w44 hR44
  obtain ⟨Ap44, cp44, Aj44, cj44, rfl, hC44, hJ44, hb44⟩ := hR44
  refine ⟨_, rfl, ?_⟩
  intro a44 hA44
  clear hA43
  have hg44 := g0 hb44
  have hs44 := hg44.size
  clear hb44
  have ho44_0 : Own w44 (w43.heap.size) 3 1 (.slice Ap44 (unr (ofS [0, 0]) 0).1.rs.length cp44) (unr (ofS [0, 0]) 0).1.rs.length (flat iva (unr (ofS [0, 0]) 0).1.rs) := hC44
  have hh44_0 := Own.hi ho44_0
  have ho44_1 : Own w44 (w43.heap.size) 4 1 (.slice Aj44 (unr (ofS [0, 0]) 0).1.bs.length cj44) (unr (ofS [0, 0]) 0).1.bs.length (flat bva (unr (ofS [0, 0]) 0).1.bs) := hJ44
  have hh44_1 := Own.hi ho44_1
  refine sx_val hA44 rfl (ev_move (hA44.ev (i := 62) (v := .tuple #[.agg #[.slice Ap44 (unr (ofS [0, 0]) 0).1.rs.length cp44, .slice Aj44 (unr (ofS [0, 0]) 0).1.bs.length cj44], .bool (unr (ofS [0, 0]) 0).2.1, .int .i64 (unr (ofS [0, 0]) 0).2.2])) _ rfl) ?_
  intro a45 hA45; clear hA44
  refine sx_val (v := .agg #[.slice Ap44 (unr (ofS [0, 0]) 0).1.rs.length cp44, .slice Aj44 (unr (ofS [0, 0]) 0).1.bs.length cj44]) hA45 rfl (ev_ext (hA45.ev (i := 59) (v := .tuple #[.agg #[.slice Ap44 (unr (ofS [0, 0]) 0).1.rs.length cp44, .slice Aj44 (unr (ofS [0, 0]) 0).1.bs.length cj44], .bool (unr (ofS [0, 0]) 0).2.1, .int .i64 (unr (ofS [0, 0]) 0).2.2])) rfl _ rfl) ?_
  intro a46 hA46; clear hA45
  refine sx_val (v := .bool (unr (ofS [0, 0]) 0).2.1) hA46 rfl (ev_ext (hA46.ev (i := 59) (v := .tuple #[.agg #[.slice Ap44 (unr (ofS [0, 0]) 0).1.rs.length cp44, .slice Aj44 (unr (ofS [0, 0]) 0).1.bs.length cj44], .bool (unr (ofS [0, 0]) 0).2.1, .int .i64 (unr (ofS [0, 0]) 0).2.2])) rfl _ rfl) ?_
  intro a47 hA47; clear hA46
  refine sx_val (v := .int .i64 (unr (ofS [0, 0]) 0).2.2) hA47 rfl (ev_ext (hA47.ev (i := 59) (v := .tuple #[.agg #[.slice Ap44 (unr (ofS [0, 0]) 0).1.rs.length cp44, .slice Aj44 (unr (ofS [0, 0]) 0).1.bs.length cj44], .bool (unr (ofS [0, 0]) 0).2.1, .int .i64 (unr (ofS [0, 0]) 0).2.2])) rfl _ rfl) ?_
  intro a48 hA48; clear hA47
  refine sx_new (cs := #[.slice none 0 0, .slice none 0 0]) (t := 25) hA48 rfl (by decide) (.inl rfl) (ev_alloc (z := .agg (#[.slice none 0 0, .slice none 0 0])) (by kernel_rfl) (by kernel_rfl) _ rfl) ?_
  intro B49 w49 a49 hB49 hx49 hg49 hA49
  clear hA48
  have hs49 := hg49.size
  have hl49 := hx49.lt
  refine sx_store hA49 rfl (.inl rfl) rfl (hA49.ev (i := 11) (v := .pointer (some ⟨B49, 0, none⟩))) (hA49.ev (i := 63) (v := .agg #[.slice Ap44 (unr (ofS [0, 0]) 0).1.rs.length cp44, .slice Aj44 (unr (ofS [0, 0]) 0).1.bs.length cj44])) hx49 (by kernel_rfl) rfl (by simp [Value.oneCell']) ?_
  intro w50 hx50 hg50
  have hs50 := hg50.size
  refine sx_val hA49 rfl (ev_assign (hA49.ev (i := 64) (v := .bool (unr (ofS [0, 0]) 0).2.1)) _ rfl) ?_
  intro a51 hA51; clear hA49
  refine sx_val hA51 rfl (ev_assign (hA51.ev (i := 65) (v := .int .i64 (unr (ofS [0, 0]) 0).2.2)) _ rfl) ?_
  intro a52 hA52; clear hA51
  refine sx_nil ?_
  refine then_n ?_
  refine wp_seq ?_
  refine wp_region_lit ?_
  refine sx_bs (n := 2) (cs := (flat iva [2, 0]).toArray) (e := 3) hA52 rfl (by decide) (.inl rfl) (bsI2 (ec _ (.int .i64 2)) (ec _ (.int .i64 0)) _ rfl) ?_
  intro B53 w53 a53 hB53 hx53 hg53 hA53
  clear hA52
  have hs53 := hg53.size
  have hl53 := hx53.lt
  have ho53 := Own.bxn (n := 2) hx53 iva_sz rfl (by decide)
  have hh53 := Own.hi ho53
  refine sx_call (f := 30) (args := #[.slice (some ⟨B53, 0, none⟩) 2 2]) hA53 rfl (by decide) (.inl rfl) (ev_fn rfl (mp1 (hA53.ev (i := 67) (v := .slice (some ⟨B53, 0, none⟩) 2 2))) (by kernel_rfl) _ rfl) (of_any (some ⟨B53, 0, none⟩) 2 [2, 0] _ (OwnR.gr (e := 3) ⟨rfl, ho53⟩) (by decide) (by decide)) ?_
  intro e54 w54 hR54
  obtain ⟨Ap54, cp54, Aj54, cj54, rfl, hC54, hJ54, hb54⟩ := hR54
  refine ⟨_, rfl, ?_⟩
  intro a54 hA54
  clear hA53
  have hg54 := g0 hb54
  have hs54 := hg54.size
  clear hb54
  have ho54_0 : Own w54 (w53.heap.size) 3 1 (.slice Ap54 (ofS [2, 0]).rs.length cp54) (ofS [2, 0]).rs.length (flat iva (ofS [2, 0]).rs) := hC54
  have hh54_0 := Own.hi ho54_0
  have ho54_1 : Own w54 (w53.heap.size) 4 1 (.slice Aj54 (ofS [2, 0]).bs.length cj54) (ofS [2, 0]).bs.length (flat bva (ofS [2, 0]).bs) := hJ54
  have hh54_1 := Own.hi ho54_1
  refine sx_call (f := 18) (args := #[.agg #[.slice Ap54 (ofS [2, 0]).rs.length cp54, .slice Aj54 (ofS [2, 0]).bs.length cj54], .int .i64 0]) hA54 rfl (by decide) (.inl rfl) (ev_fn rfl (mp2 (hA54.ev (i := 68) (v := .agg #[.slice Ap54 (ofS [2, 0]).rs.length cp54, .slice Aj54 (ofS [2, 0]).bs.length cj54])) (ec _ (.int .i64 0))) (by kernel_rfl) _ rfl) (Settle_any Ap54 cp54 Aj54 cj54 (ofS [2, 0]).rs (ofS [2, 0]).bs 0 _ ⟨(OwnR.gr (e := 3) ⟨rfl, ho54_0⟩), (OwnR.gr (e := 4) ⟨rfl, ho54_1⟩)⟩ (by decide) (by decide)) ?_
  intro e55 w55 hR55
  obtain ⟨Ap55, cp55, Aj55, cj55, rfl, hC55, hJ55, hb55⟩ := hR55
  refine ⟨_, rfl, ?_⟩
  intro a55 hA55
  clear hA54
  have hg55 := g0 hb55
  have hs55 := hg55.size
  clear hb55
  have ho55_0 : Own w55 (w54.heap.size) 3 1 (.slice Ap55 (stl (ofS [2, 0]) 0).1.rs.length cp55) (stl (ofS [2, 0]) 0).1.rs.length (flat iva (stl (ofS [2, 0]) 0).1.rs) := hC55
  have hh55_0 := Own.hi ho55_0
  have ho55_1 : Own w55 (w54.heap.size) 4 1 (.slice Aj55 (stl (ofS [2, 0]) 0).1.bs.length cj55) (stl (ofS [2, 0]) 0).1.bs.length (flat bva (stl (ofS [2, 0]) 0).1.bs) := hJ55
  have hh55_1 := Own.hi ho55_1
  refine sx_val hA55 rfl (ev_move (hA55.ev (i := 69) (v := .tuple #[.agg #[.slice Ap55 (stl (ofS [2, 0]) 0).1.rs.length cp55, .slice Aj55 (stl (ofS [2, 0]) 0).1.bs.length cj55], .bool (stl (ofS [2, 0]) 0).2.1, .int .i64 (stl (ofS [2, 0]) 0).2.2])) _ rfl) ?_
  intro a56 hA56; clear hA55
  refine sx_val (v := .agg #[.slice Ap55 (stl (ofS [2, 0]) 0).1.rs.length cp55, .slice Aj55 (stl (ofS [2, 0]) 0).1.bs.length cj55]) hA56 rfl (ev_ext (hA56.ev (i := 66) (v := .tuple #[.agg #[.slice Ap55 (stl (ofS [2, 0]) 0).1.rs.length cp55, .slice Aj55 (stl (ofS [2, 0]) 0).1.bs.length cj55], .bool (stl (ofS [2, 0]) 0).2.1, .int .i64 (stl (ofS [2, 0]) 0).2.2])) rfl _ rfl) ?_
  intro a57 hA57; clear hA56
  refine sx_val (v := .bool (stl (ofS [2, 0]) 0).2.1) hA57 rfl (ev_ext (hA57.ev (i := 66) (v := .tuple #[.agg #[.slice Ap55 (stl (ofS [2, 0]) 0).1.rs.length cp55, .slice Aj55 (stl (ofS [2, 0]) 0).1.bs.length cj55], .bool (stl (ofS [2, 0]) 0).2.1, .int .i64 (stl (ofS [2, 0]) 0).2.2])) rfl _ rfl) ?_
  intro a58 hA58; clear hA57
  refine sx_val (v := .int .i64 (stl (ofS [2, 0]) 0).2.2) hA58 rfl (ev_ext (hA58.ev (i := 66) (v := .tuple #[.agg #[.slice Ap55 (stl (ofS [2, 0]) 0).1.rs.length cp55, .slice Aj55 (stl (ofS [2, 0]) 0).1.bs.length cj55], .bool (stl (ofS [2, 0]) 0).2.1, .int .i64 (stl (ofS [2, 0]) 0).2.2])) rfl _ rfl) ?_
  intro a59 hA59; clear hA58
  refine sx_new (cs := #[.slice none 0 0, .slice none 0 0]) (t := 25) hA59 rfl (by decide) (.inl rfl) (ev_alloc (z := .agg (#[.slice none 0 0, .slice none 0 0])) (by kernel_rfl) (by kernel_rfl) _ rfl) ?_
  intro B60 w60 a60 hB60 hx60 hg60 hA60
  clear hA59
  have hs60 := hg60.size
  have hl60 := hx60.lt
  refine sx_store hA60 rfl (.inl rfl) rfl (hA60.ev (i := 14) (v := .pointer (some ⟨B60, 0, none⟩))) (hA60.ev (i := 70) (v := .agg #[.slice Ap55 (stl (ofS [2, 0]) 0).1.rs.length cp55, .slice Aj55 (stl (ofS [2, 0]) 0).1.bs.length cj55])) hx60 (by kernel_rfl) rfl (by simp [Value.oneCell']) ?_
  intro w61 hx61 hg61
  have hs61 := hg61.size
  refine sx_val hA60 rfl (ev_assign (hA60.ev (i := 71) (v := .bool (stl (ofS [2, 0]) 0).2.1)) _ rfl) ?_
  intro a62 hA62; clear hA60
  refine sx_val hA62 rfl (ev_assign (hA62.ev (i := 72) (v := .int .i64 (stl (ofS [2, 0]) 0).2.2)) _ rfl) ?_
  intro a63 hA63; clear hA62
  refine sx_nil ?_
  refine then_n ?_
  refine wp_seq ?_
  refine wp_region_lit ?_
  refine sx_bs (n := 2) (cs := (flat iva [2, 0]).toArray) (e := 3) hA63 rfl (by decide) (.inl rfl) (bsI2 (ec _ (.int .i64 2)) (ec _ (.int .i64 0)) _ rfl) ?_
  intro B64 w64 a64 hB64 hx64 hg64 hA64
  clear hA63
  have hs64 := hg64.size
  have hl64 := hx64.lt
  have ho64 := Own.bxn (n := 2) hx64 iva_sz rfl (by decide)
  have hh64 := Own.hi ho64
  refine sx_call (f := 30) (args := #[.slice (some ⟨B64, 0, none⟩) 2 2]) hA64 rfl (by decide) (.inl rfl) (ev_fn rfl (mp1 (hA64.ev (i := 74) (v := .slice (some ⟨B64, 0, none⟩) 2 2))) (by kernel_rfl) _ rfl) (of_any (some ⟨B64, 0, none⟩) 2 [2, 0] _ (OwnR.gr (e := 3) ⟨rfl, ho64⟩) (by decide) (by decide)) ?_
  intro e65 w65 hR65
  obtain ⟨Ap65, cp65, Aj65, cj65, rfl, hC65, hJ65, hb65⟩ := hR65
  refine ⟨_, rfl, ?_⟩
  intro a65 hA65
  clear hA64
  have hg65 := g0 hb65
  have hs65 := hg65.size
  clear hb65
  have ho65_0 : Own w65 (w64.heap.size) 3 1 (.slice Ap65 (ofS [2, 0]).rs.length cp65) (ofS [2, 0]).rs.length (flat iva (ofS [2, 0]).rs) := hC65
  have hh65_0 := Own.hi ho65_0
  have ho65_1 : Own w65 (w64.heap.size) 4 1 (.slice Aj65 (ofS [2, 0]).bs.length cj65) (ofS [2, 0]).bs.length (flat bva (ofS [2, 0]).bs) := hJ65
  have hh65_1 := Own.hi ho65_1
  refine sx_call (f := 16) (args := #[.agg #[.slice Ap65 (ofS [2, 0]).rs.length cp65, .slice Aj65 (ofS [2, 0]).bs.length cj65], .int .i64 0]) hA65 rfl (by decide) (.inl rfl) (ev_fn rfl (mp2 (hA65.ev (i := 75) (v := .agg #[.slice Ap65 (ofS [2, 0]).rs.length cp65, .slice Aj65 (ofS [2, 0]).bs.length cj65])) (ec _ (.int .i64 0))) (by kernel_rfl) _ rfl) (Start_any Ap65 cp65 Aj65 cj65 (ofS [2, 0]).rs (ofS [2, 0]).bs 0 _ ⟨(OwnR.gr (e := 3) ⟨rfl, ho65_0⟩), (OwnR.gr (e := 4) ⟨rfl, ho65_1⟩)⟩ (by decide) (by decide)) ?_
  intro e66 w66 hR66
  obtain ⟨Ap66, cp66, Aj66, cj66, rfl, hC66, hJ66, hb66⟩ := hR66
  refine ⟨_, rfl, ?_⟩
  intro a66 hA66
  clear hA65
  have hg66 := g0 hb66
  have hs66 := hg66.size
  clear hb66
  have ho66_0 : Own w66 (w65.heap.size) 3 1 (.slice Ap66 (sta (ofS [2, 0]) 0).1.rs.length cp66) (sta (ofS [2, 0]) 0).1.rs.length (flat iva (sta (ofS [2, 0]) 0).1.rs) := hC66
  have hh66_0 := Own.hi ho66_0
  have ho66_1 : Own w66 (w65.heap.size) 4 1 (.slice Aj66 (sta (ofS [2, 0]) 0).1.bs.length cj66) (sta (ofS [2, 0]) 0).1.bs.length (flat bva (sta (ofS [2, 0]) 0).1.bs) := hJ66
  have hh66_1 := Own.hi ho66_1
  refine sx_val hA66 rfl (ev_move (hA66.ev (i := 76) (v := .tuple #[.agg #[.slice Ap66 (sta (ofS [2, 0]) 0).1.rs.length cp66, .slice Aj66 (sta (ofS [2, 0]) 0).1.bs.length cj66], .int .i64 (sta (ofS [2, 0]) 0).2])) _ rfl) ?_
  intro a67 hA67; clear hA66
  refine sx_val (v := .agg #[.slice Ap66 (sta (ofS [2, 0]) 0).1.rs.length cp66, .slice Aj66 (sta (ofS [2, 0]) 0).1.bs.length cj66]) hA67 rfl (ev_ext (hA67.ev (i := 73) (v := .tuple #[.agg #[.slice Ap66 (sta (ofS [2, 0]) 0).1.rs.length cp66, .slice Aj66 (sta (ofS [2, 0]) 0).1.bs.length cj66], .int .i64 (sta (ofS [2, 0]) 0).2])) rfl _ rfl) ?_
  intro a68 hA68; clear hA67
  refine sx_val (v := .int .i64 (sta (ofS [2, 0]) 0).2) hA68 rfl (ev_ext (hA68.ev (i := 73) (v := .tuple #[.agg #[.slice Ap66 (sta (ofS [2, 0]) 0).1.rs.length cp66, .slice Aj66 (sta (ofS [2, 0]) 0).1.bs.length cj66], .int .i64 (sta (ofS [2, 0]) 0).2])) rfl _ rfl) ?_
  intro a69 hA69; clear hA68
  refine sx_new (cs := #[.slice none 0 0, .slice none 0 0]) (t := 25) hA69 rfl (by decide) (.inl rfl) (ev_alloc (z := .agg (#[.slice none 0 0, .slice none 0 0])) (by kernel_rfl) (by kernel_rfl) _ rfl) ?_
  intro B70 w70 a70 hB70 hx70 hg70 hA70
  clear hA69
  have hs70 := hg70.size
  have hl70 := hx70.lt
  refine sx_store hA70 rfl (.inl rfl) rfl (hA70.ev (i := 17) (v := .pointer (some ⟨B70, 0, none⟩))) (hA70.ev (i := 77) (v := .agg #[.slice Ap66 (sta (ofS [2, 0]) 0).1.rs.length cp66, .slice Aj66 (sta (ofS [2, 0]) 0).1.bs.length cj66])) hx70 (by kernel_rfl) rfl (by simp [Value.oneCell']) ?_
  intro w71 hx71 hg71
  have hs71 := hg71.size
  refine sx_val hA70 rfl (ev_assign (hA70.ev (i := 78) (v := .int .i64 (sta (ofS [2, 0]) 0).2)) _ rfl) ?_
  intro a72 hA72; clear hA70
  refine sx_nil ?_
  refine then_n ?_
  refine wp_seq ?_
  refine wp_region_lit ?_
  refine sx_bs (n := 2) (cs := (flat iva [1002, 0]).toArray) (e := 3) hA72 rfl (by decide) (.inl rfl) (bsI2 (ec _ (.int .i64 1002)) (ec _ (.int .i64 0)) _ rfl) ?_
  intro B73 w73 a73 hB73 hx73 hg73 hA73
  clear hA72
  have hs73 := hg73.size
  have hl73 := hx73.lt
  have ho73 := Own.bxn (n := 2) hx73 iva_sz rfl (by decide)
  have hh73 := Own.hi ho73
  refine sx_call (f := 30) (args := #[.slice (some ⟨B73, 0, none⟩) 2 2]) hA73 rfl (by decide) (.inl rfl) (ev_fn rfl (mp1 (hA73.ev (i := 80) (v := .slice (some ⟨B73, 0, none⟩) 2 2))) (by kernel_rfl) _ rfl) (of_any (some ⟨B73, 0, none⟩) 2 [1002, 0] _ (OwnR.gr (e := 3) ⟨rfl, ho73⟩) (by decide) (by decide)) ?_
  intro e74 w74 hR74
  obtain ⟨Ap74, cp74, Aj74, cj74, rfl, hC74, hJ74, hb74⟩ := hR74
  refine ⟨_, rfl, ?_⟩
  intro a74 hA74
  clear hA73
  have hg74 := g0 hb74
  have hs74 := hg74.size
  clear hb74
  have ho74_0 : Own w74 (w73.heap.size) 3 1 (.slice Ap74 (ofS [1002, 0]).rs.length cp74) (ofS [1002, 0]).rs.length (flat iva (ofS [1002, 0]).rs) := hC74
  have hh74_0 := Own.hi ho74_0
  have ho74_1 : Own w74 (w73.heap.size) 4 1 (.slice Aj74 (ofS [1002, 0]).bs.length cj74) (ofS [1002, 0]).bs.length (flat bva (ofS [1002, 0]).bs) := hJ74
  have hh74_1 := Own.hi ho74_1
  refine sx_call (f := 16) (args := #[.agg #[.slice Ap74 (ofS [1002, 0]).rs.length cp74, .slice Aj74 (ofS [1002, 0]).bs.length cj74], .int .i64 0]) hA74 rfl (by decide) (.inl rfl) (ev_fn rfl (mp2 (hA74.ev (i := 81) (v := .agg #[.slice Ap74 (ofS [1002, 0]).rs.length cp74, .slice Aj74 (ofS [1002, 0]).bs.length cj74])) (ec _ (.int .i64 0))) (by kernel_rfl) _ rfl) (Start_any Ap74 cp74 Aj74 cj74 (ofS [1002, 0]).rs (ofS [1002, 0]).bs 0 _ ⟨(OwnR.gr (e := 3) ⟨rfl, ho74_0⟩), (OwnR.gr (e := 4) ⟨rfl, ho74_1⟩)⟩ (by decide) (by decide)) ?_
  intro e75 w75 hR75
  obtain ⟨Ap75, cp75, Aj75, cj75, rfl, hC75, hJ75, hb75⟩ := hR75
  refine ⟨_, rfl, ?_⟩
  intro a75 hA75
  clear hA74
  have hg75 := g0 hb75
  have hs75 := hg75.size
  clear hb75
  have ho75_0 : Own w75 (w74.heap.size) 3 1 (.slice Ap75 (sta (ofS [1002, 0]) 0).1.rs.length cp75) (sta (ofS [1002, 0]) 0).1.rs.length (flat iva (sta (ofS [1002, 0]) 0).1.rs) := hC75
  have hh75_0 := Own.hi ho75_0
  have ho75_1 : Own w75 (w74.heap.size) 4 1 (.slice Aj75 (sta (ofS [1002, 0]) 0).1.bs.length cj75) (sta (ofS [1002, 0]) 0).1.bs.length (flat bva (sta (ofS [1002, 0]) 0).1.bs) := hJ75
  have hh75_1 := Own.hi ho75_1
  refine sx_val hA75 rfl (ev_move (hA75.ev (i := 82) (v := .tuple #[.agg #[.slice Ap75 (sta (ofS [1002, 0]) 0).1.rs.length cp75, .slice Aj75 (sta (ofS [1002, 0]) 0).1.bs.length cj75], .int .i64 (sta (ofS [1002, 0]) 0).2])) _ rfl) ?_
  intro a76 hA76; clear hA75
  refine sx_val (v := .agg #[.slice Ap75 (sta (ofS [1002, 0]) 0).1.rs.length cp75, .slice Aj75 (sta (ofS [1002, 0]) 0).1.bs.length cj75]) hA76 rfl (ev_ext (hA76.ev (i := 79) (v := .tuple #[.agg #[.slice Ap75 (sta (ofS [1002, 0]) 0).1.rs.length cp75, .slice Aj75 (sta (ofS [1002, 0]) 0).1.bs.length cj75], .int .i64 (sta (ofS [1002, 0]) 0).2])) rfl _ rfl) ?_
  intro a77 hA77; clear hA76
  refine sx_val (v := .int .i64 (sta (ofS [1002, 0]) 0).2) hA77 rfl (ev_ext (hA77.ev (i := 79) (v := .tuple #[.agg #[.slice Ap75 (sta (ofS [1002, 0]) 0).1.rs.length cp75, .slice Aj75 (sta (ofS [1002, 0]) 0).1.bs.length cj75], .int .i64 (sta (ofS [1002, 0]) 0).2])) rfl _ rfl) ?_
  intro a78 hA78; clear hA77
  refine sx_new (cs := #[.slice none 0 0, .slice none 0 0]) (t := 25) hA78 rfl (by decide) (.inl rfl) (ev_alloc (z := .agg (#[.slice none 0 0, .slice none 0 0])) (by kernel_rfl) (by kernel_rfl) _ rfl) ?_
  intro B79 w79 a79 hB79 hx79 hg79 hA79
  clear hA78
  have hs79 := hg79.size
  have hl79 := hx79.lt
  refine sx_store hA79 rfl (.inl rfl) rfl (hA79.ev (i := 19) (v := .pointer (some ⟨B79, 0, none⟩))) (hA79.ev (i := 83) (v := .agg #[.slice Ap75 (sta (ofS [1002, 0]) 0).1.rs.length cp75, .slice Aj75 (sta (ofS [1002, 0]) 0).1.bs.length cj75])) hx79 (by kernel_rfl) rfl (by simp [Value.oneCell']) ?_
  intro w80 hx80 hg80
  have hs80 := hg80.size
  refine sx_val hA79 rfl (ev_assign (hA79.ev (i := 84) (v := .int .i64 (sta (ofS [1002, 0]) 0).2)) _ rfl) ?_
  intro a81 hA81; clear hA79
  refine sx_nil ?_
  refine then_n ?_
  refine wp_seq ?_
  refine wp_region_lit ?_
  refine sx_bs (n := 2) (cs := (flat iva [0, 0]).toArray) (e := 3) hA81 rfl (by decide) (.inl rfl) (bsI2 (ec _ (.int .i64 0)) (ec _ (.int .i64 0)) _ rfl) ?_
  intro B82 w82 a82 hB82 hx82 hg82 hA82
  clear hA81
  have hs82 := hg82.size
  have hl82 := hx82.lt
  have ho82 := Own.bxn (n := 2) hx82 iva_sz rfl (by decide)
  have hh82 := Own.hi ho82
  refine sx_call (f := 30) (args := #[.slice (some ⟨B82, 0, none⟩) 2 2]) hA82 rfl (by decide) (.inl rfl) (ev_fn rfl (mp1 (hA82.ev (i := 86) (v := .slice (some ⟨B82, 0, none⟩) 2 2))) (by kernel_rfl) _ rfl) (of_any (some ⟨B82, 0, none⟩) 2 [0, 0] _ (OwnR.gr (e := 3) ⟨rfl, ho82⟩) (by decide) (by decide)) ?_
  intro e83 w83 hR83
  obtain ⟨Ap83, cp83, Aj83, cj83, rfl, hC83, hJ83, hb83⟩ := hR83
  refine ⟨_, rfl, ?_⟩
  intro a83 hA83
  clear hA82
  have hg83 := g0 hb83
  have hs83 := hg83.size
  clear hb83
  have ho83_0 : Own w83 (w82.heap.size) 3 1 (.slice Ap83 (ofS [0, 0]).rs.length cp83) (ofS [0, 0]).rs.length (flat iva (ofS [0, 0]).rs) := hC83
  have hh83_0 := Own.hi ho83_0
  have ho83_1 : Own w83 (w82.heap.size) 4 1 (.slice Aj83 (ofS [0, 0]).bs.length cj83) (ofS [0, 0]).bs.length (flat bva (ofS [0, 0]).bs) := hJ83
  have hh83_1 := Own.hi ho83_1
  refine sx_call (f := 16) (args := #[.agg #[.slice Ap83 (ofS [0, 0]).rs.length cp83, .slice Aj83 (ofS [0, 0]).bs.length cj83], .int .i64 0]) hA83 rfl (by decide) (.inl rfl) (ev_fn rfl (mp2 (hA83.ev (i := 87) (v := .agg #[.slice Ap83 (ofS [0, 0]).rs.length cp83, .slice Aj83 (ofS [0, 0]).bs.length cj83])) (ec _ (.int .i64 0))) (by kernel_rfl) _ rfl) (Start_any Ap83 cp83 Aj83 cj83 (ofS [0, 0]).rs (ofS [0, 0]).bs 0 _ ⟨(OwnR.gr (e := 3) ⟨rfl, ho83_0⟩), (OwnR.gr (e := 4) ⟨rfl, ho83_1⟩)⟩ (by decide) (by decide)) ?_
  intro e84 w84 hR84
  obtain ⟨Ap84, cp84, Aj84, cj84, rfl, hC84, hJ84, hb84⟩ := hR84
  refine ⟨_, rfl, ?_⟩
  intro a84 hA84
  clear hA83
  have hg84 := g0 hb84
  have hs84 := hg84.size
  clear hb84
  have ho84_0 : Own w84 (w83.heap.size) 3 1 (.slice Ap84 (sta (ofS [0, 0]) 0).1.rs.length cp84) (sta (ofS [0, 0]) 0).1.rs.length (flat iva (sta (ofS [0, 0]) 0).1.rs) := hC84
  have hh84_0 := Own.hi ho84_0
  have ho84_1 : Own w84 (w83.heap.size) 4 1 (.slice Aj84 (sta (ofS [0, 0]) 0).1.bs.length cj84) (sta (ofS [0, 0]) 0).1.bs.length (flat bva (sta (ofS [0, 0]) 0).1.bs) := hJ84
  have hh84_1 := Own.hi ho84_1
  refine sx_val hA84 rfl (ev_move (hA84.ev (i := 88) (v := .tuple #[.agg #[.slice Ap84 (sta (ofS [0, 0]) 0).1.rs.length cp84, .slice Aj84 (sta (ofS [0, 0]) 0).1.bs.length cj84], .int .i64 (sta (ofS [0, 0]) 0).2])) _ rfl) ?_
  intro a85 hA85; clear hA84
  refine sx_val (v := .agg #[.slice Ap84 (sta (ofS [0, 0]) 0).1.rs.length cp84, .slice Aj84 (sta (ofS [0, 0]) 0).1.bs.length cj84]) hA85 rfl (ev_ext (hA85.ev (i := 85) (v := .tuple #[.agg #[.slice Ap84 (sta (ofS [0, 0]) 0).1.rs.length cp84, .slice Aj84 (sta (ofS [0, 0]) 0).1.bs.length cj84], .int .i64 (sta (ofS [0, 0]) 0).2])) rfl _ rfl) ?_
  intro a86 hA86; clear hA85
  refine sx_val (v := .int .i64 (sta (ofS [0, 0]) 0).2) hA86 rfl (ev_ext (hA86.ev (i := 85) (v := .tuple #[.agg #[.slice Ap84 (sta (ofS [0, 0]) 0).1.rs.length cp84, .slice Aj84 (sta (ofS [0, 0]) 0).1.bs.length cj84], .int .i64 (sta (ofS [0, 0]) 0).2])) rfl _ rfl) ?_
  intro a87 hA87; clear hA86
  refine sx_new (cs := #[.slice none 0 0, .slice none 0 0]) (t := 25) hA87 rfl (by decide) (.inl rfl) (ev_alloc (z := .agg (#[.slice none 0 0, .slice none 0 0])) (by kernel_rfl) (by kernel_rfl) _ rfl) ?_
  intro B88 w88 a88 hB88 hx88 hg88 hA88
  clear hA87
  have hs88 := hg88.size
  have hl88 := hx88.lt
  refine sx_store hA88 rfl (.inl rfl) rfl (hA88.ev (i := 21) (v := .pointer (some ⟨B88, 0, none⟩))) (hA88.ev (i := 89) (v := .agg #[.slice Ap84 (sta (ofS [0, 0]) 0).1.rs.length cp84, .slice Aj84 (sta (ofS [0, 0]) 0).1.bs.length cj84])) hx88 (by kernel_rfl) rfl (by simp [Value.oneCell']) ?_
  intro w89 hx89 hg89
  have hs89 := hg89.size
  refine sx_val hA88 rfl (ev_assign (hA88.ev (i := 90) (v := .int .i64 (sta (ofS [0, 0]) 0).2)) _ rfl) ?_
  intro a90 hA90; clear hA88
  refine sx_nil ?_
  refine then_n ?_
  refine wp_seq ?_
  refine wp_region_lit ?_
  refine sx_bs (n := 3) (cs := (flat iva [1002, 0, 1]).toArray) (e := 3) hA90 rfl (by decide) (.inl rfl) (bsI3 (ec _ (.int .i64 1002)) (ec _ (.int .i64 0)) (ec _ (.int .i64 1)) _ rfl) ?_
  intro B91 w91 a91 hB91 hx91 hg91 hA91
  clear hA90
  have hs91 := hg91.size
  have hl91 := hx91.lt
  have ho91 := Own.bxn (n := 3) hx91 iva_sz rfl (by decide)
  have hh91 := Own.hi ho91
  refine sx_call (f := 30) (args := #[.slice (some ⟨B91, 0, none⟩) 3 3]) hA91 rfl (by decide) (.inl rfl) (ev_fn rfl (mp1 (hA91.ev (i := 92) (v := .slice (some ⟨B91, 0, none⟩) 3 3))) (by kernel_rfl) _ rfl) (of_any (some ⟨B91, 0, none⟩) 3 [1002, 0, 1] _ (OwnR.gr (e := 3) ⟨rfl, ho91⟩) (by decide) (by decide)) ?_
  intro e92 w92 hR92
  obtain ⟨Ap92, cp92, Aj92, cj92, rfl, hC92, hJ92, hb92⟩ := hR92
  refine ⟨_, rfl, ?_⟩
  intro a92 hA92
  clear hA91
  have hg92 := g0 hb92
  have hs92 := hg92.size
  clear hb92
  have ho92_0 : Own w92 (w91.heap.size) 3 1 (.slice Ap92 (ofS [1002, 0, 1]).rs.length cp92) (ofS [1002, 0, 1]).rs.length (flat iva (ofS [1002, 0, 1]).rs) := hC92
  have hh92_0 := Own.hi ho92_0
  have ho92_1 : Own w92 (w91.heap.size) 4 1 (.slice Aj92 (ofS [1002, 0, 1]).bs.length cj92) (ofS [1002, 0, 1]).bs.length (flat bva (ofS [1002, 0, 1]).bs) := hJ92
  have hh92_1 := Own.hi ho92_1
  refine sx_call (f := 24) (args := #[.agg #[.slice Ap92 (ofS [1002, 0, 1]).rs.length cp92, .slice Aj92 (ofS [1002, 0, 1]).bs.length cj92]]) hA92 rfl (by decide) (.inl rfl) (ev_fn rfl (mp1 (hA92.ev (i := 93) (v := .agg #[.slice Ap92 (ofS [1002, 0, 1]).rs.length cp92, .slice Aj92 (ofS [1002, 0, 1]).bs.length cj92]))) (by kernel_rfl) _ rfl) (First_any Ap92 cp92 Aj92 cj92 (ofS [1002, 0, 1]).rs (ofS [1002, 0, 1]).bs _ ⟨(OwnR.gr (e := 3) ⟨rfl, ho92_0⟩), (OwnR.gr (e := 4) ⟨rfl, ho92_1⟩)⟩ (by decide) (by decide)) ?_
  intro e93 w93 hR93
  obtain ⟨rfl, hb93⟩ := hR93
  refine ⟨_, rfl, ?_⟩
  intro a93 hA93
  clear hA92
  have hg93 := g0 hb93
  have hs93 := hg93.size
  clear hb93
  refine sx_val hA93 rfl (ev_move (hA93.ev (i := 94) (v := .tuple #[.int .i64 (frst (ofS [1002, 0, 1])).1, .int .i64 (frst (ofS [1002, 0, 1])).2])) _ rfl) ?_
  intro a94 hA94; clear hA93
  refine sx_val (v := .int .i64 (frst (ofS [1002, 0, 1])).1) hA94 rfl (ev_ext (hA94.ev (i := 91) (v := .tuple #[.int .i64 (frst (ofS [1002, 0, 1])).1, .int .i64 (frst (ofS [1002, 0, 1])).2])) rfl _ rfl) ?_
  intro a95 hA95; clear hA94
  refine sx_val (v := .int .i64 (frst (ofS [1002, 0, 1])).2) hA95 rfl (ev_ext (hA95.ev (i := 91) (v := .tuple #[.int .i64 (frst (ofS [1002, 0, 1])).1, .int .i64 (frst (ofS [1002, 0, 1])).2])) rfl _ rfl) ?_
  intro a96 hA96; clear hA95
  refine sx_val hA96 rfl (ev_assign (hA96.ev (i := 95) (v := .int .i64 (frst (ofS [1002, 0, 1])).1)) _ rfl) ?_
  intro a97 hA97; clear hA96
  refine sx_val hA97 rfl (ev_assign (hA97.ev (i := 96) (v := .int .i64 (frst (ofS [1002, 0, 1])).2)) _ rfl) ?_
  intro a98 hA98; clear hA97
  refine sx_nil ?_
  refine then_n ?_
  refine wp_seq ?_
  refine wp_region_lit ?_
  refine sx_bs (n := 2) (cs := (flat iva [1002, 1]).toArray) (e := 3) hA98 rfl (by decide) (.inl rfl) (bsI2 (ec _ (.int .i64 1002)) (ec _ (.int .i64 1)) _ rfl) ?_
  intro B99 w99 a99 hB99 hx99 hg99 hA99
  clear hA98
  have hs99 := hg99.size
  have hl99 := hx99.lt
  have ho99 := Own.bxn (n := 2) hx99 iva_sz rfl (by decide)
  have hh99 := Own.hi ho99
  refine sx_call (f := 30) (args := #[.slice (some ⟨B99, 0, none⟩) 2 2]) hA99 rfl (by decide) (.inl rfl) (ev_fn rfl (mp1 (hA99.ev (i := 98) (v := .slice (some ⟨B99, 0, none⟩) 2 2))) (by kernel_rfl) _ rfl) (of_any (some ⟨B99, 0, none⟩) 2 [1002, 1] _ (OwnR.gr (e := 3) ⟨rfl, ho99⟩) (by decide) (by decide)) ?_
  intro e100 w100 hR100
  obtain ⟨Ap100, cp100, Aj100, cj100, rfl, hC100, hJ100, hb100⟩ := hR100
  refine ⟨_, rfl, ?_⟩
  intro a100 hA100
  clear hA99
  have hg100 := g0 hb100
  have hs100 := hg100.size
  clear hb100
  have ho100_0 : Own w100 (w99.heap.size) 3 1 (.slice Ap100 (ofS [1002, 1]).rs.length cp100) (ofS [1002, 1]).rs.length (flat iva (ofS [1002, 1]).rs) := hC100
  have hh100_0 := Own.hi ho100_0
  have ho100_1 : Own w100 (w99.heap.size) 4 1 (.slice Aj100 (ofS [1002, 1]).bs.length cj100) (ofS [1002, 1]).bs.length (flat bva (ofS [1002, 1]).bs) := hJ100
  have hh100_1 := Own.hi ho100_1
  refine sx_call (f := 24) (args := #[.agg #[.slice Ap100 (ofS [1002, 1]).rs.length cp100, .slice Aj100 (ofS [1002, 1]).bs.length cj100]]) hA100 rfl (by decide) (.inl rfl) (ev_fn rfl (mp1 (hA100.ev (i := 99) (v := .agg #[.slice Ap100 (ofS [1002, 1]).rs.length cp100, .slice Aj100 (ofS [1002, 1]).bs.length cj100]))) (by kernel_rfl) _ rfl) (First_any Ap100 cp100 Aj100 cj100 (ofS [1002, 1]).rs (ofS [1002, 1]).bs _ ⟨(OwnR.gr (e := 3) ⟨rfl, ho100_0⟩), (OwnR.gr (e := 4) ⟨rfl, ho100_1⟩)⟩ (by decide) (by decide)) ?_
  intro e101 w101 hR101
  obtain ⟨rfl, hb101⟩ := hR101
  refine ⟨_, rfl, ?_⟩
  intro a101 hA101
  clear hA100
  have hg101 := g0 hb101
  have hs101 := hg101.size
  clear hb101
  refine sx_val hA101 rfl (ev_move (hA101.ev (i := 100) (v := .tuple #[.int .i64 (frst (ofS [1002, 1])).1, .int .i64 (frst (ofS [1002, 1])).2])) _ rfl) ?_
  intro a102 hA102; clear hA101
  refine sx_val (v := .int .i64 (frst (ofS [1002, 1])).1) hA102 rfl (ev_ext (hA102.ev (i := 97) (v := .tuple #[.int .i64 (frst (ofS [1002, 1])).1, .int .i64 (frst (ofS [1002, 1])).2])) rfl _ rfl) ?_
  intro a103 hA103; clear hA102
  refine sx_val (v := .int .i64 (frst (ofS [1002, 1])).2) hA103 rfl (ev_ext (hA103.ev (i := 97) (v := .tuple #[.int .i64 (frst (ofS [1002, 1])).1, .int .i64 (frst (ofS [1002, 1])).2])) rfl _ rfl) ?_
  intro a104 hA104; clear hA103
  refine sx_val hA104 rfl (ev_assign (hA104.ev (i := 101) (v := .int .i64 (frst (ofS [1002, 1])).1)) _ rfl) ?_
  intro a105 hA105; clear hA104
  refine sx_val hA105 rfl (ev_assign (hA105.ev (i := 102) (v := .int .i64 (frst (ofS [1002, 1])).2)) _ rfl) ?_
  intro a106 hA106; clear hA105
  refine sx_nil ?_
  refine then_n ?_
  refine wp_seq ?_
  refine wp_region_lit ?_
  refine sx_call (f := 28) (args := #[.int .i64 0]) hA106 rfl (by decide) (.inl rfl) (ev_fn rfl (mp1 (ec _ (.int .i64 0))) (by kernel_rfl) _ rfl) (New_any 0 _) ?_
  intro e107 w107 hR107
  obtain ⟨Ap107, cp107, Aj107, cj107, rfl, hC107, hJ107, hb107⟩ := hR107
  refine ⟨_, rfl, ?_⟩
  intro a107 hA107
  clear hA106
  have hg107 := g0 hb107
  have hs107 := hg107.size
  clear hb107
  have ho107_0 : Own w107 (w101.heap.size) 3 1 (.slice Ap107 (nws 0).1.rs.length cp107) (nws 0).1.rs.length (flat iva (nws 0).1.rs) := hC107
  have hh107_0 := Own.hi ho107_0
  have ho107_1 : Own w107 (w101.heap.size) 4 1 (.slice Aj107 (nws 0).1.bs.length cj107) (nws 0).1.bs.length (flat bva (nws 0).1.bs) := hJ107
  have hh107_1 := Own.hi ho107_1
  refine sx_val hA107 rfl (ev_move (hA107.ev (i := 104) (v := .tuple #[.agg #[.slice Ap107 (nws 0).1.rs.length cp107, .slice Aj107 (nws 0).1.bs.length cj107], .int .i64 (nws 0).2])) _ rfl) ?_
  intro a108 hA108; clear hA107
  refine sx_val (v := .agg #[.slice Ap107 (nws 0).1.rs.length cp107, .slice Aj107 (nws 0).1.bs.length cj107]) hA108 rfl (ev_ext (hA108.ev (i := 103) (v := .tuple #[.agg #[.slice Ap107 (nws 0).1.rs.length cp107, .slice Aj107 (nws 0).1.bs.length cj107], .int .i64 (nws 0).2])) rfl _ rfl) ?_
  intro a109 hA109; clear hA108
  refine sx_val (v := .int .i64 (nws 0).2) hA109 rfl (ev_ext (hA109.ev (i := 103) (v := .tuple #[.agg #[.slice Ap107 (nws 0).1.rs.length cp107, .slice Aj107 (nws 0).1.bs.length cj107], .int .i64 (nws 0).2])) rfl _ rfl) ?_
  intro a110 hA110; clear hA109
  refine sx_new (cs := #[.slice none 0 0, .slice none 0 0]) (t := 25) hA110 rfl (by decide) (.inl rfl) (ev_alloc (z := .agg (#[.slice none 0 0, .slice none 0 0])) (by kernel_rfl) (by kernel_rfl) _ rfl) ?_
  intro B111 w111 a111 hB111 hx111 hg111 hA111
  clear hA110
  have hs111 := hg111.size
  have hl111 := hx111.lt
  refine sx_store hA111 rfl (.inl rfl) rfl (hA111.ev (i := 27) (v := .pointer (some ⟨B111, 0, none⟩))) (hA111.ev (i := 105) (v := .agg #[.slice Ap107 (nws 0).1.rs.length cp107, .slice Aj107 (nws 0).1.bs.length cj107])) hx111 (by kernel_rfl) rfl (by simp [Value.oneCell']) ?_
  intro w112 hx112 hg112
  have hs112 := hg112.size
  refine sx_val hA111 rfl (ev_assign (hA111.ev (i := 106) (v := .int .i64 (nws 0).2)) _ rfl) ?_
  intro a113 hA113; clear hA111
  refine sx_nil ?_
  refine then_n ?_
  refine wp_seq ?_
  refine wp_region_lit ?_
  refine sx_bs (n := 1) (cs := (flat iva [513]).toArray) (e := 3) hA113 rfl (by decide) (.inl rfl) (bsI1 (ec _ (.int .i64 513)) _ rfl) ?_
  intro B114 w114 a114 hB114 hx114 hg114 hA114
  clear hA113
  have hs114 := hg114.size
  have hl114 := hx114.lt
  have ho114 := Own.bxn (n := 1) hx114 iva_sz rfl (by decide)
  have hh114 := Own.hi ho114
  refine sx_call (f := 30) (args := #[.slice (some ⟨B114, 0, none⟩) 1 1]) hA114 rfl (by decide) (.inl rfl) (ev_fn rfl (mp1 (hA114.ev (i := 108) (v := .slice (some ⟨B114, 0, none⟩) 1 1))) (by kernel_rfl) _ rfl) (of_any (some ⟨B114, 0, none⟩) 1 [513] _ (OwnR.gr (e := 3) ⟨rfl, ho114⟩) (by decide) (by decide)) ?_
  intro e115 w115 hR115
  obtain ⟨Ap115, cp115, Aj115, cj115, rfl, hC115, hJ115, hb115⟩ := hR115
  refine ⟨_, rfl, ?_⟩
  intro a115 hA115
  clear hA114
  have hg115 := g0 hb115
  have hs115 := hg115.size
  clear hb115
  have ho115_0 : Own w115 (w114.heap.size) 3 1 (.slice Ap115 (ofS [513]).rs.length cp115) (ofS [513]).rs.length (flat iva (ofS [513]).rs) := hC115
  have hh115_0 := Own.hi ho115_0
  have ho115_1 : Own w115 (w114.heap.size) 4 1 (.slice Aj115 (ofS [513]).bs.length cj115) (ofS [513]).bs.length (flat bva (ofS [513]).bs) := hJ115
  have hh115_1 := Own.hi ho115_1
  refine sx_call (f := 20) (args := #[.agg #[.slice Ap115 (ofS [513]).rs.length cp115, .slice Aj115 (ofS [513]).bs.length cj115]]) hA115 rfl (by decide) (.inl rfl) (ev_fn rfl (mp1 (hA115.ev (i := 109) (v := .agg #[.slice Ap115 (ofS [513]).rs.length cp115, .slice Aj115 (ofS [513]).bs.length cj115]))) (by kernel_rfl) _ rfl) (Check_any Ap115 cp115 Aj115 cj115 (ofS [513]).rs (ofS [513]).bs _ ⟨(OwnR.gr (e := 3) ⟨rfl, ho115_0⟩), (OwnR.gr (e := 4) ⟨rfl, ho115_1⟩)⟩ (by decide) (by decide)) ?_
  intro e116 w116 hR116
  obtain ⟨rfl, hb116⟩ := hR116
  refine ⟨_, rfl, ?_⟩
  intro a116 hA116
  clear hA115
  have hg116 := g0 hb116
  have hs116 := hg116.size
  clear hb116
  refine sx_val hA116 rfl (ev_move (hA116.ev (i := 110) (v := .tuple #[.int .i64 (chs (ofS [513])).1, .int .i64 (chs (ofS [513])).2])) _ rfl) ?_
  intro a117 hA117; clear hA116
  refine sx_val (v := .int .i64 (chs (ofS [513])).1) hA117 rfl (ev_ext (hA117.ev (i := 107) (v := .tuple #[.int .i64 (chs (ofS [513])).1, .int .i64 (chs (ofS [513])).2])) rfl _ rfl) ?_
  intro a118 hA118; clear hA117
  refine sx_val (v := .int .i64 (chs (ofS [513])).2) hA118 rfl (ev_ext (hA118.ev (i := 107) (v := .tuple #[.int .i64 (chs (ofS [513])).1, .int .i64 (chs (ofS [513])).2])) rfl _ rfl) ?_
  intro a119 hA119; clear hA118
  refine sx_val hA119 rfl (ev_assign (hA119.ev (i := 111) (v := .int .i64 (chs (ofS [513])).1)) _ rfl) ?_
  intro a120 hA120; clear hA119
  refine sx_val hA120 rfl (ev_assign (hA120.ev (i := 112) (v := .int .i64 (chs (ofS [513])).2)) _ rfl) ?_
  intro a121 hA121; clear hA120
  refine sx_nil ?_
  refine then_n ?_
  refine wp_seq ?_
  have hx40_122 := hx40.gN hg42
  have hx40_123 := hx40_122.gN hg43
  have hx40_124 := hx40_123.gN hg44
  have hx40_125 := hx40_124.gN hg49
  have hx40_126 := hx40_125.gB hg50 (by omega)
  have hx40_127 := hx40_126.gN hg53
  have hx40_128 := hx40_127.gN hg54
  have hx40_129 := hx40_128.gN hg55
  have hx40_130 := hx40_129.gN hg60
  have hx40_131 := hx40_130.gB hg61 (by omega)
  have hx40_132 := hx40_131.gN hg64
  have hx40_133 := hx40_132.gN hg65
  have hx40_134 := hx40_133.gN hg66
  have hx40_135 := hx40_134.gN hg70
  have hx40_136 := hx40_135.gB hg71 (by omega)
  have hx40_137 := hx40_136.gN hg73
  have hx40_138 := hx40_137.gN hg74
  have hx40_139 := hx40_138.gN hg75
  have hx40_140 := hx40_139.gN hg79
  have hx40_141 := hx40_140.gB hg80 (by omega)
  have hx40_142 := hx40_141.gN hg82
  have hx40_143 := hx40_142.gN hg83
  have hx40_144 := hx40_143.gN hg84
  have hx40_145 := hx40_144.gN hg88
  have hx40_146 := hx40_145.gB hg89 (by omega)
  have hx40_147 := hx40_146.gN hg91
  have hx40_148 := hx40_147.gN hg92
  have hx40_149 := hx40_148.gN hg93
  have hx40_150 := hx40_149.gN hg99
  have hx40_151 := hx40_150.gN hg100
  have hx40_152 := hx40_151.gN hg101
  have hx40_153 := hx40_152.gN hg107
  have hx40_154 := hx40_153.gN hg111
  have hx40_155 := hx40_154.gB hg112 (by omega)
  have hx40_156 := hx40_155.gN hg114
  have hx40_157 := hx40_156.gN hg115
  have hx40_158 := hx40_157.gN hg116
  have hx71_159 := hx71.gN hg73
  have hx71_160 := hx71_159.gN hg74
  have hx71_161 := hx71_160.gN hg75
  have hx71_162 := hx71_161.gN hg79
  have hx71_163 := hx71_162.gB hg80 (by omega)
  have hx71_164 := hx71_163.gN hg82
  have hx71_165 := hx71_164.gN hg83
  have hx71_166 := hx71_165.gN hg84
  have hx71_167 := hx71_166.gN hg88
  have hx71_168 := hx71_167.gB hg89 (by omega)
  have hx71_169 := hx71_168.gN hg91
  have hx71_170 := hx71_169.gN hg92
  have hx71_171 := hx71_170.gN hg93
  have hx71_172 := hx71_171.gN hg99
  have hx71_173 := hx71_172.gN hg100
  have hx71_174 := hx71_173.gN hg101
  have hx71_175 := hx71_174.gN hg107
  have hx71_176 := hx71_175.gN hg111
  have hx71_177 := hx71_176.gB hg112 (by omega)
  have hx71_178 := hx71_177.gN hg114
  have hx71_179 := hx71_178.gN hg115
  have hx71_180 := hx71_179.gN hg116
  have ho35_181 := Own.gN ho35_0 hg39
  have ho35_182 := Own.gBT ho35_181 hg40 hx39 (by decide)
  have ho35_183 := Own.gN ho35_182 hg42
  have ho35_184 := Own.gN ho35_183 hg43
  have ho35_185 := Own.gN ho35_184 hg44
  have ho35_186 := Own.gN ho35_185 hg49
  have ho35_187 := Own.gBT ho35_186 hg50 hx49 (by decide)
  have ho35_188 := Own.gN ho35_187 hg53
  have ho35_189 := Own.gN ho35_188 hg54
  have ho35_190 := Own.gN ho35_189 hg55
  have ho35_191 := Own.gN ho35_190 hg60
  have ho35_192 := Own.gBT ho35_191 hg61 hx60 (by decide)
  have ho35_193 := Own.gN ho35_192 hg64
  have ho35_194 := Own.gN ho35_193 hg65
  have ho35_195 := Own.gN ho35_194 hg66
  have ho35_196 := Own.gN ho35_195 hg70
  have ho35_197 := Own.gBT ho35_196 hg71 hx70 (by decide)
  have ho35_198 := Own.gN ho35_197 hg73
  have ho35_199 := Own.gN ho35_198 hg74
  have ho35_200 := Own.gN ho35_199 hg75
  have ho35_201 := Own.gN ho35_200 hg79
  have ho35_202 := Own.gBT ho35_201 hg80 hx79 (by decide)
  have ho35_203 := Own.gN ho35_202 hg82
  have ho35_204 := Own.gN ho35_203 hg83
  have ho35_205 := Own.gN ho35_204 hg84
  have ho35_206 := Own.gN ho35_205 hg88
  have ho35_207 := Own.gBT ho35_206 hg89 hx88 (by decide)
  have ho35_208 := Own.gN ho35_207 hg91
  have ho35_209 := Own.gN ho35_208 hg92
  have ho35_210 := Own.gN ho35_209 hg93
  have ho35_211 := Own.gN ho35_210 hg99
  have ho35_212 := Own.gN ho35_211 hg100
  have ho35_213 := Own.gN ho35_212 hg101
  have ho35_214 := Own.gN ho35_213 hg107
  have ho35_215 := Own.gN ho35_214 hg111
  have ho35_216 := Own.gBT ho35_215 hg112 hx111 (by decide)
  have ho35_217 := Own.gN ho35_216 hg114
  have ho35_218 := Own.gN ho35_217 hg115
  have ho35_219 := Own.gN ho35_218 hg116
  have ho35_220 := Own.gN ho35_1 hg39
  have ho35_221 := Own.gBT ho35_220 hg40 hx39 (by decide)
  have ho35_222 := Own.gN ho35_221 hg42
  have ho35_223 := Own.gN ho35_222 hg43
  have ho35_224 := Own.gN ho35_223 hg44
  have ho35_225 := Own.gN ho35_224 hg49
  have ho35_226 := Own.gBT ho35_225 hg50 hx49 (by decide)
  have ho35_227 := Own.gN ho35_226 hg53
  have ho35_228 := Own.gN ho35_227 hg54
  have ho35_229 := Own.gN ho35_228 hg55
  have ho35_230 := Own.gN ho35_229 hg60
  have ho35_231 := Own.gBT ho35_230 hg61 hx60 (by decide)
  have ho35_232 := Own.gN ho35_231 hg64
  have ho35_233 := Own.gN ho35_232 hg65
  have ho35_234 := Own.gN ho35_233 hg66
  have ho35_235 := Own.gN ho35_234 hg70
  have ho35_236 := Own.gBT ho35_235 hg71 hx70 (by decide)
  have ho35_237 := Own.gN ho35_236 hg73
  have ho35_238 := Own.gN ho35_237 hg74
  have ho35_239 := Own.gN ho35_238 hg75
  have ho35_240 := Own.gN ho35_239 hg79
  have ho35_241 := Own.gBT ho35_240 hg80 hx79 (by decide)
  have ho35_242 := Own.gN ho35_241 hg82
  have ho35_243 := Own.gN ho35_242 hg83
  have ho35_244 := Own.gN ho35_243 hg84
  have ho35_245 := Own.gN ho35_244 hg88
  have ho35_246 := Own.gBT ho35_245 hg89 hx88 (by decide)
  have ho35_247 := Own.gN ho35_246 hg91
  have ho35_248 := Own.gN ho35_247 hg92
  have ho35_249 := Own.gN ho35_248 hg93
  have ho35_250 := Own.gN ho35_249 hg99
  have ho35_251 := Own.gN ho35_250 hg100
  have ho35_252 := Own.gN ho35_251 hg101
  have ho35_253 := Own.gN ho35_252 hg107
  have ho35_254 := Own.gN ho35_253 hg111
  have ho35_255 := Own.gBT ho35_254 hg112 hx111 (by decide)
  have ho35_256 := Own.gN ho35_255 hg114
  have ho35_257 := Own.gN ho35_256 hg115
  have ho35_258 := Own.gN ho35_257 hg116
  have ho66_259 := Own.gN ho66_0 hg70
  have ho66_260 := Own.gBT ho66_259 hg71 hx70 (by decide)
  have ho66_261 := Own.gN ho66_260 hg73
  have ho66_262 := Own.gN ho66_261 hg74
  have ho66_263 := Own.gN ho66_262 hg75
  have ho66_264 := Own.gN ho66_263 hg79
  have ho66_265 := Own.gBT ho66_264 hg80 hx79 (by decide)
  have ho66_266 := Own.gN ho66_265 hg82
  have ho66_267 := Own.gN ho66_266 hg83
  have ho66_268 := Own.gN ho66_267 hg84
  have ho66_269 := Own.gN ho66_268 hg88
  have ho66_270 := Own.gBT ho66_269 hg89 hx88 (by decide)
  have ho66_271 := Own.gN ho66_270 hg91
  have ho66_272 := Own.gN ho66_271 hg92
  have ho66_273 := Own.gN ho66_272 hg93
  have ho66_274 := Own.gN ho66_273 hg99
  have ho66_275 := Own.gN ho66_274 hg100
  have ho66_276 := Own.gN ho66_275 hg101
  have ho66_277 := Own.gN ho66_276 hg107
  have ho66_278 := Own.gN ho66_277 hg111
  have ho66_279 := Own.gBT ho66_278 hg112 hx111 (by decide)
  have ho66_280 := Own.gN ho66_279 hg114
  have ho66_281 := Own.gN ho66_280 hg115
  have ho66_282 := Own.gN ho66_281 hg116
  have ho66_283 := Own.gN ho66_1 hg70
  have ho66_284 := Own.gBT ho66_283 hg71 hx70 (by decide)
  have ho66_285 := Own.gN ho66_284 hg73
  have ho66_286 := Own.gN ho66_285 hg74
  have ho66_287 := Own.gN ho66_286 hg75
  have ho66_288 := Own.gN ho66_287 hg79
  have ho66_289 := Own.gBT ho66_288 hg80 hx79 (by decide)
  have ho66_290 := Own.gN ho66_289 hg82
  have ho66_291 := Own.gN ho66_290 hg83
  have ho66_292 := Own.gN ho66_291 hg84
  have ho66_293 := Own.gN ho66_292 hg88
  have ho66_294 := Own.gBT ho66_293 hg89 hx88 (by decide)
  have ho66_295 := Own.gN ho66_294 hg91
  have ho66_296 := Own.gN ho66_295 hg92
  have ho66_297 := Own.gN ho66_296 hg93
  have ho66_298 := Own.gN ho66_297 hg99
  have ho66_299 := Own.gN ho66_298 hg100
  have ho66_300 := Own.gN ho66_299 hg101
  have ho66_301 := Own.gN ho66_300 hg107
  have ho66_302 := Own.gN ho66_301 hg111
  have ho66_303 := Own.gBT ho66_302 hg112 hx111 (by decide)
  have ho66_304 := Own.gN ho66_303 hg114
  have ho66_305 := Own.gN ho66_304 hg115
  have ho66_306 := Own.gN ho66_305 hg116
  have hbel0_307 := Below.gN hbel0 hg2 hbel0.size
  have hbel0_308 := Below.gN hbel0_307 hg3 hbel0_307.size
  have hbel0_309 := Below.gN hbel0_308 hg4 hbel0_308.size
  have hbel0_310 := Below.gN hbel0_309 hg9 hbel0_309.size
  have hbel0_311 := Below.gB hbel0_310 hg10 hbel0_310.size (by omega)
  have hbel0_312 := Below.gN hbel0_311 hg13 hbel0_311.size
  have hbel0_313 := Below.gN hbel0_312 hg14 hbel0_312.size
  have hbel0_314 := Below.gN hbel0_313 hg15 hbel0_313.size
  have hbel0_315 := Below.gN hbel0_314 hg20 hbel0_314.size
  have hbel0_316 := Below.gB hbel0_315 hg21 hbel0_315.size (by omega)
  have hbel0_317 := Below.gN hbel0_316 hg24 hbel0_316.size
  have hbel0_318 := Below.gN hbel0_317 hg25 hbel0_317.size
  have hbel0_319 := Below.gN hbel0_318 hg26 hbel0_318.size
  have hbel0_320 := Below.gN hbel0_319 hg30 hbel0_319.size
  have hbel0_321 := Below.gB hbel0_320 hg31 hbel0_320.size (by omega)
  have hbel0_322 := Below.gN hbel0_321 hg33 hbel0_321.size
  have hbel0_323 := Below.gN hbel0_322 hg34 hbel0_322.size
  have hbel0_324 := Below.gN hbel0_323 hg35 hbel0_323.size
  have hbel0_325 := Below.gN hbel0_324 hg39 hbel0_324.size
  have hbel0_326 := Below.gB hbel0_325 hg40 hbel0_325.size (by omega)
  have hbel0_327 := Below.gN hbel0_326 hg42 hbel0_326.size
  have hbel0_328 := Below.gN hbel0_327 hg43 hbel0_327.size
  have hbel0_329 := Below.gN hbel0_328 hg44 hbel0_328.size
  have hbel0_330 := Below.gN hbel0_329 hg49 hbel0_329.size
  have hbel0_331 := Below.gB hbel0_330 hg50 hbel0_330.size (by omega)
  have hbel0_332 := Below.gN hbel0_331 hg53 hbel0_331.size
  have hbel0_333 := Below.gN hbel0_332 hg54 hbel0_332.size
  have hbel0_334 := Below.gN hbel0_333 hg55 hbel0_333.size
  have hbel0_335 := Below.gN hbel0_334 hg60 hbel0_334.size
  have hbel0_336 := Below.gB hbel0_335 hg61 hbel0_335.size (by omega)
  have hbel0_337 := Below.gN hbel0_336 hg64 hbel0_336.size
  have hbel0_338 := Below.gN hbel0_337 hg65 hbel0_337.size
  have hbel0_339 := Below.gN hbel0_338 hg66 hbel0_338.size
  have hbel0_340 := Below.gN hbel0_339 hg70 hbel0_339.size
  have hbel0_341 := Below.gB hbel0_340 hg71 hbel0_340.size (by omega)
  have hbel0_342 := Below.gN hbel0_341 hg73 hbel0_341.size
  have hbel0_343 := Below.gN hbel0_342 hg74 hbel0_342.size
  have hbel0_344 := Below.gN hbel0_343 hg75 hbel0_343.size
  have hbel0_345 := Below.gN hbel0_344 hg79 hbel0_344.size
  have hbel0_346 := Below.gB hbel0_345 hg80 hbel0_345.size (by omega)
  have hbel0_347 := Below.gN hbel0_346 hg82 hbel0_346.size
  have hbel0_348 := Below.gN hbel0_347 hg83 hbel0_347.size
  have hbel0_349 := Below.gN hbel0_348 hg84 hbel0_348.size
  have hbel0_350 := Below.gN hbel0_349 hg88 hbel0_349.size
  have hbel0_351 := Below.gB hbel0_350 hg89 hbel0_350.size (by omega)
  have hbel0_352 := Below.gN hbel0_351 hg91 hbel0_351.size
  have hbel0_353 := Below.gN hbel0_352 hg92 hbel0_352.size
  have hbel0_354 := Below.gN hbel0_353 hg93 hbel0_353.size
  have hbel0_355 := Below.gN hbel0_354 hg99 hbel0_354.size
  have hbel0_356 := Below.gN hbel0_355 hg100 hbel0_355.size
  have hbel0_357 := Below.gN hbel0_356 hg101 hbel0_356.size
  have hbel0_358 := Below.gN hbel0_357 hg107 hbel0_357.size
  have hbel0_359 := Below.gN hbel0_358 hg111 hbel0_358.size
  have hbel0_360 := Below.gB hbel0_359 hg112 hbel0_359.size (by omega)
  have hbel0_361 := Below.gN hbel0_360 hg114 hbel0_360.size
  have hbel0_362 := Below.gN hbel0_361 hg115 hbel0_361.size
  have hbel0_363 := Below.gN hbel0_362 hg116 hbel0_362.size
  refine region_D (n := 28) (by kernel_rfl) (by kernel_rfl) rfl (fun L ac wc => Below w.heap.size w wc ∧ w116.heap.size ≤ wc.heap.size ∧ Bx wc B39 25 (#[.slice Ap35 (rff (ofS [1000, 0]) 0).1.rs.length cp35, .slice Aj35 (rff (ofS [1000, 0]) 0).1.bs.length cj35]) ∧ Bx wc B70 25 (#[.slice Ap66 (sta (ofS [2, 0]) 0).1.rs.length cp66, .slice Aj66 (sta (ofS [2, 0]) 0).1.bs.length cj66]) ∧ Own wc (w34.heap.size) 3 1 (.slice Ap35 (rff (ofS [1000, 0]) 0).1.rs.length cp35) (rff (ofS [1000, 0]) 0).1.rs.length (flat iva (rff (ofS [1000, 0]) 0).1.rs) ∧ Own wc (w34.heap.size) 4 1 (.slice Aj35 (rff (ofS [1000, 0]) 0).1.bs.length cj35) (rff (ofS [1000, 0]) 0).1.bs.length (flat bva (rff (ofS [1000, 0]) 0).1.bs) ∧ Own wc (w65.heap.size) 3 1 (.slice Ap66 (sta (ofS [2, 0]) 0).1.rs.length cp66) (sta (ofS [2, 0]) 0).1.rs.length (flat iva (sta (ofS [2, 0]) 0).1.rs) ∧ Own wc (w65.heap.size) 4 1 (.slice Aj66 (sta (ofS [2, 0]) 0).1.bs.length cj66) (sta (ofS [2, 0]) 0).1.bs.length (flat bva (sta (ofS [2, 0]) 0).1.bs) ∧ (L 0 = true → PkB ac wc w116.heap.size 113 [1002, 0] 2) ∧ (L 1 = true → PkS ac wc w116.heap.size 114 (ofS [1002, 0])) ∧ (L 2 = true → PkB ac wc w116.heap.size 115 [1002, 1001] 2) ∧ (L 3 = true → PkS ac wc w116.heap.size 116 (ofS [1002, 1001])) ∧ (L 4 = true → Sv ac 117 (.bool true)) ∧ (L 5 = true → Sv ac 118 (.bool true)) ∧ (L 6 = true → Sv ac 119 (.int .i64 (alc (ofS [1002, 1001]) 1).2.2)) ∧ (L 7 = true → Sv ac 120 (.bool true)) ∧ (L 8 = true → Sv ac 121 (.bool true)) ∧ (L 9 = true → Sv ac 122 (.bool true)) ∧ (L 10 = true → Sv ac 123 (.int .i64 (alc (ofS [0, 0]) 0).2.2)) ∧ (L 11 = true → Sv ac 124 (.bool true)) ∧ (L 12 = true → Sv ac 125 (.bool true)) ∧ (L 13 = true → Sv ac 126 (.bool true)) ∧ (L 14 = true → Sv ac 127 (.int .i64 (rff (ofS [2, 0]) 1).2)) ∧ (L 15 = true → Sv ac 128 (.bool true)) ∧ (L 16 = true → Sv ac 129 (.bool true)) ∧ (L 17 = true → Sv ac 130 (.bool true)) ∧ (L 18 = true → Sv ac 131 (.int .i64 (rff (ofS [1000, 0]) 0).2)) ∧ (L 19 = true → Sv ac 132 (.bool true)) ∧ (L 20 = true → Sv ac 133 (.bool true)) ∧ (L 21 = true → Sv ac 134 (.bool true)) ∧ (L 22 = true → Sv ac 135 (.agg #[.slice Ap35 (rff (ofS [1000, 0]) 0).1.rs.length cp35, .slice Aj35 (rff (ofS [1000, 0]) 0).1.bs.length cj35])) ∧ (L 23 = true → PkB ac wc w116.heap.size 136 [1001, 0] 2) ∧ (L 24 = true → PkS ac wc w116.heap.size 137 (ofS [1001, 0])) ∧ (L 25 = true → Sv ac 138 (.bool true)) ∧ (L 26 = true → Sv ac 139 (.bool true)) ∧ (L 27 = true → Sv ac 31 (.bool true))) ⟨(Below.gN hbel0_363 (gdr _) hbel0_363.size), (Nat.le_refl _), (hx40_158.gN (gdr _)), (hx71_180.gN (gdr _)), (Own.gN ho35_219 (gdr _)), (Own.gN ho35_258 (gdr _)), (Own.gN ho66_282 (gdr _)), (Own.gN ho66_306 (gdr _)), (fun h => by cases h), (fun h => by cases h), (fun h => by cases h), (fun h => by cases h), (fun h => by cases h), (fun h => by cases h), (fun h => by cases h), (fun h => by cases h), (fun h => by cases h), (fun h => by cases h), (fun h => by cases h), (fun h => by cases h), (fun h => by cases h), (fun h => by cases h), (fun h => by cases h), (fun h => by cases h), (fun h => by cases h), (fun h => by cases h), (fun h => by cases h), (fun h => by cases h), (fun h => by cases h), (fun h => by cases h), (fun h => by cases h), (fun h => by cases h), (fun h => by cases h), (fun h => by cases h), (fun h => by cases h), (fun h => by cases h)⟩ ?_ ?_
  · intro iq hiq o ho L hL hdep ac wc hF hJ
    obtain ⟨bl, sz, b_B39, b_B70, p_0, p_1, p_2, p_3, s_113, s_114, s_115, s_116, s_117, s_118, s_119, s_120, s_121, s_122, s_123, s_124, s_125, s_126, s_127, s_128, s_129, s_130, s_131, s_132, s_133, s_134, s_135, s_136, s_137, s_138, s_139, s_31⟩ := hJ
    have zq := hF.1.trans hA121.1
    match iq, hiq with
    | 0, _ =>
      obtain rfl := Option.some.inj (show some _ = some o from ho); clear ho
      refine dj_val (i := 0) rfl (.inl rfl) (w' := wc.alloc (.cells (flat iva [1002, 0]).toArray 3)) (v := .slice (some ⟨wc.heap.size, 0, none⟩) 2 2) (bsI2 (ec ac (.int .i64 1002)) (ec ac (.int .i64 0)) _ rfl) ?_
      have hown := Own.mono (Own.bxn (n := 2) (xs := [1002, 0]) (show Bx _ _ _ (flat iva [1002, 0]).toArray from Bx.new wc 3 (flat iva [1002, 0]).toArray) iva_sz rfl (by decide)) sz
      have hg := g0 (al wc (.cells (flat iva [1002, 0]).toArray 3))
      exact ⟨⟨_, rfl⟩, (Below.gN bl hg bl.size), (Nat.le_trans sz hg.size), (b_B39.gN hg), (b_B70.gN hg), (Own.gN p_0 hg), (Own.gN p_1 hg), (Own.gN p_2 hg), (Own.gN p_3 hg), (fun _ => ⟨wc.heap.size, Sv.self (by rw [zq]; decide) _, hown⟩), (fun h => ((s_114 h).gN hg).put (by decide) _), (fun h => ((s_115 h).gN hg).put (by decide) _), (fun h => ((s_116 h).gN hg).put (by decide) _), (so s_117), (so s_118), (so s_119), (so s_120), (so s_121), (so s_122), (so s_123), (so s_124), (so s_125), (so s_126), (so s_127), (so s_128), (so s_129), (so s_130), (so s_131), (so s_132), (so s_133), (so s_134), (so s_135), (fun h => ((s_136 h).gN hg).put (by decide) _), (fun h => ((s_137 h).gN hg).put (by decide) _), (so s_138), (so s_139), (so s_31)⟩
    | 1, _ =>
      obtain rfl := Option.some.inj (show some _ = some o from ho); clear ho
      obtain ⟨G0r14, v113, a_0⟩ := s_113 (dp hdep 0)
      refine dj_call (i := 1) (f := 30) (args := #[.slice (some ⟨G0r14, 0, none⟩) 2 2]) rfl (.inl rfl) (ev_fn rfl (mp1 v113.eval) (by kernel_rfl) _ rfl) (of_any (some ⟨G0r14, 0, none⟩) 2 [1002, 0] _ (OwnR.gr (e := 3) ⟨rfl, a_0⟩) (by decide) (by decide)) ?_
      intro e wk1 hR
      obtain ⟨Ap1r14, cp1r14, Aj1r14, cj1r14, rfl, hC1, hJ1, hb1⟩ := hR
      refine ⟨_, rfl, ?_⟩
      have hg := g0 hb1
      have hraw0 := hC1
      have hown0 := Own.mono (hC1) sz
      have hraw1 := hJ1
      have hown1 := Own.mono (hJ1) sz
      exact ⟨⟨_, rfl⟩, (Below.gN bl hg bl.size), (Nat.le_trans sz hg.size), (b_B39.gN hg), (b_B70.gN hg), (Own.gN p_0 hg), (Own.gN p_1 hg), (Own.gN p_2 hg), (Own.gN p_3 hg), (fun h => ((s_113 h).gN hg).put (by decide) _), (fun _ => ⟨Ap1r14, cp1r14, Aj1r14, cj1r14, Sv.self (by rw [zq]; decide) _, hown0, hown1⟩), (fun h => ((s_115 h).gN hg).put (by decide) _), (fun h => ((s_116 h).gN hg).put (by decide) _), (so s_117), (so s_118), (so s_119), (so s_120), (so s_121), (so s_122), (so s_123), (so s_124), (so s_125), (so s_126), (so s_127), (so s_128), (so s_129), (so s_130), (so s_131), (so s_132), (so s_133), (so s_134), (so s_135), (fun h => ((s_136 h).gN hg).put (by decide) _), (fun h => ((s_137 h).gN hg).put (by decide) _), (so s_138), (so s_139), (so s_31)⟩
    | 2, _ =>
      obtain rfl := Option.some.inj (show some _ = some o from ho); clear ho
      refine dj_val (i := 2) rfl (.inl rfl) (w' := wc.alloc (.cells (flat iva [1002, 1001]).toArray 3)) (v := .slice (some ⟨wc.heap.size, 0, none⟩) 2 2) (bsI2 (ec ac (.int .i64 1002)) (ec ac (.int .i64 1001)) _ rfl) ?_
      have hown := Own.mono (Own.bxn (n := 2) (xs := [1002, 1001]) (show Bx _ _ _ (flat iva [1002, 1001]).toArray from Bx.new wc 3 (flat iva [1002, 1001]).toArray) iva_sz rfl (by decide)) sz
      have hg := g0 (al wc (.cells (flat iva [1002, 1001]).toArray 3))
      exact ⟨⟨_, rfl⟩, (Below.gN bl hg bl.size), (Nat.le_trans sz hg.size), (b_B39.gN hg), (b_B70.gN hg), (Own.gN p_0 hg), (Own.gN p_1 hg), (Own.gN p_2 hg), (Own.gN p_3 hg), (fun h => ((s_113 h).gN hg).put (by decide) _), (fun h => ((s_114 h).gN hg).put (by decide) _), (fun _ => ⟨wc.heap.size, Sv.self (by rw [zq]; decide) _, hown⟩), (fun h => ((s_116 h).gN hg).put (by decide) _), (so s_117), (so s_118), (so s_119), (so s_120), (so s_121), (so s_122), (so s_123), (so s_124), (so s_125), (so s_126), (so s_127), (so s_128), (so s_129), (so s_130), (so s_131), (so s_132), (so s_133), (so s_134), (so s_135), (fun h => ((s_136 h).gN hg).put (by decide) _), (fun h => ((s_137 h).gN hg).put (by decide) _), (so s_138), (so s_139), (so s_31)⟩
    | 3, _ =>
      obtain rfl := Option.some.inj (show some _ = some o from ho); clear ho
      obtain ⟨G2r14, v115, a_2⟩ := s_115 (dp hdep 2)
      refine dj_call (i := 3) (f := 30) (args := #[.slice (some ⟨G2r14, 0, none⟩) 2 2]) rfl (.inl rfl) (ev_fn rfl (mp1 v115.eval) (by kernel_rfl) _ rfl) (of_any (some ⟨G2r14, 0, none⟩) 2 [1002, 1001] _ (OwnR.gr (e := 3) ⟨rfl, a_2⟩) (by decide) (by decide)) ?_
      intro e wk3 hR
      obtain ⟨Ap3r14, cp3r14, Aj3r14, cj3r14, rfl, hC3, hJ3, hb3⟩ := hR
      refine ⟨_, rfl, ?_⟩
      have hg := g0 hb3
      have hraw0 := hC3
      have hown0 := Own.mono (hC3) sz
      have hraw1 := hJ3
      have hown1 := Own.mono (hJ3) sz
      exact ⟨⟨_, rfl⟩, (Below.gN bl hg bl.size), (Nat.le_trans sz hg.size), (b_B39.gN hg), (b_B70.gN hg), (Own.gN p_0 hg), (Own.gN p_1 hg), (Own.gN p_2 hg), (Own.gN p_3 hg), (fun h => ((s_113 h).gN hg).put (by decide) _), (fun h => ((s_114 h).gN hg).put (by decide) _), (fun h => ((s_115 h).gN hg).put (by decide) _), (fun _ => ⟨Ap3r14, cp3r14, Aj3r14, cj3r14, Sv.self (by rw [zq]; decide) _, hown0, hown1⟩), (so s_117), (so s_118), (so s_119), (so s_120), (so s_121), (so s_122), (so s_123), (so s_124), (so s_125), (so s_126), (so s_127), (so s_128), (so s_129), (so s_130), (so s_131), (so s_132), (so s_133), (so s_134), (so s_135), (fun h => ((s_136 h).gN hg).put (by decide) _), (fun h => ((s_137 h).gN hg).put (by decide) _), (so s_138), (so s_139), (so s_31)⟩
    | 4, _ =>
      obtain rfl := Option.some.inj (show some _ = some o from ho); clear ho
      obtain ⟨Ap1r14, cp1r14, Aj1r14, cj1r14, v114, o_1_0, o_1_1⟩ := s_114 (dp hdep 1)
      obtain ⟨Ap3r14, cp3r14, Aj3r14, cj3r14, v116, o_3_0, o_3_1⟩ := s_116 (dp hdep 3)
      refine dj_call (i := 4) (f := 31) (args := #[.agg #[.slice Ap1r14 (ofS [1002, 0]).rs.length cp1r14, .slice Aj1r14 (ofS [1002, 0]).bs.length cj1r14], .int .i64 1, .int .i64 1, .agg #[.slice Ap3r14 (ofS [1002, 1001]).rs.length cp3r14, .slice Aj3r14 (ofS [1002, 1001]).bs.length cj3r14]]) rfl (.inl rfl) (ev_fn rfl (mp4 v114.eval (ec ac (.int .i64 1)) (ec ac (.int .i64 1)) v116.eval) (by kernel_rfl) _ rfl) (gives_any Ap1r14 cp1r14 Aj1r14 cj1r14 (ofS [1002, 0]).rs (ofS [1002, 0]).bs Ap3r14 cp3r14 Aj3r14 cj3r14 (ofS [1002, 1001]).rs (ofS [1002, 1001]).bs 1 1 _ ⟨(OwnR.gr (e := 3) ⟨rfl, o_1_0⟩), (OwnR.gr (e := 4) ⟨rfl, o_1_1⟩)⟩ ⟨(OwnR.gr (e := 3) ⟨rfl, o_3_0⟩), (OwnR.gr (e := 4) ⟨rfl, o_3_1⟩)⟩ (by decide) (by decide)) ?_
      intro e wk4 hR
      obtain ⟨he4, hb4⟩ := hR
      rw [show (gvs (ofS [1002, 0]) 1 1 (ofS [1002, 1001])) = true by kernel_rfl] at he4
      subst he4
      refine ⟨_, rfl, ?_⟩
      have hg := g0 hb4
      exact ⟨⟨_, rfl⟩, (Below.gN bl hg bl.size), (Nat.le_trans sz hg.size), (b_B39.gN hg), (b_B70.gN hg), (Own.gN p_0 hg), (Own.gN p_1 hg), (Own.gN p_2 hg), (Own.gN p_3 hg), (fun h => ((s_113 h).gN hg).put (by decide) _), (fun h => ((s_114 h).gN hg).put (by decide) _), (fun h => ((s_115 h).gN hg).put (by decide) _), (fun h => ((s_116 h).gN hg).put (by decide) _), (fun _ => Sv.self (by rw [zq]; decide) _), (so s_118), (so s_119), (so s_120), (so s_121), (so s_122), (so s_123), (so s_124), (so s_125), (so s_126), (so s_127), (so s_128), (so s_129), (so s_130), (so s_131), (so s_132), (so s_133), (so s_134), (so s_135), (fun h => ((s_136 h).gN hg).put (by decide) _), (fun h => ((s_137 h).gN hg).put (by decide) _), (so s_138), (so s_139), (so s_31)⟩
    | 5, _ =>
      obtain rfl := Option.some.inj (show some _ = some o from ho); clear ho
      have v117 := s_117 (dp hdep 4)
      refine dj_val (i := 5) (v := .bool true) rfl (.inl rfl) (ev_move v117.eval _ rfl) ?_
      exact ⟨⟨_, rfl⟩, bl, sz, b_B39, b_B70, p_0, p_1, p_2, p_3, (fun h => (s_113 h).put (by decide) _), (fun h => (s_114 h).put (by decide) _), (fun h => (s_115 h).put (by decide) _), (fun h => (s_116 h).put (by decide) _), (so s_117), (fun _ => Sv.self (by rw [zq]; decide) _), (so s_119), (so s_120), (so s_121), (so s_122), (so s_123), (so s_124), (so s_125), (so s_126), (so s_127), (so s_128), (so s_129), (so s_130), (so s_131), (so s_132), (so s_133), (so s_134), (so s_135), (fun h => (s_136 h).put (by decide) _), (fun h => (s_137 h).put (by decide) _), (so s_138), (so s_139), (so s_31)⟩
    | 6, _ =>
      obtain rfl := Option.some.inj (show some _ = some o from ho); clear ho
      have v118 := s_118 (dp hdep 5)
      have v3 := hF.sv (s := 3) (by kernel_rfl) (hA121.get (i := 3) (v := .int .i64 (alc (ofS [1002, 1001]) 1).2.2))
      refine dj_val (i := 6) (v := .int .i64 (alc (ofS [1002, 1001]) 1).2.2) rfl (.inr ⟨5, true, 118, rfl, by kernel_rfl, v118⟩) (ev_move v3.eval _ rfl) ?_
      exact ⟨⟨_, rfl⟩, bl, sz, b_B39, b_B70, p_0, p_1, p_2, p_3, (fun h => (s_113 h).put (by decide) _), (fun h => (s_114 h).put (by decide) _), (fun h => (s_115 h).put (by decide) _), (fun h => (s_116 h).put (by decide) _), (so s_117), (so s_118), (fun _ => Sv.self (by rw [zq]; decide) _), (so s_120), (so s_121), (so s_122), (so s_123), (so s_124), (so s_125), (so s_126), (so s_127), (so s_128), (so s_129), (so s_130), (so s_131), (so s_132), (so s_133), (so s_134), (so s_135), (fun h => (s_136 h).put (by decide) _), (fun h => (s_137 h).put (by decide) _), (so s_138), (so s_139), (so s_31)⟩
    | 7, _ =>
      obtain rfl := Option.some.inj (show some _ = some o from ho); clear ho
      have v118 := s_118 (dp hdep 5)
      have v119 := s_119 (dp hdep 6)
      refine dj_val (i := 7) (v := .bool true) rfl (.inr ⟨5, true, 118, rfl, by kernel_rfl, v118⟩) (ev_eqlB (k := .i64) (m := (alc (ofS [1002, 1001]) 1).2.2) (n := 5) v119.eval (ec ac (.int .i64 5)) (by kernel_rfl) _ rfl) ?_
      exact ⟨⟨_, rfl⟩, bl, sz, b_B39, b_B70, p_0, p_1, p_2, p_3, (fun h => (s_113 h).put (by decide) _), (fun h => (s_114 h).put (by decide) _), (fun h => (s_115 h).put (by decide) _), (fun h => (s_116 h).put (by decide) _), (so s_117), (so s_118), (so s_119), (fun _ => Sv.self (by rw [zq]; decide) _), (so s_121), (so s_122), (so s_123), (so s_124), (so s_125), (so s_126), (so s_127), (so s_128), (so s_129), (so s_130), (so s_131), (so s_132), (so s_133), (so s_134), (so s_135), (fun h => (s_136 h).put (by decide) _), (fun h => (s_137 h).put (by decide) _), (so s_138), (so s_139), (so s_31)⟩
    | 8, _ =>
      obtain rfl := Option.some.inj (show some _ = some o from ho); clear ho
      have v118 := s_118 (dp hdep 5)
      have v120 := s_120 (dp hdep 7)
      refine dj_val (i := 8) (v := .bool true) rfl (.inl rfl) (ev_pickT v118.eval v120.eval _ rfl) ?_
      exact ⟨⟨_, rfl⟩, bl, sz, b_B39, b_B70, p_0, p_1, p_2, p_3, (fun h => (s_113 h).put (by decide) _), (fun h => (s_114 h).put (by decide) _), (fun h => (s_115 h).put (by decide) _), (fun h => (s_116 h).put (by decide) _), (so s_117), (so s_118), (so s_119), (so s_120), (fun _ => Sv.self (by rw [zq]; decide) _), (so s_122), (so s_123), (so s_124), (so s_125), (so s_126), (so s_127), (so s_128), (so s_129), (so s_130), (so s_131), (so s_132), (so s_133), (so s_134), (so s_135), (fun h => (s_136 h).put (by decide) _), (fun h => (s_137 h).put (by decide) _), (so s_138), (so s_139), (so s_31)⟩
    | 9, _ =>
      obtain rfl := Option.some.inj (show some _ = some o from ho); clear ho
      have v121 := s_121 (dp hdep 8)
      refine dj_val (i := 9) (v := .bool true) rfl (.inl rfl) (ev_move v121.eval _ rfl) ?_
      exact ⟨⟨_, rfl⟩, bl, sz, b_B39, b_B70, p_0, p_1, p_2, p_3, (fun h => (s_113 h).put (by decide) _), (fun h => (s_114 h).put (by decide) _), (fun h => (s_115 h).put (by decide) _), (fun h => (s_116 h).put (by decide) _), (so s_117), (so s_118), (so s_119), (so s_120), (so s_121), (fun _ => Sv.self (by rw [zq]; decide) _), (so s_123), (so s_124), (so s_125), (so s_126), (so s_127), (so s_128), (so s_129), (so s_130), (so s_131), (so s_132), (so s_133), (so s_134), (so s_135), (fun h => (s_136 h).put (by decide) _), (fun h => (s_137 h).put (by decide) _), (so s_138), (so s_139), (so s_31)⟩
    | 10, _ =>
      obtain rfl := Option.some.inj (show some _ = some o from ho); clear ho
      have v122 := s_122 (dp hdep 9)
      have v6 := hF.sv (s := 6) (by kernel_rfl) (hA121.get (i := 6) (v := .int .i64 (alc (ofS [0, 0]) 0).2.2))
      refine dj_val (i := 10) (v := .int .i64 (alc (ofS [0, 0]) 0).2.2) rfl (.inr ⟨9, true, 122, rfl, by kernel_rfl, v122⟩) (ev_move v6.eval _ rfl) ?_
      exact ⟨⟨_, rfl⟩, bl, sz, b_B39, b_B70, p_0, p_1, p_2, p_3, (fun h => (s_113 h).put (by decide) _), (fun h => (s_114 h).put (by decide) _), (fun h => (s_115 h).put (by decide) _), (fun h => (s_116 h).put (by decide) _), (so s_117), (so s_118), (so s_119), (so s_120), (so s_121), (so s_122), (fun _ => Sv.self (by rw [zq]; decide) _), (so s_124), (so s_125), (so s_126), (so s_127), (so s_128), (so s_129), (so s_130), (so s_131), (so s_132), (so s_133), (so s_134), (so s_135), (fun h => (s_136 h).put (by decide) _), (fun h => (s_137 h).put (by decide) _), (so s_138), (so s_139), (so s_31)⟩
    | 11, _ =>
      obtain rfl := Option.some.inj (show some _ = some o from ho); clear ho
      have v122 := s_122 (dp hdep 9)
      have v123 := s_123 (dp hdep 10)
      refine dj_val (i := 11) (v := .bool true) rfl (.inr ⟨9, true, 122, rfl, by kernel_rfl, v122⟩) (ev_eqlB (k := .i64) (m := (alc (ofS [0, 0]) 0).2.2) (n := 15) v123.eval (ec ac (.int .i64 15)) (by kernel_rfl) _ rfl) ?_
      exact ⟨⟨_, rfl⟩, bl, sz, b_B39, b_B70, p_0, p_1, p_2, p_3, (fun h => (s_113 h).put (by decide) _), (fun h => (s_114 h).put (by decide) _), (fun h => (s_115 h).put (by decide) _), (fun h => (s_116 h).put (by decide) _), (so s_117), (so s_118), (so s_119), (so s_120), (so s_121), (so s_122), (so s_123), (fun _ => Sv.self (by rw [zq]; decide) _), (so s_125), (so s_126), (so s_127), (so s_128), (so s_129), (so s_130), (so s_131), (so s_132), (so s_133), (so s_134), (so s_135), (fun h => (s_136 h).put (by decide) _), (fun h => (s_137 h).put (by decide) _), (so s_138), (so s_139), (so s_31)⟩
    | 12, _ =>
      obtain rfl := Option.some.inj (show some _ = some o from ho); clear ho
      have v122 := s_122 (dp hdep 9)
      have v124 := s_124 (dp hdep 11)
      refine dj_val (i := 12) (v := .bool true) rfl (.inl rfl) (ev_pickT v122.eval v124.eval _ rfl) ?_
      exact ⟨⟨_, rfl⟩, bl, sz, b_B39, b_B70, p_0, p_1, p_2, p_3, (fun h => (s_113 h).put (by decide) _), (fun h => (s_114 h).put (by decide) _), (fun h => (s_115 h).put (by decide) _), (fun h => (s_116 h).put (by decide) _), (so s_117), (so s_118), (so s_119), (so s_120), (so s_121), (so s_122), (so s_123), (so s_124), (fun _ => Sv.self (by rw [zq]; decide) _), (so s_126), (so s_127), (so s_128), (so s_129), (so s_130), (so s_131), (so s_132), (so s_133), (so s_134), (so s_135), (fun h => (s_136 h).put (by decide) _), (fun h => (s_137 h).put (by decide) _), (so s_138), (so s_139), (so s_31)⟩
    | 13, _ =>
      obtain rfl := Option.some.inj (show some _ = some o from ho); clear ho
      have v125 := s_125 (dp hdep 12)
      refine dj_val (i := 13) (v := .bool true) rfl (.inl rfl) (ev_move v125.eval _ rfl) ?_
      exact ⟨⟨_, rfl⟩, bl, sz, b_B39, b_B70, p_0, p_1, p_2, p_3, (fun h => (s_113 h).put (by decide) _), (fun h => (s_114 h).put (by decide) _), (fun h => (s_115 h).put (by decide) _), (fun h => (s_116 h).put (by decide) _), (so s_117), (so s_118), (so s_119), (so s_120), (so s_121), (so s_122), (so s_123), (so s_124), (so s_125), (fun _ => Sv.self (by rw [zq]; decide) _), (so s_127), (so s_128), (so s_129), (so s_130), (so s_131), (so s_132), (so s_133), (so s_134), (so s_135), (fun h => (s_136 h).put (by decide) _), (fun h => (s_137 h).put (by decide) _), (so s_138), (so s_139), (so s_31)⟩
    | 14, _ =>
      obtain rfl := Option.some.inj (show some _ = some o from ho); clear ho
      have v126 := s_126 (dp hdep 13)
      have v8 := hF.sv (s := 8) (by kernel_rfl) (hA121.get (i := 8) (v := .int .i64 (rff (ofS [2, 0]) 1).2))
      refine dj_val (i := 14) (v := .int .i64 (rff (ofS [2, 0]) 1).2) rfl (.inr ⟨13, true, 126, rfl, by kernel_rfl, v126⟩) (ev_move v8.eval _ rfl) ?_
      exact ⟨⟨_, rfl⟩, bl, sz, b_B39, b_B70, p_0, p_1, p_2, p_3, (fun h => (s_113 h).put (by decide) _), (fun h => (s_114 h).put (by decide) _), (fun h => (s_115 h).put (by decide) _), (fun h => (s_116 h).put (by decide) _), (so s_117), (so s_118), (so s_119), (so s_120), (so s_121), (so s_122), (so s_123), (so s_124), (so s_125), (so s_126), (fun _ => Sv.self (by rw [zq]; decide) _), (so s_128), (so s_129), (so s_130), (so s_131), (so s_132), (so s_133), (so s_134), (so s_135), (fun h => (s_136 h).put (by decide) _), (fun h => (s_137 h).put (by decide) _), (so s_138), (so s_139), (so s_31)⟩
    | 15, _ =>
      obtain rfl := Option.some.inj (show some _ = some o from ho); clear ho
      have v126 := s_126 (dp hdep 13)
      have v127 := s_127 (dp hdep 14)
      refine dj_val (i := 15) (v := .bool true) rfl (.inr ⟨13, true, 126, rfl, by kernel_rfl, v126⟩) (ev_eqlB (k := .i64) (m := (rff (ofS [2, 0]) 1).2) (n := 9) v127.eval (ec ac (.int .i64 9)) (by kernel_rfl) _ rfl) ?_
      exact ⟨⟨_, rfl⟩, bl, sz, b_B39, b_B70, p_0, p_1, p_2, p_3, (fun h => (s_113 h).put (by decide) _), (fun h => (s_114 h).put (by decide) _), (fun h => (s_115 h).put (by decide) _), (fun h => (s_116 h).put (by decide) _), (so s_117), (so s_118), (so s_119), (so s_120), (so s_121), (so s_122), (so s_123), (so s_124), (so s_125), (so s_126), (so s_127), (fun _ => Sv.self (by rw [zq]; decide) _), (so s_129), (so s_130), (so s_131), (so s_132), (so s_133), (so s_134), (so s_135), (fun h => (s_136 h).put (by decide) _), (fun h => (s_137 h).put (by decide) _), (so s_138), (so s_139), (so s_31)⟩
    | 16, _ =>
      obtain rfl := Option.some.inj (show some _ = some o from ho); clear ho
      have v126 := s_126 (dp hdep 13)
      have v128 := s_128 (dp hdep 15)
      refine dj_val (i := 16) (v := .bool true) rfl (.inl rfl) (ev_pickT v126.eval v128.eval _ rfl) ?_
      exact ⟨⟨_, rfl⟩, bl, sz, b_B39, b_B70, p_0, p_1, p_2, p_3, (fun h => (s_113 h).put (by decide) _), (fun h => (s_114 h).put (by decide) _), (fun h => (s_115 h).put (by decide) _), (fun h => (s_116 h).put (by decide) _), (so s_117), (so s_118), (so s_119), (so s_120), (so s_121), (so s_122), (so s_123), (so s_124), (so s_125), (so s_126), (so s_127), (so s_128), (fun _ => Sv.self (by rw [zq]; decide) _), (so s_130), (so s_131), (so s_132), (so s_133), (so s_134), (so s_135), (fun h => (s_136 h).put (by decide) _), (fun h => (s_137 h).put (by decide) _), (so s_138), (so s_139), (so s_31)⟩
    | 17, _ =>
      obtain rfl := Option.some.inj (show some _ = some o from ho); clear ho
      have v129 := s_129 (dp hdep 16)
      refine dj_val (i := 17) (v := .bool true) rfl (.inl rfl) (ev_move v129.eval _ rfl) ?_
      exact ⟨⟨_, rfl⟩, bl, sz, b_B39, b_B70, p_0, p_1, p_2, p_3, (fun h => (s_113 h).put (by decide) _), (fun h => (s_114 h).put (by decide) _), (fun h => (s_115 h).put (by decide) _), (fun h => (s_116 h).put (by decide) _), (so s_117), (so s_118), (so s_119), (so s_120), (so s_121), (so s_122), (so s_123), (so s_124), (so s_125), (so s_126), (so s_127), (so s_128), (so s_129), (fun _ => Sv.self (by rw [zq]; decide) _), (so s_131), (so s_132), (so s_133), (so s_134), (so s_135), (fun h => (s_136 h).put (by decide) _), (fun h => (s_137 h).put (by decide) _), (so s_138), (so s_139), (so s_31)⟩
    | 18, _ =>
      obtain rfl := Option.some.inj (show some _ = some o from ho); clear ho
      have v130 := s_130 (dp hdep 17)
      have v10 := hF.sv (s := 10) (by kernel_rfl) (hA121.get (i := 10) (v := .int .i64 (rff (ofS [1000, 0]) 0).2))
      refine dj_val (i := 18) (v := .int .i64 (rff (ofS [1000, 0]) 0).2) rfl (.inr ⟨17, true, 130, rfl, by kernel_rfl, v130⟩) (ev_move v10.eval _ rfl) ?_
      exact ⟨⟨_, rfl⟩, bl, sz, b_B39, b_B70, p_0, p_1, p_2, p_3, (fun h => (s_113 h).put (by decide) _), (fun h => (s_114 h).put (by decide) _), (fun h => (s_115 h).put (by decide) _), (fun h => (s_116 h).put (by decide) _), (so s_117), (so s_118), (so s_119), (so s_120), (so s_121), (so s_122), (so s_123), (so s_124), (so s_125), (so s_126), (so s_127), (so s_128), (so s_129), (so s_130), (fun _ => Sv.self (by rw [zq]; decide) _), (so s_132), (so s_133), (so s_134), (so s_135), (fun h => (s_136 h).put (by decide) _), (fun h => (s_137 h).put (by decide) _), (so s_138), (so s_139), (so s_31)⟩
    | 19, _ =>
      obtain rfl := Option.some.inj (show some _ = some o from ho); clear ho
      have v130 := s_130 (dp hdep 17)
      have v131 := s_131 (dp hdep 18)
      refine dj_val (i := 19) (v := .bool true) rfl (.inr ⟨17, true, 130, rfl, by kernel_rfl, v130⟩) (ev_eqlB (k := .i64) (m := (rff (ofS [1000, 0]) 0).2) (n := 0) v131.eval (ec ac (.int .i64 0)) (by kernel_rfl) _ rfl) ?_
      exact ⟨⟨_, rfl⟩, bl, sz, b_B39, b_B70, p_0, p_1, p_2, p_3, (fun h => (s_113 h).put (by decide) _), (fun h => (s_114 h).put (by decide) _), (fun h => (s_115 h).put (by decide) _), (fun h => (s_116 h).put (by decide) _), (so s_117), (so s_118), (so s_119), (so s_120), (so s_121), (so s_122), (so s_123), (so s_124), (so s_125), (so s_126), (so s_127), (so s_128), (so s_129), (so s_130), (so s_131), (fun _ => Sv.self (by rw [zq]; decide) _), (so s_133), (so s_134), (so s_135), (fun h => (s_136 h).put (by decide) _), (fun h => (s_137 h).put (by decide) _), (so s_138), (so s_139), (so s_31)⟩
    | 20, _ =>
      obtain rfl := Option.some.inj (show some _ = some o from ho); clear ho
      have v130 := s_130 (dp hdep 17)
      have v132 := s_132 (dp hdep 19)
      refine dj_val (i := 20) (v := .bool true) rfl (.inl rfl) (ev_pickT v130.eval v132.eval _ rfl) ?_
      exact ⟨⟨_, rfl⟩, bl, sz, b_B39, b_B70, p_0, p_1, p_2, p_3, (fun h => (s_113 h).put (by decide) _), (fun h => (s_114 h).put (by decide) _), (fun h => (s_115 h).put (by decide) _), (fun h => (s_116 h).put (by decide) _), (so s_117), (so s_118), (so s_119), (so s_120), (so s_121), (so s_122), (so s_123), (so s_124), (so s_125), (so s_126), (so s_127), (so s_128), (so s_129), (so s_130), (so s_131), (so s_132), (fun _ => Sv.self (by rw [zq]; decide) _), (so s_134), (so s_135), (fun h => (s_136 h).put (by decide) _), (fun h => (s_137 h).put (by decide) _), (so s_138), (so s_139), (so s_31)⟩
    | 21, _ =>
      obtain rfl := Option.some.inj (show some _ = some o from ho); clear ho
      have v133 := s_133 (dp hdep 20)
      refine dj_val (i := 21) (v := .bool true) rfl (.inl rfl) (ev_move v133.eval _ rfl) ?_
      exact ⟨⟨_, rfl⟩, bl, sz, b_B39, b_B70, p_0, p_1, p_2, p_3, (fun h => (s_113 h).put (by decide) _), (fun h => (s_114 h).put (by decide) _), (fun h => (s_115 h).put (by decide) _), (fun h => (s_116 h).put (by decide) _), (so s_117), (so s_118), (so s_119), (so s_120), (so s_121), (so s_122), (so s_123), (so s_124), (so s_125), (so s_126), (so s_127), (so s_128), (so s_129), (so s_130), (so s_131), (so s_132), (so s_133), (fun _ => Sv.self (by rw [zq]; decide) _), (so s_135), (fun h => (s_136 h).put (by decide) _), (fun h => (s_137 h).put (by decide) _), (so s_138), (so s_139), (so s_31)⟩
    | 22, _ =>
      obtain rfl := Option.some.inj (show some _ = some o from ho); clear ho
      have v134 := s_134 (dp hdep 21)
      have v9 := hF.sv (s := 9) (by kernel_rfl) (hA121.get (i := 9) (v := .pointer (some ⟨B39, 0, none⟩)))
      refine dj_val (i := 22) (v := .agg #[.slice Ap35 (rff (ofS [1000, 0]) 0).1.rs.length cp35, .slice Aj35 (rff (ofS [1000, 0]) 0).1.bs.length cj35]) rfl (.inr ⟨21, true, 134, rfl, by kernel_rfl, v134⟩) (ev_row v9.eval b_B39 Try.underlying25 rfl (n := 2) (by kernel_rfl) rfl _ rfl) ?_
      exact ⟨⟨_, rfl⟩, bl, sz, b_B39, b_B70, p_0, p_1, p_2, p_3, (fun h => (s_113 h).put (by decide) _), (fun h => (s_114 h).put (by decide) _), (fun h => (s_115 h).put (by decide) _), (fun h => (s_116 h).put (by decide) _), (so s_117), (so s_118), (so s_119), (so s_120), (so s_121), (so s_122), (so s_123), (so s_124), (so s_125), (so s_126), (so s_127), (so s_128), (so s_129), (so s_130), (so s_131), (so s_132), (so s_133), (so s_134), (fun _ => Sv.self (by rw [zq]; decide) _), (fun h => (s_136 h).put (by decide) _), (fun h => (s_137 h).put (by decide) _), (so s_138), (so s_139), (so s_31)⟩
    | 23, _ =>
      obtain rfl := Option.some.inj (show some _ = some o from ho); clear ho
      have v134 := s_134 (dp hdep 21)
      refine dj_val (i := 23) rfl (.inr ⟨21, true, 134, rfl, by kernel_rfl, v134⟩) (w' := wc.alloc (.cells (flat iva [1001, 0]).toArray 3)) (v := .slice (some ⟨wc.heap.size, 0, none⟩) 2 2) (bsI2 (ec ac (.int .i64 1001)) (ec ac (.int .i64 0)) _ rfl) ?_
      have hown := Own.mono (Own.bxn (n := 2) (xs := [1001, 0]) (show Bx _ _ _ (flat iva [1001, 0]).toArray from Bx.new wc 3 (flat iva [1001, 0]).toArray) iva_sz rfl (by decide)) sz
      have hg := g0 (al wc (.cells (flat iva [1001, 0]).toArray 3))
      exact ⟨⟨_, rfl⟩, (Below.gN bl hg bl.size), (Nat.le_trans sz hg.size), (b_B39.gN hg), (b_B70.gN hg), (Own.gN p_0 hg), (Own.gN p_1 hg), (Own.gN p_2 hg), (Own.gN p_3 hg), (fun h => ((s_113 h).gN hg).put (by decide) _), (fun h => ((s_114 h).gN hg).put (by decide) _), (fun h => ((s_115 h).gN hg).put (by decide) _), (fun h => ((s_116 h).gN hg).put (by decide) _), (so s_117), (so s_118), (so s_119), (so s_120), (so s_121), (so s_122), (so s_123), (so s_124), (so s_125), (so s_126), (so s_127), (so s_128), (so s_129), (so s_130), (so s_131), (so s_132), (so s_133), (so s_134), (so s_135), (fun _ => ⟨wc.heap.size, Sv.self (by rw [zq]; decide) _, hown⟩), (fun h => ((s_137 h).gN hg).put (by decide) _), (so s_138), (so s_139), (so s_31)⟩
    | 24, _ =>
      obtain rfl := Option.some.inj (show some _ = some o from ho); clear ho
      have v134 := s_134 (dp hdep 21)
      obtain ⟨G23r14, v136, a_23⟩ := s_136 (dp hdep 23)
      refine dj_call (i := 24) (f := 30) (args := #[.slice (some ⟨G23r14, 0, none⟩) 2 2]) rfl (.inr ⟨21, true, 134, rfl, by kernel_rfl, v134⟩) (ev_fn rfl (mp1 v136.eval) (by kernel_rfl) _ rfl) (of_any (some ⟨G23r14, 0, none⟩) 2 [1001, 0] _ (OwnR.gr (e := 3) ⟨rfl, a_23⟩) (by decide) (by decide)) ?_
      intro e wk24 hR
      obtain ⟨Ap24r14, cp24r14, Aj24r14, cj24r14, rfl, hC24, hJ24, hb24⟩ := hR
      refine ⟨_, rfl, ?_⟩
      have hg := g0 hb24
      have hraw0 := hC24
      have hown0 := Own.mono (hC24) sz
      have hraw1 := hJ24
      have hown1 := Own.mono (hJ24) sz
      exact ⟨⟨_, rfl⟩, (Below.gN bl hg bl.size), (Nat.le_trans sz hg.size), (b_B39.gN hg), (b_B70.gN hg), (Own.gN p_0 hg), (Own.gN p_1 hg), (Own.gN p_2 hg), (Own.gN p_3 hg), (fun h => ((s_113 h).gN hg).put (by decide) _), (fun h => ((s_114 h).gN hg).put (by decide) _), (fun h => ((s_115 h).gN hg).put (by decide) _), (fun h => ((s_116 h).gN hg).put (by decide) _), (so s_117), (so s_118), (so s_119), (so s_120), (so s_121), (so s_122), (so s_123), (so s_124), (so s_125), (so s_126), (so s_127), (so s_128), (so s_129), (so s_130), (so s_131), (so s_132), (so s_133), (so s_134), (so s_135), (fun h => ((s_136 h).gN hg).put (by decide) _), (fun _ => ⟨Ap24r14, cp24r14, Aj24r14, cj24r14, Sv.self (by rw [zq]; decide) _, hown0, hown1⟩), (so s_138), (so s_139), (so s_31)⟩
    | 25, _ =>
      obtain rfl := Option.some.inj (show some _ = some o from ho); clear ho
      have v134 := s_134 (dp hdep 21)
      have v135 := s_135 (dp hdep 22)
      obtain ⟨Ap24r14, cp24r14, Aj24r14, cj24r14, v137, o_24_0, o_24_1⟩ := s_137 (dp hdep 24)
      refine dj_call (i := 25) (f := 13) (args := #[.agg #[.slice Ap35 (rff (ofS [1000, 0]) 0).1.rs.length cp35, .slice Aj35 (rff (ofS [1000, 0]) 0).1.bs.length cj35], .agg #[.slice Ap24r14 (ofS [1001, 0]).rs.length cp24r14, .slice Aj24r14 (ofS [1001, 0]).bs.length cj24r14]]) rfl (.inr ⟨21, true, 134, rfl, by kernel_rfl, v134⟩) (ev_fn rfl (mp2 v135.eval v137.eval) (by kernel_rfl) _ rfl) (SameSlots_any Ap35 cp35 Aj35 cj35 (rff (ofS [1000, 0]) 0).1.rs (rff (ofS [1000, 0]) 0).1.bs Ap24r14 cp24r14 Aj24r14 cj24r14 (ofS [1001, 0]).rs (ofS [1001, 0]).bs _ ⟨(OwnR.gr (e := 3) ⟨rfl, p_0⟩), (OwnR.gr (e := 4) ⟨rfl, p_1⟩)⟩ ⟨(OwnR.gr (e := 3) ⟨rfl, o_24_0⟩), (OwnR.gr (e := 4) ⟨rfl, o_24_1⟩)⟩) ?_
      intro e wk25 hR
      obtain ⟨he25, hb25⟩ := hR
      rw [show (sme (rff (ofS [1000, 0]) 0).1 (ofS [1001, 0])) = true by kernel_rfl] at he25
      subst he25
      refine ⟨_, rfl, ?_⟩
      have hg := g0 hb25
      exact ⟨⟨_, rfl⟩, (Below.gN bl hg bl.size), (Nat.le_trans sz hg.size), (b_B39.gN hg), (b_B70.gN hg), (Own.gN p_0 hg), (Own.gN p_1 hg), (Own.gN p_2 hg), (Own.gN p_3 hg), (fun h => ((s_113 h).gN hg).put (by decide) _), (fun h => ((s_114 h).gN hg).put (by decide) _), (fun h => ((s_115 h).gN hg).put (by decide) _), (fun h => ((s_116 h).gN hg).put (by decide) _), (so s_117), (so s_118), (so s_119), (so s_120), (so s_121), (so s_122), (so s_123), (so s_124), (so s_125), (so s_126), (so s_127), (so s_128), (so s_129), (so s_130), (so s_131), (so s_132), (so s_133), (so s_134), (so s_135), (fun h => ((s_136 h).gN hg).put (by decide) _), (fun h => ((s_137 h).gN hg).put (by decide) _), (fun _ => Sv.self (by rw [zq]; decide) _), (so s_139), (so s_31)⟩
    | 26, _ =>
      obtain rfl := Option.some.inj (show some _ = some o from ho); clear ho
      have v134 := s_134 (dp hdep 21)
      have v138 := s_138 (dp hdep 25)
      refine dj_val (i := 26) (v := .bool true) rfl (.inl rfl) (ev_pickT v134.eval v138.eval _ rfl) ?_
      exact ⟨⟨_, rfl⟩, bl, sz, b_B39, b_B70, p_0, p_1, p_2, p_3, (fun h => (s_113 h).put (by decide) _), (fun h => (s_114 h).put (by decide) _), (fun h => (s_115 h).put (by decide) _), (fun h => (s_116 h).put (by decide) _), (so s_117), (so s_118), (so s_119), (so s_120), (so s_121), (so s_122), (so s_123), (so s_124), (so s_125), (so s_126), (so s_127), (so s_128), (so s_129), (so s_130), (so s_131), (so s_132), (so s_133), (so s_134), (so s_135), (fun h => (s_136 h).put (by decide) _), (fun h => (s_137 h).put (by decide) _), (so s_138), (fun _ => Sv.self (by rw [zq]; decide) _), (so s_31)⟩
    | 27, _ =>
      obtain rfl := Option.some.inj (show some _ = some o from ho); clear ho
      have v139 := s_139 (dp hdep 26)
      refine dj_val (i := 27) (v := .bool true) rfl (.inl rfl) (ev_assign v139.eval _ rfl) ?_
      exact ⟨⟨_, rfl⟩, bl, sz, b_B39, b_B70, p_0, p_1, p_2, p_3, (fun h => (s_113 h).put (by decide) _), (fun h => (s_114 h).put (by decide) _), (fun h => (s_115 h).put (by decide) _), (fun h => (s_116 h).put (by decide) _), (so s_117), (so s_118), (so s_119), (so s_120), (so s_121), (so s_122), (so s_123), (so s_124), (so s_125), (so s_126), (so s_127), (so s_128), (so s_129), (so s_130), (so s_131), (so s_132), (so s_133), (so s_134), (so s_135), (fun h => (s_136 h).put (by decide) _), (fun h => (s_137 h).put (by decide) _), (so s_138), (so s_139), (fun _ => Sv.self (by rw [zq]; decide) _)⟩
    | k + 28, h => exact absurd h (by omega)
  · intro L hall ac364 wc364 hF hJ
    obtain ⟨bl, sz, b_B39, b_B70, p_0, p_1, p_2, p_3, s_113, s_114, s_115, s_116, s_117, s_118, s_119, s_120, s_121, s_122, s_123, s_124, s_125, s_126, s_127, s_128, s_129, s_130, s_131, s_132, s_133, s_134, s_135, s_136, s_137, s_138, s_139, s_31⟩ := hJ
    have hA364 : Ag ac364 216 [(0, .bool false), (13, .int .i64 (unr (ofS [0, 0]) 0).2.2), (16, .int .i64 (stl (ofS [2, 0]) 0).2.2), (17, .pointer (some ⟨B70, 0, none⟩)), (18, .int .i64 (sta (ofS [2, 0]) 0).2), (20, .int .i64 (sta (ofS [1002, 0]) 0).2), (22, .int .i64 (sta (ofS [0, 0]) 0).2), (23, .int .i64 (frst (ofS [1002, 0, 1])).1), (24, .int .i64 (frst (ofS [1002, 0, 1])).2), (26, .int .i64 (frst (ofS [1002, 1])).2), (28, .int .i64 (nws 0).2), (29, .int .i64 (chs (ofS [513])).1), (30, .int .i64 (chs (ofS [513])).2), (31, .bool true)] := (((((((((((((((Ag.nil (hF.1.trans hA121.1) (hF.2.1.trans hA121.2.1)).cons (s_31 (hall 27 (by decide)))).cons (hF.sv (s := 30) (by kernel_rfl) (hA121.get (i := 30) (v := .int .i64 (chs (ofS [513])).2)))).cons (hF.sv (s := 29) (by kernel_rfl) (hA121.get (i := 29) (v := .int .i64 (chs (ofS [513])).1)))).cons (hF.sv (s := 28) (by kernel_rfl) (hA121.get (i := 28) (v := .int .i64 (nws 0).2)))).cons (hF.sv (s := 26) (by kernel_rfl) (hA121.get (i := 26) (v := .int .i64 (frst (ofS [1002, 1])).2)))).cons (hF.sv (s := 24) (by kernel_rfl) (hA121.get (i := 24) (v := .int .i64 (frst (ofS [1002, 0, 1])).2)))).cons (hF.sv (s := 23) (by kernel_rfl) (hA121.get (i := 23) (v := .int .i64 (frst (ofS [1002, 0, 1])).1)))).cons (hF.sv (s := 22) (by kernel_rfl) (hA121.get (i := 22) (v := .int .i64 (sta (ofS [0, 0]) 0).2)))).cons (hF.sv (s := 20) (by kernel_rfl) (hA121.get (i := 20) (v := .int .i64 (sta (ofS [1002, 0]) 0).2)))).cons (hF.sv (s := 18) (by kernel_rfl) (hA121.get (i := 18) (v := .int .i64 (sta (ofS [2, 0]) 0).2)))).cons (hF.sv (s := 17) (by kernel_rfl) (hA121.get (i := 17) (v := .pointer (some ⟨B70, 0, none⟩))))).cons (hF.sv (s := 16) (by kernel_rfl) (hA121.get (i := 16) (v := .int .i64 (stl (ofS [2, 0]) 0).2.2)))).cons (hF.sv (s := 13) (by kernel_rfl) (hA121.get (i := 13) (v := .int .i64 (unr (ofS [0, 0]) 0).2.2)))).cons (hF.sv (s := 0) (by kernel_rfl) (hA121.get (i := 0) (v := .bool false))))
    have bl364 := bl
    have sz364 := sz
    have b364_B39 := b_B39
    have b364_B70 := b_B70
    have p364_0 := p_0
    have p364_1 := p_1
    have p364_2 := p_2
    have p364_3 := p_3
    clear hF bl sz b_B39 b_B70 p_0 p_1 p_2 p_3 s_113 s_114 s_115 s_116 s_117 s_118 s_119 s_120 s_121 s_122 s_123 s_124 s_125 s_126 s_127 s_128 s_129 s_130 s_131 s_132 s_133 s_134 s_135 s_136 s_137 s_138 s_139 s_31 hall hA121
    refine then_n ?_
    refine wp_seq ?_
    refine wp_region_lit ?_
    refine sx_bs (n := 2) (cs := (flat iva [1, 0]).toArray) (e := 3) hA364 rfl (by decide) (.inl rfl) (bsI2 (ec _ (.int .i64 1)) (ec _ (.int .i64 0)) _ rfl) ?_
    intro B365 w365 a365 hB365 hx365 hg365 hA365
    clear hA364
    have hs365 := hg365.size
    have hl365 := hx365.lt
    have ho365 := Own.bxn (n := 2) hx365 iva_sz rfl (by decide)
    have hh365 := Own.hi ho365
    refine sx_call (f := 30) (args := #[.slice (some ⟨B365, 0, none⟩) 2 2]) hA365 rfl (by decide) (.inl rfl) (ev_fn rfl (mp1 (hA365.ev (i := 140) (v := .slice (some ⟨B365, 0, none⟩) 2 2))) (by kernel_rfl) _ rfl) (of_any (some ⟨B365, 0, none⟩) 2 [1, 0] _ (OwnR.gr (e := 3) ⟨rfl, ho365⟩) (by decide) (by decide)) ?_
    intro e366 w366 hR366
    obtain ⟨Ap366, cp366, Aj366, cj366, rfl, hC366, hJ366, hb366⟩ := hR366
    refine ⟨_, rfl, ?_⟩
    intro a366 hA366
    clear hA365
    have hg366 := g0 hb366
    have hs366 := hg366.size
    clear hb366
    have ho366_0 : Own w366 (w365.heap.size) 3 1 (.slice Ap366 (ofS [1, 0]).rs.length cp366) (ofS [1, 0]).rs.length (flat iva (ofS [1, 0]).rs) := hC366
    have hh366_0 := Own.hi ho366_0
    have ho366_1 : Own w366 (w365.heap.size) 4 1 (.slice Aj366 (ofS [1, 0]).bs.length cj366) (ofS [1, 0]).bs.length (flat bva (ofS [1, 0]).bs) := hJ366
    have hh366_1 := Own.hi ho366_1
    refine sx_bs (n := 2) (cs := (flat iva [0, 0]).toArray) (e := 3) hA366 rfl (by decide) (.inl rfl) (bsI2 (ec _ (.int .i64 0)) (ec _ (.int .i64 0)) _ rfl) ?_
    intro B367 w367 a367 hB367 hx367 hg367 hA367
    clear hA366
    have hs367 := hg367.size
    have hl367 := hx367.lt
    have ho367 := Own.bxn (n := 2) hx367 iva_sz rfl (by decide)
    have hh367 := Own.hi ho367
    refine sx_call (f := 30) (args := #[.slice (some ⟨B367, 0, none⟩) 2 2]) hA367 rfl (by decide) (.inl rfl) (ev_fn rfl (mp1 (hA367.ev (i := 142) (v := .slice (some ⟨B367, 0, none⟩) 2 2))) (by kernel_rfl) _ rfl) (of_any (some ⟨B367, 0, none⟩) 2 [0, 0] _ (OwnR.gr (e := 3) ⟨rfl, ho367⟩) (by decide) (by decide)) ?_
    intro e368 w368 hR368
    obtain ⟨Ap368, cp368, Aj368, cj368, rfl, hC368, hJ368, hb368⟩ := hR368
    refine ⟨_, rfl, ?_⟩
    intro a368 hA368
    clear hA367
    have hg368 := g0 hb368
    have hs368 := hg368.size
    clear hb368
    have ho368_0 : Own w368 (w367.heap.size) 3 1 (.slice Ap368 (ofS [0, 0]).rs.length cp368) (ofS [0, 0]).rs.length (flat iva (ofS [0, 0]).rs) := hC368
    have hh368_0 := Own.hi ho368_0
    have ho368_1 : Own w368 (w367.heap.size) 4 1 (.slice Aj368 (ofS [0, 0]).bs.length cj368) (ofS [0, 0]).bs.length (flat bva (ofS [0, 0]).bs) := hJ368
    have hh368_1 := Own.hi ho368_1
    have ho366_370 := Own.gN ho366_0 hg367
    have ho366_371 := Own.gN ho366_370 hg368
    have ho366_372 := Own.gN ho366_1 hg367
    have ho366_373 := Own.gN ho366_372 hg368
    refine sx_call (f := 32) (args := #[.agg #[.slice Ap366 (ofS [1, 0]).rs.length cp366, .slice Aj366 (ofS [1, 0]).bs.length cj366], .agg #[.slice Ap368 (ofS [0, 0]).rs.length cp368, .slice Aj368 (ofS [0, 0]).bs.length cj368], .bool true]) hA368 rfl (by decide) (.inl rfl) (ev_fn rfl (mp3 (hA368.ev (i := 141) (v := .agg #[.slice Ap366 (ofS [1, 0]).rs.length cp366, .slice Aj366 (ofS [1, 0]).bs.length cj366])) (hA368.ev (i := 143) (v := .agg #[.slice Ap368 (ofS [0, 0]).rs.length cp368, .slice Aj368 (ofS [0, 0]).bs.length cj368])) (ec _ (.bool true))) (by kernel_rfl) _ rfl) (drops_any Ap366 cp366 Aj366 cj366 (ofS [1, 0]).rs (ofS [1, 0]).bs Ap368 cp368 Aj368 cj368 (ofS [0, 0]).rs (ofS [0, 0]).bs true _ ⟨(OwnR.gr (e := 3) ⟨rfl, ho366_371⟩), (OwnR.gr (e := 4) ⟨rfl, ho366_373⟩)⟩ ⟨(OwnR.gr (e := 3) ⟨rfl, ho368_0⟩), (OwnR.gr (e := 4) ⟨rfl, ho368_1⟩)⟩ (by decide) (by decide)) ?_
    intro e369 w369 hR369
    obtain ⟨he369, hb369⟩ := hR369
    rw [show (drp (ofS [1, 0]) (ofS [0, 0]) true) = true by kernel_rfl] at he369
    subst he369
    refine ⟨_, rfl, ?_⟩
    intro a369 hA369
    clear hA368
    have hg369 := g0 hb369
    have hs369 := hg369.size
    clear hb369
    refine sx_val hA369 rfl (ev_move (hA369.ev (i := 144) (v := .bool true)) _ rfl) ?_
    intro a374 hA374; clear hA369
    refine sx_bs (n := 2) (cs := (flat iva [1001, 0]).toArray) (e := 3) hA374 rfl (by decide) (.inr ⟨5, true, 145, rfl, rfl, by kernel_rfl⟩) (bsI2 (ec _ (.int .i64 1001)) (ec _ (.int .i64 0)) _ rfl) ?_
    intro B375 w375 a375 hB375 hx375 hg375 hA375
    clear hA374
    have hs375 := hg375.size
    have hl375 := hx375.lt
    have ho375 := Own.bxn (n := 2) hx375 iva_sz rfl (by decide)
    have hh375 := Own.hi ho375
    refine sx_call (f := 30) (args := #[.slice (some ⟨B375, 0, none⟩) 2 2]) hA375 rfl (by decide) (.inr ⟨5, true, 145, rfl, rfl, by kernel_rfl⟩) (ev_fn rfl (mp1 (hA375.ev (i := 146) (v := .slice (some ⟨B375, 0, none⟩) 2 2))) (by kernel_rfl) _ rfl) (of_any (some ⟨B375, 0, none⟩) 2 [1001, 0] _ (OwnR.gr (e := 3) ⟨rfl, ho375⟩) (by decide) (by decide)) ?_
    intro e376 w376 hR376
    obtain ⟨Ap376, cp376, Aj376, cj376, rfl, hC376, hJ376, hb376⟩ := hR376
    refine ⟨_, rfl, ?_⟩
    intro a376 hA376
    clear hA375
    have hg376 := g0 hb376
    have hs376 := hg376.size
    clear hb376
    have ho376_0 : Own w376 (w375.heap.size) 3 1 (.slice Ap376 (ofS [1001, 0]).rs.length cp376) (ofS [1001, 0]).rs.length (flat iva (ofS [1001, 0]).rs) := hC376
    have hh376_0 := Own.hi ho376_0
    have ho376_1 : Own w376 (w375.heap.size) 4 1 (.slice Aj376 (ofS [1001, 0]).bs.length cj376) (ofS [1001, 0]).bs.length (flat bva (ofS [1001, 0]).bs) := hJ376
    have hh376_1 := Own.hi ho376_1
    refine sx_bs (n := 2) (cs := (flat iva [1000, 0]).toArray) (e := 3) hA376 rfl (by decide) (.inr ⟨5, true, 145, rfl, rfl, by kernel_rfl⟩) (bsI2 (ec _ (.int .i64 1000)) (ec _ (.int .i64 0)) _ rfl) ?_
    intro B377 w377 a377 hB377 hx377 hg377 hA377
    clear hA376
    have hs377 := hg377.size
    have hl377 := hx377.lt
    have ho377 := Own.bxn (n := 2) hx377 iva_sz rfl (by decide)
    have hh377 := Own.hi ho377
    refine sx_call (f := 30) (args := #[.slice (some ⟨B377, 0, none⟩) 2 2]) hA377 rfl (by decide) (.inr ⟨5, true, 145, rfl, rfl, by kernel_rfl⟩) (ev_fn rfl (mp1 (hA377.ev (i := 148) (v := .slice (some ⟨B377, 0, none⟩) 2 2))) (by kernel_rfl) _ rfl) (of_any (some ⟨B377, 0, none⟩) 2 [1000, 0] _ (OwnR.gr (e := 3) ⟨rfl, ho377⟩) (by decide) (by decide)) ?_
    intro e378 w378 hR378
    obtain ⟨Ap378, cp378, Aj378, cj378, rfl, hC378, hJ378, hb378⟩ := hR378
    refine ⟨_, rfl, ?_⟩
    intro a378 hA378
    clear hA377
    have hg378 := g0 hb378
    have hs378 := hg378.size
    clear hb378
    have ho378_0 : Own w378 (w377.heap.size) 3 1 (.slice Ap378 (ofS [1000, 0]).rs.length cp378) (ofS [1000, 0]).rs.length (flat iva (ofS [1000, 0]).rs) := hC378
    have hh378_0 := Own.hi ho378_0
    have ho378_1 : Own w378 (w377.heap.size) 4 1 (.slice Aj378 (ofS [1000, 0]).bs.length cj378) (ofS [1000, 0]).bs.length (flat bva (ofS [1000, 0]).bs) := hJ378
    have hh378_1 := Own.hi ho378_1
    have ho376_380 := Own.gN ho376_0 hg377
    have ho376_381 := Own.gN ho376_380 hg378
    have ho376_382 := Own.gN ho376_1 hg377
    have ho376_383 := Own.gN ho376_382 hg378
    refine sx_call (f := 32) (args := #[.agg #[.slice Ap376 (ofS [1001, 0]).rs.length cp376, .slice Aj376 (ofS [1001, 0]).bs.length cj376], .agg #[.slice Ap378 (ofS [1000, 0]).rs.length cp378, .slice Aj378 (ofS [1000, 0]).bs.length cj378], .bool false]) hA378 rfl (by decide) (.inr ⟨5, true, 145, rfl, rfl, by kernel_rfl⟩) (ev_fn rfl (mp3 (hA378.ev (i := 147) (v := .agg #[.slice Ap376 (ofS [1001, 0]).rs.length cp376, .slice Aj376 (ofS [1001, 0]).bs.length cj376])) (hA378.ev (i := 149) (v := .agg #[.slice Ap378 (ofS [1000, 0]).rs.length cp378, .slice Aj378 (ofS [1000, 0]).bs.length cj378])) (ec _ (.bool false))) (by kernel_rfl) _ rfl) (drops_any Ap376 cp376 Aj376 cj376 (ofS [1001, 0]).rs (ofS [1001, 0]).bs Ap378 cp378 Aj378 cj378 (ofS [1000, 0]).rs (ofS [1000, 0]).bs false _ ⟨(OwnR.gr (e := 3) ⟨rfl, ho376_381⟩), (OwnR.gr (e := 4) ⟨rfl, ho376_383⟩)⟩ ⟨(OwnR.gr (e := 3) ⟨rfl, ho378_0⟩), (OwnR.gr (e := 4) ⟨rfl, ho378_1⟩)⟩ (by decide) (by decide)) ?_
    intro e379 w379 hR379
    obtain ⟨he379, hb379⟩ := hR379
    rw [show (drp (ofS [1001, 0]) (ofS [1000, 0]) false) = true by kernel_rfl] at he379
    subst he379
    refine ⟨_, rfl, ?_⟩
    intro a379 hA379
    clear hA378
    have hg379 := g0 hb379
    have hs379 := hg379.size
    clear hb379
    refine sx_val hA379 rfl (ev_pickT (hA379.ev (i := 145) (v := .bool true)) (hA379.ev (i := 150) (v := .bool true)) _ rfl) ?_
    intro a384 hA384; clear hA379
    refine sx_val hA384 rfl (ev_move (hA384.ev (i := 151) (v := .bool true)) _ rfl) ?_
    intro a385 hA385; clear hA384
    refine sx_val (hg := (.inr ⟨12, true, 152, rfl, rfl, by kernel_rfl⟩)) hA385 rfl (ev_move (hA385.ev (i := 13) (v := .int .i64 (unr (ofS [0, 0]) 0).2.2)) _ rfl) ?_
    intro a386 hA386; clear hA385
    refine sx_val (hg := (.inr ⟨12, true, 152, rfl, rfl, by kernel_rfl⟩)) (v := .bool true) hA386 rfl (ev_eqlB (k := .i64) (m := (unr (ofS [0, 0]) 0).2.2) (n := 15) (hA386.ev (i := 153)) (ec _ (.int .i64 15)) (by kernel_rfl) _ rfl) ?_
    intro a387 hA387; clear hA386
    refine sx_val hA387 rfl (ev_pickT (hA387.ev (i := 152) (v := .bool true)) (hA387.ev (i := 154) (v := .bool true)) _ rfl) ?_
    intro a388 hA388; clear hA387
    refine sx_val hA388 rfl (ev_move (hA388.ev (i := 155) (v := .bool true)) _ rfl) ?_
    intro a389 hA389; clear hA388
    refine sx_bs (n := 2) (cs := (flat iva [1002, 0]).toArray) (e := 3) hA389 rfl (by decide) (.inr ⟨16, true, 156, rfl, rfl, by kernel_rfl⟩) (bsI2 (ec _ (.int .i64 1002)) (ec _ (.int .i64 0)) _ rfl) ?_
    intro B390 w390 a390 hB390 hx390 hg390 hA390
    clear hA389
    have hs390 := hg390.size
    have hl390 := hx390.lt
    have ho390 := Own.bxn (n := 2) hx390 iva_sz rfl (by decide)
    have hh390 := Own.hi ho390
    refine sx_call (f := 30) (args := #[.slice (some ⟨B390, 0, none⟩) 2 2]) hA390 rfl (by decide) (.inr ⟨16, true, 156, rfl, rfl, by kernel_rfl⟩) (ev_fn rfl (mp1 (hA390.ev (i := 157) (v := .slice (some ⟨B390, 0, none⟩) 2 2))) (by kernel_rfl) _ rfl) (of_any (some ⟨B390, 0, none⟩) 2 [1002, 0] _ (OwnR.gr (e := 3) ⟨rfl, ho390⟩) (by decide) (by decide)) ?_
    intro e391 w391 hR391
    obtain ⟨Ap391, cp391, Aj391, cj391, rfl, hC391, hJ391, hb391⟩ := hR391
    refine ⟨_, rfl, ?_⟩
    intro a391 hA391
    clear hA390
    have hg391 := g0 hb391
    have hs391 := hg391.size
    clear hb391
    have ho391_0 : Own w391 (w390.heap.size) 3 1 (.slice Ap391 (ofS [1002, 0]).rs.length cp391) (ofS [1002, 0]).rs.length (flat iva (ofS [1002, 0]).rs) := hC391
    have hh391_0 := Own.hi ho391_0
    have ho391_1 : Own w391 (w390.heap.size) 4 1 (.slice Aj391 (ofS [1002, 0]).bs.length cj391) (ofS [1002, 0]).bs.length (flat bva (ofS [1002, 0]).bs) := hJ391
    have hh391_1 := Own.hi ho391_1
    refine sx_bs (n := 2) (cs := (flat iva [2, 0]).toArray) (e := 3) hA391 rfl (by decide) (.inr ⟨16, true, 156, rfl, rfl, by kernel_rfl⟩) (bsI2 (ec _ (.int .i64 2)) (ec _ (.int .i64 0)) _ rfl) ?_
    intro B392 w392 a392 hB392 hx392 hg392 hA392
    clear hA391
    have hs392 := hg392.size
    have hl392 := hx392.lt
    have ho392 := Own.bxn (n := 2) hx392 iva_sz rfl (by decide)
    have hh392 := Own.hi ho392
    refine sx_call (f := 30) (args := #[.slice (some ⟨B392, 0, none⟩) 2 2]) hA392 rfl (by decide) (.inr ⟨16, true, 156, rfl, rfl, by kernel_rfl⟩) (ev_fn rfl (mp1 (hA392.ev (i := 159) (v := .slice (some ⟨B392, 0, none⟩) 2 2))) (by kernel_rfl) _ rfl) (of_any (some ⟨B392, 0, none⟩) 2 [2, 0] _ (OwnR.gr (e := 3) ⟨rfl, ho392⟩) (by decide) (by decide)) ?_
    intro e393 w393 hR393
    obtain ⟨Ap393, cp393, Aj393, cj393, rfl, hC393, hJ393, hb393⟩ := hR393
    refine ⟨_, rfl, ?_⟩
    intro a393 hA393
    clear hA392
    have hg393 := g0 hb393
    have hs393 := hg393.size
    clear hb393
    have ho393_0 : Own w393 (w392.heap.size) 3 1 (.slice Ap393 (ofS [2, 0]).rs.length cp393) (ofS [2, 0]).rs.length (flat iva (ofS [2, 0]).rs) := hC393
    have hh393_0 := Own.hi ho393_0
    have ho393_1 : Own w393 (w392.heap.size) 4 1 (.slice Aj393 (ofS [2, 0]).bs.length cj393) (ofS [2, 0]).bs.length (flat bva (ofS [2, 0]).bs) := hJ393
    have hh393_1 := Own.hi ho393_1
    have ho391_395 := Own.gN ho391_0 hg392
    have ho391_396 := Own.gN ho391_395 hg393
    have ho391_397 := Own.gN ho391_1 hg392
    have ho391_398 := Own.gN ho391_397 hg393
    refine sx_call (f := 33) (args := #[.agg #[.slice Ap391 (ofS [1002, 0]).rs.length cp391, .slice Aj391 (ofS [1002, 0]).bs.length cj391], .agg #[.slice Ap393 (ofS [2, 0]).rs.length cp393, .slice Aj393 (ofS [2, 0]).bs.length cj393], .bool false]) hA393 rfl (by decide) (.inr ⟨16, true, 156, rfl, rfl, by kernel_rfl⟩) (ev_fn rfl (mp3 (hA393.ev (i := 158) (v := .agg #[.slice Ap391 (ofS [1002, 0]).rs.length cp391, .slice Aj391 (ofS [1002, 0]).bs.length cj391])) (hA393.ev (i := 160) (v := .agg #[.slice Ap393 (ofS [2, 0]).rs.length cp393, .slice Aj393 (ofS [2, 0]).bs.length cj393])) (ec _ (.bool false))) (by kernel_rfl) _ rfl) (settles_any Ap391 cp391 Aj391 cj391 (ofS [1002, 0]).rs (ofS [1002, 0]).bs Ap393 cp393 Aj393 cj393 (ofS [2, 0]).rs (ofS [2, 0]).bs false _ ⟨(OwnR.gr (e := 3) ⟨rfl, ho391_396⟩), (OwnR.gr (e := 4) ⟨rfl, ho391_398⟩)⟩ ⟨(OwnR.gr (e := 3) ⟨rfl, ho393_0⟩), (OwnR.gr (e := 4) ⟨rfl, ho393_1⟩)⟩ (by decide) (by decide)) ?_
    intro e394 w394 hR394
    obtain ⟨he394, hb394⟩ := hR394
    rw [show (stt (ofS [1002, 0]) (ofS [2, 0]) false) = true by kernel_rfl] at he394
    subst he394
    refine ⟨_, rfl, ?_⟩
    intro a394 hA394
    clear hA393
    have hg394 := g0 hb394
    have hs394 := hg394.size
    clear hb394
    refine sx_val hA394 rfl (ev_pickT (hA394.ev (i := 156) (v := .bool true)) (hA394.ev (i := 161) (v := .bool true)) _ rfl) ?_
    intro a399 hA399; clear hA394
    refine sx_val hA399 rfl (ev_move (hA399.ev (i := 162) (v := .bool true)) _ rfl) ?_
    intro a400 hA400; clear hA399
    refine sx_val (hg := (.inr ⟨23, true, 163, rfl, rfl, by kernel_rfl⟩)) hA400 rfl (ev_move (hA400.ev (i := 16) (v := .int .i64 (stl (ofS [2, 0]) 0).2.2)) _ rfl) ?_
    intro a401 hA401; clear hA400
    refine sx_val (hg := (.inr ⟨23, true, 163, rfl, rfl, by kernel_rfl⟩)) (v := .bool true) hA401 rfl (ev_eqlB (k := .i64) (m := (stl (ofS [2, 0]) 0).2.2) (n := 9) (hA401.ev (i := 164)) (ec _ (.int .i64 9)) (by kernel_rfl) _ rfl) ?_
    intro a402 hA402; clear hA401
    refine sx_val hA402 rfl (ev_pickT (hA402.ev (i := 163) (v := .bool true)) (hA402.ev (i := 165) (v := .bool true)) _ rfl) ?_
    intro a403 hA403; clear hA402
    refine sx_val hA403 rfl (ev_assign (hA403.ev (i := 166) (v := .bool true)) _ rfl) ?_
    intro a404 hA404; clear hA403
    refine sx_nil ?_
    refine then_n ?_
    refine wp_seq ?_
    have b364_B70_405 := b364_B70.gN hg365
    have b364_B70_406 := b364_B70_405.gN hg366
    have b364_B70_407 := b364_B70_406.gN hg367
    have b364_B70_408 := b364_B70_407.gN hg368
    have b364_B70_409 := b364_B70_408.gN hg369
    have b364_B70_410 := b364_B70_409.gN hg375
    have b364_B70_411 := b364_B70_410.gN hg376
    have b364_B70_412 := b364_B70_411.gN hg377
    have b364_B70_413 := b364_B70_412.gN hg378
    have b364_B70_414 := b364_B70_413.gN hg379
    have b364_B70_415 := b364_B70_414.gN hg390
    have b364_B70_416 := b364_B70_415.gN hg391
    have b364_B70_417 := b364_B70_416.gN hg392
    have b364_B70_418 := b364_B70_417.gN hg393
    have b364_B70_419 := b364_B70_418.gN hg394
    have p364_420 := Own.gN p364_2 hg365
    have p364_421 := Own.gN p364_420 hg366
    have p364_422 := Own.gN p364_421 hg367
    have p364_423 := Own.gN p364_422 hg368
    have p364_424 := Own.gN p364_423 hg369
    have p364_425 := Own.gN p364_424 hg375
    have p364_426 := Own.gN p364_425 hg376
    have p364_427 := Own.gN p364_426 hg377
    have p364_428 := Own.gN p364_427 hg378
    have p364_429 := Own.gN p364_428 hg379
    have p364_430 := Own.gN p364_429 hg390
    have p364_431 := Own.gN p364_430 hg391
    have p364_432 := Own.gN p364_431 hg392
    have p364_433 := Own.gN p364_432 hg393
    have p364_434 := Own.gN p364_433 hg394
    have p364_435 := Own.gN p364_3 hg365
    have p364_436 := Own.gN p364_435 hg366
    have p364_437 := Own.gN p364_436 hg367
    have p364_438 := Own.gN p364_437 hg368
    have p364_439 := Own.gN p364_438 hg369
    have p364_440 := Own.gN p364_439 hg375
    have p364_441 := Own.gN p364_440 hg376
    have p364_442 := Own.gN p364_441 hg377
    have p364_443 := Own.gN p364_442 hg378
    have p364_444 := Own.gN p364_443 hg379
    have p364_445 := Own.gN p364_444 hg390
    have p364_446 := Own.gN p364_445 hg391
    have p364_447 := Own.gN p364_446 hg392
    have p364_448 := Own.gN p364_447 hg393
    have p364_449 := Own.gN p364_448 hg394
    have bl364_450 := Below.gN bl364 hg365 bl364.size
    have bl364_451 := Below.gN bl364_450 hg366 bl364_450.size
    have bl364_452 := Below.gN bl364_451 hg367 bl364_451.size
    have bl364_453 := Below.gN bl364_452 hg368 bl364_452.size
    have bl364_454 := Below.gN bl364_453 hg369 bl364_453.size
    have bl364_455 := Below.gN bl364_454 hg375 bl364_454.size
    have bl364_456 := Below.gN bl364_455 hg376 bl364_455.size
    have bl364_457 := Below.gN bl364_456 hg377 bl364_456.size
    have bl364_458 := Below.gN bl364_457 hg378 bl364_457.size
    have bl364_459 := Below.gN bl364_458 hg379 bl364_458.size
    have bl364_460 := Below.gN bl364_459 hg390 bl364_459.size
    have bl364_461 := Below.gN bl364_460 hg391 bl364_460.size
    have bl364_462 := Below.gN bl364_461 hg392 bl364_461.size
    have bl364_463 := Below.gN bl364_462 hg393 bl364_462.size
    have bl364_464 := Below.gN bl364_463 hg394 bl364_463.size
    refine region_D (n := 50) (by kernel_rfl) (by kernel_rfl) rfl (fun L ac wc => Below w.heap.size w wc ∧ w394.heap.size ≤ wc.heap.size ∧ Bx wc B70 25 (#[.slice Ap66 (sta (ofS [2, 0]) 0).1.rs.length cp66, .slice Aj66 (sta (ofS [2, 0]) 0).1.bs.length cj66]) ∧ Own wc (w65.heap.size) 3 1 (.slice Ap66 (sta (ofS [2, 0]) 0).1.rs.length cp66) (sta (ofS [2, 0]) 0).1.rs.length (flat iva (sta (ofS [2, 0]) 0).1.rs) ∧ Own wc (w65.heap.size) 4 1 (.slice Aj66 (sta (ofS [2, 0]) 0).1.bs.length cj66) (sta (ofS [2, 0]) 0).1.bs.length (flat bva (sta (ofS [2, 0]) 0).1.bs) ∧ (L 0 = true → Sv ac 167 (.bool true)) ∧ (L 1 = true → Sv ac 168 (.bool true)) ∧ (L 2 = true → Sv ac 169 (.bool true)) ∧ (L 3 = true → Sv ac 170 (.bool true)) ∧ (L 4 = true → Sv ac 171 (.bool true)) ∧ (L 5 = true → Sv ac 172 (.bool true)) ∧ (L 6 = true → Sv ac 173 (.bool true)) ∧ (L 7 = true → Sv ac 174 (.bool true)) ∧ (L 8 = true → Sv ac 175 (.int .i64 (sta (ofS [2, 0]) 0).2)) ∧ (L 9 = true → Sv ac 176 (.bool true)) ∧ (L 10 = true → Sv ac 177 (.bool true)) ∧ (L 11 = true → Sv ac 178 (.bool true)) ∧ (L 12 = true → Sv ac 179 (.agg #[.slice Ap66 (sta (ofS [2, 0]) 0).1.rs.length cp66, .slice Aj66 (sta (ofS [2, 0]) 0).1.bs.length cj66])) ∧ (L 13 = true → PkB ac wc w394.heap.size 180 [1002, 0] 2) ∧ (L 14 = true → PkS ac wc w394.heap.size 181 (ofS [1002, 0])) ∧ (L 15 = true → Sv ac 182 (.bool true)) ∧ (L 16 = true → Sv ac 183 (.bool true)) ∧ (L 17 = true → Sv ac 184 (.bool true)) ∧ (L 18 = true → Sv ac 185 (.int .i64 (sta (ofS [1002, 0]) 0).2)) ∧ (L 19 = true → Sv ac 186 (.bool true)) ∧ (L 20 = true → Sv ac 187 (.bool true)) ∧ (L 21 = true → Sv ac 188 (.bool true)) ∧ (L 22 = true → Sv ac 189 (.int .i64 (sta (ofS [0, 0]) 0).2)) ∧ (L 23 = true → Sv ac 190 (.bool true)) ∧ (L 24 = true → Sv ac 191 (.bool true)) ∧ (L 25 = true → Sv ac 192 (.bool true)) ∧ (L 26 = true → Sv ac 193 (.int .i64 (frst (ofS [1002, 0, 1])).2)) ∧ (L 27 = true → Sv ac 194 (.bool true)) ∧ (L 28 = true → Sv ac 195 (.bool true)) ∧ (L 29 = true → Sv ac 196 (.bool true)) ∧ (L 30 = true → Sv ac 197 (.int .i64 (frst (ofS [1002, 0, 1])).1)) ∧ (L 31 = true → Sv ac 198 (.bool true)) ∧ (L 32 = true → Sv ac 199 (.bool true)) ∧ (L 33 = true → Sv ac 200 (.bool true)) ∧ (L 34 = true → Sv ac 201 (.int .i64 (frst (ofS [1002, 1])).2)) ∧ (L 35 = true → Sv ac 202 (.bool true)) ∧ (L 36 = true → Sv ac 203 (.bool true)) ∧ (L 37 = true → Sv ac 204 (.bool true)) ∧ (L 38 = true → Sv ac 205 (.int .i64 (nws 0).2)) ∧ (L 39 = true → Sv ac 206 (.bool true)) ∧ (L 40 = true → Sv ac 207 (.bool true)) ∧ (L 41 = true → Sv ac 208 (.bool true)) ∧ (L 42 = true → Sv ac 209 (.int .i64 (chs (ofS [513])).1)) ∧ (L 43 = true → Sv ac 210 (.bool true)) ∧ (L 44 = true → Sv ac 211 (.bool true)) ∧ (L 45 = true → Sv ac 212 (.bool true)) ∧ (L 46 = true → Sv ac 213 (.int .i64 (chs (ofS [513])).2)) ∧ (L 47 = true → Sv ac 214 (.bool true)) ∧ (L 48 = true → Sv ac 215 (.bool true)) ∧ (L 49 = true → Sv ac 0 (.bool true))) ⟨(Below.gN bl364_464 (gdr _) bl364_464.size), (Nat.le_refl _), (b364_B70_419.gN (gdr _)), (Own.gN p364_434 (gdr _)), (Own.gN p364_449 (gdr _)), (fun h => by cases h), (fun h => by cases h), (fun h => by cases h), (fun h => by cases h), (fun h => by cases h), (fun h => by cases h), (fun h => by cases h), (fun h => by cases h), (fun h => by cases h), (fun h => by cases h), (fun h => by cases h), (fun h => by cases h), (fun h => by cases h), (fun h => by cases h), (fun h => by cases h), (fun h => by cases h), (fun h => by cases h), (fun h => by cases h), (fun h => by cases h), (fun h => by cases h), (fun h => by cases h), (fun h => by cases h), (fun h => by cases h), (fun h => by cases h), (fun h => by cases h), (fun h => by cases h), (fun h => by cases h), (fun h => by cases h), (fun h => by cases h), (fun h => by cases h), (fun h => by cases h), (fun h => by cases h), (fun h => by cases h), (fun h => by cases h), (fun h => by cases h), (fun h => by cases h), (fun h => by cases h), (fun h => by cases h), (fun h => by cases h), (fun h => by cases h), (fun h => by cases h), (fun h => by cases h), (fun h => by cases h), (fun h => by cases h), (fun h => by cases h), (fun h => by cases h), (fun h => by cases h), (fun h => by cases h), (fun h => by cases h), (fun h => by cases h)⟩ ?_ ?_
    · intro iq hiq o ho L hL hdep ac wc hF hJ
      obtain ⟨bl, sz, b_B70, p_0, p_1, s_167, s_168, s_169, s_170, s_171, s_172, s_173, s_174, s_175, s_176, s_177, s_178, s_179, s_180, s_181, s_182, s_183, s_184, s_185, s_186, s_187, s_188, s_189, s_190, s_191, s_192, s_193, s_194, s_195, s_196, s_197, s_198, s_199, s_200, s_201, s_202, s_203, s_204, s_205, s_206, s_207, s_208, s_209, s_210, s_211, s_212, s_213, s_214, s_215, s_0⟩ := hJ
      have zq := hF.1.trans hA404.1
      match iq, hiq with
      | 0, _ =>
        obtain rfl := Option.some.inj (show some _ = some o from ho); clear ho
        refine dj_call (i := 0) (f := 9) (args := #[]) rfl (.inl rfl) (ev_fn rfl (mp0 ) (by kernel_rfl) _ rfl) (awake_any _) ?_
        intro e wk0 hR
        obtain ⟨rfl, hb0⟩ := hR
        refine ⟨_, rfl, ?_⟩
        have hg := g0 hb0
        exact ⟨⟨_, rfl⟩, (Below.gN bl hg bl.size), (Nat.le_trans sz hg.size), (b_B70.gN hg), (Own.gN p_0 hg), (Own.gN p_1 hg), (fun _ => Sv.self (by rw [zq]; decide) _), (so s_168), (so s_169), (so s_170), (so s_171), (so s_172), (so s_173), (so s_174), (so s_175), (so s_176), (so s_177), (so s_178), (so s_179), (fun h => ((s_180 h).gN hg).put (by decide) _), (fun h => ((s_181 h).gN hg).put (by decide) _), (so s_182), (so s_183), (so s_184), (so s_185), (so s_186), (so s_187), (so s_188), (so s_189), (so s_190), (so s_191), (so s_192), (so s_193), (so s_194), (so s_195), (so s_196), (so s_197), (so s_198), (so s_199), (so s_200), (so s_201), (so s_202), (so s_203), (so s_204), (so s_205), (so s_206), (so s_207), (so s_208), (so s_209), (so s_210), (so s_211), (so s_212), (so s_213), (so s_214), (so s_215), (so s_0)⟩
      | 1, _ =>
        obtain rfl := Option.some.inj (show some _ = some o from ho); clear ho
        have v167 := s_167 (dp hdep 0)
        refine dj_val (i := 1) (v := .bool true) rfl (.inl rfl) (ev_move v167.eval _ rfl) ?_
        exact ⟨⟨_, rfl⟩, bl, sz, b_B70, p_0, p_1, (so s_167), (fun _ => Sv.self (by rw [zq]; decide) _), (so s_169), (so s_170), (so s_171), (so s_172), (so s_173), (so s_174), (so s_175), (so s_176), (so s_177), (so s_178), (so s_179), (fun h => (s_180 h).put (by decide) _), (fun h => (s_181 h).put (by decide) _), (so s_182), (so s_183), (so s_184), (so s_185), (so s_186), (so s_187), (so s_188), (so s_189), (so s_190), (so s_191), (so s_192), (so s_193), (so s_194), (so s_195), (so s_196), (so s_197), (so s_198), (so s_199), (so s_200), (so s_201), (so s_202), (so s_203), (so s_204), (so s_205), (so s_206), (so s_207), (so s_208), (so s_209), (so s_210), (so s_211), (so s_212), (so s_213), (so s_214), (so s_215), (so s_0)⟩
      | 2, _ =>
        obtain rfl := Option.some.inj (show some _ = some o from ho); clear ho
        have v168 := s_168 (dp hdep 1)
        have v31 := hF.sv (s := 31) (by kernel_rfl) (hA404.get (i := 31) (v := .bool true))
        refine dj_val (i := 2) (v := .bool true) rfl (.inr ⟨1, true, 168, rfl, by kernel_rfl, v168⟩) (ev_move v31.eval _ rfl) ?_
        exact ⟨⟨_, rfl⟩, bl, sz, b_B70, p_0, p_1, (so s_167), (so s_168), (fun _ => Sv.self (by rw [zq]; decide) _), (so s_170), (so s_171), (so s_172), (so s_173), (so s_174), (so s_175), (so s_176), (so s_177), (so s_178), (so s_179), (fun h => (s_180 h).put (by decide) _), (fun h => (s_181 h).put (by decide) _), (so s_182), (so s_183), (so s_184), (so s_185), (so s_186), (so s_187), (so s_188), (so s_189), (so s_190), (so s_191), (so s_192), (so s_193), (so s_194), (so s_195), (so s_196), (so s_197), (so s_198), (so s_199), (so s_200), (so s_201), (so s_202), (so s_203), (so s_204), (so s_205), (so s_206), (so s_207), (so s_208), (so s_209), (so s_210), (so s_211), (so s_212), (so s_213), (so s_214), (so s_215), (so s_0)⟩
      | 3, _ =>
        obtain rfl := Option.some.inj (show some _ = some o from ho); clear ho
        have v168 := s_168 (dp hdep 1)
        have v169 := s_169 (dp hdep 2)
        refine dj_val (i := 3) (v := .bool true) rfl (.inl rfl) (ev_pickT v168.eval v169.eval _ rfl) ?_
        exact ⟨⟨_, rfl⟩, bl, sz, b_B70, p_0, p_1, (so s_167), (so s_168), (so s_169), (fun _ => Sv.self (by rw [zq]; decide) _), (so s_171), (so s_172), (so s_173), (so s_174), (so s_175), (so s_176), (so s_177), (so s_178), (so s_179), (fun h => (s_180 h).put (by decide) _), (fun h => (s_181 h).put (by decide) _), (so s_182), (so s_183), (so s_184), (so s_185), (so s_186), (so s_187), (so s_188), (so s_189), (so s_190), (so s_191), (so s_192), (so s_193), (so s_194), (so s_195), (so s_196), (so s_197), (so s_198), (so s_199), (so s_200), (so s_201), (so s_202), (so s_203), (so s_204), (so s_205), (so s_206), (so s_207), (so s_208), (so s_209), (so s_210), (so s_211), (so s_212), (so s_213), (so s_214), (so s_215), (so s_0)⟩
      | 4, _ =>
        obtain rfl := Option.some.inj (show some _ = some o from ho); clear ho
        have v170 := s_170 (dp hdep 3)
        refine dj_val (i := 4) (v := .bool true) rfl (.inl rfl) (ev_move v170.eval _ rfl) ?_
        exact ⟨⟨_, rfl⟩, bl, sz, b_B70, p_0, p_1, (so s_167), (so s_168), (so s_169), (so s_170), (fun _ => Sv.self (by rw [zq]; decide) _), (so s_172), (so s_173), (so s_174), (so s_175), (so s_176), (so s_177), (so s_178), (so s_179), (fun h => (s_180 h).put (by decide) _), (fun h => (s_181 h).put (by decide) _), (so s_182), (so s_183), (so s_184), (so s_185), (so s_186), (so s_187), (so s_188), (so s_189), (so s_190), (so s_191), (so s_192), (so s_193), (so s_194), (so s_195), (so s_196), (so s_197), (so s_198), (so s_199), (so s_200), (so s_201), (so s_202), (so s_203), (so s_204), (so s_205), (so s_206), (so s_207), (so s_208), (so s_209), (so s_210), (so s_211), (so s_212), (so s_213), (so s_214), (so s_215), (so s_0)⟩
      | 5, _ =>
        obtain rfl := Option.some.inj (show some _ = some o from ho); clear ho
        have v171 := s_171 (dp hdep 4)
        have v32 := hF.sv (s := 32) (by kernel_rfl) (hA404.get (i := 32) (v := .bool true))
        refine dj_val (i := 5) (v := .bool true) rfl (.inr ⟨4, true, 171, rfl, by kernel_rfl, v171⟩) (ev_move v32.eval _ rfl) ?_
        exact ⟨⟨_, rfl⟩, bl, sz, b_B70, p_0, p_1, (so s_167), (so s_168), (so s_169), (so s_170), (so s_171), (fun _ => Sv.self (by rw [zq]; decide) _), (so s_173), (so s_174), (so s_175), (so s_176), (so s_177), (so s_178), (so s_179), (fun h => (s_180 h).put (by decide) _), (fun h => (s_181 h).put (by decide) _), (so s_182), (so s_183), (so s_184), (so s_185), (so s_186), (so s_187), (so s_188), (so s_189), (so s_190), (so s_191), (so s_192), (so s_193), (so s_194), (so s_195), (so s_196), (so s_197), (so s_198), (so s_199), (so s_200), (so s_201), (so s_202), (so s_203), (so s_204), (so s_205), (so s_206), (so s_207), (so s_208), (so s_209), (so s_210), (so s_211), (so s_212), (so s_213), (so s_214), (so s_215), (so s_0)⟩
      | 6, _ =>
        obtain rfl := Option.some.inj (show some _ = some o from ho); clear ho
        have v171 := s_171 (dp hdep 4)
        have v172 := s_172 (dp hdep 5)
        refine dj_val (i := 6) (v := .bool true) rfl (.inl rfl) (ev_pickT v171.eval v172.eval _ rfl) ?_
        exact ⟨⟨_, rfl⟩, bl, sz, b_B70, p_0, p_1, (so s_167), (so s_168), (so s_169), (so s_170), (so s_171), (so s_172), (fun _ => Sv.self (by rw [zq]; decide) _), (so s_174), (so s_175), (so s_176), (so s_177), (so s_178), (so s_179), (fun h => (s_180 h).put (by decide) _), (fun h => (s_181 h).put (by decide) _), (so s_182), (so s_183), (so s_184), (so s_185), (so s_186), (so s_187), (so s_188), (so s_189), (so s_190), (so s_191), (so s_192), (so s_193), (so s_194), (so s_195), (so s_196), (so s_197), (so s_198), (so s_199), (so s_200), (so s_201), (so s_202), (so s_203), (so s_204), (so s_205), (so s_206), (so s_207), (so s_208), (so s_209), (so s_210), (so s_211), (so s_212), (so s_213), (so s_214), (so s_215), (so s_0)⟩
      | 7, _ =>
        obtain rfl := Option.some.inj (show some _ = some o from ho); clear ho
        have v173 := s_173 (dp hdep 6)
        refine dj_val (i := 7) (v := .bool true) rfl (.inl rfl) (ev_move v173.eval _ rfl) ?_
        exact ⟨⟨_, rfl⟩, bl, sz, b_B70, p_0, p_1, (so s_167), (so s_168), (so s_169), (so s_170), (so s_171), (so s_172), (so s_173), (fun _ => Sv.self (by rw [zq]; decide) _), (so s_175), (so s_176), (so s_177), (so s_178), (so s_179), (fun h => (s_180 h).put (by decide) _), (fun h => (s_181 h).put (by decide) _), (so s_182), (so s_183), (so s_184), (so s_185), (so s_186), (so s_187), (so s_188), (so s_189), (so s_190), (so s_191), (so s_192), (so s_193), (so s_194), (so s_195), (so s_196), (so s_197), (so s_198), (so s_199), (so s_200), (so s_201), (so s_202), (so s_203), (so s_204), (so s_205), (so s_206), (so s_207), (so s_208), (so s_209), (so s_210), (so s_211), (so s_212), (so s_213), (so s_214), (so s_215), (so s_0)⟩
      | 8, _ =>
        obtain rfl := Option.some.inj (show some _ = some o from ho); clear ho
        have v174 := s_174 (dp hdep 7)
        have v18 := hF.sv (s := 18) (by kernel_rfl) (hA404.get (i := 18) (v := .int .i64 (sta (ofS [2, 0]) 0).2))
        refine dj_val (i := 8) (v := .int .i64 (sta (ofS [2, 0]) 0).2) rfl (.inr ⟨7, true, 174, rfl, by kernel_rfl, v174⟩) (ev_move v18.eval _ rfl) ?_
        exact ⟨⟨_, rfl⟩, bl, sz, b_B70, p_0, p_1, (so s_167), (so s_168), (so s_169), (so s_170), (so s_171), (so s_172), (so s_173), (so s_174), (fun _ => Sv.self (by rw [zq]; decide) _), (so s_176), (so s_177), (so s_178), (so s_179), (fun h => (s_180 h).put (by decide) _), (fun h => (s_181 h).put (by decide) _), (so s_182), (so s_183), (so s_184), (so s_185), (so s_186), (so s_187), (so s_188), (so s_189), (so s_190), (so s_191), (so s_192), (so s_193), (so s_194), (so s_195), (so s_196), (so s_197), (so s_198), (so s_199), (so s_200), (so s_201), (so s_202), (so s_203), (so s_204), (so s_205), (so s_206), (so s_207), (so s_208), (so s_209), (so s_210), (so s_211), (so s_212), (so s_213), (so s_214), (so s_215), (so s_0)⟩
      | 9, _ =>
        obtain rfl := Option.some.inj (show some _ = some o from ho); clear ho
        have v174 := s_174 (dp hdep 7)
        have v175 := s_175 (dp hdep 8)
        refine dj_val (i := 9) (v := .bool true) rfl (.inr ⟨7, true, 174, rfl, by kernel_rfl, v174⟩) (ev_eqlB (k := .i64) (m := (sta (ofS [2, 0]) 0).2) (n := 0) v175.eval (ec ac (.int .i64 0)) (by kernel_rfl) _ rfl) ?_
        exact ⟨⟨_, rfl⟩, bl, sz, b_B70, p_0, p_1, (so s_167), (so s_168), (so s_169), (so s_170), (so s_171), (so s_172), (so s_173), (so s_174), (so s_175), (fun _ => Sv.self (by rw [zq]; decide) _), (so s_177), (so s_178), (so s_179), (fun h => (s_180 h).put (by decide) _), (fun h => (s_181 h).put (by decide) _), (so s_182), (so s_183), (so s_184), (so s_185), (so s_186), (so s_187), (so s_188), (so s_189), (so s_190), (so s_191), (so s_192), (so s_193), (so s_194), (so s_195), (so s_196), (so s_197), (so s_198), (so s_199), (so s_200), (so s_201), (so s_202), (so s_203), (so s_204), (so s_205), (so s_206), (so s_207), (so s_208), (so s_209), (so s_210), (so s_211), (so s_212), (so s_213), (so s_214), (so s_215), (so s_0)⟩
      | 10, _ =>
        obtain rfl := Option.some.inj (show some _ = some o from ho); clear ho
        have v174 := s_174 (dp hdep 7)
        have v176 := s_176 (dp hdep 9)
        refine dj_val (i := 10) (v := .bool true) rfl (.inl rfl) (ev_pickT v174.eval v176.eval _ rfl) ?_
        exact ⟨⟨_, rfl⟩, bl, sz, b_B70, p_0, p_1, (so s_167), (so s_168), (so s_169), (so s_170), (so s_171), (so s_172), (so s_173), (so s_174), (so s_175), (so s_176), (fun _ => Sv.self (by rw [zq]; decide) _), (so s_178), (so s_179), (fun h => (s_180 h).put (by decide) _), (fun h => (s_181 h).put (by decide) _), (so s_182), (so s_183), (so s_184), (so s_185), (so s_186), (so s_187), (so s_188), (so s_189), (so s_190), (so s_191), (so s_192), (so s_193), (so s_194), (so s_195), (so s_196), (so s_197), (so s_198), (so s_199), (so s_200), (so s_201), (so s_202), (so s_203), (so s_204), (so s_205), (so s_206), (so s_207), (so s_208), (so s_209), (so s_210), (so s_211), (so s_212), (so s_213), (so s_214), (so s_215), (so s_0)⟩
      | 11, _ =>
        obtain rfl := Option.some.inj (show some _ = some o from ho); clear ho
        have v177 := s_177 (dp hdep 10)
        refine dj_val (i := 11) (v := .bool true) rfl (.inl rfl) (ev_move v177.eval _ rfl) ?_
        exact ⟨⟨_, rfl⟩, bl, sz, b_B70, p_0, p_1, (so s_167), (so s_168), (so s_169), (so s_170), (so s_171), (so s_172), (so s_173), (so s_174), (so s_175), (so s_176), (so s_177), (fun _ => Sv.self (by rw [zq]; decide) _), (so s_179), (fun h => (s_180 h).put (by decide) _), (fun h => (s_181 h).put (by decide) _), (so s_182), (so s_183), (so s_184), (so s_185), (so s_186), (so s_187), (so s_188), (so s_189), (so s_190), (so s_191), (so s_192), (so s_193), (so s_194), (so s_195), (so s_196), (so s_197), (so s_198), (so s_199), (so s_200), (so s_201), (so s_202), (so s_203), (so s_204), (so s_205), (so s_206), (so s_207), (so s_208), (so s_209), (so s_210), (so s_211), (so s_212), (so s_213), (so s_214), (so s_215), (so s_0)⟩
      | 12, _ =>
        obtain rfl := Option.some.inj (show some _ = some o from ho); clear ho
        have v178 := s_178 (dp hdep 11)
        have v17 := hF.sv (s := 17) (by kernel_rfl) (hA404.get (i := 17) (v := .pointer (some ⟨B70, 0, none⟩)))
        refine dj_val (i := 12) (v := .agg #[.slice Ap66 (sta (ofS [2, 0]) 0).1.rs.length cp66, .slice Aj66 (sta (ofS [2, 0]) 0).1.bs.length cj66]) rfl (.inr ⟨11, true, 178, rfl, by kernel_rfl, v178⟩) (ev_row v17.eval b_B70 Try.underlying25 rfl (n := 2) (by kernel_rfl) rfl _ rfl) ?_
        exact ⟨⟨_, rfl⟩, bl, sz, b_B70, p_0, p_1, (so s_167), (so s_168), (so s_169), (so s_170), (so s_171), (so s_172), (so s_173), (so s_174), (so s_175), (so s_176), (so s_177), (so s_178), (fun _ => Sv.self (by rw [zq]; decide) _), (fun h => (s_180 h).put (by decide) _), (fun h => (s_181 h).put (by decide) _), (so s_182), (so s_183), (so s_184), (so s_185), (so s_186), (so s_187), (so s_188), (so s_189), (so s_190), (so s_191), (so s_192), (so s_193), (so s_194), (so s_195), (so s_196), (so s_197), (so s_198), (so s_199), (so s_200), (so s_201), (so s_202), (so s_203), (so s_204), (so s_205), (so s_206), (so s_207), (so s_208), (so s_209), (so s_210), (so s_211), (so s_212), (so s_213), (so s_214), (so s_215), (so s_0)⟩
      | 13, _ =>
        obtain rfl := Option.some.inj (show some _ = some o from ho); clear ho
        have v178 := s_178 (dp hdep 11)
        refine dj_val (i := 13) rfl (.inr ⟨11, true, 178, rfl, by kernel_rfl, v178⟩) (w' := wc.alloc (.cells (flat iva [1002, 0]).toArray 3)) (v := .slice (some ⟨wc.heap.size, 0, none⟩) 2 2) (bsI2 (ec ac (.int .i64 1002)) (ec ac (.int .i64 0)) _ rfl) ?_
        have hown := Own.mono (Own.bxn (n := 2) (xs := [1002, 0]) (show Bx _ _ _ (flat iva [1002, 0]).toArray from Bx.new wc 3 (flat iva [1002, 0]).toArray) iva_sz rfl (by decide)) sz
        have hg := g0 (al wc (.cells (flat iva [1002, 0]).toArray 3))
        exact ⟨⟨_, rfl⟩, (Below.gN bl hg bl.size), (Nat.le_trans sz hg.size), (b_B70.gN hg), (Own.gN p_0 hg), (Own.gN p_1 hg), (so s_167), (so s_168), (so s_169), (so s_170), (so s_171), (so s_172), (so s_173), (so s_174), (so s_175), (so s_176), (so s_177), (so s_178), (so s_179), (fun _ => ⟨wc.heap.size, Sv.self (by rw [zq]; decide) _, hown⟩), (fun h => ((s_181 h).gN hg).put (by decide) _), (so s_182), (so s_183), (so s_184), (so s_185), (so s_186), (so s_187), (so s_188), (so s_189), (so s_190), (so s_191), (so s_192), (so s_193), (so s_194), (so s_195), (so s_196), (so s_197), (so s_198), (so s_199), (so s_200), (so s_201), (so s_202), (so s_203), (so s_204), (so s_205), (so s_206), (so s_207), (so s_208), (so s_209), (so s_210), (so s_211), (so s_212), (so s_213), (so s_214), (so s_215), (so s_0)⟩
      | 14, _ =>
        obtain rfl := Option.some.inj (show some _ = some o from ho); clear ho
        have v178 := s_178 (dp hdep 11)
        obtain ⟨G13r16, v180, a_13⟩ := s_180 (dp hdep 13)
        refine dj_call (i := 14) (f := 30) (args := #[.slice (some ⟨G13r16, 0, none⟩) 2 2]) rfl (.inr ⟨11, true, 178, rfl, by kernel_rfl, v178⟩) (ev_fn rfl (mp1 v180.eval) (by kernel_rfl) _ rfl) (of_any (some ⟨G13r16, 0, none⟩) 2 [1002, 0] _ (OwnR.gr (e := 3) ⟨rfl, a_13⟩) (by decide) (by decide)) ?_
        intro e wk14 hR
        obtain ⟨Ap14r16, cp14r16, Aj14r16, cj14r16, rfl, hC14, hJ14, hb14⟩ := hR
        refine ⟨_, rfl, ?_⟩
        have hg := g0 hb14
        have hraw0 := hC14
        have hown0 := Own.mono (hC14) sz
        have hraw1 := hJ14
        have hown1 := Own.mono (hJ14) sz
        exact ⟨⟨_, rfl⟩, (Below.gN bl hg bl.size), (Nat.le_trans sz hg.size), (b_B70.gN hg), (Own.gN p_0 hg), (Own.gN p_1 hg), (so s_167), (so s_168), (so s_169), (so s_170), (so s_171), (so s_172), (so s_173), (so s_174), (so s_175), (so s_176), (so s_177), (so s_178), (so s_179), (fun h => ((s_180 h).gN hg).put (by decide) _), (fun _ => ⟨Ap14r16, cp14r16, Aj14r16, cj14r16, Sv.self (by rw [zq]; decide) _, hown0, hown1⟩), (so s_182), (so s_183), (so s_184), (so s_185), (so s_186), (so s_187), (so s_188), (so s_189), (so s_190), (so s_191), (so s_192), (so s_193), (so s_194), (so s_195), (so s_196), (so s_197), (so s_198), (so s_199), (so s_200), (so s_201), (so s_202), (so s_203), (so s_204), (so s_205), (so s_206), (so s_207), (so s_208), (so s_209), (so s_210), (so s_211), (so s_212), (so s_213), (so s_214), (so s_215), (so s_0)⟩
      | 15, _ =>
        obtain rfl := Option.some.inj (show some _ = some o from ho); clear ho
        have v178 := s_178 (dp hdep 11)
        have v179 := s_179 (dp hdep 12)
        obtain ⟨Ap14r16, cp14r16, Aj14r16, cj14r16, v181, o_14_0, o_14_1⟩ := s_181 (dp hdep 14)
        refine dj_call (i := 15) (f := 13) (args := #[.agg #[.slice Ap66 (sta (ofS [2, 0]) 0).1.rs.length cp66, .slice Aj66 (sta (ofS [2, 0]) 0).1.bs.length cj66], .agg #[.slice Ap14r16 (ofS [1002, 0]).rs.length cp14r16, .slice Aj14r16 (ofS [1002, 0]).bs.length cj14r16]]) rfl (.inr ⟨11, true, 178, rfl, by kernel_rfl, v178⟩) (ev_fn rfl (mp2 v179.eval v181.eval) (by kernel_rfl) _ rfl) (SameSlots_any Ap66 cp66 Aj66 cj66 (sta (ofS [2, 0]) 0).1.rs (sta (ofS [2, 0]) 0).1.bs Ap14r16 cp14r16 Aj14r16 cj14r16 (ofS [1002, 0]).rs (ofS [1002, 0]).bs _ ⟨(OwnR.gr (e := 3) ⟨rfl, p_0⟩), (OwnR.gr (e := 4) ⟨rfl, p_1⟩)⟩ ⟨(OwnR.gr (e := 3) ⟨rfl, o_14_0⟩), (OwnR.gr (e := 4) ⟨rfl, o_14_1⟩)⟩) ?_
        intro e wk15 hR
        obtain ⟨he15, hb15⟩ := hR
        rw [show (sme (sta (ofS [2, 0]) 0).1 (ofS [1002, 0])) = true by kernel_rfl] at he15
        subst he15
        refine ⟨_, rfl, ?_⟩
        have hg := g0 hb15
        exact ⟨⟨_, rfl⟩, (Below.gN bl hg bl.size), (Nat.le_trans sz hg.size), (b_B70.gN hg), (Own.gN p_0 hg), (Own.gN p_1 hg), (so s_167), (so s_168), (so s_169), (so s_170), (so s_171), (so s_172), (so s_173), (so s_174), (so s_175), (so s_176), (so s_177), (so s_178), (so s_179), (fun h => ((s_180 h).gN hg).put (by decide) _), (fun h => ((s_181 h).gN hg).put (by decide) _), (fun _ => Sv.self (by rw [zq]; decide) _), (so s_183), (so s_184), (so s_185), (so s_186), (so s_187), (so s_188), (so s_189), (so s_190), (so s_191), (so s_192), (so s_193), (so s_194), (so s_195), (so s_196), (so s_197), (so s_198), (so s_199), (so s_200), (so s_201), (so s_202), (so s_203), (so s_204), (so s_205), (so s_206), (so s_207), (so s_208), (so s_209), (so s_210), (so s_211), (so s_212), (so s_213), (so s_214), (so s_215), (so s_0)⟩
      | 16, _ =>
        obtain rfl := Option.some.inj (show some _ = some o from ho); clear ho
        have v178 := s_178 (dp hdep 11)
        have v182 := s_182 (dp hdep 15)
        refine dj_val (i := 16) (v := .bool true) rfl (.inl rfl) (ev_pickT v178.eval v182.eval _ rfl) ?_
        exact ⟨⟨_, rfl⟩, bl, sz, b_B70, p_0, p_1, (so s_167), (so s_168), (so s_169), (so s_170), (so s_171), (so s_172), (so s_173), (so s_174), (so s_175), (so s_176), (so s_177), (so s_178), (so s_179), (fun h => (s_180 h).put (by decide) _), (fun h => (s_181 h).put (by decide) _), (so s_182), (fun _ => Sv.self (by rw [zq]; decide) _), (so s_184), (so s_185), (so s_186), (so s_187), (so s_188), (so s_189), (so s_190), (so s_191), (so s_192), (so s_193), (so s_194), (so s_195), (so s_196), (so s_197), (so s_198), (so s_199), (so s_200), (so s_201), (so s_202), (so s_203), (so s_204), (so s_205), (so s_206), (so s_207), (so s_208), (so s_209), (so s_210), (so s_211), (so s_212), (so s_213), (so s_214), (so s_215), (so s_0)⟩
      | 17, _ =>
        obtain rfl := Option.some.inj (show some _ = some o from ho); clear ho
        have v183 := s_183 (dp hdep 16)
        refine dj_val (i := 17) (v := .bool true) rfl (.inl rfl) (ev_move v183.eval _ rfl) ?_
        exact ⟨⟨_, rfl⟩, bl, sz, b_B70, p_0, p_1, (so s_167), (so s_168), (so s_169), (so s_170), (so s_171), (so s_172), (so s_173), (so s_174), (so s_175), (so s_176), (so s_177), (so s_178), (so s_179), (fun h => (s_180 h).put (by decide) _), (fun h => (s_181 h).put (by decide) _), (so s_182), (so s_183), (fun _ => Sv.self (by rw [zq]; decide) _), (so s_185), (so s_186), (so s_187), (so s_188), (so s_189), (so s_190), (so s_191), (so s_192), (so s_193), (so s_194), (so s_195), (so s_196), (so s_197), (so s_198), (so s_199), (so s_200), (so s_201), (so s_202), (so s_203), (so s_204), (so s_205), (so s_206), (so s_207), (so s_208), (so s_209), (so s_210), (so s_211), (so s_212), (so s_213), (so s_214), (so s_215), (so s_0)⟩
      | 18, _ =>
        obtain rfl := Option.some.inj (show some _ = some o from ho); clear ho
        have v184 := s_184 (dp hdep 17)
        have v20 := hF.sv (s := 20) (by kernel_rfl) (hA404.get (i := 20) (v := .int .i64 (sta (ofS [1002, 0]) 0).2))
        refine dj_val (i := 18) (v := .int .i64 (sta (ofS [1002, 0]) 0).2) rfl (.inr ⟨17, true, 184, rfl, by kernel_rfl, v184⟩) (ev_move v20.eval _ rfl) ?_
        exact ⟨⟨_, rfl⟩, bl, sz, b_B70, p_0, p_1, (so s_167), (so s_168), (so s_169), (so s_170), (so s_171), (so s_172), (so s_173), (so s_174), (so s_175), (so s_176), (so s_177), (so s_178), (so s_179), (fun h => (s_180 h).put (by decide) _), (fun h => (s_181 h).put (by decide) _), (so s_182), (so s_183), (so s_184), (fun _ => Sv.self (by rw [zq]; decide) _), (so s_186), (so s_187), (so s_188), (so s_189), (so s_190), (so s_191), (so s_192), (so s_193), (so s_194), (so s_195), (so s_196), (so s_197), (so s_198), (so s_199), (so s_200), (so s_201), (so s_202), (so s_203), (so s_204), (so s_205), (so s_206), (so s_207), (so s_208), (so s_209), (so s_210), (so s_211), (so s_212), (so s_213), (so s_214), (so s_215), (so s_0)⟩
      | 19, _ =>
        obtain rfl := Option.some.inj (show some _ = some o from ho); clear ho
        have v184 := s_184 (dp hdep 17)
        have v185 := s_185 (dp hdep 18)
        refine dj_val (i := 19) (v := .bool true) rfl (.inr ⟨17, true, 184, rfl, by kernel_rfl, v184⟩) (ev_eqlB (k := .i64) (m := (sta (ofS [1002, 0]) 0).2) (n := 10) v185.eval (ec ac (.int .i64 10)) (by kernel_rfl) _ rfl) ?_
        exact ⟨⟨_, rfl⟩, bl, sz, b_B70, p_0, p_1, (so s_167), (so s_168), (so s_169), (so s_170), (so s_171), (so s_172), (so s_173), (so s_174), (so s_175), (so s_176), (so s_177), (so s_178), (so s_179), (fun h => (s_180 h).put (by decide) _), (fun h => (s_181 h).put (by decide) _), (so s_182), (so s_183), (so s_184), (so s_185), (fun _ => Sv.self (by rw [zq]; decide) _), (so s_187), (so s_188), (so s_189), (so s_190), (so s_191), (so s_192), (so s_193), (so s_194), (so s_195), (so s_196), (so s_197), (so s_198), (so s_199), (so s_200), (so s_201), (so s_202), (so s_203), (so s_204), (so s_205), (so s_206), (so s_207), (so s_208), (so s_209), (so s_210), (so s_211), (so s_212), (so s_213), (so s_214), (so s_215), (so s_0)⟩
      | 20, _ =>
        obtain rfl := Option.some.inj (show some _ = some o from ho); clear ho
        have v184 := s_184 (dp hdep 17)
        have v186 := s_186 (dp hdep 19)
        refine dj_val (i := 20) (v := .bool true) rfl (.inl rfl) (ev_pickT v184.eval v186.eval _ rfl) ?_
        exact ⟨⟨_, rfl⟩, bl, sz, b_B70, p_0, p_1, (so s_167), (so s_168), (so s_169), (so s_170), (so s_171), (so s_172), (so s_173), (so s_174), (so s_175), (so s_176), (so s_177), (so s_178), (so s_179), (fun h => (s_180 h).put (by decide) _), (fun h => (s_181 h).put (by decide) _), (so s_182), (so s_183), (so s_184), (so s_185), (so s_186), (fun _ => Sv.self (by rw [zq]; decide) _), (so s_188), (so s_189), (so s_190), (so s_191), (so s_192), (so s_193), (so s_194), (so s_195), (so s_196), (so s_197), (so s_198), (so s_199), (so s_200), (so s_201), (so s_202), (so s_203), (so s_204), (so s_205), (so s_206), (so s_207), (so s_208), (so s_209), (so s_210), (so s_211), (so s_212), (so s_213), (so s_214), (so s_215), (so s_0)⟩
      | 21, _ =>
        obtain rfl := Option.some.inj (show some _ = some o from ho); clear ho
        have v187 := s_187 (dp hdep 20)
        refine dj_val (i := 21) (v := .bool true) rfl (.inl rfl) (ev_move v187.eval _ rfl) ?_
        exact ⟨⟨_, rfl⟩, bl, sz, b_B70, p_0, p_1, (so s_167), (so s_168), (so s_169), (so s_170), (so s_171), (so s_172), (so s_173), (so s_174), (so s_175), (so s_176), (so s_177), (so s_178), (so s_179), (fun h => (s_180 h).put (by decide) _), (fun h => (s_181 h).put (by decide) _), (so s_182), (so s_183), (so s_184), (so s_185), (so s_186), (so s_187), (fun _ => Sv.self (by rw [zq]; decide) _), (so s_189), (so s_190), (so s_191), (so s_192), (so s_193), (so s_194), (so s_195), (so s_196), (so s_197), (so s_198), (so s_199), (so s_200), (so s_201), (so s_202), (so s_203), (so s_204), (so s_205), (so s_206), (so s_207), (so s_208), (so s_209), (so s_210), (so s_211), (so s_212), (so s_213), (so s_214), (so s_215), (so s_0)⟩
      | 22, _ =>
        obtain rfl := Option.some.inj (show some _ = some o from ho); clear ho
        have v188 := s_188 (dp hdep 21)
        have v22 := hF.sv (s := 22) (by kernel_rfl) (hA404.get (i := 22) (v := .int .i64 (sta (ofS [0, 0]) 0).2))
        refine dj_val (i := 22) (v := .int .i64 (sta (ofS [0, 0]) 0).2) rfl (.inr ⟨21, true, 188, rfl, by kernel_rfl, v188⟩) (ev_move v22.eval _ rfl) ?_
        exact ⟨⟨_, rfl⟩, bl, sz, b_B70, p_0, p_1, (so s_167), (so s_168), (so s_169), (so s_170), (so s_171), (so s_172), (so s_173), (so s_174), (so s_175), (so s_176), (so s_177), (so s_178), (so s_179), (fun h => (s_180 h).put (by decide) _), (fun h => (s_181 h).put (by decide) _), (so s_182), (so s_183), (so s_184), (so s_185), (so s_186), (so s_187), (so s_188), (fun _ => Sv.self (by rw [zq]; decide) _), (so s_190), (so s_191), (so s_192), (so s_193), (so s_194), (so s_195), (so s_196), (so s_197), (so s_198), (so s_199), (so s_200), (so s_201), (so s_202), (so s_203), (so s_204), (so s_205), (so s_206), (so s_207), (so s_208), (so s_209), (so s_210), (so s_211), (so s_212), (so s_213), (so s_214), (so s_215), (so s_0)⟩
      | 23, _ =>
        obtain rfl := Option.some.inj (show some _ = some o from ho); clear ho
        have v188 := s_188 (dp hdep 21)
        have v189 := s_189 (dp hdep 22)
        refine dj_val (i := 23) (v := .bool true) rfl (.inr ⟨21, true, 188, rfl, by kernel_rfl, v188⟩) (ev_eqlB (k := .i64) (m := (sta (ofS [0, 0]) 0).2) (n := 9) v189.eval (ec ac (.int .i64 9)) (by kernel_rfl) _ rfl) ?_
        exact ⟨⟨_, rfl⟩, bl, sz, b_B70, p_0, p_1, (so s_167), (so s_168), (so s_169), (so s_170), (so s_171), (so s_172), (so s_173), (so s_174), (so s_175), (so s_176), (so s_177), (so s_178), (so s_179), (fun h => (s_180 h).put (by decide) _), (fun h => (s_181 h).put (by decide) _), (so s_182), (so s_183), (so s_184), (so s_185), (so s_186), (so s_187), (so s_188), (so s_189), (fun _ => Sv.self (by rw [zq]; decide) _), (so s_191), (so s_192), (so s_193), (so s_194), (so s_195), (so s_196), (so s_197), (so s_198), (so s_199), (so s_200), (so s_201), (so s_202), (so s_203), (so s_204), (so s_205), (so s_206), (so s_207), (so s_208), (so s_209), (so s_210), (so s_211), (so s_212), (so s_213), (so s_214), (so s_215), (so s_0)⟩
      | 24, _ =>
        obtain rfl := Option.some.inj (show some _ = some o from ho); clear ho
        have v188 := s_188 (dp hdep 21)
        have v190 := s_190 (dp hdep 23)
        refine dj_val (i := 24) (v := .bool true) rfl (.inl rfl) (ev_pickT v188.eval v190.eval _ rfl) ?_
        exact ⟨⟨_, rfl⟩, bl, sz, b_B70, p_0, p_1, (so s_167), (so s_168), (so s_169), (so s_170), (so s_171), (so s_172), (so s_173), (so s_174), (so s_175), (so s_176), (so s_177), (so s_178), (so s_179), (fun h => (s_180 h).put (by decide) _), (fun h => (s_181 h).put (by decide) _), (so s_182), (so s_183), (so s_184), (so s_185), (so s_186), (so s_187), (so s_188), (so s_189), (so s_190), (fun _ => Sv.self (by rw [zq]; decide) _), (so s_192), (so s_193), (so s_194), (so s_195), (so s_196), (so s_197), (so s_198), (so s_199), (so s_200), (so s_201), (so s_202), (so s_203), (so s_204), (so s_205), (so s_206), (so s_207), (so s_208), (so s_209), (so s_210), (so s_211), (so s_212), (so s_213), (so s_214), (so s_215), (so s_0)⟩
      | 25, _ =>
        obtain rfl := Option.some.inj (show some _ = some o from ho); clear ho
        have v191 := s_191 (dp hdep 24)
        refine dj_val (i := 25) (v := .bool true) rfl (.inl rfl) (ev_move v191.eval _ rfl) ?_
        exact ⟨⟨_, rfl⟩, bl, sz, b_B70, p_0, p_1, (so s_167), (so s_168), (so s_169), (so s_170), (so s_171), (so s_172), (so s_173), (so s_174), (so s_175), (so s_176), (so s_177), (so s_178), (so s_179), (fun h => (s_180 h).put (by decide) _), (fun h => (s_181 h).put (by decide) _), (so s_182), (so s_183), (so s_184), (so s_185), (so s_186), (so s_187), (so s_188), (so s_189), (so s_190), (so s_191), (fun _ => Sv.self (by rw [zq]; decide) _), (so s_193), (so s_194), (so s_195), (so s_196), (so s_197), (so s_198), (so s_199), (so s_200), (so s_201), (so s_202), (so s_203), (so s_204), (so s_205), (so s_206), (so s_207), (so s_208), (so s_209), (so s_210), (so s_211), (so s_212), (so s_213), (so s_214), (so s_215), (so s_0)⟩
      | 26, _ =>
        obtain rfl := Option.some.inj (show some _ = some o from ho); clear ho
        have v192 := s_192 (dp hdep 25)
        have v24 := hF.sv (s := 24) (by kernel_rfl) (hA404.get (i := 24) (v := .int .i64 (frst (ofS [1002, 0, 1])).2))
        refine dj_val (i := 26) (v := .int .i64 (frst (ofS [1002, 0, 1])).2) rfl (.inr ⟨25, true, 192, rfl, by kernel_rfl, v192⟩) (ev_move v24.eval _ rfl) ?_
        exact ⟨⟨_, rfl⟩, bl, sz, b_B70, p_0, p_1, (so s_167), (so s_168), (so s_169), (so s_170), (so s_171), (so s_172), (so s_173), (so s_174), (so s_175), (so s_176), (so s_177), (so s_178), (so s_179), (fun h => (s_180 h).put (by decide) _), (fun h => (s_181 h).put (by decide) _), (so s_182), (so s_183), (so s_184), (so s_185), (so s_186), (so s_187), (so s_188), (so s_189), (so s_190), (so s_191), (so s_192), (fun _ => Sv.self (by rw [zq]; decide) _), (so s_194), (so s_195), (so s_196), (so s_197), (so s_198), (so s_199), (so s_200), (so s_201), (so s_202), (so s_203), (so s_204), (so s_205), (so s_206), (so s_207), (so s_208), (so s_209), (so s_210), (so s_211), (so s_212), (so s_213), (so s_214), (so s_215), (so s_0)⟩
      | 27, _ =>
        obtain rfl := Option.some.inj (show some _ = some o from ho); clear ho
        have v192 := s_192 (dp hdep 25)
        have v193 := s_193 (dp hdep 26)
        refine dj_val (i := 27) (v := .bool true) rfl (.inr ⟨25, true, 192, rfl, by kernel_rfl, v192⟩) (ev_eqlB (k := .i64) (m := (frst (ofS [1002, 0, 1])).2) (n := 0) v193.eval (ec ac (.int .i64 0)) (by kernel_rfl) _ rfl) ?_
        exact ⟨⟨_, rfl⟩, bl, sz, b_B70, p_0, p_1, (so s_167), (so s_168), (so s_169), (so s_170), (so s_171), (so s_172), (so s_173), (so s_174), (so s_175), (so s_176), (so s_177), (so s_178), (so s_179), (fun h => (s_180 h).put (by decide) _), (fun h => (s_181 h).put (by decide) _), (so s_182), (so s_183), (so s_184), (so s_185), (so s_186), (so s_187), (so s_188), (so s_189), (so s_190), (so s_191), (so s_192), (so s_193), (fun _ => Sv.self (by rw [zq]; decide) _), (so s_195), (so s_196), (so s_197), (so s_198), (so s_199), (so s_200), (so s_201), (so s_202), (so s_203), (so s_204), (so s_205), (so s_206), (so s_207), (so s_208), (so s_209), (so s_210), (so s_211), (so s_212), (so s_213), (so s_214), (so s_215), (so s_0)⟩
      | 28, _ =>
        obtain rfl := Option.some.inj (show some _ = some o from ho); clear ho
        have v192 := s_192 (dp hdep 25)
        have v194 := s_194 (dp hdep 27)
        refine dj_val (i := 28) (v := .bool true) rfl (.inl rfl) (ev_pickT v192.eval v194.eval _ rfl) ?_
        exact ⟨⟨_, rfl⟩, bl, sz, b_B70, p_0, p_1, (so s_167), (so s_168), (so s_169), (so s_170), (so s_171), (so s_172), (so s_173), (so s_174), (so s_175), (so s_176), (so s_177), (so s_178), (so s_179), (fun h => (s_180 h).put (by decide) _), (fun h => (s_181 h).put (by decide) _), (so s_182), (so s_183), (so s_184), (so s_185), (so s_186), (so s_187), (so s_188), (so s_189), (so s_190), (so s_191), (so s_192), (so s_193), (so s_194), (fun _ => Sv.self (by rw [zq]; decide) _), (so s_196), (so s_197), (so s_198), (so s_199), (so s_200), (so s_201), (so s_202), (so s_203), (so s_204), (so s_205), (so s_206), (so s_207), (so s_208), (so s_209), (so s_210), (so s_211), (so s_212), (so s_213), (so s_214), (so s_215), (so s_0)⟩
      | 29, _ =>
        obtain rfl := Option.some.inj (show some _ = some o from ho); clear ho
        have v195 := s_195 (dp hdep 28)
        refine dj_val (i := 29) (v := .bool true) rfl (.inl rfl) (ev_move v195.eval _ rfl) ?_
        exact ⟨⟨_, rfl⟩, bl, sz, b_B70, p_0, p_1, (so s_167), (so s_168), (so s_169), (so s_170), (so s_171), (so s_172), (so s_173), (so s_174), (so s_175), (so s_176), (so s_177), (so s_178), (so s_179), (fun h => (s_180 h).put (by decide) _), (fun h => (s_181 h).put (by decide) _), (so s_182), (so s_183), (so s_184), (so s_185), (so s_186), (so s_187), (so s_188), (so s_189), (so s_190), (so s_191), (so s_192), (so s_193), (so s_194), (so s_195), (fun _ => Sv.self (by rw [zq]; decide) _), (so s_197), (so s_198), (so s_199), (so s_200), (so s_201), (so s_202), (so s_203), (so s_204), (so s_205), (so s_206), (so s_207), (so s_208), (so s_209), (so s_210), (so s_211), (so s_212), (so s_213), (so s_214), (so s_215), (so s_0)⟩
      | 30, _ =>
        obtain rfl := Option.some.inj (show some _ = some o from ho); clear ho
        have v196 := s_196 (dp hdep 29)
        have v23 := hF.sv (s := 23) (by kernel_rfl) (hA404.get (i := 23) (v := .int .i64 (frst (ofS [1002, 0, 1])).1))
        refine dj_val (i := 30) (v := .int .i64 (frst (ofS [1002, 0, 1])).1) rfl (.inr ⟨29, true, 196, rfl, by kernel_rfl, v196⟩) (ev_move v23.eval _ rfl) ?_
        exact ⟨⟨_, rfl⟩, bl, sz, b_B70, p_0, p_1, (so s_167), (so s_168), (so s_169), (so s_170), (so s_171), (so s_172), (so s_173), (so s_174), (so s_175), (so s_176), (so s_177), (so s_178), (so s_179), (fun h => (s_180 h).put (by decide) _), (fun h => (s_181 h).put (by decide) _), (so s_182), (so s_183), (so s_184), (so s_185), (so s_186), (so s_187), (so s_188), (so s_189), (so s_190), (so s_191), (so s_192), (so s_193), (so s_194), (so s_195), (so s_196), (fun _ => Sv.self (by rw [zq]; decide) _), (so s_198), (so s_199), (so s_200), (so s_201), (so s_202), (so s_203), (so s_204), (so s_205), (so s_206), (so s_207), (so s_208), (so s_209), (so s_210), (so s_211), (so s_212), (so s_213), (so s_214), (so s_215), (so s_0)⟩
      | 31, _ =>
        obtain rfl := Option.some.inj (show some _ = some o from ho); clear ho
        have v196 := s_196 (dp hdep 29)
        have v197 := s_197 (dp hdep 30)
        refine dj_val (i := 31) (v := .bool true) rfl (.inr ⟨29, true, 196, rfl, by kernel_rfl, v196⟩) (ev_eqlB (k := .i64) (m := (frst (ofS [1002, 0, 1])).1) (n := 1) v197.eval (ec ac (.int .i64 1)) (by kernel_rfl) _ rfl) ?_
        exact ⟨⟨_, rfl⟩, bl, sz, b_B70, p_0, p_1, (so s_167), (so s_168), (so s_169), (so s_170), (so s_171), (so s_172), (so s_173), (so s_174), (so s_175), (so s_176), (so s_177), (so s_178), (so s_179), (fun h => (s_180 h).put (by decide) _), (fun h => (s_181 h).put (by decide) _), (so s_182), (so s_183), (so s_184), (so s_185), (so s_186), (so s_187), (so s_188), (so s_189), (so s_190), (so s_191), (so s_192), (so s_193), (so s_194), (so s_195), (so s_196), (so s_197), (fun _ => Sv.self (by rw [zq]; decide) _), (so s_199), (so s_200), (so s_201), (so s_202), (so s_203), (so s_204), (so s_205), (so s_206), (so s_207), (so s_208), (so s_209), (so s_210), (so s_211), (so s_212), (so s_213), (so s_214), (so s_215), (so s_0)⟩
      | 32, _ =>
        obtain rfl := Option.some.inj (show some _ = some o from ho); clear ho
        have v196 := s_196 (dp hdep 29)
        have v198 := s_198 (dp hdep 31)
        refine dj_val (i := 32) (v := .bool true) rfl (.inl rfl) (ev_pickT v196.eval v198.eval _ rfl) ?_
        exact ⟨⟨_, rfl⟩, bl, sz, b_B70, p_0, p_1, (so s_167), (so s_168), (so s_169), (so s_170), (so s_171), (so s_172), (so s_173), (so s_174), (so s_175), (so s_176), (so s_177), (so s_178), (so s_179), (fun h => (s_180 h).put (by decide) _), (fun h => (s_181 h).put (by decide) _), (so s_182), (so s_183), (so s_184), (so s_185), (so s_186), (so s_187), (so s_188), (so s_189), (so s_190), (so s_191), (so s_192), (so s_193), (so s_194), (so s_195), (so s_196), (so s_197), (so s_198), (fun _ => Sv.self (by rw [zq]; decide) _), (so s_200), (so s_201), (so s_202), (so s_203), (so s_204), (so s_205), (so s_206), (so s_207), (so s_208), (so s_209), (so s_210), (so s_211), (so s_212), (so s_213), (so s_214), (so s_215), (so s_0)⟩
      | 33, _ =>
        obtain rfl := Option.some.inj (show some _ = some o from ho); clear ho
        have v199 := s_199 (dp hdep 32)
        refine dj_val (i := 33) (v := .bool true) rfl (.inl rfl) (ev_move v199.eval _ rfl) ?_
        exact ⟨⟨_, rfl⟩, bl, sz, b_B70, p_0, p_1, (so s_167), (so s_168), (so s_169), (so s_170), (so s_171), (so s_172), (so s_173), (so s_174), (so s_175), (so s_176), (so s_177), (so s_178), (so s_179), (fun h => (s_180 h).put (by decide) _), (fun h => (s_181 h).put (by decide) _), (so s_182), (so s_183), (so s_184), (so s_185), (so s_186), (so s_187), (so s_188), (so s_189), (so s_190), (so s_191), (so s_192), (so s_193), (so s_194), (so s_195), (so s_196), (so s_197), (so s_198), (so s_199), (fun _ => Sv.self (by rw [zq]; decide) _), (so s_201), (so s_202), (so s_203), (so s_204), (so s_205), (so s_206), (so s_207), (so s_208), (so s_209), (so s_210), (so s_211), (so s_212), (so s_213), (so s_214), (so s_215), (so s_0)⟩
      | 34, _ =>
        obtain rfl := Option.some.inj (show some _ = some o from ho); clear ho
        have v200 := s_200 (dp hdep 33)
        have v26 := hF.sv (s := 26) (by kernel_rfl) (hA404.get (i := 26) (v := .int .i64 (frst (ofS [1002, 1])).2))
        refine dj_val (i := 34) (v := .int .i64 (frst (ofS [1002, 1])).2) rfl (.inr ⟨33, true, 200, rfl, by kernel_rfl, v200⟩) (ev_move v26.eval _ rfl) ?_
        exact ⟨⟨_, rfl⟩, bl, sz, b_B70, p_0, p_1, (so s_167), (so s_168), (so s_169), (so s_170), (so s_171), (so s_172), (so s_173), (so s_174), (so s_175), (so s_176), (so s_177), (so s_178), (so s_179), (fun h => (s_180 h).put (by decide) _), (fun h => (s_181 h).put (by decide) _), (so s_182), (so s_183), (so s_184), (so s_185), (so s_186), (so s_187), (so s_188), (so s_189), (so s_190), (so s_191), (so s_192), (so s_193), (so s_194), (so s_195), (so s_196), (so s_197), (so s_198), (so s_199), (so s_200), (fun _ => Sv.self (by rw [zq]; decide) _), (so s_202), (so s_203), (so s_204), (so s_205), (so s_206), (so s_207), (so s_208), (so s_209), (so s_210), (so s_211), (so s_212), (so s_213), (so s_214), (so s_215), (so s_0)⟩
      | 35, _ =>
        obtain rfl := Option.some.inj (show some _ = some o from ho); clear ho
        have v200 := s_200 (dp hdep 33)
        have v201 := s_201 (dp hdep 34)
        refine dj_val (i := 35) (v := .bool true) rfl (.inr ⟨33, true, 200, rfl, by kernel_rfl, v200⟩) (ev_eqlB (k := .i64) (m := (frst (ofS [1002, 1])).2) (n := 5) v201.eval (ec ac (.int .i64 5)) (by kernel_rfl) _ rfl) ?_
        exact ⟨⟨_, rfl⟩, bl, sz, b_B70, p_0, p_1, (so s_167), (so s_168), (so s_169), (so s_170), (so s_171), (so s_172), (so s_173), (so s_174), (so s_175), (so s_176), (so s_177), (so s_178), (so s_179), (fun h => (s_180 h).put (by decide) _), (fun h => (s_181 h).put (by decide) _), (so s_182), (so s_183), (so s_184), (so s_185), (so s_186), (so s_187), (so s_188), (so s_189), (so s_190), (so s_191), (so s_192), (so s_193), (so s_194), (so s_195), (so s_196), (so s_197), (so s_198), (so s_199), (so s_200), (so s_201), (fun _ => Sv.self (by rw [zq]; decide) _), (so s_203), (so s_204), (so s_205), (so s_206), (so s_207), (so s_208), (so s_209), (so s_210), (so s_211), (so s_212), (so s_213), (so s_214), (so s_215), (so s_0)⟩
      | 36, _ =>
        obtain rfl := Option.some.inj (show some _ = some o from ho); clear ho
        have v200 := s_200 (dp hdep 33)
        have v202 := s_202 (dp hdep 35)
        refine dj_val (i := 36) (v := .bool true) rfl (.inl rfl) (ev_pickT v200.eval v202.eval _ rfl) ?_
        exact ⟨⟨_, rfl⟩, bl, sz, b_B70, p_0, p_1, (so s_167), (so s_168), (so s_169), (so s_170), (so s_171), (so s_172), (so s_173), (so s_174), (so s_175), (so s_176), (so s_177), (so s_178), (so s_179), (fun h => (s_180 h).put (by decide) _), (fun h => (s_181 h).put (by decide) _), (so s_182), (so s_183), (so s_184), (so s_185), (so s_186), (so s_187), (so s_188), (so s_189), (so s_190), (so s_191), (so s_192), (so s_193), (so s_194), (so s_195), (so s_196), (so s_197), (so s_198), (so s_199), (so s_200), (so s_201), (so s_202), (fun _ => Sv.self (by rw [zq]; decide) _), (so s_204), (so s_205), (so s_206), (so s_207), (so s_208), (so s_209), (so s_210), (so s_211), (so s_212), (so s_213), (so s_214), (so s_215), (so s_0)⟩
      | 37, _ =>
        obtain rfl := Option.some.inj (show some _ = some o from ho); clear ho
        have v203 := s_203 (dp hdep 36)
        refine dj_val (i := 37) (v := .bool true) rfl (.inl rfl) (ev_move v203.eval _ rfl) ?_
        exact ⟨⟨_, rfl⟩, bl, sz, b_B70, p_0, p_1, (so s_167), (so s_168), (so s_169), (so s_170), (so s_171), (so s_172), (so s_173), (so s_174), (so s_175), (so s_176), (so s_177), (so s_178), (so s_179), (fun h => (s_180 h).put (by decide) _), (fun h => (s_181 h).put (by decide) _), (so s_182), (so s_183), (so s_184), (so s_185), (so s_186), (so s_187), (so s_188), (so s_189), (so s_190), (so s_191), (so s_192), (so s_193), (so s_194), (so s_195), (so s_196), (so s_197), (so s_198), (so s_199), (so s_200), (so s_201), (so s_202), (so s_203), (fun _ => Sv.self (by rw [zq]; decide) _), (so s_205), (so s_206), (so s_207), (so s_208), (so s_209), (so s_210), (so s_211), (so s_212), (so s_213), (so s_214), (so s_215), (so s_0)⟩
      | 38, _ =>
        obtain rfl := Option.some.inj (show some _ = some o from ho); clear ho
        have v204 := s_204 (dp hdep 37)
        have v28 := hF.sv (s := 28) (by kernel_rfl) (hA404.get (i := 28) (v := .int .i64 (nws 0).2))
        refine dj_val (i := 38) (v := .int .i64 (nws 0).2) rfl (.inr ⟨37, true, 204, rfl, by kernel_rfl, v204⟩) (ev_move v28.eval _ rfl) ?_
        exact ⟨⟨_, rfl⟩, bl, sz, b_B70, p_0, p_1, (so s_167), (so s_168), (so s_169), (so s_170), (so s_171), (so s_172), (so s_173), (so s_174), (so s_175), (so s_176), (so s_177), (so s_178), (so s_179), (fun h => (s_180 h).put (by decide) _), (fun h => (s_181 h).put (by decide) _), (so s_182), (so s_183), (so s_184), (so s_185), (so s_186), (so s_187), (so s_188), (so s_189), (so s_190), (so s_191), (so s_192), (so s_193), (so s_194), (so s_195), (so s_196), (so s_197), (so s_198), (so s_199), (so s_200), (so s_201), (so s_202), (so s_203), (so s_204), (fun _ => Sv.self (by rw [zq]; decide) _), (so s_206), (so s_207), (so s_208), (so s_209), (so s_210), (so s_211), (so s_212), (so s_213), (so s_214), (so s_215), (so s_0)⟩
      | 39, _ =>
        obtain rfl := Option.some.inj (show some _ = some o from ho); clear ho
        have v204 := s_204 (dp hdep 37)
        have v205 := s_205 (dp hdep 38)
        refine dj_val (i := 39) (v := .bool true) rfl (.inr ⟨37, true, 204, rfl, by kernel_rfl, v204⟩) (ev_eqlB (k := .i64) (m := (nws 0).2) (n := 2) v205.eval (ec ac (.int .i64 2)) (by kernel_rfl) _ rfl) ?_
        exact ⟨⟨_, rfl⟩, bl, sz, b_B70, p_0, p_1, (so s_167), (so s_168), (so s_169), (so s_170), (so s_171), (so s_172), (so s_173), (so s_174), (so s_175), (so s_176), (so s_177), (so s_178), (so s_179), (fun h => (s_180 h).put (by decide) _), (fun h => (s_181 h).put (by decide) _), (so s_182), (so s_183), (so s_184), (so s_185), (so s_186), (so s_187), (so s_188), (so s_189), (so s_190), (so s_191), (so s_192), (so s_193), (so s_194), (so s_195), (so s_196), (so s_197), (so s_198), (so s_199), (so s_200), (so s_201), (so s_202), (so s_203), (so s_204), (so s_205), (fun _ => Sv.self (by rw [zq]; decide) _), (so s_207), (so s_208), (so s_209), (so s_210), (so s_211), (so s_212), (so s_213), (so s_214), (so s_215), (so s_0)⟩
      | 40, _ =>
        obtain rfl := Option.some.inj (show some _ = some o from ho); clear ho
        have v204 := s_204 (dp hdep 37)
        have v206 := s_206 (dp hdep 39)
        refine dj_val (i := 40) (v := .bool true) rfl (.inl rfl) (ev_pickT v204.eval v206.eval _ rfl) ?_
        exact ⟨⟨_, rfl⟩, bl, sz, b_B70, p_0, p_1, (so s_167), (so s_168), (so s_169), (so s_170), (so s_171), (so s_172), (so s_173), (so s_174), (so s_175), (so s_176), (so s_177), (so s_178), (so s_179), (fun h => (s_180 h).put (by decide) _), (fun h => (s_181 h).put (by decide) _), (so s_182), (so s_183), (so s_184), (so s_185), (so s_186), (so s_187), (so s_188), (so s_189), (so s_190), (so s_191), (so s_192), (so s_193), (so s_194), (so s_195), (so s_196), (so s_197), (so s_198), (so s_199), (so s_200), (so s_201), (so s_202), (so s_203), (so s_204), (so s_205), (so s_206), (fun _ => Sv.self (by rw [zq]; decide) _), (so s_208), (so s_209), (so s_210), (so s_211), (so s_212), (so s_213), (so s_214), (so s_215), (so s_0)⟩
      | 41, _ =>
        obtain rfl := Option.some.inj (show some _ = some o from ho); clear ho
        have v207 := s_207 (dp hdep 40)
        refine dj_val (i := 41) (v := .bool true) rfl (.inl rfl) (ev_move v207.eval _ rfl) ?_
        exact ⟨⟨_, rfl⟩, bl, sz, b_B70, p_0, p_1, (so s_167), (so s_168), (so s_169), (so s_170), (so s_171), (so s_172), (so s_173), (so s_174), (so s_175), (so s_176), (so s_177), (so s_178), (so s_179), (fun h => (s_180 h).put (by decide) _), (fun h => (s_181 h).put (by decide) _), (so s_182), (so s_183), (so s_184), (so s_185), (so s_186), (so s_187), (so s_188), (so s_189), (so s_190), (so s_191), (so s_192), (so s_193), (so s_194), (so s_195), (so s_196), (so s_197), (so s_198), (so s_199), (so s_200), (so s_201), (so s_202), (so s_203), (so s_204), (so s_205), (so s_206), (so s_207), (fun _ => Sv.self (by rw [zq]; decide) _), (so s_209), (so s_210), (so s_211), (so s_212), (so s_213), (so s_214), (so s_215), (so s_0)⟩
      | 42, _ =>
        obtain rfl := Option.some.inj (show some _ = some o from ho); clear ho
        have v208 := s_208 (dp hdep 41)
        have v29 := hF.sv (s := 29) (by kernel_rfl) (hA404.get (i := 29) (v := .int .i64 (chs (ofS [513])).1))
        refine dj_val (i := 42) (v := .int .i64 (chs (ofS [513])).1) rfl (.inr ⟨41, true, 208, rfl, by kernel_rfl, v208⟩) (ev_move v29.eval _ rfl) ?_
        exact ⟨⟨_, rfl⟩, bl, sz, b_B70, p_0, p_1, (so s_167), (so s_168), (so s_169), (so s_170), (so s_171), (so s_172), (so s_173), (so s_174), (so s_175), (so s_176), (so s_177), (so s_178), (so s_179), (fun h => (s_180 h).put (by decide) _), (fun h => (s_181 h).put (by decide) _), (so s_182), (so s_183), (so s_184), (so s_185), (so s_186), (so s_187), (so s_188), (so s_189), (so s_190), (so s_191), (so s_192), (so s_193), (so s_194), (so s_195), (so s_196), (so s_197), (so s_198), (so s_199), (so s_200), (so s_201), (so s_202), (so s_203), (so s_204), (so s_205), (so s_206), (so s_207), (so s_208), (fun _ => Sv.self (by rw [zq]; decide) _), (so s_210), (so s_211), (so s_212), (so s_213), (so s_214), (so s_215), (so s_0)⟩
      | 43, _ =>
        obtain rfl := Option.some.inj (show some _ = some o from ho); clear ho
        have v208 := s_208 (dp hdep 41)
        have v209 := s_209 (dp hdep 42)
        refine dj_val (i := 43) (v := .bool true) rfl (.inr ⟨41, true, 208, rfl, by kernel_rfl, v208⟩) (ev_eqlB (k := .i64) (m := (chs (ofS [513])).1) (n := 15) v209.eval (ec ac (.int .i64 15)) (by kernel_rfl) _ rfl) ?_
        exact ⟨⟨_, rfl⟩, bl, sz, b_B70, p_0, p_1, (so s_167), (so s_168), (so s_169), (so s_170), (so s_171), (so s_172), (so s_173), (so s_174), (so s_175), (so s_176), (so s_177), (so s_178), (so s_179), (fun h => (s_180 h).put (by decide) _), (fun h => (s_181 h).put (by decide) _), (so s_182), (so s_183), (so s_184), (so s_185), (so s_186), (so s_187), (so s_188), (so s_189), (so s_190), (so s_191), (so s_192), (so s_193), (so s_194), (so s_195), (so s_196), (so s_197), (so s_198), (so s_199), (so s_200), (so s_201), (so s_202), (so s_203), (so s_204), (so s_205), (so s_206), (so s_207), (so s_208), (so s_209), (fun _ => Sv.self (by rw [zq]; decide) _), (so s_211), (so s_212), (so s_213), (so s_214), (so s_215), (so s_0)⟩
      | 44, _ =>
        obtain rfl := Option.some.inj (show some _ = some o from ho); clear ho
        have v208 := s_208 (dp hdep 41)
        have v210 := s_210 (dp hdep 43)
        refine dj_val (i := 44) (v := .bool true) rfl (.inl rfl) (ev_pickT v208.eval v210.eval _ rfl) ?_
        exact ⟨⟨_, rfl⟩, bl, sz, b_B70, p_0, p_1, (so s_167), (so s_168), (so s_169), (so s_170), (so s_171), (so s_172), (so s_173), (so s_174), (so s_175), (so s_176), (so s_177), (so s_178), (so s_179), (fun h => (s_180 h).put (by decide) _), (fun h => (s_181 h).put (by decide) _), (so s_182), (so s_183), (so s_184), (so s_185), (so s_186), (so s_187), (so s_188), (so s_189), (so s_190), (so s_191), (so s_192), (so s_193), (so s_194), (so s_195), (so s_196), (so s_197), (so s_198), (so s_199), (so s_200), (so s_201), (so s_202), (so s_203), (so s_204), (so s_205), (so s_206), (so s_207), (so s_208), (so s_209), (so s_210), (fun _ => Sv.self (by rw [zq]; decide) _), (so s_212), (so s_213), (so s_214), (so s_215), (so s_0)⟩
      | 45, _ =>
        obtain rfl := Option.some.inj (show some _ = some o from ho); clear ho
        have v211 := s_211 (dp hdep 44)
        refine dj_val (i := 45) (v := .bool true) rfl (.inl rfl) (ev_move v211.eval _ rfl) ?_
        exact ⟨⟨_, rfl⟩, bl, sz, b_B70, p_0, p_1, (so s_167), (so s_168), (so s_169), (so s_170), (so s_171), (so s_172), (so s_173), (so s_174), (so s_175), (so s_176), (so s_177), (so s_178), (so s_179), (fun h => (s_180 h).put (by decide) _), (fun h => (s_181 h).put (by decide) _), (so s_182), (so s_183), (so s_184), (so s_185), (so s_186), (so s_187), (so s_188), (so s_189), (so s_190), (so s_191), (so s_192), (so s_193), (so s_194), (so s_195), (so s_196), (so s_197), (so s_198), (so s_199), (so s_200), (so s_201), (so s_202), (so s_203), (so s_204), (so s_205), (so s_206), (so s_207), (so s_208), (so s_209), (so s_210), (so s_211), (fun _ => Sv.self (by rw [zq]; decide) _), (so s_213), (so s_214), (so s_215), (so s_0)⟩
      | 46, _ =>
        obtain rfl := Option.some.inj (show some _ = some o from ho); clear ho
        have v212 := s_212 (dp hdep 45)
        have v30 := hF.sv (s := 30) (by kernel_rfl) (hA404.get (i := 30) (v := .int .i64 (chs (ofS [513])).2))
        refine dj_val (i := 46) (v := .int .i64 (chs (ofS [513])).2) rfl (.inr ⟨45, true, 212, rfl, by kernel_rfl, v212⟩) (ev_move v30.eval _ rfl) ?_
        exact ⟨⟨_, rfl⟩, bl, sz, b_B70, p_0, p_1, (so s_167), (so s_168), (so s_169), (so s_170), (so s_171), (so s_172), (so s_173), (so s_174), (so s_175), (so s_176), (so s_177), (so s_178), (so s_179), (fun h => (s_180 h).put (by decide) _), (fun h => (s_181 h).put (by decide) _), (so s_182), (so s_183), (so s_184), (so s_185), (so s_186), (so s_187), (so s_188), (so s_189), (so s_190), (so s_191), (so s_192), (so s_193), (so s_194), (so s_195), (so s_196), (so s_197), (so s_198), (so s_199), (so s_200), (so s_201), (so s_202), (so s_203), (so s_204), (so s_205), (so s_206), (so s_207), (so s_208), (so s_209), (so s_210), (so s_211), (so s_212), (fun _ => Sv.self (by rw [zq]; decide) _), (so s_214), (so s_215), (so s_0)⟩
      | 47, _ =>
        obtain rfl := Option.some.inj (show some _ = some o from ho); clear ho
        have v212 := s_212 (dp hdep 45)
        have v213 := s_213 (dp hdep 46)
        refine dj_val (i := 47) (v := .bool true) rfl (.inr ⟨45, true, 212, rfl, by kernel_rfl, v212⟩) (ev_eqlB (k := .i64) (m := (chs (ofS [513])).2) (n := 0) v213.eval (ec ac (.int .i64 0)) (by kernel_rfl) _ rfl) ?_
        exact ⟨⟨_, rfl⟩, bl, sz, b_B70, p_0, p_1, (so s_167), (so s_168), (so s_169), (so s_170), (so s_171), (so s_172), (so s_173), (so s_174), (so s_175), (so s_176), (so s_177), (so s_178), (so s_179), (fun h => (s_180 h).put (by decide) _), (fun h => (s_181 h).put (by decide) _), (so s_182), (so s_183), (so s_184), (so s_185), (so s_186), (so s_187), (so s_188), (so s_189), (so s_190), (so s_191), (so s_192), (so s_193), (so s_194), (so s_195), (so s_196), (so s_197), (so s_198), (so s_199), (so s_200), (so s_201), (so s_202), (so s_203), (so s_204), (so s_205), (so s_206), (so s_207), (so s_208), (so s_209), (so s_210), (so s_211), (so s_212), (so s_213), (fun _ => Sv.self (by rw [zq]; decide) _), (so s_215), (so s_0)⟩
      | 48, _ =>
        obtain rfl := Option.some.inj (show some _ = some o from ho); clear ho
        have v212 := s_212 (dp hdep 45)
        have v214 := s_214 (dp hdep 47)
        refine dj_val (i := 48) (v := .bool true) rfl (.inl rfl) (ev_pickT v212.eval v214.eval _ rfl) ?_
        exact ⟨⟨_, rfl⟩, bl, sz, b_B70, p_0, p_1, (so s_167), (so s_168), (so s_169), (so s_170), (so s_171), (so s_172), (so s_173), (so s_174), (so s_175), (so s_176), (so s_177), (so s_178), (so s_179), (fun h => (s_180 h).put (by decide) _), (fun h => (s_181 h).put (by decide) _), (so s_182), (so s_183), (so s_184), (so s_185), (so s_186), (so s_187), (so s_188), (so s_189), (so s_190), (so s_191), (so s_192), (so s_193), (so s_194), (so s_195), (so s_196), (so s_197), (so s_198), (so s_199), (so s_200), (so s_201), (so s_202), (so s_203), (so s_204), (so s_205), (so s_206), (so s_207), (so s_208), (so s_209), (so s_210), (so s_211), (so s_212), (so s_213), (so s_214), (fun _ => Sv.self (by rw [zq]; decide) _), (so s_0)⟩
      | 49, _ =>
        obtain rfl := Option.some.inj (show some _ = some o from ho); clear ho
        have v215 := s_215 (dp hdep 48)
        refine dj_val (i := 49) (v := .bool true) rfl (.inl rfl) (ev_assign v215.eval _ rfl) ?_
        exact ⟨⟨_, rfl⟩, bl, sz, b_B70, p_0, p_1, (so s_167), (so s_168), (so s_169), (so s_170), (so s_171), (so s_172), (so s_173), (so s_174), (so s_175), (so s_176), (so s_177), (so s_178), (so s_179), (fun h => (s_180 h).put (by decide) _), (fun h => (s_181 h).put (by decide) _), (so s_182), (so s_183), (so s_184), (so s_185), (so s_186), (so s_187), (so s_188), (so s_189), (so s_190), (so s_191), (so s_192), (so s_193), (so s_194), (so s_195), (so s_196), (so s_197), (so s_198), (so s_199), (so s_200), (so s_201), (so s_202), (so s_203), (so s_204), (so s_205), (so s_206), (so s_207), (so s_208), (so s_209), (so s_210), (so s_211), (so s_212), (so s_213), (so s_214), (so s_215), (fun _ => Sv.self (by rw [zq]; decide) _)⟩
      | k + 50, h => exact absurd h (by omega)
    · intro L hall ac465 wc465 hF hJ
      obtain ⟨bl, sz, b_B70, p_0, p_1, s_167, s_168, s_169, s_170, s_171, s_172, s_173, s_174, s_175, s_176, s_177, s_178, s_179, s_180, s_181, s_182, s_183, s_184, s_185, s_186, s_187, s_188, s_189, s_190, s_191, s_192, s_193, s_194, s_195, s_196, s_197, s_198, s_199, s_200, s_201, s_202, s_203, s_204, s_205, s_206, s_207, s_208, s_209, s_210, s_211, s_212, s_213, s_214, s_215, s_0⟩ := hJ
      have hA465 : Ag ac465 216 [(0, .bool true)] := ((Ag.nil (hF.1.trans hA404.1) (hF.2.1.trans hA404.2.1)).cons (s_0 (hall 49 (by decide))))
      have bl465 := bl
      have sz465 := sz
      have b465_B70 := b_B70
      have p465_0 := p_0
      have p465_1 := p_1
      clear hF bl sz b_B70 p_0 p_1 s_167 s_168 s_169 s_170 s_171 s_172 s_173 s_174 s_175 s_176 s_177 s_178 s_179 s_180 s_181 s_182 s_183 s_184 s_185 s_186 s_187 s_188 s_189 s_190 s_191 s_192 s_193 s_194 s_195 s_196 s_197 s_198 s_199 s_200 s_201 s_202 s_203 s_204 s_205 s_206 s_207 s_208 s_209 s_210 s_211 s_212 s_213 s_214 s_215 s_0 hall hA404
      refine then_n ?_
      refine wp_ret ?_
      refine bodyPost_ret (rs_t (v := .bool true) Try.results5 hA465 (by kernel_rfl) ) hA465.2.1 ?_
      exact ⟨rfl, bl465⟩
end Go.Proofs.Ytpoilgfblhacaaa
