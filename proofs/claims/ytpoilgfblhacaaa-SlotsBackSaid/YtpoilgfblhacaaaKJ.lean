/- The law: awake. -/
import Derived.Test.YtpoilgfblhacaaaKI
namespace Go.Proofs.Ytpoilgfblhacaaa
open Go.RowKit
set_option linter.unusedVariables false
set_option linter.unusedSimpArgs false
set_option maxRecDepth 100000

/-- A slice literal of the call's own in a slot. -/
def PkB (ac : Act) (w : World) (base d : Nat) (l : List Int) (n : Nat) : Prop := ∃ N, Sv ac d (.slice (some ⟨N, 0, none⟩) n n) ∧ Own w base 3 1 (.slice (some ⟨N, 0, none⟩) n n) n (flat iva l)
/-- Slots of the call's own in a slot. -/
def PkS (ac : Act) (w : World) (base d : Nat) (s : Ss) : Prop := ∃ A1 c1 A2 c2, Sv ac d (.agg #[.slice A1 s.rs.length c1, .slice A2 s.bs.length c2]) ∧ Own w base 3 1 (.slice A1 s.rs.length c1) s.rs.length (flat iva s.rs) ∧ Own w base 4 1 (.slice A2 s.bs.length c2) s.bs.length (flat bva s.bs)
section
variable {ac : Act} {w w' : World} {base d d' n : Nat} {l : List Int} {s : Ss}
theorem PkB.gN (h : PkB ac w base d l n) (hg : w.grownBy w' none) : PkB ac w' base d l n := by
  obtain ⟨N, h1, h2⟩ := h
  exact ⟨N, h1, h2.gN hg⟩
theorem PkB.put (h : PkB ac w base d l n) (hd : d ≠ d') (v : Value) : PkB (ac.put (some d') v) w base d l n := by
  obtain ⟨N, h1, h2⟩ := h
  exact ⟨N, h1.other hd v, h2⟩
theorem PkS.gN (h : PkS ac w base d s) (hg : w.grownBy w' none) : PkS ac w' base d s := by
  obtain ⟨A1, c1, A2, c2, h1, h2, h3⟩ := h
  exact ⟨A1, c1, A2, c2, h1, h2.gN hg, h3.gN hg⟩
theorem PkS.put (h : PkS ac w base d s) (hd : d ≠ d') (v : Value) : PkS (ac.put (some d') v) w base d s := by
  obtain ⟨A1, c1, A2, c2, h1, h2, h3⟩ := h
  exact ⟨A1, c1, A2, c2, h1.other hd v, h2, h3⟩
end
set_option maxHeartbeats 16000000 in
theorem awake_any (w : World) : Calls Try.prog 9 #[] w (RetB w (.returned (.bool true))) := by
  have hbel0 := below0 w
  refine sx_enter (N := 78) [] Try.func9 rfl Try.ntmps9 (by simp) (fun a z d s => (Ag.nil z d)) ?_
  intro a0 hA0
  refine wp_seq ?_
  refine wp_region_lit ?_
  refine sx_val hA0 rfl (ev_assign (ec _ (.bool false)) _ rfl) ?_
  intro a1 hA1; clear hA0
  refine sx_nil ?_
  refine then_n ?_
  refine wp_seq ?_
  refine wp_region_lit ?_
  refine sx_bs (n := 2) (cs := (flat iva [2, 0]).toArray) (e := 3) hA1 rfl (by decide) (.inl rfl) (bsI2 (ec _ (.int .i64 2)) (ec _ (.int .i64 0)) _ rfl) ?_
  intro B2 w2 a2 hB2 hx2 hg2 hA2
  clear hA1
  have hs2 := hg2.size
  have hl2 := hx2.lt
  have ho2 := Own.bxn (n := 2) hx2 iva_sz rfl (by decide)
  have hh2 := Own.hi ho2
  refine sx_call (f := 30) (args := #[.slice (some ⟨B2, 0, none⟩) 2 2]) hA2 rfl (by decide) (.inl rfl) (ev_fn rfl (mp1 (hA2.ev (i := 10) (v := .slice (some ⟨B2, 0, none⟩) 2 2))) (by kernel_rfl) _ rfl) (of_any (some ⟨B2, 0, none⟩) 2 [2, 0] _ (OwnR.gr (e := 3) ⟨rfl, ho2⟩) (by decide) (by decide)) ?_
  intro e3 w3 hR3
  obtain ⟨Ap3, cp3, Aj3, cj3, rfl, hC3, hJ3, hb3⟩ := hR3
  refine ⟨_, rfl, ?_⟩
  intro a3 hA3
  clear hA2
  have hg3 := g0 hb3
  have hs3 := hg3.size
  clear hb3
  have ho3_0 : Own w3 (w2.heap.size) 3 1 (.slice Ap3 (ofS [2, 0]).rs.length cp3) (ofS [2, 0]).rs.length (flat iva (ofS [2, 0]).rs) := hC3
  have hh3_0 := Own.hi ho3_0
  have ho3_1 : Own w3 (w2.heap.size) 4 1 (.slice Aj3 (ofS [2, 0]).bs.length cj3) (ofS [2, 0]).bs.length (flat bva (ofS [2, 0]).bs) := hJ3
  have hh3_1 := Own.hi ho3_1
  refine sx_call (f := 11) (args := #[.agg #[.slice Ap3 (ofS [2, 0]).rs.length cp3, .slice Aj3 (ofS [2, 0]).bs.length cj3], .int .i64 0]) hA3 rfl (by decide) (.inl rfl) (ev_fn rfl (mp2 (hA3.ev (i := 11) (v := .agg #[.slice Ap3 (ofS [2, 0]).rs.length cp3, .slice Aj3 (ofS [2, 0]).bs.length cj3])) (ec _ (.int .i64 0))) (by kernel_rfl) _ rfl) (Ref_any Ap3 cp3 Aj3 cj3 (ofS [2, 0]).rs (ofS [2, 0]).bs 0 _ ⟨(OwnR.gr (e := 3) ⟨rfl, ho3_0⟩), (OwnR.gr (e := 4) ⟨rfl, ho3_1⟩)⟩ (by decide) (by decide)) ?_
  intro e4 w4 hR4
  obtain ⟨Ap4, cp4, Aj4, cj4, rfl, hC4, hJ4, hb4⟩ := hR4
  refine ⟨_, rfl, ?_⟩
  intro a4 hA4
  clear hA3
  have hg4 := g0 hb4
  have hs4 := hg4.size
  clear hb4
  have ho4_0 : Own w4 (w3.heap.size) 3 1 (.slice Ap4 (rff (ofS [2, 0]) 0).1.rs.length cp4) (rff (ofS [2, 0]) 0).1.rs.length (flat iva (rff (ofS [2, 0]) 0).1.rs) := hC4
  have hh4_0 := Own.hi ho4_0
  have ho4_1 : Own w4 (w3.heap.size) 4 1 (.slice Aj4 (rff (ofS [2, 0]) 0).1.bs.length cj4) (rff (ofS [2, 0]) 0).1.bs.length (flat bva (rff (ofS [2, 0]) 0).1.bs) := hJ4
  have hh4_1 := Own.hi ho4_1
  refine sx_val hA4 rfl (ev_move (hA4.ev (i := 12) (v := .tuple #[.agg #[.slice Ap4 (rff (ofS [2, 0]) 0).1.rs.length cp4, .slice Aj4 (rff (ofS [2, 0]) 0).1.bs.length cj4], .int .i64 (rff (ofS [2, 0]) 0).2])) _ rfl) ?_
  intro a5 hA5; clear hA4
  refine sx_val (v := .agg #[.slice Ap4 (rff (ofS [2, 0]) 0).1.rs.length cp4, .slice Aj4 (rff (ofS [2, 0]) 0).1.bs.length cj4]) hA5 rfl (ev_ext (hA5.ev (i := 9) (v := .tuple #[.agg #[.slice Ap4 (rff (ofS [2, 0]) 0).1.rs.length cp4, .slice Aj4 (rff (ofS [2, 0]) 0).1.bs.length cj4], .int .i64 (rff (ofS [2, 0]) 0).2])) rfl _ rfl) ?_
  intro a6 hA6; clear hA5
  refine sx_val (v := .int .i64 (rff (ofS [2, 0]) 0).2) hA6 rfl (ev_ext (hA6.ev (i := 9) (v := .tuple #[.agg #[.slice Ap4 (rff (ofS [2, 0]) 0).1.rs.length cp4, .slice Aj4 (rff (ofS [2, 0]) 0).1.bs.length cj4], .int .i64 (rff (ofS [2, 0]) 0).2])) rfl _ rfl) ?_
  intro a7 hA7; clear hA6
  refine sx_new (cs := #[.slice none 0 0, .slice none 0 0]) (t := 25) hA7 rfl (by decide) (.inl rfl) (ev_alloc (z := .agg (#[.slice none 0 0, .slice none 0 0])) (by kernel_rfl) (by kernel_rfl) _ rfl) ?_
  intro B8 w8 a8 hB8 hx8 hg8 hA8
  clear hA7
  have hs8 := hg8.size
  have hl8 := hx8.lt
  refine sx_store hA8 rfl (.inl rfl) rfl (hA8.ev (i := 1) (v := .pointer (some ⟨B8, 0, none⟩))) (hA8.ev (i := 13) (v := .agg #[.slice Ap4 (rff (ofS [2, 0]) 0).1.rs.length cp4, .slice Aj4 (rff (ofS [2, 0]) 0).1.bs.length cj4])) hx8 (by kernel_rfl) rfl (by simp [Value.oneCell']) ?_
  intro w9 hx9 hg9
  have hs9 := hg9.size
  refine sx_val hA8 rfl (ev_assign (hA8.ev (i := 14) (v := .int .i64 (rff (ofS [2, 0]) 0).2)) _ rfl) ?_
  intro a10 hA10; clear hA8
  refine sx_nil ?_
  refine then_n ?_
  refine wp_seq ?_
  refine wp_region_lit ?_
  refine sx_bs (n := 4) (cs := (flat iva [1002, 0, 1, 1000]).toArray) (e := 3) hA10 rfl (by decide) (.inl rfl) (bsI4 (ec _ (.int .i64 1002)) (ec _ (.int .i64 0)) (ec _ (.int .i64 1)) (ec _ (.int .i64 1000)) _ rfl) ?_
  intro B11 w11 a11 hB11 hx11 hg11 hA11
  clear hA10
  have hs11 := hg11.size
  have hl11 := hx11.lt
  have ho11 := Own.bxn (n := 4) hx11 iva_sz rfl (by decide)
  have hh11 := Own.hi ho11
  refine sx_call (f := 30) (args := #[.slice (some ⟨B11, 0, none⟩) 4 4]) hA11 rfl (by decide) (.inl rfl) (ev_fn rfl (mp1 (hA11.ev (i := 16) (v := .slice (some ⟨B11, 0, none⟩) 4 4))) (by kernel_rfl) _ rfl) (of_any (some ⟨B11, 0, none⟩) 4 [1002, 0, 1, 1000] _ (OwnR.gr (e := 3) ⟨rfl, ho11⟩) (by decide) (by decide)) ?_
  intro e12 w12 hR12
  obtain ⟨Ap12, cp12, Aj12, cj12, rfl, hC12, hJ12, hb12⟩ := hR12
  refine ⟨_, rfl, ?_⟩
  intro a12 hA12
  clear hA11
  have hg12 := g0 hb12
  have hs12 := hg12.size
  clear hb12
  have ho12_0 : Own w12 (w11.heap.size) 3 1 (.slice Ap12 (ofS [1002, 0, 1, 1000]).rs.length cp12) (ofS [1002, 0, 1, 1000]).rs.length (flat iva (ofS [1002, 0, 1, 1000]).rs) := hC12
  have hh12_0 := Own.hi ho12_0
  have ho12_1 : Own w12 (w11.heap.size) 4 1 (.slice Aj12 (ofS [1002, 0, 1, 1000]).bs.length cj12) (ofS [1002, 0, 1, 1000]).bs.length (flat bva (ofS [1002, 0, 1, 1000]).bs) := hJ12
  have hh12_1 := Own.hi ho12_1
  refine sx_call (f := 26) (args := #[.agg #[.slice Ap12 (ofS [1002, 0, 1, 1000]).rs.length cp12, .slice Aj12 (ofS [1002, 0, 1, 1000]).bs.length cj12]]) hA12 rfl (by decide) (.inl rfl) (ev_fn rfl (mp1 (hA12.ev (i := 17) (v := .agg #[.slice Ap12 (ofS [1002, 0, 1, 1000]).rs.length cp12, .slice Aj12 (ofS [1002, 0, 1, 1000]).bs.length cj12]))) (by kernel_rfl) _ rfl) (Count_any Ap12 cp12 Aj12 cj12 (ofS [1002, 0, 1, 1000]).rs (ofS [1002, 0, 1, 1000]).bs _ ⟨(OwnR.gr (e := 3) ⟨rfl, ho12_0⟩), (OwnR.gr (e := 4) ⟨rfl, ho12_1⟩)⟩ (by decide) (by decide)) ?_
  intro e13 w13 hR13
  obtain ⟨rfl, hb13⟩ := hR13
  refine ⟨_, rfl, ?_⟩
  intro a13 hA13
  clear hA12
  have hg13 := g0 hb13
  have hs13 := hg13.size
  clear hb13
  refine sx_val hA13 rfl (ev_move (hA13.ev (i := 18) (v := .tuple #[.int .i64 (cnt (ofS [1002, 0, 1, 1000])).1, .int .i64 (cnt (ofS [1002, 0, 1, 1000])).2.1, .int .i64 (cnt (ofS [1002, 0, 1, 1000])).2.2.1, .int .i64 (cnt (ofS [1002, 0, 1, 1000])).2.2.2])) _ rfl) ?_
  intro a14 hA14; clear hA13
  refine sx_val (v := .int .i64 (cnt (ofS [1002, 0, 1, 1000])).1) hA14 rfl (ev_ext (hA14.ev (i := 15) (v := .tuple #[.int .i64 (cnt (ofS [1002, 0, 1, 1000])).1, .int .i64 (cnt (ofS [1002, 0, 1, 1000])).2.1, .int .i64 (cnt (ofS [1002, 0, 1, 1000])).2.2.1, .int .i64 (cnt (ofS [1002, 0, 1, 1000])).2.2.2])) rfl _ rfl) ?_
  intro a15 hA15; clear hA14
  refine sx_val (v := .int .i64 (cnt (ofS [1002, 0, 1, 1000])).2.1) hA15 rfl (ev_ext (hA15.ev (i := 15) (v := .tuple #[.int .i64 (cnt (ofS [1002, 0, 1, 1000])).1, .int .i64 (cnt (ofS [1002, 0, 1, 1000])).2.1, .int .i64 (cnt (ofS [1002, 0, 1, 1000])).2.2.1, .int .i64 (cnt (ofS [1002, 0, 1, 1000])).2.2.2])) rfl _ rfl) ?_
  intro a16 hA16; clear hA15
  refine sx_val (v := .int .i64 (cnt (ofS [1002, 0, 1, 1000])).2.2.1) hA16 rfl (ev_ext (hA16.ev (i := 15) (v := .tuple #[.int .i64 (cnt (ofS [1002, 0, 1, 1000])).1, .int .i64 (cnt (ofS [1002, 0, 1, 1000])).2.1, .int .i64 (cnt (ofS [1002, 0, 1, 1000])).2.2.1, .int .i64 (cnt (ofS [1002, 0, 1, 1000])).2.2.2])) rfl _ rfl) ?_
  intro a17 hA17; clear hA16
  refine sx_val (v := .int .i64 (cnt (ofS [1002, 0, 1, 1000])).2.2.2) hA17 rfl (ev_ext (hA17.ev (i := 15) (v := .tuple #[.int .i64 (cnt (ofS [1002, 0, 1, 1000])).1, .int .i64 (cnt (ofS [1002, 0, 1, 1000])).2.1, .int .i64 (cnt (ofS [1002, 0, 1, 1000])).2.2.1, .int .i64 (cnt (ofS [1002, 0, 1, 1000])).2.2.2])) rfl _ rfl) ?_
  intro a18 hA18; clear hA17
  refine sx_val hA18 rfl (ev_assign (hA18.ev (i := 19) (v := .int .i64 (cnt (ofS [1002, 0, 1, 1000])).1)) _ rfl) ?_
  intro a19 hA19; clear hA18
  refine sx_val hA19 rfl (ev_assign (hA19.ev (i := 20) (v := .int .i64 (cnt (ofS [1002, 0, 1, 1000])).2.1)) _ rfl) ?_
  intro a20 hA20; clear hA19
  refine sx_val hA20 rfl (ev_assign (hA20.ev (i := 21) (v := .int .i64 (cnt (ofS [1002, 0, 1, 1000])).2.2.1)) _ rfl) ?_
  intro a21 hA21; clear hA20
  refine sx_val hA21 rfl (ev_assign (hA21.ev (i := 22) (v := .int .i64 (cnt (ofS [1002, 0, 1, 1000])).2.2.2)) _ rfl) ?_
  intro a22 hA22; clear hA21
  refine sx_nil ?_
  refine then_n ?_
  refine wp_seq ?_
  refine wp_region_lit ?_
  refine sx_bs (n := 2) (cs := (flat iva [1, 2]).toArray) (e := 3) hA22 rfl (by decide) (.inl rfl) (bsI2 (ec _ (.int .i64 1)) (ec _ (.int .i64 2)) _ rfl) ?_
  intro B23 w23 a23 hB23 hx23 hg23 hA23
  clear hA22
  have hs23 := hg23.size
  have hl23 := hx23.lt
  have ho23 := Own.bxn (n := 2) hx23 iva_sz rfl (by decide)
  have hh23 := Own.hi ho23
  refine sx_call (f := 30) (args := #[.slice (some ⟨B23, 0, none⟩) 2 2]) hA23 rfl (by decide) (.inl rfl) (ev_fn rfl (mp1 (hA23.ev (i := 24) (v := .slice (some ⟨B23, 0, none⟩) 2 2))) (by kernel_rfl) _ rfl) (of_any (some ⟨B23, 0, none⟩) 2 [1, 2] _ (OwnR.gr (e := 3) ⟨rfl, ho23⟩) (by decide) (by decide)) ?_
  intro e24 w24 hR24
  obtain ⟨Ap24, cp24, Aj24, cj24, rfl, hC24, hJ24, hb24⟩ := hR24
  refine ⟨_, rfl, ?_⟩
  intro a24 hA24
  clear hA23
  have hg24 := g0 hb24
  have hs24 := hg24.size
  clear hb24
  have ho24_0 : Own w24 (w23.heap.size) 3 1 (.slice Ap24 (ofS [1, 2]).rs.length cp24) (ofS [1, 2]).rs.length (flat iva (ofS [1, 2]).rs) := hC24
  have hh24_0 := Own.hi ho24_0
  have ho24_1 : Own w24 (w23.heap.size) 4 1 (.slice Aj24 (ofS [1, 2]).bs.length cj24) (ofS [1, 2]).bs.length (flat bva (ofS [1, 2]).bs) := hJ24
  have hh24_1 := Own.hi ho24_1
  refine sx_call (f := 20) (args := #[.agg #[.slice Ap24 (ofS [1, 2]).rs.length cp24, .slice Aj24 (ofS [1, 2]).bs.length cj24]]) hA24 rfl (by decide) (.inl rfl) (ev_fn rfl (mp1 (hA24.ev (i := 25) (v := .agg #[.slice Ap24 (ofS [1, 2]).rs.length cp24, .slice Aj24 (ofS [1, 2]).bs.length cj24]))) (by kernel_rfl) _ rfl) (Check_any Ap24 cp24 Aj24 cj24 (ofS [1, 2]).rs (ofS [1, 2]).bs _ ⟨(OwnR.gr (e := 3) ⟨rfl, ho24_0⟩), (OwnR.gr (e := 4) ⟨rfl, ho24_1⟩)⟩ (by decide) (by decide)) ?_
  intro e25 w25 hR25
  obtain ⟨rfl, hb25⟩ := hR25
  refine ⟨_, rfl, ?_⟩
  intro a25 hA25
  clear hA24
  have hg25 := g0 hb25
  have hs25 := hg25.size
  clear hb25
  refine sx_val hA25 rfl (ev_move (hA25.ev (i := 26) (v := .tuple #[.int .i64 (chs (ofS [1, 2])).1, .int .i64 (chs (ofS [1, 2])).2])) _ rfl) ?_
  intro a26 hA26; clear hA25
  refine sx_val (v := .int .i64 (chs (ofS [1, 2])).1) hA26 rfl (ev_ext (hA26.ev (i := 23) (v := .tuple #[.int .i64 (chs (ofS [1, 2])).1, .int .i64 (chs (ofS [1, 2])).2])) rfl _ rfl) ?_
  intro a27 hA27; clear hA26
  refine sx_val (v := .int .i64 (chs (ofS [1, 2])).2) hA27 rfl (ev_ext (hA27.ev (i := 23) (v := .tuple #[.int .i64 (chs (ofS [1, 2])).1, .int .i64 (chs (ofS [1, 2])).2])) rfl _ rfl) ?_
  intro a28 hA28; clear hA27
  refine sx_val hA28 rfl (ev_assign (hA28.ev (i := 27) (v := .int .i64 (chs (ofS [1, 2])).1)) _ rfl) ?_
  intro a29 hA29; clear hA28
  refine sx_val hA29 rfl (ev_assign (hA29.ev (i := 28) (v := .int .i64 (chs (ofS [1, 2])).2)) _ rfl) ?_
  intro a30 hA30; clear hA29
  refine sx_nil ?_
  refine then_n ?_
  refine wp_seq ?_
  have hx9_31 := hx9.gN hg11
  have hx9_32 := hx9_31.gN hg12
  have hx9_33 := hx9_32.gN hg13
  have hx9_34 := hx9_33.gN hg23
  have hx9_35 := hx9_34.gN hg24
  have hx9_36 := hx9_35.gN hg25
  have ho4_37 := Own.gN ho4_0 hg8
  have ho4_38 := Own.gBT ho4_37 hg9 hx8 (by decide)
  have ho4_39 := Own.gN ho4_38 hg11
  have ho4_40 := Own.gN ho4_39 hg12
  have ho4_41 := Own.gN ho4_40 hg13
  have ho4_42 := Own.gN ho4_41 hg23
  have ho4_43 := Own.gN ho4_42 hg24
  have ho4_44 := Own.gN ho4_43 hg25
  have ho4_45 := Own.gN ho4_1 hg8
  have ho4_46 := Own.gBT ho4_45 hg9 hx8 (by decide)
  have ho4_47 := Own.gN ho4_46 hg11
  have ho4_48 := Own.gN ho4_47 hg12
  have ho4_49 := Own.gN ho4_48 hg13
  have ho4_50 := Own.gN ho4_49 hg23
  have ho4_51 := Own.gN ho4_50 hg24
  have ho4_52 := Own.gN ho4_51 hg25
  have hbel0_53 := Below.gN hbel0 hg2 hbel0.size
  have hbel0_54 := Below.gN hbel0_53 hg3 hbel0_53.size
  have hbel0_55 := Below.gN hbel0_54 hg4 hbel0_54.size
  have hbel0_56 := Below.gN hbel0_55 hg8 hbel0_55.size
  have hbel0_57 := Below.gB hbel0_56 hg9 hbel0_56.size (by omega)
  have hbel0_58 := Below.gN hbel0_57 hg11 hbel0_57.size
  have hbel0_59 := Below.gN hbel0_58 hg12 hbel0_58.size
  have hbel0_60 := Below.gN hbel0_59 hg13 hbel0_59.size
  have hbel0_61 := Below.gN hbel0_60 hg23 hbel0_60.size
  have hbel0_62 := Below.gN hbel0_61 hg24 hbel0_61.size
  have hbel0_63 := Below.gN hbel0_62 hg25 hbel0_62.size
  refine region_D (n := 50) (by kernel_rfl) (by kernel_rfl) rfl (fun L ac wc => Below w.heap.size w wc ∧ w25.heap.size ≤ wc.heap.size ∧ Bx wc B8 25 (#[.slice Ap4 (rff (ofS [2, 0]) 0).1.rs.length cp4, .slice Aj4 (rff (ofS [2, 0]) 0).1.bs.length cj4]) ∧ Own wc (w3.heap.size) 3 1 (.slice Ap4 (rff (ofS [2, 0]) 0).1.rs.length cp4) (rff (ofS [2, 0]) 0).1.rs.length (flat iva (rff (ofS [2, 0]) 0).1.rs) ∧ Own wc (w3.heap.size) 4 1 (.slice Aj4 (rff (ofS [2, 0]) 0).1.bs.length cj4) (rff (ofS [2, 0]) 0).1.bs.length (flat bva (rff (ofS [2, 0]) 0).1.bs) ∧ (L 0 = true → PkB ac wc w25.heap.size 29 [0, 0] 2) ∧ (L 1 = true → PkS ac wc w25.heap.size 30 (ofS [0, 0])) ∧ (L 2 = true → PkB ac wc w25.heap.size 31 [1002, 0] 2) ∧ (L 3 = true → PkS ac wc w25.heap.size 32 (ofS [1002, 0])) ∧ (L 4 = true → Sv ac 33 (.bool true)) ∧ (L 5 = true → Sv ac 34 (.bool true)) ∧ (L 6 = true → PkB ac wc w25.heap.size 35 [1002, 0] 2) ∧ (L 7 = true → PkS ac wc w25.heap.size 36 (ofS [1002, 0])) ∧ (L 8 = true → PkB ac wc w25.heap.size 37 [1001, 0] 2) ∧ (L 9 = true → PkS ac wc w25.heap.size 38 (ofS [1001, 0])) ∧ (L 10 = true → Sv ac 39 (.bool true)) ∧ (L 11 = true → Sv ac 40 (.bool true)) ∧ (L 12 = true → Sv ac 41 (.bool true)) ∧ (L 13 = true → PkB ac wc w25.heap.size 42 [1000, 0] 2) ∧ (L 14 = true → PkS ac wc w25.heap.size 43 (ofS [1000, 0])) ∧ (L 15 = true → PkB ac wc w25.heap.size 44 [0, 0] 2) ∧ (L 16 = true → PkS ac wc w25.heap.size 45 (ofS [0, 0])) ∧ (L 17 = true → Sv ac 46 (.bool true)) ∧ (L 18 = true → Sv ac 47 (.bool true)) ∧ (L 19 = true → Sv ac 48 (.bool true)) ∧ (L 20 = true → Sv ac 49 (.int .i64 (rff (ofS [2, 0]) 0).2)) ∧ (L 21 = true → Sv ac 50 (.bool true)) ∧ (L 22 = true → Sv ac 51 (.bool true)) ∧ (L 23 = true → Sv ac 52 (.bool true)) ∧ (L 24 = true → Sv ac 53 (.agg #[.slice Ap4 (rff (ofS [2, 0]) 0).1.rs.length cp4, .slice Aj4 (rff (ofS [2, 0]) 0).1.bs.length cj4])) ∧ (L 25 = true → PkB ac wc w25.heap.size 54 [3, 0] 2) ∧ (L 26 = true → PkS ac wc w25.heap.size 55 (ofS [3, 0])) ∧ (L 27 = true → Sv ac 56 (.bool true)) ∧ (L 28 = true → Sv ac 57 (.bool true)) ∧ (L 29 = true → Sv ac 58 (.bool true)) ∧ (L 30 = true → Sv ac 59 (.int .i64 (cnt (ofS [1002, 0, 1, 1000])).2.2.2)) ∧ (L 31 = true → Sv ac 60 (.bool true)) ∧ (L 32 = true → Sv ac 61 (.bool true)) ∧ (L 33 = true → Sv ac 62 (.bool true)) ∧ (L 34 = true → Sv ac 63 (.int .i64 (cnt (ofS [1002, 0, 1, 1000])).1)) ∧ (L 35 = true → Sv ac 64 (.bool true)) ∧ (L 36 = true → Sv ac 65 (.bool true)) ∧ (L 37 = true → Sv ac 66 (.bool true)) ∧ (L 38 = true → Sv ac 67 (.int .i64 (cnt (ofS [1002, 0, 1, 1000])).2.1)) ∧ (L 39 = true → Sv ac 68 (.bool true)) ∧ (L 40 = true → Sv ac 69 (.bool true)) ∧ (L 41 = true → Sv ac 70 (.bool true)) ∧ (L 42 = true → Sv ac 71 (.int .i64 (cnt (ofS [1002, 0, 1, 1000])).2.2.1)) ∧ (L 43 = true → Sv ac 72 (.bool true)) ∧ (L 44 = true → Sv ac 73 (.bool true)) ∧ (L 45 = true → Sv ac 74 (.bool true)) ∧ (L 46 = true → Sv ac 75 (.int .i64 (chs (ofS [1, 2])).1)) ∧ (L 47 = true → Sv ac 76 (.bool true)) ∧ (L 48 = true → Sv ac 77 (.bool true)) ∧ (L 49 = true → Sv ac 0 (.bool true))) ⟨(Below.gN hbel0_63 (gdr _) hbel0_63.size), (Nat.le_refl _), (hx9_36.gN (gdr _)), (Own.gN ho4_44 (gdr _)), (Own.gN ho4_52 (gdr _)), (fun h => by cases h), (fun h => by cases h), (fun h => by cases h), (fun h => by cases h), (fun h => by cases h), (fun h => by cases h), (fun h => by cases h), (fun h => by cases h), (fun h => by cases h), (fun h => by cases h), (fun h => by cases h), (fun h => by cases h), (fun h => by cases h), (fun h => by cases h), (fun h => by cases h), (fun h => by cases h), (fun h => by cases h), (fun h => by cases h), (fun h => by cases h), (fun h => by cases h), (fun h => by cases h), (fun h => by cases h), (fun h => by cases h), (fun h => by cases h), (fun h => by cases h), (fun h => by cases h), (fun h => by cases h), (fun h => by cases h), (fun h => by cases h), (fun h => by cases h), (fun h => by cases h), (fun h => by cases h), (fun h => by cases h), (fun h => by cases h), (fun h => by cases h), (fun h => by cases h), (fun h => by cases h), (fun h => by cases h), (fun h => by cases h), (fun h => by cases h), (fun h => by cases h), (fun h => by cases h), (fun h => by cases h), (fun h => by cases h), (fun h => by cases h), (fun h => by cases h), (fun h => by cases h), (fun h => by cases h), (fun h => by cases h), (fun h => by cases h)⟩ ?_ ?_
  · intro iq hiq o ho L hL hdep ac wc hF hJ
    obtain ⟨bl, sz, b_B8, p_0, p_1, s_29, s_30, s_31, s_32, s_33, s_34, s_35, s_36, s_37, s_38, s_39, s_40, s_41, s_42, s_43, s_44, s_45, s_46, s_47, s_48, s_49, s_50, s_51, s_52, s_53, s_54, s_55, s_56, s_57, s_58, s_59, s_60, s_61, s_62, s_63, s_64, s_65, s_66, s_67, s_68, s_69, s_70, s_71, s_72, s_73, s_74, s_75, s_76, s_77, s_0⟩ := hJ
    have zq := hF.1.trans hA30.1
    match iq, hiq with
    | 0, _ =>
      obtain rfl := Option.some.inj (show some _ = some o from ho); clear ho
      refine dj_val (i := 0) rfl (.inl rfl) (w' := wc.alloc (.cells (flat iva [0, 0]).toArray 3)) (v := .slice (some ⟨wc.heap.size, 0, none⟩) 2 2) (bsI2 (ec ac (.int .i64 0)) (ec ac (.int .i64 0)) _ rfl) ?_
      have hown := Own.mono (Own.bxn (n := 2) (xs := [0, 0]) (show Bx _ _ _ (flat iva [0, 0]).toArray from Bx.new wc 3 (flat iva [0, 0]).toArray) iva_sz rfl (by decide)) sz
      have hg := g0 (al wc (.cells (flat iva [0, 0]).toArray 3))
      exact ⟨⟨_, rfl⟩, (Below.gN bl hg bl.size), (Nat.le_trans sz hg.size), (b_B8.gN hg), (Own.gN p_0 hg), (Own.gN p_1 hg), (fun _ => ⟨wc.heap.size, Sv.self (by rw [zq]; decide) _, hown⟩), (fun h => ((s_30 h).gN hg).put (by decide) _), (fun h => ((s_31 h).gN hg).put (by decide) _), (fun h => ((s_32 h).gN hg).put (by decide) _), (so s_33), (so s_34), (fun h => ((s_35 h).gN hg).put (by decide) _), (fun h => ((s_36 h).gN hg).put (by decide) _), (fun h => ((s_37 h).gN hg).put (by decide) _), (fun h => ((s_38 h).gN hg).put (by decide) _), (so s_39), (so s_40), (so s_41), (fun h => ((s_42 h).gN hg).put (by decide) _), (fun h => ((s_43 h).gN hg).put (by decide) _), (fun h => ((s_44 h).gN hg).put (by decide) _), (fun h => ((s_45 h).gN hg).put (by decide) _), (so s_46), (so s_47), (so s_48), (so s_49), (so s_50), (so s_51), (so s_52), (so s_53), (fun h => ((s_54 h).gN hg).put (by decide) _), (fun h => ((s_55 h).gN hg).put (by decide) _), (so s_56), (so s_57), (so s_58), (so s_59), (so s_60), (so s_61), (so s_62), (so s_63), (so s_64), (so s_65), (so s_66), (so s_67), (so s_68), (so s_69), (so s_70), (so s_71), (so s_72), (so s_73), (so s_74), (so s_75), (so s_76), (so s_77), (so s_0)⟩
    | 1, _ =>
      obtain rfl := Option.some.inj (show some _ = some o from ho); clear ho
      obtain ⟨G0r4, v29, a_0⟩ := s_29 (dp hdep 0)
      refine dj_call (i := 1) (f := 30) (args := #[.slice (some ⟨G0r4, 0, none⟩) 2 2]) rfl (.inl rfl) (ev_fn rfl (mp1 v29.eval) (by kernel_rfl) _ rfl) (of_any (some ⟨G0r4, 0, none⟩) 2 [0, 0] _ (OwnR.gr (e := 3) ⟨rfl, a_0⟩) (by decide) (by decide)) ?_
      intro e wk1 hR
      obtain ⟨Ap1r4, cp1r4, Aj1r4, cj1r4, rfl, hC1, hJ1, hb1⟩ := hR
      refine ⟨_, rfl, ?_⟩
      have hg := g0 hb1
      have hraw0 := hC1
      have hown0 := Own.mono (hC1) sz
      have hraw1 := hJ1
      have hown1 := Own.mono (hJ1) sz
      exact ⟨⟨_, rfl⟩, (Below.gN bl hg bl.size), (Nat.le_trans sz hg.size), (b_B8.gN hg), (Own.gN p_0 hg), (Own.gN p_1 hg), (fun h => ((s_29 h).gN hg).put (by decide) _), (fun _ => ⟨Ap1r4, cp1r4, Aj1r4, cj1r4, Sv.self (by rw [zq]; decide) _, hown0, hown1⟩), (fun h => ((s_31 h).gN hg).put (by decide) _), (fun h => ((s_32 h).gN hg).put (by decide) _), (so s_33), (so s_34), (fun h => ((s_35 h).gN hg).put (by decide) _), (fun h => ((s_36 h).gN hg).put (by decide) _), (fun h => ((s_37 h).gN hg).put (by decide) _), (fun h => ((s_38 h).gN hg).put (by decide) _), (so s_39), (so s_40), (so s_41), (fun h => ((s_42 h).gN hg).put (by decide) _), (fun h => ((s_43 h).gN hg).put (by decide) _), (fun h => ((s_44 h).gN hg).put (by decide) _), (fun h => ((s_45 h).gN hg).put (by decide) _), (so s_46), (so s_47), (so s_48), (so s_49), (so s_50), (so s_51), (so s_52), (so s_53), (fun h => ((s_54 h).gN hg).put (by decide) _), (fun h => ((s_55 h).gN hg).put (by decide) _), (so s_56), (so s_57), (so s_58), (so s_59), (so s_60), (so s_61), (so s_62), (so s_63), (so s_64), (so s_65), (so s_66), (so s_67), (so s_68), (so s_69), (so s_70), (so s_71), (so s_72), (so s_73), (so s_74), (so s_75), (so s_76), (so s_77), (so s_0)⟩
    | 2, _ =>
      obtain rfl := Option.some.inj (show some _ = some o from ho); clear ho
      refine dj_val (i := 2) rfl (.inl rfl) (w' := wc.alloc (.cells (flat iva [1002, 0]).toArray 3)) (v := .slice (some ⟨wc.heap.size, 0, none⟩) 2 2) (bsI2 (ec ac (.int .i64 1002)) (ec ac (.int .i64 0)) _ rfl) ?_
      have hown := Own.mono (Own.bxn (n := 2) (xs := [1002, 0]) (show Bx _ _ _ (flat iva [1002, 0]).toArray from Bx.new wc 3 (flat iva [1002, 0]).toArray) iva_sz rfl (by decide)) sz
      have hg := g0 (al wc (.cells (flat iva [1002, 0]).toArray 3))
      exact ⟨⟨_, rfl⟩, (Below.gN bl hg bl.size), (Nat.le_trans sz hg.size), (b_B8.gN hg), (Own.gN p_0 hg), (Own.gN p_1 hg), (fun h => ((s_29 h).gN hg).put (by decide) _), (fun h => ((s_30 h).gN hg).put (by decide) _), (fun _ => ⟨wc.heap.size, Sv.self (by rw [zq]; decide) _, hown⟩), (fun h => ((s_32 h).gN hg).put (by decide) _), (so s_33), (so s_34), (fun h => ((s_35 h).gN hg).put (by decide) _), (fun h => ((s_36 h).gN hg).put (by decide) _), (fun h => ((s_37 h).gN hg).put (by decide) _), (fun h => ((s_38 h).gN hg).put (by decide) _), (so s_39), (so s_40), (so s_41), (fun h => ((s_42 h).gN hg).put (by decide) _), (fun h => ((s_43 h).gN hg).put (by decide) _), (fun h => ((s_44 h).gN hg).put (by decide) _), (fun h => ((s_45 h).gN hg).put (by decide) _), (so s_46), (so s_47), (so s_48), (so s_49), (so s_50), (so s_51), (so s_52), (so s_53), (fun h => ((s_54 h).gN hg).put (by decide) _), (fun h => ((s_55 h).gN hg).put (by decide) _), (so s_56), (so s_57), (so s_58), (so s_59), (so s_60), (so s_61), (so s_62), (so s_63), (so s_64), (so s_65), (so s_66), (so s_67), (so s_68), (so s_69), (so s_70), (so s_71), (so s_72), (so s_73), (so s_74), (so s_75), (so s_76), (so s_77), (so s_0)⟩
    | 3, _ =>
      obtain rfl := Option.some.inj (show some _ = some o from ho); clear ho
      obtain ⟨G2r4, v31, a_2⟩ := s_31 (dp hdep 2)
      refine dj_call (i := 3) (f := 30) (args := #[.slice (some ⟨G2r4, 0, none⟩) 2 2]) rfl (.inl rfl) (ev_fn rfl (mp1 v31.eval) (by kernel_rfl) _ rfl) (of_any (some ⟨G2r4, 0, none⟩) 2 [1002, 0] _ (OwnR.gr (e := 3) ⟨rfl, a_2⟩) (by decide) (by decide)) ?_
      intro e wk3 hR
      obtain ⟨Ap3r4, cp3r4, Aj3r4, cj3r4, rfl, hC3, hJ3, hb3⟩ := hR
      refine ⟨_, rfl, ?_⟩
      have hg := g0 hb3
      have hraw0 := hC3
      have hown0 := Own.mono (hC3) sz
      have hraw1 := hJ3
      have hown1 := Own.mono (hJ3) sz
      exact ⟨⟨_, rfl⟩, (Below.gN bl hg bl.size), (Nat.le_trans sz hg.size), (b_B8.gN hg), (Own.gN p_0 hg), (Own.gN p_1 hg), (fun h => ((s_29 h).gN hg).put (by decide) _), (fun h => ((s_30 h).gN hg).put (by decide) _), (fun h => ((s_31 h).gN hg).put (by decide) _), (fun _ => ⟨Ap3r4, cp3r4, Aj3r4, cj3r4, Sv.self (by rw [zq]; decide) _, hown0, hown1⟩), (so s_33), (so s_34), (fun h => ((s_35 h).gN hg).put (by decide) _), (fun h => ((s_36 h).gN hg).put (by decide) _), (fun h => ((s_37 h).gN hg).put (by decide) _), (fun h => ((s_38 h).gN hg).put (by decide) _), (so s_39), (so s_40), (so s_41), (fun h => ((s_42 h).gN hg).put (by decide) _), (fun h => ((s_43 h).gN hg).put (by decide) _), (fun h => ((s_44 h).gN hg).put (by decide) _), (fun h => ((s_45 h).gN hg).put (by decide) _), (so s_46), (so s_47), (so s_48), (so s_49), (so s_50), (so s_51), (so s_52), (so s_53), (fun h => ((s_54 h).gN hg).put (by decide) _), (fun h => ((s_55 h).gN hg).put (by decide) _), (so s_56), (so s_57), (so s_58), (so s_59), (so s_60), (so s_61), (so s_62), (so s_63), (so s_64), (so s_65), (so s_66), (so s_67), (so s_68), (so s_69), (so s_70), (so s_71), (so s_72), (so s_73), (so s_74), (so s_75), (so s_76), (so s_77), (so s_0)⟩
    | 4, _ =>
      obtain rfl := Option.some.inj (show some _ = some o from ho); clear ho
      obtain ⟨Ap1r4, cp1r4, Aj1r4, cj1r4, v30, o_1_0, o_1_1⟩ := s_30 (dp hdep 1)
      obtain ⟨Ap3r4, cp3r4, Aj3r4, cj3r4, v32, o_3_0, o_3_1⟩ := s_32 (dp hdep 3)
      refine dj_call (i := 4) (f := 31) (args := #[.agg #[.slice Ap1r4 (ofS [0, 0]).rs.length cp1r4, .slice Aj1r4 (ofS [0, 0]).bs.length cj1r4], .int .i64 2, .int .i64 0, .agg #[.slice Ap3r4 (ofS [1002, 0]).rs.length cp3r4, .slice Aj3r4 (ofS [1002, 0]).bs.length cj3r4]]) rfl (.inl rfl) (ev_fn rfl (mp4 v30.eval (ec ac (.int .i64 2)) (ec ac (.int .i64 0)) v32.eval) (by kernel_rfl) _ rfl) (gives_any Ap1r4 cp1r4 Aj1r4 cj1r4 (ofS [0, 0]).rs (ofS [0, 0]).bs Ap3r4 cp3r4 Aj3r4 cj3r4 (ofS [1002, 0]).rs (ofS [1002, 0]).bs 2 0 _ ⟨(OwnR.gr (e := 3) ⟨rfl, o_1_0⟩), (OwnR.gr (e := 4) ⟨rfl, o_1_1⟩)⟩ ⟨(OwnR.gr (e := 3) ⟨rfl, o_3_0⟩), (OwnR.gr (e := 4) ⟨rfl, o_3_1⟩)⟩ (by decide) (by decide)) ?_
      intro e wk4 hR
      obtain ⟨he4, hb4⟩ := hR
      rw [show (gvs (ofS [0, 0]) 2 0 (ofS [1002, 0])) = true by kernel_rfl] at he4
      subst he4
      refine ⟨_, rfl, ?_⟩
      have hg := g0 hb4
      exact ⟨⟨_, rfl⟩, (Below.gN bl hg bl.size), (Nat.le_trans sz hg.size), (b_B8.gN hg), (Own.gN p_0 hg), (Own.gN p_1 hg), (fun h => ((s_29 h).gN hg).put (by decide) _), (fun h => ((s_30 h).gN hg).put (by decide) _), (fun h => ((s_31 h).gN hg).put (by decide) _), (fun h => ((s_32 h).gN hg).put (by decide) _), (fun _ => Sv.self (by rw [zq]; decide) _), (so s_34), (fun h => ((s_35 h).gN hg).put (by decide) _), (fun h => ((s_36 h).gN hg).put (by decide) _), (fun h => ((s_37 h).gN hg).put (by decide) _), (fun h => ((s_38 h).gN hg).put (by decide) _), (so s_39), (so s_40), (so s_41), (fun h => ((s_42 h).gN hg).put (by decide) _), (fun h => ((s_43 h).gN hg).put (by decide) _), (fun h => ((s_44 h).gN hg).put (by decide) _), (fun h => ((s_45 h).gN hg).put (by decide) _), (so s_46), (so s_47), (so s_48), (so s_49), (so s_50), (so s_51), (so s_52), (so s_53), (fun h => ((s_54 h).gN hg).put (by decide) _), (fun h => ((s_55 h).gN hg).put (by decide) _), (so s_56), (so s_57), (so s_58), (so s_59), (so s_60), (so s_61), (so s_62), (so s_63), (so s_64), (so s_65), (so s_66), (so s_67), (so s_68), (so s_69), (so s_70), (so s_71), (so s_72), (so s_73), (so s_74), (so s_75), (so s_76), (so s_77), (so s_0)⟩
    | 5, _ =>
      obtain rfl := Option.some.inj (show some _ = some o from ho); clear ho
      have v33 := s_33 (dp hdep 4)
      refine dj_val (i := 5) (v := .bool true) rfl (.inl rfl) (ev_move v33.eval _ rfl) ?_
      exact ⟨⟨_, rfl⟩, bl, sz, b_B8, p_0, p_1, (fun h => (s_29 h).put (by decide) _), (fun h => (s_30 h).put (by decide) _), (fun h => (s_31 h).put (by decide) _), (fun h => (s_32 h).put (by decide) _), (so s_33), (fun _ => Sv.self (by rw [zq]; decide) _), (fun h => (s_35 h).put (by decide) _), (fun h => (s_36 h).put (by decide) _), (fun h => (s_37 h).put (by decide) _), (fun h => (s_38 h).put (by decide) _), (so s_39), (so s_40), (so s_41), (fun h => (s_42 h).put (by decide) _), (fun h => (s_43 h).put (by decide) _), (fun h => (s_44 h).put (by decide) _), (fun h => (s_45 h).put (by decide) _), (so s_46), (so s_47), (so s_48), (so s_49), (so s_50), (so s_51), (so s_52), (so s_53), (fun h => (s_54 h).put (by decide) _), (fun h => (s_55 h).put (by decide) _), (so s_56), (so s_57), (so s_58), (so s_59), (so s_60), (so s_61), (so s_62), (so s_63), (so s_64), (so s_65), (so s_66), (so s_67), (so s_68), (so s_69), (so s_70), (so s_71), (so s_72), (so s_73), (so s_74), (so s_75), (so s_76), (so s_77), (so s_0)⟩
    | 6, _ =>
      obtain rfl := Option.some.inj (show some _ = some o from ho); clear ho
      have v34 := s_34 (dp hdep 5)
      refine dj_val (i := 6) rfl (.inr ⟨5, true, 34, rfl, by kernel_rfl, v34⟩) (w' := wc.alloc (.cells (flat iva [1002, 0]).toArray 3)) (v := .slice (some ⟨wc.heap.size, 0, none⟩) 2 2) (bsI2 (ec ac (.int .i64 1002)) (ec ac (.int .i64 0)) _ rfl) ?_
      have hown := Own.mono (Own.bxn (n := 2) (xs := [1002, 0]) (show Bx _ _ _ (flat iva [1002, 0]).toArray from Bx.new wc 3 (flat iva [1002, 0]).toArray) iva_sz rfl (by decide)) sz
      have hg := g0 (al wc (.cells (flat iva [1002, 0]).toArray 3))
      exact ⟨⟨_, rfl⟩, (Below.gN bl hg bl.size), (Nat.le_trans sz hg.size), (b_B8.gN hg), (Own.gN p_0 hg), (Own.gN p_1 hg), (fun h => ((s_29 h).gN hg).put (by decide) _), (fun h => ((s_30 h).gN hg).put (by decide) _), (fun h => ((s_31 h).gN hg).put (by decide) _), (fun h => ((s_32 h).gN hg).put (by decide) _), (so s_33), (so s_34), (fun _ => ⟨wc.heap.size, Sv.self (by rw [zq]; decide) _, hown⟩), (fun h => ((s_36 h).gN hg).put (by decide) _), (fun h => ((s_37 h).gN hg).put (by decide) _), (fun h => ((s_38 h).gN hg).put (by decide) _), (so s_39), (so s_40), (so s_41), (fun h => ((s_42 h).gN hg).put (by decide) _), (fun h => ((s_43 h).gN hg).put (by decide) _), (fun h => ((s_44 h).gN hg).put (by decide) _), (fun h => ((s_45 h).gN hg).put (by decide) _), (so s_46), (so s_47), (so s_48), (so s_49), (so s_50), (so s_51), (so s_52), (so s_53), (fun h => ((s_54 h).gN hg).put (by decide) _), (fun h => ((s_55 h).gN hg).put (by decide) _), (so s_56), (so s_57), (so s_58), (so s_59), (so s_60), (so s_61), (so s_62), (so s_63), (so s_64), (so s_65), (so s_66), (so s_67), (so s_68), (so s_69), (so s_70), (so s_71), (so s_72), (so s_73), (so s_74), (so s_75), (so s_76), (so s_77), (so s_0)⟩
    | 7, _ =>
      obtain rfl := Option.some.inj (show some _ = some o from ho); clear ho
      have v34 := s_34 (dp hdep 5)
      obtain ⟨G6r4, v35, a_6⟩ := s_35 (dp hdep 6)
      refine dj_call (i := 7) (f := 30) (args := #[.slice (some ⟨G6r4, 0, none⟩) 2 2]) rfl (.inr ⟨5, true, 34, rfl, by kernel_rfl, v34⟩) (ev_fn rfl (mp1 v35.eval) (by kernel_rfl) _ rfl) (of_any (some ⟨G6r4, 0, none⟩) 2 [1002, 0] _ (OwnR.gr (e := 3) ⟨rfl, a_6⟩) (by decide) (by decide)) ?_
      intro e wk7 hR
      obtain ⟨Ap7r4, cp7r4, Aj7r4, cj7r4, rfl, hC7, hJ7, hb7⟩ := hR
      refine ⟨_, rfl, ?_⟩
      have hg := g0 hb7
      have hraw0 := hC7
      have hown0 := Own.mono (hC7) sz
      have hraw1 := hJ7
      have hown1 := Own.mono (hJ7) sz
      exact ⟨⟨_, rfl⟩, (Below.gN bl hg bl.size), (Nat.le_trans sz hg.size), (b_B8.gN hg), (Own.gN p_0 hg), (Own.gN p_1 hg), (fun h => ((s_29 h).gN hg).put (by decide) _), (fun h => ((s_30 h).gN hg).put (by decide) _), (fun h => ((s_31 h).gN hg).put (by decide) _), (fun h => ((s_32 h).gN hg).put (by decide) _), (so s_33), (so s_34), (fun h => ((s_35 h).gN hg).put (by decide) _), (fun _ => ⟨Ap7r4, cp7r4, Aj7r4, cj7r4, Sv.self (by rw [zq]; decide) _, hown0, hown1⟩), (fun h => ((s_37 h).gN hg).put (by decide) _), (fun h => ((s_38 h).gN hg).put (by decide) _), (so s_39), (so s_40), (so s_41), (fun h => ((s_42 h).gN hg).put (by decide) _), (fun h => ((s_43 h).gN hg).put (by decide) _), (fun h => ((s_44 h).gN hg).put (by decide) _), (fun h => ((s_45 h).gN hg).put (by decide) _), (so s_46), (so s_47), (so s_48), (so s_49), (so s_50), (so s_51), (so s_52), (so s_53), (fun h => ((s_54 h).gN hg).put (by decide) _), (fun h => ((s_55 h).gN hg).put (by decide) _), (so s_56), (so s_57), (so s_58), (so s_59), (so s_60), (so s_61), (so s_62), (so s_63), (so s_64), (so s_65), (so s_66), (so s_67), (so s_68), (so s_69), (so s_70), (so s_71), (so s_72), (so s_73), (so s_74), (so s_75), (so s_76), (so s_77), (so s_0)⟩
    | 8, _ =>
      obtain rfl := Option.some.inj (show some _ = some o from ho); clear ho
      have v34 := s_34 (dp hdep 5)
      refine dj_val (i := 8) rfl (.inr ⟨5, true, 34, rfl, by kernel_rfl, v34⟩) (w' := wc.alloc (.cells (flat iva [1001, 0]).toArray 3)) (v := .slice (some ⟨wc.heap.size, 0, none⟩) 2 2) (bsI2 (ec ac (.int .i64 1001)) (ec ac (.int .i64 0)) _ rfl) ?_
      have hown := Own.mono (Own.bxn (n := 2) (xs := [1001, 0]) (show Bx _ _ _ (flat iva [1001, 0]).toArray from Bx.new wc 3 (flat iva [1001, 0]).toArray) iva_sz rfl (by decide)) sz
      have hg := g0 (al wc (.cells (flat iva [1001, 0]).toArray 3))
      exact ⟨⟨_, rfl⟩, (Below.gN bl hg bl.size), (Nat.le_trans sz hg.size), (b_B8.gN hg), (Own.gN p_0 hg), (Own.gN p_1 hg), (fun h => ((s_29 h).gN hg).put (by decide) _), (fun h => ((s_30 h).gN hg).put (by decide) _), (fun h => ((s_31 h).gN hg).put (by decide) _), (fun h => ((s_32 h).gN hg).put (by decide) _), (so s_33), (so s_34), (fun h => ((s_35 h).gN hg).put (by decide) _), (fun h => ((s_36 h).gN hg).put (by decide) _), (fun _ => ⟨wc.heap.size, Sv.self (by rw [zq]; decide) _, hown⟩), (fun h => ((s_38 h).gN hg).put (by decide) _), (so s_39), (so s_40), (so s_41), (fun h => ((s_42 h).gN hg).put (by decide) _), (fun h => ((s_43 h).gN hg).put (by decide) _), (fun h => ((s_44 h).gN hg).put (by decide) _), (fun h => ((s_45 h).gN hg).put (by decide) _), (so s_46), (so s_47), (so s_48), (so s_49), (so s_50), (so s_51), (so s_52), (so s_53), (fun h => ((s_54 h).gN hg).put (by decide) _), (fun h => ((s_55 h).gN hg).put (by decide) _), (so s_56), (so s_57), (so s_58), (so s_59), (so s_60), (so s_61), (so s_62), (so s_63), (so s_64), (so s_65), (so s_66), (so s_67), (so s_68), (so s_69), (so s_70), (so s_71), (so s_72), (so s_73), (so s_74), (so s_75), (so s_76), (so s_77), (so s_0)⟩
    | 9, _ =>
      obtain rfl := Option.some.inj (show some _ = some o from ho); clear ho
      have v34 := s_34 (dp hdep 5)
      obtain ⟨G8r4, v37, a_8⟩ := s_37 (dp hdep 8)
      refine dj_call (i := 9) (f := 30) (args := #[.slice (some ⟨G8r4, 0, none⟩) 2 2]) rfl (.inr ⟨5, true, 34, rfl, by kernel_rfl, v34⟩) (ev_fn rfl (mp1 v37.eval) (by kernel_rfl) _ rfl) (of_any (some ⟨G8r4, 0, none⟩) 2 [1001, 0] _ (OwnR.gr (e := 3) ⟨rfl, a_8⟩) (by decide) (by decide)) ?_
      intro e wk9 hR
      obtain ⟨Ap9r4, cp9r4, Aj9r4, cj9r4, rfl, hC9, hJ9, hb9⟩ := hR
      refine ⟨_, rfl, ?_⟩
      have hg := g0 hb9
      have hraw0 := hC9
      have hown0 := Own.mono (hC9) sz
      have hraw1 := hJ9
      have hown1 := Own.mono (hJ9) sz
      exact ⟨⟨_, rfl⟩, (Below.gN bl hg bl.size), (Nat.le_trans sz hg.size), (b_B8.gN hg), (Own.gN p_0 hg), (Own.gN p_1 hg), (fun h => ((s_29 h).gN hg).put (by decide) _), (fun h => ((s_30 h).gN hg).put (by decide) _), (fun h => ((s_31 h).gN hg).put (by decide) _), (fun h => ((s_32 h).gN hg).put (by decide) _), (so s_33), (so s_34), (fun h => ((s_35 h).gN hg).put (by decide) _), (fun h => ((s_36 h).gN hg).put (by decide) _), (fun h => ((s_37 h).gN hg).put (by decide) _), (fun _ => ⟨Ap9r4, cp9r4, Aj9r4, cj9r4, Sv.self (by rw [zq]; decide) _, hown0, hown1⟩), (so s_39), (so s_40), (so s_41), (fun h => ((s_42 h).gN hg).put (by decide) _), (fun h => ((s_43 h).gN hg).put (by decide) _), (fun h => ((s_44 h).gN hg).put (by decide) _), (fun h => ((s_45 h).gN hg).put (by decide) _), (so s_46), (so s_47), (so s_48), (so s_49), (so s_50), (so s_51), (so s_52), (so s_53), (fun h => ((s_54 h).gN hg).put (by decide) _), (fun h => ((s_55 h).gN hg).put (by decide) _), (so s_56), (so s_57), (so s_58), (so s_59), (so s_60), (so s_61), (so s_62), (so s_63), (so s_64), (so s_65), (so s_66), (so s_67), (so s_68), (so s_69), (so s_70), (so s_71), (so s_72), (so s_73), (so s_74), (so s_75), (so s_76), (so s_77), (so s_0)⟩
    | 10, _ =>
      obtain rfl := Option.some.inj (show some _ = some o from ho); clear ho
      have v34 := s_34 (dp hdep 5)
      obtain ⟨Ap7r4, cp7r4, Aj7r4, cj7r4, v36, o_7_0, o_7_1⟩ := s_36 (dp hdep 7)
      obtain ⟨Ap9r4, cp9r4, Aj9r4, cj9r4, v38, o_9_0, o_9_1⟩ := s_38 (dp hdep 9)
      refine dj_call (i := 10) (f := 32) (args := #[.agg #[.slice Ap7r4 (ofS [1002, 0]).rs.length cp7r4, .slice Aj7r4 (ofS [1002, 0]).bs.length cj7r4], .agg #[.slice Ap9r4 (ofS [1001, 0]).rs.length cp9r4, .slice Aj9r4 (ofS [1001, 0]).bs.length cj9r4], .bool false]) rfl (.inr ⟨5, true, 34, rfl, by kernel_rfl, v34⟩) (ev_fn rfl (mp3 v36.eval v38.eval (ec ac (.bool false))) (by kernel_rfl) _ rfl) (drops_any Ap7r4 cp7r4 Aj7r4 cj7r4 (ofS [1002, 0]).rs (ofS [1002, 0]).bs Ap9r4 cp9r4 Aj9r4 cj9r4 (ofS [1001, 0]).rs (ofS [1001, 0]).bs false _ ⟨(OwnR.gr (e := 3) ⟨rfl, o_7_0⟩), (OwnR.gr (e := 4) ⟨rfl, o_7_1⟩)⟩ ⟨(OwnR.gr (e := 3) ⟨rfl, o_9_0⟩), (OwnR.gr (e := 4) ⟨rfl, o_9_1⟩)⟩ (by decide) (by decide)) ?_
      intro e wk10 hR
      obtain ⟨he10, hb10⟩ := hR
      rw [show (drp (ofS [1002, 0]) (ofS [1001, 0]) false) = true by kernel_rfl] at he10
      subst he10
      refine ⟨_, rfl, ?_⟩
      have hg := g0 hb10
      exact ⟨⟨_, rfl⟩, (Below.gN bl hg bl.size), (Nat.le_trans sz hg.size), (b_B8.gN hg), (Own.gN p_0 hg), (Own.gN p_1 hg), (fun h => ((s_29 h).gN hg).put (by decide) _), (fun h => ((s_30 h).gN hg).put (by decide) _), (fun h => ((s_31 h).gN hg).put (by decide) _), (fun h => ((s_32 h).gN hg).put (by decide) _), (so s_33), (so s_34), (fun h => ((s_35 h).gN hg).put (by decide) _), (fun h => ((s_36 h).gN hg).put (by decide) _), (fun h => ((s_37 h).gN hg).put (by decide) _), (fun h => ((s_38 h).gN hg).put (by decide) _), (fun _ => Sv.self (by rw [zq]; decide) _), (so s_40), (so s_41), (fun h => ((s_42 h).gN hg).put (by decide) _), (fun h => ((s_43 h).gN hg).put (by decide) _), (fun h => ((s_44 h).gN hg).put (by decide) _), (fun h => ((s_45 h).gN hg).put (by decide) _), (so s_46), (so s_47), (so s_48), (so s_49), (so s_50), (so s_51), (so s_52), (so s_53), (fun h => ((s_54 h).gN hg).put (by decide) _), (fun h => ((s_55 h).gN hg).put (by decide) _), (so s_56), (so s_57), (so s_58), (so s_59), (so s_60), (so s_61), (so s_62), (so s_63), (so s_64), (so s_65), (so s_66), (so s_67), (so s_68), (so s_69), (so s_70), (so s_71), (so s_72), (so s_73), (so s_74), (so s_75), (so s_76), (so s_77), (so s_0)⟩
    | 11, _ =>
      obtain rfl := Option.some.inj (show some _ = some o from ho); clear ho
      have v34 := s_34 (dp hdep 5)
      have v39 := s_39 (dp hdep 10)
      refine dj_val (i := 11) (v := .bool true) rfl (.inl rfl) (ev_pickT v34.eval v39.eval _ rfl) ?_
      exact ⟨⟨_, rfl⟩, bl, sz, b_B8, p_0, p_1, (fun h => (s_29 h).put (by decide) _), (fun h => (s_30 h).put (by decide) _), (fun h => (s_31 h).put (by decide) _), (fun h => (s_32 h).put (by decide) _), (so s_33), (so s_34), (fun h => (s_35 h).put (by decide) _), (fun h => (s_36 h).put (by decide) _), (fun h => (s_37 h).put (by decide) _), (fun h => (s_38 h).put (by decide) _), (so s_39), (fun _ => Sv.self (by rw [zq]; decide) _), (so s_41), (fun h => (s_42 h).put (by decide) _), (fun h => (s_43 h).put (by decide) _), (fun h => (s_44 h).put (by decide) _), (fun h => (s_45 h).put (by decide) _), (so s_46), (so s_47), (so s_48), (so s_49), (so s_50), (so s_51), (so s_52), (so s_53), (fun h => (s_54 h).put (by decide) _), (fun h => (s_55 h).put (by decide) _), (so s_56), (so s_57), (so s_58), (so s_59), (so s_60), (so s_61), (so s_62), (so s_63), (so s_64), (so s_65), (so s_66), (so s_67), (so s_68), (so s_69), (so s_70), (so s_71), (so s_72), (so s_73), (so s_74), (so s_75), (so s_76), (so s_77), (so s_0)⟩
    | 12, _ =>
      obtain rfl := Option.some.inj (show some _ = some o from ho); clear ho
      have v40 := s_40 (dp hdep 11)
      refine dj_val (i := 12) (v := .bool true) rfl (.inl rfl) (ev_move v40.eval _ rfl) ?_
      exact ⟨⟨_, rfl⟩, bl, sz, b_B8, p_0, p_1, (fun h => (s_29 h).put (by decide) _), (fun h => (s_30 h).put (by decide) _), (fun h => (s_31 h).put (by decide) _), (fun h => (s_32 h).put (by decide) _), (so s_33), (so s_34), (fun h => (s_35 h).put (by decide) _), (fun h => (s_36 h).put (by decide) _), (fun h => (s_37 h).put (by decide) _), (fun h => (s_38 h).put (by decide) _), (so s_39), (so s_40), (fun _ => Sv.self (by rw [zq]; decide) _), (fun h => (s_42 h).put (by decide) _), (fun h => (s_43 h).put (by decide) _), (fun h => (s_44 h).put (by decide) _), (fun h => (s_45 h).put (by decide) _), (so s_46), (so s_47), (so s_48), (so s_49), (so s_50), (so s_51), (so s_52), (so s_53), (fun h => (s_54 h).put (by decide) _), (fun h => (s_55 h).put (by decide) _), (so s_56), (so s_57), (so s_58), (so s_59), (so s_60), (so s_61), (so s_62), (so s_63), (so s_64), (so s_65), (so s_66), (so s_67), (so s_68), (so s_69), (so s_70), (so s_71), (so s_72), (so s_73), (so s_74), (so s_75), (so s_76), (so s_77), (so s_0)⟩
    | 13, _ =>
      obtain rfl := Option.some.inj (show some _ = some o from ho); clear ho
      have v41 := s_41 (dp hdep 12)
      refine dj_val (i := 13) rfl (.inr ⟨12, true, 41, rfl, by kernel_rfl, v41⟩) (w' := wc.alloc (.cells (flat iva [1000, 0]).toArray 3)) (v := .slice (some ⟨wc.heap.size, 0, none⟩) 2 2) (bsI2 (ec ac (.int .i64 1000)) (ec ac (.int .i64 0)) _ rfl) ?_
      have hown := Own.mono (Own.bxn (n := 2) (xs := [1000, 0]) (show Bx _ _ _ (flat iva [1000, 0]).toArray from Bx.new wc 3 (flat iva [1000, 0]).toArray) iva_sz rfl (by decide)) sz
      have hg := g0 (al wc (.cells (flat iva [1000, 0]).toArray 3))
      exact ⟨⟨_, rfl⟩, (Below.gN bl hg bl.size), (Nat.le_trans sz hg.size), (b_B8.gN hg), (Own.gN p_0 hg), (Own.gN p_1 hg), (fun h => ((s_29 h).gN hg).put (by decide) _), (fun h => ((s_30 h).gN hg).put (by decide) _), (fun h => ((s_31 h).gN hg).put (by decide) _), (fun h => ((s_32 h).gN hg).put (by decide) _), (so s_33), (so s_34), (fun h => ((s_35 h).gN hg).put (by decide) _), (fun h => ((s_36 h).gN hg).put (by decide) _), (fun h => ((s_37 h).gN hg).put (by decide) _), (fun h => ((s_38 h).gN hg).put (by decide) _), (so s_39), (so s_40), (so s_41), (fun _ => ⟨wc.heap.size, Sv.self (by rw [zq]; decide) _, hown⟩), (fun h => ((s_43 h).gN hg).put (by decide) _), (fun h => ((s_44 h).gN hg).put (by decide) _), (fun h => ((s_45 h).gN hg).put (by decide) _), (so s_46), (so s_47), (so s_48), (so s_49), (so s_50), (so s_51), (so s_52), (so s_53), (fun h => ((s_54 h).gN hg).put (by decide) _), (fun h => ((s_55 h).gN hg).put (by decide) _), (so s_56), (so s_57), (so s_58), (so s_59), (so s_60), (so s_61), (so s_62), (so s_63), (so s_64), (so s_65), (so s_66), (so s_67), (so s_68), (so s_69), (so s_70), (so s_71), (so s_72), (so s_73), (so s_74), (so s_75), (so s_76), (so s_77), (so s_0)⟩
    | 14, _ =>
      obtain rfl := Option.some.inj (show some _ = some o from ho); clear ho
      have v41 := s_41 (dp hdep 12)
      obtain ⟨G13r4, v42, a_13⟩ := s_42 (dp hdep 13)
      refine dj_call (i := 14) (f := 30) (args := #[.slice (some ⟨G13r4, 0, none⟩) 2 2]) rfl (.inr ⟨12, true, 41, rfl, by kernel_rfl, v41⟩) (ev_fn rfl (mp1 v42.eval) (by kernel_rfl) _ rfl) (of_any (some ⟨G13r4, 0, none⟩) 2 [1000, 0] _ (OwnR.gr (e := 3) ⟨rfl, a_13⟩) (by decide) (by decide)) ?_
      intro e wk14 hR
      obtain ⟨Ap14r4, cp14r4, Aj14r4, cj14r4, rfl, hC14, hJ14, hb14⟩ := hR
      refine ⟨_, rfl, ?_⟩
      have hg := g0 hb14
      have hraw0 := hC14
      have hown0 := Own.mono (hC14) sz
      have hraw1 := hJ14
      have hown1 := Own.mono (hJ14) sz
      exact ⟨⟨_, rfl⟩, (Below.gN bl hg bl.size), (Nat.le_trans sz hg.size), (b_B8.gN hg), (Own.gN p_0 hg), (Own.gN p_1 hg), (fun h => ((s_29 h).gN hg).put (by decide) _), (fun h => ((s_30 h).gN hg).put (by decide) _), (fun h => ((s_31 h).gN hg).put (by decide) _), (fun h => ((s_32 h).gN hg).put (by decide) _), (so s_33), (so s_34), (fun h => ((s_35 h).gN hg).put (by decide) _), (fun h => ((s_36 h).gN hg).put (by decide) _), (fun h => ((s_37 h).gN hg).put (by decide) _), (fun h => ((s_38 h).gN hg).put (by decide) _), (so s_39), (so s_40), (so s_41), (fun h => ((s_42 h).gN hg).put (by decide) _), (fun _ => ⟨Ap14r4, cp14r4, Aj14r4, cj14r4, Sv.self (by rw [zq]; decide) _, hown0, hown1⟩), (fun h => ((s_44 h).gN hg).put (by decide) _), (fun h => ((s_45 h).gN hg).put (by decide) _), (so s_46), (so s_47), (so s_48), (so s_49), (so s_50), (so s_51), (so s_52), (so s_53), (fun h => ((s_54 h).gN hg).put (by decide) _), (fun h => ((s_55 h).gN hg).put (by decide) _), (so s_56), (so s_57), (so s_58), (so s_59), (so s_60), (so s_61), (so s_62), (so s_63), (so s_64), (so s_65), (so s_66), (so s_67), (so s_68), (so s_69), (so s_70), (so s_71), (so s_72), (so s_73), (so s_74), (so s_75), (so s_76), (so s_77), (so s_0)⟩
    | 15, _ =>
      obtain rfl := Option.some.inj (show some _ = some o from ho); clear ho
      have v41 := s_41 (dp hdep 12)
      refine dj_val (i := 15) rfl (.inr ⟨12, true, 41, rfl, by kernel_rfl, v41⟩) (w' := wc.alloc (.cells (flat iva [0, 0]).toArray 3)) (v := .slice (some ⟨wc.heap.size, 0, none⟩) 2 2) (bsI2 (ec ac (.int .i64 0)) (ec ac (.int .i64 0)) _ rfl) ?_
      have hown := Own.mono (Own.bxn (n := 2) (xs := [0, 0]) (show Bx _ _ _ (flat iva [0, 0]).toArray from Bx.new wc 3 (flat iva [0, 0]).toArray) iva_sz rfl (by decide)) sz
      have hg := g0 (al wc (.cells (flat iva [0, 0]).toArray 3))
      exact ⟨⟨_, rfl⟩, (Below.gN bl hg bl.size), (Nat.le_trans sz hg.size), (b_B8.gN hg), (Own.gN p_0 hg), (Own.gN p_1 hg), (fun h => ((s_29 h).gN hg).put (by decide) _), (fun h => ((s_30 h).gN hg).put (by decide) _), (fun h => ((s_31 h).gN hg).put (by decide) _), (fun h => ((s_32 h).gN hg).put (by decide) _), (so s_33), (so s_34), (fun h => ((s_35 h).gN hg).put (by decide) _), (fun h => ((s_36 h).gN hg).put (by decide) _), (fun h => ((s_37 h).gN hg).put (by decide) _), (fun h => ((s_38 h).gN hg).put (by decide) _), (so s_39), (so s_40), (so s_41), (fun h => ((s_42 h).gN hg).put (by decide) _), (fun h => ((s_43 h).gN hg).put (by decide) _), (fun _ => ⟨wc.heap.size, Sv.self (by rw [zq]; decide) _, hown⟩), (fun h => ((s_45 h).gN hg).put (by decide) _), (so s_46), (so s_47), (so s_48), (so s_49), (so s_50), (so s_51), (so s_52), (so s_53), (fun h => ((s_54 h).gN hg).put (by decide) _), (fun h => ((s_55 h).gN hg).put (by decide) _), (so s_56), (so s_57), (so s_58), (so s_59), (so s_60), (so s_61), (so s_62), (so s_63), (so s_64), (so s_65), (so s_66), (so s_67), (so s_68), (so s_69), (so s_70), (so s_71), (so s_72), (so s_73), (so s_74), (so s_75), (so s_76), (so s_77), (so s_0)⟩
    | 16, _ =>
      obtain rfl := Option.some.inj (show some _ = some o from ho); clear ho
      have v41 := s_41 (dp hdep 12)
      obtain ⟨G15r4, v44, a_15⟩ := s_44 (dp hdep 15)
      refine dj_call (i := 16) (f := 30) (args := #[.slice (some ⟨G15r4, 0, none⟩) 2 2]) rfl (.inr ⟨12, true, 41, rfl, by kernel_rfl, v41⟩) (ev_fn rfl (mp1 v44.eval) (by kernel_rfl) _ rfl) (of_any (some ⟨G15r4, 0, none⟩) 2 [0, 0] _ (OwnR.gr (e := 3) ⟨rfl, a_15⟩) (by decide) (by decide)) ?_
      intro e wk16 hR
      obtain ⟨Ap16r4, cp16r4, Aj16r4, cj16r4, rfl, hC16, hJ16, hb16⟩ := hR
      refine ⟨_, rfl, ?_⟩
      have hg := g0 hb16
      have hraw0 := hC16
      have hown0 := Own.mono (hC16) sz
      have hraw1 := hJ16
      have hown1 := Own.mono (hJ16) sz
      exact ⟨⟨_, rfl⟩, (Below.gN bl hg bl.size), (Nat.le_trans sz hg.size), (b_B8.gN hg), (Own.gN p_0 hg), (Own.gN p_1 hg), (fun h => ((s_29 h).gN hg).put (by decide) _), (fun h => ((s_30 h).gN hg).put (by decide) _), (fun h => ((s_31 h).gN hg).put (by decide) _), (fun h => ((s_32 h).gN hg).put (by decide) _), (so s_33), (so s_34), (fun h => ((s_35 h).gN hg).put (by decide) _), (fun h => ((s_36 h).gN hg).put (by decide) _), (fun h => ((s_37 h).gN hg).put (by decide) _), (fun h => ((s_38 h).gN hg).put (by decide) _), (so s_39), (so s_40), (so s_41), (fun h => ((s_42 h).gN hg).put (by decide) _), (fun h => ((s_43 h).gN hg).put (by decide) _), (fun h => ((s_44 h).gN hg).put (by decide) _), (fun _ => ⟨Ap16r4, cp16r4, Aj16r4, cj16r4, Sv.self (by rw [zq]; decide) _, hown0, hown1⟩), (so s_46), (so s_47), (so s_48), (so s_49), (so s_50), (so s_51), (so s_52), (so s_53), (fun h => ((s_54 h).gN hg).put (by decide) _), (fun h => ((s_55 h).gN hg).put (by decide) _), (so s_56), (so s_57), (so s_58), (so s_59), (so s_60), (so s_61), (so s_62), (so s_63), (so s_64), (so s_65), (so s_66), (so s_67), (so s_68), (so s_69), (so s_70), (so s_71), (so s_72), (so s_73), (so s_74), (so s_75), (so s_76), (so s_77), (so s_0)⟩
    | 17, _ =>
      obtain rfl := Option.some.inj (show some _ = some o from ho); clear ho
      have v41 := s_41 (dp hdep 12)
      obtain ⟨Ap14r4, cp14r4, Aj14r4, cj14r4, v43, o_14_0, o_14_1⟩ := s_43 (dp hdep 14)
      obtain ⟨Ap16r4, cp16r4, Aj16r4, cj16r4, v45, o_16_0, o_16_1⟩ := s_45 (dp hdep 16)
      refine dj_call (i := 17) (f := 33) (args := #[.agg #[.slice Ap14r4 (ofS [1000, 0]).rs.length cp14r4, .slice Aj14r4 (ofS [1000, 0]).bs.length cj14r4], .agg #[.slice Ap16r4 (ofS [0, 0]).rs.length cp16r4, .slice Aj16r4 (ofS [0, 0]).bs.length cj16r4], .bool true]) rfl (.inr ⟨12, true, 41, rfl, by kernel_rfl, v41⟩) (ev_fn rfl (mp3 v43.eval v45.eval (ec ac (.bool true))) (by kernel_rfl) _ rfl) (settles_any Ap14r4 cp14r4 Aj14r4 cj14r4 (ofS [1000, 0]).rs (ofS [1000, 0]).bs Ap16r4 cp16r4 Aj16r4 cj16r4 (ofS [0, 0]).rs (ofS [0, 0]).bs true _ ⟨(OwnR.gr (e := 3) ⟨rfl, o_14_0⟩), (OwnR.gr (e := 4) ⟨rfl, o_14_1⟩)⟩ ⟨(OwnR.gr (e := 3) ⟨rfl, o_16_0⟩), (OwnR.gr (e := 4) ⟨rfl, o_16_1⟩)⟩ (by decide) (by decide)) ?_
      intro e wk17 hR
      obtain ⟨he17, hb17⟩ := hR
      rw [show (stt (ofS [1000, 0]) (ofS [0, 0]) true) = true by kernel_rfl] at he17
      subst he17
      refine ⟨_, rfl, ?_⟩
      have hg := g0 hb17
      exact ⟨⟨_, rfl⟩, (Below.gN bl hg bl.size), (Nat.le_trans sz hg.size), (b_B8.gN hg), (Own.gN p_0 hg), (Own.gN p_1 hg), (fun h => ((s_29 h).gN hg).put (by decide) _), (fun h => ((s_30 h).gN hg).put (by decide) _), (fun h => ((s_31 h).gN hg).put (by decide) _), (fun h => ((s_32 h).gN hg).put (by decide) _), (so s_33), (so s_34), (fun h => ((s_35 h).gN hg).put (by decide) _), (fun h => ((s_36 h).gN hg).put (by decide) _), (fun h => ((s_37 h).gN hg).put (by decide) _), (fun h => ((s_38 h).gN hg).put (by decide) _), (so s_39), (so s_40), (so s_41), (fun h => ((s_42 h).gN hg).put (by decide) _), (fun h => ((s_43 h).gN hg).put (by decide) _), (fun h => ((s_44 h).gN hg).put (by decide) _), (fun h => ((s_45 h).gN hg).put (by decide) _), (fun _ => Sv.self (by rw [zq]; decide) _), (so s_47), (so s_48), (so s_49), (so s_50), (so s_51), (so s_52), (so s_53), (fun h => ((s_54 h).gN hg).put (by decide) _), (fun h => ((s_55 h).gN hg).put (by decide) _), (so s_56), (so s_57), (so s_58), (so s_59), (so s_60), (so s_61), (so s_62), (so s_63), (so s_64), (so s_65), (so s_66), (so s_67), (so s_68), (so s_69), (so s_70), (so s_71), (so s_72), (so s_73), (so s_74), (so s_75), (so s_76), (so s_77), (so s_0)⟩
    | 18, _ =>
      obtain rfl := Option.some.inj (show some _ = some o from ho); clear ho
      have v41 := s_41 (dp hdep 12)
      have v46 := s_46 (dp hdep 17)
      refine dj_val (i := 18) (v := .bool true) rfl (.inl rfl) (ev_pickT v41.eval v46.eval _ rfl) ?_
      exact ⟨⟨_, rfl⟩, bl, sz, b_B8, p_0, p_1, (fun h => (s_29 h).put (by decide) _), (fun h => (s_30 h).put (by decide) _), (fun h => (s_31 h).put (by decide) _), (fun h => (s_32 h).put (by decide) _), (so s_33), (so s_34), (fun h => (s_35 h).put (by decide) _), (fun h => (s_36 h).put (by decide) _), (fun h => (s_37 h).put (by decide) _), (fun h => (s_38 h).put (by decide) _), (so s_39), (so s_40), (so s_41), (fun h => (s_42 h).put (by decide) _), (fun h => (s_43 h).put (by decide) _), (fun h => (s_44 h).put (by decide) _), (fun h => (s_45 h).put (by decide) _), (so s_46), (fun _ => Sv.self (by rw [zq]; decide) _), (so s_48), (so s_49), (so s_50), (so s_51), (so s_52), (so s_53), (fun h => (s_54 h).put (by decide) _), (fun h => (s_55 h).put (by decide) _), (so s_56), (so s_57), (so s_58), (so s_59), (so s_60), (so s_61), (so s_62), (so s_63), (so s_64), (so s_65), (so s_66), (so s_67), (so s_68), (so s_69), (so s_70), (so s_71), (so s_72), (so s_73), (so s_74), (so s_75), (so s_76), (so s_77), (so s_0)⟩
    | 19, _ =>
      obtain rfl := Option.some.inj (show some _ = some o from ho); clear ho
      have v47 := s_47 (dp hdep 18)
      refine dj_val (i := 19) (v := .bool true) rfl (.inl rfl) (ev_move v47.eval _ rfl) ?_
      exact ⟨⟨_, rfl⟩, bl, sz, b_B8, p_0, p_1, (fun h => (s_29 h).put (by decide) _), (fun h => (s_30 h).put (by decide) _), (fun h => (s_31 h).put (by decide) _), (fun h => (s_32 h).put (by decide) _), (so s_33), (so s_34), (fun h => (s_35 h).put (by decide) _), (fun h => (s_36 h).put (by decide) _), (fun h => (s_37 h).put (by decide) _), (fun h => (s_38 h).put (by decide) _), (so s_39), (so s_40), (so s_41), (fun h => (s_42 h).put (by decide) _), (fun h => (s_43 h).put (by decide) _), (fun h => (s_44 h).put (by decide) _), (fun h => (s_45 h).put (by decide) _), (so s_46), (so s_47), (fun _ => Sv.self (by rw [zq]; decide) _), (so s_49), (so s_50), (so s_51), (so s_52), (so s_53), (fun h => (s_54 h).put (by decide) _), (fun h => (s_55 h).put (by decide) _), (so s_56), (so s_57), (so s_58), (so s_59), (so s_60), (so s_61), (so s_62), (so s_63), (so s_64), (so s_65), (so s_66), (so s_67), (so s_68), (so s_69), (so s_70), (so s_71), (so s_72), (so s_73), (so s_74), (so s_75), (so s_76), (so s_77), (so s_0)⟩
    | 20, _ =>
      obtain rfl := Option.some.inj (show some _ = some o from ho); clear ho
      have v48 := s_48 (dp hdep 19)
      have v2 := hF.sv (s := 2) (by kernel_rfl) (hA30.get (i := 2) (v := .int .i64 (rff (ofS [2, 0]) 0).2))
      refine dj_val (i := 20) (v := .int .i64 (rff (ofS [2, 0]) 0).2) rfl (.inr ⟨19, true, 48, rfl, by kernel_rfl, v48⟩) (ev_move v2.eval _ rfl) ?_
      exact ⟨⟨_, rfl⟩, bl, sz, b_B8, p_0, p_1, (fun h => (s_29 h).put (by decide) _), (fun h => (s_30 h).put (by decide) _), (fun h => (s_31 h).put (by decide) _), (fun h => (s_32 h).put (by decide) _), (so s_33), (so s_34), (fun h => (s_35 h).put (by decide) _), (fun h => (s_36 h).put (by decide) _), (fun h => (s_37 h).put (by decide) _), (fun h => (s_38 h).put (by decide) _), (so s_39), (so s_40), (so s_41), (fun h => (s_42 h).put (by decide) _), (fun h => (s_43 h).put (by decide) _), (fun h => (s_44 h).put (by decide) _), (fun h => (s_45 h).put (by decide) _), (so s_46), (so s_47), (so s_48), (fun _ => Sv.self (by rw [zq]; decide) _), (so s_50), (so s_51), (so s_52), (so s_53), (fun h => (s_54 h).put (by decide) _), (fun h => (s_55 h).put (by decide) _), (so s_56), (so s_57), (so s_58), (so s_59), (so s_60), (so s_61), (so s_62), (so s_63), (so s_64), (so s_65), (so s_66), (so s_67), (so s_68), (so s_69), (so s_70), (so s_71), (so s_72), (so s_73), (so s_74), (so s_75), (so s_76), (so s_77), (so s_0)⟩
    | 21, _ =>
      obtain rfl := Option.some.inj (show some _ = some o from ho); clear ho
      have v48 := s_48 (dp hdep 19)
      have v49 := s_49 (dp hdep 20)
      refine dj_val (i := 21) (v := .bool true) rfl (.inr ⟨19, true, 48, rfl, by kernel_rfl, v48⟩) (ev_eqlB (k := .i64) (m := (rff (ofS [2, 0]) 0).2) (n := 0) v49.eval (ec ac (.int .i64 0)) (by kernel_rfl) _ rfl) ?_
      exact ⟨⟨_, rfl⟩, bl, sz, b_B8, p_0, p_1, (fun h => (s_29 h).put (by decide) _), (fun h => (s_30 h).put (by decide) _), (fun h => (s_31 h).put (by decide) _), (fun h => (s_32 h).put (by decide) _), (so s_33), (so s_34), (fun h => (s_35 h).put (by decide) _), (fun h => (s_36 h).put (by decide) _), (fun h => (s_37 h).put (by decide) _), (fun h => (s_38 h).put (by decide) _), (so s_39), (so s_40), (so s_41), (fun h => (s_42 h).put (by decide) _), (fun h => (s_43 h).put (by decide) _), (fun h => (s_44 h).put (by decide) _), (fun h => (s_45 h).put (by decide) _), (so s_46), (so s_47), (so s_48), (so s_49), (fun _ => Sv.self (by rw [zq]; decide) _), (so s_51), (so s_52), (so s_53), (fun h => (s_54 h).put (by decide) _), (fun h => (s_55 h).put (by decide) _), (so s_56), (so s_57), (so s_58), (so s_59), (so s_60), (so s_61), (so s_62), (so s_63), (so s_64), (so s_65), (so s_66), (so s_67), (so s_68), (so s_69), (so s_70), (so s_71), (so s_72), (so s_73), (so s_74), (so s_75), (so s_76), (so s_77), (so s_0)⟩
    | 22, _ =>
      obtain rfl := Option.some.inj (show some _ = some o from ho); clear ho
      have v48 := s_48 (dp hdep 19)
      have v50 := s_50 (dp hdep 21)
      refine dj_val (i := 22) (v := .bool true) rfl (.inl rfl) (ev_pickT v48.eval v50.eval _ rfl) ?_
      exact ⟨⟨_, rfl⟩, bl, sz, b_B8, p_0, p_1, (fun h => (s_29 h).put (by decide) _), (fun h => (s_30 h).put (by decide) _), (fun h => (s_31 h).put (by decide) _), (fun h => (s_32 h).put (by decide) _), (so s_33), (so s_34), (fun h => (s_35 h).put (by decide) _), (fun h => (s_36 h).put (by decide) _), (fun h => (s_37 h).put (by decide) _), (fun h => (s_38 h).put (by decide) _), (so s_39), (so s_40), (so s_41), (fun h => (s_42 h).put (by decide) _), (fun h => (s_43 h).put (by decide) _), (fun h => (s_44 h).put (by decide) _), (fun h => (s_45 h).put (by decide) _), (so s_46), (so s_47), (so s_48), (so s_49), (so s_50), (fun _ => Sv.self (by rw [zq]; decide) _), (so s_52), (so s_53), (fun h => (s_54 h).put (by decide) _), (fun h => (s_55 h).put (by decide) _), (so s_56), (so s_57), (so s_58), (so s_59), (so s_60), (so s_61), (so s_62), (so s_63), (so s_64), (so s_65), (so s_66), (so s_67), (so s_68), (so s_69), (so s_70), (so s_71), (so s_72), (so s_73), (so s_74), (so s_75), (so s_76), (so s_77), (so s_0)⟩
    | 23, _ =>
      obtain rfl := Option.some.inj (show some _ = some o from ho); clear ho
      have v51 := s_51 (dp hdep 22)
      refine dj_val (i := 23) (v := .bool true) rfl (.inl rfl) (ev_move v51.eval _ rfl) ?_
      exact ⟨⟨_, rfl⟩, bl, sz, b_B8, p_0, p_1, (fun h => (s_29 h).put (by decide) _), (fun h => (s_30 h).put (by decide) _), (fun h => (s_31 h).put (by decide) _), (fun h => (s_32 h).put (by decide) _), (so s_33), (so s_34), (fun h => (s_35 h).put (by decide) _), (fun h => (s_36 h).put (by decide) _), (fun h => (s_37 h).put (by decide) _), (fun h => (s_38 h).put (by decide) _), (so s_39), (so s_40), (so s_41), (fun h => (s_42 h).put (by decide) _), (fun h => (s_43 h).put (by decide) _), (fun h => (s_44 h).put (by decide) _), (fun h => (s_45 h).put (by decide) _), (so s_46), (so s_47), (so s_48), (so s_49), (so s_50), (so s_51), (fun _ => Sv.self (by rw [zq]; decide) _), (so s_53), (fun h => (s_54 h).put (by decide) _), (fun h => (s_55 h).put (by decide) _), (so s_56), (so s_57), (so s_58), (so s_59), (so s_60), (so s_61), (so s_62), (so s_63), (so s_64), (so s_65), (so s_66), (so s_67), (so s_68), (so s_69), (so s_70), (so s_71), (so s_72), (so s_73), (so s_74), (so s_75), (so s_76), (so s_77), (so s_0)⟩
    | 24, _ =>
      obtain rfl := Option.some.inj (show some _ = some o from ho); clear ho
      have v52 := s_52 (dp hdep 23)
      have v1 := hF.sv (s := 1) (by kernel_rfl) (hA30.get (i := 1) (v := .pointer (some ⟨B8, 0, none⟩)))
      refine dj_val (i := 24) (v := .agg #[.slice Ap4 (rff (ofS [2, 0]) 0).1.rs.length cp4, .slice Aj4 (rff (ofS [2, 0]) 0).1.bs.length cj4]) rfl (.inr ⟨23, true, 52, rfl, by kernel_rfl, v52⟩) (ev_row v1.eval b_B8 Try.underlying25 rfl (n := 2) (by kernel_rfl) rfl _ rfl) ?_
      exact ⟨⟨_, rfl⟩, bl, sz, b_B8, p_0, p_1, (fun h => (s_29 h).put (by decide) _), (fun h => (s_30 h).put (by decide) _), (fun h => (s_31 h).put (by decide) _), (fun h => (s_32 h).put (by decide) _), (so s_33), (so s_34), (fun h => (s_35 h).put (by decide) _), (fun h => (s_36 h).put (by decide) _), (fun h => (s_37 h).put (by decide) _), (fun h => (s_38 h).put (by decide) _), (so s_39), (so s_40), (so s_41), (fun h => (s_42 h).put (by decide) _), (fun h => (s_43 h).put (by decide) _), (fun h => (s_44 h).put (by decide) _), (fun h => (s_45 h).put (by decide) _), (so s_46), (so s_47), (so s_48), (so s_49), (so s_50), (so s_51), (so s_52), (fun _ => Sv.self (by rw [zq]; decide) _), (fun h => (s_54 h).put (by decide) _), (fun h => (s_55 h).put (by decide) _), (so s_56), (so s_57), (so s_58), (so s_59), (so s_60), (so s_61), (so s_62), (so s_63), (so s_64), (so s_65), (so s_66), (so s_67), (so s_68), (so s_69), (so s_70), (so s_71), (so s_72), (so s_73), (so s_74), (so s_75), (so s_76), (so s_77), (so s_0)⟩
    | 25, _ =>
      obtain rfl := Option.some.inj (show some _ = some o from ho); clear ho
      have v52 := s_52 (dp hdep 23)
      refine dj_val (i := 25) rfl (.inr ⟨23, true, 52, rfl, by kernel_rfl, v52⟩) (w' := wc.alloc (.cells (flat iva [3, 0]).toArray 3)) (v := .slice (some ⟨wc.heap.size, 0, none⟩) 2 2) (bsI2 (ec ac (.int .i64 3)) (ec ac (.int .i64 0)) _ rfl) ?_
      have hown := Own.mono (Own.bxn (n := 2) (xs := [3, 0]) (show Bx _ _ _ (flat iva [3, 0]).toArray from Bx.new wc 3 (flat iva [3, 0]).toArray) iva_sz rfl (by decide)) sz
      have hg := g0 (al wc (.cells (flat iva [3, 0]).toArray 3))
      exact ⟨⟨_, rfl⟩, (Below.gN bl hg bl.size), (Nat.le_trans sz hg.size), (b_B8.gN hg), (Own.gN p_0 hg), (Own.gN p_1 hg), (fun h => ((s_29 h).gN hg).put (by decide) _), (fun h => ((s_30 h).gN hg).put (by decide) _), (fun h => ((s_31 h).gN hg).put (by decide) _), (fun h => ((s_32 h).gN hg).put (by decide) _), (so s_33), (so s_34), (fun h => ((s_35 h).gN hg).put (by decide) _), (fun h => ((s_36 h).gN hg).put (by decide) _), (fun h => ((s_37 h).gN hg).put (by decide) _), (fun h => ((s_38 h).gN hg).put (by decide) _), (so s_39), (so s_40), (so s_41), (fun h => ((s_42 h).gN hg).put (by decide) _), (fun h => ((s_43 h).gN hg).put (by decide) _), (fun h => ((s_44 h).gN hg).put (by decide) _), (fun h => ((s_45 h).gN hg).put (by decide) _), (so s_46), (so s_47), (so s_48), (so s_49), (so s_50), (so s_51), (so s_52), (so s_53), (fun _ => ⟨wc.heap.size, Sv.self (by rw [zq]; decide) _, hown⟩), (fun h => ((s_55 h).gN hg).put (by decide) _), (so s_56), (so s_57), (so s_58), (so s_59), (so s_60), (so s_61), (so s_62), (so s_63), (so s_64), (so s_65), (so s_66), (so s_67), (so s_68), (so s_69), (so s_70), (so s_71), (so s_72), (so s_73), (so s_74), (so s_75), (so s_76), (so s_77), (so s_0)⟩
    | 26, _ =>
      obtain rfl := Option.some.inj (show some _ = some o from ho); clear ho
      have v52 := s_52 (dp hdep 23)
      obtain ⟨G25r4, v54, a_25⟩ := s_54 (dp hdep 25)
      refine dj_call (i := 26) (f := 30) (args := #[.slice (some ⟨G25r4, 0, none⟩) 2 2]) rfl (.inr ⟨23, true, 52, rfl, by kernel_rfl, v52⟩) (ev_fn rfl (mp1 v54.eval) (by kernel_rfl) _ rfl) (of_any (some ⟨G25r4, 0, none⟩) 2 [3, 0] _ (OwnR.gr (e := 3) ⟨rfl, a_25⟩) (by decide) (by decide)) ?_
      intro e wk26 hR
      obtain ⟨Ap26r4, cp26r4, Aj26r4, cj26r4, rfl, hC26, hJ26, hb26⟩ := hR
      refine ⟨_, rfl, ?_⟩
      have hg := g0 hb26
      have hraw0 := hC26
      have hown0 := Own.mono (hC26) sz
      have hraw1 := hJ26
      have hown1 := Own.mono (hJ26) sz
      exact ⟨⟨_, rfl⟩, (Below.gN bl hg bl.size), (Nat.le_trans sz hg.size), (b_B8.gN hg), (Own.gN p_0 hg), (Own.gN p_1 hg), (fun h => ((s_29 h).gN hg).put (by decide) _), (fun h => ((s_30 h).gN hg).put (by decide) _), (fun h => ((s_31 h).gN hg).put (by decide) _), (fun h => ((s_32 h).gN hg).put (by decide) _), (so s_33), (so s_34), (fun h => ((s_35 h).gN hg).put (by decide) _), (fun h => ((s_36 h).gN hg).put (by decide) _), (fun h => ((s_37 h).gN hg).put (by decide) _), (fun h => ((s_38 h).gN hg).put (by decide) _), (so s_39), (so s_40), (so s_41), (fun h => ((s_42 h).gN hg).put (by decide) _), (fun h => ((s_43 h).gN hg).put (by decide) _), (fun h => ((s_44 h).gN hg).put (by decide) _), (fun h => ((s_45 h).gN hg).put (by decide) _), (so s_46), (so s_47), (so s_48), (so s_49), (so s_50), (so s_51), (so s_52), (so s_53), (fun h => ((s_54 h).gN hg).put (by decide) _), (fun _ => ⟨Ap26r4, cp26r4, Aj26r4, cj26r4, Sv.self (by rw [zq]; decide) _, hown0, hown1⟩), (so s_56), (so s_57), (so s_58), (so s_59), (so s_60), (so s_61), (so s_62), (so s_63), (so s_64), (so s_65), (so s_66), (so s_67), (so s_68), (so s_69), (so s_70), (so s_71), (so s_72), (so s_73), (so s_74), (so s_75), (so s_76), (so s_77), (so s_0)⟩
    | 27, _ =>
      obtain rfl := Option.some.inj (show some _ = some o from ho); clear ho
      have v52 := s_52 (dp hdep 23)
      have v53 := s_53 (dp hdep 24)
      obtain ⟨Ap26r4, cp26r4, Aj26r4, cj26r4, v55, o_26_0, o_26_1⟩ := s_55 (dp hdep 26)
      refine dj_call (i := 27) (f := 13) (args := #[.agg #[.slice Ap4 (rff (ofS [2, 0]) 0).1.rs.length cp4, .slice Aj4 (rff (ofS [2, 0]) 0).1.bs.length cj4], .agg #[.slice Ap26r4 (ofS [3, 0]).rs.length cp26r4, .slice Aj26r4 (ofS [3, 0]).bs.length cj26r4]]) rfl (.inr ⟨23, true, 52, rfl, by kernel_rfl, v52⟩) (ev_fn rfl (mp2 v53.eval v55.eval) (by kernel_rfl) _ rfl) (SameSlots_any Ap4 cp4 Aj4 cj4 (rff (ofS [2, 0]) 0).1.rs (rff (ofS [2, 0]) 0).1.bs Ap26r4 cp26r4 Aj26r4 cj26r4 (ofS [3, 0]).rs (ofS [3, 0]).bs _ ⟨(OwnR.gr (e := 3) ⟨rfl, p_0⟩), (OwnR.gr (e := 4) ⟨rfl, p_1⟩)⟩ ⟨(OwnR.gr (e := 3) ⟨rfl, o_26_0⟩), (OwnR.gr (e := 4) ⟨rfl, o_26_1⟩)⟩) ?_
      intro e wk27 hR
      obtain ⟨he27, hb27⟩ := hR
      rw [show (sme (rff (ofS [2, 0]) 0).1 (ofS [3, 0])) = true by kernel_rfl] at he27
      subst he27
      refine ⟨_, rfl, ?_⟩
      have hg := g0 hb27
      exact ⟨⟨_, rfl⟩, (Below.gN bl hg bl.size), (Nat.le_trans sz hg.size), (b_B8.gN hg), (Own.gN p_0 hg), (Own.gN p_1 hg), (fun h => ((s_29 h).gN hg).put (by decide) _), (fun h => ((s_30 h).gN hg).put (by decide) _), (fun h => ((s_31 h).gN hg).put (by decide) _), (fun h => ((s_32 h).gN hg).put (by decide) _), (so s_33), (so s_34), (fun h => ((s_35 h).gN hg).put (by decide) _), (fun h => ((s_36 h).gN hg).put (by decide) _), (fun h => ((s_37 h).gN hg).put (by decide) _), (fun h => ((s_38 h).gN hg).put (by decide) _), (so s_39), (so s_40), (so s_41), (fun h => ((s_42 h).gN hg).put (by decide) _), (fun h => ((s_43 h).gN hg).put (by decide) _), (fun h => ((s_44 h).gN hg).put (by decide) _), (fun h => ((s_45 h).gN hg).put (by decide) _), (so s_46), (so s_47), (so s_48), (so s_49), (so s_50), (so s_51), (so s_52), (so s_53), (fun h => ((s_54 h).gN hg).put (by decide) _), (fun h => ((s_55 h).gN hg).put (by decide) _), (fun _ => Sv.self (by rw [zq]; decide) _), (so s_57), (so s_58), (so s_59), (so s_60), (so s_61), (so s_62), (so s_63), (so s_64), (so s_65), (so s_66), (so s_67), (so s_68), (so s_69), (so s_70), (so s_71), (so s_72), (so s_73), (so s_74), (so s_75), (so s_76), (so s_77), (so s_0)⟩
    | 28, _ =>
      obtain rfl := Option.some.inj (show some _ = some o from ho); clear ho
      have v52 := s_52 (dp hdep 23)
      have v56 := s_56 (dp hdep 27)
      refine dj_val (i := 28) (v := .bool true) rfl (.inl rfl) (ev_pickT v52.eval v56.eval _ rfl) ?_
      exact ⟨⟨_, rfl⟩, bl, sz, b_B8, p_0, p_1, (fun h => (s_29 h).put (by decide) _), (fun h => (s_30 h).put (by decide) _), (fun h => (s_31 h).put (by decide) _), (fun h => (s_32 h).put (by decide) _), (so s_33), (so s_34), (fun h => (s_35 h).put (by decide) _), (fun h => (s_36 h).put (by decide) _), (fun h => (s_37 h).put (by decide) _), (fun h => (s_38 h).put (by decide) _), (so s_39), (so s_40), (so s_41), (fun h => (s_42 h).put (by decide) _), (fun h => (s_43 h).put (by decide) _), (fun h => (s_44 h).put (by decide) _), (fun h => (s_45 h).put (by decide) _), (so s_46), (so s_47), (so s_48), (so s_49), (so s_50), (so s_51), (so s_52), (so s_53), (fun h => (s_54 h).put (by decide) _), (fun h => (s_55 h).put (by decide) _), (so s_56), (fun _ => Sv.self (by rw [zq]; decide) _), (so s_58), (so s_59), (so s_60), (so s_61), (so s_62), (so s_63), (so s_64), (so s_65), (so s_66), (so s_67), (so s_68), (so s_69), (so s_70), (so s_71), (so s_72), (so s_73), (so s_74), (so s_75), (so s_76), (so s_77), (so s_0)⟩
    | 29, _ =>
      obtain rfl := Option.some.inj (show some _ = some o from ho); clear ho
      have v57 := s_57 (dp hdep 28)
      refine dj_val (i := 29) (v := .bool true) rfl (.inl rfl) (ev_move v57.eval _ rfl) ?_
      exact ⟨⟨_, rfl⟩, bl, sz, b_B8, p_0, p_1, (fun h => (s_29 h).put (by decide) _), (fun h => (s_30 h).put (by decide) _), (fun h => (s_31 h).put (by decide) _), (fun h => (s_32 h).put (by decide) _), (so s_33), (so s_34), (fun h => (s_35 h).put (by decide) _), (fun h => (s_36 h).put (by decide) _), (fun h => (s_37 h).put (by decide) _), (fun h => (s_38 h).put (by decide) _), (so s_39), (so s_40), (so s_41), (fun h => (s_42 h).put (by decide) _), (fun h => (s_43 h).put (by decide) _), (fun h => (s_44 h).put (by decide) _), (fun h => (s_45 h).put (by decide) _), (so s_46), (so s_47), (so s_48), (so s_49), (so s_50), (so s_51), (so s_52), (so s_53), (fun h => (s_54 h).put (by decide) _), (fun h => (s_55 h).put (by decide) _), (so s_56), (so s_57), (fun _ => Sv.self (by rw [zq]; decide) _), (so s_59), (so s_60), (so s_61), (so s_62), (so s_63), (so s_64), (so s_65), (so s_66), (so s_67), (so s_68), (so s_69), (so s_70), (so s_71), (so s_72), (so s_73), (so s_74), (so s_75), (so s_76), (so s_77), (so s_0)⟩
    | 30, _ =>
      obtain rfl := Option.some.inj (show some _ = some o from ho); clear ho
      have v58 := s_58 (dp hdep 29)
      have v6 := hF.sv (s := 6) (by kernel_rfl) (hA30.get (i := 6) (v := .int .i64 (cnt (ofS [1002, 0, 1, 1000])).2.2.2))
      refine dj_val (i := 30) (v := .int .i64 (cnt (ofS [1002, 0, 1, 1000])).2.2.2) rfl (.inr ⟨29, true, 58, rfl, by kernel_rfl, v58⟩) (ev_move v6.eval _ rfl) ?_
      exact ⟨⟨_, rfl⟩, bl, sz, b_B8, p_0, p_1, (fun h => (s_29 h).put (by decide) _), (fun h => (s_30 h).put (by decide) _), (fun h => (s_31 h).put (by decide) _), (fun h => (s_32 h).put (by decide) _), (so s_33), (so s_34), (fun h => (s_35 h).put (by decide) _), (fun h => (s_36 h).put (by decide) _), (fun h => (s_37 h).put (by decide) _), (fun h => (s_38 h).put (by decide) _), (so s_39), (so s_40), (so s_41), (fun h => (s_42 h).put (by decide) _), (fun h => (s_43 h).put (by decide) _), (fun h => (s_44 h).put (by decide) _), (fun h => (s_45 h).put (by decide) _), (so s_46), (so s_47), (so s_48), (so s_49), (so s_50), (so s_51), (so s_52), (so s_53), (fun h => (s_54 h).put (by decide) _), (fun h => (s_55 h).put (by decide) _), (so s_56), (so s_57), (so s_58), (fun _ => Sv.self (by rw [zq]; decide) _), (so s_60), (so s_61), (so s_62), (so s_63), (so s_64), (so s_65), (so s_66), (so s_67), (so s_68), (so s_69), (so s_70), (so s_71), (so s_72), (so s_73), (so s_74), (so s_75), (so s_76), (so s_77), (so s_0)⟩
    | 31, _ =>
      obtain rfl := Option.some.inj (show some _ = some o from ho); clear ho
      have v58 := s_58 (dp hdep 29)
      have v59 := s_59 (dp hdep 30)
      refine dj_val (i := 31) (v := .bool true) rfl (.inr ⟨29, true, 58, rfl, by kernel_rfl, v58⟩) (ev_eqlB (k := .i64) (m := (cnt (ofS [1002, 0, 1, 1000])).2.2.2) (n := 0) v59.eval (ec ac (.int .i64 0)) (by kernel_rfl) _ rfl) ?_
      exact ⟨⟨_, rfl⟩, bl, sz, b_B8, p_0, p_1, (fun h => (s_29 h).put (by decide) _), (fun h => (s_30 h).put (by decide) _), (fun h => (s_31 h).put (by decide) _), (fun h => (s_32 h).put (by decide) _), (so s_33), (so s_34), (fun h => (s_35 h).put (by decide) _), (fun h => (s_36 h).put (by decide) _), (fun h => (s_37 h).put (by decide) _), (fun h => (s_38 h).put (by decide) _), (so s_39), (so s_40), (so s_41), (fun h => (s_42 h).put (by decide) _), (fun h => (s_43 h).put (by decide) _), (fun h => (s_44 h).put (by decide) _), (fun h => (s_45 h).put (by decide) _), (so s_46), (so s_47), (so s_48), (so s_49), (so s_50), (so s_51), (so s_52), (so s_53), (fun h => (s_54 h).put (by decide) _), (fun h => (s_55 h).put (by decide) _), (so s_56), (so s_57), (so s_58), (so s_59), (fun _ => Sv.self (by rw [zq]; decide) _), (so s_61), (so s_62), (so s_63), (so s_64), (so s_65), (so s_66), (so s_67), (so s_68), (so s_69), (so s_70), (so s_71), (so s_72), (so s_73), (so s_74), (so s_75), (so s_76), (so s_77), (so s_0)⟩
    | 32, _ =>
      obtain rfl := Option.some.inj (show some _ = some o from ho); clear ho
      have v58 := s_58 (dp hdep 29)
      have v60 := s_60 (dp hdep 31)
      refine dj_val (i := 32) (v := .bool true) rfl (.inl rfl) (ev_pickT v58.eval v60.eval _ rfl) ?_
      exact ⟨⟨_, rfl⟩, bl, sz, b_B8, p_0, p_1, (fun h => (s_29 h).put (by decide) _), (fun h => (s_30 h).put (by decide) _), (fun h => (s_31 h).put (by decide) _), (fun h => (s_32 h).put (by decide) _), (so s_33), (so s_34), (fun h => (s_35 h).put (by decide) _), (fun h => (s_36 h).put (by decide) _), (fun h => (s_37 h).put (by decide) _), (fun h => (s_38 h).put (by decide) _), (so s_39), (so s_40), (so s_41), (fun h => (s_42 h).put (by decide) _), (fun h => (s_43 h).put (by decide) _), (fun h => (s_44 h).put (by decide) _), (fun h => (s_45 h).put (by decide) _), (so s_46), (so s_47), (so s_48), (so s_49), (so s_50), (so s_51), (so s_52), (so s_53), (fun h => (s_54 h).put (by decide) _), (fun h => (s_55 h).put (by decide) _), (so s_56), (so s_57), (so s_58), (so s_59), (so s_60), (fun _ => Sv.self (by rw [zq]; decide) _), (so s_62), (so s_63), (so s_64), (so s_65), (so s_66), (so s_67), (so s_68), (so s_69), (so s_70), (so s_71), (so s_72), (so s_73), (so s_74), (so s_75), (so s_76), (so s_77), (so s_0)⟩
    | 33, _ =>
      obtain rfl := Option.some.inj (show some _ = some o from ho); clear ho
      have v61 := s_61 (dp hdep 32)
      refine dj_val (i := 33) (v := .bool true) rfl (.inl rfl) (ev_move v61.eval _ rfl) ?_
      exact ⟨⟨_, rfl⟩, bl, sz, b_B8, p_0, p_1, (fun h => (s_29 h).put (by decide) _), (fun h => (s_30 h).put (by decide) _), (fun h => (s_31 h).put (by decide) _), (fun h => (s_32 h).put (by decide) _), (so s_33), (so s_34), (fun h => (s_35 h).put (by decide) _), (fun h => (s_36 h).put (by decide) _), (fun h => (s_37 h).put (by decide) _), (fun h => (s_38 h).put (by decide) _), (so s_39), (so s_40), (so s_41), (fun h => (s_42 h).put (by decide) _), (fun h => (s_43 h).put (by decide) _), (fun h => (s_44 h).put (by decide) _), (fun h => (s_45 h).put (by decide) _), (so s_46), (so s_47), (so s_48), (so s_49), (so s_50), (so s_51), (so s_52), (so s_53), (fun h => (s_54 h).put (by decide) _), (fun h => (s_55 h).put (by decide) _), (so s_56), (so s_57), (so s_58), (so s_59), (so s_60), (so s_61), (fun _ => Sv.self (by rw [zq]; decide) _), (so s_63), (so s_64), (so s_65), (so s_66), (so s_67), (so s_68), (so s_69), (so s_70), (so s_71), (so s_72), (so s_73), (so s_74), (so s_75), (so s_76), (so s_77), (so s_0)⟩
    | 34, _ =>
      obtain rfl := Option.some.inj (show some _ = some o from ho); clear ho
      have v62 := s_62 (dp hdep 33)
      have v3 := hF.sv (s := 3) (by kernel_rfl) (hA30.get (i := 3) (v := .int .i64 (cnt (ofS [1002, 0, 1, 1000])).1))
      refine dj_val (i := 34) (v := .int .i64 (cnt (ofS [1002, 0, 1, 1000])).1) rfl (.inr ⟨33, true, 62, rfl, by kernel_rfl, v62⟩) (ev_move v3.eval _ rfl) ?_
      exact ⟨⟨_, rfl⟩, bl, sz, b_B8, p_0, p_1, (fun h => (s_29 h).put (by decide) _), (fun h => (s_30 h).put (by decide) _), (fun h => (s_31 h).put (by decide) _), (fun h => (s_32 h).put (by decide) _), (so s_33), (so s_34), (fun h => (s_35 h).put (by decide) _), (fun h => (s_36 h).put (by decide) _), (fun h => (s_37 h).put (by decide) _), (fun h => (s_38 h).put (by decide) _), (so s_39), (so s_40), (so s_41), (fun h => (s_42 h).put (by decide) _), (fun h => (s_43 h).put (by decide) _), (fun h => (s_44 h).put (by decide) _), (fun h => (s_45 h).put (by decide) _), (so s_46), (so s_47), (so s_48), (so s_49), (so s_50), (so s_51), (so s_52), (so s_53), (fun h => (s_54 h).put (by decide) _), (fun h => (s_55 h).put (by decide) _), (so s_56), (so s_57), (so s_58), (so s_59), (so s_60), (so s_61), (so s_62), (fun _ => Sv.self (by rw [zq]; decide) _), (so s_64), (so s_65), (so s_66), (so s_67), (so s_68), (so s_69), (so s_70), (so s_71), (so s_72), (so s_73), (so s_74), (so s_75), (so s_76), (so s_77), (so s_0)⟩
    | 35, _ =>
      obtain rfl := Option.some.inj (show some _ = some o from ho); clear ho
      have v62 := s_62 (dp hdep 33)
      have v63 := s_63 (dp hdep 34)
      refine dj_val (i := 35) (v := .bool true) rfl (.inr ⟨33, true, 62, rfl, by kernel_rfl, v62⟩) (ev_eqlB (k := .i64) (m := (cnt (ofS [1002, 0, 1, 1000])).1) (n := 1) v63.eval (ec ac (.int .i64 1)) (by kernel_rfl) _ rfl) ?_
      exact ⟨⟨_, rfl⟩, bl, sz, b_B8, p_0, p_1, (fun h => (s_29 h).put (by decide) _), (fun h => (s_30 h).put (by decide) _), (fun h => (s_31 h).put (by decide) _), (fun h => (s_32 h).put (by decide) _), (so s_33), (so s_34), (fun h => (s_35 h).put (by decide) _), (fun h => (s_36 h).put (by decide) _), (fun h => (s_37 h).put (by decide) _), (fun h => (s_38 h).put (by decide) _), (so s_39), (so s_40), (so s_41), (fun h => (s_42 h).put (by decide) _), (fun h => (s_43 h).put (by decide) _), (fun h => (s_44 h).put (by decide) _), (fun h => (s_45 h).put (by decide) _), (so s_46), (so s_47), (so s_48), (so s_49), (so s_50), (so s_51), (so s_52), (so s_53), (fun h => (s_54 h).put (by decide) _), (fun h => (s_55 h).put (by decide) _), (so s_56), (so s_57), (so s_58), (so s_59), (so s_60), (so s_61), (so s_62), (so s_63), (fun _ => Sv.self (by rw [zq]; decide) _), (so s_65), (so s_66), (so s_67), (so s_68), (so s_69), (so s_70), (so s_71), (so s_72), (so s_73), (so s_74), (so s_75), (so s_76), (so s_77), (so s_0)⟩
    | 36, _ =>
      obtain rfl := Option.some.inj (show some _ = some o from ho); clear ho
      have v62 := s_62 (dp hdep 33)
      have v64 := s_64 (dp hdep 35)
      refine dj_val (i := 36) (v := .bool true) rfl (.inl rfl) (ev_pickT v62.eval v64.eval _ rfl) ?_
      exact ⟨⟨_, rfl⟩, bl, sz, b_B8, p_0, p_1, (fun h => (s_29 h).put (by decide) _), (fun h => (s_30 h).put (by decide) _), (fun h => (s_31 h).put (by decide) _), (fun h => (s_32 h).put (by decide) _), (so s_33), (so s_34), (fun h => (s_35 h).put (by decide) _), (fun h => (s_36 h).put (by decide) _), (fun h => (s_37 h).put (by decide) _), (fun h => (s_38 h).put (by decide) _), (so s_39), (so s_40), (so s_41), (fun h => (s_42 h).put (by decide) _), (fun h => (s_43 h).put (by decide) _), (fun h => (s_44 h).put (by decide) _), (fun h => (s_45 h).put (by decide) _), (so s_46), (so s_47), (so s_48), (so s_49), (so s_50), (so s_51), (so s_52), (so s_53), (fun h => (s_54 h).put (by decide) _), (fun h => (s_55 h).put (by decide) _), (so s_56), (so s_57), (so s_58), (so s_59), (so s_60), (so s_61), (so s_62), (so s_63), (so s_64), (fun _ => Sv.self (by rw [zq]; decide) _), (so s_66), (so s_67), (so s_68), (so s_69), (so s_70), (so s_71), (so s_72), (so s_73), (so s_74), (so s_75), (so s_76), (so s_77), (so s_0)⟩
    | 37, _ =>
      obtain rfl := Option.some.inj (show some _ = some o from ho); clear ho
      have v65 := s_65 (dp hdep 36)
      refine dj_val (i := 37) (v := .bool true) rfl (.inl rfl) (ev_move v65.eval _ rfl) ?_
      exact ⟨⟨_, rfl⟩, bl, sz, b_B8, p_0, p_1, (fun h => (s_29 h).put (by decide) _), (fun h => (s_30 h).put (by decide) _), (fun h => (s_31 h).put (by decide) _), (fun h => (s_32 h).put (by decide) _), (so s_33), (so s_34), (fun h => (s_35 h).put (by decide) _), (fun h => (s_36 h).put (by decide) _), (fun h => (s_37 h).put (by decide) _), (fun h => (s_38 h).put (by decide) _), (so s_39), (so s_40), (so s_41), (fun h => (s_42 h).put (by decide) _), (fun h => (s_43 h).put (by decide) _), (fun h => (s_44 h).put (by decide) _), (fun h => (s_45 h).put (by decide) _), (so s_46), (so s_47), (so s_48), (so s_49), (so s_50), (so s_51), (so s_52), (so s_53), (fun h => (s_54 h).put (by decide) _), (fun h => (s_55 h).put (by decide) _), (so s_56), (so s_57), (so s_58), (so s_59), (so s_60), (so s_61), (so s_62), (so s_63), (so s_64), (so s_65), (fun _ => Sv.self (by rw [zq]; decide) _), (so s_67), (so s_68), (so s_69), (so s_70), (so s_71), (so s_72), (so s_73), (so s_74), (so s_75), (so s_76), (so s_77), (so s_0)⟩
    | 38, _ =>
      obtain rfl := Option.some.inj (show some _ = some o from ho); clear ho
      have v66 := s_66 (dp hdep 37)
      have v4 := hF.sv (s := 4) (by kernel_rfl) (hA30.get (i := 4) (v := .int .i64 (cnt (ofS [1002, 0, 1, 1000])).2.1))
      refine dj_val (i := 38) (v := .int .i64 (cnt (ofS [1002, 0, 1, 1000])).2.1) rfl (.inr ⟨37, true, 66, rfl, by kernel_rfl, v66⟩) (ev_move v4.eval _ rfl) ?_
      exact ⟨⟨_, rfl⟩, bl, sz, b_B8, p_0, p_1, (fun h => (s_29 h).put (by decide) _), (fun h => (s_30 h).put (by decide) _), (fun h => (s_31 h).put (by decide) _), (fun h => (s_32 h).put (by decide) _), (so s_33), (so s_34), (fun h => (s_35 h).put (by decide) _), (fun h => (s_36 h).put (by decide) _), (fun h => (s_37 h).put (by decide) _), (fun h => (s_38 h).put (by decide) _), (so s_39), (so s_40), (so s_41), (fun h => (s_42 h).put (by decide) _), (fun h => (s_43 h).put (by decide) _), (fun h => (s_44 h).put (by decide) _), (fun h => (s_45 h).put (by decide) _), (so s_46), (so s_47), (so s_48), (so s_49), (so s_50), (so s_51), (so s_52), (so s_53), (fun h => (s_54 h).put (by decide) _), (fun h => (s_55 h).put (by decide) _), (so s_56), (so s_57), (so s_58), (so s_59), (so s_60), (so s_61), (so s_62), (so s_63), (so s_64), (so s_65), (so s_66), (fun _ => Sv.self (by rw [zq]; decide) _), (so s_68), (so s_69), (so s_70), (so s_71), (so s_72), (so s_73), (so s_74), (so s_75), (so s_76), (so s_77), (so s_0)⟩
    | 39, _ =>
      obtain rfl := Option.some.inj (show some _ = some o from ho); clear ho
      have v66 := s_66 (dp hdep 37)
      have v67 := s_67 (dp hdep 38)
      refine dj_val (i := 39) (v := .bool true) rfl (.inr ⟨37, true, 66, rfl, by kernel_rfl, v66⟩) (ev_eqlB (k := .i64) (m := (cnt (ofS [1002, 0, 1, 1000])).2.1) (n := 2) v67.eval (ec ac (.int .i64 2)) (by kernel_rfl) _ rfl) ?_
      exact ⟨⟨_, rfl⟩, bl, sz, b_B8, p_0, p_1, (fun h => (s_29 h).put (by decide) _), (fun h => (s_30 h).put (by decide) _), (fun h => (s_31 h).put (by decide) _), (fun h => (s_32 h).put (by decide) _), (so s_33), (so s_34), (fun h => (s_35 h).put (by decide) _), (fun h => (s_36 h).put (by decide) _), (fun h => (s_37 h).put (by decide) _), (fun h => (s_38 h).put (by decide) _), (so s_39), (so s_40), (so s_41), (fun h => (s_42 h).put (by decide) _), (fun h => (s_43 h).put (by decide) _), (fun h => (s_44 h).put (by decide) _), (fun h => (s_45 h).put (by decide) _), (so s_46), (so s_47), (so s_48), (so s_49), (so s_50), (so s_51), (so s_52), (so s_53), (fun h => (s_54 h).put (by decide) _), (fun h => (s_55 h).put (by decide) _), (so s_56), (so s_57), (so s_58), (so s_59), (so s_60), (so s_61), (so s_62), (so s_63), (so s_64), (so s_65), (so s_66), (so s_67), (fun _ => Sv.self (by rw [zq]; decide) _), (so s_69), (so s_70), (so s_71), (so s_72), (so s_73), (so s_74), (so s_75), (so s_76), (so s_77), (so s_0)⟩
    | 40, _ =>
      obtain rfl := Option.some.inj (show some _ = some o from ho); clear ho
      have v66 := s_66 (dp hdep 37)
      have v68 := s_68 (dp hdep 39)
      refine dj_val (i := 40) (v := .bool true) rfl (.inl rfl) (ev_pickT v66.eval v68.eval _ rfl) ?_
      exact ⟨⟨_, rfl⟩, bl, sz, b_B8, p_0, p_1, (fun h => (s_29 h).put (by decide) _), (fun h => (s_30 h).put (by decide) _), (fun h => (s_31 h).put (by decide) _), (fun h => (s_32 h).put (by decide) _), (so s_33), (so s_34), (fun h => (s_35 h).put (by decide) _), (fun h => (s_36 h).put (by decide) _), (fun h => (s_37 h).put (by decide) _), (fun h => (s_38 h).put (by decide) _), (so s_39), (so s_40), (so s_41), (fun h => (s_42 h).put (by decide) _), (fun h => (s_43 h).put (by decide) _), (fun h => (s_44 h).put (by decide) _), (fun h => (s_45 h).put (by decide) _), (so s_46), (so s_47), (so s_48), (so s_49), (so s_50), (so s_51), (so s_52), (so s_53), (fun h => (s_54 h).put (by decide) _), (fun h => (s_55 h).put (by decide) _), (so s_56), (so s_57), (so s_58), (so s_59), (so s_60), (so s_61), (so s_62), (so s_63), (so s_64), (so s_65), (so s_66), (so s_67), (so s_68), (fun _ => Sv.self (by rw [zq]; decide) _), (so s_70), (so s_71), (so s_72), (so s_73), (so s_74), (so s_75), (so s_76), (so s_77), (so s_0)⟩
    | 41, _ =>
      obtain rfl := Option.some.inj (show some _ = some o from ho); clear ho
      have v69 := s_69 (dp hdep 40)
      refine dj_val (i := 41) (v := .bool true) rfl (.inl rfl) (ev_move v69.eval _ rfl) ?_
      exact ⟨⟨_, rfl⟩, bl, sz, b_B8, p_0, p_1, (fun h => (s_29 h).put (by decide) _), (fun h => (s_30 h).put (by decide) _), (fun h => (s_31 h).put (by decide) _), (fun h => (s_32 h).put (by decide) _), (so s_33), (so s_34), (fun h => (s_35 h).put (by decide) _), (fun h => (s_36 h).put (by decide) _), (fun h => (s_37 h).put (by decide) _), (fun h => (s_38 h).put (by decide) _), (so s_39), (so s_40), (so s_41), (fun h => (s_42 h).put (by decide) _), (fun h => (s_43 h).put (by decide) _), (fun h => (s_44 h).put (by decide) _), (fun h => (s_45 h).put (by decide) _), (so s_46), (so s_47), (so s_48), (so s_49), (so s_50), (so s_51), (so s_52), (so s_53), (fun h => (s_54 h).put (by decide) _), (fun h => (s_55 h).put (by decide) _), (so s_56), (so s_57), (so s_58), (so s_59), (so s_60), (so s_61), (so s_62), (so s_63), (so s_64), (so s_65), (so s_66), (so s_67), (so s_68), (so s_69), (fun _ => Sv.self (by rw [zq]; decide) _), (so s_71), (so s_72), (so s_73), (so s_74), (so s_75), (so s_76), (so s_77), (so s_0)⟩
    | 42, _ =>
      obtain rfl := Option.some.inj (show some _ = some o from ho); clear ho
      have v70 := s_70 (dp hdep 41)
      have v5 := hF.sv (s := 5) (by kernel_rfl) (hA30.get (i := 5) (v := .int .i64 (cnt (ofS [1002, 0, 1, 1000])).2.2.1))
      refine dj_val (i := 42) (v := .int .i64 (cnt (ofS [1002, 0, 1, 1000])).2.2.1) rfl (.inr ⟨41, true, 70, rfl, by kernel_rfl, v70⟩) (ev_move v5.eval _ rfl) ?_
      exact ⟨⟨_, rfl⟩, bl, sz, b_B8, p_0, p_1, (fun h => (s_29 h).put (by decide) _), (fun h => (s_30 h).put (by decide) _), (fun h => (s_31 h).put (by decide) _), (fun h => (s_32 h).put (by decide) _), (so s_33), (so s_34), (fun h => (s_35 h).put (by decide) _), (fun h => (s_36 h).put (by decide) _), (fun h => (s_37 h).put (by decide) _), (fun h => (s_38 h).put (by decide) _), (so s_39), (so s_40), (so s_41), (fun h => (s_42 h).put (by decide) _), (fun h => (s_43 h).put (by decide) _), (fun h => (s_44 h).put (by decide) _), (fun h => (s_45 h).put (by decide) _), (so s_46), (so s_47), (so s_48), (so s_49), (so s_50), (so s_51), (so s_52), (so s_53), (fun h => (s_54 h).put (by decide) _), (fun h => (s_55 h).put (by decide) _), (so s_56), (so s_57), (so s_58), (so s_59), (so s_60), (so s_61), (so s_62), (so s_63), (so s_64), (so s_65), (so s_66), (so s_67), (so s_68), (so s_69), (so s_70), (fun _ => Sv.self (by rw [zq]; decide) _), (so s_72), (so s_73), (so s_74), (so s_75), (so s_76), (so s_77), (so s_0)⟩
    | 43, _ =>
      obtain rfl := Option.some.inj (show some _ = some o from ho); clear ho
      have v70 := s_70 (dp hdep 41)
      have v71 := s_71 (dp hdep 42)
      refine dj_val (i := 43) (v := .bool true) rfl (.inr ⟨41, true, 70, rfl, by kernel_rfl, v70⟩) (ev_eqlB (k := .i64) (m := (cnt (ofS [1002, 0, 1, 1000])).2.2.1) (n := 3) v71.eval (ec ac (.int .i64 3)) (by kernel_rfl) _ rfl) ?_
      exact ⟨⟨_, rfl⟩, bl, sz, b_B8, p_0, p_1, (fun h => (s_29 h).put (by decide) _), (fun h => (s_30 h).put (by decide) _), (fun h => (s_31 h).put (by decide) _), (fun h => (s_32 h).put (by decide) _), (so s_33), (so s_34), (fun h => (s_35 h).put (by decide) _), (fun h => (s_36 h).put (by decide) _), (fun h => (s_37 h).put (by decide) _), (fun h => (s_38 h).put (by decide) _), (so s_39), (so s_40), (so s_41), (fun h => (s_42 h).put (by decide) _), (fun h => (s_43 h).put (by decide) _), (fun h => (s_44 h).put (by decide) _), (fun h => (s_45 h).put (by decide) _), (so s_46), (so s_47), (so s_48), (so s_49), (so s_50), (so s_51), (so s_52), (so s_53), (fun h => (s_54 h).put (by decide) _), (fun h => (s_55 h).put (by decide) _), (so s_56), (so s_57), (so s_58), (so s_59), (so s_60), (so s_61), (so s_62), (so s_63), (so s_64), (so s_65), (so s_66), (so s_67), (so s_68), (so s_69), (so s_70), (so s_71), (fun _ => Sv.self (by rw [zq]; decide) _), (so s_73), (so s_74), (so s_75), (so s_76), (so s_77), (so s_0)⟩
    | 44, _ =>
      obtain rfl := Option.some.inj (show some _ = some o from ho); clear ho
      have v70 := s_70 (dp hdep 41)
      have v72 := s_72 (dp hdep 43)
      refine dj_val (i := 44) (v := .bool true) rfl (.inl rfl) (ev_pickT v70.eval v72.eval _ rfl) ?_
      exact ⟨⟨_, rfl⟩, bl, sz, b_B8, p_0, p_1, (fun h => (s_29 h).put (by decide) _), (fun h => (s_30 h).put (by decide) _), (fun h => (s_31 h).put (by decide) _), (fun h => (s_32 h).put (by decide) _), (so s_33), (so s_34), (fun h => (s_35 h).put (by decide) _), (fun h => (s_36 h).put (by decide) _), (fun h => (s_37 h).put (by decide) _), (fun h => (s_38 h).put (by decide) _), (so s_39), (so s_40), (so s_41), (fun h => (s_42 h).put (by decide) _), (fun h => (s_43 h).put (by decide) _), (fun h => (s_44 h).put (by decide) _), (fun h => (s_45 h).put (by decide) _), (so s_46), (so s_47), (so s_48), (so s_49), (so s_50), (so s_51), (so s_52), (so s_53), (fun h => (s_54 h).put (by decide) _), (fun h => (s_55 h).put (by decide) _), (so s_56), (so s_57), (so s_58), (so s_59), (so s_60), (so s_61), (so s_62), (so s_63), (so s_64), (so s_65), (so s_66), (so s_67), (so s_68), (so s_69), (so s_70), (so s_71), (so s_72), (fun _ => Sv.self (by rw [zq]; decide) _), (so s_74), (so s_75), (so s_76), (so s_77), (so s_0)⟩
    | 45, _ =>
      obtain rfl := Option.some.inj (show some _ = some o from ho); clear ho
      have v73 := s_73 (dp hdep 44)
      refine dj_val (i := 45) (v := .bool true) rfl (.inl rfl) (ev_move v73.eval _ rfl) ?_
      exact ⟨⟨_, rfl⟩, bl, sz, b_B8, p_0, p_1, (fun h => (s_29 h).put (by decide) _), (fun h => (s_30 h).put (by decide) _), (fun h => (s_31 h).put (by decide) _), (fun h => (s_32 h).put (by decide) _), (so s_33), (so s_34), (fun h => (s_35 h).put (by decide) _), (fun h => (s_36 h).put (by decide) _), (fun h => (s_37 h).put (by decide) _), (fun h => (s_38 h).put (by decide) _), (so s_39), (so s_40), (so s_41), (fun h => (s_42 h).put (by decide) _), (fun h => (s_43 h).put (by decide) _), (fun h => (s_44 h).put (by decide) _), (fun h => (s_45 h).put (by decide) _), (so s_46), (so s_47), (so s_48), (so s_49), (so s_50), (so s_51), (so s_52), (so s_53), (fun h => (s_54 h).put (by decide) _), (fun h => (s_55 h).put (by decide) _), (so s_56), (so s_57), (so s_58), (so s_59), (so s_60), (so s_61), (so s_62), (so s_63), (so s_64), (so s_65), (so s_66), (so s_67), (so s_68), (so s_69), (so s_70), (so s_71), (so s_72), (so s_73), (fun _ => Sv.self (by rw [zq]; decide) _), (so s_75), (so s_76), (so s_77), (so s_0)⟩
    | 46, _ =>
      obtain rfl := Option.some.inj (show some _ = some o from ho); clear ho
      have v74 := s_74 (dp hdep 45)
      have v7 := hF.sv (s := 7) (by kernel_rfl) (hA30.get (i := 7) (v := .int .i64 (chs (ofS [1, 2])).1))
      refine dj_val (i := 46) (v := .int .i64 (chs (ofS [1, 2])).1) rfl (.inr ⟨45, true, 74, rfl, by kernel_rfl, v74⟩) (ev_move v7.eval _ rfl) ?_
      exact ⟨⟨_, rfl⟩, bl, sz, b_B8, p_0, p_1, (fun h => (s_29 h).put (by decide) _), (fun h => (s_30 h).put (by decide) _), (fun h => (s_31 h).put (by decide) _), (fun h => (s_32 h).put (by decide) _), (so s_33), (so s_34), (fun h => (s_35 h).put (by decide) _), (fun h => (s_36 h).put (by decide) _), (fun h => (s_37 h).put (by decide) _), (fun h => (s_38 h).put (by decide) _), (so s_39), (so s_40), (so s_41), (fun h => (s_42 h).put (by decide) _), (fun h => (s_43 h).put (by decide) _), (fun h => (s_44 h).put (by decide) _), (fun h => (s_45 h).put (by decide) _), (so s_46), (so s_47), (so s_48), (so s_49), (so s_50), (so s_51), (so s_52), (so s_53), (fun h => (s_54 h).put (by decide) _), (fun h => (s_55 h).put (by decide) _), (so s_56), (so s_57), (so s_58), (so s_59), (so s_60), (so s_61), (so s_62), (so s_63), (so s_64), (so s_65), (so s_66), (so s_67), (so s_68), (so s_69), (so s_70), (so s_71), (so s_72), (so s_73), (so s_74), (fun _ => Sv.self (by rw [zq]; decide) _), (so s_76), (so s_77), (so s_0)⟩
    | 47, _ =>
      obtain rfl := Option.some.inj (show some _ = some o from ho); clear ho
      have v74 := s_74 (dp hdep 45)
      have v75 := s_75 (dp hdep 46)
      refine dj_val (i := 47) (v := .bool true) rfl (.inr ⟨45, true, 74, rfl, by kernel_rfl, v74⟩) (ev_eqlB (k := .i64) (m := (chs (ofS [1, 2])).1) (n := 0) v75.eval (ec ac (.int .i64 0)) (by kernel_rfl) _ rfl) ?_
      exact ⟨⟨_, rfl⟩, bl, sz, b_B8, p_0, p_1, (fun h => (s_29 h).put (by decide) _), (fun h => (s_30 h).put (by decide) _), (fun h => (s_31 h).put (by decide) _), (fun h => (s_32 h).put (by decide) _), (so s_33), (so s_34), (fun h => (s_35 h).put (by decide) _), (fun h => (s_36 h).put (by decide) _), (fun h => (s_37 h).put (by decide) _), (fun h => (s_38 h).put (by decide) _), (so s_39), (so s_40), (so s_41), (fun h => (s_42 h).put (by decide) _), (fun h => (s_43 h).put (by decide) _), (fun h => (s_44 h).put (by decide) _), (fun h => (s_45 h).put (by decide) _), (so s_46), (so s_47), (so s_48), (so s_49), (so s_50), (so s_51), (so s_52), (so s_53), (fun h => (s_54 h).put (by decide) _), (fun h => (s_55 h).put (by decide) _), (so s_56), (so s_57), (so s_58), (so s_59), (so s_60), (so s_61), (so s_62), (so s_63), (so s_64), (so s_65), (so s_66), (so s_67), (so s_68), (so s_69), (so s_70), (so s_71), (so s_72), (so s_73), (so s_74), (so s_75), (fun _ => Sv.self (by rw [zq]; decide) _), (so s_77), (so s_0)⟩
    | 48, _ =>
      obtain rfl := Option.some.inj (show some _ = some o from ho); clear ho
      have v74 := s_74 (dp hdep 45)
      have v76 := s_76 (dp hdep 47)
      refine dj_val (i := 48) (v := .bool true) rfl (.inl rfl) (ev_pickT v74.eval v76.eval _ rfl) ?_
      exact ⟨⟨_, rfl⟩, bl, sz, b_B8, p_0, p_1, (fun h => (s_29 h).put (by decide) _), (fun h => (s_30 h).put (by decide) _), (fun h => (s_31 h).put (by decide) _), (fun h => (s_32 h).put (by decide) _), (so s_33), (so s_34), (fun h => (s_35 h).put (by decide) _), (fun h => (s_36 h).put (by decide) _), (fun h => (s_37 h).put (by decide) _), (fun h => (s_38 h).put (by decide) _), (so s_39), (so s_40), (so s_41), (fun h => (s_42 h).put (by decide) _), (fun h => (s_43 h).put (by decide) _), (fun h => (s_44 h).put (by decide) _), (fun h => (s_45 h).put (by decide) _), (so s_46), (so s_47), (so s_48), (so s_49), (so s_50), (so s_51), (so s_52), (so s_53), (fun h => (s_54 h).put (by decide) _), (fun h => (s_55 h).put (by decide) _), (so s_56), (so s_57), (so s_58), (so s_59), (so s_60), (so s_61), (so s_62), (so s_63), (so s_64), (so s_65), (so s_66), (so s_67), (so s_68), (so s_69), (so s_70), (so s_71), (so s_72), (so s_73), (so s_74), (so s_75), (so s_76), (fun _ => Sv.self (by rw [zq]; decide) _), (so s_0)⟩
    | 49, _ =>
      obtain rfl := Option.some.inj (show some _ = some o from ho); clear ho
      have v77 := s_77 (dp hdep 48)
      refine dj_val (i := 49) (v := .bool true) rfl (.inl rfl) (ev_assign v77.eval _ rfl) ?_
      exact ⟨⟨_, rfl⟩, bl, sz, b_B8, p_0, p_1, (fun h => (s_29 h).put (by decide) _), (fun h => (s_30 h).put (by decide) _), (fun h => (s_31 h).put (by decide) _), (fun h => (s_32 h).put (by decide) _), (so s_33), (so s_34), (fun h => (s_35 h).put (by decide) _), (fun h => (s_36 h).put (by decide) _), (fun h => (s_37 h).put (by decide) _), (fun h => (s_38 h).put (by decide) _), (so s_39), (so s_40), (so s_41), (fun h => (s_42 h).put (by decide) _), (fun h => (s_43 h).put (by decide) _), (fun h => (s_44 h).put (by decide) _), (fun h => (s_45 h).put (by decide) _), (so s_46), (so s_47), (so s_48), (so s_49), (so s_50), (so s_51), (so s_52), (so s_53), (fun h => (s_54 h).put (by decide) _), (fun h => (s_55 h).put (by decide) _), (so s_56), (so s_57), (so s_58), (so s_59), (so s_60), (so s_61), (so s_62), (so s_63), (so s_64), (so s_65), (so s_66), (so s_67), (so s_68), (so s_69), (so s_70), (so s_71), (so s_72), (so s_73), (so s_74), (so s_75), (so s_76), (so s_77), (fun _ => Sv.self (by rw [zq]; decide) _)⟩
    | k + 50, h => exact absurd h (by omega)
  · intro L hall ac64 wc64 hF hJ
    obtain ⟨bl, sz, b_B8, p_0, p_1, s_29, s_30, s_31, s_32, s_33, s_34, s_35, s_36, s_37, s_38, s_39, s_40, s_41, s_42, s_43, s_44, s_45, s_46, s_47, s_48, s_49, s_50, s_51, s_52, s_53, s_54, s_55, s_56, s_57, s_58, s_59, s_60, s_61, s_62, s_63, s_64, s_65, s_66, s_67, s_68, s_69, s_70, s_71, s_72, s_73, s_74, s_75, s_76, s_77, s_0⟩ := hJ
    have hA64 : Ag ac64 78 [(0, .bool true)] := ((Ag.nil (hF.1.trans hA30.1) (hF.2.1.trans hA30.2.1)).cons (s_0 (hall 49 (by decide))))
    have bl64 := bl
    have sz64 := sz
    have b64_B8 := b_B8
    have p64_0 := p_0
    have p64_1 := p_1
    clear hF bl sz b_B8 p_0 p_1 s_29 s_30 s_31 s_32 s_33 s_34 s_35 s_36 s_37 s_38 s_39 s_40 s_41 s_42 s_43 s_44 s_45 s_46 s_47 s_48 s_49 s_50 s_51 s_52 s_53 s_54 s_55 s_56 s_57 s_58 s_59 s_60 s_61 s_62 s_63 s_64 s_65 s_66 s_67 s_68 s_69 s_70 s_71 s_72 s_73 s_74 s_75 s_76 s_77 s_0 hall hA30
    refine then_n ?_
    refine wp_ret ?_
    refine bodyPost_ret (rs_t (v := .bool true) Try.results9 hA64 (by kernel_rfl) ) hA64.2.1 ?_
    exact ⟨rfl, bl64⟩
end Go.Proofs.Ytpoilgfblhacaaa
