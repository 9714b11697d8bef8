/- The law: SlotsAlloc. -/
import Derived.Test.YtpoilgfblhacaaaKJ
import Derived.Test.YtpoilgfblhacaaaKH
namespace Go.Proofs.Ytpoilgfblhacaaa
open Go.RowKit
set_option linter.unusedVariables false
set_option linter.unusedSimpArgs false
set_option maxRecDepth 100000

set_option maxHeartbeats 16000000 in
theorem SlotsAlloc_walk (A1 : Option Addr) (c1 : Nat) (A2 : Option Addr) (c2 : Nat) (rs : List Int) (bs : List Bool) (k : Int) (w : World) (hs : GS w A1 c1 A2 c2 rs bs) : Calls Try.prog 4 #[.agg #[.slice A1 rs.length c1, .slice A2 bs.length c2], .int .i64 k] w (RetB w (.returned (.bool true))) := by
  have hbel0 := below0 w
  refine sx_enter (N := 151) [(0, .agg #[.slice A1 rs.length c1, .slice A2 bs.length c2]), (1, .int .i64 k)] Try.func4 rfl Try.ntmps4 (by simp) (fun a z d s => (((Ag.nil z d).cons (s 1 _ rfl)).cons (s 0 _ rfl))) ?_
  intro a0 hA0
  refine wp_seq ?_
  refine wp_region_lit ?_
  refine sx_new (cs := #[.slice A1 rs.length c1, .slice A2 bs.length c2]) (t := 25) hA0 rfl (by decide) (.inl rfl) (ev_box (hA0.ev (i := 0) (v := .agg #[.slice A1 rs.length c1, .slice A2 bs.length c2])) rfl _ rfl) ?_
  intro B1 w1 a1 hB1 hx1 hg1 hA1
  clear hA0
  have hs1 := hg1.size
  have hl1 := hx1.lt
  refine sx_val hA1 rfl (ev_assign (ec _ (.bool false)) _ rfl) ?_
  intro a2 hA2; clear hA1
  refine sx_nil ?_
  refine then_n ?_
  refine wp_seq ?_
  refine wp_seq ?_
  refine wp_region_lit ?_
  refine sx_val (v := .agg #[.slice A1 rs.length c1, .slice A2 bs.length c2]) hA2 rfl (ev_row (hA2.ev (i := 2) (v := .pointer (some ⟨B1, 0, none⟩))) hx1 Try.underlying25 rfl (n := 2) (by kernel_rfl) rfl _ rfl) ?_
  intro a3 hA3; clear hA2
  have hbel0_5 := Below.gN hbel0 hg1 hbel0.size
  cases hd6 : (decide (260 < rs.length) || decide (260 < bs.length))
  rotate_left
  · refine sx_call (f := 8) (args := #[.agg #[.slice A1 rs.length c1, .slice A2 bs.length c2]]) hA3 rfl (by decide) (.inl rfl) (ev_fn rfl (mp1 (hA3.ev (i := 22) (v := .agg #[.slice A1 rs.length c1, .slice A2 bs.length c2]))) (by kernel_rfl) _ rfl) (large_any A1 c1 A2 c2 rs bs _ ⟨(hs.r.below hbel0_5), (hs.b.below hbel0_5)⟩) ?_
    intro e310 w310 hR310
    obtain ⟨he310, hb310⟩ := hR310
    rw [hd6] at he310
    subst he310
    refine ⟨_, rfl, ?_⟩
    intro a310 hA310
    clear hA3
    have hg310 := g0 hb310
    have hs310 := hg310.size
    clear hb310
    refine sx_nil ?_
    refine then_n ?_
    refine wp_cond_true (hA310.ev (i := 23) (v := .bool true)) ?_
    refine wp_seq ?_
    refine wp_region_lit ?_
    refine sx_call (f := 9) (args := #[]) hA310 rfl (by decide) (.inl rfl) (ev_fn rfl (mp0 ) (by kernel_rfl) _ rfl) (awake_any _) ?_
    intro e311 w311 hR311
    obtain ⟨rfl, hb311⟩ := hR311
    refine ⟨_, rfl, ?_⟩
    intro a311 hA311
    clear hA310
    have hg311 := g0 hb311
    have hs311 := hg311.size
    clear hb311
    refine sx_val hA311 rfl (ev_assign (hA311.ev (i := 24) (v := .bool true)) _ rfl) ?_
    intro a312 hA312; clear hA311
    refine sx_nil ?_
    refine then_n ?_
    refine wp_ret ?_
    refine then_r ?_
    refine bodyPost_ret (rs_t (v := .bool true) Try.results4 hA312 (by kernel_rfl) ) hA312.2.1 ?_
    have hbel0_313 := Below.gN hbel0_5 hg310 hbel0_5.size
    have hbel0_314 := Below.gN hbel0_313 hg311 hbel0_313.size
    exact ⟨rfl, hbel0_314⟩
  have hlr : rs.length ≤ 260 ∧ bs.length ≤ 260 := by
    have h := hd6
    simp at h
    omega
  refine sx_call (f := 8) (args := #[.agg #[.slice A1 rs.length c1, .slice A2 bs.length c2]]) hA3 rfl (by decide) (.inl rfl) (ev_fn rfl (mp1 (hA3.ev (i := 22) (v := .agg #[.slice A1 rs.length c1, .slice A2 bs.length c2]))) (by kernel_rfl) _ rfl) (large_any A1 c1 A2 c2 rs bs _ ⟨(hs.r.below hbel0_5), (hs.b.below hbel0_5)⟩) ?_
  intro e7 w7 hR7
  obtain ⟨he7, hb7⟩ := hR7
  rw [hd6] at he7
  subst he7
  refine ⟨_, rfl, ?_⟩
  intro a7 hA7
  clear hA3
  have hg7 := g0 hb7
  have hs7 := hg7.size
  clear hb7
  refine sx_nil ?_
  refine then_n ?_
  refine wp_cond_false (hA7.ev (i := 23) (v := .bool false)) ?_
  refine wp_skip ?_
  refine then_n ?_
  refine wp_seq ?_
  refine wp_region_lit ?_
  have hx1_8 := hx1.gN hg7
  refine sx_val (v := .agg #[.slice A1 rs.length c1, .slice A2 bs.length c2]) hA7 rfl (ev_row (hA7.ev (i := 2) (v := .pointer (some ⟨B1, 0, none⟩))) hx1_8 Try.underlying25 rfl (n := 2) (by kernel_rfl) rfl _ rfl) ?_
  intro a9 hA9; clear hA7
  have hbel0_11 := Below.gN hbel0_5 hg7 hbel0_5.size
  refine sx_call (f := 10) (args := #[.agg #[.slice A1 rs.length c1, .slice A2 bs.length c2]]) hA9 rfl (by decide) (.inl rfl) (ev_fn rfl (mp1 (hA9.ev (i := 25) (v := .agg #[.slice A1 rs.length c1, .slice A2 bs.length c2]))) (by kernel_rfl) _ rfl) (OwnSlots_any A1 c1 A2 c2 rs bs _ ⟨(hs.r.below hbel0_11), (hs.b.below hbel0_11)⟩ (by omega) (by omega)) ?_
  intro e10 w10 hR10
  obtain ⟨Ap10, cp10, Aj10, cj10, rfl, hC10, hJ10, hb10⟩ := hR10
  refine ⟨_, rfl, ?_⟩
  intro a10 hA10
  clear hA9
  have hg10 := g0 hb10
  have hs10 := hg10.size
  clear hb10
  have ho10_0 : Own w10 (w7.heap.size) 3 1 (.slice Ap10 rs.length cp10) rs.length (flat iva rs) := hC10
  have hh10_0 := Own.hi ho10_0
  have ho10_1 : Own w10 (w7.heap.size) 4 1 (.slice Aj10 bs.length cj10) bs.length (flat bva bs) := hJ10
  have hh10_1 := Own.hi ho10_1
  refine sx_new (cs := #[.slice none 0 0, .slice none 0 0]) (t := 25) hA10 rfl (by decide) (.inl rfl) (ev_alloc (z := .agg (#[.slice none 0 0, .slice none 0 0])) (by kernel_rfl) (by kernel_rfl) _ rfl) ?_
  intro B12 w12 a12 hB12 hx12 hg12 hA12
  clear hA10
  have hs12 := hg12.size
  have hl12 := hx12.lt
  refine sx_store hA12 rfl (.inl rfl) rfl (hA12.ev (i := 5) (v := .pointer (some ⟨B12, 0, none⟩))) (hA12.ev (i := 26) (v := .agg #[.slice Ap10 rs.length cp10, .slice Aj10 bs.length cj10])) hx12 (by kernel_rfl) rfl (by simp [Value.oneCell']) ?_
  intro w13 hx13 hg13
  have hs13 := hg13.size
  refine sx_nil ?_
  refine then_n ?_
  refine wp_seq ?_
  refine wp_region_lit ?_
  refine sx_val (v := .agg #[.slice Ap10 rs.length cp10, .slice Aj10 bs.length cj10]) hA12 rfl (ev_row (hA12.ev (i := 5) (v := .pointer (some ⟨B12, 0, none⟩))) hx13 Try.underlying25 rfl (n := 2) (by kernel_rfl) rfl _ rfl) ?_
  intro a14 hA14; clear hA12
  have ho10_16 := Own.gN ho10_0 hg12
  have ho10_17 := Own.gBT ho10_16 hg13 hx12 (by decide)
  have ho10_18 := Own.gN ho10_1 hg12
  have ho10_19 := Own.gBT ho10_18 hg13 hx12 (by decide)
  refine sx_call (f := 20) (args := #[.agg #[.slice Ap10 rs.length cp10, .slice Aj10 bs.length cj10]]) hA14 rfl (by decide) (.inl rfl) (ev_fn rfl (mp1 (hA14.ev (i := 28) (v := .agg #[.slice Ap10 rs.length cp10, .slice Aj10 bs.length cj10]))) (by kernel_rfl) _ rfl) (Check_any Ap10 cp10 Aj10 cj10 rs bs _ ⟨(OwnR.gr (e := 3) ⟨rfl, ho10_17⟩), (OwnR.gr (e := 4) ⟨rfl, ho10_19⟩)⟩ (by omega) (by omega)) ?_
  intro e15 w15 hR15
  obtain ⟨rfl, hb15⟩ := hR15
  refine ⟨_, rfl, ?_⟩
  intro a15 hA15
  clear hA14
  have hg15 := g0 hb15
  have hs15 := hg15.size
  clear hb15
  refine sx_val hA15 rfl (ev_move (hA15.ev (i := 29) (v := .tuple #[.int .i64 (chs ⟨rs, bs⟩).1, .int .i64 (chs ⟨rs, bs⟩).2])) _ rfl) ?_
  intro a20 hA20; clear hA15
  refine sx_val (v := .int .i64 (chs ⟨rs, bs⟩).1) hA20 rfl (ev_ext (hA20.ev (i := 27) (v := .tuple #[.int .i64 (chs ⟨rs, bs⟩).1, .int .i64 (chs ⟨rs, bs⟩).2])) rfl _ rfl) ?_
  intro a21 hA21; clear hA20
  refine sx_val (v := .int .i64 (chs ⟨rs, bs⟩).2) hA21 rfl (ev_ext (hA21.ev (i := 27) (v := .tuple #[.int .i64 (chs ⟨rs, bs⟩).1, .int .i64 (chs ⟨rs, bs⟩).2])) rfl _ rfl) ?_
  intro a22 hA22; clear hA21
  refine sx_val hA22 rfl (ev_assign (hA22.ev (i := 30) (v := .int .i64 (chs ⟨rs, bs⟩).1)) _ rfl) ?_
  intro a23 hA23; clear hA22
  refine sx_val hA23 rfl (ev_assign (hA23.ev (i := 31) (v := .int .i64 (chs ⟨rs, bs⟩).2)) _ rfl) ?_
  intro a24 hA24; clear hA23
  refine sx_nil ?_
  refine then_n ?_
  refine wp_seq ?_
  refine wp_region_lit ?_
  have hx1_25 := hx1_8.gN hg10
  have hx1_26 := hx1_25.gN hg12
  have hx1_27 := hx1_26.gB hg13 (by omega)
  have hx1_28 := hx1_27.gN hg15
  refine sx_val (v := .agg #[.slice A1 rs.length c1, .slice A2 bs.length c2]) hA24 rfl (ev_row (hA24.ev (i := 2) (v := .pointer (some ⟨B1, 0, none⟩))) hx1_28 Try.underlying25 rfl (n := 2) (by kernel_rfl) rfl _ rfl) ?_
  intro a29 hA29; clear hA24
  have hbel0_31 := Below.gN hbel0_11 hg10 hbel0_11.size
  have hbel0_32 := Below.gN hbel0_31 hg12 hbel0_31.size
  have hbel0_33 := Below.gB hbel0_32 hg13 hbel0_32.size (by omega)
  have hbel0_34 := Below.gN hbel0_33 hg15 hbel0_33.size
  refine sx_call (f := 21) (args := #[.agg #[.slice A1 rs.length c1, .slice A2 bs.length c2]]) hA29 rfl (by decide) (.inl rfl) (ev_fn rfl (mp1 (hA29.ev (i := 33) (v := .agg #[.slice A1 rs.length c1, .slice A2 bs.length c2]))) (by kernel_rfl) _ rfl) (sCheck_any A1 c1 A2 c2 rs bs _ ⟨(hs.r.below hbel0_34), (hs.b.below hbel0_34)⟩ (by omega) (by omega)) ?_
  intro e30 w30 hR30
  obtain ⟨rfl, hb30⟩ := hR30
  refine ⟨_, rfl, ?_⟩
  intro a30 hA30
  clear hA29
  have hg30 := g0 hb30
  have hs30 := hg30.size
  clear hb30
  refine sx_val hA30 rfl (ev_move (hA30.ev (i := 34) (v := .tuple #[.int .i64 (chs ⟨rs, bs⟩).1, .int .i64 (chs ⟨rs, bs⟩).2])) _ rfl) ?_
  intro a35 hA35; clear hA30
  refine sx_val (v := .int .i64 (chs ⟨rs, bs⟩).1) hA35 rfl (ev_ext (hA35.ev (i := 32) (v := .tuple #[.int .i64 (chs ⟨rs, bs⟩).1, .int .i64 (chs ⟨rs, bs⟩).2])) rfl _ rfl) ?_
  intro a36 hA36; clear hA35
  refine sx_val (v := .int .i64 (chs ⟨rs, bs⟩).2) hA36 rfl (ev_ext (hA36.ev (i := 32) (v := .tuple #[.int .i64 (chs ⟨rs, bs⟩).1, .int .i64 (chs ⟨rs, bs⟩).2])) rfl _ rfl) ?_
  intro a37 hA37; clear hA36
  refine sx_val hA37 rfl (ev_assign (hA37.ev (i := 35) (v := .int .i64 (chs ⟨rs, bs⟩).1)) _ rfl) ?_
  intro a38 hA38; clear hA37
  refine sx_val hA38 rfl (ev_assign (hA38.ev (i := 36) (v := .int .i64 (chs ⟨rs, bs⟩).2)) _ rfl) ?_
  intro a39 hA39; clear hA38
  refine sx_nil ?_
  refine then_n ?_
  refine wp_seq ?_
  refine wp_seq ?_
  refine wp_region_lit ?_
  refine sx_val hA39 rfl (ev_move (hA39.ev (i := 6) (v := .int .i64 (chs ⟨rs, bs⟩).1)) _ rfl) ?_
  intro a40 hA40; clear hA39
  refine sx_val hA40 rfl (ev_move (hA40.ev (i := 8) (v := .int .i64 (chs ⟨rs, bs⟩).1)) _ rfl) ?_
  intro a41 hA41; clear hA40
  refine sx_val (v := .bool false) hA41 rfl (ev_neqB (k := .i64) (m := (chs ⟨rs, bs⟩).1) (n := (chs ⟨rs, bs⟩).1) (hA41.ev (i := 37)) (hA41.ev (i := 38)) (by simp) _ rfl) ?_
  intro a42 hA42; clear hA41
  refine sx_val hA42 rfl (ev_move (hA42.ev (i := 39) (v := .bool false)) _ rfl) ?_
  intro a43 hA43; clear hA42
  refine sx_val (hg := (.inr ⟨3, false, 40, rfl, rfl, by kernel_rfl⟩)) hA43 rfl (ev_move (hA43.ev (i := 7) (v := .int .i64 (chs ⟨rs, bs⟩).2)) _ rfl) ?_
  intro a44 hA44; clear hA43
  refine sx_val (hg := (.inr ⟨3, false, 40, rfl, rfl, by kernel_rfl⟩)) hA44 rfl (ev_move (hA44.ev (i := 9) (v := .int .i64 (chs ⟨rs, bs⟩).2)) _ rfl) ?_
  intro a45 hA45; clear hA44
  refine sx_val (hg := (.inr ⟨3, false, 40, rfl, rfl, by kernel_rfl⟩)) (v := .bool false) hA45 rfl (ev_neqB (k := .i64) (m := (chs ⟨rs, bs⟩).2) (n := (chs ⟨rs, bs⟩).2) (hA45.ev (i := 41)) (hA45.ev (i := 42)) (by simp) _ rfl) ?_
  intro a46 hA46; clear hA45
  refine sx_val hA46 rfl (ev_pickF (hA46.ev (i := 40) (v := .bool false)) (hA46.ev (i := 43) (v := .bool false)) _ rfl) ?_
  intro a47 hA47; clear hA46
  refine sx_nil ?_
  refine then_n ?_
  refine wp_cond_false (hA47.ev (i := 44) (v := .bool false)) ?_
  refine wp_skip ?_
  refine then_n ?_
  refine wp_seq ?_
  refine wp_region_lit ?_
  have hx13_48 := hx13.gN hg15
  have hx13_49 := hx13_48.gN hg30
  refine sx_val (v := .agg #[.slice Ap10 rs.length cp10, .slice Aj10 bs.length cj10]) hA47 rfl (ev_row (hA47.ev (i := 5) (v := .pointer (some ⟨B12, 0, none⟩))) hx13_49 Try.underlying25 rfl (n := 2) (by kernel_rfl) rfl _ rfl) ?_
  intro a50 hA50; clear hA47
  refine sx_val hA50 rfl (ev_move (hA50.ev (i := 1) (v := .int .i64 k)) _ rfl) ?_
  intro a51 hA51; clear hA50
  have ho10_53 := Own.gN ho10_17 hg15
  have ho10_54 := Own.gN ho10_53 hg30
  have ho10_55 := Own.gN ho10_19 hg15
  have ho10_56 := Own.gN ho10_55 hg30
  refine sx_call (f := 22) (args := #[.agg #[.slice Ap10 rs.length cp10, .slice Aj10 bs.length cj10], .int .i64 k]) hA51 rfl (by decide) (.inl rfl) (ev_fn rfl (mp2 (hA51.ev (i := 46) (v := .agg #[.slice Ap10 rs.length cp10, .slice Aj10 bs.length cj10])) (hA51.ev (i := 47) (v := .int .i64 k))) (by kernel_rfl) _ rfl) (Alloc_any Ap10 cp10 Aj10 cj10 rs bs k _ ⟨(OwnR.gr (e := 3) ⟨rfl, ho10_54⟩), (OwnR.gr (e := 4) ⟨rfl, ho10_56⟩)⟩ (by omega) (by omega)) ?_
  intro e52 w52 hR52
  obtain ⟨Ap52, cp52, Aj52, cj52, rfl, hC52, hJ52, hb52⟩ := hR52
  refine ⟨_, rfl, ?_⟩
  intro a52 hA52
  clear hA51
  have hg52 := g0 hb52
  have hs52 := hg52.size
  clear hb52
  have ho52_0 : Own w52 (w30.heap.size) 3 1 (.slice Ap52 (alc ⟨rs, bs⟩ k).1.rs.length cp52) (alc ⟨rs, bs⟩ k).1.rs.length (flat iva (alc ⟨rs, bs⟩ k).1.rs) := hC52
  have hh52_0 := Own.hi ho52_0
  have ho52_1 : Own w52 (w30.heap.size) 4 1 (.slice Aj52 (alc ⟨rs, bs⟩ k).1.bs.length cj52) (alc ⟨rs, bs⟩ k).1.bs.length (flat bva (alc ⟨rs, bs⟩ k).1.bs) := hJ52
  have hh52_1 := Own.hi ho52_1
  refine sx_val hA52 rfl (ev_move (hA52.ev (i := 48) (v := .tuple #[.agg #[.slice Ap52 (alc ⟨rs, bs⟩ k).1.rs.length cp52, .slice Aj52 (alc ⟨rs, bs⟩ k).1.bs.length cj52], .int .i64 (alc ⟨rs, bs⟩ k).2.1, .int .i64 (alc ⟨rs, bs⟩ k).2.2])) _ rfl) ?_
  intro a57 hA57; clear hA52
  refine sx_val (v := .agg #[.slice Ap52 (alc ⟨rs, bs⟩ k).1.rs.length cp52, .slice Aj52 (alc ⟨rs, bs⟩ k).1.bs.length cj52]) hA57 rfl (ev_ext (hA57.ev (i := 45) (v := .tuple #[.agg #[.slice Ap52 (alc ⟨rs, bs⟩ k).1.rs.length cp52, .slice Aj52 (alc ⟨rs, bs⟩ k).1.bs.length cj52], .int .i64 (alc ⟨rs, bs⟩ k).2.1, .int .i64 (alc ⟨rs, bs⟩ k).2.2])) rfl _ rfl) ?_
  intro a58 hA58; clear hA57
  refine sx_val (v := .int .i64 (alc ⟨rs, bs⟩ k).2.1) hA58 rfl (ev_ext (hA58.ev (i := 45) (v := .tuple #[.agg #[.slice Ap52 (alc ⟨rs, bs⟩ k).1.rs.length cp52, .slice Aj52 (alc ⟨rs, bs⟩ k).1.bs.length cj52], .int .i64 (alc ⟨rs, bs⟩ k).2.1, .int .i64 (alc ⟨rs, bs⟩ k).2.2])) rfl _ rfl) ?_
  intro a59 hA59; clear hA58
  refine sx_val (v := .int .i64 (alc ⟨rs, bs⟩ k).2.2) hA59 rfl (ev_ext (hA59.ev (i := 45) (v := .tuple #[.agg #[.slice Ap52 (alc ⟨rs, bs⟩ k).1.rs.length cp52, .slice Aj52 (alc ⟨rs, bs⟩ k).1.bs.length cj52], .int .i64 (alc ⟨rs, bs⟩ k).2.1, .int .i64 (alc ⟨rs, bs⟩ k).2.2])) rfl _ rfl) ?_
  intro a60 hA60; clear hA59
  refine sx_new (cs := #[.slice none 0 0, .slice none 0 0]) (t := 25) hA60 rfl (by decide) (.inl rfl) (ev_alloc (z := .agg (#[.slice none 0 0, .slice none 0 0])) (by kernel_rfl) (by kernel_rfl) _ rfl) ?_
  intro B61 w61 a61 hB61 hx61 hg61 hA61
  clear hA60
  have hs61 := hg61.size
  have hl61 := hx61.lt
  refine sx_store hA61 rfl (.inl rfl) rfl (hA61.ev (i := 10) (v := .pointer (some ⟨B61, 0, none⟩))) (hA61.ev (i := 49) (v := .agg #[.slice Ap52 (alc ⟨rs, bs⟩ k).1.rs.length cp52, .slice Aj52 (alc ⟨rs, bs⟩ k).1.bs.length cj52])) hx61 (by kernel_rfl) rfl (by simp [Value.oneCell']) ?_
  intro w62 hx62 hg62
  have hs62 := hg62.size
  refine sx_val hA61 rfl (ev_assign (hA61.ev (i := 50) (v := .int .i64 (alc ⟨rs, bs⟩ k).2.1)) _ rfl) ?_
  intro a63 hA63; clear hA61
  refine sx_val hA63 rfl (ev_assign (hA63.ev (i := 51) (v := .int .i64 (alc ⟨rs, bs⟩ k).2.2)) _ rfl) ?_
  intro a64 hA64; clear hA63
  refine sx_nil ?_
  refine then_n ?_
  refine wp_seq ?_
  refine wp_region_lit ?_
  have hx1_65 := hx1_28.gN hg30
  have hx1_66 := hx1_65.gN hg52
  have hx1_67 := hx1_66.gN hg61
  have hx1_68 := hx1_67.gB hg62 (by omega)
  refine sx_val (v := .agg #[.slice A1 rs.length c1, .slice A2 bs.length c2]) hA64 rfl (ev_row (hA64.ev (i := 2) (v := .pointer (some ⟨B1, 0, none⟩))) hx1_68 Try.underlying25 rfl (n := 2) (by kernel_rfl) rfl _ rfl) ?_
  intro a69 hA69; clear hA64
  refine sx_val hA69 rfl (ev_move (hA69.ev (i := 1) (v := .int .i64 k)) _ rfl) ?_
  intro a70 hA70; clear hA69
  have hbel0_72 := Below.gN hbel0_34 hg30 hbel0_34.size
  have hbel0_73 := Below.gN hbel0_72 hg52 hbel0_72.size
  have hbel0_74 := Below.gN hbel0_73 hg61 hbel0_73.size
  have hbel0_75 := Below.gB hbel0_74 hg62 hbel0_74.size (by omega)
  refine sx_call (f := 23) (args := #[.agg #[.slice A1 rs.length c1, .slice A2 bs.length c2], .int .i64 k]) hA70 rfl (by decide) (.inl rfl) (ev_fn rfl (mp2 (hA70.ev (i := 53) (v := .agg #[.slice A1 rs.length c1, .slice A2 bs.length c2])) (hA70.ev (i := 54) (v := .int .i64 k))) (by kernel_rfl) _ rfl) (sAlloc_any A1 c1 A2 c2 rs bs k _ ⟨(hs.r.below hbel0_75), (hs.b.below hbel0_75)⟩ (by omega) (by omega)) ?_
  intro e71 w71 hR71
  obtain ⟨Ap71, cp71, Aj71, cj71, rfl, hC71, hJ71, hb71⟩ := hR71
  refine ⟨_, rfl, ?_⟩
  intro a71 hA71
  clear hA70
  have hg71 := g0 hb71
  have hs71 := hg71.size
  clear hb71
  have ho71_0 : Own w71 (w62.heap.size) 3 1 (.slice Ap71 (alc ⟨rs, bs⟩ k).1.rs.length cp71) (alc ⟨rs, bs⟩ k).1.rs.length (flat iva (alc ⟨rs, bs⟩ k).1.rs) := hC71
  have hh71_0 := Own.hi ho71_0
  have ho71_1 : Own w71 (w62.heap.size) 4 1 (.slice Aj71 (alc ⟨rs, bs⟩ k).1.bs.length cj71) (alc ⟨rs, bs⟩ k).1.bs.length (flat bva (alc ⟨rs, bs⟩ k).1.bs) := hJ71
  have hh71_1 := Own.hi ho71_1
  refine sx_val hA71 rfl (ev_move (hA71.ev (i := 55) (v := .tuple #[.agg #[.slice Ap71 (alc ⟨rs, bs⟩ k).1.rs.length cp71, .slice Aj71 (alc ⟨rs, bs⟩ k).1.bs.length cj71], .int .i64 (alc ⟨rs, bs⟩ k).2.1, .int .i64 (alc ⟨rs, bs⟩ k).2.2])) _ rfl) ?_
  intro a76 hA76; clear hA71
  refine sx_val (v := .agg #[.slice Ap71 (alc ⟨rs, bs⟩ k).1.rs.length cp71, .slice Aj71 (alc ⟨rs, bs⟩ k).1.bs.length cj71]) hA76 rfl (ev_ext (hA76.ev (i := 52) (v := .tuple #[.agg #[.slice Ap71 (alc ⟨rs, bs⟩ k).1.rs.length cp71, .slice Aj71 (alc ⟨rs, bs⟩ k).1.bs.length cj71], .int .i64 (alc ⟨rs, bs⟩ k).2.1, .int .i64 (alc ⟨rs, bs⟩ k).2.2])) rfl _ rfl) ?_
  intro a77 hA77; clear hA76
  refine sx_val (v := .int .i64 (alc ⟨rs, bs⟩ k).2.1) hA77 rfl (ev_ext (hA77.ev (i := 52) (v := .tuple #[.agg #[.slice Ap71 (alc ⟨rs, bs⟩ k).1.rs.length cp71, .slice Aj71 (alc ⟨rs, bs⟩ k).1.bs.length cj71], .int .i64 (alc ⟨rs, bs⟩ k).2.1, .int .i64 (alc ⟨rs, bs⟩ k).2.2])) rfl _ rfl) ?_
  intro a78 hA78; clear hA77
  refine sx_val (v := .int .i64 (alc ⟨rs, bs⟩ k).2.2) hA78 rfl (ev_ext (hA78.ev (i := 52) (v := .tuple #[.agg #[.slice Ap71 (alc ⟨rs, bs⟩ k).1.rs.length cp71, .slice Aj71 (alc ⟨rs, bs⟩ k).1.bs.length cj71], .int .i64 (alc ⟨rs, bs⟩ k).2.1, .int .i64 (alc ⟨rs, bs⟩ k).2.2])) rfl _ rfl) ?_
  intro a79 hA79; clear hA78
  refine sx_new (cs := #[.slice none 0 0, .slice none 0 0]) (t := 25) hA79 rfl (by decide) (.inl rfl) (ev_alloc (z := .agg (#[.slice none 0 0, .slice none 0 0])) (by kernel_rfl) (by kernel_rfl) _ rfl) ?_
  intro B80 w80 a80 hB80 hx80 hg80 hA80
  clear hA79
  have hs80 := hg80.size
  have hl80 := hx80.lt
  refine sx_store hA80 rfl (.inl rfl) rfl (hA80.ev (i := 12) (v := .pointer (some ⟨B80, 0, none⟩))) (hA80.ev (i := 56) (v := .agg #[.slice Ap71 (alc ⟨rs, bs⟩ k).1.rs.length cp71, .slice Aj71 (alc ⟨rs, bs⟩ k).1.bs.length cj71])) hx80 (by kernel_rfl) rfl (by simp [Value.oneCell']) ?_
  intro w81 hx81 hg81
  have hs81 := hg81.size
  refine sx_val hA80 rfl (ev_assign (hA80.ev (i := 57) (v := .int .i64 (alc ⟨rs, bs⟩ k).2.1)) _ rfl) ?_
  intro a82 hA82; clear hA80
  refine sx_val hA82 rfl (ev_assign (hA82.ev (i := 58) (v := .int .i64 (alc ⟨rs, bs⟩ k).2.2)) _ rfl) ?_
  intro a83 hA83; clear hA82
  refine sx_nil ?_
  refine then_n ?_
  refine wp_seq ?_
  refine wp_seq ?_
  refine wp_region_lit ?_
  have hx62_84 := hx62.gN hg71
  have hx62_85 := hx62_84.gN hg80
  have hx62_86 := hx62_85.gB hg81 (by omega)
  refine sx_val (v := .agg #[.slice Ap52 (alc ⟨rs, bs⟩ k).1.rs.length cp52, .slice Aj52 (alc ⟨rs, bs⟩ k).1.bs.length cj52]) hA83 rfl (ev_row (hA83.ev (i := 10) (v := .pointer (some ⟨B61, 0, none⟩))) hx62_86 Try.underlying25 rfl (n := 2) (by kernel_rfl) rfl _ rfl) ?_
  intro a87 hA87; clear hA83
  refine sx_val (v := .agg #[.slice Ap71 (alc ⟨rs, bs⟩ k).1.rs.length cp71, .slice Aj71 (alc ⟨rs, bs⟩ k).1.bs.length cj71]) hA87 rfl (ev_row (hA87.ev (i := 12) (v := .pointer (some ⟨B80, 0, none⟩))) hx81 Try.underlying25 rfl (n := 2) (by kernel_rfl) rfl _ rfl) ?_
  intro a88 hA88; clear hA87
  have ho52_90 := Own.gN ho52_0 hg61
  have ho52_91 := Own.gBT ho52_90 hg62 hx61 (by decide)
  have ho52_92 := Own.gN ho52_91 hg71
  have ho52_93 := Own.gN ho52_92 hg80
  have ho52_94 := Own.gBT ho52_93 hg81 hx80 (by decide)
  have ho52_95 := Own.gN ho52_1 hg61
  have ho52_96 := Own.gBT ho52_95 hg62 hx61 (by decide)
  have ho52_97 := Own.gN ho52_96 hg71
  have ho52_98 := Own.gN ho52_97 hg80
  have ho52_99 := Own.gBT ho52_98 hg81 hx80 (by decide)
  have ho71_100 := Own.gN ho71_0 hg80
  have ho71_101 := Own.gBT ho71_100 hg81 hx80 (by decide)
  have ho71_102 := Own.gN ho71_1 hg80
  have ho71_103 := Own.gBT ho71_102 hg81 hx80 (by decide)
  refine sx_call (f := 13) (args := #[.agg #[.slice Ap52 (alc ⟨rs, bs⟩ k).1.rs.length cp52, .slice Aj52 (alc ⟨rs, bs⟩ k).1.bs.length cj52], .agg #[.slice Ap71 (alc ⟨rs, bs⟩ k).1.rs.length cp71, .slice Aj71 (alc ⟨rs, bs⟩ k).1.bs.length cj71]]) hA88 rfl (by decide) (.inl rfl) (ev_fn rfl (mp2 (hA88.ev (i := 59) (v := .agg #[.slice Ap52 (alc ⟨rs, bs⟩ k).1.rs.length cp52, .slice Aj52 (alc ⟨rs, bs⟩ k).1.bs.length cj52])) (hA88.ev (i := 60) (v := .agg #[.slice Ap71 (alc ⟨rs, bs⟩ k).1.rs.length cp71, .slice Aj71 (alc ⟨rs, bs⟩ k).1.bs.length cj71]))) (by kernel_rfl) _ rfl) (SameSlots_any Ap52 cp52 Aj52 cj52 (alc ⟨rs, bs⟩ k).1.rs (alc ⟨rs, bs⟩ k).1.bs Ap71 cp71 Aj71 cj71 (alc ⟨rs, bs⟩ k).1.rs (alc ⟨rs, bs⟩ k).1.bs _ ⟨(OwnR.gr (e := 3) ⟨rfl, ho52_94⟩), (OwnR.gr (e := 4) ⟨rfl, ho52_99⟩)⟩ ⟨(OwnR.gr (e := 3) ⟨rfl, ho71_101⟩), (OwnR.gr (e := 4) ⟨rfl, ho71_103⟩)⟩) ?_
  intro e89 w89 hR89
  obtain ⟨he89, hb89⟩ := hR89
  rw [sme_refl] at he89
  subst he89
  refine ⟨_, rfl, ?_⟩
  intro a89 hA89
  clear hA88
  have hg89 := g0 hb89
  have hs89 := hg89.size
  clear hb89
  refine sx_val (v := .bool false) hA89 rfl (ev_notT (hA89.ev (i := 61) (v := .bool true)) _ rfl) ?_
  intro a104 hA104; clear hA89
  refine sx_val hA104 rfl (ev_move (hA104.ev (i := 62) (v := .bool false)) _ rfl) ?_
  intro a105 hA105; clear hA104
  refine sx_val (hg := (.inr ⟨4, false, 63, rfl, rfl, by kernel_rfl⟩)) hA105 rfl (ev_move (hA105.ev (i := 11) (v := .int .i64 (alc ⟨rs, bs⟩ k).2.1)) _ rfl) ?_
  intro a106 hA106; clear hA105
  refine sx_val (hg := (.inr ⟨4, false, 63, rfl, rfl, by kernel_rfl⟩)) hA106 rfl (ev_move (hA106.ev (i := 13) (v := .int .i64 (alc ⟨rs, bs⟩ k).2.1)) _ rfl) ?_
  intro a107 hA107; clear hA106
  refine sx_val (hg := (.inr ⟨4, false, 63, rfl, rfl, by kernel_rfl⟩)) (v := .bool false) hA107 rfl (ev_neqB (k := .i64) (m := (alc ⟨rs, bs⟩ k).2.1) (n := (alc ⟨rs, bs⟩ k).2.1) (hA107.ev (i := 64)) (hA107.ev (i := 65)) (by simp) _ rfl) ?_
  intro a108 hA108; clear hA107
  refine sx_val hA108 rfl (ev_pickF (hA108.ev (i := 63) (v := .bool false)) (hA108.ev (i := 66) (v := .bool false)) _ rfl) ?_
  intro a109 hA109; clear hA108
  refine sx_val hA109 rfl (ev_move (hA109.ev (i := 67) (v := .bool false)) _ rfl) ?_
  intro a110 hA110; clear hA109
  refine sx_val (hg := (.inr ⟨9, false, 68, rfl, rfl, by kernel_rfl⟩)) hA110 rfl (ev_move (hA110.ev (i := 6) (v := .int .i64 (alc ⟨rs, bs⟩ k).2.2)) _ rfl) ?_
  intro a111 hA111; clear hA110
  refine sx_val (hg := (.inr ⟨9, false, 68, rfl, rfl, by kernel_rfl⟩)) hA111 rfl (ev_move (hA111.ev (i := 8) (v := .int .i64 (alc ⟨rs, bs⟩ k).2.2)) _ rfl) ?_
  intro a112 hA112; clear hA111
  refine sx_val (hg := (.inr ⟨9, false, 68, rfl, rfl, by kernel_rfl⟩)) (v := .bool false) hA112 rfl (ev_neqB (k := .i64) (m := (alc ⟨rs, bs⟩ k).2.2) (n := (alc ⟨rs, bs⟩ k).2.2) (hA112.ev (i := 69)) (hA112.ev (i := 70)) (by simp) _ rfl) ?_
  intro a113 hA113; clear hA112
  refine sx_val hA113 rfl (ev_pickF (hA113.ev (i := 68) (v := .bool false)) (hA113.ev (i := 71) (v := .bool false)) _ rfl) ?_
  intro a114 hA114; clear hA113
  refine sx_nil ?_
  refine then_n ?_
  refine wp_cond_false (hA114.ev (i := 72) (v := .bool false)) ?_
  refine wp_skip ?_
  refine then_n ?_
  refine wp_seq ?_
  refine wp_region_lit ?_
  have hx13_115 := hx13_49.gN hg52
  have hx13_116 := hx13_115.gN hg61
  have hx13_117 := hx13_116.gB hg62 (by omega)
  have hx13_118 := hx13_117.gN hg71
  have hx13_119 := hx13_118.gN hg80
  have hx13_120 := hx13_119.gB hg81 (by omega)
  have hx13_121 := hx13_120.gN hg89
  refine sx_val (v := .agg #[.slice Ap10 rs.length cp10, .slice Aj10 bs.length cj10]) hA114 rfl (ev_row (hA114.ev (i := 5) (v := .pointer (some ⟨B12, 0, none⟩))) hx13_121 Try.underlying25 rfl (n := 2) (by kernel_rfl) rfl _ rfl) ?_
  intro a122 hA122; clear hA114
  have ho10_124 := Own.gN ho10_54 hg52
  have ho10_125 := Own.gN ho10_124 hg61
  have ho10_126 := Own.gBT ho10_125 hg62 hx61 (by decide)
  have ho10_127 := Own.gN ho10_126 hg71
  have ho10_128 := Own.gN ho10_127 hg80
  have ho10_129 := Own.gBT ho10_128 hg81 hx80 (by decide)
  have ho10_130 := Own.gN ho10_129 hg89
  have ho10_131 := Own.gN ho10_56 hg52
  have ho10_132 := Own.gN ho10_131 hg61
  have ho10_133 := Own.gBT ho10_132 hg62 hx61 (by decide)
  have ho10_134 := Own.gN ho10_133 hg71
  have ho10_135 := Own.gN ho10_134 hg80
  have ho10_136 := Own.gBT ho10_135 hg81 hx80 (by decide)
  have ho10_137 := Own.gN ho10_136 hg89
  refine sx_call (f := 24) (args := #[.agg #[.slice Ap10 rs.length cp10, .slice Aj10 bs.length cj10]]) hA122 rfl (by decide) (.inl rfl) (ev_fn rfl (mp1 (hA122.ev (i := 74) (v := .agg #[.slice Ap10 rs.length cp10, .slice Aj10 bs.length cj10]))) (by kernel_rfl) _ rfl) (First_any Ap10 cp10 Aj10 cj10 rs bs _ ⟨(OwnR.gr (e := 3) ⟨rfl, ho10_130⟩), (OwnR.gr (e := 4) ⟨rfl, ho10_137⟩)⟩ (by omega) (by omega)) ?_
  intro e123 w123 hR123
  obtain ⟨rfl, hb123⟩ := hR123
  refine ⟨_, rfl, ?_⟩
  intro a123 hA123
  clear hA122
  have hg123 := g0 hb123
  have hs123 := hg123.size
  clear hb123
  refine sx_val hA123 rfl (ev_move (hA123.ev (i := 75) (v := .tuple #[.int .i64 (frst ⟨rs, bs⟩).1, .int .i64 (frst ⟨rs, bs⟩).2])) _ rfl) ?_
  intro a138 hA138; clear hA123
  refine sx_val (v := .int .i64 (frst ⟨rs, bs⟩).1) hA138 rfl (ev_ext (hA138.ev (i := 73) (v := .tuple #[.int .i64 (frst ⟨rs, bs⟩).1, .int .i64 (frst ⟨rs, bs⟩).2])) rfl _ rfl) ?_
  intro a139 hA139; clear hA138
  refine sx_val (v := .int .i64 (frst ⟨rs, bs⟩).2) hA139 rfl (ev_ext (hA139.ev (i := 73) (v := .tuple #[.int .i64 (frst ⟨rs, bs⟩).1, .int .i64 (frst ⟨rs, bs⟩).2])) rfl _ rfl) ?_
  intro a140 hA140; clear hA139
  refine sx_val hA140 rfl (ev_assign (hA140.ev (i := 76) (v := .int .i64 (frst ⟨rs, bs⟩).1)) _ rfl) ?_
  intro a141 hA141; clear hA140
  refine sx_val hA141 rfl (ev_assign (hA141.ev (i := 77) (v := .int .i64 (frst ⟨rs, bs⟩).2)) _ rfl) ?_
  intro a142 hA142; clear hA141
  refine sx_nil ?_
  refine then_n ?_
  refine wp_seq ?_
  refine wp_region_lit ?_
  have hx1_143 := hx1_68.gN hg71
  have hx1_144 := hx1_143.gN hg80
  have hx1_145 := hx1_144.gB hg81 (by omega)
  have hx1_146 := hx1_145.gN hg89
  have hx1_147 := hx1_146.gN hg123
  refine sx_val (v := .agg #[.slice A1 rs.length c1, .slice A2 bs.length c2]) hA142 rfl (ev_row (hA142.ev (i := 2) (v := .pointer (some ⟨B1, 0, none⟩))) hx1_147 Try.underlying25 rfl (n := 2) (by kernel_rfl) rfl _ rfl) ?_
  intro a148 hA148; clear hA142
  have hbel0_150 := Below.gN hbel0_75 hg71 hbel0_75.size
  have hbel0_151 := Below.gN hbel0_150 hg80 hbel0_150.size
  have hbel0_152 := Below.gB hbel0_151 hg81 hbel0_151.size (by omega)
  have hbel0_153 := Below.gN hbel0_152 hg89 hbel0_152.size
  have hbel0_154 := Below.gN hbel0_153 hg123 hbel0_153.size
  refine sx_call (f := 25) (args := #[.agg #[.slice A1 rs.length c1, .slice A2 bs.length c2]]) hA148 rfl (by decide) (.inl rfl) (ev_fn rfl (mp1 (hA148.ev (i := 79) (v := .agg #[.slice A1 rs.length c1, .slice A2 bs.length c2]))) (by kernel_rfl) _ rfl) (sFirst_any A1 c1 A2 c2 rs bs _ ⟨(hs.r.below hbel0_154), (hs.b.below hbel0_154)⟩ (by omega) (by omega)) ?_
  intro e149 w149 hR149
  obtain ⟨rfl, hb149⟩ := hR149
  refine ⟨_, rfl, ?_⟩
  intro a149 hA149
  clear hA148
  have hg149 := g0 hb149
  have hs149 := hg149.size
  clear hb149
  refine sx_val hA149 rfl (ev_move (hA149.ev (i := 80) (v := .tuple #[.int .i64 (frst ⟨rs, bs⟩).1, .int .i64 (frst ⟨rs, bs⟩).2])) _ rfl) ?_
  intro a155 hA155; clear hA149
  refine sx_val (v := .int .i64 (frst ⟨rs, bs⟩).1) hA155 rfl (ev_ext (hA155.ev (i := 78) (v := .tuple #[.int .i64 (frst ⟨rs, bs⟩).1, .int .i64 (frst ⟨rs, bs⟩).2])) rfl _ rfl) ?_
  intro a156 hA156; clear hA155
  refine sx_val (v := .int .i64 (frst ⟨rs, bs⟩).2) hA156 rfl (ev_ext (hA156.ev (i := 78) (v := .tuple #[.int .i64 (frst ⟨rs, bs⟩).1, .int .i64 (frst ⟨rs, bs⟩).2])) rfl _ rfl) ?_
  intro a157 hA157; clear hA156
  refine sx_val hA157 rfl (ev_assign (hA157.ev (i := 81) (v := .int .i64 (frst ⟨rs, bs⟩).1)) _ rfl) ?_
  intro a158 hA158; clear hA157
  refine sx_val hA158 rfl (ev_assign (hA158.ev (i := 82) (v := .int .i64 (frst ⟨rs, bs⟩).2)) _ rfl) ?_
  intro a159 hA159; clear hA158
  refine sx_nil ?_
  refine then_n ?_
  refine wp_seq ?_
  refine wp_seq ?_
  refine wp_region_lit ?_
  refine sx_val hA159 rfl (ev_move (hA159.ev (i := 11) (v := .int .i64 (frst ⟨rs, bs⟩).1)) _ rfl) ?_
  intro a160 hA160; clear hA159
  refine sx_val hA160 rfl (ev_move (hA160.ev (i := 13) (v := .int .i64 (frst ⟨rs, bs⟩).1)) _ rfl) ?_
  intro a161 hA161; clear hA160
  refine sx_val (v := .bool false) hA161 rfl (ev_neqB (k := .i64) (m := (frst ⟨rs, bs⟩).1) (n := (frst ⟨rs, bs⟩).1) (hA161.ev (i := 83)) (hA161.ev (i := 84)) (by simp) _ rfl) ?_
  intro a162 hA162; clear hA161
  refine sx_val hA162 rfl (ev_move (hA162.ev (i := 85) (v := .bool false)) _ rfl) ?_
  intro a163 hA163; clear hA162
  refine sx_val (hg := (.inr ⟨3, false, 86, rfl, rfl, by kernel_rfl⟩)) hA163 rfl (ev_move (hA163.ev (i := 6) (v := .int .i64 (frst ⟨rs, bs⟩).2)) _ rfl) ?_
  intro a164 hA164; clear hA163
  refine sx_val (hg := (.inr ⟨3, false, 86, rfl, rfl, by kernel_rfl⟩)) hA164 rfl (ev_move (hA164.ev (i := 8) (v := .int .i64 (frst ⟨rs, bs⟩).2)) _ rfl) ?_
  intro a165 hA165; clear hA164
  refine sx_val (hg := (.inr ⟨3, false, 86, rfl, rfl, by kernel_rfl⟩)) (v := .bool false) hA165 rfl (ev_neqB (k := .i64) (m := (frst ⟨rs, bs⟩).2) (n := (frst ⟨rs, bs⟩).2) (hA165.ev (i := 87)) (hA165.ev (i := 88)) (by simp) _ rfl) ?_
  intro a166 hA166; clear hA165
  refine sx_val hA166 rfl (ev_pickF (hA166.ev (i := 86) (v := .bool false)) (hA166.ev (i := 89) (v := .bool false)) _ rfl) ?_
  intro a167 hA167; clear hA166
  refine sx_nil ?_
  refine then_n ?_
  refine wp_cond_false (hA167.ev (i := 90) (v := .bool false)) ?_
  refine wp_skip ?_
  refine then_n ?_
  refine wp_seq ?_
  refine wp_region_lit ?_
  have hx13_168 := hx13_121.gN hg123
  have hx13_169 := hx13_168.gN hg149
  refine sx_val (v := .agg #[.slice Ap10 rs.length cp10, .slice Aj10 bs.length cj10]) hA167 rfl (ev_row (hA167.ev (i := 5) (v := .pointer (some ⟨B12, 0, none⟩))) hx13_169 Try.underlying25 rfl (n := 2) (by kernel_rfl) rfl _ rfl) ?_
  intro a170 hA170; clear hA167
  have ho10_172 := Own.gN ho10_130 hg123
  have ho10_173 := Own.gN ho10_172 hg149
  have ho10_174 := Own.gN ho10_137 hg123
  have ho10_175 := Own.gN ho10_174 hg149
  refine sx_call (f := 26) (args := #[.agg #[.slice Ap10 rs.length cp10, .slice Aj10 bs.length cj10]]) hA170 rfl (by decide) (.inl rfl) (ev_fn rfl (mp1 (hA170.ev (i := 92) (v := .agg #[.slice Ap10 rs.length cp10, .slice Aj10 bs.length cj10]))) (by kernel_rfl) _ rfl) (Count_any Ap10 cp10 Aj10 cj10 rs bs _ ⟨(OwnR.gr (e := 3) ⟨rfl, ho10_173⟩), (OwnR.gr (e := 4) ⟨rfl, ho10_175⟩)⟩ (by omega) (by omega)) ?_
  intro e171 w171 hR171
  obtain ⟨rfl, hb171⟩ := hR171
  refine ⟨_, rfl, ?_⟩
  intro a171 hA171
  clear hA170
  have hg171 := g0 hb171
  have hs171 := hg171.size
  clear hb171
  refine sx_val hA171 rfl (ev_move (hA171.ev (i := 93) (v := .tuple #[.int .i64 (cnt ⟨rs, bs⟩).1, .int .i64 (cnt ⟨rs, bs⟩).2.1, .int .i64 (cnt ⟨rs, bs⟩).2.2.1, .int .i64 (cnt ⟨rs, bs⟩).2.2.2])) _ rfl) ?_
  intro a176 hA176; clear hA171
  refine sx_val (v := .int .i64 (cnt ⟨rs, bs⟩).1) hA176 rfl (ev_ext (hA176.ev (i := 91) (v := .tuple #[.int .i64 (cnt ⟨rs, bs⟩).1, .int .i64 (cnt ⟨rs, bs⟩).2.1, .int .i64 (cnt ⟨rs, bs⟩).2.2.1, .int .i64 (cnt ⟨rs, bs⟩).2.2.2])) rfl _ rfl) ?_
  intro a177 hA177; clear hA176
  refine sx_val (v := .int .i64 (cnt ⟨rs, bs⟩).2.1) hA177 rfl (ev_ext (hA177.ev (i := 91) (v := .tuple #[.int .i64 (cnt ⟨rs, bs⟩).1, .int .i64 (cnt ⟨rs, bs⟩).2.1, .int .i64 (cnt ⟨rs, bs⟩).2.2.1, .int .i64 (cnt ⟨rs, bs⟩).2.2.2])) rfl _ rfl) ?_
  intro a178 hA178; clear hA177
  refine sx_val (v := .int .i64 (cnt ⟨rs, bs⟩).2.2.1) hA178 rfl (ev_ext (hA178.ev (i := 91) (v := .tuple #[.int .i64 (cnt ⟨rs, bs⟩).1, .int .i64 (cnt ⟨rs, bs⟩).2.1, .int .i64 (cnt ⟨rs, bs⟩).2.2.1, .int .i64 (cnt ⟨rs, bs⟩).2.2.2])) rfl _ rfl) ?_
  intro a179 hA179; clear hA178
  refine sx_val (v := .int .i64 (cnt ⟨rs, bs⟩).2.2.2) hA179 rfl (ev_ext (hA179.ev (i := 91) (v := .tuple #[.int .i64 (cnt ⟨rs, bs⟩).1, .int .i64 (cnt ⟨rs, bs⟩).2.1, .int .i64 (cnt ⟨rs, bs⟩).2.2.1, .int .i64 (cnt ⟨rs, bs⟩).2.2.2])) rfl _ rfl) ?_
  intro a180 hA180; clear hA179
  refine sx_val hA180 rfl (ev_assign (hA180.ev (i := 94) (v := .int .i64 (cnt ⟨rs, bs⟩).1)) _ rfl) ?_
  intro a181 hA181; clear hA180
  refine sx_val hA181 rfl (ev_assign (hA181.ev (i := 95) (v := .int .i64 (cnt ⟨rs, bs⟩).2.1)) _ rfl) ?_
  intro a182 hA182; clear hA181
  refine sx_val hA182 rfl (ev_assign (hA182.ev (i := 96) (v := .int .i64 (cnt ⟨rs, bs⟩).2.2.1)) _ rfl) ?_
  intro a183 hA183; clear hA182
  refine sx_val hA183 rfl (ev_assign (hA183.ev (i := 97) (v := .int .i64 (cnt ⟨rs, bs⟩).2.2.2)) _ rfl) ?_
  intro a184 hA184; clear hA183
  refine sx_nil ?_
  refine then_n ?_
  refine wp_seq ?_
  refine wp_region_lit ?_
  have hx1_185 := hx1_147.gN hg149
  have hx1_186 := hx1_185.gN hg171
  refine sx_val (v := .agg #[.slice A1 rs.length c1, .slice A2 bs.length c2]) hA184 rfl (ev_row (hA184.ev (i := 2) (v := .pointer (some ⟨B1, 0, none⟩))) hx1_186 Try.underlying25 rfl (n := 2) (by kernel_rfl) rfl _ rfl) ?_
  intro a187 hA187; clear hA184
  have hbel0_189 := Below.gN hbel0_154 hg149 hbel0_154.size
  have hbel0_190 := Below.gN hbel0_189 hg171 hbel0_189.size
  refine sx_call (f := 27) (args := #[.agg #[.slice A1 rs.length c1, .slice A2 bs.length c2]]) hA187 rfl (by decide) (.inl rfl) (ev_fn rfl (mp1 (hA187.ev (i := 99) (v := .agg #[.slice A1 rs.length c1, .slice A2 bs.length c2]))) (by kernel_rfl) _ rfl) (sCount_any A1 c1 A2 c2 rs bs _ ⟨(hs.r.below hbel0_190), (hs.b.below hbel0_190)⟩ (by omega) (by omega)) ?_
  intro e188 w188 hR188
  obtain ⟨rfl, hb188⟩ := hR188
  refine ⟨_, rfl, ?_⟩
  intro a188 hA188
  clear hA187
  have hg188 := g0 hb188
  have hs188 := hg188.size
  clear hb188
  refine sx_val hA188 rfl (ev_move (hA188.ev (i := 100) (v := .tuple #[.int .i64 (cnt ⟨rs, bs⟩).1, .int .i64 (cnt ⟨rs, bs⟩).2.1, .int .i64 (cnt ⟨rs, bs⟩).2.2.1, .int .i64 (cnt ⟨rs, bs⟩).2.2.2])) _ rfl) ?_
  intro a191 hA191; clear hA188
  refine sx_val (v := .int .i64 (cnt ⟨rs, bs⟩).1) hA191 rfl (ev_ext (hA191.ev (i := 98) (v := .tuple #[.int .i64 (cnt ⟨rs, bs⟩).1, .int .i64 (cnt ⟨rs, bs⟩).2.1, .int .i64 (cnt ⟨rs, bs⟩).2.2.1, .int .i64 (cnt ⟨rs, bs⟩).2.2.2])) rfl _ rfl) ?_
  intro a192 hA192; clear hA191
  refine sx_val (v := .int .i64 (cnt ⟨rs, bs⟩).2.1) hA192 rfl (ev_ext (hA192.ev (i := 98) (v := .tuple #[.int .i64 (cnt ⟨rs, bs⟩).1, .int .i64 (cnt ⟨rs, bs⟩).2.1, .int .i64 (cnt ⟨rs, bs⟩).2.2.1, .int .i64 (cnt ⟨rs, bs⟩).2.2.2])) rfl _ rfl) ?_
  intro a193 hA193; clear hA192
  refine sx_val (v := .int .i64 (cnt ⟨rs, bs⟩).2.2.1) hA193 rfl (ev_ext (hA193.ev (i := 98) (v := .tuple #[.int .i64 (cnt ⟨rs, bs⟩).1, .int .i64 (cnt ⟨rs, bs⟩).2.1, .int .i64 (cnt ⟨rs, bs⟩).2.2.1, .int .i64 (cnt ⟨rs, bs⟩).2.2.2])) rfl _ rfl) ?_
  intro a194 hA194; clear hA193
  refine sx_val (v := .int .i64 (cnt ⟨rs, bs⟩).2.2.2) hA194 rfl (ev_ext (hA194.ev (i := 98) (v := .tuple #[.int .i64 (cnt ⟨rs, bs⟩).1, .int .i64 (cnt ⟨rs, bs⟩).2.1, .int .i64 (cnt ⟨rs, bs⟩).2.2.1, .int .i64 (cnt ⟨rs, bs⟩).2.2.2])) rfl _ rfl) ?_
  intro a195 hA195; clear hA194
  refine sx_val hA195 rfl (ev_assign (hA195.ev (i := 101) (v := .int .i64 (cnt ⟨rs, bs⟩).1)) _ rfl) ?_
  intro a196 hA196; clear hA195
  refine sx_val hA196 rfl (ev_assign (hA196.ev (i := 102) (v := .int .i64 (cnt ⟨rs, bs⟩).2.1)) _ rfl) ?_
  intro a197 hA197; clear hA196
  refine sx_val hA197 rfl (ev_assign (hA197.ev (i := 103) (v := .int .i64 (cnt ⟨rs, bs⟩).2.2.1)) _ rfl) ?_
  intro a198 hA198; clear hA197
  refine sx_val hA198 rfl (ev_assign (hA198.ev (i := 104) (v := .int .i64 (cnt ⟨rs, bs⟩).2.2.2)) _ rfl) ?_
  intro a199 hA199; clear hA198
  refine sx_nil ?_
  refine then_n ?_
  refine wp_seq ?_
  refine wp_region_lit ?_
  refine sx_val hA199 rfl (ev_move (hA199.ev (i := 1) (v := .int .i64 k)) _ rfl) ?_
  intro a200 hA200; clear hA199
  refine sx_call (f := 28) (args := #[.int .i64 k]) hA200 rfl (by decide) (.inl rfl) (ev_fn rfl (mp1 (hA200.ev (i := 106) (v := .int .i64 k))) (by kernel_rfl) _ rfl) (New_any k _) ?_
  intro e201 w201 hR201
  obtain ⟨Ap201, cp201, Aj201, cj201, rfl, hC201, hJ201, hb201⟩ := hR201
  refine ⟨_, rfl, ?_⟩
  intro a201 hA201
  clear hA200
  have hg201 := g0 hb201
  have hs201 := hg201.size
  clear hb201
  have ho201_0 : Own w201 (w188.heap.size) 3 1 (.slice Ap201 (nws k).1.rs.length cp201) (nws k).1.rs.length (flat iva (nws k).1.rs) := hC201
  have hh201_0 := Own.hi ho201_0
  have ho201_1 : Own w201 (w188.heap.size) 4 1 (.slice Aj201 (nws k).1.bs.length cj201) (nws k).1.bs.length (flat bva (nws k).1.bs) := hJ201
  have hh201_1 := Own.hi ho201_1
  refine sx_val hA201 rfl (ev_move (hA201.ev (i := 107) (v := .tuple #[.agg #[.slice Ap201 (nws k).1.rs.length cp201, .slice Aj201 (nws k).1.bs.length cj201], .int .i64 (nws k).2])) _ rfl) ?_
  intro a202 hA202; clear hA201
  refine sx_val (v := .agg #[.slice Ap201 (nws k).1.rs.length cp201, .slice Aj201 (nws k).1.bs.length cj201]) hA202 rfl (ev_ext (hA202.ev (i := 105) (v := .tuple #[.agg #[.slice Ap201 (nws k).1.rs.length cp201, .slice Aj201 (nws k).1.bs.length cj201], .int .i64 (nws k).2])) rfl _ rfl) ?_
  intro a203 hA203; clear hA202
  refine sx_val (v := .int .i64 (nws k).2) hA203 rfl (ev_ext (hA203.ev (i := 105) (v := .tuple #[.agg #[.slice Ap201 (nws k).1.rs.length cp201, .slice Aj201 (nws k).1.bs.length cj201], .int .i64 (nws k).2])) rfl _ rfl) ?_
  intro a204 hA204; clear hA203
  have hx62_206 := hx62_86.gN hg89
  have hx62_207 := hx62_206.gN hg123
  have hx62_208 := hx62_207.gN hg149
  have hx62_209 := hx62_208.gN hg171
  have hx62_210 := hx62_209.gN hg188
  have hx62_211 := hx62_210.gN hg201
  refine sx_store hA204 rfl (.inl rfl) rfl (hA204.ev (i := 10) (v := .pointer (some ⟨B61, 0, none⟩))) (hA204.ev (i := 108) (v := .agg #[.slice Ap201 (nws k).1.rs.length cp201, .slice Aj201 (nws k).1.bs.length cj201])) hx62_211 (by kernel_rfl) rfl (by simp [Value.oneCell']) ?_
  intro w205 hx205 hg205
  have hs205 := hg205.size
  refine sx_val hA204 rfl (ev_assign (hA204.ev (i := 109) (v := .int .i64 (nws k).2)) _ rfl) ?_
  intro a212 hA212; clear hA204
  refine sx_nil ?_
  refine then_n ?_
  refine wp_seq ?_
  refine wp_region_lit ?_
  refine sx_val hA212 rfl (ev_move (hA212.ev (i := 1) (v := .int .i64 k)) _ rfl) ?_
  intro a213 hA213; clear hA212
  refine sx_call (f := 29) (args := #[.int .i64 k]) hA213 rfl (by decide) (.inl rfl) (ev_fn rfl (mp1 (hA213.ev (i := 111) (v := .int .i64 k))) (by kernel_rfl) _ rfl) (sNew_any k _) ?_
  intro e214 w214 hR214
  obtain ⟨Ap214, cp214, Aj214, cj214, rfl, hC214, hJ214, hb214⟩ := hR214
  refine ⟨_, rfl, ?_⟩
  intro a214 hA214
  clear hA213
  have hg214 := g0 hb214
  have hs214 := hg214.size
  clear hb214
  have ho214_0 : Own w214 (w205.heap.size) 3 1 (.slice Ap214 (nws k).1.rs.length cp214) (nws k).1.rs.length (flat iva (nws k).1.rs) := hC214
  have hh214_0 := Own.hi ho214_0
  have ho214_1 : Own w214 (w205.heap.size) 4 1 (.slice Aj214 (nws k).1.bs.length cj214) (nws k).1.bs.length (flat bva (nws k).1.bs) := hJ214
  have hh214_1 := Own.hi ho214_1
  refine sx_val hA214 rfl (ev_move (hA214.ev (i := 112) (v := .tuple #[.agg #[.slice Ap214 (nws k).1.rs.length cp214, .slice Aj214 (nws k).1.bs.length cj214], .int .i64 (nws k).2])) _ rfl) ?_
  intro a215 hA215; clear hA214
  refine sx_val (v := .agg #[.slice Ap214 (nws k).1.rs.length cp214, .slice Aj214 (nws k).1.bs.length cj214]) hA215 rfl (ev_ext (hA215.ev (i := 110) (v := .tuple #[.agg #[.slice Ap214 (nws k).1.rs.length cp214, .slice Aj214 (nws k).1.bs.length cj214], .int .i64 (nws k).2])) rfl _ rfl) ?_
  intro a216 hA216; clear hA215
  refine sx_val (v := .int .i64 (nws k).2) hA216 rfl (ev_ext (hA216.ev (i := 110) (v := .tuple #[.agg #[.slice Ap214 (nws k).1.rs.length cp214, .slice Aj214 (nws k).1.bs.length cj214], .int .i64 (nws k).2])) rfl _ rfl) ?_
  intro a217 hA217; clear hA216
  have hx81_219 := hx81.gN hg89
  have hx81_220 := hx81_219.gN hg123
  have hx81_221 := hx81_220.gN hg149
  have hx81_222 := hx81_221.gN hg171
  have hx81_223 := hx81_222.gN hg188
  have hx81_224 := hx81_223.gN hg201
  have hx81_225 := hx81_224.gB hg205 (by omega)
  have hx81_226 := hx81_225.gN hg214
  refine sx_store hA217 rfl (.inl rfl) rfl (hA217.ev (i := 12) (v := .pointer (some ⟨B80, 0, none⟩))) (hA217.ev (i := 113) (v := .agg #[.slice Ap214 (nws k).1.rs.length cp214, .slice Aj214 (nws k).1.bs.length cj214])) hx81_226 (by kernel_rfl) rfl (by simp [Value.oneCell']) ?_
  intro w218 hx218 hg218
  have hs218 := hg218.size
  refine sx_val hA217 rfl (ev_assign (hA217.ev (i := 114) (v := .int .i64 (nws k).2)) _ rfl) ?_
  intro a227 hA227; clear hA217
  refine sx_nil ?_
  refine then_n ?_
  refine wp_seq ?_
  refine wp_region_lit ?_
  refine sx_val hA227 rfl (ev_move (hA227.ev (i := 14) (v := .int .i64 (cnt ⟨rs, bs⟩).1)) _ rfl) ?_
  intro a228 hA228; clear hA227
  refine sx_val hA228 rfl (ev_move (hA228.ev (i := 17) (v := .int .i64 (cnt ⟨rs, bs⟩).1)) _ rfl) ?_
  intro a229 hA229; clear hA228
  refine sx_val (v := .bool true) hA229 rfl (ev_eqlB (k := .i64) (m := (cnt ⟨rs, bs⟩).1) (n := (cnt ⟨rs, bs⟩).1) (hA229.ev (i := 115)) (hA229.ev (i := 116)) (by simp) _ rfl) ?_
  intro a230 hA230; clear hA229
  refine sx_val hA230 rfl (ev_move (hA230.ev (i := 117) (v := .bool true)) _ rfl) ?_
  intro a231 hA231; clear hA230
  refine sx_val (hg := (.inr ⟨3, true, 118, rfl, rfl, by kernel_rfl⟩)) hA231 rfl (ev_move (hA231.ev (i := 15) (v := .int .i64 (cnt ⟨rs, bs⟩).2.1)) _ rfl) ?_
  intro a232 hA232; clear hA231
  refine sx_val (hg := (.inr ⟨3, true, 118, rfl, rfl, by kernel_rfl⟩)) hA232 rfl (ev_move (hA232.ev (i := 18) (v := .int .i64 (cnt ⟨rs, bs⟩).2.1)) _ rfl) ?_
  intro a233 hA233; clear hA232
  refine sx_val (hg := (.inr ⟨3, true, 118, rfl, rfl, by kernel_rfl⟩)) (v := .bool true) hA233 rfl (ev_eqlB (k := .i64) (m := (cnt ⟨rs, bs⟩).2.1) (n := (cnt ⟨rs, bs⟩).2.1) (hA233.ev (i := 119)) (hA233.ev (i := 120)) (by simp) _ rfl) ?_
  intro a234 hA234; clear hA233
  refine sx_val hA234 rfl (ev_pickT (hA234.ev (i := 118) (v := .bool true)) (hA234.ev (i := 121) (v := .bool true)) _ rfl) ?_
  intro a235 hA235; clear hA234
  refine sx_val hA235 rfl (ev_move (hA235.ev (i := 122) (v := .bool true)) _ rfl) ?_
  intro a236 hA236; clear hA235
  refine sx_val (hg := (.inr ⟨8, true, 123, rfl, rfl, by kernel_rfl⟩)) hA236 rfl (ev_move (hA236.ev (i := 16) (v := .int .i64 (cnt ⟨rs, bs⟩).2.2.1)) _ rfl) ?_
  intro a237 hA237; clear hA236
  refine sx_val (hg := (.inr ⟨8, true, 123, rfl, rfl, by kernel_rfl⟩)) hA237 rfl (ev_move (hA237.ev (i := 19) (v := .int .i64 (cnt ⟨rs, bs⟩).2.2.1)) _ rfl) ?_
  intro a238 hA238; clear hA237
  refine sx_val (hg := (.inr ⟨8, true, 123, rfl, rfl, by kernel_rfl⟩)) (v := .bool true) hA238 rfl (ev_eqlB (k := .i64) (m := (cnt ⟨rs, bs⟩).2.2.1) (n := (cnt ⟨rs, bs⟩).2.2.1) (hA238.ev (i := 124)) (hA238.ev (i := 125)) (by simp) _ rfl) ?_
  intro a239 hA239; clear hA238
  refine sx_val hA239 rfl (ev_pickT (hA239.ev (i := 123) (v := .bool true)) (hA239.ev (i := 126) (v := .bool true)) _ rfl) ?_
  intro a240 hA240; clear hA239
  refine sx_val hA240 rfl (ev_move (hA240.ev (i := 127) (v := .bool true)) _ rfl) ?_
  intro a241 hA241; clear hA240
  refine sx_val (hg := (.inr ⟨13, true, 128, rfl, rfl, by kernel_rfl⟩)) hA241 rfl (ev_move (hA241.ev (i := 6) (v := .int .i64 (cnt ⟨rs, bs⟩).2.2.2)) _ rfl) ?_
  intro a242 hA242; clear hA241
  refine sx_val (hg := (.inr ⟨13, true, 128, rfl, rfl, by kernel_rfl⟩)) hA242 rfl (ev_move (hA242.ev (i := 8) (v := .int .i64 (cnt ⟨rs, bs⟩).2.2.2)) _ rfl) ?_
  intro a243 hA243; clear hA242
  refine sx_val (hg := (.inr ⟨13, true, 128, rfl, rfl, by kernel_rfl⟩)) (v := .bool true) hA243 rfl (ev_eqlB (k := .i64) (m := (cnt ⟨rs, bs⟩).2.2.2) (n := (cnt ⟨rs, bs⟩).2.2.2) (hA243.ev (i := 129)) (hA243.ev (i := 130)) (by simp) _ rfl) ?_
  intro a244 hA244; clear hA243
  refine sx_val hA244 rfl (ev_pickT (hA244.ev (i := 128) (v := .bool true)) (hA244.ev (i := 131) (v := .bool true)) _ rfl) ?_
  intro a245 hA245; clear hA244
  refine sx_val hA245 rfl (ev_move (hA245.ev (i := 132) (v := .bool true)) _ rfl) ?_
  intro a246 hA246; clear hA245
  have hx205_247 := hx205.gN hg214
  have hx205_248 := hx205_247.gB hg218 (by omega)
  refine sx_val (hg := (.inr ⟨18, true, 133, rfl, rfl, by kernel_rfl⟩)) (v := .agg #[.slice Ap201 (nws k).1.rs.length cp201, .slice Aj201 (nws k).1.bs.length cj201]) hA246 rfl (ev_row (hA246.ev (i := 10) (v := .pointer (some ⟨B61, 0, none⟩))) hx205_248 Try.underlying25 rfl (n := 2) (by kernel_rfl) rfl _ rfl) ?_
  intro a249 hA249; clear hA246
  refine sx_val (hg := (.inr ⟨18, true, 133, rfl, rfl, by kernel_rfl⟩)) (v := .agg #[.slice Ap214 (nws k).1.rs.length cp214, .slice Aj214 (nws k).1.bs.length cj214]) hA249 rfl (ev_row (hA249.ev (i := 12) (v := .pointer (some ⟨B80, 0, none⟩))) hx218 Try.underlying25 rfl (n := 2) (by kernel_rfl) rfl _ rfl) ?_
  intro a250 hA250; clear hA249
  have ho201_252 := Own.gBT ho201_0 hg205 hx62_211 (by decide)
  have ho201_253 := Own.gN ho201_252 hg214
  have ho201_254 := Own.gBT ho201_253 hg218 hx81_226 (by decide)
  have ho201_255 := Own.gBT ho201_1 hg205 hx62_211 (by decide)
  have ho201_256 := Own.gN ho201_255 hg214
  have ho201_257 := Own.gBT ho201_256 hg218 hx81_226 (by decide)
  have ho214_258 := Own.gBT ho214_0 hg218 hx81_226 (by decide)
  have ho214_259 := Own.gBT ho214_1 hg218 hx81_226 (by decide)
  refine sx_call (f := 13) (args := #[.agg #[.slice Ap201 (nws k).1.rs.length cp201, .slice Aj201 (nws k).1.bs.length cj201], .agg #[.slice Ap214 (nws k).1.rs.length cp214, .slice Aj214 (nws k).1.bs.length cj214]]) hA250 rfl (by decide) (.inr ⟨18, true, 133, rfl, rfl, by kernel_rfl⟩) (ev_fn rfl (mp2 (hA250.ev (i := 134) (v := .agg #[.slice Ap201 (nws k).1.rs.length cp201, .slice Aj201 (nws k).1.bs.length cj201])) (hA250.ev (i := 135) (v := .agg #[.slice Ap214 (nws k).1.rs.length cp214, .slice Aj214 (nws k).1.bs.length cj214]))) (by kernel_rfl) _ rfl) (SameSlots_any Ap201 cp201 Aj201 cj201 (nws k).1.rs (nws k).1.bs Ap214 cp214 Aj214 cj214 (nws k).1.rs (nws k).1.bs _ ⟨(OwnR.gr (e := 3) ⟨rfl, ho201_254⟩), (OwnR.gr (e := 4) ⟨rfl, ho201_257⟩)⟩ ⟨(OwnR.gr (e := 3) ⟨rfl, ho214_258⟩), (OwnR.gr (e := 4) ⟨rfl, ho214_259⟩)⟩) ?_
  intro e251 w251 hR251
  obtain ⟨he251, hb251⟩ := hR251
  rw [sme_refl] at he251
  subst he251
  refine ⟨_, rfl, ?_⟩
  intro a251 hA251
  clear hA250
  have hg251 := g0 hb251
  have hs251 := hg251.size
  clear hb251
  refine sx_val hA251 rfl (ev_pickT (hA251.ev (i := 133) (v := .bool true)) (hA251.ev (i := 136) (v := .bool true)) _ rfl) ?_
  intro a260 hA260; clear hA251
  refine sx_val hA260 rfl (ev_move (hA260.ev (i := 137) (v := .bool true)) _ rfl) ?_
  intro a261 hA261; clear hA260
  refine sx_val (hg := (.inr ⟨23, true, 138, rfl, rfl, by kernel_rfl⟩)) hA261 rfl (ev_move (hA261.ev (i := 20) (v := .int .i64 (nws k).2)) _ rfl) ?_
  intro a262 hA262; clear hA261
  refine sx_val (hg := (.inr ⟨23, true, 138, rfl, rfl, by kernel_rfl⟩)) hA262 rfl (ev_move (hA262.ev (i := 21) (v := .int .i64 (nws k).2)) _ rfl) ?_
  intro a263 hA263; clear hA262
  refine sx_val (hg := (.inr ⟨23, true, 138, rfl, rfl, by kernel_rfl⟩)) (v := .bool true) hA263 rfl (ev_eqlB (k := .i64) (m := (nws k).2) (n := (nws k).2) (hA263.ev (i := 139)) (hA263.ev (i := 140)) (by simp) _ rfl) ?_
  intro a264 hA264; clear hA263
  refine sx_val hA264 rfl (ev_pickT (hA264.ev (i := 138) (v := .bool true)) (hA264.ev (i := 141) (v := .bool true)) _ rfl) ?_
  intro a265 hA265; clear hA264
  refine sx_val hA265 rfl (ev_move (hA265.ev (i := 142) (v := .bool true)) _ rfl) ?_
  intro a266 hA266; clear hA265
  have hx13_267 := hx13_169.gN hg171
  have hx13_268 := hx13_267.gN hg188
  have hx13_269 := hx13_268.gN hg201
  have hx13_270 := hx13_269.gB hg205 (by omega)
  have hx13_271 := hx13_270.gN hg214
  have hx13_272 := hx13_271.gB hg218 (by omega)
  have hx13_273 := hx13_272.gN hg251
  refine sx_val (hg := (.inr ⟨28, true, 143, rfl, rfl, by kernel_rfl⟩)) (v := .agg #[.slice Ap10 rs.length cp10, .slice Aj10 bs.length cj10]) hA266 rfl (ev_row (hA266.ev (i := 5) (v := .pointer (some ⟨B12, 0, none⟩))) hx13_273 Try.underlying25 rfl (n := 2) (by kernel_rfl) rfl _ rfl) ?_
  intro a274 hA274; clear hA266
  have hx1_275 := hx1_186.gN hg188
  have hx1_276 := hx1_275.gN hg201
  have hx1_277 := hx1_276.gB hg205 (by omega)
  have hx1_278 := hx1_277.gN hg214
  have hx1_279 := hx1_278.gB hg218 (by omega)
  have hx1_280 := hx1_279.gN hg251
  refine sx_val (hg := (.inr ⟨28, true, 143, rfl, rfl, by kernel_rfl⟩)) (v := .agg #[.slice A1 rs.length c1, .slice A2 bs.length c2]) hA274 rfl (ev_row (hA274.ev (i := 2) (v := .pointer (some ⟨B1, 0, none⟩))) hx1_280 Try.underlying25 rfl (n := 2) (by kernel_rfl) rfl _ rfl) ?_
  intro a281 hA281; clear hA274
  have ho10_283 := Own.gN ho10_173 hg171
  have ho10_284 := Own.gN ho10_283 hg188
  have ho10_285 := Own.gN ho10_284 hg201
  have ho10_286 := Own.gBT ho10_285 hg205 hx62_211 (by decide)
  have ho10_287 := Own.gN ho10_286 hg214
  have ho10_288 := Own.gBT ho10_287 hg218 hx81_226 (by decide)
  have ho10_289 := Own.gN ho10_288 hg251
  have ho10_290 := Own.gN ho10_175 hg171
  have ho10_291 := Own.gN ho10_290 hg188
  have ho10_292 := Own.gN ho10_291 hg201
  have ho10_293 := Own.gBT ho10_292 hg205 hx62_211 (by decide)
  have ho10_294 := Own.gN ho10_293 hg214
  have ho10_295 := Own.gBT ho10_294 hg218 hx81_226 (by decide)
  have ho10_296 := Own.gN ho10_295 hg251
  have hbel0_297 := Below.gN hbel0_190 hg188 hbel0_190.size
  have hbel0_298 := Below.gN hbel0_297 hg201 hbel0_297.size
  have hbel0_299 := Below.gB hbel0_298 hg205 hbel0_298.size (by omega)
  have hbel0_300 := Below.gN hbel0_299 hg214 hbel0_299.size
  have hbel0_301 := Below.gB hbel0_300 hg218 hbel0_300.size (by omega)
  have hbel0_302 := Below.gN hbel0_301 hg251 hbel0_301.size
  refine sx_call (f := 13) (args := #[.agg #[.slice Ap10 rs.length cp10, .slice Aj10 bs.length cj10], .agg #[.slice A1 rs.length c1, .slice A2 bs.length c2]]) hA281 rfl (by decide) (.inr ⟨28, true, 143, rfl, rfl, by kernel_rfl⟩) (ev_fn rfl (mp2 (hA281.ev (i := 144) (v := .agg #[.slice Ap10 rs.length cp10, .slice Aj10 bs.length cj10])) (hA281.ev (i := 145) (v := .agg #[.slice A1 rs.length c1, .slice A2 bs.length c2]))) (by kernel_rfl) _ rfl) (SameSlots_any Ap10 cp10 Aj10 cj10 rs bs A1 c1 A2 c2 rs bs _ ⟨(OwnR.gr (e := 3) ⟨rfl, ho10_289⟩), (OwnR.gr (e := 4) ⟨rfl, ho10_296⟩)⟩ ⟨(hs.r.below hbel0_302), (hs.b.below hbel0_302)⟩) ?_
  intro e282 w282 hR282
  obtain ⟨he282, hb282⟩ := hR282
  rw [sme_refl] at he282
  subst he282
  refine ⟨_, rfl, ?_⟩
  intro a282 hA282
  clear hA281
  have hg282 := g0 hb282
  have hs282 := hg282.size
  clear hb282
  refine sx_val hA282 rfl (ev_pickT (hA282.ev (i := 143) (v := .bool true)) (hA282.ev (i := 146) (v := .bool true)) _ rfl) ?_
  intro a303 hA303; clear hA282
  refine sx_val hA303 rfl (ev_move (hA303.ev (i := 147) (v := .bool true)) _ rfl) ?_
  intro a304 hA304; clear hA303
  refine sx_call (f := 9) (args := #[]) hA304 rfl (by decide) (.inr ⟨33, true, 148, rfl, rfl, by kernel_rfl⟩) (ev_fn rfl (mp0 ) (by kernel_rfl) _ rfl) (awake_any _) ?_
  intro e305 w305 hR305
  obtain ⟨rfl, hb305⟩ := hR305
  refine ⟨_, rfl, ?_⟩
  intro a305 hA305
  clear hA304
  have hg305 := g0 hb305
  have hs305 := hg305.size
  clear hb305
  refine sx_val hA305 rfl (ev_pickT (hA305.ev (i := 148) (v := .bool true)) (hA305.ev (i := 149) (v := .bool true)) _ rfl) ?_
  intro a306 hA306; clear hA305
  refine sx_val hA306 rfl (ev_assign (hA306.ev (i := 150) (v := .bool true)) _ rfl) ?_
  intro a307 hA307; clear hA306
  refine sx_nil ?_
  refine then_n ?_
  refine wp_ret ?_
  refine bodyPost_ret (rs_t (v := .bool true) Try.results4 hA307 (by kernel_rfl) ) hA307.2.1 ?_
  have hbel0_308 := Below.gN hbel0_302 hg282 hbel0_302.size
  have hbel0_309 := Below.gN hbel0_308 hg305 hbel0_308.size
  exact ⟨rfl, hbel0_309⟩
end Go.Proofs.Ytpoilgfblhacaaa
