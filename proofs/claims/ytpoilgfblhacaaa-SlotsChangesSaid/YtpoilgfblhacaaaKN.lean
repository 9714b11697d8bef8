/- The law: SlotsChanges. -/
import Derived.Test.YtpoilgfblhacaaaKJ
import Derived.Test.YtpoilgfblhacaaaKH
namespace Go.Proofs.Ytpoilgfblhacaaa
open Go.RowKit
set_option linter.unusedVariables false
set_option linter.unusedSimpArgs false
set_option maxRecDepth 100000

set_option maxHeartbeats 16000000 in
theorem SlotsChanges_walk (A1 : Option Addr) (c1 : Nat) (A2 : Option Addr) (c2 : Nat) (rs : List Int) (bs : List Bool) (k : Int) (w : World) (hs : GS w A1 c1 A2 c2 rs bs) : Calls Try.prog 3 #[.agg #[.slice A1 rs.length c1, .slice A2 bs.length c2], .int .i64 k] w (RetB w (.returned (.bool true))) := by
  have hbel0 := below0 w
  refine sx_enter (N := 122) [(0, .agg #[.slice A1 rs.length c1, .slice A2 bs.length c2]), (1, .int .i64 k)] Try.func3 rfl Try.ntmps3 (by simp) (fun a z d s => (((Ag.nil z d).cons (s 1 _ rfl)).cons (s 0 _ rfl))) ?_
  intro a0 hA0
  refine wp_seq ?_
  refine wp_region_lit ?_
  refine sx_new (cs := #[.slice A1 rs.length c1, .slice A2 bs.length c2]) (t := 25) hA0 rfl (by decide) (.inl rfl) (ev_box (hA0.ev (i := 0) (v := .agg #[.slice A1 rs.length c1, .slice A2 bs.length c2])) rfl _ rfl) ?_
  intro B1 w1 a1 hB1 hx1 hg1 hA1
  clear hA0
  have hs1 := hg1.size
  have hl1 := hx1.lt
  refine sx_val hA1 rfl (ev_assign (ec _ (.bool false)) _ rfl) ?_
  intro a2 hA2; clear hA1
  refine sx_nil ?_
  refine then_n ?_
  refine wp_seq ?_
  refine wp_seq ?_
  refine wp_region_lit ?_
  refine sx_val (v := .agg #[.slice A1 rs.length c1, .slice A2 bs.length c2]) hA2 rfl (ev_row (hA2.ev (i := 2) (v := .pointer (some ⟨B1, 0, none⟩))) hx1 Try.underlying25 rfl (n := 2) (by kernel_rfl) rfl _ rfl) ?_
  intro a3 hA3; clear hA2
  have hbel0_5 := Below.gN hbel0 hg1 hbel0.size
  cases hd6 : (decide (260 < rs.length) || decide (260 < bs.length))
  rotate_left
  · refine sx_call (f := 8) (args := #[.agg #[.slice A1 rs.length c1, .slice A2 bs.length c2]]) hA3 rfl (by decide) (.inl rfl) (ev_fn rfl (mp1 (hA3.ev (i := 12) (v := .agg #[.slice A1 rs.length c1, .slice A2 bs.length c2]))) (by kernel_rfl) _ rfl) (large_any A1 c1 A2 c2 rs bs _ ⟨(hs.r.below hbel0_5), (hs.b.below hbel0_5)⟩) ?_
    intro e329 w329 hR329
    obtain ⟨he329, hb329⟩ := hR329
    rw [hd6] at he329
    subst he329
    refine ⟨_, rfl, ?_⟩
    intro a329 hA329
    clear hA3
    have hg329 := g0 hb329
    have hs329 := hg329.size
    clear hb329
    refine sx_nil ?_
    refine then_n ?_
    refine wp_cond_true (hA329.ev (i := 13) (v := .bool true)) ?_
    refine wp_seq ?_
    refine wp_region_lit ?_
    refine sx_call (f := 9) (args := #[]) hA329 rfl (by decide) (.inl rfl) (ev_fn rfl (mp0 ) (by kernel_rfl) _ rfl) (awake_any _) ?_
    intro e330 w330 hR330
    obtain ⟨rfl, hb330⟩ := hR330
    refine ⟨_, rfl, ?_⟩
    intro a330 hA330
    clear hA329
    have hg330 := g0 hb330
    have hs330 := hg330.size
    clear hb330
    refine sx_val hA330 rfl (ev_assign (hA330.ev (i := 14) (v := .bool true)) _ rfl) ?_
    intro a331 hA331; clear hA330
    refine sx_nil ?_
    refine then_n ?_
    refine wp_ret ?_
    refine then_r ?_
    refine bodyPost_ret (rs_t (v := .bool true) Try.results3 hA331 (by kernel_rfl) ) hA331.2.1 ?_
    have hbel0_332 := Below.gN hbel0_5 hg329 hbel0_5.size
    have hbel0_333 := Below.gN hbel0_332 hg330 hbel0_332.size
    exact ⟨rfl, hbel0_333⟩
  have hlr : rs.length ≤ 260 ∧ bs.length ≤ 260 := by
    have h := hd6
    simp at h
    omega
  refine sx_call (f := 8) (args := #[.agg #[.slice A1 rs.length c1, .slice A2 bs.length c2]]) hA3 rfl (by decide) (.inl rfl) (ev_fn rfl (mp1 (hA3.ev (i := 12) (v := .agg #[.slice A1 rs.length c1, .slice A2 bs.length c2]))) (by kernel_rfl) _ rfl) (large_any A1 c1 A2 c2 rs bs _ ⟨(hs.r.below hbel0_5), (hs.b.below hbel0_5)⟩) ?_
  intro e7 w7 hR7
  obtain ⟨he7, hb7⟩ := hR7
  rw [hd6] at he7
  subst he7
  refine ⟨_, rfl, ?_⟩
  intro a7 hA7
  clear hA3
  have hg7 := g0 hb7
  have hs7 := hg7.size
  clear hb7
  refine sx_nil ?_
  refine then_n ?_
  refine wp_cond_false (hA7.ev (i := 13) (v := .bool false)) ?_
  refine wp_skip ?_
  refine then_n ?_
  refine wp_seq ?_
  refine wp_region_lit ?_
  have hx1_8 := hx1.gN hg7
  refine sx_val (v := .agg #[.slice A1 rs.length c1, .slice A2 bs.length c2]) hA7 rfl (ev_row (hA7.ev (i := 2) (v := .pointer (some ⟨B1, 0, none⟩))) hx1_8 Try.underlying25 rfl (n := 2) (by kernel_rfl) rfl _ rfl) ?_
  intro a9 hA9; clear hA7
  have hbel0_11 := Below.gN hbel0_5 hg7 hbel0_5.size
  refine sx_call (f := 10) (args := #[.agg #[.slice A1 rs.length c1, .slice A2 bs.length c2]]) hA9 rfl (by decide) (.inl rfl) (ev_fn rfl (mp1 (hA9.ev (i := 15) (v := .agg #[.slice A1 rs.length c1, .slice A2 bs.length c2]))) (by kernel_rfl) _ rfl) (OwnSlots_any A1 c1 A2 c2 rs bs _ ⟨(hs.r.below hbel0_11), (hs.b.below hbel0_11)⟩ (by omega) (by omega)) ?_
  intro e10 w10 hR10
  obtain ⟨Ap10, cp10, Aj10, cj10, rfl, hC10, hJ10, hb10⟩ := hR10
  refine ⟨_, rfl, ?_⟩
  intro a10 hA10
  clear hA9
  have hg10 := g0 hb10
  have hs10 := hg10.size
  clear hb10
  have ho10_0 : Own w10 (w7.heap.size) 3 1 (.slice Ap10 rs.length cp10) rs.length (flat iva rs) := hC10
  have hh10_0 := Own.hi ho10_0
  have ho10_1 : Own w10 (w7.heap.size) 4 1 (.slice Aj10 bs.length cj10) bs.length (flat bva bs) := hJ10
  have hh10_1 := Own.hi ho10_1
  refine sx_new (cs := #[.slice none 0 0, .slice none 0 0]) (t := 25) hA10 rfl (by decide) (.inl rfl) (ev_alloc (z := .agg (#[.slice none 0 0, .slice none 0 0])) (by kernel_rfl) (by kernel_rfl) _ rfl) ?_
  intro B12 w12 a12 hB12 hx12 hg12 hA12
  clear hA10
  have hs12 := hg12.size
  have hl12 := hx12.lt
  refine sx_store hA12 rfl (.inl rfl) rfl (hA12.ev (i := 5) (v := .pointer (some ⟨B12, 0, none⟩))) (hA12.ev (i := 16) (v := .agg #[.slice Ap10 rs.length cp10, .slice Aj10 bs.length cj10])) hx12 (by kernel_rfl) rfl (by simp [Value.oneCell']) ?_
  intro w13 hx13 hg13
  have hs13 := hg13.size
  refine sx_nil ?_
  refine then_n ?_
  refine wp_seq ?_
  refine wp_region_lit ?_
  refine sx_val (v := .agg #[.slice Ap10 rs.length cp10, .slice Aj10 bs.length cj10]) hA12 rfl (ev_row (hA12.ev (i := 5) (v := .pointer (some ⟨B12, 0, none⟩))) hx13 Try.underlying25 rfl (n := 2) (by kernel_rfl) rfl _ rfl) ?_
  intro a14 hA14; clear hA12
  refine sx_val hA14 rfl (ev_move (hA14.ev (i := 1) (v := .int .i64 k)) _ rfl) ?_
  intro a15 hA15; clear hA14
  have ho10_17 := Own.gN ho10_0 hg12
  have ho10_18 := Own.gBT ho10_17 hg13 hx12 (by decide)
  have ho10_19 := Own.gN ho10_1 hg12
  have ho10_20 := Own.gBT ho10_19 hg13 hx12 (by decide)
  refine sx_call (f := 11) (args := #[.agg #[.slice Ap10 rs.length cp10, .slice Aj10 bs.length cj10], .int .i64 k]) hA15 rfl (by decide) (.inl rfl) (ev_fn rfl (mp2 (hA15.ev (i := 18) (v := .agg #[.slice Ap10 rs.length cp10, .slice Aj10 bs.length cj10])) (hA15.ev (i := 19) (v := .int .i64 k))) (by kernel_rfl) _ rfl) (Ref_any Ap10 cp10 Aj10 cj10 rs bs k _ ⟨(OwnR.gr (e := 3) ⟨rfl, ho10_18⟩), (OwnR.gr (e := 4) ⟨rfl, ho10_20⟩)⟩ (by omega) (by omega)) ?_
  intro e16 w16 hR16
  obtain ⟨Ap16, cp16, Aj16, cj16, rfl, hC16, hJ16, hb16⟩ := hR16
  refine ⟨_, rfl, ?_⟩
  intro a16 hA16
  clear hA15
  have hg16 := g0 hb16
  have hs16 := hg16.size
  clear hb16
  have ho16_0 : Own w16 (w13.heap.size) 3 1 (.slice Ap16 (rff ⟨rs, bs⟩ k).1.rs.length cp16) (rff ⟨rs, bs⟩ k).1.rs.length (flat iva (rff ⟨rs, bs⟩ k).1.rs) := hC16
  have hh16_0 := Own.hi ho16_0
  have ho16_1 : Own w16 (w13.heap.size) 4 1 (.slice Aj16 (rff ⟨rs, bs⟩ k).1.bs.length cj16) (rff ⟨rs, bs⟩ k).1.bs.length (flat bva (rff ⟨rs, bs⟩ k).1.bs) := hJ16
  have hh16_1 := Own.hi ho16_1
  refine sx_val hA16 rfl (ev_move (hA16.ev (i := 20) (v := .tuple #[.agg #[.slice Ap16 (rff ⟨rs, bs⟩ k).1.rs.length cp16, .slice Aj16 (rff ⟨rs, bs⟩ k).1.bs.length cj16], .int .i64 (rff ⟨rs, bs⟩ k).2])) _ rfl) ?_
  intro a21 hA21; clear hA16
  refine sx_val (v := .agg #[.slice Ap16 (rff ⟨rs, bs⟩ k).1.rs.length cp16, .slice Aj16 (rff ⟨rs, bs⟩ k).1.bs.length cj16]) hA21 rfl (ev_ext (hA21.ev (i := 17) (v := .tuple #[.agg #[.slice Ap16 (rff ⟨rs, bs⟩ k).1.rs.length cp16, .slice Aj16 (rff ⟨rs, bs⟩ k).1.bs.length cj16], .int .i64 (rff ⟨rs, bs⟩ k).2])) rfl _ rfl) ?_
  intro a22 hA22; clear hA21
  refine sx_val (v := .int .i64 (rff ⟨rs, bs⟩ k).2) hA22 rfl (ev_ext (hA22.ev (i := 17) (v := .tuple #[.agg #[.slice Ap16 (rff ⟨rs, bs⟩ k).1.rs.length cp16, .slice Aj16 (rff ⟨rs, bs⟩ k).1.bs.length cj16], .int .i64 (rff ⟨rs, bs⟩ k).2])) rfl _ rfl) ?_
  intro a23 hA23; clear hA22
  refine sx_new (cs := #[.slice none 0 0, .slice none 0 0]) (t := 25) hA23 rfl (by decide) (.inl rfl) (ev_alloc (z := .agg (#[.slice none 0 0, .slice none 0 0])) (by kernel_rfl) (by kernel_rfl) _ rfl) ?_
  intro B24 w24 a24 hB24 hx24 hg24 hA24
  clear hA23
  have hs24 := hg24.size
  have hl24 := hx24.lt
  refine sx_store hA24 rfl (.inl rfl) rfl (hA24.ev (i := 6) (v := .pointer (some ⟨B24, 0, none⟩))) (hA24.ev (i := 21) (v := .agg #[.slice Ap16 (rff ⟨rs, bs⟩ k).1.rs.length cp16, .slice Aj16 (rff ⟨rs, bs⟩ k).1.bs.length cj16])) hx24 (by kernel_rfl) rfl (by simp [Value.oneCell']) ?_
  intro w25 hx25 hg25
  have hs25 := hg25.size
  refine sx_val hA24 rfl (ev_assign (hA24.ev (i := 22) (v := .int .i64 (rff ⟨rs, bs⟩ k).2)) _ rfl) ?_
  intro a26 hA26; clear hA24
  refine sx_nil ?_
  refine then_n ?_
  refine wp_seq ?_
  refine wp_region_lit ?_
  have hx1_27 := hx1_8.gN hg10
  have hx1_28 := hx1_27.gN hg12
  have hx1_29 := hx1_28.gB hg13 (by omega)
  have hx1_30 := hx1_29.gN hg16
  have hx1_31 := hx1_30.gN hg24
  have hx1_32 := hx1_31.gB hg25 (by omega)
  refine sx_val (v := .agg #[.slice A1 rs.length c1, .slice A2 bs.length c2]) hA26 rfl (ev_row (hA26.ev (i := 2) (v := .pointer (some ⟨B1, 0, none⟩))) hx1_32 Try.underlying25 rfl (n := 2) (by kernel_rfl) rfl _ rfl) ?_
  intro a33 hA33; clear hA26
  refine sx_val hA33 rfl (ev_move (hA33.ev (i := 1) (v := .int .i64 k)) _ rfl) ?_
  intro a34 hA34; clear hA33
  have hbel0_36 := Below.gN hbel0_11 hg10 hbel0_11.size
  have hbel0_37 := Below.gN hbel0_36 hg12 hbel0_36.size
  have hbel0_38 := Below.gB hbel0_37 hg13 hbel0_37.size (by omega)
  have hbel0_39 := Below.gN hbel0_38 hg16 hbel0_38.size
  have hbel0_40 := Below.gN hbel0_39 hg24 hbel0_39.size
  have hbel0_41 := Below.gB hbel0_40 hg25 hbel0_40.size (by omega)
  refine sx_call (f := 12) (args := #[.agg #[.slice A1 rs.length c1, .slice A2 bs.length c2], .int .i64 k]) hA34 rfl (by decide) (.inl rfl) (ev_fn rfl (mp2 (hA34.ev (i := 24) (v := .agg #[.slice A1 rs.length c1, .slice A2 bs.length c2])) (hA34.ev (i := 25) (v := .int .i64 k))) (by kernel_rfl) _ rfl) (sRef_any A1 c1 A2 c2 rs bs k _ ⟨(hs.r.below hbel0_41), (hs.b.below hbel0_41)⟩ (by omega) (by omega)) ?_
  intro e35 w35 hR35
  obtain ⟨Ap35, cp35, Aj35, cj35, rfl, hC35, hJ35, hb35⟩ := hR35
  refine ⟨_, rfl, ?_⟩
  intro a35 hA35
  clear hA34
  have hg35 := g0 hb35
  have hs35 := hg35.size
  clear hb35
  have ho35_0 : Own w35 (w25.heap.size) 3 1 (.slice Ap35 (rff ⟨rs, bs⟩ k).1.rs.length cp35) (rff ⟨rs, bs⟩ k).1.rs.length (flat iva (rff ⟨rs, bs⟩ k).1.rs) := hC35
  have hh35_0 := Own.hi ho35_0
  have ho35_1 : Own w35 (w25.heap.size) 4 1 (.slice Aj35 (rff ⟨rs, bs⟩ k).1.bs.length cj35) (rff ⟨rs, bs⟩ k).1.bs.length (flat bva (rff ⟨rs, bs⟩ k).1.bs) := hJ35
  have hh35_1 := Own.hi ho35_1
  refine sx_val hA35 rfl (ev_move (hA35.ev (i := 26) (v := .tuple #[.agg #[.slice Ap35 (rff ⟨rs, bs⟩ k).1.rs.length cp35, .slice Aj35 (rff ⟨rs, bs⟩ k).1.bs.length cj35], .int .i64 (rff ⟨rs, bs⟩ k).2])) _ rfl) ?_
  intro a42 hA42; clear hA35
  refine sx_val (v := .agg #[.slice Ap35 (rff ⟨rs, bs⟩ k).1.rs.length cp35, .slice Aj35 (rff ⟨rs, bs⟩ k).1.bs.length cj35]) hA42 rfl (ev_ext (hA42.ev (i := 23) (v := .tuple #[.agg #[.slice Ap35 (rff ⟨rs, bs⟩ k).1.rs.length cp35, .slice Aj35 (rff ⟨rs, bs⟩ k).1.bs.length cj35], .int .i64 (rff ⟨rs, bs⟩ k).2])) rfl _ rfl) ?_
  intro a43 hA43; clear hA42
  refine sx_val (v := .int .i64 (rff ⟨rs, bs⟩ k).2) hA43 rfl (ev_ext (hA43.ev (i := 23) (v := .tuple #[.agg #[.slice Ap35 (rff ⟨rs, bs⟩ k).1.rs.length cp35, .slice Aj35 (rff ⟨rs, bs⟩ k).1.bs.length cj35], .int .i64 (rff ⟨rs, bs⟩ k).2])) rfl _ rfl) ?_
  intro a44 hA44; clear hA43
  refine sx_new (cs := #[.slice none 0 0, .slice none 0 0]) (t := 25) hA44 rfl (by decide) (.inl rfl) (ev_alloc (z := .agg (#[.slice none 0 0, .slice none 0 0])) (by kernel_rfl) (by kernel_rfl) _ rfl) ?_
  intro B45 w45 a45 hB45 hx45 hg45 hA45
  clear hA44
  have hs45 := hg45.size
  have hl45 := hx45.lt
  refine sx_store hA45 rfl (.inl rfl) rfl (hA45.ev (i := 8) (v := .pointer (some ⟨B45, 0, none⟩))) (hA45.ev (i := 27) (v := .agg #[.slice Ap35 (rff ⟨rs, bs⟩ k).1.rs.length cp35, .slice Aj35 (rff ⟨rs, bs⟩ k).1.bs.length cj35])) hx45 (by kernel_rfl) rfl (by simp [Value.oneCell']) ?_
  intro w46 hx46 hg46
  have hs46 := hg46.size
  refine sx_val hA45 rfl (ev_assign (hA45.ev (i := 28) (v := .int .i64 (rff ⟨rs, bs⟩ k).2)) _ rfl) ?_
  intro a47 hA47; clear hA45
  refine sx_nil ?_
  refine then_n ?_
  refine wp_seq ?_
  refine wp_seq ?_
  refine wp_region_lit ?_
  have hx25_48 := hx25.gN hg35
  have hx25_49 := hx25_48.gN hg45
  have hx25_50 := hx25_49.gB hg46 (by omega)
  refine sx_val (v := .agg #[.slice Ap16 (rff ⟨rs, bs⟩ k).1.rs.length cp16, .slice Aj16 (rff ⟨rs, bs⟩ k).1.bs.length cj16]) hA47 rfl (ev_row (hA47.ev (i := 6) (v := .pointer (some ⟨B24, 0, none⟩))) hx25_50 Try.underlying25 rfl (n := 2) (by kernel_rfl) rfl _ rfl) ?_
  intro a51 hA51; clear hA47
  refine sx_val (v := .agg #[.slice Ap35 (rff ⟨rs, bs⟩ k).1.rs.length cp35, .slice Aj35 (rff ⟨rs, bs⟩ k).1.bs.length cj35]) hA51 rfl (ev_row (hA51.ev (i := 8) (v := .pointer (some ⟨B45, 0, none⟩))) hx46 Try.underlying25 rfl (n := 2) (by kernel_rfl) rfl _ rfl) ?_
  intro a52 hA52; clear hA51
  have ho16_54 := Own.gN ho16_0 hg24
  have ho16_55 := Own.gBT ho16_54 hg25 hx24 (by decide)
  have ho16_56 := Own.gN ho16_55 hg35
  have ho16_57 := Own.gN ho16_56 hg45
  have ho16_58 := Own.gBT ho16_57 hg46 hx45 (by decide)
  have ho16_59 := Own.gN ho16_1 hg24
  have ho16_60 := Own.gBT ho16_59 hg25 hx24 (by decide)
  have ho16_61 := Own.gN ho16_60 hg35
  have ho16_62 := Own.gN ho16_61 hg45
  have ho16_63 := Own.gBT ho16_62 hg46 hx45 (by decide)
  have ho35_64 := Own.gN ho35_0 hg45
  have ho35_65 := Own.gBT ho35_64 hg46 hx45 (by decide)
  have ho35_66 := Own.gN ho35_1 hg45
  have ho35_67 := Own.gBT ho35_66 hg46 hx45 (by decide)
  refine sx_call (f := 13) (args := #[.agg #[.slice Ap16 (rff ⟨rs, bs⟩ k).1.rs.length cp16, .slice Aj16 (rff ⟨rs, bs⟩ k).1.bs.length cj16], .agg #[.slice Ap35 (rff ⟨rs, bs⟩ k).1.rs.length cp35, .slice Aj35 (rff ⟨rs, bs⟩ k).1.bs.length cj35]]) hA52 rfl (by decide) (.inl rfl) (ev_fn rfl (mp2 (hA52.ev (i := 29) (v := .agg #[.slice Ap16 (rff ⟨rs, bs⟩ k).1.rs.length cp16, .slice Aj16 (rff ⟨rs, bs⟩ k).1.bs.length cj16])) (hA52.ev (i := 30) (v := .agg #[.slice Ap35 (rff ⟨rs, bs⟩ k).1.rs.length cp35, .slice Aj35 (rff ⟨rs, bs⟩ k).1.bs.length cj35]))) (by kernel_rfl) _ rfl) (SameSlots_any Ap16 cp16 Aj16 cj16 (rff ⟨rs, bs⟩ k).1.rs (rff ⟨rs, bs⟩ k).1.bs Ap35 cp35 Aj35 cj35 (rff ⟨rs, bs⟩ k).1.rs (rff ⟨rs, bs⟩ k).1.bs _ ⟨(OwnR.gr (e := 3) ⟨rfl, ho16_58⟩), (OwnR.gr (e := 4) ⟨rfl, ho16_63⟩)⟩ ⟨(OwnR.gr (e := 3) ⟨rfl, ho35_65⟩), (OwnR.gr (e := 4) ⟨rfl, ho35_67⟩)⟩) ?_
  intro e53 w53 hR53
  obtain ⟨he53, hb53⟩ := hR53
  rw [sme_refl] at he53
  subst he53
  refine ⟨_, rfl, ?_⟩
  intro a53 hA53
  clear hA52
  have hg53 := g0 hb53
  have hs53 := hg53.size
  clear hb53
  refine sx_val (v := .bool false) hA53 rfl (ev_notT (hA53.ev (i := 31) (v := .bool true)) _ rfl) ?_
  intro a68 hA68; clear hA53
  refine sx_val hA68 rfl (ev_move (hA68.ev (i := 32) (v := .bool false)) _ rfl) ?_
  intro a69 hA69; clear hA68
  refine sx_val (hg := (.inr ⟨4, false, 33, rfl, rfl, by kernel_rfl⟩)) hA69 rfl (ev_move (hA69.ev (i := 7) (v := .int .i64 (rff ⟨rs, bs⟩ k).2)) _ rfl) ?_
  intro a70 hA70; clear hA69
  refine sx_val (hg := (.inr ⟨4, false, 33, rfl, rfl, by kernel_rfl⟩)) hA70 rfl (ev_move (hA70.ev (i := 9) (v := .int .i64 (rff ⟨rs, bs⟩ k).2)) _ rfl) ?_
  intro a71 hA71; clear hA70
  refine sx_val (hg := (.inr ⟨4, false, 33, rfl, rfl, by kernel_rfl⟩)) (v := .bool false) hA71 rfl (ev_neqB (k := .i64) (m := (rff ⟨rs, bs⟩ k).2) (n := (rff ⟨rs, bs⟩ k).2) (hA71.ev (i := 34)) (hA71.ev (i := 35)) (by simp) _ rfl) ?_
  intro a72 hA72; clear hA71
  refine sx_val hA72 rfl (ev_pickF (hA72.ev (i := 33) (v := .bool false)) (hA72.ev (i := 36) (v := .bool false)) _ rfl) ?_
  intro a73 hA73; clear hA72
  refine sx_nil ?_
  refine then_n ?_
  refine wp_cond_false (hA73.ev (i := 37) (v := .bool false)) ?_
  refine wp_skip ?_
  refine then_n ?_
  refine wp_seq ?_
  refine wp_region_lit ?_
  have hx13_74 := hx13.gN hg16
  have hx13_75 := hx13_74.gN hg24
  have hx13_76 := hx13_75.gB hg25 (by omega)
  have hx13_77 := hx13_76.gN hg35
  have hx13_78 := hx13_77.gN hg45
  have hx13_79 := hx13_78.gB hg46 (by omega)
  have hx13_80 := hx13_79.gN hg53
  refine sx_val (v := .agg #[.slice Ap10 rs.length cp10, .slice Aj10 bs.length cj10]) hA73 rfl (ev_row (hA73.ev (i := 5) (v := .pointer (some ⟨B12, 0, none⟩))) hx13_80 Try.underlying25 rfl (n := 2) (by kernel_rfl) rfl _ rfl) ?_
  intro a81 hA81; clear hA73
  refine sx_val hA81 rfl (ev_move (hA81.ev (i := 1) (v := .int .i64 k)) _ rfl) ?_
  intro a82 hA82; clear hA81
  have ho10_84 := Own.gN ho10_18 hg16
  have ho10_85 := Own.gN ho10_84 hg24
  have ho10_86 := Own.gBT ho10_85 hg25 hx24 (by decide)
  have ho10_87 := Own.gN ho10_86 hg35
  have ho10_88 := Own.gN ho10_87 hg45
  have ho10_89 := Own.gBT ho10_88 hg46 hx45 (by decide)
  have ho10_90 := Own.gN ho10_89 hg53
  have ho10_91 := Own.gN ho10_20 hg16
  have ho10_92 := Own.gN ho10_91 hg24
  have ho10_93 := Own.gBT ho10_92 hg25 hx24 (by decide)
  have ho10_94 := Own.gN ho10_93 hg35
  have ho10_95 := Own.gN ho10_94 hg45
  have ho10_96 := Own.gBT ho10_95 hg46 hx45 (by decide)
  have ho10_97 := Own.gN ho10_96 hg53
  refine sx_call (f := 14) (args := #[.agg #[.slice Ap10 rs.length cp10, .slice Aj10 bs.length cj10], .int .i64 k]) hA82 rfl (by decide) (.inl rfl) (ev_fn rfl (mp2 (hA82.ev (i := 39) (v := .agg #[.slice Ap10 rs.length cp10, .slice Aj10 bs.length cj10])) (hA82.ev (i := 40) (v := .int .i64 k))) (by kernel_rfl) _ rfl) (Unref_any Ap10 cp10 Aj10 cj10 rs bs k _ ⟨(OwnR.gr (e := 3) ⟨rfl, ho10_90⟩), (OwnR.gr (e := 4) ⟨rfl, ho10_97⟩)⟩ (by omega) (by omega)) ?_
  intro e83 w83 hR83
  obtain ⟨Ap83, cp83, Aj83, cj83, rfl, hC83, hJ83, hb83⟩ := hR83
  refine ⟨_, rfl, ?_⟩
  intro a83 hA83
  clear hA82
  have hg83 := g0 hb83
  have hs83 := hg83.size
  clear hb83
  have ho83_0 : Own w83 (w53.heap.size) 3 1 (.slice Ap83 (unr ⟨rs, bs⟩ k).1.rs.length cp83) (unr ⟨rs, bs⟩ k).1.rs.length (flat iva (unr ⟨rs, bs⟩ k).1.rs) := hC83
  have hh83_0 := Own.hi ho83_0
  have ho83_1 : Own w83 (w53.heap.size) 4 1 (.slice Aj83 (unr ⟨rs, bs⟩ k).1.bs.length cj83) (unr ⟨rs, bs⟩ k).1.bs.length (flat bva (unr ⟨rs, bs⟩ k).1.bs) := hJ83
  have hh83_1 := Own.hi ho83_1
  refine sx_val hA83 rfl (ev_move (hA83.ev (i := 41) (v := .tuple #[.agg #[.slice Ap83 (unr ⟨rs, bs⟩ k).1.rs.length cp83, .slice Aj83 (unr ⟨rs, bs⟩ k).1.bs.length cj83], .bool (unr ⟨rs, bs⟩ k).2.1, .int .i64 (unr ⟨rs, bs⟩ k).2.2])) _ rfl) ?_
  intro a98 hA98; clear hA83
  refine sx_val (v := .agg #[.slice Ap83 (unr ⟨rs, bs⟩ k).1.rs.length cp83, .slice Aj83 (unr ⟨rs, bs⟩ k).1.bs.length cj83]) hA98 rfl (ev_ext (hA98.ev (i := 38) (v := .tuple #[.agg #[.slice Ap83 (unr ⟨rs, bs⟩ k).1.rs.length cp83, .slice Aj83 (unr ⟨rs, bs⟩ k).1.bs.length cj83], .bool (unr ⟨rs, bs⟩ k).2.1, .int .i64 (unr ⟨rs, bs⟩ k).2.2])) rfl _ rfl) ?_
  intro a99 hA99; clear hA98
  refine sx_val (v := .bool (unr ⟨rs, bs⟩ k).2.1) hA99 rfl (ev_ext (hA99.ev (i := 38) (v := .tuple #[.agg #[.slice Ap83 (unr ⟨rs, bs⟩ k).1.rs.length cp83, .slice Aj83 (unr ⟨rs, bs⟩ k).1.bs.length cj83], .bool (unr ⟨rs, bs⟩ k).2.1, .int .i64 (unr ⟨rs, bs⟩ k).2.2])) rfl _ rfl) ?_
  intro a100 hA100; clear hA99
  refine sx_val (v := .int .i64 (unr ⟨rs, bs⟩ k).2.2) hA100 rfl (ev_ext (hA100.ev (i := 38) (v := .tuple #[.agg #[.slice Ap83 (unr ⟨rs, bs⟩ k).1.rs.length cp83, .slice Aj83 (unr ⟨rs, bs⟩ k).1.bs.length cj83], .bool (unr ⟨rs, bs⟩ k).2.1, .int .i64 (unr ⟨rs, bs⟩ k).2.2])) rfl _ rfl) ?_
  intro a101 hA101; clear hA100
  have hx25_103 := hx25_50.gN hg53
  have hx25_104 := hx25_103.gN hg83
  refine sx_store hA101 rfl (.inl rfl) rfl (hA101.ev (i := 6) (v := .pointer (some ⟨B24, 0, none⟩))) (hA101.ev (i := 42) (v := .agg #[.slice Ap83 (unr ⟨rs, bs⟩ k).1.rs.length cp83, .slice Aj83 (unr ⟨rs, bs⟩ k).1.bs.length cj83])) hx25_104 (by kernel_rfl) rfl (by simp [Value.oneCell']) ?_
  intro w102 hx102 hg102
  have hs102 := hg102.size
  refine sx_val hA101 rfl (ev_assign (hA101.ev (i := 43) (v := .bool (unr ⟨rs, bs⟩ k).2.1)) _ rfl) ?_
  intro a105 hA105; clear hA101
  refine sx_val hA105 rfl (ev_assign (hA105.ev (i := 44) (v := .int .i64 (unr ⟨rs, bs⟩ k).2.2)) _ rfl) ?_
  intro a106 hA106; clear hA105
  refine sx_nil ?_
  refine then_n ?_
  refine wp_seq ?_
  refine wp_region_lit ?_
  have hx1_107 := hx1_32.gN hg35
  have hx1_108 := hx1_107.gN hg45
  have hx1_109 := hx1_108.gB hg46 (by omega)
  have hx1_110 := hx1_109.gN hg53
  have hx1_111 := hx1_110.gN hg83
  have hx1_112 := hx1_111.gB hg102 (by omega)
  refine sx_val (v := .agg #[.slice A1 rs.length c1, .slice A2 bs.length c2]) hA106 rfl (ev_row (hA106.ev (i := 2) (v := .pointer (some ⟨B1, 0, none⟩))) hx1_112 Try.underlying25 rfl (n := 2) (by kernel_rfl) rfl _ rfl) ?_
  intro a113 hA113; clear hA106
  refine sx_val hA113 rfl (ev_move (hA113.ev (i := 1) (v := .int .i64 k)) _ rfl) ?_
  intro a114 hA114; clear hA113
  have hbel0_116 := Below.gN hbel0_41 hg35 hbel0_41.size
  have hbel0_117 := Below.gN hbel0_116 hg45 hbel0_116.size
  have hbel0_118 := Below.gB hbel0_117 hg46 hbel0_117.size (by omega)
  have hbel0_119 := Below.gN hbel0_118 hg53 hbel0_118.size
  have hbel0_120 := Below.gN hbel0_119 hg83 hbel0_119.size
  have hbel0_121 := Below.gB hbel0_120 hg102 hbel0_120.size (by omega)
  refine sx_call (f := 15) (args := #[.agg #[.slice A1 rs.length c1, .slice A2 bs.length c2], .int .i64 k]) hA114 rfl (by decide) (.inl rfl) (ev_fn rfl (mp2 (hA114.ev (i := 46) (v := .agg #[.slice A1 rs.length c1, .slice A2 bs.length c2])) (hA114.ev (i := 47) (v := .int .i64 k))) (by kernel_rfl) _ rfl) (sUnref_any A1 c1 A2 c2 rs bs k _ ⟨(hs.r.below hbel0_121), (hs.b.below hbel0_121)⟩ (by omega) (by omega)) ?_
  intro e115 w115 hR115
  obtain ⟨Ap115, cp115, Aj115, cj115, rfl, hC115, hJ115, hb115⟩ := hR115
  refine ⟨_, rfl, ?_⟩
  intro a115 hA115
  clear hA114
  have hg115 := g0 hb115
  have hs115 := hg115.size
  clear hb115
  have ho115_0 : Own w115 (w102.heap.size) 3 1 (.slice Ap115 (unr ⟨rs, bs⟩ k).1.rs.length cp115) (unr ⟨rs, bs⟩ k).1.rs.length (flat iva (unr ⟨rs, bs⟩ k).1.rs) := hC115
  have hh115_0 := Own.hi ho115_0
  have ho115_1 : Own w115 (w102.heap.size) 4 1 (.slice Aj115 (unr ⟨rs, bs⟩ k).1.bs.length cj115) (unr ⟨rs, bs⟩ k).1.bs.length (flat bva (unr ⟨rs, bs⟩ k).1.bs) := hJ115
  have hh115_1 := Own.hi ho115_1
  refine sx_val hA115 rfl (ev_move (hA115.ev (i := 48) (v := .tuple #[.agg #[.slice Ap115 (unr ⟨rs, bs⟩ k).1.rs.length cp115, .slice Aj115 (unr ⟨rs, bs⟩ k).1.bs.length cj115], .bool (unr ⟨rs, bs⟩ k).2.1, .int .i64 (unr ⟨rs, bs⟩ k).2.2])) _ rfl) ?_
  intro a122 hA122; clear hA115
  refine sx_val (v := .agg #[.slice Ap115 (unr ⟨rs, bs⟩ k).1.rs.length cp115, .slice Aj115 (unr ⟨rs, bs⟩ k).1.bs.length cj115]) hA122 rfl (ev_ext (hA122.ev (i := 45) (v := .tuple #[.agg #[.slice Ap115 (unr ⟨rs, bs⟩ k).1.rs.length cp115, .slice Aj115 (unr ⟨rs, bs⟩ k).1.bs.length cj115], .bool (unr ⟨rs, bs⟩ k).2.1, .int .i64 (unr ⟨rs, bs⟩ k).2.2])) rfl _ rfl) ?_
  intro a123 hA123; clear hA122
  refine sx_val (v := .bool (unr ⟨rs, bs⟩ k).2.1) hA123 rfl (ev_ext (hA123.ev (i := 45) (v := .tuple #[.agg #[.slice Ap115 (unr ⟨rs, bs⟩ k).1.rs.length cp115, .slice Aj115 (unr ⟨rs, bs⟩ k).1.bs.length cj115], .bool (unr ⟨rs, bs⟩ k).2.1, .int .i64 (unr ⟨rs, bs⟩ k).2.2])) rfl _ rfl) ?_
  intro a124 hA124; clear hA123
  refine sx_val (v := .int .i64 (unr ⟨rs, bs⟩ k).2.2) hA124 rfl (ev_ext (hA124.ev (i := 45) (v := .tuple #[.agg #[.slice Ap115 (unr ⟨rs, bs⟩ k).1.rs.length cp115, .slice Aj115 (unr ⟨rs, bs⟩ k).1.bs.length cj115], .bool (unr ⟨rs, bs⟩ k).2.1, .int .i64 (unr ⟨rs, bs⟩ k).2.2])) rfl _ rfl) ?_
  intro a125 hA125; clear hA124
  have hx46_127 := hx46.gN hg53
  have hx46_128 := hx46_127.gN hg83
  have hx46_129 := hx46_128.gB hg102 (by omega)
  have hx46_130 := hx46_129.gN hg115
  refine sx_store hA125 rfl (.inl rfl) rfl (hA125.ev (i := 8) (v := .pointer (some ⟨B45, 0, none⟩))) (hA125.ev (i := 49) (v := .agg #[.slice Ap115 (unr ⟨rs, bs⟩ k).1.rs.length cp115, .slice Aj115 (unr ⟨rs, bs⟩ k).1.bs.length cj115])) hx46_130 (by kernel_rfl) rfl (by simp [Value.oneCell']) ?_
  intro w126 hx126 hg126
  have hs126 := hg126.size
  refine sx_val hA125 rfl (ev_assign (hA125.ev (i := 50) (v := .bool (unr ⟨rs, bs⟩ k).2.1)) _ rfl) ?_
  intro a131 hA131; clear hA125
  refine sx_val hA131 rfl (ev_assign (hA131.ev (i := 51) (v := .int .i64 (unr ⟨rs, bs⟩ k).2.2)) _ rfl) ?_
  intro a132 hA132; clear hA131
  refine sx_nil ?_
  refine then_n ?_
  refine wp_seq ?_
  refine wp_seq ?_
  refine wp_region_lit ?_
  have hx102_133 := hx102.gN hg115
  have hx102_134 := hx102_133.gB hg126 (by omega)
  refine sx_val (v := .agg #[.slice Ap83 (unr ⟨rs, bs⟩ k).1.rs.length cp83, .slice Aj83 (unr ⟨rs, bs⟩ k).1.bs.length cj83]) hA132 rfl (ev_row (hA132.ev (i := 6) (v := .pointer (some ⟨B24, 0, none⟩))) hx102_134 Try.underlying25 rfl (n := 2) (by kernel_rfl) rfl _ rfl) ?_
  intro a135 hA135; clear hA132
  refine sx_val (v := .agg #[.slice Ap115 (unr ⟨rs, bs⟩ k).1.rs.length cp115, .slice Aj115 (unr ⟨rs, bs⟩ k).1.bs.length cj115]) hA135 rfl (ev_row (hA135.ev (i := 8) (v := .pointer (some ⟨B45, 0, none⟩))) hx126 Try.underlying25 rfl (n := 2) (by kernel_rfl) rfl _ rfl) ?_
  intro a136 hA136; clear hA135
  have ho83_138 := Own.gBT ho83_0 hg102 hx25_104 (by decide)
  have ho83_139 := Own.gN ho83_138 hg115
  have ho83_140 := Own.gBT ho83_139 hg126 hx46_130 (by decide)
  have ho83_141 := Own.gBT ho83_1 hg102 hx25_104 (by decide)
  have ho83_142 := Own.gN ho83_141 hg115
  have ho83_143 := Own.gBT ho83_142 hg126 hx46_130 (by decide)
  have ho115_144 := Own.gBT ho115_0 hg126 hx46_130 (by decide)
  have ho115_145 := Own.gBT ho115_1 hg126 hx46_130 (by decide)
  refine sx_call (f := 13) (args := #[.agg #[.slice Ap83 (unr ⟨rs, bs⟩ k).1.rs.length cp83, .slice Aj83 (unr ⟨rs, bs⟩ k).1.bs.length cj83], .agg #[.slice Ap115 (unr ⟨rs, bs⟩ k).1.rs.length cp115, .slice Aj115 (unr ⟨rs, bs⟩ k).1.bs.length cj115]]) hA136 rfl (by decide) (.inl rfl) (ev_fn rfl (mp2 (hA136.ev (i := 52) (v := .agg #[.slice Ap83 (unr ⟨rs, bs⟩ k).1.rs.length cp83, .slice Aj83 (unr ⟨rs, bs⟩ k).1.bs.length cj83])) (hA136.ev (i := 53) (v := .agg #[.slice Ap115 (unr ⟨rs, bs⟩ k).1.rs.length cp115, .slice Aj115 (unr ⟨rs, bs⟩ k).1.bs.length cj115]))) (by kernel_rfl) _ rfl) (SameSlots_any Ap83 cp83 Aj83 cj83 (unr ⟨rs, bs⟩ k).1.rs (unr ⟨rs, bs⟩ k).1.bs Ap115 cp115 Aj115 cj115 (unr ⟨rs, bs⟩ k).1.rs (unr ⟨rs, bs⟩ k).1.bs _ ⟨(OwnR.gr (e := 3) ⟨rfl, ho83_140⟩), (OwnR.gr (e := 4) ⟨rfl, ho83_143⟩)⟩ ⟨(OwnR.gr (e := 3) ⟨rfl, ho115_144⟩), (OwnR.gr (e := 4) ⟨rfl, ho115_145⟩)⟩) ?_
  intro e137 w137 hR137
  obtain ⟨he137, hb137⟩ := hR137
  rw [sme_refl] at he137
  subst he137
  refine ⟨_, rfl, ?_⟩
  intro a137 hA137
  clear hA136
  have hg137 := g0 hb137
  have hs137 := hg137.size
  clear hb137
  refine sx_val (v := .bool false) hA137 rfl (ev_notT (hA137.ev (i := 54) (v := .bool true)) _ rfl) ?_
  intro a146 hA146; clear hA137
  refine sx_val hA146 rfl (ev_move (hA146.ev (i := 55) (v := .bool false)) _ rfl) ?_
  intro a147 hA147; clear hA146
  refine sx_val (hg := (.inr ⟨4, false, 56, rfl, rfl, by kernel_rfl⟩)) hA147 rfl (ev_move (hA147.ev (i := 10) (v := .bool (unr ⟨rs, bs⟩ k).2.1)) _ rfl) ?_
  intro a148 hA148; clear hA147
  refine sx_val (hg := (.inr ⟨4, false, 56, rfl, rfl, by kernel_rfl⟩)) hA148 rfl (ev_move (hA148.ev (i := 11) (v := .bool (unr ⟨rs, bs⟩ k).2.1)) _ rfl) ?_
  intro a149 hA149; clear hA148
  refine sx_val (hg := (.inr ⟨4, false, 56, rfl, rfl, by kernel_rfl⟩)) (v := .bool false) hA149 rfl (ev_neqBB (hA149.ev (i := 57) (v := .bool (unr ⟨rs, bs⟩ k).2.1)) (hA149.ev (i := 58) (v := .bool (unr ⟨rs, bs⟩ k).2.1)) Try.underlying4 (by simp) _ rfl) ?_
  intro a150 hA150; clear hA149
  refine sx_val hA150 rfl (ev_pickF (hA150.ev (i := 56) (v := .bool false)) (hA150.ev (i := 59) (v := .bool false)) _ rfl) ?_
  intro a151 hA151; clear hA150
  refine sx_val hA151 rfl (ev_move (hA151.ev (i := 60) (v := .bool false)) _ rfl) ?_
  intro a152 hA152; clear hA151
  refine sx_val (hg := (.inr ⟨9, false, 61, rfl, rfl, by kernel_rfl⟩)) hA152 rfl (ev_move (hA152.ev (i := 7) (v := .int .i64 (unr ⟨rs, bs⟩ k).2.2)) _ rfl) ?_
  intro a153 hA153; clear hA152
  refine sx_val (hg := (.inr ⟨9, false, 61, rfl, rfl, by kernel_rfl⟩)) hA153 rfl (ev_move (hA153.ev (i := 9) (v := .int .i64 (unr ⟨rs, bs⟩ k).2.2)) _ rfl) ?_
  intro a154 hA154; clear hA153
  refine sx_val (hg := (.inr ⟨9, false, 61, rfl, rfl, by kernel_rfl⟩)) (v := .bool false) hA154 rfl (ev_neqB (k := .i64) (m := (unr ⟨rs, bs⟩ k).2.2) (n := (unr ⟨rs, bs⟩ k).2.2) (hA154.ev (i := 62)) (hA154.ev (i := 63)) (by simp) _ rfl) ?_
  intro a155 hA155; clear hA154
  refine sx_val hA155 rfl (ev_pickF (hA155.ev (i := 61) (v := .bool false)) (hA155.ev (i := 64) (v := .bool false)) _ rfl) ?_
  intro a156 hA156; clear hA155
  refine sx_nil ?_
  refine then_n ?_
  refine wp_cond_false (hA156.ev (i := 65) (v := .bool false)) ?_
  refine wp_skip ?_
  refine then_n ?_
  refine wp_seq ?_
  refine wp_region_lit ?_
  have hx13_157 := hx13_80.gN hg83
  have hx13_158 := hx13_157.gB hg102 (by omega)
  have hx13_159 := hx13_158.gN hg115
  have hx13_160 := hx13_159.gB hg126 (by omega)
  have hx13_161 := hx13_160.gN hg137
  refine sx_val (v := .agg #[.slice Ap10 rs.length cp10, .slice Aj10 bs.length cj10]) hA156 rfl (ev_row (hA156.ev (i := 5) (v := .pointer (some ⟨B12, 0, none⟩))) hx13_161 Try.underlying25 rfl (n := 2) (by kernel_rfl) rfl _ rfl) ?_
  intro a162 hA162; clear hA156
  refine sx_val hA162 rfl (ev_move (hA162.ev (i := 1) (v := .int .i64 k)) _ rfl) ?_
  intro a163 hA163; clear hA162
  have ho10_165 := Own.gN ho10_90 hg83
  have ho10_166 := Own.gBT ho10_165 hg102 hx25_104 (by decide)
  have ho10_167 := Own.gN ho10_166 hg115
  have ho10_168 := Own.gBT ho10_167 hg126 hx46_130 (by decide)
  have ho10_169 := Own.gN ho10_168 hg137
  have ho10_170 := Own.gN ho10_97 hg83
  have ho10_171 := Own.gBT ho10_170 hg102 hx25_104 (by decide)
  have ho10_172 := Own.gN ho10_171 hg115
  have ho10_173 := Own.gBT ho10_172 hg126 hx46_130 (by decide)
  have ho10_174 := Own.gN ho10_173 hg137
  refine sx_call (f := 16) (args := #[.agg #[.slice Ap10 rs.length cp10, .slice Aj10 bs.length cj10], .int .i64 k]) hA163 rfl (by decide) (.inl rfl) (ev_fn rfl (mp2 (hA163.ev (i := 67) (v := .agg #[.slice Ap10 rs.length cp10, .slice Aj10 bs.length cj10])) (hA163.ev (i := 68) (v := .int .i64 k))) (by kernel_rfl) _ rfl) (Start_any Ap10 cp10 Aj10 cj10 rs bs k _ ⟨(OwnR.gr (e := 3) ⟨rfl, ho10_169⟩), (OwnR.gr (e := 4) ⟨rfl, ho10_174⟩)⟩ (by omega) (by omega)) ?_
  intro e164 w164 hR164
  obtain ⟨Ap164, cp164, Aj164, cj164, rfl, hC164, hJ164, hb164⟩ := hR164
  refine ⟨_, rfl, ?_⟩
  intro a164 hA164
  clear hA163
  have hg164 := g0 hb164
  have hs164 := hg164.size
  clear hb164
  have ho164_0 : Own w164 (w137.heap.size) 3 1 (.slice Ap164 (sta ⟨rs, bs⟩ k).1.rs.length cp164) (sta ⟨rs, bs⟩ k).1.rs.length (flat iva (sta ⟨rs, bs⟩ k).1.rs) := hC164
  have hh164_0 := Own.hi ho164_0
  have ho164_1 : Own w164 (w137.heap.size) 4 1 (.slice Aj164 (sta ⟨rs, bs⟩ k).1.bs.length cj164) (sta ⟨rs, bs⟩ k).1.bs.length (flat bva (sta ⟨rs, bs⟩ k).1.bs) := hJ164
  have hh164_1 := Own.hi ho164_1
  refine sx_val hA164 rfl (ev_move (hA164.ev (i := 69) (v := .tuple #[.agg #[.slice Ap164 (sta ⟨rs, bs⟩ k).1.rs.length cp164, .slice Aj164 (sta ⟨rs, bs⟩ k).1.bs.length cj164], .int .i64 (sta ⟨rs, bs⟩ k).2])) _ rfl) ?_
  intro a175 hA175; clear hA164
  refine sx_val (v := .agg #[.slice Ap164 (sta ⟨rs, bs⟩ k).1.rs.length cp164, .slice Aj164 (sta ⟨rs, bs⟩ k).1.bs.length cj164]) hA175 rfl (ev_ext (hA175.ev (i := 66) (v := .tuple #[.agg #[.slice Ap164 (sta ⟨rs, bs⟩ k).1.rs.length cp164, .slice Aj164 (sta ⟨rs, bs⟩ k).1.bs.length cj164], .int .i64 (sta ⟨rs, bs⟩ k).2])) rfl _ rfl) ?_
  intro a176 hA176; clear hA175
  refine sx_val (v := .int .i64 (sta ⟨rs, bs⟩ k).2) hA176 rfl (ev_ext (hA176.ev (i := 66) (v := .tuple #[.agg #[.slice Ap164 (sta ⟨rs, bs⟩ k).1.rs.length cp164, .slice Aj164 (sta ⟨rs, bs⟩ k).1.bs.length cj164], .int .i64 (sta ⟨rs, bs⟩ k).2])) rfl _ rfl) ?_
  intro a177 hA177; clear hA176
  have hx102_179 := hx102_134.gN hg137
  have hx102_180 := hx102_179.gN hg164
  refine sx_store hA177 rfl (.inl rfl) rfl (hA177.ev (i := 6) (v := .pointer (some ⟨B24, 0, none⟩))) (hA177.ev (i := 70) (v := .agg #[.slice Ap164 (sta ⟨rs, bs⟩ k).1.rs.length cp164, .slice Aj164 (sta ⟨rs, bs⟩ k).1.bs.length cj164])) hx102_180 (by kernel_rfl) rfl (by simp [Value.oneCell']) ?_
  intro w178 hx178 hg178
  have hs178 := hg178.size
  refine sx_val hA177 rfl (ev_assign (hA177.ev (i := 71) (v := .int .i64 (sta ⟨rs, bs⟩ k).2)) _ rfl) ?_
  intro a181 hA181; clear hA177
  refine sx_nil ?_
  refine then_n ?_
  refine wp_seq ?_
  refine wp_region_lit ?_
  have hx1_182 := hx1_112.gN hg115
  have hx1_183 := hx1_182.gB hg126 (by omega)
  have hx1_184 := hx1_183.gN hg137
  have hx1_185 := hx1_184.gN hg164
  have hx1_186 := hx1_185.gB hg178 (by omega)
  refine sx_val (v := .agg #[.slice A1 rs.length c1, .slice A2 bs.length c2]) hA181 rfl (ev_row (hA181.ev (i := 2) (v := .pointer (some ⟨B1, 0, none⟩))) hx1_186 Try.underlying25 rfl (n := 2) (by kernel_rfl) rfl _ rfl) ?_
  intro a187 hA187; clear hA181
  refine sx_val hA187 rfl (ev_move (hA187.ev (i := 1) (v := .int .i64 k)) _ rfl) ?_
  intro a188 hA188; clear hA187
  have hbel0_190 := Below.gN hbel0_121 hg115 hbel0_121.size
  have hbel0_191 := Below.gB hbel0_190 hg126 hbel0_190.size (by omega)
  have hbel0_192 := Below.gN hbel0_191 hg137 hbel0_191.size
  have hbel0_193 := Below.gN hbel0_192 hg164 hbel0_192.size
  have hbel0_194 := Below.gB hbel0_193 hg178 hbel0_193.size (by omega)
  refine sx_call (f := 17) (args := #[.agg #[.slice A1 rs.length c1, .slice A2 bs.length c2], .int .i64 k]) hA188 rfl (by decide) (.inl rfl) (ev_fn rfl (mp2 (hA188.ev (i := 73) (v := .agg #[.slice A1 rs.length c1, .slice A2 bs.length c2])) (hA188.ev (i := 74) (v := .int .i64 k))) (by kernel_rfl) _ rfl) (sStart_any A1 c1 A2 c2 rs bs k _ ⟨(hs.r.below hbel0_194), (hs.b.below hbel0_194)⟩ (by omega) (by omega)) ?_
  intro e189 w189 hR189
  obtain ⟨Ap189, cp189, Aj189, cj189, rfl, hC189, hJ189, hb189⟩ := hR189
  refine ⟨_, rfl, ?_⟩
  intro a189 hA189
  clear hA188
  have hg189 := g0 hb189
  have hs189 := hg189.size
  clear hb189
  have ho189_0 : Own w189 (w178.heap.size) 3 1 (.slice Ap189 (sta ⟨rs, bs⟩ k).1.rs.length cp189) (sta ⟨rs, bs⟩ k).1.rs.length (flat iva (sta ⟨rs, bs⟩ k).1.rs) := hC189
  have hh189_0 := Own.hi ho189_0
  have ho189_1 : Own w189 (w178.heap.size) 4 1 (.slice Aj189 (sta ⟨rs, bs⟩ k).1.bs.length cj189) (sta ⟨rs, bs⟩ k).1.bs.length (flat bva (sta ⟨rs, bs⟩ k).1.bs) := hJ189
  have hh189_1 := Own.hi ho189_1
  refine sx_val hA189 rfl (ev_move (hA189.ev (i := 75) (v := .tuple #[.agg #[.slice Ap189 (sta ⟨rs, bs⟩ k).1.rs.length cp189, .slice Aj189 (sta ⟨rs, bs⟩ k).1.bs.length cj189], .int .i64 (sta ⟨rs, bs⟩ k).2])) _ rfl) ?_
  intro a195 hA195; clear hA189
  refine sx_val (v := .agg #[.slice Ap189 (sta ⟨rs, bs⟩ k).1.rs.length cp189, .slice Aj189 (sta ⟨rs, bs⟩ k).1.bs.length cj189]) hA195 rfl (ev_ext (hA195.ev (i := 72) (v := .tuple #[.agg #[.slice Ap189 (sta ⟨rs, bs⟩ k).1.rs.length cp189, .slice Aj189 (sta ⟨rs, bs⟩ k).1.bs.length cj189], .int .i64 (sta ⟨rs, bs⟩ k).2])) rfl _ rfl) ?_
  intro a196 hA196; clear hA195
  refine sx_val (v := .int .i64 (sta ⟨rs, bs⟩ k).2) hA196 rfl (ev_ext (hA196.ev (i := 72) (v := .tuple #[.agg #[.slice Ap189 (sta ⟨rs, bs⟩ k).1.rs.length cp189, .slice Aj189 (sta ⟨rs, bs⟩ k).1.bs.length cj189], .int .i64 (sta ⟨rs, bs⟩ k).2])) rfl _ rfl) ?_
  intro a197 hA197; clear hA196
  have hx126_199 := hx126.gN hg137
  have hx126_200 := hx126_199.gN hg164
  have hx126_201 := hx126_200.gB hg178 (by omega)
  have hx126_202 := hx126_201.gN hg189
  refine sx_store hA197 rfl (.inl rfl) rfl (hA197.ev (i := 8) (v := .pointer (some ⟨B45, 0, none⟩))) (hA197.ev (i := 76) (v := .agg #[.slice Ap189 (sta ⟨rs, bs⟩ k).1.rs.length cp189, .slice Aj189 (sta ⟨rs, bs⟩ k).1.bs.length cj189])) hx126_202 (by kernel_rfl) rfl (by simp [Value.oneCell']) ?_
  intro w198 hx198 hg198
  have hs198 := hg198.size
  refine sx_val hA197 rfl (ev_assign (hA197.ev (i := 77) (v := .int .i64 (sta ⟨rs, bs⟩ k).2)) _ rfl) ?_
  intro a203 hA203; clear hA197
  refine sx_nil ?_
  refine then_n ?_
  refine wp_seq ?_
  refine wp_seq ?_
  refine wp_region_lit ?_
  have hx178_204 := hx178.gN hg189
  have hx178_205 := hx178_204.gB hg198 (by omega)
  refine sx_val (v := .agg #[.slice Ap164 (sta ⟨rs, bs⟩ k).1.rs.length cp164, .slice Aj164 (sta ⟨rs, bs⟩ k).1.bs.length cj164]) hA203 rfl (ev_row (hA203.ev (i := 6) (v := .pointer (some ⟨B24, 0, none⟩))) hx178_205 Try.underlying25 rfl (n := 2) (by kernel_rfl) rfl _ rfl) ?_
  intro a206 hA206; clear hA203
  refine sx_val (v := .agg #[.slice Ap189 (sta ⟨rs, bs⟩ k).1.rs.length cp189, .slice Aj189 (sta ⟨rs, bs⟩ k).1.bs.length cj189]) hA206 rfl (ev_row (hA206.ev (i := 8) (v := .pointer (some ⟨B45, 0, none⟩))) hx198 Try.underlying25 rfl (n := 2) (by kernel_rfl) rfl _ rfl) ?_
  intro a207 hA207; clear hA206
  have ho164_209 := Own.gBT ho164_0 hg178 hx102_180 (by decide)
  have ho164_210 := Own.gN ho164_209 hg189
  have ho164_211 := Own.gBT ho164_210 hg198 hx126_202 (by decide)
  have ho164_212 := Own.gBT ho164_1 hg178 hx102_180 (by decide)
  have ho164_213 := Own.gN ho164_212 hg189
  have ho164_214 := Own.gBT ho164_213 hg198 hx126_202 (by decide)
  have ho189_215 := Own.gBT ho189_0 hg198 hx126_202 (by decide)
  have ho189_216 := Own.gBT ho189_1 hg198 hx126_202 (by decide)
  refine sx_call (f := 13) (args := #[.agg #[.slice Ap164 (sta ⟨rs, bs⟩ k).1.rs.length cp164, .slice Aj164 (sta ⟨rs, bs⟩ k).1.bs.length cj164], .agg #[.slice Ap189 (sta ⟨rs, bs⟩ k).1.rs.length cp189, .slice Aj189 (sta ⟨rs, bs⟩ k).1.bs.length cj189]]) hA207 rfl (by decide) (.inl rfl) (ev_fn rfl (mp2 (hA207.ev (i := 78) (v := .agg #[.slice Ap164 (sta ⟨rs, bs⟩ k).1.rs.length cp164, .slice Aj164 (sta ⟨rs, bs⟩ k).1.bs.length cj164])) (hA207.ev (i := 79) (v := .agg #[.slice Ap189 (sta ⟨rs, bs⟩ k).1.rs.length cp189, .slice Aj189 (sta ⟨rs, bs⟩ k).1.bs.length cj189]))) (by kernel_rfl) _ rfl) (SameSlots_any Ap164 cp164 Aj164 cj164 (sta ⟨rs, bs⟩ k).1.rs (sta ⟨rs, bs⟩ k).1.bs Ap189 cp189 Aj189 cj189 (sta ⟨rs, bs⟩ k).1.rs (sta ⟨rs, bs⟩ k).1.bs _ ⟨(OwnR.gr (e := 3) ⟨rfl, ho164_211⟩), (OwnR.gr (e := 4) ⟨rfl, ho164_214⟩)⟩ ⟨(OwnR.gr (e := 3) ⟨rfl, ho189_215⟩), (OwnR.gr (e := 4) ⟨rfl, ho189_216⟩)⟩) ?_
  intro e208 w208 hR208
  obtain ⟨he208, hb208⟩ := hR208
  rw [sme_refl] at he208
  subst he208
  refine ⟨_, rfl, ?_⟩
  intro a208 hA208
  clear hA207
  have hg208 := g0 hb208
  have hs208 := hg208.size
  clear hb208
  refine sx_val (v := .bool false) hA208 rfl (ev_notT (hA208.ev (i := 80) (v := .bool true)) _ rfl) ?_
  intro a217 hA217; clear hA208
  refine sx_val hA217 rfl (ev_move (hA217.ev (i := 81) (v := .bool false)) _ rfl) ?_
  intro a218 hA218; clear hA217
  refine sx_val (hg := (.inr ⟨4, false, 82, rfl, rfl, by kernel_rfl⟩)) hA218 rfl (ev_move (hA218.ev (i := 7) (v := .int .i64 (sta ⟨rs, bs⟩ k).2)) _ rfl) ?_
  intro a219 hA219; clear hA218
  refine sx_val (hg := (.inr ⟨4, false, 82, rfl, rfl, by kernel_rfl⟩)) hA219 rfl (ev_move (hA219.ev (i := 9) (v := .int .i64 (sta ⟨rs, bs⟩ k).2)) _ rfl) ?_
  intro a220 hA220; clear hA219
  refine sx_val (hg := (.inr ⟨4, false, 82, rfl, rfl, by kernel_rfl⟩)) (v := .bool false) hA220 rfl (ev_neqB (k := .i64) (m := (sta ⟨rs, bs⟩ k).2) (n := (sta ⟨rs, bs⟩ k).2) (hA220.ev (i := 83)) (hA220.ev (i := 84)) (by simp) _ rfl) ?_
  intro a221 hA221; clear hA220
  refine sx_val hA221 rfl (ev_pickF (hA221.ev (i := 82) (v := .bool false)) (hA221.ev (i := 85) (v := .bool false)) _ rfl) ?_
  intro a222 hA222; clear hA221
  refine sx_nil ?_
  refine then_n ?_
  refine wp_cond_false (hA222.ev (i := 86) (v := .bool false)) ?_
  refine wp_skip ?_
  refine then_n ?_
  refine wp_seq ?_
  refine wp_region_lit ?_
  have hx13_223 := hx13_161.gN hg164
  have hx13_224 := hx13_223.gB hg178 (by omega)
  have hx13_225 := hx13_224.gN hg189
  have hx13_226 := hx13_225.gB hg198 (by omega)
  have hx13_227 := hx13_226.gN hg208
  refine sx_val (v := .agg #[.slice Ap10 rs.length cp10, .slice Aj10 bs.length cj10]) hA222 rfl (ev_row (hA222.ev (i := 5) (v := .pointer (some ⟨B12, 0, none⟩))) hx13_227 Try.underlying25 rfl (n := 2) (by kernel_rfl) rfl _ rfl) ?_
  intro a228 hA228; clear hA222
  refine sx_val hA228 rfl (ev_move (hA228.ev (i := 1) (v := .int .i64 k)) _ rfl) ?_
  intro a229 hA229; clear hA228
  have ho10_231 := Own.gN ho10_169 hg164
  have ho10_232 := Own.gBT ho10_231 hg178 hx102_180 (by decide)
  have ho10_233 := Own.gN ho10_232 hg189
  have ho10_234 := Own.gBT ho10_233 hg198 hx126_202 (by decide)
  have ho10_235 := Own.gN ho10_234 hg208
  have ho10_236 := Own.gN ho10_174 hg164
  have ho10_237 := Own.gBT ho10_236 hg178 hx102_180 (by decide)
  have ho10_238 := Own.gN ho10_237 hg189
  have ho10_239 := Own.gBT ho10_238 hg198 hx126_202 (by decide)
  have ho10_240 := Own.gN ho10_239 hg208
  refine sx_call (f := 18) (args := #[.agg #[.slice Ap10 rs.length cp10, .slice Aj10 bs.length cj10], .int .i64 k]) hA229 rfl (by decide) (.inl rfl) (ev_fn rfl (mp2 (hA229.ev (i := 88) (v := .agg #[.slice Ap10 rs.length cp10, .slice Aj10 bs.length cj10])) (hA229.ev (i := 89) (v := .int .i64 k))) (by kernel_rfl) _ rfl) (Settle_any Ap10 cp10 Aj10 cj10 rs bs k _ ⟨(OwnR.gr (e := 3) ⟨rfl, ho10_235⟩), (OwnR.gr (e := 4) ⟨rfl, ho10_240⟩)⟩ (by omega) (by omega)) ?_
  intro e230 w230 hR230
  obtain ⟨Ap230, cp230, Aj230, cj230, rfl, hC230, hJ230, hb230⟩ := hR230
  refine ⟨_, rfl, ?_⟩
  intro a230 hA230
  clear hA229
  have hg230 := g0 hb230
  have hs230 := hg230.size
  clear hb230
  have ho230_0 : Own w230 (w208.heap.size) 3 1 (.slice Ap230 (stl ⟨rs, bs⟩ k).1.rs.length cp230) (stl ⟨rs, bs⟩ k).1.rs.length (flat iva (stl ⟨rs, bs⟩ k).1.rs) := hC230
  have hh230_0 := Own.hi ho230_0
  have ho230_1 : Own w230 (w208.heap.size) 4 1 (.slice Aj230 (stl ⟨rs, bs⟩ k).1.bs.length cj230) (stl ⟨rs, bs⟩ k).1.bs.length (flat bva (stl ⟨rs, bs⟩ k).1.bs) := hJ230
  have hh230_1 := Own.hi ho230_1
  refine sx_val hA230 rfl (ev_move (hA230.ev (i := 90) (v := .tuple #[.agg #[.slice Ap230 (stl ⟨rs, bs⟩ k).1.rs.length cp230, .slice Aj230 (stl ⟨rs, bs⟩ k).1.bs.length cj230], .bool (stl ⟨rs, bs⟩ k).2.1, .int .i64 (stl ⟨rs, bs⟩ k).2.2])) _ rfl) ?_
  intro a241 hA241; clear hA230
  refine sx_val (v := .agg #[.slice Ap230 (stl ⟨rs, bs⟩ k).1.rs.length cp230, .slice Aj230 (stl ⟨rs, bs⟩ k).1.bs.length cj230]) hA241 rfl (ev_ext (hA241.ev (i := 87) (v := .tuple #[.agg #[.slice Ap230 (stl ⟨rs, bs⟩ k).1.rs.length cp230, .slice Aj230 (stl ⟨rs, bs⟩ k).1.bs.length cj230], .bool (stl ⟨rs, bs⟩ k).2.1, .int .i64 (stl ⟨rs, bs⟩ k).2.2])) rfl _ rfl) ?_
  intro a242 hA242; clear hA241
  refine sx_val (v := .bool (stl ⟨rs, bs⟩ k).2.1) hA242 rfl (ev_ext (hA242.ev (i := 87) (v := .tuple #[.agg #[.slice Ap230 (stl ⟨rs, bs⟩ k).1.rs.length cp230, .slice Aj230 (stl ⟨rs, bs⟩ k).1.bs.length cj230], .bool (stl ⟨rs, bs⟩ k).2.1, .int .i64 (stl ⟨rs, bs⟩ k).2.2])) rfl _ rfl) ?_
  intro a243 hA243; clear hA242
  refine sx_val (v := .int .i64 (stl ⟨rs, bs⟩ k).2.2) hA243 rfl (ev_ext (hA243.ev (i := 87) (v := .tuple #[.agg #[.slice Ap230 (stl ⟨rs, bs⟩ k).1.rs.length cp230, .slice Aj230 (stl ⟨rs, bs⟩ k).1.bs.length cj230], .bool (stl ⟨rs, bs⟩ k).2.1, .int .i64 (stl ⟨rs, bs⟩ k).2.2])) rfl _ rfl) ?_
  intro a244 hA244; clear hA243
  have hx178_246 := hx178_205.gN hg208
  have hx178_247 := hx178_246.gN hg230
  refine sx_store hA244 rfl (.inl rfl) rfl (hA244.ev (i := 6) (v := .pointer (some ⟨B24, 0, none⟩))) (hA244.ev (i := 91) (v := .agg #[.slice Ap230 (stl ⟨rs, bs⟩ k).1.rs.length cp230, .slice Aj230 (stl ⟨rs, bs⟩ k).1.bs.length cj230])) hx178_247 (by kernel_rfl) rfl (by simp [Value.oneCell']) ?_
  intro w245 hx245 hg245
  have hs245 := hg245.size
  refine sx_val hA244 rfl (ev_assign (hA244.ev (i := 92) (v := .bool (stl ⟨rs, bs⟩ k).2.1)) _ rfl) ?_
  intro a248 hA248; clear hA244
  refine sx_val hA248 rfl (ev_assign (hA248.ev (i := 93) (v := .int .i64 (stl ⟨rs, bs⟩ k).2.2)) _ rfl) ?_
  intro a249 hA249; clear hA248
  refine sx_nil ?_
  refine then_n ?_
  refine wp_seq ?_
  refine wp_region_lit ?_
  have hx1_250 := hx1_186.gN hg189
  have hx1_251 := hx1_250.gB hg198 (by omega)
  have hx1_252 := hx1_251.gN hg208
  have hx1_253 := hx1_252.gN hg230
  have hx1_254 := hx1_253.gB hg245 (by omega)
  refine sx_val (v := .agg #[.slice A1 rs.length c1, .slice A2 bs.length c2]) hA249 rfl (ev_row (hA249.ev (i := 2) (v := .pointer (some ⟨B1, 0, none⟩))) hx1_254 Try.underlying25 rfl (n := 2) (by kernel_rfl) rfl _ rfl) ?_
  intro a255 hA255; clear hA249
  refine sx_val hA255 rfl (ev_move (hA255.ev (i := 1) (v := .int .i64 k)) _ rfl) ?_
  intro a256 hA256; clear hA255
  have hbel0_258 := Below.gN hbel0_194 hg189 hbel0_194.size
  have hbel0_259 := Below.gB hbel0_258 hg198 hbel0_258.size (by omega)
  have hbel0_260 := Below.gN hbel0_259 hg208 hbel0_259.size
  have hbel0_261 := Below.gN hbel0_260 hg230 hbel0_260.size
  have hbel0_262 := Below.gB hbel0_261 hg245 hbel0_261.size (by omega)
  refine sx_call (f := 19) (args := #[.agg #[.slice A1 rs.length c1, .slice A2 bs.length c2], .int .i64 k]) hA256 rfl (by decide) (.inl rfl) (ev_fn rfl (mp2 (hA256.ev (i := 95) (v := .agg #[.slice A1 rs.length c1, .slice A2 bs.length c2])) (hA256.ev (i := 96) (v := .int .i64 k))) (by kernel_rfl) _ rfl) (sSettle_any A1 c1 A2 c2 rs bs k _ ⟨(hs.r.below hbel0_262), (hs.b.below hbel0_262)⟩ (by omega) (by omega)) ?_
  intro e257 w257 hR257
  obtain ⟨Ap257, cp257, Aj257, cj257, rfl, hC257, hJ257, hb257⟩ := hR257
  refine ⟨_, rfl, ?_⟩
  intro a257 hA257
  clear hA256
  have hg257 := g0 hb257
  have hs257 := hg257.size
  clear hb257
  have ho257_0 : Own w257 (w245.heap.size) 3 1 (.slice Ap257 (stl ⟨rs, bs⟩ k).1.rs.length cp257) (stl ⟨rs, bs⟩ k).1.rs.length (flat iva (stl ⟨rs, bs⟩ k).1.rs) := hC257
  have hh257_0 := Own.hi ho257_0
  have ho257_1 : Own w257 (w245.heap.size) 4 1 (.slice Aj257 (stl ⟨rs, bs⟩ k).1.bs.length cj257) (stl ⟨rs, bs⟩ k).1.bs.length (flat bva (stl ⟨rs, bs⟩ k).1.bs) := hJ257
  have hh257_1 := Own.hi ho257_1
  refine sx_val hA257 rfl (ev_move (hA257.ev (i := 97) (v := .tuple #[.agg #[.slice Ap257 (stl ⟨rs, bs⟩ k).1.rs.length cp257, .slice Aj257 (stl ⟨rs, bs⟩ k).1.bs.length cj257], .bool (stl ⟨rs, bs⟩ k).2.1, .int .i64 (stl ⟨rs, bs⟩ k).2.2])) _ rfl) ?_
  intro a263 hA263; clear hA257
  refine sx_val (v := .agg #[.slice Ap257 (stl ⟨rs, bs⟩ k).1.rs.length cp257, .slice Aj257 (stl ⟨rs, bs⟩ k).1.bs.length cj257]) hA263 rfl (ev_ext (hA263.ev (i := 94) (v := .tuple #[.agg #[.slice Ap257 (stl ⟨rs, bs⟩ k).1.rs.length cp257, .slice Aj257 (stl ⟨rs, bs⟩ k).1.bs.length cj257], .bool (stl ⟨rs, bs⟩ k).2.1, .int .i64 (stl ⟨rs, bs⟩ k).2.2])) rfl _ rfl) ?_
  intro a264 hA264; clear hA263
  refine sx_val (v := .bool (stl ⟨rs, bs⟩ k).2.1) hA264 rfl (ev_ext (hA264.ev (i := 94) (v := .tuple #[.agg #[.slice Ap257 (stl ⟨rs, bs⟩ k).1.rs.length cp257, .slice Aj257 (stl ⟨rs, bs⟩ k).1.bs.length cj257], .bool (stl ⟨rs, bs⟩ k).2.1, .int .i64 (stl ⟨rs, bs⟩ k).2.2])) rfl _ rfl) ?_
  intro a265 hA265; clear hA264
  refine sx_val (v := .int .i64 (stl ⟨rs, bs⟩ k).2.2) hA265 rfl (ev_ext (hA265.ev (i := 94) (v := .tuple #[.agg #[.slice Ap257 (stl ⟨rs, bs⟩ k).1.rs.length cp257, .slice Aj257 (stl ⟨rs, bs⟩ k).1.bs.length cj257], .bool (stl ⟨rs, bs⟩ k).2.1, .int .i64 (stl ⟨rs, bs⟩ k).2.2])) rfl _ rfl) ?_
  intro a266 hA266; clear hA265
  have hx198_268 := hx198.gN hg208
  have hx198_269 := hx198_268.gN hg230
  have hx198_270 := hx198_269.gB hg245 (by omega)
  have hx198_271 := hx198_270.gN hg257
  refine sx_store hA266 rfl (.inl rfl) rfl (hA266.ev (i := 8) (v := .pointer (some ⟨B45, 0, none⟩))) (hA266.ev (i := 98) (v := .agg #[.slice Ap257 (stl ⟨rs, bs⟩ k).1.rs.length cp257, .slice Aj257 (stl ⟨rs, bs⟩ k).1.bs.length cj257])) hx198_271 (by kernel_rfl) rfl (by simp [Value.oneCell']) ?_
  intro w267 hx267 hg267
  have hs267 := hg267.size
  refine sx_val hA266 rfl (ev_assign (hA266.ev (i := 99) (v := .bool (stl ⟨rs, bs⟩ k).2.1)) _ rfl) ?_
  intro a272 hA272; clear hA266
  refine sx_val hA272 rfl (ev_assign (hA272.ev (i := 100) (v := .int .i64 (stl ⟨rs, bs⟩ k).2.2)) _ rfl) ?_
  intro a273 hA273; clear hA272
  refine sx_nil ?_
  refine then_n ?_
  refine wp_seq ?_
  refine wp_region_lit ?_
  have hx245_274 := hx245.gN hg257
  have hx245_275 := hx245_274.gB hg267 (by omega)
  refine sx_val (v := .agg #[.slice Ap230 (stl ⟨rs, bs⟩ k).1.rs.length cp230, .slice Aj230 (stl ⟨rs, bs⟩ k).1.bs.length cj230]) hA273 rfl (ev_row (hA273.ev (i := 6) (v := .pointer (some ⟨B24, 0, none⟩))) hx245_275 Try.underlying25 rfl (n := 2) (by kernel_rfl) rfl _ rfl) ?_
  intro a276 hA276; clear hA273
  refine sx_val (v := .agg #[.slice Ap257 (stl ⟨rs, bs⟩ k).1.rs.length cp257, .slice Aj257 (stl ⟨rs, bs⟩ k).1.bs.length cj257]) hA276 rfl (ev_row (hA276.ev (i := 8) (v := .pointer (some ⟨B45, 0, none⟩))) hx267 Try.underlying25 rfl (n := 2) (by kernel_rfl) rfl _ rfl) ?_
  intro a277 hA277; clear hA276
  have ho230_279 := Own.gBT ho230_0 hg245 hx178_247 (by decide)
  have ho230_280 := Own.gN ho230_279 hg257
  have ho230_281 := Own.gBT ho230_280 hg267 hx198_271 (by decide)
  have ho230_282 := Own.gBT ho230_1 hg245 hx178_247 (by decide)
  have ho230_283 := Own.gN ho230_282 hg257
  have ho230_284 := Own.gBT ho230_283 hg267 hx198_271 (by decide)
  have ho257_285 := Own.gBT ho257_0 hg267 hx198_271 (by decide)
  have ho257_286 := Own.gBT ho257_1 hg267 hx198_271 (by decide)
  refine sx_call (f := 13) (args := #[.agg #[.slice Ap230 (stl ⟨rs, bs⟩ k).1.rs.length cp230, .slice Aj230 (stl ⟨rs, bs⟩ k).1.bs.length cj230], .agg #[.slice Ap257 (stl ⟨rs, bs⟩ k).1.rs.length cp257, .slice Aj257 (stl ⟨rs, bs⟩ k).1.bs.length cj257]]) hA277 rfl (by decide) (.inl rfl) (ev_fn rfl (mp2 (hA277.ev (i := 101) (v := .agg #[.slice Ap230 (stl ⟨rs, bs⟩ k).1.rs.length cp230, .slice Aj230 (stl ⟨rs, bs⟩ k).1.bs.length cj230])) (hA277.ev (i := 102) (v := .agg #[.slice Ap257 (stl ⟨rs, bs⟩ k).1.rs.length cp257, .slice Aj257 (stl ⟨rs, bs⟩ k).1.bs.length cj257]))) (by kernel_rfl) _ rfl) (SameSlots_any Ap230 cp230 Aj230 cj230 (stl ⟨rs, bs⟩ k).1.rs (stl ⟨rs, bs⟩ k).1.bs Ap257 cp257 Aj257 cj257 (stl ⟨rs, bs⟩ k).1.rs (stl ⟨rs, bs⟩ k).1.bs _ ⟨(OwnR.gr (e := 3) ⟨rfl, ho230_281⟩), (OwnR.gr (e := 4) ⟨rfl, ho230_284⟩)⟩ ⟨(OwnR.gr (e := 3) ⟨rfl, ho257_285⟩), (OwnR.gr (e := 4) ⟨rfl, ho257_286⟩)⟩) ?_
  intro e278 w278 hR278
  obtain ⟨he278, hb278⟩ := hR278
  rw [sme_refl] at he278
  subst he278
  refine ⟨_, rfl, ?_⟩
  intro a278 hA278
  clear hA277
  have hg278 := g0 hb278
  have hs278 := hg278.size
  clear hb278
  refine sx_val hA278 rfl (ev_move (hA278.ev (i := 103) (v := .bool true)) _ rfl) ?_
  intro a287 hA287; clear hA278
  refine sx_val (hg := (.inr ⟨3, true, 104, rfl, rfl, by kernel_rfl⟩)) hA287 rfl (ev_move (hA287.ev (i := 10) (v := .bool (stl ⟨rs, bs⟩ k).2.1)) _ rfl) ?_
  intro a288 hA288; clear hA287
  refine sx_val (hg := (.inr ⟨3, true, 104, rfl, rfl, by kernel_rfl⟩)) hA288 rfl (ev_move (hA288.ev (i := 11) (v := .bool (stl ⟨rs, bs⟩ k).2.1)) _ rfl) ?_
  intro a289 hA289; clear hA288
  refine sx_val (hg := (.inr ⟨3, true, 104, rfl, rfl, by kernel_rfl⟩)) (v := .bool true) hA289 rfl (ev_eqlBB (hA289.ev (i := 105) (v := .bool (stl ⟨rs, bs⟩ k).2.1)) (hA289.ev (i := 106) (v := .bool (stl ⟨rs, bs⟩ k).2.1)) Try.underlying4 (by simp) _ rfl) ?_
  intro a290 hA290; clear hA289
  refine sx_val hA290 rfl (ev_pickT (hA290.ev (i := 104) (v := .bool true)) (hA290.ev (i := 107) (v := .bool true)) _ rfl) ?_
  intro a291 hA291; clear hA290
  refine sx_val hA291 rfl (ev_move (hA291.ev (i := 108) (v := .bool true)) _ rfl) ?_
  intro a292 hA292; clear hA291
  refine sx_val (hg := (.inr ⟨8, true, 109, rfl, rfl, by kernel_rfl⟩)) hA292 rfl (ev_move (hA292.ev (i := 7) (v := .int .i64 (stl ⟨rs, bs⟩ k).2.2)) _ rfl) ?_
  intro a293 hA293; clear hA292
  refine sx_val (hg := (.inr ⟨8, true, 109, rfl, rfl, by kernel_rfl⟩)) hA293 rfl (ev_move (hA293.ev (i := 9) (v := .int .i64 (stl ⟨rs, bs⟩ k).2.2)) _ rfl) ?_
  intro a294 hA294; clear hA293
  refine sx_val (hg := (.inr ⟨8, true, 109, rfl, rfl, by kernel_rfl⟩)) (v := .bool true) hA294 rfl (ev_eqlB (k := .i64) (m := (stl ⟨rs, bs⟩ k).2.2) (n := (stl ⟨rs, bs⟩ k).2.2) (hA294.ev (i := 110)) (hA294.ev (i := 111)) (by simp) _ rfl) ?_
  intro a295 hA295; clear hA294
  refine sx_val hA295 rfl (ev_pickT (hA295.ev (i := 109) (v := .bool true)) (hA295.ev (i := 112) (v := .bool true)) _ rfl) ?_
  intro a296 hA296; clear hA295
  refine sx_val hA296 rfl (ev_move (hA296.ev (i := 113) (v := .bool true)) _ rfl) ?_
  intro a297 hA297; clear hA296
  have hx13_298 := hx13_227.gN hg230
  have hx13_299 := hx13_298.gB hg245 (by omega)
  have hx13_300 := hx13_299.gN hg257
  have hx13_301 := hx13_300.gB hg267 (by omega)
  have hx13_302 := hx13_301.gN hg278
  refine sx_val (hg := (.inr ⟨13, true, 114, rfl, rfl, by kernel_rfl⟩)) (v := .agg #[.slice Ap10 rs.length cp10, .slice Aj10 bs.length cj10]) hA297 rfl (ev_row (hA297.ev (i := 5) (v := .pointer (some ⟨B12, 0, none⟩))) hx13_302 Try.underlying25 rfl (n := 2) (by kernel_rfl) rfl _ rfl) ?_
  intro a303 hA303; clear hA297
  have hx1_304 := hx1_254.gN hg257
  have hx1_305 := hx1_304.gB hg267 (by omega)
  have hx1_306 := hx1_305.gN hg278
  refine sx_val (hg := (.inr ⟨13, true, 114, rfl, rfl, by kernel_rfl⟩)) (v := .agg #[.slice A1 rs.length c1, .slice A2 bs.length c2]) hA303 rfl (ev_row (hA303.ev (i := 2) (v := .pointer (some ⟨B1, 0, none⟩))) hx1_306 Try.underlying25 rfl (n := 2) (by kernel_rfl) rfl _ rfl) ?_
  intro a307 hA307; clear hA303
  have ho10_309 := Own.gN ho10_235 hg230
  have ho10_310 := Own.gBT ho10_309 hg245 hx178_247 (by decide)
  have ho10_311 := Own.gN ho10_310 hg257
  have ho10_312 := Own.gBT ho10_311 hg267 hx198_271 (by decide)
  have ho10_313 := Own.gN ho10_312 hg278
  have ho10_314 := Own.gN ho10_240 hg230
  have ho10_315 := Own.gBT ho10_314 hg245 hx178_247 (by decide)
  have ho10_316 := Own.gN ho10_315 hg257
  have ho10_317 := Own.gBT ho10_316 hg267 hx198_271 (by decide)
  have ho10_318 := Own.gN ho10_317 hg278
  have hbel0_319 := Below.gN hbel0_262 hg257 hbel0_262.size
  have hbel0_320 := Below.gB hbel0_319 hg267 hbel0_319.size (by omega)
  have hbel0_321 := Below.gN hbel0_320 hg278 hbel0_320.size
  refine sx_call (f := 13) (args := #[.agg #[.slice Ap10 rs.length cp10, .slice Aj10 bs.length cj10], .agg #[.slice A1 rs.length c1, .slice A2 bs.length c2]]) hA307 rfl (by decide) (.inr ⟨13, true, 114, rfl, rfl, by kernel_rfl⟩) (ev_fn rfl (mp2 (hA307.ev (i := 115) (v := .agg #[.slice Ap10 rs.length cp10, .slice Aj10 bs.length cj10])) (hA307.ev (i := 116) (v := .agg #[.slice A1 rs.length c1, .slice A2 bs.length c2]))) (by kernel_rfl) _ rfl) (SameSlots_any Ap10 cp10 Aj10 cj10 rs bs A1 c1 A2 c2 rs bs _ ⟨(OwnR.gr (e := 3) ⟨rfl, ho10_313⟩), (OwnR.gr (e := 4) ⟨rfl, ho10_318⟩)⟩ ⟨(hs.r.below hbel0_321), (hs.b.below hbel0_321)⟩) ?_
  intro e308 w308 hR308
  obtain ⟨he308, hb308⟩ := hR308
  rw [sme_refl] at he308
  subst he308
  refine ⟨_, rfl, ?_⟩
  intro a308 hA308
  clear hA307
  have hg308 := g0 hb308
  have hs308 := hg308.size
  clear hb308
  refine sx_val hA308 rfl (ev_pickT (hA308.ev (i := 114) (v := .bool true)) (hA308.ev (i := 117) (v := .bool true)) _ rfl) ?_
  intro a322 hA322; clear hA308
  refine sx_val hA322 rfl (ev_move (hA322.ev (i := 118) (v := .bool true)) _ rfl) ?_
  intro a323 hA323; clear hA322
  refine sx_call (f := 9) (args := #[]) hA323 rfl (by decide) (.inr ⟨18, true, 119, rfl, rfl, by kernel_rfl⟩) (ev_fn rfl (mp0 ) (by kernel_rfl) _ rfl) (awake_any _) ?_
  intro e324 w324 hR324
  obtain ⟨rfl, hb324⟩ := hR324
  refine ⟨_, rfl, ?_⟩
  intro a324 hA324
  clear hA323
  have hg324 := g0 hb324
  have hs324 := hg324.size
  clear hb324
  refine sx_val hA324 rfl (ev_pickT (hA324.ev (i := 119) (v := .bool true)) (hA324.ev (i := 120) (v := .bool true)) _ rfl) ?_
  intro a325 hA325; clear hA324
  refine sx_val hA325 rfl (ev_assign (hA325.ev (i := 121) (v := .bool true)) _ rfl) ?_
  intro a326 hA326; clear hA325
  refine sx_nil ?_
  refine then_n ?_
  refine wp_ret ?_
  refine bodyPost_ret (rs_t (v := .bool true) Try.results3 hA326 (by kernel_rfl) ) hA326.2.1 ?_
  have hbel0_327 := Below.gN hbel0_321 hg308 hbel0_321.size
  have hbel0_328 := Below.gN hbel0_327 hg324 hbel0_327.size
  exact ⟨rfl, hbel0_328⟩
end Go.Proofs.Ytpoilgfblhacaaa
