/- The law: DiskOrder. -/
import Derived.Test.YtbkdimildnahaaaDYf
import Derived.Test.YtbkdimildnahaaaDO
import Derived.Test.YtbkdimildnahaaaSA
import Derived.Test.YtbkdimildnahaaaDUs
namespace Go.Proofs.Ytbkdimildnahaaa
open Go.RowKit
set_option linter.unusedVariables false
set_option maxRecDepth 100000

theorem SameDisk_eq (g e : Dk) (h : g = e) (A1 : Option Addr) (c1 : Nat) (A2 : Option Addr) (c2 : Nat) (E1 : Option Addr) (f1 : Nat) (E2 : Option Addr) (f2 : Nat) (w : World) (hd : GD w A1 c1 A2 c2 g.cs g.js) (he : GD w E1 f1 E2 f2 e.cs e.js) (hl : e.cs.length ≤ 900000) (hj : e.js.length ≤ 900000) : Calls Try.prog 14 #[.agg #[.slice A1 g.cs.length c1, .slice A2 g.js.length c2, .int .i64 g.room], .agg #[.slice E1 e.cs.length f1, .slice E2 e.js.length f2, .int .i64 e.room]] w (RetB w (.returned (.bool true))) := by
  subst h
  exact SameDisk_any A1 c1 A2 c2 g.cs g.js g.room E1 f1 E2 f2 w hd he hl hj
theorem ls_set {d : Dk} (h : D86 d) {k : Nat} (hk : k < 8) {ls : List Ct} (hl : ls.length = 8) (hi : ∀ i, i < k → ls[i]? = some (ltc d (i : Int))) : ∀ i, i < k + 1 → (ls.set k (lat d (k : Int)).1)[i]? = some (ltc d (i : Int)) := by
  intro i hik
  by_cases he : i = k
  · subst he
    rw [List.getElem?_set_self (by omega), lat_eq h.ok (inS8 h.n (by omega) (by omega))]
  · rw [List.getElem?_set_ne (fun e => he e.symm)]
    exact hi i (by omega)
set_option maxHeartbeats 16000000 in
theorem DiskOrder_walk (A : Option Addr) (c : Nat) (xs : List Int) (E : Option Addr) (ce : Nat) (ys : List Int) (w : World) (hx : GR 1 iva w A c xs) (hy : GR 1 iva w E ce ys) : Calls Try.prog 8 #[.slice A xs.length c, .slice E ys.length ce] w (RetB w (.returned (.bool true))) := by
  have hxl := hx.len
  have hbel0 := below0 w
  refine sx_enter (N := 172) [(0, .slice A xs.length c), (1, .slice E ys.length ce)] Try.func8 rfl Try.ntmps8 (by simp) (fun a z d s => (((Ag.nil z d).cons (s 1 _ rfl)).cons (s 0 _ rfl))) ?_
  intro a0 hA0
  refine wp_seq ?_
  refine wp_region_lit ?_
  refine sx_val hA0 rfl (ev_assign (ec _ (.bool false)) _ rfl) ?_
  intro a1 hA1; clear hA0
  refine sx_nil ?_
  refine then_n ?_
  refine wp_seq ?_
  refine wp_region_lit ?_
  refine sx_call (f := 5) (args := #[]) hA1 rfl (by decide) (.inl rfl) (ev_fn rfl (mp0 ) (by kernel_rfl) _ rfl) (Known_any _) ?_
  intro e2 w2 hR2
  obtain ⟨rfl, hb2⟩ := hR2
  refine ⟨_, rfl, ?_⟩
  intro a2 hA2
  clear hA1
  have hg2 := g0 hb2
  have hs2 := hg2.size
  clear hb2
  refine sx_val hA2 rfl (ev_assign (hA2.ev (i := 24) (v := .bool true)) _ rfl) ?_
  intro a3 hA3; clear hA2
  refine sx_nil ?_
  refine then_n ?_
  refine wp_seq ?_
  refine wp_region_lit ?_
  refine sx_val hA3 rfl (ev_move (hA3.ev (i := 0) (v := .slice A xs.length c)) _ rfl) ?_
  intro a4 hA4; clear hA3
  have hbel0_6 := Below.gN hbel0 hg2 hbel0.size
  refine sx_call (f := 34) (args := #[.slice A xs.length c]) hA4 rfl (by decide) (.inl rfl) (ev_fn rfl (mp1 (hA4.ev (i := 26) (v := .slice A xs.length c))) (by kernel_rfl) _ rfl) (made_any A c xs _ (hx.below hbel0_6)) ?_
  intro e5 w5 hR5
  obtain ⟨d, Ap5, cp5, Aj5, cj5, rfl, h86, hC5, hJ5, hb5⟩ := hR5
  refine ⟨_, rfl, ?_⟩
  intro a5 hA5
  clear hA4
  have hg5 := g0 hb5
  have hs5 := hg5.size
  clear hb5
  have ho5_0 : Own w5 (w2.heap.size) 28 8 (.slice Ap5 d.cs.length cp5) d.cs.length (flat Ct.va d.cs) := hC5
  have hh5_0 := Own.hi ho5_0
  have ho5_1 : Own w5 (w2.heap.size) 38 11 (.slice Aj5 d.js.length cj5) d.js.length (flat Jb.va d.js) := hJ5
  have hh5_1 := Own.hi ho5_1
  have hn8 := h86.n
  have hr6 := h86.r
  have hj6 := h86.jl
  refine sx_val hA5 rfl (ev_move (hA5.ev (i := 27) (v := .tuple #[.agg #[.slice Ap5 d.cs.length cp5, .slice Aj5 d.js.length cj5, .int .i64 d.room], .bool true])) _ rfl) ?_
  intro a7 hA7; clear hA5
  refine sx_val (v := .agg #[.slice Ap5 d.cs.length cp5, .slice Aj5 d.js.length cj5, .int .i64 d.room]) hA7 rfl (ev_ext (hA7.ev (i := 25) (v := .tuple #[.agg #[.slice Ap5 d.cs.length cp5, .slice Aj5 d.js.length cj5, .int .i64 d.room], .bool true])) rfl _ rfl) ?_
  intro a8 hA8; clear hA7
  refine sx_val (v := .bool true) hA8 rfl (ev_ext (hA8.ev (i := 25) (v := .tuple #[.agg #[.slice Ap5 d.cs.length cp5, .slice Aj5 d.js.length cj5, .int .i64 d.room], .bool true])) rfl _ rfl) ?_
  intro a9 hA9; clear hA8
  refine sx_new (cs := #[.slice none 0 0, .slice none 0 0, .int .i64 0]) (t := 25) hA9 rfl (by decide) (.inl rfl) (ev_alloc (z := .agg (#[.slice none 0 0, .slice none 0 0, .int .i64 0])) (by kernel_rfl) (by kernel_rfl) _ rfl) ?_
  intro B10 w10 a10 hB10 hx10 hg10 hA10
  clear hA9
  have hs10 := hg10.size
  have hl10 := hx10.lt
  refine sx_store hA10 rfl (.inl rfl) rfl (hA10.ev (i := 6) (v := .pointer (some ⟨B10, 0, none⟩))) (hA10.ev (i := 28) (v := .agg #[.slice Ap5 d.cs.length cp5, .slice Aj5 d.js.length cj5, .int .i64 d.room])) hx10 (by kernel_rfl) rfl (dk_one _ _ _ _ _ _ _) ?_
  intro w11 hx11 hg11
  have hs11 := hg11.size
  refine sx_val hA10 rfl (ev_assign (hA10.ev (i := 29) (v := .bool true)) _ rfl) ?_
  intro a12 hA12; clear hA10
  refine sx_nil ?_
  refine then_n ?_
  refine wp_seq ?_
  refine wp_region_lit ?_
  refine sx_val (v := .agg #[.slice Ap5 d.cs.length cp5, .slice Aj5 d.js.length cj5, .int .i64 d.room]) hA12 rfl (ev_row (hA12.ev (i := 6) (v := .pointer (some ⟨B10, 0, none⟩))) hx11 Try.underlying25 rfl (n := 3) (by kernel_rfl) rfl _ rfl) ?_
  intro a13 hA13; clear hA12
  have ho5_15 := Own.gN ho5_0 hg10
  have ho5_16 := Own.gBT ho5_15 hg11 hx10 (by decide)
  have ho5_17 := Own.gN ho5_1 hg10
  have ho5_18 := Own.gBT ho5_17 hg11 hx10 (by decide)
  refine sx_call (f := 19) (args := #[.agg #[.slice Ap5 d.cs.length cp5, .slice Aj5 d.js.length cj5, .int .i64 d.room]]) hA13 rfl (by decide) (.inl rfl) (ev_fn rfl (mp1 (hA13.ev (i := 31) (v := .agg #[.slice Ap5 d.cs.length cp5, .slice Aj5 d.js.length cj5, .int .i64 d.room]))) (by kernel_rfl) _ rfl) (All_any Ap5 cp5 Aj5 cj5 d.cs d.js d.room _ ⟨(OwnR.gr (e := 28) ⟨rfl, ho5_16⟩), (OwnR.gr (e := 38) ⟨rfl, ho5_18⟩)⟩ (by omega) (by omega)) ?_
  intro e14 w14 hR14
  obtain ⟨Ap14, cp14, Aj14, cj14, Al14, cl14, rfl, hC14, hJ14, hK14, hb14⟩ := hR14
  refine ⟨_, rfl, ?_⟩
  intro a14 hA14
  clear hA13
  have hg14 := g0 hb14
  have hs14 := hg14.size
  clear hb14
  have ho14_0 : Own w14 (w11.heap.size) 28 8 (.slice Ap14 (all d).1.cs.length cp14) (all d).1.cs.length (flat Ct.va (all d).1.cs) := hC14.2
  have hh14_0 := Own.hi ho14_0
  have ho14_1 : Own w14 (w11.heap.size) 38 11 (.slice Aj14 (all d).1.js.length cj14) (all d).1.js.length (flat Jb.va (all d).1.js) := hJ14.2
  have hh14_1 := Own.hi ho14_1
  have ho14_2 : Own w14 (w11.heap.size) 38 11 (.slice Al14 (all d).2.1.length cl14) (all d).2.1.length (flat Jb.va (all d).2.1) := hK14.2
  have hh14_2 := Own.hi ho14_2
  obtain ⟨b1, b2, b3, b4, b5, b6, b7⟩ := all86 h86
  refine sx_val hA14 rfl (ev_move (hA14.ev (i := 32) (v := .tuple #[.agg #[.slice Ap14 (all d).1.cs.length cp14, .slice Aj14 (all d).1.js.length cj14, .int .i64 (all d).1.room], .slice Al14 (all d).2.1.length cl14, .int .i64 (all d).2.2])) _ rfl) ?_
  intro a19 hA19; clear hA14
  refine sx_val (v := .agg #[.slice Ap14 (all d).1.cs.length cp14, .slice Aj14 (all d).1.js.length cj14, .int .i64 (all d).1.room]) hA19 rfl (ev_ext (hA19.ev (i := 30) (v := .tuple #[.agg #[.slice Ap14 (all d).1.cs.length cp14, .slice Aj14 (all d).1.js.length cj14, .int .i64 (all d).1.room], .slice Al14 (all d).2.1.length cl14, .int .i64 (all d).2.2])) rfl _ rfl) ?_
  intro a20 hA20; clear hA19
  refine sx_val (v := .slice Al14 (all d).2.1.length cl14) hA20 rfl (ev_ext (hA20.ev (i := 30) (v := .tuple #[.agg #[.slice Ap14 (all d).1.cs.length cp14, .slice Aj14 (all d).1.js.length cj14, .int .i64 (all d).1.room], .slice Al14 (all d).2.1.length cl14, .int .i64 (all d).2.2])) rfl _ rfl) ?_
  intro a21 hA21; clear hA20
  refine sx_val (v := .int .i64 (all d).2.2) hA21 rfl (ev_ext (hA21.ev (i := 30) (v := .tuple #[.agg #[.slice Ap14 (all d).1.cs.length cp14, .slice Aj14 (all d).1.js.length cj14, .int .i64 (all d).1.room], .slice Al14 (all d).2.1.length cl14, .int .i64 (all d).2.2])) rfl _ rfl) ?_
  intro a22 hA22; clear hA21
  refine sx_new (cs := #[.slice none 0 0, .slice none 0 0, .int .i64 0]) (t := 25) hA22 rfl (by decide) (.inl rfl) (ev_alloc (z := .agg (#[.slice none 0 0, .slice none 0 0, .int .i64 0])) (by kernel_rfl) (by kernel_rfl) _ rfl) ?_
  intro B23 w23 a23 hB23 hx23 hg23 hA23
  clear hA22
  have hs23 := hg23.size
  have hl23 := hx23.lt
  refine sx_store hA23 rfl (.inl rfl) rfl (hA23.ev (i := 8) (v := .pointer (some ⟨B23, 0, none⟩))) (hA23.ev (i := 33) (v := .agg #[.slice Ap14 (all d).1.cs.length cp14, .slice Aj14 (all d).1.js.length cj14, .int .i64 (all d).1.room])) hx23 (by kernel_rfl) rfl (dk_one _ _ _ _ _ _ _) ?_
  intro w24 hx24 hg24
  have hs24 := hg24.size
  refine sx_val hA23 rfl (ev_assign (hA23.ev (i := 34) (v := .slice Al14 (all d).2.1.length cl14)) _ rfl) ?_
  intro a25 hA25; clear hA23
  refine sx_val hA25 rfl (ev_assign (hA25.ev (i := 35) (v := .int .i64 (all d).2.2)) _ rfl) ?_
  intro a26 hA26; clear hA25
  refine sx_nil ?_
  refine then_n ?_
  refine wp_seq ?_
  refine wp_seq ?_
  refine wp_region_lit ?_
  refine sx_val hA26 rfl (ev_move (hA26.ev (i := 7) (v := .bool true)) _ rfl) ?_
  intro a27 hA27; clear hA26
  refine sx_val (v := .bool false) hA27 rfl (ev_notT (hA27.ev (i := 36) (v := .bool true)) _ rfl) ?_
  intro a28 hA28; clear hA27
  refine sx_val hA28 rfl (ev_move (hA28.ev (i := 37) (v := .bool false)) _ rfl) ?_
  intro a29 hA29; clear hA28
  refine sx_val (hg := (.inr ⟨2, false, 38, rfl, rfl, by kernel_rfl⟩)) hA29 rfl (ev_move (hA29.ev (i := 10) (v := .int .i64 (all d).2.2)) _ rfl) ?_
  intro a30 hA30; clear hA29
  refine sx_val (hg := (.inr ⟨2, false, 38, rfl, rfl, by kernel_rfl⟩)) (v := .bool false) hA30 rfl (ev_neqB (k := .i64) (m := (all d).2.2) (n := 0) (hA30.ev (i := 39)) (ec _ (.int .i64 0)) (by simpa using (by rw [b1] <;> rfl)) _ rfl) ?_
  intro a31 hA31; clear hA30
  refine sx_val hA31 rfl (ev_pickF (hA31.ev (i := 38) (v := .bool false)) (hA31.ev (i := 40) (v := .bool false)) _ rfl) ?_
  intro a32 hA32; clear hA31
  refine sx_val hA32 rfl (ev_move (hA32.ev (i := 41) (v := .bool false)) _ rfl) ?_
  intro a33 hA33; clear hA32
  refine sx_val (hg := (.inr ⟨6, false, 42, rfl, rfl, by kernel_rfl⟩)) (v := .pointer (some ⟨B23, 0, none⟩)) hA33 rfl (fb_Disk_0 (hA33.ev (i := 8) (v := .pointer (some ⟨B23, 0, none⟩))) _ rfl) ?_
  intro a34 hA34; clear hA33
  refine sx_val (hg := (.inr ⟨6, false, 42, rfl, rfl, by kernel_rfl⟩)) (v := .slice Ap14 (all d).1.cs.length cp14) hA34 rfl (ev_cell (v := .slice Ap14 (all d).1.cs.length cp14) (hA34.ev (i := 43) (v := .pointer (some ⟨B23, 0, none⟩))) ((hx24.cell 0).trans rfl) Try.underlying22 rfl _ rfl) ?_
  intro a35 hA35; clear hA34
  refine sx_val (hg := (.inr ⟨6, false, 42, rfl, rfl, by kernel_rfl⟩)) (v := .int .i64 ((all d).1.cs.length : Int)) hA35 rfl (ev_len (hA35.ev (i := 44) (v := .slice Ap14 (all d).1.cs.length cp14)) Try.underlying22 _ rfl) ?_
  intro a36 hA36; clear hA35
  refine sx_val (hg := (.inr ⟨6, false, 42, rfl, rfl, by kernel_rfl⟩)) (v := .bool false) hA36 rfl (ev_neqB (k := .i64) (m := ((all d).1.cs.length : Int)) (n := 8) (hA36.ev (i := 45)) (ec _ (.int .i64 8)) (by simpa using (by rw [b3] <;> rfl)) _ rfl) ?_
  intro a37 hA37; clear hA36
  refine sx_val hA37 rfl (ev_pickF (hA37.ev (i := 42) (v := .bool false)) (hA37.ev (i := 46) (v := .bool false)) _ rfl) ?_
  intro a38 hA38; clear hA37
  refine sx_val hA38 rfl (ev_move (hA38.ev (i := 47) (v := .bool false)) _ rfl) ?_
  intro a39 hA39; clear hA38
  refine sx_val (hg := (.inr ⟨12, false, 48, rfl, rfl, by kernel_rfl⟩)) (v := .pointer (some ⟨B23, 1, none⟩)) hA39 rfl (fb_Disk_1 (hA39.ev (i := 8) (v := .pointer (some ⟨B23, 0, none⟩))) _ rfl) ?_
  intro a40 hA40; clear hA39
  refine sx_val (hg := (.inr ⟨12, false, 48, rfl, rfl, by kernel_rfl⟩)) (v := .slice Aj14 (all d).1.js.length cj14) hA40 rfl (ev_cell (v := .slice Aj14 (all d).1.js.length cj14) (hA40.ev (i := 49) (v := .pointer (some ⟨B23, 1, none⟩))) ((hx24.cell 1).trans rfl) Try.underlying23 rfl _ rfl) ?_
  intro a41 hA41; clear hA40
  refine sx_val (hg := (.inr ⟨12, false, 48, rfl, rfl, by kernel_rfl⟩)) (v := .int .i64 ((all d).1.js.length : Int)) hA41 rfl (ev_len (hA41.ev (i := 50) (v := .slice Aj14 (all d).1.js.length cj14)) Try.underlying23 _ rfl) ?_
  intro a42 hA42; clear hA41
  refine sx_val (hg := (.inr ⟨12, false, 48, rfl, rfl, by kernel_rfl⟩)) (v := .bool false) hA42 rfl (ev_neqB (k := .i64) (m := ((all d).1.js.length : Int)) (n := 0) (hA42.ev (i := 51)) (ec _ (.int .i64 0)) (by simpa using (by rw [b2] <;> rfl)) _ rfl) ?_
  intro a43 hA43; clear hA42
  refine sx_val hA43 rfl (ev_pickF (hA43.ev (i := 48) (v := .bool false)) (hA43.ev (i := 52) (v := .bool false)) _ rfl) ?_
  intro a44 hA44; clear hA43
  refine sx_val hA44 rfl (ev_move (hA44.ev (i := 53) (v := .bool false)) _ rfl) ?_
  intro a45 hA45; clear hA44
  refine sx_val (hg := (.inr ⟨18, false, 54, rfl, rfl, by kernel_rfl⟩)) hA45 rfl (ev_move (hA45.ev (i := 9) (v := .slice Al14 (all d).2.1.length cl14)) _ rfl) ?_
  intro a46 hA46; clear hA45
  refine sx_val (hg := (.inr ⟨18, false, 54, rfl, rfl, by kernel_rfl⟩)) (v := .int .i64 ((all d).2.1.length : Int)) hA46 rfl (ev_len (hA46.ev (i := 55) (v := .slice Al14 (all d).2.1.length cl14)) Try.underlying23 _ rfl) ?_
  intro a47 hA47; clear hA46
  refine sx_val (hg := (.inr ⟨18, false, 54, rfl, rfl, by kernel_rfl⟩)) (v := .pointer (some ⟨B10, 1, none⟩)) hA47 rfl (fb_Disk_1 (hA47.ev (i := 6) (v := .pointer (some ⟨B10, 0, none⟩))) _ rfl) ?_
  intro a48 hA48; clear hA47
  have hx11_49 := hx11.gN hg14
  have hx11_50 := hx11_49.gN hg23
  have hx11_51 := hx11_50.gB hg24 (by omega)
  refine sx_val (hg := (.inr ⟨18, false, 54, rfl, rfl, by kernel_rfl⟩)) (v := .slice Aj5 d.js.length cj5) hA48 rfl (ev_cell (v := .slice Aj5 d.js.length cj5) (hA48.ev (i := 57) (v := .pointer (some ⟨B10, 1, none⟩))) ((hx11_51.cell 1).trans rfl) Try.underlying23 rfl _ rfl) ?_
  intro a52 hA52; clear hA48
  refine sx_val (hg := (.inr ⟨18, false, 54, rfl, rfl, by kernel_rfl⟩)) (v := .int .i64 (d.js.length : Int)) hA52 rfl (ev_len (hA52.ev (i := 58) (v := .slice Aj5 d.js.length cj5)) Try.underlying23 _ rfl) ?_
  intro a53 hA53; clear hA52
  refine sx_val (hg := (.inr ⟨18, false, 54, rfl, rfl, by kernel_rfl⟩)) (v := .bool false) hA53 rfl (ev_neqB (k := .i64) (m := ((all d).2.1.length : Int)) (n := (d.js.length : Int)) (hA53.ev (i := 56)) (hA53.ev (i := 59)) (by simpa using (by rw [b5, rsl_len])) _ rfl) ?_
  intro a54 hA54; clear hA53
  refine sx_val hA54 rfl (ev_pickF (hA54.ev (i := 54) (v := .bool false)) (hA54.ev (i := 60) (v := .bool false)) _ rfl) ?_
  intro a55 hA55; clear hA54
  refine sx_nil ?_
  refine then_n ?_
  refine wp_cond_false (hA55.ev (i := 61) (v := .bool false)) ?_
  refine wp_skip ?_
  refine then_n ?_
  refine wp_seq ?_
  refine wp_region_lit ?_
  refine sx_new (cs := (flat Ct.va (List.replicate 8 Ct.zero)).toArray) (t := 61) hA55 rfl (by decide) (.inl rfl) (ev_alloc (z := .agg (flat Ct.va (List.replicate 8 Ct.zero)).toArray) (by kernel_rfl) (by kernel_rfl) _ rfl) ?_
  intro B56 w56 a56 hB56 hx56 hg56 hA56
  clear hA55
  have hs56 := hg56.size
  have hl56 := hx56.lt
  refine sx_nil ?_
  refine then_n ?_
  refine wp_seq ?_
  refine wp_seq ?_
  refine wp_region_lit ?_
  refine sx_val hA56 rfl (ev_assign (ec _ (.int .i64 0)) _ rfl) ?_
  intro a57 hA57; clear hA56
  refine sx_nil ?_
  refine then_n ?_
  refine wp_block ?_
  have hx11_59 := hx11_51.gN hg56
  have hx24_60 := hx24.gN hg56
  have ho5_61 := Own.gN ho5_16 hg14
  have ho5_62 := Own.gN ho5_61 hg23
  have ho5_63 := Own.gBT ho5_62 hg24 hx23 (by decide)
  have ho5_64 := Own.gN ho5_63 hg56
  have ho5_65 := Own.gN ho5_18 hg14
  have ho5_66 := Own.gN ho5_65 hg23
  have ho5_67 := Own.gBT ho5_66 hg24 hx23 (by decide)
  have ho5_68 := Own.gN ho5_67 hg56
  have ho14_69 := Own.gN ho14_0 hg23
  have ho14_70 := Own.gBT ho14_69 hg24 hx23 (by decide)
  have ho14_71 := Own.gN ho14_70 hg56
  have ho14_72 := Own.gN ho14_1 hg23
  have ho14_73 := Own.gBT ho14_72 hg24 hx23 (by decide)
  have ho14_74 := Own.gN ho14_73 hg56
  have ho14_75 := Own.gN ho14_2 hg23
  have ho14_76 := Own.gBT ho14_75 hg24 hx23 (by decide)
  have ho14_77 := Own.gN ho14_76 hg56
  have hbel0_78 := Below.gN hbel0_6 hg5 hbel0_6.size
  have hbel0_79 := Below.gN hbel0_78 hg10 hbel0_78.size
  have hbel0_80 := Below.gB hbel0_79 hg11 hbel0_79.size (by omega)
  have hbel0_81 := Below.gN hbel0_80 hg14 hbel0_80.size
  have hbel0_82 := Below.gN hbel0_81 hg23 hbel0_81.size
  have hbel0_83 := Below.gB hbel0_82 hg24 hbel0_82.size (by omega)
  have hbel0_84 := Below.gN hbel0_83 hg56 hbel0_83.size
  refine wp_loop_ghost (fun n a wl => ∃ (k : Nat) (ls : List Ct), n = 8 - k ∧ Ag a 172 [(1, .slice E ys.length ce), (5, .bool true), (6, .pointer (some ⟨B10, 0, none⟩)), (8, .pointer (some ⟨B23, 0, none⟩)), (9, .slice Al14 (all d).2.1.length cl14), (11, .pointer (some ⟨B56, 0, none⟩)), (12, .int .i64 (k : Int))] ∧ k ≤ 8 ∧ ls.length = 8 ∧ (∀ i, i < k → ls[i]? = some (ltc d (i : Int))) ∧ Bx wl B10 25 #[.slice Ap5 d.cs.length cp5, .slice Aj5 d.js.length cj5, .int .i64 d.room] ∧ Bx wl B23 25 #[.slice Ap14 (all d).1.cs.length cp14, .slice Aj14 (all d).1.js.length cj14, .int .i64 (all d).1.room] ∧ Bx wl B56 61 (flat Ct.va ls).toArray ∧ Own wl (w2.heap.size) 28 8 (.slice Ap5 d.cs.length cp5) d.cs.length (flat Ct.va d.cs) ∧ Own wl (w2.heap.size) 38 11 (.slice Aj5 d.js.length cj5) d.js.length (flat Jb.va d.js) ∧ Own wl (w11.heap.size) 28 8 (.slice Ap14 (all d).1.cs.length cp14) (all d).1.cs.length (flat Ct.va (all d).1.cs) ∧ Own wl (w11.heap.size) 38 11 (.slice Aj14 (all d).1.js.length cj14) (all d).1.js.length (flat Jb.va (all d).1.js) ∧ Own wl (w11.heap.size) 38 11 (.slice Al14 (all d).2.1.length cl14) (all d).2.1.length (flat Jb.va (all d).2.1) ∧ w56.heap.size ≤ wl.heap.size ∧ Below w.heap.size w wl) (8 - 0) ⟨0, (List.replicate 8 Ct.zero), rfl, ((((((((Ag.nil hA57.1 hA57.2.1).cons (hA57.get (i := 12) (v := .int .i64 0))).cons (hA57.get (i := 11) (v := .pointer (some ⟨B56, 0, none⟩)))).cons (hA57.get (i := 9) (v := .slice Al14 (all d).2.1.length cl14))).cons (hA57.get (i := 8) (v := .pointer (some ⟨B23, 0, none⟩)))).cons (hA57.get (i := 6) (v := .pointer (some ⟨B10, 0, none⟩)))).cons (hA57.get (i := 5) (v := .bool true))).cons (hA57.get (i := 1) (v := .slice E ys.length ce))), Nat.zero_le _, rfl, fun i hi => by omega, hx11_59, hx24_60, hx56, ho5_64, ho5_68, ho14_71, ho14_74, ho14_77, Nat.le_refl _, hbel0_84⟩ ?_
  intro n58 a58 w58 hI58
  obtain ⟨k, ls, hn58, hA58, q58_0, q58_1, q58_2, f58_0, f58_1, f58_2, f58_3, f58_4, f58_5, f58_6, f58_7, hsz58, hbel58⟩ := hI58
  subst hn58
  clear hA57
  have hlB10_58 := f58_0.lt
  have hlB23_58 := f58_1.lt
  have hlB56_58 := f58_2.lt
  cases hd85 : decide ((k : Int) < 8)
  rotate_left
  · have hp85 := of_decide_eq_true hd85
    obtain ⟨u1, u2⟩ := all_at h86 (k := k) (by omega)
    obtain ⟨ad247, hAd247⟩ := GR.adr (OwnR.gr (e := 28) ⟨rfl, f58_5⟩) ct_sz u2
    refine wp_seq ?_
    refine wp_seq ?_
    refine wp_region_lit ?_
    refine sx_val hA58 rfl (ev_move (hA58.ev (i := 12) (v := .int .i64 (k : Int))) _ rfl) ?_
    intro a248 hA248; clear hA58
    refine sx_val (v := .bool true) hA248 rfl (ev_lssB (k := .i64) (m := (k : Int)) (n := 8) (hA248.ev (i := 62)) (ec _ (.int .i64 8)) hd85 _ rfl) ?_
    intro a249 hA249; clear hA248
    refine sx_nil ?_
    refine then_n ?_
    refine wp_cond_true (hA249.ev (i := 63) (v := .bool true)) ?_
    refine wp_skip ?_
    refine then_n ?_
    refine wp_seq ?_
    refine wp_block ?_
    refine wp_seq ?_
    refine wp_region_lit ?_
    refine sx_val (v := .agg #[.slice Ap5 d.cs.length cp5, .slice Aj5 d.js.length cj5, .int .i64 d.room]) hA249 rfl (ev_row (hA249.ev (i := 6) (v := .pointer (some ⟨B10, 0, none⟩))) f58_0 Try.underlying25 rfl (n := 3) (by kernel_rfl) rfl _ rfl) ?_
    intro a250 hA250; clear hA249
    refine sx_val hA250 rfl (ev_move (hA250.ev (i := 12) (v := .int .i64 (k : Int))) _ rfl) ?_
    intro a251 hA251; clear hA250
    refine sx_call (f := 30) (args := #[.agg #[.slice Ap5 d.cs.length cp5, .slice Aj5 d.js.length cj5, .int .i64 d.room], .int .i64 (k : Int)]) hA251 rfl (by decide) (.inl rfl) (ev_fn rfl (mp2 (hA251.ev (i := 67) (v := .agg #[.slice Ap5 d.cs.length cp5, .slice Aj5 d.js.length cj5, .int .i64 d.room])) (hA251.ev (i := 68) (v := .int .i64 (k : Int)))) (by kernel_rfl) _ rfl) (Later_any Ap5 cp5 Aj5 cj5 d.cs d.js d.room (k : Int) _ ⟨(OwnR.gr (e := 28) ⟨rfl, f58_3⟩), (OwnR.gr (e := 38) ⟨rfl, f58_4⟩)⟩ (by omega) (by omega)) ?_
    intro e252 w252 hR252
    obtain ⟨rfl, hb252⟩ := hR252
    refine ⟨_, rfl, ?_⟩
    intro a252 hA252
    clear hA251
    have hg252 := g0 hb252
    have hs252 := hg252.size
    clear hb252
    refine sx_val hA252 rfl (ev_move (hA252.ev (i := 69) (v := .tuple #[.agg (lat d (k : Int)).1.va, .int .i64 (lat d (k : Int)).2])) _ rfl) ?_
    intro a253 hA253; clear hA252
    refine sx_val (v := .agg (lat d (k : Int)).1.va) hA253 rfl (ev_ext (hA253.ev (i := 66) (v := .tuple #[.agg (lat d (k : Int)).1.va, .int .i64 (lat d (k : Int)).2])) rfl _ rfl) ?_
    intro a254 hA254; clear hA253
    refine sx_val (v := .int .i64 (lat d (k : Int)).2) hA254 rfl (ev_ext (hA254.ev (i := 66) (v := .tuple #[.agg (lat d (k : Int)).1.va, .int .i64 (lat d (k : Int)).2])) rfl _ rfl) ?_
    intro a255 hA255; clear hA254
    refine sx_new (cs := Ct.zero.va) (t := 28) hA255 rfl (by decide) (.inl rfl) (ev_alloc (z := .agg Ct.zero.va) (by kernel_rfl) (by kernel_rfl) _ rfl) ?_
    intro B256 w256 a256 hB256 hx256 hg256 hA256
    clear hA255
    have hs256 := hg256.size
    have hl256 := hx256.lt
    refine sx_store hA256 rfl (.inl rfl) rfl (hA256.ev (i := 13) (v := .pointer (some ⟨B256, 0, none⟩))) (hA256.ev (i := 70) (v := .agg (lat d (k : Int)).1.va)) hx256 (by kernel_rfl) rfl (ct_one _) ?_
    intro w257 hx257 hg257
    have hs257 := hg257.size
    refine sx_val hA256 rfl (ev_assign (hA256.ev (i := 71) (v := .int .i64 (lat d (k : Int)).2)) _ rfl) ?_
    intro a258 hA258; clear hA256
    refine sx_nil ?_
    refine then_n ?_
    refine wp_seq ?_
    refine wp_seq ?_
    have f58_259 := f58_0.gN hg252
    have f58_260 := f58_259.gN hg256
    have f58_261 := f58_260.gB hg257 (by omega)
    have f58_262 := f58_1.gN hg252
    have f58_263 := f58_262.gN hg256
    have f58_264 := f58_263.gB hg257 (by omega)
    have f58_265 := f58_2.gN hg252
    have f58_266 := f58_265.gN hg256
    have f58_267 := f58_266.gB hg257 (by omega)
    have f58_268 := Own.gN f58_3 hg252
    have f58_269 := Own.gN f58_268 hg256
    have f58_270 := Own.gB f58_269 hg257 hh5_0 (by omega)
    have f58_271 := Own.gN f58_4 hg252
    have f58_272 := Own.gN f58_271 hg256
    have f58_273 := Own.gBT f58_272 hg257 hx256 (by decide)
    have f58_274 := Own.gN f58_5 hg252
    have f58_275 := Own.gN f58_274 hg256
    have f58_276 := Own.gB f58_275 hg257 hh14_0 (by omega)
    have f58_277 := Own.gN f58_6 hg252
    have f58_278 := Own.gN f58_277 hg256
    have f58_279 := Own.gBT f58_278 hg257 hx256 (by decide)
    have f58_280 := Own.gN f58_7 hg252
    have f58_281 := Own.gN f58_280 hg256
    have f58_282 := Own.gBT f58_281 hg257 hx256 (by decide)
    have hbel58_283 := Below.gN hbel58 hg252 hbel58.size
    have hbel58_284 := Below.gN hbel58_283 hg256 hbel58_283.size
    have hbel58_285 := Below.gB hbel58_284 hg257 hbel58_284.size (by omega)
    refine region_D (n := 11) (by kernel_rfl) (by kernel_rfl) rfl (fun L ac wc => Below w.heap.size w wc ∧ w257.heap.size ≤ wc.heap.size ∧ Bx wc B10 25 (#[.slice Ap5 d.cs.length cp5, .slice Aj5 d.js.length cj5, .int .i64 d.room]) ∧ Bx wc B23 25 (#[.slice Ap14 (all d).1.cs.length cp14, .slice Aj14 (all d).1.js.length cj14, .int .i64 (all d).1.room]) ∧ Bx wc B56 61 (flat Ct.va ls).toArray ∧ Bx wc B256 28 (lat d (k : Int)).1.va ∧ Own wc (w2.heap.size) 28 8 (.slice Ap5 d.cs.length cp5) d.cs.length (flat Ct.va d.cs) ∧ Own wc (w2.heap.size) 38 11 (.slice Aj5 d.js.length cj5) d.js.length (flat Jb.va d.js) ∧ Own wc (w11.heap.size) 28 8 (.slice Ap14 (all d).1.cs.length cp14) (all d).1.cs.length (flat Ct.va (all d).1.cs) ∧ Own wc (w11.heap.size) 38 11 (.slice Aj14 (all d).1.js.length cj14) (all d).1.js.length (flat Jb.va (all d).1.js) ∧ Own wc (w11.heap.size) 38 11 (.slice Al14 (all d).2.1.length cl14) (all d).2.1.length (flat Jb.va (all d).2.1) ∧ (L 0 = true → Sv ac 72 (.int .i64 (lat d (k : Int)).2)) ∧ (L 1 = true → Sv ac 73 (.bool false)) ∧ (L 2 = true → Sv ac 74 (.bool false)) ∧ (L 3 = true → Sv ac 75 (.pointer (some ⟨B23, 0, none⟩))) ∧ (L 4 = true → Sv ac 76 (.slice Ap14 (all d).1.cs.length cp14)) ∧ (L 5 = true → Sv ac 77 (.int .i64 (k : Int))) ∧ (L 6 = true → Sv ac 78 (.pointer (some (ad247.add (k * 8))))) ∧ (L 7 = true → Sv ac 79 (.agg (lat d (k : Int)).1.va)) ∧ (L 8 = true → Sv ac 80 (.agg (lat d (k : Int)).1.va)) ∧ (L 9 = true → Sv ac 81 (.bool false)) ∧ (L 10 = true → Sv ac 82 (.bool false))) ⟨(Below.gN hbel58_285 (gdr _) hbel58_285.size), (Nat.le_refl _), (f58_261.gN (gdr _)), (f58_264.gN (gdr _)), (f58_267.gN (gdr _)), (hx257.gN (gdr _)), (Own.gN f58_270 (gdr _)), (Own.gN f58_273 (gdr _)), (Own.gN f58_276 (gdr _)), (Own.gN f58_279 (gdr _)), (Own.gN f58_282 (gdr _)), (fun h => by cases h), (fun h => by cases h), (fun h => by cases h), (fun h => by cases h), (fun h => by cases h), (fun h => by cases h), (fun h => by cases h), (fun h => by cases h), (fun h => by cases h), (fun h => by cases h), (fun h => by cases h)⟩ ?_ ?_
    · intro iq hiq o ho L hL hdep ac wc hF hJ
      obtain ⟨bl, sz, b_B10, b_B23, b_B56, b_B256, p_0, p_1, p_2, p_3, p_4, s_72, s_73, s_74, s_75, s_76, s_77, s_78, s_79, s_80, s_81, s_82⟩ := hJ
      have zq := hF.1.trans hA258.1
      match iq, hiq with
      | 0, _ =>
        obtain rfl := Option.some.inj (show some _ = some o from ho); clear ho
        have v14 := hF.sv (s := 14) (by kernel_rfl) (hA258.get (i := 14) (v := .int .i64 (lat d (k : Int)).2))
        refine dj_val (i := 0) (v := .int .i64 (lat d (k : Int)).2) rfl (.inl rfl) (ev_move v14.eval _ rfl) ?_
        exact ⟨⟨_, rfl⟩, bl, sz, b_B10, b_B23, b_B56, b_B256, p_0, p_1, p_2, p_3, p_4, (fun _ => Sv.self (by rw [zq]; decide) _), (so s_73), (so s_74), (so s_75), (so s_76), (so s_77), (so s_78), (so s_79), (so s_80), (so s_81), (so s_82)⟩
      | 1, _ =>
        obtain rfl := Option.some.inj (show some _ = some o from ho); clear ho
        have v72 := s_72 (dp hdep 0)
        refine dj_val (i := 1) (v := .bool false) rfl (.inl rfl) (ev_neqB (k := .i64) (m := (lat d (k : Int)).2) (n := 0) v72.eval (ec ac (.int .i64 0)) (by simpa using (by rw [u1] <;> rfl)) _ rfl) ?_
        exact ⟨⟨_, rfl⟩, bl, sz, b_B10, b_B23, b_B56, b_B256, p_0, p_1, p_2, p_3, p_4, (so s_72), (fun _ => Sv.self (by rw [zq]; decide) _), (so s_74), (so s_75), (so s_76), (so s_77), (so s_78), (so s_79), (so s_80), (so s_81), (so s_82)⟩
      | 2, _ =>
        obtain rfl := Option.some.inj (show some _ = some o from ho); clear ho
        have v73 := s_73 (dp hdep 1)
        refine dj_val (i := 2) (v := .bool false) rfl (.inl rfl) (ev_move v73.eval _ rfl) ?_
        exact ⟨⟨_, rfl⟩, bl, sz, b_B10, b_B23, b_B56, b_B256, p_0, p_1, p_2, p_3, p_4, (so s_72), (so s_73), (fun _ => Sv.self (by rw [zq]; decide) _), (so s_75), (so s_76), (so s_77), (so s_78), (so s_79), (so s_80), (so s_81), (so s_82)⟩
      | 3, _ =>
        obtain rfl := Option.some.inj (show some _ = some o from ho); clear ho
        have v74 := s_74 (dp hdep 2)
        have v8 := hF.sv (s := 8) (by kernel_rfl) (hA258.get (i := 8) (v := .pointer (some ⟨B23, 0, none⟩)))
        refine dj_val (i := 3) (v := .pointer (some ⟨B23, 0, none⟩)) rfl (.inr ⟨2, false, 74, rfl, by kernel_rfl, v74⟩) (fb_Disk_0 v8.eval _ rfl) ?_
        exact ⟨⟨_, rfl⟩, bl, sz, b_B10, b_B23, b_B56, b_B256, p_0, p_1, p_2, p_3, p_4, (so s_72), (so s_73), (so s_74), (fun _ => Sv.self (by rw [zq]; decide) _), (so s_76), (so s_77), (so s_78), (so s_79), (so s_80), (so s_81), (so s_82)⟩
      | 4, _ =>
        obtain rfl := Option.some.inj (show some _ = some o from ho); clear ho
        have v74 := s_74 (dp hdep 2)
        have v75 := s_75 (dp hdep 3)
        refine dj_val (i := 4) (v := .slice Ap14 (all d).1.cs.length cp14) rfl (.inr ⟨2, false, 74, rfl, by kernel_rfl, v74⟩) (ev_cell (v := .slice Ap14 (all d).1.cs.length cp14) v75.eval ((b_B23.cell 0).trans rfl) Try.underlying22 rfl _ rfl) ?_
        exact ⟨⟨_, rfl⟩, bl, sz, b_B10, b_B23, b_B56, b_B256, p_0, p_1, p_2, p_3, p_4, (so s_72), (so s_73), (so s_74), (so s_75), (fun _ => Sv.self (by rw [zq]; decide) _), (so s_77), (so s_78), (so s_79), (so s_80), (so s_81), (so s_82)⟩
      | 5, _ =>
        obtain rfl := Option.some.inj (show some _ = some o from ho); clear ho
        have v74 := s_74 (dp hdep 2)
        have v12 := hF.sv (s := 12) (by kernel_rfl) (hA258.get (i := 12) (v := .int .i64 (k : Int)))
        refine dj_val (i := 5) (v := .int .i64 (k : Int)) rfl (.inr ⟨2, false, 74, rfl, by kernel_rfl, v74⟩) (ev_move v12.eval _ rfl) ?_
        exact ⟨⟨_, rfl⟩, bl, sz, b_B10, b_B23, b_B56, b_B256, p_0, p_1, p_2, p_3, p_4, (so s_72), (so s_73), (so s_74), (so s_75), (so s_76), (fun _ => Sv.self (by rw [zq]; decide) _), (so s_78), (so s_79), (so s_80), (so s_81), (so s_82)⟩
      | 6, _ =>
        obtain rfl := Option.some.inj (show some _ = some o from ho); clear ho
        have v74 := s_74 (dp hdep 2)
        have v76 := s_76 (dp hdep 4)
        have v77 := s_77 (dp hdep 5)
        refine dj_val (i := 6) (v := .pointer (some (ad247.add (k * 8)))) rfl (.inr ⟨2, false, 74, rfl, by kernel_rfl, v74⟩) (ev_idx (k := k) v76.eval hAd247 v77.eval rfl (by omega) Try.underlying22 (by kernel_rfl) _ rfl) ?_
        exact ⟨⟨_, rfl⟩, bl, sz, b_B10, b_B23, b_B56, b_B256, p_0, p_1, p_2, p_3, p_4, (so s_72), (so s_73), (so s_74), (so s_75), (so s_76), (so s_77), (fun _ => Sv.self (by rw [zq]; decide) _), (so s_79), (so s_80), (so s_81), (so s_82)⟩
      | 7, _ =>
        obtain rfl := Option.some.inj (show some _ = some o from ho); clear ho
        have v74 := s_74 (dp hdep 2)
        have v78 := s_78 (dp hdep 6)
        refine dj_val (i := 7) (v := .agg (lat d (k : Int)).1.va) rfl (.inr ⟨2, false, 74, rfl, by kernel_rfl, v74⟩) (ev_loadR (cs := (lat d (k : Int)).1.va) (n := 8) v78.eval (GR.cel (OwnR.gr (e := 28) ⟨rfl, p_2⟩) hAd247 ct_sz u2) Try.underlying28 rfl (by kernel_rfl) rfl _ rfl) ?_
        exact ⟨⟨_, rfl⟩, bl, sz, b_B10, b_B23, b_B56, b_B256, p_0, p_1, p_2, p_3, p_4, (so s_72), (so s_73), (so s_74), (so s_75), (so s_76), (so s_77), (so s_78), (fun _ => Sv.self (by rw [zq]; decide) _), (so s_80), (so s_81), (so s_82)⟩
      | 8, _ =>
        obtain rfl := Option.some.inj (show some _ = some o from ho); clear ho
        have v74 := s_74 (dp hdep 2)
        have v13 := hF.sv (s := 13) (by kernel_rfl) (hA258.get (i := 13) (v := .pointer (some ⟨B256, 0, none⟩)))
        refine dj_val (i := 8) (v := .agg (lat d (k : Int)).1.va) rfl (.inr ⟨2, false, 74, rfl, by kernel_rfl, v74⟩) (ev_row v13.eval b_B256 Try.underlying28 rfl (n := 8) (by kernel_rfl) rfl _ rfl) ?_
        exact ⟨⟨_, rfl⟩, bl, sz, b_B10, b_B23, b_B56, b_B256, p_0, p_1, p_2, p_3, p_4, (so s_72), (so s_73), (so s_74), (so s_75), (so s_76), (so s_77), (so s_78), (so s_79), (fun _ => Sv.self (by rw [zq]; decide) _), (so s_81), (so s_82)⟩
      | 9, _ =>
        obtain rfl := Option.some.inj (show some _ = some o from ho); clear ho
        have v74 := s_74 (dp hdep 2)
        have v79 := s_79 (dp hdep 7)
        have v80 := s_80 (dp hdep 8)
        refine dj_val (i := 9) (v := .bool false) rfl (.inr ⟨2, false, 74, rfl, by kernel_rfl, v74⟩) (ev_neCB (a := (lat d (k : Int)).1) (b := (lat d (k : Int)).1) (r := false) v79.eval v80.eval (by simp) _ rfl) ?_
        exact ⟨⟨_, rfl⟩, bl, sz, b_B10, b_B23, b_B56, b_B256, p_0, p_1, p_2, p_3, p_4, (so s_72), (so s_73), (so s_74), (so s_75), (so s_76), (so s_77), (so s_78), (so s_79), (so s_80), (fun _ => Sv.self (by rw [zq]; decide) _), (so s_82)⟩
      | 10, _ =>
        obtain rfl := Option.some.inj (show some _ = some o from ho); clear ho
        have v74 := s_74 (dp hdep 2)
        have v81 := s_81 (dp hdep 9)
        refine dj_val (i := 10) (v := .bool false) rfl (.inl rfl) (ev_pickF v74.eval v81.eval _ rfl) ?_
        exact ⟨⟨_, rfl⟩, bl, sz, b_B10, b_B23, b_B56, b_B256, p_0, p_1, p_2, p_3, p_4, (so s_72), (so s_73), (so s_74), (so s_75), (so s_76), (so s_77), (so s_78), (so s_79), (so s_80), (so s_81), (fun _ => Sv.self (by rw [zq]; decide) _)⟩
      | k + 11, h => exact absurd h (by omega)
    · intro L hall ac286 wc286 hF hJ
      obtain ⟨bl, sz, b_B10, b_B23, b_B56, b_B256, p_0, p_1, p_2, p_3, p_4, s_72, s_73, s_74, s_75, s_76, s_77, s_78, s_79, s_80, s_81, s_82⟩ := hJ
      have hA286 : Ag ac286 172 [(1, .slice E ys.length ce), (5, .bool true), (6, .pointer (some ⟨B10, 0, none⟩)), (8, .pointer (some ⟨B23, 0, none⟩)), (9, .slice Al14 (all d).2.1.length cl14), (11, .pointer (some ⟨B56, 0, none⟩)), (12, .int .i64 (k : Int)), (62, .int .i64 (k : Int)), (63, .bool true), (67, .agg #[.slice Ap5 d.cs.length cp5, .slice Aj5 d.js.length cj5, .int .i64 d.room]), (68, .int .i64 (k : Int)), (69, .tuple #[.agg (lat d (k : Int)).1.va, .int .i64 (lat d (k : Int)).2]), (66, .tuple #[.agg (lat d (k : Int)).1.va, .int .i64 (lat d (k : Int)).2]), (70, .agg (lat d (k : Int)).1.va), (71, .int .i64 (lat d (k : Int)).2), (13, .pointer (some ⟨B256, 0, none⟩)), (14, .int .i64 (lat d (k : Int)).2), (72, .int .i64 (lat d (k : Int)).2), (73, .bool false), (74, .bool false), (75, .pointer (some ⟨B23, 0, none⟩)), (76, .slice Ap14 (all d).1.cs.length cp14), (77, .int .i64 (k : Int)), (78, .pointer (some (ad247.add (k * 8)))), (79, .agg (lat d (k : Int)).1.va), (80, .agg (lat d (k : Int)).1.va), (81, .bool false), (82, .bool false)] := (((((((((((((((((((((((((((((Ag.nil (hF.1.trans hA258.1) (hF.2.1.trans hA258.2.1)).cons (s_82 (hall 10 (by decide)))).cons (s_81 (hall 9 (by decide)))).cons (s_80 (hall 8 (by decide)))).cons (s_79 (hall 7 (by decide)))).cons (s_78 (hall 6 (by decide)))).cons (s_77 (hall 5 (by decide)))).cons (s_76 (hall 4 (by decide)))).cons (s_75 (hall 3 (by decide)))).cons (s_74 (hall 2 (by decide)))).cons (s_73 (hall 1 (by decide)))).cons (s_72 (hall 0 (by decide)))).cons (hF.sv (s := 14) (by kernel_rfl) (hA258.get (i := 14) (v := .int .i64 (lat d (k : Int)).2)))).cons (hF.sv (s := 13) (by kernel_rfl) (hA258.get (i := 13) (v := .pointer (some ⟨B256, 0, none⟩))))).cons (hF.sv (s := 71) (by kernel_rfl) (hA258.get (i := 71) (v := .int .i64 (lat d (k : Int)).2)))).cons (hF.sv (s := 70) (by kernel_rfl) (hA258.get (i := 70) (v := .agg (lat d (k : Int)).1.va)))).cons (hF.sv (s := 66) (by kernel_rfl) (hA258.get (i := 66) (v := .tuple #[.agg (lat d (k : Int)).1.va, .int .i64 (lat d (k : Int)).2])))).cons (hF.sv (s := 69) (by kernel_rfl) (hA258.get (i := 69) (v := .tuple #[.agg (lat d (k : Int)).1.va, .int .i64 (lat d (k : Int)).2])))).cons (hF.sv (s := 68) (by kernel_rfl) (hA258.get (i := 68) (v := .int .i64 (k : Int))))).cons (hF.sv (s := 67) (by kernel_rfl) (hA258.get (i := 67) (v := .agg #[.slice Ap5 d.cs.length cp5, .slice Aj5 d.js.length cj5, .int .i64 d.room])))).cons (hF.sv (s := 63) (by kernel_rfl) (hA258.get (i := 63) (v := .bool true)))).cons (hF.sv (s := 62) (by kernel_rfl) (hA258.get (i := 62) (v := .int .i64 (k : Int))))).cons (hF.sv (s := 12) (by kernel_rfl) (hA258.get (i := 12) (v := .int .i64 (k : Int))))).cons (hF.sv (s := 11) (by kernel_rfl) (hA258.get (i := 11) (v := .pointer (some ⟨B56, 0, none⟩))))).cons (hF.sv (s := 9) (by kernel_rfl) (hA258.get (i := 9) (v := .slice Al14 (all d).2.1.length cl14)))).cons (hF.sv (s := 8) (by kernel_rfl) (hA258.get (i := 8) (v := .pointer (some ⟨B23, 0, none⟩))))).cons (hF.sv (s := 6) (by kernel_rfl) (hA258.get (i := 6) (v := .pointer (some ⟨B10, 0, none⟩))))).cons (hF.sv (s := 5) (by kernel_rfl) (hA258.get (i := 5) (v := .bool true)))).cons (hF.sv (s := 1) (by kernel_rfl) (hA258.get (i := 1) (v := .slice E ys.length ce))))
      have bl286 := bl
      have sz286 := sz
      have b286_B10 := b_B10
      have b286_B23 := b_B23
      have b286_B56 := b_B56
      have b286_B256 := b_B256
      have p286_0 := p_0
      have p286_1 := p_1
      have p286_2 := p_2
      have p286_3 := p_3
      have p286_4 := p_4
      clear hF bl sz b_B10 b_B23 b_B56 b_B256 p_0 p_1 p_2 p_3 p_4 s_72 s_73 s_74 s_75 s_76 s_77 s_78 s_79 s_80 s_81 s_82 hall hA258
      refine then_n ?_
      refine wp_cond_false (hA286.ev (i := 82) (v := .bool false)) ?_
      refine wp_skip ?_
      refine then_n ?_
      refine wp_region_lit ?_
      refine sx_val hA286 rfl (ev_move (hA286.ev (i := 12) (v := .int .i64 (k : Int))) _ rfl) ?_
      intro a287 hA287; clear hA286
      refine sx_val (v := .agg (lat d (k : Int)).1.va) hA287 rfl (ev_row (hA287.ev (i := 13) (v := .pointer (some ⟨B256, 0, none⟩))) b286_B256 Try.underlying28 rfl (n := 8) (by kernel_rfl) rfl _ rfl) ?_
      intro a288 hA288; clear hA287
      refine sx_val (v := .pointer (some ((⟨B56, 0, none⟩ : Addr).add (k * 8)))) hA288 rfl (ev_idxP (k := k) (hA288.ev (i := 11) (v := .pointer (some ⟨B56, 0, none⟩))) (hA288.ev (i := 83) (v := .int .i64 (k : Int))) rfl (by omega) Try.underlying61 (by kernel_rfl) _ rfl) ?_
      intro a289 hA289; clear hA288
      refine sx_sbx (k := k) (v := (lat d (k : Int)).1) hA289 rfl (.inl rfl) rfl (hA289.ev (i := 85) (v := .pointer (some ((⟨B56, 0, none⟩ : Addr).add (k * 8))))) (hA289.ev (i := 84) (v := .agg (lat d (k : Int)).1.va)) b286_B56 ct_sz ct_one (by omega) (by kernel_rfl) ?_
      intro w290 hx290 hg290
      have hs290 := hg290.size
      refine sx_nil ?_
      refine blk_n ?_
      refine then_n ?_
      refine wp_region_lit ?_
      refine sx_val hA289 rfl (ev_move (hA289.ev (i := 12) (v := .int .i64 (k : Int))) _ rfl) ?_
      intro a291 hA291; clear hA289
      refine sx_val (v := .int .i64 ((k + 1 : Nat) : Int)) hA291 rfl (ev_addR (k := .i64) (m := (k : Int)) (n := 1) (r := ((k + 1 : Nat) : Int)) (hA291.ev (i := 64)) (ec _ (.int .i64 1)) (wr (by omega) (by omega) (by omega)) _ rfl) ?_
      intro a292 hA292; clear hA291
      refine sx_val hA292 rfl (ev_assign (hA292.ev (i := 65) (v := .int .i64 ((k + 1 : Nat) : Int))) _ rfl) ?_
      intro a293 hA293; clear hA292
      refine sx_nil ?_
      refine then_n ?_
      have b286_B10_294 := b286_B10.gB hg290 (by omega)
      have b286_B23_295 := b286_B23.gB hg290 (by omega)
      have p286_296 := Own.gBT p286_0 hg290 b286_B56 (by decide)
      have p286_297 := Own.gBT p286_1 hg290 b286_B56 (by decide)
      have p286_298 := Own.gBT p286_2 hg290 b286_B56 (by decide)
      have p286_299 := Own.gBT p286_3 hg290 b286_B56 (by decide)
      have p286_300 := Own.gBT p286_4 hg290 b286_B56 (by decide)
      have bl286_301 := Below.gB bl286 hg290 bl286.size (by omega)
      refine ⟨8 - (k + 1), by omega, k + 1, (ls.set k (lat d (k : Int)).1), rfl, ((((((((Ag.nil hA293.1 hA293.2.1).cons (hA293.get (i := 12) (v := .int .i64 ((k + 1 : Nat) : Int)))).cons (hA293.get (i := 11) (v := .pointer (some ⟨B56, 0, none⟩)))).cons (hA293.get (i := 9) (v := .slice Al14 (all d).2.1.length cl14))).cons (hA293.get (i := 8) (v := .pointer (some ⟨B23, 0, none⟩)))).cons (hA293.get (i := 6) (v := .pointer (some ⟨B10, 0, none⟩)))).cons (hA293.get (i := 5) (v := .bool true))).cons (hA293.get (i := 1) (v := .slice E ys.length ce))), by omega, by simp; exact q58_1, ls_set h86 (by omega) q58_1 q58_2, b286_B10_294, b286_B23_295, hx290, p286_296, p286_297, p286_298, p286_299, p286_300, by omega, bl286_301⟩
  have hp85 := of_decide_eq_false hd85
  refine wp_seq ?_
  refine wp_seq ?_
  refine wp_region_lit ?_
  refine sx_val hA58 rfl (ev_move (hA58.ev (i := 12) (v := .int .i64 (k : Int))) _ rfl) ?_
  intro a86 hA86; clear hA58
  refine sx_val (v := .bool false) hA86 rfl (ev_lssB (k := .i64) (m := (k : Int)) (n := 8) (hA86.ev (i := 62)) (ec _ (.int .i64 8)) hd85 _ rfl) ?_
  intro a87 hA87; clear hA86
  refine sx_nil ?_
  refine then_n ?_
  refine wp_cond_false (hA87.ev (i := 63) (v := .bool false)) ?_
  refine wp_exit ?_
  refine then_x ?_
  refine then_x ?_
  refine blk_hit ?_
  refine then_n ?_
  refine wp_seq ?_
  refine wp_region_lit ?_
  refine sx_val hA87 rfl (ev_assign (ec _ (.slice none 0 0)) _ rfl) ?_
  intro a88 hA88; clear hA87
  refine sx_nil ?_
  refine then_n ?_
  refine wp_seq ?_
  refine wp_seq ?_
  refine wp_region_lit ?_
  refine sx_val hA88 rfl (ev_assign (ec _ (.int .i64 0)) _ rfl) ?_
  intro a89 hA89; clear hA88
  refine sx_nil ?_
  refine then_n ?_
  refine wp_block ?_
  refine wp_loop_ghost (fun n a wl => ∃ (g : Dk) (out : List Jb) (A1g : Option Addr) (c1g : Nat) (A2g : Option Addr) (c2g : Nat) (Al : Option Addr) (cl : Nat) (iN : Nat), n = g.js.length ∧ Ag a 172 [(1, .slice E ys.length ce), (5, .bool true), (6, .pointer (some ⟨B10, 0, none⟩)), (8, .pointer (some ⟨B23, 0, none⟩)), (9, .slice Al14 (all d).2.1.length cl14), (11, .pointer (some ⟨B56, 0, none⟩)), (15, .slice Al out.length cl), (16, .int .i64 (iN : Int))] ∧ D86 g ∧ (∀ s : Int, 0 ≤ s → ltc g s = ltc d s) ∧ (out ++ rsl g).Perm (rsl d) ∧ out.length + g.js.length = d.js.length ∧ iN = out.length ∧ Bx wl B10 25 #[.slice A1g g.cs.length c1g, .slice A2g g.js.length c2g, .int .i64 g.room] ∧ Bx wl B23 25 #[.slice Ap14 (all d).1.cs.length cp14, .slice Aj14 (all d).1.js.length cj14, .int .i64 (all d).1.room] ∧ Bx wl B56 61 (flat Ct.va ls).toArray ∧ Own wl (w11.heap.size) 28 8 (.slice Ap14 (all d).1.cs.length cp14) (all d).1.cs.length (flat Ct.va (all d).1.cs) ∧ Own wl (w11.heap.size) 38 11 (.slice Aj14 (all d).1.js.length cj14) (all d).1.js.length (flat Jb.va (all d).1.js) ∧ Own wl (w11.heap.size) 38 11 (.slice Al14 (all d).2.1.length cl14) (all d).2.1.length (flat Jb.va (all d).2.1) ∧ Own wl (w2.heap.size) 28 8 (.slice A1g g.cs.length c1g) g.cs.length (flat Ct.va g.cs) ∧ Own wl (w2.heap.size) 38 11 (.slice A2g g.js.length c2g) g.js.length (flat Jb.va g.js) ∧ Own wl (w58.heap.size) 38 11 (.slice Al out.length cl) out.length (flat Jb.va out) ∧ w58.heap.size ≤ wl.heap.size ∧ Below w.heap.size w wl) (d.js.length) ⟨d, [], Ap5, cp5, Aj5, cj5, none, 0, 0, rfl, (((((((((Ag.nil hA89.1 hA89.2.1).cons (hA89.get (i := 16) (v := .int .i64 0))).cons (hA89.get (i := 15) (v := .slice none 0 0))).cons (hA89.get (i := 11) (v := .pointer (some ⟨B56, 0, none⟩)))).cons (hA89.get (i := 9) (v := .slice Al14 (all d).2.1.length cl14))).cons (hA89.get (i := 8) (v := .pointer (some ⟨B23, 0, none⟩)))).cons (hA89.get (i := 6) (v := .pointer (some ⟨B10, 0, none⟩)))).cons (hA89.get (i := 5) (v := .bool true))).cons (hA89.get (i := 1) (v := .slice E ys.length ce))), h86, fun _ _ => rfl, List.Perm.refl _, (by simp), rfl, f58_0, f58_1, f58_2, f58_5, f58_6, f58_7, f58_3, f58_4, (Own.nil _ _ _ 11), Nat.le_refl _, hbel58⟩ ?_
  intro n90 a90 w90 hI90
  obtain ⟨g, out, A1g, c1g, A2g, c2g, Al, cl, iN, hn90, hA90, q90_0, q90_1, q90_2, q90_3, q90_4, f90_0, f90_1, f90_2, f90_3, f90_4, f90_5, f90_6, f90_7, f90_8, hsz90, hbel90⟩ := hI90
  subst hn90
  clear hA89
  have hlB10_90 := f90_0.lt
  have hlB23_90 := f90_1.lt
  have hlB56_90 := f90_2.lt
  have hhA1g_90 := Own.hi f90_6
  have hhA2g_90 := Own.hi f90_7
  have hhAl_90 := Own.hi f90_8
  cases hd91 : decide (0 < (g.js.length : Int))
  · have hp91 := of_decide_eq_false hd91
    have gn8 := (q90_0).n
    have gr6 := (q90_0).r
    have gj6 := D86.jl q90_0
    refine wp_seq ?_
    refine wp_seq ?_
    refine wp_region_lit ?_
    refine sx_val (v := .pointer (some ⟨B10, 1, none⟩)) hA90 rfl (fb_Disk_1 (hA90.ev (i := 6) (v := .pointer (some ⟨B10, 0, none⟩))) _ rfl) ?_
    intro a92 hA92; clear hA90
    refine sx_val (v := .slice A2g g.js.length c2g) hA92 rfl (ev_cell (v := .slice A2g g.js.length c2g) (hA92.ev (i := 86) (v := .pointer (some ⟨B10, 1, none⟩))) ((f90_0.cell 1).trans rfl) Try.underlying23 rfl _ rfl) ?_
    intro a93 hA93; clear hA92
    refine sx_val (v := .int .i64 (g.js.length : Int)) hA93 rfl (ev_len (hA93.ev (i := 87) (v := .slice A2g g.js.length c2g)) Try.underlying23 _ rfl) ?_
    intro a94 hA94; clear hA93
    refine sx_val (v := .bool false) hA94 rfl (ev_gtrB (k := .i64) (m := (g.js.length : Int)) (n := 0) (hA94.ev (i := 88)) (ec _ (.int .i64 0)) hd91 _ rfl) ?_
    intro a95 hA95; clear hA94
    refine sx_nil ?_
    refine then_n ?_
    refine wp_cond_false (hA95.ev (i := 89) (v := .bool false)) ?_
    refine wp_exit ?_
    refine then_x ?_
    refine then_x ?_
    refine blk_hit ?_
    refine then_n ?_
    refine wp_seq ?_
    refine wp_seq ?_
    refine wp_region_lit ?_
    refine sx_val (v := .agg #[.slice A1g g.cs.length c1g, .slice A2g g.js.length c2g, .int .i64 g.room]) hA95 rfl (ev_row (hA95.ev (i := 6) (v := .pointer (some ⟨B10, 0, none⟩))) f90_0 Try.underlying25 rfl (n := 3) (by kernel_rfl) rfl _ rfl) ?_
    intro a96 hA96; clear hA95
    refine sx_val (v := .agg #[.slice Ap14 (all d).1.cs.length cp14, .slice Aj14 (all d).1.js.length cj14, .int .i64 (all d).1.room]) hA96 rfl (ev_row (hA96.ev (i := 8) (v := .pointer (some ⟨B23, 0, none⟩))) f90_1 Try.underlying25 rfl (n := 3) (by kernel_rfl) rfl _ rfl) ?_
    intro a97 hA97; clear hA96
    have hge : g = (all d).1 := same_end (List.eq_nil_of_length_eq_zero (by omega)) b2 (by rw [b4, (q90_0).r, h86.r]) (by rw [b3]; exact (q90_0).n) (fun s hs => by rw [q90_1 s hs, b6 s hs])
    refine sx_call (f := 14) (args := #[.agg #[.slice A1g g.cs.length c1g, .slice A2g g.js.length c2g, .int .i64 g.room], .agg #[.slice Ap14 (all d).1.cs.length cp14, .slice Aj14 (all d).1.js.length cj14, .int .i64 (all d).1.room]]) hA97 rfl (by decide) (.inl rfl) (ev_fn rfl (mp2 (hA97.ev (i := 141) (v := .agg #[.slice A1g g.cs.length c1g, .slice A2g g.js.length c2g, .int .i64 g.room])) (hA97.ev (i := 142) (v := .agg #[.slice Ap14 (all d).1.cs.length cp14, .slice Aj14 (all d).1.js.length cj14, .int .i64 (all d).1.room]))) (by kernel_rfl) _ rfl) (SameDisk_eq g (all d).1 hge A1g c1g A2g c2g Ap14 cp14 Aj14 cj14 _ ⟨(OwnR.gr (e := 28) ⟨rfl, f90_6⟩), (OwnR.gr (e := 38) ⟨rfl, f90_7⟩)⟩ ⟨(OwnR.gr (e := 28) ⟨rfl, f90_3⟩), (OwnR.gr (e := 38) ⟨rfl, f90_4⟩)⟩ (by omega) (by rw [b2]; decide)) ?_
    intro e98 w98 hR98
    obtain ⟨rfl, hb98⟩ := hR98
    refine ⟨_, rfl, ?_⟩
    intro a98 hA98
    clear hA97
    have hg98 := g0 hb98
    have hs98 := hg98.size
    clear hb98
    refine sx_val (v := .bool false) hA98 rfl (ev_notT (hA98.ev (i := 143) (v := .bool true)) _ rfl) ?_
    intro a99 hA99; clear hA98
    refine sx_val hA99 rfl (ev_move (hA99.ev (i := 144) (v := .bool false)) _ rfl) ?_
    intro a100 hA100; clear hA99
    refine sx_val (hg := (.inr ⟨4, false, 145, rfl, rfl, by kernel_rfl⟩)) hA100 rfl (ev_move (hA100.ev (i := 15) (v := .slice Al out.length cl)) _ rfl) ?_
    intro a101 hA101; clear hA100
    refine sx_val (hg := (.inr ⟨4, false, 145, rfl, rfl, by kernel_rfl⟩)) (v := .int .i64 (out.length : Int)) hA101 rfl (ev_len (hA101.ev (i := 146) (v := .slice Al out.length cl)) Try.underlying23 _ rfl) ?_
    intro a102 hA102; clear hA101
    refine sx_val (hg := (.inr ⟨4, false, 145, rfl, rfl, by kernel_rfl⟩)) hA102 rfl (ev_move (hA102.ev (i := 9) (v := .slice Al14 (all d).2.1.length cl14)) _ rfl) ?_
    intro a103 hA103; clear hA102
    refine sx_val (hg := (.inr ⟨4, false, 145, rfl, rfl, by kernel_rfl⟩)) (v := .int .i64 ((all d).2.1.length : Int)) hA103 rfl (ev_len (hA103.ev (i := 148) (v := .slice Al14 (all d).2.1.length cl14)) Try.underlying23 _ rfl) ?_
    intro a104 hA104; clear hA103
    refine sx_val (hg := (.inr ⟨4, false, 145, rfl, rfl, by kernel_rfl⟩)) (v := .bool false) hA104 rfl (ev_neqB (k := .i64) (m := (out.length : Int)) (n := ((all d).2.1.length : Int)) (hA104.ev (i := 147)) (hA104.ev (i := 149)) (by simpa using (by rw [b5, rsl_len]; omega)) _ rfl) ?_
    intro a105 hA105; clear hA104
    refine sx_val hA105 rfl (ev_pickF (hA105.ev (i := 145) (v := .bool false)) (hA105.ev (i := 150) (v := .bool false)) _ rfl) ?_
    intro a106 hA106; clear hA105
    refine sx_nil ?_
    refine then_n ?_
    refine wp_cond_false (hA106.ev (i := 151) (v := .bool false)) ?_
    refine wp_skip ?_
    refine then_n ?_
    refine wp_seq ?_
    refine wp_seq ?_
    refine wp_region_lit ?_
    refine sx_val hA106 rfl (ev_assign (ec _ (.int .i64 0)) _ rfl) ?_
    intro a107 hA107; clear hA106
    refine sx_nil ?_
    refine then_n ?_
    refine wp_block ?_
    have hpm : out.Perm (all d).2.1 := by
      have h := q90_2
      rw [show rsl g = [] by unfold rsl; rw [List.eq_nil_of_length_eq_zero (show g.js.length = 0 by omega)]; rfl, List.append_nil, ← b5] at h
      exact h
    have f90_109 := Own.gN f90_5 hg98
    have f90_110 := Own.gN f90_8 hg98
    have hbel90_111 := Below.gN hbel90 hg98 hbel90.size
    refine wp_loop_ghost (fun n a wl => ∃ (m : Nat), n = (all d).2.1.length - m ∧ Ag a 172 [(5, .bool true), (9, .slice Al14 (all d).2.1.length cl14), (15, .slice Al out.length cl), (23, .int .i64 (m : Int))] ∧ m ≤ (all d).2.1.length ∧ Own wl (w11.heap.size) 38 11 (.slice Al14 (all d).2.1.length cl14) (all d).2.1.length (flat Jb.va (all d).2.1) ∧ Own wl (w58.heap.size) 38 11 (.slice Al out.length cl) out.length (flat Jb.va out) ∧ w98.heap.size ≤ wl.heap.size ∧ Below w.heap.size w wl) ((all d).2.1.length - 0) ⟨0, rfl, (((((Ag.nil hA107.1 hA107.2.1).cons (hA107.get (i := 23) (v := .int .i64 0))).cons (hA107.get (i := 15) (v := .slice Al out.length cl))).cons (hA107.get (i := 9) (v := .slice Al14 (all d).2.1.length cl14))).cons (hA107.get (i := 5) (v := .bool true))), Nat.zero_le _, f90_109, f90_110, Nat.le_refl _, hbel90_111⟩ ?_
    intro n108 a108 w108 hI108
    obtain ⟨m, hn108, hA108, q108_0, f108_0, f108_1, hsz108, hbel108⟩ := hI108
    subst hn108
    clear hA107
    cases hd112 : decide ((m : Int) < ((all d).2.1.length : Int))
    · have hp112 := of_decide_eq_false hd112
      refine wp_seq ?_
      refine wp_seq ?_
      refine wp_region_lit ?_
      refine sx_val hA108 rfl (ev_move (hA108.ev (i := 23) (v := .int .i64 (m : Int))) _ rfl) ?_
      intro a113 hA113; clear hA108
      refine sx_val hA113 rfl (ev_move (hA113.ev (i := 9) (v := .slice Al14 (all d).2.1.length cl14)) _ rfl) ?_
      intro a114 hA114; clear hA113
      refine sx_val (v := .int .i64 ((all d).2.1.length : Int)) hA114 rfl (ev_len (hA114.ev (i := 153) (v := .slice Al14 (all d).2.1.length cl14)) Try.underlying23 _ rfl) ?_
      intro a115 hA115; clear hA114
      refine sx_val (v := .bool false) hA115 rfl (ev_lssB (k := .i64) (m := (m : Int)) (n := ((all d).2.1.length : Int)) (hA115.ev (i := 152)) (hA115.ev (i := 154)) hd112 _ rfl) ?_
      intro a116 hA116; clear hA115
      refine sx_nil ?_
      refine then_n ?_
      refine wp_cond_false (hA116.ev (i := 155) (v := .bool false)) ?_
      refine wp_exit ?_
      refine then_x ?_
      refine then_x ?_
      refine blk_hit ?_
      refine then_n ?_
      refine wp_seq ?_
      refine wp_region_lit ?_
      refine sx_val hA116 rfl (ev_move (hA116.ev (i := 5) (v := .bool true)) _ rfl) ?_
      intro a117 hA117; clear hA116
      refine sx_val hA117 rfl (ev_assign (hA117.ev (i := 171) (v := .bool true)) _ rfl) ?_
      intro a118 hA118; clear hA117
      refine sx_nil ?_
      refine then_n ?_
      refine wp_ret ?_
      refine bodyPost_ret (rs_t (v := .bool true) Try.results8 hA118 (by kernel_rfl) ) hA118.2.1 ?_
      exact ⟨rfl, hbel108⟩
    have hp112 := of_decide_eq_true hd112
    obtain ⟨x, hxm⟩ : ∃ x, (all d).2.1[m]? = some x := ⟨_, List.getElem?_eq_getElem (by omega)⟩
    obtain ⟨ad119, hAd119⟩ := GR.adr (OwnR.gr (e := 38) ⟨rfl, f108_0⟩) jb_sz hxm
    have hal6 : (all d).2.1.length ≤ 6 := by rw [b5, rsl_len]; omega
    have hol6 : out.length ≤ 6 := by rw [hpm.length_eq]; exact hal6
    have hct := hpm.count_eq x
    refine wp_seq ?_
    refine wp_seq ?_
    refine wp_region_lit ?_
    refine sx_val hA108 rfl (ev_move (hA108.ev (i := 23) (v := .int .i64 (m : Int))) _ rfl) ?_
    intro a120 hA120; clear hA108
    refine sx_val hA120 rfl (ev_move (hA120.ev (i := 9) (v := .slice Al14 (all d).2.1.length cl14)) _ rfl) ?_
    intro a121 hA121; clear hA120
    refine sx_val (v := .int .i64 ((all d).2.1.length : Int)) hA121 rfl (ev_len (hA121.ev (i := 153) (v := .slice Al14 (all d).2.1.length cl14)) Try.underlying23 _ rfl) ?_
    intro a122 hA122; clear hA121
    refine sx_val (v := .bool true) hA122 rfl (ev_lssB (k := .i64) (m := (m : Int)) (n := ((all d).2.1.length : Int)) (hA122.ev (i := 152)) (hA122.ev (i := 154)) hd112 _ rfl) ?_
    intro a123 hA123; clear hA122
    refine sx_nil ?_
    refine then_n ?_
    refine wp_cond_true (hA123.ev (i := 155) (v := .bool true)) ?_
    refine wp_skip ?_
    refine then_n ?_
    refine wp_seq ?_
    refine wp_block ?_
    refine wp_seq ?_
    refine region_D (n := 13) (by kernel_rfl) (by kernel_rfl) rfl (fun L ac wc => Below w.heap.size w wc ∧ w108.heap.size ≤ wc.heap.size ∧ Own wc (w11.heap.size) 38 11 (.slice Al14 (all d).2.1.length cl14) (all d).2.1.length (flat Jb.va (all d).2.1) ∧ Own wc (w58.heap.size) 38 11 (.slice Al out.length cl) out.length (flat Jb.va out) ∧ (L 0 = true → Sv ac 158 (.slice Al out.length cl)) ∧ (L 1 = true → Sv ac 159 (.slice Al14 (all d).2.1.length cl14)) ∧ (L 2 = true → Sv ac 160 (.int .i64 (m : Int))) ∧ (L 3 = true → Sv ac 161 (.pointer (some (ad119.add (m * 11))))) ∧ (L 4 = true → Sv ac 162 (.agg x.va)) ∧ (L 5 = true → Sv ac 163 (.int .i64 (out.count x : Int))) ∧ (L 6 = true → Sv ac 164 (.slice Al14 (all d).2.1.length cl14)) ∧ (L 7 = true → Sv ac 165 (.slice Al14 (all d).2.1.length cl14)) ∧ (L 8 = true → Sv ac 166 (.int .i64 (m : Int))) ∧ (L 9 = true → Sv ac 167 (.pointer (some (ad119.add (m * 11))))) ∧ (L 10 = true → Sv ac 168 (.agg x.va)) ∧ (L 11 = true → Sv ac 169 (.int .i64 ((all d).2.1.count x : Int))) ∧ (L 12 = true → Sv ac 170 (.bool false))) ⟨(Below.gN hbel108 (gdr _) hbel108.size), (Nat.le_refl _), (Own.gN f108_0 (gdr _)), (Own.gN f108_1 (gdr _)), (fun h => by cases h), (fun h => by cases h), (fun h => by cases h), (fun h => by cases h), (fun h => by cases h), (fun h => by cases h), (fun h => by cases h), (fun h => by cases h), (fun h => by cases h), (fun h => by cases h), (fun h => by cases h), (fun h => by cases h), (fun h => by cases h)⟩ ?_ ?_
    · intro iq hiq o ho L hL hdep ac wc hF hJ
      obtain ⟨bl, sz, p_0, p_1, s_158, s_159, s_160, s_161, s_162, s_163, s_164, s_165, s_166, s_167, s_168, s_169, s_170⟩ := hJ
      have zq := hF.1.trans hA123.1
      match iq, hiq with
      | 0, _ =>
        obtain rfl := Option.some.inj (show some _ = some o from ho); clear ho
        have v15 := hF.sv (s := 15) (by kernel_rfl) (hA123.get (i := 15) (v := .slice Al out.length cl))
        refine dj_val (i := 0) (v := .slice Al out.length cl) rfl (.inl rfl) (ev_move v15.eval _ rfl) ?_
        exact ⟨⟨_, rfl⟩, bl, sz, p_0, p_1, (fun _ => Sv.self (by rw [zq]; decide) _), (so s_159), (so s_160), (so s_161), (so s_162), (so s_163), (so s_164), (so s_165), (so s_166), (so s_167), (so s_168), (so s_169), (so s_170)⟩
      | 1, _ =>
        obtain rfl := Option.some.inj (show some _ = some o from ho); clear ho
        have v9 := hF.sv (s := 9) (by kernel_rfl) (hA123.get (i := 9) (v := .slice Al14 (all d).2.1.length cl14))
        refine dj_val (i := 1) (v := .slice Al14 (all d).2.1.length cl14) rfl (.inl rfl) (ev_move v9.eval _ rfl) ?_
        exact ⟨⟨_, rfl⟩, bl, sz, p_0, p_1, (so s_158), (fun _ => Sv.self (by rw [zq]; decide) _), (so s_160), (so s_161), (so s_162), (so s_163), (so s_164), (so s_165), (so s_166), (so s_167), (so s_168), (so s_169), (so s_170)⟩
      | 2, _ =>
        obtain rfl := Option.some.inj (show some _ = some o from ho); clear ho
        have v23 := hF.sv (s := 23) (by kernel_rfl) (hA123.get (i := 23) (v := .int .i64 (m : Int)))
        refine dj_val (i := 2) (v := .int .i64 (m : Int)) rfl (.inl rfl) (ev_move v23.eval _ rfl) ?_
        exact ⟨⟨_, rfl⟩, bl, sz, p_0, p_1, (so s_158), (so s_159), (fun _ => Sv.self (by rw [zq]; decide) _), (so s_161), (so s_162), (so s_163), (so s_164), (so s_165), (so s_166), (so s_167), (so s_168), (so s_169), (so s_170)⟩
      | 3, _ =>
        obtain rfl := Option.some.inj (show some _ = some o from ho); clear ho
        have v159 := s_159 (dp hdep 1)
        have v160 := s_160 (dp hdep 2)
        refine dj_val (i := 3) (v := .pointer (some (ad119.add (m * 11)))) rfl (.inl rfl) (ev_idx (k := m) v159.eval hAd119 v160.eval rfl (by omega) Try.underlying23 (by kernel_rfl) _ rfl) ?_
        exact ⟨⟨_, rfl⟩, bl, sz, p_0, p_1, (so s_158), (so s_159), (so s_160), (fun _ => Sv.self (by rw [zq]; decide) _), (so s_162), (so s_163), (so s_164), (so s_165), (so s_166), (so s_167), (so s_168), (so s_169), (so s_170)⟩
      | 4, _ =>
        obtain rfl := Option.some.inj (show some _ = some o from ho); clear ho
        have v161 := s_161 (dp hdep 3)
        refine dj_val (i := 4) (v := .agg x.va) rfl (.inl rfl) (ev_loadR (cs := x.va) (n := 11) v161.eval (GR.cel (OwnR.gr (e := 38) ⟨rfl, p_0⟩) hAd119 jb_sz hxm) Try.underlying38 rfl (by kernel_rfl) rfl _ rfl) ?_
        exact ⟨⟨_, rfl⟩, bl, sz, p_0, p_1, (so s_158), (so s_159), (so s_160), (so s_161), (fun _ => Sv.self (by rw [zq]; decide) _), (so s_163), (so s_164), (so s_165), (so s_166), (so s_167), (so s_168), (so s_169), (so s_170)⟩
      | 5, _ =>
        obtain rfl := Option.some.inj (show some _ = some o from ho); clear ho
        have v158 := s_158 (dp hdep 0)
        have v162 := s_162 (dp hdep 4)
        refine dj_call (i := 5) (f := 37) (args := #[.slice Al out.length cl, .agg x.va]) rfl (.inl rfl) (ev_fn rfl (mp2 v158.eval v162.eval) (by kernel_rfl) _ rfl) (count_any Al cl out x _ (OwnR.gr (e := 38) ⟨rfl, p_1⟩) (by omega)) ?_
        intro e wk5 hR
        obtain ⟨rfl, hb5⟩ := hR
        refine ⟨_, rfl, ?_⟩
        have hg := g0 hb5
        exact ⟨⟨_, rfl⟩, (Below.gN bl hg bl.size), (Nat.le_trans sz hg.size), (Own.gN p_0 hg), (Own.gN p_1 hg), (so s_158), (so s_159), (so s_160), (so s_161), (so s_162), (fun _ => Sv.self (by rw [zq]; decide) _), (so s_164), (so s_165), (so s_166), (so s_167), (so s_168), (so s_169), (so s_170)⟩
      | 6, _ =>
        obtain rfl := Option.some.inj (show some _ = some o from ho); clear ho
        have v9 := hF.sv (s := 9) (by kernel_rfl) (hA123.get (i := 9) (v := .slice Al14 (all d).2.1.length cl14))
        refine dj_val (i := 6) (v := .slice Al14 (all d).2.1.length cl14) rfl (.inl rfl) (ev_move v9.eval _ rfl) ?_
        exact ⟨⟨_, rfl⟩, bl, sz, p_0, p_1, (so s_158), (so s_159), (so s_160), (so s_161), (so s_162), (so s_163), (fun _ => Sv.self (by rw [zq]; decide) _), (so s_165), (so s_166), (so s_167), (so s_168), (so s_169), (so s_170)⟩
      | 7, _ =>
        obtain rfl := Option.some.inj (show some _ = some o from ho); clear ho
        have v9 := hF.sv (s := 9) (by kernel_rfl) (hA123.get (i := 9) (v := .slice Al14 (all d).2.1.length cl14))
        refine dj_val (i := 7) (v := .slice Al14 (all d).2.1.length cl14) rfl (.inl rfl) (ev_move v9.eval _ rfl) ?_
        exact ⟨⟨_, rfl⟩, bl, sz, p_0, p_1, (so s_158), (so s_159), (so s_160), (so s_161), (so s_162), (so s_163), (so s_164), (fun _ => Sv.self (by rw [zq]; decide) _), (so s_166), (so s_167), (so s_168), (so s_169), (so s_170)⟩
      | 8, _ =>
        obtain rfl := Option.some.inj (show some _ = some o from ho); clear ho
        have v23 := hF.sv (s := 23) (by kernel_rfl) (hA123.get (i := 23) (v := .int .i64 (m : Int)))
        refine dj_val (i := 8) (v := .int .i64 (m : Int)) rfl (.inl rfl) (ev_move v23.eval _ rfl) ?_
        exact ⟨⟨_, rfl⟩, bl, sz, p_0, p_1, (so s_158), (so s_159), (so s_160), (so s_161), (so s_162), (so s_163), (so s_164), (so s_165), (fun _ => Sv.self (by rw [zq]; decide) _), (so s_167), (so s_168), (so s_169), (so s_170)⟩
      | 9, _ =>
        obtain rfl := Option.some.inj (show some _ = some o from ho); clear ho
        have v165 := s_165 (dp hdep 7)
        have v166 := s_166 (dp hdep 8)
        refine dj_val (i := 9) (v := .pointer (some (ad119.add (m * 11)))) rfl (.inl rfl) (ev_idx (k := m) v165.eval hAd119 v166.eval rfl (by omega) Try.underlying23 (by kernel_rfl) _ rfl) ?_
        exact ⟨⟨_, rfl⟩, bl, sz, p_0, p_1, (so s_158), (so s_159), (so s_160), (so s_161), (so s_162), (so s_163), (so s_164), (so s_165), (so s_166), (fun _ => Sv.self (by rw [zq]; decide) _), (so s_168), (so s_169), (so s_170)⟩
      | 10, _ =>
        obtain rfl := Option.some.inj (show some _ = some o from ho); clear ho
        have v167 := s_167 (dp hdep 9)
        refine dj_val (i := 10) (v := .agg x.va) rfl (.inl rfl) (ev_loadR (cs := x.va) (n := 11) v167.eval (GR.cel (OwnR.gr (e := 38) ⟨rfl, p_0⟩) hAd119 jb_sz hxm) Try.underlying38 rfl (by kernel_rfl) rfl _ rfl) ?_
        exact ⟨⟨_, rfl⟩, bl, sz, p_0, p_1, (so s_158), (so s_159), (so s_160), (so s_161), (so s_162), (so s_163), (so s_164), (so s_165), (so s_166), (so s_167), (fun _ => Sv.self (by rw [zq]; decide) _), (so s_169), (so s_170)⟩
      | 11, _ =>
        obtain rfl := Option.some.inj (show some _ = some o from ho); clear ho
        have v164 := s_164 (dp hdep 6)
        have v168 := s_168 (dp hdep 10)
        refine dj_call (i := 11) (f := 37) (args := #[.slice Al14 (all d).2.1.length cl14, .agg x.va]) rfl (.inl rfl) (ev_fn rfl (mp2 v164.eval v168.eval) (by kernel_rfl) _ rfl) (count_any Al14 cl14 (all d).2.1 x _ (OwnR.gr (e := 38) ⟨rfl, p_0⟩) (by omega)) ?_
        intro e wk11 hR
        obtain ⟨rfl, hb11⟩ := hR
        refine ⟨_, rfl, ?_⟩
        have hg := g0 hb11
        exact ⟨⟨_, rfl⟩, (Below.gN bl hg bl.size), (Nat.le_trans sz hg.size), (Own.gN p_0 hg), (Own.gN p_1 hg), (so s_158), (so s_159), (so s_160), (so s_161), (so s_162), (so s_163), (so s_164), (so s_165), (so s_166), (so s_167), (so s_168), (fun _ => Sv.self (by rw [zq]; decide) _), (so s_170)⟩
      | 12, _ =>
        obtain rfl := Option.some.inj (show some _ = some o from ho); clear ho
        have v163 := s_163 (dp hdep 5)
        have v169 := s_169 (dp hdep 11)
        refine dj_val (i := 12) (v := .bool false) rfl (.inl rfl) (ev_neqB (k := .i64) (m := (out.count x : Int)) (n := ((all d).2.1.count x : Int)) v163.eval v169.eval (by simpa using (by rw [hct] <;> rfl)) _ rfl) ?_
        exact ⟨⟨_, rfl⟩, bl, sz, p_0, p_1, (so s_158), (so s_159), (so s_160), (so s_161), (so s_162), (so s_163), (so s_164), (so s_165), (so s_166), (so s_167), (so s_168), (so s_169), (fun _ => Sv.self (by rw [zq]; decide) _)⟩
      | k + 13, h => exact absurd h (by omega)
    · intro L hall ac124 wc124 hF hJ
      obtain ⟨bl, sz, p_0, p_1, s_158, s_159, s_160, s_161, s_162, s_163, s_164, s_165, s_166, s_167, s_168, s_169, s_170⟩ := hJ
      have hA124 : Ag ac124 172 [(5, .bool true), (9, .slice Al14 (all d).2.1.length cl14), (15, .slice Al out.length cl), (23, .int .i64 (m : Int)), (152, .int .i64 (m : Int)), (153, .slice Al14 (all d).2.1.length cl14), (154, .int .i64 ((all d).2.1.length : Int)), (155, .bool true), (158, .slice Al out.length cl), (159, .slice Al14 (all d).2.1.length cl14), (160, .int .i64 (m : Int)), (161, .pointer (some (ad119.add (m * 11)))), (162, .agg x.va), (163, .int .i64 (out.count x : Int)), (164, .slice Al14 (all d).2.1.length cl14), (165, .slice Al14 (all d).2.1.length cl14), (166, .int .i64 (m : Int)), (167, .pointer (some (ad119.add (m * 11)))), (168, .agg x.va), (169, .int .i64 ((all d).2.1.count x : Int)), (170, .bool false)] := ((((((((((((((((((((((Ag.nil (hF.1.trans hA123.1) (hF.2.1.trans hA123.2.1)).cons (s_170 (hall 12 (by decide)))).cons (s_169 (hall 11 (by decide)))).cons (s_168 (hall 10 (by decide)))).cons (s_167 (hall 9 (by decide)))).cons (s_166 (hall 8 (by decide)))).cons (s_165 (hall 7 (by decide)))).cons (s_164 (hall 6 (by decide)))).cons (s_163 (hall 5 (by decide)))).cons (s_162 (hall 4 (by decide)))).cons (s_161 (hall 3 (by decide)))).cons (s_160 (hall 2 (by decide)))).cons (s_159 (hall 1 (by decide)))).cons (s_158 (hall 0 (by decide)))).cons (hF.sv (s := 155) (by kernel_rfl) (hA123.get (i := 155) (v := .bool true)))).cons (hF.sv (s := 154) (by kernel_rfl) (hA123.get (i := 154) (v := .int .i64 ((all d).2.1.length : Int))))).cons (hF.sv (s := 153) (by kernel_rfl) (hA123.get (i := 153) (v := .slice Al14 (all d).2.1.length cl14)))).cons (hF.sv (s := 152) (by kernel_rfl) (hA123.get (i := 152) (v := .int .i64 (m : Int))))).cons (hF.sv (s := 23) (by kernel_rfl) (hA123.get (i := 23) (v := .int .i64 (m : Int))))).cons (hF.sv (s := 15) (by kernel_rfl) (hA123.get (i := 15) (v := .slice Al out.length cl)))).cons (hF.sv (s := 9) (by kernel_rfl) (hA123.get (i := 9) (v := .slice Al14 (all d).2.1.length cl14)))).cons (hF.sv (s := 5) (by kernel_rfl) (hA123.get (i := 5) (v := .bool true))))
      have bl124 := bl
      have sz124 := sz
      have p124_0 := p_0
      have p124_1 := p_1
      clear hF bl sz p_0 p_1 s_158 s_159 s_160 s_161 s_162 s_163 s_164 s_165 s_166 s_167 s_168 s_169 s_170 hall hA123
      refine then_n ?_
      refine wp_cond_false (hA124.ev (i := 170) (v := .bool false)) ?_
      refine wp_skip ?_
      refine blk_n ?_
      refine then_n ?_
      refine wp_region_lit ?_
      refine sx_val hA124 rfl (ev_move (hA124.ev (i := 23) (v := .int .i64 (m : Int))) _ rfl) ?_
      intro a125 hA125; clear hA124
      refine sx_val (v := .int .i64 ((m + 1 : Nat) : Int)) hA125 rfl (ev_addR (k := .i64) (m := (m : Int)) (n := 1) (r := ((m + 1 : Nat) : Int)) (hA125.ev (i := 156)) (ec _ (.int .i64 1)) (wr (by omega) (by omega) (by omega)) _ rfl) ?_
      intro a126 hA126; clear hA125
      refine sx_val hA126 rfl (ev_assign (hA126.ev (i := 157) (v := .int .i64 ((m + 1 : Nat) : Int))) _ rfl) ?_
      intro a127 hA127; clear hA126
      refine sx_nil ?_
      refine then_n ?_
      refine ⟨(all d).2.1.length - (m + 1), by omega, m + 1, rfl, (((((Ag.nil hA127.1 hA127.2.1).cons (hA127.get (i := 23) (v := .int .i64 ((m + 1 : Nat) : Int)))).cons (hA127.get (i := 15) (v := .slice Al out.length cl))).cons (hA127.get (i := 9) (v := .slice Al14 (all d).2.1.length cl14))).cons (hA127.get (i := 5) (v := .bool true))), by omega, p124_0, p124_1, by omega, bl124⟩
  have hp91 := of_decide_eq_true hd91
  have gn8 := (q90_0).n
  have gr6 := (q90_0).r
  have gj6 := D86.jl q90_0
  refine wp_seq ?_
  refine wp_seq ?_
  refine wp_region_lit ?_
  refine sx_val (v := .pointer (some ⟨B10, 1, none⟩)) hA90 rfl (fb_Disk_1 (hA90.ev (i := 6) (v := .pointer (some ⟨B10, 0, none⟩))) _ rfl) ?_
  intro a128 hA128; clear hA90
  refine sx_val (v := .slice A2g g.js.length c2g) hA128 rfl (ev_cell (v := .slice A2g g.js.length c2g) (hA128.ev (i := 86) (v := .pointer (some ⟨B10, 1, none⟩))) ((f90_0.cell 1).trans rfl) Try.underlying23 rfl _ rfl) ?_
  intro a129 hA129; clear hA128
  refine sx_val (v := .int .i64 (g.js.length : Int)) hA129 rfl (ev_len (hA129.ev (i := 87) (v := .slice A2g g.js.length c2g)) Try.underlying23 _ rfl) ?_
  intro a130 hA130; clear hA129
  refine sx_val (v := .bool true) hA130 rfl (ev_gtrB (k := .i64) (m := (g.js.length : Int)) (n := 0) (hA130.ev (i := 88)) (ec _ (.int .i64 0)) hd91 _ rfl) ?_
  intro a131 hA131; clear hA130
  refine sx_nil ?_
  refine then_n ?_
  refine wp_cond_true (hA131.ev (i := 89) (v := .bool true)) ?_
  refine wp_skip ?_
  refine then_n ?_
  refine wp_seq ?_
  refine wp_block ?_
  refine wp_seq ?_
  refine region_D (n := 18) (by kernel_rfl) (by kernel_rfl) rfl (fun L ac wc => ∃ nA3r18 : Int, ∃ Ap8r18 : Option Addr, ∃ cp8r18 : Nat, ∃ Aj8r18 : Option Addr, ∃ cj8r18 : Nat, ∃ N13r18 : Nat, ∃ N14r18 : Nat, Below w.heap.size w wc ∧ w90.heap.size ≤ wc.heap.size ∧ Bx wc B10 25 (#[.slice A1g g.cs.length c1g, .slice A2g g.js.length c2g, .int .i64 g.room]) ∧ Bx wc B23 25 (#[.slice Ap14 (all d).1.cs.length cp14, .slice Aj14 (all d).1.js.length cj14, .int .i64 (all d).1.room]) ∧ Bx wc B56 61 (flat Ct.va ls).toArray ∧ Own wc (w11.heap.size) 28 8 (.slice Ap14 (all d).1.cs.length cp14) (all d).1.cs.length (flat Ct.va (all d).1.cs) ∧ Own wc (w11.heap.size) 38 11 (.slice Aj14 (all d).1.js.length cj14) (all d).1.js.length (flat Jb.va (all d).1.js) ∧ Own wc (w11.heap.size) 38 11 (.slice Al14 (all d).2.1.length cl14) (all d).2.1.length (flat Jb.va (all d).2.1) ∧ Own wc (w2.heap.size) 28 8 (.slice A1g g.cs.length c1g) g.cs.length (flat Ct.va g.cs) ∧ Own wc (w2.heap.size) 38 11 (.slice A2g g.js.length c2g) g.js.length (flat Jb.va g.js) ∧ Own wc (w58.heap.size) 38 11 (.slice Al out.length cl) out.length (flat Jb.va out) ∧ (L 13 = true → w90.heap.size ≤ N13r18 ∧ Bx wc N13r18 25 (bif L 15 then (#[.slice Ap8r18 (cmp g (nA3r18 % (g.js.length : Int))).1.cs.length cp8r18, .slice Aj8r18 (cmp g (nA3r18 % (g.js.length : Int))).1.js.length cj8r18, .int .i64 (cmp g (nA3r18 % (g.js.length : Int))).1.room]) else (#[.slice none 0 0, .slice none 0 0, .int .i64 0]))) ∧ (L 14 = true → w90.heap.size ≤ N14r18 ∧ Bx wc N14r18 38 (bif L 16 then (cmp g (nA3r18 % (g.js.length : Int))).2.1.va else Jb.zero.va)) ∧ (L 13 = true → L 14 = true → N13r18 ≠ N14r18) ∧ (L 8 = true → Own wc w90.heap.size 28 8 (.slice Ap8r18 (cmp g (nA3r18 % (g.js.length : Int))).1.cs.length cp8r18) (cmp g (nA3r18 % (g.js.length : Int))).1.cs.length (flat Ct.va (cmp g (nA3r18 % (g.js.length : Int))).1.cs)) ∧ (L 8 = true → Own wc w90.heap.size 38 11 (.slice Aj8r18 (cmp g (nA3r18 % (g.js.length : Int))).1.js.length cj8r18) (cmp g (nA3r18 % (g.js.length : Int))).1.js.length (flat Jb.va (cmp g (nA3r18 % (g.js.length : Int))).1.js)) ∧ (L 8 = true → L 14 = true → Value.ownBlock (.slice Aj8r18 (cmp g (nA3r18 % (g.js.length : Int))).1.js.length cj8r18) ≠ some N14r18) ∧ (L 15 = true → L 13 = true) ∧ (L 16 = true → L 14 = true) ∧ (L 7 = true → L 3 = true) ∧ (L 8 = true → L 3 = true) ∧ (L 9 = true → L 3 = true) ∧ (L 10 = true → L 3 = true) ∧ (L 15 = true → L 3 = true) ∧ (L 11 = true → L 3 = true) ∧ (L 16 = true → L 3 = true) ∧ (L 12 = true → L 3 = true) ∧ (L 17 = true → L 3 = true) ∧ (L 9 = true → L 8 = true) ∧ (L 10 = true → L 8 = true) ∧ (L 15 = true → L 8 = true) ∧ (L 0 = true → Sv ac 93 (.agg #[.slice A1g g.cs.length c1g, .slice A2g g.js.length c2g, .int .i64 g.room])) ∧ (L 1 = true → Sv ac 94 (.slice E ys.length ce)) ∧ (L 2 = true → Sv ac 95 (.int .i64 (iN : Int))) ∧ (L 3 = true → Sv ac 96 (.int .i64 nA3r18)) ∧ (L 4 = true → Sv ac 97 (.pointer (some ⟨B10, 1, none⟩))) ∧ (L 5 = true → Sv ac 98 (.slice A2g g.js.length c2g)) ∧ (L 6 = true → Sv ac 99 (.int .i64 (g.js.length : Int))) ∧ (L 7 = true → Sv ac 100 (.int .i64 (nA3r18 % (g.js.length : Int)))) ∧ (L 8 = true → Sv ac 101 (.tuple #[.agg #[.slice Ap8r18 (cmp g (nA3r18 % (g.js.length : Int))).1.cs.length cp8r18, .slice Aj8r18 (cmp g (nA3r18 % (g.js.length : Int))).1.js.length cj8r18, .int .i64 (cmp g (nA3r18 % (g.js.length : Int))).1.room], .agg (cmp g (nA3r18 % (g.js.length : Int))).2.1.va, .int .i64 (cmp g (nA3r18 % (g.js.length : Int))).2.2])) ∧ (L 9 = true → Sv ac 92 (.tuple #[.agg #[.slice Ap8r18 (cmp g (nA3r18 % (g.js.length : Int))).1.cs.length cp8r18, .slice Aj8r18 (cmp g (nA3r18 % (g.js.length : Int))).1.js.length cj8r18, .int .i64 (cmp g (nA3r18 % (g.js.length : Int))).1.room], .agg (cmp g (nA3r18 % (g.js.length : Int))).2.1.va, .int .i64 (cmp g (nA3r18 % (g.js.length : Int))).2.2])) ∧ (L 10 = true → Sv ac 102 (.agg #[.slice Ap8r18 (cmp g (nA3r18 % (g.js.length : Int))).1.cs.length cp8r18, .slice Aj8r18 (cmp g (nA3r18 % (g.js.length : Int))).1.js.length cj8r18, .int .i64 (cmp g (nA3r18 % (g.js.length : Int))).1.room])) ∧ (L 11 = true → Sv ac 103 (.agg (cmp g (nA3r18 % (g.js.length : Int))).2.1.va)) ∧ (L 12 = true → Sv ac 104 (.int .i64 (cmp g (nA3r18 % (g.js.length : Int))).2.2)) ∧ (L 13 = true → Sv ac 17 (.pointer (some ⟨N13r18, 0, none⟩))) ∧ (L 14 = true → Sv ac 18 (.pointer (some ⟨N14r18, 0, none⟩))) ∧ (L 17 = true → Sv ac 19 (.int .i64 (cmp g (nA3r18 % (g.js.length : Int))).2.2))) ⟨0, none, 0, none, 0, 0, 0, (Below.gN hbel90 (gdr _) hbel90.size), (Nat.le_refl _), (f90_0.gN (gdr _)), (f90_1.gN (gdr _)), (f90_2.gN (gdr _)), (Own.gN f90_3 (gdr _)), (Own.gN f90_4 (gdr _)), (Own.gN f90_5 (gdr _)), (Own.gN f90_6 (gdr _)), (Own.gN f90_7 (gdr _)), (Own.gN f90_8 (gdr _)), (fun h => by cases h), (fun h => by cases h), (fun h => by cases h), (fun h => by cases h), (fun h => by cases h), (fun h => by cases h), (fun h => by cases h), (fun h => by cases h), (fun h => by cases h), (fun h => by cases h), (fun h => by cases h), (fun h => by cases h), (fun h => by cases h), (fun h => by cases h), (fun h => by cases h), (fun h => by cases h), (fun h => by cases h), (fun h => by cases h), (fun h => by cases h), (fun h => by cases h), (fun h => by cases h), (fun h => by cases h), (fun h => by cases h), (fun h => by cases h), (fun h => by cases h), (fun h => by cases h), (fun h => by cases h), (fun h => by cases h), (fun h => by cases h), (fun h => by cases h), (fun h => by cases h), (fun h => by cases h), (fun h => by cases h), (fun h => by cases h), (fun h => by cases h), (fun h => by cases h)⟩ ?_ ?_
  · intro iq hiq o ho L hL hdep ac wc hF hJ
    obtain ⟨nA3r18, Ap8r18, cp8r18, Aj8r18, cj8r18, N13r18, N14r18, bl, sz, b_B10, b_B23, b_B56, p_0, p_1, p_2, p_3, p_4, p_5, n_N13r18, n_N14r18, d_13_14, o_8_0, o_8_1, nb_8_1_14, cl_15_13, cl_16_14, cl_7_3, cl_8_3, cl_9_3, cl_10_3, cl_15_3, cl_11_3, cl_16_3, cl_12_3, cl_17_3, cl_9_8, cl_10_8, cl_15_8, s_93, s_94, s_95, s_96, s_97, s_98, s_99, s_100, s_101, s_92, s_102, s_103, s_104, s_17, s_18, s_19⟩ := hJ
    have zq := hF.1.trans hA131.1
    match iq, hiq with
    | 0, _ =>
      obtain rfl := Option.some.inj (show some _ = some o from ho); clear ho
      have v6 := hF.sv (s := 6) (by kernel_rfl) (hA131.get (i := 6) (v := .pointer (some ⟨B10, 0, none⟩)))
      refine dj_val (i := 0) (v := .agg #[.slice A1g g.cs.length c1g, .slice A2g g.js.length c2g, .int .i64 g.room]) rfl (.inl rfl) (ev_row v6.eval b_B10 Try.underlying25 rfl (n := 3) (by kernel_rfl) rfl _ rfl) ?_
      exact ⟨⟨_, rfl⟩, nA3r18, Ap8r18, cp8r18, Aj8r18, cj8r18, N13r18, N14r18, bl, sz, b_B10, b_B23, b_B56, p_0, p_1, p_2, p_3, p_4, p_5, n_N13r18, n_N14r18, d_13_14, o_8_0, o_8_1, nb_8_1_14, cl_15_13, cl_16_14, cl_7_3, cl_8_3, cl_9_3, cl_10_3, cl_15_3, cl_11_3, cl_16_3, cl_12_3, cl_17_3, cl_9_8, cl_10_8, cl_15_8, (fun _ => Sv.self (by rw [zq]; decide) _), (so s_94), (so s_95), (so s_96), (so s_97), (so s_98), (so s_99), (so s_100), (so s_101), (so s_92), (so s_102), (so s_103), (so s_104), (so s_17), (so s_18), (so s_19)⟩
    | 1, _ =>
      obtain rfl := Option.some.inj (show some _ = some o from ho); clear ho
      have v1 := hF.sv (s := 1) (by kernel_rfl) (hA131.get (i := 1) (v := .slice E ys.length ce))
      refine dj_val (i := 1) (v := .slice E ys.length ce) rfl (.inl rfl) (ev_move v1.eval _ rfl) ?_
      exact ⟨⟨_, rfl⟩, nA3r18, Ap8r18, cp8r18, Aj8r18, cj8r18, N13r18, N14r18, bl, sz, b_B10, b_B23, b_B56, p_0, p_1, p_2, p_3, p_4, p_5, n_N13r18, n_N14r18, d_13_14, o_8_0, o_8_1, nb_8_1_14, cl_15_13, cl_16_14, cl_7_3, cl_8_3, cl_9_3, cl_10_3, cl_15_3, cl_11_3, cl_16_3, cl_12_3, cl_17_3, cl_9_8, cl_10_8, cl_15_8, (so s_93), (fun _ => Sv.self (by rw [zq]; decide) _), (so s_95), (so s_96), (so s_97), (so s_98), (so s_99), (so s_100), (so s_101), (so s_92), (so s_102), (so s_103), (so s_104), (so s_17), (so s_18), (so s_19)⟩
    | 2, _ =>
      obtain rfl := Option.some.inj (show some _ = some o from ho); clear ho
      have v16 := hF.sv (s := 16) (by kernel_rfl) (hA131.get (i := 16) (v := .int .i64 (iN : Int)))
      refine dj_val (i := 2) (v := .int .i64 (iN : Int)) rfl (.inl rfl) (ev_move v16.eval _ rfl) ?_
      exact ⟨⟨_, rfl⟩, nA3r18, Ap8r18, cp8r18, Aj8r18, cj8r18, N13r18, N14r18, bl, sz, b_B10, b_B23, b_B56, p_0, p_1, p_2, p_3, p_4, p_5, n_N13r18, n_N14r18, d_13_14, o_8_0, o_8_1, nb_8_1_14, cl_15_13, cl_16_14, cl_7_3, cl_8_3, cl_9_3, cl_10_3, cl_15_3, cl_11_3, cl_16_3, cl_12_3, cl_17_3, cl_9_8, cl_10_8, cl_15_8, (so s_93), (so s_94), (fun _ => Sv.self (by rw [zq]; decide) _), (so s_96), (so s_97), (so s_98), (so s_99), (so s_100), (so s_101), (so s_92), (so s_102), (so s_103), (so s_104), (so s_17), (so s_18), (so s_19)⟩
    | 3, _ =>
      obtain rfl := Option.some.inj (show some _ = some o from ho); clear ho
      have v94 := s_94 (dp hdep 1)
      have v95 := s_95 (dp hdep 2)
      refine dj_call (i := 3) (f := 36) (args := #[.slice E ys.length ce, .int .i64 (iN : Int)]) rfl (.inl rfl) (ev_fn rfl (mp2 v94.eval v95.eval) (by kernel_rfl) _ rfl) (At_any E ce ys _ _ (hy.below bl)) ?_
      intro e wk3 hR
      obtain ⟨nA3r18, rfl, hb3⟩ := hR
      refine ⟨_, rfl, ?_⟩
      have hg := g0 hb3
      exact ⟨⟨_, rfl⟩, nA3r18, Ap8r18, cp8r18, Aj8r18, cj8r18, N13r18, N14r18, (Below.gN bl hg bl.size), (Nat.le_trans sz hg.size), (b_B10.gN hg), (b_B23.gN hg), (b_B56.gN hg), (Own.gN p_0 hg), (Own.gN p_1 hg), (Own.gN p_2 hg), (Own.gN p_3 hg), (Own.gN p_4 hg), (Own.gN p_5 hg), (fun h => ⟨(n_N13r18 h).1, by
          have e0 : L 15 = false := by
            cases hc : L 15
            · rfl
            · exact absurd (cl_15_3 hc) (by rw [hL]; decide)
          have h0 := (n_N13r18 h).2.gN hg
          rw [e0] at h0
          show Bx _ _ _ (bif L 15 then _ else _)
          rw [e0]
          exact h0⟩), (fun h => ⟨(n_N14r18 h).1, by
          have e0 : L 16 = false := by
            cases hc : L 16
            · rfl
            · exact absurd (cl_16_3 hc) (by rw [hL]; decide)
          have h0 := (n_N14r18 h).2.gN hg
          rw [e0] at h0
          show Bx _ _ _ (bif L 16 then _ else _)
          rw [e0]
          exact h0⟩), d_13_14, (fun h => absurd (cl_8_3 h) (by rw [hL]; decide)), (fun h => absurd (cl_8_3 h) (by rw [hL]; decide)), (fun h => absurd (cl_8_3 h) (by rw [hL]; decide)), cl_15_13, cl_16_14, (fun _ => rfl), (fun _ => rfl), (fun _ => rfl), (fun _ => rfl), (fun _ => rfl), (fun _ => rfl), (fun _ => rfl), (fun _ => rfl), (fun _ => rfl), cl_9_8, cl_10_8, cl_15_8, (so s_93), (so s_94), (so s_95), (fun _ => Sv.self (by rw [zq]; decide) _), (so s_97), (so s_98), (so s_99), (fun h => absurd (cl_7_3 h) (by rw [hL]; decide)), (fun h => absurd (cl_8_3 h) (by rw [hL]; decide)), (fun h => absurd (cl_9_3 h) (by rw [hL]; decide)), (fun h => absurd (cl_10_3 h) (by rw [hL]; decide)), (fun h => absurd (cl_11_3 h) (by rw [hL]; decide)), (fun h => absurd (cl_12_3 h) (by rw [hL]; decide)), (so s_17), (so s_18), (fun h => absurd (cl_17_3 h) (by rw [hL]; decide))⟩
    | 4, _ =>
      obtain rfl := Option.some.inj (show some _ = some o from ho); clear ho
      have v6 := hF.sv (s := 6) (by kernel_rfl) (hA131.get (i := 6) (v := .pointer (some ⟨B10, 0, none⟩)))
      refine dj_val (i := 4) (v := .pointer (some ⟨B10, 1, none⟩)) rfl (.inl rfl) (fb_Disk_1 v6.eval _ rfl) ?_
      exact ⟨⟨_, rfl⟩, nA3r18, Ap8r18, cp8r18, Aj8r18, cj8r18, N13r18, N14r18, bl, sz, b_B10, b_B23, b_B56, p_0, p_1, p_2, p_3, p_4, p_5, n_N13r18, n_N14r18, d_13_14, o_8_0, o_8_1, nb_8_1_14, cl_15_13, cl_16_14, cl_7_3, cl_8_3, cl_9_3, cl_10_3, cl_15_3, cl_11_3, cl_16_3, cl_12_3, cl_17_3, cl_9_8, cl_10_8, cl_15_8, (so s_93), (so s_94), (so s_95), (so s_96), (fun _ => Sv.self (by rw [zq]; decide) _), (so s_98), (so s_99), (so s_100), (so s_101), (so s_92), (so s_102), (so s_103), (so s_104), (so s_17), (so s_18), (so s_19)⟩
    | 5, _ =>
      obtain rfl := Option.some.inj (show some _ = some o from ho); clear ho
      have v97 := s_97 (dp hdep 4)
      refine dj_val (i := 5) (v := .slice A2g g.js.length c2g) rfl (.inl rfl) (ev_cell (v := .slice A2g g.js.length c2g) v97.eval ((b_B10.cell 1).trans rfl) Try.underlying23 rfl _ rfl) ?_
      exact ⟨⟨_, rfl⟩, nA3r18, Ap8r18, cp8r18, Aj8r18, cj8r18, N13r18, N14r18, bl, sz, b_B10, b_B23, b_B56, p_0, p_1, p_2, p_3, p_4, p_5, n_N13r18, n_N14r18, d_13_14, o_8_0, o_8_1, nb_8_1_14, cl_15_13, cl_16_14, cl_7_3, cl_8_3, cl_9_3, cl_10_3, cl_15_3, cl_11_3, cl_16_3, cl_12_3, cl_17_3, cl_9_8, cl_10_8, cl_15_8, (so s_93), (so s_94), (so s_95), (so s_96), (so s_97), (fun _ => Sv.self (by rw [zq]; decide) _), (so s_99), (so s_100), (so s_101), (so s_92), (so s_102), (so s_103), (so s_104), (so s_17), (so s_18), (so s_19)⟩
    | 6, _ =>
      obtain rfl := Option.some.inj (show some _ = some o from ho); clear ho
      have v98 := s_98 (dp hdep 5)
      refine dj_val (i := 6) (v := .int .i64 (g.js.length : Int)) rfl (.inl rfl) (ev_len v98.eval Try.underlying23 _ rfl) ?_
      exact ⟨⟨_, rfl⟩, nA3r18, Ap8r18, cp8r18, Aj8r18, cj8r18, N13r18, N14r18, bl, sz, b_B10, b_B23, b_B56, p_0, p_1, p_2, p_3, p_4, p_5, n_N13r18, n_N14r18, d_13_14, o_8_0, o_8_1, nb_8_1_14, cl_15_13, cl_16_14, cl_7_3, cl_8_3, cl_9_3, cl_10_3, cl_15_3, cl_11_3, cl_16_3, cl_12_3, cl_17_3, cl_9_8, cl_10_8, cl_15_8, (so s_93), (so s_94), (so s_95), (so s_96), (so s_97), (so s_98), (fun _ => Sv.self (by rw [zq]; decide) _), (so s_100), (so s_101), (so s_92), (so s_102), (so s_103), (so s_104), (so s_17), (so s_18), (so s_19)⟩
    | 7, _ =>
      obtain rfl := Option.some.inj (show some _ = some o from ho); clear ho
      have v96 := s_96 (dp hdep 3)
      have v99 := s_99 (dp hdep 6)
      refine dj_call (i := 7) (f := 35) (args := #[.int .i64 nA3r18, .int .i64 (g.js.length : Int)]) rfl (.inl rfl) (ev_fn rfl (mp2 v96.eval v99.eval) (by kernel_rfl) _ rfl) (Mod_any nA3r18 (g.js.length : Int) _ (by omega) (by omega)) ?_
      intro e wk7 hR
      obtain ⟨rfl, hb7⟩ := hR
      refine ⟨_, rfl, ?_⟩
      have hg := g0 hb7
      exact ⟨⟨_, rfl⟩, nA3r18, Ap8r18, cp8r18, Aj8r18, cj8r18, N13r18, N14r18, (Below.gN bl hg bl.size), (Nat.le_trans sz hg.size), (b_B10.gN hg), (b_B23.gN hg), (b_B56.gN hg), (Own.gN p_0 hg), (Own.gN p_1 hg), (Own.gN p_2 hg), (Own.gN p_3 hg), (Own.gN p_4 hg), (Own.gN p_5 hg), (fun h => ⟨(n_N13r18 h).1, (n_N13r18 h).2.gN hg⟩), (fun h => ⟨(n_N14r18 h).1, (n_N14r18 h).2.gN hg⟩), d_13_14, (fun h => Own.gN (o_8_0 h) hg), (fun h => Own.gN (o_8_1 h) hg), nb_8_1_14, cl_15_13, cl_16_14, (fun _ => dp hdep 3), cl_8_3, cl_9_3, cl_10_3, cl_15_3, cl_11_3, cl_16_3, cl_12_3, cl_17_3, cl_9_8, cl_10_8, cl_15_8, (so s_93), (so s_94), (so s_95), (so s_96), (so s_97), (so s_98), (so s_99), (fun _ => Sv.self (by rw [zq]; decide) _), (so s_101), (so s_92), (so s_102), (so s_103), (so s_104), (so s_17), (so s_18), (so s_19)⟩
    | 8, _ =>
      obtain rfl := Option.some.inj (show some _ = some o from ho); clear ho
      have v93 := s_93 (dp hdep 0)
      have v100 := s_100 (dp hdep 7)
      refine dj_call (i := 8) (f := 17) (args := #[.agg #[.slice A1g g.cs.length c1g, .slice A2g g.js.length c2g, .int .i64 g.room], .int .i64 (nA3r18 % (g.js.length : Int))]) rfl (.inl rfl) (ev_fn rfl (mp2 v93.eval v100.eval) (by kernel_rfl) _ rfl) (Complete_any A1g c1g A2g c2g g.cs g.js g.room (nA3r18 % (g.js.length : Int)) _ ⟨(OwnR.gr (e := 28) ⟨rfl, p_3⟩), (OwnR.gr (e := 38) ⟨rfl, p_4⟩)⟩ (by omega) (by omega)) ?_
      intro e wk8 hR
      obtain ⟨Ap8r18, cp8r18, Aj8r18, cj8r18, rfl, hC8, hJ8, hb8⟩ := hR
      refine ⟨_, rfl, ?_⟩
      have hg := g0 hb8
      have hraw0 := hC8.2
      have hown0 := Own.mono (hC8.2) sz
      have hraw1 := hJ8.2
      have hown1 := Own.mono (hJ8.2) sz
      exact ⟨⟨_, rfl⟩, nA3r18, Ap8r18, cp8r18, Aj8r18, cj8r18, N13r18, N14r18, (Below.gN bl hg bl.size), (Nat.le_trans sz hg.size), (b_B10.gN hg), (b_B23.gN hg), (b_B56.gN hg), (Own.gN p_0 hg), (Own.gN p_1 hg), (Own.gN p_2 hg), (Own.gN p_3 hg), (Own.gN p_4 hg), (Own.gN p_5 hg), (fun h => ⟨(n_N13r18 h).1, by
          have e0 : L 15 = false := by
            cases hc : L 15
            · rfl
            · exact absurd (cl_15_8 hc) (by rw [hL]; decide)
          have h0 := (n_N13r18 h).2.gN hg
          rw [e0] at h0
          show Bx _ _ _ (bif L 15 then _ else _)
          rw [e0]
          exact h0⟩), (fun h => ⟨(n_N14r18 h).1, (n_N14r18 h).2.gN hg⟩), d_13_14, (fun _ => hown0), (fun _ => hown1), (fun _ h e => by have := (hraw1.lt _ e).1; have := (n_N14r18 h).2.lt; omega), cl_15_13, cl_16_14, cl_7_3, (fun _ => cl_7_3 (dp hdep 7)), cl_9_3, cl_10_3, cl_15_3, cl_11_3, cl_16_3, cl_12_3, cl_17_3, (fun _ => rfl), (fun _ => rfl), (fun _ => rfl), (so s_93), (so s_94), (so s_95), (so s_96), (so s_97), (so s_98), (so s_99), (so s_100), (fun _ => Sv.self (by rw [zq]; decide) _), (fun h => absurd (cl_9_8 h) (by rw [hL]; decide)), (fun h => absurd (cl_10_8 h) (by rw [hL]; decide)), (so s_103), (so s_104), (so s_17), (so s_18), (so s_19)⟩
    | 9, _ =>
      obtain rfl := Option.some.inj (show some _ = some o from ho); clear ho
      have v101 := s_101 (dp hdep 8)
      refine dj_val (i := 9) (v := .tuple #[.agg #[.slice Ap8r18 (cmp g (nA3r18 % (g.js.length : Int))).1.cs.length cp8r18, .slice Aj8r18 (cmp g (nA3r18 % (g.js.length : Int))).1.js.length cj8r18, .int .i64 (cmp g (nA3r18 % (g.js.length : Int))).1.room], .agg (cmp g (nA3r18 % (g.js.length : Int))).2.1.va, .int .i64 (cmp g (nA3r18 % (g.js.length : Int))).2.2]) rfl (.inl rfl) (ev_move v101.eval _ rfl) ?_
      exact ⟨⟨_, rfl⟩, nA3r18, Ap8r18, cp8r18, Aj8r18, cj8r18, N13r18, N14r18, bl, sz, b_B10, b_B23, b_B56, p_0, p_1, p_2, p_3, p_4, p_5, n_N13r18, n_N14r18, d_13_14, o_8_0, o_8_1, nb_8_1_14, cl_15_13, cl_16_14, cl_7_3, cl_8_3, (fun _ => cl_8_3 (dp hdep 8)), cl_10_3, cl_15_3, cl_11_3, cl_16_3, cl_12_3, cl_17_3, (fun _ => dp hdep 8), cl_10_8, cl_15_8, (so s_93), (so s_94), (so s_95), (so s_96), (so s_97), (so s_98), (so s_99), (so s_100), (so s_101), (fun _ => Sv.self (by rw [zq]; decide) _), (so s_102), (so s_103), (so s_104), (so s_17), (so s_18), (so s_19)⟩
    | 10, _ =>
      obtain rfl := Option.some.inj (show some _ = some o from ho); clear ho
      have v92 := s_92 (dp hdep 9)
      refine dj_val (i := 10) (v := .agg #[.slice Ap8r18 (cmp g (nA3r18 % (g.js.length : Int))).1.cs.length cp8r18, .slice Aj8r18 (cmp g (nA3r18 % (g.js.length : Int))).1.js.length cj8r18, .int .i64 (cmp g (nA3r18 % (g.js.length : Int))).1.room]) rfl (.inl rfl) (ev_ext v92.eval rfl _ rfl) ?_
      exact ⟨⟨_, rfl⟩, nA3r18, Ap8r18, cp8r18, Aj8r18, cj8r18, N13r18, N14r18, bl, sz, b_B10, b_B23, b_B56, p_0, p_1, p_2, p_3, p_4, p_5, n_N13r18, n_N14r18, d_13_14, o_8_0, o_8_1, nb_8_1_14, cl_15_13, cl_16_14, cl_7_3, cl_8_3, cl_9_3, (fun _ => cl_9_3 (dp hdep 9)), cl_15_3, cl_11_3, cl_16_3, cl_12_3, cl_17_3, cl_9_8, (fun _ => cl_9_8 (dp hdep 9)), cl_15_8, (so s_93), (so s_94), (so s_95), (so s_96), (so s_97), (so s_98), (so s_99), (so s_100), (so s_101), (so s_92), (fun _ => Sv.self (by rw [zq]; decide) _), (so s_103), (so s_104), (so s_17), (so s_18), (so s_19)⟩
    | 11, _ =>
      obtain rfl := Option.some.inj (show some _ = some o from ho); clear ho
      have v92 := s_92 (dp hdep 9)
      refine dj_val (i := 11) (v := .agg (cmp g (nA3r18 % (g.js.length : Int))).2.1.va) rfl (.inl rfl) (ev_ext v92.eval rfl _ rfl) ?_
      exact ⟨⟨_, rfl⟩, nA3r18, Ap8r18, cp8r18, Aj8r18, cj8r18, N13r18, N14r18, bl, sz, b_B10, b_B23, b_B56, p_0, p_1, p_2, p_3, p_4, p_5, n_N13r18, n_N14r18, d_13_14, o_8_0, o_8_1, nb_8_1_14, cl_15_13, cl_16_14, cl_7_3, cl_8_3, cl_9_3, cl_10_3, cl_15_3, (fun _ => cl_9_3 (dp hdep 9)), cl_16_3, cl_12_3, cl_17_3, cl_9_8, cl_10_8, cl_15_8, (so s_93), (so s_94), (so s_95), (so s_96), (so s_97), (so s_98), (so s_99), (so s_100), (so s_101), (so s_92), (so s_102), (fun _ => Sv.self (by rw [zq]; decide) _), (so s_104), (so s_17), (so s_18), (so s_19)⟩
    | 12, _ =>
      obtain rfl := Option.some.inj (show some _ = some o from ho); clear ho
      have v92 := s_92 (dp hdep 9)
      refine dj_val (i := 12) (v := .int .i64 (cmp g (nA3r18 % (g.js.length : Int))).2.2) rfl (.inl rfl) (ev_ext v92.eval rfl _ rfl) ?_
      exact ⟨⟨_, rfl⟩, nA3r18, Ap8r18, cp8r18, Aj8r18, cj8r18, N13r18, N14r18, bl, sz, b_B10, b_B23, b_B56, p_0, p_1, p_2, p_3, p_4, p_5, n_N13r18, n_N14r18, d_13_14, o_8_0, o_8_1, nb_8_1_14, cl_15_13, cl_16_14, cl_7_3, cl_8_3, cl_9_3, cl_10_3, cl_15_3, cl_11_3, cl_16_3, (fun _ => cl_9_3 (dp hdep 9)), cl_17_3, cl_9_8, cl_10_8, cl_15_8, (so s_93), (so s_94), (so s_95), (so s_96), (so s_97), (so s_98), (so s_99), (so s_100), (so s_101), (so s_92), (so s_102), (so s_103), (fun _ => Sv.self (by rw [zq]; decide) _), (so s_17), (so s_18), (so s_19)⟩
    | 13, _ =>
      obtain rfl := Option.some.inj (show some _ = some o from ho); clear ho
      refine dj_val (i := 13) rfl (.inl rfl) (w' := wc.alloc (.cells (#[.slice none 0 0, .slice none 0 0, .int .i64 0]) 25)) (v := .pointer (some ⟨wc.heap.size, 0, none⟩)) (ev_alloc (z := .agg (#[.slice none 0 0, .slice none 0 0, .int .i64 0])) (by kernel_rfl) (by kernel_rfl) _ rfl) ?_
      have hx := Bx.new wc 25 (#[.slice none 0 0, .slice none 0 0, .int .i64 0])
      have hg := g0 (al wc (.cells (#[.slice none 0 0, .slice none 0 0, .int .i64 0]) 25))
      have e0 : L 15 = false := by
        cases hc : L 15
        · rfl
        · exact absurd (cl_15_13 hc) (by rw [hL]; decide)
      replace hx : Bx (wc.alloc (.cells (#[.slice none 0 0, .slice none 0 0, .int .i64 0]) 25)) wc.heap.size 25 (bif L 15 then (#[.slice Ap8r18 (cmp g (nA3r18 % (g.js.length : Int))).1.cs.length cp8r18, .slice Aj8r18 (cmp g (nA3r18 % (g.js.length : Int))).1.js.length cj8r18, .int .i64 (cmp g (nA3r18 % (g.js.length : Int))).1.room]) else (#[.slice none 0 0, .slice none 0 0, .int .i64 0])) := by rw [e0]; exact hx
      exact ⟨⟨_, rfl⟩, nA3r18, Ap8r18, cp8r18, Aj8r18, cj8r18, wc.heap.size, N14r18, (Below.gN bl hg bl.size), (Nat.le_trans sz hg.size), (b_B10.gN hg), (b_B23.gN hg), (b_B56.gN hg), (Own.gN p_0 hg), (Own.gN p_1 hg), (Own.gN p_2 hg), (Own.gN p_3 hg), (Own.gN p_4 hg), (Own.gN p_5 hg), (fun _ => ⟨sz, hx⟩), (fun h => ⟨(n_N14r18 h).1, (n_N14r18 h).2.gN hg⟩), (fun _ h => by have := (n_N14r18 h).2.lt; omega), (fun h => Own.gN (o_8_0 h) hg), (fun h => Own.gN (o_8_1 h) hg), nb_8_1_14, (fun _ => rfl), cl_16_14, cl_7_3, cl_8_3, cl_9_3, cl_10_3, cl_15_3, cl_11_3, cl_16_3, cl_12_3, cl_17_3, cl_9_8, cl_10_8, cl_15_8, (so s_93), (so s_94), (so s_95), (so s_96), (so s_97), (so s_98), (so s_99), (so s_100), (so s_101), (so s_92), (so s_102), (so s_103), (so s_104), (fun _ => Sv.self (by rw [zq]; decide) _), (so s_18), (so s_19)⟩
    | 14, _ =>
      obtain rfl := Option.some.inj (show some _ = some o from ho); clear ho
      refine dj_val (i := 14) rfl (.inl rfl) (w' := wc.alloc (.cells Jb.zero.va 38)) (v := .pointer (some ⟨wc.heap.size, 0, none⟩)) (ev_alloc (z := .agg Jb.zero.va) (by kernel_rfl) (by kernel_rfl) _ rfl) ?_
      have hx := Bx.new wc 38 Jb.zero.va
      have hg := g0 (al wc (.cells Jb.zero.va 38))
      have e0 : L 16 = false := by
        cases hc : L 16
        · rfl
        · exact absurd (cl_16_14 hc) (by rw [hL]; decide)
      replace hx : Bx (wc.alloc (.cells Jb.zero.va 38)) wc.heap.size 38 (bif L 16 then (cmp g (nA3r18 % (g.js.length : Int))).2.1.va else Jb.zero.va) := by rw [e0]; exact hx
      exact ⟨⟨_, rfl⟩, nA3r18, Ap8r18, cp8r18, Aj8r18, cj8r18, N13r18, wc.heap.size, (Below.gN bl hg bl.size), (Nat.le_trans sz hg.size), (b_B10.gN hg), (b_B23.gN hg), (b_B56.gN hg), (Own.gN p_0 hg), (Own.gN p_1 hg), (Own.gN p_2 hg), (Own.gN p_3 hg), (Own.gN p_4 hg), (Own.gN p_5 hg), (fun h => ⟨(n_N13r18 h).1, (n_N13r18 h).2.gN hg⟩), (fun _ => ⟨sz, hx⟩), (fun h _ => by have := (n_N13r18 h).2.lt; omega), (fun h => Own.gN (o_8_0 h) hg), (fun h => Own.gN (o_8_1 h) hg), (fun h _ e => by have := ((o_8_1 h).lt _ e).2; omega), cl_15_13, (fun _ => rfl), cl_7_3, cl_8_3, cl_9_3, cl_10_3, cl_15_3, cl_11_3, cl_16_3, cl_12_3, cl_17_3, cl_9_8, cl_10_8, cl_15_8, (so s_93), (so s_94), (so s_95), (so s_96), (so s_97), (so s_98), (so s_99), (so s_100), (so s_101), (so s_92), (so s_102), (so s_103), (so s_104), (so s_17), (fun _ => Sv.self (by rw [zq]; decide) _), (so s_19)⟩
    | 15, _ =>
      obtain rfl := Option.some.inj (show some _ = some o from ho); clear ho
      have v17 := s_17 (dp hdep 13)
      have v102 := s_102 (dp hdep 10)
      have xN13r18 := (n_N13r18 (dp hdep 13)).2
      rw [hL] at xN13r18
      refine dj_skip (i := 15) rfl rfl (.inl rfl) (w' := wc.setRow N13r18 (#[.slice Ap8r18 (cmp g (nA3r18 % (g.js.length : Int))).1.cs.length cp8r18, .slice Aj8r18 (cmp g (nA3r18 % (g.js.length : Int))).1.js.length cj8r18, .int .i64 (cmp g (nA3r18 % (g.js.length : Int))).1.room])) (ev_srow v17.eval v102.eval xN13r18 (n := 3) (by kernel_rfl) rfl rfl (dk_one _ _ _ _ _ _ _) _ rfl) ?_
      have hg := grw xN13r18 (#[.slice Ap8r18 (cmp g (nA3r18 % (g.js.length : Int))).1.cs.length cp8r18, .slice Aj8r18 (cmp g (nA3r18 % (g.js.length : Int))).1.js.length cj8r18, .int .i64 (cmp g (nA3r18 % (g.js.length : Int))).1.room])
      have hx := xN13r18.row (#[.slice Ap8r18 (cmp g (nA3r18 % (g.js.length : Int))).1.cs.length cp8r18, .slice Aj8r18 (cmp g (nA3r18 % (g.js.length : Int))).1.js.length cj8r18, .int .i64 (cmp g (nA3r18 % (g.js.length : Int))).1.room])
      exact ⟨⟨undef, rfl⟩, nA3r18, Ap8r18, cp8r18, Aj8r18, cj8r18, N13r18, N14r18, (Below.gB bl hg bl.size (by have := (n_N13r18 (dp hdep 13)).1; omega)), (Nat.le_trans sz hg.size), (b_B10.gB hg (by have := (n_N13r18 (dp hdep 13)).1; omega)), (b_B23.gB hg (by have := (n_N13r18 (dp hdep 13)).1; omega)), (b_B56.gB hg (by have := (n_N13r18 (dp hdep 13)).1; omega)), (Own.gB p_0 hg hh14_0 (by have := (n_N13r18 (dp hdep 13)).1; omega)), (Own.gB p_1 hg hh14_1 (by have := (n_N13r18 (dp hdep 13)).1; omega)), (Own.gB p_2 hg hh14_2 (by have := (n_N13r18 (dp hdep 13)).1; omega)), (Own.gB p_3 hg hhA1g_90 (by have := (n_N13r18 (dp hdep 13)).1; omega)), (Own.gB p_4 hg hhA2g_90 (by have := (n_N13r18 (dp hdep 13)).1; omega)), (Own.gB p_5 hg hhAl_90 (by have := (n_N13r18 (dp hdep 13)).1; omega)), (fun h => ⟨(n_N13r18 h).1, hx⟩), (fun h => ⟨(n_N14r18 h).1, (n_N14r18 h).2.gB hg ((d_13_14 (dp hdep 13) h).symm)⟩), d_13_14, (fun h => Own.gBT (o_8_0 h) hg xN13r18 (by decide)), (fun h => Own.gBT (o_8_1 h) hg xN13r18 (by decide)), nb_8_1_14, (fun _ => dp hdep 13), cl_16_14, cl_7_3, cl_8_3, cl_9_3, cl_10_3, (fun _ => cl_10_3 (dp hdep 10)), cl_11_3, cl_16_3, cl_12_3, cl_17_3, cl_9_8, cl_10_8, (fun _ => cl_10_8 (dp hdep 10)), s_93, s_94, s_95, s_96, s_97, s_98, s_99, s_100, s_101, s_92, s_102, s_103, s_104, s_17, s_18, s_19⟩
    | 16, _ =>
      obtain rfl := Option.some.inj (show some _ = some o from ho); clear ho
      have v18 := s_18 (dp hdep 14)
      have v103 := s_103 (dp hdep 11)
      have xN14r18 := (n_N14r18 (dp hdep 14)).2
      rw [hL] at xN14r18
      refine dj_skip (i := 16) rfl rfl (.inl rfl) (w' := wc.setRow N14r18 (cmp g (nA3r18 % (g.js.length : Int))).2.1.va) (ev_srow v18.eval v103.eval xN14r18 (n := 11) (by kernel_rfl) rfl rfl (jb_one _) _ rfl) ?_
      have hg := grw xN14r18 (cmp g (nA3r18 % (g.js.length : Int))).2.1.va
      have hx := xN14r18.row (cmp g (nA3r18 % (g.js.length : Int))).2.1.va
      exact ⟨⟨undef, rfl⟩, nA3r18, Ap8r18, cp8r18, Aj8r18, cj8r18, N13r18, N14r18, (Below.gB bl hg bl.size (by have := (n_N14r18 (dp hdep 14)).1; omega)), (Nat.le_trans sz hg.size), (b_B10.gB hg (by have := (n_N14r18 (dp hdep 14)).1; omega)), (b_B23.gB hg (by have := (n_N14r18 (dp hdep 14)).1; omega)), (b_B56.gB hg (by have := (n_N14r18 (dp hdep 14)).1; omega)), (Own.gB p_0 hg hh14_0 (by have := (n_N14r18 (dp hdep 14)).1; omega)), (Own.gB p_1 hg hh14_1 (by have := (n_N14r18 (dp hdep 14)).1; omega)), (Own.gB p_2 hg hh14_2 (by have := (n_N14r18 (dp hdep 14)).1; omega)), (Own.gB p_3 hg hhA1g_90 (by have := (n_N14r18 (dp hdep 14)).1; omega)), (Own.gB p_4 hg hhA2g_90 (by have := (n_N14r18 (dp hdep 14)).1; omega)), (Own.gB p_5 hg hhAl_90 (by have := (n_N14r18 (dp hdep 14)).1; omega)), (fun h => ⟨(n_N13r18 h).1, (n_N13r18 h).2.gB hg (d_13_14 h (dp hdep 14))⟩), (fun h => ⟨(n_N14r18 h).1, hx⟩), d_13_14, (fun h => Own.gBT (o_8_0 h) hg xN14r18 (by decide)), (fun h => Own.kept (o_8_1 h) hg (.inr (nb_8_1_14 h (dp hdep 14)))), nb_8_1_14, cl_15_13, (fun _ => dp hdep 14), cl_7_3, cl_8_3, cl_9_3, cl_10_3, cl_15_3, cl_11_3, (fun _ => cl_11_3 (dp hdep 11)), cl_12_3, cl_17_3, cl_9_8, cl_10_8, cl_15_8, s_93, s_94, s_95, s_96, s_97, s_98, s_99, s_100, s_101, s_92, s_102, s_103, s_104, s_17, s_18, s_19⟩
    | 17, _ =>
      obtain rfl := Option.some.inj (show some _ = some o from ho); clear ho
      have v104 := s_104 (dp hdep 12)
      refine dj_val (i := 17) (v := .int .i64 (cmp g (nA3r18 % (g.js.length : Int))).2.2) rfl (.inl rfl) (ev_assign v104.eval _ rfl) ?_
      exact ⟨⟨_, rfl⟩, nA3r18, Ap8r18, cp8r18, Aj8r18, cj8r18, N13r18, N14r18, bl, sz, b_B10, b_B23, b_B56, p_0, p_1, p_2, p_3, p_4, p_5, n_N13r18, n_N14r18, d_13_14, o_8_0, o_8_1, nb_8_1_14, cl_15_13, cl_16_14, cl_7_3, cl_8_3, cl_9_3, cl_10_3, cl_15_3, cl_11_3, cl_16_3, cl_12_3, (fun _ => cl_12_3 (dp hdep 12)), cl_9_8, cl_10_8, cl_15_8, (so s_93), (so s_94), (so s_95), (so s_96), (so s_97), (so s_98), (so s_99), (so s_100), (so s_101), (so s_92), (so s_102), (so s_103), (so s_104), (so s_17), (so s_18), (fun _ => Sv.self (by rw [zq]; decide) _)⟩
    | k + 18, h => exact absurd h (by omega)
  · intro L hall ac132 wc132 hF hJ
    obtain ⟨nA3r18, Ap8r18, cp8r18, Aj8r18, cj8r18, N13r18, N14r18, bl, sz, b_B10, b_B23, b_B56, p_0, p_1, p_2, p_3, p_4, p_5, n_N13r18, n_N14r18, d_13_14, o_8_0, o_8_1, nb_8_1_14, cl_15_13, cl_16_14, cl_7_3, cl_8_3, cl_9_3, cl_10_3, cl_15_3, cl_11_3, cl_16_3, cl_12_3, cl_17_3, cl_9_8, cl_10_8, cl_15_8, s_93, s_94, s_95, s_96, s_97, s_98, s_99, s_100, s_101, s_92, s_102, s_103, s_104, s_17, s_18, s_19⟩ := hJ
    have hA132 : Ag ac132 172 [(1, .slice E ys.length ce), (5, .bool true), (6, .pointer (some ⟨B10, 0, none⟩)), (8, .pointer (some ⟨B23, 0, none⟩)), (9, .slice Al14 (all d).2.1.length cl14), (11, .pointer (some ⟨B56, 0, none⟩)), (15, .slice Al out.length cl), (16, .int .i64 (iN : Int)), (86, .pointer (some ⟨B10, 1, none⟩)), (87, .slice A2g g.js.length c2g), (88, .int .i64 (g.js.length : Int)), (89, .bool true), (93, .agg #[.slice A1g g.cs.length c1g, .slice A2g g.js.length c2g, .int .i64 g.room]), (94, .slice E ys.length ce), (95, .int .i64 (iN : Int)), (96, .int .i64 nA3r18), (97, .pointer (some ⟨B10, 1, none⟩)), (98, .slice A2g g.js.length c2g), (99, .int .i64 (g.js.length : Int)), (100, .int .i64 (nA3r18 % (g.js.length : Int))), (101, .tuple #[.agg #[.slice Ap8r18 (cmp g (nA3r18 % (g.js.length : Int))).1.cs.length cp8r18, .slice Aj8r18 (cmp g (nA3r18 % (g.js.length : Int))).1.js.length cj8r18, .int .i64 (cmp g (nA3r18 % (g.js.length : Int))).1.room], .agg (cmp g (nA3r18 % (g.js.length : Int))).2.1.va, .int .i64 (cmp g (nA3r18 % (g.js.length : Int))).2.2]), (92, .tuple #[.agg #[.slice Ap8r18 (cmp g (nA3r18 % (g.js.length : Int))).1.cs.length cp8r18, .slice Aj8r18 (cmp g (nA3r18 % (g.js.length : Int))).1.js.length cj8r18, .int .i64 (cmp g (nA3r18 % (g.js.length : Int))).1.room], .agg (cmp g (nA3r18 % (g.js.length : Int))).2.1.va, .int .i64 (cmp g (nA3r18 % (g.js.length : Int))).2.2]), (102, .agg #[.slice Ap8r18 (cmp g (nA3r18 % (g.js.length : Int))).1.cs.length cp8r18, .slice Aj8r18 (cmp g (nA3r18 % (g.js.length : Int))).1.js.length cj8r18, .int .i64 (cmp g (nA3r18 % (g.js.length : Int))).1.room]), (103, .agg (cmp g (nA3r18 % (g.js.length : Int))).2.1.va), (104, .int .i64 (cmp g (nA3r18 % (g.js.length : Int))).2.2), (17, .pointer (some ⟨N13r18, 0, none⟩)), (18, .pointer (some ⟨N14r18, 0, none⟩)), (19, .int .i64 (cmp g (nA3r18 % (g.js.length : Int))).2.2)] := (((((((((((((((((((((((((((((Ag.nil (hF.1.trans hA131.1) (hF.2.1.trans hA131.2.1)).cons (s_19 (hall 17 (by decide)))).cons (s_18 (hall 14 (by decide)))).cons (s_17 (hall 13 (by decide)))).cons (s_104 (hall 12 (by decide)))).cons (s_103 (hall 11 (by decide)))).cons (s_102 (hall 10 (by decide)))).cons (s_92 (hall 9 (by decide)))).cons (s_101 (hall 8 (by decide)))).cons (s_100 (hall 7 (by decide)))).cons (s_99 (hall 6 (by decide)))).cons (s_98 (hall 5 (by decide)))).cons (s_97 (hall 4 (by decide)))).cons (s_96 (hall 3 (by decide)))).cons (s_95 (hall 2 (by decide)))).cons (s_94 (hall 1 (by decide)))).cons (s_93 (hall 0 (by decide)))).cons (hF.sv (s := 89) (by kernel_rfl) (hA131.get (i := 89) (v := .bool true)))).cons (hF.sv (s := 88) (by kernel_rfl) (hA131.get (i := 88) (v := .int .i64 (g.js.length : Int))))).cons (hF.sv (s := 87) (by kernel_rfl) (hA131.get (i := 87) (v := .slice A2g g.js.length c2g)))).cons (hF.sv (s := 86) (by kernel_rfl) (hA131.get (i := 86) (v := .pointer (some ⟨B10, 1, none⟩))))).cons (hF.sv (s := 16) (by kernel_rfl) (hA131.get (i := 16) (v := .int .i64 (iN : Int))))).cons (hF.sv (s := 15) (by kernel_rfl) (hA131.get (i := 15) (v := .slice Al out.length cl)))).cons (hF.sv (s := 11) (by kernel_rfl) (hA131.get (i := 11) (v := .pointer (some ⟨B56, 0, none⟩))))).cons (hF.sv (s := 9) (by kernel_rfl) (hA131.get (i := 9) (v := .slice Al14 (all d).2.1.length cl14)))).cons (hF.sv (s := 8) (by kernel_rfl) (hA131.get (i := 8) (v := .pointer (some ⟨B23, 0, none⟩))))).cons (hF.sv (s := 6) (by kernel_rfl) (hA131.get (i := 6) (v := .pointer (some ⟨B10, 0, none⟩))))).cons (hF.sv (s := 5) (by kernel_rfl) (hA131.get (i := 5) (v := .bool true)))).cons (hF.sv (s := 1) (by kernel_rfl) (hA131.get (i := 1) (v := .slice E ys.length ce))))
    have bl132 := bl
    have sz132 := sz
    have b132_B10 := b_B10
    have b132_B23 := b_B23
    have b132_B56 := b_B56
    have p132_0 := p_0
    have p132_1 := p_1
    have p132_2 := p_2
    have p132_3 := p_3
    have p132_4 := p_4
    have p132_5 := p_5
    have n132_N13r18 := (n_N13r18 (hall 13 (by decide))).1
    have b132_N13r18 : Bx wc132 N13r18 25 (#[.slice Ap8r18 (cmp g (nA3r18 % (g.js.length : Int))).1.cs.length cp8r18, .slice Aj8r18 (cmp g (nA3r18 % (g.js.length : Int))).1.js.length cj8r18, .int .i64 (cmp g (nA3r18 % (g.js.length : Int))).1.room]) := by
      have h := (n_N13r18 (hall 13 (by decide))).2
      rw [hall 15 (by decide)] at h
      exact h
    have l132_N13r18 := b132_N13r18.lt
    have n132_N14r18 := (n_N14r18 (hall 14 (by decide))).1
    have b132_N14r18 : Bx wc132 N14r18 38 (cmp g (nA3r18 % (g.js.length : Int))).2.1.va := by
      have h := (n_N14r18 (hall 14 (by decide))).2
      rw [hall 16 (by decide)] at h
      exact h
    have l132_N14r18 := b132_N14r18.lt
    have d132_13_14 := d_13_14 (hall 13 (by decide)) (hall 14 (by decide))
    have o132_8_0 := o_8_0 (hall 8 (by decide))
    have hh132_8_0 := Own.hi o132_8_0
    have o132_8_1 := o_8_1 (hall 8 (by decide))
    have hh132_8_1 := Own.hi o132_8_1
    clear hF bl sz b_B10 b_B23 b_B56 p_0 p_1 p_2 p_3 p_4 p_5 n_N13r18 n_N14r18 d_13_14 o_8_0 o_8_1 nb_8_1_14 cl_15_13 cl_16_14 cl_7_3 cl_8_3 cl_9_3 cl_10_3 cl_15_3 cl_11_3 cl_16_3 cl_12_3 cl_17_3 cl_9_8 cl_10_8 cl_15_8 s_93 s_94 s_95 s_96 s_97 s_98 s_99 s_100 s_101 s_92 s_102 s_103 s_104 s_17 s_18 s_19 hall hA131
    refine then_n ?_
    refine wp_seq ?_
    refine wp_seq ?_
    refine wp_region_lit ?_
    refine sx_val hA132 rfl (ev_move (hA132.ev (i := 19) (v := .int .i64 (cmp g (nA3r18 % (g.js.length : Int))).2.2)) _ rfl) ?_
    intro a133 hA133; clear hA132
    obtain ⟨o1, o2, o3, o4, o5⟩ := ord_cmp q90_0 (n := nA3r18) (by omega) q90_1 q90_2
    refine sx_val (v := .bool false) hA133 rfl (ev_neqB (k := .i64) (m := (cmp g (nA3r18 % (g.js.length : Int))).2.2) (n := 0) (hA133.ev (i := 105)) (ec _ (.int .i64 0)) (by simpa using (by rw [o1] <;> rfl)) _ rfl) ?_
    intro a134 hA134; clear hA133
    refine sx_val hA134 rfl (ev_move (hA134.ev (i := 106) (v := .bool false)) _ rfl) ?_
    intro a135 hA135; clear hA134
    refine sx_val (hg := (.inr ⟨2, false, 107, rfl, rfl, by kernel_rfl⟩)) (v := .pointer (some ⟨N13r18, 1, none⟩)) hA135 rfl (fb_Disk_1 (hA135.ev (i := 17) (v := .pointer (some ⟨N13r18, 0, none⟩))) _ rfl) ?_
    intro a136 hA136; clear hA135
    refine sx_val (hg := (.inr ⟨2, false, 107, rfl, rfl, by kernel_rfl⟩)) (v := .slice Aj8r18 (cmp g (nA3r18 % (g.js.length : Int))).1.js.length cj8r18) hA136 rfl (ev_cell (v := .slice Aj8r18 (cmp g (nA3r18 % (g.js.length : Int))).1.js.length cj8r18) (hA136.ev (i := 108) (v := .pointer (some ⟨N13r18, 1, none⟩))) ((b132_N13r18.cell 1).trans rfl) Try.underlying23 rfl _ rfl) ?_
    intro a137 hA137; clear hA136
    refine sx_val (hg := (.inr ⟨2, false, 107, rfl, rfl, by kernel_rfl⟩)) (v := .int .i64 ((cmp g (nA3r18 % (g.js.length : Int))).1.js.length : Int)) hA137 rfl (ev_len (hA137.ev (i := 109) (v := .slice Aj8r18 (cmp g (nA3r18 % (g.js.length : Int))).1.js.length cj8r18)) Try.underlying23 _ rfl) ?_
    intro a138 hA138; clear hA137
    refine sx_val (hg := (.inr ⟨2, false, 107, rfl, rfl, by kernel_rfl⟩)) (v := .pointer (some ⟨B10, 1, none⟩)) hA138 rfl (fb_Disk_1 (hA138.ev (i := 6) (v := .pointer (some ⟨B10, 0, none⟩))) _ rfl) ?_
    intro a139 hA139; clear hA138
    refine sx_val (hg := (.inr ⟨2, false, 107, rfl, rfl, by kernel_rfl⟩)) (v := .slice A2g g.js.length c2g) hA139 rfl (ev_cell (v := .slice A2g g.js.length c2g) (hA139.ev (i := 111) (v := .pointer (some ⟨B10, 1, none⟩))) ((b132_B10.cell 1).trans rfl) Try.underlying23 rfl _ rfl) ?_
    intro a140 hA140; clear hA139
    refine sx_val (hg := (.inr ⟨2, false, 107, rfl, rfl, by kernel_rfl⟩)) (v := .int .i64 (g.js.length : Int)) hA140 rfl (ev_len (hA140.ev (i := 112) (v := .slice A2g g.js.length c2g)) Try.underlying23 _ rfl) ?_
    intro a141 hA141; clear hA140
    refine sx_val (hg := (.inr ⟨2, false, 107, rfl, rfl, by kernel_rfl⟩)) (v := .int .i64 ((g.js.length : Int) - 1)) hA141 rfl (ev_subR (k := .i64) (m := (g.js.length : Int)) (n := 1) (r := (g.js.length : Int) - 1) (hA141.ev (i := 113)) (ec _ (.int .i64 1)) (wr (by omega) (by omega) (by omega)) _ rfl) ?_
    intro a142 hA142; clear hA141
    refine sx_val (hg := (.inr ⟨2, false, 107, rfl, rfl, by kernel_rfl⟩)) (v := .bool false) hA142 rfl (ev_neqB (k := .i64) (m := ((cmp g (nA3r18 % (g.js.length : Int))).1.js.length : Int)) (n := (g.js.length : Int) - 1) (hA142.ev (i := 110)) (hA142.ev (i := 114)) (by simpa using (by omega)) _ rfl) ?_
    intro a143 hA143; clear hA142
    refine sx_val hA143 rfl (ev_pickF (hA143.ev (i := 107) (v := .bool false)) (hA143.ev (i := 115) (v := .bool false)) _ rfl) ?_
    intro a144 hA144; clear hA143
    refine sx_nil ?_
    refine then_n ?_
    refine wp_cond_false (hA144.ev (i := 116) (v := .bool false)) ?_
    refine wp_skip ?_
    refine then_n ?_
    refine wp_seq ?_
    refine wp_seq ?_
    refine wp_region_lit ?_
    refine sx_val hA144 rfl (ev_assign (ec _ (.int .i64 0)) _ rfl) ?_
    intro a145 hA145; clear hA144
    refine sx_nil ?_
    refine then_n ?_
    refine wp_block ?_
    refine wp_loop_ghost (fun n a wl => ∃ (k2 : Nat), n = 8 - k2 ∧ Ag a 172 [(1, .slice E ys.length ce), (5, .bool true), (6, .pointer (some ⟨B10, 0, none⟩)), (8, .pointer (some ⟨B23, 0, none⟩)), (9, .slice Al14 (all d).2.1.length cl14), (11, .pointer (some ⟨B56, 0, none⟩)), (15, .slice Al out.length cl), (16, .int .i64 (iN : Int)), (86, .pointer (some ⟨B10, 1, none⟩)), (87, .slice A2g g.js.length c2g), (88, .int .i64 (g.js.length : Int)), (89, .bool true), (93, .agg #[.slice A1g g.cs.length c1g, .slice A2g g.js.length c2g, .int .i64 g.room]), (94, .slice E ys.length ce), (95, .int .i64 (iN : Int)), (96, .int .i64 nA3r18), (97, .pointer (some ⟨B10, 1, none⟩)), (98, .slice A2g g.js.length c2g), (99, .int .i64 (g.js.length : Int)), (100, .int .i64 (nA3r18 % (g.js.length : Int))), (101, .tuple #[.agg #[.slice Ap8r18 (cmp g (nA3r18 % (g.js.length : Int))).1.cs.length cp8r18, .slice Aj8r18 (cmp g (nA3r18 % (g.js.length : Int))).1.js.length cj8r18, .int .i64 (cmp g (nA3r18 % (g.js.length : Int))).1.room], .agg (cmp g (nA3r18 % (g.js.length : Int))).2.1.va, .int .i64 (cmp g (nA3r18 % (g.js.length : Int))).2.2]), (92, .tuple #[.agg #[.slice Ap8r18 (cmp g (nA3r18 % (g.js.length : Int))).1.cs.length cp8r18, .slice Aj8r18 (cmp g (nA3r18 % (g.js.length : Int))).1.js.length cj8r18, .int .i64 (cmp g (nA3r18 % (g.js.length : Int))).1.room], .agg (cmp g (nA3r18 % (g.js.length : Int))).2.1.va, .int .i64 (cmp g (nA3r18 % (g.js.length : Int))).2.2]), (102, .agg #[.slice Ap8r18 (cmp g (nA3r18 % (g.js.length : Int))).1.cs.length cp8r18, .slice Aj8r18 (cmp g (nA3r18 % (g.js.length : Int))).1.js.length cj8r18, .int .i64 (cmp g (nA3r18 % (g.js.length : Int))).1.room]), (103, .agg (cmp g (nA3r18 % (g.js.length : Int))).2.1.va), (104, .int .i64 (cmp g (nA3r18 % (g.js.length : Int))).2.2), (17, .pointer (some ⟨N13r18, 0, none⟩)), (18, .pointer (some ⟨N14r18, 0, none⟩)), (19, .int .i64 (cmp g (nA3r18 % (g.js.length : Int))).2.2), (105, .int .i64 (cmp g (nA3r18 % (g.js.length : Int))).2.2), (106, .bool false), (107, .bool false), (108, .pointer (some ⟨N13r18, 1, none⟩)), (109, .slice Aj8r18 (cmp g (nA3r18 % (g.js.length : Int))).1.js.length cj8r18), (110, .int .i64 ((cmp g (nA3r18 % (g.js.length : Int))).1.js.length : Int)), (111, .pointer (some ⟨B10, 1, none⟩)), (112, .slice A2g g.js.length c2g), (113, .int .i64 (g.js.length : Int)), (114, .int .i64 ((g.js.length : Int) - 1)), (115, .bool false), (116, .bool false), (20, .int .i64 (k2 : Int))] ∧ k2 ≤ 8 ∧ Bx wl B10 25 #[.slice A1g g.cs.length c1g, .slice A2g g.js.length c2g, .int .i64 g.room] ∧ Bx wl B23 25 #[.slice Ap14 (all d).1.cs.length cp14, .slice Aj14 (all d).1.js.length cj14, .int .i64 (all d).1.room] ∧ Bx wl B56 61 (flat Ct.va ls).toArray ∧ Bx wl N13r18 25 #[.slice Ap8r18 (cmp g (nA3r18 % (g.js.length : Int))).1.cs.length cp8r18, .slice Aj8r18 (cmp g (nA3r18 % (g.js.length : Int))).1.js.length cj8r18, .int .i64 (cmp g (nA3r18 % (g.js.length : Int))).1.room] ∧ Bx wl N14r18 38 (cmp g (nA3r18 % (g.js.length : Int))).2.1.va ∧ Own wl (w11.heap.size) 28 8 (.slice Ap14 (all d).1.cs.length cp14) (all d).1.cs.length (flat Ct.va (all d).1.cs) ∧ Own wl (w11.heap.size) 38 11 (.slice Aj14 (all d).1.js.length cj14) (all d).1.js.length (flat Jb.va (all d).1.js) ∧ Own wl (w11.heap.size) 38 11 (.slice Al14 (all d).2.1.length cl14) (all d).2.1.length (flat Jb.va (all d).2.1) ∧ Own wl (w2.heap.size) 28 8 (.slice A1g g.cs.length c1g) g.cs.length (flat Ct.va g.cs) ∧ Own wl (w2.heap.size) 38 11 (.slice A2g g.js.length c2g) g.js.length (flat Jb.va g.js) ∧ Own wl (w58.heap.size) 38 11 (.slice Al out.length cl) out.length (flat Jb.va out) ∧ Own wl (w90.heap.size) 28 8 (.slice Ap8r18 (cmp g (nA3r18 % (g.js.length : Int))).1.cs.length cp8r18) (cmp g (nA3r18 % (g.js.length : Int))).1.cs.length (flat Ct.va (cmp g (nA3r18 % (g.js.length : Int))).1.cs) ∧ Own wl (w90.heap.size) 38 11 (.slice Aj8r18 (cmp g (nA3r18 % (g.js.length : Int))).1.js.length cj8r18) (cmp g (nA3r18 % (g.js.length : Int))).1.js.length (flat Jb.va (cmp g (nA3r18 % (g.js.length : Int))).1.js) ∧ wc132.heap.size ≤ wl.heap.size ∧ Below w.heap.size w wl) (8 - 0) ⟨0, rfl, ((((((((((((((((((((((((((((((((((((((((((Ag.nil hA145.1 hA145.2.1).cons (hA145.get (i := 20) (v := .int .i64 0))).cons (hA145.get (i := 116) (v := .bool false))).cons (hA145.get (i := 115) (v := .bool false))).cons (hA145.get (i := 114) (v := .int .i64 ((g.js.length : Int) - 1)))).cons (hA145.get (i := 113) (v := .int .i64 (g.js.length : Int)))).cons (hA145.get (i := 112) (v := .slice A2g g.js.length c2g))).cons (hA145.get (i := 111) (v := .pointer (some ⟨B10, 1, none⟩)))).cons (hA145.get (i := 110) (v := .int .i64 ((cmp g (nA3r18 % (g.js.length : Int))).1.js.length : Int)))).cons (hA145.get (i := 109) (v := .slice Aj8r18 (cmp g (nA3r18 % (g.js.length : Int))).1.js.length cj8r18))).cons (hA145.get (i := 108) (v := .pointer (some ⟨N13r18, 1, none⟩)))).cons (hA145.get (i := 107) (v := .bool false))).cons (hA145.get (i := 106) (v := .bool false))).cons (hA145.get (i := 105) (v := .int .i64 (cmp g (nA3r18 % (g.js.length : Int))).2.2))).cons (hA145.get (i := 19) (v := .int .i64 (cmp g (nA3r18 % (g.js.length : Int))).2.2))).cons (hA145.get (i := 18) (v := .pointer (some ⟨N14r18, 0, none⟩)))).cons (hA145.get (i := 17) (v := .pointer (some ⟨N13r18, 0, none⟩)))).cons (hA145.get (i := 104) (v := .int .i64 (cmp g (nA3r18 % (g.js.length : Int))).2.2))).cons (hA145.get (i := 103) (v := .agg (cmp g (nA3r18 % (g.js.length : Int))).2.1.va))).cons (hA145.get (i := 102) (v := .agg #[.slice Ap8r18 (cmp g (nA3r18 % (g.js.length : Int))).1.cs.length cp8r18, .slice Aj8r18 (cmp g (nA3r18 % (g.js.length : Int))).1.js.length cj8r18, .int .i64 (cmp g (nA3r18 % (g.js.length : Int))).1.room]))).cons (hA145.get (i := 92) (v := .tuple #[.agg #[.slice Ap8r18 (cmp g (nA3r18 % (g.js.length : Int))).1.cs.length cp8r18, .slice Aj8r18 (cmp g (nA3r18 % (g.js.length : Int))).1.js.length cj8r18, .int .i64 (cmp g (nA3r18 % (g.js.length : Int))).1.room], .agg (cmp g (nA3r18 % (g.js.length : Int))).2.1.va, .int .i64 (cmp g (nA3r18 % (g.js.length : Int))).2.2]))).cons (hA145.get (i := 101) (v := .tuple #[.agg #[.slice Ap8r18 (cmp g (nA3r18 % (g.js.length : Int))).1.cs.length cp8r18, .slice Aj8r18 (cmp g (nA3r18 % (g.js.length : Int))).1.js.length cj8r18, .int .i64 (cmp g (nA3r18 % (g.js.length : Int))).1.room], .agg (cmp g (nA3r18 % (g.js.length : Int))).2.1.va, .int .i64 (cmp g (nA3r18 % (g.js.length : Int))).2.2]))).cons (hA145.get (i := 100) (v := .int .i64 (nA3r18 % (g.js.length : Int))))).cons (hA145.get (i := 99) (v := .int .i64 (g.js.length : Int)))).cons (hA145.get (i := 98) (v := .slice A2g g.js.length c2g))).cons (hA145.get (i := 97) (v := .pointer (some ⟨B10, 1, none⟩)))).cons (hA145.get (i := 96) (v := .int .i64 nA3r18))).cons (hA145.get (i := 95) (v := .int .i64 (iN : Int)))).cons (hA145.get (i := 94) (v := .slice E ys.length ce))).cons (hA145.get (i := 93) (v := .agg #[.slice A1g g.cs.length c1g, .slice A2g g.js.length c2g, .int .i64 g.room]))).cons (hA145.get (i := 89) (v := .bool true))).cons (hA145.get (i := 88) (v := .int .i64 (g.js.length : Int)))).cons (hA145.get (i := 87) (v := .slice A2g g.js.length c2g))).cons (hA145.get (i := 86) (v := .pointer (some ⟨B10, 1, none⟩)))).cons (hA145.get (i := 16) (v := .int .i64 (iN : Int)))).cons (hA145.get (i := 15) (v := .slice Al out.length cl))).cons (hA145.get (i := 11) (v := .pointer (some ⟨B56, 0, none⟩)))).cons (hA145.get (i := 9) (v := .slice Al14 (all d).2.1.length cl14))).cons (hA145.get (i := 8) (v := .pointer (some ⟨B23, 0, none⟩)))).cons (hA145.get (i := 6) (v := .pointer (some ⟨B10, 0, none⟩)))).cons (hA145.get (i := 5) (v := .bool true))).cons (hA145.get (i := 1) (v := .slice E ys.length ce))), Nat.zero_le _, b132_B10, b132_B23, b132_B56, b132_N13r18, b132_N14r18, p132_0, p132_1, p132_2, p132_3, p132_4, p132_5, o132_8_0, o132_8_1, Nat.le_refl _, bl132⟩ ?_
    intro n146 a146 w146 hI146
    obtain ⟨k2, hn146, hA146, q146_0, f146_0, f146_1, f146_2, f146_3, f146_4, f146_5, f146_6, f146_7, f146_8, f146_9, f146_10, f146_11, f146_12, hsz146, hbel146⟩ := hI146
    subst hn146
    clear hA145
    have hlB10_146 := f146_0.lt
    have hlB23_146 := f146_1.lt
    have hlB56_146 := f146_2.lt
    have hlN13r18_146 := f146_3.lt
    have hlN14r18_146 := f146_4.lt
    cases hd147 : decide ((k2 : Int) < 8)
    · have hp147 := of_decide_eq_false hd147
      refine wp_seq ?_
      refine wp_seq ?_
      refine wp_region_lit ?_
      refine sx_val hA146 rfl (ev_move (hA146.ev (i := 20) (v := .int .i64 (k2 : Int))) _ rfl) ?_
      intro a148 hA148; clear hA146
      refine sx_val (v := .bool false) hA148 rfl (ev_lssB (k := .i64) (m := (k2 : Int)) (n := 8) (hA148.ev (i := 117)) (ec _ (.int .i64 8)) hd147 _ rfl) ?_
      intro a149 hA149; clear hA148
      refine sx_nil ?_
      refine then_n ?_
      refine wp_cond_false (hA149.ev (i := 118) (v := .bool false)) ?_
      refine wp_exit ?_
      refine then_x ?_
      refine then_x ?_
      refine blk_hit ?_
      refine then_n ?_
      refine wp_seq ?_
      refine wp_region_lit ?_
      refine sx_val hA149 rfl (ev_move (hA149.ev (i := 15) (v := .slice Al out.length cl)) _ rfl) ?_
      intro a150 hA150; clear hA149
      refine sx_val (v := .agg (cmp g (nA3r18 % (g.js.length : Int))).2.1.va) hA150 rfl (ev_row (hA150.ev (i := 18) (v := .pointer (some ⟨N14r18, 0, none⟩))) f146_4 Try.underlying38 rfl (n := 11) (by kernel_rfl) rfl _ rfl) ?_
      intro a151 hA151; clear hA150
      refine sx_bs (n := 1) (cs := (cmp g (nA3r18 % (g.js.length : Int))).2.1.va) (e := 38) hA151 rfl (by decide) (.inl rfl) (bs1_Job (hA151.ev (i := 137) (v := .agg (cmp g (nA3r18 % (g.js.length : Int))).2.1.va)) _ rfl) ?_
      intro B152 w152 a152 hB152 hx152 hg152 hA152
      clear hA151
      have hs152 := hg152.size
      have hl152 := hx152.lt
      have f146_154 := Own.gN f146_10 hg152
      refine sx_app (va := Jb.va) (l1 := out) (l2 := [(cmp g (nA3r18 % (g.js.length : Int))).2.1]) (z := .agg Jb.zero.va) (size := 11) (bytes := 88) hA152 rfl (by decide) (.inl rfl) rfl (hA152.ev (i := 136) (v := .slice Al out.length cl)) (hA152.ev (i := 138) (v := .slice (some ⟨B152, 0, none⟩) 1 1)) rfl rfl Try.underlying23 (by kernel_rfl) rfl (by decide) jb_one (base := w58.heap.size) f146_154 (Sl.bx1 (va := Jb.va) (x := (cmp g (nA3r18 % (g.js.length : Int))).2.1) hx152 (jb_sz _)) (by omega) (by decide) (by omega) ?_
      intro A153 c153 w153 a153 ho153 hg153 hA153
      clear hA152
      have hs153 := hg153.size
      have hh153 := Own.hi ho153
      replace ho153 : Own w153 (w58.heap.size) 38 11 (.slice A153 (out ++ [(cmp g (nA3r18 % (g.js.length : Int))).2.1]).length c153) (out ++ [(cmp g (nA3r18 % (g.js.length : Int))).2.1]).length (flat Jb.va (out ++ [(cmp g (nA3r18 % (g.js.length : Int))).2.1])) := ho153
      refine sx_val hA153 rfl (ev_assign (hA153.ev (i := 139) (v := .slice A153 (out ++ [(cmp g (nA3r18 % (g.js.length : Int))).2.1]).length c153)) _ rfl) ?_
      intro a155 hA155; clear hA153
      refine sx_nil ?_
      refine then_n ?_
      refine wp_region_lit ?_
      have f146_156 := f146_3.gN hg152
      have f146_157 := f146_156.gOT hg153 f146_154 (by decide)
      refine sx_val (v := .agg #[.slice Ap8r18 (cmp g (nA3r18 % (g.js.length : Int))).1.cs.length cp8r18, .slice Aj8r18 (cmp g (nA3r18 % (g.js.length : Int))).1.js.length cj8r18, .int .i64 (cmp g (nA3r18 % (g.js.length : Int))).1.room]) hA155 rfl (ev_row (hA155.ev (i := 17) (v := .pointer (some ⟨N13r18, 0, none⟩))) f146_157 Try.underlying25 rfl (n := 3) (by kernel_rfl) rfl _ rfl) ?_
      intro a158 hA158; clear hA155
      have f146_160 := f146_0.gN hg152
      have f146_161 := f146_160.gOT hg153 f146_154 (by decide)
      refine sx_store hA158 rfl (.inl rfl) rfl (hA158.ev (i := 6) (v := .pointer (some ⟨B10, 0, none⟩))) (hA158.ev (i := 140) (v := .agg #[.slice Ap8r18 (cmp g (nA3r18 % (g.js.length : Int))).1.cs.length cp8r18, .slice Aj8r18 (cmp g (nA3r18 % (g.js.length : Int))).1.js.length cj8r18, .int .i64 (cmp g (nA3r18 % (g.js.length : Int))).1.room])) f146_161 (by kernel_rfl) rfl (dk_one _ _ _ _ _ _ _) ?_
      intro w159 hx159 hg159
      have hs159 := hg159.size
      refine sx_nil ?_
      refine blk_n ?_
      refine then_n ?_
      refine wp_region_lit ?_
      refine sx_val hA158 rfl (ev_move (hA158.ev (i := 16) (v := .int .i64 (iN : Int))) _ rfl) ?_
      intro a162 hA162; clear hA158
      refine sx_val (v := .int .i64 ((iN + 1 : Nat) : Int)) hA162 rfl (ev_addR (k := .i64) (m := (iN : Int)) (n := 1) (r := ((iN + 1 : Nat) : Int)) (hA162.ev (i := 90)) (ec _ (.int .i64 1)) (wr (by omega) (by omega) (by omega)) _ rfl) ?_
      intro a163 hA163; clear hA162
      refine sx_val hA163 rfl (ev_assign (hA163.ev (i := 91) (v := .int .i64 ((iN + 1 : Nat) : Int))) _ rfl) ?_
      intro a164 hA164; clear hA163
      refine sx_nil ?_
      refine then_n ?_
      have f146_165 := Own.gN f146_11 hg152
      have f146_166 := Own.gOT f146_165 hg153 f146_154 (by decide)
      have f146_167 := Own.gBT f146_166 hg159 f146_161 (by decide)
      have f146_168 := Own.gN f146_12 hg152
      have f146_169 := Own.gO f146_168 hg153 f146_154 hh132_8_1 hhAl_90 (by omega)
      have f146_170 := Own.gBT f146_169 hg159 f146_161 (by decide)
      have ho153_171 := Own.gBT ho153 hg159 f146_161 (by decide)
      have f146_172 := f146_1.gN hg152
      have f146_173 := f146_172.gOT hg153 f146_154 (by decide)
      have f146_174 := f146_173.gB hg159 (by omega)
      have f146_175 := f146_2.gN hg152
      have f146_176 := f146_175.gOT hg153 f146_154 (by decide)
      have f146_177 := f146_176.gB hg159 (by omega)
      have f146_178 := Own.gN f146_5 hg152
      have f146_179 := Own.gOT f146_178 hg153 f146_154 (by decide)
      have f146_180 := Own.gBT f146_179 hg159 f146_161 (by decide)
      have f146_181 := Own.gN f146_6 hg152
      have f146_182 := Own.gO f146_181 hg153 f146_154 hh14_1 hhAl_90 (by omega)
      have f146_183 := Own.gBT f146_182 hg159 f146_161 (by decide)
      have f146_184 := Own.gN f146_7 hg152
      have f146_185 := Own.gO f146_184 hg153 f146_154 hh14_2 hhAl_90 (by omega)
      have f146_186 := Own.gBT f146_185 hg159 f146_161 (by decide)
      have hbel146_187 := Below.gN hbel146 hg152 hbel146.size
      have hbel146_188 := Below.gO hbel146_187 hg153 f146_154 hbel146_187.size (by omega)
      have hbel146_189 := Below.gB hbel146_188 hg159 hbel146_188.size (by omega)
      refine ⟨(cmp g (nA3r18 % (g.js.length : Int))).1.js.length, by omega, (cmp g (nA3r18 % (g.js.length : Int))).1, (out ++ [(cmp g (nA3r18 % (g.js.length : Int))).2.1]), Ap8r18, cp8r18, Aj8r18, cj8r18, A153, c153, iN + 1, rfl, (((((((((Ag.nil hA164.1 hA164.2.1).cons (hA164.get (i := 16) (v := .int .i64 ((iN + 1 : Nat) : Int)))).cons (hA164.get (i := 15) (v := .slice A153 (out ++ [(cmp g (nA3r18 % (g.js.length : Int))).2.1]).length c153))).cons (hA164.get (i := 11) (v := .pointer (some ⟨B56, 0, none⟩)))).cons (hA164.get (i := 9) (v := .slice Al14 (all d).2.1.length cl14))).cons (hA164.get (i := 8) (v := .pointer (some ⟨B23, 0, none⟩)))).cons (hA164.get (i := 6) (v := .pointer (some ⟨B10, 0, none⟩)))).cons (hA164.get (i := 5) (v := .bool true))).cons (hA164.get (i := 1) (v := .slice E ys.length ce))), o2, o4, o5, by simp; omega, by simp; omega, hx159, f146_174, f146_177, f146_180, f146_183, f146_186, (Own.mono f146_167 (by omega)), (Own.mono f146_170 (by omega)), (Own.mono ho153_171 (by omega)), by omega, hbel146_189⟩
    have hp147 := of_decide_eq_true hd147
    have hx8 := (o2).n
    have hx6 := D86.jl o2
    have hlx := ord_lat (x := (cmp g (nA3r18 % (g.js.length : Int))).1) o2 (k := k2) (by omega) o4 (q58_2 k2 (by omega))
    refine wp_seq ?_
    refine wp_seq ?_
    refine wp_region_lit ?_
    refine sx_val hA146 rfl (ev_move (hA146.ev (i := 20) (v := .int .i64 (k2 : Int))) _ rfl) ?_
    intro a190 hA190; clear hA146
    refine sx_val (v := .bool true) hA190 rfl (ev_lssB (k := .i64) (m := (k2 : Int)) (n := 8) (hA190.ev (i := 117)) (ec _ (.int .i64 8)) hd147 _ rfl) ?_
    intro a191 hA191; clear hA190
    refine sx_nil ?_
    refine then_n ?_
    refine wp_cond_true (hA191.ev (i := 118) (v := .bool true)) ?_
    refine wp_skip ?_
    refine then_n ?_
    refine wp_seq ?_
    refine wp_block ?_
    refine wp_seq ?_
    refine wp_region_lit ?_
    refine sx_val (v := .agg #[.slice Ap8r18 (cmp g (nA3r18 % (g.js.length : Int))).1.cs.length cp8r18, .slice Aj8r18 (cmp g (nA3r18 % (g.js.length : Int))).1.js.length cj8r18, .int .i64 (cmp g (nA3r18 % (g.js.length : Int))).1.room]) hA191 rfl (ev_row (hA191.ev (i := 17) (v := .pointer (some ⟨N13r18, 0, none⟩))) f146_3 Try.underlying25 rfl (n := 3) (by kernel_rfl) rfl _ rfl) ?_
    intro a192 hA192; clear hA191
    refine sx_val hA192 rfl (ev_move (hA192.ev (i := 20) (v := .int .i64 (k2 : Int))) _ rfl) ?_
    intro a193 hA193; clear hA192
    refine sx_call (f := 30) (args := #[.agg #[.slice Ap8r18 (cmp g (nA3r18 % (g.js.length : Int))).1.cs.length cp8r18, .slice Aj8r18 (cmp g (nA3r18 % (g.js.length : Int))).1.js.length cj8r18, .int .i64 (cmp g (nA3r18 % (g.js.length : Int))).1.room], .int .i64 (k2 : Int)]) hA193 rfl (by decide) (.inl rfl) (ev_fn rfl (mp2 (hA193.ev (i := 122) (v := .agg #[.slice Ap8r18 (cmp g (nA3r18 % (g.js.length : Int))).1.cs.length cp8r18, .slice Aj8r18 (cmp g (nA3r18 % (g.js.length : Int))).1.js.length cj8r18, .int .i64 (cmp g (nA3r18 % (g.js.length : Int))).1.room])) (hA193.ev (i := 123) (v := .int .i64 (k2 : Int)))) (by kernel_rfl) _ rfl) (Later_any Ap8r18 cp8r18 Aj8r18 cj8r18 (cmp g (nA3r18 % (g.js.length : Int))).1.cs (cmp g (nA3r18 % (g.js.length : Int))).1.js (cmp g (nA3r18 % (g.js.length : Int))).1.room (k2 : Int) _ ⟨(OwnR.gr (e := 28) ⟨rfl, f146_11⟩), (OwnR.gr (e := 38) ⟨rfl, f146_12⟩)⟩ (by omega) (by omega)) ?_
    intro e194 w194 hR194
    obtain ⟨rfl, hb194⟩ := hR194
    refine ⟨_, rfl, ?_⟩
    intro a194 hA194
    clear hA193
    have hg194 := g0 hb194
    have hs194 := hg194.size
    clear hb194
    refine sx_val hA194 rfl (ev_move (hA194.ev (i := 124) (v := .tuple #[.agg (lat (cmp g (nA3r18 % (g.js.length : Int))).1 (k2 : Int)).1.va, .int .i64 (lat (cmp g (nA3r18 % (g.js.length : Int))).1 (k2 : Int)).2])) _ rfl) ?_
    intro a195 hA195; clear hA194
    refine sx_val (v := .agg (lat (cmp g (nA3r18 % (g.js.length : Int))).1 (k2 : Int)).1.va) hA195 rfl (ev_ext (hA195.ev (i := 121) (v := .tuple #[.agg (lat (cmp g (nA3r18 % (g.js.length : Int))).1 (k2 : Int)).1.va, .int .i64 (lat (cmp g (nA3r18 % (g.js.length : Int))).1 (k2 : Int)).2])) rfl _ rfl) ?_
    intro a196 hA196; clear hA195
    refine sx_val (v := .int .i64 (lat (cmp g (nA3r18 % (g.js.length : Int))).1 (k2 : Int)).2) hA196 rfl (ev_ext (hA196.ev (i := 121) (v := .tuple #[.agg (lat (cmp g (nA3r18 % (g.js.length : Int))).1 (k2 : Int)).1.va, .int .i64 (lat (cmp g (nA3r18 % (g.js.length : Int))).1 (k2 : Int)).2])) rfl _ rfl) ?_
    intro a197 hA197; clear hA196
    refine sx_new (cs := Ct.zero.va) (t := 28) hA197 rfl (by decide) (.inl rfl) (ev_alloc (z := .agg Ct.zero.va) (by kernel_rfl) (by kernel_rfl) _ rfl) ?_
    intro B198 w198 a198 hB198 hx198 hg198 hA198
    clear hA197
    have hs198 := hg198.size
    have hl198 := hx198.lt
    refine sx_store hA198 rfl (.inl rfl) rfl (hA198.ev (i := 21) (v := .pointer (some ⟨B198, 0, none⟩))) (hA198.ev (i := 125) (v := .agg (lat (cmp g (nA3r18 % (g.js.length : Int))).1 (k2 : Int)).1.va)) hx198 (by kernel_rfl) rfl (ct_one _) ?_
    intro w199 hx199 hg199
    have hs199 := hg199.size
    refine sx_val hA198 rfl (ev_assign (hA198.ev (i := 126) (v := .int .i64 (lat (cmp g (nA3r18 % (g.js.length : Int))).1 (k2 : Int)).2)) _ rfl) ?_
    intro a200 hA200; clear hA198
    refine sx_nil ?_
    refine then_n ?_
    refine wp_seq ?_
    have f146_201 := f146_0.gN hg194
    have f146_202 := f146_201.gN hg198
    have f146_203 := f146_202.gB hg199 (by omega)
    have f146_204 := f146_1.gN hg194
    have f146_205 := f146_204.gN hg198
    have f146_206 := f146_205.gB hg199 (by omega)
    have f146_207 := f146_2.gN hg194
    have f146_208 := f146_207.gN hg198
    have f146_209 := f146_208.gB hg199 (by omega)
    have f146_210 := f146_3.gN hg194
    have f146_211 := f146_210.gN hg198
    have f146_212 := f146_211.gB hg199 (by omega)
    have f146_213 := f146_4.gN hg194
    have f146_214 := f146_213.gN hg198
    have f146_215 := f146_214.gB hg199 (by omega)
    have f146_216 := Own.gN f146_5 hg194
    have f146_217 := Own.gN f146_216 hg198
    have f146_218 := Own.gB f146_217 hg199 hh14_0 (by omega)
    have f146_219 := Own.gN f146_6 hg194
    have f146_220 := Own.gN f146_219 hg198
    have f146_221 := Own.gBT f146_220 hg199 hx198 (by decide)
    have f146_222 := Own.gN f146_7 hg194
    have f146_223 := Own.gN f146_222 hg198
    have f146_224 := Own.gBT f146_223 hg199 hx198 (by decide)
    have f146_225 := Own.gN f146_8 hg194
    have f146_226 := Own.gN f146_225 hg198
    have f146_227 := Own.gB f146_226 hg199 hhA1g_90 (by omega)
    have f146_228 := Own.gN f146_9 hg194
    have f146_229 := Own.gN f146_228 hg198
    have f146_230 := Own.gBT f146_229 hg199 hx198 (by decide)
    have f146_231 := Own.gN f146_10 hg194
    have f146_232 := Own.gN f146_231 hg198
    have f146_233 := Own.gBT f146_232 hg199 hx198 (by decide)
    have f146_234 := Own.gN f146_11 hg194
    have f146_235 := Own.gN f146_234 hg198
    have f146_236 := Own.gB f146_235 hg199 hh132_8_0 (by omega)
    have f146_237 := Own.gN f146_12 hg194
    have f146_238 := Own.gN f146_237 hg198
    have f146_239 := Own.gBT f146_238 hg199 hx198 (by decide)
    have hbel146_240 := Below.gN hbel146 hg194 hbel146.size
    have hbel146_241 := Below.gN hbel146_240 hg198 hbel146_240.size
    have hbel146_242 := Below.gB hbel146_241 hg199 hbel146_241.size (by omega)
    refine region_D (n := 9) (by kernel_rfl) (by kernel_rfl) rfl (fun L ac wc => Below w.heap.size w wc ∧ w199.heap.size ≤ wc.heap.size ∧ Bx wc B10 25 (#[.slice A1g g.cs.length c1g, .slice A2g g.js.length c2g, .int .i64 g.room]) ∧ Bx wc B23 25 (#[.slice Ap14 (all d).1.cs.length cp14, .slice Aj14 (all d).1.js.length cj14, .int .i64 (all d).1.room]) ∧ Bx wc B56 61 (flat Ct.va ls).toArray ∧ Bx wc N13r18 25 (#[.slice Ap8r18 (cmp g (nA3r18 % (g.js.length : Int))).1.cs.length cp8r18, .slice Aj8r18 (cmp g (nA3r18 % (g.js.length : Int))).1.js.length cj8r18, .int .i64 (cmp g (nA3r18 % (g.js.length : Int))).1.room]) ∧ Bx wc N14r18 38 (cmp g (nA3r18 % (g.js.length : Int))).2.1.va ∧ Bx wc B198 28 (lat (cmp g (nA3r18 % (g.js.length : Int))).1 (k2 : Int)).1.va ∧ Own wc (w11.heap.size) 28 8 (.slice Ap14 (all d).1.cs.length cp14) (all d).1.cs.length (flat Ct.va (all d).1.cs) ∧ Own wc (w11.heap.size) 38 11 (.slice Aj14 (all d).1.js.length cj14) (all d).1.js.length (flat Jb.va (all d).1.js) ∧ Own wc (w11.heap.size) 38 11 (.slice Al14 (all d).2.1.length cl14) (all d).2.1.length (flat Jb.va (all d).2.1) ∧ Own wc (w2.heap.size) 28 8 (.slice A1g g.cs.length c1g) g.cs.length (flat Ct.va g.cs) ∧ Own wc (w2.heap.size) 38 11 (.slice A2g g.js.length c2g) g.js.length (flat Jb.va g.js) ∧ Own wc (w58.heap.size) 38 11 (.slice Al out.length cl) out.length (flat Jb.va out) ∧ Own wc (w90.heap.size) 28 8 (.slice Ap8r18 (cmp g (nA3r18 % (g.js.length : Int))).1.cs.length cp8r18) (cmp g (nA3r18 % (g.js.length : Int))).1.cs.length (flat Ct.va (cmp g (nA3r18 % (g.js.length : Int))).1.cs) ∧ Own wc (w90.heap.size) 38 11 (.slice Aj8r18 (cmp g (nA3r18 % (g.js.length : Int))).1.js.length cj8r18) (cmp g (nA3r18 % (g.js.length : Int))).1.js.length (flat Jb.va (cmp g (nA3r18 % (g.js.length : Int))).1.js) ∧ (L 0 = true → Sv ac 127 (.int .i64 (lat (cmp g (nA3r18 % (g.js.length : Int))).1 (k2 : Int)).2)) ∧ (L 1 = true → Sv ac 128 (.bool false)) ∧ (L 2 = true → Sv ac 129 (.bool false)) ∧ (L 3 = true → Sv ac 130 (.agg (lat (cmp g (nA3r18 % (g.js.length : Int))).1 (k2 : Int)).1.va)) ∧ (L 4 = true → Sv ac 131 (.int .i64 (k2 : Int))) ∧ (L 5 = true → Sv ac 132 (.pointer (some ((⟨B56, 0, none⟩ : Addr).add (k2 * 8))))) ∧ (L 6 = true → Sv ac 133 (.agg (lat (cmp g (nA3r18 % (g.js.length : Int))).1 (k2 : Int)).1.va)) ∧ (L 7 = true → Sv ac 134 (.bool false)) ∧ (L 8 = true → Sv ac 135 (.bool false))) ⟨(Below.gN hbel146_242 (gdr _) hbel146_242.size), (Nat.le_refl _), (f146_203.gN (gdr _)), (f146_206.gN (gdr _)), (f146_209.gN (gdr _)), (f146_212.gN (gdr _)), (f146_215.gN (gdr _)), (hx199.gN (gdr _)), (Own.gN f146_218 (gdr _)), (Own.gN f146_221 (gdr _)), (Own.gN f146_224 (gdr _)), (Own.gN f146_227 (gdr _)), (Own.gN f146_230 (gdr _)), (Own.gN f146_233 (gdr _)), (Own.gN f146_236 (gdr _)), (Own.gN f146_239 (gdr _)), (fun h => by cases h), (fun h => by cases h), (fun h => by cases h), (fun h => by cases h), (fun h => by cases h), (fun h => by cases h), (fun h => by cases h), (fun h => by cases h), (fun h => by cases h)⟩ ?_ ?_
    · intro iq hiq o ho L hL hdep ac wc hF hJ
      obtain ⟨bl, sz, b_B10, b_B23, b_B56, b_N13r18, b_N14r18, b_B198, p_0, p_1, p_2, p_3, p_4, p_5, p_6, p_7, s_127, s_128, s_129, s_130, s_131, s_132, s_133, s_134, s_135⟩ := hJ
      have zq := hF.1.trans hA200.1
      match iq, hiq with
      | 0, _ =>
        obtain rfl := Option.some.inj (show some _ = some o from ho); clear ho
        have v22 := hF.sv (s := 22) (by kernel_rfl) (hA200.get (i := 22) (v := .int .i64 (lat (cmp g (nA3r18 % (g.js.length : Int))).1 (k2 : Int)).2))
        refine dj_val (i := 0) (v := .int .i64 (lat (cmp g (nA3r18 % (g.js.length : Int))).1 (k2 : Int)).2) rfl (.inl rfl) (ev_move v22.eval _ rfl) ?_
        exact ⟨⟨_, rfl⟩, bl, sz, b_B10, b_B23, b_B56, b_N13r18, b_N14r18, b_B198, p_0, p_1, p_2, p_3, p_4, p_5, p_6, p_7, (fun _ => Sv.self (by rw [zq]; decide) _), (so s_128), (so s_129), (so s_130), (so s_131), (so s_132), (so s_133), (so s_134), (so s_135)⟩
      | 1, _ =>
        obtain rfl := Option.some.inj (show some _ = some o from ho); clear ho
        have v127 := s_127 (dp hdep 0)
        refine dj_val (i := 1) (v := .bool false) rfl (.inl rfl) (ev_neqB (k := .i64) (m := (lat (cmp g (nA3r18 % (g.js.length : Int))).1 (k2 : Int)).2) (n := 0) v127.eval (ec ac (.int .i64 0)) (by simpa using (by rw [hlx.1] <;> rfl)) _ rfl) ?_
        exact ⟨⟨_, rfl⟩, bl, sz, b_B10, b_B23, b_B56, b_N13r18, b_N14r18, b_B198, p_0, p_1, p_2, p_3, p_4, p_5, p_6, p_7, (so s_127), (fun _ => Sv.self (by rw [zq]; decide) _), (so s_129), (so s_130), (so s_131), (so s_132), (so s_133), (so s_134), (so s_135)⟩
      | 2, _ =>
        obtain rfl := Option.some.inj (show some _ = some o from ho); clear ho
        have v128 := s_128 (dp hdep 1)
        refine dj_val (i := 2) (v := .bool false) rfl (.inl rfl) (ev_move v128.eval _ rfl) ?_
        exact ⟨⟨_, rfl⟩, bl, sz, b_B10, b_B23, b_B56, b_N13r18, b_N14r18, b_B198, p_0, p_1, p_2, p_3, p_4, p_5, p_6, p_7, (so s_127), (so s_128), (fun _ => Sv.self (by rw [zq]; decide) _), (so s_130), (so s_131), (so s_132), (so s_133), (so s_134), (so s_135)⟩
      | 3, _ =>
        obtain rfl := Option.some.inj (show some _ = some o from ho); clear ho
        have v129 := s_129 (dp hdep 2)
        have v21 := hF.sv (s := 21) (by kernel_rfl) (hA200.get (i := 21) (v := .pointer (some ⟨B198, 0, none⟩)))
        refine dj_val (i := 3) (v := .agg (lat (cmp g (nA3r18 % (g.js.length : Int))).1 (k2 : Int)).1.va) rfl (.inr ⟨2, false, 129, rfl, by kernel_rfl, v129⟩) (ev_row v21.eval b_B198 Try.underlying28 rfl (n := 8) (by kernel_rfl) rfl _ rfl) ?_
        exact ⟨⟨_, rfl⟩, bl, sz, b_B10, b_B23, b_B56, b_N13r18, b_N14r18, b_B198, p_0, p_1, p_2, p_3, p_4, p_5, p_6, p_7, (so s_127), (so s_128), (so s_129), (fun _ => Sv.self (by rw [zq]; decide) _), (so s_131), (so s_132), (so s_133), (so s_134), (so s_135)⟩
      | 4, _ =>
        obtain rfl := Option.some.inj (show some _ = some o from ho); clear ho
        have v129 := s_129 (dp hdep 2)
        have v20 := hF.sv (s := 20) (by kernel_rfl) (hA200.get (i := 20) (v := .int .i64 (k2 : Int)))
        refine dj_val (i := 4) (v := .int .i64 (k2 : Int)) rfl (.inr ⟨2, false, 129, rfl, by kernel_rfl, v129⟩) (ev_move v20.eval _ rfl) ?_
        exact ⟨⟨_, rfl⟩, bl, sz, b_B10, b_B23, b_B56, b_N13r18, b_N14r18, b_B198, p_0, p_1, p_2, p_3, p_4, p_5, p_6, p_7, (so s_127), (so s_128), (so s_129), (so s_130), (fun _ => Sv.self (by rw [zq]; decide) _), (so s_132), (so s_133), (so s_134), (so s_135)⟩
      | 5, _ =>
        obtain rfl := Option.some.inj (show some _ = some o from ho); clear ho
        have v129 := s_129 (dp hdep 2)
        have v11 := hF.sv (s := 11) (by kernel_rfl) (hA200.get (i := 11) (v := .pointer (some ⟨B56, 0, none⟩)))
        have v131 := s_131 (dp hdep 4)
        refine dj_val (i := 5) (v := .pointer (some ((⟨B56, 0, none⟩ : Addr).add (k2 * 8)))) rfl (.inr ⟨2, false, 129, rfl, by kernel_rfl, v129⟩) (ev_idxP (k := k2) v11.eval v131.eval rfl (by omega) Try.underlying61 (by kernel_rfl) _ rfl) ?_
        exact ⟨⟨_, rfl⟩, bl, sz, b_B10, b_B23, b_B56, b_N13r18, b_N14r18, b_B198, p_0, p_1, p_2, p_3, p_4, p_5, p_6, p_7, (so s_127), (so s_128), (so s_129), (so s_130), (so s_131), (fun _ => Sv.self (by rw [zq]; decide) _), (so s_133), (so s_134), (so s_135)⟩
      | 6, _ =>
        obtain rfl := Option.some.inj (show some _ = some o from ho); clear ho
        have v129 := s_129 (dp hdep 2)
        have v132 := s_132 (dp hdep 5)
        refine dj_val (i := 6) (v := .agg (lat (cmp g (nA3r18 % (g.js.length : Int))).1 (k2 : Int)).1.va) rfl (.inr ⟨2, false, 129, rfl, by kernel_rfl, v129⟩) (ev_loadR (cs := (lat (cmp g (nA3r18 % (g.js.length : Int))).1 (k2 : Int)).1.va) (n := 8) v132.eval (Bx.el b_B56 ct_sz hlx.2) Try.underlying28 rfl (by kernel_rfl) rfl _ rfl) ?_
        exact ⟨⟨_, rfl⟩, bl, sz, b_B10, b_B23, b_B56, b_N13r18, b_N14r18, b_B198, p_0, p_1, p_2, p_3, p_4, p_5, p_6, p_7, (so s_127), (so s_128), (so s_129), (so s_130), (so s_131), (so s_132), (fun _ => Sv.self (by rw [zq]; decide) _), (so s_134), (so s_135)⟩
      | 7, _ =>
        obtain rfl := Option.some.inj (show some _ = some o from ho); clear ho
        have v129 := s_129 (dp hdep 2)
        have v130 := s_130 (dp hdep 3)
        have v133 := s_133 (dp hdep 6)
        refine dj_val (i := 7) (v := .bool false) rfl (.inr ⟨2, false, 129, rfl, by kernel_rfl, v129⟩) (ev_neCB (a := (lat (cmp g (nA3r18 % (g.js.length : Int))).1 (k2 : Int)).1) (b := (lat (cmp g (nA3r18 % (g.js.length : Int))).1 (k2 : Int)).1) (r := false) v130.eval v133.eval (by simp) _ rfl) ?_
        exact ⟨⟨_, rfl⟩, bl, sz, b_B10, b_B23, b_B56, b_N13r18, b_N14r18, b_B198, p_0, p_1, p_2, p_3, p_4, p_5, p_6, p_7, (so s_127), (so s_128), (so s_129), (so s_130), (so s_131), (so s_132), (so s_133), (fun _ => Sv.self (by rw [zq]; decide) _), (so s_135)⟩
      | 8, _ =>
        obtain rfl := Option.some.inj (show some _ = some o from ho); clear ho
        have v129 := s_129 (dp hdep 2)
        have v134 := s_134 (dp hdep 7)
        refine dj_val (i := 8) (v := .bool false) rfl (.inl rfl) (ev_pickF v129.eval v134.eval _ rfl) ?_
        exact ⟨⟨_, rfl⟩, bl, sz, b_B10, b_B23, b_B56, b_N13r18, b_N14r18, b_B198, p_0, p_1, p_2, p_3, p_4, p_5, p_6, p_7, (so s_127), (so s_128), (so s_129), (so s_130), (so s_131), (so s_132), (so s_133), (so s_134), (fun _ => Sv.self (by rw [zq]; decide) _)⟩
      | k + 9, h => exact absurd h (by omega)
    · intro L hall ac243 wc243 hF hJ
      obtain ⟨bl, sz, b_B10, b_B23, b_B56, b_N13r18, b_N14r18, b_B198, p_0, p_1, p_2, p_3, p_4, p_5, p_6, p_7, s_127, s_128, s_129, s_130, s_131, s_132, s_133, s_134, s_135⟩ := hJ
      have hA243 : Ag ac243 172 [(1, .slice E ys.length ce), (5, .bool true), (6, .pointer (some ⟨B10, 0, none⟩)), (8, .pointer (some ⟨B23, 0, none⟩)), (9, .slice Al14 (all d).2.1.length cl14), (11, .pointer (some ⟨B56, 0, none⟩)), (15, .slice Al out.length cl), (16, .int .i64 (iN : Int)), (86, .pointer (some ⟨B10, 1, none⟩)), (87, .slice A2g g.js.length c2g), (88, .int .i64 (g.js.length : Int)), (89, .bool true), (93, .agg #[.slice A1g g.cs.length c1g, .slice A2g g.js.length c2g, .int .i64 g.room]), (94, .slice E ys.length ce), (95, .int .i64 (iN : Int)), (96, .int .i64 nA3r18), (97, .pointer (some ⟨B10, 1, none⟩)), (98, .slice A2g g.js.length c2g), (99, .int .i64 (g.js.length : Int)), (100, .int .i64 (nA3r18 % (g.js.length : Int))), (101, .tuple #[.agg #[.slice Ap8r18 (cmp g (nA3r18 % (g.js.length : Int))).1.cs.length cp8r18, .slice Aj8r18 (cmp g (nA3r18 % (g.js.length : Int))).1.js.length cj8r18, .int .i64 (cmp g (nA3r18 % (g.js.length : Int))).1.room], .agg (cmp g (nA3r18 % (g.js.length : Int))).2.1.va, .int .i64 (cmp g (nA3r18 % (g.js.length : Int))).2.2]), (92, .tuple #[.agg #[.slice Ap8r18 (cmp g (nA3r18 % (g.js.length : Int))).1.cs.length cp8r18, .slice Aj8r18 (cmp g (nA3r18 % (g.js.length : Int))).1.js.length cj8r18, .int .i64 (cmp g (nA3r18 % (g.js.length : Int))).1.room], .agg (cmp g (nA3r18 % (g.js.length : Int))).2.1.va, .int .i64 (cmp g (nA3r18 % (g.js.length : Int))).2.2]), (102, .agg #[.slice Ap8r18 (cmp g (nA3r18 % (g.js.length : Int))).1.cs.length cp8r18, .slice Aj8r18 (cmp g (nA3r18 % (g.js.length : Int))).1.js.length cj8r18, .int .i64 (cmp g (nA3r18 % (g.js.length : Int))).1.room]), (103, .agg (cmp g (nA3r18 % (g.js.length : Int))).2.1.va), (104, .int .i64 (cmp g (nA3r18 % (g.js.length : Int))).2.2), (17, .pointer (some ⟨N13r18, 0, none⟩)), (18, .pointer (some ⟨N14r18, 0, none⟩)), (19, .int .i64 (cmp g (nA3r18 % (g.js.length : Int))).2.2), (105, .int .i64 (cmp g (nA3r18 % (g.js.length : Int))).2.2), (106, .bool false), (107, .bool false), (108, .pointer (some ⟨N13r18, 1, none⟩)), (109, .slice Aj8r18 (cmp g (nA3r18 % (g.js.length : Int))).1.js.length cj8r18), (110, .int .i64 ((cmp g (nA3r18 % (g.js.length : Int))).1.js.length : Int)), (111, .pointer (some ⟨B10, 1, none⟩)), (112, .slice A2g g.js.length c2g), (113, .int .i64 (g.js.length : Int)), (114, .int .i64 ((g.js.length : Int) - 1)), (115, .bool false), (116, .bool false), (20, .int .i64 (k2 : Int)), (117, .int .i64 (k2 : Int)), (118, .bool true), (122, .agg #[.slice Ap8r18 (cmp g (nA3r18 % (g.js.length : Int))).1.cs.length cp8r18, .slice Aj8r18 (cmp g (nA3r18 % (g.js.length : Int))).1.js.length cj8r18, .int .i64 (cmp g (nA3r18 % (g.js.length : Int))).1.room]), (123, .int .i64 (k2 : Int)), (124, .tuple #[.agg (lat (cmp g (nA3r18 % (g.js.length : Int))).1 (k2 : Int)).1.va, .int .i64 (lat (cmp g (nA3r18 % (g.js.length : Int))).1 (k2 : Int)).2]), (121, .tuple #[.agg (lat (cmp g (nA3r18 % (g.js.length : Int))).1 (k2 : Int)).1.va, .int .i64 (lat (cmp g (nA3r18 % (g.js.length : Int))).1 (k2 : Int)).2]), (125, .agg (lat (cmp g (nA3r18 % (g.js.length : Int))).1 (k2 : Int)).1.va), (126, .int .i64 (lat (cmp g (nA3r18 % (g.js.length : Int))).1 (k2 : Int)).2), (21, .pointer (some ⟨B198, 0, none⟩)), (22, .int .i64 (lat (cmp g (nA3r18 % (g.js.length : Int))).1 (k2 : Int)).2), (127, .int .i64 (lat (cmp g (nA3r18 % (g.js.length : Int))).1 (k2 : Int)).2), (128, .bool false), (129, .bool false), (130, .agg (lat (cmp g (nA3r18 % (g.js.length : Int))).1 (k2 : Int)).1.va), (131, .int .i64 (k2 : Int)), (132, .pointer (some ((⟨B56, 0, none⟩ : Addr).add (k2 * 8)))), (133, .agg (lat (cmp g (nA3r18 % (g.js.length : Int))).1 (k2 : Int)).1.va), (134, .bool false), (135, .bool false)] := (((((((((((((((((((((((((((((((((((((((((((((((((((((((((((((Ag.nil (hF.1.trans hA200.1) (hF.2.1.trans hA200.2.1)).cons (s_135 (hall 8 (by decide)))).cons (s_134 (hall 7 (by decide)))).cons (s_133 (hall 6 (by decide)))).cons (s_132 (hall 5 (by decide)))).cons (s_131 (hall 4 (by decide)))).cons (s_130 (hall 3 (by decide)))).cons (s_129 (hall 2 (by decide)))).cons (s_128 (hall 1 (by decide)))).cons (s_127 (hall 0 (by decide)))).cons (hF.sv (s := 22) (by kernel_rfl) (hA200.get (i := 22) (v := .int .i64 (lat (cmp g (nA3r18 % (g.js.length : Int))).1 (k2 : Int)).2)))).cons (hF.sv (s := 21) (by kernel_rfl) (hA200.get (i := 21) (v := .pointer (some ⟨B198, 0, none⟩))))).cons (hF.sv (s := 126) (by kernel_rfl) (hA200.get (i := 126) (v := .int .i64 (lat (cmp g (nA3r18 % (g.js.length : Int))).1 (k2 : Int)).2)))).cons (hF.sv (s := 125) (by kernel_rfl) (hA200.get (i := 125) (v := .agg (lat (cmp g (nA3r18 % (g.js.length : Int))).1 (k2 : Int)).1.va)))).cons (hF.sv (s := 121) (by kernel_rfl) (hA200.get (i := 121) (v := .tuple #[.agg (lat (cmp g (nA3r18 % (g.js.length : Int))).1 (k2 : Int)).1.va, .int .i64 (lat (cmp g (nA3r18 % (g.js.length : Int))).1 (k2 : Int)).2])))).cons (hF.sv (s := 124) (by kernel_rfl) (hA200.get (i := 124) (v := .tuple #[.agg (lat (cmp g (nA3r18 % (g.js.length : Int))).1 (k2 : Int)).1.va, .int .i64 (lat (cmp g (nA3r18 % (g.js.length : Int))).1 (k2 : Int)).2])))).cons (hF.sv (s := 123) (by kernel_rfl) (hA200.get (i := 123) (v := .int .i64 (k2 : Int))))).cons (hF.sv (s := 122) (by kernel_rfl) (hA200.get (i := 122) (v := .agg #[.slice Ap8r18 (cmp g (nA3r18 % (g.js.length : Int))).1.cs.length cp8r18, .slice Aj8r18 (cmp g (nA3r18 % (g.js.length : Int))).1.js.length cj8r18, .int .i64 (cmp g (nA3r18 % (g.js.length : Int))).1.room])))).cons (hF.sv (s := 118) (by kernel_rfl) (hA200.get (i := 118) (v := .bool true)))).cons (hF.sv (s := 117) (by kernel_rfl) (hA200.get (i := 117) (v := .int .i64 (k2 : Int))))).cons (hF.sv (s := 20) (by kernel_rfl) (hA200.get (i := 20) (v := .int .i64 (k2 : Int))))).cons (hF.sv (s := 116) (by kernel_rfl) (hA200.get (i := 116) (v := .bool false)))).cons (hF.sv (s := 115) (by kernel_rfl) (hA200.get (i := 115) (v := .bool false)))).cons (hF.sv (s := 114) (by kernel_rfl) (hA200.get (i := 114) (v := .int .i64 ((g.js.length : Int) - 1))))).cons (hF.sv (s := 113) (by kernel_rfl) (hA200.get (i := 113) (v := .int .i64 (g.js.length : Int))))).cons (hF.sv (s := 112) (by kernel_rfl) (hA200.get (i := 112) (v := .slice A2g g.js.length c2g)))).cons (hF.sv (s := 111) (by kernel_rfl) (hA200.get (i := 111) (v := .pointer (some ⟨B10, 1, none⟩))))).cons (hF.sv (s := 110) (by kernel_rfl) (hA200.get (i := 110) (v := .int .i64 ((cmp g (nA3r18 % (g.js.length : Int))).1.js.length : Int))))).cons (hF.sv (s := 109) (by kernel_rfl) (hA200.get (i := 109) (v := .slice Aj8r18 (cmp g (nA3r18 % (g.js.length : Int))).1.js.length cj8r18)))).cons (hF.sv (s := 108) (by kernel_rfl) (hA200.get (i := 108) (v := .pointer (some ⟨N13r18, 1, none⟩))))).cons (hF.sv (s := 107) (by kernel_rfl) (hA200.get (i := 107) (v := .bool false)))).cons (hF.sv (s := 106) (by kernel_rfl) (hA200.get (i := 106) (v := .bool false)))).cons (hF.sv (s := 105) (by kernel_rfl) (hA200.get (i := 105) (v := .int .i64 (cmp g (nA3r18 % (g.js.length : Int))).2.2)))).cons (hF.sv (s := 19) (by kernel_rfl) (hA200.get (i := 19) (v := .int .i64 (cmp g (nA3r18 % (g.js.length : Int))).2.2)))).cons (hF.sv (s := 18) (by kernel_rfl) (hA200.get (i := 18) (v := .pointer (some ⟨N14r18, 0, none⟩))))).cons (hF.sv (s := 17) (by kernel_rfl) (hA200.get (i := 17) (v := .pointer (some ⟨N13r18, 0, none⟩))))).cons (hF.sv (s := 104) (by kernel_rfl) (hA200.get (i := 104) (v := .int .i64 (cmp g (nA3r18 % (g.js.length : Int))).2.2)))).cons (hF.sv (s := 103) (by kernel_rfl) (hA200.get (i := 103) (v := .agg (cmp g (nA3r18 % (g.js.length : Int))).2.1.va)))).cons (hF.sv (s := 102) (by kernel_rfl) (hA200.get (i := 102) (v := .agg #[.slice Ap8r18 (cmp g (nA3r18 % (g.js.length : Int))).1.cs.length cp8r18, .slice Aj8r18 (cmp g (nA3r18 % (g.js.length : Int))).1.js.length cj8r18, .int .i64 (cmp g (nA3r18 % (g.js.length : Int))).1.room])))).cons (hF.sv (s := 92) (by kernel_rfl) (hA200.get (i := 92) (v := .tuple #[.agg #[.slice Ap8r18 (cmp g (nA3r18 % (g.js.length : Int))).1.cs.length cp8r18, .slice Aj8r18 (cmp g (nA3r18 % (g.js.length : Int))).1.js.length cj8r18, .int .i64 (cmp g (nA3r18 % (g.js.length : Int))).1.room], .agg (cmp g (nA3r18 % (g.js.length : Int))).2.1.va, .int .i64 (cmp g (nA3r18 % (g.js.length : Int))).2.2])))).cons (hF.sv (s := 101) (by kernel_rfl) (hA200.get (i := 101) (v := .tuple #[.agg #[.slice Ap8r18 (cmp g (nA3r18 % (g.js.length : Int))).1.cs.length cp8r18, .slice Aj8r18 (cmp g (nA3r18 % (g.js.length : Int))).1.js.length cj8r18, .int .i64 (cmp g (nA3r18 % (g.js.length : Int))).1.room], .agg (cmp g (nA3r18 % (g.js.length : Int))).2.1.va, .int .i64 (cmp g (nA3r18 % (g.js.length : Int))).2.2])))).cons (hF.sv (s := 100) (by kernel_rfl) (hA200.get (i := 100) (v := .int .i64 (nA3r18 % (g.js.length : Int)))))).cons (hF.sv (s := 99) (by kernel_rfl) (hA200.get (i := 99) (v := .int .i64 (g.js.length : Int))))).cons (hF.sv (s := 98) (by kernel_rfl) (hA200.get (i := 98) (v := .slice A2g g.js.length c2g)))).cons (hF.sv (s := 97) (by kernel_rfl) (hA200.get (i := 97) (v := .pointer (some ⟨B10, 1, none⟩))))).cons (hF.sv (s := 96) (by kernel_rfl) (hA200.get (i := 96) (v := .int .i64 nA3r18)))).cons (hF.sv (s := 95) (by kernel_rfl) (hA200.get (i := 95) (v := .int .i64 (iN : Int))))).cons (hF.sv (s := 94) (by kernel_rfl) (hA200.get (i := 94) (v := .slice E ys.length ce)))).cons (hF.sv (s := 93) (by kernel_rfl) (hA200.get (i := 93) (v := .agg #[.slice A1g g.cs.length c1g, .slice A2g g.js.length c2g, .int .i64 g.room])))).cons (hF.sv (s := 89) (by kernel_rfl) (hA200.get (i := 89) (v := .bool true)))).cons (hF.sv (s := 88) (by kernel_rfl) (hA200.get (i := 88) (v := .int .i64 (g.js.length : Int))))).cons (hF.sv (s := 87) (by kernel_rfl) (hA200.get (i := 87) (v := .slice A2g g.js.length c2g)))).cons (hF.sv (s := 86) (by kernel_rfl) (hA200.get (i := 86) (v := .pointer (some ⟨B10, 1, none⟩))))).cons (hF.sv (s := 16) (by kernel_rfl) (hA200.get (i := 16) (v := .int .i64 (iN : Int))))).cons (hF.sv (s := 15) (by kernel_rfl) (hA200.get (i := 15) (v := .slice Al out.length cl)))).cons (hF.sv (s := 11) (by kernel_rfl) (hA200.get (i := 11) (v := .pointer (some ⟨B56, 0, none⟩))))).cons (hF.sv (s := 9) (by kernel_rfl) (hA200.get (i := 9) (v := .slice Al14 (all d).2.1.length cl14)))).cons (hF.sv (s := 8) (by kernel_rfl) (hA200.get (i := 8) (v := .pointer (some ⟨B23, 0, none⟩))))).cons (hF.sv (s := 6) (by kernel_rfl) (hA200.get (i := 6) (v := .pointer (some ⟨B10, 0, none⟩))))).cons (hF.sv (s := 5) (by kernel_rfl) (hA200.get (i := 5) (v := .bool true)))).cons (hF.sv (s := 1) (by kernel_rfl) (hA200.get (i := 1) (v := .slice E ys.length ce))))
      have bl243 := bl
      have sz243 := sz
      have b243_B10 := b_B10
      have b243_B23 := b_B23
      have b243_B56 := b_B56
      have b243_N13r18 := b_N13r18
      have b243_N14r18 := b_N14r18
      have b243_B198 := b_B198
      have p243_0 := p_0
      have p243_1 := p_1
      have p243_2 := p_2
      have p243_3 := p_3
      have p243_4 := p_4
      have p243_5 := p_5
      have p243_6 := p_6
      have p243_7 := p_7
      clear hF bl sz b_B10 b_B23 b_B56 b_N13r18 b_N14r18 b_B198 p_0 p_1 p_2 p_3 p_4 p_5 p_6 p_7 s_127 s_128 s_129 s_130 s_131 s_132 s_133 s_134 s_135 hall hA200
      refine then_n ?_
      refine wp_cond_false (hA243.ev (i := 135) (v := .bool false)) ?_
      refine wp_skip ?_
      refine blk_n ?_
      refine then_n ?_
      refine wp_region_lit ?_
      refine sx_val hA243 rfl (ev_move (hA243.ev (i := 20) (v := .int .i64 (k2 : Int))) _ rfl) ?_
      intro a244 hA244; clear hA243
      refine sx_val (v := .int .i64 ((k2 + 1 : Nat) : Int)) hA244 rfl (ev_addR (k := .i64) (m := (k2 : Int)) (n := 1) (r := ((k2 + 1 : Nat) : Int)) (hA244.ev (i := 119)) (ec _ (.int .i64 1)) (wr (by omega) (by omega) (by omega)) _ rfl) ?_
      intro a245 hA245; clear hA244
      refine sx_val hA245 rfl (ev_assign (hA245.ev (i := 120) (v := .int .i64 ((k2 + 1 : Nat) : Int))) _ rfl) ?_
      intro a246 hA246; clear hA245
      refine sx_nil ?_
      refine then_n ?_
      refine ⟨8 - (k2 + 1), by omega, k2 + 1, rfl, ((((((((((((((((((((((((((((((((((((((((((Ag.nil hA246.1 hA246.2.1).cons (hA246.get (i := 20) (v := .int .i64 ((k2 + 1 : Nat) : Int)))).cons (hA246.get (i := 116) (v := .bool false))).cons (hA246.get (i := 115) (v := .bool false))).cons (hA246.get (i := 114) (v := .int .i64 ((g.js.length : Int) - 1)))).cons (hA246.get (i := 113) (v := .int .i64 (g.js.length : Int)))).cons (hA246.get (i := 112) (v := .slice A2g g.js.length c2g))).cons (hA246.get (i := 111) (v := .pointer (some ⟨B10, 1, none⟩)))).cons (hA246.get (i := 110) (v := .int .i64 ((cmp g (nA3r18 % (g.js.length : Int))).1.js.length : Int)))).cons (hA246.get (i := 109) (v := .slice Aj8r18 (cmp g (nA3r18 % (g.js.length : Int))).1.js.length cj8r18))).cons (hA246.get (i := 108) (v := .pointer (some ⟨N13r18, 1, none⟩)))).cons (hA246.get (i := 107) (v := .bool false))).cons (hA246.get (i := 106) (v := .bool false))).cons (hA246.get (i := 105) (v := .int .i64 (cmp g (nA3r18 % (g.js.length : Int))).2.2))).cons (hA246.get (i := 19) (v := .int .i64 (cmp g (nA3r18 % (g.js.length : Int))).2.2))).cons (hA246.get (i := 18) (v := .pointer (some ⟨N14r18, 0, none⟩)))).cons (hA246.get (i := 17) (v := .pointer (some ⟨N13r18, 0, none⟩)))).cons (hA246.get (i := 104) (v := .int .i64 (cmp g (nA3r18 % (g.js.length : Int))).2.2))).cons (hA246.get (i := 103) (v := .agg (cmp g (nA3r18 % (g.js.length : Int))).2.1.va))).cons (hA246.get (i := 102) (v := .agg #[.slice Ap8r18 (cmp g (nA3r18 % (g.js.length : Int))).1.cs.length cp8r18, .slice Aj8r18 (cmp g (nA3r18 % (g.js.length : Int))).1.js.length cj8r18, .int .i64 (cmp g (nA3r18 % (g.js.length : Int))).1.room]))).cons (hA246.get (i := 92) (v := .tuple #[.agg #[.slice Ap8r18 (cmp g (nA3r18 % (g.js.length : Int))).1.cs.length cp8r18, .slice Aj8r18 (cmp g (nA3r18 % (g.js.length : Int))).1.js.length cj8r18, .int .i64 (cmp g (nA3r18 % (g.js.length : Int))).1.room], .agg (cmp g (nA3r18 % (g.js.length : Int))).2.1.va, .int .i64 (cmp g (nA3r18 % (g.js.length : Int))).2.2]))).cons (hA246.get (i := 101) (v := .tuple #[.agg #[.slice Ap8r18 (cmp g (nA3r18 % (g.js.length : Int))).1.cs.length cp8r18, .slice Aj8r18 (cmp g (nA3r18 % (g.js.length : Int))).1.js.length cj8r18, .int .i64 (cmp g (nA3r18 % (g.js.length : Int))).1.room], .agg (cmp g (nA3r18 % (g.js.length : Int))).2.1.va, .int .i64 (cmp g (nA3r18 % (g.js.length : Int))).2.2]))).cons (hA246.get (i := 100) (v := .int .i64 (nA3r18 % (g.js.length : Int))))).cons (hA246.get (i := 99) (v := .int .i64 (g.js.length : Int)))).cons (hA246.get (i := 98) (v := .slice A2g g.js.length c2g))).cons (hA246.get (i := 97) (v := .pointer (some ⟨B10, 1, none⟩)))).cons (hA246.get (i := 96) (v := .int .i64 nA3r18))).cons (hA246.get (i := 95) (v := .int .i64 (iN : Int)))).cons (hA246.get (i := 94) (v := .slice E ys.length ce))).cons (hA246.get (i := 93) (v := .agg #[.slice A1g g.cs.length c1g, .slice A2g g.js.length c2g, .int .i64 g.room]))).cons (hA246.get (i := 89) (v := .bool true))).cons (hA246.get (i := 88) (v := .int .i64 (g.js.length : Int)))).cons (hA246.get (i := 87) (v := .slice A2g g.js.length c2g))).cons (hA246.get (i := 86) (v := .pointer (some ⟨B10, 1, none⟩)))).cons (hA246.get (i := 16) (v := .int .i64 (iN : Int)))).cons (hA246.get (i := 15) (v := .slice Al out.length cl))).cons (hA246.get (i := 11) (v := .pointer (some ⟨B56, 0, none⟩)))).cons (hA246.get (i := 9) (v := .slice Al14 (all d).2.1.length cl14))).cons (hA246.get (i := 8) (v := .pointer (some ⟨B23, 0, none⟩)))).cons (hA246.get (i := 6) (v := .pointer (some ⟨B10, 0, none⟩)))).cons (hA246.get (i := 5) (v := .bool true))).cons (hA246.get (i := 1) (v := .slice E ys.length ce))), by omega, b243_B10, b243_B23, b243_B56, b243_N13r18, b243_N14r18, p243_0, p243_1, p243_2, p243_3, p243_4, p243_5, p243_6, p243_7, by omega, bl243⟩
end Go.Proofs.Ytbkdimildnahaaa
