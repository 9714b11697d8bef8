/- The law: SlotsFree. -/
import Derived.Test.YtpoilgfblhacaaaKS
import Derived.Test.YtpoilgfblhacaaaKK
namespace Go.Proofs.Ytpoilgfblhacaaa
open Go.RowKit
set_option linter.unusedVariables false
set_option linter.unusedSimpArgs false
set_option maxRecDepth 100000

theorem fre_at {s : Ss} {j : Nat} (h : OkS s) (hj : j < s.rs.length) (hf : fre s j = true) : s.rs[j]? = some 0 ∧ s.bs[j]? = some false := by
  have hb : j < s.bs.length := by have := h.len; omega
  unfold fre at hf
  rw [List.getElem?_eq_getElem hj, List.getElem?_eq_getElem hb] at hf ⊢
  simp at hf
  simp [hf.1, hf.2]
theorem bat_at {s : Ss} {j : Nat} (hj : j < s.bs.length) (hf : bat s j = true) : s.bs[j]? = some true := by
  unfold bat at hf
  rw [List.getElem?_eq_getElem hj] at hf ⊢
  simp at hf
  simp [hf]
set_option maxHeartbeats 32000000 in
theorem SlotsFree_walk (n : Int) (A : Option Addr) (c : Nat) (xs : List Int) (w : World) (hg : GR 1 iva w A c xs) : Calls Try.prog 6 #[.int .i64 n, .slice A xs.length c] w (RetB w (.returned (.bool true))) := by
  obtain ⟨N, hN⟩ : ∃ N : Nat, 1 + n % 8 = (N : Int) := ⟨(1 + n % 8).toNat, by omega⟩
  have hN1 : 1 ≤ N := by omega
  have hN2 : N ≤ 8 := by omega
  obtain ⟨hw1, hw2, hw3, hw4⟩ := nws_ok hN1 (by omega)
  have hwl := hw2.len
  have hxl := hg.len
  have hd1 : decide ((nws (N : Int)).2 = 0) = true := decide_eq_true hw1
  have hd2 : decide (((nws (N : Int)).1.rs.length : Int) = (N : Int)) = true := decide_eq_true (by rw [hw3])
  have hbel0 := below0 w
  refine sx_enter (N := 183) [(0, .int .i64 n), (1, .slice A xs.length c)] Try.func6 rfl Try.ntmps6 (by simp) (fun a z d s => (((Ag.nil z d).cons (s 1 _ rfl)).cons (s 0 _ rfl))) ?_
  intro a0 hA0
  refine wp_seq ?_
  refine wp_region_lit ?_
  refine sx_val hA0 rfl (ev_assign (ec _ (.bool false)) _ rfl) ?_
  intro a1 hA1; clear hA0
  refine sx_nil ?_
  refine then_n ?_
  refine wp_seq ?_
  refine wp_region_lit ?_
  refine sx_call (f := 5) (args := #[]) hA1 rfl (by decide) (.inl rfl) (ev_fn rfl (mp0 ) (by kernel_rfl) _ rfl) (Known_any _) ?_
  intro e2 w2 hR2
  obtain ⟨rfl, hb2⟩ := hR2
  refine ⟨_, rfl, ?_⟩
  intro a2 hA2
  clear hA1
  have hg2 := g0 hb2
  have hs2 := hg2.size
  clear hb2
  refine sx_val hA2 rfl (ev_assign (hA2.ev (i := 21) (v := .bool true)) _ rfl) ?_
  intro a3 hA3; clear hA2
  refine sx_nil ?_
  refine then_n ?_
  refine wp_seq ?_
  refine wp_region_lit ?_
  refine sx_val hA3 rfl (ev_move (hA3.ev (i := 0) (v := .int .i64 n)) _ rfl) ?_
  intro a4 hA4; clear hA3
  refine sx_call (f := 34) (args := #[.int .i64 n, .int .i64 8]) hA4 rfl (by decide) (.inl rfl) (ev_fn rfl (mp2 (hA4.ev (i := 22) (v := .int .i64 n)) (ec _ (.int .i64 8))) (by kernel_rfl) _ rfl) (Mod_any n 8 _ (by omega) (by omega)) ?_
  intro e5 w5 hR5
  obtain ⟨rfl, hb5⟩ := hR5
  refine ⟨_, rfl, ?_⟩
  intro a5 hA5
  clear hA4
  have hg5 := g0 hb5
  have hs5 := hg5.size
  clear hb5
  refine sx_val (v := .int .i64 (N : Int)) hA5 rfl (ev_addR (k := .i64) (m := 1) (n := (n % 8)) (r := (N : Int)) (ec _ (.int .i64 1)) (hA5.ev (i := 23)) (wr hN (by omega) (by omega)) _ rfl) ?_
  intro a6 hA6; clear hA5
  refine sx_val hA6 rfl (ev_assign (hA6.ev (i := 24) (v := .int .i64 (N : Int))) _ rfl) ?_
  intro a7 hA7; clear hA6
  refine sx_nil ?_
  refine then_n ?_
  refine wp_seq ?_
  refine wp_region_lit ?_
  refine sx_val hA7 rfl (ev_move (hA7.ev (i := 0) (v := .int .i64 (N : Int))) _ rfl) ?_
  intro a8 hA8; clear hA7
  refine sx_call (f := 28) (args := #[.int .i64 (N : Int)]) hA8 rfl (by decide) (.inl rfl) (ev_fn rfl (mp1 (hA8.ev (i := 26) (v := .int .i64 (N : Int)))) (by kernel_rfl) _ rfl) (New_any (N : Int) _) ?_
  intro e9 w9 hR9
  obtain ⟨Ap9, cp9, Aj9, cj9, rfl, hC9, hJ9, hb9⟩ := hR9
  refine ⟨_, rfl, ?_⟩
  intro a9 hA9
  clear hA8
  have hg9 := g0 hb9
  have hs9 := hg9.size
  clear hb9
  have ho9_0 : Own w9 (w5.heap.size) 3 1 (.slice Ap9 (nws (N : Int)).1.rs.length cp9) (nws (N : Int)).1.rs.length (flat iva (nws (N : Int)).1.rs) := hC9
  have hh9_0 := Own.hi ho9_0
  have ho9_1 : Own w9 (w5.heap.size) 4 1 (.slice Aj9 (nws (N : Int)).1.bs.length cj9) (nws (N : Int)).1.bs.length (flat bva (nws (N : Int)).1.bs) := hJ9
  have hh9_1 := Own.hi ho9_1
  refine sx_val hA9 rfl (ev_move (hA9.ev (i := 27) (v := .tuple #[.agg #[.slice Ap9 (nws (N : Int)).1.rs.length cp9, .slice Aj9 (nws (N : Int)).1.bs.length cj9], .int .i64 (nws (N : Int)).2])) _ rfl) ?_
  intro a10 hA10; clear hA9
  refine sx_val (v := .agg #[.slice Ap9 (nws (N : Int)).1.rs.length cp9, .slice Aj9 (nws (N : Int)).1.bs.length cj9]) hA10 rfl (ev_ext (hA10.ev (i := 25) (v := .tuple #[.agg #[.slice Ap9 (nws (N : Int)).1.rs.length cp9, .slice Aj9 (nws (N : Int)).1.bs.length cj9], .int .i64 (nws (N : Int)).2])) rfl _ rfl) ?_
  intro a11 hA11; clear hA10
  refine sx_val (v := .int .i64 (nws (N : Int)).2) hA11 rfl (ev_ext (hA11.ev (i := 25) (v := .tuple #[.agg #[.slice Ap9 (nws (N : Int)).1.rs.length cp9, .slice Aj9 (nws (N : Int)).1.bs.length cj9], .int .i64 (nws (N : Int)).2])) rfl _ rfl) ?_
  intro a12 hA12; clear hA11
  refine sx_new (cs := #[.slice none 0 0, .slice none 0 0]) (t := 25) hA12 rfl (by decide) (.inl rfl) (ev_alloc (z := .agg (#[.slice none 0 0, .slice none 0 0])) (by kernel_rfl) (by kernel_rfl) _ rfl) ?_
  intro B13 w13 a13 hB13 hx13 hg13 hA13
  clear hA12
  have hs13 := hg13.size
  have hl13 := hx13.lt
  refine sx_store hA13 rfl (.inl rfl) rfl (hA13.ev (i := 6) (v := .pointer (some ⟨B13, 0, none⟩))) (hA13.ev (i := 28) (v := .agg #[.slice Ap9 (nws (N : Int)).1.rs.length cp9, .slice Aj9 (nws (N : Int)).1.bs.length cj9])) hx13 (by kernel_rfl) rfl (by simp [Value.oneCell']) ?_
  intro w14 hx14 hg14
  have hs14 := hg14.size
  refine sx_val hA13 rfl (ev_assign (hA13.ev (i := 29) (v := .int .i64 (nws (N : Int)).2)) _ rfl) ?_
  intro a15 hA15; clear hA13
  refine sx_nil ?_
  refine then_n ?_
  refine wp_seq ?_
  refine wp_seq ?_
  refine wp_region_lit ?_
  refine sx_val hA15 rfl (ev_move (hA15.ev (i := 7) (v := .int .i64 (nws (N : Int)).2)) _ rfl) ?_
  intro a16 hA16; clear hA15
  refine sx_val (v := .bool false) hA16 rfl (ev_neqB (k := .i64) (m := (nws (N : Int)).2) (n := 0) (hA16.ev (i := 30)) (ec _ (.int .i64 0)) (by simpa using hd1) _ rfl) ?_
  intro a17 hA17; clear hA16
  refine sx_val hA17 rfl (ev_move (hA17.ev (i := 31) (v := .bool false)) _ rfl) ?_
  intro a18 hA18; clear hA17
  refine sx_val (hg := (.inr ⟨2, false, 32, rfl, rfl, by kernel_rfl⟩)) (v := .pointer (some ⟨B13, 0, none⟩)) hA18 rfl (fb_Slots_0 (hA18.ev (i := 6) (v := .pointer (some ⟨B13, 0, none⟩))) _ rfl) ?_
  intro a19 hA19; clear hA18
  refine sx_val (hg := (.inr ⟨2, false, 32, rfl, rfl, by kernel_rfl⟩)) (v := .slice Ap9 (nws (N : Int)).1.rs.length cp9) hA19 rfl (ev_cell (v := .slice Ap9 (nws (N : Int)).1.rs.length cp9) (hA19.ev (i := 33) (v := .pointer (some ⟨B13, 0, none⟩))) ((hx14.cell 0).trans rfl) Try.underlying22 rfl _ rfl) ?_
  intro a20 hA20; clear hA19
  refine sx_val (hg := (.inr ⟨2, false, 32, rfl, rfl, by kernel_rfl⟩)) (v := .int .i64 ((nws (N : Int)).1.rs.length : Int)) hA20 rfl (ev_len (hA20.ev (i := 34) (v := .slice Ap9 (nws (N : Int)).1.rs.length cp9)) Try.underlying22 _ rfl) ?_
  intro a21 hA21; clear hA20
  refine sx_val (hg := (.inr ⟨2, false, 32, rfl, rfl, by kernel_rfl⟩)) hA21 rfl (ev_move (hA21.ev (i := 0) (v := .int .i64 (N : Int))) _ rfl) ?_
  intro a22 hA22; clear hA21
  refine sx_val (hg := (.inr ⟨2, false, 32, rfl, rfl, by kernel_rfl⟩)) (v := .bool false) hA22 rfl (ev_neqB (k := .i64) (m := ((nws (N : Int)).1.rs.length : Int)) (n := (N : Int)) (hA22.ev (i := 35)) (hA22.ev (i := 36)) (by simpa using hd2) _ rfl) ?_
  intro a23 hA23; clear hA22
  refine sx_val hA23 rfl (ev_pickF (hA23.ev (i := 32) (v := .bool false)) (hA23.ev (i := 37) (v := .bool false)) _ rfl) ?_
  intro a24 hA24; clear hA23
  refine sx_nil ?_
  refine then_n ?_
  refine wp_cond_false (hA24.ev (i := 38) (v := .bool false)) ?_
  refine wp_skip ?_
  refine then_n ?_
  refine wp_seq ?_
  refine wp_seq ?_
  refine wp_region_lit ?_
  refine sx_val hA24 rfl (ev_assign (ec _ (.int .i64 0)) _ rfl) ?_
  intro a25 hA25; clear hA24
  refine sx_nil ?_
  refine then_n ?_
  refine wp_block ?_
  have hni := Nat.zero_le xs.length
  have ho9_27 := Own.gN ho9_0 hg13
  have ho9_28 := Own.gBT ho9_27 hg14 hx13 (by decide)
  have ho9_29 := Own.gN ho9_1 hg13
  have ho9_30 := Own.gBT ho9_29 hg14 hx13 (by decide)
  have hbel0_31 := Below.gN hbel0 hg2 hbel0.size
  have hbel0_32 := Below.gN hbel0_31 hg5 hbel0_31.size
  have hbel0_33 := Below.gN hbel0_32 hg9 hbel0_32.size
  have hbel0_34 := Below.gN hbel0_33 hg13 hbel0_33.size
  have hbel0_35 := Below.gB hbel0_34 hg14 hbel0_34.size (by omega)
  refine wp_loop_ghost (fun gz a wl => ∃ (i : Nat) (g : Ss) (A1g : Option Addr) (c1g : Nat) (A2g : Option Addr) (c2g : Nat), gz = 60 - i ∧ Ag a 183 [(0, .int .i64 (N : Int)), (1, .slice A xs.length c), (5, .bool true), (6, .pointer (some ⟨B13, 0, none⟩)), (8, .int .i64 (i : Int))] ∧ i ≤ 60 ∧ OkS g ∧ g.rs.length = N ∧ Bx wl B13 25 #[.slice A1g g.rs.length c1g, .slice A2g g.bs.length c2g] ∧ Own wl (w.heap.size) 3 1 (.slice A1g g.rs.length c1g) g.rs.length (flat iva g.rs) ∧ Own wl (w.heap.size) 4 1 (.slice A2g g.bs.length c2g) g.bs.length (flat bva g.bs) ∧ w14.heap.size ≤ wl.heap.size ∧ Below w.heap.size w wl) (60 - 0) ⟨0, (nws (N : Int)).1, Ap9, cp9, Aj9, cj9, rfl, ((((((Ag.nil hA25.1 hA25.2.1).cons (hA25.get (i := 8) (v := .int .i64 0))).cons (hA25.get (i := 6) (v := .pointer (some ⟨B13, 0, none⟩)))).cons (hA25.get (i := 5) (v := .bool true))).cons (hA25.get (i := 1) (v := .slice A xs.length c))).cons (hA25.get (i := 0) (v := .int .i64 (N : Int)))), Nat.zero_le _, hw2, hw3, hx14, (Own.mono ho9_28 (by omega)), (Own.mono ho9_30 (by omega)), Nat.le_refl _, hbel0_35⟩ ?_
  intro n26 a26 w26 hI26
  obtain ⟨i, g, A1g, c1g, A2g, c2g, hn26, hA26, q26_0, q26_1, q26_2, f26_0, f26_1, f26_2, hsz26, hbel26⟩ := hI26
  subst hn26
  clear hA25
  have hlB13_26 := f26_0.lt
  have hh26_0 := Own.hi f26_1
  have hh26_1 := Own.hi f26_2
  cases hd36 : decide ((i : Int) < (xs.length : Int))
  · have hp36 := of_decide_eq_false hd36
    have hgl := q26_1.len
    refine wp_seq ?_
    refine wp_seq ?_
    refine wp_region_lit ?_
    refine sx_val hA26 rfl (ev_move (hA26.ev (i := 8) (v := .int .i64 (i : Int))) _ rfl) ?_
    intro a37 hA37; clear hA26
    refine sx_val hA37 rfl (ev_move (hA37.ev (i := 1) (v := .slice A xs.length c)) _ rfl) ?_
    intro a38 hA38; clear hA37
    refine sx_val (v := .int .i64 (xs.length : Int)) hA38 rfl (ev_len (hA38.ev (i := 40) (v := .slice A xs.length c)) Try.underlying22 _ rfl) ?_
    intro a39 hA39; clear hA38
    refine sx_val (v := .bool false) hA39 rfl (ev_lssB (k := .i64) (m := (i : Int)) (n := (xs.length : Int)) (hA39.ev (i := 39)) (hA39.ev (i := 41)) hd36 _ rfl) ?_
    intro a40 hA40; clear hA39
    refine sx_val hA40 rfl (ev_move (hA40.ev (i := 42) (v := .bool false)) _ rfl) ?_
    intro a41 hA41; clear hA40
    refine sx_no (j := 4) (s := 43) (want := true) (b := false) hA41 rfl ?_
    intro a42 hA42; clear hA41
    refine sx_no (j := 4) (s := 43) (want := true) (b := false) hA42 rfl ?_
    intro a43 hA43; clear hA42
    refine sx_val hA43 rfl (ev_pickF (hA43.ev (i := 43) (v := .bool false)) (ec _ (.bool false)) _ rfl) ?_
    intro a44 hA44; clear hA43
    refine sx_nil ?_
    refine then_n ?_
    refine wp_cond_false (hA44.ev (i := 46) (v := .bool false)) ?_
    refine wp_exit ?_
    refine then_x ?_
    refine then_x ?_
    refine blk_hit ?_
    refine then_n ?_
    refine wp_seq ?_
    refine wp_region_lit ?_
    refine sx_val hA44 rfl (ev_move (hA44.ev (i := 5) (v := .bool true)) _ rfl) ?_
    intro a45 hA45; clear hA44
    refine sx_val hA45 rfl (ev_assign (hA45.ev (i := 182) (v := .bool true)) _ rfl) ?_
    intro a46 hA46; clear hA45
    refine sx_nil ?_
    refine then_n ?_
    refine wp_ret ?_
    refine bodyPost_ret (rs_t (v := .bool true) Try.results6 hA46 (by kernel_rfl) ) hA46.2.1 ?_
    exact ⟨rfl, hbel26⟩
  have hp36 := of_decide_eq_true hd36
  have hgl := q26_1.len
  obtain ⟨x, hx⟩ : ∃ x, xs[i]? = some x := ⟨_, List.getElem?_eq_getElem (by omega)⟩
  obtain ⟨ad1, hAd1⟩ := GR.adr hg iva_sz hx
  obtain ⟨m, hm⟩ : ∃ m : Nat, x % 1048576 = (m : Int) := ⟨(x % 1048576).toNat, by omega⟩
  have hm2 : m < 1048576 := by omega
  refine wp_seq ?_
  refine wp_seq ?_
  refine wp_region_lit ?_
  refine sx_val hA26 rfl (ev_move (hA26.ev (i := 8) (v := .int .i64 (i : Int))) _ rfl) ?_
  intro a47 hA47; clear hA26
  refine sx_val hA47 rfl (ev_move (hA47.ev (i := 1) (v := .slice A xs.length c)) _ rfl) ?_
  intro a48 hA48; clear hA47
  refine sx_val (v := .int .i64 (xs.length : Int)) hA48 rfl (ev_len (hA48.ev (i := 40) (v := .slice A xs.length c)) Try.underlying22 _ rfl) ?_
  intro a49 hA49; clear hA48
  refine sx_val (v := .bool true) hA49 rfl (ev_lssB (k := .i64) (m := (i : Int)) (n := (xs.length : Int)) (hA49.ev (i := 39)) (hA49.ev (i := 41)) hd36 _ rfl) ?_
  intro a50 hA50; clear hA49
  refine sx_val hA50 rfl (ev_move (hA50.ev (i := 42) (v := .bool true)) _ rfl) ?_
  intro a51 hA51; clear hA50
  refine sx_val (hg := (.inr ⟨4, true, 43, rfl, rfl, by kernel_rfl⟩)) hA51 rfl (ev_move (hA51.ev (i := 8) (v := .int .i64 (i : Int))) _ rfl) ?_
  intro a52 hA52; clear hA51
  cases hd53 : decide ((i : Int) < 60)
  · have hp53 := of_decide_eq_false hd53
    refine sx_val (hg := (.inr ⟨4, true, 43, rfl, rfl, by kernel_rfl⟩)) (v := .bool false) hA52 rfl (ev_lssB (k := .i64) (m := (i : Int)) (n := 60) (hA52.ev (i := 44)) (ec _ (.int .i64 60)) hd53 _ rfl) ?_
    intro a54 hA54; clear hA52
    refine sx_val hA54 rfl (ev_pickT (hA54.ev (i := 43) (v := .bool true)) (hA54.ev (i := 45) (v := .bool false)) _ rfl) ?_
    intro a55 hA55; clear hA54
    refine sx_nil ?_
    refine then_n ?_
    refine wp_cond_false (hA55.ev (i := 46) (v := .bool false)) ?_
    refine wp_exit ?_
    refine then_x ?_
    refine then_x ?_
    refine blk_hit ?_
    refine then_n ?_
    refine wp_seq ?_
    refine wp_region_lit ?_
    refine sx_val hA55 rfl (ev_move (hA55.ev (i := 5) (v := .bool true)) _ rfl) ?_
    intro a56 hA56; clear hA55
    refine sx_val hA56 rfl (ev_assign (hA56.ev (i := 182) (v := .bool true)) _ rfl) ?_
    intro a57 hA57; clear hA56
    refine sx_nil ?_
    refine then_n ?_
    refine wp_ret ?_
    refine bodyPost_ret (rs_t (v := .bool true) Try.results6 hA57 (by kernel_rfl) ) hA57.2.1 ?_
    exact ⟨rfl, hbel26⟩
  have hp53 := of_decide_eq_true hd53
  refine sx_val (hg := (.inr ⟨4, true, 43, rfl, rfl, by kernel_rfl⟩)) (v := .bool true) hA52 rfl (ev_lssB (k := .i64) (m := (i : Int)) (n := 60) (hA52.ev (i := 44)) (ec _ (.int .i64 60)) hd53 _ rfl) ?_
  intro a58 hA58; clear hA52
  refine sx_val hA58 rfl (ev_pickT (hA58.ev (i := 43) (v := .bool true)) (hA58.ev (i := 45) (v := .bool true)) _ rfl) ?_
  intro a59 hA59; clear hA58
  refine sx_nil ?_
  refine then_n ?_
  refine wp_cond_true (hA59.ev (i := 46) (v := .bool true)) ?_
  refine wp_skip ?_
  refine then_n ?_
  refine wp_seq ?_
  refine wp_block ?_
  refine wp_seq ?_
  refine region_D (n := 14) (by kernel_rfl) (by kernel_rfl) rfl (fun L ac wc => ∃ Ap5r9 : Option Addr, ∃ cp5r9 : Nat, ∃ Aj5r9 : Option Addr, ∃ cj5r9 : Nat, ∃ N10r9 : Nat, Below w.heap.size w wc ∧ w26.heap.size ≤ wc.heap.size ∧ Bx wc B13 25 (#[.slice A1g g.rs.length c1g, .slice A2g g.bs.length c2g]) ∧ Own wc (w.heap.size) 3 1 (.slice A1g g.rs.length c1g) g.rs.length (flat iva g.rs) ∧ Own wc (w.heap.size) 4 1 (.slice A2g g.bs.length c2g) g.bs.length (flat bva g.bs) ∧ (L 10 = true → w26.heap.size ≤ N10r9 ∧ Bx wc N10r9 25 (bif L 11 then (#[.slice Ap5r9 (stp g m).1.rs.length cp5r9, .slice Aj5r9 (stp g m).1.bs.length cj5r9]) else (#[.slice none 0 0, .slice none 0 0]))) ∧ (L 5 = true → Own wc w26.heap.size 3 1 (.slice Ap5r9 (stp g m).1.rs.length cp5r9) (stp g m).1.rs.length (flat iva (stp g m).1.rs)) ∧ (L 5 = true → Own wc w26.heap.size 4 1 (.slice Aj5r9 (stp g m).1.bs.length cj5r9) (stp g m).1.bs.length (flat bva (stp g m).1.bs)) ∧ (L 11 = true → L 10 = true) ∧ (L 6 = true → L 5 = true) ∧ (L 7 = true → L 5 = true) ∧ (L 11 = true → L 5 = true) ∧ (L 0 = true → Sv ac 50 (.agg #[.slice A1g g.rs.length c1g, .slice A2g g.bs.length c2g])) ∧ (L 1 = true → Sv ac 51 (.slice A xs.length c)) ∧ (L 2 = true → Sv ac 52 (.int .i64 (i : Int))) ∧ (L 3 = true → Sv ac 53 (.pointer (some (ad1.add (i * 1))))) ∧ (L 4 = true → Sv ac 54 (.int .i64 x)) ∧ (L 5 = true → Sv ac 55 (.tuple #[.agg #[.slice Ap5r9 (stp g m).1.rs.length cp5r9, .slice Aj5r9 (stp g m).1.bs.length cj5r9], .int .i64 (stp g m).2.1, .int .i64 (stp g m).2.2])) ∧ (L 6 = true → Sv ac 49 (.tuple #[.agg #[.slice Ap5r9 (stp g m).1.rs.length cp5r9, .slice Aj5r9 (stp g m).1.bs.length cj5r9], .int .i64 (stp g m).2.1, .int .i64 (stp g m).2.2])) ∧ (L 7 = true → Sv ac 56 (.agg #[.slice Ap5r9 (stp g m).1.rs.length cp5r9, .slice Aj5r9 (stp g m).1.bs.length cj5r9])) ∧ (L 8 = true → Sv ac 57 (.int .i64 (stp g m).2.1)) ∧ (L 9 = true → Sv ac 58 (.int .i64 (stp g m).2.2)) ∧ (L 10 = true → Sv ac 9 (.pointer (some ⟨N10r9, 0, none⟩))) ∧ (L 12 = true → Sv ac 10 (.int .i64 (stp g m).2.1)) ∧ (L 13 = true → Sv ac 11 (.int .i64 (stp g m).2.2))) ⟨none, 0, none, 0, 0, (Below.gN hbel26 (gdr _) hbel26.size), (Nat.le_refl _), (f26_0.gN (gdr _)), (Own.gN f26_1 (gdr _)), (Own.gN f26_2 (gdr _)), (fun h => by cases h), (fun h => by cases h), (fun h => by cases h), (fun h => by cases h), (fun h => by cases h), (fun h => by cases h), (fun h => by cases h), (fun h => by cases h), (fun h => by cases h), (fun h => by cases h), (fun h => by cases h), (fun h => by cases h), (fun h => by cases h), (fun h => by cases h), (fun h => by cases h), (fun h => by cases h), (fun h => by cases h), (fun h => by cases h), (fun h => by cases h), (fun h => by cases h)⟩ ?_ ?_
  · intro iq hiq o ho L hL hdep ac wc hF hJ
    obtain ⟨Ap5r9, cp5r9, Aj5r9, cj5r9, N10r9, bl, sz, b_B13, p_0, p_1, n_N10r9, o_5_0, o_5_1, cl_11_10, cl_6_5, cl_7_5, cl_11_5, s_50, s_51, s_52, s_53, s_54, s_55, s_49, s_56, s_57, s_58, s_9, s_10, s_11⟩ := hJ
    have zq := hF.1.trans hA59.1
    match iq, hiq with
    | 0, _ =>
      obtain rfl := Option.some.inj (show some _ = some o from ho); clear ho
      have v6 := hF.sv (s := 6) (by kernel_rfl) (hA59.get (i := 6) (v := .pointer (some ⟨B13, 0, none⟩)))
      refine dj_val (i := 0) (v := .agg #[.slice A1g g.rs.length c1g, .slice A2g g.bs.length c2g]) rfl (.inl rfl) (ev_row v6.eval b_B13 Try.underlying25 rfl (n := 2) (by kernel_rfl) rfl _ rfl) ?_
      exact ⟨⟨_, rfl⟩, Ap5r9, cp5r9, Aj5r9, cj5r9, N10r9, bl, sz, b_B13, p_0, p_1, n_N10r9, o_5_0, o_5_1, cl_11_10, cl_6_5, cl_7_5, cl_11_5, (fun _ => Sv.self (by rw [zq]; decide) _), (so s_51), (so s_52), (so s_53), (so s_54), (so s_55), (so s_49), (so s_56), (so s_57), (so s_58), (so s_9), (so s_10), (so s_11)⟩
    | 1, _ =>
      obtain rfl := Option.some.inj (show some _ = some o from ho); clear ho
      have v1 := hF.sv (s := 1) (by kernel_rfl) (hA59.get (i := 1) (v := .slice A xs.length c))
      refine dj_val (i := 1) (v := .slice A xs.length c) rfl (.inl rfl) (ev_move v1.eval _ rfl) ?_
      exact ⟨⟨_, rfl⟩, Ap5r9, cp5r9, Aj5r9, cj5r9, N10r9, bl, sz, b_B13, p_0, p_1, n_N10r9, o_5_0, o_5_1, cl_11_10, cl_6_5, cl_7_5, cl_11_5, (so s_50), (fun _ => Sv.self (by rw [zq]; decide) _), (so s_52), (so s_53), (so s_54), (so s_55), (so s_49), (so s_56), (so s_57), (so s_58), (so s_9), (so s_10), (so s_11)⟩
    | 2, _ =>
      obtain rfl := Option.some.inj (show some _ = some o from ho); clear ho
      have v8 := hF.sv (s := 8) (by kernel_rfl) (hA59.get (i := 8) (v := .int .i64 (i : Int)))
      refine dj_val (i := 2) (v := .int .i64 (i : Int)) rfl (.inl rfl) (ev_move v8.eval _ rfl) ?_
      exact ⟨⟨_, rfl⟩, Ap5r9, cp5r9, Aj5r9, cj5r9, N10r9, bl, sz, b_B13, p_0, p_1, n_N10r9, o_5_0, o_5_1, cl_11_10, cl_6_5, cl_7_5, cl_11_5, (so s_50), (so s_51), (fun _ => Sv.self (by rw [zq]; decide) _), (so s_53), (so s_54), (so s_55), (so s_49), (so s_56), (so s_57), (so s_58), (so s_9), (so s_10), (so s_11)⟩
    | 3, _ =>
      obtain rfl := Option.some.inj (show some _ = some o from ho); clear ho
      have v51 := s_51 (dp hdep 1)
      have v52 := s_52 (dp hdep 2)
      refine dj_val (i := 3) (v := .pointer (some (ad1.add (i * 1)))) rfl (.inl rfl) (ev_idx (k := i) v51.eval hAd1 v52.eval rfl (by omega) Try.underlying22 (by kernel_rfl) _ rfl) ?_
      exact ⟨⟨_, rfl⟩, Ap5r9, cp5r9, Aj5r9, cj5r9, N10r9, bl, sz, b_B13, p_0, p_1, n_N10r9, o_5_0, o_5_1, cl_11_10, cl_6_5, cl_7_5, cl_11_5, (so s_50), (so s_51), (so s_52), (fun _ => Sv.self (by rw [zq]; decide) _), (so s_54), (so s_55), (so s_49), (so s_56), (so s_57), (so s_58), (so s_9), (so s_10), (so s_11)⟩
    | 4, _ =>
      obtain rfl := Option.some.inj (show some _ = some o from ho); clear ho
      have v53 := s_53 (dp hdep 3)
      refine dj_val (i := 4) (v := .int .i64 x) rfl (.inl rfl) (ev_cell v53.eval ((GR.cel (hg.below bl) hAd1 iva_sz hx) 0 _ rfl) Try.underlying3 rfl _ rfl) ?_
      exact ⟨⟨_, rfl⟩, Ap5r9, cp5r9, Aj5r9, cj5r9, N10r9, bl, sz, b_B13, p_0, p_1, n_N10r9, o_5_0, o_5_1, cl_11_10, cl_6_5, cl_7_5, cl_11_5, (so s_50), (so s_51), (so s_52), (so s_53), (fun _ => Sv.self (by rw [zq]; decide) _), (so s_55), (so s_49), (so s_56), (so s_57), (so s_58), (so s_9), (so s_10), (so s_11)⟩
    | 5, _ =>
      obtain rfl := Option.some.inj (show some _ = some o from ho); clear ho
      have v50 := s_50 (dp hdep 0)
      have v54 := s_54 (dp hdep 4)
      refine dj_call (i := 5) (f := 35) (args := #[.agg #[.slice A1g g.rs.length c1g, .slice A2g g.bs.length c2g], .int .i64 x]) rfl (.inl rfl) (ev_fn rfl (mp2 v50.eval v54.eval) (by kernel_rfl) _ rfl) (step_any A1g c1g A2g c2g g.rs g.bs x m _ ⟨(OwnR.gr (e := 3) ⟨rfl, p_0⟩), (OwnR.gr (e := 4) ⟨rfl, p_1⟩)⟩ (by omega) (by omega) (by omega) hm hm2) ?_
      intro e wk5 hR
      obtain ⟨Ap5r9, cp5r9, Aj5r9, cj5r9, rfl, hC5, hJ5, hb5⟩ := hR
      refine ⟨_, rfl, ?_⟩
      have hg := g0 hb5
      have hraw0 := hC5
      have hown0 := Own.mono (hC5) sz
      have hraw1 := hJ5
      have hown1 := Own.mono (hJ5) sz
      exact ⟨⟨_, rfl⟩, Ap5r9, cp5r9, Aj5r9, cj5r9, N10r9, (Below.gN bl hg bl.size), (Nat.le_trans sz hg.size), (b_B13.gN hg), (Own.gN p_0 hg), (Own.gN p_1 hg), (fun h => ⟨(n_N10r9 h).1, by
          have e0 : L 11 = false := by
            cases hc : L 11
            · rfl
            · exact absurd (cl_11_5 hc) (by rw [hL]; decide)
          have h0 := (n_N10r9 h).2.gN hg
          rw [e0] at h0
          show Bx _ _ _ (bif L 11 then _ else _)
          rw [e0]
          exact h0⟩), (fun _ => hown0), (fun _ => hown1), cl_11_10, (fun _ => rfl), (fun _ => rfl), (fun _ => rfl), (so s_50), (so s_51), (so s_52), (so s_53), (so s_54), (fun _ => Sv.self (by rw [zq]; decide) _), (fun h => absurd (cl_6_5 h) (by rw [hL]; decide)), (fun h => absurd (cl_7_5 h) (by rw [hL]; decide)), (so s_57), (so s_58), (so s_9), (so s_10), (so s_11)⟩
    | 6, _ =>
      obtain rfl := Option.some.inj (show some _ = some o from ho); clear ho
      have v55 := s_55 (dp hdep 5)
      refine dj_val (i := 6) (v := .tuple #[.agg #[.slice Ap5r9 (stp g m).1.rs.length cp5r9, .slice Aj5r9 (stp g m).1.bs.length cj5r9], .int .i64 (stp g m).2.1, .int .i64 (stp g m).2.2]) rfl (.inl rfl) (ev_move v55.eval _ rfl) ?_
      exact ⟨⟨_, rfl⟩, Ap5r9, cp5r9, Aj5r9, cj5r9, N10r9, bl, sz, b_B13, p_0, p_1, n_N10r9, o_5_0, o_5_1, cl_11_10, (fun _ => dp hdep 5), cl_7_5, cl_11_5, (so s_50), (so s_51), (so s_52), (so s_53), (so s_54), (so s_55), (fun _ => Sv.self (by rw [zq]; decide) _), (so s_56), (so s_57), (so s_58), (so s_9), (so s_10), (so s_11)⟩
    | 7, _ =>
      obtain rfl := Option.some.inj (show some _ = some o from ho); clear ho
      have v49 := s_49 (dp hdep 6)
      refine dj_val (i := 7) (v := .agg #[.slice Ap5r9 (stp g m).1.rs.length cp5r9, .slice Aj5r9 (stp g m).1.bs.length cj5r9]) rfl (.inl rfl) (ev_ext v49.eval rfl _ rfl) ?_
      exact ⟨⟨_, rfl⟩, Ap5r9, cp5r9, Aj5r9, cj5r9, N10r9, bl, sz, b_B13, p_0, p_1, n_N10r9, o_5_0, o_5_1, cl_11_10, cl_6_5, (fun _ => cl_6_5 (dp hdep 6)), cl_11_5, (so s_50), (so s_51), (so s_52), (so s_53), (so s_54), (so s_55), (so s_49), (fun _ => Sv.self (by rw [zq]; decide) _), (so s_57), (so s_58), (so s_9), (so s_10), (so s_11)⟩
    | 8, _ =>
      obtain rfl := Option.some.inj (show some _ = some o from ho); clear ho
      have v49 := s_49 (dp hdep 6)
      refine dj_val (i := 8) (v := .int .i64 (stp g m).2.1) rfl (.inl rfl) (ev_ext v49.eval rfl _ rfl) ?_
      exact ⟨⟨_, rfl⟩, Ap5r9, cp5r9, Aj5r9, cj5r9, N10r9, bl, sz, b_B13, p_0, p_1, n_N10r9, o_5_0, o_5_1, cl_11_10, cl_6_5, cl_7_5, cl_11_5, (so s_50), (so s_51), (so s_52), (so s_53), (so s_54), (so s_55), (so s_49), (so s_56), (fun _ => Sv.self (by rw [zq]; decide) _), (so s_58), (so s_9), (so s_10), (so s_11)⟩
    | 9, _ =>
      obtain rfl := Option.some.inj (show some _ = some o from ho); clear ho
      have v49 := s_49 (dp hdep 6)
      refine dj_val (i := 9) (v := .int .i64 (stp g m).2.2) rfl (.inl rfl) (ev_ext v49.eval rfl _ rfl) ?_
      exact ⟨⟨_, rfl⟩, Ap5r9, cp5r9, Aj5r9, cj5r9, N10r9, bl, sz, b_B13, p_0, p_1, n_N10r9, o_5_0, o_5_1, cl_11_10, cl_6_5, cl_7_5, cl_11_5, (so s_50), (so s_51), (so s_52), (so s_53), (so s_54), (so s_55), (so s_49), (so s_56), (so s_57), (fun _ => Sv.self (by rw [zq]; decide) _), (so s_9), (so s_10), (so s_11)⟩
    | 10, _ =>
      obtain rfl := Option.some.inj (show some _ = some o from ho); clear ho
      refine dj_val (i := 10) rfl (.inl rfl) (w' := wc.alloc (.cells (#[.slice none 0 0, .slice none 0 0]) 25)) (v := .pointer (some ⟨wc.heap.size, 0, none⟩)) (ev_alloc (z := .agg (#[.slice none 0 0, .slice none 0 0])) (by kernel_rfl) (by kernel_rfl) _ rfl) ?_
      have hx := Bx.new wc 25 (#[.slice none 0 0, .slice none 0 0])
      have hg := g0 (al wc (.cells (#[.slice none 0 0, .slice none 0 0]) 25))
      have e0 : L 11 = false := by
        cases hc : L 11
        · rfl
        · exact absurd (cl_11_10 hc) (by rw [hL]; decide)
      replace hx : Bx (wc.alloc (.cells (#[.slice none 0 0, .slice none 0 0]) 25)) wc.heap.size 25 (bif L 11 then (#[.slice Ap5r9 (stp g m).1.rs.length cp5r9, .slice Aj5r9 (stp g m).1.bs.length cj5r9]) else (#[.slice none 0 0, .slice none 0 0])) := by rw [e0]; exact hx
      exact ⟨⟨_, rfl⟩, Ap5r9, cp5r9, Aj5r9, cj5r9, wc.heap.size, (Below.gN bl hg bl.size), (Nat.le_trans sz hg.size), (b_B13.gN hg), (Own.gN p_0 hg), (Own.gN p_1 hg), (fun _ => ⟨sz, hx⟩), (fun h => Own.gN (o_5_0 h) hg), (fun h => Own.gN (o_5_1 h) hg), (fun _ => rfl), cl_6_5, cl_7_5, cl_11_5, (so s_50), (so s_51), (so s_52), (so s_53), (so s_54), (so s_55), (so s_49), (so s_56), (so s_57), (so s_58), (fun _ => Sv.self (by rw [zq]; decide) _), (so s_10), (so s_11)⟩
    | 11, _ =>
      obtain rfl := Option.some.inj (show some _ = some o from ho); clear ho
      have v9 := s_9 (dp hdep 10)
      have v56 := s_56 (dp hdep 7)
      have xN10r9 := (n_N10r9 (dp hdep 10)).2
      rw [hL] at xN10r9
      refine dj_skip (i := 11) rfl rfl (.inl rfl) (w' := wc.setRow N10r9 (#[.slice Ap5r9 (stp g m).1.rs.length cp5r9, .slice Aj5r9 (stp g m).1.bs.length cj5r9])) (ev_srow v9.eval v56.eval xN10r9 (n := 2) (by kernel_rfl) rfl rfl (by simp [Value.oneCell']) _ rfl) ?_
      have hg := grw xN10r9 (#[.slice Ap5r9 (stp g m).1.rs.length cp5r9, .slice Aj5r9 (stp g m).1.bs.length cj5r9])
      have hx := xN10r9.row (#[.slice Ap5r9 (stp g m).1.rs.length cp5r9, .slice Aj5r9 (stp g m).1.bs.length cj5r9])
      exact ⟨⟨undef, rfl⟩, Ap5r9, cp5r9, Aj5r9, cj5r9, N10r9, (Below.gB bl hg bl.size (by have := (n_N10r9 (dp hdep 10)).1; omega)), (Nat.le_trans sz hg.size), (b_B13.gB hg (by have := (n_N10r9 (dp hdep 10)).1; omega)), (Own.gB p_0 hg hh26_0 (by have := (n_N10r9 (dp hdep 10)).1; omega)), (Own.gB p_1 hg hh26_1 (by have := (n_N10r9 (dp hdep 10)).1; omega)), (fun h => ⟨(n_N10r9 h).1, hx⟩), (fun h => Own.gBT (o_5_0 h) hg xN10r9 (by decide)), (fun h => Own.gBT (o_5_1 h) hg xN10r9 (by decide)), (fun _ => dp hdep 10), cl_6_5, cl_7_5, (fun _ => cl_7_5 (dp hdep 7)), s_50, s_51, s_52, s_53, s_54, s_55, s_49, s_56, s_57, s_58, s_9, s_10, s_11⟩
    | 12, _ =>
      obtain rfl := Option.some.inj (show some _ = some o from ho); clear ho
      have v57 := s_57 (dp hdep 8)
      refine dj_val (i := 12) (v := .int .i64 (stp g m).2.1) rfl (.inl rfl) (ev_assign v57.eval _ rfl) ?_
      exact ⟨⟨_, rfl⟩, Ap5r9, cp5r9, Aj5r9, cj5r9, N10r9, bl, sz, b_B13, p_0, p_1, n_N10r9, o_5_0, o_5_1, cl_11_10, cl_6_5, cl_7_5, cl_11_5, (so s_50), (so s_51), (so s_52), (so s_53), (so s_54), (so s_55), (so s_49), (so s_56), (so s_57), (so s_58), (so s_9), (fun _ => Sv.self (by rw [zq]; decide) _), (so s_11)⟩
    | 13, _ =>
      obtain rfl := Option.some.inj (show some _ = some o from ho); clear ho
      have v58 := s_58 (dp hdep 9)
      refine dj_val (i := 13) (v := .int .i64 (stp g m).2.2) rfl (.inl rfl) (ev_assign v58.eval _ rfl) ?_
      exact ⟨⟨_, rfl⟩, Ap5r9, cp5r9, Aj5r9, cj5r9, N10r9, bl, sz, b_B13, p_0, p_1, n_N10r9, o_5_0, o_5_1, cl_11_10, cl_6_5, cl_7_5, cl_11_5, (so s_50), (so s_51), (so s_52), (so s_53), (so s_54), (so s_55), (so s_49), (so s_56), (so s_57), (so s_58), (so s_9), (so s_10), (fun _ => Sv.self (by rw [zq]; decide) _)⟩
    | k + 14, h => exact absurd h (by omega)
  · intro L hall ac60 wc60 hF hJ
    obtain ⟨Ap5r9, cp5r9, Aj5r9, cj5r9, N10r9, bl, sz, b_B13, p_0, p_1, n_N10r9, o_5_0, o_5_1, cl_11_10, cl_6_5, cl_7_5, cl_11_5, s_50, s_51, s_52, s_53, s_54, s_55, s_49, s_56, s_57, s_58, s_9, s_10, s_11⟩ := hJ
    have hA60 : Ag ac60 183 [(0, .int .i64 (N : Int)), (1, .slice A xs.length c), (5, .bool true), (6, .pointer (some ⟨B13, 0, none⟩)), (8, .int .i64 (i : Int)), (39, .int .i64 (i : Int)), (40, .slice A xs.length c), (41, .int .i64 (xs.length : Int)), (42, .bool true), (43, .bool true), (44, .int .i64 (i : Int)), (45, .bool true), (46, .bool true), (50, .agg #[.slice A1g g.rs.length c1g, .slice A2g g.bs.length c2g]), (51, .slice A xs.length c), (52, .int .i64 (i : Int)), (53, .pointer (some (ad1.add (i * 1)))), (54, .int .i64 x), (55, .tuple #[.agg #[.slice Ap5r9 (stp g m).1.rs.length cp5r9, .slice Aj5r9 (stp g m).1.bs.length cj5r9], .int .i64 (stp g m).2.1, .int .i64 (stp g m).2.2]), (49, .tuple #[.agg #[.slice Ap5r9 (stp g m).1.rs.length cp5r9, .slice Aj5r9 (stp g m).1.bs.length cj5r9], .int .i64 (stp g m).2.1, .int .i64 (stp g m).2.2]), (56, .agg #[.slice Ap5r9 (stp g m).1.rs.length cp5r9, .slice Aj5r9 (stp g m).1.bs.length cj5r9]), (57, .int .i64 (stp g m).2.1), (58, .int .i64 (stp g m).2.2), (9, .pointer (some ⟨N10r9, 0, none⟩)), (10, .int .i64 (stp g m).2.1), (11, .int .i64 (stp g m).2.2)] := (((((((((((((((((((((((((((Ag.nil (hF.1.trans hA59.1) (hF.2.1.trans hA59.2.1)).cons (s_11 (hall 13 (by decide)))).cons (s_10 (hall 12 (by decide)))).cons (s_9 (hall 10 (by decide)))).cons (s_58 (hall 9 (by decide)))).cons (s_57 (hall 8 (by decide)))).cons (s_56 (hall 7 (by decide)))).cons (s_49 (hall 6 (by decide)))).cons (s_55 (hall 5 (by decide)))).cons (s_54 (hall 4 (by decide)))).cons (s_53 (hall 3 (by decide)))).cons (s_52 (hall 2 (by decide)))).cons (s_51 (hall 1 (by decide)))).cons (s_50 (hall 0 (by decide)))).cons (hF.sv (s := 46) (by kernel_rfl) (hA59.get (i := 46) (v := .bool true)))).cons (hF.sv (s := 45) (by kernel_rfl) (hA59.get (i := 45) (v := .bool true)))).cons (hF.sv (s := 44) (by kernel_rfl) (hA59.get (i := 44) (v := .int .i64 (i : Int))))).cons (hF.sv (s := 43) (by kernel_rfl) (hA59.get (i := 43) (v := .bool true)))).cons (hF.sv (s := 42) (by kernel_rfl) (hA59.get (i := 42) (v := .bool true)))).cons (hF.sv (s := 41) (by kernel_rfl) (hA59.get (i := 41) (v := .int .i64 (xs.length : Int))))).cons (hF.sv (s := 40) (by kernel_rfl) (hA59.get (i := 40) (v := .slice A xs.length c)))).cons (hF.sv (s := 39) (by kernel_rfl) (hA59.get (i := 39) (v := .int .i64 (i : Int))))).cons (hF.sv (s := 8) (by kernel_rfl) (hA59.get (i := 8) (v := .int .i64 (i : Int))))).cons (hF.sv (s := 6) (by kernel_rfl) (hA59.get (i := 6) (v := .pointer (some ⟨B13, 0, none⟩))))).cons (hF.sv (s := 5) (by kernel_rfl) (hA59.get (i := 5) (v := .bool true)))).cons (hF.sv (s := 1) (by kernel_rfl) (hA59.get (i := 1) (v := .slice A xs.length c)))).cons (hF.sv (s := 0) (by kernel_rfl) (hA59.get (i := 0) (v := .int .i64 (N : Int)))))
    have bl60 := bl
    have sz60 := sz
    have b60_B13 := b_B13
    have p60_0 := p_0
    have p60_1 := p_1
    have n60_N10r9 := (n_N10r9 (hall 10 (by decide))).1
    have b60_N10r9 : Bx wc60 N10r9 25 (#[.slice Ap5r9 (stp g m).1.rs.length cp5r9, .slice Aj5r9 (stp g m).1.bs.length cj5r9]) := by
      have h := (n_N10r9 (hall 10 (by decide))).2
      rw [hall 11 (by decide)] at h
      exact h
    have l60_N10r9 := b60_N10r9.lt
    have o60_5_0 := o_5_0 (hall 5 (by decide))
    have hh60_5_0 := Own.hi o60_5_0
    have o60_5_1 := o_5_1 (hall 5 (by decide))
    have hh60_5_1 := Own.hi o60_5_1
    clear hF bl sz b_B13 p_0 p_1 n_N10r9 o_5_0 o_5_1 cl_11_10 cl_6_5 cl_7_5 cl_11_5 s_50 s_51 s_52 s_53 s_54 s_55 s_49 s_56 s_57 s_58 s_9 s_10 s_11 hall hA59
    refine then_n ?_
    refine wp_seq ?_
    refine wp_seq ?_
    refine wp_region_lit ?_
    refine sx_val hA60 rfl (ev_move (hA60.ev (i := 11) (v := .int .i64 (stp g m).2.2)) _ rfl) ?_
    intro a61 hA61; clear hA60
    cases hd62 : decide ((stp g m).2.2 = 0)
    · have hp62 := of_decide_eq_false hd62
      refine sx_val (v := .bool true) hA61 rfl (ev_neqB (k := .i64) (m := (stp g m).2.2) (n := 0) (hA61.ev (i := 59)) (ec _ (.int .i64 0)) (by simpa using hd62) _ rfl) ?_
      intro a63 hA63; clear hA61
      refine sx_nil ?_
      refine then_n ?_
      refine wp_cond_true (hA63.ev (i := 60) (v := .bool true)) ?_
      refine wp_exit ?_
      refine then_x ?_
      refine blk_hit ?_
      refine then_n ?_
      refine wp_region_lit ?_
      refine sx_val hA63 rfl (ev_move (hA63.ev (i := 8) (v := .int .i64 (i : Int))) _ rfl) ?_
      intro a64 hA64; clear hA63
      refine sx_val (v := .int .i64 ((i + 1 : Nat) : Int)) hA64 rfl (ev_addR (k := .i64) (m := (i : Int)) (n := 1) (r := ((i + 1 : Nat) : Int)) (hA64.ev (i := 47)) (ec _ (.int .i64 1)) (wr (by omega) (by omega) (by omega)) _ rfl) ?_
      intro a65 hA65; clear hA64
      refine sx_val hA65 rfl (ev_assign (hA65.ev (i := 48) (v := .int .i64 ((i + 1 : Nat) : Int))) _ rfl) ?_
      intro a66 hA66; clear hA65
      refine sx_nil ?_
      refine then_n ?_
      refine ⟨60 - (i + 1), by omega, i + 1, g, A1g, c1g, A2g, c2g, rfl, ((((((Ag.nil hA66.1 hA66.2.1).cons (hA66.get (i := 8) (v := .int .i64 ((i + 1 : Nat) : Int)))).cons (hA66.get (i := 6) (v := .pointer (some ⟨B13, 0, none⟩)))).cons (hA66.get (i := 5) (v := .bool true))).cons (hA66.get (i := 1) (v := .slice A xs.length c))).cons (hA66.get (i := 0) (v := .int .i64 (N : Int)))), by omega, q26_1, q26_2, b60_B13, (Own.mono p60_0 (by omega)), (Own.mono p60_1 (by omega)), by omega, bl60⟩
    have hp62 := of_decide_eq_true hd62
    refine sx_val (v := .bool false) hA61 rfl (ev_neqB (k := .i64) (m := (stp g m).2.2) (n := 0) (hA61.ev (i := 59)) (ec _ (.int .i64 0)) (by simpa using hd62) _ rfl) ?_
    intro a67 hA67; clear hA61
    refine sx_nil ?_
    refine then_n ?_
    refine wp_cond_false (hA67.ev (i := 60) (v := .bool false)) ?_
    refine wp_skip ?_
    refine then_n ?_
    refine wp_seq ?_
    refine wp_region_lit ?_
    refine sx_val (v := .agg #[.slice Ap5r9 (stp g m).1.rs.length cp5r9, .slice Aj5r9 (stp g m).1.bs.length cj5r9]) hA67 rfl (ev_row (hA67.ev (i := 9) (v := .pointer (some ⟨N10r9, 0, none⟩))) b60_N10r9 Try.underlying25 rfl (n := 2) (by kernel_rfl) rfl _ rfl) ?_
    intro a68 hA68; clear hA67
    cases hd70 : decide ((stp g m).2.1 < 0)
    rotate_left
    · have hp70 := of_decide_eq_true hd70
      have hst := stp_ok q26_1 m hp62
      have hok2 := hst.ok
      have hln2 : (stp g m).1.rs.length = N := hst.len.trans q26_2
      have hbl2 : (stp g m).1.bs.length = N := hok2.len.trans hln2
      have hd3 : decide (((stp g m).1.rs.length : Int) = (N : Int)) = true := decide_eq_true (by omega)
      have hd4 : decide (((stp g m).1.bs.length : Int) = (N : Int)) = true := decide_eq_true (by omega)
      have hd5 : decide (0 ≤ (stp g m).2.1) = false := decide_eq_false (by omega)
      have hd6 : decide ((N : Int) ≤ (stp g m).2.1) = false := decide_eq_false (by omega)
      refine sx_call (f := 20) (args := #[.agg #[.slice Ap5r9 (stp g m).1.rs.length cp5r9, .slice Aj5r9 (stp g m).1.bs.length cj5r9]]) hA68 rfl (by decide) (.inl rfl) (ev_fn rfl (mp1 (hA68.ev (i := 62) (v := .agg #[.slice Ap5r9 (stp g m).1.rs.length cp5r9, .slice Aj5r9 (stp g m).1.bs.length cj5r9]))) (by kernel_rfl) _ rfl) (Check_any Ap5r9 cp5r9 Aj5r9 cj5r9 (stp g m).1.rs (stp g m).1.bs _ ⟨(OwnR.gr (e := 3) ⟨rfl, o60_5_0⟩), (OwnR.gr (e := 4) ⟨rfl, o60_5_1⟩)⟩ (by omega) (by omega)) ?_
      intro e425 w425 hR425
      obtain ⟨he425, hb425⟩ := hR425
      rw [chs_mk hok2] at he425
      subst he425
      refine ⟨_, rfl, ?_⟩
      intro a425 hA425
      clear hA68
      have hg425 := g0 hb425
      have hs425 := hg425.size
      clear hb425
      refine sx_val hA425 rfl (ev_move (hA425.ev (i := 63) (v := .tuple #[.int .i64 0, .int .i64 0])) _ rfl) ?_
      intro a426 hA426; clear hA425
      refine sx_val (v := .int .i64 0) hA426 rfl (ev_ext (hA426.ev (i := 61) (v := .tuple #[.int .i64 0, .int .i64 0])) rfl _ rfl) ?_
      intro a427 hA427; clear hA426
      refine sx_val (v := .int .i64 0) hA427 rfl (ev_ext (hA427.ev (i := 61) (v := .tuple #[.int .i64 0, .int .i64 0])) rfl _ rfl) ?_
      intro a428 hA428; clear hA427
      refine sx_val hA428 rfl (ev_assign (hA428.ev (i := 64) (v := .int .i64 0)) _ rfl) ?_
      intro a429 hA429; clear hA428
      refine sx_val hA429 rfl (ev_assign (hA429.ev (i := 65) (v := .int .i64 0)) _ rfl) ?_
      intro a430 hA430; clear hA429
      refine sx_nil ?_
      refine then_n ?_
      refine wp_seq ?_
      refine wp_region_lit ?_
      have b60_N10r9_431 := b60_N10r9.gN hg425
      refine sx_val (v := .agg #[.slice Ap5r9 (stp g m).1.rs.length cp5r9, .slice Aj5r9 (stp g m).1.bs.length cj5r9]) hA430 rfl (ev_row (hA430.ev (i := 9) (v := .pointer (some ⟨N10r9, 0, none⟩))) b60_N10r9_431 Try.underlying25 rfl (n := 2) (by kernel_rfl) rfl _ rfl) ?_
      intro a432 hA432; clear hA430
      have o60_5_434 := Own.gN o60_5_0 hg425
      have o60_5_435 := Own.gN o60_5_1 hg425
      refine sx_call (f := 26) (args := #[.agg #[.slice Ap5r9 (stp g m).1.rs.length cp5r9, .slice Aj5r9 (stp g m).1.bs.length cj5r9]]) hA432 rfl (by decide) (.inl rfl) (ev_fn rfl (mp1 (hA432.ev (i := 67) (v := .agg #[.slice Ap5r9 (stp g m).1.rs.length cp5r9, .slice Aj5r9 (stp g m).1.bs.length cj5r9]))) (by kernel_rfl) _ rfl) (Count_any Ap5r9 cp5r9 Aj5r9 cj5r9 (stp g m).1.rs (stp g m).1.bs _ ⟨(OwnR.gr (e := 3) ⟨rfl, o60_5_434⟩), (OwnR.gr (e := 4) ⟨rfl, o60_5_435⟩)⟩ (by omega) (by omega)) ?_
      intro e433 w433 hR433
      obtain ⟨he433, hb433⟩ := hR433
      rw [cnt_ok hok2, hln2] at he433
      subst he433
      refine ⟨_, rfl, ?_⟩
      intro a433 hA433
      clear hA432
      have hg433 := g0 hb433
      have hs433 := hg433.size
      clear hb433
      refine sx_val hA433 rfl (ev_move (hA433.ev (i := 68) (v := .tuple #[.int .i64 ((cfr (stp g m).1 N : Nat) : Int), .int .i64 ((cntS (opm (stp g m).1.bs) 0 N : Nat) : Int), .int .i64 (sumr (stp g m).1.rs N), .int .i64 0])) _ rfl) ?_
      intro a436 hA436; clear hA433
      refine sx_val (v := .int .i64 ((cfr (stp g m).1 N : Nat) : Int)) hA436 rfl (ev_ext (hA436.ev (i := 66) (v := .tuple #[.int .i64 ((cfr (stp g m).1 N : Nat) : Int), .int .i64 ((cntS (opm (stp g m).1.bs) 0 N : Nat) : Int), .int .i64 (sumr (stp g m).1.rs N), .int .i64 0])) rfl _ rfl) ?_
      intro a437 hA437; clear hA436
      refine sx_val (v := .int .i64 ((cntS (opm (stp g m).1.bs) 0 N : Nat) : Int)) hA437 rfl (ev_ext (hA437.ev (i := 66) (v := .tuple #[.int .i64 ((cfr (stp g m).1 N : Nat) : Int), .int .i64 ((cntS (opm (stp g m).1.bs) 0 N : Nat) : Int), .int .i64 (sumr (stp g m).1.rs N), .int .i64 0])) rfl _ rfl) ?_
      intro a438 hA438; clear hA437
      refine sx_val (v := .int .i64 (sumr (stp g m).1.rs N)) hA438 rfl (ev_ext (hA438.ev (i := 66) (v := .tuple #[.int .i64 ((cfr (stp g m).1 N : Nat) : Int), .int .i64 ((cntS (opm (stp g m).1.bs) 0 N : Nat) : Int), .int .i64 (sumr (stp g m).1.rs N), .int .i64 0])) rfl _ rfl) ?_
      intro a439 hA439; clear hA438
      refine sx_val (v := .int .i64 0) hA439 rfl (ev_ext (hA439.ev (i := 66) (v := .tuple #[.int .i64 ((cfr (stp g m).1 N : Nat) : Int), .int .i64 ((cntS (opm (stp g m).1.bs) 0 N : Nat) : Int), .int .i64 (sumr (stp g m).1.rs N), .int .i64 0])) rfl _ rfl) ?_
      intro a440 hA440; clear hA439
      refine sx_val hA440 rfl (ev_assign (hA440.ev (i := 69) (v := .int .i64 ((cfr (stp g m).1 N : Nat) : Int))) _ rfl) ?_
      intro a441 hA441; clear hA440
      refine sx_val hA441 rfl (ev_assign (hA441.ev (i := 70) (v := .int .i64 ((cntS (opm (stp g m).1.bs) 0 N : Nat) : Int))) _ rfl) ?_
      intro a442 hA442; clear hA441
      refine sx_val hA442 rfl (ev_assign (hA442.ev (i := 71) (v := .int .i64 (sumr (stp g m).1.rs N))) _ rfl) ?_
      intro a443 hA443; clear hA442
      refine sx_val hA443 rfl (ev_assign (hA443.ev (i := 72) (v := .int .i64 0)) _ rfl) ?_
      intro a444 hA444; clear hA443
      refine sx_nil ?_
      refine then_n ?_
      refine wp_seq ?_
      refine wp_seq ?_
      refine wp_region_lit ?_
      refine sx_val hA444 rfl (ev_move (hA444.ev (i := 12) (v := .int .i64 0)) _ rfl) ?_
      intro a445 hA445; clear hA444
      refine sx_val (v := .bool false) hA445 rfl (ev_neqB (k := .i64) (m := 0) (n := 0) (hA445.ev (i := 73)) (ec _ (.int .i64 0)) (by decide) _ rfl) ?_
      intro a446 hA446; clear hA445
      refine sx_val hA446 rfl (ev_move (hA446.ev (i := 74) (v := .bool false)) _ rfl) ?_
      intro a447 hA447; clear hA446
      refine sx_val (hg := (.inr ⟨2, false, 75, rfl, rfl, by kernel_rfl⟩)) hA447 rfl (ev_move (hA447.ev (i := 17) (v := .int .i64 0)) _ rfl) ?_
      intro a448 hA448; clear hA447
      refine sx_val (hg := (.inr ⟨2, false, 75, rfl, rfl, by kernel_rfl⟩)) (v := .bool false) hA448 rfl (ev_neqB (k := .i64) (m := 0) (n := 0) (hA448.ev (i := 76)) (ec _ (.int .i64 0)) (by decide) _ rfl) ?_
      intro a449 hA449; clear hA448
      refine sx_val hA449 rfl (ev_pickF (hA449.ev (i := 75) (v := .bool false)) (hA449.ev (i := 77) (v := .bool false)) _ rfl) ?_
      intro a450 hA450; clear hA449
      refine sx_val hA450 rfl (ev_move (hA450.ev (i := 78) (v := .bool false)) _ rfl) ?_
      intro a451 hA451; clear hA450
      refine sx_val (hg := (.inr ⟨6, false, 79, rfl, rfl, by kernel_rfl⟩)) (v := .pointer (some ⟨N10r9, 0, none⟩)) hA451 rfl (fb_Slots_0 (hA451.ev (i := 9) (v := .pointer (some ⟨N10r9, 0, none⟩))) _ rfl) ?_
      intro a452 hA452; clear hA451
      have b60_N10r9_453 := b60_N10r9_431.gN hg433
      refine sx_val (hg := (.inr ⟨6, false, 79, rfl, rfl, by kernel_rfl⟩)) (v := .slice Ap5r9 (stp g m).1.rs.length cp5r9) hA452 rfl (ev_cell (v := .slice Ap5r9 (stp g m).1.rs.length cp5r9) (hA452.ev (i := 80) (v := .pointer (some ⟨N10r9, 0, none⟩))) ((b60_N10r9_453.cell 0).trans rfl) Try.underlying22 rfl _ rfl) ?_
      intro a454 hA454; clear hA452
      refine sx_val (hg := (.inr ⟨6, false, 79, rfl, rfl, by kernel_rfl⟩)) (v := .int .i64 ((stp g m).1.rs.length : Int)) hA454 rfl (ev_len (hA454.ev (i := 81) (v := .slice Ap5r9 (stp g m).1.rs.length cp5r9)) Try.underlying22 _ rfl) ?_
      intro a455 hA455; clear hA454
      refine sx_val (hg := (.inr ⟨6, false, 79, rfl, rfl, by kernel_rfl⟩)) hA455 rfl (ev_move (hA455.ev (i := 0) (v := .int .i64 (N : Int))) _ rfl) ?_
      intro a456 hA456; clear hA455
      refine sx_val (hg := (.inr ⟨6, false, 79, rfl, rfl, by kernel_rfl⟩)) (v := .bool false) hA456 rfl (ev_neqB (k := .i64) (m := ((stp g m).1.rs.length : Int)) (n := (N : Int)) (hA456.ev (i := 82)) (hA456.ev (i := 83)) (by simpa using hd3) _ rfl) ?_
      intro a457 hA457; clear hA456
      refine sx_val hA457 rfl (ev_pickF (hA457.ev (i := 79) (v := .bool false)) (hA457.ev (i := 84) (v := .bool false)) _ rfl) ?_
      intro a458 hA458; clear hA457
      refine sx_nil ?_
      refine then_n ?_
      refine wp_cond_false (hA458.ev (i := 85) (v := .bool false)) ?_
      refine wp_skip ?_
      refine then_n ?_
      refine wp_seq ?_
      refine wp_region_lit ?_
      refine sx_val hA458 rfl (ev_assign (ec _ (.int .i64 0)) _ rfl) ?_
      intro a459 hA459; clear hA458
      refine sx_val hA459 rfl (ev_assign (ec _ (.int .i64 0)) _ rfl) ?_
      intro a460 hA460; clear hA459
      refine sx_nil ?_
      refine then_n ?_
      refine wp_seq ?_
      refine wp_seq ?_
      refine wp_region_lit ?_
      refine sx_val hA460 rfl (ev_assign (ec _ (.int .i64 0)) _ rfl) ?_
      intro a461 hA461; clear hA460
      refine sx_nil ?_
      refine then_n ?_
      refine wp_block ?_
      have b60_B13_463 := b60_B13.gN hg425
      have b60_B13_464 := b60_B13_463.gN hg433
      have p60_465 := Own.gN p60_0 hg425
      have p60_466 := Own.gN p60_465 hg433
      have p60_467 := Own.gN p60_1 hg425
      have p60_468 := Own.gN p60_467 hg433
      have o60_5_469 := Own.gN o60_5_434 hg433
      have o60_5_470 := Own.gN o60_5_435 hg433
      have bl60_471 := Below.gN bl60 hg425 bl60.size
      have bl60_472 := Below.gN bl60_471 hg433 bl60_471.size
      refine wp_loop_ghost (fun gz a wl => ∃ (k : Nat), gz = N - k ∧ Ag a 183 [(0, .int .i64 (N : Int)), (1, .slice A xs.length c), (5, .bool true), (6, .pointer (some ⟨B13, 0, none⟩)), (8, .int .i64 (i : Int)), (39, .int .i64 (i : Int)), (40, .slice A xs.length c), (41, .int .i64 (xs.length : Int)), (42, .bool true), (43, .bool true), (44, .int .i64 (i : Int)), (45, .bool true), (46, .bool true), (50, .agg #[.slice A1g g.rs.length c1g, .slice A2g g.bs.length c2g]), (51, .slice A xs.length c), (52, .int .i64 (i : Int)), (53, .pointer (some (ad1.add (i * 1)))), (54, .int .i64 x), (55, .tuple #[.agg #[.slice Ap5r9 (stp g m).1.rs.length cp5r9, .slice Aj5r9 (stp g m).1.bs.length cj5r9], .int .i64 (stp g m).2.1, .int .i64 (stp g m).2.2]), (49, .tuple #[.agg #[.slice Ap5r9 (stp g m).1.rs.length cp5r9, .slice Aj5r9 (stp g m).1.bs.length cj5r9], .int .i64 (stp g m).2.1, .int .i64 (stp g m).2.2]), (56, .agg #[.slice Ap5r9 (stp g m).1.rs.length cp5r9, .slice Aj5r9 (stp g m).1.bs.length cj5r9]), (57, .int .i64 (stp g m).2.1), (58, .int .i64 (stp g m).2.2), (9, .pointer (some ⟨N10r9, 0, none⟩)), (10, .int .i64 (stp g m).2.1), (11, .int .i64 (stp g m).2.2), (59, .int .i64 (stp g m).2.2), (60, .bool false), (62, .agg #[.slice Ap5r9 (stp g m).1.rs.length cp5r9, .slice Aj5r9 (stp g m).1.bs.length cj5r9]), (63, .tuple #[.int .i64 0, .int .i64 0]), (61, .tuple #[.int .i64 0, .int .i64 0]), (64, .int .i64 0), (65, .int .i64 0), (12, .int .i64 0), (67, .agg #[.slice Ap5r9 (stp g m).1.rs.length cp5r9, .slice Aj5r9 (stp g m).1.bs.length cj5r9]), (68, .tuple #[.int .i64 ((cfr (stp g m).1 N : Nat) : Int), .int .i64 ((cntS (opm (stp g m).1.bs) 0 N : Nat) : Int), .int .i64 (sumr (stp g m).1.rs N), .int .i64 0]), (66, .tuple #[.int .i64 ((cfr (stp g m).1 N : Nat) : Int), .int .i64 ((cntS (opm (stp g m).1.bs) 0 N : Nat) : Int), .int .i64 (sumr (stp g m).1.rs N), .int .i64 0]), (69, .int .i64 ((cfr (stp g m).1 N : Nat) : Int)), (70, .int .i64 ((cntS (opm (stp g m).1.bs) 0 N : Nat) : Int)), (71, .int .i64 (sumr (stp g m).1.rs N)), (72, .int .i64 0), (14, .int .i64 ((cfr (stp g m).1 N : Nat) : Int)), (15, .int .i64 ((cntS (opm (stp g m).1.bs) 0 N : Nat) : Int)), (16, .int .i64 (sumr (stp g m).1.rs N)), (17, .int .i64 0), (73, .int .i64 0), (74, .bool false), (75, .bool false), (76, .int .i64 0), (77, .bool false), (78, .bool false), (79, .bool false), (80, .pointer (some ⟨N10r9, 0, none⟩)), (81, .slice Ap5r9 (stp g m).1.rs.length cp5r9), (82, .int .i64 ((stp g m).1.rs.length : Int)), (83, .int .i64 (N : Int)), (84, .bool false), (85, .bool false), (20, .int .i64 (k : Int)), (18, .int .i64 ((usd (stp g m).1 k : Nat) : Int)), (19, .int .i64 (sumr (stp g m).1.rs k))] ∧ k ≤ N ∧ Bx wl B13 25 #[.slice A1g g.rs.length c1g, .slice A2g g.bs.length c2g] ∧ Bx wl N10r9 25 #[.slice Ap5r9 (stp g m).1.rs.length cp5r9, .slice Aj5r9 (stp g m).1.bs.length cj5r9] ∧ Own wl (w.heap.size) 3 1 (.slice A1g g.rs.length c1g) g.rs.length (flat iva g.rs) ∧ Own wl (w.heap.size) 4 1 (.slice A2g g.bs.length c2g) g.bs.length (flat bva g.bs) ∧ Own wl (w26.heap.size) 3 1 (.slice Ap5r9 (stp g m).1.rs.length cp5r9) (stp g m).1.rs.length (flat iva (stp g m).1.rs) ∧ Own wl (w26.heap.size) 4 1 (.slice Aj5r9 (stp g m).1.bs.length cj5r9) (stp g m).1.bs.length (flat bva (stp g m).1.bs) ∧ w433.heap.size ≤ wl.heap.size ∧ Below w.heap.size w wl) (N - 0) ⟨0, rfl, ((((((((((((((((((((((((((((((((((((((((((((((((((((((((((((((Ag.nil hA461.1 hA461.2.1).cons (hA461.get (i := 19) (v := .int .i64 0))).cons (hA461.get (i := 18) (v := .int .i64 0))).cons (hA461.get (i := 20) (v := .int .i64 0))).cons (hA461.get (i := 85) (v := .bool false))).cons (hA461.get (i := 84) (v := .bool false))).cons (hA461.get (i := 83) (v := .int .i64 (N : Int)))).cons (hA461.get (i := 82) (v := .int .i64 ((stp g m).1.rs.length : Int)))).cons (hA461.get (i := 81) (v := .slice Ap5r9 (stp g m).1.rs.length cp5r9))).cons (hA461.get (i := 80) (v := .pointer (some ⟨N10r9, 0, none⟩)))).cons (hA461.get (i := 79) (v := .bool false))).cons (hA461.get (i := 78) (v := .bool false))).cons (hA461.get (i := 77) (v := .bool false))).cons (hA461.get (i := 76) (v := .int .i64 0))).cons (hA461.get (i := 75) (v := .bool false))).cons (hA461.get (i := 74) (v := .bool false))).cons (hA461.get (i := 73) (v := .int .i64 0))).cons (hA461.get (i := 17) (v := .int .i64 0))).cons (hA461.get (i := 16) (v := .int .i64 (sumr (stp g m).1.rs N)))).cons (hA461.get (i := 15) (v := .int .i64 ((cntS (opm (stp g m).1.bs) 0 N : Nat) : Int)))).cons (hA461.get (i := 14) (v := .int .i64 ((cfr (stp g m).1 N : Nat) : Int)))).cons (hA461.get (i := 72) (v := .int .i64 0))).cons (hA461.get (i := 71) (v := .int .i64 (sumr (stp g m).1.rs N)))).cons (hA461.get (i := 70) (v := .int .i64 ((cntS (opm (stp g m).1.bs) 0 N : Nat) : Int)))).cons (hA461.get (i := 69) (v := .int .i64 ((cfr (stp g m).1 N : Nat) : Int)))).cons (hA461.get (i := 66) (v := .tuple #[.int .i64 ((cfr (stp g m).1 N : Nat) : Int), .int .i64 ((cntS (opm (stp g m).1.bs) 0 N : Nat) : Int), .int .i64 (sumr (stp g m).1.rs N), .int .i64 0]))).cons (hA461.get (i := 68) (v := .tuple #[.int .i64 ((cfr (stp g m).1 N : Nat) : Int), .int .i64 ((cntS (opm (stp g m).1.bs) 0 N : Nat) : Int), .int .i64 (sumr (stp g m).1.rs N), .int .i64 0]))).cons (hA461.get (i := 67) (v := .agg #[.slice Ap5r9 (stp g m).1.rs.length cp5r9, .slice Aj5r9 (stp g m).1.bs.length cj5r9]))).cons (hA461.get (i := 12) (v := .int .i64 0))).cons (hA461.get (i := 65) (v := .int .i64 0))).cons (hA461.get (i := 64) (v := .int .i64 0))).cons (hA461.get (i := 61) (v := .tuple #[.int .i64 0, .int .i64 0]))).cons (hA461.get (i := 63) (v := .tuple #[.int .i64 0, .int .i64 0]))).cons (hA461.get (i := 62) (v := .agg #[.slice Ap5r9 (stp g m).1.rs.length cp5r9, .slice Aj5r9 (stp g m).1.bs.length cj5r9]))).cons (hA461.get (i := 60) (v := .bool false))).cons (hA461.get (i := 59) (v := .int .i64 (stp g m).2.2))).cons (hA461.get (i := 11) (v := .int .i64 (stp g m).2.2))).cons (hA461.get (i := 10) (v := .int .i64 (stp g m).2.1))).cons (hA461.get (i := 9) (v := .pointer (some ⟨N10r9, 0, none⟩)))).cons (hA461.get (i := 58) (v := .int .i64 (stp g m).2.2))).cons (hA461.get (i := 57) (v := .int .i64 (stp g m).2.1))).cons (hA461.get (i := 56) (v := .agg #[.slice Ap5r9 (stp g m).1.rs.length cp5r9, .slice Aj5r9 (stp g m).1.bs.length cj5r9]))).cons (hA461.get (i := 49) (v := .tuple #[.agg #[.slice Ap5r9 (stp g m).1.rs.length cp5r9, .slice Aj5r9 (stp g m).1.bs.length cj5r9], .int .i64 (stp g m).2.1, .int .i64 (stp g m).2.2]))).cons (hA461.get (i := 55) (v := .tuple #[.agg #[.slice Ap5r9 (stp g m).1.rs.length cp5r9, .slice Aj5r9 (stp g m).1.bs.length cj5r9], .int .i64 (stp g m).2.1, .int .i64 (stp g m).2.2]))).cons (hA461.get (i := 54) (v := .int .i64 x))).cons (hA461.get (i := 53) (v := .pointer (some (ad1.add (i * 1)))))).cons (hA461.get (i := 52) (v := .int .i64 (i : Int)))).cons (hA461.get (i := 51) (v := .slice A xs.length c))).cons (hA461.get (i := 50) (v := .agg #[.slice A1g g.rs.length c1g, .slice A2g g.bs.length c2g]))).cons (hA461.get (i := 46) (v := .bool true))).cons (hA461.get (i := 45) (v := .bool true))).cons (hA461.get (i := 44) (v := .int .i64 (i : Int)))).cons (hA461.get (i := 43) (v := .bool true))).cons (hA461.get (i := 42) (v := .bool true))).cons (hA461.get (i := 41) (v := .int .i64 (xs.length : Int)))).cons (hA461.get (i := 40) (v := .slice A xs.length c))).cons (hA461.get (i := 39) (v := .int .i64 (i : Int)))).cons (hA461.get (i := 8) (v := .int .i64 (i : Int)))).cons (hA461.get (i := 6) (v := .pointer (some ⟨B13, 0, none⟩)))).cons (hA461.get (i := 5) (v := .bool true))).cons (hA461.get (i := 1) (v := .slice A xs.length c))).cons (hA461.get (i := 0) (v := .int .i64 (N : Int)))), Nat.zero_le _, b60_B13_464, b60_N10r9_453, p60_466, p60_468, o60_5_469, o60_5_470, Nat.le_refl _, bl60_472⟩ ?_
      intro n462 a462 w462 hI462
      obtain ⟨k, hn462, hA462, q462_0, f462_0, f462_1, f462_2, f462_3, f462_4, f462_5, hsz462, hbel462⟩ := hI462
      subst hn462
      clear hA461
      have hlB13_462 := f462_0.lt
      have hlN10r9_462 := f462_1.lt
      cases hd473 : decide ((k : Int) < (N : Int))
      · have hp473 := of_decide_eq_false hd473
        have hkN : k = N := by omega
        rw [hkN] at hA462
        have hkd := kinds hok2 N
        have hq1 := cfr_le (stp g m).1 N
        have hq2 := cntS_le (opm (stp g m).1.bs) 0 N
        have hq3 := usd_le (stp g m).1 N
        have hd8 : decide ((((((cfr (stp g m).1 N) + (cntS (opm (stp g m).1.bs) 0 N)) + (usd (stp g m).1 N)) : Nat) : Int) = (N : Int)) = true := decide_eq_true (by omega)
        refine wp_seq ?_
        refine wp_seq ?_
        refine wp_region_lit ?_
        refine sx_val hA462 rfl (ev_move (hA462.ev (i := 20) (v := .int .i64 (N : Int))) _ rfl) ?_
        intro a474 hA474; clear hA462
        refine sx_val hA474 rfl (ev_move (hA474.ev (i := 0) (v := .int .i64 (N : Int))) _ rfl) ?_
        intro a475 hA475; clear hA474
        refine sx_val (v := .bool false) hA475 rfl (ev_lssB (k := .i64) (m := (N : Int)) (n := (N : Int)) (hA475.ev (i := 86)) (hA475.ev (i := 87)) (by simp) _ rfl) ?_
        intro a476 hA476; clear hA475
        refine sx_nil ?_
        refine then_n ?_
        refine wp_cond_false (hA476.ev (i := 88) (v := .bool false)) ?_
        refine wp_exit ?_
        refine then_x ?_
        refine then_x ?_
        refine blk_hit ?_
        refine then_n ?_
        refine wp_seq ?_
        refine wp_seq ?_
        refine wp_region_lit ?_
        refine sx_val hA476 rfl (ev_move (hA476.ev (i := 10) (v := .int .i64 (stp g m).2.1)) _ rfl) ?_
        intro a477 hA477; clear hA476
        refine sx_val hA477 rfl (ev_move (hA477.ev (i := 0) (v := .int .i64 (N : Int))) _ rfl) ?_
        intro a478 hA478; clear hA477
        refine sx_val (v := .bool false) hA478 rfl (ev_geqB (k := .i64) (m := (stp g m).2.1) (n := (N : Int)) (hA478.ev (i := 137)) (hA478.ev (i := 138)) hd6 _ rfl) ?_
        intro a479 hA479; clear hA478
        refine sx_val hA479 rfl (ev_move (hA479.ev (i := 139) (v := .bool false)) _ rfl) ?_
        intro a480 hA480; clear hA479
        refine sx_val (hg := (.inr ⟨3, false, 140, rfl, rfl, by kernel_rfl⟩)) hA480 rfl (ev_move (hA480.ev (i := 10) (v := .int .i64 (stp g m).2.1)) _ rfl) ?_
        intro a481 hA481; clear hA480
        refine sx_val (hg := (.inr ⟨3, false, 140, rfl, rfl, by kernel_rfl⟩)) (v := .bool false) hA481 rfl (ev_geqB (k := .i64) (m := (stp g m).2.1) (n := 0) (hA481.ev (i := 141)) (ec _ (.int .i64 0)) hd5 _ rfl) ?_
        intro a482 hA482; clear hA481
        refine sx_val (hg := (.inr ⟨3, false, 140, rfl, rfl, by kernel_rfl⟩)) hA482 rfl (ev_move (hA482.ev (i := 142) (v := .bool false)) _ rfl) ?_
        intro a483 hA483; clear hA482
        refine sx_no (j := 6) (s := 143) (want := true) (b := false) hA483 rfl ?_
        intro a484 hA484; clear hA483
        refine sx_no (j := 6) (s := 143) (want := true) (b := false) hA484 rfl ?_
        intro a485 hA485; clear hA484
        refine sx_no (j := 6) (s := 143) (want := true) (b := false) hA485 rfl ?_
        intro a486 hA486; clear hA485
        refine sx_no (j := 6) (s := 143) (want := true) (b := false) hA486 rfl ?_
        intro a487 hA487; clear hA486
        refine sx_no (j := 6) (s := 143) (want := true) (b := false) hA487 rfl ?_
        intro a488 hA488; clear hA487
        refine sx_no (j := 6) (s := 143) (want := true) (b := false) hA488 rfl ?_
        intro a489 hA489; clear hA488
        refine sx_no (j := 6) (s := 143) (want := true) (b := false) hA489 rfl ?_
        intro a490 hA490; clear hA489
        refine sx_nu (j := 13) (s := 150) (want := false) hA490 rfl ?_
        intro a491 hA491; clear hA490
        refine sx_nu (j := 13) (s := 150) (want := false) hA491 rfl ?_
        intro a492 hA492; clear hA491
        refine sx_nu (j := 13) (s := 150) (want := false) hA492 rfl ?_
        intro a493 hA493; clear hA492
        refine sx_nu (j := 13) (s := 150) (want := false) hA493 rfl ?_
        intro a494 hA494; clear hA493
        refine sx_nu (j := 13) (s := 150) (want := false) hA494 rfl ?_
        intro a495 hA495; clear hA494
        refine sx_no (j := 6) (s := 143) (want := true) (b := false) hA495 rfl ?_
        intro a496 hA496; clear hA495
        refine sx_no (j := 6) (s := 143) (want := true) (b := false) hA496 rfl ?_
        intro a497 hA497; clear hA496
        refine sx_nu (j := 20) (s := 157) (want := false) hA497 rfl ?_
        intro a498 hA498; clear hA497
        refine sx_nu (j := 20) (s := 157) (want := false) hA498 rfl ?_
        intro a499 hA499; clear hA498
        refine sx_nu (j := 20) (s := 157) (want := false) hA499 rfl ?_
        intro a500 hA500; clear hA499
        refine sx_nu (j := 20) (s := 157) (want := false) hA500 rfl ?_
        intro a501 hA501; clear hA500
        refine sx_nu (j := 20) (s := 157) (want := false) hA501 rfl ?_
        intro a502 hA502; clear hA501
        refine sx_nu (j := 20) (s := 157) (want := false) hA502 rfl ?_
        intro a503 hA503; clear hA502
        refine sx_no (j := 6) (s := 143) (want := true) (b := false) hA503 rfl ?_
        intro a504 hA504; clear hA503
        refine sx_val (hg := (.inr ⟨3, false, 140, rfl, rfl, by kernel_rfl⟩)) hA504 rfl (ev_pickF (hA504.ev (i := 143) (v := .bool false)) (ec _ (.bool false)) _ rfl) ?_
        intro a505 hA505; clear hA504
        refine sx_val hA505 rfl (ev_pickF (hA505.ev (i := 140) (v := .bool false)) (hA505.ev (i := 165) (v := .bool false)) _ rfl) ?_
        intro a506 hA506; clear hA505
        refine sx_val hA506 rfl (ev_move (hA506.ev (i := 166) (v := .bool false)) _ rfl) ?_
        intro a507 hA507; clear hA506
        refine sx_val (hg := (.inr ⟨30, false, 167, rfl, rfl, by kernel_rfl⟩)) hA507 rfl (ev_move (hA507.ev (i := 14) (v := .int .i64 ((cfr (stp g m).1 N : Nat) : Int))) _ rfl) ?_
        intro a508 hA508; clear hA507
        refine sx_val (hg := (.inr ⟨30, false, 167, rfl, rfl, by kernel_rfl⟩)) hA508 rfl (ev_move (hA508.ev (i := 15) (v := .int .i64 ((cntS (opm (stp g m).1.bs) 0 N : Nat) : Int))) _ rfl) ?_
        intro a509 hA509; clear hA508
        refine sx_val (hg := (.inr ⟨30, false, 167, rfl, rfl, by kernel_rfl⟩)) (v := .int .i64 ((((cfr (stp g m).1 N) + (cntS (opm (stp g m).1.bs) 0 N)) : Nat) : Int)) hA509 rfl (ev_addI (m := (cfr (stp g m).1 N)) (n := (cntS (opm (stp g m).1.bs) 0 N)) (hA509.ev (i := 168)) (hA509.ev (i := 169)) rfl (by omega) _ rfl) ?_
        intro a510 hA510; clear hA509
        refine sx_val (hg := (.inr ⟨30, false, 167, rfl, rfl, by kernel_rfl⟩)) hA510 rfl (ev_move (hA510.ev (i := 18) (v := .int .i64 ((usd (stp g m).1 N : Nat) : Int))) _ rfl) ?_
        intro a511 hA511; clear hA510
        refine sx_val (hg := (.inr ⟨30, false, 167, rfl, rfl, by kernel_rfl⟩)) (v := .int .i64 (((((cfr (stp g m).1 N) + (cntS (opm (stp g m).1.bs) 0 N)) + (usd (stp g m).1 N)) : Nat) : Int)) hA511 rfl (ev_addI (m := ((cfr (stp g m).1 N) + (cntS (opm (stp g m).1.bs) 0 N))) (n := (usd (stp g m).1 N)) (hA511.ev (i := 170)) (hA511.ev (i := 171)) rfl (by omega) _ rfl) ?_
        intro a512 hA512; clear hA511
        refine sx_val (hg := (.inr ⟨30, false, 167, rfl, rfl, by kernel_rfl⟩)) hA512 rfl (ev_move (hA512.ev (i := 0) (v := .int .i64 (N : Int))) _ rfl) ?_
        intro a513 hA513; clear hA512
        refine sx_val (hg := (.inr ⟨30, false, 167, rfl, rfl, by kernel_rfl⟩)) (v := .bool false) hA513 rfl (ev_neqB (k := .i64) (m := (((((cfr (stp g m).1 N) + (cntS (opm (stp g m).1.bs) 0 N)) + (usd (stp g m).1 N)) : Nat) : Int)) (n := (N : Int)) (hA513.ev (i := 172)) (hA513.ev (i := 173)) (by simpa using hd8) _ rfl) ?_
        intro a514 hA514; clear hA513
        refine sx_val hA514 rfl (ev_pickF (hA514.ev (i := 167) (v := .bool false)) (hA514.ev (i := 174) (v := .bool false)) _ rfl) ?_
        intro a515 hA515; clear hA514
        refine sx_val hA515 rfl (ev_move (hA515.ev (i := 175) (v := .bool false)) _ rfl) ?_
        intro a516 hA516; clear hA515
        refine sx_val (hg := (.inr ⟨39, false, 176, rfl, rfl, by kernel_rfl⟩)) hA516 rfl (ev_move (hA516.ev (i := 16) (v := .int .i64 (sumr (stp g m).1.rs N))) _ rfl) ?_
        intro a517 hA517; clear hA516
        refine sx_val (hg := (.inr ⟨39, false, 176, rfl, rfl, by kernel_rfl⟩)) hA517 rfl (ev_move (hA517.ev (i := 19) (v := .int .i64 (sumr (stp g m).1.rs N))) _ rfl) ?_
        intro a518 hA518; clear hA517
        refine sx_val (hg := (.inr ⟨39, false, 176, rfl, rfl, by kernel_rfl⟩)) (v := .bool false) hA518 rfl (ev_neqB (k := .i64) (m := (sumr (stp g m).1.rs N)) (n := (sumr (stp g m).1.rs N)) (hA518.ev (i := 177)) (hA518.ev (i := 178)) (by simp) _ rfl) ?_
        intro a519 hA519; clear hA518
        refine sx_val hA519 rfl (ev_pickF (hA519.ev (i := 176) (v := .bool false)) (hA519.ev (i := 179) (v := .bool false)) _ rfl) ?_
        intro a520 hA520; clear hA519
        refine sx_nil ?_
        refine then_n ?_
        refine wp_cond_false (hA520.ev (i := 180) (v := .bool false)) ?_
        refine wp_skip ?_
        refine then_n ?_
        refine wp_region_lit ?_
        refine sx_val (v := .agg #[.slice Ap5r9 (stp g m).1.rs.length cp5r9, .slice Aj5r9 (stp g m).1.bs.length cj5r9]) hA520 rfl (ev_row (hA520.ev (i := 9) (v := .pointer (some ⟨N10r9, 0, none⟩))) f462_1 Try.underlying25 rfl (n := 2) (by kernel_rfl) rfl _ rfl) ?_
        intro a521 hA521; clear hA520
        refine sx_store hA521 rfl (.inl rfl) rfl (hA521.ev (i := 6) (v := .pointer (some ⟨B13, 0, none⟩))) (hA521.ev (i := 181) (v := .agg #[.slice Ap5r9 (stp g m).1.rs.length cp5r9, .slice Aj5r9 (stp g m).1.bs.length cj5r9])) f462_0 (by kernel_rfl) rfl (by simp [Value.oneCell']) ?_
        intro w522 hx522 hg522
        have hs522 := hg522.size
        refine sx_nil ?_
        refine blk_n ?_
        refine then_n ?_
        refine wp_region_lit ?_
        refine sx_val hA521 rfl (ev_move (hA521.ev (i := 8) (v := .int .i64 (i : Int))) _ rfl) ?_
        intro a523 hA523; clear hA521
        refine sx_val (v := .int .i64 ((i + 1 : Nat) : Int)) hA523 rfl (ev_addR (k := .i64) (m := (i : Int)) (n := 1) (r := ((i + 1 : Nat) : Int)) (hA523.ev (i := 47)) (ec _ (.int .i64 1)) (wr (by omega) (by omega) (by omega)) _ rfl) ?_
        intro a524 hA524; clear hA523
        refine sx_val hA524 rfl (ev_assign (hA524.ev (i := 48) (v := .int .i64 ((i + 1 : Nat) : Int))) _ rfl) ?_
        intro a525 hA525; clear hA524
        refine sx_nil ?_
        refine then_n ?_
        have f462_526 := Own.gBT f462_4 hg522 f462_0 (by decide)
        have f462_527 := Own.gBT f462_5 hg522 f462_0 (by decide)
        have hbel462_528 := Below.gB hbel462 hg522 hbel462.size (by omega)
        refine ⟨60 - (i + 1), by omega, i + 1, (stp g m).1, Ap5r9, cp5r9, Aj5r9, cj5r9, rfl, ((((((Ag.nil hA525.1 hA525.2.1).cons (hA525.get (i := 8) (v := .int .i64 ((i + 1 : Nat) : Int)))).cons (hA525.get (i := 6) (v := .pointer (some ⟨B13, 0, none⟩)))).cons (hA525.get (i := 5) (v := .bool true))).cons (hA525.get (i := 1) (v := .slice A xs.length c))).cons (hA525.get (i := 0) (v := .int .i64 (N : Int)))), by omega, hst.ok, hst.len.trans q26_2, hx522, (Own.mono f462_526 (by omega)), (Own.mono f462_527 (by omega)), by omega, hbel462_528⟩
      have hp473 := of_decide_eq_true hd473
      obtain ⟨x2, hx2⟩ : ∃ x2, (stp g m).1.rs[k]? = some x2 := ⟨_, List.getElem?_eq_getElem (by omega)⟩
      obtain ⟨y2, hy2⟩ : ∃ y2, (stp g m).1.bs[k]? = some y2 := ⟨_, List.getElem?_eq_getElem (by omega)⟩
      obtain ⟨x3, hx3⟩ : ∃ x3, g.rs[k]? = some x3 := ⟨_, List.getElem?_eq_getElem (by omega)⟩
      obtain ⟨y3, hy3⟩ : ∃ y3, g.bs[k]? = some y3 := ⟨_, List.getElem?_eq_getElem (by omega)⟩
      have hs1 := sumr_bd hok2.val k
      have hs2 := sumr_bd hok2.val (k + 1)
      have hu1 := usd_le (stp g m).1 (k + 1)
      have hu2 := usd_le (stp g m).1 k
      refine wp_seq ?_
      refine wp_seq ?_
      refine wp_region_lit ?_
      refine sx_val hA462 rfl (ev_move (hA462.ev (i := 20) (v := .int .i64 (k : Int))) _ rfl) ?_
      intro a529 hA529; clear hA462
      refine sx_val hA529 rfl (ev_move (hA529.ev (i := 0) (v := .int .i64 (N : Int))) _ rfl) ?_
      intro a530 hA530; clear hA529
      refine sx_val (v := .bool true) hA530 rfl (ev_lssB (k := .i64) (m := (k : Int)) (n := (N : Int)) (hA530.ev (i := 86)) (hA530.ev (i := 87)) hd473 _ rfl) ?_
      intro a531 hA531; clear hA530
      refine sx_nil ?_
      refine then_n ?_
      refine wp_cond_true (hA531.ev (i := 88) (v := .bool true)) ?_
      refine wp_skip ?_
      refine then_n ?_
      refine wp_seq ?_
      refine wp_block ?_
      refine wp_seq ?_
      refine wp_region_lit ?_
      refine sx_val hA531 rfl (ev_move (hA531.ev (i := 19) (v := .int .i64 (sumr (stp g m).1.rs k))) _ rfl) ?_
      intro a532 hA532; clear hA531
      refine sx_val (v := .pointer (some ⟨N10r9, 0, none⟩)) hA532 rfl (fb_Slots_0 (hA532.ev (i := 9) (v := .pointer (some ⟨N10r9, 0, none⟩))) _ rfl) ?_
      intro a533 hA533; clear hA532
      refine sx_val (v := .slice Ap5r9 (stp g m).1.rs.length cp5r9) hA533 rfl (ev_cell (v := .slice Ap5r9 (stp g m).1.rs.length cp5r9) (hA533.ev (i := 92) (v := .pointer (some ⟨N10r9, 0, none⟩))) ((f462_1.cell 0).trans rfl) Try.underlying22 rfl _ rfl) ?_
      intro a534 hA534; clear hA533
      refine sx_val hA534 rfl (ev_move (hA534.ev (i := 20) (v := .int .i64 (k : Int))) _ rfl) ?_
      intro a535 hA535; clear hA534
      obtain ⟨ad536, hAd536⟩ := GR.adr (OwnR.gr (e := 3) ⟨rfl, f462_4⟩) iva_sz hx2
      refine sx_val (v := .pointer (some (ad536.add (k * 1)))) hA535 rfl (ev_idx (k := k) (hA535.ev (i := 93) (v := .slice Ap5r9 (stp g m).1.rs.length cp5r9)) hAd536 (hA535.ev (i := 94) (v := .int .i64 (k : Int))) rfl (by omega) Try.underlying22 (by kernel_rfl) _ rfl) ?_
      intro a537 hA537; clear hA535
      refine sx_val (v := .int .i64 x2) hA537 rfl (ev_cell (hA537.ev (i := 95) (v := .pointer (some (ad536.add (k * 1))))) ((GR.cel (OwnR.gr (e := 3) ⟨rfl, f462_4⟩) hAd536 iva_sz hx2) 0 _ rfl) Try.underlying3 rfl _ rfl) ?_
      intro a538 hA538; clear hA537
      refine sx_val (v := .int .i64 (sumr (stp g m).1.rs (k + 1))) hA538 rfl (ev_addR (k := .i64) (m := (sumr (stp g m).1.rs k)) (n := x2) (r := (sumr (stp g m).1.rs (k + 1))) (hA538.ev (i := 91)) (hA538.ev (i := 96)) (wr (sumr_succ hx2) (by omega) (by omega)) _ rfl) ?_
      intro a539 hA539; clear hA538
      refine sx_val hA539 rfl (ev_assign (hA539.ev (i := 97) (v := .int .i64 (sumr (stp g m).1.rs (k + 1)))) _ rfl) ?_
      intro a540 hA540; clear hA539
      refine sx_nil ?_
      refine then_n ?_
      refine wp_seq ?_
      refine wp_seq ?_
      refine wp_region_lit ?_
      refine sx_val (v := .pointer (some ⟨N10r9, 0, none⟩)) hA540 rfl (fb_Slots_0 (hA540.ev (i := 9) (v := .pointer (some ⟨N10r9, 0, none⟩))) _ rfl) ?_
      intro a541 hA541; clear hA540
      refine sx_val (v := .slice Ap5r9 (stp g m).1.rs.length cp5r9) hA541 rfl (ev_cell (v := .slice Ap5r9 (stp g m).1.rs.length cp5r9) (hA541.ev (i := 98) (v := .pointer (some ⟨N10r9, 0, none⟩))) ((f462_1.cell 0).trans rfl) Try.underlying22 rfl _ rfl) ?_
      intro a542 hA542; clear hA541
      refine sx_val hA542 rfl (ev_move (hA542.ev (i := 20) (v := .int .i64 (k : Int))) _ rfl) ?_
      intro a543 hA543; clear hA542
      refine sx_val (v := .pointer (some (ad536.add (k * 1)))) hA543 rfl (ev_idx (k := k) (hA543.ev (i := 99) (v := .slice Ap5r9 (stp g m).1.rs.length cp5r9)) hAd536 (hA543.ev (i := 100) (v := .int .i64 (k : Int))) rfl (by omega) Try.underlying22 (by kernel_rfl) _ rfl) ?_
      intro a544 hA544; clear hA543
      refine sx_val (v := .int .i64 x2) hA544 rfl (ev_cell (hA544.ev (i := 101) (v := .pointer (some (ad536.add (k * 1))))) ((GR.cel (OwnR.gr (e := 3) ⟨rfl, f462_4⟩) hAd536 iva_sz hx2) 0 _ rfl) Try.underlying3 rfl _ rfl) ?_
      intro a545 hA545; clear hA544
      cases hd546 : decide (0 < x2)
      · have hp546 := of_decide_eq_false hd546
        refine sx_val (v := .bool false) hA545 rfl (ev_gtrB (k := .i64) (m := x2) (n := 0) (hA545.ev (i := 102)) (ec _ (.int .i64 0)) hd546 _ rfl) ?_
        intro a547 hA547; clear hA545
        refine sx_val hA547 rfl (ev_move (hA547.ev (i := 103) (v := .bool false)) _ rfl) ?_
        intro a548 hA548; clear hA547
        refine sx_no (j := 6) (s := 104) (want := true) (b := false) hA548 rfl ?_
        intro a549 hA549; clear hA548
        refine sx_no (j := 6) (s := 104) (want := true) (b := false) hA549 rfl ?_
        intro a550 hA550; clear hA549
        refine sx_no (j := 6) (s := 104) (want := true) (b := false) hA550 rfl ?_
        intro a551 hA551; clear hA550
        refine sx_no (j := 6) (s := 104) (want := true) (b := false) hA551 rfl ?_
        intro a552 hA552; clear hA551
        refine sx_no (j := 6) (s := 104) (want := true) (b := false) hA552 rfl ?_
        intro a553 hA553; clear hA552
        refine sx_no (j := 6) (s := 104) (want := true) (b := false) hA553 rfl ?_
        intro a554 hA554; clear hA553
        refine sx_val hA554 rfl (ev_pickF (hA554.ev (i := 104) (v := .bool false)) (ec _ (.bool false)) _ rfl) ?_
        intro a555 hA555; clear hA554
        refine sx_nil ?_
        refine then_n ?_
        refine wp_cond_false (hA555.ev (i := 111) (v := .bool false)) ?_
        refine wp_skip ?_
        refine then_n ?_
        refine wp_seq ?_
        refine wp_region_lit ?_
        refine sx_val hA555 rfl (ev_move (hA555.ev (i := 10) (v := .int .i64 (stp g m).2.1)) _ rfl) ?_
        intro a556 hA556; clear hA555
        refine sx_val (v := .bool false) hA556 rfl (ev_geqB (k := .i64) (m := (stp g m).2.1) (n := 0) (hA556.ev (i := 114)) (ec _ (.int .i64 0)) hd5 _ rfl) ?_
        intro a557 hA557; clear hA556
        refine sx_val hA557 rfl (ev_move (hA557.ev (i := 115) (v := .bool false)) _ rfl) ?_
        intro a558 hA558; clear hA557
        refine sx_no (j := 2) (s := 116) (want := true) (b := false) hA558 rfl ?_
        intro a559 hA559; clear hA558
        refine sx_no (j := 2) (s := 116) (want := true) (b := false) hA559 rfl ?_
        intro a560 hA560; clear hA559
        refine sx_no (j := 2) (s := 116) (want := true) (b := false) hA560 rfl ?_
        intro a561 hA561; clear hA560
        refine sx_val hA561 rfl (ev_pickF (hA561.ev (i := 116) (v := .bool false)) (ec _ (.bool false)) _ rfl) ?_
        intro a562 hA562; clear hA561
        refine sx_val hA562 rfl (ev_move (hA562.ev (i := 120) (v := .bool false)) _ rfl) ?_
        intro a563 hA563; clear hA562
        refine sx_no (j := 7) (s := 121) (want := true) (b := false) hA563 rfl ?_
        intro a564 hA564; clear hA563
        refine sx_no (j := 7) (s := 121) (want := true) (b := false) hA564 rfl ?_
        intro a565 hA565; clear hA564
        refine sx_no (j := 7) (s := 121) (want := true) (b := false) hA565 rfl ?_
        intro a566 hA566; clear hA565
        refine sx_no (j := 7) (s := 121) (want := true) (b := false) hA566 rfl ?_
        intro a567 hA567; clear hA566
        refine sx_no (j := 7) (s := 121) (want := true) (b := false) hA567 rfl ?_
        intro a568 hA568; clear hA567
        refine sx_no (j := 7) (s := 121) (want := true) (b := false) hA568 rfl ?_
        intro a569 hA569; clear hA568
        refine sx_val hA569 rfl (ev_pickF (hA569.ev (i := 121) (v := .bool false)) (ec _ (.bool false)) _ rfl) ?_
        intro a570 hA570; clear hA569
        refine sx_val hA570 rfl (ev_move (hA570.ev (i := 128) (v := .bool false)) _ rfl) ?_
        intro a571 hA571; clear hA570
        refine sx_no (j := 15) (s := 129) (want := true) (b := false) hA571 rfl ?_
        intro a572 hA572; clear hA571
        refine sx_no (j := 15) (s := 129) (want := true) (b := false) hA572 rfl ?_
        intro a573 hA573; clear hA572
        refine sx_no (j := 15) (s := 129) (want := true) (b := false) hA573 rfl ?_
        intro a574 hA574; clear hA573
        refine sx_no (j := 15) (s := 129) (want := true) (b := false) hA574 rfl ?_
        intro a575 hA575; clear hA574
        refine sx_no (j := 15) (s := 129) (want := true) (b := false) hA575 rfl ?_
        intro a576 hA576; clear hA575
        refine sx_no (j := 15) (s := 129) (want := true) (b := false) hA576 rfl ?_
        intro a577 hA577; clear hA576
        refine sx_val hA577 rfl (ev_pickF (hA577.ev (i := 129) (v := .bool false)) (ec _ (.bool false)) _ rfl) ?_
        intro a578 hA578; clear hA577
        refine sx_nil ?_
        refine then_n ?_
        refine wp_cond_false (hA578.ev (i := 136) (v := .bool false)) ?_
        refine wp_skip ?_
        refine blk_n ?_
        refine then_n ?_
        refine wp_region_lit ?_
        refine sx_val hA578 rfl (ev_move (hA578.ev (i := 20) (v := .int .i64 (k : Int))) _ rfl) ?_
        intro a579 hA579; clear hA578
        refine sx_val (v := .int .i64 ((k + 1 : Nat) : Int)) hA579 rfl (ev_addR (k := .i64) (m := (k : Int)) (n := 1) (r := ((k + 1 : Nat) : Int)) (hA579.ev (i := 89)) (ec _ (.int .i64 1)) (wr (by omega) (by omega) (by omega)) _ rfl) ?_
        intro a580 hA580; clear hA579
        refine sx_val hA580 rfl (ev_assign (hA580.ev (i := 90) (v := .int .i64 ((k + 1 : Nat) : Int))) _ rfl) ?_
        intro a581 hA581; clear hA580
        refine sx_nil ?_
        refine then_n ?_
        rw [usd_f (s := (stp g m).1) (k := k) (by simp [rat, bat, hx2, hy2, hp546])] at hA581
        refine ⟨N - (k + 1), by omega, k + 1, rfl, ((((((((((((((((((((((((((((((((((((((((((((((((((((((((((((((Ag.nil hA581.1 hA581.2.1).cons (hA581.get (i := 19) (v := .int .i64 (sumr (stp g m).1.rs (k + 1))))).cons (hA581.get (i := 18) (v := .int .i64 ((usd (stp g m).1 (k + 1) : Nat) : Int)))).cons (hA581.get (i := 20) (v := .int .i64 ((k + 1 : Nat) : Int)))).cons (hA581.get (i := 85) (v := .bool false))).cons (hA581.get (i := 84) (v := .bool false))).cons (hA581.get (i := 83) (v := .int .i64 (N : Int)))).cons (hA581.get (i := 82) (v := .int .i64 ((stp g m).1.rs.length : Int)))).cons (hA581.get (i := 81) (v := .slice Ap5r9 (stp g m).1.rs.length cp5r9))).cons (hA581.get (i := 80) (v := .pointer (some ⟨N10r9, 0, none⟩)))).cons (hA581.get (i := 79) (v := .bool false))).cons (hA581.get (i := 78) (v := .bool false))).cons (hA581.get (i := 77) (v := .bool false))).cons (hA581.get (i := 76) (v := .int .i64 0))).cons (hA581.get (i := 75) (v := .bool false))).cons (hA581.get (i := 74) (v := .bool false))).cons (hA581.get (i := 73) (v := .int .i64 0))).cons (hA581.get (i := 17) (v := .int .i64 0))).cons (hA581.get (i := 16) (v := .int .i64 (sumr (stp g m).1.rs N)))).cons (hA581.get (i := 15) (v := .int .i64 ((cntS (opm (stp g m).1.bs) 0 N : Nat) : Int)))).cons (hA581.get (i := 14) (v := .int .i64 ((cfr (stp g m).1 N : Nat) : Int)))).cons (hA581.get (i := 72) (v := .int .i64 0))).cons (hA581.get (i := 71) (v := .int .i64 (sumr (stp g m).1.rs N)))).cons (hA581.get (i := 70) (v := .int .i64 ((cntS (opm (stp g m).1.bs) 0 N : Nat) : Int)))).cons (hA581.get (i := 69) (v := .int .i64 ((cfr (stp g m).1 N : Nat) : Int)))).cons (hA581.get (i := 66) (v := .tuple #[.int .i64 ((cfr (stp g m).1 N : Nat) : Int), .int .i64 ((cntS (opm (stp g m).1.bs) 0 N : Nat) : Int), .int .i64 (sumr (stp g m).1.rs N), .int .i64 0]))).cons (hA581.get (i := 68) (v := .tuple #[.int .i64 ((cfr (stp g m).1 N : Nat) : Int), .int .i64 ((cntS (opm (stp g m).1.bs) 0 N : Nat) : Int), .int .i64 (sumr (stp g m).1.rs N), .int .i64 0]))).cons (hA581.get (i := 67) (v := .agg #[.slice Ap5r9 (stp g m).1.rs.length cp5r9, .slice Aj5r9 (stp g m).1.bs.length cj5r9]))).cons (hA581.get (i := 12) (v := .int .i64 0))).cons (hA581.get (i := 65) (v := .int .i64 0))).cons (hA581.get (i := 64) (v := .int .i64 0))).cons (hA581.get (i := 61) (v := .tuple #[.int .i64 0, .int .i64 0]))).cons (hA581.get (i := 63) (v := .tuple #[.int .i64 0, .int .i64 0]))).cons (hA581.get (i := 62) (v := .agg #[.slice Ap5r9 (stp g m).1.rs.length cp5r9, .slice Aj5r9 (stp g m).1.bs.length cj5r9]))).cons (hA581.get (i := 60) (v := .bool false))).cons (hA581.get (i := 59) (v := .int .i64 (stp g m).2.2))).cons (hA581.get (i := 11) (v := .int .i64 (stp g m).2.2))).cons (hA581.get (i := 10) (v := .int .i64 (stp g m).2.1))).cons (hA581.get (i := 9) (v := .pointer (some ⟨N10r9, 0, none⟩)))).cons (hA581.get (i := 58) (v := .int .i64 (stp g m).2.2))).cons (hA581.get (i := 57) (v := .int .i64 (stp g m).2.1))).cons (hA581.get (i := 56) (v := .agg #[.slice Ap5r9 (stp g m).1.rs.length cp5r9, .slice Aj5r9 (stp g m).1.bs.length cj5r9]))).cons (hA581.get (i := 49) (v := .tuple #[.agg #[.slice Ap5r9 (stp g m).1.rs.length cp5r9, .slice Aj5r9 (stp g m).1.bs.length cj5r9], .int .i64 (stp g m).2.1, .int .i64 (stp g m).2.2]))).cons (hA581.get (i := 55) (v := .tuple #[.agg #[.slice Ap5r9 (stp g m).1.rs.length cp5r9, .slice Aj5r9 (stp g m).1.bs.length cj5r9], .int .i64 (stp g m).2.1, .int .i64 (stp g m).2.2]))).cons (hA581.get (i := 54) (v := .int .i64 x))).cons (hA581.get (i := 53) (v := .pointer (some (ad1.add (i * 1)))))).cons (hA581.get (i := 52) (v := .int .i64 (i : Int)))).cons (hA581.get (i := 51) (v := .slice A xs.length c))).cons (hA581.get (i := 50) (v := .agg #[.slice A1g g.rs.length c1g, .slice A2g g.bs.length c2g]))).cons (hA581.get (i := 46) (v := .bool true))).cons (hA581.get (i := 45) (v := .bool true))).cons (hA581.get (i := 44) (v := .int .i64 (i : Int)))).cons (hA581.get (i := 43) (v := .bool true))).cons (hA581.get (i := 42) (v := .bool true))).cons (hA581.get (i := 41) (v := .int .i64 (xs.length : Int)))).cons (hA581.get (i := 40) (v := .slice A xs.length c))).cons (hA581.get (i := 39) (v := .int .i64 (i : Int)))).cons (hA581.get (i := 8) (v := .int .i64 (i : Int)))).cons (hA581.get (i := 6) (v := .pointer (some ⟨B13, 0, none⟩)))).cons (hA581.get (i := 5) (v := .bool true))).cons (hA581.get (i := 1) (v := .slice A xs.length c))).cons (hA581.get (i := 0) (v := .int .i64 (N : Int)))), by omega, f462_0, f462_1, f462_2, f462_3, f462_4, f462_5, by omega, hbel462⟩
      have hp546 := of_decide_eq_true hd546
      refine sx_val (v := .bool true) hA545 rfl (ev_gtrB (k := .i64) (m := x2) (n := 0) (hA545.ev (i := 102)) (ec _ (.int .i64 0)) hd546 _ rfl) ?_
      intro a582 hA582; clear hA545
      refine sx_val hA582 rfl (ev_move (hA582.ev (i := 103) (v := .bool true)) _ rfl) ?_
      intro a583 hA583; clear hA582
      refine sx_val (hg := (.inr ⟨6, true, 104, rfl, rfl, by kernel_rfl⟩)) (v := .pointer (some ⟨N10r9, 1, none⟩)) hA583 rfl (fb_Slots_1 (hA583.ev (i := 9) (v := .pointer (some ⟨N10r9, 0, none⟩))) _ rfl) ?_
      intro a584 hA584; clear hA583
      refine sx_val (hg := (.inr ⟨6, true, 104, rfl, rfl, by kernel_rfl⟩)) (v := .slice Aj5r9 (stp g m).1.bs.length cj5r9) hA584 rfl (ev_cell (v := .slice Aj5r9 (stp g m).1.bs.length cj5r9) (hA584.ev (i := 105) (v := .pointer (some ⟨N10r9, 1, none⟩))) ((f462_1.cell 1).trans rfl) Try.underlying23 rfl _ rfl) ?_
      intro a585 hA585; clear hA584
      refine sx_val (hg := (.inr ⟨6, true, 104, rfl, rfl, by kernel_rfl⟩)) hA585 rfl (ev_move (hA585.ev (i := 20) (v := .int .i64 (k : Int))) _ rfl) ?_
      intro a586 hA586; clear hA585
      obtain ⟨ad587, hAd587⟩ := GR.adr (OwnR.gr (e := 4) ⟨rfl, f462_5⟩) bva_sz hy2
      refine sx_val (hg := (.inr ⟨6, true, 104, rfl, rfl, by kernel_rfl⟩)) (v := .pointer (some (ad587.add (k * 1)))) hA586 rfl (ev_idx (k := k) (hA586.ev (i := 106) (v := .slice Aj5r9 (stp g m).1.bs.length cj5r9)) hAd587 (hA586.ev (i := 107) (v := .int .i64 (k : Int))) rfl (by omega) Try.underlying23 (by kernel_rfl) _ rfl) ?_
      intro a588 hA588; clear hA586
      refine sx_val (hg := (.inr ⟨6, true, 104, rfl, rfl, by kernel_rfl⟩)) (v := .bool y2) hA588 rfl (ev_cell (hA588.ev (i := 108) (v := .pointer (some (ad587.add (k * 1))))) ((GR.cel (OwnR.gr (e := 4) ⟨rfl, f462_5⟩) hAd587 bva_sz hy2) 0 _ rfl) Try.underlying4 rfl _ rfl) ?_
      intro a589 hA589; clear hA588
      cases hd590 : y2
      rotate_left
      · rw [hd590] at hA589
        refine sx_val (hg := (.inr ⟨6, true, 104, rfl, rfl, by kernel_rfl⟩)) (v := .bool false) hA589 rfl (ev_notT (hA589.ev (i := 109) (v := .bool true)) _ rfl) ?_
        intro a622 hA622; clear hA589
        refine sx_val hA622 rfl (ev_pickT (hA622.ev (i := 104) (v := .bool true)) (hA622.ev (i := 110) (v := .bool false)) _ rfl) ?_
        intro a623 hA623; clear hA622
        refine sx_nil ?_
        refine then_n ?_
        refine wp_cond_false (hA623.ev (i := 111) (v := .bool false)) ?_
        refine wp_skip ?_
        refine then_n ?_
        refine wp_seq ?_
        refine wp_region_lit ?_
        refine sx_val hA623 rfl (ev_move (hA623.ev (i := 10) (v := .int .i64 (stp g m).2.1)) _ rfl) ?_
        intro a624 hA624; clear hA623
        refine sx_val (v := .bool false) hA624 rfl (ev_geqB (k := .i64) (m := (stp g m).2.1) (n := 0) (hA624.ev (i := 114)) (ec _ (.int .i64 0)) hd5 _ rfl) ?_
        intro a625 hA625; clear hA624
        refine sx_val hA625 rfl (ev_move (hA625.ev (i := 115) (v := .bool false)) _ rfl) ?_
        intro a626 hA626; clear hA625
        refine sx_no (j := 2) (s := 116) (want := true) (b := false) hA626 rfl ?_
        intro a627 hA627; clear hA626
        refine sx_no (j := 2) (s := 116) (want := true) (b := false) hA627 rfl ?_
        intro a628 hA628; clear hA627
        refine sx_no (j := 2) (s := 116) (want := true) (b := false) hA628 rfl ?_
        intro a629 hA629; clear hA628
        refine sx_val hA629 rfl (ev_pickF (hA629.ev (i := 116) (v := .bool false)) (ec _ (.bool false)) _ rfl) ?_
        intro a630 hA630; clear hA629
        refine sx_val hA630 rfl (ev_move (hA630.ev (i := 120) (v := .bool false)) _ rfl) ?_
        intro a631 hA631; clear hA630
        refine sx_no (j := 7) (s := 121) (want := true) (b := false) hA631 rfl ?_
        intro a632 hA632; clear hA631
        refine sx_no (j := 7) (s := 121) (want := true) (b := false) hA632 rfl ?_
        intro a633 hA633; clear hA632
        refine sx_no (j := 7) (s := 121) (want := true) (b := false) hA633 rfl ?_
        intro a634 hA634; clear hA633
        refine sx_no (j := 7) (s := 121) (want := true) (b := false) hA634 rfl ?_
        intro a635 hA635; clear hA634
        refine sx_no (j := 7) (s := 121) (want := true) (b := false) hA635 rfl ?_
        intro a636 hA636; clear hA635
        refine sx_no (j := 7) (s := 121) (want := true) (b := false) hA636 rfl ?_
        intro a637 hA637; clear hA636
        refine sx_val hA637 rfl (ev_pickF (hA637.ev (i := 121) (v := .bool false)) (ec _ (.bool false)) _ rfl) ?_
        intro a638 hA638; clear hA637
        refine sx_val hA638 rfl (ev_move (hA638.ev (i := 128) (v := .bool false)) _ rfl) ?_
        intro a639 hA639; clear hA638
        refine sx_no (j := 15) (s := 129) (want := true) (b := false) hA639 rfl ?_
        intro a640 hA640; clear hA639
        refine sx_no (j := 15) (s := 129) (want := true) (b := false) hA640 rfl ?_
        intro a641 hA641; clear hA640
        refine sx_no (j := 15) (s := 129) (want := true) (b := false) hA641 rfl ?_
        intro a642 hA642; clear hA641
        refine sx_no (j := 15) (s := 129) (want := true) (b := false) hA642 rfl ?_
        intro a643 hA643; clear hA642
        refine sx_no (j := 15) (s := 129) (want := true) (b := false) hA643 rfl ?_
        intro a644 hA644; clear hA643
        refine sx_no (j := 15) (s := 129) (want := true) (b := false) hA644 rfl ?_
        intro a645 hA645; clear hA644
        refine sx_val hA645 rfl (ev_pickF (hA645.ev (i := 129) (v := .bool false)) (ec _ (.bool false)) _ rfl) ?_
        intro a646 hA646; clear hA645
        refine sx_nil ?_
        refine then_n ?_
        refine wp_cond_false (hA646.ev (i := 136) (v := .bool false)) ?_
        refine wp_skip ?_
        refine blk_n ?_
        refine then_n ?_
        refine wp_region_lit ?_
        refine sx_val hA646 rfl (ev_move (hA646.ev (i := 20) (v := .int .i64 (k : Int))) _ rfl) ?_
        intro a647 hA647; clear hA646
        refine sx_val (v := .int .i64 ((k + 1 : Nat) : Int)) hA647 rfl (ev_addR (k := .i64) (m := (k : Int)) (n := 1) (r := ((k + 1 : Nat) : Int)) (hA647.ev (i := 89)) (ec _ (.int .i64 1)) (wr (by omega) (by omega) (by omega)) _ rfl) ?_
        intro a648 hA648; clear hA647
        refine sx_val hA648 rfl (ev_assign (hA648.ev (i := 90) (v := .int .i64 ((k + 1 : Nat) : Int))) _ rfl) ?_
        intro a649 hA649; clear hA648
        refine sx_nil ?_
        refine then_n ?_
        rw [usd_f (s := (stp g m).1) (k := k) (by simp [rat, bat, hx2, hy2, hd590])] at hA649
        refine ⟨N - (k + 1), by omega, k + 1, rfl, ((((((((((((((((((((((((((((((((((((((((((((((((((((((((((((((Ag.nil hA649.1 hA649.2.1).cons (hA649.get (i := 19) (v := .int .i64 (sumr (stp g m).1.rs (k + 1))))).cons (hA649.get (i := 18) (v := .int .i64 ((usd (stp g m).1 (k + 1) : Nat) : Int)))).cons (hA649.get (i := 20) (v := .int .i64 ((k + 1 : Nat) : Int)))).cons (hA649.get (i := 85) (v := .bool false))).cons (hA649.get (i := 84) (v := .bool false))).cons (hA649.get (i := 83) (v := .int .i64 (N : Int)))).cons (hA649.get (i := 82) (v := .int .i64 ((stp g m).1.rs.length : Int)))).cons (hA649.get (i := 81) (v := .slice Ap5r9 (stp g m).1.rs.length cp5r9))).cons (hA649.get (i := 80) (v := .pointer (some ⟨N10r9, 0, none⟩)))).cons (hA649.get (i := 79) (v := .bool false))).cons (hA649.get (i := 78) (v := .bool false))).cons (hA649.get (i := 77) (v := .bool false))).cons (hA649.get (i := 76) (v := .int .i64 0))).cons (hA649.get (i := 75) (v := .bool false))).cons (hA649.get (i := 74) (v := .bool false))).cons (hA649.get (i := 73) (v := .int .i64 0))).cons (hA649.get (i := 17) (v := .int .i64 0))).cons (hA649.get (i := 16) (v := .int .i64 (sumr (stp g m).1.rs N)))).cons (hA649.get (i := 15) (v := .int .i64 ((cntS (opm (stp g m).1.bs) 0 N : Nat) : Int)))).cons (hA649.get (i := 14) (v := .int .i64 ((cfr (stp g m).1 N : Nat) : Int)))).cons (hA649.get (i := 72) (v := .int .i64 0))).cons (hA649.get (i := 71) (v := .int .i64 (sumr (stp g m).1.rs N)))).cons (hA649.get (i := 70) (v := .int .i64 ((cntS (opm (stp g m).1.bs) 0 N : Nat) : Int)))).cons (hA649.get (i := 69) (v := .int .i64 ((cfr (stp g m).1 N : Nat) : Int)))).cons (hA649.get (i := 66) (v := .tuple #[.int .i64 ((cfr (stp g m).1 N : Nat) : Int), .int .i64 ((cntS (opm (stp g m).1.bs) 0 N : Nat) : Int), .int .i64 (sumr (stp g m).1.rs N), .int .i64 0]))).cons (hA649.get (i := 68) (v := .tuple #[.int .i64 ((cfr (stp g m).1 N : Nat) : Int), .int .i64 ((cntS (opm (stp g m).1.bs) 0 N : Nat) : Int), .int .i64 (sumr (stp g m).1.rs N), .int .i64 0]))).cons (hA649.get (i := 67) (v := .agg #[.slice Ap5r9 (stp g m).1.rs.length cp5r9, .slice Aj5r9 (stp g m).1.bs.length cj5r9]))).cons (hA649.get (i := 12) (v := .int .i64 0))).cons (hA649.get (i := 65) (v := .int .i64 0))).cons (hA649.get (i := 64) (v := .int .i64 0))).cons (hA649.get (i := 61) (v := .tuple #[.int .i64 0, .int .i64 0]))).cons (hA649.get (i := 63) (v := .tuple #[.int .i64 0, .int .i64 0]))).cons (hA649.get (i := 62) (v := .agg #[.slice Ap5r9 (stp g m).1.rs.length cp5r9, .slice Aj5r9 (stp g m).1.bs.length cj5r9]))).cons (hA649.get (i := 60) (v := .bool false))).cons (hA649.get (i := 59) (v := .int .i64 (stp g m).2.2))).cons (hA649.get (i := 11) (v := .int .i64 (stp g m).2.2))).cons (hA649.get (i := 10) (v := .int .i64 (stp g m).2.1))).cons (hA649.get (i := 9) (v := .pointer (some ⟨N10r9, 0, none⟩)))).cons (hA649.get (i := 58) (v := .int .i64 (stp g m).2.2))).cons (hA649.get (i := 57) (v := .int .i64 (stp g m).2.1))).cons (hA649.get (i := 56) (v := .agg #[.slice Ap5r9 (stp g m).1.rs.length cp5r9, .slice Aj5r9 (stp g m).1.bs.length cj5r9]))).cons (hA649.get (i := 49) (v := .tuple #[.agg #[.slice Ap5r9 (stp g m).1.rs.length cp5r9, .slice Aj5r9 (stp g m).1.bs.length cj5r9], .int .i64 (stp g m).2.1, .int .i64 (stp g m).2.2]))).cons (hA649.get (i := 55) (v := .tuple #[.agg #[.slice Ap5r9 (stp g m).1.rs.length cp5r9, .slice Aj5r9 (stp g m).1.bs.length cj5r9], .int .i64 (stp g m).2.1, .int .i64 (stp g m).2.2]))).cons (hA649.get (i := 54) (v := .int .i64 x))).cons (hA649.get (i := 53) (v := .pointer (some (ad1.add (i * 1)))))).cons (hA649.get (i := 52) (v := .int .i64 (i : Int)))).cons (hA649.get (i := 51) (v := .slice A xs.length c))).cons (hA649.get (i := 50) (v := .agg #[.slice A1g g.rs.length c1g, .slice A2g g.bs.length c2g]))).cons (hA649.get (i := 46) (v := .bool true))).cons (hA649.get (i := 45) (v := .bool true))).cons (hA649.get (i := 44) (v := .int .i64 (i : Int)))).cons (hA649.get (i := 43) (v := .bool true))).cons (hA649.get (i := 42) (v := .bool true))).cons (hA649.get (i := 41) (v := .int .i64 (xs.length : Int)))).cons (hA649.get (i := 40) (v := .slice A xs.length c))).cons (hA649.get (i := 39) (v := .int .i64 (i : Int)))).cons (hA649.get (i := 8) (v := .int .i64 (i : Int)))).cons (hA649.get (i := 6) (v := .pointer (some ⟨B13, 0, none⟩)))).cons (hA649.get (i := 5) (v := .bool true))).cons (hA649.get (i := 1) (v := .slice A xs.length c))).cons (hA649.get (i := 0) (v := .int .i64 (N : Int)))), by omega, f462_0, f462_1, f462_2, f462_3, f462_4, f462_5, by omega, hbel462⟩
      rw [hd590] at hA589
      refine sx_val (hg := (.inr ⟨6, true, 104, rfl, rfl, by kernel_rfl⟩)) (v := .bool true) hA589 rfl (ev_notF (hA589.ev (i := 109) (v := .bool false)) _ rfl) ?_
      intro a591 hA591; clear hA589
      refine sx_val hA591 rfl (ev_pickT (hA591.ev (i := 104) (v := .bool true)) (hA591.ev (i := 110) (v := .bool true)) _ rfl) ?_
      intro a592 hA592; clear hA591
      refine sx_nil ?_
      refine then_n ?_
      refine wp_cond_true (hA592.ev (i := 111) (v := .bool true)) ?_
      refine wp_region_lit ?_
      refine sx_val hA592 rfl (ev_move (hA592.ev (i := 18) (v := .int .i64 ((usd (stp g m).1 k : Nat) : Int))) _ rfl) ?_
      intro a593 hA593; clear hA592
      refine sx_val (v := .int .i64 ((usd (stp g m).1 (k + 1) : Nat) : Int)) hA593 rfl (ev_addR (k := .i64) (m := ((usd (stp g m).1 k : Nat) : Int)) (n := 1) (r := ((usd (stp g m).1 (k + 1) : Nat) : Int)) (hA593.ev (i := 112)) (ec _ (.int .i64 1)) (wr (by have := usd_t (s := (stp g m).1) (k := k) (by simp [rat, bat, hx2, hy2, hp546, hd590]); omega) (by omega) (by omega)) _ rfl) ?_
      intro a594 hA594; clear hA593
      refine sx_val hA594 rfl (ev_assign (hA594.ev (i := 113) (v := .int .i64 ((usd (stp g m).1 (k + 1) : Nat) : Int))) _ rfl) ?_
      intro a595 hA595; clear hA594
      refine sx_nil ?_
      refine then_n ?_
      refine wp_seq ?_
      refine wp_region_lit ?_
      refine sx_val hA595 rfl (ev_move (hA595.ev (i := 10) (v := .int .i64 (stp g m).2.1)) _ rfl) ?_
      intro a596 hA596; clear hA595
      refine sx_val (v := .bool false) hA596 rfl (ev_geqB (k := .i64) (m := (stp g m).2.1) (n := 0) (hA596.ev (i := 114)) (ec _ (.int .i64 0)) hd5 _ rfl) ?_
      intro a597 hA597; clear hA596
      refine sx_val hA597 rfl (ev_move (hA597.ev (i := 115) (v := .bool false)) _ rfl) ?_
      intro a598 hA598; clear hA597
      refine sx_no (j := 2) (s := 116) (want := true) (b := false) hA598 rfl ?_
      intro a599 hA599; clear hA598
      refine sx_no (j := 2) (s := 116) (want := true) (b := false) hA599 rfl ?_
      intro a600 hA600; clear hA599
      refine sx_no (j := 2) (s := 116) (want := true) (b := false) hA600 rfl ?_
      intro a601 hA601; clear hA600
      refine sx_val hA601 rfl (ev_pickF (hA601.ev (i := 116) (v := .bool false)) (ec _ (.bool false)) _ rfl) ?_
      intro a602 hA602; clear hA601
      refine sx_val hA602 rfl (ev_move (hA602.ev (i := 120) (v := .bool false)) _ rfl) ?_
      intro a603 hA603; clear hA602
      refine sx_no (j := 7) (s := 121) (want := true) (b := false) hA603 rfl ?_
      intro a604 hA604; clear hA603
      refine sx_no (j := 7) (s := 121) (want := true) (b := false) hA604 rfl ?_
      intro a605 hA605; clear hA604
      refine sx_no (j := 7) (s := 121) (want := true) (b := false) hA605 rfl ?_
      intro a606 hA606; clear hA605
      refine sx_no (j := 7) (s := 121) (want := true) (b := false) hA606 rfl ?_
      intro a607 hA607; clear hA606
      refine sx_no (j := 7) (s := 121) (want := true) (b := false) hA607 rfl ?_
      intro a608 hA608; clear hA607
      refine sx_no (j := 7) (s := 121) (want := true) (b := false) hA608 rfl ?_
      intro a609 hA609; clear hA608
      refine sx_val hA609 rfl (ev_pickF (hA609.ev (i := 121) (v := .bool false)) (ec _ (.bool false)) _ rfl) ?_
      intro a610 hA610; clear hA609
      refine sx_val hA610 rfl (ev_move (hA610.ev (i := 128) (v := .bool false)) _ rfl) ?_
      intro a611 hA611; clear hA610
      refine sx_no (j := 15) (s := 129) (want := true) (b := false) hA611 rfl ?_
      intro a612 hA612; clear hA611
      refine sx_no (j := 15) (s := 129) (want := true) (b := false) hA612 rfl ?_
      intro a613 hA613; clear hA612
      refine sx_no (j := 15) (s := 129) (want := true) (b := false) hA613 rfl ?_
      intro a614 hA614; clear hA613
      refine sx_no (j := 15) (s := 129) (want := true) (b := false) hA614 rfl ?_
      intro a615 hA615; clear hA614
      refine sx_no (j := 15) (s := 129) (want := true) (b := false) hA615 rfl ?_
      intro a616 hA616; clear hA615
      refine sx_no (j := 15) (s := 129) (want := true) (b := false) hA616 rfl ?_
      intro a617 hA617; clear hA616
      refine sx_val hA617 rfl (ev_pickF (hA617.ev (i := 129) (v := .bool false)) (ec _ (.bool false)) _ rfl) ?_
      intro a618 hA618; clear hA617
      refine sx_nil ?_
      refine then_n ?_
      refine wp_cond_false (hA618.ev (i := 136) (v := .bool false)) ?_
      refine wp_skip ?_
      refine blk_n ?_
      refine then_n ?_
      refine wp_region_lit ?_
      refine sx_val hA618 rfl (ev_move (hA618.ev (i := 20) (v := .int .i64 (k : Int))) _ rfl) ?_
      intro a619 hA619; clear hA618
      refine sx_val (v := .int .i64 ((k + 1 : Nat) : Int)) hA619 rfl (ev_addR (k := .i64) (m := (k : Int)) (n := 1) (r := ((k + 1 : Nat) : Int)) (hA619.ev (i := 89)) (ec _ (.int .i64 1)) (wr (by omega) (by omega) (by omega)) _ rfl) ?_
      intro a620 hA620; clear hA619
      refine sx_val hA620 rfl (ev_assign (hA620.ev (i := 90) (v := .int .i64 ((k + 1 : Nat) : Int))) _ rfl) ?_
      intro a621 hA621; clear hA620
      refine sx_nil ?_
      refine then_n ?_
      refine ⟨N - (k + 1), by omega, k + 1, rfl, ((((((((((((((((((((((((((((((((((((((((((((((((((((((((((((((Ag.nil hA621.1 hA621.2.1).cons (hA621.get (i := 19) (v := .int .i64 (sumr (stp g m).1.rs (k + 1))))).cons (hA621.get (i := 18) (v := .int .i64 ((usd (stp g m).1 (k + 1) : Nat) : Int)))).cons (hA621.get (i := 20) (v := .int .i64 ((k + 1 : Nat) : Int)))).cons (hA621.get (i := 85) (v := .bool false))).cons (hA621.get (i := 84) (v := .bool false))).cons (hA621.get (i := 83) (v := .int .i64 (N : Int)))).cons (hA621.get (i := 82) (v := .int .i64 ((stp g m).1.rs.length : Int)))).cons (hA621.get (i := 81) (v := .slice Ap5r9 (stp g m).1.rs.length cp5r9))).cons (hA621.get (i := 80) (v := .pointer (some ⟨N10r9, 0, none⟩)))).cons (hA621.get (i := 79) (v := .bool false))).cons (hA621.get (i := 78) (v := .bool false))).cons (hA621.get (i := 77) (v := .bool false))).cons (hA621.get (i := 76) (v := .int .i64 0))).cons (hA621.get (i := 75) (v := .bool false))).cons (hA621.get (i := 74) (v := .bool false))).cons (hA621.get (i := 73) (v := .int .i64 0))).cons (hA621.get (i := 17) (v := .int .i64 0))).cons (hA621.get (i := 16) (v := .int .i64 (sumr (stp g m).1.rs N)))).cons (hA621.get (i := 15) (v := .int .i64 ((cntS (opm (stp g m).1.bs) 0 N : Nat) : Int)))).cons (hA621.get (i := 14) (v := .int .i64 ((cfr (stp g m).1 N : Nat) : Int)))).cons (hA621.get (i := 72) (v := .int .i64 0))).cons (hA621.get (i := 71) (v := .int .i64 (sumr (stp g m).1.rs N)))).cons (hA621.get (i := 70) (v := .int .i64 ((cntS (opm (stp g m).1.bs) 0 N : Nat) : Int)))).cons (hA621.get (i := 69) (v := .int .i64 ((cfr (stp g m).1 N : Nat) : Int)))).cons (hA621.get (i := 66) (v := .tuple #[.int .i64 ((cfr (stp g m).1 N : Nat) : Int), .int .i64 ((cntS (opm (stp g m).1.bs) 0 N : Nat) : Int), .int .i64 (sumr (stp g m).1.rs N), .int .i64 0]))).cons (hA621.get (i := 68) (v := .tuple #[.int .i64 ((cfr (stp g m).1 N : Nat) : Int), .int .i64 ((cntS (opm (stp g m).1.bs) 0 N : Nat) : Int), .int .i64 (sumr (stp g m).1.rs N), .int .i64 0]))).cons (hA621.get (i := 67) (v := .agg #[.slice Ap5r9 (stp g m).1.rs.length cp5r9, .slice Aj5r9 (stp g m).1.bs.length cj5r9]))).cons (hA621.get (i := 12) (v := .int .i64 0))).cons (hA621.get (i := 65) (v := .int .i64 0))).cons (hA621.get (i := 64) (v := .int .i64 0))).cons (hA621.get (i := 61) (v := .tuple #[.int .i64 0, .int .i64 0]))).cons (hA621.get (i := 63) (v := .tuple #[.int .i64 0, .int .i64 0]))).cons (hA621.get (i := 62) (v := .agg #[.slice Ap5r9 (stp g m).1.rs.length cp5r9, .slice Aj5r9 (stp g m).1.bs.length cj5r9]))).cons (hA621.get (i := 60) (v := .bool false))).cons (hA621.get (i := 59) (v := .int .i64 (stp g m).2.2))).cons (hA621.get (i := 11) (v := .int .i64 (stp g m).2.2))).cons (hA621.get (i := 10) (v := .int .i64 (stp g m).2.1))).cons (hA621.get (i := 9) (v := .pointer (some ⟨N10r9, 0, none⟩)))).cons (hA621.get (i := 58) (v := .int .i64 (stp g m).2.2))).cons (hA621.get (i := 57) (v := .int .i64 (stp g m).2.1))).cons (hA621.get (i := 56) (v := .agg #[.slice Ap5r9 (stp g m).1.rs.length cp5r9, .slice Aj5r9 (stp g m).1.bs.length cj5r9]))).cons (hA621.get (i := 49) (v := .tuple #[.agg #[.slice Ap5r9 (stp g m).1.rs.length cp5r9, .slice Aj5r9 (stp g m).1.bs.length cj5r9], .int .i64 (stp g m).2.1, .int .i64 (stp g m).2.2]))).cons (hA621.get (i := 55) (v := .tuple #[.agg #[.slice Ap5r9 (stp g m).1.rs.length cp5r9, .slice Aj5r9 (stp g m).1.bs.length cj5r9], .int .i64 (stp g m).2.1, .int .i64 (stp g m).2.2]))).cons (hA621.get (i := 54) (v := .int .i64 x))).cons (hA621.get (i := 53) (v := .pointer (some (ad1.add (i * 1)))))).cons (hA621.get (i := 52) (v := .int .i64 (i : Int)))).cons (hA621.get (i := 51) (v := .slice A xs.length c))).cons (hA621.get (i := 50) (v := .agg #[.slice A1g g.rs.length c1g, .slice A2g g.bs.length c2g]))).cons (hA621.get (i := 46) (v := .bool true))).cons (hA621.get (i := 45) (v := .bool true))).cons (hA621.get (i := 44) (v := .int .i64 (i : Int)))).cons (hA621.get (i := 43) (v := .bool true))).cons (hA621.get (i := 42) (v := .bool true))).cons (hA621.get (i := 41) (v := .int .i64 (xs.length : Int)))).cons (hA621.get (i := 40) (v := .slice A xs.length c))).cons (hA621.get (i := 39) (v := .int .i64 (i : Int)))).cons (hA621.get (i := 8) (v := .int .i64 (i : Int)))).cons (hA621.get (i := 6) (v := .pointer (some ⟨B13, 0, none⟩)))).cons (hA621.get (i := 5) (v := .bool true))).cons (hA621.get (i := 1) (v := .slice A xs.length c))).cons (hA621.get (i := 0) (v := .int .i64 (N : Int)))), by omega, f462_0, f462_1, f462_2, f462_3, f462_4, f462_5, by omega, hbel462⟩
    have hp70 := of_decide_eq_false hd70
    have hst := stp_ok q26_1 m hp62
    have hok2 := hst.ok
    have hln2 : (stp g m).1.rs.length = N := hst.len.trans q26_2
    have hbl2 : (stp g m).1.bs.length = N := hok2.len.trans hln2
    have hd3 : decide (((stp g m).1.rs.length : Int) = (N : Int)) = true := decide_eq_true (by omega)
    have hd4 : decide (((stp g m).1.bs.length : Int) = (N : Int)) = true := decide_eq_true (by omega)
    obtain ⟨j, hj, hjl, hjf, hjm, hjb⟩ : ∃ j : Nat, (stp g m).2.1 = (j : Int) ∧ j < g.rs.length ∧ fre g j = true ∧ (∀ i : Nat, i < j → fre g i = false) ∧ bat (stp g m).1 j = true := by
      rcases hst.slot with hz | hz
      · omega
      · exact hz
    rw [hj] at hA68
    have hd5 : decide ((0 : Int) ≤ (j : Int)) = true := decide_eq_true (by omega)
    have hd6 : decide ((N : Int) ≤ (j : Int)) = false := decide_eq_false (by omega)
    obtain ⟨hxj, hyj⟩ := fre_at q26_1 hjl hjf
    have hzj := bat_at (s := (stp g m).1) (by omega) hjb
    refine sx_call (f := 20) (args := #[.agg #[.slice Ap5r9 (stp g m).1.rs.length cp5r9, .slice Aj5r9 (stp g m).1.bs.length cj5r9]]) hA68 rfl (by decide) (.inl rfl) (ev_fn rfl (mp1 (hA68.ev (i := 62) (v := .agg #[.slice Ap5r9 (stp g m).1.rs.length cp5r9, .slice Aj5r9 (stp g m).1.bs.length cj5r9]))) (by kernel_rfl) _ rfl) (Check_any Ap5r9 cp5r9 Aj5r9 cj5r9 (stp g m).1.rs (stp g m).1.bs _ ⟨(OwnR.gr (e := 3) ⟨rfl, o60_5_0⟩), (OwnR.gr (e := 4) ⟨rfl, o60_5_1⟩)⟩ (by omega) (by omega)) ?_
    intro e71 w71 hR71
    obtain ⟨he71, hb71⟩ := hR71
    rw [chs_mk hok2] at he71
    subst he71
    refine ⟨_, rfl, ?_⟩
    intro a71 hA71
    clear hA68
    have hg71 := g0 hb71
    have hs71 := hg71.size
    clear hb71
    refine sx_val hA71 rfl (ev_move (hA71.ev (i := 63) (v := .tuple #[.int .i64 0, .int .i64 0])) _ rfl) ?_
    intro a72 hA72; clear hA71
    refine sx_val (v := .int .i64 0) hA72 rfl (ev_ext (hA72.ev (i := 61) (v := .tuple #[.int .i64 0, .int .i64 0])) rfl _ rfl) ?_
    intro a73 hA73; clear hA72
    refine sx_val (v := .int .i64 0) hA73 rfl (ev_ext (hA73.ev (i := 61) (v := .tuple #[.int .i64 0, .int .i64 0])) rfl _ rfl) ?_
    intro a74 hA74; clear hA73
    refine sx_val hA74 rfl (ev_assign (hA74.ev (i := 64) (v := .int .i64 0)) _ rfl) ?_
    intro a75 hA75; clear hA74
    refine sx_val hA75 rfl (ev_assign (hA75.ev (i := 65) (v := .int .i64 0)) _ rfl) ?_
    intro a76 hA76; clear hA75
    refine sx_nil ?_
    refine then_n ?_
    refine wp_seq ?_
    refine wp_region_lit ?_
    have b60_N10r9_77 := b60_N10r9.gN hg71
    refine sx_val (v := .agg #[.slice Ap5r9 (stp g m).1.rs.length cp5r9, .slice Aj5r9 (stp g m).1.bs.length cj5r9]) hA76 rfl (ev_row (hA76.ev (i := 9) (v := .pointer (some ⟨N10r9, 0, none⟩))) b60_N10r9_77 Try.underlying25 rfl (n := 2) (by kernel_rfl) rfl _ rfl) ?_
    intro a78 hA78; clear hA76
    have o60_5_80 := Own.gN o60_5_0 hg71
    have o60_5_81 := Own.gN o60_5_1 hg71
    refine sx_call (f := 26) (args := #[.agg #[.slice Ap5r9 (stp g m).1.rs.length cp5r9, .slice Aj5r9 (stp g m).1.bs.length cj5r9]]) hA78 rfl (by decide) (.inl rfl) (ev_fn rfl (mp1 (hA78.ev (i := 67) (v := .agg #[.slice Ap5r9 (stp g m).1.rs.length cp5r9, .slice Aj5r9 (stp g m).1.bs.length cj5r9]))) (by kernel_rfl) _ rfl) (Count_any Ap5r9 cp5r9 Aj5r9 cj5r9 (stp g m).1.rs (stp g m).1.bs _ ⟨(OwnR.gr (e := 3) ⟨rfl, o60_5_80⟩), (OwnR.gr (e := 4) ⟨rfl, o60_5_81⟩)⟩ (by omega) (by omega)) ?_
    intro e79 w79 hR79
    obtain ⟨he79, hb79⟩ := hR79
    rw [cnt_ok hok2, hln2] at he79
    subst he79
    refine ⟨_, rfl, ?_⟩
    intro a79 hA79
    clear hA78
    have hg79 := g0 hb79
    have hs79 := hg79.size
    clear hb79
    refine sx_val hA79 rfl (ev_move (hA79.ev (i := 68) (v := .tuple #[.int .i64 ((cfr (stp g m).1 N : Nat) : Int), .int .i64 ((cntS (opm (stp g m).1.bs) 0 N : Nat) : Int), .int .i64 (sumr (stp g m).1.rs N), .int .i64 0])) _ rfl) ?_
    intro a82 hA82; clear hA79
    refine sx_val (v := .int .i64 ((cfr (stp g m).1 N : Nat) : Int)) hA82 rfl (ev_ext (hA82.ev (i := 66) (v := .tuple #[.int .i64 ((cfr (stp g m).1 N : Nat) : Int), .int .i64 ((cntS (opm (stp g m).1.bs) 0 N : Nat) : Int), .int .i64 (sumr (stp g m).1.rs N), .int .i64 0])) rfl _ rfl) ?_
    intro a83 hA83; clear hA82
    refine sx_val (v := .int .i64 ((cntS (opm (stp g m).1.bs) 0 N : Nat) : Int)) hA83 rfl (ev_ext (hA83.ev (i := 66) (v := .tuple #[.int .i64 ((cfr (stp g m).1 N : Nat) : Int), .int .i64 ((cntS (opm (stp g m).1.bs) 0 N : Nat) : Int), .int .i64 (sumr (stp g m).1.rs N), .int .i64 0])) rfl _ rfl) ?_
    intro a84 hA84; clear hA83
    refine sx_val (v := .int .i64 (sumr (stp g m).1.rs N)) hA84 rfl (ev_ext (hA84.ev (i := 66) (v := .tuple #[.int .i64 ((cfr (stp g m).1 N : Nat) : Int), .int .i64 ((cntS (opm (stp g m).1.bs) 0 N : Nat) : Int), .int .i64 (sumr (stp g m).1.rs N), .int .i64 0])) rfl _ rfl) ?_
    intro a85 hA85; clear hA84
    refine sx_val (v := .int .i64 0) hA85 rfl (ev_ext (hA85.ev (i := 66) (v := .tuple #[.int .i64 ((cfr (stp g m).1 N : Nat) : Int), .int .i64 ((cntS (opm (stp g m).1.bs) 0 N : Nat) : Int), .int .i64 (sumr (stp g m).1.rs N), .int .i64 0])) rfl _ rfl) ?_
    intro a86 hA86; clear hA85
    refine sx_val hA86 rfl (ev_assign (hA86.ev (i := 69) (v := .int .i64 ((cfr (stp g m).1 N : Nat) : Int))) _ rfl) ?_
    intro a87 hA87; clear hA86
    refine sx_val hA87 rfl (ev_assign (hA87.ev (i := 70) (v := .int .i64 ((cntS (opm (stp g m).1.bs) 0 N : Nat) : Int))) _ rfl) ?_
    intro a88 hA88; clear hA87
    refine sx_val hA88 rfl (ev_assign (hA88.ev (i := 71) (v := .int .i64 (sumr (stp g m).1.rs N))) _ rfl) ?_
    intro a89 hA89; clear hA88
    refine sx_val hA89 rfl (ev_assign (hA89.ev (i := 72) (v := .int .i64 0)) _ rfl) ?_
    intro a90 hA90; clear hA89
    refine sx_nil ?_
    refine then_n ?_
    refine wp_seq ?_
    refine wp_seq ?_
    refine wp_region_lit ?_
    refine sx_val hA90 rfl (ev_move (hA90.ev (i := 12) (v := .int .i64 0)) _ rfl) ?_
    intro a91 hA91; clear hA90
    refine sx_val (v := .bool false) hA91 rfl (ev_neqB (k := .i64) (m := 0) (n := 0) (hA91.ev (i := 73)) (ec _ (.int .i64 0)) (by decide) _ rfl) ?_
    intro a92 hA92; clear hA91
    refine sx_val hA92 rfl (ev_move (hA92.ev (i := 74) (v := .bool false)) _ rfl) ?_
    intro a93 hA93; clear hA92
    refine sx_val (hg := (.inr ⟨2, false, 75, rfl, rfl, by kernel_rfl⟩)) hA93 rfl (ev_move (hA93.ev (i := 17) (v := .int .i64 0)) _ rfl) ?_
    intro a94 hA94; clear hA93
    refine sx_val (hg := (.inr ⟨2, false, 75, rfl, rfl, by kernel_rfl⟩)) (v := .bool false) hA94 rfl (ev_neqB (k := .i64) (m := 0) (n := 0) (hA94.ev (i := 76)) (ec _ (.int .i64 0)) (by decide) _ rfl) ?_
    intro a95 hA95; clear hA94
    refine sx_val hA95 rfl (ev_pickF (hA95.ev (i := 75) (v := .bool false)) (hA95.ev (i := 77) (v := .bool false)) _ rfl) ?_
    intro a96 hA96; clear hA95
    refine sx_val hA96 rfl (ev_move (hA96.ev (i := 78) (v := .bool false)) _ rfl) ?_
    intro a97 hA97; clear hA96
    refine sx_val (hg := (.inr ⟨6, false, 79, rfl, rfl, by kernel_rfl⟩)) (v := .pointer (some ⟨N10r9, 0, none⟩)) hA97 rfl (fb_Slots_0 (hA97.ev (i := 9) (v := .pointer (some ⟨N10r9, 0, none⟩))) _ rfl) ?_
    intro a98 hA98; clear hA97
    have b60_N10r9_99 := b60_N10r9_77.gN hg79
    refine sx_val (hg := (.inr ⟨6, false, 79, rfl, rfl, by kernel_rfl⟩)) (v := .slice Ap5r9 (stp g m).1.rs.length cp5r9) hA98 rfl (ev_cell (v := .slice Ap5r9 (stp g m).1.rs.length cp5r9) (hA98.ev (i := 80) (v := .pointer (some ⟨N10r9, 0, none⟩))) ((b60_N10r9_99.cell 0).trans rfl) Try.underlying22 rfl _ rfl) ?_
    intro a100 hA100; clear hA98
    refine sx_val (hg := (.inr ⟨6, false, 79, rfl, rfl, by kernel_rfl⟩)) (v := .int .i64 ((stp g m).1.rs.length : Int)) hA100 rfl (ev_len (hA100.ev (i := 81) (v := .slice Ap5r9 (stp g m).1.rs.length cp5r9)) Try.underlying22 _ rfl) ?_
    intro a101 hA101; clear hA100
    refine sx_val (hg := (.inr ⟨6, false, 79, rfl, rfl, by kernel_rfl⟩)) hA101 rfl (ev_move (hA101.ev (i := 0) (v := .int .i64 (N : Int))) _ rfl) ?_
    intro a102 hA102; clear hA101
    refine sx_val (hg := (.inr ⟨6, false, 79, rfl, rfl, by kernel_rfl⟩)) (v := .bool false) hA102 rfl (ev_neqB (k := .i64) (m := ((stp g m).1.rs.length : Int)) (n := (N : Int)) (hA102.ev (i := 82)) (hA102.ev (i := 83)) (by simpa using hd3) _ rfl) ?_
    intro a103 hA103; clear hA102
    refine sx_val hA103 rfl (ev_pickF (hA103.ev (i := 79) (v := .bool false)) (hA103.ev (i := 84) (v := .bool false)) _ rfl) ?_
    intro a104 hA104; clear hA103
    refine sx_nil ?_
    refine then_n ?_
    refine wp_cond_false (hA104.ev (i := 85) (v := .bool false)) ?_
    refine wp_skip ?_
    refine then_n ?_
    refine wp_seq ?_
    refine wp_region_lit ?_
    refine sx_val hA104 rfl (ev_assign (ec _ (.int .i64 0)) _ rfl) ?_
    intro a105 hA105; clear hA104
    refine sx_val hA105 rfl (ev_assign (ec _ (.int .i64 0)) _ rfl) ?_
    intro a106 hA106; clear hA105
    refine sx_nil ?_
    refine then_n ?_
    refine wp_seq ?_
    refine wp_seq ?_
    refine wp_region_lit ?_
    refine sx_val hA106 rfl (ev_assign (ec _ (.int .i64 0)) _ rfl) ?_
    intro a107 hA107; clear hA106
    refine sx_nil ?_
    refine then_n ?_
    refine wp_block ?_
    have b60_B13_109 := b60_B13.gN hg71
    have b60_B13_110 := b60_B13_109.gN hg79
    have p60_111 := Own.gN p60_0 hg71
    have p60_112 := Own.gN p60_111 hg79
    have p60_113 := Own.gN p60_1 hg71
    have p60_114 := Own.gN p60_113 hg79
    have o60_5_115 := Own.gN o60_5_80 hg79
    have o60_5_116 := Own.gN o60_5_81 hg79
    have bl60_117 := Below.gN bl60 hg71 bl60.size
    have bl60_118 := Below.gN bl60_117 hg79 bl60_117.size
    refine wp_loop_ghost (fun gz a wl => ∃ (k : Nat), gz = N - k ∧ Ag a 183 [(0, .int .i64 (N : Int)), (1, .slice A xs.length c), (5, .bool true), (6, .pointer (some ⟨B13, 0, none⟩)), (8, .int .i64 (i : Int)), (39, .int .i64 (i : Int)), (40, .slice A xs.length c), (41, .int .i64 (xs.length : Int)), (42, .bool true), (43, .bool true), (44, .int .i64 (i : Int)), (45, .bool true), (46, .bool true), (50, .agg #[.slice A1g g.rs.length c1g, .slice A2g g.bs.length c2g]), (51, .slice A xs.length c), (52, .int .i64 (i : Int)), (53, .pointer (some (ad1.add (i * 1)))), (54, .int .i64 x), (55, .tuple #[.agg #[.slice Ap5r9 (stp g m).1.rs.length cp5r9, .slice Aj5r9 (stp g m).1.bs.length cj5r9], .int .i64 (j : Int), .int .i64 (stp g m).2.2]), (49, .tuple #[.agg #[.slice Ap5r9 (stp g m).1.rs.length cp5r9, .slice Aj5r9 (stp g m).1.bs.length cj5r9], .int .i64 (j : Int), .int .i64 (stp g m).2.2]), (56, .agg #[.slice Ap5r9 (stp g m).1.rs.length cp5r9, .slice Aj5r9 (stp g m).1.bs.length cj5r9]), (57, .int .i64 (j : Int)), (58, .int .i64 (stp g m).2.2), (9, .pointer (some ⟨N10r9, 0, none⟩)), (10, .int .i64 (j : Int)), (11, .int .i64 (stp g m).2.2), (59, .int .i64 (stp g m).2.2), (60, .bool false), (62, .agg #[.slice Ap5r9 (stp g m).1.rs.length cp5r9, .slice Aj5r9 (stp g m).1.bs.length cj5r9]), (63, .tuple #[.int .i64 0, .int .i64 0]), (61, .tuple #[.int .i64 0, .int .i64 0]), (64, .int .i64 0), (65, .int .i64 0), (12, .int .i64 0), (67, .agg #[.slice Ap5r9 (stp g m).1.rs.length cp5r9, .slice Aj5r9 (stp g m).1.bs.length cj5r9]), (68, .tuple #[.int .i64 ((cfr (stp g m).1 N : Nat) : Int), .int .i64 ((cntS (opm (stp g m).1.bs) 0 N : Nat) : Int), .int .i64 (sumr (stp g m).1.rs N), .int .i64 0]), (66, .tuple #[.int .i64 ((cfr (stp g m).1 N : Nat) : Int), .int .i64 ((cntS (opm (stp g m).1.bs) 0 N : Nat) : Int), .int .i64 (sumr (stp g m).1.rs N), .int .i64 0]), (69, .int .i64 ((cfr (stp g m).1 N : Nat) : Int)), (70, .int .i64 ((cntS (opm (stp g m).1.bs) 0 N : Nat) : Int)), (71, .int .i64 (sumr (stp g m).1.rs N)), (72, .int .i64 0), (14, .int .i64 ((cfr (stp g m).1 N : Nat) : Int)), (15, .int .i64 ((cntS (opm (stp g m).1.bs) 0 N : Nat) : Int)), (16, .int .i64 (sumr (stp g m).1.rs N)), (17, .int .i64 0), (73, .int .i64 0), (74, .bool false), (75, .bool false), (76, .int .i64 0), (77, .bool false), (78, .bool false), (79, .bool false), (80, .pointer (some ⟨N10r9, 0, none⟩)), (81, .slice Ap5r9 (stp g m).1.rs.length cp5r9), (82, .int .i64 ((stp g m).1.rs.length : Int)), (83, .int .i64 (N : Int)), (84, .bool false), (85, .bool false), (20, .int .i64 (k : Int)), (18, .int .i64 ((usd (stp g m).1 k : Nat) : Int)), (19, .int .i64 (sumr (stp g m).1.rs k))] ∧ k ≤ N ∧ Bx wl B13 25 #[.slice A1g g.rs.length c1g, .slice A2g g.bs.length c2g] ∧ Bx wl N10r9 25 #[.slice Ap5r9 (stp g m).1.rs.length cp5r9, .slice Aj5r9 (stp g m).1.bs.length cj5r9] ∧ Own wl (w.heap.size) 3 1 (.slice A1g g.rs.length c1g) g.rs.length (flat iva g.rs) ∧ Own wl (w.heap.size) 4 1 (.slice A2g g.bs.length c2g) g.bs.length (flat bva g.bs) ∧ Own wl (w26.heap.size) 3 1 (.slice Ap5r9 (stp g m).1.rs.length cp5r9) (stp g m).1.rs.length (flat iva (stp g m).1.rs) ∧ Own wl (w26.heap.size) 4 1 (.slice Aj5r9 (stp g m).1.bs.length cj5r9) (stp g m).1.bs.length (flat bva (stp g m).1.bs) ∧ w79.heap.size ≤ wl.heap.size ∧ Below w.heap.size w wl) (N - 0) ⟨0, rfl, ((((((((((((((((((((((((((((((((((((((((((((((((((((((((((((((Ag.nil hA107.1 hA107.2.1).cons (hA107.get (i := 19) (v := .int .i64 0))).cons (hA107.get (i := 18) (v := .int .i64 0))).cons (hA107.get (i := 20) (v := .int .i64 0))).cons (hA107.get (i := 85) (v := .bool false))).cons (hA107.get (i := 84) (v := .bool false))).cons (hA107.get (i := 83) (v := .int .i64 (N : Int)))).cons (hA107.get (i := 82) (v := .int .i64 ((stp g m).1.rs.length : Int)))).cons (hA107.get (i := 81) (v := .slice Ap5r9 (stp g m).1.rs.length cp5r9))).cons (hA107.get (i := 80) (v := .pointer (some ⟨N10r9, 0, none⟩)))).cons (hA107.get (i := 79) (v := .bool false))).cons (hA107.get (i := 78) (v := .bool false))).cons (hA107.get (i := 77) (v := .bool false))).cons (hA107.get (i := 76) (v := .int .i64 0))).cons (hA107.get (i := 75) (v := .bool false))).cons (hA107.get (i := 74) (v := .bool false))).cons (hA107.get (i := 73) (v := .int .i64 0))).cons (hA107.get (i := 17) (v := .int .i64 0))).cons (hA107.get (i := 16) (v := .int .i64 (sumr (stp g m).1.rs N)))).cons (hA107.get (i := 15) (v := .int .i64 ((cntS (opm (stp g m).1.bs) 0 N : Nat) : Int)))).cons (hA107.get (i := 14) (v := .int .i64 ((cfr (stp g m).1 N : Nat) : Int)))).cons (hA107.get (i := 72) (v := .int .i64 0))).cons (hA107.get (i := 71) (v := .int .i64 (sumr (stp g m).1.rs N)))).cons (hA107.get (i := 70) (v := .int .i64 ((cntS (opm (stp g m).1.bs) 0 N : Nat) : Int)))).cons (hA107.get (i := 69) (v := .int .i64 ((cfr (stp g m).1 N : Nat) : Int)))).cons (hA107.get (i := 66) (v := .tuple #[.int .i64 ((cfr (stp g m).1 N : Nat) : Int), .int .i64 ((cntS (opm (stp g m).1.bs) 0 N : Nat) : Int), .int .i64 (sumr (stp g m).1.rs N), .int .i64 0]))).cons (hA107.get (i := 68) (v := .tuple #[.int .i64 ((cfr (stp g m).1 N : Nat) : Int), .int .i64 ((cntS (opm (stp g m).1.bs) 0 N : Nat) : Int), .int .i64 (sumr (stp g m).1.rs N), .int .i64 0]))).cons (hA107.get (i := 67) (v := .agg #[.slice Ap5r9 (stp g m).1.rs.length cp5r9, .slice Aj5r9 (stp g m).1.bs.length cj5r9]))).cons (hA107.get (i := 12) (v := .int .i64 0))).cons (hA107.get (i := 65) (v := .int .i64 0))).cons (hA107.get (i := 64) (v := .int .i64 0))).cons (hA107.get (i := 61) (v := .tuple #[.int .i64 0, .int .i64 0]))).cons (hA107.get (i := 63) (v := .tuple #[.int .i64 0, .int .i64 0]))).cons (hA107.get (i := 62) (v := .agg #[.slice Ap5r9 (stp g m).1.rs.length cp5r9, .slice Aj5r9 (stp g m).1.bs.length cj5r9]))).cons (hA107.get (i := 60) (v := .bool false))).cons (hA107.get (i := 59) (v := .int .i64 (stp g m).2.2))).cons (hA107.get (i := 11) (v := .int .i64 (stp g m).2.2))).cons (hA107.get (i := 10) (v := .int .i64 (j : Int)))).cons (hA107.get (i := 9) (v := .pointer (some ⟨N10r9, 0, none⟩)))).cons (hA107.get (i := 58) (v := .int .i64 (stp g m).2.2))).cons (hA107.get (i := 57) (v := .int .i64 (j : Int)))).cons (hA107.get (i := 56) (v := .agg #[.slice Ap5r9 (stp g m).1.rs.length cp5r9, .slice Aj5r9 (stp g m).1.bs.length cj5r9]))).cons (hA107.get (i := 49) (v := .tuple #[.agg #[.slice Ap5r9 (stp g m).1.rs.length cp5r9, .slice Aj5r9 (stp g m).1.bs.length cj5r9], .int .i64 (j : Int), .int .i64 (stp g m).2.2]))).cons (hA107.get (i := 55) (v := .tuple #[.agg #[.slice Ap5r9 (stp g m).1.rs.length cp5r9, .slice Aj5r9 (stp g m).1.bs.length cj5r9], .int .i64 (j : Int), .int .i64 (stp g m).2.2]))).cons (hA107.get (i := 54) (v := .int .i64 x))).cons (hA107.get (i := 53) (v := .pointer (some (ad1.add (i * 1)))))).cons (hA107.get (i := 52) (v := .int .i64 (i : Int)))).cons (hA107.get (i := 51) (v := .slice A xs.length c))).cons (hA107.get (i := 50) (v := .agg #[.slice A1g g.rs.length c1g, .slice A2g g.bs.length c2g]))).cons (hA107.get (i := 46) (v := .bool true))).cons (hA107.get (i := 45) (v := .bool true))).cons (hA107.get (i := 44) (v := .int .i64 (i : Int)))).cons (hA107.get (i := 43) (v := .bool true))).cons (hA107.get (i := 42) (v := .bool true))).cons (hA107.get (i := 41) (v := .int .i64 (xs.length : Int)))).cons (hA107.get (i := 40) (v := .slice A xs.length c))).cons (hA107.get (i := 39) (v := .int .i64 (i : Int)))).cons (hA107.get (i := 8) (v := .int .i64 (i : Int)))).cons (hA107.get (i := 6) (v := .pointer (some ⟨B13, 0, none⟩)))).cons (hA107.get (i := 5) (v := .bool true))).cons (hA107.get (i := 1) (v := .slice A xs.length c))).cons (hA107.get (i := 0) (v := .int .i64 (N : Int)))), Nat.zero_le _, b60_B13_110, b60_N10r9_99, p60_112, p60_114, o60_5_115, o60_5_116, Nat.le_refl _, bl60_118⟩ ?_
    intro n108 a108 w108 hI108
    obtain ⟨k, hn108, hA108, q108_0, f108_0, f108_1, f108_2, f108_3, f108_4, f108_5, hsz108, hbel108⟩ := hI108
    subst hn108
    clear hA107
    have hlB13_108 := f108_0.lt
    have hlN10r9_108 := f108_1.lt
    cases hd119 : decide ((k : Int) < (N : Int))
    · have hp119 := of_decide_eq_false hd119
      have hkN : k = N := by omega
      rw [hkN] at hA108
      have hkd := kinds hok2 N
      have hq1 := cfr_le (stp g m).1 N
      have hq2 := cntS_le (opm (stp g m).1.bs) 0 N
      have hq3 := usd_le (stp g m).1 N
      have hd8 : decide ((((((cfr (stp g m).1 N) + (cntS (opm (stp g m).1.bs) 0 N)) + (usd (stp g m).1 N)) : Nat) : Int) = (N : Int)) = true := decide_eq_true (by omega)
      refine wp_seq ?_
      refine wp_seq ?_
      refine wp_region_lit ?_
      refine sx_val hA108 rfl (ev_move (hA108.ev (i := 20) (v := .int .i64 (N : Int))) _ rfl) ?_
      intro a120 hA120; clear hA108
      refine sx_val hA120 rfl (ev_move (hA120.ev (i := 0) (v := .int .i64 (N : Int))) _ rfl) ?_
      intro a121 hA121; clear hA120
      refine sx_val (v := .bool false) hA121 rfl (ev_lssB (k := .i64) (m := (N : Int)) (n := (N : Int)) (hA121.ev (i := 86)) (hA121.ev (i := 87)) (by simp) _ rfl) ?_
      intro a122 hA122; clear hA121
      refine sx_nil ?_
      refine then_n ?_
      refine wp_cond_false (hA122.ev (i := 88) (v := .bool false)) ?_
      refine wp_exit ?_
      refine then_x ?_
      refine then_x ?_
      refine blk_hit ?_
      refine then_n ?_
      refine wp_seq ?_
      refine wp_seq ?_
      refine wp_region_lit ?_
      refine sx_val hA122 rfl (ev_move (hA122.ev (i := 10) (v := .int .i64 (j : Int))) _ rfl) ?_
      intro a123 hA123; clear hA122
      refine sx_val hA123 rfl (ev_move (hA123.ev (i := 0) (v := .int .i64 (N : Int))) _ rfl) ?_
      intro a124 hA124; clear hA123
      refine sx_val (v := .bool false) hA124 rfl (ev_geqB (k := .i64) (m := (j : Int)) (n := (N : Int)) (hA124.ev (i := 137)) (hA124.ev (i := 138)) hd6 _ rfl) ?_
      intro a125 hA125; clear hA124
      refine sx_val hA125 rfl (ev_move (hA125.ev (i := 139) (v := .bool false)) _ rfl) ?_
      intro a126 hA126; clear hA125
      refine sx_val (hg := (.inr ⟨3, false, 140, rfl, rfl, by kernel_rfl⟩)) hA126 rfl (ev_move (hA126.ev (i := 10) (v := .int .i64 (j : Int))) _ rfl) ?_
      intro a127 hA127; clear hA126
      refine sx_val (hg := (.inr ⟨3, false, 140, rfl, rfl, by kernel_rfl⟩)) (v := .bool true) hA127 rfl (ev_geqB (k := .i64) (m := (j : Int)) (n := 0) (hA127.ev (i := 141)) (ec _ (.int .i64 0)) hd5 _ rfl) ?_
      intro a128 hA128; clear hA127
      refine sx_val (hg := (.inr ⟨3, false, 140, rfl, rfl, by kernel_rfl⟩)) hA128 rfl (ev_move (hA128.ev (i := 142) (v := .bool true)) _ rfl) ?_
      intro a129 hA129; clear hA128
      refine sx_val (hg := (.inr ⟨6, true, 143, rfl, rfl, by kernel_rfl⟩)) (v := .pointer (some ⟨B13, 0, none⟩)) hA129 rfl (fb_Slots_0 (hA129.ev (i := 6) (v := .pointer (some ⟨B13, 0, none⟩))) _ rfl) ?_
      intro a130 hA130; clear hA129
      refine sx_val (hg := (.inr ⟨6, true, 143, rfl, rfl, by kernel_rfl⟩)) (v := .slice A1g g.rs.length c1g) hA130 rfl (ev_cell (v := .slice A1g g.rs.length c1g) (hA130.ev (i := 144) (v := .pointer (some ⟨B13, 0, none⟩))) ((f108_0.cell 0).trans rfl) Try.underlying22 rfl _ rfl) ?_
      intro a131 hA131; clear hA130
      refine sx_val (hg := (.inr ⟨6, true, 143, rfl, rfl, by kernel_rfl⟩)) hA131 rfl (ev_move (hA131.ev (i := 10) (v := .int .i64 (j : Int))) _ rfl) ?_
      intro a132 hA132; clear hA131
      obtain ⟨ad133, hAd133⟩ := GR.adr (OwnR.gr (e := 3) ⟨rfl, f108_2⟩) iva_sz hxj
      refine sx_val (hg := (.inr ⟨6, true, 143, rfl, rfl, by kernel_rfl⟩)) (v := .pointer (some (ad133.add (j * 1)))) hA132 rfl (ev_idx (k := j) (hA132.ev (i := 145) (v := .slice A1g g.rs.length c1g)) hAd133 (hA132.ev (i := 146) (v := .int .i64 (j : Int))) rfl (by omega) Try.underlying22 (by kernel_rfl) _ rfl) ?_
      intro a134 hA134; clear hA132
      refine sx_val (hg := (.inr ⟨6, true, 143, rfl, rfl, by kernel_rfl⟩)) (v := .int .i64 0) hA134 rfl (ev_cell (hA134.ev (i := 147) (v := .pointer (some (ad133.add (j * 1))))) ((GR.cel (OwnR.gr (e := 3) ⟨rfl, f108_2⟩) hAd133 iva_sz hxj) 0 _ rfl) Try.underlying3 rfl _ rfl) ?_
      intro a135 hA135; clear hA134
      refine sx_val (hg := (.inr ⟨6, true, 143, rfl, rfl, by kernel_rfl⟩)) (v := .bool false) hA135 rfl (ev_neqB (k := .i64) (m := 0) (n := 0) (hA135.ev (i := 148)) (ec _ (.int .i64 0)) (by decide) _ rfl) ?_
      intro a136 hA136; clear hA135
      refine sx_val (hg := (.inr ⟨6, true, 143, rfl, rfl, by kernel_rfl⟩)) hA136 rfl (ev_move (hA136.ev (i := 149) (v := .bool false)) _ rfl) ?_
      intro a137 hA137; clear hA136
      refine sx_val (hg := (.inr ⟨13, false, 150, rfl, rfl, by kernel_rfl⟩)) (v := .pointer (some ⟨B13, 1, none⟩)) hA137 rfl (fb_Slots_1 (hA137.ev (i := 6) (v := .pointer (some ⟨B13, 0, none⟩))) _ rfl) ?_
      intro a138 hA138; clear hA137
      refine sx_val (hg := (.inr ⟨13, false, 150, rfl, rfl, by kernel_rfl⟩)) (v := .slice A2g g.bs.length c2g) hA138 rfl (ev_cell (v := .slice A2g g.bs.length c2g) (hA138.ev (i := 151) (v := .pointer (some ⟨B13, 1, none⟩))) ((f108_0.cell 1).trans rfl) Try.underlying23 rfl _ rfl) ?_
      intro a139 hA139; clear hA138
      refine sx_val (hg := (.inr ⟨13, false, 150, rfl, rfl, by kernel_rfl⟩)) hA139 rfl (ev_move (hA139.ev (i := 10) (v := .int .i64 (j : Int))) _ rfl) ?_
      intro a140 hA140; clear hA139
      obtain ⟨ad141, hAd141⟩ := GR.adr (OwnR.gr (e := 4) ⟨rfl, f108_3⟩) bva_sz hyj
      refine sx_val (hg := (.inr ⟨13, false, 150, rfl, rfl, by kernel_rfl⟩)) (v := .pointer (some (ad141.add (j * 1)))) hA140 rfl (ev_idx (k := j) (hA140.ev (i := 152) (v := .slice A2g g.bs.length c2g)) hAd141 (hA140.ev (i := 153) (v := .int .i64 (j : Int))) rfl (by omega) Try.underlying23 (by kernel_rfl) _ rfl) ?_
      intro a142 hA142; clear hA140
      refine sx_val (hg := (.inr ⟨13, false, 150, rfl, rfl, by kernel_rfl⟩)) (v := .bool false) hA142 rfl (ev_cell (hA142.ev (i := 154) (v := .pointer (some (ad141.add (j * 1))))) ((GR.cel (OwnR.gr (e := 4) ⟨rfl, f108_3⟩) hAd141 bva_sz hyj) 0 _ rfl) Try.underlying4 rfl _ rfl) ?_
      intro a143 hA143; clear hA142
      refine sx_val (hg := (.inr ⟨6, true, 143, rfl, rfl, by kernel_rfl⟩)) hA143 rfl (ev_pickF (hA143.ev (i := 150) (v := .bool false)) (hA143.ev (i := 155) (v := .bool false)) _ rfl) ?_
      intro a144 hA144; clear hA143
      refine sx_val (hg := (.inr ⟨6, true, 143, rfl, rfl, by kernel_rfl⟩)) hA144 rfl (ev_move (hA144.ev (i := 156) (v := .bool false)) _ rfl) ?_
      intro a145 hA145; clear hA144
      refine sx_val (hg := (.inr ⟨20, false, 157, rfl, rfl, by kernel_rfl⟩)) (v := .pointer (some ⟨N10r9, 1, none⟩)) hA145 rfl (fb_Slots_1 (hA145.ev (i := 9) (v := .pointer (some ⟨N10r9, 0, none⟩))) _ rfl) ?_
      intro a146 hA146; clear hA145
      refine sx_val (hg := (.inr ⟨20, false, 157, rfl, rfl, by kernel_rfl⟩)) (v := .slice Aj5r9 (stp g m).1.bs.length cj5r9) hA146 rfl (ev_cell (v := .slice Aj5r9 (stp g m).1.bs.length cj5r9) (hA146.ev (i := 158) (v := .pointer (some ⟨N10r9, 1, none⟩))) ((f108_1.cell 1).trans rfl) Try.underlying23 rfl _ rfl) ?_
      intro a147 hA147; clear hA146
      refine sx_val (hg := (.inr ⟨20, false, 157, rfl, rfl, by kernel_rfl⟩)) hA147 rfl (ev_move (hA147.ev (i := 10) (v := .int .i64 (j : Int))) _ rfl) ?_
      intro a148 hA148; clear hA147
      obtain ⟨ad149, hAd149⟩ := GR.adr (OwnR.gr (e := 4) ⟨rfl, f108_5⟩) bva_sz hzj
      refine sx_val (hg := (.inr ⟨20, false, 157, rfl, rfl, by kernel_rfl⟩)) (v := .pointer (some (ad149.add (j * 1)))) hA148 rfl (ev_idx (k := j) (hA148.ev (i := 159) (v := .slice Aj5r9 (stp g m).1.bs.length cj5r9)) hAd149 (hA148.ev (i := 160) (v := .int .i64 (j : Int))) rfl (by omega) Try.underlying23 (by kernel_rfl) _ rfl) ?_
      intro a150 hA150; clear hA148
      refine sx_val (hg := (.inr ⟨20, false, 157, rfl, rfl, by kernel_rfl⟩)) (v := .bool true) hA150 rfl (ev_cell (hA150.ev (i := 161) (v := .pointer (some (ad149.add (j * 1))))) ((GR.cel (OwnR.gr (e := 4) ⟨rfl, f108_5⟩) hAd149 bva_sz hzj) 0 _ rfl) Try.underlying4 rfl _ rfl) ?_
      intro a151 hA151; clear hA150
      refine sx_val (hg := (.inr ⟨20, false, 157, rfl, rfl, by kernel_rfl⟩)) (v := .bool false) hA151 rfl (ev_notT (hA151.ev (i := 162) (v := .bool true)) _ rfl) ?_
      intro a152 hA152; clear hA151
      refine sx_val (hg := (.inr ⟨6, true, 143, rfl, rfl, by kernel_rfl⟩)) hA152 rfl (ev_pickF (hA152.ev (i := 157) (v := .bool false)) (hA152.ev (i := 163) (v := .bool false)) _ rfl) ?_
      intro a153 hA153; clear hA152
      refine sx_val (hg := (.inr ⟨3, false, 140, rfl, rfl, by kernel_rfl⟩)) hA153 rfl (ev_pickT (hA153.ev (i := 143) (v := .bool true)) (hA153.ev (i := 164) (v := .bool false)) _ rfl) ?_
      intro a154 hA154; clear hA153
      refine sx_val hA154 rfl (ev_pickF (hA154.ev (i := 140) (v := .bool false)) (hA154.ev (i := 165) (v := .bool false)) _ rfl) ?_
      intro a155 hA155; clear hA154
      refine sx_val hA155 rfl (ev_move (hA155.ev (i := 166) (v := .bool false)) _ rfl) ?_
      intro a156 hA156; clear hA155
      refine sx_val (hg := (.inr ⟨30, false, 167, rfl, rfl, by kernel_rfl⟩)) hA156 rfl (ev_move (hA156.ev (i := 14) (v := .int .i64 ((cfr (stp g m).1 N : Nat) : Int))) _ rfl) ?_
      intro a157 hA157; clear hA156
      refine sx_val (hg := (.inr ⟨30, false, 167, rfl, rfl, by kernel_rfl⟩)) hA157 rfl (ev_move (hA157.ev (i := 15) (v := .int .i64 ((cntS (opm (stp g m).1.bs) 0 N : Nat) : Int))) _ rfl) ?_
      intro a158 hA158; clear hA157
      refine sx_val (hg := (.inr ⟨30, false, 167, rfl, rfl, by kernel_rfl⟩)) (v := .int .i64 ((((cfr (stp g m).1 N) + (cntS (opm (stp g m).1.bs) 0 N)) : Nat) : Int)) hA158 rfl (ev_addI (m := (cfr (stp g m).1 N)) (n := (cntS (opm (stp g m).1.bs) 0 N)) (hA158.ev (i := 168)) (hA158.ev (i := 169)) rfl (by omega) _ rfl) ?_
      intro a159 hA159; clear hA158
      refine sx_val (hg := (.inr ⟨30, false, 167, rfl, rfl, by kernel_rfl⟩)) hA159 rfl (ev_move (hA159.ev (i := 18) (v := .int .i64 ((usd (stp g m).1 N : Nat) : Int))) _ rfl) ?_
      intro a160 hA160; clear hA159
      refine sx_val (hg := (.inr ⟨30, false, 167, rfl, rfl, by kernel_rfl⟩)) (v := .int .i64 (((((cfr (stp g m).1 N) + (cntS (opm (stp g m).1.bs) 0 N)) + (usd (stp g m).1 N)) : Nat) : Int)) hA160 rfl (ev_addI (m := ((cfr (stp g m).1 N) + (cntS (opm (stp g m).1.bs) 0 N))) (n := (usd (stp g m).1 N)) (hA160.ev (i := 170)) (hA160.ev (i := 171)) rfl (by omega) _ rfl) ?_
      intro a161 hA161; clear hA160
      refine sx_val (hg := (.inr ⟨30, false, 167, rfl, rfl, by kernel_rfl⟩)) hA161 rfl (ev_move (hA161.ev (i := 0) (v := .int .i64 (N : Int))) _ rfl) ?_
      intro a162 hA162; clear hA161
      refine sx_val (hg := (.inr ⟨30, false, 167, rfl, rfl, by kernel_rfl⟩)) (v := .bool false) hA162 rfl (ev_neqB (k := .i64) (m := (((((cfr (stp g m).1 N) + (cntS (opm (stp g m).1.bs) 0 N)) + (usd (stp g m).1 N)) : Nat) : Int)) (n := (N : Int)) (hA162.ev (i := 172)) (hA162.ev (i := 173)) (by simpa using hd8) _ rfl) ?_
      intro a163 hA163; clear hA162
      refine sx_val hA163 rfl (ev_pickF (hA163.ev (i := 167) (v := .bool false)) (hA163.ev (i := 174) (v := .bool false)) _ rfl) ?_
      intro a164 hA164; clear hA163
      refine sx_val hA164 rfl (ev_move (hA164.ev (i := 175) (v := .bool false)) _ rfl) ?_
      intro a165 hA165; clear hA164
      refine sx_val (hg := (.inr ⟨39, false, 176, rfl, rfl, by kernel_rfl⟩)) hA165 rfl (ev_move (hA165.ev (i := 16) (v := .int .i64 (sumr (stp g m).1.rs N))) _ rfl) ?_
      intro a166 hA166; clear hA165
      refine sx_val (hg := (.inr ⟨39, false, 176, rfl, rfl, by kernel_rfl⟩)) hA166 rfl (ev_move (hA166.ev (i := 19) (v := .int .i64 (sumr (stp g m).1.rs N))) _ rfl) ?_
      intro a167 hA167; clear hA166
      refine sx_val (hg := (.inr ⟨39, false, 176, rfl, rfl, by kernel_rfl⟩)) (v := .bool false) hA167 rfl (ev_neqB (k := .i64) (m := (sumr (stp g m).1.rs N)) (n := (sumr (stp g m).1.rs N)) (hA167.ev (i := 177)) (hA167.ev (i := 178)) (by simp) _ rfl) ?_
      intro a168 hA168; clear hA167
      refine sx_val hA168 rfl (ev_pickF (hA168.ev (i := 176) (v := .bool false)) (hA168.ev (i := 179) (v := .bool false)) _ rfl) ?_
      intro a169 hA169; clear hA168
      refine sx_nil ?_
      refine then_n ?_
      refine wp_cond_false (hA169.ev (i := 180) (v := .bool false)) ?_
      refine wp_skip ?_
      refine then_n ?_
      refine wp_region_lit ?_
      refine sx_val (v := .agg #[.slice Ap5r9 (stp g m).1.rs.length cp5r9, .slice Aj5r9 (stp g m).1.bs.length cj5r9]) hA169 rfl (ev_row (hA169.ev (i := 9) (v := .pointer (some ⟨N10r9, 0, none⟩))) f108_1 Try.underlying25 rfl (n := 2) (by kernel_rfl) rfl _ rfl) ?_
      intro a170 hA170; clear hA169
      refine sx_store hA170 rfl (.inl rfl) rfl (hA170.ev (i := 6) (v := .pointer (some ⟨B13, 0, none⟩))) (hA170.ev (i := 181) (v := .agg #[.slice Ap5r9 (stp g m).1.rs.length cp5r9, .slice Aj5r9 (stp g m).1.bs.length cj5r9])) f108_0 (by kernel_rfl) rfl (by simp [Value.oneCell']) ?_
      intro w171 hx171 hg171
      have hs171 := hg171.size
      refine sx_nil ?_
      refine blk_n ?_
      refine then_n ?_
      refine wp_region_lit ?_
      refine sx_val hA170 rfl (ev_move (hA170.ev (i := 8) (v := .int .i64 (i : Int))) _ rfl) ?_
      intro a172 hA172; clear hA170
      refine sx_val (v := .int .i64 ((i + 1 : Nat) : Int)) hA172 rfl (ev_addR (k := .i64) (m := (i : Int)) (n := 1) (r := ((i + 1 : Nat) : Int)) (hA172.ev (i := 47)) (ec _ (.int .i64 1)) (wr (by omega) (by omega) (by omega)) _ rfl) ?_
      intro a173 hA173; clear hA172
      refine sx_val hA173 rfl (ev_assign (hA173.ev (i := 48) (v := .int .i64 ((i + 1 : Nat) : Int))) _ rfl) ?_
      intro a174 hA174; clear hA173
      refine sx_nil ?_
      refine then_n ?_
      have f108_175 := Own.gBT f108_4 hg171 f108_0 (by decide)
      have f108_176 := Own.gBT f108_5 hg171 f108_0 (by decide)
      have hbel108_177 := Below.gB hbel108 hg171 hbel108.size (by omega)
      refine ⟨60 - (i + 1), by omega, i + 1, (stp g m).1, Ap5r9, cp5r9, Aj5r9, cj5r9, rfl, ((((((Ag.nil hA174.1 hA174.2.1).cons (hA174.get (i := 8) (v := .int .i64 ((i + 1 : Nat) : Int)))).cons (hA174.get (i := 6) (v := .pointer (some ⟨B13, 0, none⟩)))).cons (hA174.get (i := 5) (v := .bool true))).cons (hA174.get (i := 1) (v := .slice A xs.length c))).cons (hA174.get (i := 0) (v := .int .i64 (N : Int)))), by omega, hst.ok, hst.len.trans q26_2, hx171, (Own.mono f108_175 (by omega)), (Own.mono f108_176 (by omega)), by omega, hbel108_177⟩
    have hp119 := of_decide_eq_true hd119
    obtain ⟨x2, hx2⟩ : ∃ x2, (stp g m).1.rs[k]? = some x2 := ⟨_, List.getElem?_eq_getElem (by omega)⟩
    obtain ⟨y2, hy2⟩ : ∃ y2, (stp g m).1.bs[k]? = some y2 := ⟨_, List.getElem?_eq_getElem (by omega)⟩
    obtain ⟨x3, hx3⟩ : ∃ x3, g.rs[k]? = some x3 := ⟨_, List.getElem?_eq_getElem (by omega)⟩
    obtain ⟨y3, hy3⟩ : ∃ y3, g.bs[k]? = some y3 := ⟨_, List.getElem?_eq_getElem (by omega)⟩
    have hs1 := sumr_bd hok2.val k
    have hs2 := sumr_bd hok2.val (k + 1)
    have hu1 := usd_le (stp g m).1 (k + 1)
    have hu2 := usd_le (stp g m).1 k
    refine wp_seq ?_
    refine wp_seq ?_
    refine wp_region_lit ?_
    refine sx_val hA108 rfl (ev_move (hA108.ev (i := 20) (v := .int .i64 (k : Int))) _ rfl) ?_
    intro a178 hA178; clear hA108
    refine sx_val hA178 rfl (ev_move (hA178.ev (i := 0) (v := .int .i64 (N : Int))) _ rfl) ?_
    intro a179 hA179; clear hA178
    refine sx_val (v := .bool true) hA179 rfl (ev_lssB (k := .i64) (m := (k : Int)) (n := (N : Int)) (hA179.ev (i := 86)) (hA179.ev (i := 87)) hd119 _ rfl) ?_
    intro a180 hA180; clear hA179
    refine sx_nil ?_
    refine then_n ?_
    refine wp_cond_true (hA180.ev (i := 88) (v := .bool true)) ?_
    refine wp_skip ?_
    refine then_n ?_
    refine wp_seq ?_
    refine wp_block ?_
    refine wp_seq ?_
    refine wp_region_lit ?_
    refine sx_val hA180 rfl (ev_move (hA180.ev (i := 19) (v := .int .i64 (sumr (stp g m).1.rs k))) _ rfl) ?_
    intro a181 hA181; clear hA180
    refine sx_val (v := .pointer (some ⟨N10r9, 0, none⟩)) hA181 rfl (fb_Slots_0 (hA181.ev (i := 9) (v := .pointer (some ⟨N10r9, 0, none⟩))) _ rfl) ?_
    intro a182 hA182; clear hA181
    refine sx_val (v := .slice Ap5r9 (stp g m).1.rs.length cp5r9) hA182 rfl (ev_cell (v := .slice Ap5r9 (stp g m).1.rs.length cp5r9) (hA182.ev (i := 92) (v := .pointer (some ⟨N10r9, 0, none⟩))) ((f108_1.cell 0).trans rfl) Try.underlying22 rfl _ rfl) ?_
    intro a183 hA183; clear hA182
    refine sx_val hA183 rfl (ev_move (hA183.ev (i := 20) (v := .int .i64 (k : Int))) _ rfl) ?_
    intro a184 hA184; clear hA183
    obtain ⟨ad185, hAd185⟩ := GR.adr (OwnR.gr (e := 3) ⟨rfl, f108_4⟩) iva_sz hx2
    refine sx_val (v := .pointer (some (ad185.add (k * 1)))) hA184 rfl (ev_idx (k := k) (hA184.ev (i := 93) (v := .slice Ap5r9 (stp g m).1.rs.length cp5r9)) hAd185 (hA184.ev (i := 94) (v := .int .i64 (k : Int))) rfl (by omega) Try.underlying22 (by kernel_rfl) _ rfl) ?_
    intro a186 hA186; clear hA184
    refine sx_val (v := .int .i64 x2) hA186 rfl (ev_cell (hA186.ev (i := 95) (v := .pointer (some (ad185.add (k * 1))))) ((GR.cel (OwnR.gr (e := 3) ⟨rfl, f108_4⟩) hAd185 iva_sz hx2) 0 _ rfl) Try.underlying3 rfl _ rfl) ?_
    intro a187 hA187; clear hA186
    refine sx_val (v := .int .i64 (sumr (stp g m).1.rs (k + 1))) hA187 rfl (ev_addR (k := .i64) (m := (sumr (stp g m).1.rs k)) (n := x2) (r := (sumr (stp g m).1.rs (k + 1))) (hA187.ev (i := 91)) (hA187.ev (i := 96)) (wr (sumr_succ hx2) (by omega) (by omega)) _ rfl) ?_
    intro a188 hA188; clear hA187
    refine sx_val hA188 rfl (ev_assign (hA188.ev (i := 97) (v := .int .i64 (sumr (stp g m).1.rs (k + 1)))) _ rfl) ?_
    intro a189 hA189; clear hA188
    refine sx_nil ?_
    refine then_n ?_
    refine wp_seq ?_
    refine wp_seq ?_
    refine wp_region_lit ?_
    refine sx_val (v := .pointer (some ⟨N10r9, 0, none⟩)) hA189 rfl (fb_Slots_0 (hA189.ev (i := 9) (v := .pointer (some ⟨N10r9, 0, none⟩))) _ rfl) ?_
    intro a190 hA190; clear hA189
    refine sx_val (v := .slice Ap5r9 (stp g m).1.rs.length cp5r9) hA190 rfl (ev_cell (v := .slice Ap5r9 (stp g m).1.rs.length cp5r9) (hA190.ev (i := 98) (v := .pointer (some ⟨N10r9, 0, none⟩))) ((f108_1.cell 0).trans rfl) Try.underlying22 rfl _ rfl) ?_
    intro a191 hA191; clear hA190
    refine sx_val hA191 rfl (ev_move (hA191.ev (i := 20) (v := .int .i64 (k : Int))) _ rfl) ?_
    intro a192 hA192; clear hA191
    refine sx_val (v := .pointer (some (ad185.add (k * 1)))) hA192 rfl (ev_idx (k := k) (hA192.ev (i := 99) (v := .slice Ap5r9 (stp g m).1.rs.length cp5r9)) hAd185 (hA192.ev (i := 100) (v := .int .i64 (k : Int))) rfl (by omega) Try.underlying22 (by kernel_rfl) _ rfl) ?_
    intro a193 hA193; clear hA192
    refine sx_val (v := .int .i64 x2) hA193 rfl (ev_cell (hA193.ev (i := 101) (v := .pointer (some (ad185.add (k * 1))))) ((GR.cel (OwnR.gr (e := 3) ⟨rfl, f108_4⟩) hAd185 iva_sz hx2) 0 _ rfl) Try.underlying3 rfl _ rfl) ?_
    intro a194 hA194; clear hA193
    cases hd195 : decide (0 < x2)
    · have hp195 := of_decide_eq_false hd195
      refine sx_val (v := .bool false) hA194 rfl (ev_gtrB (k := .i64) (m := x2) (n := 0) (hA194.ev (i := 102)) (ec _ (.int .i64 0)) hd195 _ rfl) ?_
      intro a196 hA196; clear hA194
      refine sx_val hA196 rfl (ev_move (hA196.ev (i := 103) (v := .bool false)) _ rfl) ?_
      intro a197 hA197; clear hA196
      refine sx_no (j := 6) (s := 104) (want := true) (b := false) hA197 rfl ?_
      intro a198 hA198; clear hA197
      refine sx_no (j := 6) (s := 104) (want := true) (b := false) hA198 rfl ?_
      intro a199 hA199; clear hA198
      refine sx_no (j := 6) (s := 104) (want := true) (b := false) hA199 rfl ?_
      intro a200 hA200; clear hA199
      refine sx_no (j := 6) (s := 104) (want := true) (b := false) hA200 rfl ?_
      intro a201 hA201; clear hA200
      refine sx_no (j := 6) (s := 104) (want := true) (b := false) hA201 rfl ?_
      intro a202 hA202; clear hA201
      refine sx_no (j := 6) (s := 104) (want := true) (b := false) hA202 rfl ?_
      intro a203 hA203; clear hA202
      refine sx_val hA203 rfl (ev_pickF (hA203.ev (i := 104) (v := .bool false)) (ec _ (.bool false)) _ rfl) ?_
      intro a204 hA204; clear hA203
      refine sx_nil ?_
      refine then_n ?_
      refine wp_cond_false (hA204.ev (i := 111) (v := .bool false)) ?_
      refine wp_skip ?_
      refine then_n ?_
      refine wp_seq ?_
      refine wp_region_lit ?_
      refine sx_val hA204 rfl (ev_move (hA204.ev (i := 10) (v := .int .i64 (j : Int))) _ rfl) ?_
      intro a205 hA205; clear hA204
      refine sx_val (v := .bool true) hA205 rfl (ev_geqB (k := .i64) (m := (j : Int)) (n := 0) (hA205.ev (i := 114)) (ec _ (.int .i64 0)) hd5 _ rfl) ?_
      intro a206 hA206; clear hA205
      refine sx_val hA206 rfl (ev_move (hA206.ev (i := 115) (v := .bool true)) _ rfl) ?_
      intro a207 hA207; clear hA206
      refine sx_val (hg := (.inr ⟨2, true, 116, rfl, rfl, by kernel_rfl⟩)) hA207 rfl (ev_move (hA207.ev (i := 20) (v := .int .i64 (k : Int))) _ rfl) ?_
      intro a208 hA208; clear hA207
      refine sx_val (hg := (.inr ⟨2, true, 116, rfl, rfl, by kernel_rfl⟩)) hA208 rfl (ev_move (hA208.ev (i := 10) (v := .int .i64 (j : Int))) _ rfl) ?_
      intro a209 hA209; clear hA208
      cases hd210 : decide ((k : Int) < (j : Int))
      · have hp210 := of_decide_eq_false hd210
        refine sx_val (hg := (.inr ⟨2, true, 116, rfl, rfl, by kernel_rfl⟩)) (v := .bool false) hA209 rfl (ev_lssB (k := .i64) (m := (k : Int)) (n := (j : Int)) (hA209.ev (i := 117)) (hA209.ev (i := 118)) hd210 _ rfl) ?_
        intro a211 hA211; clear hA209
        refine sx_val hA211 rfl (ev_pickT (hA211.ev (i := 116) (v := .bool true)) (hA211.ev (i := 119) (v := .bool false)) _ rfl) ?_
        intro a212 hA212; clear hA211
        refine sx_val hA212 rfl (ev_move (hA212.ev (i := 120) (v := .bool false)) _ rfl) ?_
        intro a213 hA213; clear hA212
        refine sx_no (j := 7) (s := 121) (want := true) (b := false) hA213 rfl ?_
        intro a214 hA214; clear hA213
        refine sx_no (j := 7) (s := 121) (want := true) (b := false) hA214 rfl ?_
        intro a215 hA215; clear hA214
        refine sx_no (j := 7) (s := 121) (want := true) (b := false) hA215 rfl ?_
        intro a216 hA216; clear hA215
        refine sx_no (j := 7) (s := 121) (want := true) (b := false) hA216 rfl ?_
        intro a217 hA217; clear hA216
        refine sx_no (j := 7) (s := 121) (want := true) (b := false) hA217 rfl ?_
        intro a218 hA218; clear hA217
        refine sx_no (j := 7) (s := 121) (want := true) (b := false) hA218 rfl ?_
        intro a219 hA219; clear hA218
        refine sx_val hA219 rfl (ev_pickF (hA219.ev (i := 121) (v := .bool false)) (ec _ (.bool false)) _ rfl) ?_
        intro a220 hA220; clear hA219
        refine sx_val hA220 rfl (ev_move (hA220.ev (i := 128) (v := .bool false)) _ rfl) ?_
        intro a221 hA221; clear hA220
        refine sx_no (j := 15) (s := 129) (want := true) (b := false) hA221 rfl ?_
        intro a222 hA222; clear hA221
        refine sx_no (j := 15) (s := 129) (want := true) (b := false) hA222 rfl ?_
        intro a223 hA223; clear hA222
        refine sx_no (j := 15) (s := 129) (want := true) (b := false) hA223 rfl ?_
        intro a224 hA224; clear hA223
        refine sx_no (j := 15) (s := 129) (want := true) (b := false) hA224 rfl ?_
        intro a225 hA225; clear hA224
        refine sx_no (j := 15) (s := 129) (want := true) (b := false) hA225 rfl ?_
        intro a226 hA226; clear hA225
        refine sx_no (j := 15) (s := 129) (want := true) (b := false) hA226 rfl ?_
        intro a227 hA227; clear hA226
        refine sx_val hA227 rfl (ev_pickF (hA227.ev (i := 129) (v := .bool false)) (ec _ (.bool false)) _ rfl) ?_
        intro a228 hA228; clear hA227
        refine sx_nil ?_
        refine then_n ?_
        refine wp_cond_false (hA228.ev (i := 136) (v := .bool false)) ?_
        refine wp_skip ?_
        refine blk_n ?_
        refine then_n ?_
        refine wp_region_lit ?_
        refine sx_val hA228 rfl (ev_move (hA228.ev (i := 20) (v := .int .i64 (k : Int))) _ rfl) ?_
        intro a229 hA229; clear hA228
        refine sx_val (v := .int .i64 ((k + 1 : Nat) : Int)) hA229 rfl (ev_addR (k := .i64) (m := (k : Int)) (n := 1) (r := ((k + 1 : Nat) : Int)) (hA229.ev (i := 89)) (ec _ (.int .i64 1)) (wr (by omega) (by omega) (by omega)) _ rfl) ?_
        intro a230 hA230; clear hA229
        refine sx_val hA230 rfl (ev_assign (hA230.ev (i := 90) (v := .int .i64 ((k + 1 : Nat) : Int))) _ rfl) ?_
        intro a231 hA231; clear hA230
        refine sx_nil ?_
        refine then_n ?_
        rw [usd_f (s := (stp g m).1) (k := k) (by simp [rat, bat, hx2, hy2, hp195])] at hA231
        refine ⟨N - (k + 1), by omega, k + 1, rfl, ((((((((((((((((((((((((((((((((((((((((((((((((((((((((((((((Ag.nil hA231.1 hA231.2.1).cons (hA231.get (i := 19) (v := .int .i64 (sumr (stp g m).1.rs (k + 1))))).cons (hA231.get (i := 18) (v := .int .i64 ((usd (stp g m).1 (k + 1) : Nat) : Int)))).cons (hA231.get (i := 20) (v := .int .i64 ((k + 1 : Nat) : Int)))).cons (hA231.get (i := 85) (v := .bool false))).cons (hA231.get (i := 84) (v := .bool false))).cons (hA231.get (i := 83) (v := .int .i64 (N : Int)))).cons (hA231.get (i := 82) (v := .int .i64 ((stp g m).1.rs.length : Int)))).cons (hA231.get (i := 81) (v := .slice Ap5r9 (stp g m).1.rs.length cp5r9))).cons (hA231.get (i := 80) (v := .pointer (some ⟨N10r9, 0, none⟩)))).cons (hA231.get (i := 79) (v := .bool false))).cons (hA231.get (i := 78) (v := .bool false))).cons (hA231.get (i := 77) (v := .bool false))).cons (hA231.get (i := 76) (v := .int .i64 0))).cons (hA231.get (i := 75) (v := .bool false))).cons (hA231.get (i := 74) (v := .bool false))).cons (hA231.get (i := 73) (v := .int .i64 0))).cons (hA231.get (i := 17) (v := .int .i64 0))).cons (hA231.get (i := 16) (v := .int .i64 (sumr (stp g m).1.rs N)))).cons (hA231.get (i := 15) (v := .int .i64 ((cntS (opm (stp g m).1.bs) 0 N : Nat) : Int)))).cons (hA231.get (i := 14) (v := .int .i64 ((cfr (stp g m).1 N : Nat) : Int)))).cons (hA231.get (i := 72) (v := .int .i64 0))).cons (hA231.get (i := 71) (v := .int .i64 (sumr (stp g m).1.rs N)))).cons (hA231.get (i := 70) (v := .int .i64 ((cntS (opm (stp g m).1.bs) 0 N : Nat) : Int)))).cons (hA231.get (i := 69) (v := .int .i64 ((cfr (stp g m).1 N : Nat) : Int)))).cons (hA231.get (i := 66) (v := .tuple #[.int .i64 ((cfr (stp g m).1 N : Nat) : Int), .int .i64 ((cntS (opm (stp g m).1.bs) 0 N : Nat) : Int), .int .i64 (sumr (stp g m).1.rs N), .int .i64 0]))).cons (hA231.get (i := 68) (v := .tuple #[.int .i64 ((cfr (stp g m).1 N : Nat) : Int), .int .i64 ((cntS (opm (stp g m).1.bs) 0 N : Nat) : Int), .int .i64 (sumr (stp g m).1.rs N), .int .i64 0]))).cons (hA231.get (i := 67) (v := .agg #[.slice Ap5r9 (stp g m).1.rs.length cp5r9, .slice Aj5r9 (stp g m).1.bs.length cj5r9]))).cons (hA231.get (i := 12) (v := .int .i64 0))).cons (hA231.get (i := 65) (v := .int .i64 0))).cons (hA231.get (i := 64) (v := .int .i64 0))).cons (hA231.get (i := 61) (v := .tuple #[.int .i64 0, .int .i64 0]))).cons (hA231.get (i := 63) (v := .tuple #[.int .i64 0, .int .i64 0]))).cons (hA231.get (i := 62) (v := .agg #[.slice Ap5r9 (stp g m).1.rs.length cp5r9, .slice Aj5r9 (stp g m).1.bs.length cj5r9]))).cons (hA231.get (i := 60) (v := .bool false))).cons (hA231.get (i := 59) (v := .int .i64 (stp g m).2.2))).cons (hA231.get (i := 11) (v := .int .i64 (stp g m).2.2))).cons (hA231.get (i := 10) (v := .int .i64 (j : Int)))).cons (hA231.get (i := 9) (v := .pointer (some ⟨N10r9, 0, none⟩)))).cons (hA231.get (i := 58) (v := .int .i64 (stp g m).2.2))).cons (hA231.get (i := 57) (v := .int .i64 (j : Int)))).cons (hA231.get (i := 56) (v := .agg #[.slice Ap5r9 (stp g m).1.rs.length cp5r9, .slice Aj5r9 (stp g m).1.bs.length cj5r9]))).cons (hA231.get (i := 49) (v := .tuple #[.agg #[.slice Ap5r9 (stp g m).1.rs.length cp5r9, .slice Aj5r9 (stp g m).1.bs.length cj5r9], .int .i64 (j : Int), .int .i64 (stp g m).2.2]))).cons (hA231.get (i := 55) (v := .tuple #[.agg #[.slice Ap5r9 (stp g m).1.rs.length cp5r9, .slice Aj5r9 (stp g m).1.bs.length cj5r9], .int .i64 (j : Int), .int .i64 (stp g m).2.2]))).cons (hA231.get (i := 54) (v := .int .i64 x))).cons (hA231.get (i := 53) (v := .pointer (some (ad1.add (i * 1)))))).cons (hA231.get (i := 52) (v := .int .i64 (i : Int)))).cons (hA231.get (i := 51) (v := .slice A xs.length c))).cons (hA231.get (i := 50) (v := .agg #[.slice A1g g.rs.length c1g, .slice A2g g.bs.length c2g]))).cons (hA231.get (i := 46) (v := .bool true))).cons (hA231.get (i := 45) (v := .bool true))).cons (hA231.get (i := 44) (v := .int .i64 (i : Int)))).cons (hA231.get (i := 43) (v := .bool true))).cons (hA231.get (i := 42) (v := .bool true))).cons (hA231.get (i := 41) (v := .int .i64 (xs.length : Int)))).cons (hA231.get (i := 40) (v := .slice A xs.length c))).cons (hA231.get (i := 39) (v := .int .i64 (i : Int)))).cons (hA231.get (i := 8) (v := .int .i64 (i : Int)))).cons (hA231.get (i := 6) (v := .pointer (some ⟨B13, 0, none⟩)))).cons (hA231.get (i := 5) (v := .bool true))).cons (hA231.get (i := 1) (v := .slice A xs.length c))).cons (hA231.get (i := 0) (v := .int .i64 (N : Int)))), by omega, f108_0, f108_1, f108_2, f108_3, f108_4, f108_5, by omega, hbel108⟩
      have hp210 := of_decide_eq_true hd210
      refine sx_val (hg := (.inr ⟨2, true, 116, rfl, rfl, by kernel_rfl⟩)) (v := .bool true) hA209 rfl (ev_lssB (k := .i64) (m := (k : Int)) (n := (j : Int)) (hA209.ev (i := 117)) (hA209.ev (i := 118)) hd210 _ rfl) ?_
      intro a232 hA232; clear hA209
      refine sx_val hA232 rfl (ev_pickT (hA232.ev (i := 116) (v := .bool true)) (hA232.ev (i := 119) (v := .bool true)) _ rfl) ?_
      intro a233 hA233; clear hA232
      refine sx_val hA233 rfl (ev_move (hA233.ev (i := 120) (v := .bool true)) _ rfl) ?_
      intro a234 hA234; clear hA233
      refine sx_val (hg := (.inr ⟨7, true, 121, rfl, rfl, by kernel_rfl⟩)) (v := .pointer (some ⟨B13, 0, none⟩)) hA234 rfl (fb_Slots_0 (hA234.ev (i := 6) (v := .pointer (some ⟨B13, 0, none⟩))) _ rfl) ?_
      intro a235 hA235; clear hA234
      refine sx_val (hg := (.inr ⟨7, true, 121, rfl, rfl, by kernel_rfl⟩)) (v := .slice A1g g.rs.length c1g) hA235 rfl (ev_cell (v := .slice A1g g.rs.length c1g) (hA235.ev (i := 122) (v := .pointer (some ⟨B13, 0, none⟩))) ((f108_0.cell 0).trans rfl) Try.underlying22 rfl _ rfl) ?_
      intro a236 hA236; clear hA235
      refine sx_val (hg := (.inr ⟨7, true, 121, rfl, rfl, by kernel_rfl⟩)) hA236 rfl (ev_move (hA236.ev (i := 20) (v := .int .i64 (k : Int))) _ rfl) ?_
      intro a237 hA237; clear hA236
      obtain ⟨ad238, hAd238⟩ := GR.adr (OwnR.gr (e := 3) ⟨rfl, f108_2⟩) iva_sz hx3
      refine sx_val (hg := (.inr ⟨7, true, 121, rfl, rfl, by kernel_rfl⟩)) (v := .pointer (some (ad238.add (k * 1)))) hA237 rfl (ev_idx (k := k) (hA237.ev (i := 123) (v := .slice A1g g.rs.length c1g)) hAd238 (hA237.ev (i := 124) (v := .int .i64 (k : Int))) rfl (by omega) Try.underlying22 (by kernel_rfl) _ rfl) ?_
      intro a239 hA239; clear hA237
      refine sx_val (hg := (.inr ⟨7, true, 121, rfl, rfl, by kernel_rfl⟩)) (v := .int .i64 x3) hA239 rfl (ev_cell (hA239.ev (i := 125) (v := .pointer (some (ad238.add (k * 1))))) ((GR.cel (OwnR.gr (e := 3) ⟨rfl, f108_2⟩) hAd238 iva_sz hx3) 0 _ rfl) Try.underlying3 rfl _ rfl) ?_
      intro a240 hA240; clear hA239
      cases hd241 : decide (x3 = 0)
      · have hp241 := of_decide_eq_false hd241
        refine sx_val (hg := (.inr ⟨7, true, 121, rfl, rfl, by kernel_rfl⟩)) (v := .bool false) hA240 rfl (ev_eqlB (k := .i64) (m := x3) (n := 0) (hA240.ev (i := 126)) (ec _ (.int .i64 0)) hd241 _ rfl) ?_
        intro a242 hA242; clear hA240
        refine sx_val hA242 rfl (ev_pickT (hA242.ev (i := 121) (v := .bool true)) (hA242.ev (i := 127) (v := .bool false)) _ rfl) ?_
        intro a243 hA243; clear hA242
        refine sx_val hA243 rfl (ev_move (hA243.ev (i := 128) (v := .bool false)) _ rfl) ?_
        intro a244 hA244; clear hA243
        refine sx_no (j := 15) (s := 129) (want := true) (b := false) hA244 rfl ?_
        intro a245 hA245; clear hA244
        refine sx_no (j := 15) (s := 129) (want := true) (b := false) hA245 rfl ?_
        intro a246 hA246; clear hA245
        refine sx_no (j := 15) (s := 129) (want := true) (b := false) hA246 rfl ?_
        intro a247 hA247; clear hA246
        refine sx_no (j := 15) (s := 129) (want := true) (b := false) hA247 rfl ?_
        intro a248 hA248; clear hA247
        refine sx_no (j := 15) (s := 129) (want := true) (b := false) hA248 rfl ?_
        intro a249 hA249; clear hA248
        refine sx_no (j := 15) (s := 129) (want := true) (b := false) hA249 rfl ?_
        intro a250 hA250; clear hA249
        refine sx_val hA250 rfl (ev_pickF (hA250.ev (i := 129) (v := .bool false)) (ec _ (.bool false)) _ rfl) ?_
        intro a251 hA251; clear hA250
        refine sx_nil ?_
        refine then_n ?_
        refine wp_cond_false (hA251.ev (i := 136) (v := .bool false)) ?_
        refine wp_skip ?_
        refine blk_n ?_
        refine then_n ?_
        refine wp_region_lit ?_
        refine sx_val hA251 rfl (ev_move (hA251.ev (i := 20) (v := .int .i64 (k : Int))) _ rfl) ?_
        intro a252 hA252; clear hA251
        refine sx_val (v := .int .i64 ((k + 1 : Nat) : Int)) hA252 rfl (ev_addR (k := .i64) (m := (k : Int)) (n := 1) (r := ((k + 1 : Nat) : Int)) (hA252.ev (i := 89)) (ec _ (.int .i64 1)) (wr (by omega) (by omega) (by omega)) _ rfl) ?_
        intro a253 hA253; clear hA252
        refine sx_val hA253 rfl (ev_assign (hA253.ev (i := 90) (v := .int .i64 ((k + 1 : Nat) : Int))) _ rfl) ?_
        intro a254 hA254; clear hA253
        refine sx_nil ?_
        refine then_n ?_
        rw [usd_f (s := (stp g m).1) (k := k) (by simp [rat, bat, hx2, hy2, hp195])] at hA254
        refine ⟨N - (k + 1), by omega, k + 1, rfl, ((((((((((((((((((((((((((((((((((((((((((((((((((((((((((((((Ag.nil hA254.1 hA254.2.1).cons (hA254.get (i := 19) (v := .int .i64 (sumr (stp g m).1.rs (k + 1))))).cons (hA254.get (i := 18) (v := .int .i64 ((usd (stp g m).1 (k + 1) : Nat) : Int)))).cons (hA254.get (i := 20) (v := .int .i64 ((k + 1 : Nat) : Int)))).cons (hA254.get (i := 85) (v := .bool false))).cons (hA254.get (i := 84) (v := .bool false))).cons (hA254.get (i := 83) (v := .int .i64 (N : Int)))).cons (hA254.get (i := 82) (v := .int .i64 ((stp g m).1.rs.length : Int)))).cons (hA254.get (i := 81) (v := .slice Ap5r9 (stp g m).1.rs.length cp5r9))).cons (hA254.get (i := 80) (v := .pointer (some ⟨N10r9, 0, none⟩)))).cons (hA254.get (i := 79) (v := .bool false))).cons (hA254.get (i := 78) (v := .bool false))).cons (hA254.get (i := 77) (v := .bool false))).cons (hA254.get (i := 76) (v := .int .i64 0))).cons (hA254.get (i := 75) (v := .bool false))).cons (hA254.get (i := 74) (v := .bool false))).cons (hA254.get (i := 73) (v := .int .i64 0))).cons (hA254.get (i := 17) (v := .int .i64 0))).cons (hA254.get (i := 16) (v := .int .i64 (sumr (stp g m).1.rs N)))).cons (hA254.get (i := 15) (v := .int .i64 ((cntS (opm (stp g m).1.bs) 0 N : Nat) : Int)))).cons (hA254.get (i := 14) (v := .int .i64 ((cfr (stp g m).1 N : Nat) : Int)))).cons (hA254.get (i := 72) (v := .int .i64 0))).cons (hA254.get (i := 71) (v := .int .i64 (sumr (stp g m).1.rs N)))).cons (hA254.get (i := 70) (v := .int .i64 ((cntS (opm (stp g m).1.bs) 0 N : Nat) : Int)))).cons (hA254.get (i := 69) (v := .int .i64 ((cfr (stp g m).1 N : Nat) : Int)))).cons (hA254.get (i := 66) (v := .tuple #[.int .i64 ((cfr (stp g m).1 N : Nat) : Int), .int .i64 ((cntS (opm (stp g m).1.bs) 0 N : Nat) : Int), .int .i64 (sumr (stp g m).1.rs N), .int .i64 0]))).cons (hA254.get (i := 68) (v := .tuple #[.int .i64 ((cfr (stp g m).1 N : Nat) : Int), .int .i64 ((cntS (opm (stp g m).1.bs) 0 N : Nat) : Int), .int .i64 (sumr (stp g m).1.rs N), .int .i64 0]))).cons (hA254.get (i := 67) (v := .agg #[.slice Ap5r9 (stp g m).1.rs.length cp5r9, .slice Aj5r9 (stp g m).1.bs.length cj5r9]))).cons (hA254.get (i := 12) (v := .int .i64 0))).cons (hA254.get (i := 65) (v := .int .i64 0))).cons (hA254.get (i := 64) (v := .int .i64 0))).cons (hA254.get (i := 61) (v := .tuple #[.int .i64 0, .int .i64 0]))).cons (hA254.get (i := 63) (v := .tuple #[.int .i64 0, .int .i64 0]))).cons (hA254.get (i := 62) (v := .agg #[.slice Ap5r9 (stp g m).1.rs.length cp5r9, .slice Aj5r9 (stp g m).1.bs.length cj5r9]))).cons (hA254.get (i := 60) (v := .bool false))).cons (hA254.get (i := 59) (v := .int .i64 (stp g m).2.2))).cons (hA254.get (i := 11) (v := .int .i64 (stp g m).2.2))).cons (hA254.get (i := 10) (v := .int .i64 (j : Int)))).cons (hA254.get (i := 9) (v := .pointer (some ⟨N10r9, 0, none⟩)))).cons (hA254.get (i := 58) (v := .int .i64 (stp g m).2.2))).cons (hA254.get (i := 57) (v := .int .i64 (j : Int)))).cons (hA254.get (i := 56) (v := .agg #[.slice Ap5r9 (stp g m).1.rs.length cp5r9, .slice Aj5r9 (stp g m).1.bs.length cj5r9]))).cons (hA254.get (i := 49) (v := .tuple #[.agg #[.slice Ap5r9 (stp g m).1.rs.length cp5r9, .slice Aj5r9 (stp g m).1.bs.length cj5r9], .int .i64 (j : Int), .int .i64 (stp g m).2.2]))).cons (hA254.get (i := 55) (v := .tuple #[.agg #[.slice Ap5r9 (stp g m).1.rs.length cp5r9, .slice Aj5r9 (stp g m).1.bs.length cj5r9], .int .i64 (j : Int), .int .i64 (stp g m).2.2]))).cons (hA254.get (i := 54) (v := .int .i64 x))).cons (hA254.get (i := 53) (v := .pointer (some (ad1.add (i * 1)))))).cons (hA254.get (i := 52) (v := .int .i64 (i : Int)))).cons (hA254.get (i := 51) (v := .slice A xs.length c))).cons (hA254.get (i := 50) (v := .agg #[.slice A1g g.rs.length c1g, .slice A2g g.bs.length c2g]))).cons (hA254.get (i := 46) (v := .bool true))).cons (hA254.get (i := 45) (v := .bool true))).cons (hA254.get (i := 44) (v := .int .i64 (i : Int)))).cons (hA254.get (i := 43) (v := .bool true))).cons (hA254.get (i := 42) (v := .bool true))).cons (hA254.get (i := 41) (v := .int .i64 (xs.length : Int)))).cons (hA254.get (i := 40) (v := .slice A xs.length c))).cons (hA254.get (i := 39) (v := .int .i64 (i : Int)))).cons (hA254.get (i := 8) (v := .int .i64 (i : Int)))).cons (hA254.get (i := 6) (v := .pointer (some ⟨B13, 0, none⟩)))).cons (hA254.get (i := 5) (v := .bool true))).cons (hA254.get (i := 1) (v := .slice A xs.length c))).cons (hA254.get (i := 0) (v := .int .i64 (N : Int)))), by omega, f108_0, f108_1, f108_2, f108_3, f108_4, f108_5, by omega, hbel108⟩
      have hp241 := of_decide_eq_true hd241
      refine sx_val (hg := (.inr ⟨7, true, 121, rfl, rfl, by kernel_rfl⟩)) (v := .bool true) hA240 rfl (ev_eqlB (k := .i64) (m := x3) (n := 0) (hA240.ev (i := 126)) (ec _ (.int .i64 0)) hd241 _ rfl) ?_
      intro a255 hA255; clear hA240
      refine sx_val hA255 rfl (ev_pickT (hA255.ev (i := 121) (v := .bool true)) (hA255.ev (i := 127) (v := .bool true)) _ rfl) ?_
      intro a256 hA256; clear hA255
      refine sx_val hA256 rfl (ev_move (hA256.ev (i := 128) (v := .bool true)) _ rfl) ?_
      intro a257 hA257; clear hA256
      refine sx_val (hg := (.inr ⟨15, true, 129, rfl, rfl, by kernel_rfl⟩)) (v := .pointer (some ⟨B13, 1, none⟩)) hA257 rfl (fb_Slots_1 (hA257.ev (i := 6) (v := .pointer (some ⟨B13, 0, none⟩))) _ rfl) ?_
      intro a258 hA258; clear hA257
      refine sx_val (hg := (.inr ⟨15, true, 129, rfl, rfl, by kernel_rfl⟩)) (v := .slice A2g g.bs.length c2g) hA258 rfl (ev_cell (v := .slice A2g g.bs.length c2g) (hA258.ev (i := 130) (v := .pointer (some ⟨B13, 1, none⟩))) ((f108_0.cell 1).trans rfl) Try.underlying23 rfl _ rfl) ?_
      intro a259 hA259; clear hA258
      refine sx_val (hg := (.inr ⟨15, true, 129, rfl, rfl, by kernel_rfl⟩)) hA259 rfl (ev_move (hA259.ev (i := 20) (v := .int .i64 (k : Int))) _ rfl) ?_
      intro a260 hA260; clear hA259
      obtain ⟨ad261, hAd261⟩ := GR.adr (OwnR.gr (e := 4) ⟨rfl, f108_3⟩) bva_sz hy3
      refine sx_val (hg := (.inr ⟨15, true, 129, rfl, rfl, by kernel_rfl⟩)) (v := .pointer (some (ad261.add (k * 1)))) hA260 rfl (ev_idx (k := k) (hA260.ev (i := 131) (v := .slice A2g g.bs.length c2g)) hAd261 (hA260.ev (i := 132) (v := .int .i64 (k : Int))) rfl (by omega) Try.underlying23 (by kernel_rfl) _ rfl) ?_
      intro a262 hA262; clear hA260
      refine sx_val (hg := (.inr ⟨15, true, 129, rfl, rfl, by kernel_rfl⟩)) (v := .bool y3) hA262 rfl (ev_cell (hA262.ev (i := 133) (v := .pointer (some (ad261.add (k * 1))))) ((GR.cel (OwnR.gr (e := 4) ⟨rfl, f108_3⟩) hAd261 bva_sz hy3) 0 _ rfl) Try.underlying4 rfl _ rfl) ?_
      intro a263 hA263; clear hA262
      cases hd264 : y3
      · rw [hd264] at hA263
        refine sx_val (hg := (.inr ⟨15, true, 129, rfl, rfl, by kernel_rfl⟩)) (v := .bool true) hA263 rfl (ev_notF (hA263.ev (i := 134) (v := .bool false)) _ rfl) ?_
        intro a265 hA265; clear hA263
        refine sx_val hA265 rfl (ev_pickT (hA265.ev (i := 129) (v := .bool true)) (hA265.ev (i := 135) (v := .bool true)) _ rfl) ?_
        intro a266 hA266; clear hA265
        refine sx_nil ?_
        refine then_n ?_
        refine wp_cond_true (hA266.ev (i := 136) (v := .bool true)) ?_
        refine wp_seq ?_
        refine wp_region_lit ?_
        refine sx_val hA266 rfl (ev_assign (ec _ (.bool false)) _ rfl) ?_
        intro a267 hA267; clear hA266
        refine sx_nil ?_
        refine then_n ?_
        refine wp_ret ?_
        refine blk_r ?_
        refine then_r ?_
        refine then_r ?_
        refine blk_r ?_
        refine then_r ?_
        refine blk_r ?_
        refine then_r ?_
        refine then_r ?_
        refine blk_r ?_
        refine then_r ?_
        refine bodyPost_ret (rs_t (v := .bool false) Try.results6 hA267 (by kernel_rfl) ) hA267.2.1 ?_
        exact absurd (hjm k (by omega)) (by rw [fre_eq]; simp [rat, bat, hx3, hy3, hp241, hd264])
      rw [hd264] at hA263
      refine sx_val (hg := (.inr ⟨15, true, 129, rfl, rfl, by kernel_rfl⟩)) (v := .bool false) hA263 rfl (ev_notT (hA263.ev (i := 134) (v := .bool true)) _ rfl) ?_
      intro a268 hA268; clear hA263
      refine sx_val hA268 rfl (ev_pickT (hA268.ev (i := 129) (v := .bool true)) (hA268.ev (i := 135) (v := .bool false)) _ rfl) ?_
      intro a269 hA269; clear hA268
      refine sx_nil ?_
      refine then_n ?_
      refine wp_cond_false (hA269.ev (i := 136) (v := .bool false)) ?_
      refine wp_skip ?_
      refine blk_n ?_
      refine then_n ?_
      refine wp_region_lit ?_
      refine sx_val hA269 rfl (ev_move (hA269.ev (i := 20) (v := .int .i64 (k : Int))) _ rfl) ?_
      intro a270 hA270; clear hA269
      refine sx_val (v := .int .i64 ((k + 1 : Nat) : Int)) hA270 rfl (ev_addR (k := .i64) (m := (k : Int)) (n := 1) (r := ((k + 1 : Nat) : Int)) (hA270.ev (i := 89)) (ec _ (.int .i64 1)) (wr (by omega) (by omega) (by omega)) _ rfl) ?_
      intro a271 hA271; clear hA270
      refine sx_val hA271 rfl (ev_assign (hA271.ev (i := 90) (v := .int .i64 ((k + 1 : Nat) : Int))) _ rfl) ?_
      intro a272 hA272; clear hA271
      refine sx_nil ?_
      refine then_n ?_
      rw [usd_f (s := (stp g m).1) (k := k) (by simp [rat, bat, hx2, hy2, hp195])] at hA272
      refine ⟨N - (k + 1), by omega, k + 1, rfl, ((((((((((((((((((((((((((((((((((((((((((((((((((((((((((((((Ag.nil hA272.1 hA272.2.1).cons (hA272.get (i := 19) (v := .int .i64 (sumr (stp g m).1.rs (k + 1))))).cons (hA272.get (i := 18) (v := .int .i64 ((usd (stp g m).1 (k + 1) : Nat) : Int)))).cons (hA272.get (i := 20) (v := .int .i64 ((k + 1 : Nat) : Int)))).cons (hA272.get (i := 85) (v := .bool false))).cons (hA272.get (i := 84) (v := .bool false))).cons (hA272.get (i := 83) (v := .int .i64 (N : Int)))).cons (hA272.get (i := 82) (v := .int .i64 ((stp g m).1.rs.length : Int)))).cons (hA272.get (i := 81) (v := .slice Ap5r9 (stp g m).1.rs.length cp5r9))).cons (hA272.get (i := 80) (v := .pointer (some ⟨N10r9, 0, none⟩)))).cons (hA272.get (i := 79) (v := .bool false))).cons (hA272.get (i := 78) (v := .bool false))).cons (hA272.get (i := 77) (v := .bool false))).cons (hA272.get (i := 76) (v := .int .i64 0))).cons (hA272.get (i := 75) (v := .bool false))).cons (hA272.get (i := 74) (v := .bool false))).cons (hA272.get (i := 73) (v := .int .i64 0))).cons (hA272.get (i := 17) (v := .int .i64 0))).cons (hA272.get (i := 16) (v := .int .i64 (sumr (stp g m).1.rs N)))).cons (hA272.get (i := 15) (v := .int .i64 ((cntS (opm (stp g m).1.bs) 0 N : Nat) : Int)))).cons (hA272.get (i := 14) (v := .int .i64 ((cfr (stp g m).1 N : Nat) : Int)))).cons (hA272.get (i := 72) (v := .int .i64 0))).cons (hA272.get (i := 71) (v := .int .i64 (sumr (stp g m).1.rs N)))).cons (hA272.get (i := 70) (v := .int .i64 ((cntS (opm (stp g m).1.bs) 0 N : Nat) : Int)))).cons (hA272.get (i := 69) (v := .int .i64 ((cfr (stp g m).1 N : Nat) : Int)))).cons (hA272.get (i := 66) (v := .tuple #[.int .i64 ((cfr (stp g m).1 N : Nat) : Int), .int .i64 ((cntS (opm (stp g m).1.bs) 0 N : Nat) : Int), .int .i64 (sumr (stp g m).1.rs N), .int .i64 0]))).cons (hA272.get (i := 68) (v := .tuple #[.int .i64 ((cfr (stp g m).1 N : Nat) : Int), .int .i64 ((cntS (opm (stp g m).1.bs) 0 N : Nat) : Int), .int .i64 (sumr (stp g m).1.rs N), .int .i64 0]))).cons (hA272.get (i := 67) (v := .agg #[.slice Ap5r9 (stp g m).1.rs.length cp5r9, .slice Aj5r9 (stp g m).1.bs.length cj5r9]))).cons (hA272.get (i := 12) (v := .int .i64 0))).cons (hA272.get (i := 65) (v := .int .i64 0))).cons (hA272.get (i := 64) (v := .int .i64 0))).cons (hA272.get (i := 61) (v := .tuple #[.int .i64 0, .int .i64 0]))).cons (hA272.get (i := 63) (v := .tuple #[.int .i64 0, .int .i64 0]))).cons (hA272.get (i := 62) (v := .agg #[.slice Ap5r9 (stp g m).1.rs.length cp5r9, .slice Aj5r9 (stp g m).1.bs.length cj5r9]))).cons (hA272.get (i := 60) (v := .bool false))).cons (hA272.get (i := 59) (v := .int .i64 (stp g m).2.2))).cons (hA272.get (i := 11) (v := .int .i64 (stp g m).2.2))).cons (hA272.get (i := 10) (v := .int .i64 (j : Int)))).cons (hA272.get (i := 9) (v := .pointer (some ⟨N10r9, 0, none⟩)))).cons (hA272.get (i := 58) (v := .int .i64 (stp g m).2.2))).cons (hA272.get (i := 57) (v := .int .i64 (j : Int)))).cons (hA272.get (i := 56) (v := .agg #[.slice Ap5r9 (stp g m).1.rs.length cp5r9, .slice Aj5r9 (stp g m).1.bs.length cj5r9]))).cons (hA272.get (i := 49) (v := .tuple #[.agg #[.slice Ap5r9 (stp g m).1.rs.length cp5r9, .slice Aj5r9 (stp g m).1.bs.length cj5r9], .int .i64 (j : Int), .int .i64 (stp g m).2.2]))).cons (hA272.get (i := 55) (v := .tuple #[.agg #[.slice Ap5r9 (stp g m).1.rs.length cp5r9, .slice Aj5r9 (stp g m).1.bs.length cj5r9], .int .i64 (j : Int), .int .i64 (stp g m).2.2]))).cons (hA272.get (i := 54) (v := .int .i64 x))).cons (hA272.get (i := 53) (v := .pointer (some (ad1.add (i * 1)))))).cons (hA272.get (i := 52) (v := .int .i64 (i : Int)))).cons (hA272.get (i := 51) (v := .slice A xs.length c))).cons (hA272.get (i := 50) (v := .agg #[.slice A1g g.rs.length c1g, .slice A2g g.bs.length c2g]))).cons (hA272.get (i := 46) (v := .bool true))).cons (hA272.get (i := 45) (v := .bool true))).cons (hA272.get (i := 44) (v := .int .i64 (i : Int)))).cons (hA272.get (i := 43) (v := .bool true))).cons (hA272.get (i := 42) (v := .bool true))).cons (hA272.get (i := 41) (v := .int .i64 (xs.length : Int)))).cons (hA272.get (i := 40) (v := .slice A xs.length c))).cons (hA272.get (i := 39) (v := .int .i64 (i : Int)))).cons (hA272.get (i := 8) (v := .int .i64 (i : Int)))).cons (hA272.get (i := 6) (v := .pointer (some ⟨B13, 0, none⟩)))).cons (hA272.get (i := 5) (v := .bool true))).cons (hA272.get (i := 1) (v := .slice A xs.length c))).cons (hA272.get (i := 0) (v := .int .i64 (N : Int)))), by omega, f108_0, f108_1, f108_2, f108_3, f108_4, f108_5, by omega, hbel108⟩
    have hp195 := of_decide_eq_true hd195
    refine sx_val (v := .bool true) hA194 rfl (ev_gtrB (k := .i64) (m := x2) (n := 0) (hA194.ev (i := 102)) (ec _ (.int .i64 0)) hd195 _ rfl) ?_
    intro a273 hA273; clear hA194
    refine sx_val hA273 rfl (ev_move (hA273.ev (i := 103) (v := .bool true)) _ rfl) ?_
    intro a274 hA274; clear hA273
    refine sx_val (hg := (.inr ⟨6, true, 104, rfl, rfl, by kernel_rfl⟩)) (v := .pointer (some ⟨N10r9, 1, none⟩)) hA274 rfl (fb_Slots_1 (hA274.ev (i := 9) (v := .pointer (some ⟨N10r9, 0, none⟩))) _ rfl) ?_
    intro a275 hA275; clear hA274
    refine sx_val (hg := (.inr ⟨6, true, 104, rfl, rfl, by kernel_rfl⟩)) (v := .slice Aj5r9 (stp g m).1.bs.length cj5r9) hA275 rfl (ev_cell (v := .slice Aj5r9 (stp g m).1.bs.length cj5r9) (hA275.ev (i := 105) (v := .pointer (some ⟨N10r9, 1, none⟩))) ((f108_1.cell 1).trans rfl) Try.underlying23 rfl _ rfl) ?_
    intro a276 hA276; clear hA275
    refine sx_val (hg := (.inr ⟨6, true, 104, rfl, rfl, by kernel_rfl⟩)) hA276 rfl (ev_move (hA276.ev (i := 20) (v := .int .i64 (k : Int))) _ rfl) ?_
    intro a277 hA277; clear hA276
    obtain ⟨ad278, hAd278⟩ := GR.adr (OwnR.gr (e := 4) ⟨rfl, f108_5⟩) bva_sz hy2
    refine sx_val (hg := (.inr ⟨6, true, 104, rfl, rfl, by kernel_rfl⟩)) (v := .pointer (some (ad278.add (k * 1)))) hA277 rfl (ev_idx (k := k) (hA277.ev (i := 106) (v := .slice Aj5r9 (stp g m).1.bs.length cj5r9)) hAd278 (hA277.ev (i := 107) (v := .int .i64 (k : Int))) rfl (by omega) Try.underlying23 (by kernel_rfl) _ rfl) ?_
    intro a279 hA279; clear hA277
    refine sx_val (hg := (.inr ⟨6, true, 104, rfl, rfl, by kernel_rfl⟩)) (v := .bool y2) hA279 rfl (ev_cell (hA279.ev (i := 108) (v := .pointer (some (ad278.add (k * 1))))) ((GR.cel (OwnR.gr (e := 4) ⟨rfl, f108_5⟩) hAd278 bva_sz hy2) 0 _ rfl) Try.underlying4 rfl _ rfl) ?_
    intro a280 hA280; clear hA279
    cases hd281 : y2
    rotate_left
    · rw [hd281] at hA280
      refine sx_val (hg := (.inr ⟨6, true, 104, rfl, rfl, by kernel_rfl⟩)) (v := .bool false) hA280 rfl (ev_notT (hA280.ev (i := 109) (v := .bool true)) _ rfl) ?_
      intro a355 hA355; clear hA280
      refine sx_val hA355 rfl (ev_pickT (hA355.ev (i := 104) (v := .bool true)) (hA355.ev (i := 110) (v := .bool false)) _ rfl) ?_
      intro a356 hA356; clear hA355
      refine sx_nil ?_
      refine then_n ?_
      refine wp_cond_false (hA356.ev (i := 111) (v := .bool false)) ?_
      refine wp_skip ?_
      refine then_n ?_
      refine wp_seq ?_
      refine wp_region_lit ?_
      refine sx_val hA356 rfl (ev_move (hA356.ev (i := 10) (v := .int .i64 (j : Int))) _ rfl) ?_
      intro a357 hA357; clear hA356
      refine sx_val (v := .bool true) hA357 rfl (ev_geqB (k := .i64) (m := (j : Int)) (n := 0) (hA357.ev (i := 114)) (ec _ (.int .i64 0)) hd5 _ rfl) ?_
      intro a358 hA358; clear hA357
      refine sx_val hA358 rfl (ev_move (hA358.ev (i := 115) (v := .bool true)) _ rfl) ?_
      intro a359 hA359; clear hA358
      refine sx_val (hg := (.inr ⟨2, true, 116, rfl, rfl, by kernel_rfl⟩)) hA359 rfl (ev_move (hA359.ev (i := 20) (v := .int .i64 (k : Int))) _ rfl) ?_
      intro a360 hA360; clear hA359
      refine sx_val (hg := (.inr ⟨2, true, 116, rfl, rfl, by kernel_rfl⟩)) hA360 rfl (ev_move (hA360.ev (i := 10) (v := .int .i64 (j : Int))) _ rfl) ?_
      intro a361 hA361; clear hA360
      cases hd362 : decide ((k : Int) < (j : Int))
      · have hp362 := of_decide_eq_false hd362
        refine sx_val (hg := (.inr ⟨2, true, 116, rfl, rfl, by kernel_rfl⟩)) (v := .bool false) hA361 rfl (ev_lssB (k := .i64) (m := (k : Int)) (n := (j : Int)) (hA361.ev (i := 117)) (hA361.ev (i := 118)) hd362 _ rfl) ?_
        intro a363 hA363; clear hA361
        refine sx_val hA363 rfl (ev_pickT (hA363.ev (i := 116) (v := .bool true)) (hA363.ev (i := 119) (v := .bool false)) _ rfl) ?_
        intro a364 hA364; clear hA363
        refine sx_val hA364 rfl (ev_move (hA364.ev (i := 120) (v := .bool false)) _ rfl) ?_
        intro a365 hA365; clear hA364
        refine sx_no (j := 7) (s := 121) (want := true) (b := false) hA365 rfl ?_
        intro a366 hA366; clear hA365
        refine sx_no (j := 7) (s := 121) (want := true) (b := false) hA366 rfl ?_
        intro a367 hA367; clear hA366
        refine sx_no (j := 7) (s := 121) (want := true) (b := false) hA367 rfl ?_
        intro a368 hA368; clear hA367
        refine sx_no (j := 7) (s := 121) (want := true) (b := false) hA368 rfl ?_
        intro a369 hA369; clear hA368
        refine sx_no (j := 7) (s := 121) (want := true) (b := false) hA369 rfl ?_
        intro a370 hA370; clear hA369
        refine sx_no (j := 7) (s := 121) (want := true) (b := false) hA370 rfl ?_
        intro a371 hA371; clear hA370
        refine sx_val hA371 rfl (ev_pickF (hA371.ev (i := 121) (v := .bool false)) (ec _ (.bool false)) _ rfl) ?_
        intro a372 hA372; clear hA371
        refine sx_val hA372 rfl (ev_move (hA372.ev (i := 128) (v := .bool false)) _ rfl) ?_
        intro a373 hA373; clear hA372
        refine sx_no (j := 15) (s := 129) (want := true) (b := false) hA373 rfl ?_
        intro a374 hA374; clear hA373
        refine sx_no (j := 15) (s := 129) (want := true) (b := false) hA374 rfl ?_
        intro a375 hA375; clear hA374
        refine sx_no (j := 15) (s := 129) (want := true) (b := false) hA375 rfl ?_
        intro a376 hA376; clear hA375
        refine sx_no (j := 15) (s := 129) (want := true) (b := false) hA376 rfl ?_
        intro a377 hA377; clear hA376
        refine sx_no (j := 15) (s := 129) (want := true) (b := false) hA377 rfl ?_
        intro a378 hA378; clear hA377
        refine sx_no (j := 15) (s := 129) (want := true) (b := false) hA378 rfl ?_
        intro a379 hA379; clear hA378
        refine sx_val hA379 rfl (ev_pickF (hA379.ev (i := 129) (v := .bool false)) (ec _ (.bool false)) _ rfl) ?_
        intro a380 hA380; clear hA379
        refine sx_nil ?_
        refine then_n ?_
        refine wp_cond_false (hA380.ev (i := 136) (v := .bool false)) ?_
        refine wp_skip ?_
        refine blk_n ?_
        refine then_n ?_
        refine wp_region_lit ?_
        refine sx_val hA380 rfl (ev_move (hA380.ev (i := 20) (v := .int .i64 (k : Int))) _ rfl) ?_
        intro a381 hA381; clear hA380
        refine sx_val (v := .int .i64 ((k + 1 : Nat) : Int)) hA381 rfl (ev_addR (k := .i64) (m := (k : Int)) (n := 1) (r := ((k + 1 : Nat) : Int)) (hA381.ev (i := 89)) (ec _ (.int .i64 1)) (wr (by omega) (by omega) (by omega)) _ rfl) ?_
        intro a382 hA382; clear hA381
        refine sx_val hA382 rfl (ev_assign (hA382.ev (i := 90) (v := .int .i64 ((k + 1 : Nat) : Int))) _ rfl) ?_
        intro a383 hA383; clear hA382
        refine sx_nil ?_
        refine then_n ?_
        rw [usd_f (s := (stp g m).1) (k := k) (by simp [rat, bat, hx2, hy2, hd281])] at hA383
        refine ⟨N - (k + 1), by omega, k + 1, rfl, ((((((((((((((((((((((((((((((((((((((((((((((((((((((((((((((Ag.nil hA383.1 hA383.2.1).cons (hA383.get (i := 19) (v := .int .i64 (sumr (stp g m).1.rs (k + 1))))).cons (hA383.get (i := 18) (v := .int .i64 ((usd (stp g m).1 (k + 1) : Nat) : Int)))).cons (hA383.get (i := 20) (v := .int .i64 ((k + 1 : Nat) : Int)))).cons (hA383.get (i := 85) (v := .bool false))).cons (hA383.get (i := 84) (v := .bool false))).cons (hA383.get (i := 83) (v := .int .i64 (N : Int)))).cons (hA383.get (i := 82) (v := .int .i64 ((stp g m).1.rs.length : Int)))).cons (hA383.get (i := 81) (v := .slice Ap5r9 (stp g m).1.rs.length cp5r9))).cons (hA383.get (i := 80) (v := .pointer (some ⟨N10r9, 0, none⟩)))).cons (hA383.get (i := 79) (v := .bool false))).cons (hA383.get (i := 78) (v := .bool false))).cons (hA383.get (i := 77) (v := .bool false))).cons (hA383.get (i := 76) (v := .int .i64 0))).cons (hA383.get (i := 75) (v := .bool false))).cons (hA383.get (i := 74) (v := .bool false))).cons (hA383.get (i := 73) (v := .int .i64 0))).cons (hA383.get (i := 17) (v := .int .i64 0))).cons (hA383.get (i := 16) (v := .int .i64 (sumr (stp g m).1.rs N)))).cons (hA383.get (i := 15) (v := .int .i64 ((cntS (opm (stp g m).1.bs) 0 N : Nat) : Int)))).cons (hA383.get (i := 14) (v := .int .i64 ((cfr (stp g m).1 N : Nat) : Int)))).cons (hA383.get (i := 72) (v := .int .i64 0))).cons (hA383.get (i := 71) (v := .int .i64 (sumr (stp g m).1.rs N)))).cons (hA383.get (i := 70) (v := .int .i64 ((cntS (opm (stp g m).1.bs) 0 N : Nat) : Int)))).cons (hA383.get (i := 69) (v := .int .i64 ((cfr (stp g m).1 N : Nat) : Int)))).cons (hA383.get (i := 66) (v := .tuple #[.int .i64 ((cfr (stp g m).1 N : Nat) : Int), .int .i64 ((cntS (opm (stp g m).1.bs) 0 N : Nat) : Int), .int .i64 (sumr (stp g m).1.rs N), .int .i64 0]))).cons (hA383.get (i := 68) (v := .tuple #[.int .i64 ((cfr (stp g m).1 N : Nat) : Int), .int .i64 ((cntS (opm (stp g m).1.bs) 0 N : Nat) : Int), .int .i64 (sumr (stp g m).1.rs N), .int .i64 0]))).cons (hA383.get (i := 67) (v := .agg #[.slice Ap5r9 (stp g m).1.rs.length cp5r9, .slice Aj5r9 (stp g m).1.bs.length cj5r9]))).cons (hA383.get (i := 12) (v := .int .i64 0))).cons (hA383.get (i := 65) (v := .int .i64 0))).cons (hA383.get (i := 64) (v := .int .i64 0))).cons (hA383.get (i := 61) (v := .tuple #[.int .i64 0, .int .i64 0]))).cons (hA383.get (i := 63) (v := .tuple #[.int .i64 0, .int .i64 0]))).cons (hA383.get (i := 62) (v := .agg #[.slice Ap5r9 (stp g m).1.rs.length cp5r9, .slice Aj5r9 (stp g m).1.bs.length cj5r9]))).cons (hA383.get (i := 60) (v := .bool false))).cons (hA383.get (i := 59) (v := .int .i64 (stp g m).2.2))).cons (hA383.get (i := 11) (v := .int .i64 (stp g m).2.2))).cons (hA383.get (i := 10) (v := .int .i64 (j : Int)))).cons (hA383.get (i := 9) (v := .pointer (some ⟨N10r9, 0, none⟩)))).cons (hA383.get (i := 58) (v := .int .i64 (stp g m).2.2))).cons (hA383.get (i := 57) (v := .int .i64 (j : Int)))).cons (hA383.get (i := 56) (v := .agg #[.slice Ap5r9 (stp g m).1.rs.length cp5r9, .slice Aj5r9 (stp g m).1.bs.length cj5r9]))).cons (hA383.get (i := 49) (v := .tuple #[.agg #[.slice Ap5r9 (stp g m).1.rs.length cp5r9, .slice Aj5r9 (stp g m).1.bs.length cj5r9], .int .i64 (j : Int), .int .i64 (stp g m).2.2]))).cons (hA383.get (i := 55) (v := .tuple #[.agg #[.slice Ap5r9 (stp g m).1.rs.length cp5r9, .slice Aj5r9 (stp g m).1.bs.length cj5r9], .int .i64 (j : Int), .int .i64 (stp g m).2.2]))).cons (hA383.get (i := 54) (v := .int .i64 x))).cons (hA383.get (i := 53) (v := .pointer (some (ad1.add (i * 1)))))).cons (hA383.get (i := 52) (v := .int .i64 (i : Int)))).cons (hA383.get (i := 51) (v := .slice A xs.length c))).cons (hA383.get (i := 50) (v := .agg #[.slice A1g g.rs.length c1g, .slice A2g g.bs.length c2g]))).cons (hA383.get (i := 46) (v := .bool true))).cons (hA383.get (i := 45) (v := .bool true))).cons (hA383.get (i := 44) (v := .int .i64 (i : Int)))).cons (hA383.get (i := 43) (v := .bool true))).cons (hA383.get (i := 42) (v := .bool true))).cons (hA383.get (i := 41) (v := .int .i64 (xs.length : Int)))).cons (hA383.get (i := 40) (v := .slice A xs.length c))).cons (hA383.get (i := 39) (v := .int .i64 (i : Int)))).cons (hA383.get (i := 8) (v := .int .i64 (i : Int)))).cons (hA383.get (i := 6) (v := .pointer (some ⟨B13, 0, none⟩)))).cons (hA383.get (i := 5) (v := .bool true))).cons (hA383.get (i := 1) (v := .slice A xs.length c))).cons (hA383.get (i := 0) (v := .int .i64 (N : Int)))), by omega, f108_0, f108_1, f108_2, f108_3, f108_4, f108_5, by omega, hbel108⟩
      have hp362 := of_decide_eq_true hd362
      refine sx_val (hg := (.inr ⟨2, true, 116, rfl, rfl, by kernel_rfl⟩)) (v := .bool true) hA361 rfl (ev_lssB (k := .i64) (m := (k : Int)) (n := (j : Int)) (hA361.ev (i := 117)) (hA361.ev (i := 118)) hd362 _ rfl) ?_
      intro a384 hA384; clear hA361
      refine sx_val hA384 rfl (ev_pickT (hA384.ev (i := 116) (v := .bool true)) (hA384.ev (i := 119) (v := .bool true)) _ rfl) ?_
      intro a385 hA385; clear hA384
      refine sx_val hA385 rfl (ev_move (hA385.ev (i := 120) (v := .bool true)) _ rfl) ?_
      intro a386 hA386; clear hA385
      refine sx_val (hg := (.inr ⟨7, true, 121, rfl, rfl, by kernel_rfl⟩)) (v := .pointer (some ⟨B13, 0, none⟩)) hA386 rfl (fb_Slots_0 (hA386.ev (i := 6) (v := .pointer (some ⟨B13, 0, none⟩))) _ rfl) ?_
      intro a387 hA387; clear hA386
      refine sx_val (hg := (.inr ⟨7, true, 121, rfl, rfl, by kernel_rfl⟩)) (v := .slice A1g g.rs.length c1g) hA387 rfl (ev_cell (v := .slice A1g g.rs.length c1g) (hA387.ev (i := 122) (v := .pointer (some ⟨B13, 0, none⟩))) ((f108_0.cell 0).trans rfl) Try.underlying22 rfl _ rfl) ?_
      intro a388 hA388; clear hA387
      refine sx_val (hg := (.inr ⟨7, true, 121, rfl, rfl, by kernel_rfl⟩)) hA388 rfl (ev_move (hA388.ev (i := 20) (v := .int .i64 (k : Int))) _ rfl) ?_
      intro a389 hA389; clear hA388
      obtain ⟨ad390, hAd390⟩ := GR.adr (OwnR.gr (e := 3) ⟨rfl, f108_2⟩) iva_sz hx3
      refine sx_val (hg := (.inr ⟨7, true, 121, rfl, rfl, by kernel_rfl⟩)) (v := .pointer (some (ad390.add (k * 1)))) hA389 rfl (ev_idx (k := k) (hA389.ev (i := 123) (v := .slice A1g g.rs.length c1g)) hAd390 (hA389.ev (i := 124) (v := .int .i64 (k : Int))) rfl (by omega) Try.underlying22 (by kernel_rfl) _ rfl) ?_
      intro a391 hA391; clear hA389
      refine sx_val (hg := (.inr ⟨7, true, 121, rfl, rfl, by kernel_rfl⟩)) (v := .int .i64 x3) hA391 rfl (ev_cell (hA391.ev (i := 125) (v := .pointer (some (ad390.add (k * 1))))) ((GR.cel (OwnR.gr (e := 3) ⟨rfl, f108_2⟩) hAd390 iva_sz hx3) 0 _ rfl) Try.underlying3 rfl _ rfl) ?_
      intro a392 hA392; clear hA391
      cases hd393 : decide (x3 = 0)
      · have hp393 := of_decide_eq_false hd393
        refine sx_val (hg := (.inr ⟨7, true, 121, rfl, rfl, by kernel_rfl⟩)) (v := .bool false) hA392 rfl (ev_eqlB (k := .i64) (m := x3) (n := 0) (hA392.ev (i := 126)) (ec _ (.int .i64 0)) hd393 _ rfl) ?_
        intro a394 hA394; clear hA392
        refine sx_val hA394 rfl (ev_pickT (hA394.ev (i := 121) (v := .bool true)) (hA394.ev (i := 127) (v := .bool false)) _ rfl) ?_
        intro a395 hA395; clear hA394
        refine sx_val hA395 rfl (ev_move (hA395.ev (i := 128) (v := .bool false)) _ rfl) ?_
        intro a396 hA396; clear hA395
        refine sx_no (j := 15) (s := 129) (want := true) (b := false) hA396 rfl ?_
        intro a397 hA397; clear hA396
        refine sx_no (j := 15) (s := 129) (want := true) (b := false) hA397 rfl ?_
        intro a398 hA398; clear hA397
        refine sx_no (j := 15) (s := 129) (want := true) (b := false) hA398 rfl ?_
        intro a399 hA399; clear hA398
        refine sx_no (j := 15) (s := 129) (want := true) (b := false) hA399 rfl ?_
        intro a400 hA400; clear hA399
        refine sx_no (j := 15) (s := 129) (want := true) (b := false) hA400 rfl ?_
        intro a401 hA401; clear hA400
        refine sx_no (j := 15) (s := 129) (want := true) (b := false) hA401 rfl ?_
        intro a402 hA402; clear hA401
        refine sx_val hA402 rfl (ev_pickF (hA402.ev (i := 129) (v := .bool false)) (ec _ (.bool false)) _ rfl) ?_
        intro a403 hA403; clear hA402
        refine sx_nil ?_
        refine then_n ?_
        refine wp_cond_false (hA403.ev (i := 136) (v := .bool false)) ?_
        refine wp_skip ?_
        refine blk_n ?_
        refine then_n ?_
        refine wp_region_lit ?_
        refine sx_val hA403 rfl (ev_move (hA403.ev (i := 20) (v := .int .i64 (k : Int))) _ rfl) ?_
        intro a404 hA404; clear hA403
        refine sx_val (v := .int .i64 ((k + 1 : Nat) : Int)) hA404 rfl (ev_addR (k := .i64) (m := (k : Int)) (n := 1) (r := ((k + 1 : Nat) : Int)) (hA404.ev (i := 89)) (ec _ (.int .i64 1)) (wr (by omega) (by omega) (by omega)) _ rfl) ?_
        intro a405 hA405; clear hA404
        refine sx_val hA405 rfl (ev_assign (hA405.ev (i := 90) (v := .int .i64 ((k + 1 : Nat) : Int))) _ rfl) ?_
        intro a406 hA406; clear hA405
        refine sx_nil ?_
        refine then_n ?_
        rw [usd_f (s := (stp g m).1) (k := k) (by simp [rat, bat, hx2, hy2, hd281])] at hA406
        refine ⟨N - (k + 1), by omega, k + 1, rfl, ((((((((((((((((((((((((((((((((((((((((((((((((((((((((((((((Ag.nil hA406.1 hA406.2.1).cons (hA406.get (i := 19) (v := .int .i64 (sumr (stp g m).1.rs (k + 1))))).cons (hA406.get (i := 18) (v := .int .i64 ((usd (stp g m).1 (k + 1) : Nat) : Int)))).cons (hA406.get (i := 20) (v := .int .i64 ((k + 1 : Nat) : Int)))).cons (hA406.get (i := 85) (v := .bool false))).cons (hA406.get (i := 84) (v := .bool false))).cons (hA406.get (i := 83) (v := .int .i64 (N : Int)))).cons (hA406.get (i := 82) (v := .int .i64 ((stp g m).1.rs.length : Int)))).cons (hA406.get (i := 81) (v := .slice Ap5r9 (stp g m).1.rs.length cp5r9))).cons (hA406.get (i := 80) (v := .pointer (some ⟨N10r9, 0, none⟩)))).cons (hA406.get (i := 79) (v := .bool false))).cons (hA406.get (i := 78) (v := .bool false))).cons (hA406.get (i := 77) (v := .bool false))).cons (hA406.get (i := 76) (v := .int .i64 0))).cons (hA406.get (i := 75) (v := .bool false))).cons (hA406.get (i := 74) (v := .bool false))).cons (hA406.get (i := 73) (v := .int .i64 0))).cons (hA406.get (i := 17) (v := .int .i64 0))).cons (hA406.get (i := 16) (v := .int .i64 (sumr (stp g m).1.rs N)))).cons (hA406.get (i := 15) (v := .int .i64 ((cntS (opm (stp g m).1.bs) 0 N : Nat) : Int)))).cons (hA406.get (i := 14) (v := .int .i64 ((cfr (stp g m).1 N : Nat) : Int)))).cons (hA406.get (i := 72) (v := .int .i64 0))).cons (hA406.get (i := 71) (v := .int .i64 (sumr (stp g m).1.rs N)))).cons (hA406.get (i := 70) (v := .int .i64 ((cntS (opm (stp g m).1.bs) 0 N : Nat) : Int)))).cons (hA406.get (i := 69) (v := .int .i64 ((cfr (stp g m).1 N : Nat) : Int)))).cons (hA406.get (i := 66) (v := .tuple #[.int .i64 ((cfr (stp g m).1 N : Nat) : Int), .int .i64 ((cntS (opm (stp g m).1.bs) 0 N : Nat) : Int), .int .i64 (sumr (stp g m).1.rs N), .int .i64 0]))).cons (hA406.get (i := 68) (v := .tuple #[.int .i64 ((cfr (stp g m).1 N : Nat) : Int), .int .i64 ((cntS (opm (stp g m).1.bs) 0 N : Nat) : Int), .int .i64 (sumr (stp g m).1.rs N), .int .i64 0]))).cons (hA406.get (i := 67) (v := .agg #[.slice Ap5r9 (stp g m).1.rs.length cp5r9, .slice Aj5r9 (stp g m).1.bs.length cj5r9]))).cons (hA406.get (i := 12) (v := .int .i64 0))).cons (hA406.get (i := 65) (v := .int .i64 0))).cons (hA406.get (i := 64) (v := .int .i64 0))).cons (hA406.get (i := 61) (v := .tuple #[.int .i64 0, .int .i64 0]))).cons (hA406.get (i := 63) (v := .tuple #[.int .i64 0, .int .i64 0]))).cons (hA406.get (i := 62) (v := .agg #[.slice Ap5r9 (stp g m).1.rs.length cp5r9, .slice Aj5r9 (stp g m).1.bs.length cj5r9]))).cons (hA406.get (i := 60) (v := .bool false))).cons (hA406.get (i := 59) (v := .int .i64 (stp g m).2.2))).cons (hA406.get (i := 11) (v := .int .i64 (stp g m).2.2))).cons (hA406.get (i := 10) (v := .int .i64 (j : Int)))).cons (hA406.get (i := 9) (v := .pointer (some ⟨N10r9, 0, none⟩)))).cons (hA406.get (i := 58) (v := .int .i64 (stp g m).2.2))).cons (hA406.get (i := 57) (v := .int .i64 (j : Int)))).cons (hA406.get (i := 56) (v := .agg #[.slice Ap5r9 (stp g m).1.rs.length cp5r9, .slice Aj5r9 (stp g m).1.bs.length cj5r9]))).cons (hA406.get (i := 49) (v := .tuple #[.agg #[.slice Ap5r9 (stp g m).1.rs.length cp5r9, .slice Aj5r9 (stp g m).1.bs.length cj5r9], .int .i64 (j : Int), .int .i64 (stp g m).2.2]))).cons (hA406.get (i := 55) (v := .tuple #[.agg #[.slice Ap5r9 (stp g m).1.rs.length cp5r9, .slice Aj5r9 (stp g m).1.bs.length cj5r9], .int .i64 (j : Int), .int .i64 (stp g m).2.2]))).cons (hA406.get (i := 54) (v := .int .i64 x))).cons (hA406.get (i := 53) (v := .pointer (some (ad1.add (i * 1)))))).cons (hA406.get (i := 52) (v := .int .i64 (i : Int)))).cons (hA406.get (i := 51) (v := .slice A xs.length c))).cons (hA406.get (i := 50) (v := .agg #[.slice A1g g.rs.length c1g, .slice A2g g.bs.length c2g]))).cons (hA406.get (i := 46) (v := .bool true))).cons (hA406.get (i := 45) (v := .bool true))).cons (hA406.get (i := 44) (v := .int .i64 (i : Int)))).cons (hA406.get (i := 43) (v := .bool true))).cons (hA406.get (i := 42) (v := .bool true))).cons (hA406.get (i := 41) (v := .int .i64 (xs.length : Int)))).cons (hA406.get (i := 40) (v := .slice A xs.length c))).cons (hA406.get (i := 39) (v := .int .i64 (i : Int)))).cons (hA406.get (i := 8) (v := .int .i64 (i : Int)))).cons (hA406.get (i := 6) (v := .pointer (some ⟨B13, 0, none⟩)))).cons (hA406.get (i := 5) (v := .bool true))).cons (hA406.get (i := 1) (v := .slice A xs.length c))).cons (hA406.get (i := 0) (v := .int .i64 (N : Int)))), by omega, f108_0, f108_1, f108_2, f108_3, f108_4, f108_5, by omega, hbel108⟩
      have hp393 := of_decide_eq_true hd393
      refine sx_val (hg := (.inr ⟨7, true, 121, rfl, rfl, by kernel_rfl⟩)) (v := .bool true) hA392 rfl (ev_eqlB (k := .i64) (m := x3) (n := 0) (hA392.ev (i := 126)) (ec _ (.int .i64 0)) hd393 _ rfl) ?_
      intro a407 hA407; clear hA392
      refine sx_val hA407 rfl (ev_pickT (hA407.ev (i := 121) (v := .bool true)) (hA407.ev (i := 127) (v := .bool true)) _ rfl) ?_
      intro a408 hA408; clear hA407
      refine sx_val hA408 rfl (ev_move (hA408.ev (i := 128) (v := .bool true)) _ rfl) ?_
      intro a409 hA409; clear hA408
      refine sx_val (hg := (.inr ⟨15, true, 129, rfl, rfl, by kernel_rfl⟩)) (v := .pointer (some ⟨B13, 1, none⟩)) hA409 rfl (fb_Slots_1 (hA409.ev (i := 6) (v := .pointer (some ⟨B13, 0, none⟩))) _ rfl) ?_
      intro a410 hA410; clear hA409
      refine sx_val (hg := (.inr ⟨15, true, 129, rfl, rfl, by kernel_rfl⟩)) (v := .slice A2g g.bs.length c2g) hA410 rfl (ev_cell (v := .slice A2g g.bs.length c2g) (hA410.ev (i := 130) (v := .pointer (some ⟨B13, 1, none⟩))) ((f108_0.cell 1).trans rfl) Try.underlying23 rfl _ rfl) ?_
      intro a411 hA411; clear hA410
      refine sx_val (hg := (.inr ⟨15, true, 129, rfl, rfl, by kernel_rfl⟩)) hA411 rfl (ev_move (hA411.ev (i := 20) (v := .int .i64 (k : Int))) _ rfl) ?_
      intro a412 hA412; clear hA411
      obtain ⟨ad413, hAd413⟩ := GR.adr (OwnR.gr (e := 4) ⟨rfl, f108_3⟩) bva_sz hy3
      refine sx_val (hg := (.inr ⟨15, true, 129, rfl, rfl, by kernel_rfl⟩)) (v := .pointer (some (ad413.add (k * 1)))) hA412 rfl (ev_idx (k := k) (hA412.ev (i := 131) (v := .slice A2g g.bs.length c2g)) hAd413 (hA412.ev (i := 132) (v := .int .i64 (k : Int))) rfl (by omega) Try.underlying23 (by kernel_rfl) _ rfl) ?_
      intro a414 hA414; clear hA412
      refine sx_val (hg := (.inr ⟨15, true, 129, rfl, rfl, by kernel_rfl⟩)) (v := .bool y3) hA414 rfl (ev_cell (hA414.ev (i := 133) (v := .pointer (some (ad413.add (k * 1))))) ((GR.cel (OwnR.gr (e := 4) ⟨rfl, f108_3⟩) hAd413 bva_sz hy3) 0 _ rfl) Try.underlying4 rfl _ rfl) ?_
      intro a415 hA415; clear hA414
      cases hd416 : y3
      · rw [hd416] at hA415
        refine sx_val (hg := (.inr ⟨15, true, 129, rfl, rfl, by kernel_rfl⟩)) (v := .bool true) hA415 rfl (ev_notF (hA415.ev (i := 134) (v := .bool false)) _ rfl) ?_
        intro a417 hA417; clear hA415
        refine sx_val hA417 rfl (ev_pickT (hA417.ev (i := 129) (v := .bool true)) (hA417.ev (i := 135) (v := .bool true)) _ rfl) ?_
        intro a418 hA418; clear hA417
        refine sx_nil ?_
        refine then_n ?_
        refine wp_cond_true (hA418.ev (i := 136) (v := .bool true)) ?_
        refine wp_seq ?_
        refine wp_region_lit ?_
        refine sx_val hA418 rfl (ev_assign (ec _ (.bool false)) _ rfl) ?_
        intro a419 hA419; clear hA418
        refine sx_nil ?_
        refine then_n ?_
        refine wp_ret ?_
        refine blk_r ?_
        refine then_r ?_
        refine then_r ?_
        refine blk_r ?_
        refine then_r ?_
        refine blk_r ?_
        refine then_r ?_
        refine then_r ?_
        refine blk_r ?_
        refine then_r ?_
        refine bodyPost_ret (rs_t (v := .bool false) Try.results6 hA419 (by kernel_rfl) ) hA419.2.1 ?_
        exact absurd (hjm k (by omega)) (by rw [fre_eq]; simp [rat, bat, hx3, hy3, hp393, hd416])
      rw [hd416] at hA415
      refine sx_val (hg := (.inr ⟨15, true, 129, rfl, rfl, by kernel_rfl⟩)) (v := .bool false) hA415 rfl (ev_notT (hA415.ev (i := 134) (v := .bool true)) _ rfl) ?_
      intro a420 hA420; clear hA415
      refine sx_val hA420 rfl (ev_pickT (hA420.ev (i := 129) (v := .bool true)) (hA420.ev (i := 135) (v := .bool false)) _ rfl) ?_
      intro a421 hA421; clear hA420
      refine sx_nil ?_
      refine then_n ?_
      refine wp_cond_false (hA421.ev (i := 136) (v := .bool false)) ?_
      refine wp_skip ?_
      refine blk_n ?_
      refine then_n ?_
      refine wp_region_lit ?_
      refine sx_val hA421 rfl (ev_move (hA421.ev (i := 20) (v := .int .i64 (k : Int))) _ rfl) ?_
      intro a422 hA422; clear hA421
      refine sx_val (v := .int .i64 ((k + 1 : Nat) : Int)) hA422 rfl (ev_addR (k := .i64) (m := (k : Int)) (n := 1) (r := ((k + 1 : Nat) : Int)) (hA422.ev (i := 89)) (ec _ (.int .i64 1)) (wr (by omega) (by omega) (by omega)) _ rfl) ?_
      intro a423 hA423; clear hA422
      refine sx_val hA423 rfl (ev_assign (hA423.ev (i := 90) (v := .int .i64 ((k + 1 : Nat) : Int))) _ rfl) ?_
      intro a424 hA424; clear hA423
      refine sx_nil ?_
      refine then_n ?_
      rw [usd_f (s := (stp g m).1) (k := k) (by simp [rat, bat, hx2, hy2, hd281])] at hA424
      refine ⟨N - (k + 1), by omega, k + 1, rfl, ((((((((((((((((((((((((((((((((((((((((((((((((((((((((((((((Ag.nil hA424.1 hA424.2.1).cons (hA424.get (i := 19) (v := .int .i64 (sumr (stp g m).1.rs (k + 1))))).cons (hA424.get (i := 18) (v := .int .i64 ((usd (stp g m).1 (k + 1) : Nat) : Int)))).cons (hA424.get (i := 20) (v := .int .i64 ((k + 1 : Nat) : Int)))).cons (hA424.get (i := 85) (v := .bool false))).cons (hA424.get (i := 84) (v := .bool false))).cons (hA424.get (i := 83) (v := .int .i64 (N : Int)))).cons (hA424.get (i := 82) (v := .int .i64 ((stp g m).1.rs.length : Int)))).cons (hA424.get (i := 81) (v := .slice Ap5r9 (stp g m).1.rs.length cp5r9))).cons (hA424.get (i := 80) (v := .pointer (some ⟨N10r9, 0, none⟩)))).cons (hA424.get (i := 79) (v := .bool false))).cons (hA424.get (i := 78) (v := .bool false))).cons (hA424.get (i := 77) (v := .bool false))).cons (hA424.get (i := 76) (v := .int .i64 0))).cons (hA424.get (i := 75) (v := .bool false))).cons (hA424.get (i := 74) (v := .bool false))).cons (hA424.get (i := 73) (v := .int .i64 0))).cons (hA424.get (i := 17) (v := .int .i64 0))).cons (hA424.get (i := 16) (v := .int .i64 (sumr (stp g m).1.rs N)))).cons (hA424.get (i := 15) (v := .int .i64 ((cntS (opm (stp g m).1.bs) 0 N : Nat) : Int)))).cons (hA424.get (i := 14) (v := .int .i64 ((cfr (stp g m).1 N : Nat) : Int)))).cons (hA424.get (i := 72) (v := .int .i64 0))).cons (hA424.get (i := 71) (v := .int .i64 (sumr (stp g m).1.rs N)))).cons (hA424.get (i := 70) (v := .int .i64 ((cntS (opm (stp g m).1.bs) 0 N : Nat) : Int)))).cons (hA424.get (i := 69) (v := .int .i64 ((cfr (stp g m).1 N : Nat) : Int)))).cons (hA424.get (i := 66) (v := .tuple #[.int .i64 ((cfr (stp g m).1 N : Nat) : Int), .int .i64 ((cntS (opm (stp g m).1.bs) 0 N : Nat) : Int), .int .i64 (sumr (stp g m).1.rs N), .int .i64 0]))).cons (hA424.get (i := 68) (v := .tuple #[.int .i64 ((cfr (stp g m).1 N : Nat) : Int), .int .i64 ((cntS (opm (stp g m).1.bs) 0 N : Nat) : Int), .int .i64 (sumr (stp g m).1.rs N), .int .i64 0]))).cons (hA424.get (i := 67) (v := .agg #[.slice Ap5r9 (stp g m).1.rs.length cp5r9, .slice Aj5r9 (stp g m).1.bs.length cj5r9]))).cons (hA424.get (i := 12) (v := .int .i64 0))).cons (hA424.get (i := 65) (v := .int .i64 0))).cons (hA424.get (i := 64) (v := .int .i64 0))).cons (hA424.get (i := 61) (v := .tuple #[.int .i64 0, .int .i64 0]))).cons (hA424.get (i := 63) (v := .tuple #[.int .i64 0, .int .i64 0]))).cons (hA424.get (i := 62) (v := .agg #[.slice Ap5r9 (stp g m).1.rs.length cp5r9, .slice Aj5r9 (stp g m).1.bs.length cj5r9]))).cons (hA424.get (i := 60) (v := .bool false))).cons (hA424.get (i := 59) (v := .int .i64 (stp g m).2.2))).cons (hA424.get (i := 11) (v := .int .i64 (stp g m).2.2))).cons (hA424.get (i := 10) (v := .int .i64 (j : Int)))).cons (hA424.get (i := 9) (v := .pointer (some ⟨N10r9, 0, none⟩)))).cons (hA424.get (i := 58) (v := .int .i64 (stp g m).2.2))).cons (hA424.get (i := 57) (v := .int .i64 (j : Int)))).cons (hA424.get (i := 56) (v := .agg #[.slice Ap5r9 (stp g m).1.rs.length cp5r9, .slice Aj5r9 (stp g m).1.bs.length cj5r9]))).cons (hA424.get (i := 49) (v := .tuple #[.agg #[.slice Ap5r9 (stp g m).1.rs.length cp5r9, .slice Aj5r9 (stp g m).1.bs.length cj5r9], .int .i64 (j : Int), .int .i64 (stp g m).2.2]))).cons (hA424.get (i := 55) (v := .tuple #[.agg #[.slice Ap5r9 (stp g m).1.rs.length cp5r9, .slice Aj5r9 (stp g m).1.bs.length cj5r9], .int .i64 (j : Int), .int .i64 (stp g m).2.2]))).cons (hA424.get (i := 54) (v := .int .i64 x))).cons (hA424.get (i := 53) (v := .pointer (some (ad1.add (i * 1)))))).cons (hA424.get (i := 52) (v := .int .i64 (i : Int)))).cons (hA424.get (i := 51) (v := .slice A xs.length c))).cons (hA424.get (i := 50) (v := .agg #[.slice A1g g.rs.length c1g, .slice A2g g.bs.length c2g]))).cons (hA424.get (i := 46) (v := .bool true))).cons (hA424.get (i := 45) (v := .bool true))).cons (hA424.get (i := 44) (v := .int .i64 (i : Int)))).cons (hA424.get (i := 43) (v := .bool true))).cons (hA424.get (i := 42) (v := .bool true))).cons (hA424.get (i := 41) (v := .int .i64 (xs.length : Int)))).cons (hA424.get (i := 40) (v := .slice A xs.length c))).cons (hA424.get (i := 39) (v := .int .i64 (i : Int)))).cons (hA424.get (i := 8) (v := .int .i64 (i : Int)))).cons (hA424.get (i := 6) (v := .pointer (some ⟨B13, 0, none⟩)))).cons (hA424.get (i := 5) (v := .bool true))).cons (hA424.get (i := 1) (v := .slice A xs.length c))).cons (hA424.get (i := 0) (v := .int .i64 (N : Int)))), by omega, f108_0, f108_1, f108_2, f108_3, f108_4, f108_5, by omega, hbel108⟩
    rw [hd281] at hA280
    refine sx_val (hg := (.inr ⟨6, true, 104, rfl, rfl, by kernel_rfl⟩)) (v := .bool true) hA280 rfl (ev_notF (hA280.ev (i := 109) (v := .bool false)) _ rfl) ?_
    intro a282 hA282; clear hA280
    refine sx_val hA282 rfl (ev_pickT (hA282.ev (i := 104) (v := .bool true)) (hA282.ev (i := 110) (v := .bool true)) _ rfl) ?_
    intro a283 hA283; clear hA282
    refine sx_nil ?_
    refine then_n ?_
    refine wp_cond_true (hA283.ev (i := 111) (v := .bool true)) ?_
    refine wp_region_lit ?_
    refine sx_val hA283 rfl (ev_move (hA283.ev (i := 18) (v := .int .i64 ((usd (stp g m).1 k : Nat) : Int))) _ rfl) ?_
    intro a284 hA284; clear hA283
    refine sx_val (v := .int .i64 ((usd (stp g m).1 (k + 1) : Nat) : Int)) hA284 rfl (ev_addR (k := .i64) (m := ((usd (stp g m).1 k : Nat) : Int)) (n := 1) (r := ((usd (stp g m).1 (k + 1) : Nat) : Int)) (hA284.ev (i := 112)) (ec _ (.int .i64 1)) (wr (by have := usd_t (s := (stp g m).1) (k := k) (by simp [rat, bat, hx2, hy2, hp195, hd281]); omega) (by omega) (by omega)) _ rfl) ?_
    intro a285 hA285; clear hA284
    refine sx_val hA285 rfl (ev_assign (hA285.ev (i := 113) (v := .int .i64 ((usd (stp g m).1 (k + 1) : Nat) : Int))) _ rfl) ?_
    intro a286 hA286; clear hA285
    refine sx_nil ?_
    refine then_n ?_
    refine wp_seq ?_
    refine wp_region_lit ?_
    refine sx_val hA286 rfl (ev_move (hA286.ev (i := 10) (v := .int .i64 (j : Int))) _ rfl) ?_
    intro a287 hA287; clear hA286
    refine sx_val (v := .bool true) hA287 rfl (ev_geqB (k := .i64) (m := (j : Int)) (n := 0) (hA287.ev (i := 114)) (ec _ (.int .i64 0)) hd5 _ rfl) ?_
    intro a288 hA288; clear hA287
    refine sx_val hA288 rfl (ev_move (hA288.ev (i := 115) (v := .bool true)) _ rfl) ?_
    intro a289 hA289; clear hA288
    refine sx_val (hg := (.inr ⟨2, true, 116, rfl, rfl, by kernel_rfl⟩)) hA289 rfl (ev_move (hA289.ev (i := 20) (v := .int .i64 (k : Int))) _ rfl) ?_
    intro a290 hA290; clear hA289
    refine sx_val (hg := (.inr ⟨2, true, 116, rfl, rfl, by kernel_rfl⟩)) hA290 rfl (ev_move (hA290.ev (i := 10) (v := .int .i64 (j : Int))) _ rfl) ?_
    intro a291 hA291; clear hA290
    cases hd292 : decide ((k : Int) < (j : Int))
    · have hp292 := of_decide_eq_false hd292
      refine sx_val (hg := (.inr ⟨2, true, 116, rfl, rfl, by kernel_rfl⟩)) (v := .bool false) hA291 rfl (ev_lssB (k := .i64) (m := (k : Int)) (n := (j : Int)) (hA291.ev (i := 117)) (hA291.ev (i := 118)) hd292 _ rfl) ?_
      intro a293 hA293; clear hA291
      refine sx_val hA293 rfl (ev_pickT (hA293.ev (i := 116) (v := .bool true)) (hA293.ev (i := 119) (v := .bool false)) _ rfl) ?_
      intro a294 hA294; clear hA293
      refine sx_val hA294 rfl (ev_move (hA294.ev (i := 120) (v := .bool false)) _ rfl) ?_
      intro a295 hA295; clear hA294
      refine sx_no (j := 7) (s := 121) (want := true) (b := false) hA295 rfl ?_
      intro a296 hA296; clear hA295
      refine sx_no (j := 7) (s := 121) (want := true) (b := false) hA296 rfl ?_
      intro a297 hA297; clear hA296
      refine sx_no (j := 7) (s := 121) (want := true) (b := false) hA297 rfl ?_
      intro a298 hA298; clear hA297
      refine sx_no (j := 7) (s := 121) (want := true) (b := false) hA298 rfl ?_
      intro a299 hA299; clear hA298
      refine sx_no (j := 7) (s := 121) (want := true) (b := false) hA299 rfl ?_
      intro a300 hA300; clear hA299
      refine sx_no (j := 7) (s := 121) (want := true) (b := false) hA300 rfl ?_
      intro a301 hA301; clear hA300
      refine sx_val hA301 rfl (ev_pickF (hA301.ev (i := 121) (v := .bool false)) (ec _ (.bool false)) _ rfl) ?_
      intro a302 hA302; clear hA301
      refine sx_val hA302 rfl (ev_move (hA302.ev (i := 128) (v := .bool false)) _ rfl) ?_
      intro a303 hA303; clear hA302
      refine sx_no (j := 15) (s := 129) (want := true) (b := false) hA303 rfl ?_
      intro a304 hA304; clear hA303
      refine sx_no (j := 15) (s := 129) (want := true) (b := false) hA304 rfl ?_
      intro a305 hA305; clear hA304
      refine sx_no (j := 15) (s := 129) (want := true) (b := false) hA305 rfl ?_
      intro a306 hA306; clear hA305
      refine sx_no (j := 15) (s := 129) (want := true) (b := false) hA306 rfl ?_
      intro a307 hA307; clear hA306
      refine sx_no (j := 15) (s := 129) (want := true) (b := false) hA307 rfl ?_
      intro a308 hA308; clear hA307
      refine sx_no (j := 15) (s := 129) (want := true) (b := false) hA308 rfl ?_
      intro a309 hA309; clear hA308
      refine sx_val hA309 rfl (ev_pickF (hA309.ev (i := 129) (v := .bool false)) (ec _ (.bool false)) _ rfl) ?_
      intro a310 hA310; clear hA309
      refine sx_nil ?_
      refine then_n ?_
      refine wp_cond_false (hA310.ev (i := 136) (v := .bool false)) ?_
      refine wp_skip ?_
      refine blk_n ?_
      refine then_n ?_
      refine wp_region_lit ?_
      refine sx_val hA310 rfl (ev_move (hA310.ev (i := 20) (v := .int .i64 (k : Int))) _ rfl) ?_
      intro a311 hA311; clear hA310
      refine sx_val (v := .int .i64 ((k + 1 : Nat) : Int)) hA311 rfl (ev_addR (k := .i64) (m := (k : Int)) (n := 1) (r := ((k + 1 : Nat) : Int)) (hA311.ev (i := 89)) (ec _ (.int .i64 1)) (wr (by omega) (by omega) (by omega)) _ rfl) ?_
      intro a312 hA312; clear hA311
      refine sx_val hA312 rfl (ev_assign (hA312.ev (i := 90) (v := .int .i64 ((k + 1 : Nat) : Int))) _ rfl) ?_
      intro a313 hA313; clear hA312
      refine sx_nil ?_
      refine then_n ?_
      refine ⟨N - (k + 1), by omega, k + 1, rfl, ((((((((((((((((((((((((((((((((((((((((((((((((((((((((((((((Ag.nil hA313.1 hA313.2.1).cons (hA313.get (i := 19) (v := .int .i64 (sumr (stp g m).1.rs (k + 1))))).cons (hA313.get (i := 18) (v := .int .i64 ((usd (stp g m).1 (k + 1) : Nat) : Int)))).cons (hA313.get (i := 20) (v := .int .i64 ((k + 1 : Nat) : Int)))).cons (hA313.get (i := 85) (v := .bool false))).cons (hA313.get (i := 84) (v := .bool false))).cons (hA313.get (i := 83) (v := .int .i64 (N : Int)))).cons (hA313.get (i := 82) (v := .int .i64 ((stp g m).1.rs.length : Int)))).cons (hA313.get (i := 81) (v := .slice Ap5r9 (stp g m).1.rs.length cp5r9))).cons (hA313.get (i := 80) (v := .pointer (some ⟨N10r9, 0, none⟩)))).cons (hA313.get (i := 79) (v := .bool false))).cons (hA313.get (i := 78) (v := .bool false))).cons (hA313.get (i := 77) (v := .bool false))).cons (hA313.get (i := 76) (v := .int .i64 0))).cons (hA313.get (i := 75) (v := .bool false))).cons (hA313.get (i := 74) (v := .bool false))).cons (hA313.get (i := 73) (v := .int .i64 0))).cons (hA313.get (i := 17) (v := .int .i64 0))).cons (hA313.get (i := 16) (v := .int .i64 (sumr (stp g m).1.rs N)))).cons (hA313.get (i := 15) (v := .int .i64 ((cntS (opm (stp g m).1.bs) 0 N : Nat) : Int)))).cons (hA313.get (i := 14) (v := .int .i64 ((cfr (stp g m).1 N : Nat) : Int)))).cons (hA313.get (i := 72) (v := .int .i64 0))).cons (hA313.get (i := 71) (v := .int .i64 (sumr (stp g m).1.rs N)))).cons (hA313.get (i := 70) (v := .int .i64 ((cntS (opm (stp g m).1.bs) 0 N : Nat) : Int)))).cons (hA313.get (i := 69) (v := .int .i64 ((cfr (stp g m).1 N : Nat) : Int)))).cons (hA313.get (i := 66) (v := .tuple #[.int .i64 ((cfr (stp g m).1 N : Nat) : Int), .int .i64 ((cntS (opm (stp g m).1.bs) 0 N : Nat) : Int), .int .i64 (sumr (stp g m).1.rs N), .int .i64 0]))).cons (hA313.get (i := 68) (v := .tuple #[.int .i64 ((cfr (stp g m).1 N : Nat) : Int), .int .i64 ((cntS (opm (stp g m).1.bs) 0 N : Nat) : Int), .int .i64 (sumr (stp g m).1.rs N), .int .i64 0]))).cons (hA313.get (i := 67) (v := .agg #[.slice Ap5r9 (stp g m).1.rs.length cp5r9, .slice Aj5r9 (stp g m).1.bs.length cj5r9]))).cons (hA313.get (i := 12) (v := .int .i64 0))).cons (hA313.get (i := 65) (v := .int .i64 0))).cons (hA313.get (i := 64) (v := .int .i64 0))).cons (hA313.get (i := 61) (v := .tuple #[.int .i64 0, .int .i64 0]))).cons (hA313.get (i := 63) (v := .tuple #[.int .i64 0, .int .i64 0]))).cons (hA313.get (i := 62) (v := .agg #[.slice Ap5r9 (stp g m).1.rs.length cp5r9, .slice Aj5r9 (stp g m).1.bs.length cj5r9]))).cons (hA313.get (i := 60) (v := .bool false))).cons (hA313.get (i := 59) (v := .int .i64 (stp g m).2.2))).cons (hA313.get (i := 11) (v := .int .i64 (stp g m).2.2))).cons (hA313.get (i := 10) (v := .int .i64 (j : Int)))).cons (hA313.get (i := 9) (v := .pointer (some ⟨N10r9, 0, none⟩)))).cons (hA313.get (i := 58) (v := .int .i64 (stp g m).2.2))).cons (hA313.get (i := 57) (v := .int .i64 (j : Int)))).cons (hA313.get (i := 56) (v := .agg #[.slice Ap5r9 (stp g m).1.rs.length cp5r9, .slice Aj5r9 (stp g m).1.bs.length cj5r9]))).cons (hA313.get (i := 49) (v := .tuple #[.agg #[.slice Ap5r9 (stp g m).1.rs.length cp5r9, .slice Aj5r9 (stp g m).1.bs.length cj5r9], .int .i64 (j : Int), .int .i64 (stp g m).2.2]))).cons (hA313.get (i := 55) (v := .tuple #[.agg #[.slice Ap5r9 (stp g m).1.rs.length cp5r9, .slice Aj5r9 (stp g m).1.bs.length cj5r9], .int .i64 (j : Int), .int .i64 (stp g m).2.2]))).cons (hA313.get (i := 54) (v := .int .i64 x))).cons (hA313.get (i := 53) (v := .pointer (some (ad1.add (i * 1)))))).cons (hA313.get (i := 52) (v := .int .i64 (i : Int)))).cons (hA313.get (i := 51) (v := .slice A xs.length c))).cons (hA313.get (i := 50) (v := .agg #[.slice A1g g.rs.length c1g, .slice A2g g.bs.length c2g]))).cons (hA313.get (i := 46) (v := .bool true))).cons (hA313.get (i := 45) (v := .bool true))).cons (hA313.get (i := 44) (v := .int .i64 (i : Int)))).cons (hA313.get (i := 43) (v := .bool true))).cons (hA313.get (i := 42) (v := .bool true))).cons (hA313.get (i := 41) (v := .int .i64 (xs.length : Int)))).cons (hA313.get (i := 40) (v := .slice A xs.length c))).cons (hA313.get (i := 39) (v := .int .i64 (i : Int)))).cons (hA313.get (i := 8) (v := .int .i64 (i : Int)))).cons (hA313.get (i := 6) (v := .pointer (some ⟨B13, 0, none⟩)))).cons (hA313.get (i := 5) (v := .bool true))).cons (hA313.get (i := 1) (v := .slice A xs.length c))).cons (hA313.get (i := 0) (v := .int .i64 (N : Int)))), by omega, f108_0, f108_1, f108_2, f108_3, f108_4, f108_5, by omega, hbel108⟩
    have hp292 := of_decide_eq_true hd292
    refine sx_val (hg := (.inr ⟨2, true, 116, rfl, rfl, by kernel_rfl⟩)) (v := .bool true) hA291 rfl (ev_lssB (k := .i64) (m := (k : Int)) (n := (j : Int)) (hA291.ev (i := 117)) (hA291.ev (i := 118)) hd292 _ rfl) ?_
    intro a314 hA314; clear hA291
    refine sx_val hA314 rfl (ev_pickT (hA314.ev (i := 116) (v := .bool true)) (hA314.ev (i := 119) (v := .bool true)) _ rfl) ?_
    intro a315 hA315; clear hA314
    refine sx_val hA315 rfl (ev_move (hA315.ev (i := 120) (v := .bool true)) _ rfl) ?_
    intro a316 hA316; clear hA315
    refine sx_val (hg := (.inr ⟨7, true, 121, rfl, rfl, by kernel_rfl⟩)) (v := .pointer (some ⟨B13, 0, none⟩)) hA316 rfl (fb_Slots_0 (hA316.ev (i := 6) (v := .pointer (some ⟨B13, 0, none⟩))) _ rfl) ?_
    intro a317 hA317; clear hA316
    refine sx_val (hg := (.inr ⟨7, true, 121, rfl, rfl, by kernel_rfl⟩)) (v := .slice A1g g.rs.length c1g) hA317 rfl (ev_cell (v := .slice A1g g.rs.length c1g) (hA317.ev (i := 122) (v := .pointer (some ⟨B13, 0, none⟩))) ((f108_0.cell 0).trans rfl) Try.underlying22 rfl _ rfl) ?_
    intro a318 hA318; clear hA317
    refine sx_val (hg := (.inr ⟨7, true, 121, rfl, rfl, by kernel_rfl⟩)) hA318 rfl (ev_move (hA318.ev (i := 20) (v := .int .i64 (k : Int))) _ rfl) ?_
    intro a319 hA319; clear hA318
    obtain ⟨ad320, hAd320⟩ := GR.adr (OwnR.gr (e := 3) ⟨rfl, f108_2⟩) iva_sz hx3
    refine sx_val (hg := (.inr ⟨7, true, 121, rfl, rfl, by kernel_rfl⟩)) (v := .pointer (some (ad320.add (k * 1)))) hA319 rfl (ev_idx (k := k) (hA319.ev (i := 123) (v := .slice A1g g.rs.length c1g)) hAd320 (hA319.ev (i := 124) (v := .int .i64 (k : Int))) rfl (by omega) Try.underlying22 (by kernel_rfl) _ rfl) ?_
    intro a321 hA321; clear hA319
    refine sx_val (hg := (.inr ⟨7, true, 121, rfl, rfl, by kernel_rfl⟩)) (v := .int .i64 x3) hA321 rfl (ev_cell (hA321.ev (i := 125) (v := .pointer (some (ad320.add (k * 1))))) ((GR.cel (OwnR.gr (e := 3) ⟨rfl, f108_2⟩) hAd320 iva_sz hx3) 0 _ rfl) Try.underlying3 rfl _ rfl) ?_
    intro a322 hA322; clear hA321
    cases hd323 : decide (x3 = 0)
    · have hp323 := of_decide_eq_false hd323
      refine sx_val (hg := (.inr ⟨7, true, 121, rfl, rfl, by kernel_rfl⟩)) (v := .bool false) hA322 rfl (ev_eqlB (k := .i64) (m := x3) (n := 0) (hA322.ev (i := 126)) (ec _ (.int .i64 0)) hd323 _ rfl) ?_
      intro a324 hA324; clear hA322
      refine sx_val hA324 rfl (ev_pickT (hA324.ev (i := 121) (v := .bool true)) (hA324.ev (i := 127) (v := .bool false)) _ rfl) ?_
      intro a325 hA325; clear hA324
      refine sx_val hA325 rfl (ev_move (hA325.ev (i := 128) (v := .bool false)) _ rfl) ?_
      intro a326 hA326; clear hA325
      refine sx_no (j := 15) (s := 129) (want := true) (b := false) hA326 rfl ?_
      intro a327 hA327; clear hA326
      refine sx_no (j := 15) (s := 129) (want := true) (b := false) hA327 rfl ?_
      intro a328 hA328; clear hA327
      refine sx_no (j := 15) (s := 129) (want := true) (b := false) hA328 rfl ?_
      intro a329 hA329; clear hA328
      refine sx_no (j := 15) (s := 129) (want := true) (b := false) hA329 rfl ?_
      intro a330 hA330; clear hA329
      refine sx_no (j := 15) (s := 129) (want := true) (b := false) hA330 rfl ?_
      intro a331 hA331; clear hA330
      refine sx_no (j := 15) (s := 129) (want := true) (b := false) hA331 rfl ?_
      intro a332 hA332; clear hA331
      refine sx_val hA332 rfl (ev_pickF (hA332.ev (i := 129) (v := .bool false)) (ec _ (.bool false)) _ rfl) ?_
      intro a333 hA333; clear hA332
      refine sx_nil ?_
      refine then_n ?_
      refine wp_cond_false (hA333.ev (i := 136) (v := .bool false)) ?_
      refine wp_skip ?_
      refine blk_n ?_
      refine then_n ?_
      refine wp_region_lit ?_
      refine sx_val hA333 rfl (ev_move (hA333.ev (i := 20) (v := .int .i64 (k : Int))) _ rfl) ?_
      intro a334 hA334; clear hA333
      refine sx_val (v := .int .i64 ((k + 1 : Nat) : Int)) hA334 rfl (ev_addR (k := .i64) (m := (k : Int)) (n := 1) (r := ((k + 1 : Nat) : Int)) (hA334.ev (i := 89)) (ec _ (.int .i64 1)) (wr (by omega) (by omega) (by omega)) _ rfl) ?_
      intro a335 hA335; clear hA334
      refine sx_val hA335 rfl (ev_assign (hA335.ev (i := 90) (v := .int .i64 ((k + 1 : Nat) : Int))) _ rfl) ?_
      intro a336 hA336; clear hA335
      refine sx_nil ?_
      refine then_n ?_
      refine ⟨N - (k + 1), by omega, k + 1, rfl, ((((((((((((((((((((((((((((((((((((((((((((((((((((((((((((((Ag.nil hA336.1 hA336.2.1).cons (hA336.get (i := 19) (v := .int .i64 (sumr (stp g m).1.rs (k + 1))))).cons (hA336.get (i := 18) (v := .int .i64 ((usd (stp g m).1 (k + 1) : Nat) : Int)))).cons (hA336.get (i := 20) (v := .int .i64 ((k + 1 : Nat) : Int)))).cons (hA336.get (i := 85) (v := .bool false))).cons (hA336.get (i := 84) (v := .bool false))).cons (hA336.get (i := 83) (v := .int .i64 (N : Int)))).cons (hA336.get (i := 82) (v := .int .i64 ((stp g m).1.rs.length : Int)))).cons (hA336.get (i := 81) (v := .slice Ap5r9 (stp g m).1.rs.length cp5r9))).cons (hA336.get (i := 80) (v := .pointer (some ⟨N10r9, 0, none⟩)))).cons (hA336.get (i := 79) (v := .bool false))).cons (hA336.get (i := 78) (v := .bool false))).cons (hA336.get (i := 77) (v := .bool false))).cons (hA336.get (i := 76) (v := .int .i64 0))).cons (hA336.get (i := 75) (v := .bool false))).cons (hA336.get (i := 74) (v := .bool false))).cons (hA336.get (i := 73) (v := .int .i64 0))).cons (hA336.get (i := 17) (v := .int .i64 0))).cons (hA336.get (i := 16) (v := .int .i64 (sumr (stp g m).1.rs N)))).cons (hA336.get (i := 15) (v := .int .i64 ((cntS (opm (stp g m).1.bs) 0 N : Nat) : Int)))).cons (hA336.get (i := 14) (v := .int .i64 ((cfr (stp g m).1 N : Nat) : Int)))).cons (hA336.get (i := 72) (v := .int .i64 0))).cons (hA336.get (i := 71) (v := .int .i64 (sumr (stp g m).1.rs N)))).cons (hA336.get (i := 70) (v := .int .i64 ((cntS (opm (stp g m).1.bs) 0 N : Nat) : Int)))).cons (hA336.get (i := 69) (v := .int .i64 ((cfr (stp g m).1 N : Nat) : Int)))).cons (hA336.get (i := 66) (v := .tuple #[.int .i64 ((cfr (stp g m).1 N : Nat) : Int), .int .i64 ((cntS (opm (stp g m).1.bs) 0 N : Nat) : Int), .int .i64 (sumr (stp g m).1.rs N), .int .i64 0]))).cons (hA336.get (i := 68) (v := .tuple #[.int .i64 ((cfr (stp g m).1 N : Nat) : Int), .int .i64 ((cntS (opm (stp g m).1.bs) 0 N : Nat) : Int), .int .i64 (sumr (stp g m).1.rs N), .int .i64 0]))).cons (hA336.get (i := 67) (v := .agg #[.slice Ap5r9 (stp g m).1.rs.length cp5r9, .slice Aj5r9 (stp g m).1.bs.length cj5r9]))).cons (hA336.get (i := 12) (v := .int .i64 0))).cons (hA336.get (i := 65) (v := .int .i64 0))).cons (hA336.get (i := 64) (v := .int .i64 0))).cons (hA336.get (i := 61) (v := .tuple #[.int .i64 0, .int .i64 0]))).cons (hA336.get (i := 63) (v := .tuple #[.int .i64 0, .int .i64 0]))).cons (hA336.get (i := 62) (v := .agg #[.slice Ap5r9 (stp g m).1.rs.length cp5r9, .slice Aj5r9 (stp g m).1.bs.length cj5r9]))).cons (hA336.get (i := 60) (v := .bool false))).cons (hA336.get (i := 59) (v := .int .i64 (stp g m).2.2))).cons (hA336.get (i := 11) (v := .int .i64 (stp g m).2.2))).cons (hA336.get (i := 10) (v := .int .i64 (j : Int)))).cons (hA336.get (i := 9) (v := .pointer (some ⟨N10r9, 0, none⟩)))).cons (hA336.get (i := 58) (v := .int .i64 (stp g m).2.2))).cons (hA336.get (i := 57) (v := .int .i64 (j : Int)))).cons (hA336.get (i := 56) (v := .agg #[.slice Ap5r9 (stp g m).1.rs.length cp5r9, .slice Aj5r9 (stp g m).1.bs.length cj5r9]))).cons (hA336.get (i := 49) (v := .tuple #[.agg #[.slice Ap5r9 (stp g m).1.rs.length cp5r9, .slice Aj5r9 (stp g m).1.bs.length cj5r9], .int .i64 (j : Int), .int .i64 (stp g m).2.2]))).cons (hA336.get (i := 55) (v := .tuple #[.agg #[.slice Ap5r9 (stp g m).1.rs.length cp5r9, .slice Aj5r9 (stp g m).1.bs.length cj5r9], .int .i64 (j : Int), .int .i64 (stp g m).2.2]))).cons (hA336.get (i := 54) (v := .int .i64 x))).cons (hA336.get (i := 53) (v := .pointer (some (ad1.add (i * 1)))))).cons (hA336.get (i := 52) (v := .int .i64 (i : Int)))).cons (hA336.get (i := 51) (v := .slice A xs.length c))).cons (hA336.get (i := 50) (v := .agg #[.slice A1g g.rs.length c1g, .slice A2g g.bs.length c2g]))).cons (hA336.get (i := 46) (v := .bool true))).cons (hA336.get (i := 45) (v := .bool true))).cons (hA336.get (i := 44) (v := .int .i64 (i : Int)))).cons (hA336.get (i := 43) (v := .bool true))).cons (hA336.get (i := 42) (v := .bool true))).cons (hA336.get (i := 41) (v := .int .i64 (xs.length : Int)))).cons (hA336.get (i := 40) (v := .slice A xs.length c))).cons (hA336.get (i := 39) (v := .int .i64 (i : Int)))).cons (hA336.get (i := 8) (v := .int .i64 (i : Int)))).cons (hA336.get (i := 6) (v := .pointer (some ⟨B13, 0, none⟩)))).cons (hA336.get (i := 5) (v := .bool true))).cons (hA336.get (i := 1) (v := .slice A xs.length c))).cons (hA336.get (i := 0) (v := .int .i64 (N : Int)))), by omega, f108_0, f108_1, f108_2, f108_3, f108_4, f108_5, by omega, hbel108⟩
    have hp323 := of_decide_eq_true hd323
    refine sx_val (hg := (.inr ⟨7, true, 121, rfl, rfl, by kernel_rfl⟩)) (v := .bool true) hA322 rfl (ev_eqlB (k := .i64) (m := x3) (n := 0) (hA322.ev (i := 126)) (ec _ (.int .i64 0)) hd323 _ rfl) ?_
    intro a337 hA337; clear hA322
    refine sx_val hA337 rfl (ev_pickT (hA337.ev (i := 121) (v := .bool true)) (hA337.ev (i := 127) (v := .bool true)) _ rfl) ?_
    intro a338 hA338; clear hA337
    refine sx_val hA338 rfl (ev_move (hA338.ev (i := 128) (v := .bool true)) _ rfl) ?_
    intro a339 hA339; clear hA338
    refine sx_val (hg := (.inr ⟨15, true, 129, rfl, rfl, by kernel_rfl⟩)) (v := .pointer (some ⟨B13, 1, none⟩)) hA339 rfl (fb_Slots_1 (hA339.ev (i := 6) (v := .pointer (some ⟨B13, 0, none⟩))) _ rfl) ?_
    intro a340 hA340; clear hA339
    refine sx_val (hg := (.inr ⟨15, true, 129, rfl, rfl, by kernel_rfl⟩)) (v := .slice A2g g.bs.length c2g) hA340 rfl (ev_cell (v := .slice A2g g.bs.length c2g) (hA340.ev (i := 130) (v := .pointer (some ⟨B13, 1, none⟩))) ((f108_0.cell 1).trans rfl) Try.underlying23 rfl _ rfl) ?_
    intro a341 hA341; clear hA340
    refine sx_val (hg := (.inr ⟨15, true, 129, rfl, rfl, by kernel_rfl⟩)) hA341 rfl (ev_move (hA341.ev (i := 20) (v := .int .i64 (k : Int))) _ rfl) ?_
    intro a342 hA342; clear hA341
    obtain ⟨ad343, hAd343⟩ := GR.adr (OwnR.gr (e := 4) ⟨rfl, f108_3⟩) bva_sz hy3
    refine sx_val (hg := (.inr ⟨15, true, 129, rfl, rfl, by kernel_rfl⟩)) (v := .pointer (some (ad343.add (k * 1)))) hA342 rfl (ev_idx (k := k) (hA342.ev (i := 131) (v := .slice A2g g.bs.length c2g)) hAd343 (hA342.ev (i := 132) (v := .int .i64 (k : Int))) rfl (by omega) Try.underlying23 (by kernel_rfl) _ rfl) ?_
    intro a344 hA344; clear hA342
    refine sx_val (hg := (.inr ⟨15, true, 129, rfl, rfl, by kernel_rfl⟩)) (v := .bool y3) hA344 rfl (ev_cell (hA344.ev (i := 133) (v := .pointer (some (ad343.add (k * 1))))) ((GR.cel (OwnR.gr (e := 4) ⟨rfl, f108_3⟩) hAd343 bva_sz hy3) 0 _ rfl) Try.underlying4 rfl _ rfl) ?_
    intro a345 hA345; clear hA344
    cases hd346 : y3
    · rw [hd346] at hA345
      refine sx_val (hg := (.inr ⟨15, true, 129, rfl, rfl, by kernel_rfl⟩)) (v := .bool true) hA345 rfl (ev_notF (hA345.ev (i := 134) (v := .bool false)) _ rfl) ?_
      intro a347 hA347; clear hA345
      refine sx_val hA347 rfl (ev_pickT (hA347.ev (i := 129) (v := .bool true)) (hA347.ev (i := 135) (v := .bool true)) _ rfl) ?_
      intro a348 hA348; clear hA347
      refine sx_nil ?_
      refine then_n ?_
      refine wp_cond_true (hA348.ev (i := 136) (v := .bool true)) ?_
      refine wp_seq ?_
      refine wp_region_lit ?_
      refine sx_val hA348 rfl (ev_assign (ec _ (.bool false)) _ rfl) ?_
      intro a349 hA349; clear hA348
      refine sx_nil ?_
      refine then_n ?_
      refine wp_ret ?_
      refine blk_r ?_
      refine then_r ?_
      refine then_r ?_
      refine blk_r ?_
      refine then_r ?_
      refine blk_r ?_
      refine then_r ?_
      refine then_r ?_
      refine blk_r ?_
      refine then_r ?_
      refine bodyPost_ret (rs_t (v := .bool false) Try.results6 hA349 (by kernel_rfl) ) hA349.2.1 ?_
      exact absurd (hjm k (by omega)) (by rw [fre_eq]; simp [rat, bat, hx3, hy3, hp323, hd346])
    rw [hd346] at hA345
    refine sx_val (hg := (.inr ⟨15, true, 129, rfl, rfl, by kernel_rfl⟩)) (v := .bool false) hA345 rfl (ev_notT (hA345.ev (i := 134) (v := .bool true)) _ rfl) ?_
    intro a350 hA350; clear hA345
    refine sx_val hA350 rfl (ev_pickT (hA350.ev (i := 129) (v := .bool true)) (hA350.ev (i := 135) (v := .bool false)) _ rfl) ?_
    intro a351 hA351; clear hA350
    refine sx_nil ?_
    refine then_n ?_
    refine wp_cond_false (hA351.ev (i := 136) (v := .bool false)) ?_
    refine wp_skip ?_
    refine blk_n ?_
    refine then_n ?_
    refine wp_region_lit ?_
    refine sx_val hA351 rfl (ev_move (hA351.ev (i := 20) (v := .int .i64 (k : Int))) _ rfl) ?_
    intro a352 hA352; clear hA351
    refine sx_val (v := .int .i64 ((k + 1 : Nat) : Int)) hA352 rfl (ev_addR (k := .i64) (m := (k : Int)) (n := 1) (r := ((k + 1 : Nat) : Int)) (hA352.ev (i := 89)) (ec _ (.int .i64 1)) (wr (by omega) (by omega) (by omega)) _ rfl) ?_
    intro a353 hA353; clear hA352
    refine sx_val hA353 rfl (ev_assign (hA353.ev (i := 90) (v := .int .i64 ((k + 1 : Nat) : Int))) _ rfl) ?_
    intro a354 hA354; clear hA353
    refine sx_nil ?_
    refine then_n ?_
    refine ⟨N - (k + 1), by omega, k + 1, rfl, ((((((((((((((((((((((((((((((((((((((((((((((((((((((((((((((Ag.nil hA354.1 hA354.2.1).cons (hA354.get (i := 19) (v := .int .i64 (sumr (stp g m).1.rs (k + 1))))).cons (hA354.get (i := 18) (v := .int .i64 ((usd (stp g m).1 (k + 1) : Nat) : Int)))).cons (hA354.get (i := 20) (v := .int .i64 ((k + 1 : Nat) : Int)))).cons (hA354.get (i := 85) (v := .bool false))).cons (hA354.get (i := 84) (v := .bool false))).cons (hA354.get (i := 83) (v := .int .i64 (N : Int)))).cons (hA354.get (i := 82) (v := .int .i64 ((stp g m).1.rs.length : Int)))).cons (hA354.get (i := 81) (v := .slice Ap5r9 (stp g m).1.rs.length cp5r9))).cons (hA354.get (i := 80) (v := .pointer (some ⟨N10r9, 0, none⟩)))).cons (hA354.get (i := 79) (v := .bool false))).cons (hA354.get (i := 78) (v := .bool false))).cons (hA354.get (i := 77) (v := .bool false))).cons (hA354.get (i := 76) (v := .int .i64 0))).cons (hA354.get (i := 75) (v := .bool false))).cons (hA354.get (i := 74) (v := .bool false))).cons (hA354.get (i := 73) (v := .int .i64 0))).cons (hA354.get (i := 17) (v := .int .i64 0))).cons (hA354.get (i := 16) (v := .int .i64 (sumr (stp g m).1.rs N)))).cons (hA354.get (i := 15) (v := .int .i64 ((cntS (opm (stp g m).1.bs) 0 N : Nat) : Int)))).cons (hA354.get (i := 14) (v := .int .i64 ((cfr (stp g m).1 N : Nat) : Int)))).cons (hA354.get (i := 72) (v := .int .i64 0))).cons (hA354.get (i := 71) (v := .int .i64 (sumr (stp g m).1.rs N)))).cons (hA354.get (i := 70) (v := .int .i64 ((cntS (opm (stp g m).1.bs) 0 N : Nat) : Int)))).cons (hA354.get (i := 69) (v := .int .i64 ((cfr (stp g m).1 N : Nat) : Int)))).cons (hA354.get (i := 66) (v := .tuple #[.int .i64 ((cfr (stp g m).1 N : Nat) : Int), .int .i64 ((cntS (opm (stp g m).1.bs) 0 N : Nat) : Int), .int .i64 (sumr (stp g m).1.rs N), .int .i64 0]))).cons (hA354.get (i := 68) (v := .tuple #[.int .i64 ((cfr (stp g m).1 N : Nat) : Int), .int .i64 ((cntS (opm (stp g m).1.bs) 0 N : Nat) : Int), .int .i64 (sumr (stp g m).1.rs N), .int .i64 0]))).cons (hA354.get (i := 67) (v := .agg #[.slice Ap5r9 (stp g m).1.rs.length cp5r9, .slice Aj5r9 (stp g m).1.bs.length cj5r9]))).cons (hA354.get (i := 12) (v := .int .i64 0))).cons (hA354.get (i := 65) (v := .int .i64 0))).cons (hA354.get (i := 64) (v := .int .i64 0))).cons (hA354.get (i := 61) (v := .tuple #[.int .i64 0, .int .i64 0]))).cons (hA354.get (i := 63) (v := .tuple #[.int .i64 0, .int .i64 0]))).cons (hA354.get (i := 62) (v := .agg #[.slice Ap5r9 (stp g m).1.rs.length cp5r9, .slice Aj5r9 (stp g m).1.bs.length cj5r9]))).cons (hA354.get (i := 60) (v := .bool false))).cons (hA354.get (i := 59) (v := .int .i64 (stp g m).2.2))).cons (hA354.get (i := 11) (v := .int .i64 (stp g m).2.2))).cons (hA354.get (i := 10) (v := .int .i64 (j : Int)))).cons (hA354.get (i := 9) (v := .pointer (some ⟨N10r9, 0, none⟩)))).cons (hA354.get (i := 58) (v := .int .i64 (stp g m).2.2))).cons (hA354.get (i := 57) (v := .int .i64 (j : Int)))).cons (hA354.get (i := 56) (v := .agg #[.slice Ap5r9 (stp g m).1.rs.length cp5r9, .slice Aj5r9 (stp g m).1.bs.length cj5r9]))).cons (hA354.get (i := 49) (v := .tuple #[.agg #[.slice Ap5r9 (stp g m).1.rs.length cp5r9, .slice Aj5r9 (stp g m).1.bs.length cj5r9], .int .i64 (j : Int), .int .i64 (stp g m).2.2]))).cons (hA354.get (i := 55) (v := .tuple #[.agg #[.slice Ap5r9 (stp g m).1.rs.length cp5r9, .slice Aj5r9 (stp g m).1.bs.length cj5r9], .int .i64 (j : Int), .int .i64 (stp g m).2.2]))).cons (hA354.get (i := 54) (v := .int .i64 x))).cons (hA354.get (i := 53) (v := .pointer (some (ad1.add (i * 1)))))).cons (hA354.get (i := 52) (v := .int .i64 (i : Int)))).cons (hA354.get (i := 51) (v := .slice A xs.length c))).cons (hA354.get (i := 50) (v := .agg #[.slice A1g g.rs.length c1g, .slice A2g g.bs.length c2g]))).cons (hA354.get (i := 46) (v := .bool true))).cons (hA354.get (i := 45) (v := .bool true))).cons (hA354.get (i := 44) (v := .int .i64 (i : Int)))).cons (hA354.get (i := 43) (v := .bool true))).cons (hA354.get (i := 42) (v := .bool true))).cons (hA354.get (i := 41) (v := .int .i64 (xs.length : Int)))).cons (hA354.get (i := 40) (v := .slice A xs.length c))).cons (hA354.get (i := 39) (v := .int .i64 (i : Int)))).cons (hA354.get (i := 8) (v := .int .i64 (i : Int)))).cons (hA354.get (i := 6) (v := .pointer (some ⟨B13, 0, none⟩)))).cons (hA354.get (i := 5) (v := .bool true))).cons (hA354.get (i := 1) (v := .slice A xs.length c))).cons (hA354.get (i := 0) (v := .int .i64 (N : Int)))), by omega, f108_0, f108_1, f108_2, f108_3, f108_4, f108_5, by omega, hbel108⟩
end Go.Proofs.Ytpoilgfblhacaaa
