/- The law: SlotsBack. -/
import Derived.Test.YtpoilgfblhacaaaKS
import Derived.Test.YtpoilgfblhacaaaKK
namespace Go.Proofs.Ytpoilgfblhacaaa
open Go.RowKit
set_option linter.unusedVariables false
set_option linter.unusedSimpArgs false
set_option maxRecDepth 100000

set_option maxHeartbeats 32000000 in
theorem SlotsBack_walk (n : Int) (A : Option Addr) (c : Nat) (xs : List Int) (wh : Int) (w : World) (hg : GR 1 iva w A c xs) : Calls Try.prog 7 #[.int .i64 n, .slice A xs.length c, .int .i64 wh] w (RetB w (.returned (.bool true))) := by
  obtain ⟨N, hN⟩ : ∃ N : Nat, 1 + n % 8 = (N : Int) := ⟨(1 + n % 8).toNat, by omega⟩
  have hN1 : 1 ≤ N := by omega
  have hN2 : N ≤ 8 := by omega
  obtain ⟨hw1, hw2, hw3, hw4⟩ := nws_ok hN1 (by omega)
  have hwl := hw2.len
  have hxl := hg.len
  have hd1 : decide ((nws (N : Int)).2 = 0) = true := decide_eq_true hw1
  have hd2 : decide (((nws (N : Int)).1.rs.length : Int) = (N : Int)) = true := decide_eq_true (by rw [hw3])
  have hk0 := Int.emod_nonneg wh (show (N : Int) ≠ 0 by omega)
  have hk1 := Int.emod_lt_of_pos wh (show (0 : Int) < (N : Int) by omega)
  obtain ⟨kn, hkn⟩ : ∃ kn : Nat, wh % (N : Int) = (kn : Int) := ⟨_, (Int.toNat_of_nonneg hk0).symm⟩
  rw [hkn] at hk1
  have hkl : kn < N := by omega
  have hbel0 := below0 w
  refine sx_enter (N := 251) [(0, .int .i64 n), (1, .slice A xs.length c), (2, .int .i64 wh)] Try.func7 rfl Try.ntmps7 (by simp) (fun a z d s => ((((Ag.nil z d).cons (s 2 _ rfl)).cons (s 1 _ rfl)).cons (s 0 _ rfl))) ?_
  intro a0 hA0
  refine wp_seq ?_
  refine wp_region_lit ?_
  refine sx_val hA0 rfl (ev_assign (ec _ (.bool false)) _ rfl) ?_
  intro a1 hA1; clear hA0
  refine sx_nil ?_
  refine then_n ?_
  refine wp_seq ?_
  refine wp_region_lit ?_
  refine sx_call (f := 5) (args := #[]) hA1 rfl (by decide) (.inl rfl) (ev_fn rfl (mp0 ) (by kernel_rfl) _ rfl) (Known_any _) ?_
  intro e2 w2 hR2
  obtain ⟨rfl, hb2⟩ := hR2
  refine ⟨_, rfl, ?_⟩
  intro a2 hA2
  clear hA1
  have hg2 := g0 hb2
  have hs2 := hg2.size
  clear hb2
  refine sx_val hA2 rfl (ev_assign (hA2.ev (i := 39) (v := .bool true)) _ rfl) ?_
  intro a3 hA3; clear hA2
  refine sx_nil ?_
  refine then_n ?_
  refine wp_seq ?_
  refine wp_region_lit ?_
  refine sx_val hA3 rfl (ev_move (hA3.ev (i := 0) (v := .int .i64 n)) _ rfl) ?_
  intro a4 hA4; clear hA3
  refine sx_call (f := 34) (args := #[.int .i64 n, .int .i64 8]) hA4 rfl (by decide) (.inl rfl) (ev_fn rfl (mp2 (hA4.ev (i := 40) (v := .int .i64 n)) (ec _ (.int .i64 8))) (by kernel_rfl) _ rfl) (Mod_any n 8 _ (by omega) (by omega)) ?_
  intro e5 w5 hR5
  obtain ⟨rfl, hb5⟩ := hR5
  refine ⟨_, rfl, ?_⟩
  intro a5 hA5
  clear hA4
  have hg5 := g0 hb5
  have hs5 := hg5.size
  clear hb5
  refine sx_val (v := .int .i64 (N : Int)) hA5 rfl (ev_addR (k := .i64) (m := 1) (n := (n % 8)) (r := (N : Int)) (ec _ (.int .i64 1)) (hA5.ev (i := 41)) (wr hN (by omega) (by omega)) _ rfl) ?_
  intro a6 hA6; clear hA5
  refine sx_val hA6 rfl (ev_assign (hA6.ev (i := 42) (v := .int .i64 (N : Int))) _ rfl) ?_
  intro a7 hA7; clear hA6
  refine sx_nil ?_
  refine then_n ?_
  refine wp_seq ?_
  refine wp_region_lit ?_
  refine sx_val hA7 rfl (ev_move (hA7.ev (i := 0) (v := .int .i64 (N : Int))) _ rfl) ?_
  intro a8 hA8; clear hA7
  refine sx_call (f := 28) (args := #[.int .i64 (N : Int)]) hA8 rfl (by decide) (.inl rfl) (ev_fn rfl (mp1 (hA8.ev (i := 44) (v := .int .i64 (N : Int)))) (by kernel_rfl) _ rfl) (New_any (N : Int) _) ?_
  intro e9 w9 hR9
  obtain ⟨Ap9, cp9, Aj9, cj9, rfl, hC9, hJ9, hb9⟩ := hR9
  refine ⟨_, rfl, ?_⟩
  intro a9 hA9
  clear hA8
  have hg9 := g0 hb9
  have hs9 := hg9.size
  clear hb9
  have ho9_0 : Own w9 (w5.heap.size) 3 1 (.slice Ap9 (nws (N : Int)).1.rs.length cp9) (nws (N : Int)).1.rs.length (flat iva (nws (N : Int)).1.rs) := hC9
  have hh9_0 := Own.hi ho9_0
  have ho9_1 : Own w9 (w5.heap.size) 4 1 (.slice Aj9 (nws (N : Int)).1.bs.length cj9) (nws (N : Int)).1.bs.length (flat bva (nws (N : Int)).1.bs) := hJ9
  have hh9_1 := Own.hi ho9_1
  refine sx_val hA9 rfl (ev_move (hA9.ev (i := 45) (v := .tuple #[.agg #[.slice Ap9 (nws (N : Int)).1.rs.length cp9, .slice Aj9 (nws (N : Int)).1.bs.length cj9], .int .i64 (nws (N : Int)).2])) _ rfl) ?_
  intro a10 hA10; clear hA9
  refine sx_val (v := .agg #[.slice Ap9 (nws (N : Int)).1.rs.length cp9, .slice Aj9 (nws (N : Int)).1.bs.length cj9]) hA10 rfl (ev_ext (hA10.ev (i := 43) (v := .tuple #[.agg #[.slice Ap9 (nws (N : Int)).1.rs.length cp9, .slice Aj9 (nws (N : Int)).1.bs.length cj9], .int .i64 (nws (N : Int)).2])) rfl _ rfl) ?_
  intro a11 hA11; clear hA10
  refine sx_val (v := .int .i64 (nws (N : Int)).2) hA11 rfl (ev_ext (hA11.ev (i := 43) (v := .tuple #[.agg #[.slice Ap9 (nws (N : Int)).1.rs.length cp9, .slice Aj9 (nws (N : Int)).1.bs.length cj9], .int .i64 (nws (N : Int)).2])) rfl _ rfl) ?_
  intro a12 hA12; clear hA11
  refine sx_new (cs := #[.slice none 0 0, .slice none 0 0]) (t := 25) hA12 rfl (by decide) (.inl rfl) (ev_alloc (z := .agg (#[.slice none 0 0, .slice none 0 0])) (by kernel_rfl) (by kernel_rfl) _ rfl) ?_
  intro B13 w13 a13 hB13 hx13 hg13 hA13
  clear hA12
  have hs13 := hg13.size
  have hl13 := hx13.lt
  refine sx_store hA13 rfl (.inl rfl) rfl (hA13.ev (i := 8) (v := .pointer (some ⟨B13, 0, none⟩))) (hA13.ev (i := 46) (v := .agg #[.slice Ap9 (nws (N : Int)).1.rs.length cp9, .slice Aj9 (nws (N : Int)).1.bs.length cj9])) hx13 (by kernel_rfl) rfl (by simp [Value.oneCell']) ?_
  intro w14 hx14 hg14
  have hs14 := hg14.size
  refine sx_val hA13 rfl (ev_assign (hA13.ev (i := 47) (v := .int .i64 (nws (N : Int)).2)) _ rfl) ?_
  intro a15 hA15; clear hA13
  refine sx_nil ?_
  refine then_n ?_
  refine wp_seq ?_
  refine wp_seq ?_
  refine wp_region_lit ?_
  refine sx_val hA15 rfl (ev_move (hA15.ev (i := 9) (v := .int .i64 (nws (N : Int)).2)) _ rfl) ?_
  intro a16 hA16; clear hA15
  refine sx_val (v := .bool false) hA16 rfl (ev_neqB (k := .i64) (m := (nws (N : Int)).2) (n := 0) (hA16.ev (i := 48)) (ec _ (.int .i64 0)) (by simpa using hd1) _ rfl) ?_
  intro a17 hA17; clear hA16
  refine sx_val hA17 rfl (ev_move (hA17.ev (i := 49) (v := .bool false)) _ rfl) ?_
  intro a18 hA18; clear hA17
  refine sx_val (hg := (.inr ⟨2, false, 50, rfl, rfl, by kernel_rfl⟩)) (v := .pointer (some ⟨B13, 0, none⟩)) hA18 rfl (fb_Slots_0 (hA18.ev (i := 8) (v := .pointer (some ⟨B13, 0, none⟩))) _ rfl) ?_
  intro a19 hA19; clear hA18
  refine sx_val (hg := (.inr ⟨2, false, 50, rfl, rfl, by kernel_rfl⟩)) (v := .slice Ap9 (nws (N : Int)).1.rs.length cp9) hA19 rfl (ev_cell (v := .slice Ap9 (nws (N : Int)).1.rs.length cp9) (hA19.ev (i := 51) (v := .pointer (some ⟨B13, 0, none⟩))) ((hx14.cell 0).trans rfl) Try.underlying22 rfl _ rfl) ?_
  intro a20 hA20; clear hA19
  refine sx_val (hg := (.inr ⟨2, false, 50, rfl, rfl, by kernel_rfl⟩)) (v := .int .i64 ((nws (N : Int)).1.rs.length : Int)) hA20 rfl (ev_len (hA20.ev (i := 52) (v := .slice Ap9 (nws (N : Int)).1.rs.length cp9)) Try.underlying22 _ rfl) ?_
  intro a21 hA21; clear hA20
  refine sx_val (hg := (.inr ⟨2, false, 50, rfl, rfl, by kernel_rfl⟩)) hA21 rfl (ev_move (hA21.ev (i := 0) (v := .int .i64 (N : Int))) _ rfl) ?_
  intro a22 hA22; clear hA21
  refine sx_val (hg := (.inr ⟨2, false, 50, rfl, rfl, by kernel_rfl⟩)) (v := .bool false) hA22 rfl (ev_neqB (k := .i64) (m := ((nws (N : Int)).1.rs.length : Int)) (n := (N : Int)) (hA22.ev (i := 53)) (hA22.ev (i := 54)) (by simpa using hd2) _ rfl) ?_
  intro a23 hA23; clear hA22
  refine sx_val hA23 rfl (ev_pickF (hA23.ev (i := 50) (v := .bool false)) (hA23.ev (i := 55) (v := .bool false)) _ rfl) ?_
  intro a24 hA24; clear hA23
  refine sx_nil ?_
  refine then_n ?_
  refine wp_cond_false (hA24.ev (i := 56) (v := .bool false)) ?_
  refine wp_skip ?_
  refine then_n ?_
  refine wp_seq ?_
  refine wp_seq ?_
  refine wp_region_lit ?_
  refine sx_val hA24 rfl (ev_assign (ec _ (.int .i64 0)) _ rfl) ?_
  intro a25 hA25; clear hA24
  refine sx_nil ?_
  refine then_n ?_
  refine wp_block ?_
  have hni := Nat.zero_le xs.length
  have ho9_27 := Own.gN ho9_0 hg13
  have ho9_28 := Own.gBT ho9_27 hg14 hx13 (by decide)
  have ho9_29 := Own.gN ho9_1 hg13
  have ho9_30 := Own.gBT ho9_29 hg14 hx13 (by decide)
  have hbel0_31 := Below.gN hbel0 hg2 hbel0.size
  have hbel0_32 := Below.gN hbel0_31 hg5 hbel0_31.size
  have hbel0_33 := Below.gN hbel0_32 hg9 hbel0_32.size
  have hbel0_34 := Below.gN hbel0_33 hg13 hbel0_33.size
  have hbel0_35 := Below.gB hbel0_34 hg14 hbel0_34.size (by omega)
  refine wp_loop_ghost (fun gz a wl => ∃ (i : Nat) (g : Ss) (A1g : Option Addr) (c1g : Nat) (A2g : Option Addr) (c2g : Nat), gz = 40 - i ∧ Ag a 251 [(0, .int .i64 (N : Int)), (1, .slice A xs.length c), (2, .int .i64 wh), (6, .bool false), (7, .bool true), (8, .pointer (some ⟨B13, 0, none⟩)), (10, .int .i64 (i : Int))] ∧ i ≤ 40 ∧ OkS g ∧ g.rs.length = N ∧ (∀ k, rat g k ≤ 3 + (i : Int)) ∧ Bx wl B13 25 #[.slice A1g g.rs.length c1g, .slice A2g g.bs.length c2g] ∧ Own wl (w.heap.size) 3 1 (.slice A1g g.rs.length c1g) g.rs.length (flat iva g.rs) ∧ Own wl (w.heap.size) 4 1 (.slice A2g g.bs.length c2g) g.bs.length (flat bva g.bs) ∧ w14.heap.size ≤ wl.heap.size ∧ Below w.heap.size w wl) (40 - 0) ⟨0, (nws (N : Int)).1, Ap9, cp9, Aj9, cj9, rfl, ((((((((Ag.nil hA25.1 hA25.2.1).cons (hA25.get (i := 10) (v := .int .i64 0))).cons (hA25.get (i := 8) (v := .pointer (some ⟨B13, 0, none⟩)))).cons (hA25.get (i := 7) (v := .bool true))).cons (hA25.get (i := 6) (v := .bool false))).cons (hA25.get (i := 2) (v := .int .i64 wh))).cons (hA25.get (i := 1) (v := .slice A xs.length c))).cons (hA25.get (i := 0) (v := .int .i64 (N : Int)))), Nat.zero_le _, hw2, hw3, (fun k => by have hz := hw4 k; omega), hx14, (Own.mono ho9_28 (by omega)), (Own.mono ho9_30 (by omega)), Nat.le_refl _, hbel0_35⟩ ?_
  intro n26 a26 w26 hI26
  obtain ⟨i, g, A1g, c1g, A2g, c2g, hn26, hA26, q26_0, q26_1, q26_2, q26_3, f26_0, f26_1, f26_2, hsz26, hbel26⟩ := hI26
  subst hn26
  clear hA25
  have hlB13_26 := f26_0.lt
  have hh26_0 := Own.hi f26_1
  have hh26_1 := Own.hi f26_2
  cases hd36 : decide ((i : Int) < (xs.length : Int))
  · have hp36 := of_decide_eq_false hd36
    have hgl := q26_1.len
    refine wp_seq ?_
    refine wp_seq ?_
    refine wp_region_lit ?_
    refine sx_val hA26 rfl (ev_move (hA26.ev (i := 10) (v := .int .i64 (i : Int))) _ rfl) ?_
    intro a37 hA37; clear hA26
    refine sx_val hA37 rfl (ev_move (hA37.ev (i := 1) (v := .slice A xs.length c)) _ rfl) ?_
    intro a38 hA38; clear hA37
    refine sx_val (v := .int .i64 (xs.length : Int)) hA38 rfl (ev_len (hA38.ev (i := 58) (v := .slice A xs.length c)) Try.underlying22 _ rfl) ?_
    intro a39 hA39; clear hA38
    refine sx_val (v := .bool false) hA39 rfl (ev_lssB (k := .i64) (m := (i : Int)) (n := (xs.length : Int)) (hA39.ev (i := 57)) (hA39.ev (i := 59)) hd36 _ rfl) ?_
    intro a40 hA40; clear hA39
    refine sx_val hA40 rfl (ev_move (hA40.ev (i := 60) (v := .bool false)) _ rfl) ?_
    intro a41 hA41; clear hA40
    refine sx_no (j := 4) (s := 61) (want := true) (b := false) hA41 rfl ?_
    intro a42 hA42; clear hA41
    refine sx_no (j := 4) (s := 61) (want := true) (b := false) hA42 rfl ?_
    intro a43 hA43; clear hA42
    refine sx_val hA43 rfl (ev_pickF (hA43.ev (i := 61) (v := .bool false)) (ec _ (.bool false)) _ rfl) ?_
    intro a44 hA44; clear hA43
    refine sx_nil ?_
    refine then_n ?_
    refine wp_cond_false (hA44.ev (i := 64) (v := .bool false)) ?_
    refine wp_exit ?_
    refine then_x ?_
    refine then_x ?_
    refine blk_hit ?_
    refine then_n ?_
    refine wp_seq ?_
    refine wp_region_lit ?_
    refine sx_val hA44 rfl (ev_move (hA44.ev (i := 2) (v := .int .i64 wh)) _ rfl) ?_
    intro a45 hA45; clear hA44
    refine sx_val hA45 rfl (ev_move (hA45.ev (i := 0) (v := .int .i64 (N : Int))) _ rfl) ?_
    intro a46 hA46; clear hA45
    obtain ⟨xk, hxk⟩ : ∃ xk, g.rs[kn]? = some xk := ⟨_, List.getElem?_eq_getElem (by omega)⟩
    obtain ⟨yk, hyk⟩ : ∃ yk, g.bs[kn]? = some yk := ⟨_, List.getElem?_eq_getElem (by omega)⟩
    refine sx_call (f := 34) (args := #[.int .i64 wh, .int .i64 (N : Int)]) hA46 rfl (by decide) (.inl rfl) (ev_fn rfl (mp2 (hA46.ev (i := 94) (v := .int .i64 wh)) (hA46.ev (i := 95) (v := .int .i64 (N : Int)))) (by kernel_rfl) _ rfl) (Mod_any wh (N : Int) _ (by omega) (by omega)) ?_
    intro e47 w47 hR47
    obtain ⟨he47, hb47⟩ := hR47
    rw [hkn] at he47
    subst he47
    refine ⟨_, rfl, ?_⟩
    intro a47 hA47
    clear hA46
    have hg47 := g0 hb47
    have hs47 := hg47.size
    clear hb47
    refine sx_val hA47 rfl (ev_assign (hA47.ev (i := 96) (v := .int .i64 (kn : Int))) _ rfl) ?_
    intro a48 hA48; clear hA47
    refine sx_nil ?_
    refine then_n ?_
    refine wp_seq ?_
    refine wp_seq ?_
    refine wp_region_lit ?_
    refine sx_val (v := .pointer (some ⟨B13, 0, none⟩)) hA48 rfl (fb_Slots_0 (hA48.ev (i := 8) (v := .pointer (some ⟨B13, 0, none⟩))) _ rfl) ?_
    intro a49 hA49; clear hA48
    have f26_50 := f26_0.gN hg47
    refine sx_val (v := .slice A1g g.rs.length c1g) hA49 rfl (ev_cell (v := .slice A1g g.rs.length c1g) (hA49.ev (i := 97) (v := .pointer (some ⟨B13, 0, none⟩))) ((f26_50.cell 0).trans rfl) Try.underlying22 rfl _ rfl) ?_
    intro a51 hA51; clear hA49
    refine sx_val hA51 rfl (ev_move (hA51.ev (i := 14) (v := .int .i64 (kn : Int))) _ rfl) ?_
    intro a52 hA52; clear hA51
    have f26_54 := Own.gN f26_1 hg47
    obtain ⟨ad53, hAd53⟩ := GR.adr (OwnR.gr (e := 3) ⟨rfl, f26_54⟩) iva_sz hxk
    refine sx_val (v := .pointer (some (ad53.add (kn * 1)))) hA52 rfl (ev_idx (k := kn) (hA52.ev (i := 98) (v := .slice A1g g.rs.length c1g)) hAd53 (hA52.ev (i := 99) (v := .int .i64 (kn : Int))) rfl (by omega) Try.underlying22 (by kernel_rfl) _ rfl) ?_
    intro a55 hA55; clear hA52
    refine sx_val (v := .int .i64 xk) hA55 rfl (ev_cell (hA55.ev (i := 100) (v := .pointer (some (ad53.add (kn * 1))))) ((GR.cel (OwnR.gr (e := 3) ⟨rfl, f26_54⟩) hAd53 iva_sz hxk) 0 _ rfl) Try.underlying3 rfl _ rfl) ?_
    intro a56 hA56; clear hA55
    cases hd57 : decide (xk = 0)
    rotate_left
    · have hp57 := of_decide_eq_true hd57
      refine sx_val (v := .bool true) hA56 rfl (ev_eqlB (k := .i64) (m := xk) (n := 0) (hA56.ev (i := 101)) (ec _ (.int .i64 0)) hd57 _ rfl) ?_
      intro a395 hA395; clear hA56
      refine sx_val hA395 rfl (ev_move (hA395.ev (i := 102) (v := .bool true)) _ rfl) ?_
      intro a396 hA396; clear hA395
      refine sx_val (hg := (.inr ⟨6, true, 103, rfl, rfl, by kernel_rfl⟩)) (v := .pointer (some ⟨B13, 1, none⟩)) hA396 rfl (fb_Slots_1 (hA396.ev (i := 8) (v := .pointer (some ⟨B13, 0, none⟩))) _ rfl) ?_
      intro a397 hA397; clear hA396
      refine sx_val (hg := (.inr ⟨6, true, 103, rfl, rfl, by kernel_rfl⟩)) (v := .slice A2g g.bs.length c2g) hA397 rfl (ev_cell (v := .slice A2g g.bs.length c2g) (hA397.ev (i := 104) (v := .pointer (some ⟨B13, 1, none⟩))) ((f26_50.cell 1).trans rfl) Try.underlying23 rfl _ rfl) ?_
      intro a398 hA398; clear hA397
      refine sx_val (hg := (.inr ⟨6, true, 103, rfl, rfl, by kernel_rfl⟩)) hA398 rfl (ev_move (hA398.ev (i := 14) (v := .int .i64 (kn : Int))) _ rfl) ?_
      intro a399 hA399; clear hA398
      have f26_401 := Own.gN f26_2 hg47
      obtain ⟨ad400, hAd400⟩ := GR.adr (OwnR.gr (e := 4) ⟨rfl, f26_401⟩) bva_sz hyk
      refine sx_val (hg := (.inr ⟨6, true, 103, rfl, rfl, by kernel_rfl⟩)) (v := .pointer (some (ad400.add (kn * 1)))) hA399 rfl (ev_idx (k := kn) (hA399.ev (i := 105) (v := .slice A2g g.bs.length c2g)) hAd400 (hA399.ev (i := 106) (v := .int .i64 (kn : Int))) rfl (by omega) Try.underlying23 (by kernel_rfl) _ rfl) ?_
      intro a402 hA402; clear hA399
      refine sx_val (hg := (.inr ⟨6, true, 103, rfl, rfl, by kernel_rfl⟩)) (v := .bool yk) hA402 rfl (ev_cell (hA402.ev (i := 107) (v := .pointer (some (ad400.add (kn * 1))))) ((GR.cel (OwnR.gr (e := 4) ⟨rfl, f26_401⟩) hAd400 bva_sz hyk) 0 _ rfl) Try.underlying4 rfl _ rfl) ?_
      intro a403 hA403; clear hA402
      cases hd404 : yk
      · rw [hd404] at hA403
        refine sx_val (hg := (.inr ⟨6, true, 103, rfl, rfl, by kernel_rfl⟩)) (v := .bool true) hA403 rfl (ev_notF (hA403.ev (i := 108) (v := .bool false)) _ rfl) ?_
        intro a405 hA405; clear hA403
        refine sx_val hA405 rfl (ev_pickT (hA405.ev (i := 103) (v := .bool true)) (hA405.ev (i := 109) (v := .bool true)) _ rfl) ?_
        intro a406 hA406; clear hA405
        refine sx_nil ?_
        refine then_n ?_
        refine wp_cond_true (hA406.ev (i := 110) (v := .bool true)) ?_
        refine wp_seq ?_
        refine wp_region_lit ?_
        refine sx_val (v := .agg #[.slice A1g g.rs.length c1g, .slice A2g g.bs.length c2g]) hA406 rfl (ev_row (hA406.ev (i := 8) (v := .pointer (some ⟨B13, 0, none⟩))) f26_50 Try.underlying25 rfl (n := 2) (by kernel_rfl) rfl _ rfl) ?_
        intro a407 hA407; clear hA406
        refine sx_val hA407 rfl (ev_move (hA407.ev (i := 14) (v := .int .i64 (kn : Int))) _ rfl) ?_
        intro a408 hA408; clear hA407
        have hfr : fre g kn = true := by rw [fre_eq]; simp [rat, bat, hxk, hyk, hp57, hd404]
        have hf410 : decide ((rff g (kn : Int)).2 = 9) = true := decide_eq_true (back0 q26_1 (by omega) hfr)
        refine sx_call (f := 11) (args := #[.agg #[.slice A1g g.rs.length c1g, .slice A2g g.bs.length c2g], .int .i64 (kn : Int)]) hA408 rfl (by decide) (.inl rfl) (ev_fn rfl (mp2 (hA408.ev (i := 112) (v := .agg #[.slice A1g g.rs.length c1g, .slice A2g g.bs.length c2g])) (hA408.ev (i := 113) (v := .int .i64 (kn : Int)))) (by kernel_rfl) _ rfl) (Ref_any A1g c1g A2g c2g g.rs g.bs (kn : Int) _ ⟨(OwnR.gr (e := 3) ⟨rfl, f26_54⟩), (OwnR.gr (e := 4) ⟨rfl, f26_401⟩)⟩ (by omega) (by omega)) ?_
        intro e409 w409 hR409
        obtain ⟨Ap409, cp409, Aj409, cj409, rfl, hC409, hJ409, hb409⟩ := hR409
        refine ⟨_, rfl, ?_⟩
        intro a409 hA409
        clear hA408
        have hg409 := g0 hb409
        have hs409 := hg409.size
        clear hb409
        have ho409_0 : Own w409 (w47.heap.size) 3 1 (.slice Ap409 (rff g (kn : Int)).1.rs.length cp409) (rff g (kn : Int)).1.rs.length (flat iva (rff g (kn : Int)).1.rs) := hC409
        have hh409_0 := Own.hi ho409_0
        have ho409_1 : Own w409 (w47.heap.size) 4 1 (.slice Aj409 (rff g (kn : Int)).1.bs.length cj409) (rff g (kn : Int)).1.bs.length (flat bva (rff g (kn : Int)).1.bs) := hJ409
        have hh409_1 := Own.hi ho409_1
        refine sx_val hA409 rfl (ev_move (hA409.ev (i := 114) (v := .tuple #[.agg #[.slice Ap409 (rff g (kn : Int)).1.rs.length cp409, .slice Aj409 (rff g (kn : Int)).1.bs.length cj409], .int .i64 (rff g (kn : Int)).2])) _ rfl) ?_
        intro a411 hA411; clear hA409
        refine sx_val (v := .agg #[.slice Ap409 (rff g (kn : Int)).1.rs.length cp409, .slice Aj409 (rff g (kn : Int)).1.bs.length cj409]) hA411 rfl (ev_ext (hA411.ev (i := 111) (v := .tuple #[.agg #[.slice Ap409 (rff g (kn : Int)).1.rs.length cp409, .slice Aj409 (rff g (kn : Int)).1.bs.length cj409], .int .i64 (rff g (kn : Int)).2])) rfl _ rfl) ?_
        intro a412 hA412; clear hA411
        refine sx_val (v := .int .i64 (rff g (kn : Int)).2) hA412 rfl (ev_ext (hA412.ev (i := 111) (v := .tuple #[.agg #[.slice Ap409 (rff g (kn : Int)).1.rs.length cp409, .slice Aj409 (rff g (kn : Int)).1.bs.length cj409], .int .i64 (rff g (kn : Int)).2])) rfl _ rfl) ?_
        intro a413 hA413; clear hA412
        refine sx_new (cs := #[.slice none 0 0, .slice none 0 0]) (t := 25) hA413 rfl (by decide) (.inl rfl) (ev_alloc (z := .agg (#[.slice none 0 0, .slice none 0 0])) (by kernel_rfl) (by kernel_rfl) _ rfl) ?_
        intro B414 w414 a414 hB414 hx414 hg414 hA414
        clear hA413
        have hs414 := hg414.size
        have hl414 := hx414.lt
        refine sx_store hA414 rfl (.inl rfl) rfl (hA414.ev (i := 15) (v := .pointer (some ⟨B414, 0, none⟩))) (hA414.ev (i := 115) (v := .agg #[.slice Ap409 (rff g (kn : Int)).1.rs.length cp409, .slice Aj409 (rff g (kn : Int)).1.bs.length cj409])) hx414 (by kernel_rfl) rfl (by simp [Value.oneCell']) ?_
        intro w415 hx415 hg415
        have hs415 := hg415.size
        refine sx_val hA414 rfl (ev_assign (hA414.ev (i := 116) (v := .int .i64 (rff g (kn : Int)).2)) _ rfl) ?_
        intro a416 hA416; clear hA414
        refine sx_nil ?_
        refine then_n ?_
        refine wp_seq ?_
        refine wp_region_lit ?_
        refine sx_val hA416 rfl (ev_move (hA416.ev (i := 7) (v := .bool true)) _ rfl) ?_
        intro a417 hA417; clear hA416
        refine sx_val hA417 rfl (ev_move (hA417.ev (i := 117) (v := .bool true)) _ rfl) ?_
        intro a418 hA418; clear hA417
        refine sx_val (hg := (.inr ⟨1, true, 118, rfl, rfl, by kernel_rfl⟩)) hA418 rfl (ev_move (hA418.ev (i := 16) (v := .int .i64 (rff g (kn : Int)).2)) _ rfl) ?_
        intro a419 hA419; clear hA418
        refine sx_val (hg := (.inr ⟨1, true, 118, rfl, rfl, by kernel_rfl⟩)) (v := .bool true) hA419 rfl (ev_eqlB (k := .i64) (m := (rff g (kn : Int)).2) (n := 9) (hA419.ev (i := 119)) (ec _ (.int .i64 9)) hf410 _ rfl) ?_
        intro a420 hA420; clear hA419
        refine sx_val hA420 rfl (ev_pickT (hA420.ev (i := 118) (v := .bool true)) (hA420.ev (i := 120) (v := .bool true)) _ rfl) ?_
        intro a421 hA421; clear hA420
        refine sx_val hA421 rfl (ev_assign (hA421.ev (i := 121) (v := .bool true)) _ rfl) ?_
        intro a422 hA422; clear hA421
        refine sx_nil ?_
        refine then_n ?_
        refine wp_ret ?_
        refine then_r ?_
        refine bodyPost_ret (rs_t (v := .bool true) Try.results7 hA422 (by kernel_rfl) ) hA422.2.1 ?_
        have hbel26_423 := Below.gN hbel26 hg47 hbel26.size
        have hbel26_424 := Below.gN hbel26_423 hg409 hbel26_423.size
        have hbel26_425 := Below.gN hbel26_424 hg414 hbel26_424.size
        have hbel26_426 := Below.gB hbel26_425 hg415 hbel26_425.size (by omega)
        exact ⟨rfl, hbel26_426⟩
      rw [hd404] at hA403
      refine sx_val (hg := (.inr ⟨6, true, 103, rfl, rfl, by kernel_rfl⟩)) (v := .bool false) hA403 rfl (ev_notT (hA403.ev (i := 108) (v := .bool true)) _ rfl) ?_
      intro a427 hA427; clear hA403
      refine sx_val hA427 rfl (ev_pickT (hA427.ev (i := 103) (v := .bool true)) (hA427.ev (i := 109) (v := .bool false)) _ rfl) ?_
      intro a428 hA428; clear hA427
      refine sx_nil ?_
      refine then_n ?_
      refine wp_cond_false (hA428.ev (i := 110) (v := .bool false)) ?_
      refine wp_skip ?_
      refine then_n ?_
      refine wp_seq ?_
      refine wp_region_lit ?_
      refine sx_val (v := .agg #[.slice A1g g.rs.length c1g, .slice A2g g.bs.length c2g]) hA428 rfl (ev_row (hA428.ev (i := 8) (v := .pointer (some ⟨B13, 0, none⟩))) f26_50 Try.underlying25 rfl (n := 2) (by kernel_rfl) rfl _ rfl) ?_
      intro a429 hA429; clear hA428
      refine sx_val hA429 rfl (ev_move (hA429.ev (i := 14) (v := .int .i64 (kn : Int))) _ rfl) ?_
      intro a430 hA430; clear hA429
      have hfr : fre g kn = false := by rw [fre_eq]; simp [rat, bat, hxk, hyk, hd404]
      have hrb := q26_3 kn
      have hb1 := back1 q26_1 (by omega) hfr (by omega)
      have hf432 : decide ((rff g (kn : Int)).2 = 0) = true := decide_eq_true hb1.1
      have hf433 : decide ((unr (rff g (kn : Int)).1 (kn : Int)).2.2 = 0) = true := decide_eq_true hb1.2.1
      refine sx_call (f := 11) (args := #[.agg #[.slice A1g g.rs.length c1g, .slice A2g g.bs.length c2g], .int .i64 (kn : Int)]) hA430 rfl (by decide) (.inl rfl) (ev_fn rfl (mp2 (hA430.ev (i := 123) (v := .agg #[.slice A1g g.rs.length c1g, .slice A2g g.bs.length c2g])) (hA430.ev (i := 124) (v := .int .i64 (kn : Int)))) (by kernel_rfl) _ rfl) (Ref_any A1g c1g A2g c2g g.rs g.bs (kn : Int) _ ⟨(OwnR.gr (e := 3) ⟨rfl, f26_54⟩), (OwnR.gr (e := 4) ⟨rfl, f26_401⟩)⟩ (by omega) (by omega)) ?_
      intro e431 w431 hR431
      obtain ⟨Ap431, cp431, Aj431, cj431, rfl, hC431, hJ431, hb431⟩ := hR431
      refine ⟨_, rfl, ?_⟩
      intro a431 hA431
      clear hA430
      have hg431 := g0 hb431
      have hs431 := hg431.size
      clear hb431
      have ho431_0 : Own w431 (w47.heap.size) 3 1 (.slice Ap431 (rff g (kn : Int)).1.rs.length cp431) (rff g (kn : Int)).1.rs.length (flat iva (rff g (kn : Int)).1.rs) := hC431
      have hh431_0 := Own.hi ho431_0
      have ho431_1 : Own w431 (w47.heap.size) 4 1 (.slice Aj431 (rff g (kn : Int)).1.bs.length cj431) (rff g (kn : Int)).1.bs.length (flat bva (rff g (kn : Int)).1.bs) := hJ431
      have hh431_1 := Own.hi ho431_1
      refine sx_val hA431 rfl (ev_move (hA431.ev (i := 125) (v := .tuple #[.agg #[.slice Ap431 (rff g (kn : Int)).1.rs.length cp431, .slice Aj431 (rff g (kn : Int)).1.bs.length cj431], .int .i64 (rff g (kn : Int)).2])) _ rfl) ?_
      intro a434 hA434; clear hA431
      refine sx_val (v := .agg #[.slice Ap431 (rff g (kn : Int)).1.rs.length cp431, .slice Aj431 (rff g (kn : Int)).1.bs.length cj431]) hA434 rfl (ev_ext (hA434.ev (i := 122) (v := .tuple #[.agg #[.slice Ap431 (rff g (kn : Int)).1.rs.length cp431, .slice Aj431 (rff g (kn : Int)).1.bs.length cj431], .int .i64 (rff g (kn : Int)).2])) rfl _ rfl) ?_
      intro a435 hA435; clear hA434
      refine sx_val (v := .int .i64 (rff g (kn : Int)).2) hA435 rfl (ev_ext (hA435.ev (i := 122) (v := .tuple #[.agg #[.slice Ap431 (rff g (kn : Int)).1.rs.length cp431, .slice Aj431 (rff g (kn : Int)).1.bs.length cj431], .int .i64 (rff g (kn : Int)).2])) rfl _ rfl) ?_
      intro a436 hA436; clear hA435
      refine sx_new (cs := #[.slice none 0 0, .slice none 0 0]) (t := 25) hA436 rfl (by decide) (.inl rfl) (ev_alloc (z := .agg (#[.slice none 0 0, .slice none 0 0])) (by kernel_rfl) (by kernel_rfl) _ rfl) ?_
      intro B437 w437 a437 hB437 hx437 hg437 hA437
      clear hA436
      have hs437 := hg437.size
      have hl437 := hx437.lt
      refine sx_store hA437 rfl (.inl rfl) rfl (hA437.ev (i := 17) (v := .pointer (some ⟨B437, 0, none⟩))) (hA437.ev (i := 126) (v := .agg #[.slice Ap431 (rff g (kn : Int)).1.rs.length cp431, .slice Aj431 (rff g (kn : Int)).1.bs.length cj431])) hx437 (by kernel_rfl) rfl (by simp [Value.oneCell']) ?_
      intro w438 hx438 hg438
      have hs438 := hg438.size
      refine sx_val hA437 rfl (ev_assign (hA437.ev (i := 127) (v := .int .i64 (rff g (kn : Int)).2)) _ rfl) ?_
      intro a439 hA439; clear hA437
      refine sx_nil ?_
      refine then_n ?_
      refine wp_seq ?_
      refine wp_region_lit ?_
      refine sx_val (v := .agg #[.slice Ap431 (rff g (kn : Int)).1.rs.length cp431, .slice Aj431 (rff g (kn : Int)).1.bs.length cj431]) hA439 rfl (ev_row (hA439.ev (i := 17) (v := .pointer (some ⟨B437, 0, none⟩))) hx438 Try.underlying25 rfl (n := 2) (by kernel_rfl) rfl _ rfl) ?_
      intro a440 hA440; clear hA439
      refine sx_val hA440 rfl (ev_move (hA440.ev (i := 14) (v := .int .i64 (kn : Int))) _ rfl) ?_
      intro a441 hA441; clear hA440
      have hln442_0 := rff_len g (kn : Int)
      have hlm442_0 := hln442_0.1
      replace hln442_0 := hln442_0.2
      have ho431_443 := Own.gN ho431_0 hg437
      have ho431_444 := Own.gBT ho431_443 hg438 hx437 (by decide)
      have ho431_445 := Own.gN ho431_1 hg437
      have ho431_446 := Own.gBT ho431_445 hg438 hx437 (by decide)
      refine sx_call (f := 14) (args := #[.agg #[.slice Ap431 (rff g (kn : Int)).1.rs.length cp431, .slice Aj431 (rff g (kn : Int)).1.bs.length cj431], .int .i64 (kn : Int)]) hA441 rfl (by decide) (.inl rfl) (ev_fn rfl (mp2 (hA441.ev (i := 129) (v := .agg #[.slice Ap431 (rff g (kn : Int)).1.rs.length cp431, .slice Aj431 (rff g (kn : Int)).1.bs.length cj431])) (hA441.ev (i := 130) (v := .int .i64 (kn : Int)))) (by kernel_rfl) _ rfl) (Unref_any Ap431 cp431 Aj431 cj431 (rff g (kn : Int)).1.rs (rff g (kn : Int)).1.bs (kn : Int) _ ⟨(OwnR.gr (e := 3) ⟨rfl, ho431_444⟩), (OwnR.gr (e := 4) ⟨rfl, ho431_446⟩)⟩ (by omega) (by omega)) ?_
      intro e442 w442 hR442
      obtain ⟨Ap442, cp442, Aj442, cj442, rfl, hC442, hJ442, hb442⟩ := hR442
      refine ⟨_, rfl, ?_⟩
      intro a442 hA442
      clear hA441
      have hg442 := g0 hb442
      have hs442 := hg442.size
      clear hb442
      have ho442_0 : Own w442 (w438.heap.size) 3 1 (.slice Ap442 (unr (rff g (kn : Int)).1 (kn : Int)).1.rs.length cp442) (unr (rff g (kn : Int)).1 (kn : Int)).1.rs.length (flat iva (unr (rff g (kn : Int)).1 (kn : Int)).1.rs) := hC442
      have hh442_0 := Own.hi ho442_0
      have ho442_1 : Own w442 (w438.heap.size) 4 1 (.slice Aj442 (unr (rff g (kn : Int)).1 (kn : Int)).1.bs.length cj442) (unr (rff g (kn : Int)).1 (kn : Int)).1.bs.length (flat bva (unr (rff g (kn : Int)).1 (kn : Int)).1.bs) := hJ442
      have hh442_1 := Own.hi ho442_1
      refine sx_val hA442 rfl (ev_move (hA442.ev (i := 131) (v := .tuple #[.agg #[.slice Ap442 (unr (rff g (kn : Int)).1 (kn : Int)).1.rs.length cp442, .slice Aj442 (unr (rff g (kn : Int)).1 (kn : Int)).1.bs.length cj442], .bool (unr (rff g (kn : Int)).1 (kn : Int)).2.1, .int .i64 (unr (rff g (kn : Int)).1 (kn : Int)).2.2])) _ rfl) ?_
      intro a447 hA447; clear hA442
      refine sx_val (v := .agg #[.slice Ap442 (unr (rff g (kn : Int)).1 (kn : Int)).1.rs.length cp442, .slice Aj442 (unr (rff g (kn : Int)).1 (kn : Int)).1.bs.length cj442]) hA447 rfl (ev_ext (hA447.ev (i := 128) (v := .tuple #[.agg #[.slice Ap442 (unr (rff g (kn : Int)).1 (kn : Int)).1.rs.length cp442, .slice Aj442 (unr (rff g (kn : Int)).1 (kn : Int)).1.bs.length cj442], .bool (unr (rff g (kn : Int)).1 (kn : Int)).2.1, .int .i64 (unr (rff g (kn : Int)).1 (kn : Int)).2.2])) rfl _ rfl) ?_
      intro a448 hA448; clear hA447
      refine sx_val (v := .bool (unr (rff g (kn : Int)).1 (kn : Int)).2.1) hA448 rfl (ev_ext (hA448.ev (i := 128) (v := .tuple #[.agg #[.slice Ap442 (unr (rff g (kn : Int)).1 (kn : Int)).1.rs.length cp442, .slice Aj442 (unr (rff g (kn : Int)).1 (kn : Int)).1.bs.length cj442], .bool (unr (rff g (kn : Int)).1 (kn : Int)).2.1, .int .i64 (unr (rff g (kn : Int)).1 (kn : Int)).2.2])) rfl _ rfl) ?_
      intro a449 hA449; clear hA448
      refine sx_val (v := .int .i64 (unr (rff g (kn : Int)).1 (kn : Int)).2.2) hA449 rfl (ev_ext (hA449.ev (i := 128) (v := .tuple #[.agg #[.slice Ap442 (unr (rff g (kn : Int)).1 (kn : Int)).1.rs.length cp442, .slice Aj442 (unr (rff g (kn : Int)).1 (kn : Int)).1.bs.length cj442], .bool (unr (rff g (kn : Int)).1 (kn : Int)).2.1, .int .i64 (unr (rff g (kn : Int)).1 (kn : Int)).2.2])) rfl _ rfl) ?_
      intro a450 hA450; clear hA449
      refine sx_new (cs := #[.slice none 0 0, .slice none 0 0]) (t := 25) hA450 rfl (by decide) (.inl rfl) (ev_alloc (z := .agg (#[.slice none 0 0, .slice none 0 0])) (by kernel_rfl) (by kernel_rfl) _ rfl) ?_
      intro B451 w451 a451 hB451 hx451 hg451 hA451
      clear hA450
      have hs451 := hg451.size
      have hl451 := hx451.lt
      refine sx_store hA451 rfl (.inl rfl) rfl (hA451.ev (i := 19) (v := .pointer (some ⟨B451, 0, none⟩))) (hA451.ev (i := 132) (v := .agg #[.slice Ap442 (unr (rff g (kn : Int)).1 (kn : Int)).1.rs.length cp442, .slice Aj442 (unr (rff g (kn : Int)).1 (kn : Int)).1.bs.length cj442])) hx451 (by kernel_rfl) rfl (by simp [Value.oneCell']) ?_
      intro w452 hx452 hg452
      have hs452 := hg452.size
      refine sx_val hA451 rfl (ev_assign (hA451.ev (i := 133) (v := .bool (unr (rff g (kn : Int)).1 (kn : Int)).2.1)) _ rfl) ?_
      intro a453 hA453; clear hA451
      refine sx_val hA453 rfl (ev_assign (hA453.ev (i := 134) (v := .int .i64 (unr (rff g (kn : Int)).1 (kn : Int)).2.2)) _ rfl) ?_
      intro a454 hA454; clear hA453
      refine sx_nil ?_
      refine then_n ?_
      refine wp_seq ?_
      refine wp_seq ?_
      refine wp_region_lit ?_
      refine sx_val hA454 rfl (ev_move (hA454.ev (i := 18) (v := .int .i64 (rff g (kn : Int)).2)) _ rfl) ?_
      intro a455 hA455; clear hA454
      refine sx_val (v := .bool false) hA455 rfl (ev_neqB (k := .i64) (m := (rff g (kn : Int)).2) (n := 0) (hA455.ev (i := 135)) (ec _ (.int .i64 0)) (by simpa using hf432) _ rfl) ?_
      intro a456 hA456; clear hA455
      refine sx_val hA456 rfl (ev_move (hA456.ev (i := 136) (v := .bool false)) _ rfl) ?_
      intro a457 hA457; clear hA456
      refine sx_val (hg := (.inr ⟨2, false, 137, rfl, rfl, by kernel_rfl⟩)) hA457 rfl (ev_move (hA457.ev (i := 21) (v := .int .i64 (unr (rff g (kn : Int)).1 (kn : Int)).2.2)) _ rfl) ?_
      intro a458 hA458; clear hA457
      refine sx_val (hg := (.inr ⟨2, false, 137, rfl, rfl, by kernel_rfl⟩)) (v := .bool false) hA458 rfl (ev_neqB (k := .i64) (m := (unr (rff g (kn : Int)).1 (kn : Int)).2.2) (n := 0) (hA458.ev (i := 138)) (ec _ (.int .i64 0)) (by simpa using hf433) _ rfl) ?_
      intro a459 hA459; clear hA458
      refine sx_val hA459 rfl (ev_pickF (hA459.ev (i := 137) (v := .bool false)) (hA459.ev (i := 139) (v := .bool false)) _ rfl) ?_
      intro a460 hA460; clear hA459
      refine sx_val hA460 rfl (ev_move (hA460.ev (i := 140) (v := .bool false)) _ rfl) ?_
      intro a461 hA461; clear hA460
      refine sx_val (hg := (.inr ⟨6, false, 141, rfl, rfl, by kernel_rfl⟩)) (v := .agg #[.slice Ap442 (unr (rff g (kn : Int)).1 (kn : Int)).1.rs.length cp442, .slice Aj442 (unr (rff g (kn : Int)).1 (kn : Int)).1.bs.length cj442]) hA461 rfl (ev_row (hA461.ev (i := 19) (v := .pointer (some ⟨B451, 0, none⟩))) hx452 Try.underlying25 rfl (n := 2) (by kernel_rfl) rfl _ rfl) ?_
      intro a462 hA462; clear hA461
      have f26_463 := f26_50.gN hg431
      have f26_464 := f26_463.gN hg437
      have f26_465 := f26_464.gB hg438 (by omega)
      have f26_466 := f26_465.gN hg442
      have f26_467 := f26_466.gN hg451
      have f26_468 := f26_467.gB hg452 (by omega)
      refine sx_val (hg := (.inr ⟨6, false, 141, rfl, rfl, by kernel_rfl⟩)) (v := .agg #[.slice A1g g.rs.length c1g, .slice A2g g.bs.length c2g]) hA462 rfl (ev_row (hA462.ev (i := 8) (v := .pointer (some ⟨B13, 0, none⟩))) f26_468 Try.underlying25 rfl (n := 2) (by kernel_rfl) rfl _ rfl) ?_
      intro a469 hA469; clear hA462
      have ho442_471 := Own.gN ho442_0 hg451
      have ho442_472 := Own.gBT ho442_471 hg452 hx451 (by decide)
      have ho442_473 := Own.gN ho442_1 hg451
      have ho442_474 := Own.gBT ho442_473 hg452 hx451 (by decide)
      have f26_475 := Own.gN f26_54 hg431
      have f26_476 := Own.gN f26_475 hg437
      have f26_477 := Own.gBT f26_476 hg438 hx437 (by decide)
      have f26_478 := Own.gN f26_477 hg442
      have f26_479 := Own.gN f26_478 hg451
      have f26_480 := Own.gBT f26_479 hg452 hx451 (by decide)
      have f26_481 := Own.gN f26_401 hg431
      have f26_482 := Own.gN f26_481 hg437
      have f26_483 := Own.gBT f26_482 hg438 hx437 (by decide)
      have f26_484 := Own.gN f26_483 hg442
      have f26_485 := Own.gN f26_484 hg451
      have f26_486 := Own.gBT f26_485 hg452 hx451 (by decide)
      refine sx_call (f := 13) (args := #[.agg #[.slice Ap442 (unr (rff g (kn : Int)).1 (kn : Int)).1.rs.length cp442, .slice Aj442 (unr (rff g (kn : Int)).1 (kn : Int)).1.bs.length cj442], .agg #[.slice A1g g.rs.length c1g, .slice A2g g.bs.length c2g]]) hA469 rfl (by decide) (.inr ⟨6, false, 141, rfl, rfl, by kernel_rfl⟩) (ev_fn rfl (mp2 (hA469.ev (i := 142) (v := .agg #[.slice Ap442 (unr (rff g (kn : Int)).1 (kn : Int)).1.rs.length cp442, .slice Aj442 (unr (rff g (kn : Int)).1 (kn : Int)).1.bs.length cj442])) (hA469.ev (i := 143) (v := .agg #[.slice A1g g.rs.length c1g, .slice A2g g.bs.length c2g]))) (by kernel_rfl) _ rfl) (SameSlots_any Ap442 cp442 Aj442 cj442 (unr (rff g (kn : Int)).1 (kn : Int)).1.rs (unr (rff g (kn : Int)).1 (kn : Int)).1.bs A1g c1g A2g c2g g.rs g.bs _ ⟨(OwnR.gr (e := 3) ⟨rfl, ho442_472⟩), (OwnR.gr (e := 4) ⟨rfl, ho442_474⟩)⟩ ⟨(OwnR.gr (e := 3) ⟨rfl, f26_480⟩), (OwnR.gr (e := 4) ⟨rfl, f26_486⟩)⟩) ?_
      intro e470 w470 hR470
      obtain ⟨hv470, hb470⟩ := hR470
      rw [show sme (unr (rff g (kn : Int)).1 (kn : Int)).1 g = true from (by rw [hb1.2.2]; exact sme_refl _)] at hv470
      subst hv470
      refine ⟨_, rfl, ?_⟩
      intro a470 hA470
      clear hA469
      have hg470 := g0 hb470
      have hs470 := hg470.size
      clear hb470
      refine sx_val (hg := (.inr ⟨6, false, 141, rfl, rfl, by kernel_rfl⟩)) (v := .bool false) hA470 rfl (ev_notT (hA470.ev (i := 144) (v := .bool true)) _ rfl) ?_
      intro a487 hA487; clear hA470
      refine sx_val hA487 rfl (ev_pickF (hA487.ev (i := 141) (v := .bool false)) (hA487.ev (i := 145) (v := .bool false)) _ rfl) ?_
      intro a488 hA488; clear hA487
      refine sx_nil ?_
      refine then_n ?_
      refine wp_cond_false (hA488.ev (i := 146) (v := .bool false)) ?_
      refine wp_skip ?_
      refine then_n ?_
      refine wp_seq ?_
      refine wp_seq ?_
      refine wp_region_lit ?_
      refine sx_val (v := .pointer (some ⟨B13, 1, none⟩)) hA488 rfl (fb_Slots_1 (hA488.ev (i := 8) (v := .pointer (some ⟨B13, 0, none⟩))) _ rfl) ?_
      intro a489 hA489; clear hA488
      have f26_490 := f26_468.gN hg470
      refine sx_val (v := .slice A2g g.bs.length c2g) hA489 rfl (ev_cell (v := .slice A2g g.bs.length c2g) (hA489.ev (i := 147) (v := .pointer (some ⟨B13, 1, none⟩))) ((f26_490.cell 1).trans rfl) Try.underlying23 rfl _ rfl) ?_
      intro a491 hA491; clear hA489
      refine sx_val hA491 rfl (ev_move (hA491.ev (i := 14) (v := .int .i64 (kn : Int))) _ rfl) ?_
      intro a492 hA492; clear hA491
      refine sx_val (v := .pointer (some (ad400.add (kn * 1)))) hA492 rfl (ev_idx (k := kn) (hA492.ev (i := 148) (v := .slice A2g g.bs.length c2g)) hAd400 (hA492.ev (i := 149) (v := .int .i64 (kn : Int))) rfl (by omega) Try.underlying23 (by kernel_rfl) _ rfl) ?_
      intro a493 hA493; clear hA492
      have f26_494 := Own.gN f26_486 hg470
      refine sx_val (v := .bool yk) hA493 rfl (ev_cell (hA493.ev (i := 150) (v := .pointer (some (ad400.add (kn * 1))))) ((GR.cel (OwnR.gr (e := 4) ⟨rfl, f26_494⟩) hAd400 bva_sz hyk) 0 _ rfl) Try.underlying4 rfl _ rfl) ?_
      intro a495 hA495; clear hA493
      rw [hd404] at hA495
      refine sx_val (v := .bool false) hA495 rfl (ev_notT (hA495.ev (i := 151) (v := .bool true)) _ rfl) ?_
      intro a496 hA496; clear hA495
      refine sx_nil ?_
      refine then_n ?_
      refine wp_cond_false (hA496.ev (i := 152) (v := .bool false)) ?_
      refine wp_skip ?_
      refine then_n ?_
      refine wp_seq ?_
      refine wp_seq ?_
      refine wp_region_lit ?_
      refine sx_val (v := .pointer (some ⟨B13, 0, none⟩)) hA496 rfl (fb_Slots_0 (hA496.ev (i := 8) (v := .pointer (some ⟨B13, 0, none⟩))) _ rfl) ?_
      intro a497 hA497; clear hA496
      refine sx_val (v := .slice A1g g.rs.length c1g) hA497 rfl (ev_cell (v := .slice A1g g.rs.length c1g) (hA497.ev (i := 180) (v := .pointer (some ⟨B13, 0, none⟩))) ((f26_490.cell 0).trans rfl) Try.underlying22 rfl _ rfl) ?_
      intro a498 hA498; clear hA497
      refine sx_val hA498 rfl (ev_move (hA498.ev (i := 14) (v := .int .i64 (kn : Int))) _ rfl) ?_
      intro a499 hA499; clear hA498
      refine sx_val (v := .pointer (some (ad53.add (kn * 1)))) hA499 rfl (ev_idx (k := kn) (hA499.ev (i := 181) (v := .slice A1g g.rs.length c1g)) hAd53 (hA499.ev (i := 182) (v := .int .i64 (kn : Int))) rfl (by omega) Try.underlying22 (by kernel_rfl) _ rfl) ?_
      intro a500 hA500; clear hA499
      have f26_501 := Own.gN f26_480 hg470
      refine sx_val (v := .int .i64 xk) hA500 rfl (ev_cell (hA500.ev (i := 183) (v := .pointer (some (ad53.add (kn * 1))))) ((GR.cel (OwnR.gr (e := 3) ⟨rfl, f26_501⟩) hAd53 iva_sz hxk) 0 _ rfl) Try.underlying3 rfl _ rfl) ?_
      intro a502 hA502; clear hA500
      cases hd503 : decide (xk = 1)
      · have hp503 := of_decide_eq_false hd503
        refine sx_val (v := .bool true) hA502 rfl (ev_neqB (k := .i64) (m := xk) (n := 1) (hA502.ev (i := 184)) (ec _ (.int .i64 1)) (by simpa using hd503) _ rfl) ?_
        intro a504 hA504; clear hA502
        refine sx_nil ?_
        refine then_n ?_
        refine wp_cond_true (hA504.ev (i := 185) (v := .bool true)) ?_
        refine wp_seq ?_
        refine wp_region_lit ?_
        refine sx_val hA504 rfl (ev_move (hA504.ev (i := 7) (v := .bool true)) _ rfl) ?_
        intro a505 hA505; clear hA504
        refine sx_val hA505 rfl (ev_assign (hA505.ev (i := 186) (v := .bool true)) _ rfl) ?_
        intro a506 hA506; clear hA505
        refine sx_nil ?_
        refine then_n ?_
        refine wp_ret ?_
        refine then_r ?_
        refine bodyPost_ret (rs_t (v := .bool true) Try.results7 hA506 (by kernel_rfl) ) hA506.2.1 ?_
        have hbel26_507 := Below.gN hbel26 hg47 hbel26.size
        have hbel26_508 := Below.gN hbel26_507 hg431 hbel26_507.size
        have hbel26_509 := Below.gN hbel26_508 hg437 hbel26_508.size
        have hbel26_510 := Below.gB hbel26_509 hg438 hbel26_509.size (by omega)
        have hbel26_511 := Below.gN hbel26_510 hg442 hbel26_510.size
        have hbel26_512 := Below.gN hbel26_511 hg451 hbel26_511.size
        have hbel26_513 := Below.gB hbel26_512 hg452 hbel26_512.size (by omega)
        have hbel26_514 := Below.gN hbel26_513 hg470 hbel26_513.size
        exact ⟨rfl, hbel26_514⟩
      have hp503 := of_decide_eq_true hd503
      refine sx_val (v := .bool false) hA502 rfl (ev_neqB (k := .i64) (m := xk) (n := 1) (hA502.ev (i := 184)) (ec _ (.int .i64 1)) (by simpa using hd503) _ rfl) ?_
      intro a515 hA515; clear hA502
      refine sx_nil ?_
      refine then_n ?_
      refine wp_cond_false (hA515.ev (i := 185) (v := .bool false)) ?_
      refine wp_skip ?_
      refine then_n ?_
      refine wp_seq ?_
      refine wp_region_lit ?_
      refine sx_val (v := .agg #[.slice A1g g.rs.length c1g, .slice A2g g.bs.length c2g]) hA515 rfl (ev_row (hA515.ev (i := 8) (v := .pointer (some ⟨B13, 0, none⟩))) f26_490 Try.underlying25 rfl (n := 2) (by kernel_rfl) rfl _ rfl) ?_
      intro a516 hA516; clear hA515
      refine sx_val hA516 rfl (ev_move (hA516.ev (i := 14) (v := .int .i64 (kn : Int))) _ rfl) ?_
      intro a517 hA517; clear hA516
      have hbt : bat g kn = true := by simp [bat, hyk, hd404]
      have hr1 : rat g kn = 1 := by simp [rat, hxk, hp503]
      obtain ⟨he1, he2, he3, he4, he5, he6, he7, he8, he9⟩ := back3 q26_1 (by omega) hbt hr1
      have hf519 : decide ((unr g (kn : Int)).2.2 = 0) = true := decide_eq_true he1
      have hf520 : decide ((stl (unr g (kn : Int)).1 (kn : Int)).2.2 = 0) = true := decide_eq_true he2
      have hf521 : decide ((stl g (kn : Int)).2.2 = 0) = true := decide_eq_true he3
      have hf522 : decide ((unr (stl g (kn : Int)).1 (kn : Int)).2.2 = 0) = true := decide_eq_true he4
      refine sx_call (f := 14) (args := #[.agg #[.slice A1g g.rs.length c1g, .slice A2g g.bs.length c2g], .int .i64 (kn : Int)]) hA517 rfl (by decide) (.inl rfl) (ev_fn rfl (mp2 (hA517.ev (i := 188) (v := .agg #[.slice A1g g.rs.length c1g, .slice A2g g.bs.length c2g])) (hA517.ev (i := 189) (v := .int .i64 (kn : Int)))) (by kernel_rfl) _ rfl) (Unref_any A1g c1g A2g c2g g.rs g.bs (kn : Int) _ ⟨(OwnR.gr (e := 3) ⟨rfl, f26_501⟩), (OwnR.gr (e := 4) ⟨rfl, f26_494⟩)⟩ (by omega) (by omega)) ?_
      intro e518 w518 hR518
      obtain ⟨Ap518, cp518, Aj518, cj518, rfl, hC518, hJ518, hb518⟩ := hR518
      refine ⟨_, rfl, ?_⟩
      intro a518 hA518
      clear hA517
      have hg518 := g0 hb518
      have hs518 := hg518.size
      clear hb518
      have ho518_0 : Own w518 (w470.heap.size) 3 1 (.slice Ap518 (unr g (kn : Int)).1.rs.length cp518) (unr g (kn : Int)).1.rs.length (flat iva (unr g (kn : Int)).1.rs) := hC518
      have hh518_0 := Own.hi ho518_0
      have ho518_1 : Own w518 (w470.heap.size) 4 1 (.slice Aj518 (unr g (kn : Int)).1.bs.length cj518) (unr g (kn : Int)).1.bs.length (flat bva (unr g (kn : Int)).1.bs) := hJ518
      have hh518_1 := Own.hi ho518_1
      refine sx_val hA518 rfl (ev_move (hA518.ev (i := 190) (v := .tuple #[.agg #[.slice Ap518 (unr g (kn : Int)).1.rs.length cp518, .slice Aj518 (unr g (kn : Int)).1.bs.length cj518], .bool (unr g (kn : Int)).2.1, .int .i64 (unr g (kn : Int)).2.2])) _ rfl) ?_
      intro a523 hA523; clear hA518
      rw [he5] at hA523
      refine sx_val (v := .agg #[.slice Ap518 (unr g (kn : Int)).1.rs.length cp518, .slice Aj518 (unr g (kn : Int)).1.bs.length cj518]) hA523 rfl (ev_ext (hA523.ev (i := 187) (v := .tuple #[.agg #[.slice Ap518 (unr g (kn : Int)).1.rs.length cp518, .slice Aj518 (unr g (kn : Int)).1.bs.length cj518], .bool false, .int .i64 (unr g (kn : Int)).2.2])) rfl _ rfl) ?_
      intro a524 hA524; clear hA523
      refine sx_val (v := .bool false) hA524 rfl (ev_ext (hA524.ev (i := 187) (v := .tuple #[.agg #[.slice Ap518 (unr g (kn : Int)).1.rs.length cp518, .slice Aj518 (unr g (kn : Int)).1.bs.length cj518], .bool false, .int .i64 (unr g (kn : Int)).2.2])) rfl _ rfl) ?_
      intro a525 hA525; clear hA524
      refine sx_val (v := .int .i64 (unr g (kn : Int)).2.2) hA525 rfl (ev_ext (hA525.ev (i := 187) (v := .tuple #[.agg #[.slice Ap518 (unr g (kn : Int)).1.rs.length cp518, .slice Aj518 (unr g (kn : Int)).1.bs.length cj518], .bool false, .int .i64 (unr g (kn : Int)).2.2])) rfl _ rfl) ?_
      intro a526 hA526; clear hA525
      refine sx_new (cs := #[.slice none 0 0, .slice none 0 0]) (t := 25) hA526 rfl (by decide) (.inl rfl) (ev_alloc (z := .agg (#[.slice none 0 0, .slice none 0 0])) (by kernel_rfl) (by kernel_rfl) _ rfl) ?_
      intro B527 w527 a527 hB527 hx527 hg527 hA527
      clear hA526
      have hs527 := hg527.size
      have hl527 := hx527.lt
      refine sx_store hA527 rfl (.inl rfl) rfl (hA527.ev (i := 27) (v := .pointer (some ⟨B527, 0, none⟩))) (hA527.ev (i := 191) (v := .agg #[.slice Ap518 (unr g (kn : Int)).1.rs.length cp518, .slice Aj518 (unr g (kn : Int)).1.bs.length cj518])) hx527 (by kernel_rfl) rfl (by simp [Value.oneCell']) ?_
      intro w528 hx528 hg528
      have hs528 := hg528.size
      refine sx_val hA527 rfl (ev_assign (hA527.ev (i := 192) (v := .bool false)) _ rfl) ?_
      intro a529 hA529; clear hA527
      refine sx_val hA529 rfl (ev_assign (hA529.ev (i := 193) (v := .int .i64 (unr g (kn : Int)).2.2)) _ rfl) ?_
      intro a530 hA530; clear hA529
      refine sx_nil ?_
      refine then_n ?_
      refine wp_seq ?_
      refine wp_region_lit ?_
      refine sx_val (v := .agg #[.slice Ap518 (unr g (kn : Int)).1.rs.length cp518, .slice Aj518 (unr g (kn : Int)).1.bs.length cj518]) hA530 rfl (ev_row (hA530.ev (i := 27) (v := .pointer (some ⟨B527, 0, none⟩))) hx528 Try.underlying25 rfl (n := 2) (by kernel_rfl) rfl _ rfl) ?_
      intro a531 hA531; clear hA530
      refine sx_val hA531 rfl (ev_move (hA531.ev (i := 14) (v := .int .i64 (kn : Int))) _ rfl) ?_
      intro a532 hA532; clear hA531
      have hln533_0 := unr_len g (kn : Int)
      have hlm533_0 := hln533_0.1
      replace hln533_0 := hln533_0.2
      have ho518_534 := Own.gN ho518_0 hg527
      have ho518_535 := Own.gBT ho518_534 hg528 hx527 (by decide)
      have ho518_536 := Own.gN ho518_1 hg527
      have ho518_537 := Own.gBT ho518_536 hg528 hx527 (by decide)
      refine sx_call (f := 18) (args := #[.agg #[.slice Ap518 (unr g (kn : Int)).1.rs.length cp518, .slice Aj518 (unr g (kn : Int)).1.bs.length cj518], .int .i64 (kn : Int)]) hA532 rfl (by decide) (.inl rfl) (ev_fn rfl (mp2 (hA532.ev (i := 195) (v := .agg #[.slice Ap518 (unr g (kn : Int)).1.rs.length cp518, .slice Aj518 (unr g (kn : Int)).1.bs.length cj518])) (hA532.ev (i := 196) (v := .int .i64 (kn : Int)))) (by kernel_rfl) _ rfl) (Settle_any Ap518 cp518 Aj518 cj518 (unr g (kn : Int)).1.rs (unr g (kn : Int)).1.bs (kn : Int) _ ⟨(OwnR.gr (e := 3) ⟨rfl, ho518_535⟩), (OwnR.gr (e := 4) ⟨rfl, ho518_537⟩)⟩ (by omega) (by omega)) ?_
      intro e533 w533 hR533
      obtain ⟨Ap533, cp533, Aj533, cj533, rfl, hC533, hJ533, hb533⟩ := hR533
      refine ⟨_, rfl, ?_⟩
      intro a533 hA533
      clear hA532
      have hg533 := g0 hb533
      have hs533 := hg533.size
      clear hb533
      have ho533_0 : Own w533 (w528.heap.size) 3 1 (.slice Ap533 (stl (unr g (kn : Int)).1 (kn : Int)).1.rs.length cp533) (stl (unr g (kn : Int)).1 (kn : Int)).1.rs.length (flat iva (stl (unr g (kn : Int)).1 (kn : Int)).1.rs) := hC533
      have hh533_0 := Own.hi ho533_0
      have ho533_1 : Own w533 (w528.heap.size) 4 1 (.slice Aj533 (stl (unr g (kn : Int)).1 (kn : Int)).1.bs.length cj533) (stl (unr g (kn : Int)).1 (kn : Int)).1.bs.length (flat bva (stl (unr g (kn : Int)).1 (kn : Int)).1.bs) := hJ533
      have hh533_1 := Own.hi ho533_1
      refine sx_val hA533 rfl (ev_move (hA533.ev (i := 197) (v := .tuple #[.agg #[.slice Ap533 (stl (unr g (kn : Int)).1 (kn : Int)).1.rs.length cp533, .slice Aj533 (stl (unr g (kn : Int)).1 (kn : Int)).1.bs.length cj533], .bool (stl (unr g (kn : Int)).1 (kn : Int)).2.1, .int .i64 (stl (unr g (kn : Int)).1 (kn : Int)).2.2])) _ rfl) ?_
      intro a538 hA538; clear hA533
      rw [he6] at hA538
      refine sx_val (v := .agg #[.slice Ap533 (stl (unr g (kn : Int)).1 (kn : Int)).1.rs.length cp533, .slice Aj533 (stl (unr g (kn : Int)).1 (kn : Int)).1.bs.length cj533]) hA538 rfl (ev_ext (hA538.ev (i := 194) (v := .tuple #[.agg #[.slice Ap533 (stl (unr g (kn : Int)).1 (kn : Int)).1.rs.length cp533, .slice Aj533 (stl (unr g (kn : Int)).1 (kn : Int)).1.bs.length cj533], .bool true, .int .i64 (stl (unr g (kn : Int)).1 (kn : Int)).2.2])) rfl _ rfl) ?_
      intro a539 hA539; clear hA538
      refine sx_val (v := .bool true) hA539 rfl (ev_ext (hA539.ev (i := 194) (v := .tuple #[.agg #[.slice Ap533 (stl (unr g (kn : Int)).1 (kn : Int)).1.rs.length cp533, .slice Aj533 (stl (unr g (kn : Int)).1 (kn : Int)).1.bs.length cj533], .bool true, .int .i64 (stl (unr g (kn : Int)).1 (kn : Int)).2.2])) rfl _ rfl) ?_
      intro a540 hA540; clear hA539
      refine sx_val (v := .int .i64 (stl (unr g (kn : Int)).1 (kn : Int)).2.2) hA540 rfl (ev_ext (hA540.ev (i := 194) (v := .tuple #[.agg #[.slice Ap533 (stl (unr g (kn : Int)).1 (kn : Int)).1.rs.length cp533, .slice Aj533 (stl (unr g (kn : Int)).1 (kn : Int)).1.bs.length cj533], .bool true, .int .i64 (stl (unr g (kn : Int)).1 (kn : Int)).2.2])) rfl _ rfl) ?_
      intro a541 hA541; clear hA540
      refine sx_new (cs := #[.slice none 0 0, .slice none 0 0]) (t := 25) hA541 rfl (by decide) (.inl rfl) (ev_alloc (z := .agg (#[.slice none 0 0, .slice none 0 0])) (by kernel_rfl) (by kernel_rfl) _ rfl) ?_
      intro B542 w542 a542 hB542 hx542 hg542 hA542
      clear hA541
      have hs542 := hg542.size
      have hl542 := hx542.lt
      refine sx_store hA542 rfl (.inl rfl) rfl (hA542.ev (i := 30) (v := .pointer (some ⟨B542, 0, none⟩))) (hA542.ev (i := 198) (v := .agg #[.slice Ap533 (stl (unr g (kn : Int)).1 (kn : Int)).1.rs.length cp533, .slice Aj533 (stl (unr g (kn : Int)).1 (kn : Int)).1.bs.length cj533])) hx542 (by kernel_rfl) rfl (by simp [Value.oneCell']) ?_
      intro w543 hx543 hg543
      have hs543 := hg543.size
      refine sx_val hA542 rfl (ev_assign (hA542.ev (i := 199) (v := .bool true)) _ rfl) ?_
      intro a544 hA544; clear hA542
      refine sx_val hA544 rfl (ev_assign (hA544.ev (i := 200) (v := .int .i64 (stl (unr g (kn : Int)).1 (kn : Int)).2.2)) _ rfl) ?_
      intro a545 hA545; clear hA544
      refine sx_nil ?_
      refine then_n ?_
      refine wp_seq ?_
      refine wp_region_lit ?_
      have f26_546 := f26_490.gN hg518
      have f26_547 := f26_546.gN hg527
      have f26_548 := f26_547.gB hg528 (by omega)
      have f26_549 := f26_548.gN hg533
      have f26_550 := f26_549.gN hg542
      have f26_551 := f26_550.gB hg543 (by omega)
      refine sx_val (v := .agg #[.slice A1g g.rs.length c1g, .slice A2g g.bs.length c2g]) hA545 rfl (ev_row (hA545.ev (i := 8) (v := .pointer (some ⟨B13, 0, none⟩))) f26_551 Try.underlying25 rfl (n := 2) (by kernel_rfl) rfl _ rfl) ?_
      intro a552 hA552; clear hA545
      refine sx_val hA552 rfl (ev_move (hA552.ev (i := 14) (v := .int .i64 (kn : Int))) _ rfl) ?_
      intro a553 hA553; clear hA552
      have f26_555 := Own.gN f26_501 hg518
      have f26_556 := Own.gN f26_555 hg527
      have f26_557 := Own.gBT f26_556 hg528 hx527 (by decide)
      have f26_558 := Own.gN f26_557 hg533
      have f26_559 := Own.gN f26_558 hg542
      have f26_560 := Own.gBT f26_559 hg543 hx542 (by decide)
      have f26_561 := Own.gN f26_494 hg518
      have f26_562 := Own.gN f26_561 hg527
      have f26_563 := Own.gBT f26_562 hg528 hx527 (by decide)
      have f26_564 := Own.gN f26_563 hg533
      have f26_565 := Own.gN f26_564 hg542
      have f26_566 := Own.gBT f26_565 hg543 hx542 (by decide)
      refine sx_call (f := 18) (args := #[.agg #[.slice A1g g.rs.length c1g, .slice A2g g.bs.length c2g], .int .i64 (kn : Int)]) hA553 rfl (by decide) (.inl rfl) (ev_fn rfl (mp2 (hA553.ev (i := 202) (v := .agg #[.slice A1g g.rs.length c1g, .slice A2g g.bs.length c2g])) (hA553.ev (i := 203) (v := .int .i64 (kn : Int)))) (by kernel_rfl) _ rfl) (Settle_any A1g c1g A2g c2g g.rs g.bs (kn : Int) _ ⟨(OwnR.gr (e := 3) ⟨rfl, f26_560⟩), (OwnR.gr (e := 4) ⟨rfl, f26_566⟩)⟩ (by omega) (by omega)) ?_
      intro e554 w554 hR554
      obtain ⟨Ap554, cp554, Aj554, cj554, rfl, hC554, hJ554, hb554⟩ := hR554
      refine ⟨_, rfl, ?_⟩
      intro a554 hA554
      clear hA553
      have hg554 := g0 hb554
      have hs554 := hg554.size
      clear hb554
      have ho554_0 : Own w554 (w543.heap.size) 3 1 (.slice Ap554 (stl g (kn : Int)).1.rs.length cp554) (stl g (kn : Int)).1.rs.length (flat iva (stl g (kn : Int)).1.rs) := hC554
      have hh554_0 := Own.hi ho554_0
      have ho554_1 : Own w554 (w543.heap.size) 4 1 (.slice Aj554 (stl g (kn : Int)).1.bs.length cj554) (stl g (kn : Int)).1.bs.length (flat bva (stl g (kn : Int)).1.bs) := hJ554
      have hh554_1 := Own.hi ho554_1
      refine sx_val hA554 rfl (ev_move (hA554.ev (i := 204) (v := .tuple #[.agg #[.slice Ap554 (stl g (kn : Int)).1.rs.length cp554, .slice Aj554 (stl g (kn : Int)).1.bs.length cj554], .bool (stl g (kn : Int)).2.1, .int .i64 (stl g (kn : Int)).2.2])) _ rfl) ?_
      intro a567 hA567; clear hA554
      rw [he7] at hA567
      refine sx_val (v := .agg #[.slice Ap554 (stl g (kn : Int)).1.rs.length cp554, .slice Aj554 (stl g (kn : Int)).1.bs.length cj554]) hA567 rfl (ev_ext (hA567.ev (i := 201) (v := .tuple #[.agg #[.slice Ap554 (stl g (kn : Int)).1.rs.length cp554, .slice Aj554 (stl g (kn : Int)).1.bs.length cj554], .bool false, .int .i64 (stl g (kn : Int)).2.2])) rfl _ rfl) ?_
      intro a568 hA568; clear hA567
      refine sx_val (v := .bool false) hA568 rfl (ev_ext (hA568.ev (i := 201) (v := .tuple #[.agg #[.slice Ap554 (stl g (kn : Int)).1.rs.length cp554, .slice Aj554 (stl g (kn : Int)).1.bs.length cj554], .bool false, .int .i64 (stl g (kn : Int)).2.2])) rfl _ rfl) ?_
      intro a569 hA569; clear hA568
      refine sx_val (v := .int .i64 (stl g (kn : Int)).2.2) hA569 rfl (ev_ext (hA569.ev (i := 201) (v := .tuple #[.agg #[.slice Ap554 (stl g (kn : Int)).1.rs.length cp554, .slice Aj554 (stl g (kn : Int)).1.bs.length cj554], .bool false, .int .i64 (stl g (kn : Int)).2.2])) rfl _ rfl) ?_
      intro a570 hA570; clear hA569
      refine sx_new (cs := #[.slice none 0 0, .slice none 0 0]) (t := 25) hA570 rfl (by decide) (.inl rfl) (ev_alloc (z := .agg (#[.slice none 0 0, .slice none 0 0])) (by kernel_rfl) (by kernel_rfl) _ rfl) ?_
      intro B571 w571 a571 hB571 hx571 hg571 hA571
      clear hA570
      have hs571 := hg571.size
      have hl571 := hx571.lt
      refine sx_store hA571 rfl (.inl rfl) rfl (hA571.ev (i := 33) (v := .pointer (some ⟨B571, 0, none⟩))) (hA571.ev (i := 205) (v := .agg #[.slice Ap554 (stl g (kn : Int)).1.rs.length cp554, .slice Aj554 (stl g (kn : Int)).1.bs.length cj554])) hx571 (by kernel_rfl) rfl (by simp [Value.oneCell']) ?_
      intro w572 hx572 hg572
      have hs572 := hg572.size
      refine sx_val hA571 rfl (ev_assign (hA571.ev (i := 206) (v := .bool false)) _ rfl) ?_
      intro a573 hA573; clear hA571
      refine sx_val hA573 rfl (ev_assign (hA573.ev (i := 207) (v := .int .i64 (stl g (kn : Int)).2.2)) _ rfl) ?_
      intro a574 hA574; clear hA573
      refine sx_nil ?_
      refine then_n ?_
      refine wp_seq ?_
      refine wp_region_lit ?_
      refine sx_val (v := .agg #[.slice Ap554 (stl g (kn : Int)).1.rs.length cp554, .slice Aj554 (stl g (kn : Int)).1.bs.length cj554]) hA574 rfl (ev_row (hA574.ev (i := 33) (v := .pointer (some ⟨B571, 0, none⟩))) hx572 Try.underlying25 rfl (n := 2) (by kernel_rfl) rfl _ rfl) ?_
      intro a575 hA575; clear hA574
      refine sx_val hA575 rfl (ev_move (hA575.ev (i := 14) (v := .int .i64 (kn : Int))) _ rfl) ?_
      intro a576 hA576; clear hA575
      have hln577_0 := stl_len g (kn : Int)
      have hlm577_0 := hln577_0.1
      replace hln577_0 := hln577_0.2
      have ho554_578 := Own.gN ho554_0 hg571
      have ho554_579 := Own.gBT ho554_578 hg572 hx571 (by decide)
      have ho554_580 := Own.gN ho554_1 hg571
      have ho554_581 := Own.gBT ho554_580 hg572 hx571 (by decide)
      refine sx_call (f := 14) (args := #[.agg #[.slice Ap554 (stl g (kn : Int)).1.rs.length cp554, .slice Aj554 (stl g (kn : Int)).1.bs.length cj554], .int .i64 (kn : Int)]) hA576 rfl (by decide) (.inl rfl) (ev_fn rfl (mp2 (hA576.ev (i := 209) (v := .agg #[.slice Ap554 (stl g (kn : Int)).1.rs.length cp554, .slice Aj554 (stl g (kn : Int)).1.bs.length cj554])) (hA576.ev (i := 210) (v := .int .i64 (kn : Int)))) (by kernel_rfl) _ rfl) (Unref_any Ap554 cp554 Aj554 cj554 (stl g (kn : Int)).1.rs (stl g (kn : Int)).1.bs (kn : Int) _ ⟨(OwnR.gr (e := 3) ⟨rfl, ho554_579⟩), (OwnR.gr (e := 4) ⟨rfl, ho554_581⟩)⟩ (by omega) (by omega)) ?_
      intro e577 w577 hR577
      obtain ⟨Ap577, cp577, Aj577, cj577, rfl, hC577, hJ577, hb577⟩ := hR577
      refine ⟨_, rfl, ?_⟩
      intro a577 hA577
      clear hA576
      have hg577 := g0 hb577
      have hs577 := hg577.size
      clear hb577
      have ho577_0 : Own w577 (w572.heap.size) 3 1 (.slice Ap577 (unr (stl g (kn : Int)).1 (kn : Int)).1.rs.length cp577) (unr (stl g (kn : Int)).1 (kn : Int)).1.rs.length (flat iva (unr (stl g (kn : Int)).1 (kn : Int)).1.rs) := hC577
      have hh577_0 := Own.hi ho577_0
      have ho577_1 : Own w577 (w572.heap.size) 4 1 (.slice Aj577 (unr (stl g (kn : Int)).1 (kn : Int)).1.bs.length cj577) (unr (stl g (kn : Int)).1 (kn : Int)).1.bs.length (flat bva (unr (stl g (kn : Int)).1 (kn : Int)).1.bs) := hJ577
      have hh577_1 := Own.hi ho577_1
      refine sx_val hA577 rfl (ev_move (hA577.ev (i := 211) (v := .tuple #[.agg #[.slice Ap577 (unr (stl g (kn : Int)).1 (kn : Int)).1.rs.length cp577, .slice Aj577 (unr (stl g (kn : Int)).1 (kn : Int)).1.bs.length cj577], .bool (unr (stl g (kn : Int)).1 (kn : Int)).2.1, .int .i64 (unr (stl g (kn : Int)).1 (kn : Int)).2.2])) _ rfl) ?_
      intro a582 hA582; clear hA577
      rw [he8] at hA582
      refine sx_val (v := .agg #[.slice Ap577 (unr (stl g (kn : Int)).1 (kn : Int)).1.rs.length cp577, .slice Aj577 (unr (stl g (kn : Int)).1 (kn : Int)).1.bs.length cj577]) hA582 rfl (ev_ext (hA582.ev (i := 208) (v := .tuple #[.agg #[.slice Ap577 (unr (stl g (kn : Int)).1 (kn : Int)).1.rs.length cp577, .slice Aj577 (unr (stl g (kn : Int)).1 (kn : Int)).1.bs.length cj577], .bool true, .int .i64 (unr (stl g (kn : Int)).1 (kn : Int)).2.2])) rfl _ rfl) ?_
      intro a583 hA583; clear hA582
      refine sx_val (v := .bool true) hA583 rfl (ev_ext (hA583.ev (i := 208) (v := .tuple #[.agg #[.slice Ap577 (unr (stl g (kn : Int)).1 (kn : Int)).1.rs.length cp577, .slice Aj577 (unr (stl g (kn : Int)).1 (kn : Int)).1.bs.length cj577], .bool true, .int .i64 (unr (stl g (kn : Int)).1 (kn : Int)).2.2])) rfl _ rfl) ?_
      intro a584 hA584; clear hA583
      refine sx_val (v := .int .i64 (unr (stl g (kn : Int)).1 (kn : Int)).2.2) hA584 rfl (ev_ext (hA584.ev (i := 208) (v := .tuple #[.agg #[.slice Ap577 (unr (stl g (kn : Int)).1 (kn : Int)).1.rs.length cp577, .slice Aj577 (unr (stl g (kn : Int)).1 (kn : Int)).1.bs.length cj577], .bool true, .int .i64 (unr (stl g (kn : Int)).1 (kn : Int)).2.2])) rfl _ rfl) ?_
      intro a585 hA585; clear hA584
      refine sx_new (cs := #[.slice none 0 0, .slice none 0 0]) (t := 25) hA585 rfl (by decide) (.inl rfl) (ev_alloc (z := .agg (#[.slice none 0 0, .slice none 0 0])) (by kernel_rfl) (by kernel_rfl) _ rfl) ?_
      intro B586 w586 a586 hB586 hx586 hg586 hA586
      clear hA585
      have hs586 := hg586.size
      have hl586 := hx586.lt
      refine sx_store hA586 rfl (.inl rfl) rfl (hA586.ev (i := 36) (v := .pointer (some ⟨B586, 0, none⟩))) (hA586.ev (i := 212) (v := .agg #[.slice Ap577 (unr (stl g (kn : Int)).1 (kn : Int)).1.rs.length cp577, .slice Aj577 (unr (stl g (kn : Int)).1 (kn : Int)).1.bs.length cj577])) hx586 (by kernel_rfl) rfl (by simp [Value.oneCell']) ?_
      intro w587 hx587 hg587
      have hs587 := hg587.size
      refine sx_val hA586 rfl (ev_assign (hA586.ev (i := 213) (v := .bool true)) _ rfl) ?_
      intro a588 hA588; clear hA586
      refine sx_val hA588 rfl (ev_assign (hA588.ev (i := 214) (v := .int .i64 (unr (stl g (kn : Int)).1 (kn : Int)).2.2)) _ rfl) ?_
      intro a589 hA589; clear hA588
      refine sx_nil ?_
      refine then_n ?_
      refine wp_seq ?_
      refine wp_region_lit ?_
      refine sx_val hA589 rfl (ev_move (hA589.ev (i := 7) (v := .bool true)) _ rfl) ?_
      intro a590 hA590; clear hA589
      refine sx_val hA590 rfl (ev_move (hA590.ev (i := 215) (v := .bool true)) _ rfl) ?_
      intro a591 hA591; clear hA590
      refine sx_val (hg := (.inr ⟨1, true, 216, rfl, rfl, by kernel_rfl⟩)) hA591 rfl (ev_move (hA591.ev (i := 29) (v := .int .i64 (unr g (kn : Int)).2.2)) _ rfl) ?_
      intro a592 hA592; clear hA591
      refine sx_val (hg := (.inr ⟨1, true, 216, rfl, rfl, by kernel_rfl⟩)) (v := .bool true) hA592 rfl (ev_eqlB (k := .i64) (m := (unr g (kn : Int)).2.2) (n := 0) (hA592.ev (i := 217)) (ec _ (.int .i64 0)) hf519 _ rfl) ?_
      intro a593 hA593; clear hA592
      refine sx_val hA593 rfl (ev_pickT (hA593.ev (i := 216) (v := .bool true)) (hA593.ev (i := 218) (v := .bool true)) _ rfl) ?_
      intro a594 hA594; clear hA593
      refine sx_val hA594 rfl (ev_move (hA594.ev (i := 219) (v := .bool true)) _ rfl) ?_
      intro a595 hA595; clear hA594
      refine sx_val (hg := (.inr ⟨5, true, 220, rfl, rfl, by kernel_rfl⟩)) hA595 rfl (ev_move (hA595.ev (i := 32) (v := .int .i64 (stl (unr g (kn : Int)).1 (kn : Int)).2.2)) _ rfl) ?_
      intro a596 hA596; clear hA595
      refine sx_val (hg := (.inr ⟨5, true, 220, rfl, rfl, by kernel_rfl⟩)) (v := .bool true) hA596 rfl (ev_eqlB (k := .i64) (m := (stl (unr g (kn : Int)).1 (kn : Int)).2.2) (n := 0) (hA596.ev (i := 221)) (ec _ (.int .i64 0)) hf520 _ rfl) ?_
      intro a597 hA597; clear hA596
      refine sx_val hA597 rfl (ev_pickT (hA597.ev (i := 220) (v := .bool true)) (hA597.ev (i := 222) (v := .bool true)) _ rfl) ?_
      intro a598 hA598; clear hA597
      refine sx_val hA598 rfl (ev_move (hA598.ev (i := 223) (v := .bool true)) _ rfl) ?_
      intro a599 hA599; clear hA598
      refine sx_val (hg := (.inr ⟨9, true, 224, rfl, rfl, by kernel_rfl⟩)) hA599 rfl (ev_move (hA599.ev (i := 35) (v := .int .i64 (stl g (kn : Int)).2.2)) _ rfl) ?_
      intro a600 hA600; clear hA599
      refine sx_val (hg := (.inr ⟨9, true, 224, rfl, rfl, by kernel_rfl⟩)) (v := .bool true) hA600 rfl (ev_eqlB (k := .i64) (m := (stl g (kn : Int)).2.2) (n := 0) (hA600.ev (i := 225)) (ec _ (.int .i64 0)) hf521 _ rfl) ?_
      intro a601 hA601; clear hA600
      refine sx_val hA601 rfl (ev_pickT (hA601.ev (i := 224) (v := .bool true)) (hA601.ev (i := 226) (v := .bool true)) _ rfl) ?_
      intro a602 hA602; clear hA601
      refine sx_val hA602 rfl (ev_move (hA602.ev (i := 227) (v := .bool true)) _ rfl) ?_
      intro a603 hA603; clear hA602
      refine sx_val (hg := (.inr ⟨13, true, 228, rfl, rfl, by kernel_rfl⟩)) hA603 rfl (ev_move (hA603.ev (i := 38) (v := .int .i64 (unr (stl g (kn : Int)).1 (kn : Int)).2.2)) _ rfl) ?_
      intro a604 hA604; clear hA603
      refine sx_val (hg := (.inr ⟨13, true, 228, rfl, rfl, by kernel_rfl⟩)) (v := .bool true) hA604 rfl (ev_eqlB (k := .i64) (m := (unr (stl g (kn : Int)).1 (kn : Int)).2.2) (n := 0) (hA604.ev (i := 229)) (ec _ (.int .i64 0)) hf522 _ rfl) ?_
      intro a605 hA605; clear hA604
      refine sx_val hA605 rfl (ev_pickT (hA605.ev (i := 228) (v := .bool true)) (hA605.ev (i := 230) (v := .bool true)) _ rfl) ?_
      intro a606 hA606; clear hA605
      refine sx_val hA606 rfl (ev_move (hA606.ev (i := 231) (v := .bool true)) _ rfl) ?_
      intro a607 hA607; clear hA606
      refine sx_val (hg := (.inr ⟨17, true, 232, rfl, rfl, by kernel_rfl⟩)) hA607 rfl (ev_move (hA607.ev (i := 28) (v := .bool false)) _ rfl) ?_
      intro a608 hA608; clear hA607
      refine sx_val (hg := (.inr ⟨17, true, 232, rfl, rfl, by kernel_rfl⟩)) (v := .bool true) hA608 rfl (ev_notF (hA608.ev (i := 233) (v := .bool false)) _ rfl) ?_
      intro a609 hA609; clear hA608
      refine sx_val hA609 rfl (ev_pickT (hA609.ev (i := 232) (v := .bool true)) (hA609.ev (i := 234) (v := .bool true)) _ rfl) ?_
      intro a610 hA610; clear hA609
      refine sx_val hA610 rfl (ev_move (hA610.ev (i := 235) (v := .bool true)) _ rfl) ?_
      intro a611 hA611; clear hA610
      refine sx_val (hg := (.inr ⟨21, true, 236, rfl, rfl, by kernel_rfl⟩)) hA611 rfl (ev_move (hA611.ev (i := 31) (v := .bool true)) _ rfl) ?_
      intro a612 hA612; clear hA611
      refine sx_val hA612 rfl (ev_pickT (hA612.ev (i := 236) (v := .bool true)) (hA612.ev (i := 237) (v := .bool true)) _ rfl) ?_
      intro a613 hA613; clear hA612
      refine sx_val hA613 rfl (ev_move (hA613.ev (i := 238) (v := .bool true)) _ rfl) ?_
      intro a614 hA614; clear hA613
      refine sx_val (hg := (.inr ⟨24, true, 239, rfl, rfl, by kernel_rfl⟩)) hA614 rfl (ev_move (hA614.ev (i := 34) (v := .bool false)) _ rfl) ?_
      intro a615 hA615; clear hA614
      refine sx_val (hg := (.inr ⟨24, true, 239, rfl, rfl, by kernel_rfl⟩)) (v := .bool true) hA615 rfl (ev_notF (hA615.ev (i := 240) (v := .bool false)) _ rfl) ?_
      intro a616 hA616; clear hA615
      refine sx_val hA616 rfl (ev_pickT (hA616.ev (i := 239) (v := .bool true)) (hA616.ev (i := 241) (v := .bool true)) _ rfl) ?_
      intro a617 hA617; clear hA616
      refine sx_val hA617 rfl (ev_move (hA617.ev (i := 242) (v := .bool true)) _ rfl) ?_
      intro a618 hA618; clear hA617
      refine sx_val (hg := (.inr ⟨28, true, 243, rfl, rfl, by kernel_rfl⟩)) hA618 rfl (ev_move (hA618.ev (i := 37) (v := .bool true)) _ rfl) ?_
      intro a619 hA619; clear hA618
      refine sx_val hA619 rfl (ev_pickT (hA619.ev (i := 243) (v := .bool true)) (hA619.ev (i := 244) (v := .bool true)) _ rfl) ?_
      intro a620 hA620; clear hA619
      refine sx_val hA620 rfl (ev_move (hA620.ev (i := 245) (v := .bool true)) _ rfl) ?_
      intro a621 hA621; clear hA620
      have hx543_622 := hx543.gN hg554
      have hx543_623 := hx543_622.gN hg571
      have hx543_624 := hx543_623.gB hg572 (by omega)
      have hx543_625 := hx543_624.gN hg577
      have hx543_626 := hx543_625.gN hg586
      have hx543_627 := hx543_626.gB hg587 (by omega)
      refine sx_val (hg := (.inr ⟨31, true, 246, rfl, rfl, by kernel_rfl⟩)) (v := .agg #[.slice Ap533 (stl (unr g (kn : Int)).1 (kn : Int)).1.rs.length cp533, .slice Aj533 (stl (unr g (kn : Int)).1 (kn : Int)).1.bs.length cj533]) hA621 rfl (ev_row (hA621.ev (i := 30) (v := .pointer (some ⟨B542, 0, none⟩))) hx543_627 Try.underlying25 rfl (n := 2) (by kernel_rfl) rfl _ rfl) ?_
      intro a628 hA628; clear hA621
      refine sx_val (hg := (.inr ⟨31, true, 246, rfl, rfl, by kernel_rfl⟩)) (v := .agg #[.slice Ap577 (unr (stl g (kn : Int)).1 (kn : Int)).1.rs.length cp577, .slice Aj577 (unr (stl g (kn : Int)).1 (kn : Int)).1.bs.length cj577]) hA628 rfl (ev_row (hA628.ev (i := 36) (v := .pointer (some ⟨B586, 0, none⟩))) hx587 Try.underlying25 rfl (n := 2) (by kernel_rfl) rfl _ rfl) ?_
      intro a629 hA629; clear hA628
      have ho533_631 := Own.gN ho533_0 hg542
      have ho533_632 := Own.gBT ho533_631 hg543 hx542 (by decide)
      have ho533_633 := Own.gN ho533_632 hg554
      have ho533_634 := Own.gN ho533_633 hg571
      have ho533_635 := Own.gBT ho533_634 hg572 hx571 (by decide)
      have ho533_636 := Own.gN ho533_635 hg577
      have ho533_637 := Own.gN ho533_636 hg586
      have ho533_638 := Own.gBT ho533_637 hg587 hx586 (by decide)
      have ho533_639 := Own.gN ho533_1 hg542
      have ho533_640 := Own.gBT ho533_639 hg543 hx542 (by decide)
      have ho533_641 := Own.gN ho533_640 hg554
      have ho533_642 := Own.gN ho533_641 hg571
      have ho533_643 := Own.gBT ho533_642 hg572 hx571 (by decide)
      have ho533_644 := Own.gN ho533_643 hg577
      have ho533_645 := Own.gN ho533_644 hg586
      have ho533_646 := Own.gBT ho533_645 hg587 hx586 (by decide)
      have ho577_647 := Own.gN ho577_0 hg586
      have ho577_648 := Own.gBT ho577_647 hg587 hx586 (by decide)
      have ho577_649 := Own.gN ho577_1 hg586
      have ho577_650 := Own.gBT ho577_649 hg587 hx586 (by decide)
      refine sx_call (f := 13) (args := #[.agg #[.slice Ap533 (stl (unr g (kn : Int)).1 (kn : Int)).1.rs.length cp533, .slice Aj533 (stl (unr g (kn : Int)).1 (kn : Int)).1.bs.length cj533], .agg #[.slice Ap577 (unr (stl g (kn : Int)).1 (kn : Int)).1.rs.length cp577, .slice Aj577 (unr (stl g (kn : Int)).1 (kn : Int)).1.bs.length cj577]]) hA629 rfl (by decide) (.inr ⟨31, true, 246, rfl, rfl, by kernel_rfl⟩) (ev_fn rfl (mp2 (hA629.ev (i := 247) (v := .agg #[.slice Ap533 (stl (unr g (kn : Int)).1 (kn : Int)).1.rs.length cp533, .slice Aj533 (stl (unr g (kn : Int)).1 (kn : Int)).1.bs.length cj533])) (hA629.ev (i := 248) (v := .agg #[.slice Ap577 (unr (stl g (kn : Int)).1 (kn : Int)).1.rs.length cp577, .slice Aj577 (unr (stl g (kn : Int)).1 (kn : Int)).1.bs.length cj577]))) (by kernel_rfl) _ rfl) (SameSlots_any Ap533 cp533 Aj533 cj533 (stl (unr g (kn : Int)).1 (kn : Int)).1.rs (stl (unr g (kn : Int)).1 (kn : Int)).1.bs Ap577 cp577 Aj577 cj577 (unr (stl g (kn : Int)).1 (kn : Int)).1.rs (unr (stl g (kn : Int)).1 (kn : Int)).1.bs _ ⟨(OwnR.gr (e := 3) ⟨rfl, ho533_638⟩), (OwnR.gr (e := 4) ⟨rfl, ho533_646⟩)⟩ ⟨(OwnR.gr (e := 3) ⟨rfl, ho577_648⟩), (OwnR.gr (e := 4) ⟨rfl, ho577_650⟩)⟩) ?_
      intro e630 w630 hR630
      obtain ⟨hv630, hb630⟩ := hR630
      rw [show sme (stl (unr g (kn : Int)).1 (kn : Int)).1 (unr (stl g (kn : Int)).1 (kn : Int)).1 = true from he9] at hv630
      subst hv630
      refine ⟨_, rfl, ?_⟩
      intro a630 hA630
      clear hA629
      have hg630 := g0 hb630
      have hs630 := hg630.size
      clear hb630
      refine sx_val hA630 rfl (ev_pickT (hA630.ev (i := 246) (v := .bool true)) (hA630.ev (i := 249) (v := .bool true)) _ rfl) ?_
      intro a651 hA651; clear hA630
      refine sx_val hA651 rfl (ev_assign (hA651.ev (i := 250) (v := .bool true)) _ rfl) ?_
      intro a652 hA652; clear hA651
      refine sx_nil ?_
      refine then_n ?_
      refine wp_ret ?_
      refine bodyPost_ret (rs_t (v := .bool true) Try.results7 hA652 (by kernel_rfl) ) hA652.2.1 ?_
      have hbel26_653 := Below.gN hbel26 hg47 hbel26.size
      have hbel26_654 := Below.gN hbel26_653 hg431 hbel26_653.size
      have hbel26_655 := Below.gN hbel26_654 hg437 hbel26_654.size
      have hbel26_656 := Below.gB hbel26_655 hg438 hbel26_655.size (by omega)
      have hbel26_657 := Below.gN hbel26_656 hg442 hbel26_656.size
      have hbel26_658 := Below.gN hbel26_657 hg451 hbel26_657.size
      have hbel26_659 := Below.gB hbel26_658 hg452 hbel26_658.size (by omega)
      have hbel26_660 := Below.gN hbel26_659 hg470 hbel26_659.size
      have hbel26_661 := Below.gN hbel26_660 hg518 hbel26_660.size
      have hbel26_662 := Below.gN hbel26_661 hg527 hbel26_661.size
      have hbel26_663 := Below.gB hbel26_662 hg528 hbel26_662.size (by omega)
      have hbel26_664 := Below.gN hbel26_663 hg533 hbel26_663.size
      have hbel26_665 := Below.gN hbel26_664 hg542 hbel26_664.size
      have hbel26_666 := Below.gB hbel26_665 hg543 hbel26_665.size (by omega)
      have hbel26_667 := Below.gN hbel26_666 hg554 hbel26_666.size
      have hbel26_668 := Below.gN hbel26_667 hg571 hbel26_667.size
      have hbel26_669 := Below.gB hbel26_668 hg572 hbel26_668.size (by omega)
      have hbel26_670 := Below.gN hbel26_669 hg577 hbel26_669.size
      have hbel26_671 := Below.gN hbel26_670 hg586 hbel26_670.size
      have hbel26_672 := Below.gB hbel26_671 hg587 hbel26_671.size (by omega)
      have hbel26_673 := Below.gN hbel26_672 hg630 hbel26_672.size
      exact ⟨rfl, hbel26_673⟩
    have hp57 := of_decide_eq_false hd57
    refine sx_val (v := .bool false) hA56 rfl (ev_eqlB (k := .i64) (m := xk) (n := 0) (hA56.ev (i := 101)) (ec _ (.int .i64 0)) hd57 _ rfl) ?_
    intro a58 hA58; clear hA56
    refine sx_val hA58 rfl (ev_move (hA58.ev (i := 102) (v := .bool false)) _ rfl) ?_
    intro a59 hA59; clear hA58
    refine sx_no (j := 6) (s := 103) (want := true) (b := false) hA59 rfl ?_
    intro a60 hA60; clear hA59
    refine sx_no (j := 6) (s := 103) (want := true) (b := false) hA60 rfl ?_
    intro a61 hA61; clear hA60
    refine sx_no (j := 6) (s := 103) (want := true) (b := false) hA61 rfl ?_
    intro a62 hA62; clear hA61
    refine sx_no (j := 6) (s := 103) (want := true) (b := false) hA62 rfl ?_
    intro a63 hA63; clear hA62
    refine sx_no (j := 6) (s := 103) (want := true) (b := false) hA63 rfl ?_
    intro a64 hA64; clear hA63
    refine sx_no (j := 6) (s := 103) (want := true) (b := false) hA64 rfl ?_
    intro a65 hA65; clear hA64
    refine sx_val hA65 rfl (ev_pickF (hA65.ev (i := 103) (v := .bool false)) (ec _ (.bool false)) _ rfl) ?_
    intro a66 hA66; clear hA65
    refine sx_nil ?_
    refine then_n ?_
    refine wp_cond_false (hA66.ev (i := 110) (v := .bool false)) ?_
    refine wp_skip ?_
    refine then_n ?_
    refine wp_seq ?_
    refine wp_region_lit ?_
    refine sx_val (v := .agg #[.slice A1g g.rs.length c1g, .slice A2g g.bs.length c2g]) hA66 rfl (ev_row (hA66.ev (i := 8) (v := .pointer (some ⟨B13, 0, none⟩))) f26_50 Try.underlying25 rfl (n := 2) (by kernel_rfl) rfl _ rfl) ?_
    intro a67 hA67; clear hA66
    refine sx_val hA67 rfl (ev_move (hA67.ev (i := 14) (v := .int .i64 (kn : Int))) _ rfl) ?_
    intro a68 hA68; clear hA67
    have hfr : fre g kn = false := by rw [fre_eq]; simp [rat, bat, hxk, hyk, hp57]
    have hrb := q26_3 kn
    have hb1 := back1 q26_1 (by omega) hfr (by omega)
    have hf70 : decide ((rff g (kn : Int)).2 = 0) = true := decide_eq_true hb1.1
    have hf71 : decide ((unr (rff g (kn : Int)).1 (kn : Int)).2.2 = 0) = true := decide_eq_true hb1.2.1
    have f26_72 := Own.gN f26_2 hg47
    refine sx_call (f := 11) (args := #[.agg #[.slice A1g g.rs.length c1g, .slice A2g g.bs.length c2g], .int .i64 (kn : Int)]) hA68 rfl (by decide) (.inl rfl) (ev_fn rfl (mp2 (hA68.ev (i := 123) (v := .agg #[.slice A1g g.rs.length c1g, .slice A2g g.bs.length c2g])) (hA68.ev (i := 124) (v := .int .i64 (kn : Int)))) (by kernel_rfl) _ rfl) (Ref_any A1g c1g A2g c2g g.rs g.bs (kn : Int) _ ⟨(OwnR.gr (e := 3) ⟨rfl, f26_54⟩), (OwnR.gr (e := 4) ⟨rfl, f26_72⟩)⟩ (by omega) (by omega)) ?_
    intro e69 w69 hR69
    obtain ⟨Ap69, cp69, Aj69, cj69, rfl, hC69, hJ69, hb69⟩ := hR69
    refine ⟨_, rfl, ?_⟩
    intro a69 hA69
    clear hA68
    have hg69 := g0 hb69
    have hs69 := hg69.size
    clear hb69
    have ho69_0 : Own w69 (w47.heap.size) 3 1 (.slice Ap69 (rff g (kn : Int)).1.rs.length cp69) (rff g (kn : Int)).1.rs.length (flat iva (rff g (kn : Int)).1.rs) := hC69
    have hh69_0 := Own.hi ho69_0
    have ho69_1 : Own w69 (w47.heap.size) 4 1 (.slice Aj69 (rff g (kn : Int)).1.bs.length cj69) (rff g (kn : Int)).1.bs.length (flat bva (rff g (kn : Int)).1.bs) := hJ69
    have hh69_1 := Own.hi ho69_1
    refine sx_val hA69 rfl (ev_move (hA69.ev (i := 125) (v := .tuple #[.agg #[.slice Ap69 (rff g (kn : Int)).1.rs.length cp69, .slice Aj69 (rff g (kn : Int)).1.bs.length cj69], .int .i64 (rff g (kn : Int)).2])) _ rfl) ?_
    intro a73 hA73; clear hA69
    refine sx_val (v := .agg #[.slice Ap69 (rff g (kn : Int)).1.rs.length cp69, .slice Aj69 (rff g (kn : Int)).1.bs.length cj69]) hA73 rfl (ev_ext (hA73.ev (i := 122) (v := .tuple #[.agg #[.slice Ap69 (rff g (kn : Int)).1.rs.length cp69, .slice Aj69 (rff g (kn : Int)).1.bs.length cj69], .int .i64 (rff g (kn : Int)).2])) rfl _ rfl) ?_
    intro a74 hA74; clear hA73
    refine sx_val (v := .int .i64 (rff g (kn : Int)).2) hA74 rfl (ev_ext (hA74.ev (i := 122) (v := .tuple #[.agg #[.slice Ap69 (rff g (kn : Int)).1.rs.length cp69, .slice Aj69 (rff g (kn : Int)).1.bs.length cj69], .int .i64 (rff g (kn : Int)).2])) rfl _ rfl) ?_
    intro a75 hA75; clear hA74
    refine sx_new (cs := #[.slice none 0 0, .slice none 0 0]) (t := 25) hA75 rfl (by decide) (.inl rfl) (ev_alloc (z := .agg (#[.slice none 0 0, .slice none 0 0])) (by kernel_rfl) (by kernel_rfl) _ rfl) ?_
    intro B76 w76 a76 hB76 hx76 hg76 hA76
    clear hA75
    have hs76 := hg76.size
    have hl76 := hx76.lt
    refine sx_store hA76 rfl (.inl rfl) rfl (hA76.ev (i := 17) (v := .pointer (some ⟨B76, 0, none⟩))) (hA76.ev (i := 126) (v := .agg #[.slice Ap69 (rff g (kn : Int)).1.rs.length cp69, .slice Aj69 (rff g (kn : Int)).1.bs.length cj69])) hx76 (by kernel_rfl) rfl (by simp [Value.oneCell']) ?_
    intro w77 hx77 hg77
    have hs77 := hg77.size
    refine sx_val hA76 rfl (ev_assign (hA76.ev (i := 127) (v := .int .i64 (rff g (kn : Int)).2)) _ rfl) ?_
    intro a78 hA78; clear hA76
    refine sx_nil ?_
    refine then_n ?_
    refine wp_seq ?_
    refine wp_region_lit ?_
    refine sx_val (v := .agg #[.slice Ap69 (rff g (kn : Int)).1.rs.length cp69, .slice Aj69 (rff g (kn : Int)).1.bs.length cj69]) hA78 rfl (ev_row (hA78.ev (i := 17) (v := .pointer (some ⟨B76, 0, none⟩))) hx77 Try.underlying25 rfl (n := 2) (by kernel_rfl) rfl _ rfl) ?_
    intro a79 hA79; clear hA78
    refine sx_val hA79 rfl (ev_move (hA79.ev (i := 14) (v := .int .i64 (kn : Int))) _ rfl) ?_
    intro a80 hA80; clear hA79
    have hln81_0 := rff_len g (kn : Int)
    have hlm81_0 := hln81_0.1
    replace hln81_0 := hln81_0.2
    have ho69_82 := Own.gN ho69_0 hg76
    have ho69_83 := Own.gBT ho69_82 hg77 hx76 (by decide)
    have ho69_84 := Own.gN ho69_1 hg76
    have ho69_85 := Own.gBT ho69_84 hg77 hx76 (by decide)
    refine sx_call (f := 14) (args := #[.agg #[.slice Ap69 (rff g (kn : Int)).1.rs.length cp69, .slice Aj69 (rff g (kn : Int)).1.bs.length cj69], .int .i64 (kn : Int)]) hA80 rfl (by decide) (.inl rfl) (ev_fn rfl (mp2 (hA80.ev (i := 129) (v := .agg #[.slice Ap69 (rff g (kn : Int)).1.rs.length cp69, .slice Aj69 (rff g (kn : Int)).1.bs.length cj69])) (hA80.ev (i := 130) (v := .int .i64 (kn : Int)))) (by kernel_rfl) _ rfl) (Unref_any Ap69 cp69 Aj69 cj69 (rff g (kn : Int)).1.rs (rff g (kn : Int)).1.bs (kn : Int) _ ⟨(OwnR.gr (e := 3) ⟨rfl, ho69_83⟩), (OwnR.gr (e := 4) ⟨rfl, ho69_85⟩)⟩ (by omega) (by omega)) ?_
    intro e81 w81 hR81
    obtain ⟨Ap81, cp81, Aj81, cj81, rfl, hC81, hJ81, hb81⟩ := hR81
    refine ⟨_, rfl, ?_⟩
    intro a81 hA81
    clear hA80
    have hg81 := g0 hb81
    have hs81 := hg81.size
    clear hb81
    have ho81_0 : Own w81 (w77.heap.size) 3 1 (.slice Ap81 (unr (rff g (kn : Int)).1 (kn : Int)).1.rs.length cp81) (unr (rff g (kn : Int)).1 (kn : Int)).1.rs.length (flat iva (unr (rff g (kn : Int)).1 (kn : Int)).1.rs) := hC81
    have hh81_0 := Own.hi ho81_0
    have ho81_1 : Own w81 (w77.heap.size) 4 1 (.slice Aj81 (unr (rff g (kn : Int)).1 (kn : Int)).1.bs.length cj81) (unr (rff g (kn : Int)).1 (kn : Int)).1.bs.length (flat bva (unr (rff g (kn : Int)).1 (kn : Int)).1.bs) := hJ81
    have hh81_1 := Own.hi ho81_1
    refine sx_val hA81 rfl (ev_move (hA81.ev (i := 131) (v := .tuple #[.agg #[.slice Ap81 (unr (rff g (kn : Int)).1 (kn : Int)).1.rs.length cp81, .slice Aj81 (unr (rff g (kn : Int)).1 (kn : Int)).1.bs.length cj81], .bool (unr (rff g (kn : Int)).1 (kn : Int)).2.1, .int .i64 (unr (rff g (kn : Int)).1 (kn : Int)).2.2])) _ rfl) ?_
    intro a86 hA86; clear hA81
    refine sx_val (v := .agg #[.slice Ap81 (unr (rff g (kn : Int)).1 (kn : Int)).1.rs.length cp81, .slice Aj81 (unr (rff g (kn : Int)).1 (kn : Int)).1.bs.length cj81]) hA86 rfl (ev_ext (hA86.ev (i := 128) (v := .tuple #[.agg #[.slice Ap81 (unr (rff g (kn : Int)).1 (kn : Int)).1.rs.length cp81, .slice Aj81 (unr (rff g (kn : Int)).1 (kn : Int)).1.bs.length cj81], .bool (unr (rff g (kn : Int)).1 (kn : Int)).2.1, .int .i64 (unr (rff g (kn : Int)).1 (kn : Int)).2.2])) rfl _ rfl) ?_
    intro a87 hA87; clear hA86
    refine sx_val (v := .bool (unr (rff g (kn : Int)).1 (kn : Int)).2.1) hA87 rfl (ev_ext (hA87.ev (i := 128) (v := .tuple #[.agg #[.slice Ap81 (unr (rff g (kn : Int)).1 (kn : Int)).1.rs.length cp81, .slice Aj81 (unr (rff g (kn : Int)).1 (kn : Int)).1.bs.length cj81], .bool (unr (rff g (kn : Int)).1 (kn : Int)).2.1, .int .i64 (unr (rff g (kn : Int)).1 (kn : Int)).2.2])) rfl _ rfl) ?_
    intro a88 hA88; clear hA87
    refine sx_val (v := .int .i64 (unr (rff g (kn : Int)).1 (kn : Int)).2.2) hA88 rfl (ev_ext (hA88.ev (i := 128) (v := .tuple #[.agg #[.slice Ap81 (unr (rff g (kn : Int)).1 (kn : Int)).1.rs.length cp81, .slice Aj81 (unr (rff g (kn : Int)).1 (kn : Int)).1.bs.length cj81], .bool (unr (rff g (kn : Int)).1 (kn : Int)).2.1, .int .i64 (unr (rff g (kn : Int)).1 (kn : Int)).2.2])) rfl _ rfl) ?_
    intro a89 hA89; clear hA88
    refine sx_new (cs := #[.slice none 0 0, .slice none 0 0]) (t := 25) hA89 rfl (by decide) (.inl rfl) (ev_alloc (z := .agg (#[.slice none 0 0, .slice none 0 0])) (by kernel_rfl) (by kernel_rfl) _ rfl) ?_
    intro B90 w90 a90 hB90 hx90 hg90 hA90
    clear hA89
    have hs90 := hg90.size
    have hl90 := hx90.lt
    refine sx_store hA90 rfl (.inl rfl) rfl (hA90.ev (i := 19) (v := .pointer (some ⟨B90, 0, none⟩))) (hA90.ev (i := 132) (v := .agg #[.slice Ap81 (unr (rff g (kn : Int)).1 (kn : Int)).1.rs.length cp81, .slice Aj81 (unr (rff g (kn : Int)).1 (kn : Int)).1.bs.length cj81])) hx90 (by kernel_rfl) rfl (by simp [Value.oneCell']) ?_
    intro w91 hx91 hg91
    have hs91 := hg91.size
    refine sx_val hA90 rfl (ev_assign (hA90.ev (i := 133) (v := .bool (unr (rff g (kn : Int)).1 (kn : Int)).2.1)) _ rfl) ?_
    intro a92 hA92; clear hA90
    refine sx_val hA92 rfl (ev_assign (hA92.ev (i := 134) (v := .int .i64 (unr (rff g (kn : Int)).1 (kn : Int)).2.2)) _ rfl) ?_
    intro a93 hA93; clear hA92
    refine sx_nil ?_
    refine then_n ?_
    refine wp_seq ?_
    refine wp_seq ?_
    refine wp_region_lit ?_
    refine sx_val hA93 rfl (ev_move (hA93.ev (i := 18) (v := .int .i64 (rff g (kn : Int)).2)) _ rfl) ?_
    intro a94 hA94; clear hA93
    refine sx_val (v := .bool false) hA94 rfl (ev_neqB (k := .i64) (m := (rff g (kn : Int)).2) (n := 0) (hA94.ev (i := 135)) (ec _ (.int .i64 0)) (by simpa using hf70) _ rfl) ?_
    intro a95 hA95; clear hA94
    refine sx_val hA95 rfl (ev_move (hA95.ev (i := 136) (v := .bool false)) _ rfl) ?_
    intro a96 hA96; clear hA95
    refine sx_val (hg := (.inr ⟨2, false, 137, rfl, rfl, by kernel_rfl⟩)) hA96 rfl (ev_move (hA96.ev (i := 21) (v := .int .i64 (unr (rff g (kn : Int)).1 (kn : Int)).2.2)) _ rfl) ?_
    intro a97 hA97; clear hA96
    refine sx_val (hg := (.inr ⟨2, false, 137, rfl, rfl, by kernel_rfl⟩)) (v := .bool false) hA97 rfl (ev_neqB (k := .i64) (m := (unr (rff g (kn : Int)).1 (kn : Int)).2.2) (n := 0) (hA97.ev (i := 138)) (ec _ (.int .i64 0)) (by simpa using hf71) _ rfl) ?_
    intro a98 hA98; clear hA97
    refine sx_val hA98 rfl (ev_pickF (hA98.ev (i := 137) (v := .bool false)) (hA98.ev (i := 139) (v := .bool false)) _ rfl) ?_
    intro a99 hA99; clear hA98
    refine sx_val hA99 rfl (ev_move (hA99.ev (i := 140) (v := .bool false)) _ rfl) ?_
    intro a100 hA100; clear hA99
    refine sx_val (hg := (.inr ⟨6, false, 141, rfl, rfl, by kernel_rfl⟩)) (v := .agg #[.slice Ap81 (unr (rff g (kn : Int)).1 (kn : Int)).1.rs.length cp81, .slice Aj81 (unr (rff g (kn : Int)).1 (kn : Int)).1.bs.length cj81]) hA100 rfl (ev_row (hA100.ev (i := 19) (v := .pointer (some ⟨B90, 0, none⟩))) hx91 Try.underlying25 rfl (n := 2) (by kernel_rfl) rfl _ rfl) ?_
    intro a101 hA101; clear hA100
    have f26_102 := f26_50.gN hg69
    have f26_103 := f26_102.gN hg76
    have f26_104 := f26_103.gB hg77 (by omega)
    have f26_105 := f26_104.gN hg81
    have f26_106 := f26_105.gN hg90
    have f26_107 := f26_106.gB hg91 (by omega)
    refine sx_val (hg := (.inr ⟨6, false, 141, rfl, rfl, by kernel_rfl⟩)) (v := .agg #[.slice A1g g.rs.length c1g, .slice A2g g.bs.length c2g]) hA101 rfl (ev_row (hA101.ev (i := 8) (v := .pointer (some ⟨B13, 0, none⟩))) f26_107 Try.underlying25 rfl (n := 2) (by kernel_rfl) rfl _ rfl) ?_
    intro a108 hA108; clear hA101
    have ho81_110 := Own.gN ho81_0 hg90
    have ho81_111 := Own.gBT ho81_110 hg91 hx90 (by decide)
    have ho81_112 := Own.gN ho81_1 hg90
    have ho81_113 := Own.gBT ho81_112 hg91 hx90 (by decide)
    have f26_114 := Own.gN f26_54 hg69
    have f26_115 := Own.gN f26_114 hg76
    have f26_116 := Own.gBT f26_115 hg77 hx76 (by decide)
    have f26_117 := Own.gN f26_116 hg81
    have f26_118 := Own.gN f26_117 hg90
    have f26_119 := Own.gBT f26_118 hg91 hx90 (by decide)
    have f26_120 := Own.gN f26_72 hg69
    have f26_121 := Own.gN f26_120 hg76
    have f26_122 := Own.gBT f26_121 hg77 hx76 (by decide)
    have f26_123 := Own.gN f26_122 hg81
    have f26_124 := Own.gN f26_123 hg90
    have f26_125 := Own.gBT f26_124 hg91 hx90 (by decide)
    refine sx_call (f := 13) (args := #[.agg #[.slice Ap81 (unr (rff g (kn : Int)).1 (kn : Int)).1.rs.length cp81, .slice Aj81 (unr (rff g (kn : Int)).1 (kn : Int)).1.bs.length cj81], .agg #[.slice A1g g.rs.length c1g, .slice A2g g.bs.length c2g]]) hA108 rfl (by decide) (.inr ⟨6, false, 141, rfl, rfl, by kernel_rfl⟩) (ev_fn rfl (mp2 (hA108.ev (i := 142) (v := .agg #[.slice Ap81 (unr (rff g (kn : Int)).1 (kn : Int)).1.rs.length cp81, .slice Aj81 (unr (rff g (kn : Int)).1 (kn : Int)).1.bs.length cj81])) (hA108.ev (i := 143) (v := .agg #[.slice A1g g.rs.length c1g, .slice A2g g.bs.length c2g]))) (by kernel_rfl) _ rfl) (SameSlots_any Ap81 cp81 Aj81 cj81 (unr (rff g (kn : Int)).1 (kn : Int)).1.rs (unr (rff g (kn : Int)).1 (kn : Int)).1.bs A1g c1g A2g c2g g.rs g.bs _ ⟨(OwnR.gr (e := 3) ⟨rfl, ho81_111⟩), (OwnR.gr (e := 4) ⟨rfl, ho81_113⟩)⟩ ⟨(OwnR.gr (e := 3) ⟨rfl, f26_119⟩), (OwnR.gr (e := 4) ⟨rfl, f26_125⟩)⟩) ?_
    intro e109 w109 hR109
    obtain ⟨hv109, hb109⟩ := hR109
    rw [show sme (unr (rff g (kn : Int)).1 (kn : Int)).1 g = true from (by rw [hb1.2.2]; exact sme_refl _)] at hv109
    subst hv109
    refine ⟨_, rfl, ?_⟩
    intro a109 hA109
    clear hA108
    have hg109 := g0 hb109
    have hs109 := hg109.size
    clear hb109
    refine sx_val (hg := (.inr ⟨6, false, 141, rfl, rfl, by kernel_rfl⟩)) (v := .bool false) hA109 rfl (ev_notT (hA109.ev (i := 144) (v := .bool true)) _ rfl) ?_
    intro a126 hA126; clear hA109
    refine sx_val hA126 rfl (ev_pickF (hA126.ev (i := 141) (v := .bool false)) (hA126.ev (i := 145) (v := .bool false)) _ rfl) ?_
    intro a127 hA127; clear hA126
    refine sx_nil ?_
    refine then_n ?_
    refine wp_cond_false (hA127.ev (i := 146) (v := .bool false)) ?_
    refine wp_skip ?_
    refine then_n ?_
    refine wp_seq ?_
    refine wp_seq ?_
    refine wp_region_lit ?_
    refine sx_val (v := .pointer (some ⟨B13, 1, none⟩)) hA127 rfl (fb_Slots_1 (hA127.ev (i := 8) (v := .pointer (some ⟨B13, 0, none⟩))) _ rfl) ?_
    intro a128 hA128; clear hA127
    have f26_129 := f26_107.gN hg109
    refine sx_val (v := .slice A2g g.bs.length c2g) hA128 rfl (ev_cell (v := .slice A2g g.bs.length c2g) (hA128.ev (i := 147) (v := .pointer (some ⟨B13, 1, none⟩))) ((f26_129.cell 1).trans rfl) Try.underlying23 rfl _ rfl) ?_
    intro a130 hA130; clear hA128
    refine sx_val hA130 rfl (ev_move (hA130.ev (i := 14) (v := .int .i64 (kn : Int))) _ rfl) ?_
    intro a131 hA131; clear hA130
    have f26_133 := Own.gN f26_125 hg109
    obtain ⟨ad132, hAd132⟩ := GR.adr (OwnR.gr (e := 4) ⟨rfl, f26_133⟩) bva_sz hyk
    refine sx_val (v := .pointer (some (ad132.add (kn * 1)))) hA131 rfl (ev_idx (k := kn) (hA131.ev (i := 148) (v := .slice A2g g.bs.length c2g)) hAd132 (hA131.ev (i := 149) (v := .int .i64 (kn : Int))) rfl (by omega) Try.underlying23 (by kernel_rfl) _ rfl) ?_
    intro a134 hA134; clear hA131
    refine sx_val (v := .bool yk) hA134 rfl (ev_cell (hA134.ev (i := 150) (v := .pointer (some (ad132.add (kn * 1))))) ((GR.cel (OwnR.gr (e := 4) ⟨rfl, f26_133⟩) hAd132 bva_sz hyk) 0 _ rfl) Try.underlying4 rfl _ rfl) ?_
    intro a135 hA135; clear hA134
    cases hd136 : yk
    · rw [hd136] at hA135
      refine sx_val (v := .bool true) hA135 rfl (ev_notF (hA135.ev (i := 151) (v := .bool false)) _ rfl) ?_
      intro a137 hA137; clear hA135
      refine sx_nil ?_
      refine then_n ?_
      refine wp_cond_true (hA137.ev (i := 152) (v := .bool true)) ?_
      refine wp_seq ?_
      refine wp_region_lit ?_
      refine sx_val (v := .agg #[.slice A1g g.rs.length c1g, .slice A2g g.bs.length c2g]) hA137 rfl (ev_row (hA137.ev (i := 8) (v := .pointer (some ⟨B13, 0, none⟩))) f26_129 Try.underlying25 rfl (n := 2) (by kernel_rfl) rfl _ rfl) ?_
      intro a138 hA138; clear hA137
      refine sx_val hA138 rfl (ev_move (hA138.ev (i := 14) (v := .int .i64 (kn : Int))) _ rfl) ?_
      intro a139 hA139; clear hA138
      have hbf : bat g kn = false := by simp [bat, hyk, hd136]
      have hb2 := back2 q26_1 (by omega) hfr hbf
      have hf141 : decide ((sta g (kn : Int)).2 = 0) = true := decide_eq_true hb2.1
      have hf142 : decide ((stl (sta g (kn : Int)).1 (kn : Int)).2.2 = 0) = true := decide_eq_true hb2.2.1
      have f26_143 := Own.gN f26_119 hg109
      refine sx_call (f := 16) (args := #[.agg #[.slice A1g g.rs.length c1g, .slice A2g g.bs.length c2g], .int .i64 (kn : Int)]) hA139 rfl (by decide) (.inl rfl) (ev_fn rfl (mp2 (hA139.ev (i := 154) (v := .agg #[.slice A1g g.rs.length c1g, .slice A2g g.bs.length c2g])) (hA139.ev (i := 155) (v := .int .i64 (kn : Int)))) (by kernel_rfl) _ rfl) (Start_any A1g c1g A2g c2g g.rs g.bs (kn : Int) _ ⟨(OwnR.gr (e := 3) ⟨rfl, f26_143⟩), (OwnR.gr (e := 4) ⟨rfl, f26_133⟩)⟩ (by omega) (by omega)) ?_
      intro e140 w140 hR140
      obtain ⟨Ap140, cp140, Aj140, cj140, rfl, hC140, hJ140, hb140⟩ := hR140
      refine ⟨_, rfl, ?_⟩
      intro a140 hA140
      clear hA139
      have hg140 := g0 hb140
      have hs140 := hg140.size
      clear hb140
      have ho140_0 : Own w140 (w109.heap.size) 3 1 (.slice Ap140 (sta g (kn : Int)).1.rs.length cp140) (sta g (kn : Int)).1.rs.length (flat iva (sta g (kn : Int)).1.rs) := hC140
      have hh140_0 := Own.hi ho140_0
      have ho140_1 : Own w140 (w109.heap.size) 4 1 (.slice Aj140 (sta g (kn : Int)).1.bs.length cj140) (sta g (kn : Int)).1.bs.length (flat bva (sta g (kn : Int)).1.bs) := hJ140
      have hh140_1 := Own.hi ho140_1
      refine sx_val hA140 rfl (ev_move (hA140.ev (i := 156) (v := .tuple #[.agg #[.slice Ap140 (sta g (kn : Int)).1.rs.length cp140, .slice Aj140 (sta g (kn : Int)).1.bs.length cj140], .int .i64 (sta g (kn : Int)).2])) _ rfl) ?_
      intro a144 hA144; clear hA140
      refine sx_val (v := .agg #[.slice Ap140 (sta g (kn : Int)).1.rs.length cp140, .slice Aj140 (sta g (kn : Int)).1.bs.length cj140]) hA144 rfl (ev_ext (hA144.ev (i := 153) (v := .tuple #[.agg #[.slice Ap140 (sta g (kn : Int)).1.rs.length cp140, .slice Aj140 (sta g (kn : Int)).1.bs.length cj140], .int .i64 (sta g (kn : Int)).2])) rfl _ rfl) ?_
      intro a145 hA145; clear hA144
      refine sx_val (v := .int .i64 (sta g (kn : Int)).2) hA145 rfl (ev_ext (hA145.ev (i := 153) (v := .tuple #[.agg #[.slice Ap140 (sta g (kn : Int)).1.rs.length cp140, .slice Aj140 (sta g (kn : Int)).1.bs.length cj140], .int .i64 (sta g (kn : Int)).2])) rfl _ rfl) ?_
      intro a146 hA146; clear hA145
      refine sx_new (cs := #[.slice none 0 0, .slice none 0 0]) (t := 25) hA146 rfl (by decide) (.inl rfl) (ev_alloc (z := .agg (#[.slice none 0 0, .slice none 0 0])) (by kernel_rfl) (by kernel_rfl) _ rfl) ?_
      intro B147 w147 a147 hB147 hx147 hg147 hA147
      clear hA146
      have hs147 := hg147.size
      have hl147 := hx147.lt
      refine sx_store hA147 rfl (.inl rfl) rfl (hA147.ev (i := 22) (v := .pointer (some ⟨B147, 0, none⟩))) (hA147.ev (i := 157) (v := .agg #[.slice Ap140 (sta g (kn : Int)).1.rs.length cp140, .slice Aj140 (sta g (kn : Int)).1.bs.length cj140])) hx147 (by kernel_rfl) rfl (by simp [Value.oneCell']) ?_
      intro w148 hx148 hg148
      have hs148 := hg148.size
      refine sx_val hA147 rfl (ev_assign (hA147.ev (i := 158) (v := .int .i64 (sta g (kn : Int)).2)) _ rfl) ?_
      intro a149 hA149; clear hA147
      refine sx_nil ?_
      refine then_n ?_
      refine wp_seq ?_
      refine wp_region_lit ?_
      refine sx_val (v := .agg #[.slice Ap140 (sta g (kn : Int)).1.rs.length cp140, .slice Aj140 (sta g (kn : Int)).1.bs.length cj140]) hA149 rfl (ev_row (hA149.ev (i := 22) (v := .pointer (some ⟨B147, 0, none⟩))) hx148 Try.underlying25 rfl (n := 2) (by kernel_rfl) rfl _ rfl) ?_
      intro a150 hA150; clear hA149
      refine sx_val hA150 rfl (ev_move (hA150.ev (i := 14) (v := .int .i64 (kn : Int))) _ rfl) ?_
      intro a151 hA151; clear hA150
      have hln152_0 := sta_len g (kn : Int)
      have hlm152_0 := hln152_0.1
      replace hln152_0 := hln152_0.2
      have ho140_153 := Own.gN ho140_0 hg147
      have ho140_154 := Own.gBT ho140_153 hg148 hx147 (by decide)
      have ho140_155 := Own.gN ho140_1 hg147
      have ho140_156 := Own.gBT ho140_155 hg148 hx147 (by decide)
      refine sx_call (f := 18) (args := #[.agg #[.slice Ap140 (sta g (kn : Int)).1.rs.length cp140, .slice Aj140 (sta g (kn : Int)).1.bs.length cj140], .int .i64 (kn : Int)]) hA151 rfl (by decide) (.inl rfl) (ev_fn rfl (mp2 (hA151.ev (i := 160) (v := .agg #[.slice Ap140 (sta g (kn : Int)).1.rs.length cp140, .slice Aj140 (sta g (kn : Int)).1.bs.length cj140])) (hA151.ev (i := 161) (v := .int .i64 (kn : Int)))) (by kernel_rfl) _ rfl) (Settle_any Ap140 cp140 Aj140 cj140 (sta g (kn : Int)).1.rs (sta g (kn : Int)).1.bs (kn : Int) _ ⟨(OwnR.gr (e := 3) ⟨rfl, ho140_154⟩), (OwnR.gr (e := 4) ⟨rfl, ho140_156⟩)⟩ (by omega) (by omega)) ?_
      intro e152 w152 hR152
      obtain ⟨Ap152, cp152, Aj152, cj152, rfl, hC152, hJ152, hb152⟩ := hR152
      refine ⟨_, rfl, ?_⟩
      intro a152 hA152
      clear hA151
      have hg152 := g0 hb152
      have hs152 := hg152.size
      clear hb152
      have ho152_0 : Own w152 (w148.heap.size) 3 1 (.slice Ap152 (stl (sta g (kn : Int)).1 (kn : Int)).1.rs.length cp152) (stl (sta g (kn : Int)).1 (kn : Int)).1.rs.length (flat iva (stl (sta g (kn : Int)).1 (kn : Int)).1.rs) := hC152
      have hh152_0 := Own.hi ho152_0
      have ho152_1 : Own w152 (w148.heap.size) 4 1 (.slice Aj152 (stl (sta g (kn : Int)).1 (kn : Int)).1.bs.length cj152) (stl (sta g (kn : Int)).1 (kn : Int)).1.bs.length (flat bva (stl (sta g (kn : Int)).1 (kn : Int)).1.bs) := hJ152
      have hh152_1 := Own.hi ho152_1
      refine sx_val hA152 rfl (ev_move (hA152.ev (i := 162) (v := .tuple #[.agg #[.slice Ap152 (stl (sta g (kn : Int)).1 (kn : Int)).1.rs.length cp152, .slice Aj152 (stl (sta g (kn : Int)).1 (kn : Int)).1.bs.length cj152], .bool (stl (sta g (kn : Int)).1 (kn : Int)).2.1, .int .i64 (stl (sta g (kn : Int)).1 (kn : Int)).2.2])) _ rfl) ?_
      intro a157 hA157; clear hA152
      refine sx_val (v := .agg #[.slice Ap152 (stl (sta g (kn : Int)).1 (kn : Int)).1.rs.length cp152, .slice Aj152 (stl (sta g (kn : Int)).1 (kn : Int)).1.bs.length cj152]) hA157 rfl (ev_ext (hA157.ev (i := 159) (v := .tuple #[.agg #[.slice Ap152 (stl (sta g (kn : Int)).1 (kn : Int)).1.rs.length cp152, .slice Aj152 (stl (sta g (kn : Int)).1 (kn : Int)).1.bs.length cj152], .bool (stl (sta g (kn : Int)).1 (kn : Int)).2.1, .int .i64 (stl (sta g (kn : Int)).1 (kn : Int)).2.2])) rfl _ rfl) ?_
      intro a158 hA158; clear hA157
      refine sx_val (v := .bool (stl (sta g (kn : Int)).1 (kn : Int)).2.1) hA158 rfl (ev_ext (hA158.ev (i := 159) (v := .tuple #[.agg #[.slice Ap152 (stl (sta g (kn : Int)).1 (kn : Int)).1.rs.length cp152, .slice Aj152 (stl (sta g (kn : Int)).1 (kn : Int)).1.bs.length cj152], .bool (stl (sta g (kn : Int)).1 (kn : Int)).2.1, .int .i64 (stl (sta g (kn : Int)).1 (kn : Int)).2.2])) rfl _ rfl) ?_
      intro a159 hA159; clear hA158
      refine sx_val (v := .int .i64 (stl (sta g (kn : Int)).1 (kn : Int)).2.2) hA159 rfl (ev_ext (hA159.ev (i := 159) (v := .tuple #[.agg #[.slice Ap152 (stl (sta g (kn : Int)).1 (kn : Int)).1.rs.length cp152, .slice Aj152 (stl (sta g (kn : Int)).1 (kn : Int)).1.bs.length cj152], .bool (stl (sta g (kn : Int)).1 (kn : Int)).2.1, .int .i64 (stl (sta g (kn : Int)).1 (kn : Int)).2.2])) rfl _ rfl) ?_
      intro a160 hA160; clear hA159
      refine sx_new (cs := #[.slice none 0 0, .slice none 0 0]) (t := 25) hA160 rfl (by decide) (.inl rfl) (ev_alloc (z := .agg (#[.slice none 0 0, .slice none 0 0])) (by kernel_rfl) (by kernel_rfl) _ rfl) ?_
      intro B161 w161 a161 hB161 hx161 hg161 hA161
      clear hA160
      have hs161 := hg161.size
      have hl161 := hx161.lt
      refine sx_store hA161 rfl (.inl rfl) rfl (hA161.ev (i := 24) (v := .pointer (some ⟨B161, 0, none⟩))) (hA161.ev (i := 163) (v := .agg #[.slice Ap152 (stl (sta g (kn : Int)).1 (kn : Int)).1.rs.length cp152, .slice Aj152 (stl (sta g (kn : Int)).1 (kn : Int)).1.bs.length cj152])) hx161 (by kernel_rfl) rfl (by simp [Value.oneCell']) ?_
      intro w162 hx162 hg162
      have hs162 := hg162.size
      refine sx_val hA161 rfl (ev_assign (hA161.ev (i := 164) (v := .bool (stl (sta g (kn : Int)).1 (kn : Int)).2.1)) _ rfl) ?_
      intro a163 hA163; clear hA161
      refine sx_val hA163 rfl (ev_assign (hA163.ev (i := 165) (v := .int .i64 (stl (sta g (kn : Int)).1 (kn : Int)).2.2)) _ rfl) ?_
      intro a164 hA164; clear hA163
      refine sx_nil ?_
      refine then_n ?_
      refine wp_seq ?_
      refine wp_region_lit ?_
      refine sx_val hA164 rfl (ev_move (hA164.ev (i := 7) (v := .bool true)) _ rfl) ?_
      intro a165 hA165; clear hA164
      refine sx_val hA165 rfl (ev_move (hA165.ev (i := 166) (v := .bool true)) _ rfl) ?_
      intro a166 hA166; clear hA165
      refine sx_val (hg := (.inr ⟨1, true, 167, rfl, rfl, by kernel_rfl⟩)) hA166 rfl (ev_move (hA166.ev (i := 23) (v := .int .i64 (sta g (kn : Int)).2)) _ rfl) ?_
      intro a167 hA167; clear hA166
      refine sx_val (hg := (.inr ⟨1, true, 167, rfl, rfl, by kernel_rfl⟩)) (v := .bool true) hA167 rfl (ev_eqlB (k := .i64) (m := (sta g (kn : Int)).2) (n := 0) (hA167.ev (i := 168)) (ec _ (.int .i64 0)) hf141 _ rfl) ?_
      intro a168 hA168; clear hA167
      refine sx_val hA168 rfl (ev_pickT (hA168.ev (i := 167) (v := .bool true)) (hA168.ev (i := 169) (v := .bool true)) _ rfl) ?_
      intro a169 hA169; clear hA168
      refine sx_val hA169 rfl (ev_move (hA169.ev (i := 170) (v := .bool true)) _ rfl) ?_
      intro a170 hA170; clear hA169
      refine sx_val (hg := (.inr ⟨5, true, 171, rfl, rfl, by kernel_rfl⟩)) hA170 rfl (ev_move (hA170.ev (i := 26) (v := .int .i64 (stl (sta g (kn : Int)).1 (kn : Int)).2.2)) _ rfl) ?_
      intro a171 hA171; clear hA170
      refine sx_val (hg := (.inr ⟨5, true, 171, rfl, rfl, by kernel_rfl⟩)) (v := .bool true) hA171 rfl (ev_eqlB (k := .i64) (m := (stl (sta g (kn : Int)).1 (kn : Int)).2.2) (n := 0) (hA171.ev (i := 172)) (ec _ (.int .i64 0)) hf142 _ rfl) ?_
      intro a172 hA172; clear hA171
      refine sx_val hA172 rfl (ev_pickT (hA172.ev (i := 171) (v := .bool true)) (hA172.ev (i := 173) (v := .bool true)) _ rfl) ?_
      intro a173 hA173; clear hA172
      refine sx_val hA173 rfl (ev_move (hA173.ev (i := 174) (v := .bool true)) _ rfl) ?_
      intro a174 hA174; clear hA173
      refine sx_val (hg := (.inr ⟨9, true, 175, rfl, rfl, by kernel_rfl⟩)) (v := .agg #[.slice Ap152 (stl (sta g (kn : Int)).1 (kn : Int)).1.rs.length cp152, .slice Aj152 (stl (sta g (kn : Int)).1 (kn : Int)).1.bs.length cj152]) hA174 rfl (ev_row (hA174.ev (i := 24) (v := .pointer (some ⟨B161, 0, none⟩))) hx162 Try.underlying25 rfl (n := 2) (by kernel_rfl) rfl _ rfl) ?_
      intro a175 hA175; clear hA174
      have f26_176 := f26_129.gN hg140
      have f26_177 := f26_176.gN hg147
      have f26_178 := f26_177.gB hg148 (by omega)
      have f26_179 := f26_178.gN hg152
      have f26_180 := f26_179.gN hg161
      have f26_181 := f26_180.gB hg162 (by omega)
      refine sx_val (hg := (.inr ⟨9, true, 175, rfl, rfl, by kernel_rfl⟩)) (v := .agg #[.slice A1g g.rs.length c1g, .slice A2g g.bs.length c2g]) hA175 rfl (ev_row (hA175.ev (i := 8) (v := .pointer (some ⟨B13, 0, none⟩))) f26_181 Try.underlying25 rfl (n := 2) (by kernel_rfl) rfl _ rfl) ?_
      intro a182 hA182; clear hA175
      have ho152_184 := Own.gN ho152_0 hg161
      have ho152_185 := Own.gBT ho152_184 hg162 hx161 (by decide)
      have ho152_186 := Own.gN ho152_1 hg161
      have ho152_187 := Own.gBT ho152_186 hg162 hx161 (by decide)
      have f26_188 := Own.gN f26_143 hg140
      have f26_189 := Own.gN f26_188 hg147
      have f26_190 := Own.gBT f26_189 hg148 hx147 (by decide)
      have f26_191 := Own.gN f26_190 hg152
      have f26_192 := Own.gN f26_191 hg161
      have f26_193 := Own.gBT f26_192 hg162 hx161 (by decide)
      have f26_194 := Own.gN f26_133 hg140
      have f26_195 := Own.gN f26_194 hg147
      have f26_196 := Own.gBT f26_195 hg148 hx147 (by decide)
      have f26_197 := Own.gN f26_196 hg152
      have f26_198 := Own.gN f26_197 hg161
      have f26_199 := Own.gBT f26_198 hg162 hx161 (by decide)
      refine sx_call (f := 13) (args := #[.agg #[.slice Ap152 (stl (sta g (kn : Int)).1 (kn : Int)).1.rs.length cp152, .slice Aj152 (stl (sta g (kn : Int)).1 (kn : Int)).1.bs.length cj152], .agg #[.slice A1g g.rs.length c1g, .slice A2g g.bs.length c2g]]) hA182 rfl (by decide) (.inr ⟨9, true, 175, rfl, rfl, by kernel_rfl⟩) (ev_fn rfl (mp2 (hA182.ev (i := 176) (v := .agg #[.slice Ap152 (stl (sta g (kn : Int)).1 (kn : Int)).1.rs.length cp152, .slice Aj152 (stl (sta g (kn : Int)).1 (kn : Int)).1.bs.length cj152])) (hA182.ev (i := 177) (v := .agg #[.slice A1g g.rs.length c1g, .slice A2g g.bs.length c2g]))) (by kernel_rfl) _ rfl) (SameSlots_any Ap152 cp152 Aj152 cj152 (stl (sta g (kn : Int)).1 (kn : Int)).1.rs (stl (sta g (kn : Int)).1 (kn : Int)).1.bs A1g c1g A2g c2g g.rs g.bs _ ⟨(OwnR.gr (e := 3) ⟨rfl, ho152_185⟩), (OwnR.gr (e := 4) ⟨rfl, ho152_187⟩)⟩ ⟨(OwnR.gr (e := 3) ⟨rfl, f26_193⟩), (OwnR.gr (e := 4) ⟨rfl, f26_199⟩)⟩) ?_
      intro e183 w183 hR183
      obtain ⟨hv183, hb183⟩ := hR183
      rw [show sme (stl (sta g (kn : Int)).1 (kn : Int)).1 g = true from (by rw [hb2.2.2]; exact sme_refl _)] at hv183
      subst hv183
      refine ⟨_, rfl, ?_⟩
      intro a183 hA183
      clear hA182
      have hg183 := g0 hb183
      have hs183 := hg183.size
      clear hb183
      refine sx_val hA183 rfl (ev_pickT (hA183.ev (i := 175) (v := .bool true)) (hA183.ev (i := 178) (v := .bool true)) _ rfl) ?_
      intro a200 hA200; clear hA183
      refine sx_val hA200 rfl (ev_assign (hA200.ev (i := 179) (v := .bool true)) _ rfl) ?_
      intro a201 hA201; clear hA200
      refine sx_nil ?_
      refine then_n ?_
      refine wp_ret ?_
      refine then_r ?_
      refine bodyPost_ret (rs_t (v := .bool true) Try.results7 hA201 (by kernel_rfl) ) hA201.2.1 ?_
      have hbel26_202 := Below.gN hbel26 hg47 hbel26.size
      have hbel26_203 := Below.gN hbel26_202 hg69 hbel26_202.size
      have hbel26_204 := Below.gN hbel26_203 hg76 hbel26_203.size
      have hbel26_205 := Below.gB hbel26_204 hg77 hbel26_204.size (by omega)
      have hbel26_206 := Below.gN hbel26_205 hg81 hbel26_205.size
      have hbel26_207 := Below.gN hbel26_206 hg90 hbel26_206.size
      have hbel26_208 := Below.gB hbel26_207 hg91 hbel26_207.size (by omega)
      have hbel26_209 := Below.gN hbel26_208 hg109 hbel26_208.size
      have hbel26_210 := Below.gN hbel26_209 hg140 hbel26_209.size
      have hbel26_211 := Below.gN hbel26_210 hg147 hbel26_210.size
      have hbel26_212 := Below.gB hbel26_211 hg148 hbel26_211.size (by omega)
      have hbel26_213 := Below.gN hbel26_212 hg152 hbel26_212.size
      have hbel26_214 := Below.gN hbel26_213 hg161 hbel26_213.size
      have hbel26_215 := Below.gB hbel26_214 hg162 hbel26_214.size (by omega)
      have hbel26_216 := Below.gN hbel26_215 hg183 hbel26_215.size
      exact ⟨rfl, hbel26_216⟩
    rw [hd136] at hA135
    refine sx_val (v := .bool false) hA135 rfl (ev_notT (hA135.ev (i := 151) (v := .bool true)) _ rfl) ?_
    intro a217 hA217; clear hA135
    refine sx_nil ?_
    refine then_n ?_
    refine wp_cond_false (hA217.ev (i := 152) (v := .bool false)) ?_
    refine wp_skip ?_
    refine then_n ?_
    refine wp_seq ?_
    refine wp_seq ?_
    refine wp_region_lit ?_
    refine sx_val (v := .pointer (some ⟨B13, 0, none⟩)) hA217 rfl (fb_Slots_0 (hA217.ev (i := 8) (v := .pointer (some ⟨B13, 0, none⟩))) _ rfl) ?_
    intro a218 hA218; clear hA217
    refine sx_val (v := .slice A1g g.rs.length c1g) hA218 rfl (ev_cell (v := .slice A1g g.rs.length c1g) (hA218.ev (i := 180) (v := .pointer (some ⟨B13, 0, none⟩))) ((f26_129.cell 0).trans rfl) Try.underlying22 rfl _ rfl) ?_
    intro a219 hA219; clear hA218
    refine sx_val hA219 rfl (ev_move (hA219.ev (i := 14) (v := .int .i64 (kn : Int))) _ rfl) ?_
    intro a220 hA220; clear hA219
    refine sx_val (v := .pointer (some (ad53.add (kn * 1)))) hA220 rfl (ev_idx (k := kn) (hA220.ev (i := 181) (v := .slice A1g g.rs.length c1g)) hAd53 (hA220.ev (i := 182) (v := .int .i64 (kn : Int))) rfl (by omega) Try.underlying22 (by kernel_rfl) _ rfl) ?_
    intro a221 hA221; clear hA220
    have f26_222 := Own.gN f26_119 hg109
    refine sx_val (v := .int .i64 xk) hA221 rfl (ev_cell (hA221.ev (i := 183) (v := .pointer (some (ad53.add (kn * 1))))) ((GR.cel (OwnR.gr (e := 3) ⟨rfl, f26_222⟩) hAd53 iva_sz hxk) 0 _ rfl) Try.underlying3 rfl _ rfl) ?_
    intro a223 hA223; clear hA221
    cases hd224 : decide (xk = 1)
    · have hp224 := of_decide_eq_false hd224
      refine sx_val (v := .bool true) hA223 rfl (ev_neqB (k := .i64) (m := xk) (n := 1) (hA223.ev (i := 184)) (ec _ (.int .i64 1)) (by simpa using hd224) _ rfl) ?_
      intro a225 hA225; clear hA223
      refine sx_nil ?_
      refine then_n ?_
      refine wp_cond_true (hA225.ev (i := 185) (v := .bool true)) ?_
      refine wp_seq ?_
      refine wp_region_lit ?_
      refine sx_val hA225 rfl (ev_move (hA225.ev (i := 7) (v := .bool true)) _ rfl) ?_
      intro a226 hA226; clear hA225
      refine sx_val hA226 rfl (ev_assign (hA226.ev (i := 186) (v := .bool true)) _ rfl) ?_
      intro a227 hA227; clear hA226
      refine sx_nil ?_
      refine then_n ?_
      refine wp_ret ?_
      refine then_r ?_
      refine bodyPost_ret (rs_t (v := .bool true) Try.results7 hA227 (by kernel_rfl) ) hA227.2.1 ?_
      have hbel26_228 := Below.gN hbel26 hg47 hbel26.size
      have hbel26_229 := Below.gN hbel26_228 hg69 hbel26_228.size
      have hbel26_230 := Below.gN hbel26_229 hg76 hbel26_229.size
      have hbel26_231 := Below.gB hbel26_230 hg77 hbel26_230.size (by omega)
      have hbel26_232 := Below.gN hbel26_231 hg81 hbel26_231.size
      have hbel26_233 := Below.gN hbel26_232 hg90 hbel26_232.size
      have hbel26_234 := Below.gB hbel26_233 hg91 hbel26_233.size (by omega)
      have hbel26_235 := Below.gN hbel26_234 hg109 hbel26_234.size
      exact ⟨rfl, hbel26_235⟩
    have hp224 := of_decide_eq_true hd224
    refine sx_val (v := .bool false) hA223 rfl (ev_neqB (k := .i64) (m := xk) (n := 1) (hA223.ev (i := 184)) (ec _ (.int .i64 1)) (by simpa using hd224) _ rfl) ?_
    intro a236 hA236; clear hA223
    refine sx_nil ?_
    refine then_n ?_
    refine wp_cond_false (hA236.ev (i := 185) (v := .bool false)) ?_
    refine wp_skip ?_
    refine then_n ?_
    refine wp_seq ?_
    refine wp_region_lit ?_
    refine sx_val (v := .agg #[.slice A1g g.rs.length c1g, .slice A2g g.bs.length c2g]) hA236 rfl (ev_row (hA236.ev (i := 8) (v := .pointer (some ⟨B13, 0, none⟩))) f26_129 Try.underlying25 rfl (n := 2) (by kernel_rfl) rfl _ rfl) ?_
    intro a237 hA237; clear hA236
    refine sx_val hA237 rfl (ev_move (hA237.ev (i := 14) (v := .int .i64 (kn : Int))) _ rfl) ?_
    intro a238 hA238; clear hA237
    have hbt : bat g kn = true := by simp [bat, hyk, hd136]
    have hr1 : rat g kn = 1 := by simp [rat, hxk, hp224]
    obtain ⟨he1, he2, he3, he4, he5, he6, he7, he8, he9⟩ := back3 q26_1 (by omega) hbt hr1
    have hf240 : decide ((unr g (kn : Int)).2.2 = 0) = true := decide_eq_true he1
    have hf241 : decide ((stl (unr g (kn : Int)).1 (kn : Int)).2.2 = 0) = true := decide_eq_true he2
    have hf242 : decide ((stl g (kn : Int)).2.2 = 0) = true := decide_eq_true he3
    have hf243 : decide ((unr (stl g (kn : Int)).1 (kn : Int)).2.2 = 0) = true := decide_eq_true he4
    refine sx_call (f := 14) (args := #[.agg #[.slice A1g g.rs.length c1g, .slice A2g g.bs.length c2g], .int .i64 (kn : Int)]) hA238 rfl (by decide) (.inl rfl) (ev_fn rfl (mp2 (hA238.ev (i := 188) (v := .agg #[.slice A1g g.rs.length c1g, .slice A2g g.bs.length c2g])) (hA238.ev (i := 189) (v := .int .i64 (kn : Int)))) (by kernel_rfl) _ rfl) (Unref_any A1g c1g A2g c2g g.rs g.bs (kn : Int) _ ⟨(OwnR.gr (e := 3) ⟨rfl, f26_222⟩), (OwnR.gr (e := 4) ⟨rfl, f26_133⟩)⟩ (by omega) (by omega)) ?_
    intro e239 w239 hR239
    obtain ⟨Ap239, cp239, Aj239, cj239, rfl, hC239, hJ239, hb239⟩ := hR239
    refine ⟨_, rfl, ?_⟩
    intro a239 hA239
    clear hA238
    have hg239 := g0 hb239
    have hs239 := hg239.size
    clear hb239
    have ho239_0 : Own w239 (w109.heap.size) 3 1 (.slice Ap239 (unr g (kn : Int)).1.rs.length cp239) (unr g (kn : Int)).1.rs.length (flat iva (unr g (kn : Int)).1.rs) := hC239
    have hh239_0 := Own.hi ho239_0
    have ho239_1 : Own w239 (w109.heap.size) 4 1 (.slice Aj239 (unr g (kn : Int)).1.bs.length cj239) (unr g (kn : Int)).1.bs.length (flat bva (unr g (kn : Int)).1.bs) := hJ239
    have hh239_1 := Own.hi ho239_1
    refine sx_val hA239 rfl (ev_move (hA239.ev (i := 190) (v := .tuple #[.agg #[.slice Ap239 (unr g (kn : Int)).1.rs.length cp239, .slice Aj239 (unr g (kn : Int)).1.bs.length cj239], .bool (unr g (kn : Int)).2.1, .int .i64 (unr g (kn : Int)).2.2])) _ rfl) ?_
    intro a244 hA244; clear hA239
    rw [he5] at hA244
    refine sx_val (v := .agg #[.slice Ap239 (unr g (kn : Int)).1.rs.length cp239, .slice Aj239 (unr g (kn : Int)).1.bs.length cj239]) hA244 rfl (ev_ext (hA244.ev (i := 187) (v := .tuple #[.agg #[.slice Ap239 (unr g (kn : Int)).1.rs.length cp239, .slice Aj239 (unr g (kn : Int)).1.bs.length cj239], .bool false, .int .i64 (unr g (kn : Int)).2.2])) rfl _ rfl) ?_
    intro a245 hA245; clear hA244
    refine sx_val (v := .bool false) hA245 rfl (ev_ext (hA245.ev (i := 187) (v := .tuple #[.agg #[.slice Ap239 (unr g (kn : Int)).1.rs.length cp239, .slice Aj239 (unr g (kn : Int)).1.bs.length cj239], .bool false, .int .i64 (unr g (kn : Int)).2.2])) rfl _ rfl) ?_
    intro a246 hA246; clear hA245
    refine sx_val (v := .int .i64 (unr g (kn : Int)).2.2) hA246 rfl (ev_ext (hA246.ev (i := 187) (v := .tuple #[.agg #[.slice Ap239 (unr g (kn : Int)).1.rs.length cp239, .slice Aj239 (unr g (kn : Int)).1.bs.length cj239], .bool false, .int .i64 (unr g (kn : Int)).2.2])) rfl _ rfl) ?_
    intro a247 hA247; clear hA246
    refine sx_new (cs := #[.slice none 0 0, .slice none 0 0]) (t := 25) hA247 rfl (by decide) (.inl rfl) (ev_alloc (z := .agg (#[.slice none 0 0, .slice none 0 0])) (by kernel_rfl) (by kernel_rfl) _ rfl) ?_
    intro B248 w248 a248 hB248 hx248 hg248 hA248
    clear hA247
    have hs248 := hg248.size
    have hl248 := hx248.lt
    refine sx_store hA248 rfl (.inl rfl) rfl (hA248.ev (i := 27) (v := .pointer (some ⟨B248, 0, none⟩))) (hA248.ev (i := 191) (v := .agg #[.slice Ap239 (unr g (kn : Int)).1.rs.length cp239, .slice Aj239 (unr g (kn : Int)).1.bs.length cj239])) hx248 (by kernel_rfl) rfl (by simp [Value.oneCell']) ?_
    intro w249 hx249 hg249
    have hs249 := hg249.size
    refine sx_val hA248 rfl (ev_assign (hA248.ev (i := 192) (v := .bool false)) _ rfl) ?_
    intro a250 hA250; clear hA248
    refine sx_val hA250 rfl (ev_assign (hA250.ev (i := 193) (v := .int .i64 (unr g (kn : Int)).2.2)) _ rfl) ?_
    intro a251 hA251; clear hA250
    refine sx_nil ?_
    refine then_n ?_
    refine wp_seq ?_
    refine wp_region_lit ?_
    refine sx_val (v := .agg #[.slice Ap239 (unr g (kn : Int)).1.rs.length cp239, .slice Aj239 (unr g (kn : Int)).1.bs.length cj239]) hA251 rfl (ev_row (hA251.ev (i := 27) (v := .pointer (some ⟨B248, 0, none⟩))) hx249 Try.underlying25 rfl (n := 2) (by kernel_rfl) rfl _ rfl) ?_
    intro a252 hA252; clear hA251
    refine sx_val hA252 rfl (ev_move (hA252.ev (i := 14) (v := .int .i64 (kn : Int))) _ rfl) ?_
    intro a253 hA253; clear hA252
    have hln254_0 := unr_len g (kn : Int)
    have hlm254_0 := hln254_0.1
    replace hln254_0 := hln254_0.2
    have ho239_255 := Own.gN ho239_0 hg248
    have ho239_256 := Own.gBT ho239_255 hg249 hx248 (by decide)
    have ho239_257 := Own.gN ho239_1 hg248
    have ho239_258 := Own.gBT ho239_257 hg249 hx248 (by decide)
    refine sx_call (f := 18) (args := #[.agg #[.slice Ap239 (unr g (kn : Int)).1.rs.length cp239, .slice Aj239 (unr g (kn : Int)).1.bs.length cj239], .int .i64 (kn : Int)]) hA253 rfl (by decide) (.inl rfl) (ev_fn rfl (mp2 (hA253.ev (i := 195) (v := .agg #[.slice Ap239 (unr g (kn : Int)).1.rs.length cp239, .slice Aj239 (unr g (kn : Int)).1.bs.length cj239])) (hA253.ev (i := 196) (v := .int .i64 (kn : Int)))) (by kernel_rfl) _ rfl) (Settle_any Ap239 cp239 Aj239 cj239 (unr g (kn : Int)).1.rs (unr g (kn : Int)).1.bs (kn : Int) _ ⟨(OwnR.gr (e := 3) ⟨rfl, ho239_256⟩), (OwnR.gr (e := 4) ⟨rfl, ho239_258⟩)⟩ (by omega) (by omega)) ?_
    intro e254 w254 hR254
    obtain ⟨Ap254, cp254, Aj254, cj254, rfl, hC254, hJ254, hb254⟩ := hR254
    refine ⟨_, rfl, ?_⟩
    intro a254 hA254
    clear hA253
    have hg254 := g0 hb254
    have hs254 := hg254.size
    clear hb254
    have ho254_0 : Own w254 (w249.heap.size) 3 1 (.slice Ap254 (stl (unr g (kn : Int)).1 (kn : Int)).1.rs.length cp254) (stl (unr g (kn : Int)).1 (kn : Int)).1.rs.length (flat iva (stl (unr g (kn : Int)).1 (kn : Int)).1.rs) := hC254
    have hh254_0 := Own.hi ho254_0
    have ho254_1 : Own w254 (w249.heap.size) 4 1 (.slice Aj254 (stl (unr g (kn : Int)).1 (kn : Int)).1.bs.length cj254) (stl (unr g (kn : Int)).1 (kn : Int)).1.bs.length (flat bva (stl (unr g (kn : Int)).1 (kn : Int)).1.bs) := hJ254
    have hh254_1 := Own.hi ho254_1
    refine sx_val hA254 rfl (ev_move (hA254.ev (i := 197) (v := .tuple #[.agg #[.slice Ap254 (stl (unr g (kn : Int)).1 (kn : Int)).1.rs.length cp254, .slice Aj254 (stl (unr g (kn : Int)).1 (kn : Int)).1.bs.length cj254], .bool (stl (unr g (kn : Int)).1 (kn : Int)).2.1, .int .i64 (stl (unr g (kn : Int)).1 (kn : Int)).2.2])) _ rfl) ?_
    intro a259 hA259; clear hA254
    rw [he6] at hA259
    refine sx_val (v := .agg #[.slice Ap254 (stl (unr g (kn : Int)).1 (kn : Int)).1.rs.length cp254, .slice Aj254 (stl (unr g (kn : Int)).1 (kn : Int)).1.bs.length cj254]) hA259 rfl (ev_ext (hA259.ev (i := 194) (v := .tuple #[.agg #[.slice Ap254 (stl (unr g (kn : Int)).1 (kn : Int)).1.rs.length cp254, .slice Aj254 (stl (unr g (kn : Int)).1 (kn : Int)).1.bs.length cj254], .bool true, .int .i64 (stl (unr g (kn : Int)).1 (kn : Int)).2.2])) rfl _ rfl) ?_
    intro a260 hA260; clear hA259
    refine sx_val (v := .bool true) hA260 rfl (ev_ext (hA260.ev (i := 194) (v := .tuple #[.agg #[.slice Ap254 (stl (unr g (kn : Int)).1 (kn : Int)).1.rs.length cp254, .slice Aj254 (stl (unr g (kn : Int)).1 (kn : Int)).1.bs.length cj254], .bool true, .int .i64 (stl (unr g (kn : Int)).1 (kn : Int)).2.2])) rfl _ rfl) ?_
    intro a261 hA261; clear hA260
    refine sx_val (v := .int .i64 (stl (unr g (kn : Int)).1 (kn : Int)).2.2) hA261 rfl (ev_ext (hA261.ev (i := 194) (v := .tuple #[.agg #[.slice Ap254 (stl (unr g (kn : Int)).1 (kn : Int)).1.rs.length cp254, .slice Aj254 (stl (unr g (kn : Int)).1 (kn : Int)).1.bs.length cj254], .bool true, .int .i64 (stl (unr g (kn : Int)).1 (kn : Int)).2.2])) rfl _ rfl) ?_
    intro a262 hA262; clear hA261
    refine sx_new (cs := #[.slice none 0 0, .slice none 0 0]) (t := 25) hA262 rfl (by decide) (.inl rfl) (ev_alloc (z := .agg (#[.slice none 0 0, .slice none 0 0])) (by kernel_rfl) (by kernel_rfl) _ rfl) ?_
    intro B263 w263 a263 hB263 hx263 hg263 hA263
    clear hA262
    have hs263 := hg263.size
    have hl263 := hx263.lt
    refine sx_store hA263 rfl (.inl rfl) rfl (hA263.ev (i := 30) (v := .pointer (some ⟨B263, 0, none⟩))) (hA263.ev (i := 198) (v := .agg #[.slice Ap254 (stl (unr g (kn : Int)).1 (kn : Int)).1.rs.length cp254, .slice Aj254 (stl (unr g (kn : Int)).1 (kn : Int)).1.bs.length cj254])) hx263 (by kernel_rfl) rfl (by simp [Value.oneCell']) ?_
    intro w264 hx264 hg264
    have hs264 := hg264.size
    refine sx_val hA263 rfl (ev_assign (hA263.ev (i := 199) (v := .bool true)) _ rfl) ?_
    intro a265 hA265; clear hA263
    refine sx_val hA265 rfl (ev_assign (hA265.ev (i := 200) (v := .int .i64 (stl (unr g (kn : Int)).1 (kn : Int)).2.2)) _ rfl) ?_
    intro a266 hA266; clear hA265
    refine sx_nil ?_
    refine then_n ?_
    refine wp_seq ?_
    refine wp_region_lit ?_
    have f26_267 := f26_129.gN hg239
    have f26_268 := f26_267.gN hg248
    have f26_269 := f26_268.gB hg249 (by omega)
    have f26_270 := f26_269.gN hg254
    have f26_271 := f26_270.gN hg263
    have f26_272 := f26_271.gB hg264 (by omega)
    refine sx_val (v := .agg #[.slice A1g g.rs.length c1g, .slice A2g g.bs.length c2g]) hA266 rfl (ev_row (hA266.ev (i := 8) (v := .pointer (some ⟨B13, 0, none⟩))) f26_272 Try.underlying25 rfl (n := 2) (by kernel_rfl) rfl _ rfl) ?_
    intro a273 hA273; clear hA266
    refine sx_val hA273 rfl (ev_move (hA273.ev (i := 14) (v := .int .i64 (kn : Int))) _ rfl) ?_
    intro a274 hA274; clear hA273
    have f26_276 := Own.gN f26_222 hg239
    have f26_277 := Own.gN f26_276 hg248
    have f26_278 := Own.gBT f26_277 hg249 hx248 (by decide)
    have f26_279 := Own.gN f26_278 hg254
    have f26_280 := Own.gN f26_279 hg263
    have f26_281 := Own.gBT f26_280 hg264 hx263 (by decide)
    have f26_282 := Own.gN f26_133 hg239
    have f26_283 := Own.gN f26_282 hg248
    have f26_284 := Own.gBT f26_283 hg249 hx248 (by decide)
    have f26_285 := Own.gN f26_284 hg254
    have f26_286 := Own.gN f26_285 hg263
    have f26_287 := Own.gBT f26_286 hg264 hx263 (by decide)
    refine sx_call (f := 18) (args := #[.agg #[.slice A1g g.rs.length c1g, .slice A2g g.bs.length c2g], .int .i64 (kn : Int)]) hA274 rfl (by decide) (.inl rfl) (ev_fn rfl (mp2 (hA274.ev (i := 202) (v := .agg #[.slice A1g g.rs.length c1g, .slice A2g g.bs.length c2g])) (hA274.ev (i := 203) (v := .int .i64 (kn : Int)))) (by kernel_rfl) _ rfl) (Settle_any A1g c1g A2g c2g g.rs g.bs (kn : Int) _ ⟨(OwnR.gr (e := 3) ⟨rfl, f26_281⟩), (OwnR.gr (e := 4) ⟨rfl, f26_287⟩)⟩ (by omega) (by omega)) ?_
    intro e275 w275 hR275
    obtain ⟨Ap275, cp275, Aj275, cj275, rfl, hC275, hJ275, hb275⟩ := hR275
    refine ⟨_, rfl, ?_⟩
    intro a275 hA275
    clear hA274
    have hg275 := g0 hb275
    have hs275 := hg275.size
    clear hb275
    have ho275_0 : Own w275 (w264.heap.size) 3 1 (.slice Ap275 (stl g (kn : Int)).1.rs.length cp275) (stl g (kn : Int)).1.rs.length (flat iva (stl g (kn : Int)).1.rs) := hC275
    have hh275_0 := Own.hi ho275_0
    have ho275_1 : Own w275 (w264.heap.size) 4 1 (.slice Aj275 (stl g (kn : Int)).1.bs.length cj275) (stl g (kn : Int)).1.bs.length (flat bva (stl g (kn : Int)).1.bs) := hJ275
    have hh275_1 := Own.hi ho275_1
    refine sx_val hA275 rfl (ev_move (hA275.ev (i := 204) (v := .tuple #[.agg #[.slice Ap275 (stl g (kn : Int)).1.rs.length cp275, .slice Aj275 (stl g (kn : Int)).1.bs.length cj275], .bool (stl g (kn : Int)).2.1, .int .i64 (stl g (kn : Int)).2.2])) _ rfl) ?_
    intro a288 hA288; clear hA275
    rw [he7] at hA288
    refine sx_val (v := .agg #[.slice Ap275 (stl g (kn : Int)).1.rs.length cp275, .slice Aj275 (stl g (kn : Int)).1.bs.length cj275]) hA288 rfl (ev_ext (hA288.ev (i := 201) (v := .tuple #[.agg #[.slice Ap275 (stl g (kn : Int)).1.rs.length cp275, .slice Aj275 (stl g (kn : Int)).1.bs.length cj275], .bool false, .int .i64 (stl g (kn : Int)).2.2])) rfl _ rfl) ?_
    intro a289 hA289; clear hA288
    refine sx_val (v := .bool false) hA289 rfl (ev_ext (hA289.ev (i := 201) (v := .tuple #[.agg #[.slice Ap275 (stl g (kn : Int)).1.rs.length cp275, .slice Aj275 (stl g (kn : Int)).1.bs.length cj275], .bool false, .int .i64 (stl g (kn : Int)).2.2])) rfl _ rfl) ?_
    intro a290 hA290; clear hA289
    refine sx_val (v := .int .i64 (stl g (kn : Int)).2.2) hA290 rfl (ev_ext (hA290.ev (i := 201) (v := .tuple #[.agg #[.slice Ap275 (stl g (kn : Int)).1.rs.length cp275, .slice Aj275 (stl g (kn : Int)).1.bs.length cj275], .bool false, .int .i64 (stl g (kn : Int)).2.2])) rfl _ rfl) ?_
    intro a291 hA291; clear hA290
    refine sx_new (cs := #[.slice none 0 0, .slice none 0 0]) (t := 25) hA291 rfl (by decide) (.inl rfl) (ev_alloc (z := .agg (#[.slice none 0 0, .slice none 0 0])) (by kernel_rfl) (by kernel_rfl) _ rfl) ?_
    intro B292 w292 a292 hB292 hx292 hg292 hA292
    clear hA291
    have hs292 := hg292.size
    have hl292 := hx292.lt
    refine sx_store hA292 rfl (.inl rfl) rfl (hA292.ev (i := 33) (v := .pointer (some ⟨B292, 0, none⟩))) (hA292.ev (i := 205) (v := .agg #[.slice Ap275 (stl g (kn : Int)).1.rs.length cp275, .slice Aj275 (stl g (kn : Int)).1.bs.length cj275])) hx292 (by kernel_rfl) rfl (by simp [Value.oneCell']) ?_
    intro w293 hx293 hg293
    have hs293 := hg293.size
    refine sx_val hA292 rfl (ev_assign (hA292.ev (i := 206) (v := .bool false)) _ rfl) ?_
    intro a294 hA294; clear hA292
    refine sx_val hA294 rfl (ev_assign (hA294.ev (i := 207) (v := .int .i64 (stl g (kn : Int)).2.2)) _ rfl) ?_
    intro a295 hA295; clear hA294
    refine sx_nil ?_
    refine then_n ?_
    refine wp_seq ?_
    refine wp_region_lit ?_
    refine sx_val (v := .agg #[.slice Ap275 (stl g (kn : Int)).1.rs.length cp275, .slice Aj275 (stl g (kn : Int)).1.bs.length cj275]) hA295 rfl (ev_row (hA295.ev (i := 33) (v := .pointer (some ⟨B292, 0, none⟩))) hx293 Try.underlying25 rfl (n := 2) (by kernel_rfl) rfl _ rfl) ?_
    intro a296 hA296; clear hA295
    refine sx_val hA296 rfl (ev_move (hA296.ev (i := 14) (v := .int .i64 (kn : Int))) _ rfl) ?_
    intro a297 hA297; clear hA296
    have hln298_0 := stl_len g (kn : Int)
    have hlm298_0 := hln298_0.1
    replace hln298_0 := hln298_0.2
    have ho275_299 := Own.gN ho275_0 hg292
    have ho275_300 := Own.gBT ho275_299 hg293 hx292 (by decide)
    have ho275_301 := Own.gN ho275_1 hg292
    have ho275_302 := Own.gBT ho275_301 hg293 hx292 (by decide)
    refine sx_call (f := 14) (args := #[.agg #[.slice Ap275 (stl g (kn : Int)).1.rs.length cp275, .slice Aj275 (stl g (kn : Int)).1.bs.length cj275], .int .i64 (kn : Int)]) hA297 rfl (by decide) (.inl rfl) (ev_fn rfl (mp2 (hA297.ev (i := 209) (v := .agg #[.slice Ap275 (stl g (kn : Int)).1.rs.length cp275, .slice Aj275 (stl g (kn : Int)).1.bs.length cj275])) (hA297.ev (i := 210) (v := .int .i64 (kn : Int)))) (by kernel_rfl) _ rfl) (Unref_any Ap275 cp275 Aj275 cj275 (stl g (kn : Int)).1.rs (stl g (kn : Int)).1.bs (kn : Int) _ ⟨(OwnR.gr (e := 3) ⟨rfl, ho275_300⟩), (OwnR.gr (e := 4) ⟨rfl, ho275_302⟩)⟩ (by omega) (by omega)) ?_
    intro e298 w298 hR298
    obtain ⟨Ap298, cp298, Aj298, cj298, rfl, hC298, hJ298, hb298⟩ := hR298
    refine ⟨_, rfl, ?_⟩
    intro a298 hA298
    clear hA297
    have hg298 := g0 hb298
    have hs298 := hg298.size
    clear hb298
    have ho298_0 : Own w298 (w293.heap.size) 3 1 (.slice Ap298 (unr (stl g (kn : Int)).1 (kn : Int)).1.rs.length cp298) (unr (stl g (kn : Int)).1 (kn : Int)).1.rs.length (flat iva (unr (stl g (kn : Int)).1 (kn : Int)).1.rs) := hC298
    have hh298_0 := Own.hi ho298_0
    have ho298_1 : Own w298 (w293.heap.size) 4 1 (.slice Aj298 (unr (stl g (kn : Int)).1 (kn : Int)).1.bs.length cj298) (unr (stl g (kn : Int)).1 (kn : Int)).1.bs.length (flat bva (unr (stl g (kn : Int)).1 (kn : Int)).1.bs) := hJ298
    have hh298_1 := Own.hi ho298_1
    refine sx_val hA298 rfl (ev_move (hA298.ev (i := 211) (v := .tuple #[.agg #[.slice Ap298 (unr (stl g (kn : Int)).1 (kn : Int)).1.rs.length cp298, .slice Aj298 (unr (stl g (kn : Int)).1 (kn : Int)).1.bs.length cj298], .bool (unr (stl g (kn : Int)).1 (kn : Int)).2.1, .int .i64 (unr (stl g (kn : Int)).1 (kn : Int)).2.2])) _ rfl) ?_
    intro a303 hA303; clear hA298
    rw [he8] at hA303
    refine sx_val (v := .agg #[.slice Ap298 (unr (stl g (kn : Int)).1 (kn : Int)).1.rs.length cp298, .slice Aj298 (unr (stl g (kn : Int)).1 (kn : Int)).1.bs.length cj298]) hA303 rfl (ev_ext (hA303.ev (i := 208) (v := .tuple #[.agg #[.slice Ap298 (unr (stl g (kn : Int)).1 (kn : Int)).1.rs.length cp298, .slice Aj298 (unr (stl g (kn : Int)).1 (kn : Int)).1.bs.length cj298], .bool true, .int .i64 (unr (stl g (kn : Int)).1 (kn : Int)).2.2])) rfl _ rfl) ?_
    intro a304 hA304; clear hA303
    refine sx_val (v := .bool true) hA304 rfl (ev_ext (hA304.ev (i := 208) (v := .tuple #[.agg #[.slice Ap298 (unr (stl g (kn : Int)).1 (kn : Int)).1.rs.length cp298, .slice Aj298 (unr (stl g (kn : Int)).1 (kn : Int)).1.bs.length cj298], .bool true, .int .i64 (unr (stl g (kn : Int)).1 (kn : Int)).2.2])) rfl _ rfl) ?_
    intro a305 hA305; clear hA304
    refine sx_val (v := .int .i64 (unr (stl g (kn : Int)).1 (kn : Int)).2.2) hA305 rfl (ev_ext (hA305.ev (i := 208) (v := .tuple #[.agg #[.slice Ap298 (unr (stl g (kn : Int)).1 (kn : Int)).1.rs.length cp298, .slice Aj298 (unr (stl g (kn : Int)).1 (kn : Int)).1.bs.length cj298], .bool true, .int .i64 (unr (stl g (kn : Int)).1 (kn : Int)).2.2])) rfl _ rfl) ?_
    intro a306 hA306; clear hA305
    refine sx_new (cs := #[.slice none 0 0, .slice none 0 0]) (t := 25) hA306 rfl (by decide) (.inl rfl) (ev_alloc (z := .agg (#[.slice none 0 0, .slice none 0 0])) (by kernel_rfl) (by kernel_rfl) _ rfl) ?_
    intro B307 w307 a307 hB307 hx307 hg307 hA307
    clear hA306
    have hs307 := hg307.size
    have hl307 := hx307.lt
    refine sx_store hA307 rfl (.inl rfl) rfl (hA307.ev (i := 36) (v := .pointer (some ⟨B307, 0, none⟩))) (hA307.ev (i := 212) (v := .agg #[.slice Ap298 (unr (stl g (kn : Int)).1 (kn : Int)).1.rs.length cp298, .slice Aj298 (unr (stl g (kn : Int)).1 (kn : Int)).1.bs.length cj298])) hx307 (by kernel_rfl) rfl (by simp [Value.oneCell']) ?_
    intro w308 hx308 hg308
    have hs308 := hg308.size
    refine sx_val hA307 rfl (ev_assign (hA307.ev (i := 213) (v := .bool true)) _ rfl) ?_
    intro a309 hA309; clear hA307
    refine sx_val hA309 rfl (ev_assign (hA309.ev (i := 214) (v := .int .i64 (unr (stl g (kn : Int)).1 (kn : Int)).2.2)) _ rfl) ?_
    intro a310 hA310; clear hA309
    refine sx_nil ?_
    refine then_n ?_
    refine wp_seq ?_
    refine wp_region_lit ?_
    refine sx_val hA310 rfl (ev_move (hA310.ev (i := 7) (v := .bool true)) _ rfl) ?_
    intro a311 hA311; clear hA310
    refine sx_val hA311 rfl (ev_move (hA311.ev (i := 215) (v := .bool true)) _ rfl) ?_
    intro a312 hA312; clear hA311
    refine sx_val (hg := (.inr ⟨1, true, 216, rfl, rfl, by kernel_rfl⟩)) hA312 rfl (ev_move (hA312.ev (i := 29) (v := .int .i64 (unr g (kn : Int)).2.2)) _ rfl) ?_
    intro a313 hA313; clear hA312
    refine sx_val (hg := (.inr ⟨1, true, 216, rfl, rfl, by kernel_rfl⟩)) (v := .bool true) hA313 rfl (ev_eqlB (k := .i64) (m := (unr g (kn : Int)).2.2) (n := 0) (hA313.ev (i := 217)) (ec _ (.int .i64 0)) hf240 _ rfl) ?_
    intro a314 hA314; clear hA313
    refine sx_val hA314 rfl (ev_pickT (hA314.ev (i := 216) (v := .bool true)) (hA314.ev (i := 218) (v := .bool true)) _ rfl) ?_
    intro a315 hA315; clear hA314
    refine sx_val hA315 rfl (ev_move (hA315.ev (i := 219) (v := .bool true)) _ rfl) ?_
    intro a316 hA316; clear hA315
    refine sx_val (hg := (.inr ⟨5, true, 220, rfl, rfl, by kernel_rfl⟩)) hA316 rfl (ev_move (hA316.ev (i := 32) (v := .int .i64 (stl (unr g (kn : Int)).1 (kn : Int)).2.2)) _ rfl) ?_
    intro a317 hA317; clear hA316
    refine sx_val (hg := (.inr ⟨5, true, 220, rfl, rfl, by kernel_rfl⟩)) (v := .bool true) hA317 rfl (ev_eqlB (k := .i64) (m := (stl (unr g (kn : Int)).1 (kn : Int)).2.2) (n := 0) (hA317.ev (i := 221)) (ec _ (.int .i64 0)) hf241 _ rfl) ?_
    intro a318 hA318; clear hA317
    refine sx_val hA318 rfl (ev_pickT (hA318.ev (i := 220) (v := .bool true)) (hA318.ev (i := 222) (v := .bool true)) _ rfl) ?_
    intro a319 hA319; clear hA318
    refine sx_val hA319 rfl (ev_move (hA319.ev (i := 223) (v := .bool true)) _ rfl) ?_
    intro a320 hA320; clear hA319
    refine sx_val (hg := (.inr ⟨9, true, 224, rfl, rfl, by kernel_rfl⟩)) hA320 rfl (ev_move (hA320.ev (i := 35) (v := .int .i64 (stl g (kn : Int)).2.2)) _ rfl) ?_
    intro a321 hA321; clear hA320
    refine sx_val (hg := (.inr ⟨9, true, 224, rfl, rfl, by kernel_rfl⟩)) (v := .bool true) hA321 rfl (ev_eqlB (k := .i64) (m := (stl g (kn : Int)).2.2) (n := 0) (hA321.ev (i := 225)) (ec _ (.int .i64 0)) hf242 _ rfl) ?_
    intro a322 hA322; clear hA321
    refine sx_val hA322 rfl (ev_pickT (hA322.ev (i := 224) (v := .bool true)) (hA322.ev (i := 226) (v := .bool true)) _ rfl) ?_
    intro a323 hA323; clear hA322
    refine sx_val hA323 rfl (ev_move (hA323.ev (i := 227) (v := .bool true)) _ rfl) ?_
    intro a324 hA324; clear hA323
    refine sx_val (hg := (.inr ⟨13, true, 228, rfl, rfl, by kernel_rfl⟩)) hA324 rfl (ev_move (hA324.ev (i := 38) (v := .int .i64 (unr (stl g (kn : Int)).1 (kn : Int)).2.2)) _ rfl) ?_
    intro a325 hA325; clear hA324
    refine sx_val (hg := (.inr ⟨13, true, 228, rfl, rfl, by kernel_rfl⟩)) (v := .bool true) hA325 rfl (ev_eqlB (k := .i64) (m := (unr (stl g (kn : Int)).1 (kn : Int)).2.2) (n := 0) (hA325.ev (i := 229)) (ec _ (.int .i64 0)) hf243 _ rfl) ?_
    intro a326 hA326; clear hA325
    refine sx_val hA326 rfl (ev_pickT (hA326.ev (i := 228) (v := .bool true)) (hA326.ev (i := 230) (v := .bool true)) _ rfl) ?_
    intro a327 hA327; clear hA326
    refine sx_val hA327 rfl (ev_move (hA327.ev (i := 231) (v := .bool true)) _ rfl) ?_
    intro a328 hA328; clear hA327
    refine sx_val (hg := (.inr ⟨17, true, 232, rfl, rfl, by kernel_rfl⟩)) hA328 rfl (ev_move (hA328.ev (i := 28) (v := .bool false)) _ rfl) ?_
    intro a329 hA329; clear hA328
    refine sx_val (hg := (.inr ⟨17, true, 232, rfl, rfl, by kernel_rfl⟩)) (v := .bool true) hA329 rfl (ev_notF (hA329.ev (i := 233) (v := .bool false)) _ rfl) ?_
    intro a330 hA330; clear hA329
    refine sx_val hA330 rfl (ev_pickT (hA330.ev (i := 232) (v := .bool true)) (hA330.ev (i := 234) (v := .bool true)) _ rfl) ?_
    intro a331 hA331; clear hA330
    refine sx_val hA331 rfl (ev_move (hA331.ev (i := 235) (v := .bool true)) _ rfl) ?_
    intro a332 hA332; clear hA331
    refine sx_val (hg := (.inr ⟨21, true, 236, rfl, rfl, by kernel_rfl⟩)) hA332 rfl (ev_move (hA332.ev (i := 31) (v := .bool true)) _ rfl) ?_
    intro a333 hA333; clear hA332
    refine sx_val hA333 rfl (ev_pickT (hA333.ev (i := 236) (v := .bool true)) (hA333.ev (i := 237) (v := .bool true)) _ rfl) ?_
    intro a334 hA334; clear hA333
    refine sx_val hA334 rfl (ev_move (hA334.ev (i := 238) (v := .bool true)) _ rfl) ?_
    intro a335 hA335; clear hA334
    refine sx_val (hg := (.inr ⟨24, true, 239, rfl, rfl, by kernel_rfl⟩)) hA335 rfl (ev_move (hA335.ev (i := 34) (v := .bool false)) _ rfl) ?_
    intro a336 hA336; clear hA335
    refine sx_val (hg := (.inr ⟨24, true, 239, rfl, rfl, by kernel_rfl⟩)) (v := .bool true) hA336 rfl (ev_notF (hA336.ev (i := 240) (v := .bool false)) _ rfl) ?_
    intro a337 hA337; clear hA336
    refine sx_val hA337 rfl (ev_pickT (hA337.ev (i := 239) (v := .bool true)) (hA337.ev (i := 241) (v := .bool true)) _ rfl) ?_
    intro a338 hA338; clear hA337
    refine sx_val hA338 rfl (ev_move (hA338.ev (i := 242) (v := .bool true)) _ rfl) ?_
    intro a339 hA339; clear hA338
    refine sx_val (hg := (.inr ⟨28, true, 243, rfl, rfl, by kernel_rfl⟩)) hA339 rfl (ev_move (hA339.ev (i := 37) (v := .bool true)) _ rfl) ?_
    intro a340 hA340; clear hA339
    refine sx_val hA340 rfl (ev_pickT (hA340.ev (i := 243) (v := .bool true)) (hA340.ev (i := 244) (v := .bool true)) _ rfl) ?_
    intro a341 hA341; clear hA340
    refine sx_val hA341 rfl (ev_move (hA341.ev (i := 245) (v := .bool true)) _ rfl) ?_
    intro a342 hA342; clear hA341
    have hx264_343 := hx264.gN hg275
    have hx264_344 := hx264_343.gN hg292
    have hx264_345 := hx264_344.gB hg293 (by omega)
    have hx264_346 := hx264_345.gN hg298
    have hx264_347 := hx264_346.gN hg307
    have hx264_348 := hx264_347.gB hg308 (by omega)
    refine sx_val (hg := (.inr ⟨31, true, 246, rfl, rfl, by kernel_rfl⟩)) (v := .agg #[.slice Ap254 (stl (unr g (kn : Int)).1 (kn : Int)).1.rs.length cp254, .slice Aj254 (stl (unr g (kn : Int)).1 (kn : Int)).1.bs.length cj254]) hA342 rfl (ev_row (hA342.ev (i := 30) (v := .pointer (some ⟨B263, 0, none⟩))) hx264_348 Try.underlying25 rfl (n := 2) (by kernel_rfl) rfl _ rfl) ?_
    intro a349 hA349; clear hA342
    refine sx_val (hg := (.inr ⟨31, true, 246, rfl, rfl, by kernel_rfl⟩)) (v := .agg #[.slice Ap298 (unr (stl g (kn : Int)).1 (kn : Int)).1.rs.length cp298, .slice Aj298 (unr (stl g (kn : Int)).1 (kn : Int)).1.bs.length cj298]) hA349 rfl (ev_row (hA349.ev (i := 36) (v := .pointer (some ⟨B307, 0, none⟩))) hx308 Try.underlying25 rfl (n := 2) (by kernel_rfl) rfl _ rfl) ?_
    intro a350 hA350; clear hA349
    have ho254_352 := Own.gN ho254_0 hg263
    have ho254_353 := Own.gBT ho254_352 hg264 hx263 (by decide)
    have ho254_354 := Own.gN ho254_353 hg275
    have ho254_355 := Own.gN ho254_354 hg292
    have ho254_356 := Own.gBT ho254_355 hg293 hx292 (by decide)
    have ho254_357 := Own.gN ho254_356 hg298
    have ho254_358 := Own.gN ho254_357 hg307
    have ho254_359 := Own.gBT ho254_358 hg308 hx307 (by decide)
    have ho254_360 := Own.gN ho254_1 hg263
    have ho254_361 := Own.gBT ho254_360 hg264 hx263 (by decide)
    have ho254_362 := Own.gN ho254_361 hg275
    have ho254_363 := Own.gN ho254_362 hg292
    have ho254_364 := Own.gBT ho254_363 hg293 hx292 (by decide)
    have ho254_365 := Own.gN ho254_364 hg298
    have ho254_366 := Own.gN ho254_365 hg307
    have ho254_367 := Own.gBT ho254_366 hg308 hx307 (by decide)
    have ho298_368 := Own.gN ho298_0 hg307
    have ho298_369 := Own.gBT ho298_368 hg308 hx307 (by decide)
    have ho298_370 := Own.gN ho298_1 hg307
    have ho298_371 := Own.gBT ho298_370 hg308 hx307 (by decide)
    refine sx_call (f := 13) (args := #[.agg #[.slice Ap254 (stl (unr g (kn : Int)).1 (kn : Int)).1.rs.length cp254, .slice Aj254 (stl (unr g (kn : Int)).1 (kn : Int)).1.bs.length cj254], .agg #[.slice Ap298 (unr (stl g (kn : Int)).1 (kn : Int)).1.rs.length cp298, .slice Aj298 (unr (stl g (kn : Int)).1 (kn : Int)).1.bs.length cj298]]) hA350 rfl (by decide) (.inr ⟨31, true, 246, rfl, rfl, by kernel_rfl⟩) (ev_fn rfl (mp2 (hA350.ev (i := 247) (v := .agg #[.slice Ap254 (stl (unr g (kn : Int)).1 (kn : Int)).1.rs.length cp254, .slice Aj254 (stl (unr g (kn : Int)).1 (kn : Int)).1.bs.length cj254])) (hA350.ev (i := 248) (v := .agg #[.slice Ap298 (unr (stl g (kn : Int)).1 (kn : Int)).1.rs.length cp298, .slice Aj298 (unr (stl g (kn : Int)).1 (kn : Int)).1.bs.length cj298]))) (by kernel_rfl) _ rfl) (SameSlots_any Ap254 cp254 Aj254 cj254 (stl (unr g (kn : Int)).1 (kn : Int)).1.rs (stl (unr g (kn : Int)).1 (kn : Int)).1.bs Ap298 cp298 Aj298 cj298 (unr (stl g (kn : Int)).1 (kn : Int)).1.rs (unr (stl g (kn : Int)).1 (kn : Int)).1.bs _ ⟨(OwnR.gr (e := 3) ⟨rfl, ho254_359⟩), (OwnR.gr (e := 4) ⟨rfl, ho254_367⟩)⟩ ⟨(OwnR.gr (e := 3) ⟨rfl, ho298_369⟩), (OwnR.gr (e := 4) ⟨rfl, ho298_371⟩)⟩) ?_
    intro e351 w351 hR351
    obtain ⟨hv351, hb351⟩ := hR351
    rw [show sme (stl (unr g (kn : Int)).1 (kn : Int)).1 (unr (stl g (kn : Int)).1 (kn : Int)).1 = true from he9] at hv351
    subst hv351
    refine ⟨_, rfl, ?_⟩
    intro a351 hA351
    clear hA350
    have hg351 := g0 hb351
    have hs351 := hg351.size
    clear hb351
    refine sx_val hA351 rfl (ev_pickT (hA351.ev (i := 246) (v := .bool true)) (hA351.ev (i := 249) (v := .bool true)) _ rfl) ?_
    intro a372 hA372; clear hA351
    refine sx_val hA372 rfl (ev_assign (hA372.ev (i := 250) (v := .bool true)) _ rfl) ?_
    intro a373 hA373; clear hA372
    refine sx_nil ?_
    refine then_n ?_
    refine wp_ret ?_
    refine bodyPost_ret (rs_t (v := .bool true) Try.results7 hA373 (by kernel_rfl) ) hA373.2.1 ?_
    have hbel26_374 := Below.gN hbel26 hg47 hbel26.size
    have hbel26_375 := Below.gN hbel26_374 hg69 hbel26_374.size
    have hbel26_376 := Below.gN hbel26_375 hg76 hbel26_375.size
    have hbel26_377 := Below.gB hbel26_376 hg77 hbel26_376.size (by omega)
    have hbel26_378 := Below.gN hbel26_377 hg81 hbel26_377.size
    have hbel26_379 := Below.gN hbel26_378 hg90 hbel26_378.size
    have hbel26_380 := Below.gB hbel26_379 hg91 hbel26_379.size (by omega)
    have hbel26_381 := Below.gN hbel26_380 hg109 hbel26_380.size
    have hbel26_382 := Below.gN hbel26_381 hg239 hbel26_381.size
    have hbel26_383 := Below.gN hbel26_382 hg248 hbel26_382.size
    have hbel26_384 := Below.gB hbel26_383 hg249 hbel26_383.size (by omega)
    have hbel26_385 := Below.gN hbel26_384 hg254 hbel26_384.size
    have hbel26_386 := Below.gN hbel26_385 hg263 hbel26_385.size
    have hbel26_387 := Below.gB hbel26_386 hg264 hbel26_386.size (by omega)
    have hbel26_388 := Below.gN hbel26_387 hg275 hbel26_387.size
    have hbel26_389 := Below.gN hbel26_388 hg292 hbel26_388.size
    have hbel26_390 := Below.gB hbel26_389 hg293 hbel26_389.size (by omega)
    have hbel26_391 := Below.gN hbel26_390 hg298 hbel26_390.size
    have hbel26_392 := Below.gN hbel26_391 hg307 hbel26_391.size
    have hbel26_393 := Below.gB hbel26_392 hg308 hbel26_392.size (by omega)
    have hbel26_394 := Below.gN hbel26_393 hg351 hbel26_393.size
    exact ⟨rfl, hbel26_394⟩
  have hp36 := of_decide_eq_true hd36
  have hgl := q26_1.len
  obtain ⟨x, hx⟩ : ∃ x, xs[i]? = some x := ⟨_, List.getElem?_eq_getElem (by omega)⟩
  obtain ⟨ad1, hAd1⟩ := GR.adr hg iva_sz hx
  obtain ⟨m, hm⟩ : ∃ m : Nat, x % 1048576 = (m : Int) := ⟨(x % 1048576).toNat, by omega⟩
  have hm2 : m < 1048576 := by omega
  refine wp_seq ?_
  refine wp_seq ?_
  refine wp_region_lit ?_
  refine sx_val hA26 rfl (ev_move (hA26.ev (i := 10) (v := .int .i64 (i : Int))) _ rfl) ?_
  intro a674 hA674; clear hA26
  refine sx_val hA674 rfl (ev_move (hA674.ev (i := 1) (v := .slice A xs.length c)) _ rfl) ?_
  intro a675 hA675; clear hA674
  refine sx_val (v := .int .i64 (xs.length : Int)) hA675 rfl (ev_len (hA675.ev (i := 58) (v := .slice A xs.length c)) Try.underlying22 _ rfl) ?_
  intro a676 hA676; clear hA675
  refine sx_val (v := .bool true) hA676 rfl (ev_lssB (k := .i64) (m := (i : Int)) (n := (xs.length : Int)) (hA676.ev (i := 57)) (hA676.ev (i := 59)) hd36 _ rfl) ?_
  intro a677 hA677; clear hA676
  refine sx_val hA677 rfl (ev_move (hA677.ev (i := 60) (v := .bool true)) _ rfl) ?_
  intro a678 hA678; clear hA677
  refine sx_val (hg := (.inr ⟨4, true, 61, rfl, rfl, by kernel_rfl⟩)) hA678 rfl (ev_move (hA678.ev (i := 10) (v := .int .i64 (i : Int))) _ rfl) ?_
  intro a679 hA679; clear hA678
  cases hd680 : decide ((i : Int) < 40)
  rotate_left
  · have hp680 := of_decide_eq_true hd680
    refine sx_val (hg := (.inr ⟨4, true, 61, rfl, rfl, by kernel_rfl⟩)) (v := .bool true) hA679 rfl (ev_lssB (k := .i64) (m := (i : Int)) (n := 40) (hA679.ev (i := 62)) (ec _ (.int .i64 40)) hd680 _ rfl) ?_
    intro a1312 hA1312; clear hA679
    refine sx_val hA1312 rfl (ev_pickT (hA1312.ev (i := 61) (v := .bool true)) (hA1312.ev (i := 63) (v := .bool true)) _ rfl) ?_
    intro a1313 hA1313; clear hA1312
    refine sx_nil ?_
    refine then_n ?_
    refine wp_cond_true (hA1313.ev (i := 64) (v := .bool true)) ?_
    refine wp_skip ?_
    refine then_n ?_
    refine wp_seq ?_
    refine wp_block ?_
    refine wp_seq ?_
    refine region_D (n := 14) (by kernel_rfl) (by kernel_rfl) rfl (fun L ac wc => ∃ Ap5r9 : Option Addr, ∃ cp5r9 : Nat, ∃ Aj5r9 : Option Addr, ∃ cj5r9 : Nat, ∃ N10r9 : Nat, Below w.heap.size w wc ∧ w26.heap.size ≤ wc.heap.size ∧ Bx wc B13 25 (#[.slice A1g g.rs.length c1g, .slice A2g g.bs.length c2g]) ∧ Own wc (w.heap.size) 3 1 (.slice A1g g.rs.length c1g) g.rs.length (flat iva g.rs) ∧ Own wc (w.heap.size) 4 1 (.slice A2g g.bs.length c2g) g.bs.length (flat bva g.bs) ∧ (L 10 = true → w26.heap.size ≤ N10r9 ∧ Bx wc N10r9 25 (bif L 11 then (#[.slice Ap5r9 (stp g m).1.rs.length cp5r9, .slice Aj5r9 (stp g m).1.bs.length cj5r9]) else (#[.slice none 0 0, .slice none 0 0]))) ∧ (L 5 = true → Own wc w26.heap.size 3 1 (.slice Ap5r9 (stp g m).1.rs.length cp5r9) (stp g m).1.rs.length (flat iva (stp g m).1.rs)) ∧ (L 5 = true → Own wc w26.heap.size 4 1 (.slice Aj5r9 (stp g m).1.bs.length cj5r9) (stp g m).1.bs.length (flat bva (stp g m).1.bs)) ∧ (L 11 = true → L 10 = true) ∧ (L 6 = true → L 5 = true) ∧ (L 7 = true → L 5 = true) ∧ (L 11 = true → L 5 = true) ∧ (L 0 = true → Sv ac 68 (.agg #[.slice A1g g.rs.length c1g, .slice A2g g.bs.length c2g])) ∧ (L 1 = true → Sv ac 69 (.slice A xs.length c)) ∧ (L 2 = true → Sv ac 70 (.int .i64 (i : Int))) ∧ (L 3 = true → Sv ac 71 (.pointer (some (ad1.add (i * 1))))) ∧ (L 4 = true → Sv ac 72 (.int .i64 x)) ∧ (L 5 = true → Sv ac 73 (.tuple #[.agg #[.slice Ap5r9 (stp g m).1.rs.length cp5r9, .slice Aj5r9 (stp g m).1.bs.length cj5r9], .int .i64 (stp g m).2.1, .int .i64 (stp g m).2.2])) ∧ (L 6 = true → Sv ac 67 (.tuple #[.agg #[.slice Ap5r9 (stp g m).1.rs.length cp5r9, .slice Aj5r9 (stp g m).1.bs.length cj5r9], .int .i64 (stp g m).2.1, .int .i64 (stp g m).2.2])) ∧ (L 7 = true → Sv ac 74 (.agg #[.slice Ap5r9 (stp g m).1.rs.length cp5r9, .slice Aj5r9 (stp g m).1.bs.length cj5r9])) ∧ (L 8 = true → Sv ac 75 (.int .i64 (stp g m).2.1)) ∧ (L 9 = true → Sv ac 76 (.int .i64 (stp g m).2.2)) ∧ (L 10 = true → Sv ac 11 (.pointer (some ⟨N10r9, 0, none⟩))) ∧ (L 12 = true → Sv ac 12 (.int .i64 (stp g m).2.1)) ∧ (L 13 = true → Sv ac 13 (.int .i64 (stp g m).2.2))) ⟨none, 0, none, 0, 0, (Below.gN hbel26 (gdr _) hbel26.size), (Nat.le_refl _), (f26_0.gN (gdr _)), (Own.gN f26_1 (gdr _)), (Own.gN f26_2 (gdr _)), (fun h => by cases h), (fun h => by cases h), (fun h => by cases h), (fun h => by cases h), (fun h => by cases h), (fun h => by cases h), (fun h => by cases h), (fun h => by cases h), (fun h => by cases h), (fun h => by cases h), (fun h => by cases h), (fun h => by cases h), (fun h => by cases h), (fun h => by cases h), (fun h => by cases h), (fun h => by cases h), (fun h => by cases h), (fun h => by cases h), (fun h => by cases h), (fun h => by cases h)⟩ ?_ ?_
    · intro iq hiq o ho L hL hdep ac wc hF hJ
      obtain ⟨Ap5r9, cp5r9, Aj5r9, cj5r9, N10r9, bl, sz, b_B13, p_0, p_1, n_N10r9, o_5_0, o_5_1, cl_11_10, cl_6_5, cl_7_5, cl_11_5, s_68, s_69, s_70, s_71, s_72, s_73, s_67, s_74, s_75, s_76, s_11, s_12, s_13⟩ := hJ
      have zq := hF.1.trans hA1313.1
      match iq, hiq with
      | 0, _ =>
        obtain rfl := Option.some.inj (show some _ = some o from ho); clear ho
        have v8 := hF.sv (s := 8) (by kernel_rfl) (hA1313.get (i := 8) (v := .pointer (some ⟨B13, 0, none⟩)))
        refine dj_val (i := 0) (v := .agg #[.slice A1g g.rs.length c1g, .slice A2g g.bs.length c2g]) rfl (.inl rfl) (ev_row v8.eval b_B13 Try.underlying25 rfl (n := 2) (by kernel_rfl) rfl _ rfl) ?_
        exact ⟨⟨_, rfl⟩, Ap5r9, cp5r9, Aj5r9, cj5r9, N10r9, bl, sz, b_B13, p_0, p_1, n_N10r9, o_5_0, o_5_1, cl_11_10, cl_6_5, cl_7_5, cl_11_5, (fun _ => Sv.self (by rw [zq]; decide) _), (so s_69), (so s_70), (so s_71), (so s_72), (so s_73), (so s_67), (so s_74), (so s_75), (so s_76), (so s_11), (so s_12), (so s_13)⟩
      | 1, _ =>
        obtain rfl := Option.some.inj (show some _ = some o from ho); clear ho
        have v1 := hF.sv (s := 1) (by kernel_rfl) (hA1313.get (i := 1) (v := .slice A xs.length c))
        refine dj_val (i := 1) (v := .slice A xs.length c) rfl (.inl rfl) (ev_move v1.eval _ rfl) ?_
        exact ⟨⟨_, rfl⟩, Ap5r9, cp5r9, Aj5r9, cj5r9, N10r9, bl, sz, b_B13, p_0, p_1, n_N10r9, o_5_0, o_5_1, cl_11_10, cl_6_5, cl_7_5, cl_11_5, (so s_68), (fun _ => Sv.self (by rw [zq]; decide) _), (so s_70), (so s_71), (so s_72), (so s_73), (so s_67), (so s_74), (so s_75), (so s_76), (so s_11), (so s_12), (so s_13)⟩
      | 2, _ =>
        obtain rfl := Option.some.inj (show some _ = some o from ho); clear ho
        have v10 := hF.sv (s := 10) (by kernel_rfl) (hA1313.get (i := 10) (v := .int .i64 (i : Int)))
        refine dj_val (i := 2) (v := .int .i64 (i : Int)) rfl (.inl rfl) (ev_move v10.eval _ rfl) ?_
        exact ⟨⟨_, rfl⟩, Ap5r9, cp5r9, Aj5r9, cj5r9, N10r9, bl, sz, b_B13, p_0, p_1, n_N10r9, o_5_0, o_5_1, cl_11_10, cl_6_5, cl_7_5, cl_11_5, (so s_68), (so s_69), (fun _ => Sv.self (by rw [zq]; decide) _), (so s_71), (so s_72), (so s_73), (so s_67), (so s_74), (so s_75), (so s_76), (so s_11), (so s_12), (so s_13)⟩
      | 3, _ =>
        obtain rfl := Option.some.inj (show some _ = some o from ho); clear ho
        have v69 := s_69 (dp hdep 1)
        have v70 := s_70 (dp hdep 2)
        refine dj_val (i := 3) (v := .pointer (some (ad1.add (i * 1)))) rfl (.inl rfl) (ev_idx (k := i) v69.eval hAd1 v70.eval rfl (by omega) Try.underlying22 (by kernel_rfl) _ rfl) ?_
        exact ⟨⟨_, rfl⟩, Ap5r9, cp5r9, Aj5r9, cj5r9, N10r9, bl, sz, b_B13, p_0, p_1, n_N10r9, o_5_0, o_5_1, cl_11_10, cl_6_5, cl_7_5, cl_11_5, (so s_68), (so s_69), (so s_70), (fun _ => Sv.self (by rw [zq]; decide) _), (so s_72), (so s_73), (so s_67), (so s_74), (so s_75), (so s_76), (so s_11), (so s_12), (so s_13)⟩
      | 4, _ =>
        obtain rfl := Option.some.inj (show some _ = some o from ho); clear ho
        have v71 := s_71 (dp hdep 3)
        refine dj_val (i := 4) (v := .int .i64 x) rfl (.inl rfl) (ev_cell v71.eval ((GR.cel (hg.below bl) hAd1 iva_sz hx) 0 _ rfl) Try.underlying3 rfl _ rfl) ?_
        exact ⟨⟨_, rfl⟩, Ap5r9, cp5r9, Aj5r9, cj5r9, N10r9, bl, sz, b_B13, p_0, p_1, n_N10r9, o_5_0, o_5_1, cl_11_10, cl_6_5, cl_7_5, cl_11_5, (so s_68), (so s_69), (so s_70), (so s_71), (fun _ => Sv.self (by rw [zq]; decide) _), (so s_73), (so s_67), (so s_74), (so s_75), (so s_76), (so s_11), (so s_12), (so s_13)⟩
      | 5, _ =>
        obtain rfl := Option.some.inj (show some _ = some o from ho); clear ho
        have v68 := s_68 (dp hdep 0)
        have v72 := s_72 (dp hdep 4)
        refine dj_call (i := 5) (f := 35) (args := #[.agg #[.slice A1g g.rs.length c1g, .slice A2g g.bs.length c2g], .int .i64 x]) rfl (.inl rfl) (ev_fn rfl (mp2 v68.eval v72.eval) (by kernel_rfl) _ rfl) (step_any A1g c1g A2g c2g g.rs g.bs x m _ ⟨(OwnR.gr (e := 3) ⟨rfl, p_0⟩), (OwnR.gr (e := 4) ⟨rfl, p_1⟩)⟩ (by omega) (by omega) (by omega) hm hm2) ?_
        intro e wk5 hR
        obtain ⟨Ap5r9, cp5r9, Aj5r9, cj5r9, rfl, hC5, hJ5, hb5⟩ := hR
        refine ⟨_, rfl, ?_⟩
        have hg := g0 hb5
        have hraw0 := hC5
        have hown0 := Own.mono (hC5) sz
        have hraw1 := hJ5
        have hown1 := Own.mono (hJ5) sz
        exact ⟨⟨_, rfl⟩, Ap5r9, cp5r9, Aj5r9, cj5r9, N10r9, (Below.gN bl hg bl.size), (Nat.le_trans sz hg.size), (b_B13.gN hg), (Own.gN p_0 hg), (Own.gN p_1 hg), (fun h => ⟨(n_N10r9 h).1, by
            have e0 : L 11 = false := by
              cases hc : L 11
              · rfl
              · exact absurd (cl_11_5 hc) (by rw [hL]; decide)
            have h0 := (n_N10r9 h).2.gN hg
            rw [e0] at h0
            show Bx _ _ _ (bif L 11 then _ else _)
            rw [e0]
            exact h0⟩), (fun _ => hown0), (fun _ => hown1), cl_11_10, (fun _ => rfl), (fun _ => rfl), (fun _ => rfl), (so s_68), (so s_69), (so s_70), (so s_71), (so s_72), (fun _ => Sv.self (by rw [zq]; decide) _), (fun h => absurd (cl_6_5 h) (by rw [hL]; decide)), (fun h => absurd (cl_7_5 h) (by rw [hL]; decide)), (so s_75), (so s_76), (so s_11), (so s_12), (so s_13)⟩
      | 6, _ =>
        obtain rfl := Option.some.inj (show some _ = some o from ho); clear ho
        have v73 := s_73 (dp hdep 5)
        refine dj_val (i := 6) (v := .tuple #[.agg #[.slice Ap5r9 (stp g m).1.rs.length cp5r9, .slice Aj5r9 (stp g m).1.bs.length cj5r9], .int .i64 (stp g m).2.1, .int .i64 (stp g m).2.2]) rfl (.inl rfl) (ev_move v73.eval _ rfl) ?_
        exact ⟨⟨_, rfl⟩, Ap5r9, cp5r9, Aj5r9, cj5r9, N10r9, bl, sz, b_B13, p_0, p_1, n_N10r9, o_5_0, o_5_1, cl_11_10, (fun _ => dp hdep 5), cl_7_5, cl_11_5, (so s_68), (so s_69), (so s_70), (so s_71), (so s_72), (so s_73), (fun _ => Sv.self (by rw [zq]; decide) _), (so s_74), (so s_75), (so s_76), (so s_11), (so s_12), (so s_13)⟩
      | 7, _ =>
        obtain rfl := Option.some.inj (show some _ = some o from ho); clear ho
        have v67 := s_67 (dp hdep 6)
        refine dj_val (i := 7) (v := .agg #[.slice Ap5r9 (stp g m).1.rs.length cp5r9, .slice Aj5r9 (stp g m).1.bs.length cj5r9]) rfl (.inl rfl) (ev_ext v67.eval rfl _ rfl) ?_
        exact ⟨⟨_, rfl⟩, Ap5r9, cp5r9, Aj5r9, cj5r9, N10r9, bl, sz, b_B13, p_0, p_1, n_N10r9, o_5_0, o_5_1, cl_11_10, cl_6_5, (fun _ => cl_6_5 (dp hdep 6)), cl_11_5, (so s_68), (so s_69), (so s_70), (so s_71), (so s_72), (so s_73), (so s_67), (fun _ => Sv.self (by rw [zq]; decide) _), (so s_75), (so s_76), (so s_11), (so s_12), (so s_13)⟩
      | 8, _ =>
        obtain rfl := Option.some.inj (show some _ = some o from ho); clear ho
        have v67 := s_67 (dp hdep 6)
        refine dj_val (i := 8) (v := .int .i64 (stp g m).2.1) rfl (.inl rfl) (ev_ext v67.eval rfl _ rfl) ?_
        exact ⟨⟨_, rfl⟩, Ap5r9, cp5r9, Aj5r9, cj5r9, N10r9, bl, sz, b_B13, p_0, p_1, n_N10r9, o_5_0, o_5_1, cl_11_10, cl_6_5, cl_7_5, cl_11_5, (so s_68), (so s_69), (so s_70), (so s_71), (so s_72), (so s_73), (so s_67), (so s_74), (fun _ => Sv.self (by rw [zq]; decide) _), (so s_76), (so s_11), (so s_12), (so s_13)⟩
      | 9, _ =>
        obtain rfl := Option.some.inj (show some _ = some o from ho); clear ho
        have v67 := s_67 (dp hdep 6)
        refine dj_val (i := 9) (v := .int .i64 (stp g m).2.2) rfl (.inl rfl) (ev_ext v67.eval rfl _ rfl) ?_
        exact ⟨⟨_, rfl⟩, Ap5r9, cp5r9, Aj5r9, cj5r9, N10r9, bl, sz, b_B13, p_0, p_1, n_N10r9, o_5_0, o_5_1, cl_11_10, cl_6_5, cl_7_5, cl_11_5, (so s_68), (so s_69), (so s_70), (so s_71), (so s_72), (so s_73), (so s_67), (so s_74), (so s_75), (fun _ => Sv.self (by rw [zq]; decide) _), (so s_11), (so s_12), (so s_13)⟩
      | 10, _ =>
        obtain rfl := Option.some.inj (show some _ = some o from ho); clear ho
        refine dj_val (i := 10) rfl (.inl rfl) (w' := wc.alloc (.cells (#[.slice none 0 0, .slice none 0 0]) 25)) (v := .pointer (some ⟨wc.heap.size, 0, none⟩)) (ev_alloc (z := .agg (#[.slice none 0 0, .slice none 0 0])) (by kernel_rfl) (by kernel_rfl) _ rfl) ?_
        have hx := Bx.new wc 25 (#[.slice none 0 0, .slice none 0 0])
        have hg := g0 (al wc (.cells (#[.slice none 0 0, .slice none 0 0]) 25))
        have e0 : L 11 = false := by
          cases hc : L 11
          · rfl
          · exact absurd (cl_11_10 hc) (by rw [hL]; decide)
        replace hx : Bx (wc.alloc (.cells (#[.slice none 0 0, .slice none 0 0]) 25)) wc.heap.size 25 (bif L 11 then (#[.slice Ap5r9 (stp g m).1.rs.length cp5r9, .slice Aj5r9 (stp g m).1.bs.length cj5r9]) else (#[.slice none 0 0, .slice none 0 0])) := by rw [e0]; exact hx
        exact ⟨⟨_, rfl⟩, Ap5r9, cp5r9, Aj5r9, cj5r9, wc.heap.size, (Below.gN bl hg bl.size), (Nat.le_trans sz hg.size), (b_B13.gN hg), (Own.gN p_0 hg), (Own.gN p_1 hg), (fun _ => ⟨sz, hx⟩), (fun h => Own.gN (o_5_0 h) hg), (fun h => Own.gN (o_5_1 h) hg), (fun _ => rfl), cl_6_5, cl_7_5, cl_11_5, (so s_68), (so s_69), (so s_70), (so s_71), (so s_72), (so s_73), (so s_67), (so s_74), (so s_75), (so s_76), (fun _ => Sv.self (by rw [zq]; decide) _), (so s_12), (so s_13)⟩
      | 11, _ =>
        obtain rfl := Option.some.inj (show some _ = some o from ho); clear ho
        have v11 := s_11 (dp hdep 10)
        have v74 := s_74 (dp hdep 7)
        have xN10r9 := (n_N10r9 (dp hdep 10)).2
        rw [hL] at xN10r9
        refine dj_skip (i := 11) rfl rfl (.inl rfl) (w' := wc.setRow N10r9 (#[.slice Ap5r9 (stp g m).1.rs.length cp5r9, .slice Aj5r9 (stp g m).1.bs.length cj5r9])) (ev_srow v11.eval v74.eval xN10r9 (n := 2) (by kernel_rfl) rfl rfl (by simp [Value.oneCell']) _ rfl) ?_
        have hg := grw xN10r9 (#[.slice Ap5r9 (stp g m).1.rs.length cp5r9, .slice Aj5r9 (stp g m).1.bs.length cj5r9])
        have hx := xN10r9.row (#[.slice Ap5r9 (stp g m).1.rs.length cp5r9, .slice Aj5r9 (stp g m).1.bs.length cj5r9])
        exact ⟨⟨undef, rfl⟩, Ap5r9, cp5r9, Aj5r9, cj5r9, N10r9, (Below.gB bl hg bl.size (by have := (n_N10r9 (dp hdep 10)).1; omega)), (Nat.le_trans sz hg.size), (b_B13.gB hg (by have := (n_N10r9 (dp hdep 10)).1; omega)), (Own.gB p_0 hg hh26_0 (by have := (n_N10r9 (dp hdep 10)).1; omega)), (Own.gB p_1 hg hh26_1 (by have := (n_N10r9 (dp hdep 10)).1; omega)), (fun h => ⟨(n_N10r9 h).1, hx⟩), (fun h => Own.gBT (o_5_0 h) hg xN10r9 (by decide)), (fun h => Own.gBT (o_5_1 h) hg xN10r9 (by decide)), (fun _ => dp hdep 10), cl_6_5, cl_7_5, (fun _ => cl_7_5 (dp hdep 7)), s_68, s_69, s_70, s_71, s_72, s_73, s_67, s_74, s_75, s_76, s_11, s_12, s_13⟩
      | 12, _ =>
        obtain rfl := Option.some.inj (show some _ = some o from ho); clear ho
        have v75 := s_75 (dp hdep 8)
        refine dj_val (i := 12) (v := .int .i64 (stp g m).2.1) rfl (.inl rfl) (ev_assign v75.eval _ rfl) ?_
        exact ⟨⟨_, rfl⟩, Ap5r9, cp5r9, Aj5r9, cj5r9, N10r9, bl, sz, b_B13, p_0, p_1, n_N10r9, o_5_0, o_5_1, cl_11_10, cl_6_5, cl_7_5, cl_11_5, (so s_68), (so s_69), (so s_70), (so s_71), (so s_72), (so s_73), (so s_67), (so s_74), (so s_75), (so s_76), (so s_11), (fun _ => Sv.self (by rw [zq]; decide) _), (so s_13)⟩
      | 13, _ =>
        obtain rfl := Option.some.inj (show some _ = some o from ho); clear ho
        have v76 := s_76 (dp hdep 9)
        refine dj_val (i := 13) (v := .int .i64 (stp g m).2.2) rfl (.inl rfl) (ev_assign v76.eval _ rfl) ?_
        exact ⟨⟨_, rfl⟩, Ap5r9, cp5r9, Aj5r9, cj5r9, N10r9, bl, sz, b_B13, p_0, p_1, n_N10r9, o_5_0, o_5_1, cl_11_10, cl_6_5, cl_7_5, cl_11_5, (so s_68), (so s_69), (so s_70), (so s_71), (so s_72), (so s_73), (so s_67), (so s_74), (so s_75), (so s_76), (so s_11), (so s_12), (fun _ => Sv.self (by rw [zq]; decide) _)⟩
      | k + 14, h => exact absurd h (by omega)
    · intro L hall ac1314 wc1314 hF hJ
      obtain ⟨Ap5r9, cp5r9, Aj5r9, cj5r9, N10r9, bl, sz, b_B13, p_0, p_1, n_N10r9, o_5_0, o_5_1, cl_11_10, cl_6_5, cl_7_5, cl_11_5, s_68, s_69, s_70, s_71, s_72, s_73, s_67, s_74, s_75, s_76, s_11, s_12, s_13⟩ := hJ
      have hA1314 : Ag ac1314 251 [(0, .int .i64 (N : Int)), (1, .slice A xs.length c), (2, .int .i64 wh), (6, .bool false), (7, .bool true), (8, .pointer (some ⟨B13, 0, none⟩)), (10, .int .i64 (i : Int)), (57, .int .i64 (i : Int)), (58, .slice A xs.length c), (59, .int .i64 (xs.length : Int)), (60, .bool true), (61, .bool true), (62, .int .i64 (i : Int)), (63, .bool true), (64, .bool true), (68, .agg #[.slice A1g g.rs.length c1g, .slice A2g g.bs.length c2g]), (69, .slice A xs.length c), (70, .int .i64 (i : Int)), (71, .pointer (some (ad1.add (i * 1)))), (72, .int .i64 x), (73, .tuple #[.agg #[.slice Ap5r9 (stp g m).1.rs.length cp5r9, .slice Aj5r9 (stp g m).1.bs.length cj5r9], .int .i64 (stp g m).2.1, .int .i64 (stp g m).2.2]), (67, .tuple #[.agg #[.slice Ap5r9 (stp g m).1.rs.length cp5r9, .slice Aj5r9 (stp g m).1.bs.length cj5r9], .int .i64 (stp g m).2.1, .int .i64 (stp g m).2.2]), (74, .agg #[.slice Ap5r9 (stp g m).1.rs.length cp5r9, .slice Aj5r9 (stp g m).1.bs.length cj5r9]), (75, .int .i64 (stp g m).2.1), (76, .int .i64 (stp g m).2.2), (11, .pointer (some ⟨N10r9, 0, none⟩)), (13, .int .i64 (stp g m).2.2)] := ((((((((((((((((((((((((((((Ag.nil (hF.1.trans hA1313.1) (hF.2.1.trans hA1313.2.1)).cons (s_13 (hall 13 (by decide)))).cons (s_11 (hall 10 (by decide)))).cons (s_76 (hall 9 (by decide)))).cons (s_75 (hall 8 (by decide)))).cons (s_74 (hall 7 (by decide)))).cons (s_67 (hall 6 (by decide)))).cons (s_73 (hall 5 (by decide)))).cons (s_72 (hall 4 (by decide)))).cons (s_71 (hall 3 (by decide)))).cons (s_70 (hall 2 (by decide)))).cons (s_69 (hall 1 (by decide)))).cons (s_68 (hall 0 (by decide)))).cons (hF.sv (s := 64) (by kernel_rfl) (hA1313.get (i := 64) (v := .bool true)))).cons (hF.sv (s := 63) (by kernel_rfl) (hA1313.get (i := 63) (v := .bool true)))).cons (hF.sv (s := 62) (by kernel_rfl) (hA1313.get (i := 62) (v := .int .i64 (i : Int))))).cons (hF.sv (s := 61) (by kernel_rfl) (hA1313.get (i := 61) (v := .bool true)))).cons (hF.sv (s := 60) (by kernel_rfl) (hA1313.get (i := 60) (v := .bool true)))).cons (hF.sv (s := 59) (by kernel_rfl) (hA1313.get (i := 59) (v := .int .i64 (xs.length : Int))))).cons (hF.sv (s := 58) (by kernel_rfl) (hA1313.get (i := 58) (v := .slice A xs.length c)))).cons (hF.sv (s := 57) (by kernel_rfl) (hA1313.get (i := 57) (v := .int .i64 (i : Int))))).cons (hF.sv (s := 10) (by kernel_rfl) (hA1313.get (i := 10) (v := .int .i64 (i : Int))))).cons (hF.sv (s := 8) (by kernel_rfl) (hA1313.get (i := 8) (v := .pointer (some ⟨B13, 0, none⟩))))).cons (hF.sv (s := 7) (by kernel_rfl) (hA1313.get (i := 7) (v := .bool true)))).cons (hF.sv (s := 6) (by kernel_rfl) (hA1313.get (i := 6) (v := .bool false)))).cons (hF.sv (s := 2) (by kernel_rfl) (hA1313.get (i := 2) (v := .int .i64 wh)))).cons (hF.sv (s := 1) (by kernel_rfl) (hA1313.get (i := 1) (v := .slice A xs.length c)))).cons (hF.sv (s := 0) (by kernel_rfl) (hA1313.get (i := 0) (v := .int .i64 (N : Int)))))
      have bl1314 := bl
      have sz1314 := sz
      have b1314_B13 := b_B13
      have p1314_0 := p_0
      have p1314_1 := p_1
      have n1314_N10r9 := (n_N10r9 (hall 10 (by decide))).1
      have b1314_N10r9 : Bx wc1314 N10r9 25 (#[.slice Ap5r9 (stp g m).1.rs.length cp5r9, .slice Aj5r9 (stp g m).1.bs.length cj5r9]) := by
        have h := (n_N10r9 (hall 10 (by decide))).2
        rw [hall 11 (by decide)] at h
        exact h
      have l1314_N10r9 := b1314_N10r9.lt
      have o1314_5_0 := o_5_0 (hall 5 (by decide))
      have hh1314_5_0 := Own.hi o1314_5_0
      have o1314_5_1 := o_5_1 (hall 5 (by decide))
      have hh1314_5_1 := Own.hi o1314_5_1
      clear hF bl sz b_B13 p_0 p_1 n_N10r9 o_5_0 o_5_1 cl_11_10 cl_6_5 cl_7_5 cl_11_5 s_68 s_69 s_70 s_71 s_72 s_73 s_67 s_74 s_75 s_76 s_11 s_12 s_13 hall hA1313
      refine then_n ?_
      refine wp_seq ?_
      refine wp_region_lit ?_
      refine sx_val hA1314 rfl (ev_move (hA1314.ev (i := 13) (v := .int .i64 (stp g m).2.2)) _ rfl) ?_
      intro a1315 hA1315; clear hA1314
      cases hd1316 : decide ((stp g m).2.2 = 0)
      · have hp1316 := of_decide_eq_false hd1316
        refine sx_val (v := .bool false) hA1315 rfl (ev_eqlB (k := .i64) (m := (stp g m).2.2) (n := 0) (hA1315.ev (i := 77)) (ec _ (.int .i64 0)) hd1316 _ rfl) ?_
        intro a1317 hA1317; clear hA1315
        refine sx_val hA1317 rfl (ev_move (hA1317.ev (i := 78) (v := .bool false)) _ rfl) ?_
        intro a1318 hA1318; clear hA1317
        refine sx_no (j := 2) (s := 79) (want := true) (b := false) hA1318 rfl ?_
        intro a1319 hA1319; clear hA1318
        refine sx_no (j := 2) (s := 79) (want := true) (b := false) hA1319 rfl ?_
        intro a1320 hA1320; clear hA1319
        refine sx_no (j := 2) (s := 79) (want := true) (b := false) hA1320 rfl ?_
        intro a1321 hA1321; clear hA1320
        refine sx_no (j := 2) (s := 79) (want := true) (b := false) hA1321 rfl ?_
        intro a1322 hA1322; clear hA1321
        refine sx_no (j := 2) (s := 79) (want := true) (b := false) hA1322 rfl ?_
        intro a1323 hA1323; clear hA1322
        refine sx_val hA1323 rfl (ev_pickF (hA1323.ev (i := 79) (v := .bool false)) (ec _ (.bool false)) _ rfl) ?_
        intro a1324 hA1324; clear hA1323
        refine sx_val hA1324 rfl (ev_move (hA1324.ev (i := 85) (v := .bool false)) _ rfl) ?_
        intro a1325 hA1325; clear hA1324
        refine sx_no (j := 9) (s := 86) (want := true) (b := false) hA1325 rfl ?_
        intro a1326 hA1326; clear hA1325
        refine sx_no (j := 9) (s := 86) (want := true) (b := false) hA1326 rfl ?_
        intro a1327 hA1327; clear hA1326
        refine sx_no (j := 9) (s := 86) (want := true) (b := false) hA1327 rfl ?_
        intro a1328 hA1328; clear hA1327
        refine sx_no (j := 9) (s := 86) (want := true) (b := false) hA1328 rfl ?_
        intro a1329 hA1329; clear hA1328
        refine sx_no (j := 9) (s := 86) (want := true) (b := false) hA1329 rfl ?_
        intro a1330 hA1330; clear hA1329
        refine sx_val hA1330 rfl (ev_pickF (hA1330.ev (i := 86) (v := .bool false)) (ec _ (.bool false)) _ rfl) ?_
        intro a1331 hA1331; clear hA1330
        refine sx_nil ?_
        refine then_n ?_
        refine wp_cond_false (hA1331.ev (i := 92) (v := .bool false)) ?_
        refine wp_skip ?_
        refine blk_n ?_
        refine then_n ?_
        refine wp_region_lit ?_
        refine sx_val hA1331 rfl (ev_move (hA1331.ev (i := 10) (v := .int .i64 (i : Int))) _ rfl) ?_
        intro a1332 hA1332; clear hA1331
        refine sx_val (v := .int .i64 ((i + 1 : Nat) : Int)) hA1332 rfl (ev_addR (k := .i64) (m := (i : Int)) (n := 1) (r := ((i + 1 : Nat) : Int)) (hA1332.ev (i := 65)) (ec _ (.int .i64 1)) (wr (by omega) (by omega) (by omega)) _ rfl) ?_
        intro a1333 hA1333; clear hA1332
        refine sx_val hA1333 rfl (ev_assign (hA1333.ev (i := 66) (v := .int .i64 ((i + 1 : Nat) : Int))) _ rfl) ?_
        intro a1334 hA1334; clear hA1333
        refine sx_nil ?_
        refine then_n ?_
        refine ⟨40 - (i + 1), by omega, i + 1, g, A1g, c1g, A2g, c2g, rfl, ((((((((Ag.nil hA1334.1 hA1334.2.1).cons (hA1334.get (i := 10) (v := .int .i64 ((i + 1 : Nat) : Int)))).cons (hA1334.get (i := 8) (v := .pointer (some ⟨B13, 0, none⟩)))).cons (hA1334.get (i := 7) (v := .bool true))).cons (hA1334.get (i := 6) (v := .bool false))).cons (hA1334.get (i := 2) (v := .int .i64 wh))).cons (hA1334.get (i := 1) (v := .slice A xs.length c))).cons (hA1334.get (i := 0) (v := .int .i64 (N : Int)))), by omega, q26_1, q26_2, fun k => by have hz := q26_3 k; omega, b1314_B13, (Own.mono p1314_0 (by omega)), (Own.mono p1314_1 (by omega)), by omega, bl1314⟩
      have hp1316 := of_decide_eq_true hd1316
      refine sx_val (v := .bool true) hA1315 rfl (ev_eqlB (k := .i64) (m := (stp g m).2.2) (n := 0) (hA1315.ev (i := 77)) (ec _ (.int .i64 0)) hd1316 _ rfl) ?_
      intro a1335 hA1335; clear hA1315
      refine sx_val hA1335 rfl (ev_move (hA1335.ev (i := 78) (v := .bool true)) _ rfl) ?_
      intro a1336 hA1336; clear hA1335
      refine sx_val (hg := (.inr ⟨2, true, 79, rfl, rfl, by kernel_rfl⟩)) (v := .pointer (some ⟨N10r9, 0, none⟩)) hA1336 rfl (fb_Slots_0 (hA1336.ev (i := 11) (v := .pointer (some ⟨N10r9, 0, none⟩))) _ rfl) ?_
      intro a1337 hA1337; clear hA1336
      refine sx_val (hg := (.inr ⟨2, true, 79, rfl, rfl, by kernel_rfl⟩)) (v := .slice Ap5r9 (stp g m).1.rs.length cp5r9) hA1337 rfl (ev_cell (v := .slice Ap5r9 (stp g m).1.rs.length cp5r9) (hA1337.ev (i := 80) (v := .pointer (some ⟨N10r9, 0, none⟩))) ((b1314_N10r9.cell 0).trans rfl) Try.underlying22 rfl _ rfl) ?_
      intro a1338 hA1338; clear hA1337
      refine sx_val (hg := (.inr ⟨2, true, 79, rfl, rfl, by kernel_rfl⟩)) (v := .int .i64 ((stp g m).1.rs.length : Int)) hA1338 rfl (ev_len (hA1338.ev (i := 81) (v := .slice Ap5r9 (stp g m).1.rs.length cp5r9)) Try.underlying22 _ rfl) ?_
      intro a1339 hA1339; clear hA1338
      refine sx_val (hg := (.inr ⟨2, true, 79, rfl, rfl, by kernel_rfl⟩)) hA1339 rfl (ev_move (hA1339.ev (i := 0) (v := .int .i64 (N : Int))) _ rfl) ?_
      intro a1340 hA1340; clear hA1339
      have hst := stp_ok q26_1 m hp1316
      have hok2 := hst.ok
      have hln2 : (stp g m).1.rs.length = N := hst.len.trans q26_2
      have hbl2 : (stp g m).1.bs.length = N := hok2.len.trans hln2
      have hd3 : decide (((stp g m).1.rs.length : Int) = (N : Int)) = true := decide_eq_true (by omega)
      have hd4 : decide (((stp g m).1.bs.length : Int) = (N : Int)) = true := decide_eq_true (by omega)
      refine sx_val (hg := (.inr ⟨2, true, 79, rfl, rfl, by kernel_rfl⟩)) (v := .bool true) hA1340 rfl (ev_eqlB (k := .i64) (m := ((stp g m).1.rs.length : Int)) (n := (N : Int)) (hA1340.ev (i := 82)) (hA1340.ev (i := 83)) hd3 _ rfl) ?_
      intro a1341 hA1341; clear hA1340
      refine sx_val hA1341 rfl (ev_pickT (hA1341.ev (i := 79) (v := .bool true)) (hA1341.ev (i := 84) (v := .bool true)) _ rfl) ?_
      intro a1342 hA1342; clear hA1341
      refine sx_val hA1342 rfl (ev_move (hA1342.ev (i := 85) (v := .bool true)) _ rfl) ?_
      intro a1343 hA1343; clear hA1342
      refine sx_val (hg := (.inr ⟨9, true, 86, rfl, rfl, by kernel_rfl⟩)) (v := .pointer (some ⟨N10r9, 1, none⟩)) hA1343 rfl (fb_Slots_1 (hA1343.ev (i := 11) (v := .pointer (some ⟨N10r9, 0, none⟩))) _ rfl) ?_
      intro a1344 hA1344; clear hA1343
      refine sx_val (hg := (.inr ⟨9, true, 86, rfl, rfl, by kernel_rfl⟩)) (v := .slice Aj5r9 (stp g m).1.bs.length cj5r9) hA1344 rfl (ev_cell (v := .slice Aj5r9 (stp g m).1.bs.length cj5r9) (hA1344.ev (i := 87) (v := .pointer (some ⟨N10r9, 1, none⟩))) ((b1314_N10r9.cell 1).trans rfl) Try.underlying23 rfl _ rfl) ?_
      intro a1345 hA1345; clear hA1344
      refine sx_val (hg := (.inr ⟨9, true, 86, rfl, rfl, by kernel_rfl⟩)) (v := .int .i64 ((stp g m).1.bs.length : Int)) hA1345 rfl (ev_len (hA1345.ev (i := 88) (v := .slice Aj5r9 (stp g m).1.bs.length cj5r9)) Try.underlying23 _ rfl) ?_
      intro a1346 hA1346; clear hA1345
      refine sx_val (hg := (.inr ⟨9, true, 86, rfl, rfl, by kernel_rfl⟩)) hA1346 rfl (ev_move (hA1346.ev (i := 0) (v := .int .i64 (N : Int))) _ rfl) ?_
      intro a1347 hA1347; clear hA1346
      refine sx_val (hg := (.inr ⟨9, true, 86, rfl, rfl, by kernel_rfl⟩)) (v := .bool true) hA1347 rfl (ev_eqlB (k := .i64) (m := ((stp g m).1.bs.length : Int)) (n := (N : Int)) (hA1347.ev (i := 89)) (hA1347.ev (i := 90)) hd4 _ rfl) ?_
      intro a1348 hA1348; clear hA1347
      refine sx_val hA1348 rfl (ev_pickT (hA1348.ev (i := 86) (v := .bool true)) (hA1348.ev (i := 91) (v := .bool true)) _ rfl) ?_
      intro a1349 hA1349; clear hA1348
      refine sx_nil ?_
      refine then_n ?_
      refine wp_cond_true (hA1349.ev (i := 92) (v := .bool true)) ?_
      refine wp_region_lit ?_
      refine sx_val (v := .agg #[.slice Ap5r9 (stp g m).1.rs.length cp5r9, .slice Aj5r9 (stp g m).1.bs.length cj5r9]) hA1349 rfl (ev_row (hA1349.ev (i := 11) (v := .pointer (some ⟨N10r9, 0, none⟩))) b1314_N10r9 Try.underlying25 rfl (n := 2) (by kernel_rfl) rfl _ rfl) ?_
      intro a1350 hA1350; clear hA1349
      refine sx_store hA1350 rfl (.inl rfl) rfl (hA1350.ev (i := 8) (v := .pointer (some ⟨B13, 0, none⟩))) (hA1350.ev (i := 93) (v := .agg #[.slice Ap5r9 (stp g m).1.rs.length cp5r9, .slice Aj5r9 (stp g m).1.bs.length cj5r9])) b1314_B13 (by kernel_rfl) rfl (by simp [Value.oneCell']) ?_
      intro w1351 hx1351 hg1351
      have hs1351 := hg1351.size
      refine sx_nil ?_
      refine blk_n ?_
      refine then_n ?_
      refine wp_region_lit ?_
      refine sx_val hA1350 rfl (ev_move (hA1350.ev (i := 10) (v := .int .i64 (i : Int))) _ rfl) ?_
      intro a1352 hA1352; clear hA1350
      refine sx_val (v := .int .i64 ((i + 1 : Nat) : Int)) hA1352 rfl (ev_addR (k := .i64) (m := (i : Int)) (n := 1) (r := ((i + 1 : Nat) : Int)) (hA1352.ev (i := 65)) (ec _ (.int .i64 1)) (wr (by omega) (by omega) (by omega)) _ rfl) ?_
      intro a1353 hA1353; clear hA1352
      refine sx_val hA1353 rfl (ev_assign (hA1353.ev (i := 66) (v := .int .i64 ((i + 1 : Nat) : Int))) _ rfl) ?_
      intro a1354 hA1354; clear hA1353
      refine sx_nil ?_
      refine then_n ?_
      have o1314_5_1355 := Own.gBT o1314_5_0 hg1351 b1314_B13 (by decide)
      have o1314_5_1356 := Own.gBT o1314_5_1 hg1351 b1314_B13 (by decide)
      have bl1314_1357 := Below.gB bl1314 hg1351 bl1314.size (by omega)
      refine ⟨40 - (i + 1), by omega, i + 1, (stp g m).1, Ap5r9, cp5r9, Aj5r9, cj5r9, rfl, ((((((((Ag.nil hA1354.1 hA1354.2.1).cons (hA1354.get (i := 10) (v := .int .i64 ((i + 1 : Nat) : Int)))).cons (hA1354.get (i := 8) (v := .pointer (some ⟨B13, 0, none⟩)))).cons (hA1354.get (i := 7) (v := .bool true))).cons (hA1354.get (i := 6) (v := .bool false))).cons (hA1354.get (i := 2) (v := .int .i64 wh))).cons (hA1354.get (i := 1) (v := .slice A xs.length c))).cons (hA1354.get (i := 0) (v := .int .i64 (N : Int)))), by omega, hst.ok, hst.len.trans q26_2, fun k => by
        have hz := q26_3 k
        rcases hst.up k with hy | hy <;> omega, hx1351, (Own.mono o1314_5_1355 (by omega)), (Own.mono o1314_5_1356 (by omega)), by omega, bl1314_1357⟩
  have hp680 := of_decide_eq_false hd680
  refine sx_val (hg := (.inr ⟨4, true, 61, rfl, rfl, by kernel_rfl⟩)) (v := .bool false) hA679 rfl (ev_lssB (k := .i64) (m := (i : Int)) (n := 40) (hA679.ev (i := 62)) (ec _ (.int .i64 40)) hd680 _ rfl) ?_
  intro a681 hA681; clear hA679
  refine sx_val hA681 rfl (ev_pickT (hA681.ev (i := 61) (v := .bool true)) (hA681.ev (i := 63) (v := .bool false)) _ rfl) ?_
  intro a682 hA682; clear hA681
  refine sx_nil ?_
  refine then_n ?_
  refine wp_cond_false (hA682.ev (i := 64) (v := .bool false)) ?_
  refine wp_exit ?_
  refine then_x ?_
  refine then_x ?_
  refine blk_hit ?_
  refine then_n ?_
  refine wp_seq ?_
  refine wp_region_lit ?_
  refine sx_val hA682 rfl (ev_move (hA682.ev (i := 2) (v := .int .i64 wh)) _ rfl) ?_
  intro a683 hA683; clear hA682
  refine sx_val hA683 rfl (ev_move (hA683.ev (i := 0) (v := .int .i64 (N : Int))) _ rfl) ?_
  intro a684 hA684; clear hA683
  obtain ⟨xk, hxk⟩ : ∃ xk, g.rs[kn]? = some xk := ⟨_, List.getElem?_eq_getElem (by omega)⟩
  obtain ⟨yk, hyk⟩ : ∃ yk, g.bs[kn]? = some yk := ⟨_, List.getElem?_eq_getElem (by omega)⟩
  refine sx_call (f := 34) (args := #[.int .i64 wh, .int .i64 (N : Int)]) hA684 rfl (by decide) (.inl rfl) (ev_fn rfl (mp2 (hA684.ev (i := 94) (v := .int .i64 wh)) (hA684.ev (i := 95) (v := .int .i64 (N : Int)))) (by kernel_rfl) _ rfl) (Mod_any wh (N : Int) _ (by omega) (by omega)) ?_
  intro e685 w685 hR685
  obtain ⟨he685, hb685⟩ := hR685
  rw [hkn] at he685
  subst he685
  refine ⟨_, rfl, ?_⟩
  intro a685 hA685
  clear hA684
  have hg685 := g0 hb685
  have hs685 := hg685.size
  clear hb685
  refine sx_val hA685 rfl (ev_assign (hA685.ev (i := 96) (v := .int .i64 (kn : Int))) _ rfl) ?_
  intro a686 hA686; clear hA685
  refine sx_nil ?_
  refine then_n ?_
  refine wp_seq ?_
  refine wp_seq ?_
  refine wp_region_lit ?_
  refine sx_val (v := .pointer (some ⟨B13, 0, none⟩)) hA686 rfl (fb_Slots_0 (hA686.ev (i := 8) (v := .pointer (some ⟨B13, 0, none⟩))) _ rfl) ?_
  intro a687 hA687; clear hA686
  have f26_688 := f26_0.gN hg685
  refine sx_val (v := .slice A1g g.rs.length c1g) hA687 rfl (ev_cell (v := .slice A1g g.rs.length c1g) (hA687.ev (i := 97) (v := .pointer (some ⟨B13, 0, none⟩))) ((f26_688.cell 0).trans rfl) Try.underlying22 rfl _ rfl) ?_
  intro a689 hA689; clear hA687
  refine sx_val hA689 rfl (ev_move (hA689.ev (i := 14) (v := .int .i64 (kn : Int))) _ rfl) ?_
  intro a690 hA690; clear hA689
  have f26_692 := Own.gN f26_1 hg685
  obtain ⟨ad691, hAd691⟩ := GR.adr (OwnR.gr (e := 3) ⟨rfl, f26_692⟩) iva_sz hxk
  refine sx_val (v := .pointer (some (ad691.add (kn * 1)))) hA690 rfl (ev_idx (k := kn) (hA690.ev (i := 98) (v := .slice A1g g.rs.length c1g)) hAd691 (hA690.ev (i := 99) (v := .int .i64 (kn : Int))) rfl (by omega) Try.underlying22 (by kernel_rfl) _ rfl) ?_
  intro a693 hA693; clear hA690
  refine sx_val (v := .int .i64 xk) hA693 rfl (ev_cell (hA693.ev (i := 100) (v := .pointer (some (ad691.add (kn * 1))))) ((GR.cel (OwnR.gr (e := 3) ⟨rfl, f26_692⟩) hAd691 iva_sz hxk) 0 _ rfl) Try.underlying3 rfl _ rfl) ?_
  intro a694 hA694; clear hA693
  cases hd695 : decide (xk = 0)
  rotate_left
  · have hp695 := of_decide_eq_true hd695
    refine sx_val (v := .bool true) hA694 rfl (ev_eqlB (k := .i64) (m := xk) (n := 0) (hA694.ev (i := 101)) (ec _ (.int .i64 0)) hd695 _ rfl) ?_
    intro a1033 hA1033; clear hA694
    refine sx_val hA1033 rfl (ev_move (hA1033.ev (i := 102) (v := .bool true)) _ rfl) ?_
    intro a1034 hA1034; clear hA1033
    refine sx_val (hg := (.inr ⟨6, true, 103, rfl, rfl, by kernel_rfl⟩)) (v := .pointer (some ⟨B13, 1, none⟩)) hA1034 rfl (fb_Slots_1 (hA1034.ev (i := 8) (v := .pointer (some ⟨B13, 0, none⟩))) _ rfl) ?_
    intro a1035 hA1035; clear hA1034
    refine sx_val (hg := (.inr ⟨6, true, 103, rfl, rfl, by kernel_rfl⟩)) (v := .slice A2g g.bs.length c2g) hA1035 rfl (ev_cell (v := .slice A2g g.bs.length c2g) (hA1035.ev (i := 104) (v := .pointer (some ⟨B13, 1, none⟩))) ((f26_688.cell 1).trans rfl) Try.underlying23 rfl _ rfl) ?_
    intro a1036 hA1036; clear hA1035
    refine sx_val (hg := (.inr ⟨6, true, 103, rfl, rfl, by kernel_rfl⟩)) hA1036 rfl (ev_move (hA1036.ev (i := 14) (v := .int .i64 (kn : Int))) _ rfl) ?_
    intro a1037 hA1037; clear hA1036
    have f26_1039 := Own.gN f26_2 hg685
    obtain ⟨ad1038, hAd1038⟩ := GR.adr (OwnR.gr (e := 4) ⟨rfl, f26_1039⟩) bva_sz hyk
    refine sx_val (hg := (.inr ⟨6, true, 103, rfl, rfl, by kernel_rfl⟩)) (v := .pointer (some (ad1038.add (kn * 1)))) hA1037 rfl (ev_idx (k := kn) (hA1037.ev (i := 105) (v := .slice A2g g.bs.length c2g)) hAd1038 (hA1037.ev (i := 106) (v := .int .i64 (kn : Int))) rfl (by omega) Try.underlying23 (by kernel_rfl) _ rfl) ?_
    intro a1040 hA1040; clear hA1037
    refine sx_val (hg := (.inr ⟨6, true, 103, rfl, rfl, by kernel_rfl⟩)) (v := .bool yk) hA1040 rfl (ev_cell (hA1040.ev (i := 107) (v := .pointer (some (ad1038.add (kn * 1))))) ((GR.cel (OwnR.gr (e := 4) ⟨rfl, f26_1039⟩) hAd1038 bva_sz hyk) 0 _ rfl) Try.underlying4 rfl _ rfl) ?_
    intro a1041 hA1041; clear hA1040
    cases hd1042 : yk
    · rw [hd1042] at hA1041
      refine sx_val (hg := (.inr ⟨6, true, 103, rfl, rfl, by kernel_rfl⟩)) (v := .bool true) hA1041 rfl (ev_notF (hA1041.ev (i := 108) (v := .bool false)) _ rfl) ?_
      intro a1043 hA1043; clear hA1041
      refine sx_val hA1043 rfl (ev_pickT (hA1043.ev (i := 103) (v := .bool true)) (hA1043.ev (i := 109) (v := .bool true)) _ rfl) ?_
      intro a1044 hA1044; clear hA1043
      refine sx_nil ?_
      refine then_n ?_
      refine wp_cond_true (hA1044.ev (i := 110) (v := .bool true)) ?_
      refine wp_seq ?_
      refine wp_region_lit ?_
      refine sx_val (v := .agg #[.slice A1g g.rs.length c1g, .slice A2g g.bs.length c2g]) hA1044 rfl (ev_row (hA1044.ev (i := 8) (v := .pointer (some ⟨B13, 0, none⟩))) f26_688 Try.underlying25 rfl (n := 2) (by kernel_rfl) rfl _ rfl) ?_
      intro a1045 hA1045; clear hA1044
      refine sx_val hA1045 rfl (ev_move (hA1045.ev (i := 14) (v := .int .i64 (kn : Int))) _ rfl) ?_
      intro a1046 hA1046; clear hA1045
      have hfr : fre g kn = true := by rw [fre_eq]; simp [rat, bat, hxk, hyk, hp695, hd1042]
      have hf1048 : decide ((rff g (kn : Int)).2 = 9) = true := decide_eq_true (back0 q26_1 (by omega) hfr)
      refine sx_call (f := 11) (args := #[.agg #[.slice A1g g.rs.length c1g, .slice A2g g.bs.length c2g], .int .i64 (kn : Int)]) hA1046 rfl (by decide) (.inl rfl) (ev_fn rfl (mp2 (hA1046.ev (i := 112) (v := .agg #[.slice A1g g.rs.length c1g, .slice A2g g.bs.length c2g])) (hA1046.ev (i := 113) (v := .int .i64 (kn : Int)))) (by kernel_rfl) _ rfl) (Ref_any A1g c1g A2g c2g g.rs g.bs (kn : Int) _ ⟨(OwnR.gr (e := 3) ⟨rfl, f26_692⟩), (OwnR.gr (e := 4) ⟨rfl, f26_1039⟩)⟩ (by omega) (by omega)) ?_
      intro e1047 w1047 hR1047
      obtain ⟨Ap1047, cp1047, Aj1047, cj1047, rfl, hC1047, hJ1047, hb1047⟩ := hR1047
      refine ⟨_, rfl, ?_⟩
      intro a1047 hA1047
      clear hA1046
      have hg1047 := g0 hb1047
      have hs1047 := hg1047.size
      clear hb1047
      have ho1047_0 : Own w1047 (w685.heap.size) 3 1 (.slice Ap1047 (rff g (kn : Int)).1.rs.length cp1047) (rff g (kn : Int)).1.rs.length (flat iva (rff g (kn : Int)).1.rs) := hC1047
      have hh1047_0 := Own.hi ho1047_0
      have ho1047_1 : Own w1047 (w685.heap.size) 4 1 (.slice Aj1047 (rff g (kn : Int)).1.bs.length cj1047) (rff g (kn : Int)).1.bs.length (flat bva (rff g (kn : Int)).1.bs) := hJ1047
      have hh1047_1 := Own.hi ho1047_1
      refine sx_val hA1047 rfl (ev_move (hA1047.ev (i := 114) (v := .tuple #[.agg #[.slice Ap1047 (rff g (kn : Int)).1.rs.length cp1047, .slice Aj1047 (rff g (kn : Int)).1.bs.length cj1047], .int .i64 (rff g (kn : Int)).2])) _ rfl) ?_
      intro a1049 hA1049; clear hA1047
      refine sx_val (v := .agg #[.slice Ap1047 (rff g (kn : Int)).1.rs.length cp1047, .slice Aj1047 (rff g (kn : Int)).1.bs.length cj1047]) hA1049 rfl (ev_ext (hA1049.ev (i := 111) (v := .tuple #[.agg #[.slice Ap1047 (rff g (kn : Int)).1.rs.length cp1047, .slice Aj1047 (rff g (kn : Int)).1.bs.length cj1047], .int .i64 (rff g (kn : Int)).2])) rfl _ rfl) ?_
      intro a1050 hA1050; clear hA1049
      refine sx_val (v := .int .i64 (rff g (kn : Int)).2) hA1050 rfl (ev_ext (hA1050.ev (i := 111) (v := .tuple #[.agg #[.slice Ap1047 (rff g (kn : Int)).1.rs.length cp1047, .slice Aj1047 (rff g (kn : Int)).1.bs.length cj1047], .int .i64 (rff g (kn : Int)).2])) rfl _ rfl) ?_
      intro a1051 hA1051; clear hA1050
      refine sx_new (cs := #[.slice none 0 0, .slice none 0 0]) (t := 25) hA1051 rfl (by decide) (.inl rfl) (ev_alloc (z := .agg (#[.slice none 0 0, .slice none 0 0])) (by kernel_rfl) (by kernel_rfl) _ rfl) ?_
      intro B1052 w1052 a1052 hB1052 hx1052 hg1052 hA1052
      clear hA1051
      have hs1052 := hg1052.size
      have hl1052 := hx1052.lt
      refine sx_store hA1052 rfl (.inl rfl) rfl (hA1052.ev (i := 15) (v := .pointer (some ⟨B1052, 0, none⟩))) (hA1052.ev (i := 115) (v := .agg #[.slice Ap1047 (rff g (kn : Int)).1.rs.length cp1047, .slice Aj1047 (rff g (kn : Int)).1.bs.length cj1047])) hx1052 (by kernel_rfl) rfl (by simp [Value.oneCell']) ?_
      intro w1053 hx1053 hg1053
      have hs1053 := hg1053.size
      refine sx_val hA1052 rfl (ev_assign (hA1052.ev (i := 116) (v := .int .i64 (rff g (kn : Int)).2)) _ rfl) ?_
      intro a1054 hA1054; clear hA1052
      refine sx_nil ?_
      refine then_n ?_
      refine wp_seq ?_
      refine wp_region_lit ?_
      refine sx_val hA1054 rfl (ev_move (hA1054.ev (i := 7) (v := .bool true)) _ rfl) ?_
      intro a1055 hA1055; clear hA1054
      refine sx_val hA1055 rfl (ev_move (hA1055.ev (i := 117) (v := .bool true)) _ rfl) ?_
      intro a1056 hA1056; clear hA1055
      refine sx_val (hg := (.inr ⟨1, true, 118, rfl, rfl, by kernel_rfl⟩)) hA1056 rfl (ev_move (hA1056.ev (i := 16) (v := .int .i64 (rff g (kn : Int)).2)) _ rfl) ?_
      intro a1057 hA1057; clear hA1056
      refine sx_val (hg := (.inr ⟨1, true, 118, rfl, rfl, by kernel_rfl⟩)) (v := .bool true) hA1057 rfl (ev_eqlB (k := .i64) (m := (rff g (kn : Int)).2) (n := 9) (hA1057.ev (i := 119)) (ec _ (.int .i64 9)) hf1048 _ rfl) ?_
      intro a1058 hA1058; clear hA1057
      refine sx_val hA1058 rfl (ev_pickT (hA1058.ev (i := 118) (v := .bool true)) (hA1058.ev (i := 120) (v := .bool true)) _ rfl) ?_
      intro a1059 hA1059; clear hA1058
      refine sx_val hA1059 rfl (ev_assign (hA1059.ev (i := 121) (v := .bool true)) _ rfl) ?_
      intro a1060 hA1060; clear hA1059
      refine sx_nil ?_
      refine then_n ?_
      refine wp_ret ?_
      refine then_r ?_
      refine bodyPost_ret (rs_t (v := .bool true) Try.results7 hA1060 (by kernel_rfl) ) hA1060.2.1 ?_
      have hbel26_1061 := Below.gN hbel26 hg685 hbel26.size
      have hbel26_1062 := Below.gN hbel26_1061 hg1047 hbel26_1061.size
      have hbel26_1063 := Below.gN hbel26_1062 hg1052 hbel26_1062.size
      have hbel26_1064 := Below.gB hbel26_1063 hg1053 hbel26_1063.size (by omega)
      exact ⟨rfl, hbel26_1064⟩
    rw [hd1042] at hA1041
    refine sx_val (hg := (.inr ⟨6, true, 103, rfl, rfl, by kernel_rfl⟩)) (v := .bool false) hA1041 rfl (ev_notT (hA1041.ev (i := 108) (v := .bool true)) _ rfl) ?_
    intro a1065 hA1065; clear hA1041
    refine sx_val hA1065 rfl (ev_pickT (hA1065.ev (i := 103) (v := .bool true)) (hA1065.ev (i := 109) (v := .bool false)) _ rfl) ?_
    intro a1066 hA1066; clear hA1065
    refine sx_nil ?_
    refine then_n ?_
    refine wp_cond_false (hA1066.ev (i := 110) (v := .bool false)) ?_
    refine wp_skip ?_
    refine then_n ?_
    refine wp_seq ?_
    refine wp_region_lit ?_
    refine sx_val (v := .agg #[.slice A1g g.rs.length c1g, .slice A2g g.bs.length c2g]) hA1066 rfl (ev_row (hA1066.ev (i := 8) (v := .pointer (some ⟨B13, 0, none⟩))) f26_688 Try.underlying25 rfl (n := 2) (by kernel_rfl) rfl _ rfl) ?_
    intro a1067 hA1067; clear hA1066
    refine sx_val hA1067 rfl (ev_move (hA1067.ev (i := 14) (v := .int .i64 (kn : Int))) _ rfl) ?_
    intro a1068 hA1068; clear hA1067
    have hfr : fre g kn = false := by rw [fre_eq]; simp [rat, bat, hxk, hyk, hd1042]
    have hrb := q26_3 kn
    have hb1 := back1 q26_1 (by omega) hfr (by omega)
    have hf1070 : decide ((rff g (kn : Int)).2 = 0) = true := decide_eq_true hb1.1
    have hf1071 : decide ((unr (rff g (kn : Int)).1 (kn : Int)).2.2 = 0) = true := decide_eq_true hb1.2.1
    refine sx_call (f := 11) (args := #[.agg #[.slice A1g g.rs.length c1g, .slice A2g g.bs.length c2g], .int .i64 (kn : Int)]) hA1068 rfl (by decide) (.inl rfl) (ev_fn rfl (mp2 (hA1068.ev (i := 123) (v := .agg #[.slice A1g g.rs.length c1g, .slice A2g g.bs.length c2g])) (hA1068.ev (i := 124) (v := .int .i64 (kn : Int)))) (by kernel_rfl) _ rfl) (Ref_any A1g c1g A2g c2g g.rs g.bs (kn : Int) _ ⟨(OwnR.gr (e := 3) ⟨rfl, f26_692⟩), (OwnR.gr (e := 4) ⟨rfl, f26_1039⟩)⟩ (by omega) (by omega)) ?_
    intro e1069 w1069 hR1069
    obtain ⟨Ap1069, cp1069, Aj1069, cj1069, rfl, hC1069, hJ1069, hb1069⟩ := hR1069
    refine ⟨_, rfl, ?_⟩
    intro a1069 hA1069
    clear hA1068
    have hg1069 := g0 hb1069
    have hs1069 := hg1069.size
    clear hb1069
    have ho1069_0 : Own w1069 (w685.heap.size) 3 1 (.slice Ap1069 (rff g (kn : Int)).1.rs.length cp1069) (rff g (kn : Int)).1.rs.length (flat iva (rff g (kn : Int)).1.rs) := hC1069
    have hh1069_0 := Own.hi ho1069_0
    have ho1069_1 : Own w1069 (w685.heap.size) 4 1 (.slice Aj1069 (rff g (kn : Int)).1.bs.length cj1069) (rff g (kn : Int)).1.bs.length (flat bva (rff g (kn : Int)).1.bs) := hJ1069
    have hh1069_1 := Own.hi ho1069_1
    refine sx_val hA1069 rfl (ev_move (hA1069.ev (i := 125) (v := .tuple #[.agg #[.slice Ap1069 (rff g (kn : Int)).1.rs.length cp1069, .slice Aj1069 (rff g (kn : Int)).1.bs.length cj1069], .int .i64 (rff g (kn : Int)).2])) _ rfl) ?_
    intro a1072 hA1072; clear hA1069
    refine sx_val (v := .agg #[.slice Ap1069 (rff g (kn : Int)).1.rs.length cp1069, .slice Aj1069 (rff g (kn : Int)).1.bs.length cj1069]) hA1072 rfl (ev_ext (hA1072.ev (i := 122) (v := .tuple #[.agg #[.slice Ap1069 (rff g (kn : Int)).1.rs.length cp1069, .slice Aj1069 (rff g (kn : Int)).1.bs.length cj1069], .int .i64 (rff g (kn : Int)).2])) rfl _ rfl) ?_
    intro a1073 hA1073; clear hA1072
    refine sx_val (v := .int .i64 (rff g (kn : Int)).2) hA1073 rfl (ev_ext (hA1073.ev (i := 122) (v := .tuple #[.agg #[.slice Ap1069 (rff g (kn : Int)).1.rs.length cp1069, .slice Aj1069 (rff g (kn : Int)).1.bs.length cj1069], .int .i64 (rff g (kn : Int)).2])) rfl _ rfl) ?_
    intro a1074 hA1074; clear hA1073
    refine sx_new (cs := #[.slice none 0 0, .slice none 0 0]) (t := 25) hA1074 rfl (by decide) (.inl rfl) (ev_alloc (z := .agg (#[.slice none 0 0, .slice none 0 0])) (by kernel_rfl) (by kernel_rfl) _ rfl) ?_
    intro B1075 w1075 a1075 hB1075 hx1075 hg1075 hA1075
    clear hA1074
    have hs1075 := hg1075.size
    have hl1075 := hx1075.lt
    refine sx_store hA1075 rfl (.inl rfl) rfl (hA1075.ev (i := 17) (v := .pointer (some ⟨B1075, 0, none⟩))) (hA1075.ev (i := 126) (v := .agg #[.slice Ap1069 (rff g (kn : Int)).1.rs.length cp1069, .slice Aj1069 (rff g (kn : Int)).1.bs.length cj1069])) hx1075 (by kernel_rfl) rfl (by simp [Value.oneCell']) ?_
    intro w1076 hx1076 hg1076
    have hs1076 := hg1076.size
    refine sx_val hA1075 rfl (ev_assign (hA1075.ev (i := 127) (v := .int .i64 (rff g (kn : Int)).2)) _ rfl) ?_
    intro a1077 hA1077; clear hA1075
    refine sx_nil ?_
    refine then_n ?_
    refine wp_seq ?_
    refine wp_region_lit ?_
    refine sx_val (v := .agg #[.slice Ap1069 (rff g (kn : Int)).1.rs.length cp1069, .slice Aj1069 (rff g (kn : Int)).1.bs.length cj1069]) hA1077 rfl (ev_row (hA1077.ev (i := 17) (v := .pointer (some ⟨B1075, 0, none⟩))) hx1076 Try.underlying25 rfl (n := 2) (by kernel_rfl) rfl _ rfl) ?_
    intro a1078 hA1078; clear hA1077
    refine sx_val hA1078 rfl (ev_move (hA1078.ev (i := 14) (v := .int .i64 (kn : Int))) _ rfl) ?_
    intro a1079 hA1079; clear hA1078
    have hln1080_0 := rff_len g (kn : Int)
    have hlm1080_0 := hln1080_0.1
    replace hln1080_0 := hln1080_0.2
    have ho1069_1081 := Own.gN ho1069_0 hg1075
    have ho1069_1082 := Own.gBT ho1069_1081 hg1076 hx1075 (by decide)
    have ho1069_1083 := Own.gN ho1069_1 hg1075
    have ho1069_1084 := Own.gBT ho1069_1083 hg1076 hx1075 (by decide)
    refine sx_call (f := 14) (args := #[.agg #[.slice Ap1069 (rff g (kn : Int)).1.rs.length cp1069, .slice Aj1069 (rff g (kn : Int)).1.bs.length cj1069], .int .i64 (kn : Int)]) hA1079 rfl (by decide) (.inl rfl) (ev_fn rfl (mp2 (hA1079.ev (i := 129) (v := .agg #[.slice Ap1069 (rff g (kn : Int)).1.rs.length cp1069, .slice Aj1069 (rff g (kn : Int)).1.bs.length cj1069])) (hA1079.ev (i := 130) (v := .int .i64 (kn : Int)))) (by kernel_rfl) _ rfl) (Unref_any Ap1069 cp1069 Aj1069 cj1069 (rff g (kn : Int)).1.rs (rff g (kn : Int)).1.bs (kn : Int) _ ⟨(OwnR.gr (e := 3) ⟨rfl, ho1069_1082⟩), (OwnR.gr (e := 4) ⟨rfl, ho1069_1084⟩)⟩ (by omega) (by omega)) ?_
    intro e1080 w1080 hR1080
    obtain ⟨Ap1080, cp1080, Aj1080, cj1080, rfl, hC1080, hJ1080, hb1080⟩ := hR1080
    refine ⟨_, rfl, ?_⟩
    intro a1080 hA1080
    clear hA1079
    have hg1080 := g0 hb1080
    have hs1080 := hg1080.size
    clear hb1080
    have ho1080_0 : Own w1080 (w1076.heap.size) 3 1 (.slice Ap1080 (unr (rff g (kn : Int)).1 (kn : Int)).1.rs.length cp1080) (unr (rff g (kn : Int)).1 (kn : Int)).1.rs.length (flat iva (unr (rff g (kn : Int)).1 (kn : Int)).1.rs) := hC1080
    have hh1080_0 := Own.hi ho1080_0
    have ho1080_1 : Own w1080 (w1076.heap.size) 4 1 (.slice Aj1080 (unr (rff g (kn : Int)).1 (kn : Int)).1.bs.length cj1080) (unr (rff g (kn : Int)).1 (kn : Int)).1.bs.length (flat bva (unr (rff g (kn : Int)).1 (kn : Int)).1.bs) := hJ1080
    have hh1080_1 := Own.hi ho1080_1
    refine sx_val hA1080 rfl (ev_move (hA1080.ev (i := 131) (v := .tuple #[.agg #[.slice Ap1080 (unr (rff g (kn : Int)).1 (kn : Int)).1.rs.length cp1080, .slice Aj1080 (unr (rff g (kn : Int)).1 (kn : Int)).1.bs.length cj1080], .bool (unr (rff g (kn : Int)).1 (kn : Int)).2.1, .int .i64 (unr (rff g (kn : Int)).1 (kn : Int)).2.2])) _ rfl) ?_
    intro a1085 hA1085; clear hA1080
    refine sx_val (v := .agg #[.slice Ap1080 (unr (rff g (kn : Int)).1 (kn : Int)).1.rs.length cp1080, .slice Aj1080 (unr (rff g (kn : Int)).1 (kn : Int)).1.bs.length cj1080]) hA1085 rfl (ev_ext (hA1085.ev (i := 128) (v := .tuple #[.agg #[.slice Ap1080 (unr (rff g (kn : Int)).1 (kn : Int)).1.rs.length cp1080, .slice Aj1080 (unr (rff g (kn : Int)).1 (kn : Int)).1.bs.length cj1080], .bool (unr (rff g (kn : Int)).1 (kn : Int)).2.1, .int .i64 (unr (rff g (kn : Int)).1 (kn : Int)).2.2])) rfl _ rfl) ?_
    intro a1086 hA1086; clear hA1085
    refine sx_val (v := .bool (unr (rff g (kn : Int)).1 (kn : Int)).2.1) hA1086 rfl (ev_ext (hA1086.ev (i := 128) (v := .tuple #[.agg #[.slice Ap1080 (unr (rff g (kn : Int)).1 (kn : Int)).1.rs.length cp1080, .slice Aj1080 (unr (rff g (kn : Int)).1 (kn : Int)).1.bs.length cj1080], .bool (unr (rff g (kn : Int)).1 (kn : Int)).2.1, .int .i64 (unr (rff g (kn : Int)).1 (kn : Int)).2.2])) rfl _ rfl) ?_
    intro a1087 hA1087; clear hA1086
    refine sx_val (v := .int .i64 (unr (rff g (kn : Int)).1 (kn : Int)).2.2) hA1087 rfl (ev_ext (hA1087.ev (i := 128) (v := .tuple #[.agg #[.slice Ap1080 (unr (rff g (kn : Int)).1 (kn : Int)).1.rs.length cp1080, .slice Aj1080 (unr (rff g (kn : Int)).1 (kn : Int)).1.bs.length cj1080], .bool (unr (rff g (kn : Int)).1 (kn : Int)).2.1, .int .i64 (unr (rff g (kn : Int)).1 (kn : Int)).2.2])) rfl _ rfl) ?_
    intro a1088 hA1088; clear hA1087
    refine sx_new (cs := #[.slice none 0 0, .slice none 0 0]) (t := 25) hA1088 rfl (by decide) (.inl rfl) (ev_alloc (z := .agg (#[.slice none 0 0, .slice none 0 0])) (by kernel_rfl) (by kernel_rfl) _ rfl) ?_
    intro B1089 w1089 a1089 hB1089 hx1089 hg1089 hA1089
    clear hA1088
    have hs1089 := hg1089.size
    have hl1089 := hx1089.lt
    refine sx_store hA1089 rfl (.inl rfl) rfl (hA1089.ev (i := 19) (v := .pointer (some ⟨B1089, 0, none⟩))) (hA1089.ev (i := 132) (v := .agg #[.slice Ap1080 (unr (rff g (kn : Int)).1 (kn : Int)).1.rs.length cp1080, .slice Aj1080 (unr (rff g (kn : Int)).1 (kn : Int)).1.bs.length cj1080])) hx1089 (by kernel_rfl) rfl (by simp [Value.oneCell']) ?_
    intro w1090 hx1090 hg1090
    have hs1090 := hg1090.size
    refine sx_val hA1089 rfl (ev_assign (hA1089.ev (i := 133) (v := .bool (unr (rff g (kn : Int)).1 (kn : Int)).2.1)) _ rfl) ?_
    intro a1091 hA1091; clear hA1089
    refine sx_val hA1091 rfl (ev_assign (hA1091.ev (i := 134) (v := .int .i64 (unr (rff g (kn : Int)).1 (kn : Int)).2.2)) _ rfl) ?_
    intro a1092 hA1092; clear hA1091
    refine sx_nil ?_
    refine then_n ?_
    refine wp_seq ?_
    refine wp_seq ?_
    refine wp_region_lit ?_
    refine sx_val hA1092 rfl (ev_move (hA1092.ev (i := 18) (v := .int .i64 (rff g (kn : Int)).2)) _ rfl) ?_
    intro a1093 hA1093; clear hA1092
    refine sx_val (v := .bool false) hA1093 rfl (ev_neqB (k := .i64) (m := (rff g (kn : Int)).2) (n := 0) (hA1093.ev (i := 135)) (ec _ (.int .i64 0)) (by simpa using hf1070) _ rfl) ?_
    intro a1094 hA1094; clear hA1093
    refine sx_val hA1094 rfl (ev_move (hA1094.ev (i := 136) (v := .bool false)) _ rfl) ?_
    intro a1095 hA1095; clear hA1094
    refine sx_val (hg := (.inr ⟨2, false, 137, rfl, rfl, by kernel_rfl⟩)) hA1095 rfl (ev_move (hA1095.ev (i := 21) (v := .int .i64 (unr (rff g (kn : Int)).1 (kn : Int)).2.2)) _ rfl) ?_
    intro a1096 hA1096; clear hA1095
    refine sx_val (hg := (.inr ⟨2, false, 137, rfl, rfl, by kernel_rfl⟩)) (v := .bool false) hA1096 rfl (ev_neqB (k := .i64) (m := (unr (rff g (kn : Int)).1 (kn : Int)).2.2) (n := 0) (hA1096.ev (i := 138)) (ec _ (.int .i64 0)) (by simpa using hf1071) _ rfl) ?_
    intro a1097 hA1097; clear hA1096
    refine sx_val hA1097 rfl (ev_pickF (hA1097.ev (i := 137) (v := .bool false)) (hA1097.ev (i := 139) (v := .bool false)) _ rfl) ?_
    intro a1098 hA1098; clear hA1097
    refine sx_val hA1098 rfl (ev_move (hA1098.ev (i := 140) (v := .bool false)) _ rfl) ?_
    intro a1099 hA1099; clear hA1098
    refine sx_val (hg := (.inr ⟨6, false, 141, rfl, rfl, by kernel_rfl⟩)) (v := .agg #[.slice Ap1080 (unr (rff g (kn : Int)).1 (kn : Int)).1.rs.length cp1080, .slice Aj1080 (unr (rff g (kn : Int)).1 (kn : Int)).1.bs.length cj1080]) hA1099 rfl (ev_row (hA1099.ev (i := 19) (v := .pointer (some ⟨B1089, 0, none⟩))) hx1090 Try.underlying25 rfl (n := 2) (by kernel_rfl) rfl _ rfl) ?_
    intro a1100 hA1100; clear hA1099
    have f26_1101 := f26_688.gN hg1069
    have f26_1102 := f26_1101.gN hg1075
    have f26_1103 := f26_1102.gB hg1076 (by omega)
    have f26_1104 := f26_1103.gN hg1080
    have f26_1105 := f26_1104.gN hg1089
    have f26_1106 := f26_1105.gB hg1090 (by omega)
    refine sx_val (hg := (.inr ⟨6, false, 141, rfl, rfl, by kernel_rfl⟩)) (v := .agg #[.slice A1g g.rs.length c1g, .slice A2g g.bs.length c2g]) hA1100 rfl (ev_row (hA1100.ev (i := 8) (v := .pointer (some ⟨B13, 0, none⟩))) f26_1106 Try.underlying25 rfl (n := 2) (by kernel_rfl) rfl _ rfl) ?_
    intro a1107 hA1107; clear hA1100
    have ho1080_1109 := Own.gN ho1080_0 hg1089
    have ho1080_1110 := Own.gBT ho1080_1109 hg1090 hx1089 (by decide)
    have ho1080_1111 := Own.gN ho1080_1 hg1089
    have ho1080_1112 := Own.gBT ho1080_1111 hg1090 hx1089 (by decide)
    have f26_1113 := Own.gN f26_692 hg1069
    have f26_1114 := Own.gN f26_1113 hg1075
    have f26_1115 := Own.gBT f26_1114 hg1076 hx1075 (by decide)
    have f26_1116 := Own.gN f26_1115 hg1080
    have f26_1117 := Own.gN f26_1116 hg1089
    have f26_1118 := Own.gBT f26_1117 hg1090 hx1089 (by decide)
    have f26_1119 := Own.gN f26_1039 hg1069
    have f26_1120 := Own.gN f26_1119 hg1075
    have f26_1121 := Own.gBT f26_1120 hg1076 hx1075 (by decide)
    have f26_1122 := Own.gN f26_1121 hg1080
    have f26_1123 := Own.gN f26_1122 hg1089
    have f26_1124 := Own.gBT f26_1123 hg1090 hx1089 (by decide)
    refine sx_call (f := 13) (args := #[.agg #[.slice Ap1080 (unr (rff g (kn : Int)).1 (kn : Int)).1.rs.length cp1080, .slice Aj1080 (unr (rff g (kn : Int)).1 (kn : Int)).1.bs.length cj1080], .agg #[.slice A1g g.rs.length c1g, .slice A2g g.bs.length c2g]]) hA1107 rfl (by decide) (.inr ⟨6, false, 141, rfl, rfl, by kernel_rfl⟩) (ev_fn rfl (mp2 (hA1107.ev (i := 142) (v := .agg #[.slice Ap1080 (unr (rff g (kn : Int)).1 (kn : Int)).1.rs.length cp1080, .slice Aj1080 (unr (rff g (kn : Int)).1 (kn : Int)).1.bs.length cj1080])) (hA1107.ev (i := 143) (v := .agg #[.slice A1g g.rs.length c1g, .slice A2g g.bs.length c2g]))) (by kernel_rfl) _ rfl) (SameSlots_any Ap1080 cp1080 Aj1080 cj1080 (unr (rff g (kn : Int)).1 (kn : Int)).1.rs (unr (rff g (kn : Int)).1 (kn : Int)).1.bs A1g c1g A2g c2g g.rs g.bs _ ⟨(OwnR.gr (e := 3) ⟨rfl, ho1080_1110⟩), (OwnR.gr (e := 4) ⟨rfl, ho1080_1112⟩)⟩ ⟨(OwnR.gr (e := 3) ⟨rfl, f26_1118⟩), (OwnR.gr (e := 4) ⟨rfl, f26_1124⟩)⟩) ?_
    intro e1108 w1108 hR1108
    obtain ⟨hv1108, hb1108⟩ := hR1108
    rw [show sme (unr (rff g (kn : Int)).1 (kn : Int)).1 g = true from (by rw [hb1.2.2]; exact sme_refl _)] at hv1108
    subst hv1108
    refine ⟨_, rfl, ?_⟩
    intro a1108 hA1108
    clear hA1107
    have hg1108 := g0 hb1108
    have hs1108 := hg1108.size
    clear hb1108
    refine sx_val (hg := (.inr ⟨6, false, 141, rfl, rfl, by kernel_rfl⟩)) (v := .bool false) hA1108 rfl (ev_notT (hA1108.ev (i := 144) (v := .bool true)) _ rfl) ?_
    intro a1125 hA1125; clear hA1108
    refine sx_val hA1125 rfl (ev_pickF (hA1125.ev (i := 141) (v := .bool false)) (hA1125.ev (i := 145) (v := .bool false)) _ rfl) ?_
    intro a1126 hA1126; clear hA1125
    refine sx_nil ?_
    refine then_n ?_
    refine wp_cond_false (hA1126.ev (i := 146) (v := .bool false)) ?_
    refine wp_skip ?_
    refine then_n ?_
    refine wp_seq ?_
    refine wp_seq ?_
    refine wp_region_lit ?_
    refine sx_val (v := .pointer (some ⟨B13, 1, none⟩)) hA1126 rfl (fb_Slots_1 (hA1126.ev (i := 8) (v := .pointer (some ⟨B13, 0, none⟩))) _ rfl) ?_
    intro a1127 hA1127; clear hA1126
    have f26_1128 := f26_1106.gN hg1108
    refine sx_val (v := .slice A2g g.bs.length c2g) hA1127 rfl (ev_cell (v := .slice A2g g.bs.length c2g) (hA1127.ev (i := 147) (v := .pointer (some ⟨B13, 1, none⟩))) ((f26_1128.cell 1).trans rfl) Try.underlying23 rfl _ rfl) ?_
    intro a1129 hA1129; clear hA1127
    refine sx_val hA1129 rfl (ev_move (hA1129.ev (i := 14) (v := .int .i64 (kn : Int))) _ rfl) ?_
    intro a1130 hA1130; clear hA1129
    refine sx_val (v := .pointer (some (ad1038.add (kn * 1)))) hA1130 rfl (ev_idx (k := kn) (hA1130.ev (i := 148) (v := .slice A2g g.bs.length c2g)) hAd1038 (hA1130.ev (i := 149) (v := .int .i64 (kn : Int))) rfl (by omega) Try.underlying23 (by kernel_rfl) _ rfl) ?_
    intro a1131 hA1131; clear hA1130
    have f26_1132 := Own.gN f26_1124 hg1108
    refine sx_val (v := .bool yk) hA1131 rfl (ev_cell (hA1131.ev (i := 150) (v := .pointer (some (ad1038.add (kn * 1))))) ((GR.cel (OwnR.gr (e := 4) ⟨rfl, f26_1132⟩) hAd1038 bva_sz hyk) 0 _ rfl) Try.underlying4 rfl _ rfl) ?_
    intro a1133 hA1133; clear hA1131
    rw [hd1042] at hA1133
    refine sx_val (v := .bool false) hA1133 rfl (ev_notT (hA1133.ev (i := 151) (v := .bool true)) _ rfl) ?_
    intro a1134 hA1134; clear hA1133
    refine sx_nil ?_
    refine then_n ?_
    refine wp_cond_false (hA1134.ev (i := 152) (v := .bool false)) ?_
    refine wp_skip ?_
    refine then_n ?_
    refine wp_seq ?_
    refine wp_seq ?_
    refine wp_region_lit ?_
    refine sx_val (v := .pointer (some ⟨B13, 0, none⟩)) hA1134 rfl (fb_Slots_0 (hA1134.ev (i := 8) (v := .pointer (some ⟨B13, 0, none⟩))) _ rfl) ?_
    intro a1135 hA1135; clear hA1134
    refine sx_val (v := .slice A1g g.rs.length c1g) hA1135 rfl (ev_cell (v := .slice A1g g.rs.length c1g) (hA1135.ev (i := 180) (v := .pointer (some ⟨B13, 0, none⟩))) ((f26_1128.cell 0).trans rfl) Try.underlying22 rfl _ rfl) ?_
    intro a1136 hA1136; clear hA1135
    refine sx_val hA1136 rfl (ev_move (hA1136.ev (i := 14) (v := .int .i64 (kn : Int))) _ rfl) ?_
    intro a1137 hA1137; clear hA1136
    refine sx_val (v := .pointer (some (ad691.add (kn * 1)))) hA1137 rfl (ev_idx (k := kn) (hA1137.ev (i := 181) (v := .slice A1g g.rs.length c1g)) hAd691 (hA1137.ev (i := 182) (v := .int .i64 (kn : Int))) rfl (by omega) Try.underlying22 (by kernel_rfl) _ rfl) ?_
    intro a1138 hA1138; clear hA1137
    have f26_1139 := Own.gN f26_1118 hg1108
    refine sx_val (v := .int .i64 xk) hA1138 rfl (ev_cell (hA1138.ev (i := 183) (v := .pointer (some (ad691.add (kn * 1))))) ((GR.cel (OwnR.gr (e := 3) ⟨rfl, f26_1139⟩) hAd691 iva_sz hxk) 0 _ rfl) Try.underlying3 rfl _ rfl) ?_
    intro a1140 hA1140; clear hA1138
    cases hd1141 : decide (xk = 1)
    · have hp1141 := of_decide_eq_false hd1141
      refine sx_val (v := .bool true) hA1140 rfl (ev_neqB (k := .i64) (m := xk) (n := 1) (hA1140.ev (i := 184)) (ec _ (.int .i64 1)) (by simpa using hd1141) _ rfl) ?_
      intro a1142 hA1142; clear hA1140
      refine sx_nil ?_
      refine then_n ?_
      refine wp_cond_true (hA1142.ev (i := 185) (v := .bool true)) ?_
      refine wp_seq ?_
      refine wp_region_lit ?_
      refine sx_val hA1142 rfl (ev_move (hA1142.ev (i := 7) (v := .bool true)) _ rfl) ?_
      intro a1143 hA1143; clear hA1142
      refine sx_val hA1143 rfl (ev_assign (hA1143.ev (i := 186) (v := .bool true)) _ rfl) ?_
      intro a1144 hA1144; clear hA1143
      refine sx_nil ?_
      refine then_n ?_
      refine wp_ret ?_
      refine then_r ?_
      refine bodyPost_ret (rs_t (v := .bool true) Try.results7 hA1144 (by kernel_rfl) ) hA1144.2.1 ?_
      have hbel26_1145 := Below.gN hbel26 hg685 hbel26.size
      have hbel26_1146 := Below.gN hbel26_1145 hg1069 hbel26_1145.size
      have hbel26_1147 := Below.gN hbel26_1146 hg1075 hbel26_1146.size
      have hbel26_1148 := Below.gB hbel26_1147 hg1076 hbel26_1147.size (by omega)
      have hbel26_1149 := Below.gN hbel26_1148 hg1080 hbel26_1148.size
      have hbel26_1150 := Below.gN hbel26_1149 hg1089 hbel26_1149.size
      have hbel26_1151 := Below.gB hbel26_1150 hg1090 hbel26_1150.size (by omega)
      have hbel26_1152 := Below.gN hbel26_1151 hg1108 hbel26_1151.size
      exact ⟨rfl, hbel26_1152⟩
    have hp1141 := of_decide_eq_true hd1141
    refine sx_val (v := .bool false) hA1140 rfl (ev_neqB (k := .i64) (m := xk) (n := 1) (hA1140.ev (i := 184)) (ec _ (.int .i64 1)) (by simpa using hd1141) _ rfl) ?_
    intro a1153 hA1153; clear hA1140
    refine sx_nil ?_
    refine then_n ?_
    refine wp_cond_false (hA1153.ev (i := 185) (v := .bool false)) ?_
    refine wp_skip ?_
    refine then_n ?_
    refine wp_seq ?_
    refine wp_region_lit ?_
    refine sx_val (v := .agg #[.slice A1g g.rs.length c1g, .slice A2g g.bs.length c2g]) hA1153 rfl (ev_row (hA1153.ev (i := 8) (v := .pointer (some ⟨B13, 0, none⟩))) f26_1128 Try.underlying25 rfl (n := 2) (by kernel_rfl) rfl _ rfl) ?_
    intro a1154 hA1154; clear hA1153
    refine sx_val hA1154 rfl (ev_move (hA1154.ev (i := 14) (v := .int .i64 (kn : Int))) _ rfl) ?_
    intro a1155 hA1155; clear hA1154
    have hbt : bat g kn = true := by simp [bat, hyk, hd1042]
    have hr1 : rat g kn = 1 := by simp [rat, hxk, hp1141]
    obtain ⟨he1, he2, he3, he4, he5, he6, he7, he8, he9⟩ := back3 q26_1 (by omega) hbt hr1
    have hf1157 : decide ((unr g (kn : Int)).2.2 = 0) = true := decide_eq_true he1
    have hf1158 : decide ((stl (unr g (kn : Int)).1 (kn : Int)).2.2 = 0) = true := decide_eq_true he2
    have hf1159 : decide ((stl g (kn : Int)).2.2 = 0) = true := decide_eq_true he3
    have hf1160 : decide ((unr (stl g (kn : Int)).1 (kn : Int)).2.2 = 0) = true := decide_eq_true he4
    refine sx_call (f := 14) (args := #[.agg #[.slice A1g g.rs.length c1g, .slice A2g g.bs.length c2g], .int .i64 (kn : Int)]) hA1155 rfl (by decide) (.inl rfl) (ev_fn rfl (mp2 (hA1155.ev (i := 188) (v := .agg #[.slice A1g g.rs.length c1g, .slice A2g g.bs.length c2g])) (hA1155.ev (i := 189) (v := .int .i64 (kn : Int)))) (by kernel_rfl) _ rfl) (Unref_any A1g c1g A2g c2g g.rs g.bs (kn : Int) _ ⟨(OwnR.gr (e := 3) ⟨rfl, f26_1139⟩), (OwnR.gr (e := 4) ⟨rfl, f26_1132⟩)⟩ (by omega) (by omega)) ?_
    intro e1156 w1156 hR1156
    obtain ⟨Ap1156, cp1156, Aj1156, cj1156, rfl, hC1156, hJ1156, hb1156⟩ := hR1156
    refine ⟨_, rfl, ?_⟩
    intro a1156 hA1156
    clear hA1155
    have hg1156 := g0 hb1156
    have hs1156 := hg1156.size
    clear hb1156
    have ho1156_0 : Own w1156 (w1108.heap.size) 3 1 (.slice Ap1156 (unr g (kn : Int)).1.rs.length cp1156) (unr g (kn : Int)).1.rs.length (flat iva (unr g (kn : Int)).1.rs) := hC1156
    have hh1156_0 := Own.hi ho1156_0
    have ho1156_1 : Own w1156 (w1108.heap.size) 4 1 (.slice Aj1156 (unr g (kn : Int)).1.bs.length cj1156) (unr g (kn : Int)).1.bs.length (flat bva (unr g (kn : Int)).1.bs) := hJ1156
    have hh1156_1 := Own.hi ho1156_1
    refine sx_val hA1156 rfl (ev_move (hA1156.ev (i := 190) (v := .tuple #[.agg #[.slice Ap1156 (unr g (kn : Int)).1.rs.length cp1156, .slice Aj1156 (unr g (kn : Int)).1.bs.length cj1156], .bool (unr g (kn : Int)).2.1, .int .i64 (unr g (kn : Int)).2.2])) _ rfl) ?_
    intro a1161 hA1161; clear hA1156
    rw [he5] at hA1161
    refine sx_val (v := .agg #[.slice Ap1156 (unr g (kn : Int)).1.rs.length cp1156, .slice Aj1156 (unr g (kn : Int)).1.bs.length cj1156]) hA1161 rfl (ev_ext (hA1161.ev (i := 187) (v := .tuple #[.agg #[.slice Ap1156 (unr g (kn : Int)).1.rs.length cp1156, .slice Aj1156 (unr g (kn : Int)).1.bs.length cj1156], .bool false, .int .i64 (unr g (kn : Int)).2.2])) rfl _ rfl) ?_
    intro a1162 hA1162; clear hA1161
    refine sx_val (v := .bool false) hA1162 rfl (ev_ext (hA1162.ev (i := 187) (v := .tuple #[.agg #[.slice Ap1156 (unr g (kn : Int)).1.rs.length cp1156, .slice Aj1156 (unr g (kn : Int)).1.bs.length cj1156], .bool false, .int .i64 (unr g (kn : Int)).2.2])) rfl _ rfl) ?_
    intro a1163 hA1163; clear hA1162
    refine sx_val (v := .int .i64 (unr g (kn : Int)).2.2) hA1163 rfl (ev_ext (hA1163.ev (i := 187) (v := .tuple #[.agg #[.slice Ap1156 (unr g (kn : Int)).1.rs.length cp1156, .slice Aj1156 (unr g (kn : Int)).1.bs.length cj1156], .bool false, .int .i64 (unr g (kn : Int)).2.2])) rfl _ rfl) ?_
    intro a1164 hA1164; clear hA1163
    refine sx_new (cs := #[.slice none 0 0, .slice none 0 0]) (t := 25) hA1164 rfl (by decide) (.inl rfl) (ev_alloc (z := .agg (#[.slice none 0 0, .slice none 0 0])) (by kernel_rfl) (by kernel_rfl) _ rfl) ?_
    intro B1165 w1165 a1165 hB1165 hx1165 hg1165 hA1165
    clear hA1164
    have hs1165 := hg1165.size
    have hl1165 := hx1165.lt
    refine sx_store hA1165 rfl (.inl rfl) rfl (hA1165.ev (i := 27) (v := .pointer (some ⟨B1165, 0, none⟩))) (hA1165.ev (i := 191) (v := .agg #[.slice Ap1156 (unr g (kn : Int)).1.rs.length cp1156, .slice Aj1156 (unr g (kn : Int)).1.bs.length cj1156])) hx1165 (by kernel_rfl) rfl (by simp [Value.oneCell']) ?_
    intro w1166 hx1166 hg1166
    have hs1166 := hg1166.size
    refine sx_val hA1165 rfl (ev_assign (hA1165.ev (i := 192) (v := .bool false)) _ rfl) ?_
    intro a1167 hA1167; clear hA1165
    refine sx_val hA1167 rfl (ev_assign (hA1167.ev (i := 193) (v := .int .i64 (unr g (kn : Int)).2.2)) _ rfl) ?_
    intro a1168 hA1168; clear hA1167
    refine sx_nil ?_
    refine then_n ?_
    refine wp_seq ?_
    refine wp_region_lit ?_
    refine sx_val (v := .agg #[.slice Ap1156 (unr g (kn : Int)).1.rs.length cp1156, .slice Aj1156 (unr g (kn : Int)).1.bs.length cj1156]) hA1168 rfl (ev_row (hA1168.ev (i := 27) (v := .pointer (some ⟨B1165, 0, none⟩))) hx1166 Try.underlying25 rfl (n := 2) (by kernel_rfl) rfl _ rfl) ?_
    intro a1169 hA1169; clear hA1168
    refine sx_val hA1169 rfl (ev_move (hA1169.ev (i := 14) (v := .int .i64 (kn : Int))) _ rfl) ?_
    intro a1170 hA1170; clear hA1169
    have hln1171_0 := unr_len g (kn : Int)
    have hlm1171_0 := hln1171_0.1
    replace hln1171_0 := hln1171_0.2
    have ho1156_1172 := Own.gN ho1156_0 hg1165
    have ho1156_1173 := Own.gBT ho1156_1172 hg1166 hx1165 (by decide)
    have ho1156_1174 := Own.gN ho1156_1 hg1165
    have ho1156_1175 := Own.gBT ho1156_1174 hg1166 hx1165 (by decide)
    refine sx_call (f := 18) (args := #[.agg #[.slice Ap1156 (unr g (kn : Int)).1.rs.length cp1156, .slice Aj1156 (unr g (kn : Int)).1.bs.length cj1156], .int .i64 (kn : Int)]) hA1170 rfl (by decide) (.inl rfl) (ev_fn rfl (mp2 (hA1170.ev (i := 195) (v := .agg #[.slice Ap1156 (unr g (kn : Int)).1.rs.length cp1156, .slice Aj1156 (unr g (kn : Int)).1.bs.length cj1156])) (hA1170.ev (i := 196) (v := .int .i64 (kn : Int)))) (by kernel_rfl) _ rfl) (Settle_any Ap1156 cp1156 Aj1156 cj1156 (unr g (kn : Int)).1.rs (unr g (kn : Int)).1.bs (kn : Int) _ ⟨(OwnR.gr (e := 3) ⟨rfl, ho1156_1173⟩), (OwnR.gr (e := 4) ⟨rfl, ho1156_1175⟩)⟩ (by omega) (by omega)) ?_
    intro e1171 w1171 hR1171
    obtain ⟨Ap1171, cp1171, Aj1171, cj1171, rfl, hC1171, hJ1171, hb1171⟩ := hR1171
    refine ⟨_, rfl, ?_⟩
    intro a1171 hA1171
    clear hA1170
    have hg1171 := g0 hb1171
    have hs1171 := hg1171.size
    clear hb1171
    have ho1171_0 : Own w1171 (w1166.heap.size) 3 1 (.slice Ap1171 (stl (unr g (kn : Int)).1 (kn : Int)).1.rs.length cp1171) (stl (unr g (kn : Int)).1 (kn : Int)).1.rs.length (flat iva (stl (unr g (kn : Int)).1 (kn : Int)).1.rs) := hC1171
    have hh1171_0 := Own.hi ho1171_0
    have ho1171_1 : Own w1171 (w1166.heap.size) 4 1 (.slice Aj1171 (stl (unr g (kn : Int)).1 (kn : Int)).1.bs.length cj1171) (stl (unr g (kn : Int)).1 (kn : Int)).1.bs.length (flat bva (stl (unr g (kn : Int)).1 (kn : Int)).1.bs) := hJ1171
    have hh1171_1 := Own.hi ho1171_1
    refine sx_val hA1171 rfl (ev_move (hA1171.ev (i := 197) (v := .tuple #[.agg #[.slice Ap1171 (stl (unr g (kn : Int)).1 (kn : Int)).1.rs.length cp1171, .slice Aj1171 (stl (unr g (kn : Int)).1 (kn : Int)).1.bs.length cj1171], .bool (stl (unr g (kn : Int)).1 (kn : Int)).2.1, .int .i64 (stl (unr g (kn : Int)).1 (kn : Int)).2.2])) _ rfl) ?_
    intro a1176 hA1176; clear hA1171
    rw [he6] at hA1176
    refine sx_val (v := .agg #[.slice Ap1171 (stl (unr g (kn : Int)).1 (kn : Int)).1.rs.length cp1171, .slice Aj1171 (stl (unr g (kn : Int)).1 (kn : Int)).1.bs.length cj1171]) hA1176 rfl (ev_ext (hA1176.ev (i := 194) (v := .tuple #[.agg #[.slice Ap1171 (stl (unr g (kn : Int)).1 (kn : Int)).1.rs.length cp1171, .slice Aj1171 (stl (unr g (kn : Int)).1 (kn : Int)).1.bs.length cj1171], .bool true, .int .i64 (stl (unr g (kn : Int)).1 (kn : Int)).2.2])) rfl _ rfl) ?_
    intro a1177 hA1177; clear hA1176
    refine sx_val (v := .bool true) hA1177 rfl (ev_ext (hA1177.ev (i := 194) (v := .tuple #[.agg #[.slice Ap1171 (stl (unr g (kn : Int)).1 (kn : Int)).1.rs.length cp1171, .slice Aj1171 (stl (unr g (kn : Int)).1 (kn : Int)).1.bs.length cj1171], .bool true, .int .i64 (stl (unr g (kn : Int)).1 (kn : Int)).2.2])) rfl _ rfl) ?_
    intro a1178 hA1178; clear hA1177
    refine sx_val (v := .int .i64 (stl (unr g (kn : Int)).1 (kn : Int)).2.2) hA1178 rfl (ev_ext (hA1178.ev (i := 194) (v := .tuple #[.agg #[.slice Ap1171 (stl (unr g (kn : Int)).1 (kn : Int)).1.rs.length cp1171, .slice Aj1171 (stl (unr g (kn : Int)).1 (kn : Int)).1.bs.length cj1171], .bool true, .int .i64 (stl (unr g (kn : Int)).1 (kn : Int)).2.2])) rfl _ rfl) ?_
    intro a1179 hA1179; clear hA1178
    refine sx_new (cs := #[.slice none 0 0, .slice none 0 0]) (t := 25) hA1179 rfl (by decide) (.inl rfl) (ev_alloc (z := .agg (#[.slice none 0 0, .slice none 0 0])) (by kernel_rfl) (by kernel_rfl) _ rfl) ?_
    intro B1180 w1180 a1180 hB1180 hx1180 hg1180 hA1180
    clear hA1179
    have hs1180 := hg1180.size
    have hl1180 := hx1180.lt
    refine sx_store hA1180 rfl (.inl rfl) rfl (hA1180.ev (i := 30) (v := .pointer (some ⟨B1180, 0, none⟩))) (hA1180.ev (i := 198) (v := .agg #[.slice Ap1171 (stl (unr g (kn : Int)).1 (kn : Int)).1.rs.length cp1171, .slice Aj1171 (stl (unr g (kn : Int)).1 (kn : Int)).1.bs.length cj1171])) hx1180 (by kernel_rfl) rfl (by simp [Value.oneCell']) ?_
    intro w1181 hx1181 hg1181
    have hs1181 := hg1181.size
    refine sx_val hA1180 rfl (ev_assign (hA1180.ev (i := 199) (v := .bool true)) _ rfl) ?_
    intro a1182 hA1182; clear hA1180
    refine sx_val hA1182 rfl (ev_assign (hA1182.ev (i := 200) (v := .int .i64 (stl (unr g (kn : Int)).1 (kn : Int)).2.2)) _ rfl) ?_
    intro a1183 hA1183; clear hA1182
    refine sx_nil ?_
    refine then_n ?_
    refine wp_seq ?_
    refine wp_region_lit ?_
    have f26_1184 := f26_1128.gN hg1156
    have f26_1185 := f26_1184.gN hg1165
    have f26_1186 := f26_1185.gB hg1166 (by omega)
    have f26_1187 := f26_1186.gN hg1171
    have f26_1188 := f26_1187.gN hg1180
    have f26_1189 := f26_1188.gB hg1181 (by omega)
    refine sx_val (v := .agg #[.slice A1g g.rs.length c1g, .slice A2g g.bs.length c2g]) hA1183 rfl (ev_row (hA1183.ev (i := 8) (v := .pointer (some ⟨B13, 0, none⟩))) f26_1189 Try.underlying25 rfl (n := 2) (by kernel_rfl) rfl _ rfl) ?_
    intro a1190 hA1190; clear hA1183
    refine sx_val hA1190 rfl (ev_move (hA1190.ev (i := 14) (v := .int .i64 (kn : Int))) _ rfl) ?_
    intro a1191 hA1191; clear hA1190
    have f26_1193 := Own.gN f26_1139 hg1156
    have f26_1194 := Own.gN f26_1193 hg1165
    have f26_1195 := Own.gBT f26_1194 hg1166 hx1165 (by decide)
    have f26_1196 := Own.gN f26_1195 hg1171
    have f26_1197 := Own.gN f26_1196 hg1180
    have f26_1198 := Own.gBT f26_1197 hg1181 hx1180 (by decide)
    have f26_1199 := Own.gN f26_1132 hg1156
    have f26_1200 := Own.gN f26_1199 hg1165
    have f26_1201 := Own.gBT f26_1200 hg1166 hx1165 (by decide)
    have f26_1202 := Own.gN f26_1201 hg1171
    have f26_1203 := Own.gN f26_1202 hg1180
    have f26_1204 := Own.gBT f26_1203 hg1181 hx1180 (by decide)
    refine sx_call (f := 18) (args := #[.agg #[.slice A1g g.rs.length c1g, .slice A2g g.bs.length c2g], .int .i64 (kn : Int)]) hA1191 rfl (by decide) (.inl rfl) (ev_fn rfl (mp2 (hA1191.ev (i := 202) (v := .agg #[.slice A1g g.rs.length c1g, .slice A2g g.bs.length c2g])) (hA1191.ev (i := 203) (v := .int .i64 (kn : Int)))) (by kernel_rfl) _ rfl) (Settle_any A1g c1g A2g c2g g.rs g.bs (kn : Int) _ ⟨(OwnR.gr (e := 3) ⟨rfl, f26_1198⟩), (OwnR.gr (e := 4) ⟨rfl, f26_1204⟩)⟩ (by omega) (by omega)) ?_
    intro e1192 w1192 hR1192
    obtain ⟨Ap1192, cp1192, Aj1192, cj1192, rfl, hC1192, hJ1192, hb1192⟩ := hR1192
    refine ⟨_, rfl, ?_⟩
    intro a1192 hA1192
    clear hA1191
    have hg1192 := g0 hb1192
    have hs1192 := hg1192.size
    clear hb1192
    have ho1192_0 : Own w1192 (w1181.heap.size) 3 1 (.slice Ap1192 (stl g (kn : Int)).1.rs.length cp1192) (stl g (kn : Int)).1.rs.length (flat iva (stl g (kn : Int)).1.rs) := hC1192
    have hh1192_0 := Own.hi ho1192_0
    have ho1192_1 : Own w1192 (w1181.heap.size) 4 1 (.slice Aj1192 (stl g (kn : Int)).1.bs.length cj1192) (stl g (kn : Int)).1.bs.length (flat bva (stl g (kn : Int)).1.bs) := hJ1192
    have hh1192_1 := Own.hi ho1192_1
    refine sx_val hA1192 rfl (ev_move (hA1192.ev (i := 204) (v := .tuple #[.agg #[.slice Ap1192 (stl g (kn : Int)).1.rs.length cp1192, .slice Aj1192 (stl g (kn : Int)).1.bs.length cj1192], .bool (stl g (kn : Int)).2.1, .int .i64 (stl g (kn : Int)).2.2])) _ rfl) ?_
    intro a1205 hA1205; clear hA1192
    rw [he7] at hA1205
    refine sx_val (v := .agg #[.slice Ap1192 (stl g (kn : Int)).1.rs.length cp1192, .slice Aj1192 (stl g (kn : Int)).1.bs.length cj1192]) hA1205 rfl (ev_ext (hA1205.ev (i := 201) (v := .tuple #[.agg #[.slice Ap1192 (stl g (kn : Int)).1.rs.length cp1192, .slice Aj1192 (stl g (kn : Int)).1.bs.length cj1192], .bool false, .int .i64 (stl g (kn : Int)).2.2])) rfl _ rfl) ?_
    intro a1206 hA1206; clear hA1205
    refine sx_val (v := .bool false) hA1206 rfl (ev_ext (hA1206.ev (i := 201) (v := .tuple #[.agg #[.slice Ap1192 (stl g (kn : Int)).1.rs.length cp1192, .slice Aj1192 (stl g (kn : Int)).1.bs.length cj1192], .bool false, .int .i64 (stl g (kn : Int)).2.2])) rfl _ rfl) ?_
    intro a1207 hA1207; clear hA1206
    refine sx_val (v := .int .i64 (stl g (kn : Int)).2.2) hA1207 rfl (ev_ext (hA1207.ev (i := 201) (v := .tuple #[.agg #[.slice Ap1192 (stl g (kn : Int)).1.rs.length cp1192, .slice Aj1192 (stl g (kn : Int)).1.bs.length cj1192], .bool false, .int .i64 (stl g (kn : Int)).2.2])) rfl _ rfl) ?_
    intro a1208 hA1208; clear hA1207
    refine sx_new (cs := #[.slice none 0 0, .slice none 0 0]) (t := 25) hA1208 rfl (by decide) (.inl rfl) (ev_alloc (z := .agg (#[.slice none 0 0, .slice none 0 0])) (by kernel_rfl) (by kernel_rfl) _ rfl) ?_
    intro B1209 w1209 a1209 hB1209 hx1209 hg1209 hA1209
    clear hA1208
    have hs1209 := hg1209.size
    have hl1209 := hx1209.lt
    refine sx_store hA1209 rfl (.inl rfl) rfl (hA1209.ev (i := 33) (v := .pointer (some ⟨B1209, 0, none⟩))) (hA1209.ev (i := 205) (v := .agg #[.slice Ap1192 (stl g (kn : Int)).1.rs.length cp1192, .slice Aj1192 (stl g (kn : Int)).1.bs.length cj1192])) hx1209 (by kernel_rfl) rfl (by simp [Value.oneCell']) ?_
    intro w1210 hx1210 hg1210
    have hs1210 := hg1210.size
    refine sx_val hA1209 rfl (ev_assign (hA1209.ev (i := 206) (v := .bool false)) _ rfl) ?_
    intro a1211 hA1211; clear hA1209
    refine sx_val hA1211 rfl (ev_assign (hA1211.ev (i := 207) (v := .int .i64 (stl g (kn : Int)).2.2)) _ rfl) ?_
    intro a1212 hA1212; clear hA1211
    refine sx_nil ?_
    refine then_n ?_
    refine wp_seq ?_
    refine wp_region_lit ?_
    refine sx_val (v := .agg #[.slice Ap1192 (stl g (kn : Int)).1.rs.length cp1192, .slice Aj1192 (stl g (kn : Int)).1.bs.length cj1192]) hA1212 rfl (ev_row (hA1212.ev (i := 33) (v := .pointer (some ⟨B1209, 0, none⟩))) hx1210 Try.underlying25 rfl (n := 2) (by kernel_rfl) rfl _ rfl) ?_
    intro a1213 hA1213; clear hA1212
    refine sx_val hA1213 rfl (ev_move (hA1213.ev (i := 14) (v := .int .i64 (kn : Int))) _ rfl) ?_
    intro a1214 hA1214; clear hA1213
    have hln1215_0 := stl_len g (kn : Int)
    have hlm1215_0 := hln1215_0.1
    replace hln1215_0 := hln1215_0.2
    have ho1192_1216 := Own.gN ho1192_0 hg1209
    have ho1192_1217 := Own.gBT ho1192_1216 hg1210 hx1209 (by decide)
    have ho1192_1218 := Own.gN ho1192_1 hg1209
    have ho1192_1219 := Own.gBT ho1192_1218 hg1210 hx1209 (by decide)
    refine sx_call (f := 14) (args := #[.agg #[.slice Ap1192 (stl g (kn : Int)).1.rs.length cp1192, .slice Aj1192 (stl g (kn : Int)).1.bs.length cj1192], .int .i64 (kn : Int)]) hA1214 rfl (by decide) (.inl rfl) (ev_fn rfl (mp2 (hA1214.ev (i := 209) (v := .agg #[.slice Ap1192 (stl g (kn : Int)).1.rs.length cp1192, .slice Aj1192 (stl g (kn : Int)).1.bs.length cj1192])) (hA1214.ev (i := 210) (v := .int .i64 (kn : Int)))) (by kernel_rfl) _ rfl) (Unref_any Ap1192 cp1192 Aj1192 cj1192 (stl g (kn : Int)).1.rs (stl g (kn : Int)).1.bs (kn : Int) _ ⟨(OwnR.gr (e := 3) ⟨rfl, ho1192_1217⟩), (OwnR.gr (e := 4) ⟨rfl, ho1192_1219⟩)⟩ (by omega) (by omega)) ?_
    intro e1215 w1215 hR1215
    obtain ⟨Ap1215, cp1215, Aj1215, cj1215, rfl, hC1215, hJ1215, hb1215⟩ := hR1215
    refine ⟨_, rfl, ?_⟩
    intro a1215 hA1215
    clear hA1214
    have hg1215 := g0 hb1215
    have hs1215 := hg1215.size
    clear hb1215
    have ho1215_0 : Own w1215 (w1210.heap.size) 3 1 (.slice Ap1215 (unr (stl g (kn : Int)).1 (kn : Int)).1.rs.length cp1215) (unr (stl g (kn : Int)).1 (kn : Int)).1.rs.length (flat iva (unr (stl g (kn : Int)).1 (kn : Int)).1.rs) := hC1215
    have hh1215_0 := Own.hi ho1215_0
    have ho1215_1 : Own w1215 (w1210.heap.size) 4 1 (.slice Aj1215 (unr (stl g (kn : Int)).1 (kn : Int)).1.bs.length cj1215) (unr (stl g (kn : Int)).1 (kn : Int)).1.bs.length (flat bva (unr (stl g (kn : Int)).1 (kn : Int)).1.bs) := hJ1215
    have hh1215_1 := Own.hi ho1215_1
    refine sx_val hA1215 rfl (ev_move (hA1215.ev (i := 211) (v := .tuple #[.agg #[.slice Ap1215 (unr (stl g (kn : Int)).1 (kn : Int)).1.rs.length cp1215, .slice Aj1215 (unr (stl g (kn : Int)).1 (kn : Int)).1.bs.length cj1215], .bool (unr (stl g (kn : Int)).1 (kn : Int)).2.1, .int .i64 (unr (stl g (kn : Int)).1 (kn : Int)).2.2])) _ rfl) ?_
    intro a1220 hA1220; clear hA1215
    rw [he8] at hA1220
    refine sx_val (v := .agg #[.slice Ap1215 (unr (stl g (kn : Int)).1 (kn : Int)).1.rs.length cp1215, .slice Aj1215 (unr (stl g (kn : Int)).1 (kn : Int)).1.bs.length cj1215]) hA1220 rfl (ev_ext (hA1220.ev (i := 208) (v := .tuple #[.agg #[.slice Ap1215 (unr (stl g (kn : Int)).1 (kn : Int)).1.rs.length cp1215, .slice Aj1215 (unr (stl g (kn : Int)).1 (kn : Int)).1.bs.length cj1215], .bool true, .int .i64 (unr (stl g (kn : Int)).1 (kn : Int)).2.2])) rfl _ rfl) ?_
    intro a1221 hA1221; clear hA1220
    refine sx_val (v := .bool true) hA1221 rfl (ev_ext (hA1221.ev (i := 208) (v := .tuple #[.agg #[.slice Ap1215 (unr (stl g (kn : Int)).1 (kn : Int)).1.rs.length cp1215, .slice Aj1215 (unr (stl g (kn : Int)).1 (kn : Int)).1.bs.length cj1215], .bool true, .int .i64 (unr (stl g (kn : Int)).1 (kn : Int)).2.2])) rfl _ rfl) ?_
    intro a1222 hA1222; clear hA1221
    refine sx_val (v := .int .i64 (unr (stl g (kn : Int)).1 (kn : Int)).2.2) hA1222 rfl (ev_ext (hA1222.ev (i := 208) (v := .tuple #[.agg #[.slice Ap1215 (unr (stl g (kn : Int)).1 (kn : Int)).1.rs.length cp1215, .slice Aj1215 (unr (stl g (kn : Int)).1 (kn : Int)).1.bs.length cj1215], .bool true, .int .i64 (unr (stl g (kn : Int)).1 (kn : Int)).2.2])) rfl _ rfl) ?_
    intro a1223 hA1223; clear hA1222
    refine sx_new (cs := #[.slice none 0 0, .slice none 0 0]) (t := 25) hA1223 rfl (by decide) (.inl rfl) (ev_alloc (z := .agg (#[.slice none 0 0, .slice none 0 0])) (by kernel_rfl) (by kernel_rfl) _ rfl) ?_
    intro B1224 w1224 a1224 hB1224 hx1224 hg1224 hA1224
    clear hA1223
    have hs1224 := hg1224.size
    have hl1224 := hx1224.lt
    refine sx_store hA1224 rfl (.inl rfl) rfl (hA1224.ev (i := 36) (v := .pointer (some ⟨B1224, 0, none⟩))) (hA1224.ev (i := 212) (v := .agg #[.slice Ap1215 (unr (stl g (kn : Int)).1 (kn : Int)).1.rs.length cp1215, .slice Aj1215 (unr (stl g (kn : Int)).1 (kn : Int)).1.bs.length cj1215])) hx1224 (by kernel_rfl) rfl (by simp [Value.oneCell']) ?_
    intro w1225 hx1225 hg1225
    have hs1225 := hg1225.size
    refine sx_val hA1224 rfl (ev_assign (hA1224.ev (i := 213) (v := .bool true)) _ rfl) ?_
    intro a1226 hA1226; clear hA1224
    refine sx_val hA1226 rfl (ev_assign (hA1226.ev (i := 214) (v := .int .i64 (unr (stl g (kn : Int)).1 (kn : Int)).2.2)) _ rfl) ?_
    intro a1227 hA1227; clear hA1226
    refine sx_nil ?_
    refine then_n ?_
    refine wp_seq ?_
    refine wp_region_lit ?_
    refine sx_val hA1227 rfl (ev_move (hA1227.ev (i := 7) (v := .bool true)) _ rfl) ?_
    intro a1228 hA1228; clear hA1227
    refine sx_val hA1228 rfl (ev_move (hA1228.ev (i := 215) (v := .bool true)) _ rfl) ?_
    intro a1229 hA1229; clear hA1228
    refine sx_val (hg := (.inr ⟨1, true, 216, rfl, rfl, by kernel_rfl⟩)) hA1229 rfl (ev_move (hA1229.ev (i := 29) (v := .int .i64 (unr g (kn : Int)).2.2)) _ rfl) ?_
    intro a1230 hA1230; clear hA1229
    refine sx_val (hg := (.inr ⟨1, true, 216, rfl, rfl, by kernel_rfl⟩)) (v := .bool true) hA1230 rfl (ev_eqlB (k := .i64) (m := (unr g (kn : Int)).2.2) (n := 0) (hA1230.ev (i := 217)) (ec _ (.int .i64 0)) hf1157 _ rfl) ?_
    intro a1231 hA1231; clear hA1230
    refine sx_val hA1231 rfl (ev_pickT (hA1231.ev (i := 216) (v := .bool true)) (hA1231.ev (i := 218) (v := .bool true)) _ rfl) ?_
    intro a1232 hA1232; clear hA1231
    refine sx_val hA1232 rfl (ev_move (hA1232.ev (i := 219) (v := .bool true)) _ rfl) ?_
    intro a1233 hA1233; clear hA1232
    refine sx_val (hg := (.inr ⟨5, true, 220, rfl, rfl, by kernel_rfl⟩)) hA1233 rfl (ev_move (hA1233.ev (i := 32) (v := .int .i64 (stl (unr g (kn : Int)).1 (kn : Int)).2.2)) _ rfl) ?_
    intro a1234 hA1234; clear hA1233
    refine sx_val (hg := (.inr ⟨5, true, 220, rfl, rfl, by kernel_rfl⟩)) (v := .bool true) hA1234 rfl (ev_eqlB (k := .i64) (m := (stl (unr g (kn : Int)).1 (kn : Int)).2.2) (n := 0) (hA1234.ev (i := 221)) (ec _ (.int .i64 0)) hf1158 _ rfl) ?_
    intro a1235 hA1235; clear hA1234
    refine sx_val hA1235 rfl (ev_pickT (hA1235.ev (i := 220) (v := .bool true)) (hA1235.ev (i := 222) (v := .bool true)) _ rfl) ?_
    intro a1236 hA1236; clear hA1235
    refine sx_val hA1236 rfl (ev_move (hA1236.ev (i := 223) (v := .bool true)) _ rfl) ?_
    intro a1237 hA1237; clear hA1236
    refine sx_val (hg := (.inr ⟨9, true, 224, rfl, rfl, by kernel_rfl⟩)) hA1237 rfl (ev_move (hA1237.ev (i := 35) (v := .int .i64 (stl g (kn : Int)).2.2)) _ rfl) ?_
    intro a1238 hA1238; clear hA1237
    refine sx_val (hg := (.inr ⟨9, true, 224, rfl, rfl, by kernel_rfl⟩)) (v := .bool true) hA1238 rfl (ev_eqlB (k := .i64) (m := (stl g (kn : Int)).2.2) (n := 0) (hA1238.ev (i := 225)) (ec _ (.int .i64 0)) hf1159 _ rfl) ?_
    intro a1239 hA1239; clear hA1238
    refine sx_val hA1239 rfl (ev_pickT (hA1239.ev (i := 224) (v := .bool true)) (hA1239.ev (i := 226) (v := .bool true)) _ rfl) ?_
    intro a1240 hA1240; clear hA1239
    refine sx_val hA1240 rfl (ev_move (hA1240.ev (i := 227) (v := .bool true)) _ rfl) ?_
    intro a1241 hA1241; clear hA1240
    refine sx_val (hg := (.inr ⟨13, true, 228, rfl, rfl, by kernel_rfl⟩)) hA1241 rfl (ev_move (hA1241.ev (i := 38) (v := .int .i64 (unr (stl g (kn : Int)).1 (kn : Int)).2.2)) _ rfl) ?_
    intro a1242 hA1242; clear hA1241
    refine sx_val (hg := (.inr ⟨13, true, 228, rfl, rfl, by kernel_rfl⟩)) (v := .bool true) hA1242 rfl (ev_eqlB (k := .i64) (m := (unr (stl g (kn : Int)).1 (kn : Int)).2.2) (n := 0) (hA1242.ev (i := 229)) (ec _ (.int .i64 0)) hf1160 _ rfl) ?_
    intro a1243 hA1243; clear hA1242
    refine sx_val hA1243 rfl (ev_pickT (hA1243.ev (i := 228) (v := .bool true)) (hA1243.ev (i := 230) (v := .bool true)) _ rfl) ?_
    intro a1244 hA1244; clear hA1243
    refine sx_val hA1244 rfl (ev_move (hA1244.ev (i := 231) (v := .bool true)) _ rfl) ?_
    intro a1245 hA1245; clear hA1244
    refine sx_val (hg := (.inr ⟨17, true, 232, rfl, rfl, by kernel_rfl⟩)) hA1245 rfl (ev_move (hA1245.ev (i := 28) (v := .bool false)) _ rfl) ?_
    intro a1246 hA1246; clear hA1245
    refine sx_val (hg := (.inr ⟨17, true, 232, rfl, rfl, by kernel_rfl⟩)) (v := .bool true) hA1246 rfl (ev_notF (hA1246.ev (i := 233) (v := .bool false)) _ rfl) ?_
    intro a1247 hA1247; clear hA1246
    refine sx_val hA1247 rfl (ev_pickT (hA1247.ev (i := 232) (v := .bool true)) (hA1247.ev (i := 234) (v := .bool true)) _ rfl) ?_
    intro a1248 hA1248; clear hA1247
    refine sx_val hA1248 rfl (ev_move (hA1248.ev (i := 235) (v := .bool true)) _ rfl) ?_
    intro a1249 hA1249; clear hA1248
    refine sx_val (hg := (.inr ⟨21, true, 236, rfl, rfl, by kernel_rfl⟩)) hA1249 rfl (ev_move (hA1249.ev (i := 31) (v := .bool true)) _ rfl) ?_
    intro a1250 hA1250; clear hA1249
    refine sx_val hA1250 rfl (ev_pickT (hA1250.ev (i := 236) (v := .bool true)) (hA1250.ev (i := 237) (v := .bool true)) _ rfl) ?_
    intro a1251 hA1251; clear hA1250
    refine sx_val hA1251 rfl (ev_move (hA1251.ev (i := 238) (v := .bool true)) _ rfl) ?_
    intro a1252 hA1252; clear hA1251
    refine sx_val (hg := (.inr ⟨24, true, 239, rfl, rfl, by kernel_rfl⟩)) hA1252 rfl (ev_move (hA1252.ev (i := 34) (v := .bool false)) _ rfl) ?_
    intro a1253 hA1253; clear hA1252
    refine sx_val (hg := (.inr ⟨24, true, 239, rfl, rfl, by kernel_rfl⟩)) (v := .bool true) hA1253 rfl (ev_notF (hA1253.ev (i := 240) (v := .bool false)) _ rfl) ?_
    intro a1254 hA1254; clear hA1253
    refine sx_val hA1254 rfl (ev_pickT (hA1254.ev (i := 239) (v := .bool true)) (hA1254.ev (i := 241) (v := .bool true)) _ rfl) ?_
    intro a1255 hA1255; clear hA1254
    refine sx_val hA1255 rfl (ev_move (hA1255.ev (i := 242) (v := .bool true)) _ rfl) ?_
    intro a1256 hA1256; clear hA1255
    refine sx_val (hg := (.inr ⟨28, true, 243, rfl, rfl, by kernel_rfl⟩)) hA1256 rfl (ev_move (hA1256.ev (i := 37) (v := .bool true)) _ rfl) ?_
    intro a1257 hA1257; clear hA1256
    refine sx_val hA1257 rfl (ev_pickT (hA1257.ev (i := 243) (v := .bool true)) (hA1257.ev (i := 244) (v := .bool true)) _ rfl) ?_
    intro a1258 hA1258; clear hA1257
    refine sx_val hA1258 rfl (ev_move (hA1258.ev (i := 245) (v := .bool true)) _ rfl) ?_
    intro a1259 hA1259; clear hA1258
    have hx1181_1260 := hx1181.gN hg1192
    have hx1181_1261 := hx1181_1260.gN hg1209
    have hx1181_1262 := hx1181_1261.gB hg1210 (by omega)
    have hx1181_1263 := hx1181_1262.gN hg1215
    have hx1181_1264 := hx1181_1263.gN hg1224
    have hx1181_1265 := hx1181_1264.gB hg1225 (by omega)
    refine sx_val (hg := (.inr ⟨31, true, 246, rfl, rfl, by kernel_rfl⟩)) (v := .agg #[.slice Ap1171 (stl (unr g (kn : Int)).1 (kn : Int)).1.rs.length cp1171, .slice Aj1171 (stl (unr g (kn : Int)).1 (kn : Int)).1.bs.length cj1171]) hA1259 rfl (ev_row (hA1259.ev (i := 30) (v := .pointer (some ⟨B1180, 0, none⟩))) hx1181_1265 Try.underlying25 rfl (n := 2) (by kernel_rfl) rfl _ rfl) ?_
    intro a1266 hA1266; clear hA1259
    refine sx_val (hg := (.inr ⟨31, true, 246, rfl, rfl, by kernel_rfl⟩)) (v := .agg #[.slice Ap1215 (unr (stl g (kn : Int)).1 (kn : Int)).1.rs.length cp1215, .slice Aj1215 (unr (stl g (kn : Int)).1 (kn : Int)).1.bs.length cj1215]) hA1266 rfl (ev_row (hA1266.ev (i := 36) (v := .pointer (some ⟨B1224, 0, none⟩))) hx1225 Try.underlying25 rfl (n := 2) (by kernel_rfl) rfl _ rfl) ?_
    intro a1267 hA1267; clear hA1266
    have ho1171_1269 := Own.gN ho1171_0 hg1180
    have ho1171_1270 := Own.gBT ho1171_1269 hg1181 hx1180 (by decide)
    have ho1171_1271 := Own.gN ho1171_1270 hg1192
    have ho1171_1272 := Own.gN ho1171_1271 hg1209
    have ho1171_1273 := Own.gBT ho1171_1272 hg1210 hx1209 (by decide)
    have ho1171_1274 := Own.gN ho1171_1273 hg1215
    have ho1171_1275 := Own.gN ho1171_1274 hg1224
    have ho1171_1276 := Own.gBT ho1171_1275 hg1225 hx1224 (by decide)
    have ho1171_1277 := Own.gN ho1171_1 hg1180
    have ho1171_1278 := Own.gBT ho1171_1277 hg1181 hx1180 (by decide)
    have ho1171_1279 := Own.gN ho1171_1278 hg1192
    have ho1171_1280 := Own.gN ho1171_1279 hg1209
    have ho1171_1281 := Own.gBT ho1171_1280 hg1210 hx1209 (by decide)
    have ho1171_1282 := Own.gN ho1171_1281 hg1215
    have ho1171_1283 := Own.gN ho1171_1282 hg1224
    have ho1171_1284 := Own.gBT ho1171_1283 hg1225 hx1224 (by decide)
    have ho1215_1285 := Own.gN ho1215_0 hg1224
    have ho1215_1286 := Own.gBT ho1215_1285 hg1225 hx1224 (by decide)
    have ho1215_1287 := Own.gN ho1215_1 hg1224
    have ho1215_1288 := Own.gBT ho1215_1287 hg1225 hx1224 (by decide)
    refine sx_call (f := 13) (args := #[.agg #[.slice Ap1171 (stl (unr g (kn : Int)).1 (kn : Int)).1.rs.length cp1171, .slice Aj1171 (stl (unr g (kn : Int)).1 (kn : Int)).1.bs.length cj1171], .agg #[.slice Ap1215 (unr (stl g (kn : Int)).1 (kn : Int)).1.rs.length cp1215, .slice Aj1215 (unr (stl g (kn : Int)).1 (kn : Int)).1.bs.length cj1215]]) hA1267 rfl (by decide) (.inr ⟨31, true, 246, rfl, rfl, by kernel_rfl⟩) (ev_fn rfl (mp2 (hA1267.ev (i := 247) (v := .agg #[.slice Ap1171 (stl (unr g (kn : Int)).1 (kn : Int)).1.rs.length cp1171, .slice Aj1171 (stl (unr g (kn : Int)).1 (kn : Int)).1.bs.length cj1171])) (hA1267.ev (i := 248) (v := .agg #[.slice Ap1215 (unr (stl g (kn : Int)).1 (kn : Int)).1.rs.length cp1215, .slice Aj1215 (unr (stl g (kn : Int)).1 (kn : Int)).1.bs.length cj1215]))) (by kernel_rfl) _ rfl) (SameSlots_any Ap1171 cp1171 Aj1171 cj1171 (stl (unr g (kn : Int)).1 (kn : Int)).1.rs (stl (unr g (kn : Int)).1 (kn : Int)).1.bs Ap1215 cp1215 Aj1215 cj1215 (unr (stl g (kn : Int)).1 (kn : Int)).1.rs (unr (stl g (kn : Int)).1 (kn : Int)).1.bs _ ⟨(OwnR.gr (e := 3) ⟨rfl, ho1171_1276⟩), (OwnR.gr (e := 4) ⟨rfl, ho1171_1284⟩)⟩ ⟨(OwnR.gr (e := 3) ⟨rfl, ho1215_1286⟩), (OwnR.gr (e := 4) ⟨rfl, ho1215_1288⟩)⟩) ?_
    intro e1268 w1268 hR1268
    obtain ⟨hv1268, hb1268⟩ := hR1268
    rw [show sme (stl (unr g (kn : Int)).1 (kn : Int)).1 (unr (stl g (kn : Int)).1 (kn : Int)).1 = true from he9] at hv1268
    subst hv1268
    refine ⟨_, rfl, ?_⟩
    intro a1268 hA1268
    clear hA1267
    have hg1268 := g0 hb1268
    have hs1268 := hg1268.size
    clear hb1268
    refine sx_val hA1268 rfl (ev_pickT (hA1268.ev (i := 246) (v := .bool true)) (hA1268.ev (i := 249) (v := .bool true)) _ rfl) ?_
    intro a1289 hA1289; clear hA1268
    refine sx_val hA1289 rfl (ev_assign (hA1289.ev (i := 250) (v := .bool true)) _ rfl) ?_
    intro a1290 hA1290; clear hA1289
    refine sx_nil ?_
    refine then_n ?_
    refine wp_ret ?_
    refine bodyPost_ret (rs_t (v := .bool true) Try.results7 hA1290 (by kernel_rfl) ) hA1290.2.1 ?_
    have hbel26_1291 := Below.gN hbel26 hg685 hbel26.size
    have hbel26_1292 := Below.gN hbel26_1291 hg1069 hbel26_1291.size
    have hbel26_1293 := Below.gN hbel26_1292 hg1075 hbel26_1292.size
    have hbel26_1294 := Below.gB hbel26_1293 hg1076 hbel26_1293.size (by omega)
    have hbel26_1295 := Below.gN hbel26_1294 hg1080 hbel26_1294.size
    have hbel26_1296 := Below.gN hbel26_1295 hg1089 hbel26_1295.size
    have hbel26_1297 := Below.gB hbel26_1296 hg1090 hbel26_1296.size (by omega)
    have hbel26_1298 := Below.gN hbel26_1297 hg1108 hbel26_1297.size
    have hbel26_1299 := Below.gN hbel26_1298 hg1156 hbel26_1298.size
    have hbel26_1300 := Below.gN hbel26_1299 hg1165 hbel26_1299.size
    have hbel26_1301 := Below.gB hbel26_1300 hg1166 hbel26_1300.size (by omega)
    have hbel26_1302 := Below.gN hbel26_1301 hg1171 hbel26_1301.size
    have hbel26_1303 := Below.gN hbel26_1302 hg1180 hbel26_1302.size
    have hbel26_1304 := Below.gB hbel26_1303 hg1181 hbel26_1303.size (by omega)
    have hbel26_1305 := Below.gN hbel26_1304 hg1192 hbel26_1304.size
    have hbel26_1306 := Below.gN hbel26_1305 hg1209 hbel26_1305.size
    have hbel26_1307 := Below.gB hbel26_1306 hg1210 hbel26_1306.size (by omega)
    have hbel26_1308 := Below.gN hbel26_1307 hg1215 hbel26_1307.size
    have hbel26_1309 := Below.gN hbel26_1308 hg1224 hbel26_1308.size
    have hbel26_1310 := Below.gB hbel26_1309 hg1225 hbel26_1309.size (by omega)
    have hbel26_1311 := Below.gN hbel26_1310 hg1268 hbel26_1310.size
    exact ⟨rfl, hbel26_1311⟩
  have hp695 := of_decide_eq_false hd695
  refine sx_val (v := .bool false) hA694 rfl (ev_eqlB (k := .i64) (m := xk) (n := 0) (hA694.ev (i := 101)) (ec _ (.int .i64 0)) hd695 _ rfl) ?_
  intro a696 hA696; clear hA694
  refine sx_val hA696 rfl (ev_move (hA696.ev (i := 102) (v := .bool false)) _ rfl) ?_
  intro a697 hA697; clear hA696
  refine sx_no (j := 6) (s := 103) (want := true) (b := false) hA697 rfl ?_
  intro a698 hA698; clear hA697
  refine sx_no (j := 6) (s := 103) (want := true) (b := false) hA698 rfl ?_
  intro a699 hA699; clear hA698
  refine sx_no (j := 6) (s := 103) (want := true) (b := false) hA699 rfl ?_
  intro a700 hA700; clear hA699
  refine sx_no (j := 6) (s := 103) (want := true) (b := false) hA700 rfl ?_
  intro a701 hA701; clear hA700
  refine sx_no (j := 6) (s := 103) (want := true) (b := false) hA701 rfl ?_
  intro a702 hA702; clear hA701
  refine sx_no (j := 6) (s := 103) (want := true) (b := false) hA702 rfl ?_
  intro a703 hA703; clear hA702
  refine sx_val hA703 rfl (ev_pickF (hA703.ev (i := 103) (v := .bool false)) (ec _ (.bool false)) _ rfl) ?_
  intro a704 hA704; clear hA703
  refine sx_nil ?_
  refine then_n ?_
  refine wp_cond_false (hA704.ev (i := 110) (v := .bool false)) ?_
  refine wp_skip ?_
  refine then_n ?_
  refine wp_seq ?_
  refine wp_region_lit ?_
  refine sx_val (v := .agg #[.slice A1g g.rs.length c1g, .slice A2g g.bs.length c2g]) hA704 rfl (ev_row (hA704.ev (i := 8) (v := .pointer (some ⟨B13, 0, none⟩))) f26_688 Try.underlying25 rfl (n := 2) (by kernel_rfl) rfl _ rfl) ?_
  intro a705 hA705; clear hA704
  refine sx_val hA705 rfl (ev_move (hA705.ev (i := 14) (v := .int .i64 (kn : Int))) _ rfl) ?_
  intro a706 hA706; clear hA705
  have hfr : fre g kn = false := by rw [fre_eq]; simp [rat, bat, hxk, hyk, hp695]
  have hrb := q26_3 kn
  have hb1 := back1 q26_1 (by omega) hfr (by omega)
  have hf708 : decide ((rff g (kn : Int)).2 = 0) = true := decide_eq_true hb1.1
  have hf709 : decide ((unr (rff g (kn : Int)).1 (kn : Int)).2.2 = 0) = true := decide_eq_true hb1.2.1
  have f26_710 := Own.gN f26_2 hg685
  refine sx_call (f := 11) (args := #[.agg #[.slice A1g g.rs.length c1g, .slice A2g g.bs.length c2g], .int .i64 (kn : Int)]) hA706 rfl (by decide) (.inl rfl) (ev_fn rfl (mp2 (hA706.ev (i := 123) (v := .agg #[.slice A1g g.rs.length c1g, .slice A2g g.bs.length c2g])) (hA706.ev (i := 124) (v := .int .i64 (kn : Int)))) (by kernel_rfl) _ rfl) (Ref_any A1g c1g A2g c2g g.rs g.bs (kn : Int) _ ⟨(OwnR.gr (e := 3) ⟨rfl, f26_692⟩), (OwnR.gr (e := 4) ⟨rfl, f26_710⟩)⟩ (by omega) (by omega)) ?_
  intro e707 w707 hR707
  obtain ⟨Ap707, cp707, Aj707, cj707, rfl, hC707, hJ707, hb707⟩ := hR707
  refine ⟨_, rfl, ?_⟩
  intro a707 hA707
  clear hA706
  have hg707 := g0 hb707
  have hs707 := hg707.size
  clear hb707
  have ho707_0 : Own w707 (w685.heap.size) 3 1 (.slice Ap707 (rff g (kn : Int)).1.rs.length cp707) (rff g (kn : Int)).1.rs.length (flat iva (rff g (kn : Int)).1.rs) := hC707
  have hh707_0 := Own.hi ho707_0
  have ho707_1 : Own w707 (w685.heap.size) 4 1 (.slice Aj707 (rff g (kn : Int)).1.bs.length cj707) (rff g (kn : Int)).1.bs.length (flat bva (rff g (kn : Int)).1.bs) := hJ707
  have hh707_1 := Own.hi ho707_1
  refine sx_val hA707 rfl (ev_move (hA707.ev (i := 125) (v := .tuple #[.agg #[.slice Ap707 (rff g (kn : Int)).1.rs.length cp707, .slice Aj707 (rff g (kn : Int)).1.bs.length cj707], .int .i64 (rff g (kn : Int)).2])) _ rfl) ?_
  intro a711 hA711; clear hA707
  refine sx_val (v := .agg #[.slice Ap707 (rff g (kn : Int)).1.rs.length cp707, .slice Aj707 (rff g (kn : Int)).1.bs.length cj707]) hA711 rfl (ev_ext (hA711.ev (i := 122) (v := .tuple #[.agg #[.slice Ap707 (rff g (kn : Int)).1.rs.length cp707, .slice Aj707 (rff g (kn : Int)).1.bs.length cj707], .int .i64 (rff g (kn : Int)).2])) rfl _ rfl) ?_
  intro a712 hA712; clear hA711
  refine sx_val (v := .int .i64 (rff g (kn : Int)).2) hA712 rfl (ev_ext (hA712.ev (i := 122) (v := .tuple #[.agg #[.slice Ap707 (rff g (kn : Int)).1.rs.length cp707, .slice Aj707 (rff g (kn : Int)).1.bs.length cj707], .int .i64 (rff g (kn : Int)).2])) rfl _ rfl) ?_
  intro a713 hA713; clear hA712
  refine sx_new (cs := #[.slice none 0 0, .slice none 0 0]) (t := 25) hA713 rfl (by decide) (.inl rfl) (ev_alloc (z := .agg (#[.slice none 0 0, .slice none 0 0])) (by kernel_rfl) (by kernel_rfl) _ rfl) ?_
  intro B714 w714 a714 hB714 hx714 hg714 hA714
  clear hA713
  have hs714 := hg714.size
  have hl714 := hx714.lt
  refine sx_store hA714 rfl (.inl rfl) rfl (hA714.ev (i := 17) (v := .pointer (some ⟨B714, 0, none⟩))) (hA714.ev (i := 126) (v := .agg #[.slice Ap707 (rff g (kn : Int)).1.rs.length cp707, .slice Aj707 (rff g (kn : Int)).1.bs.length cj707])) hx714 (by kernel_rfl) rfl (by simp [Value.oneCell']) ?_
  intro w715 hx715 hg715
  have hs715 := hg715.size
  refine sx_val hA714 rfl (ev_assign (hA714.ev (i := 127) (v := .int .i64 (rff g (kn : Int)).2)) _ rfl) ?_
  intro a716 hA716; clear hA714
  refine sx_nil ?_
  refine then_n ?_
  refine wp_seq ?_
  refine wp_region_lit ?_
  refine sx_val (v := .agg #[.slice Ap707 (rff g (kn : Int)).1.rs.length cp707, .slice Aj707 (rff g (kn : Int)).1.bs.length cj707]) hA716 rfl (ev_row (hA716.ev (i := 17) (v := .pointer (some ⟨B714, 0, none⟩))) hx715 Try.underlying25 rfl (n := 2) (by kernel_rfl) rfl _ rfl) ?_
  intro a717 hA717; clear hA716
  refine sx_val hA717 rfl (ev_move (hA717.ev (i := 14) (v := .int .i64 (kn : Int))) _ rfl) ?_
  intro a718 hA718; clear hA717
  have hln719_0 := rff_len g (kn : Int)
  have hlm719_0 := hln719_0.1
  replace hln719_0 := hln719_0.2
  have ho707_720 := Own.gN ho707_0 hg714
  have ho707_721 := Own.gBT ho707_720 hg715 hx714 (by decide)
  have ho707_722 := Own.gN ho707_1 hg714
  have ho707_723 := Own.gBT ho707_722 hg715 hx714 (by decide)
  refine sx_call (f := 14) (args := #[.agg #[.slice Ap707 (rff g (kn : Int)).1.rs.length cp707, .slice Aj707 (rff g (kn : Int)).1.bs.length cj707], .int .i64 (kn : Int)]) hA718 rfl (by decide) (.inl rfl) (ev_fn rfl (mp2 (hA718.ev (i := 129) (v := .agg #[.slice Ap707 (rff g (kn : Int)).1.rs.length cp707, .slice Aj707 (rff g (kn : Int)).1.bs.length cj707])) (hA718.ev (i := 130) (v := .int .i64 (kn : Int)))) (by kernel_rfl) _ rfl) (Unref_any Ap707 cp707 Aj707 cj707 (rff g (kn : Int)).1.rs (rff g (kn : Int)).1.bs (kn : Int) _ ⟨(OwnR.gr (e := 3) ⟨rfl, ho707_721⟩), (OwnR.gr (e := 4) ⟨rfl, ho707_723⟩)⟩ (by omega) (by omega)) ?_
  intro e719 w719 hR719
  obtain ⟨Ap719, cp719, Aj719, cj719, rfl, hC719, hJ719, hb719⟩ := hR719
  refine ⟨_, rfl, ?_⟩
  intro a719 hA719
  clear hA718
  have hg719 := g0 hb719
  have hs719 := hg719.size
  clear hb719
  have ho719_0 : Own w719 (w715.heap.size) 3 1 (.slice Ap719 (unr (rff g (kn : Int)).1 (kn : Int)).1.rs.length cp719) (unr (rff g (kn : Int)).1 (kn : Int)).1.rs.length (flat iva (unr (rff g (kn : Int)).1 (kn : Int)).1.rs) := hC719
  have hh719_0 := Own.hi ho719_0
  have ho719_1 : Own w719 (w715.heap.size) 4 1 (.slice Aj719 (unr (rff g (kn : Int)).1 (kn : Int)).1.bs.length cj719) (unr (rff g (kn : Int)).1 (kn : Int)).1.bs.length (flat bva (unr (rff g (kn : Int)).1 (kn : Int)).1.bs) := hJ719
  have hh719_1 := Own.hi ho719_1
  refine sx_val hA719 rfl (ev_move (hA719.ev (i := 131) (v := .tuple #[.agg #[.slice Ap719 (unr (rff g (kn : Int)).1 (kn : Int)).1.rs.length cp719, .slice Aj719 (unr (rff g (kn : Int)).1 (kn : Int)).1.bs.length cj719], .bool (unr (rff g (kn : Int)).1 (kn : Int)).2.1, .int .i64 (unr (rff g (kn : Int)).1 (kn : Int)).2.2])) _ rfl) ?_
  intro a724 hA724; clear hA719
  refine sx_val (v := .agg #[.slice Ap719 (unr (rff g (kn : Int)).1 (kn : Int)).1.rs.length cp719, .slice Aj719 (unr (rff g (kn : Int)).1 (kn : Int)).1.bs.length cj719]) hA724 rfl (ev_ext (hA724.ev (i := 128) (v := .tuple #[.agg #[.slice Ap719 (unr (rff g (kn : Int)).1 (kn : Int)).1.rs.length cp719, .slice Aj719 (unr (rff g (kn : Int)).1 (kn : Int)).1.bs.length cj719], .bool (unr (rff g (kn : Int)).1 (kn : Int)).2.1, .int .i64 (unr (rff g (kn : Int)).1 (kn : Int)).2.2])) rfl _ rfl) ?_
  intro a725 hA725; clear hA724
  refine sx_val (v := .bool (unr (rff g (kn : Int)).1 (kn : Int)).2.1) hA725 rfl (ev_ext (hA725.ev (i := 128) (v := .tuple #[.agg #[.slice Ap719 (unr (rff g (kn : Int)).1 (kn : Int)).1.rs.length cp719, .slice Aj719 (unr (rff g (kn : Int)).1 (kn : Int)).1.bs.length cj719], .bool (unr (rff g (kn : Int)).1 (kn : Int)).2.1, .int .i64 (unr (rff g (kn : Int)).1 (kn : Int)).2.2])) rfl _ rfl) ?_
  intro a726 hA726; clear hA725
  refine sx_val (v := .int .i64 (unr (rff g (kn : Int)).1 (kn : Int)).2.2) hA726 rfl (ev_ext (hA726.ev (i := 128) (v := .tuple #[.agg #[.slice Ap719 (unr (rff g (kn : Int)).1 (kn : Int)).1.rs.length cp719, .slice Aj719 (unr (rff g (kn : Int)).1 (kn : Int)).1.bs.length cj719], .bool (unr (rff g (kn : Int)).1 (kn : Int)).2.1, .int .i64 (unr (rff g (kn : Int)).1 (kn : Int)).2.2])) rfl _ rfl) ?_
  intro a727 hA727; clear hA726
  refine sx_new (cs := #[.slice none 0 0, .slice none 0 0]) (t := 25) hA727 rfl (by decide) (.inl rfl) (ev_alloc (z := .agg (#[.slice none 0 0, .slice none 0 0])) (by kernel_rfl) (by kernel_rfl) _ rfl) ?_
  intro B728 w728 a728 hB728 hx728 hg728 hA728
  clear hA727
  have hs728 := hg728.size
  have hl728 := hx728.lt
  refine sx_store hA728 rfl (.inl rfl) rfl (hA728.ev (i := 19) (v := .pointer (some ⟨B728, 0, none⟩))) (hA728.ev (i := 132) (v := .agg #[.slice Ap719 (unr (rff g (kn : Int)).1 (kn : Int)).1.rs.length cp719, .slice Aj719 (unr (rff g (kn : Int)).1 (kn : Int)).1.bs.length cj719])) hx728 (by kernel_rfl) rfl (by simp [Value.oneCell']) ?_
  intro w729 hx729 hg729
  have hs729 := hg729.size
  refine sx_val hA728 rfl (ev_assign (hA728.ev (i := 133) (v := .bool (unr (rff g (kn : Int)).1 (kn : Int)).2.1)) _ rfl) ?_
  intro a730 hA730; clear hA728
  refine sx_val hA730 rfl (ev_assign (hA730.ev (i := 134) (v := .int .i64 (unr (rff g (kn : Int)).1 (kn : Int)).2.2)) _ rfl) ?_
  intro a731 hA731; clear hA730
  refine sx_nil ?_
  refine then_n ?_
  refine wp_seq ?_
  refine wp_seq ?_
  refine wp_region_lit ?_
  refine sx_val hA731 rfl (ev_move (hA731.ev (i := 18) (v := .int .i64 (rff g (kn : Int)).2)) _ rfl) ?_
  intro a732 hA732; clear hA731
  refine sx_val (v := .bool false) hA732 rfl (ev_neqB (k := .i64) (m := (rff g (kn : Int)).2) (n := 0) (hA732.ev (i := 135)) (ec _ (.int .i64 0)) (by simpa using hf708) _ rfl) ?_
  intro a733 hA733; clear hA732
  refine sx_val hA733 rfl (ev_move (hA733.ev (i := 136) (v := .bool false)) _ rfl) ?_
  intro a734 hA734; clear hA733
  refine sx_val (hg := (.inr ⟨2, false, 137, rfl, rfl, by kernel_rfl⟩)) hA734 rfl (ev_move (hA734.ev (i := 21) (v := .int .i64 (unr (rff g (kn : Int)).1 (kn : Int)).2.2)) _ rfl) ?_
  intro a735 hA735; clear hA734
  refine sx_val (hg := (.inr ⟨2, false, 137, rfl, rfl, by kernel_rfl⟩)) (v := .bool false) hA735 rfl (ev_neqB (k := .i64) (m := (unr (rff g (kn : Int)).1 (kn : Int)).2.2) (n := 0) (hA735.ev (i := 138)) (ec _ (.int .i64 0)) (by simpa using hf709) _ rfl) ?_
  intro a736 hA736; clear hA735
  refine sx_val hA736 rfl (ev_pickF (hA736.ev (i := 137) (v := .bool false)) (hA736.ev (i := 139) (v := .bool false)) _ rfl) ?_
  intro a737 hA737; clear hA736
  refine sx_val hA737 rfl (ev_move (hA737.ev (i := 140) (v := .bool false)) _ rfl) ?_
  intro a738 hA738; clear hA737
  refine sx_val (hg := (.inr ⟨6, false, 141, rfl, rfl, by kernel_rfl⟩)) (v := .agg #[.slice Ap719 (unr (rff g (kn : Int)).1 (kn : Int)).1.rs.length cp719, .slice Aj719 (unr (rff g (kn : Int)).1 (kn : Int)).1.bs.length cj719]) hA738 rfl (ev_row (hA738.ev (i := 19) (v := .pointer (some ⟨B728, 0, none⟩))) hx729 Try.underlying25 rfl (n := 2) (by kernel_rfl) rfl _ rfl) ?_
  intro a739 hA739; clear hA738
  have f26_740 := f26_688.gN hg707
  have f26_741 := f26_740.gN hg714
  have f26_742 := f26_741.gB hg715 (by omega)
  have f26_743 := f26_742.gN hg719
  have f26_744 := f26_743.gN hg728
  have f26_745 := f26_744.gB hg729 (by omega)
  refine sx_val (hg := (.inr ⟨6, false, 141, rfl, rfl, by kernel_rfl⟩)) (v := .agg #[.slice A1g g.rs.length c1g, .slice A2g g.bs.length c2g]) hA739 rfl (ev_row (hA739.ev (i := 8) (v := .pointer (some ⟨B13, 0, none⟩))) f26_745 Try.underlying25 rfl (n := 2) (by kernel_rfl) rfl _ rfl) ?_
  intro a746 hA746; clear hA739
  have ho719_748 := Own.gN ho719_0 hg728
  have ho719_749 := Own.gBT ho719_748 hg729 hx728 (by decide)
  have ho719_750 := Own.gN ho719_1 hg728
  have ho719_751 := Own.gBT ho719_750 hg729 hx728 (by decide)
  have f26_752 := Own.gN f26_692 hg707
  have f26_753 := Own.gN f26_752 hg714
  have f26_754 := Own.gBT f26_753 hg715 hx714 (by decide)
  have f26_755 := Own.gN f26_754 hg719
  have f26_756 := Own.gN f26_755 hg728
  have f26_757 := Own.gBT f26_756 hg729 hx728 (by decide)
  have f26_758 := Own.gN f26_710 hg707
  have f26_759 := Own.gN f26_758 hg714
  have f26_760 := Own.gBT f26_759 hg715 hx714 (by decide)
  have f26_761 := Own.gN f26_760 hg719
  have f26_762 := Own.gN f26_761 hg728
  have f26_763 := Own.gBT f26_762 hg729 hx728 (by decide)
  refine sx_call (f := 13) (args := #[.agg #[.slice Ap719 (unr (rff g (kn : Int)).1 (kn : Int)).1.rs.length cp719, .slice Aj719 (unr (rff g (kn : Int)).1 (kn : Int)).1.bs.length cj719], .agg #[.slice A1g g.rs.length c1g, .slice A2g g.bs.length c2g]]) hA746 rfl (by decide) (.inr ⟨6, false, 141, rfl, rfl, by kernel_rfl⟩) (ev_fn rfl (mp2 (hA746.ev (i := 142) (v := .agg #[.slice Ap719 (unr (rff g (kn : Int)).1 (kn : Int)).1.rs.length cp719, .slice Aj719 (unr (rff g (kn : Int)).1 (kn : Int)).1.bs.length cj719])) (hA746.ev (i := 143) (v := .agg #[.slice A1g g.rs.length c1g, .slice A2g g.bs.length c2g]))) (by kernel_rfl) _ rfl) (SameSlots_any Ap719 cp719 Aj719 cj719 (unr (rff g (kn : Int)).1 (kn : Int)).1.rs (unr (rff g (kn : Int)).1 (kn : Int)).1.bs A1g c1g A2g c2g g.rs g.bs _ ⟨(OwnR.gr (e := 3) ⟨rfl, ho719_749⟩), (OwnR.gr (e := 4) ⟨rfl, ho719_751⟩)⟩ ⟨(OwnR.gr (e := 3) ⟨rfl, f26_757⟩), (OwnR.gr (e := 4) ⟨rfl, f26_763⟩)⟩) ?_
  intro e747 w747 hR747
  obtain ⟨hv747, hb747⟩ := hR747
  rw [show sme (unr (rff g (kn : Int)).1 (kn : Int)).1 g = true from (by rw [hb1.2.2]; exact sme_refl _)] at hv747
  subst hv747
  refine ⟨_, rfl, ?_⟩
  intro a747 hA747
  clear hA746
  have hg747 := g0 hb747
  have hs747 := hg747.size
  clear hb747
  refine sx_val (hg := (.inr ⟨6, false, 141, rfl, rfl, by kernel_rfl⟩)) (v := .bool false) hA747 rfl (ev_notT (hA747.ev (i := 144) (v := .bool true)) _ rfl) ?_
  intro a764 hA764; clear hA747
  refine sx_val hA764 rfl (ev_pickF (hA764.ev (i := 141) (v := .bool false)) (hA764.ev (i := 145) (v := .bool false)) _ rfl) ?_
  intro a765 hA765; clear hA764
  refine sx_nil ?_
  refine then_n ?_
  refine wp_cond_false (hA765.ev (i := 146) (v := .bool false)) ?_
  refine wp_skip ?_
  refine then_n ?_
  refine wp_seq ?_
  refine wp_seq ?_
  refine wp_region_lit ?_
  refine sx_val (v := .pointer (some ⟨B13, 1, none⟩)) hA765 rfl (fb_Slots_1 (hA765.ev (i := 8) (v := .pointer (some ⟨B13, 0, none⟩))) _ rfl) ?_
  intro a766 hA766; clear hA765
  have f26_767 := f26_745.gN hg747
  refine sx_val (v := .slice A2g g.bs.length c2g) hA766 rfl (ev_cell (v := .slice A2g g.bs.length c2g) (hA766.ev (i := 147) (v := .pointer (some ⟨B13, 1, none⟩))) ((f26_767.cell 1).trans rfl) Try.underlying23 rfl _ rfl) ?_
  intro a768 hA768; clear hA766
  refine sx_val hA768 rfl (ev_move (hA768.ev (i := 14) (v := .int .i64 (kn : Int))) _ rfl) ?_
  intro a769 hA769; clear hA768
  have f26_771 := Own.gN f26_763 hg747
  obtain ⟨ad770, hAd770⟩ := GR.adr (OwnR.gr (e := 4) ⟨rfl, f26_771⟩) bva_sz hyk
  refine sx_val (v := .pointer (some (ad770.add (kn * 1)))) hA769 rfl (ev_idx (k := kn) (hA769.ev (i := 148) (v := .slice A2g g.bs.length c2g)) hAd770 (hA769.ev (i := 149) (v := .int .i64 (kn : Int))) rfl (by omega) Try.underlying23 (by kernel_rfl) _ rfl) ?_
  intro a772 hA772; clear hA769
  refine sx_val (v := .bool yk) hA772 rfl (ev_cell (hA772.ev (i := 150) (v := .pointer (some (ad770.add (kn * 1))))) ((GR.cel (OwnR.gr (e := 4) ⟨rfl, f26_771⟩) hAd770 bva_sz hyk) 0 _ rfl) Try.underlying4 rfl _ rfl) ?_
  intro a773 hA773; clear hA772
  cases hd774 : yk
  · rw [hd774] at hA773
    refine sx_val (v := .bool true) hA773 rfl (ev_notF (hA773.ev (i := 151) (v := .bool false)) _ rfl) ?_
    intro a775 hA775; clear hA773
    refine sx_nil ?_
    refine then_n ?_
    refine wp_cond_true (hA775.ev (i := 152) (v := .bool true)) ?_
    refine wp_seq ?_
    refine wp_region_lit ?_
    refine sx_val (v := .agg #[.slice A1g g.rs.length c1g, .slice A2g g.bs.length c2g]) hA775 rfl (ev_row (hA775.ev (i := 8) (v := .pointer (some ⟨B13, 0, none⟩))) f26_767 Try.underlying25 rfl (n := 2) (by kernel_rfl) rfl _ rfl) ?_
    intro a776 hA776; clear hA775
    refine sx_val hA776 rfl (ev_move (hA776.ev (i := 14) (v := .int .i64 (kn : Int))) _ rfl) ?_
    intro a777 hA777; clear hA776
    have hbf : bat g kn = false := by simp [bat, hyk, hd774]
    have hb2 := back2 q26_1 (by omega) hfr hbf
    have hf779 : decide ((sta g (kn : Int)).2 = 0) = true := decide_eq_true hb2.1
    have hf780 : decide ((stl (sta g (kn : Int)).1 (kn : Int)).2.2 = 0) = true := decide_eq_true hb2.2.1
    have f26_781 := Own.gN f26_757 hg747
    refine sx_call (f := 16) (args := #[.agg #[.slice A1g g.rs.length c1g, .slice A2g g.bs.length c2g], .int .i64 (kn : Int)]) hA777 rfl (by decide) (.inl rfl) (ev_fn rfl (mp2 (hA777.ev (i := 154) (v := .agg #[.slice A1g g.rs.length c1g, .slice A2g g.bs.length c2g])) (hA777.ev (i := 155) (v := .int .i64 (kn : Int)))) (by kernel_rfl) _ rfl) (Start_any A1g c1g A2g c2g g.rs g.bs (kn : Int) _ ⟨(OwnR.gr (e := 3) ⟨rfl, f26_781⟩), (OwnR.gr (e := 4) ⟨rfl, f26_771⟩)⟩ (by omega) (by omega)) ?_
    intro e778 w778 hR778
    obtain ⟨Ap778, cp778, Aj778, cj778, rfl, hC778, hJ778, hb778⟩ := hR778
    refine ⟨_, rfl, ?_⟩
    intro a778 hA778
    clear hA777
    have hg778 := g0 hb778
    have hs778 := hg778.size
    clear hb778
    have ho778_0 : Own w778 (w747.heap.size) 3 1 (.slice Ap778 (sta g (kn : Int)).1.rs.length cp778) (sta g (kn : Int)).1.rs.length (flat iva (sta g (kn : Int)).1.rs) := hC778
    have hh778_0 := Own.hi ho778_0
    have ho778_1 : Own w778 (w747.heap.size) 4 1 (.slice Aj778 (sta g (kn : Int)).1.bs.length cj778) (sta g (kn : Int)).1.bs.length (flat bva (sta g (kn : Int)).1.bs) := hJ778
    have hh778_1 := Own.hi ho778_1
    refine sx_val hA778 rfl (ev_move (hA778.ev (i := 156) (v := .tuple #[.agg #[.slice Ap778 (sta g (kn : Int)).1.rs.length cp778, .slice Aj778 (sta g (kn : Int)).1.bs.length cj778], .int .i64 (sta g (kn : Int)).2])) _ rfl) ?_
    intro a782 hA782; clear hA778
    refine sx_val (v := .agg #[.slice Ap778 (sta g (kn : Int)).1.rs.length cp778, .slice Aj778 (sta g (kn : Int)).1.bs.length cj778]) hA782 rfl (ev_ext (hA782.ev (i := 153) (v := .tuple #[.agg #[.slice Ap778 (sta g (kn : Int)).1.rs.length cp778, .slice Aj778 (sta g (kn : Int)).1.bs.length cj778], .int .i64 (sta g (kn : Int)).2])) rfl _ rfl) ?_
    intro a783 hA783; clear hA782
    refine sx_val (v := .int .i64 (sta g (kn : Int)).2) hA783 rfl (ev_ext (hA783.ev (i := 153) (v := .tuple #[.agg #[.slice Ap778 (sta g (kn : Int)).1.rs.length cp778, .slice Aj778 (sta g (kn : Int)).1.bs.length cj778], .int .i64 (sta g (kn : Int)).2])) rfl _ rfl) ?_
    intro a784 hA784; clear hA783
    refine sx_new (cs := #[.slice none 0 0, .slice none 0 0]) (t := 25) hA784 rfl (by decide) (.inl rfl) (ev_alloc (z := .agg (#[.slice none 0 0, .slice none 0 0])) (by kernel_rfl) (by kernel_rfl) _ rfl) ?_
    intro B785 w785 a785 hB785 hx785 hg785 hA785
    clear hA784
    have hs785 := hg785.size
    have hl785 := hx785.lt
    refine sx_store hA785 rfl (.inl rfl) rfl (hA785.ev (i := 22) (v := .pointer (some ⟨B785, 0, none⟩))) (hA785.ev (i := 157) (v := .agg #[.slice Ap778 (sta g (kn : Int)).1.rs.length cp778, .slice Aj778 (sta g (kn : Int)).1.bs.length cj778])) hx785 (by kernel_rfl) rfl (by simp [Value.oneCell']) ?_
    intro w786 hx786 hg786
    have hs786 := hg786.size
    refine sx_val hA785 rfl (ev_assign (hA785.ev (i := 158) (v := .int .i64 (sta g (kn : Int)).2)) _ rfl) ?_
    intro a787 hA787; clear hA785
    refine sx_nil ?_
    refine then_n ?_
    refine wp_seq ?_
    refine wp_region_lit ?_
    refine sx_val (v := .agg #[.slice Ap778 (sta g (kn : Int)).1.rs.length cp778, .slice Aj778 (sta g (kn : Int)).1.bs.length cj778]) hA787 rfl (ev_row (hA787.ev (i := 22) (v := .pointer (some ⟨B785, 0, none⟩))) hx786 Try.underlying25 rfl (n := 2) (by kernel_rfl) rfl _ rfl) ?_
    intro a788 hA788; clear hA787
    refine sx_val hA788 rfl (ev_move (hA788.ev (i := 14) (v := .int .i64 (kn : Int))) _ rfl) ?_
    intro a789 hA789; clear hA788
    have hln790_0 := sta_len g (kn : Int)
    have hlm790_0 := hln790_0.1
    replace hln790_0 := hln790_0.2
    have ho778_791 := Own.gN ho778_0 hg785
    have ho778_792 := Own.gBT ho778_791 hg786 hx785 (by decide)
    have ho778_793 := Own.gN ho778_1 hg785
    have ho778_794 := Own.gBT ho778_793 hg786 hx785 (by decide)
    refine sx_call (f := 18) (args := #[.agg #[.slice Ap778 (sta g (kn : Int)).1.rs.length cp778, .slice Aj778 (sta g (kn : Int)).1.bs.length cj778], .int .i64 (kn : Int)]) hA789 rfl (by decide) (.inl rfl) (ev_fn rfl (mp2 (hA789.ev (i := 160) (v := .agg #[.slice Ap778 (sta g (kn : Int)).1.rs.length cp778, .slice Aj778 (sta g (kn : Int)).1.bs.length cj778])) (hA789.ev (i := 161) (v := .int .i64 (kn : Int)))) (by kernel_rfl) _ rfl) (Settle_any Ap778 cp778 Aj778 cj778 (sta g (kn : Int)).1.rs (sta g (kn : Int)).1.bs (kn : Int) _ ⟨(OwnR.gr (e := 3) ⟨rfl, ho778_792⟩), (OwnR.gr (e := 4) ⟨rfl, ho778_794⟩)⟩ (by omega) (by omega)) ?_
    intro e790 w790 hR790
    obtain ⟨Ap790, cp790, Aj790, cj790, rfl, hC790, hJ790, hb790⟩ := hR790
    refine ⟨_, rfl, ?_⟩
    intro a790 hA790
    clear hA789
    have hg790 := g0 hb790
    have hs790 := hg790.size
    clear hb790
    have ho790_0 : Own w790 (w786.heap.size) 3 1 (.slice Ap790 (stl (sta g (kn : Int)).1 (kn : Int)).1.rs.length cp790) (stl (sta g (kn : Int)).1 (kn : Int)).1.rs.length (flat iva (stl (sta g (kn : Int)).1 (kn : Int)).1.rs) := hC790
    have hh790_0 := Own.hi ho790_0
    have ho790_1 : Own w790 (w786.heap.size) 4 1 (.slice Aj790 (stl (sta g (kn : Int)).1 (kn : Int)).1.bs.length cj790) (stl (sta g (kn : Int)).1 (kn : Int)).1.bs.length (flat bva (stl (sta g (kn : Int)).1 (kn : Int)).1.bs) := hJ790
    have hh790_1 := Own.hi ho790_1
    refine sx_val hA790 rfl (ev_move (hA790.ev (i := 162) (v := .tuple #[.agg #[.slice Ap790 (stl (sta g (kn : Int)).1 (kn : Int)).1.rs.length cp790, .slice Aj790 (stl (sta g (kn : Int)).1 (kn : Int)).1.bs.length cj790], .bool (stl (sta g (kn : Int)).1 (kn : Int)).2.1, .int .i64 (stl (sta g (kn : Int)).1 (kn : Int)).2.2])) _ rfl) ?_
    intro a795 hA795; clear hA790
    refine sx_val (v := .agg #[.slice Ap790 (stl (sta g (kn : Int)).1 (kn : Int)).1.rs.length cp790, .slice Aj790 (stl (sta g (kn : Int)).1 (kn : Int)).1.bs.length cj790]) hA795 rfl (ev_ext (hA795.ev (i := 159) (v := .tuple #[.agg #[.slice Ap790 (stl (sta g (kn : Int)).1 (kn : Int)).1.rs.length cp790, .slice Aj790 (stl (sta g (kn : Int)).1 (kn : Int)).1.bs.length cj790], .bool (stl (sta g (kn : Int)).1 (kn : Int)).2.1, .int .i64 (stl (sta g (kn : Int)).1 (kn : Int)).2.2])) rfl _ rfl) ?_
    intro a796 hA796; clear hA795
    refine sx_val (v := .bool (stl (sta g (kn : Int)).1 (kn : Int)).2.1) hA796 rfl (ev_ext (hA796.ev (i := 159) (v := .tuple #[.agg #[.slice Ap790 (stl (sta g (kn : Int)).1 (kn : Int)).1.rs.length cp790, .slice Aj790 (stl (sta g (kn : Int)).1 (kn : Int)).1.bs.length cj790], .bool (stl (sta g (kn : Int)).1 (kn : Int)).2.1, .int .i64 (stl (sta g (kn : Int)).1 (kn : Int)).2.2])) rfl _ rfl) ?_
    intro a797 hA797; clear hA796
    refine sx_val (v := .int .i64 (stl (sta g (kn : Int)).1 (kn : Int)).2.2) hA797 rfl (ev_ext (hA797.ev (i := 159) (v := .tuple #[.agg #[.slice Ap790 (stl (sta g (kn : Int)).1 (kn : Int)).1.rs.length cp790, .slice Aj790 (stl (sta g (kn : Int)).1 (kn : Int)).1.bs.length cj790], .bool (stl (sta g (kn : Int)).1 (kn : Int)).2.1, .int .i64 (stl (sta g (kn : Int)).1 (kn : Int)).2.2])) rfl _ rfl) ?_
    intro a798 hA798; clear hA797
    refine sx_new (cs := #[.slice none 0 0, .slice none 0 0]) (t := 25) hA798 rfl (by decide) (.inl rfl) (ev_alloc (z := .agg (#[.slice none 0 0, .slice none 0 0])) (by kernel_rfl) (by kernel_rfl) _ rfl) ?_
    intro B799 w799 a799 hB799 hx799 hg799 hA799
    clear hA798
    have hs799 := hg799.size
    have hl799 := hx799.lt
    refine sx_store hA799 rfl (.inl rfl) rfl (hA799.ev (i := 24) (v := .pointer (some ⟨B799, 0, none⟩))) (hA799.ev (i := 163) (v := .agg #[.slice Ap790 (stl (sta g (kn : Int)).1 (kn : Int)).1.rs.length cp790, .slice Aj790 (stl (sta g (kn : Int)).1 (kn : Int)).1.bs.length cj790])) hx799 (by kernel_rfl) rfl (by simp [Value.oneCell']) ?_
    intro w800 hx800 hg800
    have hs800 := hg800.size
    refine sx_val hA799 rfl (ev_assign (hA799.ev (i := 164) (v := .bool (stl (sta g (kn : Int)).1 (kn : Int)).2.1)) _ rfl) ?_
    intro a801 hA801; clear hA799
    refine sx_val hA801 rfl (ev_assign (hA801.ev (i := 165) (v := .int .i64 (stl (sta g (kn : Int)).1 (kn : Int)).2.2)) _ rfl) ?_
    intro a802 hA802; clear hA801
    refine sx_nil ?_
    refine then_n ?_
    refine wp_seq ?_
    refine wp_region_lit ?_
    refine sx_val hA802 rfl (ev_move (hA802.ev (i := 7) (v := .bool true)) _ rfl) ?_
    intro a803 hA803; clear hA802
    refine sx_val hA803 rfl (ev_move (hA803.ev (i := 166) (v := .bool true)) _ rfl) ?_
    intro a804 hA804; clear hA803
    refine sx_val (hg := (.inr ⟨1, true, 167, rfl, rfl, by kernel_rfl⟩)) hA804 rfl (ev_move (hA804.ev (i := 23) (v := .int .i64 (sta g (kn : Int)).2)) _ rfl) ?_
    intro a805 hA805; clear hA804
    refine sx_val (hg := (.inr ⟨1, true, 167, rfl, rfl, by kernel_rfl⟩)) (v := .bool true) hA805 rfl (ev_eqlB (k := .i64) (m := (sta g (kn : Int)).2) (n := 0) (hA805.ev (i := 168)) (ec _ (.int .i64 0)) hf779 _ rfl) ?_
    intro a806 hA806; clear hA805
    refine sx_val hA806 rfl (ev_pickT (hA806.ev (i := 167) (v := .bool true)) (hA806.ev (i := 169) (v := .bool true)) _ rfl) ?_
    intro a807 hA807; clear hA806
    refine sx_val hA807 rfl (ev_move (hA807.ev (i := 170) (v := .bool true)) _ rfl) ?_
    intro a808 hA808; clear hA807
    refine sx_val (hg := (.inr ⟨5, true, 171, rfl, rfl, by kernel_rfl⟩)) hA808 rfl (ev_move (hA808.ev (i := 26) (v := .int .i64 (stl (sta g (kn : Int)).1 (kn : Int)).2.2)) _ rfl) ?_
    intro a809 hA809; clear hA808
    refine sx_val (hg := (.inr ⟨5, true, 171, rfl, rfl, by kernel_rfl⟩)) (v := .bool true) hA809 rfl (ev_eqlB (k := .i64) (m := (stl (sta g (kn : Int)).1 (kn : Int)).2.2) (n := 0) (hA809.ev (i := 172)) (ec _ (.int .i64 0)) hf780 _ rfl) ?_
    intro a810 hA810; clear hA809
    refine sx_val hA810 rfl (ev_pickT (hA810.ev (i := 171) (v := .bool true)) (hA810.ev (i := 173) (v := .bool true)) _ rfl) ?_
    intro a811 hA811; clear hA810
    refine sx_val hA811 rfl (ev_move (hA811.ev (i := 174) (v := .bool true)) _ rfl) ?_
    intro a812 hA812; clear hA811
    refine sx_val (hg := (.inr ⟨9, true, 175, rfl, rfl, by kernel_rfl⟩)) (v := .agg #[.slice Ap790 (stl (sta g (kn : Int)).1 (kn : Int)).1.rs.length cp790, .slice Aj790 (stl (sta g (kn : Int)).1 (kn : Int)).1.bs.length cj790]) hA812 rfl (ev_row (hA812.ev (i := 24) (v := .pointer (some ⟨B799, 0, none⟩))) hx800 Try.underlying25 rfl (n := 2) (by kernel_rfl) rfl _ rfl) ?_
    intro a813 hA813; clear hA812
    have f26_814 := f26_767.gN hg778
    have f26_815 := f26_814.gN hg785
    have f26_816 := f26_815.gB hg786 (by omega)
    have f26_817 := f26_816.gN hg790
    have f26_818 := f26_817.gN hg799
    have f26_819 := f26_818.gB hg800 (by omega)
    refine sx_val (hg := (.inr ⟨9, true, 175, rfl, rfl, by kernel_rfl⟩)) (v := .agg #[.slice A1g g.rs.length c1g, .slice A2g g.bs.length c2g]) hA813 rfl (ev_row (hA813.ev (i := 8) (v := .pointer (some ⟨B13, 0, none⟩))) f26_819 Try.underlying25 rfl (n := 2) (by kernel_rfl) rfl _ rfl) ?_
    intro a820 hA820; clear hA813
    have ho790_822 := Own.gN ho790_0 hg799
    have ho790_823 := Own.gBT ho790_822 hg800 hx799 (by decide)
    have ho790_824 := Own.gN ho790_1 hg799
    have ho790_825 := Own.gBT ho790_824 hg800 hx799 (by decide)
    have f26_826 := Own.gN f26_781 hg778
    have f26_827 := Own.gN f26_826 hg785
    have f26_828 := Own.gBT f26_827 hg786 hx785 (by decide)
    have f26_829 := Own.gN f26_828 hg790
    have f26_830 := Own.gN f26_829 hg799
    have f26_831 := Own.gBT f26_830 hg800 hx799 (by decide)
    have f26_832 := Own.gN f26_771 hg778
    have f26_833 := Own.gN f26_832 hg785
    have f26_834 := Own.gBT f26_833 hg786 hx785 (by decide)
    have f26_835 := Own.gN f26_834 hg790
    have f26_836 := Own.gN f26_835 hg799
    have f26_837 := Own.gBT f26_836 hg800 hx799 (by decide)
    refine sx_call (f := 13) (args := #[.agg #[.slice Ap790 (stl (sta g (kn : Int)).1 (kn : Int)).1.rs.length cp790, .slice Aj790 (stl (sta g (kn : Int)).1 (kn : Int)).1.bs.length cj790], .agg #[.slice A1g g.rs.length c1g, .slice A2g g.bs.length c2g]]) hA820 rfl (by decide) (.inr ⟨9, true, 175, rfl, rfl, by kernel_rfl⟩) (ev_fn rfl (mp2 (hA820.ev (i := 176) (v := .agg #[.slice Ap790 (stl (sta g (kn : Int)).1 (kn : Int)).1.rs.length cp790, .slice Aj790 (stl (sta g (kn : Int)).1 (kn : Int)).1.bs.length cj790])) (hA820.ev (i := 177) (v := .agg #[.slice A1g g.rs.length c1g, .slice A2g g.bs.length c2g]))) (by kernel_rfl) _ rfl) (SameSlots_any Ap790 cp790 Aj790 cj790 (stl (sta g (kn : Int)).1 (kn : Int)).1.rs (stl (sta g (kn : Int)).1 (kn : Int)).1.bs A1g c1g A2g c2g g.rs g.bs _ ⟨(OwnR.gr (e := 3) ⟨rfl, ho790_823⟩), (OwnR.gr (e := 4) ⟨rfl, ho790_825⟩)⟩ ⟨(OwnR.gr (e := 3) ⟨rfl, f26_831⟩), (OwnR.gr (e := 4) ⟨rfl, f26_837⟩)⟩) ?_
    intro e821 w821 hR821
    obtain ⟨hv821, hb821⟩ := hR821
    rw [show sme (stl (sta g (kn : Int)).1 (kn : Int)).1 g = true from (by rw [hb2.2.2]; exact sme_refl _)] at hv821
    subst hv821
    refine ⟨_, rfl, ?_⟩
    intro a821 hA821
    clear hA820
    have hg821 := g0 hb821
    have hs821 := hg821.size
    clear hb821
    refine sx_val hA821 rfl (ev_pickT (hA821.ev (i := 175) (v := .bool true)) (hA821.ev (i := 178) (v := .bool true)) _ rfl) ?_
    intro a838 hA838; clear hA821
    refine sx_val hA838 rfl (ev_assign (hA838.ev (i := 179) (v := .bool true)) _ rfl) ?_
    intro a839 hA839; clear hA838
    refine sx_nil ?_
    refine then_n ?_
    refine wp_ret ?_
    refine then_r ?_
    refine bodyPost_ret (rs_t (v := .bool true) Try.results7 hA839 (by kernel_rfl) ) hA839.2.1 ?_
    have hbel26_840 := Below.gN hbel26 hg685 hbel26.size
    have hbel26_841 := Below.gN hbel26_840 hg707 hbel26_840.size
    have hbel26_842 := Below.gN hbel26_841 hg714 hbel26_841.size
    have hbel26_843 := Below.gB hbel26_842 hg715 hbel26_842.size (by omega)
    have hbel26_844 := Below.gN hbel26_843 hg719 hbel26_843.size
    have hbel26_845 := Below.gN hbel26_844 hg728 hbel26_844.size
    have hbel26_846 := Below.gB hbel26_845 hg729 hbel26_845.size (by omega)
    have hbel26_847 := Below.gN hbel26_846 hg747 hbel26_846.size
    have hbel26_848 := Below.gN hbel26_847 hg778 hbel26_847.size
    have hbel26_849 := Below.gN hbel26_848 hg785 hbel26_848.size
    have hbel26_850 := Below.gB hbel26_849 hg786 hbel26_849.size (by omega)
    have hbel26_851 := Below.gN hbel26_850 hg790 hbel26_850.size
    have hbel26_852 := Below.gN hbel26_851 hg799 hbel26_851.size
    have hbel26_853 := Below.gB hbel26_852 hg800 hbel26_852.size (by omega)
    have hbel26_854 := Below.gN hbel26_853 hg821 hbel26_853.size
    exact ⟨rfl, hbel26_854⟩
  rw [hd774] at hA773
  refine sx_val (v := .bool false) hA773 rfl (ev_notT (hA773.ev (i := 151) (v := .bool true)) _ rfl) ?_
  intro a855 hA855; clear hA773
  refine sx_nil ?_
  refine then_n ?_
  refine wp_cond_false (hA855.ev (i := 152) (v := .bool false)) ?_
  refine wp_skip ?_
  refine then_n ?_
  refine wp_seq ?_
  refine wp_seq ?_
  refine wp_region_lit ?_
  refine sx_val (v := .pointer (some ⟨B13, 0, none⟩)) hA855 rfl (fb_Slots_0 (hA855.ev (i := 8) (v := .pointer (some ⟨B13, 0, none⟩))) _ rfl) ?_
  intro a856 hA856; clear hA855
  refine sx_val (v := .slice A1g g.rs.length c1g) hA856 rfl (ev_cell (v := .slice A1g g.rs.length c1g) (hA856.ev (i := 180) (v := .pointer (some ⟨B13, 0, none⟩))) ((f26_767.cell 0).trans rfl) Try.underlying22 rfl _ rfl) ?_
  intro a857 hA857; clear hA856
  refine sx_val hA857 rfl (ev_move (hA857.ev (i := 14) (v := .int .i64 (kn : Int))) _ rfl) ?_
  intro a858 hA858; clear hA857
  refine sx_val (v := .pointer (some (ad691.add (kn * 1)))) hA858 rfl (ev_idx (k := kn) (hA858.ev (i := 181) (v := .slice A1g g.rs.length c1g)) hAd691 (hA858.ev (i := 182) (v := .int .i64 (kn : Int))) rfl (by omega) Try.underlying22 (by kernel_rfl) _ rfl) ?_
  intro a859 hA859; clear hA858
  have f26_860 := Own.gN f26_757 hg747
  refine sx_val (v := .int .i64 xk) hA859 rfl (ev_cell (hA859.ev (i := 183) (v := .pointer (some (ad691.add (kn * 1))))) ((GR.cel (OwnR.gr (e := 3) ⟨rfl, f26_860⟩) hAd691 iva_sz hxk) 0 _ rfl) Try.underlying3 rfl _ rfl) ?_
  intro a861 hA861; clear hA859
  cases hd862 : decide (xk = 1)
  · have hp862 := of_decide_eq_false hd862
    refine sx_val (v := .bool true) hA861 rfl (ev_neqB (k := .i64) (m := xk) (n := 1) (hA861.ev (i := 184)) (ec _ (.int .i64 1)) (by simpa using hd862) _ rfl) ?_
    intro a863 hA863; clear hA861
    refine sx_nil ?_
    refine then_n ?_
    refine wp_cond_true (hA863.ev (i := 185) (v := .bool true)) ?_
    refine wp_seq ?_
    refine wp_region_lit ?_
    refine sx_val hA863 rfl (ev_move (hA863.ev (i := 7) (v := .bool true)) _ rfl) ?_
    intro a864 hA864; clear hA863
    refine sx_val hA864 rfl (ev_assign (hA864.ev (i := 186) (v := .bool true)) _ rfl) ?_
    intro a865 hA865; clear hA864
    refine sx_nil ?_
    refine then_n ?_
    refine wp_ret ?_
    refine then_r ?_
    refine bodyPost_ret (rs_t (v := .bool true) Try.results7 hA865 (by kernel_rfl) ) hA865.2.1 ?_
    have hbel26_866 := Below.gN hbel26 hg685 hbel26.size
    have hbel26_867 := Below.gN hbel26_866 hg707 hbel26_866.size
    have hbel26_868 := Below.gN hbel26_867 hg714 hbel26_867.size
    have hbel26_869 := Below.gB hbel26_868 hg715 hbel26_868.size (by omega)
    have hbel26_870 := Below.gN hbel26_869 hg719 hbel26_869.size
    have hbel26_871 := Below.gN hbel26_870 hg728 hbel26_870.size
    have hbel26_872 := Below.gB hbel26_871 hg729 hbel26_871.size (by omega)
    have hbel26_873 := Below.gN hbel26_872 hg747 hbel26_872.size
    exact ⟨rfl, hbel26_873⟩
  have hp862 := of_decide_eq_true hd862
  refine sx_val (v := .bool false) hA861 rfl (ev_neqB (k := .i64) (m := xk) (n := 1) (hA861.ev (i := 184)) (ec _ (.int .i64 1)) (by simpa using hd862) _ rfl) ?_
  intro a874 hA874; clear hA861
  refine sx_nil ?_
  refine then_n ?_
  refine wp_cond_false (hA874.ev (i := 185) (v := .bool false)) ?_
  refine wp_skip ?_
  refine then_n ?_
  refine wp_seq ?_
  refine wp_region_lit ?_
  refine sx_val (v := .agg #[.slice A1g g.rs.length c1g, .slice A2g g.bs.length c2g]) hA874 rfl (ev_row (hA874.ev (i := 8) (v := .pointer (some ⟨B13, 0, none⟩))) f26_767 Try.underlying25 rfl (n := 2) (by kernel_rfl) rfl _ rfl) ?_
  intro a875 hA875; clear hA874
  refine sx_val hA875 rfl (ev_move (hA875.ev (i := 14) (v := .int .i64 (kn : Int))) _ rfl) ?_
  intro a876 hA876; clear hA875
  have hbt : bat g kn = true := by simp [bat, hyk, hd774]
  have hr1 : rat g kn = 1 := by simp [rat, hxk, hp862]
  obtain ⟨he1, he2, he3, he4, he5, he6, he7, he8, he9⟩ := back3 q26_1 (by omega) hbt hr1
  have hf878 : decide ((unr g (kn : Int)).2.2 = 0) = true := decide_eq_true he1
  have hf879 : decide ((stl (unr g (kn : Int)).1 (kn : Int)).2.2 = 0) = true := decide_eq_true he2
  have hf880 : decide ((stl g (kn : Int)).2.2 = 0) = true := decide_eq_true he3
  have hf881 : decide ((unr (stl g (kn : Int)).1 (kn : Int)).2.2 = 0) = true := decide_eq_true he4
  refine sx_call (f := 14) (args := #[.agg #[.slice A1g g.rs.length c1g, .slice A2g g.bs.length c2g], .int .i64 (kn : Int)]) hA876 rfl (by decide) (.inl rfl) (ev_fn rfl (mp2 (hA876.ev (i := 188) (v := .agg #[.slice A1g g.rs.length c1g, .slice A2g g.bs.length c2g])) (hA876.ev (i := 189) (v := .int .i64 (kn : Int)))) (by kernel_rfl) _ rfl) (Unref_any A1g c1g A2g c2g g.rs g.bs (kn : Int) _ ⟨(OwnR.gr (e := 3) ⟨rfl, f26_860⟩), (OwnR.gr (e := 4) ⟨rfl, f26_771⟩)⟩ (by omega) (by omega)) ?_
  intro e877 w877 hR877
  obtain ⟨Ap877, cp877, Aj877, cj877, rfl, hC877, hJ877, hb877⟩ := hR877
  refine ⟨_, rfl, ?_⟩
  intro a877 hA877
  clear hA876
  have hg877 := g0 hb877
  have hs877 := hg877.size
  clear hb877
  have ho877_0 : Own w877 (w747.heap.size) 3 1 (.slice Ap877 (unr g (kn : Int)).1.rs.length cp877) (unr g (kn : Int)).1.rs.length (flat iva (unr g (kn : Int)).1.rs) := hC877
  have hh877_0 := Own.hi ho877_0
  have ho877_1 : Own w877 (w747.heap.size) 4 1 (.slice Aj877 (unr g (kn : Int)).1.bs.length cj877) (unr g (kn : Int)).1.bs.length (flat bva (unr g (kn : Int)).1.bs) := hJ877
  have hh877_1 := Own.hi ho877_1
  refine sx_val hA877 rfl (ev_move (hA877.ev (i := 190) (v := .tuple #[.agg #[.slice Ap877 (unr g (kn : Int)).1.rs.length cp877, .slice Aj877 (unr g (kn : Int)).1.bs.length cj877], .bool (unr g (kn : Int)).2.1, .int .i64 (unr g (kn : Int)).2.2])) _ rfl) ?_
  intro a882 hA882; clear hA877
  rw [he5] at hA882
  refine sx_val (v := .agg #[.slice Ap877 (unr g (kn : Int)).1.rs.length cp877, .slice Aj877 (unr g (kn : Int)).1.bs.length cj877]) hA882 rfl (ev_ext (hA882.ev (i := 187) (v := .tuple #[.agg #[.slice Ap877 (unr g (kn : Int)).1.rs.length cp877, .slice Aj877 (unr g (kn : Int)).1.bs.length cj877], .bool false, .int .i64 (unr g (kn : Int)).2.2])) rfl _ rfl) ?_
  intro a883 hA883; clear hA882
  refine sx_val (v := .bool false) hA883 rfl (ev_ext (hA883.ev (i := 187) (v := .tuple #[.agg #[.slice Ap877 (unr g (kn : Int)).1.rs.length cp877, .slice Aj877 (unr g (kn : Int)).1.bs.length cj877], .bool false, .int .i64 (unr g (kn : Int)).2.2])) rfl _ rfl) ?_
  intro a884 hA884; clear hA883
  refine sx_val (v := .int .i64 (unr g (kn : Int)).2.2) hA884 rfl (ev_ext (hA884.ev (i := 187) (v := .tuple #[.agg #[.slice Ap877 (unr g (kn : Int)).1.rs.length cp877, .slice Aj877 (unr g (kn : Int)).1.bs.length cj877], .bool false, .int .i64 (unr g (kn : Int)).2.2])) rfl _ rfl) ?_
  intro a885 hA885; clear hA884
  refine sx_new (cs := #[.slice none 0 0, .slice none 0 0]) (t := 25) hA885 rfl (by decide) (.inl rfl) (ev_alloc (z := .agg (#[.slice none 0 0, .slice none 0 0])) (by kernel_rfl) (by kernel_rfl) _ rfl) ?_
  intro B886 w886 a886 hB886 hx886 hg886 hA886
  clear hA885
  have hs886 := hg886.size
  have hl886 := hx886.lt
  refine sx_store hA886 rfl (.inl rfl) rfl (hA886.ev (i := 27) (v := .pointer (some ⟨B886, 0, none⟩))) (hA886.ev (i := 191) (v := .agg #[.slice Ap877 (unr g (kn : Int)).1.rs.length cp877, .slice Aj877 (unr g (kn : Int)).1.bs.length cj877])) hx886 (by kernel_rfl) rfl (by simp [Value.oneCell']) ?_
  intro w887 hx887 hg887
  have hs887 := hg887.size
  refine sx_val hA886 rfl (ev_assign (hA886.ev (i := 192) (v := .bool false)) _ rfl) ?_
  intro a888 hA888; clear hA886
  refine sx_val hA888 rfl (ev_assign (hA888.ev (i := 193) (v := .int .i64 (unr g (kn : Int)).2.2)) _ rfl) ?_
  intro a889 hA889; clear hA888
  refine sx_nil ?_
  refine then_n ?_
  refine wp_seq ?_
  refine wp_region_lit ?_
  refine sx_val (v := .agg #[.slice Ap877 (unr g (kn : Int)).1.rs.length cp877, .slice Aj877 (unr g (kn : Int)).1.bs.length cj877]) hA889 rfl (ev_row (hA889.ev (i := 27) (v := .pointer (some ⟨B886, 0, none⟩))) hx887 Try.underlying25 rfl (n := 2) (by kernel_rfl) rfl _ rfl) ?_
  intro a890 hA890; clear hA889
  refine sx_val hA890 rfl (ev_move (hA890.ev (i := 14) (v := .int .i64 (kn : Int))) _ rfl) ?_
  intro a891 hA891; clear hA890
  have hln892_0 := unr_len g (kn : Int)
  have hlm892_0 := hln892_0.1
  replace hln892_0 := hln892_0.2
  have ho877_893 := Own.gN ho877_0 hg886
  have ho877_894 := Own.gBT ho877_893 hg887 hx886 (by decide)
  have ho877_895 := Own.gN ho877_1 hg886
  have ho877_896 := Own.gBT ho877_895 hg887 hx886 (by decide)
  refine sx_call (f := 18) (args := #[.agg #[.slice Ap877 (unr g (kn : Int)).1.rs.length cp877, .slice Aj877 (unr g (kn : Int)).1.bs.length cj877], .int .i64 (kn : Int)]) hA891 rfl (by decide) (.inl rfl) (ev_fn rfl (mp2 (hA891.ev (i := 195) (v := .agg #[.slice Ap877 (unr g (kn : Int)).1.rs.length cp877, .slice Aj877 (unr g (kn : Int)).1.bs.length cj877])) (hA891.ev (i := 196) (v := .int .i64 (kn : Int)))) (by kernel_rfl) _ rfl) (Settle_any Ap877 cp877 Aj877 cj877 (unr g (kn : Int)).1.rs (unr g (kn : Int)).1.bs (kn : Int) _ ⟨(OwnR.gr (e := 3) ⟨rfl, ho877_894⟩), (OwnR.gr (e := 4) ⟨rfl, ho877_896⟩)⟩ (by omega) (by omega)) ?_
  intro e892 w892 hR892
  obtain ⟨Ap892, cp892, Aj892, cj892, rfl, hC892, hJ892, hb892⟩ := hR892
  refine ⟨_, rfl, ?_⟩
  intro a892 hA892
  clear hA891
  have hg892 := g0 hb892
  have hs892 := hg892.size
  clear hb892
  have ho892_0 : Own w892 (w887.heap.size) 3 1 (.slice Ap892 (stl (unr g (kn : Int)).1 (kn : Int)).1.rs.length cp892) (stl (unr g (kn : Int)).1 (kn : Int)).1.rs.length (flat iva (stl (unr g (kn : Int)).1 (kn : Int)).1.rs) := hC892
  have hh892_0 := Own.hi ho892_0
  have ho892_1 : Own w892 (w887.heap.size) 4 1 (.slice Aj892 (stl (unr g (kn : Int)).1 (kn : Int)).1.bs.length cj892) (stl (unr g (kn : Int)).1 (kn : Int)).1.bs.length (flat bva (stl (unr g (kn : Int)).1 (kn : Int)).1.bs) := hJ892
  have hh892_1 := Own.hi ho892_1
  refine sx_val hA892 rfl (ev_move (hA892.ev (i := 197) (v := .tuple #[.agg #[.slice Ap892 (stl (unr g (kn : Int)).1 (kn : Int)).1.rs.length cp892, .slice Aj892 (stl (unr g (kn : Int)).1 (kn : Int)).1.bs.length cj892], .bool (stl (unr g (kn : Int)).1 (kn : Int)).2.1, .int .i64 (stl (unr g (kn : Int)).1 (kn : Int)).2.2])) _ rfl) ?_
  intro a897 hA897; clear hA892
  rw [he6] at hA897
  refine sx_val (v := .agg #[.slice Ap892 (stl (unr g (kn : Int)).1 (kn : Int)).1.rs.length cp892, .slice Aj892 (stl (unr g (kn : Int)).1 (kn : Int)).1.bs.length cj892]) hA897 rfl (ev_ext (hA897.ev (i := 194) (v := .tuple #[.agg #[.slice Ap892 (stl (unr g (kn : Int)).1 (kn : Int)).1.rs.length cp892, .slice Aj892 (stl (unr g (kn : Int)).1 (kn : Int)).1.bs.length cj892], .bool true, .int .i64 (stl (unr g (kn : Int)).1 (kn : Int)).2.2])) rfl _ rfl) ?_
  intro a898 hA898; clear hA897
  refine sx_val (v := .bool true) hA898 rfl (ev_ext (hA898.ev (i := 194) (v := .tuple #[.agg #[.slice Ap892 (stl (unr g (kn : Int)).1 (kn : Int)).1.rs.length cp892, .slice Aj892 (stl (unr g (kn : Int)).1 (kn : Int)).1.bs.length cj892], .bool true, .int .i64 (stl (unr g (kn : Int)).1 (kn : Int)).2.2])) rfl _ rfl) ?_
  intro a899 hA899; clear hA898
  refine sx_val (v := .int .i64 (stl (unr g (kn : Int)).1 (kn : Int)).2.2) hA899 rfl (ev_ext (hA899.ev (i := 194) (v := .tuple #[.agg #[.slice Ap892 (stl (unr g (kn : Int)).1 (kn : Int)).1.rs.length cp892, .slice Aj892 (stl (unr g (kn : Int)).1 (kn : Int)).1.bs.length cj892], .bool true, .int .i64 (stl (unr g (kn : Int)).1 (kn : Int)).2.2])) rfl _ rfl) ?_
  intro a900 hA900; clear hA899
  refine sx_new (cs := #[.slice none 0 0, .slice none 0 0]) (t := 25) hA900 rfl (by decide) (.inl rfl) (ev_alloc (z := .agg (#[.slice none 0 0, .slice none 0 0])) (by kernel_rfl) (by kernel_rfl) _ rfl) ?_
  intro B901 w901 a901 hB901 hx901 hg901 hA901
  clear hA900
  have hs901 := hg901.size
  have hl901 := hx901.lt
  refine sx_store hA901 rfl (.inl rfl) rfl (hA901.ev (i := 30) (v := .pointer (some ⟨B901, 0, none⟩))) (hA901.ev (i := 198) (v := .agg #[.slice Ap892 (stl (unr g (kn : Int)).1 (kn : Int)).1.rs.length cp892, .slice Aj892 (stl (unr g (kn : Int)).1 (kn : Int)).1.bs.length cj892])) hx901 (by kernel_rfl) rfl (by simp [Value.oneCell']) ?_
  intro w902 hx902 hg902
  have hs902 := hg902.size
  refine sx_val hA901 rfl (ev_assign (hA901.ev (i := 199) (v := .bool true)) _ rfl) ?_
  intro a903 hA903; clear hA901
  refine sx_val hA903 rfl (ev_assign (hA903.ev (i := 200) (v := .int .i64 (stl (unr g (kn : Int)).1 (kn : Int)).2.2)) _ rfl) ?_
  intro a904 hA904; clear hA903
  refine sx_nil ?_
  refine then_n ?_
  refine wp_seq ?_
  refine wp_region_lit ?_
  have f26_905 := f26_767.gN hg877
  have f26_906 := f26_905.gN hg886
  have f26_907 := f26_906.gB hg887 (by omega)
  have f26_908 := f26_907.gN hg892
  have f26_909 := f26_908.gN hg901
  have f26_910 := f26_909.gB hg902 (by omega)
  refine sx_val (v := .agg #[.slice A1g g.rs.length c1g, .slice A2g g.bs.length c2g]) hA904 rfl (ev_row (hA904.ev (i := 8) (v := .pointer (some ⟨B13, 0, none⟩))) f26_910 Try.underlying25 rfl (n := 2) (by kernel_rfl) rfl _ rfl) ?_
  intro a911 hA911; clear hA904
  refine sx_val hA911 rfl (ev_move (hA911.ev (i := 14) (v := .int .i64 (kn : Int))) _ rfl) ?_
  intro a912 hA912; clear hA911
  have f26_914 := Own.gN f26_860 hg877
  have f26_915 := Own.gN f26_914 hg886
  have f26_916 := Own.gBT f26_915 hg887 hx886 (by decide)
  have f26_917 := Own.gN f26_916 hg892
  have f26_918 := Own.gN f26_917 hg901
  have f26_919 := Own.gBT f26_918 hg902 hx901 (by decide)
  have f26_920 := Own.gN f26_771 hg877
  have f26_921 := Own.gN f26_920 hg886
  have f26_922 := Own.gBT f26_921 hg887 hx886 (by decide)
  have f26_923 := Own.gN f26_922 hg892
  have f26_924 := Own.gN f26_923 hg901
  have f26_925 := Own.gBT f26_924 hg902 hx901 (by decide)
  refine sx_call (f := 18) (args := #[.agg #[.slice A1g g.rs.length c1g, .slice A2g g.bs.length c2g], .int .i64 (kn : Int)]) hA912 rfl (by decide) (.inl rfl) (ev_fn rfl (mp2 (hA912.ev (i := 202) (v := .agg #[.slice A1g g.rs.length c1g, .slice A2g g.bs.length c2g])) (hA912.ev (i := 203) (v := .int .i64 (kn : Int)))) (by kernel_rfl) _ rfl) (Settle_any A1g c1g A2g c2g g.rs g.bs (kn : Int) _ ⟨(OwnR.gr (e := 3) ⟨rfl, f26_919⟩), (OwnR.gr (e := 4) ⟨rfl, f26_925⟩)⟩ (by omega) (by omega)) ?_
  intro e913 w913 hR913
  obtain ⟨Ap913, cp913, Aj913, cj913, rfl, hC913, hJ913, hb913⟩ := hR913
  refine ⟨_, rfl, ?_⟩
  intro a913 hA913
  clear hA912
  have hg913 := g0 hb913
  have hs913 := hg913.size
  clear hb913
  have ho913_0 : Own w913 (w902.heap.size) 3 1 (.slice Ap913 (stl g (kn : Int)).1.rs.length cp913) (stl g (kn : Int)).1.rs.length (flat iva (stl g (kn : Int)).1.rs) := hC913
  have hh913_0 := Own.hi ho913_0
  have ho913_1 : Own w913 (w902.heap.size) 4 1 (.slice Aj913 (stl g (kn : Int)).1.bs.length cj913) (stl g (kn : Int)).1.bs.length (flat bva (stl g (kn : Int)).1.bs) := hJ913
  have hh913_1 := Own.hi ho913_1
  refine sx_val hA913 rfl (ev_move (hA913.ev (i := 204) (v := .tuple #[.agg #[.slice Ap913 (stl g (kn : Int)).1.rs.length cp913, .slice Aj913 (stl g (kn : Int)).1.bs.length cj913], .bool (stl g (kn : Int)).2.1, .int .i64 (stl g (kn : Int)).2.2])) _ rfl) ?_
  intro a926 hA926; clear hA913
  rw [he7] at hA926
  refine sx_val (v := .agg #[.slice Ap913 (stl g (kn : Int)).1.rs.length cp913, .slice Aj913 (stl g (kn : Int)).1.bs.length cj913]) hA926 rfl (ev_ext (hA926.ev (i := 201) (v := .tuple #[.agg #[.slice Ap913 (stl g (kn : Int)).1.rs.length cp913, .slice Aj913 (stl g (kn : Int)).1.bs.length cj913], .bool false, .int .i64 (stl g (kn : Int)).2.2])) rfl _ rfl) ?_
  intro a927 hA927; clear hA926
  refine sx_val (v := .bool false) hA927 rfl (ev_ext (hA927.ev (i := 201) (v := .tuple #[.agg #[.slice Ap913 (stl g (kn : Int)).1.rs.length cp913, .slice Aj913 (stl g (kn : Int)).1.bs.length cj913], .bool false, .int .i64 (stl g (kn : Int)).2.2])) rfl _ rfl) ?_
  intro a928 hA928; clear hA927
  refine sx_val (v := .int .i64 (stl g (kn : Int)).2.2) hA928 rfl (ev_ext (hA928.ev (i := 201) (v := .tuple #[.agg #[.slice Ap913 (stl g (kn : Int)).1.rs.length cp913, .slice Aj913 (stl g (kn : Int)).1.bs.length cj913], .bool false, .int .i64 (stl g (kn : Int)).2.2])) rfl _ rfl) ?_
  intro a929 hA929; clear hA928
  refine sx_new (cs := #[.slice none 0 0, .slice none 0 0]) (t := 25) hA929 rfl (by decide) (.inl rfl) (ev_alloc (z := .agg (#[.slice none 0 0, .slice none 0 0])) (by kernel_rfl) (by kernel_rfl) _ rfl) ?_
  intro B930 w930 a930 hB930 hx930 hg930 hA930
  clear hA929
  have hs930 := hg930.size
  have hl930 := hx930.lt
  refine sx_store hA930 rfl (.inl rfl) rfl (hA930.ev (i := 33) (v := .pointer (some ⟨B930, 0, none⟩))) (hA930.ev (i := 205) (v := .agg #[.slice Ap913 (stl g (kn : Int)).1.rs.length cp913, .slice Aj913 (stl g (kn : Int)).1.bs.length cj913])) hx930 (by kernel_rfl) rfl (by simp [Value.oneCell']) ?_
  intro w931 hx931 hg931
  have hs931 := hg931.size
  refine sx_val hA930 rfl (ev_assign (hA930.ev (i := 206) (v := .bool false)) _ rfl) ?_
  intro a932 hA932; clear hA930
  refine sx_val hA932 rfl (ev_assign (hA932.ev (i := 207) (v := .int .i64 (stl g (kn : Int)).2.2)) _ rfl) ?_
  intro a933 hA933; clear hA932
  refine sx_nil ?_
  refine then_n ?_
  refine wp_seq ?_
  refine wp_region_lit ?_
  refine sx_val (v := .agg #[.slice Ap913 (stl g (kn : Int)).1.rs.length cp913, .slice Aj913 (stl g (kn : Int)).1.bs.length cj913]) hA933 rfl (ev_row (hA933.ev (i := 33) (v := .pointer (some ⟨B930, 0, none⟩))) hx931 Try.underlying25 rfl (n := 2) (by kernel_rfl) rfl _ rfl) ?_
  intro a934 hA934; clear hA933
  refine sx_val hA934 rfl (ev_move (hA934.ev (i := 14) (v := .int .i64 (kn : Int))) _ rfl) ?_
  intro a935 hA935; clear hA934
  have hln936_0 := stl_len g (kn : Int)
  have hlm936_0 := hln936_0.1
  replace hln936_0 := hln936_0.2
  have ho913_937 := Own.gN ho913_0 hg930
  have ho913_938 := Own.gBT ho913_937 hg931 hx930 (by decide)
  have ho913_939 := Own.gN ho913_1 hg930
  have ho913_940 := Own.gBT ho913_939 hg931 hx930 (by decide)
  refine sx_call (f := 14) (args := #[.agg #[.slice Ap913 (stl g (kn : Int)).1.rs.length cp913, .slice Aj913 (stl g (kn : Int)).1.bs.length cj913], .int .i64 (kn : Int)]) hA935 rfl (by decide) (.inl rfl) (ev_fn rfl (mp2 (hA935.ev (i := 209) (v := .agg #[.slice Ap913 (stl g (kn : Int)).1.rs.length cp913, .slice Aj913 (stl g (kn : Int)).1.bs.length cj913])) (hA935.ev (i := 210) (v := .int .i64 (kn : Int)))) (by kernel_rfl) _ rfl) (Unref_any Ap913 cp913 Aj913 cj913 (stl g (kn : Int)).1.rs (stl g (kn : Int)).1.bs (kn : Int) _ ⟨(OwnR.gr (e := 3) ⟨rfl, ho913_938⟩), (OwnR.gr (e := 4) ⟨rfl, ho913_940⟩)⟩ (by omega) (by omega)) ?_
  intro e936 w936 hR936
  obtain ⟨Ap936, cp936, Aj936, cj936, rfl, hC936, hJ936, hb936⟩ := hR936
  refine ⟨_, rfl, ?_⟩
  intro a936 hA936
  clear hA935
  have hg936 := g0 hb936
  have hs936 := hg936.size
  clear hb936
  have ho936_0 : Own w936 (w931.heap.size) 3 1 (.slice Ap936 (unr (stl g (kn : Int)).1 (kn : Int)).1.rs.length cp936) (unr (stl g (kn : Int)).1 (kn : Int)).1.rs.length (flat iva (unr (stl g (kn : Int)).1 (kn : Int)).1.rs) := hC936
  have hh936_0 := Own.hi ho936_0
  have ho936_1 : Own w936 (w931.heap.size) 4 1 (.slice Aj936 (unr (stl g (kn : Int)).1 (kn : Int)).1.bs.length cj936) (unr (stl g (kn : Int)).1 (kn : Int)).1.bs.length (flat bva (unr (stl g (kn : Int)).1 (kn : Int)).1.bs) := hJ936
  have hh936_1 := Own.hi ho936_1
  refine sx_val hA936 rfl (ev_move (hA936.ev (i := 211) (v := .tuple #[.agg #[.slice Ap936 (unr (stl g (kn : Int)).1 (kn : Int)).1.rs.length cp936, .slice Aj936 (unr (stl g (kn : Int)).1 (kn : Int)).1.bs.length cj936], .bool (unr (stl g (kn : Int)).1 (kn : Int)).2.1, .int .i64 (unr (stl g (kn : Int)).1 (kn : Int)).2.2])) _ rfl) ?_
  intro a941 hA941; clear hA936
  rw [he8] at hA941
  refine sx_val (v := .agg #[.slice Ap936 (unr (stl g (kn : Int)).1 (kn : Int)).1.rs.length cp936, .slice Aj936 (unr (stl g (kn : Int)).1 (kn : Int)).1.bs.length cj936]) hA941 rfl (ev_ext (hA941.ev (i := 208) (v := .tuple #[.agg #[.slice Ap936 (unr (stl g (kn : Int)).1 (kn : Int)).1.rs.length cp936, .slice Aj936 (unr (stl g (kn : Int)).1 (kn : Int)).1.bs.length cj936], .bool true, .int .i64 (unr (stl g (kn : Int)).1 (kn : Int)).2.2])) rfl _ rfl) ?_
  intro a942 hA942; clear hA941
  refine sx_val (v := .bool true) hA942 rfl (ev_ext (hA942.ev (i := 208) (v := .tuple #[.agg #[.slice Ap936 (unr (stl g (kn : Int)).1 (kn : Int)).1.rs.length cp936, .slice Aj936 (unr (stl g (kn : Int)).1 (kn : Int)).1.bs.length cj936], .bool true, .int .i64 (unr (stl g (kn : Int)).1 (kn : Int)).2.2])) rfl _ rfl) ?_
  intro a943 hA943; clear hA942
  refine sx_val (v := .int .i64 (unr (stl g (kn : Int)).1 (kn : Int)).2.2) hA943 rfl (ev_ext (hA943.ev (i := 208) (v := .tuple #[.agg #[.slice Ap936 (unr (stl g (kn : Int)).1 (kn : Int)).1.rs.length cp936, .slice Aj936 (unr (stl g (kn : Int)).1 (kn : Int)).1.bs.length cj936], .bool true, .int .i64 (unr (stl g (kn : Int)).1 (kn : Int)).2.2])) rfl _ rfl) ?_
  intro a944 hA944; clear hA943
  refine sx_new (cs := #[.slice none 0 0, .slice none 0 0]) (t := 25) hA944 rfl (by decide) (.inl rfl) (ev_alloc (z := .agg (#[.slice none 0 0, .slice none 0 0])) (by kernel_rfl) (by kernel_rfl) _ rfl) ?_
  intro B945 w945 a945 hB945 hx945 hg945 hA945
  clear hA944
  have hs945 := hg945.size
  have hl945 := hx945.lt
  refine sx_store hA945 rfl (.inl rfl) rfl (hA945.ev (i := 36) (v := .pointer (some ⟨B945, 0, none⟩))) (hA945.ev (i := 212) (v := .agg #[.slice Ap936 (unr (stl g (kn : Int)).1 (kn : Int)).1.rs.length cp936, .slice Aj936 (unr (stl g (kn : Int)).1 (kn : Int)).1.bs.length cj936])) hx945 (by kernel_rfl) rfl (by simp [Value.oneCell']) ?_
  intro w946 hx946 hg946
  have hs946 := hg946.size
  refine sx_val hA945 rfl (ev_assign (hA945.ev (i := 213) (v := .bool true)) _ rfl) ?_
  intro a947 hA947; clear hA945
  refine sx_val hA947 rfl (ev_assign (hA947.ev (i := 214) (v := .int .i64 (unr (stl g (kn : Int)).1 (kn : Int)).2.2)) _ rfl) ?_
  intro a948 hA948; clear hA947
  refine sx_nil ?_
  refine then_n ?_
  refine wp_seq ?_
  refine wp_region_lit ?_
  refine sx_val hA948 rfl (ev_move (hA948.ev (i := 7) (v := .bool true)) _ rfl) ?_
  intro a949 hA949; clear hA948
  refine sx_val hA949 rfl (ev_move (hA949.ev (i := 215) (v := .bool true)) _ rfl) ?_
  intro a950 hA950; clear hA949
  refine sx_val (hg := (.inr ⟨1, true, 216, rfl, rfl, by kernel_rfl⟩)) hA950 rfl (ev_move (hA950.ev (i := 29) (v := .int .i64 (unr g (kn : Int)).2.2)) _ rfl) ?_
  intro a951 hA951; clear hA950
  refine sx_val (hg := (.inr ⟨1, true, 216, rfl, rfl, by kernel_rfl⟩)) (v := .bool true) hA951 rfl (ev_eqlB (k := .i64) (m := (unr g (kn : Int)).2.2) (n := 0) (hA951.ev (i := 217)) (ec _ (.int .i64 0)) hf878 _ rfl) ?_
  intro a952 hA952; clear hA951
  refine sx_val hA952 rfl (ev_pickT (hA952.ev (i := 216) (v := .bool true)) (hA952.ev (i := 218) (v := .bool true)) _ rfl) ?_
  intro a953 hA953; clear hA952
  refine sx_val hA953 rfl (ev_move (hA953.ev (i := 219) (v := .bool true)) _ rfl) ?_
  intro a954 hA954; clear hA953
  refine sx_val (hg := (.inr ⟨5, true, 220, rfl, rfl, by kernel_rfl⟩)) hA954 rfl (ev_move (hA954.ev (i := 32) (v := .int .i64 (stl (unr g (kn : Int)).1 (kn : Int)).2.2)) _ rfl) ?_
  intro a955 hA955; clear hA954
  refine sx_val (hg := (.inr ⟨5, true, 220, rfl, rfl, by kernel_rfl⟩)) (v := .bool true) hA955 rfl (ev_eqlB (k := .i64) (m := (stl (unr g (kn : Int)).1 (kn : Int)).2.2) (n := 0) (hA955.ev (i := 221)) (ec _ (.int .i64 0)) hf879 _ rfl) ?_
  intro a956 hA956; clear hA955
  refine sx_val hA956 rfl (ev_pickT (hA956.ev (i := 220) (v := .bool true)) (hA956.ev (i := 222) (v := .bool true)) _ rfl) ?_
  intro a957 hA957; clear hA956
  refine sx_val hA957 rfl (ev_move (hA957.ev (i := 223) (v := .bool true)) _ rfl) ?_
  intro a958 hA958; clear hA957
  refine sx_val (hg := (.inr ⟨9, true, 224, rfl, rfl, by kernel_rfl⟩)) hA958 rfl (ev_move (hA958.ev (i := 35) (v := .int .i64 (stl g (kn : Int)).2.2)) _ rfl) ?_
  intro a959 hA959; clear hA958
  refine sx_val (hg := (.inr ⟨9, true, 224, rfl, rfl, by kernel_rfl⟩)) (v := .bool true) hA959 rfl (ev_eqlB (k := .i64) (m := (stl g (kn : Int)).2.2) (n := 0) (hA959.ev (i := 225)) (ec _ (.int .i64 0)) hf880 _ rfl) ?_
  intro a960 hA960; clear hA959
  refine sx_val hA960 rfl (ev_pickT (hA960.ev (i := 224) (v := .bool true)) (hA960.ev (i := 226) (v := .bool true)) _ rfl) ?_
  intro a961 hA961; clear hA960
  refine sx_val hA961 rfl (ev_move (hA961.ev (i := 227) (v := .bool true)) _ rfl) ?_
  intro a962 hA962; clear hA961
  refine sx_val (hg := (.inr ⟨13, true, 228, rfl, rfl, by kernel_rfl⟩)) hA962 rfl (ev_move (hA962.ev (i := 38) (v := .int .i64 (unr (stl g (kn : Int)).1 (kn : Int)).2.2)) _ rfl) ?_
  intro a963 hA963; clear hA962
  refine sx_val (hg := (.inr ⟨13, true, 228, rfl, rfl, by kernel_rfl⟩)) (v := .bool true) hA963 rfl (ev_eqlB (k := .i64) (m := (unr (stl g (kn : Int)).1 (kn : Int)).2.2) (n := 0) (hA963.ev (i := 229)) (ec _ (.int .i64 0)) hf881 _ rfl) ?_
  intro a964 hA964; clear hA963
  refine sx_val hA964 rfl (ev_pickT (hA964.ev (i := 228) (v := .bool true)) (hA964.ev (i := 230) (v := .bool true)) _ rfl) ?_
  intro a965 hA965; clear hA964
  refine sx_val hA965 rfl (ev_move (hA965.ev (i := 231) (v := .bool true)) _ rfl) ?_
  intro a966 hA966; clear hA965
  refine sx_val (hg := (.inr ⟨17, true, 232, rfl, rfl, by kernel_rfl⟩)) hA966 rfl (ev_move (hA966.ev (i := 28) (v := .bool false)) _ rfl) ?_
  intro a967 hA967; clear hA966
  refine sx_val (hg := (.inr ⟨17, true, 232, rfl, rfl, by kernel_rfl⟩)) (v := .bool true) hA967 rfl (ev_notF (hA967.ev (i := 233) (v := .bool false)) _ rfl) ?_
  intro a968 hA968; clear hA967
  refine sx_val hA968 rfl (ev_pickT (hA968.ev (i := 232) (v := .bool true)) (hA968.ev (i := 234) (v := .bool true)) _ rfl) ?_
  intro a969 hA969; clear hA968
  refine sx_val hA969 rfl (ev_move (hA969.ev (i := 235) (v := .bool true)) _ rfl) ?_
  intro a970 hA970; clear hA969
  refine sx_val (hg := (.inr ⟨21, true, 236, rfl, rfl, by kernel_rfl⟩)) hA970 rfl (ev_move (hA970.ev (i := 31) (v := .bool true)) _ rfl) ?_
  intro a971 hA971; clear hA970
  refine sx_val hA971 rfl (ev_pickT (hA971.ev (i := 236) (v := .bool true)) (hA971.ev (i := 237) (v := .bool true)) _ rfl) ?_
  intro a972 hA972; clear hA971
  refine sx_val hA972 rfl (ev_move (hA972.ev (i := 238) (v := .bool true)) _ rfl) ?_
  intro a973 hA973; clear hA972
  refine sx_val (hg := (.inr ⟨24, true, 239, rfl, rfl, by kernel_rfl⟩)) hA973 rfl (ev_move (hA973.ev (i := 34) (v := .bool false)) _ rfl) ?_
  intro a974 hA974; clear hA973
  refine sx_val (hg := (.inr ⟨24, true, 239, rfl, rfl, by kernel_rfl⟩)) (v := .bool true) hA974 rfl (ev_notF (hA974.ev (i := 240) (v := .bool false)) _ rfl) ?_
  intro a975 hA975; clear hA974
  refine sx_val hA975 rfl (ev_pickT (hA975.ev (i := 239) (v := .bool true)) (hA975.ev (i := 241) (v := .bool true)) _ rfl) ?_
  intro a976 hA976; clear hA975
  refine sx_val hA976 rfl (ev_move (hA976.ev (i := 242) (v := .bool true)) _ rfl) ?_
  intro a977 hA977; clear hA976
  refine sx_val (hg := (.inr ⟨28, true, 243, rfl, rfl, by kernel_rfl⟩)) hA977 rfl (ev_move (hA977.ev (i := 37) (v := .bool true)) _ rfl) ?_
  intro a978 hA978; clear hA977
  refine sx_val hA978 rfl (ev_pickT (hA978.ev (i := 243) (v := .bool true)) (hA978.ev (i := 244) (v := .bool true)) _ rfl) ?_
  intro a979 hA979; clear hA978
  refine sx_val hA979 rfl (ev_move (hA979.ev (i := 245) (v := .bool true)) _ rfl) ?_
  intro a980 hA980; clear hA979
  have hx902_981 := hx902.gN hg913
  have hx902_982 := hx902_981.gN hg930
  have hx902_983 := hx902_982.gB hg931 (by omega)
  have hx902_984 := hx902_983.gN hg936
  have hx902_985 := hx902_984.gN hg945
  have hx902_986 := hx902_985.gB hg946 (by omega)
  refine sx_val (hg := (.inr ⟨31, true, 246, rfl, rfl, by kernel_rfl⟩)) (v := .agg #[.slice Ap892 (stl (unr g (kn : Int)).1 (kn : Int)).1.rs.length cp892, .slice Aj892 (stl (unr g (kn : Int)).1 (kn : Int)).1.bs.length cj892]) hA980 rfl (ev_row (hA980.ev (i := 30) (v := .pointer (some ⟨B901, 0, none⟩))) hx902_986 Try.underlying25 rfl (n := 2) (by kernel_rfl) rfl _ rfl) ?_
  intro a987 hA987; clear hA980
  refine sx_val (hg := (.inr ⟨31, true, 246, rfl, rfl, by kernel_rfl⟩)) (v := .agg #[.slice Ap936 (unr (stl g (kn : Int)).1 (kn : Int)).1.rs.length cp936, .slice Aj936 (unr (stl g (kn : Int)).1 (kn : Int)).1.bs.length cj936]) hA987 rfl (ev_row (hA987.ev (i := 36) (v := .pointer (some ⟨B945, 0, none⟩))) hx946 Try.underlying25 rfl (n := 2) (by kernel_rfl) rfl _ rfl) ?_
  intro a988 hA988; clear hA987
  have ho892_990 := Own.gN ho892_0 hg901
  have ho892_991 := Own.gBT ho892_990 hg902 hx901 (by decide)
  have ho892_992 := Own.gN ho892_991 hg913
  have ho892_993 := Own.gN ho892_992 hg930
  have ho892_994 := Own.gBT ho892_993 hg931 hx930 (by decide)
  have ho892_995 := Own.gN ho892_994 hg936
  have ho892_996 := Own.gN ho892_995 hg945
  have ho892_997 := Own.gBT ho892_996 hg946 hx945 (by decide)
  have ho892_998 := Own.gN ho892_1 hg901
  have ho892_999 := Own.gBT ho892_998 hg902 hx901 (by decide)
  have ho892_1000 := Own.gN ho892_999 hg913
  have ho892_1001 := Own.gN ho892_1000 hg930
  have ho892_1002 := Own.gBT ho892_1001 hg931 hx930 (by decide)
  have ho892_1003 := Own.gN ho892_1002 hg936
  have ho892_1004 := Own.gN ho892_1003 hg945
  have ho892_1005 := Own.gBT ho892_1004 hg946 hx945 (by decide)
  have ho936_1006 := Own.gN ho936_0 hg945
  have ho936_1007 := Own.gBT ho936_1006 hg946 hx945 (by decide)
  have ho936_1008 := Own.gN ho936_1 hg945
  have ho936_1009 := Own.gBT ho936_1008 hg946 hx945 (by decide)
  refine sx_call (f := 13) (args := #[.agg #[.slice Ap892 (stl (unr g (kn : Int)).1 (kn : Int)).1.rs.length cp892, .slice Aj892 (stl (unr g (kn : Int)).1 (kn : Int)).1.bs.length cj892], .agg #[.slice Ap936 (unr (stl g (kn : Int)).1 (kn : Int)).1.rs.length cp936, .slice Aj936 (unr (stl g (kn : Int)).1 (kn : Int)).1.bs.length cj936]]) hA988 rfl (by decide) (.inr ⟨31, true, 246, rfl, rfl, by kernel_rfl⟩) (ev_fn rfl (mp2 (hA988.ev (i := 247) (v := .agg #[.slice Ap892 (stl (unr g (kn : Int)).1 (kn : Int)).1.rs.length cp892, .slice Aj892 (stl (unr g (kn : Int)).1 (kn : Int)).1.bs.length cj892])) (hA988.ev (i := 248) (v := .agg #[.slice Ap936 (unr (stl g (kn : Int)).1 (kn : Int)).1.rs.length cp936, .slice Aj936 (unr (stl g (kn : Int)).1 (kn : Int)).1.bs.length cj936]))) (by kernel_rfl) _ rfl) (SameSlots_any Ap892 cp892 Aj892 cj892 (stl (unr g (kn : Int)).1 (kn : Int)).1.rs (stl (unr g (kn : Int)).1 (kn : Int)).1.bs Ap936 cp936 Aj936 cj936 (unr (stl g (kn : Int)).1 (kn : Int)).1.rs (unr (stl g (kn : Int)).1 (kn : Int)).1.bs _ ⟨(OwnR.gr (e := 3) ⟨rfl, ho892_997⟩), (OwnR.gr (e := 4) ⟨rfl, ho892_1005⟩)⟩ ⟨(OwnR.gr (e := 3) ⟨rfl, ho936_1007⟩), (OwnR.gr (e := 4) ⟨rfl, ho936_1009⟩)⟩) ?_
  intro e989 w989 hR989
  obtain ⟨hv989, hb989⟩ := hR989
  rw [show sme (stl (unr g (kn : Int)).1 (kn : Int)).1 (unr (stl g (kn : Int)).1 (kn : Int)).1 = true from he9] at hv989
  subst hv989
  refine ⟨_, rfl, ?_⟩
  intro a989 hA989
  clear hA988
  have hg989 := g0 hb989
  have hs989 := hg989.size
  clear hb989
  refine sx_val hA989 rfl (ev_pickT (hA989.ev (i := 246) (v := .bool true)) (hA989.ev (i := 249) (v := .bool true)) _ rfl) ?_
  intro a1010 hA1010; clear hA989
  refine sx_val hA1010 rfl (ev_assign (hA1010.ev (i := 250) (v := .bool true)) _ rfl) ?_
  intro a1011 hA1011; clear hA1010
  refine sx_nil ?_
  refine then_n ?_
  refine wp_ret ?_
  refine bodyPost_ret (rs_t (v := .bool true) Try.results7 hA1011 (by kernel_rfl) ) hA1011.2.1 ?_
  have hbel26_1012 := Below.gN hbel26 hg685 hbel26.size
  have hbel26_1013 := Below.gN hbel26_1012 hg707 hbel26_1012.size
  have hbel26_1014 := Below.gN hbel26_1013 hg714 hbel26_1013.size
  have hbel26_1015 := Below.gB hbel26_1014 hg715 hbel26_1014.size (by omega)
  have hbel26_1016 := Below.gN hbel26_1015 hg719 hbel26_1015.size
  have hbel26_1017 := Below.gN hbel26_1016 hg728 hbel26_1016.size
  have hbel26_1018 := Below.gB hbel26_1017 hg729 hbel26_1017.size (by omega)
  have hbel26_1019 := Below.gN hbel26_1018 hg747 hbel26_1018.size
  have hbel26_1020 := Below.gN hbel26_1019 hg877 hbel26_1019.size
  have hbel26_1021 := Below.gN hbel26_1020 hg886 hbel26_1020.size
  have hbel26_1022 := Below.gB hbel26_1021 hg887 hbel26_1021.size (by omega)
  have hbel26_1023 := Below.gN hbel26_1022 hg892 hbel26_1022.size
  have hbel26_1024 := Below.gN hbel26_1023 hg901 hbel26_1023.size
  have hbel26_1025 := Below.gB hbel26_1024 hg902 hbel26_1024.size (by omega)
  have hbel26_1026 := Below.gN hbel26_1025 hg913 hbel26_1025.size
  have hbel26_1027 := Below.gN hbel26_1026 hg930 hbel26_1026.size
  have hbel26_1028 := Below.gB hbel26_1027 hg931 hbel26_1027.size (by omega)
  have hbel26_1029 := Below.gN hbel26_1028 hg936 hbel26_1028.size
  have hbel26_1030 := Below.gN hbel26_1029 hg945 hbel26_1029.size
  have hbel26_1031 := Below.gB hbel26_1030 hg946 hbel26_1030.size (by omega)
  have hbel26_1032 := Below.gN hbel26_1031 hg989 hbel26_1031.size
  exact ⟨rfl, hbel26_1032⟩
end Go.Proofs.Ytpoilgfblhacaaa
