/- Package disk: inRange; the reference: slot, frame. -/
import Derived.Test.YtbkdimildnahaaaDP
namespace Go.Proofs.Ytbkdimildnahaaa
open Go.RowKit
set_option linter.unusedVariables false
set_option maxRecDepth 100000

set_option maxHeartbeats 1000000 in
theorem inRange_any (A1 : Option Addr) (c1 : Nat) (A2 : Option Addr) (c2 : Nat) (cs : List Ct) (js : List Jb) (room : Int) (s f : Int) (w : World) : Calls Try.prog 43 #[.agg #[.slice A1 cs.length c1, .slice A2 js.length c2, .int .i64 room], .int .i64 s, .int .i64 f] w (RetB w (.returned (.bool (inR cs.length s f)))) := by
  have hbel0 := below0 w
  refine sx_enter (N := 24) [(0, .agg #[.slice A1 cs.length c1, .slice A2 js.length c2, .int .i64 room]), (1, .int .i64 s), (2, .int .i64 f)] Try.func43 rfl Try.ntmps43 (by simp) (fun a z d s => ((((Ag.nil z d).cons (s 2 _ rfl)).cons (s 1 _ rfl)).cons (s 0 _ rfl))) ?_
  intro a0 hA0
  refine wp_seq ?_
  refine wp_region_lit ?_
  refine sx_new (cs := #[.slice A1 cs.length c1, .slice A2 js.length c2, .int .i64 room]) (t := 25) hA0 rfl (by decide) (.inl rfl) (ev_box (hA0.ev (i := 0) (v := .agg #[.slice A1 cs.length c1, .slice A2 js.length c2, .int .i64 room])) rfl _ rfl) ?_
  intro B1 w1 a1 hB1 hx1 hg1 hA1
  clear hA0
  have hs1 := hg1.size
  have hl1 := hx1.lt
  refine sx_val hA1 rfl (ev_assign (ec _ (.bool false)) _ rfl) ?_
  intro a2 hA2; clear hA1
  refine sx_nil ?_
  refine then_n ?_
  refine wp_seq ?_
  refine wp_region_lit ?_
  refine sx_val hA2 rfl (ev_move (hA2.ev (i := 1) (v := .int .i64 s)) _ rfl) ?_
  intro a3 hA3; clear hA2
  cases hd4 : decide (0 ≤ s)
  · have hp4 := of_decide_eq_false hd4
    refine sx_val (v := .bool false) hA3 rfl (ev_geqB (k := .i64) (m := s) (n := 0) (hA3.ev (i := 7)) (ec _ (.int .i64 0)) hd4 _ rfl) ?_
    intro a5 hA5; clear hA3
    refine sx_val hA5 rfl (ev_move (hA5.ev (i := 8) (v := .bool false)) _ rfl) ?_
    intro a6 hA6; clear hA5
    refine sx_no (j := 2) (s := 9) (want := true) (b := false) hA6 rfl ?_
    intro a7 hA7; clear hA6
    refine sx_no (j := 2) (s := 9) (want := true) (b := false) hA7 rfl ?_
    intro a8 hA8; clear hA7
    refine sx_no (j := 2) (s := 9) (want := true) (b := false) hA8 rfl ?_
    intro a9 hA9; clear hA8
    refine sx_no (j := 2) (s := 9) (want := true) (b := false) hA9 rfl ?_
    intro a10 hA10; clear hA9
    refine sx_no (j := 2) (s := 9) (want := true) (b := false) hA10 rfl ?_
    intro a11 hA11; clear hA10
    refine sx_val hA11 rfl (ev_pickF (hA11.ev (i := 9) (v := .bool false)) (ec _ (.bool false)) _ rfl) ?_
    intro a12 hA12; clear hA11
    refine sx_val hA12 rfl (ev_move (hA12.ev (i := 15) (v := .bool false)) _ rfl) ?_
    intro a13 hA13; clear hA12
    refine sx_no (j := 9) (s := 16) (want := true) (b := false) hA13 rfl ?_
    intro a14 hA14; clear hA13
    refine sx_no (j := 9) (s := 16) (want := true) (b := false) hA14 rfl ?_
    intro a15 hA15; clear hA14
    refine sx_val hA15 rfl (ev_pickF (hA15.ev (i := 16) (v := .bool false)) (ec _ (.bool false)) _ rfl) ?_
    intro a16 hA16; clear hA15
    refine sx_val hA16 rfl (ev_move (hA16.ev (i := 19) (v := .bool false)) _ rfl) ?_
    intro a17 hA17; clear hA16
    refine sx_no (j := 13) (s := 20) (want := true) (b := false) hA17 rfl ?_
    intro a18 hA18; clear hA17
    refine sx_no (j := 13) (s := 20) (want := true) (b := false) hA18 rfl ?_
    intro a19 hA19; clear hA18
    refine sx_val hA19 rfl (ev_pickF (hA19.ev (i := 20) (v := .bool false)) (ec _ (.bool false)) _ rfl) ?_
    intro a20 hA20; clear hA19
    refine sx_val hA20 rfl (ev_assign (hA20.ev (i := 23) (v := .bool false)) _ rfl) ?_
    intro a21 hA21; clear hA20
    refine sx_nil ?_
    refine then_n ?_
    refine wp_ret ?_
    refine bodyPost_ret (rs_t (v := .bool false) Try.results43 hA21 (by kernel_rfl) ) hA21.2.1 ?_
    have hbel0_22 := Below.gN hbel0 hg1 hbel0.size
    exact ⟨by rw [show inR cs.length s f = false by simp [inR, hp4]; try omega], hbel0_22⟩
  have hp4 := of_decide_eq_true hd4
  refine sx_val (v := .bool true) hA3 rfl (ev_geqB (k := .i64) (m := s) (n := 0) (hA3.ev (i := 7)) (ec _ (.int .i64 0)) hd4 _ rfl) ?_
  intro a23 hA23; clear hA3
  refine sx_val hA23 rfl (ev_move (hA23.ev (i := 8) (v := .bool true)) _ rfl) ?_
  intro a24 hA24; clear hA23
  refine sx_val (hg := (.inr ⟨2, true, 9, rfl, rfl, by kernel_rfl⟩)) hA24 rfl (ev_move (hA24.ev (i := 1) (v := .int .i64 s)) _ rfl) ?_
  intro a25 hA25; clear hA24
  refine sx_val (hg := (.inr ⟨2, true, 9, rfl, rfl, by kernel_rfl⟩)) (v := .pointer (some ⟨B1, 0, none⟩)) hA25 rfl (fb_Disk_0 (hA25.ev (i := 3) (v := .pointer (some ⟨B1, 0, none⟩))) _ rfl) ?_
  intro a26 hA26; clear hA25
  refine sx_val (hg := (.inr ⟨2, true, 9, rfl, rfl, by kernel_rfl⟩)) (v := .slice A1 cs.length c1) hA26 rfl (ev_cell (v := .slice A1 cs.length c1) (hA26.ev (i := 11) (v := .pointer (some ⟨B1, 0, none⟩))) ((hx1.cell 0).trans rfl) Try.underlying22 rfl _ rfl) ?_
  intro a27 hA27; clear hA26
  refine sx_val (hg := (.inr ⟨2, true, 9, rfl, rfl, by kernel_rfl⟩)) (v := .int .i64 (cs.length : Int)) hA27 rfl (ev_len (hA27.ev (i := 12) (v := .slice A1 cs.length c1)) Try.underlying22 _ rfl) ?_
  intro a28 hA28; clear hA27
  cases hd29 : decide (s < (cs.length : Int))
  · have hp29 := of_decide_eq_false hd29
    refine sx_val (hg := (.inr ⟨2, true, 9, rfl, rfl, by kernel_rfl⟩)) (v := .bool false) hA28 rfl (ev_lssB (k := .i64) (m := s) (n := (cs.length : Int)) (hA28.ev (i := 10)) (hA28.ev (i := 13)) hd29 _ rfl) ?_
    intro a30 hA30; clear hA28
    refine sx_val hA30 rfl (ev_pickT (hA30.ev (i := 9) (v := .bool true)) (hA30.ev (i := 14) (v := .bool false)) _ rfl) ?_
    intro a31 hA31; clear hA30
    refine sx_val hA31 rfl (ev_move (hA31.ev (i := 15) (v := .bool false)) _ rfl) ?_
    intro a32 hA32; clear hA31
    refine sx_no (j := 9) (s := 16) (want := true) (b := false) hA32 rfl ?_
    intro a33 hA33; clear hA32
    refine sx_no (j := 9) (s := 16) (want := true) (b := false) hA33 rfl ?_
    intro a34 hA34; clear hA33
    refine sx_val hA34 rfl (ev_pickF (hA34.ev (i := 16) (v := .bool false)) (ec _ (.bool false)) _ rfl) ?_
    intro a35 hA35; clear hA34
    refine sx_val hA35 rfl (ev_move (hA35.ev (i := 19) (v := .bool false)) _ rfl) ?_
    intro a36 hA36; clear hA35
    refine sx_no (j := 13) (s := 20) (want := true) (b := false) hA36 rfl ?_
    intro a37 hA37; clear hA36
    refine sx_no (j := 13) (s := 20) (want := true) (b := false) hA37 rfl ?_
    intro a38 hA38; clear hA37
    refine sx_val hA38 rfl (ev_pickF (hA38.ev (i := 20) (v := .bool false)) (ec _ (.bool false)) _ rfl) ?_
    intro a39 hA39; clear hA38
    refine sx_val hA39 rfl (ev_assign (hA39.ev (i := 23) (v := .bool false)) _ rfl) ?_
    intro a40 hA40; clear hA39
    refine sx_nil ?_
    refine then_n ?_
    refine wp_ret ?_
    refine bodyPost_ret (rs_t (v := .bool false) Try.results43 hA40 (by kernel_rfl) ) hA40.2.1 ?_
    have hbel0_41 := Below.gN hbel0 hg1 hbel0.size
    exact ⟨by rw [show inR cs.length s f = false by simp [inR, hp4, hp29]; try omega], hbel0_41⟩
  have hp29 := of_decide_eq_true hd29
  refine sx_val (hg := (.inr ⟨2, true, 9, rfl, rfl, by kernel_rfl⟩)) (v := .bool true) hA28 rfl (ev_lssB (k := .i64) (m := s) (n := (cs.length : Int)) (hA28.ev (i := 10)) (hA28.ev (i := 13)) hd29 _ rfl) ?_
  intro a42 hA42; clear hA28
  refine sx_val hA42 rfl (ev_pickT (hA42.ev (i := 9) (v := .bool true)) (hA42.ev (i := 14) (v := .bool true)) _ rfl) ?_
  intro a43 hA43; clear hA42
  refine sx_val hA43 rfl (ev_move (hA43.ev (i := 15) (v := .bool true)) _ rfl) ?_
  intro a44 hA44; clear hA43
  refine sx_val (hg := (.inr ⟨9, true, 16, rfl, rfl, by kernel_rfl⟩)) hA44 rfl (ev_move (hA44.ev (i := 2) (v := .int .i64 f)) _ rfl) ?_
  intro a45 hA45; clear hA44
  cases hd46 : decide (0 ≤ f)
  · have hp46 := of_decide_eq_false hd46
    refine sx_val (hg := (.inr ⟨9, true, 16, rfl, rfl, by kernel_rfl⟩)) (v := .bool false) hA45 rfl (ev_geqB (k := .i64) (m := f) (n := 0) (hA45.ev (i := 17)) (ec _ (.int .i64 0)) hd46 _ rfl) ?_
    intro a47 hA47; clear hA45
    refine sx_val hA47 rfl (ev_pickT (hA47.ev (i := 16) (v := .bool true)) (hA47.ev (i := 18) (v := .bool false)) _ rfl) ?_
    intro a48 hA48; clear hA47
    refine sx_val hA48 rfl (ev_move (hA48.ev (i := 19) (v := .bool false)) _ rfl) ?_
    intro a49 hA49; clear hA48
    refine sx_no (j := 13) (s := 20) (want := true) (b := false) hA49 rfl ?_
    intro a50 hA50; clear hA49
    refine sx_no (j := 13) (s := 20) (want := true) (b := false) hA50 rfl ?_
    intro a51 hA51; clear hA50
    refine sx_val hA51 rfl (ev_pickF (hA51.ev (i := 20) (v := .bool false)) (ec _ (.bool false)) _ rfl) ?_
    intro a52 hA52; clear hA51
    refine sx_val hA52 rfl (ev_assign (hA52.ev (i := 23) (v := .bool false)) _ rfl) ?_
    intro a53 hA53; clear hA52
    refine sx_nil ?_
    refine then_n ?_
    refine wp_ret ?_
    refine bodyPost_ret (rs_t (v := .bool false) Try.results43 hA53 (by kernel_rfl) ) hA53.2.1 ?_
    have hbel0_54 := Below.gN hbel0 hg1 hbel0.size
    exact ⟨by rw [show inR cs.length s f = false by simp [inR, hp4, hp29, hp46]; try omega], hbel0_54⟩
  have hp46 := of_decide_eq_true hd46
  refine sx_val (hg := (.inr ⟨9, true, 16, rfl, rfl, by kernel_rfl⟩)) (v := .bool true) hA45 rfl (ev_geqB (k := .i64) (m := f) (n := 0) (hA45.ev (i := 17)) (ec _ (.int .i64 0)) hd46 _ rfl) ?_
  intro a55 hA55; clear hA45
  refine sx_val hA55 rfl (ev_pickT (hA55.ev (i := 16) (v := .bool true)) (hA55.ev (i := 18) (v := .bool true)) _ rfl) ?_
  intro a56 hA56; clear hA55
  refine sx_val hA56 rfl (ev_move (hA56.ev (i := 19) (v := .bool true)) _ rfl) ?_
  intro a57 hA57; clear hA56
  refine sx_val (hg := (.inr ⟨13, true, 20, rfl, rfl, by kernel_rfl⟩)) hA57 rfl (ev_move (hA57.ev (i := 2) (v := .int .i64 f)) _ rfl) ?_
  intro a58 hA58; clear hA57
  cases hd59 : decide (f < 256)
  rotate_left
  · have hp59 := of_decide_eq_true hd59
    refine sx_val (hg := (.inr ⟨13, true, 20, rfl, rfl, by kernel_rfl⟩)) (v := .bool true) hA58 rfl (ev_lssB (k := .i64) (m := f) (n := 256) (hA58.ev (i := 21)) (ec _ (.int .i64 256)) hd59 _ rfl) ?_
    intro a64 hA64; clear hA58
    refine sx_val hA64 rfl (ev_pickT (hA64.ev (i := 20) (v := .bool true)) (hA64.ev (i := 22) (v := .bool true)) _ rfl) ?_
    intro a65 hA65; clear hA64
    refine sx_val hA65 rfl (ev_assign (hA65.ev (i := 23) (v := .bool true)) _ rfl) ?_
    intro a66 hA66; clear hA65
    refine sx_nil ?_
    refine then_n ?_
    refine wp_ret ?_
    refine bodyPost_ret (rs_t (v := .bool true) Try.results43 hA66 (by kernel_rfl) ) hA66.2.1 ?_
    have hbel0_67 := Below.gN hbel0 hg1 hbel0.size
    exact ⟨by rw [show inR cs.length s f = true by simp [inR, hp4, hp29, hp46, hp59]; try omega], hbel0_67⟩
  have hp59 := of_decide_eq_false hd59
  refine sx_val (hg := (.inr ⟨13, true, 20, rfl, rfl, by kernel_rfl⟩)) (v := .bool false) hA58 rfl (ev_lssB (k := .i64) (m := f) (n := 256) (hA58.ev (i := 21)) (ec _ (.int .i64 256)) hd59 _ rfl) ?_
  intro a60 hA60; clear hA58
  refine sx_val hA60 rfl (ev_pickT (hA60.ev (i := 20) (v := .bool true)) (hA60.ev (i := 22) (v := .bool false)) _ rfl) ?_
  intro a61 hA61; clear hA60
  refine sx_val hA61 rfl (ev_assign (hA61.ev (i := 23) (v := .bool false)) _ rfl) ?_
  intro a62 hA62; clear hA61
  refine sx_nil ?_
  refine then_n ?_
  refine wp_ret ?_
  refine bodyPost_ret (rs_t (v := .bool false) Try.results43 hA62 (by kernel_rfl) ) hA62.2.1 ?_
  have hbel0_63 := Below.gN hbel0 hg1 hbel0.size
  exact ⟨by rw [show inR cs.length s f = false by simp [inR, hp4, hp29, hp46, hp59]; try omega], hbel0_63⟩

set_option maxHeartbeats 1000000 in
theorem slot_any (A1 : Option Addr) (c1 : Nat) (A2 : Option Addr) (c2 : Nat) (cs : List Ct) (js : List Jb) (room : Int) (s : Int) (w : World) : Calls Try.prog 44 #[.agg #[.slice A1 cs.length c1, .slice A2 js.length c2, .int .i64 room], .int .i64 s] w (RetB w (.returned (.bool (inS cs.length s)))) := by
  have hbel0 := below0 w
  refine sx_enter (N := 14) [(0, .agg #[.slice A1 cs.length c1, .slice A2 js.length c2, .int .i64 room]), (1, .int .i64 s)] Try.func44 rfl Try.ntmps44 (by simp) (fun a z d s => (((Ag.nil z d).cons (s 1 _ rfl)).cons (s 0 _ rfl))) ?_
  intro a0 hA0
  refine wp_seq ?_
  refine wp_region_lit ?_
  refine sx_new (cs := #[.slice A1 cs.length c1, .slice A2 js.length c2, .int .i64 room]) (t := 25) hA0 rfl (by decide) (.inl rfl) (ev_box (hA0.ev (i := 0) (v := .agg #[.slice A1 cs.length c1, .slice A2 js.length c2, .int .i64 room])) rfl _ rfl) ?_
  intro B1 w1 a1 hB1 hx1 hg1 hA1
  clear hA0
  have hs1 := hg1.size
  have hl1 := hx1.lt
  refine sx_val hA1 rfl (ev_assign (ec _ (.bool false)) _ rfl) ?_
  intro a2 hA2; clear hA1
  refine sx_nil ?_
  refine then_n ?_
  refine wp_seq ?_
  refine wp_region_lit ?_
  refine sx_val hA2 rfl (ev_move (hA2.ev (i := 1) (v := .int .i64 s)) _ rfl) ?_
  intro a3 hA3; clear hA2
  cases hd4 : decide (0 ≤ s)
  · have hp4 := of_decide_eq_false hd4
    refine sx_val (v := .bool false) hA3 rfl (ev_geqB (k := .i64) (m := s) (n := 0) (hA3.ev (i := 5)) (ec _ (.int .i64 0)) hd4 _ rfl) ?_
    intro a5 hA5; clear hA3
    refine sx_val hA5 rfl (ev_move (hA5.ev (i := 6) (v := .bool false)) _ rfl) ?_
    intro a6 hA6; clear hA5
    refine sx_no (j := 2) (s := 7) (want := true) (b := false) hA6 rfl ?_
    intro a7 hA7; clear hA6
    refine sx_no (j := 2) (s := 7) (want := true) (b := false) hA7 rfl ?_
    intro a8 hA8; clear hA7
    refine sx_no (j := 2) (s := 7) (want := true) (b := false) hA8 rfl ?_
    intro a9 hA9; clear hA8
    refine sx_no (j := 2) (s := 7) (want := true) (b := false) hA9 rfl ?_
    intro a10 hA10; clear hA9
    refine sx_no (j := 2) (s := 7) (want := true) (b := false) hA10 rfl ?_
    intro a11 hA11; clear hA10
    refine sx_val hA11 rfl (ev_pickF (hA11.ev (i := 7) (v := .bool false)) (ec _ (.bool false)) _ rfl) ?_
    intro a12 hA12; clear hA11
    refine sx_val hA12 rfl (ev_assign (hA12.ev (i := 13) (v := .bool false)) _ rfl) ?_
    intro a13 hA13; clear hA12
    refine sx_nil ?_
    refine then_n ?_
    refine wp_ret ?_
    refine bodyPost_ret (rs_t (v := .bool false) Try.results44 hA13 (by kernel_rfl) ) hA13.2.1 ?_
    have hbel0_14 := Below.gN hbel0 hg1 hbel0.size
    exact ⟨by rw [show inS cs.length s = false by simp [inS, hp4]; try omega], hbel0_14⟩
  have hp4 := of_decide_eq_true hd4
  refine sx_val (v := .bool true) hA3 rfl (ev_geqB (k := .i64) (m := s) (n := 0) (hA3.ev (i := 5)) (ec _ (.int .i64 0)) hd4 _ rfl) ?_
  intro a15 hA15; clear hA3
  refine sx_val hA15 rfl (ev_move (hA15.ev (i := 6) (v := .bool true)) _ rfl) ?_
  intro a16 hA16; clear hA15
  refine sx_val (hg := (.inr ⟨2, true, 7, rfl, rfl, by kernel_rfl⟩)) hA16 rfl (ev_move (hA16.ev (i := 1) (v := .int .i64 s)) _ rfl) ?_
  intro a17 hA17; clear hA16
  refine sx_val (hg := (.inr ⟨2, true, 7, rfl, rfl, by kernel_rfl⟩)) (v := .pointer (some ⟨B1, 0, none⟩)) hA17 rfl (fb_Disk_0 (hA17.ev (i := 2) (v := .pointer (some ⟨B1, 0, none⟩))) _ rfl) ?_
  intro a18 hA18; clear hA17
  refine sx_val (hg := (.inr ⟨2, true, 7, rfl, rfl, by kernel_rfl⟩)) (v := .slice A1 cs.length c1) hA18 rfl (ev_cell (v := .slice A1 cs.length c1) (hA18.ev (i := 9) (v := .pointer (some ⟨B1, 0, none⟩))) ((hx1.cell 0).trans rfl) Try.underlying22 rfl _ rfl) ?_
  intro a19 hA19; clear hA18
  refine sx_val (hg := (.inr ⟨2, true, 7, rfl, rfl, by kernel_rfl⟩)) (v := .int .i64 (cs.length : Int)) hA19 rfl (ev_len (hA19.ev (i := 10) (v := .slice A1 cs.length c1)) Try.underlying22 _ rfl) ?_
  intro a20 hA20; clear hA19
  cases hd21 : decide (s < (cs.length : Int))
  rotate_left
  · have hp21 := of_decide_eq_true hd21
    refine sx_val (hg := (.inr ⟨2, true, 7, rfl, rfl, by kernel_rfl⟩)) (v := .bool true) hA20 rfl (ev_lssB (k := .i64) (m := s) (n := (cs.length : Int)) (hA20.ev (i := 8)) (hA20.ev (i := 11)) hd21 _ rfl) ?_
    intro a26 hA26; clear hA20
    refine sx_val hA26 rfl (ev_pickT (hA26.ev (i := 7) (v := .bool true)) (hA26.ev (i := 12) (v := .bool true)) _ rfl) ?_
    intro a27 hA27; clear hA26
    refine sx_val hA27 rfl (ev_assign (hA27.ev (i := 13) (v := .bool true)) _ rfl) ?_
    intro a28 hA28; clear hA27
    refine sx_nil ?_
    refine then_n ?_
    refine wp_ret ?_
    refine bodyPost_ret (rs_t (v := .bool true) Try.results44 hA28 (by kernel_rfl) ) hA28.2.1 ?_
    have hbel0_29 := Below.gN hbel0 hg1 hbel0.size
    exact ⟨by rw [show inS cs.length s = true by simp [inS, hp4, hp21]; try omega], hbel0_29⟩
  have hp21 := of_decide_eq_false hd21
  refine sx_val (hg := (.inr ⟨2, true, 7, rfl, rfl, by kernel_rfl⟩)) (v := .bool false) hA20 rfl (ev_lssB (k := .i64) (m := s) (n := (cs.length : Int)) (hA20.ev (i := 8)) (hA20.ev (i := 11)) hd21 _ rfl) ?_
  intro a22 hA22; clear hA20
  refine sx_val hA22 rfl (ev_pickT (hA22.ev (i := 7) (v := .bool true)) (hA22.ev (i := 12) (v := .bool false)) _ rfl) ?_
  intro a23 hA23; clear hA22
  refine sx_val hA23 rfl (ev_assign (hA23.ev (i := 13) (v := .bool false)) _ rfl) ?_
  intro a24 hA24; clear hA23
  refine sx_nil ?_
  refine then_n ?_
  refine wp_ret ?_
  refine bodyPost_ret (rs_t (v := .bool false) Try.results44 hA24 (by kernel_rfl) ) hA24.2.1 ?_
  have hbel0_25 := Below.gN hbel0 hg1 hbel0.size
  exact ⟨by rw [show inS cs.length s = false by simp [inS, hp4, hp21]; try omega], hbel0_25⟩

set_option maxHeartbeats 1000000 in
theorem frame_any  (f : Int) (w : World) : Calls Try.prog 45 #[.int .i64 f] w (RetB w (.returned (.bool (inF f)))) := by
  have hbel0 := below0 w
  refine sx_enter (N := 9) [(0, .int .i64 f)] Try.func45 rfl Try.ntmps45 (by simp) (fun a z d s => ((Ag.nil z d).cons (s 0 _ rfl))) ?_
  intro a0 hA0
  refine wp_seq ?_
  refine wp_region_lit ?_
  refine sx_val hA0 rfl (ev_assign (ec _ (.bool false)) _ rfl) ?_
  intro a1 hA1; clear hA0
  refine sx_nil ?_
  refine then_n ?_
  refine wp_seq ?_
  refine wp_region_lit ?_
  refine sx_val hA1 rfl (ev_move (hA1.ev (i := 0) (v := .int .i64 f)) _ rfl) ?_
  intro a2 hA2; clear hA1
  cases hd3 : decide (0 ≤ f)
  · have hp3 := of_decide_eq_false hd3
    refine sx_val (v := .bool false) hA2 rfl (ev_geqB (k := .i64) (m := f) (n := 0) (hA2.ev (i := 3)) (ec _ (.int .i64 0)) hd3 _ rfl) ?_
    intro a4 hA4; clear hA2
    refine sx_val hA4 rfl (ev_move (hA4.ev (i := 4) (v := .bool false)) _ rfl) ?_
    intro a5 hA5; clear hA4
    refine sx_no (j := 2) (s := 5) (want := true) (b := false) hA5 rfl ?_
    intro a6 hA6; clear hA5
    refine sx_no (j := 2) (s := 5) (want := true) (b := false) hA6 rfl ?_
    intro a7 hA7; clear hA6
    refine sx_val hA7 rfl (ev_pickF (hA7.ev (i := 5) (v := .bool false)) (ec _ (.bool false)) _ rfl) ?_
    intro a8 hA8; clear hA7
    refine sx_val hA8 rfl (ev_assign (hA8.ev (i := 8) (v := .bool false)) _ rfl) ?_
    intro a9 hA9; clear hA8
    refine sx_nil ?_
    refine then_n ?_
    refine wp_ret ?_
    refine bodyPost_ret (rs_t (v := .bool false) Try.results45 hA9 (by kernel_rfl) ) hA9.2.1 ?_
    exact ⟨by rw [show inF f = false by simp [inF, hp3]; try omega], hbel0⟩
  have hp3 := of_decide_eq_true hd3
  refine sx_val (v := .bool true) hA2 rfl (ev_geqB (k := .i64) (m := f) (n := 0) (hA2.ev (i := 3)) (ec _ (.int .i64 0)) hd3 _ rfl) ?_
  intro a10 hA10; clear hA2
  refine sx_val hA10 rfl (ev_move (hA10.ev (i := 4) (v := .bool true)) _ rfl) ?_
  intro a11 hA11; clear hA10
  refine sx_val (hg := (.inr ⟨2, true, 5, rfl, rfl, by kernel_rfl⟩)) hA11 rfl (ev_move (hA11.ev (i := 0) (v := .int .i64 f)) _ rfl) ?_
  intro a12 hA12; clear hA11
  cases hd13 : decide (f < 256)
  rotate_left
  · have hp13 := of_decide_eq_true hd13
    refine sx_val (hg := (.inr ⟨2, true, 5, rfl, rfl, by kernel_rfl⟩)) (v := .bool true) hA12 rfl (ev_lssB (k := .i64) (m := f) (n := 256) (hA12.ev (i := 6)) (ec _ (.int .i64 256)) hd13 _ rfl) ?_
    intro a17 hA17; clear hA12
    refine sx_val hA17 rfl (ev_pickT (hA17.ev (i := 5) (v := .bool true)) (hA17.ev (i := 7) (v := .bool true)) _ rfl) ?_
    intro a18 hA18; clear hA17
    refine sx_val hA18 rfl (ev_assign (hA18.ev (i := 8) (v := .bool true)) _ rfl) ?_
    intro a19 hA19; clear hA18
    refine sx_nil ?_
    refine then_n ?_
    refine wp_ret ?_
    refine bodyPost_ret (rs_t (v := .bool true) Try.results45 hA19 (by kernel_rfl) ) hA19.2.1 ?_
    exact ⟨by rw [show inF f = true by simp [inF, hp3, hp13]; try omega], hbel0⟩
  have hp13 := of_decide_eq_false hd13
  refine sx_val (hg := (.inr ⟨2, true, 5, rfl, rfl, by kernel_rfl⟩)) (v := .bool false) hA12 rfl (ev_lssB (k := .i64) (m := f) (n := 256) (hA12.ev (i := 6)) (ec _ (.int .i64 256)) hd13 _ rfl) ?_
  intro a14 hA14; clear hA12
  refine sx_val hA14 rfl (ev_pickT (hA14.ev (i := 5) (v := .bool true)) (hA14.ev (i := 7) (v := .bool false)) _ rfl) ?_
  intro a15 hA15; clear hA14
  refine sx_val hA15 rfl (ev_assign (hA15.ev (i := 8) (v := .bool false)) _ rfl) ?_
  intro a16 hA16; clear hA15
  refine sx_nil ?_
  refine then_n ?_
  refine wp_ret ?_
  refine bodyPost_ret (rs_t (v := .bool false) Try.results45 hA16 (by kernel_rfl) ) hA16.2.1 ?_
  exact ⟨by rw [show inF f = false by simp [inF, hp3, hp13]; try omega], hbel0⟩
end Go.Proofs.Ytbkdimildnahaaa
