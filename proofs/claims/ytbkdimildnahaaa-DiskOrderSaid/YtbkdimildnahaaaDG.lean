/- Package disk: Find, Later. -/
import Derived.Test.YtbkdimildnahaaaDF
namespace Go.Proofs.Ytbkdimildnahaaa
open Go.RowKit
set_option linter.unusedVariables false
set_option maxRecDepth 100000

theorem jmf_fd {d : Dk} (hok : OkD d) (s : Int) : jmf d.js d.js.length (false, s) = (fdJ d.js s).map fun k => (k : Int) := by
  cases h : jmf d.js d.js.length (false, s) with
  | none =>
    have h1 := jmf_some (js := d.js) d.js.length false s
    rw [h, List.take_length] at h1
    have : fdJ d.js s = none := by
      unfold fdJ
      rw [List.findIdx?_eq_none_iff]
      intro x hx
      have h2 : (d.js.any fun x => if false = true then x.frame == s else x.slot == s) = false := h1.symm
      rw [List.any_eq_false] at h2
      simpa using h2 x hx
    rw [this]; rfl
  | some i =>
    obtain ⟨m, x, rfl, hm, hx, hs⟩ := jmf_at _ s i h
    have : fdJ d.js s = some m := by
      unfold fdJ
      rw [List.findIdx?_eq_some_iff_getElem]
      refine ⟨hm, ?_, ?_⟩
      · rw [List.getElem?_eq_getElem hm] at hx
        injection hx with hx
        rw [hx]; simp [hs]
      · intro j hj hp
        have hc := hok.apart m x hx
        have hjl : j < d.js.length := by omega
        have : clash d.js m x = true := by
          unfold clash
          rw [List.any_eq_true]
          refine ⟨d.js[j], ?_, ?_⟩
          · rw [List.mem_take_iff_getElem]
            exact ⟨j, by omega, rfl⟩
          · simp only [hits]
            rw [hs]
            simp only [hp, Bool.true_or]
        rw [this] at hc
        cases hc
    rw [this]; rfl
theorem jmf_ix {js : List Jb} {n : Nat} {s : Int} (h : (jmf js n (false, s)).isSome = true) : ∃ (m : Nat) (x : Jb), (jmf js n (false, s)).getD 0 = (m : Int) ∧ m < n ∧ js[m]? = some x ∧ x.slot = s ∧ jmf js n (false, s) = some (m : Int) := by
  cases h1 : jmf js n (false, s) with
  | none => rw [h1] at h; cases h
  | some i =>
    obtain ⟨m, x, rfl, hm, hx, hs⟩ := jmf_at _ s i h1
    exact ⟨m, x, rfl, hm, hx, hs, rfl⟩

set_option maxHeartbeats 4000000 in
theorem Find_any (A1 : Option Addr) (c1 : Nat) (A2 : Option Addr) (c2 : Nat) (cs : List Ct) (js : List Jb) (room : Int) (s : Int) (w : World) (hd : GD w A1 c1 A2 c2 cs js) (hl : cs.length ≤ 900000) (hj : js.length ≤ 900000) : Calls Try.prog 26 #[.agg #[.slice A1 cs.length c1, .slice A2 js.length c2, .int .i64 room], .int .i64 s] w (RetB w (.returned (.tuple #[.int .i64 (fnd ⟨cs, js, room⟩ s).1, .int .i64 (fnd ⟨cs, js, room⟩ s).2]))) := by
  have hbel0 := below0 w
  refine sx_enter (N := 38) [(0, .agg #[.slice A1 cs.length c1, .slice A2 js.length c2, .int .i64 room]), (1, .int .i64 s)] Try.func26 rfl Try.ntmps26 (by simp) (fun a z d s => (((Ag.nil z d).cons (s 1 _ rfl)).cons (s 0 _ rfl))) ?_
  intro a0 hA0
  refine wp_seq ?_
  refine wp_region_lit ?_
  refine sx_new (cs := #[.slice A1 cs.length c1, .slice A2 js.length c2, .int .i64 room]) (t := 25) hA0 rfl (by decide) (.inl rfl) (ev_box (hA0.ev (i := 0) (v := .agg #[.slice A1 cs.length c1, .slice A2 js.length c2, .int .i64 room])) rfl _ rfl) ?_
  intro B1 w1 a1 hB1 hx1 hg1 hA1
  clear hA0
  have hs1 := hg1.size
  have hl1 := hx1.lt
  refine sx_val hA1 rfl (ev_assign (ec _ (.int .i64 0)) _ rfl) ?_
  intro a2 hA2; clear hA1
  refine sx_val hA2 rfl (ev_assign (ec _ (.int .i64 0)) _ rfl) ?_
  intro a3 hA3; clear hA2
  refine sx_nil ?_
  refine then_n ?_
  refine wp_seq ?_
  refine wp_seq ?_
  refine wp_region_lit ?_
  refine sx_val (v := .agg #[.slice A1 cs.length c1, .slice A2 js.length c2, .int .i64 room]) hA3 rfl (ev_row (hA3.ev (i := 2) (v := .pointer (some ⟨B1, 0, none⟩))) hx1 Try.underlying25 rfl (n := 3) (by kernel_rfl) rfl _ rfl) ?_
  intro a4 hA4; clear hA3
  have hbel0_6 := Below.gN hbel0 hg1 hbel0.size
  refine sx_call (f := 24) (args := #[.agg #[.slice A1 cs.length c1, .slice A2 js.length c2, .int .i64 room]]) hA4 rfl (by decide) (.inl rfl) (ev_fn rfl (mp1 (hA4.ev (i := 11) (v := .agg #[.slice A1 cs.length c1, .slice A2 js.length c2, .int .i64 room]))) (by kernel_rfl) _ rfl) (Check_any A1 c1 A2 c2 cs js room _ ⟨(hd.s.below hbel0_6), (hd.j.below hbel0_6)⟩ (by omega)) ?_
  intro e5 w5 hR5
  obtain ⟨rfl, hb5⟩ := hR5
  refine ⟨_, rfl, ?_⟩
  intro a5 hA5
  clear hA4
  have hg5 := g0 hb5
  have hs5 := hg5.size
  clear hb5
  refine sx_val hA5 rfl (ev_move (hA5.ev (i := 12) (v := .tuple #[.int .i64 (chk ⟨cs, js, room⟩).1, .int .i64 (chk ⟨cs, js, room⟩).2])) _ rfl) ?_
  intro a7 hA7; clear hA5
  refine sx_val (v := .int .i64 (chk ⟨cs, js, room⟩).1) hA7 rfl (ev_ext (hA7.ev (i := 10) (v := .tuple #[.int .i64 (chk ⟨cs, js, room⟩).1, .int .i64 (chk ⟨cs, js, room⟩).2])) rfl _ rfl) ?_
  intro a8 hA8; clear hA7
  refine sx_val (v := .int .i64 (chk ⟨cs, js, room⟩).2) hA8 rfl (ev_ext (hA8.ev (i := 10) (v := .tuple #[.int .i64 (chk ⟨cs, js, room⟩).1, .int .i64 (chk ⟨cs, js, room⟩).2])) rfl _ rfl) ?_
  intro a9 hA9; clear hA8
  refine sx_val hA9 rfl (ev_assign (hA9.ev (i := 13) (v := .int .i64 (chk ⟨cs, js, room⟩).1)) _ rfl) ?_
  intro a10 hA10; clear hA9
  refine sx_val hA10 rfl (ev_assign (hA10.ev (i := 14) (v := .int .i64 (chk ⟨cs, js, room⟩).2)) _ rfl) ?_
  intro a11 hA11; clear hA10
  refine sx_nil ?_
  refine then_n ?_
  refine wp_seq ?_
  refine wp_region_lit ?_
  refine sx_val hA11 rfl (ev_move (hA11.ev (i := 6) (v := .int .i64 (chk ⟨cs, js, room⟩).1)) _ rfl) ?_
  intro a12 hA12; clear hA11
  cases hd13 : decide ((chk ⟨cs, js, room⟩).1 = 0)
  · have hp13 := of_decide_eq_false hd13
    refine sx_val (v := .bool true) hA12 rfl (ev_neqB (k := .i64) (m := (chk ⟨cs, js, room⟩).1) (n := 0) (hA12.ev (i := 15)) (ec _ (.int .i64 0)) (by simpa using hd13) _ rfl) ?_
    intro a14 hA14; clear hA12
    refine sx_nil ?_
    refine then_n ?_
    refine wp_cond_true (hA14.ev (i := 16) (v := .bool true)) ?_
    refine wp_seq ?_
    refine wp_region_lit ?_
    refine sx_val hA14 rfl (ev_move (hA14.ev (i := 6) (v := .int .i64 (chk ⟨cs, js, room⟩).1)) _ rfl) ?_
    intro a15 hA15; clear hA14
    refine sx_val hA15 rfl (ev_assign (ec _ (.int .i64 0)) _ rfl) ?_
    intro a16 hA16; clear hA15
    refine sx_val hA16 rfl (ev_assign (hA16.ev (i := 17) (v := .int .i64 (chk ⟨cs, js, room⟩).1)) _ rfl) ?_
    intro a17 hA17; clear hA16
    refine sx_nil ?_
    refine then_n ?_
    refine wp_ret ?_
    refine then_r ?_
    refine bodyPost_ret (rs_tt (v := .int .i64 0) (v2 := .int .i64 (chk ⟨cs, js, room⟩).1) Try.results26 hA17 (by kernel_rfl) (by kernel_rfl) ) hA17.2.1 ?_
    have hbel0_18 := Below.gN hbel0_6 hg5 hbel0_6.size
    have E : fnd ⟨cs, js, room⟩ s = (0, (chk ⟨cs, js, room⟩).1) := by
      unfold fnd
      exact if_neg hp13
    exact ⟨ret2 (by rw [E]), hbel0_18⟩
  have hp13 := of_decide_eq_true hd13
  refine sx_val (v := .bool false) hA12 rfl (ev_neqB (k := .i64) (m := (chk ⟨cs, js, room⟩).1) (n := 0) (hA12.ev (i := 15)) (ec _ (.int .i64 0)) (by simpa using hd13) _ rfl) ?_
  intro a19 hA19; clear hA12
  refine sx_nil ?_
  refine then_n ?_
  refine wp_cond_false (hA19.ev (i := 16) (v := .bool false)) ?_
  refine wp_skip ?_
  refine then_n ?_
  refine wp_seq ?_
  refine wp_seq ?_
  refine wp_region_lit ?_
  refine sx_val hA19 rfl (ev_move (hA19.ev (i := 1) (v := .int .i64 s)) _ rfl) ?_
  intro a20 hA20; clear hA19
  cases hd21 : decide (s < 0)
  rotate_left
  · have hp21 := of_decide_eq_true hd21
    refine sx_val (v := .bool true) hA20 rfl (ev_lssB (k := .i64) (m := s) (n := 0) (hA20.ev (i := 18)) (ec _ (.int .i64 0)) hd21 _ rfl) ?_
    intro a59 hA59; clear hA20
    refine sx_val hA59 rfl (ev_move (hA59.ev (i := 19) (v := .bool true)) _ rfl) ?_
    intro a60 hA60; clear hA59
    refine sx_no (j := 2) (s := 20) (want := false) (b := true) hA60 rfl ?_
    intro a61 hA61; clear hA60
    refine sx_no (j := 2) (s := 20) (want := false) (b := true) hA61 rfl ?_
    intro a62 hA62; clear hA61
    refine sx_no (j := 2) (s := 20) (want := false) (b := true) hA62 rfl ?_
    intro a63 hA63; clear hA62
    refine sx_no (j := 2) (s := 20) (want := false) (b := true) hA63 rfl ?_
    intro a64 hA64; clear hA63
    refine sx_no (j := 2) (s := 20) (want := false) (b := true) hA64 rfl ?_
    intro a65 hA65; clear hA64
    refine sx_val hA65 rfl (ev_pickT (hA65.ev (i := 20) (v := .bool true)) (ec _ (.bool true)) _ rfl) ?_
    intro a66 hA66; clear hA65
    refine sx_nil ?_
    refine then_n ?_
    refine wp_cond_true (hA66.ev (i := 26) (v := .bool true)) ?_
    refine wp_seq ?_
    refine wp_region_lit ?_
    refine sx_val hA66 rfl (ev_assign (ec _ (.int .i64 0)) _ rfl) ?_
    intro a67 hA67; clear hA66
    refine sx_val hA67 rfl (ev_assign (ec _ (.int .i64 2)) _ rfl) ?_
    intro a68 hA68; clear hA67
    refine sx_nil ?_
    refine then_n ?_
    refine wp_ret ?_
    refine then_r ?_
    refine bodyPost_ret (rs_tt (v := .int .i64 0) (v2 := .int .i64 2) Try.results26 hA68 (by kernel_rfl) (by kernel_rfl) ) hA68.2.1 ?_
    have hbel0_69 := Below.gN hbel0_6 hg5 hbel0_6.size
    have E : fnd ⟨cs, js, room⟩ s = (0, 2) := by
      unfold fnd
      rw [if_pos hp13, if_pos (by simp [inS]; omega)]
    exact ⟨ret2 (by rw [E]), hbel0_69⟩
  have hp21 := of_decide_eq_false hd21
  refine sx_val (v := .bool false) hA20 rfl (ev_lssB (k := .i64) (m := s) (n := 0) (hA20.ev (i := 18)) (ec _ (.int .i64 0)) hd21 _ rfl) ?_
  intro a22 hA22; clear hA20
  refine sx_val hA22 rfl (ev_move (hA22.ev (i := 19) (v := .bool false)) _ rfl) ?_
  intro a23 hA23; clear hA22
  refine sx_val (hg := (.inr ⟨2, false, 20, rfl, rfl, by kernel_rfl⟩)) hA23 rfl (ev_move (hA23.ev (i := 1) (v := .int .i64 s)) _ rfl) ?_
  intro a24 hA24; clear hA23
  refine sx_val (hg := (.inr ⟨2, false, 20, rfl, rfl, by kernel_rfl⟩)) (v := .pointer (some ⟨B1, 0, none⟩)) hA24 rfl (fb_Disk_0 (hA24.ev (i := 2) (v := .pointer (some ⟨B1, 0, none⟩))) _ rfl) ?_
  intro a25 hA25; clear hA24
  have hx1_26 := hx1.gN hg5
  refine sx_val (hg := (.inr ⟨2, false, 20, rfl, rfl, by kernel_rfl⟩)) (v := .slice A1 cs.length c1) hA25 rfl (ev_cell (v := .slice A1 cs.length c1) (hA25.ev (i := 22) (v := .pointer (some ⟨B1, 0, none⟩))) ((hx1_26.cell 0).trans rfl) Try.underlying22 rfl _ rfl) ?_
  intro a27 hA27; clear hA25
  refine sx_val (hg := (.inr ⟨2, false, 20, rfl, rfl, by kernel_rfl⟩)) (v := .int .i64 (cs.length : Int)) hA27 rfl (ev_len (hA27.ev (i := 23) (v := .slice A1 cs.length c1)) Try.underlying22 _ rfl) ?_
  intro a28 hA28; clear hA27
  cases hd29 : decide ((cs.length : Int) ≤ s)
  rotate_left
  · have hp29 := of_decide_eq_true hd29
    refine sx_val (hg := (.inr ⟨2, false, 20, rfl, rfl, by kernel_rfl⟩)) (v := .bool true) hA28 rfl (ev_geqB (k := .i64) (m := s) (n := (cs.length : Int)) (hA28.ev (i := 21)) (hA28.ev (i := 24)) hd29 _ rfl) ?_
    intro a54 hA54; clear hA28
    refine sx_val hA54 rfl (ev_pickF (hA54.ev (i := 20) (v := .bool false)) (hA54.ev (i := 25) (v := .bool true)) _ rfl) ?_
    intro a55 hA55; clear hA54
    refine sx_nil ?_
    refine then_n ?_
    refine wp_cond_true (hA55.ev (i := 26) (v := .bool true)) ?_
    refine wp_seq ?_
    refine wp_region_lit ?_
    refine sx_val hA55 rfl (ev_assign (ec _ (.int .i64 0)) _ rfl) ?_
    intro a56 hA56; clear hA55
    refine sx_val hA56 rfl (ev_assign (ec _ (.int .i64 2)) _ rfl) ?_
    intro a57 hA57; clear hA56
    refine sx_nil ?_
    refine then_n ?_
    refine wp_ret ?_
    refine then_r ?_
    refine bodyPost_ret (rs_tt (v := .int .i64 0) (v2 := .int .i64 2) Try.results26 hA57 (by kernel_rfl) (by kernel_rfl) ) hA57.2.1 ?_
    have hbel0_58 := Below.gN hbel0_6 hg5 hbel0_6.size
    have E : fnd ⟨cs, js, room⟩ s = (0, 2) := by
      unfold fnd
      rw [if_pos hp13, if_pos (by simp [inS]; omega)]
    exact ⟨ret2 (by rw [E]), hbel0_58⟩
  have hp29 := of_decide_eq_false hd29
  refine sx_val (hg := (.inr ⟨2, false, 20, rfl, rfl, by kernel_rfl⟩)) (v := .bool false) hA28 rfl (ev_geqB (k := .i64) (m := s) (n := (cs.length : Int)) (hA28.ev (i := 21)) (hA28.ev (i := 24)) hd29 _ rfl) ?_
  intro a30 hA30; clear hA28
  refine sx_val hA30 rfl (ev_pickF (hA30.ev (i := 20) (v := .bool false)) (hA30.ev (i := 25) (v := .bool false)) _ rfl) ?_
  intro a31 hA31; clear hA30
  refine sx_nil ?_
  refine then_n ?_
  refine wp_cond_false (hA31.ev (i := 26) (v := .bool false)) ?_
  refine wp_skip ?_
  refine then_n ?_
  refine wp_seq ?_
  refine wp_region_lit ?_
  refine sx_val (v := .agg #[.slice A1 cs.length c1, .slice A2 js.length c2, .int .i64 room]) hA31 rfl (ev_row (hA31.ev (i := 2) (v := .pointer (some ⟨B1, 0, none⟩))) hx1_26 Try.underlying25 rfl (n := 3) (by kernel_rfl) rfl _ rfl) ?_
  intro a32 hA32; clear hA31
  have hbel0_34 := Below.gN hbel0_6 hg5 hbel0_6.size
  refine sx_call (f := 46) (args := #[.agg #[.slice A1 cs.length c1, .slice A2 js.length c2, .int .i64 room]]) hA32 rfl (by decide) (.inl rfl) (ev_fn rfl (mp1 (hA32.ev (i := 28) (v := .agg #[.slice A1 cs.length c1, .slice A2 js.length c2, .int .i64 room]))) (by kernel_rfl) _ rfl) (jobs_any A1 c1 A2 c2 cs js room _ ⟨(hd.s.below hbel0_34), (hd.j.below hbel0_34)⟩ (by omega)) ?_
  intro e33 w33 hR33
  obtain ⟨Bm33, rfl, hmp33, hle33, hb33⟩ := hR33
  refine ⟨_, rfl, ?_⟩
  intro a33 hA33
  clear hA32
  have hg33 := g0 hb33
  have hs33 := hg33.size
  clear hb33
  have hmBm33 := hmp33
  have hlBm33 := hmBm33.lt
  have hqBm33 := hle33
  refine sx_val hA33 rfl (ev_move (hA33.ev (i := 1) (v := .int .i64 s)) _ rfl) ?_
  intro a35 hA35; clear hA33
  refine sx_val (v := .agg #[.bool false, .int .i64 s]) hA35 rfl (bd_key_1 (hA35.ev (i := 30) (v := .int .i64 s)) _ rfl) ?_
  intro a36 hA36; clear hA35
  refine sx_val (v := .tuple #[.int .i64 ((jmf js js.length (false, s)).getD 0), .bool (jmf js js.length (false, s)).isSome]) hA36 rfl (ev_look2 mk_key hmBm33 Try.underlying74 (by kernel_rfl) (k := (false, s)) (r := .int .i64 ((jmf js js.length (false, s)).getD 0)) (ok := (jmf js js.length (false, s)).isSome) (hA36.ev (i := 29) (v := .map (some Bm33))) (hA36.ev (i := 31) (v := .agg #[.bool false, .int .i64 s])) (jm_look _) rfl _ rfl) ?_
  intro a37 hA37; clear hA36
  refine sx_val hA37 rfl (ev_move (hA37.ev (i := 32) (v := .tuple #[.int .i64 ((jmf js js.length (false, s)).getD 0), .bool (jmf js js.length (false, s)).isSome])) _ rfl) ?_
  intro a38 hA38; clear hA37
  refine sx_val (v := .int .i64 ((jmf js js.length (false, s)).getD 0)) hA38 rfl (ev_ext (hA38.ev (i := 27) (v := .tuple #[.int .i64 ((jmf js js.length (false, s)).getD 0), .bool (jmf js js.length (false, s)).isSome])) rfl _ rfl) ?_
  intro a39 hA39; clear hA38
  refine sx_val (v := .bool (jmf js js.length (false, s)).isSome) hA39 rfl (ev_ext (hA39.ev (i := 27) (v := .tuple #[.int .i64 ((jmf js js.length (false, s)).getD 0), .bool (jmf js js.length (false, s)).isSome])) rfl _ rfl) ?_
  intro a40 hA40; clear hA39
  refine sx_val hA40 rfl (ev_assign (hA40.ev (i := 33) (v := .int .i64 ((jmf js js.length (false, s)).getD 0))) _ rfl) ?_
  intro a41 hA41; clear hA40
  refine sx_val hA41 rfl (ev_assign (hA41.ev (i := 34) (v := .bool (jmf js js.length (false, s)).isSome)) _ rfl) ?_
  intro a42 hA42; clear hA41
  refine sx_nil ?_
  refine then_n ?_
  refine wp_seq ?_
  refine wp_seq ?_
  refine wp_region_lit ?_
  refine sx_val hA42 rfl (ev_move (hA42.ev (i := 9) (v := .bool (jmf js js.length (false, s)).isSome)) _ rfl) ?_
  intro a43 hA43; clear hA42
  cases hd44 : (jmf js js.length (false, s)).isSome
  · rw [hd44] at hA43
    refine sx_val (v := .bool true) hA43 rfl (ev_notF (hA43.ev (i := 35) (v := .bool false)) _ rfl) ?_
    intro a45 hA45; clear hA43
    refine sx_nil ?_
    refine then_n ?_
    refine wp_cond_true (hA45.ev (i := 36) (v := .bool true)) ?_
    refine wp_seq ?_
    refine wp_region_lit ?_
    refine sx_val hA45 rfl (ev_assign (ec _ (.int .i64 0)) _ rfl) ?_
    intro a46 hA46; clear hA45
    refine sx_val hA46 rfl (ev_assign (ec _ (.int .i64 6)) _ rfl) ?_
    intro a47 hA47; clear hA46
    refine sx_nil ?_
    refine then_n ?_
    refine wp_ret ?_
    refine then_r ?_
    refine bodyPost_ret (rs_tt (v := .int .i64 0) (v2 := .int .i64 6) Try.results26 hA47 (by kernel_rfl) (by kernel_rfl) ) hA47.2.1 ?_
    have hbel0_48 := Below.gN hbel0_34 hg33 hbel0_34.size
    have hok := chk_ok hp13
    have hfd : (jmf js js.length (false, s)) = (fdJ js s).map (fun k => (k : Int)) := jmf_fd hok s
    have hn : fdJ js s = none := by
      cases hq : fdJ js s with
      | none => rfl
      | some k => rw [hfd, hq] at hd44; cases hd44
    have E : fnd ⟨cs, js, room⟩ s = (0, 6) := by
      unfold fnd
      rw [if_pos hp13, if_neg (by simp [inS]; omega), hn]
    exact ⟨ret2 (by rw [E]), hbel0_48⟩
  rw [hd44] at hA43
  refine sx_val (v := .bool false) hA43 rfl (ev_notT (hA43.ev (i := 35) (v := .bool true)) _ rfl) ?_
  intro a49 hA49; clear hA43
  refine sx_nil ?_
  refine then_n ?_
  refine wp_cond_false (hA49.ev (i := 36) (v := .bool false)) ?_
  refine wp_skip ?_
  refine then_n ?_
  refine wp_seq ?_
  refine wp_region_lit ?_
  refine sx_val hA49 rfl (ev_move (hA49.ev (i := 8) (v := .int .i64 ((jmf js js.length (false, s)).getD 0))) _ rfl) ?_
  intro a50 hA50; clear hA49
  refine sx_val hA50 rfl (ev_assign (hA50.ev (i := 37) (v := .int .i64 ((jmf js js.length (false, s)).getD 0))) _ rfl) ?_
  intro a51 hA51; clear hA50
  refine sx_val hA51 rfl (ev_assign (ec _ (.int .i64 0)) _ rfl) ?_
  intro a52 hA52; clear hA51
  refine sx_nil ?_
  refine then_n ?_
  refine wp_ret ?_
  refine bodyPost_ret (rs_tt (v := .int .i64 ((jmf js js.length (false, s)).getD 0)) (v2 := .int .i64 0) Try.results26 hA52 (by kernel_rfl) (by kernel_rfl) ) hA52.2.1 ?_
  have hbel0_53 := Below.gN hbel0_34 hg33 hbel0_34.size
  have hok := chk_ok hp13
  have hfd : (jmf js js.length (false, s)) = (fdJ js s).map (fun k => (k : Int)) := jmf_fd hok s
  obtain ⟨m, x, hgm, hml, hx, hs, hjm⟩ := jmf_ix hd44
  have hn : fdJ js s = some m := by
    cases hq : fdJ js s with
    | none => rw [hfd, hq] at hjm; cases hjm
    | some k =>
      rw [hfd, hq] at hjm
      injection hjm with hjm
      have hj3 : (k : Int) = (m : Int) := hjm
      congr 1
      omega
  have E : fnd ⟨cs, js, room⟩ s = (((jmf js js.length (false, s)).getD 0), 0) := by
    unfold fnd
    rw [if_pos hp13, if_neg (by simp [inS]; omega), hn, hgm]
  exact ⟨ret2 (by rw [E]), hbel0_53⟩

set_option maxHeartbeats 4000000 in
theorem Later_any (A1 : Option Addr) (c1 : Nat) (A2 : Option Addr) (c2 : Nat) (cs : List Ct) (js : List Jb) (room : Int) (s : Int) (w : World) (hd : GD w A1 c1 A2 c2 cs js) (hl : cs.length ≤ 900000) (hj : js.length ≤ 900000) : Calls Try.prog 30 #[.agg #[.slice A1 cs.length c1, .slice A2 js.length c2, .int .i64 room], .int .i64 s] w (RetB w (.returned (.tuple #[.agg (lat ⟨cs, js, room⟩ s).1.va, .int .i64 (lat ⟨cs, js, room⟩ s).2]))) := by
  have hbel0 := below0 w
  refine sx_enter (N := 57) [(0, .agg #[.slice A1 cs.length c1, .slice A2 js.length c2, .int .i64 room]), (1, .int .i64 s)] Try.func30 rfl Try.ntmps30 (by simp) (fun a z d s => (((Ag.nil z d).cons (s 1 _ rfl)).cons (s 0 _ rfl))) ?_
  intro a0 hA0
  refine wp_seq ?_
  refine wp_region_lit ?_
  refine sx_new (cs := #[.slice A1 cs.length c1, .slice A2 js.length c2, .int .i64 room]) (t := 25) hA0 rfl (by decide) (.inl rfl) (ev_box (hA0.ev (i := 0) (v := .agg #[.slice A1 cs.length c1, .slice A2 js.length c2, .int .i64 room])) rfl _ rfl) ?_
  intro B1 w1 a1 hB1 hx1 hg1 hA1
  clear hA0
  have hs1 := hg1.size
  have hl1 := hx1.lt
  refine sx_new (cs := Ct.zero.va) (t := 28) hA1 rfl (by decide) (.inl rfl) (ev_alloc (z := .agg Ct.zero.va) (by kernel_rfl) (by kernel_rfl) _ rfl) ?_
  intro B2 w2 a2 hB2 hx2 hg2 hA2
  clear hA1
  have hs2 := hg2.size
  have hl2 := hx2.lt
  refine sx_val hA2 rfl (ev_assign (ec _ (.int .i64 0)) _ rfl) ?_
  intro a3 hA3; clear hA2
  refine sx_nil ?_
  refine then_n ?_
  refine wp_seq ?_
  refine wp_seq ?_
  refine wp_region_lit ?_
  have hx1_4 := hx1.gN hg2
  refine sx_val (v := .agg #[.slice A1 cs.length c1, .slice A2 js.length c2, .int .i64 room]) hA3 rfl (ev_row (hA3.ev (i := 2) (v := .pointer (some ⟨B1, 0, none⟩))) hx1_4 Try.underlying25 rfl (n := 3) (by kernel_rfl) rfl _ rfl) ?_
  intro a5 hA5; clear hA3
  have hbel0_7 := Below.gN hbel0 hg1 hbel0.size
  have hbel0_8 := Below.gN hbel0_7 hg2 hbel0_7.size
  refine sx_call (f := 24) (args := #[.agg #[.slice A1 cs.length c1, .slice A2 js.length c2, .int .i64 room]]) hA5 rfl (by decide) (.inl rfl) (ev_fn rfl (mp1 (hA5.ev (i := 11) (v := .agg #[.slice A1 cs.length c1, .slice A2 js.length c2, .int .i64 room]))) (by kernel_rfl) _ rfl) (Check_any A1 c1 A2 c2 cs js room _ ⟨(hd.s.below hbel0_8), (hd.j.below hbel0_8)⟩ (by omega)) ?_
  intro e6 w6 hR6
  obtain ⟨rfl, hb6⟩ := hR6
  refine ⟨_, rfl, ?_⟩
  intro a6 hA6
  clear hA5
  have hg6 := g0 hb6
  have hs6 := hg6.size
  clear hb6
  refine sx_val hA6 rfl (ev_move (hA6.ev (i := 12) (v := .tuple #[.int .i64 (chk ⟨cs, js, room⟩).1, .int .i64 (chk ⟨cs, js, room⟩).2])) _ rfl) ?_
  intro a9 hA9; clear hA6
  refine sx_val (v := .int .i64 (chk ⟨cs, js, room⟩).1) hA9 rfl (ev_ext (hA9.ev (i := 10) (v := .tuple #[.int .i64 (chk ⟨cs, js, room⟩).1, .int .i64 (chk ⟨cs, js, room⟩).2])) rfl _ rfl) ?_
  intro a10 hA10; clear hA9
  refine sx_val (v := .int .i64 (chk ⟨cs, js, room⟩).2) hA10 rfl (ev_ext (hA10.ev (i := 10) (v := .tuple #[.int .i64 (chk ⟨cs, js, room⟩).1, .int .i64 (chk ⟨cs, js, room⟩).2])) rfl _ rfl) ?_
  intro a11 hA11; clear hA10
  refine sx_val hA11 rfl (ev_assign (hA11.ev (i := 13) (v := .int .i64 (chk ⟨cs, js, room⟩).1)) _ rfl) ?_
  intro a12 hA12; clear hA11
  refine sx_val hA12 rfl (ev_assign (hA12.ev (i := 14) (v := .int .i64 (chk ⟨cs, js, room⟩).2)) _ rfl) ?_
  intro a13 hA13; clear hA12
  refine sx_nil ?_
  refine then_n ?_
  refine wp_seq ?_
  refine wp_region_lit ?_
  refine sx_val hA13 rfl (ev_move (hA13.ev (i := 6) (v := .int .i64 (chk ⟨cs, js, room⟩).1)) _ rfl) ?_
  intro a14 hA14; clear hA13
  cases hd15 : decide ((chk ⟨cs, js, room⟩).1 = 0)
  · have hp15 := of_decide_eq_false hd15
    refine sx_val (v := .bool true) hA14 rfl (ev_neqB (k := .i64) (m := (chk ⟨cs, js, room⟩).1) (n := 0) (hA14.ev (i := 15)) (ec _ (.int .i64 0)) (by simpa using hd15) _ rfl) ?_
    intro a16 hA16; clear hA14
    refine sx_nil ?_
    refine then_n ?_
    refine wp_cond_true (hA16.ev (i := 16) (v := .bool true)) ?_
    refine wp_seq ?_
    refine wp_region_lit ?_
    refine sx_val (v := .agg Ct.zero.va) hA16 rfl (bd0_Content _ rfl) ?_
    intro a17 hA17; clear hA16
    refine sx_val hA17 rfl (ev_move (hA17.ev (i := 6) (v := .int .i64 (chk ⟨cs, js, room⟩).1)) _ rfl) ?_
    intro a18 hA18; clear hA17
    have hx2_20 := hx2.gN hg6
    refine sx_store hA18 rfl (.inl rfl) rfl (hA18.ev (i := 4) (v := .pointer (some ⟨B2, 0, none⟩))) (hA18.ev (i := 17) (v := .agg Ct.zero.va)) hx2_20 (by kernel_rfl) rfl (ct_one _) ?_
    intro w19 hx19 hg19
    have hs19 := hg19.size
    refine sx_val hA18 rfl (ev_assign (hA18.ev (i := 18) (v := .int .i64 (chk ⟨cs, js, room⟩).1)) _ rfl) ?_
    intro a21 hA21; clear hA18
    refine sx_nil ?_
    refine then_n ?_
    refine wp_ret ?_
    refine then_r ?_
    refine bodyPost_ret (rs_ct (v := .int .i64 (chk ⟨cs, js, room⟩).1) Try.results30 hA21 (by kernel_rfl) (by kernel_rfl) hx19 Try.underlying28 rfl (by kernel_rfl)) hA21.2.1 ?_
    have hbel0_22 := Below.gN hbel0_8 hg6 hbel0_8.size
    have hbel0_23 := Below.gB hbel0_22 hg19 hbel0_22.size (by omega)
    have E : lat ⟨cs, js, room⟩ s = (Ct.zero, (chk ⟨cs, js, room⟩).1) := by
      unfold lat
      exact if_neg hp15
    exact ⟨by rw [E], hbel0_23⟩
  have hp15 := of_decide_eq_true hd15
  refine sx_val (v := .bool false) hA14 rfl (ev_neqB (k := .i64) (m := (chk ⟨cs, js, room⟩).1) (n := 0) (hA14.ev (i := 15)) (ec _ (.int .i64 0)) (by simpa using hd15) _ rfl) ?_
  intro a24 hA24; clear hA14
  refine sx_nil ?_
  refine then_n ?_
  refine wp_cond_false (hA24.ev (i := 16) (v := .bool false)) ?_
  refine wp_skip ?_
  refine then_n ?_
  refine wp_seq ?_
  refine wp_seq ?_
  refine wp_region_lit ?_
  refine sx_val hA24 rfl (ev_move (hA24.ev (i := 1) (v := .int .i64 s)) _ rfl) ?_
  intro a25 hA25; clear hA24
  cases hd26 : decide (s < 0)
  rotate_left
  · have hp26 := of_decide_eq_true hd26
    refine sx_val (v := .bool true) hA25 rfl (ev_lssB (k := .i64) (m := s) (n := 0) (hA25.ev (i := 19)) (ec _ (.int .i64 0)) hd26 _ rfl) ?_
    intro a113 hA113; clear hA25
    refine sx_val hA113 rfl (ev_move (hA113.ev (i := 20) (v := .bool true)) _ rfl) ?_
    intro a114 hA114; clear hA113
    refine sx_no (j := 2) (s := 21) (want := false) (b := true) hA114 rfl ?_
    intro a115 hA115; clear hA114
    refine sx_no (j := 2) (s := 21) (want := false) (b := true) hA115 rfl ?_
    intro a116 hA116; clear hA115
    refine sx_no (j := 2) (s := 21) (want := false) (b := true) hA116 rfl ?_
    intro a117 hA117; clear hA116
    refine sx_no (j := 2) (s := 21) (want := false) (b := true) hA117 rfl ?_
    intro a118 hA118; clear hA117
    refine sx_no (j := 2) (s := 21) (want := false) (b := true) hA118 rfl ?_
    intro a119 hA119; clear hA118
    refine sx_val hA119 rfl (ev_pickT (hA119.ev (i := 21) (v := .bool true)) (ec _ (.bool true)) _ rfl) ?_
    intro a120 hA120; clear hA119
    refine sx_nil ?_
    refine then_n ?_
    refine wp_cond_true (hA120.ev (i := 27) (v := .bool true)) ?_
    refine wp_seq ?_
    refine wp_region_lit ?_
    refine sx_val (v := .agg Ct.zero.va) hA120 rfl (bd0_Content _ rfl) ?_
    intro a121 hA121; clear hA120
    have hx2_123 := hx2.gN hg6
    refine sx_store hA121 rfl (.inl rfl) rfl (hA121.ev (i := 4) (v := .pointer (some ⟨B2, 0, none⟩))) (hA121.ev (i := 28) (v := .agg Ct.zero.va)) hx2_123 (by kernel_rfl) rfl (ct_one _) ?_
    intro w122 hx122 hg122
    have hs122 := hg122.size
    refine sx_val hA121 rfl (ev_assign (ec _ (.int .i64 2)) _ rfl) ?_
    intro a124 hA124; clear hA121
    refine sx_nil ?_
    refine then_n ?_
    refine wp_ret ?_
    refine then_r ?_
    refine bodyPost_ret (rs_ct (v := .int .i64 2) Try.results30 hA124 (by kernel_rfl) (by kernel_rfl) hx122 Try.underlying28 rfl (by kernel_rfl)) hA124.2.1 ?_
    have hbel0_125 := Below.gN hbel0_8 hg6 hbel0_8.size
    have hbel0_126 := Below.gB hbel0_125 hg122 hbel0_125.size (by omega)
    have E : lat ⟨cs, js, room⟩ s = (Ct.zero, 2) := by
      unfold lat
      rw [if_pos hp15, if_pos (by simp [inS]; omega)]
    exact ⟨by rw [E], hbel0_126⟩
  have hp26 := of_decide_eq_false hd26
  refine sx_val (v := .bool false) hA25 rfl (ev_lssB (k := .i64) (m := s) (n := 0) (hA25.ev (i := 19)) (ec _ (.int .i64 0)) hd26 _ rfl) ?_
  intro a27 hA27; clear hA25
  refine sx_val hA27 rfl (ev_move (hA27.ev (i := 20) (v := .bool false)) _ rfl) ?_
  intro a28 hA28; clear hA27
  refine sx_val (hg := (.inr ⟨2, false, 21, rfl, rfl, by kernel_rfl⟩)) hA28 rfl (ev_move (hA28.ev (i := 1) (v := .int .i64 s)) _ rfl) ?_
  intro a29 hA29; clear hA28
  refine sx_val (hg := (.inr ⟨2, false, 21, rfl, rfl, by kernel_rfl⟩)) (v := .pointer (some ⟨B1, 0, none⟩)) hA29 rfl (fb_Disk_0 (hA29.ev (i := 2) (v := .pointer (some ⟨B1, 0, none⟩))) _ rfl) ?_
  intro a30 hA30; clear hA29
  have hx1_31 := hx1_4.gN hg6
  refine sx_val (hg := (.inr ⟨2, false, 21, rfl, rfl, by kernel_rfl⟩)) (v := .slice A1 cs.length c1) hA30 rfl (ev_cell (v := .slice A1 cs.length c1) (hA30.ev (i := 23) (v := .pointer (some ⟨B1, 0, none⟩))) ((hx1_31.cell 0).trans rfl) Try.underlying22 rfl _ rfl) ?_
  intro a32 hA32; clear hA30
  refine sx_val (hg := (.inr ⟨2, false, 21, rfl, rfl, by kernel_rfl⟩)) (v := .int .i64 (cs.length : Int)) hA32 rfl (ev_len (hA32.ev (i := 24) (v := .slice A1 cs.length c1)) Try.underlying22 _ rfl) ?_
  intro a33 hA33; clear hA32
  cases hd34 : decide ((cs.length : Int) ≤ s)
  rotate_left
  · have hp34 := of_decide_eq_true hd34
    refine sx_val (hg := (.inr ⟨2, false, 21, rfl, rfl, by kernel_rfl⟩)) (v := .bool true) hA33 rfl (ev_geqB (k := .i64) (m := s) (n := (cs.length : Int)) (hA33.ev (i := 22)) (hA33.ev (i := 25)) hd34 _ rfl) ?_
    intro a105 hA105; clear hA33
    refine sx_val hA105 rfl (ev_pickF (hA105.ev (i := 21) (v := .bool false)) (hA105.ev (i := 26) (v := .bool true)) _ rfl) ?_
    intro a106 hA106; clear hA105
    refine sx_nil ?_
    refine then_n ?_
    refine wp_cond_true (hA106.ev (i := 27) (v := .bool true)) ?_
    refine wp_seq ?_
    refine wp_region_lit ?_
    refine sx_val (v := .agg Ct.zero.va) hA106 rfl (bd0_Content _ rfl) ?_
    intro a107 hA107; clear hA106
    have hx2_109 := hx2.gN hg6
    refine sx_store hA107 rfl (.inl rfl) rfl (hA107.ev (i := 4) (v := .pointer (some ⟨B2, 0, none⟩))) (hA107.ev (i := 28) (v := .agg Ct.zero.va)) hx2_109 (by kernel_rfl) rfl (ct_one _) ?_
    intro w108 hx108 hg108
    have hs108 := hg108.size
    refine sx_val hA107 rfl (ev_assign (ec _ (.int .i64 2)) _ rfl) ?_
    intro a110 hA110; clear hA107
    refine sx_nil ?_
    refine then_n ?_
    refine wp_ret ?_
    refine then_r ?_
    refine bodyPost_ret (rs_ct (v := .int .i64 2) Try.results30 hA110 (by kernel_rfl) (by kernel_rfl) hx108 Try.underlying28 rfl (by kernel_rfl)) hA110.2.1 ?_
    have hbel0_111 := Below.gN hbel0_8 hg6 hbel0_8.size
    have hbel0_112 := Below.gB hbel0_111 hg108 hbel0_111.size (by omega)
    have E : lat ⟨cs, js, room⟩ s = (Ct.zero, 2) := by
      unfold lat
      rw [if_pos hp15, if_pos (by simp [inS]; omega)]
    exact ⟨by rw [E], hbel0_112⟩
  have hp34 := of_decide_eq_false hd34
  refine sx_val (hg := (.inr ⟨2, false, 21, rfl, rfl, by kernel_rfl⟩)) (v := .bool false) hA33 rfl (ev_geqB (k := .i64) (m := s) (n := (cs.length : Int)) (hA33.ev (i := 22)) (hA33.ev (i := 25)) hd34 _ rfl) ?_
  intro a35 hA35; clear hA33
  refine sx_val hA35 rfl (ev_pickF (hA35.ev (i := 21) (v := .bool false)) (hA35.ev (i := 26) (v := .bool false)) _ rfl) ?_
  intro a36 hA36; clear hA35
  refine sx_nil ?_
  refine then_n ?_
  refine wp_cond_false (hA36.ev (i := 27) (v := .bool false)) ?_
  refine wp_skip ?_
  refine then_n ?_
  refine wp_seq ?_
  refine wp_seq ?_
  refine wp_region_lit ?_
  refine sx_val (v := .agg #[.slice A1 cs.length c1, .slice A2 js.length c2, .int .i64 room]) hA36 rfl (ev_row (hA36.ev (i := 2) (v := .pointer (some ⟨B1, 0, none⟩))) hx1_31 Try.underlying25 rfl (n := 3) (by kernel_rfl) rfl _ rfl) ?_
  intro a37 hA37; clear hA36
  have hbel0_39 := Below.gN hbel0_8 hg6 hbel0_8.size
  refine sx_call (f := 46) (args := #[.agg #[.slice A1 cs.length c1, .slice A2 js.length c2, .int .i64 room]]) hA37 rfl (by decide) (.inl rfl) (ev_fn rfl (mp1 (hA37.ev (i := 30) (v := .agg #[.slice A1 cs.length c1, .slice A2 js.length c2, .int .i64 room]))) (by kernel_rfl) _ rfl) (jobs_any A1 c1 A2 c2 cs js room _ ⟨(hd.s.below hbel0_39), (hd.j.below hbel0_39)⟩ (by omega)) ?_
  intro e38 w38 hR38
  obtain ⟨Bm38, rfl, hmp38, hle38, hb38⟩ := hR38
  refine ⟨_, rfl, ?_⟩
  intro a38 hA38
  clear hA37
  have hg38 := g0 hb38
  have hs38 := hg38.size
  clear hb38
  have hmBm38 := hmp38
  have hlBm38 := hmBm38.lt
  have hqBm38 := hle38
  refine sx_val hA38 rfl (ev_move (hA38.ev (i := 1) (v := .int .i64 s)) _ rfl) ?_
  intro a40 hA40; clear hA38
  refine sx_val (v := .agg #[.bool false, .int .i64 s]) hA40 rfl (bd_key_1 (hA40.ev (i := 32) (v := .int .i64 s)) _ rfl) ?_
  intro a41 hA41; clear hA40
  refine sx_val (v := .tuple #[.int .i64 ((jmf js js.length (false, s)).getD 0), .bool (jmf js js.length (false, s)).isSome]) hA41 rfl (ev_look2 mk_key hmBm38 Try.underlying74 (by kernel_rfl) (k := (false, s)) (r := .int .i64 ((jmf js js.length (false, s)).getD 0)) (ok := (jmf js js.length (false, s)).isSome) (hA41.ev (i := 31) (v := .map (some Bm38))) (hA41.ev (i := 33) (v := .agg #[.bool false, .int .i64 s])) (jm_look _) rfl _ rfl) ?_
  intro a42 hA42; clear hA41
  refine sx_val hA42 rfl (ev_move (hA42.ev (i := 34) (v := .tuple #[.int .i64 ((jmf js js.length (false, s)).getD 0), .bool (jmf js js.length (false, s)).isSome])) _ rfl) ?_
  intro a43 hA43; clear hA42
  refine sx_val (v := .int .i64 ((jmf js js.length (false, s)).getD 0)) hA43 rfl (ev_ext (hA43.ev (i := 29) (v := .tuple #[.int .i64 ((jmf js js.length (false, s)).getD 0), .bool (jmf js js.length (false, s)).isSome])) rfl _ rfl) ?_
  intro a44 hA44; clear hA43
  refine sx_val (v := .bool (jmf js js.length (false, s)).isSome) hA44 rfl (ev_ext (hA44.ev (i := 29) (v := .tuple #[.int .i64 ((jmf js js.length (false, s)).getD 0), .bool (jmf js js.length (false, s)).isSome])) rfl _ rfl) ?_
  intro a45 hA45; clear hA44
  refine sx_val hA45 rfl (ev_assign (hA45.ev (i := 35) (v := .int .i64 ((jmf js js.length (false, s)).getD 0))) _ rfl) ?_
  intro a46 hA46; clear hA45
  refine sx_val hA46 rfl (ev_assign (hA46.ev (i := 36) (v := .bool (jmf js js.length (false, s)).isSome)) _ rfl) ?_
  intro a47 hA47; clear hA46
  refine sx_nil ?_
  refine then_n ?_
  refine wp_seq ?_
  refine wp_region_lit ?_
  refine sx_val hA47 rfl (ev_move (hA47.ev (i := 9) (v := .bool (jmf js js.length (false, s)).isSome)) _ rfl) ?_
  intro a48 hA48; clear hA47
  refine sx_val hA48 rfl (ev_move (hA48.ev (i := 37) (v := .bool (jmf js js.length (false, s)).isSome)) _ rfl) ?_
  intro a49 hA49; clear hA48
  cases hd50 : (jmf js js.length (false, s)).isSome
  · rw [hd50] at hA49
    refine sx_no (j := 1) (s := 38) (want := true) (b := false) hA49 rfl ?_
    intro a51 hA51; clear hA49
    refine sx_no (j := 1) (s := 38) (want := true) (b := false) hA51 rfl ?_
    intro a52 hA52; clear hA51
    refine sx_no (j := 1) (s := 38) (want := true) (b := false) hA52 rfl ?_
    intro a53 hA53; clear hA52
    refine sx_no (j := 1) (s := 38) (want := true) (b := false) hA53 rfl ?_
    intro a54 hA54; clear hA53
    refine sx_no (j := 1) (s := 38) (want := true) (b := false) hA54 rfl ?_
    intro a55 hA55; clear hA54
    refine sx_no (j := 1) (s := 38) (want := true) (b := false) hA55 rfl ?_
    intro a56 hA56; clear hA55
    refine sx_val hA56 rfl (ev_pickF (hA56.ev (i := 38) (v := .bool false)) (ec _ (.bool false)) _ rfl) ?_
    intro a57 hA57; clear hA56
    refine sx_nil ?_
    refine then_n ?_
    refine wp_cond_false (hA57.ev (i := 45) (v := .bool false)) ?_
    refine wp_skip ?_
    refine then_n ?_
    refine wp_seq ?_
    refine wp_region_lit ?_
    refine sx_val (v := .pointer (some ⟨B1, 0, none⟩)) hA57 rfl (fb_Disk_0 (hA57.ev (i := 2) (v := .pointer (some ⟨B1, 0, none⟩))) _ rfl) ?_
    intro a58 hA58; clear hA57
    have hx1_59 := hx1_31.gN hg38
    refine sx_val (v := .slice A1 cs.length c1) hA58 rfl (ev_cell (v := .slice A1 cs.length c1) (hA58.ev (i := 52) (v := .pointer (some ⟨B1, 0, none⟩))) ((hx1_59.cell 0).trans rfl) Try.underlying22 rfl _ rfl) ?_
    intro a60 hA60; clear hA58
    refine sx_val hA60 rfl (ev_move (hA60.ev (i := 1) (v := .int .i64 s)) _ rfl) ?_
    intro a61 hA61; clear hA60
    obtain ⟨c, hc⟩ : ∃ c, cs[s.toNat]? = some c := ⟨_, List.getElem?_eq_getElem (by omega)⟩
    have hbel0_63 := Below.gN hbel0_39 hg38 hbel0_39.size
    obtain ⟨ad62, hAd62, hbl62, hce62⟩ := GR.at_ (hd.s.below hbel0_63) ct_sz hc
    refine sx_val (v := .pointer (some (ad62.add (s.toNat * 8)))) hA61 rfl (ev_idx (k := s.toNat) (hA61.ev (i := 53) (v := .slice A1 cs.length c1)) hAd62 (hA61.ev (i := 54) (v := .int .i64 s)) (by omega) (by omega) Try.underlying22 (by kernel_rfl) _ rfl) ?_
    intro a64 hA64; clear hA61
    refine sx_val (v := .agg c.va) hA64 rfl (ev_loadR (cs := c.va) (n := 8) (hA64.ev (i := 55) (v := .pointer (some (ad62.add (s.toNat * 8))))) hce62 Try.underlying28 rfl (by kernel_rfl) rfl _ rfl) ?_
    intro a65 hA65; clear hA64
    have hx2_67 := hx2.gN hg6
    have hx2_68 := hx2_67.gN hg38
    refine sx_store hA65 rfl (.inl rfl) rfl (hA65.ev (i := 4) (v := .pointer (some ⟨B2, 0, none⟩))) (hA65.ev (i := 56) (v := .agg c.va)) hx2_68 (by kernel_rfl) rfl (ct_one _) ?_
    intro w66 hx66 hg66
    have hs66 := hg66.size
    refine sx_val hA65 rfl (ev_assign (ec _ (.int .i64 0)) _ rfl) ?_
    intro a69 hA69; clear hA65
    refine sx_nil ?_
    refine then_n ?_
    refine wp_ret ?_
    refine bodyPost_ret (rs_ct (v := .int .i64 0) Try.results30 hA69 (by kernel_rfl) (by kernel_rfl) hx66 Try.underlying28 rfl (by kernel_rfl)) hA69.2.1 ?_
    have hbel0_70 := Below.gB hbel0_63 hg66 hbel0_63.size (by omega)
    have hok := chk_ok hp15
    have hfd : (jmf js js.length (false, s)) = (fdJ js s).map (fun k => (k : Int)) := jmf_fd hok s
    have hn : fdJ js s = none := by
      cases hq : fdJ js s with
      | none => rfl
      | some k => rw [hfd, hq] at hd50; cases hd50
    have hl2 : ltc ⟨cs, js, room⟩ s = c := by
      unfold ltc
      simp only [hn, hc, Option.getD_some]
    have E : lat ⟨cs, js, room⟩ s = (c, 0) := by
      unfold lat
      rw [if_pos hp15, if_neg (by simp [inS]; omega), hl2]
    exact ⟨by rw [E], hbel0_70⟩
  rw [hd50] at hA49
  refine sx_val (hg := (.inr ⟨1, true, 38, rfl, rfl, by kernel_rfl⟩)) (v := .pointer (some ⟨B1, 1, none⟩)) hA49 rfl (fb_Disk_1 (hA49.ev (i := 2) (v := .pointer (some ⟨B1, 0, none⟩))) _ rfl) ?_
  intro a71 hA71; clear hA49
  have hx1_72 := hx1_31.gN hg38
  refine sx_val (hg := (.inr ⟨1, true, 38, rfl, rfl, by kernel_rfl⟩)) (v := .slice A2 js.length c2) hA71 rfl (ev_cell (v := .slice A2 js.length c2) (hA71.ev (i := 39) (v := .pointer (some ⟨B1, 1, none⟩))) ((hx1_72.cell 1).trans rfl) Try.underlying23 rfl _ rfl) ?_
  intro a73 hA73; clear hA71
  refine sx_val (hg := (.inr ⟨1, true, 38, rfl, rfl, by kernel_rfl⟩)) hA73 rfl (ev_move (hA73.ev (i := 8) (v := .int .i64 ((jmf js js.length (false, s)).getD 0))) _ rfl) ?_
  intro a74 hA74; clear hA73
  obtain ⟨m, x, hgm, hml, hx, hs, hjm⟩ := jmf_ix hd50
  have hbel0_76 := Below.gN hbel0_39 hg38 hbel0_39.size
  obtain ⟨ad75, hAd75, hbl75, hce75⟩ := GR.at_ (hd.j.below hbel0_76) jb_sz hx
  refine sx_val (hg := (.inr ⟨1, true, 38, rfl, rfl, by kernel_rfl⟩)) (v := .pointer (some (ad75.add (m * 11)))) hA74 rfl (ev_idx (k := m) (hA74.ev (i := 40) (v := .slice A2 js.length c2)) hAd75 (hA74.ev (i := 41) (v := .int .i64 ((jmf js js.length (false, s)).getD 0))) hgm hml Try.underlying23 (by kernel_rfl) _ rfl) ?_
  intro a77 hA77; clear hA74
  refine sx_val (hg := (.inr ⟨1, true, 38, rfl, rfl, by kernel_rfl⟩)) (v := .pointer (some ((ad75.add (m * 11)).add 0))) hA77 rfl (fa_Job_0 (hA77.ev (i := 42) (v := .pointer (some (ad75.add (m * 11))))) _ rfl) ?_
  intro a78 hA78; clear hA77
  refine sx_val (hg := (.inr ⟨1, true, 38, rfl, rfl, by kernel_rfl⟩)) (v := .bool x.wr) hA78 rfl (ev_cell (hA78.ev (i := 43) (v := .pointer (some ((ad75.add (m * 11)).add 0)))) (hce75 0 _ rfl) Try.underlying4 rfl _ rfl) ?_
  intro a79 hA79; clear hA78
  refine sx_val hA79 rfl (ev_pickT (hA79.ev (i := 38) (v := .bool true)) (hA79.ev (i := 44) (v := .bool x.wr)) _ rfl) ?_
  intro a80 hA80; clear hA79
  refine sx_nil ?_
  refine then_n ?_
  cases hd81 : x.wr
  · rw [hd81] at hA80
    refine wp_cond_false (hA80.ev (i := 45) (v := .bool false)) ?_
    refine wp_skip ?_
    refine then_n ?_
    refine wp_seq ?_
    refine wp_region_lit ?_
    refine sx_val (v := .pointer (some ⟨B1, 0, none⟩)) hA80 rfl (fb_Disk_0 (hA80.ev (i := 2) (v := .pointer (some ⟨B1, 0, none⟩))) _ rfl) ?_
    intro a82 hA82; clear hA80
    refine sx_val (v := .slice A1 cs.length c1) hA82 rfl (ev_cell (v := .slice A1 cs.length c1) (hA82.ev (i := 52) (v := .pointer (some ⟨B1, 0, none⟩))) ((hx1_72.cell 0).trans rfl) Try.underlying22 rfl _ rfl) ?_
    intro a83 hA83; clear hA82
    refine sx_val hA83 rfl (ev_move (hA83.ev (i := 1) (v := .int .i64 s)) _ rfl) ?_
    intro a84 hA84; clear hA83
    obtain ⟨c, hc⟩ : ∃ c, cs[s.toNat]? = some c := ⟨_, List.getElem?_eq_getElem (by omega)⟩
    obtain ⟨ad85, hAd85, hbl85, hce85⟩ := GR.at_ (hd.s.below hbel0_76) ct_sz hc
    refine sx_val (v := .pointer (some (ad85.add (s.toNat * 8)))) hA84 rfl (ev_idx (k := s.toNat) (hA84.ev (i := 53) (v := .slice A1 cs.length c1)) hAd85 (hA84.ev (i := 54) (v := .int .i64 s)) (by omega) (by omega) Try.underlying22 (by kernel_rfl) _ rfl) ?_
    intro a86 hA86; clear hA84
    refine sx_val (v := .agg c.va) hA86 rfl (ev_loadR (cs := c.va) (n := 8) (hA86.ev (i := 55) (v := .pointer (some (ad85.add (s.toNat * 8))))) hce85 Try.underlying28 rfl (by kernel_rfl) rfl _ rfl) ?_
    intro a87 hA87; clear hA86
    have hx2_89 := hx2.gN hg6
    have hx2_90 := hx2_89.gN hg38
    refine sx_store hA87 rfl (.inl rfl) rfl (hA87.ev (i := 4) (v := .pointer (some ⟨B2, 0, none⟩))) (hA87.ev (i := 56) (v := .agg c.va)) hx2_90 (by kernel_rfl) rfl (ct_one _) ?_
    intro w88 hx88 hg88
    have hs88 := hg88.size
    refine sx_val hA87 rfl (ev_assign (ec _ (.int .i64 0)) _ rfl) ?_
    intro a91 hA91; clear hA87
    refine sx_nil ?_
    refine then_n ?_
    refine wp_ret ?_
    refine bodyPost_ret (rs_ct (v := .int .i64 0) Try.results30 hA91 (by kernel_rfl) (by kernel_rfl) hx88 Try.underlying28 rfl (by kernel_rfl)) hA91.2.1 ?_
    have hbel0_92 := Below.gB hbel0_76 hg88 hbel0_76.size (by omega)
    have hok := chk_ok hp15
    have hfd : (jmf js js.length (false, s)) = (fdJ js s).map (fun k => (k : Int)) := jmf_fd hok s
    have hn : fdJ js s = some m := by
      cases hq : fdJ js s with
      | none => rw [hfd, hq] at hjm; cases hjm
      | some k =>
        rw [hfd, hq] at hjm
        injection hjm with hjm
        have hj3 : (k : Int) = (m : Int) := hjm
        congr 1
        omega
    have hl2 : ltc ⟨cs, js, room⟩ s = c := by
      unfold ltc
      simp only [hn, hx, hd81, hc, Option.getD_some]; simp
    have E : lat ⟨cs, js, room⟩ s = (c, 0) := by
      unfold lat
      rw [if_pos hp15, if_neg (by simp [inS]; omega), hl2]
    exact ⟨by rw [E], hbel0_92⟩
  rw [hd81] at hA80
  refine wp_cond_true (hA80.ev (i := 45) (v := .bool true)) ?_
  refine wp_seq ?_
  refine wp_region_lit ?_
  refine sx_val (v := .pointer (some ⟨B1, 1, none⟩)) hA80 rfl (fb_Disk_1 (hA80.ev (i := 2) (v := .pointer (some ⟨B1, 0, none⟩))) _ rfl) ?_
  intro a93 hA93; clear hA80
  refine sx_val (v := .slice A2 js.length c2) hA93 rfl (ev_cell (v := .slice A2 js.length c2) (hA93.ev (i := 46) (v := .pointer (some ⟨B1, 1, none⟩))) ((hx1_72.cell 1).trans rfl) Try.underlying23 rfl _ rfl) ?_
  intro a94 hA94; clear hA93
  refine sx_val hA94 rfl (ev_move (hA94.ev (i := 8) (v := .int .i64 ((jmf js js.length (false, s)).getD 0))) _ rfl) ?_
  intro a95 hA95; clear hA94
  obtain ⟨ad96, hAd96, hbl96, hce96⟩ := GR.at_ (hd.j.below hbel0_76) jb_sz hx
  refine sx_val (v := .pointer (some (ad96.add (m * 11)))) hA95 rfl (ev_idx (k := m) (hA95.ev (i := 47) (v := .slice A2 js.length c2)) hAd96 (hA95.ev (i := 48) (v := .int .i64 ((jmf js js.length (false, s)).getD 0))) hgm hml Try.underlying23 (by kernel_rfl) _ rfl) ?_
  intro a97 hA97; clear hA95
  refine sx_val (v := .pointer (some ((ad96.add (m * 11)).add 3))) hA97 rfl (fa_Job_3 (hA97.ev (i := 49) (v := .pointer (some (ad96.add (m * 11))))) _ rfl) ?_
  intro a98 hA98; clear hA97
  refine sx_val (v := .agg x.data.va) hA98 rfl (ev_loadR (cs := x.data.va) (n := 8) (hA98.ev (i := 50) (v := .pointer (some ((ad96.add (m * 11)).add 3)))) (jb_epart hce96) Try.underlying28 rfl (by kernel_rfl) rfl _ rfl) ?_
  intro a99 hA99; clear hA98
  have hx2_101 := hx2.gN hg6
  have hx2_102 := hx2_101.gN hg38
  refine sx_store hA99 rfl (.inl rfl) rfl (hA99.ev (i := 4) (v := .pointer (some ⟨B2, 0, none⟩))) (hA99.ev (i := 51) (v := .agg x.data.va)) hx2_102 (by kernel_rfl) rfl (ct_one _) ?_
  intro w100 hx100 hg100
  have hs100 := hg100.size
  refine sx_val hA99 rfl (ev_assign (ec _ (.int .i64 0)) _ rfl) ?_
  intro a103 hA103; clear hA99
  refine sx_nil ?_
  refine then_n ?_
  refine wp_ret ?_
  refine then_r ?_
  refine bodyPost_ret (rs_ct (v := .int .i64 0) Try.results30 hA103 (by kernel_rfl) (by kernel_rfl) hx100 Try.underlying28 rfl (by kernel_rfl)) hA103.2.1 ?_
  have hbel0_104 := Below.gB hbel0_76 hg100 hbel0_76.size (by omega)
  have hok := chk_ok hp15
  have hfd : (jmf js js.length (false, s)) = (fdJ js s).map (fun k => (k : Int)) := jmf_fd hok s
  have hn : fdJ js s = some m := by
    cases hq : fdJ js s with
    | none => rw [hfd, hq] at hjm; cases hjm
    | some k =>
      rw [hfd, hq] at hjm
      injection hjm with hjm
      have hj3 : (k : Int) = (m : Int) := hjm
      congr 1
      omega
  have hl2 : ltc ⟨cs, js, room⟩ s = x.data := by
    unfold ltc
    simp only [hn, hx, hd81]; simp
  have E : lat ⟨cs, js, room⟩ s = (x.data, 0) := by
    unfold lat
    rw [if_pos hp15, if_neg (by simp [inS]; omega), hl2]
  exact ⟨by rw [E], hbel0_104⟩
end Go.Proofs.Ytbkdimildnahaaa
