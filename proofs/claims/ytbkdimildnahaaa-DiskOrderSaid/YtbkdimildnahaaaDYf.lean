/- At, count. -/
import Derived.Test.YtbkdimildnahaaaDYe
namespace Go.Proofs.Ytbkdimildnahaaa
open Go.RowKit
set_option linter.unusedVariables false
set_option maxRecDepth 100000

/-- Some number. -/
def RetN (w : World) (e : Ending) (w' : World) : Prop := ∃ n : Int, e = .returned (.int .i64 n) ∧ Below w.heap.size w w'
theorem count_step {js : List Jb} {k : Nat} {x y : Jb} (h : js[k]? = some y) : (js.take (k + 1)).count x = (js.take k).count x + (if (y == x) = true then 1 else 0) := by
  rw [List.take_add_one, h]
  simp [List.count_append, List.count_cons]

set_option maxHeartbeats 4000000 in
theorem At_any (A : Option Addr) (c : Nat) (xs : List Int) (i : Int) (w : World) (hx : GR 1 iva w A c xs) : Calls Try.prog 36 #[.slice A xs.length c, .int .i64 i] w (RetN w) := by
  have hxl := hx.len
  have hbel0 := below0 w
  refine sx_enter (N := 17) [(0, .slice A xs.length c), (1, .int .i64 i)] Try.func36 rfl Try.ntmps36 (by simp) (fun a z d s => (((Ag.nil z d).cons (s 1 _ rfl)).cons (s 0 _ rfl))) ?_
  intro a0 hA0
  refine wp_seq ?_
  refine wp_region_lit ?_
  refine sx_val hA0 rfl (ev_assign (ec _ (.int .i64 0)) _ rfl) ?_
  intro a1 hA1; clear hA0
  refine sx_nil ?_
  refine then_n ?_
  refine wp_seq ?_
  refine wp_seq ?_
  refine wp_region_lit ?_
  refine sx_val hA1 rfl (ev_move (hA1.ev (i := 1) (v := .int .i64 i)) _ rfl) ?_
  intro a2 hA2; clear hA1
  cases hd3 : decide (i < 0)
  rotate_left
  · have hp3 := of_decide_eq_true hd3
    refine sx_val (v := .bool true) hA2 rfl (ev_lssB (k := .i64) (m := i) (n := 0) (hA2.ev (i := 5)) (ec _ (.int .i64 0)) hd3 _ rfl) ?_
    intro a21 hA21; clear hA2
    refine sx_val hA21 rfl (ev_move (hA21.ev (i := 6) (v := .bool true)) _ rfl) ?_
    intro a22 hA22; clear hA21
    refine sx_no (j := 2) (s := 7) (want := false) (b := true) hA22 rfl ?_
    intro a23 hA23; clear hA22
    refine sx_no (j := 2) (s := 7) (want := false) (b := true) hA23 rfl ?_
    intro a24 hA24; clear hA23
    refine sx_no (j := 2) (s := 7) (want := false) (b := true) hA24 rfl ?_
    intro a25 hA25; clear hA24
    refine sx_no (j := 2) (s := 7) (want := false) (b := true) hA25 rfl ?_
    intro a26 hA26; clear hA25
    refine sx_val hA26 rfl (ev_pickT (hA26.ev (i := 7) (v := .bool true)) (ec _ (.bool true)) _ rfl) ?_
    intro a27 hA27; clear hA26
    refine sx_nil ?_
    refine then_n ?_
    refine wp_cond_true (hA27.ev (i := 12) (v := .bool true)) ?_
    refine wp_seq ?_
    refine wp_region_lit ?_
    refine sx_val hA27 rfl (ev_assign (ec _ (.int .i64 0)) _ rfl) ?_
    intro a28 hA28; clear hA27
    refine sx_nil ?_
    refine then_n ?_
    refine wp_ret ?_
    refine then_r ?_
    refine bodyPost_ret (rs_t (v := .int .i64 0) Try.results36 hA28 (by kernel_rfl) ) hA28.2.1 ?_
    exact ⟨_, rfl, hbel0⟩
  have hp3 := of_decide_eq_false hd3
  refine sx_val (v := .bool false) hA2 rfl (ev_lssB (k := .i64) (m := i) (n := 0) (hA2.ev (i := 5)) (ec _ (.int .i64 0)) hd3 _ rfl) ?_
  intro a4 hA4; clear hA2
  refine sx_val hA4 rfl (ev_move (hA4.ev (i := 6) (v := .bool false)) _ rfl) ?_
  intro a5 hA5; clear hA4
  refine sx_val (hg := (.inr ⟨2, false, 7, rfl, rfl, by kernel_rfl⟩)) hA5 rfl (ev_move (hA5.ev (i := 1) (v := .int .i64 i)) _ rfl) ?_
  intro a6 hA6; clear hA5
  refine sx_val (hg := (.inr ⟨2, false, 7, rfl, rfl, by kernel_rfl⟩)) hA6 rfl (ev_move (hA6.ev (i := 0) (v := .slice A xs.length c)) _ rfl) ?_
  intro a7 hA7; clear hA6
  refine sx_val (hg := (.inr ⟨2, false, 7, rfl, rfl, by kernel_rfl⟩)) (v := .int .i64 (xs.length : Int)) hA7 rfl (ev_len (hA7.ev (i := 9) (v := .slice A xs.length c)) Try.underlying57 _ rfl) ?_
  intro a8 hA8; clear hA7
  cases hd9 : decide ((xs.length : Int) ≤ i)
  rotate_left
  · have hp9 := of_decide_eq_true hd9
    refine sx_val (hg := (.inr ⟨2, false, 7, rfl, rfl, by kernel_rfl⟩)) (v := .bool true) hA8 rfl (ev_geqB (k := .i64) (m := i) (n := (xs.length : Int)) (hA8.ev (i := 8)) (hA8.ev (i := 10)) hd9 _ rfl) ?_
    intro a18 hA18; clear hA8
    refine sx_val hA18 rfl (ev_pickF (hA18.ev (i := 7) (v := .bool false)) (hA18.ev (i := 11) (v := .bool true)) _ rfl) ?_
    intro a19 hA19; clear hA18
    refine sx_nil ?_
    refine then_n ?_
    refine wp_cond_true (hA19.ev (i := 12) (v := .bool true)) ?_
    refine wp_seq ?_
    refine wp_region_lit ?_
    refine sx_val hA19 rfl (ev_assign (ec _ (.int .i64 0)) _ rfl) ?_
    intro a20 hA20; clear hA19
    refine sx_nil ?_
    refine then_n ?_
    refine wp_ret ?_
    refine then_r ?_
    refine bodyPost_ret (rs_t (v := .int .i64 0) Try.results36 hA20 (by kernel_rfl) ) hA20.2.1 ?_
    exact ⟨_, rfl, hbel0⟩
  have hp9 := of_decide_eq_false hd9
  have hil : i.toNat < xs.length := by have := hp9; omega
  obtain ⟨z, hz⟩ : ∃ z, xs[i.toNat]? = some z := ⟨_, List.getElem?_eq_getElem hil⟩
  refine sx_val (hg := (.inr ⟨2, false, 7, rfl, rfl, by kernel_rfl⟩)) (v := .bool false) hA8 rfl (ev_geqB (k := .i64) (m := i) (n := (xs.length : Int)) (hA8.ev (i := 8)) (hA8.ev (i := 10)) hd9 _ rfl) ?_
  intro a10 hA10; clear hA8
  refine sx_val hA10 rfl (ev_pickF (hA10.ev (i := 7) (v := .bool false)) (hA10.ev (i := 11) (v := .bool false)) _ rfl) ?_
  intro a11 hA11; clear hA10
  refine sx_nil ?_
  refine then_n ?_
  refine wp_cond_false (hA11.ev (i := 12) (v := .bool false)) ?_
  refine wp_skip ?_
  refine then_n ?_
  refine wp_seq ?_
  refine wp_region_lit ?_
  refine sx_val hA11 rfl (ev_move (hA11.ev (i := 0) (v := .slice A xs.length c)) _ rfl) ?_
  intro a12 hA12; clear hA11
  refine sx_val hA12 rfl (ev_move (hA12.ev (i := 1) (v := .int .i64 i)) _ rfl) ?_
  intro a13 hA13; clear hA12
  obtain ⟨ad14, hAd14⟩ := GR.adr hx iva_sz hz
  refine sx_val (v := .pointer (some (ad14.add (i.toNat * 1)))) hA13 rfl (ev_idx (k := i.toNat) (hA13.ev (i := 13) (v := .slice A xs.length c)) hAd14 (hA13.ev (i := 14) (v := .int .i64 i)) (by omega) (by omega) Try.underlying57 (by kernel_rfl) _ rfl) ?_
  intro a15 hA15; clear hA13
  refine sx_val (v := .int .i64 z) hA15 rfl (ev_cell (hA15.ev (i := 15) (v := .pointer (some (ad14.add (i.toNat * 1))))) ((GR.cel hx hAd14 iva_sz hz) 0 _ rfl) Try.underlying3 rfl _ rfl) ?_
  intro a16 hA16; clear hA15
  refine sx_val hA16 rfl (ev_assign (hA16.ev (i := 16) (v := .int .i64 z)) _ rfl) ?_
  intro a17 hA17; clear hA16
  refine sx_nil ?_
  refine then_n ?_
  refine wp_ret ?_
  refine bodyPost_ret (rs_t (v := .int .i64 z) Try.results36 hA17 (by kernel_rfl) ) hA17.2.1 ?_
  exact ⟨_, rfl, hbel0⟩

set_option maxHeartbeats 8000000 in
theorem count_any (A : Option Addr) (c : Nat) (js : List Jb) (x : Jb) (w : World) (ha : GR 11 Jb.va w A c js) (hj : js.length ≤ 900000) : Calls Try.prog 37 #[.slice A js.length c, .agg x.va] w (RetB w (.returned (.int .i64 (js.count x : Int)))) := by
  have hbel0 := below0 w
  refine sx_enter (N := 22) [(0, .slice A js.length c), (1, .agg x.va)] Try.func37 rfl Try.ntmps37 (by simp) (fun a z d s => (((Ag.nil z d).cons (s 1 _ rfl)).cons (s 0 _ rfl))) ?_
  intro a0 hA0
  refine wp_seq ?_
  refine wp_region_lit ?_
  refine sx_new (cs := x.va) (t := 38) hA0 rfl (by decide) (.inl rfl) (ev_box (hA0.ev (i := 1) (v := .agg x.va)) rfl _ rfl) ?_
  intro B1 w1 a1 hB1 hx1 hg1 hA1
  clear hA0
  have hs1 := hg1.size
  have hl1 := hx1.lt
  refine sx_val hA1 rfl (ev_assign (ec _ (.int .i64 0)) _ rfl) ?_
  intro a2 hA2; clear hA1
  refine sx_nil ?_
  refine then_n ?_
  refine wp_seq ?_
  refine wp_region_lit ?_
  refine sx_val hA2 rfl (ev_assign (ec _ (.int .i64 0)) _ rfl) ?_
  intro a3 hA3; clear hA2
  refine sx_nil ?_
  refine then_n ?_
  refine wp_seq ?_
  refine wp_seq ?_
  refine wp_region_lit ?_
  refine sx_val hA3 rfl (ev_assign (ec _ (.int .i64 0)) _ rfl) ?_
  intro a4 hA4; clear hA3
  refine sx_nil ?_
  refine then_n ?_
  refine wp_block ?_
  have hbel0_6 := Below.gN hbel0 hg1 hbel0.size
  refine wp_loop_ghost (fun n a wl => ∃ (m : Nat) (q : Nat), n = js.length - m ∧ Ag a 22 [(0, .slice A js.length c), (3, .pointer (some ⟨B1, 0, none⟩)), (4, .int .i64 0), (6, .int .i64 (m : Int)), (5, .int .i64 (q : Int))] ∧ m ≤ js.length ∧ q = (js.take m).count x ∧ Bx wl B1 38 x.va ∧ w1.heap.size ≤ wl.heap.size ∧ Below w.heap.size w wl) (js.length - 0) ⟨0, 0, rfl, ((((((Ag.nil hA4.1 hA4.2.1).cons (hA4.get (i := 5) (v := .int .i64 0))).cons (hA4.get (i := 6) (v := .int .i64 0))).cons (hA4.get (i := 4) (v := .int .i64 0))).cons (hA4.get (i := 3) (v := .pointer (some ⟨B1, 0, none⟩)))).cons (hA4.get (i := 0) (v := .slice A js.length c))), Nat.zero_le _, rfl, hx1, Nat.le_refl _, hbel0_6⟩ ?_
  intro n5 a5 w5 hI5
  obtain ⟨m, q, hn5, hA5, q5_0, q5_1, f5_0, hsz5, hbel5⟩ := hI5
  subst hn5
  clear hA4
  have hlB1_5 := f5_0.lt
  cases hd7 : decide ((m : Int) < (js.length : Int))
  · have hp7 := of_decide_eq_false hd7
    refine wp_seq ?_
    refine wp_seq ?_
    refine wp_region_lit ?_
    refine sx_val hA5 rfl (ev_move (hA5.ev (i := 6) (v := .int .i64 (m : Int))) _ rfl) ?_
    intro a8 hA8; clear hA5
    refine sx_val hA8 rfl (ev_move (hA8.ev (i := 0) (v := .slice A js.length c)) _ rfl) ?_
    intro a9 hA9; clear hA8
    refine sx_val (v := .int .i64 (js.length : Int)) hA9 rfl (ev_len (hA9.ev (i := 8) (v := .slice A js.length c)) Try.underlying23 _ rfl) ?_
    intro a10 hA10; clear hA9
    refine sx_val (v := .bool false) hA10 rfl (ev_lssB (k := .i64) (m := (m : Int)) (n := (js.length : Int)) (hA10.ev (i := 7)) (hA10.ev (i := 9)) hd7 _ rfl) ?_
    intro a11 hA11; clear hA10
    refine sx_nil ?_
    refine then_n ?_
    refine wp_cond_false (hA11.ev (i := 10) (v := .bool false)) ?_
    refine wp_exit ?_
    refine then_x ?_
    refine then_x ?_
    refine blk_hit ?_
    refine then_n ?_
    refine wp_seq ?_
    refine wp_region_lit ?_
    refine sx_val hA11 rfl (ev_move (hA11.ev (i := 5) (v := .int .i64 (q : Int))) _ rfl) ?_
    intro a12 hA12; clear hA11
    refine sx_val hA12 rfl (ev_assign (hA12.ev (i := 21) (v := .int .i64 (q : Int))) _ rfl) ?_
    intro a13 hA13; clear hA12
    refine sx_nil ?_
    refine then_n ?_
    refine wp_ret ?_
    refine bodyPost_ret (rs_t (v := .int .i64 (q : Int)) Try.results37 hA13 (by kernel_rfl) ) hA13.2.1 ?_
    have hm : m = js.length := by omega
    exact ⟨by rw [q5_1, hm, List.take_length], hbel5⟩
  have hp7 := of_decide_eq_true hd7
  obtain ⟨y, hy⟩ : ∃ y, js[m]? = some y := ⟨_, List.getElem?_eq_getElem (by omega)⟩
  obtain ⟨ad14, hAd14⟩ := GR.adr (ha.below hbel5) jb_sz hy
  have hcs := count_step (x := x) hy
  have hcl : (js.take m).count x ≤ m := Nat.le_trans List.count_le_length (by simp; omega)
  refine wp_seq ?_
  refine wp_seq ?_
  refine wp_region_lit ?_
  refine sx_val hA5 rfl (ev_move (hA5.ev (i := 6) (v := .int .i64 (m : Int))) _ rfl) ?_
  intro a15 hA15; clear hA5
  refine sx_val hA15 rfl (ev_move (hA15.ev (i := 0) (v := .slice A js.length c)) _ rfl) ?_
  intro a16 hA16; clear hA15
  refine sx_val (v := .int .i64 (js.length : Int)) hA16 rfl (ev_len (hA16.ev (i := 8) (v := .slice A js.length c)) Try.underlying23 _ rfl) ?_
  intro a17 hA17; clear hA16
  refine sx_val (v := .bool true) hA17 rfl (ev_lssB (k := .i64) (m := (m : Int)) (n := (js.length : Int)) (hA17.ev (i := 7)) (hA17.ev (i := 9)) hd7 _ rfl) ?_
  intro a18 hA18; clear hA17
  refine sx_nil ?_
  refine then_n ?_
  refine wp_cond_true (hA18.ev (i := 10) (v := .bool true)) ?_
  refine wp_skip ?_
  refine then_n ?_
  refine wp_seq ?_
  refine wp_block ?_
  refine wp_seq ?_
  refine region_D (n := 6) (by kernel_rfl) (by kernel_rfl) rfl (fun L ac wc => Below w.heap.size w wc ∧ w5.heap.size ≤ wc.heap.size ∧ Bx wc B1 38 x.va ∧ (L 0 = true → Sv ac 13 (.slice A js.length c)) ∧ (L 1 = true → Sv ac 14 (.int .i64 (m : Int))) ∧ (L 2 = true → Sv ac 15 (.pointer (some (ad14.add (m * 11))))) ∧ (L 3 = true → Sv ac 16 (.agg y.va)) ∧ (L 4 = true → Sv ac 17 (.agg x.va)) ∧ (L 5 = true → Sv ac 18 (.bool (y == x)))) ⟨(Below.gN hbel5 (gdr _) hbel5.size), (Nat.le_refl _), (f5_0.gN (gdr _)), (fun h => by cases h), (fun h => by cases h), (fun h => by cases h), (fun h => by cases h), (fun h => by cases h), (fun h => by cases h)⟩ ?_ ?_
  · intro iq hiq o ho L hL hdep ac wc hF hJ
    obtain ⟨bl, sz, b_B1, s_13, s_14, s_15, s_16, s_17, s_18⟩ := hJ
    have zq := hF.1.trans hA18.1
    match iq, hiq with
    | 0, _ =>
      obtain rfl := Option.some.inj (show some _ = some o from ho); clear ho
      have v0 := hF.sv (s := 0) (by kernel_rfl) (hA18.get (i := 0) (v := .slice A js.length c))
      refine dj_val (i := 0) (v := .slice A js.length c) rfl (.inl rfl) (ev_move v0.eval _ rfl) ?_
      exact ⟨⟨_, rfl⟩, bl, sz, b_B1, (fun _ => Sv.self (by rw [zq]; decide) _), (so s_14), (so s_15), (so s_16), (so s_17), (so s_18)⟩
    | 1, _ =>
      obtain rfl := Option.some.inj (show some _ = some o from ho); clear ho
      have v6 := hF.sv (s := 6) (by kernel_rfl) (hA18.get (i := 6) (v := .int .i64 (m : Int)))
      refine dj_val (i := 1) (v := .int .i64 (m : Int)) rfl (.inl rfl) (ev_move v6.eval _ rfl) ?_
      exact ⟨⟨_, rfl⟩, bl, sz, b_B1, (so s_13), (fun _ => Sv.self (by rw [zq]; decide) _), (so s_15), (so s_16), (so s_17), (so s_18)⟩
    | 2, _ =>
      obtain rfl := Option.some.inj (show some _ = some o from ho); clear ho
      have v13 := s_13 (dp hdep 0)
      have v14 := s_14 (dp hdep 1)
      refine dj_val (i := 2) (v := .pointer (some (ad14.add (m * 11)))) rfl (.inl rfl) (ev_idx (k := m) v13.eval hAd14 v14.eval rfl (by omega) Try.underlying23 (by kernel_rfl) _ rfl) ?_
      exact ⟨⟨_, rfl⟩, bl, sz, b_B1, (so s_13), (so s_14), (fun _ => Sv.self (by rw [zq]; decide) _), (so s_16), (so s_17), (so s_18)⟩
    | 3, _ =>
      obtain rfl := Option.some.inj (show some _ = some o from ho); clear ho
      have v15 := s_15 (dp hdep 2)
      refine dj_val (i := 3) (v := .agg y.va) rfl (.inl rfl) (ev_loadR (cs := y.va) (n := 11) v15.eval (GR.cel (ha.below bl) hAd14 jb_sz hy) Try.underlying38 rfl (by kernel_rfl) rfl _ rfl) ?_
      exact ⟨⟨_, rfl⟩, bl, sz, b_B1, (so s_13), (so s_14), (so s_15), (fun _ => Sv.self (by rw [zq]; decide) _), (so s_17), (so s_18)⟩
    | 4, _ =>
      obtain rfl := Option.some.inj (show some _ = some o from ho); clear ho
      have v3 := hF.sv (s := 3) (by kernel_rfl) (hA18.get (i := 3) (v := .pointer (some ⟨B1, 0, none⟩)))
      refine dj_val (i := 4) (v := .agg x.va) rfl (.inl rfl) (ev_row v3.eval b_B1 Try.underlying38 rfl (n := 11) (by kernel_rfl) rfl _ rfl) ?_
      exact ⟨⟨_, rfl⟩, bl, sz, b_B1, (so s_13), (so s_14), (so s_15), (so s_16), (fun _ => Sv.self (by rw [zq]; decide) _), (so s_18)⟩
    | 5, _ =>
      obtain rfl := Option.some.inj (show some _ = some o from ho); clear ho
      have v16 := s_16 (dp hdep 3)
      have v17 := s_17 (dp hdep 4)
      refine dj_val (i := 5) (v := .bool (y == x)) rfl (.inl rfl) (ev_eqJ (a := y) (b := x) v16.eval v17.eval _ rfl) ?_
      exact ⟨⟨_, rfl⟩, bl, sz, b_B1, (so s_13), (so s_14), (so s_15), (so s_16), (so s_17), (fun _ => Sv.self (by rw [zq]; decide) _)⟩
    | k + 6, h => exact absurd h (by omega)
  · intro L hall ac19 wc19 hF hJ
    obtain ⟨bl, sz, b_B1, s_13, s_14, s_15, s_16, s_17, s_18⟩ := hJ
    have hA19 : Ag ac19 22 [(0, .slice A js.length c), (3, .pointer (some ⟨B1, 0, none⟩)), (4, .int .i64 0), (6, .int .i64 (m : Int)), (5, .int .i64 (q : Int)), (7, .int .i64 (m : Int)), (8, .slice A js.length c), (9, .int .i64 (js.length : Int)), (10, .bool true), (13, .slice A js.length c), (14, .int .i64 (m : Int)), (15, .pointer (some (ad14.add (m * 11)))), (16, .agg y.va), (17, .agg x.va), (18, .bool (y == x))] := ((((((((((((((((Ag.nil (hF.1.trans hA18.1) (hF.2.1.trans hA18.2.1)).cons (s_18 (hall 5 (by decide)))).cons (s_17 (hall 4 (by decide)))).cons (s_16 (hall 3 (by decide)))).cons (s_15 (hall 2 (by decide)))).cons (s_14 (hall 1 (by decide)))).cons (s_13 (hall 0 (by decide)))).cons (hF.sv (s := 10) (by kernel_rfl) (hA18.get (i := 10) (v := .bool true)))).cons (hF.sv (s := 9) (by kernel_rfl) (hA18.get (i := 9) (v := .int .i64 (js.length : Int))))).cons (hF.sv (s := 8) (by kernel_rfl) (hA18.get (i := 8) (v := .slice A js.length c)))).cons (hF.sv (s := 7) (by kernel_rfl) (hA18.get (i := 7) (v := .int .i64 (m : Int))))).cons (hF.sv (s := 5) (by kernel_rfl) (hA18.get (i := 5) (v := .int .i64 (q : Int))))).cons (hF.sv (s := 6) (by kernel_rfl) (hA18.get (i := 6) (v := .int .i64 (m : Int))))).cons (hF.sv (s := 4) (by kernel_rfl) (hA18.get (i := 4) (v := .int .i64 0)))).cons (hF.sv (s := 3) (by kernel_rfl) (hA18.get (i := 3) (v := .pointer (some ⟨B1, 0, none⟩))))).cons (hF.sv (s := 0) (by kernel_rfl) (hA18.get (i := 0) (v := .slice A js.length c))))
    have bl19 := bl
    have sz19 := sz
    have b19_B1 := b_B1
    clear hF bl sz b_B1 s_13 s_14 s_15 s_16 s_17 s_18 hall hA18
    refine then_n ?_
    cases hd20 : (y == x)
    · rw [hd20] at hA19
      refine wp_cond_false (hA19.ev (i := 18) (v := .bool false)) ?_
      refine wp_skip ?_
      refine blk_n ?_
      refine then_n ?_
      refine wp_region_lit ?_
      refine sx_val hA19 rfl (ev_move (hA19.ev (i := 6) (v := .int .i64 (m : Int))) _ rfl) ?_
      intro a21 hA21; clear hA19
      refine sx_val (v := .int .i64 ((m + 1 : Nat) : Int)) hA21 rfl (ev_addR (k := .i64) (m := (m : Int)) (n := 1) (r := ((m + 1 : Nat) : Int)) (hA21.ev (i := 11)) (ec _ (.int .i64 1)) (wr (by omega) (by omega) (by omega)) _ rfl) ?_
      intro a22 hA22; clear hA21
      refine sx_val hA22 rfl (ev_assign (hA22.ev (i := 12) (v := .int .i64 ((m + 1 : Nat) : Int))) _ rfl) ?_
      intro a23 hA23; clear hA22
      refine sx_nil ?_
      refine then_n ?_
      refine ⟨js.length - (m + 1), by omega, m + 1, q, rfl, ((((((Ag.nil hA23.1 hA23.2.1).cons (hA23.get (i := 5) (v := .int .i64 (q : Int)))).cons (hA23.get (i := 6) (v := .int .i64 ((m + 1 : Nat) : Int)))).cons (hA23.get (i := 4) (v := .int .i64 0))).cons (hA23.get (i := 3) (v := .pointer (some ⟨B1, 0, none⟩)))).cons (hA23.get (i := 0) (v := .slice A js.length c))), by omega, by rw [hcs, hd20, ← q5_1]; rfl, b19_B1, by omega, bl19⟩
    rw [hd20] at hA19
    refine wp_cond_true (hA19.ev (i := 18) (v := .bool true)) ?_
    refine wp_region_lit ?_
    refine sx_val hA19 rfl (ev_move (hA19.ev (i := 5) (v := .int .i64 (q : Int))) _ rfl) ?_
    intro a24 hA24; clear hA19
    refine sx_val (v := .int .i64 ((q + 1 : Nat) : Int)) hA24 rfl (ev_addR (k := .i64) (m := (q : Int)) (n := 1) (r := ((q + 1 : Nat) : Int)) (hA24.ev (i := 19)) (ec _ (.int .i64 1)) (wr (by omega) (by omega) (by omega)) _ rfl) ?_
    intro a25 hA25; clear hA24
    refine sx_val hA25 rfl (ev_assign (hA25.ev (i := 20) (v := .int .i64 ((q + 1 : Nat) : Int))) _ rfl) ?_
    intro a26 hA26; clear hA25
    refine sx_nil ?_
    refine blk_n ?_
    refine then_n ?_
    refine wp_region_lit ?_
    refine sx_val hA26 rfl (ev_move (hA26.ev (i := 6) (v := .int .i64 (m : Int))) _ rfl) ?_
    intro a27 hA27; clear hA26
    refine sx_val (v := .int .i64 ((m + 1 : Nat) : Int)) hA27 rfl (ev_addR (k := .i64) (m := (m : Int)) (n := 1) (r := ((m + 1 : Nat) : Int)) (hA27.ev (i := 11)) (ec _ (.int .i64 1)) (wr (by omega) (by omega) (by omega)) _ rfl) ?_
    intro a28 hA28; clear hA27
    refine sx_val hA28 rfl (ev_assign (hA28.ev (i := 12) (v := .int .i64 ((m + 1 : Nat) : Int))) _ rfl) ?_
    intro a29 hA29; clear hA28
    refine sx_nil ?_
    refine then_n ?_
    refine ⟨js.length - (m + 1), by omega, m + 1, q + 1, rfl, ((((((Ag.nil hA29.1 hA29.2.1).cons (hA29.get (i := 5) (v := .int .i64 ((q + 1 : Nat) : Int)))).cons (hA29.get (i := 6) (v := .int .i64 ((m + 1 : Nat) : Int)))).cons (hA29.get (i := 4) (v := .int .i64 0))).cons (hA29.get (i := 3) (v := .pointer (some ⟨B1, 0, none⟩)))).cons (hA29.get (i := 0) (v := .slice A js.length c))), by omega, by rw [hcs, hd20, ← q5_1]; rfl, b19_B1, by omega, bl19⟩
end Go.Proofs.Ytbkdimildnahaaa
