/- SameDisk, alone. -/
import Derived.Test.YtbkdimildnahaaaDN
namespace Go.Proofs.Ytbkdimildnahaaa
open Go.RowKit
set_option linter.unusedVariables false
set_option maxRecDepth 100000

set_option maxHeartbeats 8000000 in
theorem SameDisk_any (A1 : Option Addr) (c1 : Nat) (A2 : Option Addr) (c2 : Nat) (cs : List Ct) (js : List Jb) (room : Int) (E1 : Option Addr) (f1 : Nat) (E2 : Option Addr) (f2 : Nat) (w : World) (hd : GD w A1 c1 A2 c2 cs js) (he : GD w E1 f1 E2 f2 cs js) (hl : cs.length ≤ 900000) (hj : js.length ≤ 900000) : Calls Try.prog 14 #[.agg #[.slice A1 cs.length c1, .slice A2 js.length c2, .int .i64 room], .agg #[.slice E1 cs.length f1, .slice E2 js.length f2, .int .i64 room]] w (RetB w (.returned (.bool true))) := by
  have hbel0 := below0 w
  refine sx_enter (N := 66) [(0, .agg #[.slice A1 cs.length c1, .slice A2 js.length c2, .int .i64 room]), (1, .agg #[.slice E1 cs.length f1, .slice E2 js.length f2, .int .i64 room])] Try.func14 rfl Try.ntmps14 (by simp) (fun a z d s => (((Ag.nil z d).cons (s 1 _ rfl)).cons (s 0 _ rfl))) ?_
  intro a0 hA0
  refine wp_seq ?_
  refine wp_region_lit ?_
  refine sx_new (cs := #[.slice A1 cs.length c1, .slice A2 js.length c2, .int .i64 room]) (t := 25) hA0 rfl (by decide) (.inl rfl) (ev_box (hA0.ev (i := 0) (v := .agg #[.slice A1 cs.length c1, .slice A2 js.length c2, .int .i64 room])) rfl _ rfl) ?_
  intro B1 w1 a1 hB1 hx1 hg1 hA1
  clear hA0
  have hs1 := hg1.size
  have hl1 := hx1.lt
  refine sx_new (cs := #[.slice E1 cs.length f1, .slice E2 js.length f2, .int .i64 room]) (t := 25) hA1 rfl (by decide) (.inl rfl) (ev_box (hA1.ev (i := 1) (v := .agg #[.slice E1 cs.length f1, .slice E2 js.length f2, .int .i64 room])) rfl _ rfl) ?_
  intro B2 w2 a2 hB2 hx2 hg2 hA2
  clear hA1
  have hs2 := hg2.size
  have hl2 := hx2.lt
  refine sx_val hA2 rfl (ev_assign (ec _ (.bool false)) _ rfl) ?_
  intro a3 hA3; clear hA2
  refine sx_nil ?_
  refine then_n ?_
  refine wp_seq ?_
  refine wp_seq ?_
  refine wp_region_lit ?_
  refine sx_val (v := .pointer (some ⟨B1, 0, none⟩)) hA3 rfl (fb_Disk_0 (hA3.ev (i := 2) (v := .pointer (some ⟨B1, 0, none⟩))) _ rfl) ?_
  intro a4 hA4; clear hA3
  have hx1_5 := hx1.gN hg2
  refine sx_val (v := .slice A1 cs.length c1) hA4 rfl (ev_cell (v := .slice A1 cs.length c1) (hA4.ev (i := 7) (v := .pointer (some ⟨B1, 0, none⟩))) ((hx1_5.cell 0).trans rfl) Try.underlying22 rfl _ rfl) ?_
  intro a6 hA6; clear hA4
  refine sx_val (v := .int .i64 (cs.length : Int)) hA6 rfl (ev_len (hA6.ev (i := 8) (v := .slice A1 cs.length c1)) Try.underlying22 _ rfl) ?_
  intro a7 hA7; clear hA6
  refine sx_val (v := .pointer (some ⟨B2, 0, none⟩)) hA7 rfl (fb_Disk_0 (hA7.ev (i := 3) (v := .pointer (some ⟨B2, 0, none⟩))) _ rfl) ?_
  intro a8 hA8; clear hA7
  refine sx_val (v := .slice E1 cs.length f1) hA8 rfl (ev_cell (v := .slice E1 cs.length f1) (hA8.ev (i := 10) (v := .pointer (some ⟨B2, 0, none⟩))) ((hx2.cell 0).trans rfl) Try.underlying22 rfl _ rfl) ?_
  intro a9 hA9; clear hA8
  refine sx_val (v := .int .i64 (cs.length : Int)) hA9 rfl (ev_len (hA9.ev (i := 11) (v := .slice E1 cs.length f1)) Try.underlying22 _ rfl) ?_
  intro a10 hA10; clear hA9
  refine sx_val (v := .bool false) hA10 rfl (ev_neqB (k := .i64) (m := (cs.length : Int)) (n := (cs.length : Int)) (hA10.ev (i := 9)) (hA10.ev (i := 12)) (by simp) _ rfl) ?_
  intro a11 hA11; clear hA10
  refine sx_val hA11 rfl (ev_move (hA11.ev (i := 13) (v := .bool false)) _ rfl) ?_
  intro a12 hA12; clear hA11
  refine sx_val (hg := (.inr ⟨7, false, 14, rfl, rfl, by kernel_rfl⟩)) (v := .pointer (some ⟨B1, 1, none⟩)) hA12 rfl (fb_Disk_1 (hA12.ev (i := 2) (v := .pointer (some ⟨B1, 0, none⟩))) _ rfl) ?_
  intro a13 hA13; clear hA12
  refine sx_val (hg := (.inr ⟨7, false, 14, rfl, rfl, by kernel_rfl⟩)) (v := .slice A2 js.length c2) hA13 rfl (ev_cell (v := .slice A2 js.length c2) (hA13.ev (i := 15) (v := .pointer (some ⟨B1, 1, none⟩))) ((hx1_5.cell 1).trans rfl) Try.underlying23 rfl _ rfl) ?_
  intro a14 hA14; clear hA13
  refine sx_val (hg := (.inr ⟨7, false, 14, rfl, rfl, by kernel_rfl⟩)) (v := .int .i64 (js.length : Int)) hA14 rfl (ev_len (hA14.ev (i := 16) (v := .slice A2 js.length c2)) Try.underlying23 _ rfl) ?_
  intro a15 hA15; clear hA14
  refine sx_val (hg := (.inr ⟨7, false, 14, rfl, rfl, by kernel_rfl⟩)) (v := .pointer (some ⟨B2, 1, none⟩)) hA15 rfl (fb_Disk_1 (hA15.ev (i := 3) (v := .pointer (some ⟨B2, 0, none⟩))) _ rfl) ?_
  intro a16 hA16; clear hA15
  refine sx_val (hg := (.inr ⟨7, false, 14, rfl, rfl, by kernel_rfl⟩)) (v := .slice E2 js.length f2) hA16 rfl (ev_cell (v := .slice E2 js.length f2) (hA16.ev (i := 18) (v := .pointer (some ⟨B2, 1, none⟩))) ((hx2.cell 1).trans rfl) Try.underlying23 rfl _ rfl) ?_
  intro a17 hA17; clear hA16
  refine sx_val (hg := (.inr ⟨7, false, 14, rfl, rfl, by kernel_rfl⟩)) (v := .int .i64 (js.length : Int)) hA17 rfl (ev_len (hA17.ev (i := 19) (v := .slice E2 js.length f2)) Try.underlying23 _ rfl) ?_
  intro a18 hA18; clear hA17
  refine sx_val (hg := (.inr ⟨7, false, 14, rfl, rfl, by kernel_rfl⟩)) (v := .bool false) hA18 rfl (ev_neqB (k := .i64) (m := (js.length : Int)) (n := (js.length : Int)) (hA18.ev (i := 17)) (hA18.ev (i := 20)) (by simp) _ rfl) ?_
  intro a19 hA19; clear hA18
  refine sx_val hA19 rfl (ev_pickF (hA19.ev (i := 14) (v := .bool false)) (hA19.ev (i := 21) (v := .bool false)) _ rfl) ?_
  intro a20 hA20; clear hA19
  refine sx_val hA20 rfl (ev_move (hA20.ev (i := 22) (v := .bool false)) _ rfl) ?_
  intro a21 hA21; clear hA20
  refine sx_val (hg := (.inr ⟨16, false, 23, rfl, rfl, by kernel_rfl⟩)) (v := .pointer (some ⟨B1, 2, none⟩)) hA21 rfl (fb_Disk_2 (hA21.ev (i := 2) (v := .pointer (some ⟨B1, 0, none⟩))) _ rfl) ?_
  intro a22 hA22; clear hA21
  refine sx_val (hg := (.inr ⟨16, false, 23, rfl, rfl, by kernel_rfl⟩)) (v := .int .i64 room) hA22 rfl (ev_cell (v := .int .i64 room) (hA22.ev (i := 24) (v := .pointer (some ⟨B1, 2, none⟩))) ((hx1_5.cell 2).trans rfl) Try.underlying3 rfl _ rfl) ?_
  intro a23 hA23; clear hA22
  refine sx_val (hg := (.inr ⟨16, false, 23, rfl, rfl, by kernel_rfl⟩)) (v := .pointer (some ⟨B2, 2, none⟩)) hA23 rfl (fb_Disk_2 (hA23.ev (i := 3) (v := .pointer (some ⟨B2, 0, none⟩))) _ rfl) ?_
  intro a24 hA24; clear hA23
  refine sx_val (hg := (.inr ⟨16, false, 23, rfl, rfl, by kernel_rfl⟩)) (v := .int .i64 room) hA24 rfl (ev_cell (v := .int .i64 room) (hA24.ev (i := 26) (v := .pointer (some ⟨B2, 2, none⟩))) ((hx2.cell 2).trans rfl) Try.underlying3 rfl _ rfl) ?_
  intro a25 hA25; clear hA24
  refine sx_val (hg := (.inr ⟨16, false, 23, rfl, rfl, by kernel_rfl⟩)) (v := .bool false) hA25 rfl (ev_neqB (k := .i64) (m := room) (n := room) (hA25.ev (i := 25)) (hA25.ev (i := 27)) (by simp) _ rfl) ?_
  intro a26 hA26; clear hA25
  refine sx_val hA26 rfl (ev_pickF (hA26.ev (i := 23) (v := .bool false)) (hA26.ev (i := 28) (v := .bool false)) _ rfl) ?_
  intro a27 hA27; clear hA26
  refine sx_nil ?_
  refine then_n ?_
  refine wp_cond_false (hA27.ev (i := 29) (v := .bool false)) ?_
  refine wp_skip ?_
  refine then_n ?_
  refine wp_seq ?_
  refine wp_seq ?_
  refine wp_region_lit ?_
  refine sx_val hA27 rfl (ev_assign (ec _ (.int .i64 0)) _ rfl) ?_
  intro a28 hA28; clear hA27
  refine sx_nil ?_
  refine then_n ?_
  refine wp_block ?_
  have hbel0_30 := Below.gN hbel0 hg1 hbel0.size
  have hbel0_31 := Below.gN hbel0_30 hg2 hbel0_30.size
  refine wp_loop_ghost (fun n a wl => ∃ (k : Nat), n = cs.length - k ∧ Ag a 66 [(2, .pointer (some ⟨B1, 0, none⟩)), (3, .pointer (some ⟨B2, 0, none⟩)), (5, .int .i64 (k : Int))] ∧ k ≤ cs.length ∧ Bx wl B1 25 #[.slice A1 cs.length c1, .slice A2 js.length c2, .int .i64 room] ∧ Bx wl B2 25 #[.slice E1 cs.length f1, .slice E2 js.length f2, .int .i64 room] ∧ w2.heap.size ≤ wl.heap.size ∧ Below w.heap.size w wl) (cs.length - 0) ⟨0, rfl, ((((Ag.nil hA28.1 hA28.2.1).cons (hA28.get (i := 5) (v := .int .i64 0))).cons (hA28.get (i := 3) (v := .pointer (some ⟨B2, 0, none⟩)))).cons (hA28.get (i := 2) (v := .pointer (some ⟨B1, 0, none⟩)))), Nat.zero_le _, hx1_5, hx2, Nat.le_refl _, hbel0_31⟩ ?_
  intro n29 a29 w29 hI29
  obtain ⟨k, hn29, hA29, q29_0, f29_0, f29_1, hsz29, hbel29⟩ := hI29
  subst hn29
  clear hA28
  have hlB1_29 := f29_0.lt
  have hlB2_29 := f29_1.lt
  cases hd32 : decide ((k : Int) < (cs.length : Int))
  rotate_left
  · have hp32 := of_decide_eq_true hd32
    obtain ⟨x, hx⟩ : ∃ x, cs[k]? = some x := ⟨_, List.getElem?_eq_getElem (by omega)⟩
    obtain ⟨ad58, hAd58⟩ := GR.adr (hd.s.below hbel29) ct_sz hx
    obtain ⟨ad59, hAd59⟩ := GR.adr (he.s.below hbel29) ct_sz hx
    refine wp_seq ?_
    refine wp_seq ?_
    refine wp_region_lit ?_
    refine sx_val hA29 rfl (ev_move (hA29.ev (i := 5) (v := .int .i64 (k : Int))) _ rfl) ?_
    intro a60 hA60; clear hA29
    refine sx_val (v := .pointer (some ⟨B1, 0, none⟩)) hA60 rfl (fb_Disk_0 (hA60.ev (i := 2) (v := .pointer (some ⟨B1, 0, none⟩))) _ rfl) ?_
    intro a61 hA61; clear hA60
    refine sx_val (v := .slice A1 cs.length c1) hA61 rfl (ev_cell (v := .slice A1 cs.length c1) (hA61.ev (i := 31) (v := .pointer (some ⟨B1, 0, none⟩))) ((f29_0.cell 0).trans rfl) Try.underlying22 rfl _ rfl) ?_
    intro a62 hA62; clear hA61
    refine sx_val (v := .int .i64 (cs.length : Int)) hA62 rfl (ev_len (hA62.ev (i := 32) (v := .slice A1 cs.length c1)) Try.underlying22 _ rfl) ?_
    intro a63 hA63; clear hA62
    refine sx_val (v := .bool true) hA63 rfl (ev_lssB (k := .i64) (m := (k : Int)) (n := (cs.length : Int)) (hA63.ev (i := 30)) (hA63.ev (i := 33)) hd32 _ rfl) ?_
    intro a64 hA64; clear hA63
    refine sx_nil ?_
    refine then_n ?_
    refine wp_cond_true (hA64.ev (i := 34) (v := .bool true)) ?_
    refine wp_skip ?_
    refine then_n ?_
    refine wp_seq ?_
    refine wp_block ?_
    refine wp_seq ?_
    refine region_D (n := 11) (by kernel_rfl) (by kernel_rfl) rfl (fun L ac wc => Below w.heap.size w wc ∧ w29.heap.size ≤ wc.heap.size ∧ Bx wc B1 25 (#[.slice A1 cs.length c1, .slice A2 js.length c2, .int .i64 room]) ∧ Bx wc B2 25 (#[.slice E1 cs.length f1, .slice E2 js.length f2, .int .i64 room]) ∧ (L 0 = true → Sv ac 37 (.pointer (some ⟨B1, 0, none⟩))) ∧ (L 1 = true → Sv ac 38 (.slice A1 cs.length c1)) ∧ (L 2 = true → Sv ac 39 (.int .i64 (k : Int))) ∧ (L 3 = true → Sv ac 40 (.pointer (some (ad58.add (k * 8))))) ∧ (L 4 = true → Sv ac 41 (.agg x.va)) ∧ (L 5 = true → Sv ac 42 (.pointer (some ⟨B2, 0, none⟩))) ∧ (L 6 = true → Sv ac 43 (.slice E1 cs.length f1)) ∧ (L 7 = true → Sv ac 44 (.int .i64 (k : Int))) ∧ (L 8 = true → Sv ac 45 (.pointer (some (ad59.add (k * 8))))) ∧ (L 9 = true → Sv ac 46 (.agg x.va)) ∧ (L 10 = true → Sv ac 47 (.bool false))) ⟨(Below.gN hbel29 (gdr _) hbel29.size), (Nat.le_refl _), (f29_0.gN (gdr _)), (f29_1.gN (gdr _)), (fun h => by cases h), (fun h => by cases h), (fun h => by cases h), (fun h => by cases h), (fun h => by cases h), (fun h => by cases h), (fun h => by cases h), (fun h => by cases h), (fun h => by cases h), (fun h => by cases h), (fun h => by cases h)⟩ ?_ ?_
    · intro iq hiq o ho L hL hdep ac wc hF hJ
      obtain ⟨bl, sz, b_B1, b_B2, s_37, s_38, s_39, s_40, s_41, s_42, s_43, s_44, s_45, s_46, s_47⟩ := hJ
      have z := hF.1.trans hA64.1
      match iq, hiq with
      | 0, _ =>
        obtain rfl := Option.some.inj (show some _ = some o from ho); clear ho
        have v2 := hF.sv (s := 2) (by kernel_rfl) (hA64.get (i := 2) (v := .pointer (some ⟨B1, 0, none⟩)))
        refine dj_val (i := 0) (v := .pointer (some ⟨B1, 0, none⟩)) rfl (.inl rfl) (fb_Disk_0 v2.eval _ rfl) ?_
        exact ⟨⟨_, rfl⟩, bl, sz, b_B1, b_B2, (fun _ => Sv.self (by rw [z]; decide) _), (so s_38), (so s_39), (so s_40), (so s_41), (so s_42), (so s_43), (so s_44), (so s_45), (so s_46), (so s_47)⟩
      | 1, _ =>
        obtain rfl := Option.some.inj (show some _ = some o from ho); clear ho
        have v37 := s_37 (dp hdep 0)
        refine dj_val (i := 1) (v := .slice A1 cs.length c1) rfl (.inl rfl) (ev_cell (v := .slice A1 cs.length c1) v37.eval ((b_B1.cell 0).trans rfl) Try.underlying22 rfl _ rfl) ?_
        exact ⟨⟨_, rfl⟩, bl, sz, b_B1, b_B2, (so s_37), (fun _ => Sv.self (by rw [z]; decide) _), (so s_39), (so s_40), (so s_41), (so s_42), (so s_43), (so s_44), (so s_45), (so s_46), (so s_47)⟩
      | 2, _ =>
        obtain rfl := Option.some.inj (show some _ = some o from ho); clear ho
        have v5 := hF.sv (s := 5) (by kernel_rfl) (hA64.get (i := 5) (v := .int .i64 (k : Int)))
        refine dj_val (i := 2) (v := .int .i64 (k : Int)) rfl (.inl rfl) (ev_move v5.eval _ rfl) ?_
        exact ⟨⟨_, rfl⟩, bl, sz, b_B1, b_B2, (so s_37), (so s_38), (fun _ => Sv.self (by rw [z]; decide) _), (so s_40), (so s_41), (so s_42), (so s_43), (so s_44), (so s_45), (so s_46), (so s_47)⟩
      | 3, _ =>
        obtain rfl := Option.some.inj (show some _ = some o from ho); clear ho
        have v38 := s_38 (dp hdep 1)
        have v39 := s_39 (dp hdep 2)
        refine dj_val (i := 3) (v := .pointer (some (ad58.add (k * 8)))) rfl (.inl rfl) (ev_idx (k := k) v38.eval hAd58 v39.eval rfl (by omega) Try.underlying22 (by kernel_rfl) _ rfl) ?_
        exact ⟨⟨_, rfl⟩, bl, sz, b_B1, b_B2, (so s_37), (so s_38), (so s_39), (fun _ => Sv.self (by rw [z]; decide) _), (so s_41), (so s_42), (so s_43), (so s_44), (so s_45), (so s_46), (so s_47)⟩
      | 4, _ =>
        obtain rfl := Option.some.inj (show some _ = some o from ho); clear ho
        have v40 := s_40 (dp hdep 3)
        refine dj_val (i := 4) (v := .agg x.va) rfl (.inl rfl) (ev_loadR (cs := x.va) (n := 8) v40.eval (GR.cel (hd.s.below bl) hAd58 ct_sz hx) Try.underlying28 rfl (by kernel_rfl) rfl _ rfl) ?_
        exact ⟨⟨_, rfl⟩, bl, sz, b_B1, b_B2, (so s_37), (so s_38), (so s_39), (so s_40), (fun _ => Sv.self (by rw [z]; decide) _), (so s_42), (so s_43), (so s_44), (so s_45), (so s_46), (so s_47)⟩
      | 5, _ =>
        obtain rfl := Option.some.inj (show some _ = some o from ho); clear ho
        have v3 := hF.sv (s := 3) (by kernel_rfl) (hA64.get (i := 3) (v := .pointer (some ⟨B2, 0, none⟩)))
        refine dj_val (i := 5) (v := .pointer (some ⟨B2, 0, none⟩)) rfl (.inl rfl) (fb_Disk_0 v3.eval _ rfl) ?_
        exact ⟨⟨_, rfl⟩, bl, sz, b_B1, b_B2, (so s_37), (so s_38), (so s_39), (so s_40), (so s_41), (fun _ => Sv.self (by rw [z]; decide) _), (so s_43), (so s_44), (so s_45), (so s_46), (so s_47)⟩
      | 6, _ =>
        obtain rfl := Option.some.inj (show some _ = some o from ho); clear ho
        have v42 := s_42 (dp hdep 5)
        refine dj_val (i := 6) (v := .slice E1 cs.length f1) rfl (.inl rfl) (ev_cell (v := .slice E1 cs.length f1) v42.eval ((b_B2.cell 0).trans rfl) Try.underlying22 rfl _ rfl) ?_
        exact ⟨⟨_, rfl⟩, bl, sz, b_B1, b_B2, (so s_37), (so s_38), (so s_39), (so s_40), (so s_41), (so s_42), (fun _ => Sv.self (by rw [z]; decide) _), (so s_44), (so s_45), (so s_46), (so s_47)⟩
      | 7, _ =>
        obtain rfl := Option.some.inj (show some _ = some o from ho); clear ho
        have v5 := hF.sv (s := 5) (by kernel_rfl) (hA64.get (i := 5) (v := .int .i64 (k : Int)))
        refine dj_val (i := 7) (v := .int .i64 (k : Int)) rfl (.inl rfl) (ev_move v5.eval _ rfl) ?_
        exact ⟨⟨_, rfl⟩, bl, sz, b_B1, b_B2, (so s_37), (so s_38), (so s_39), (so s_40), (so s_41), (so s_42), (so s_43), (fun _ => Sv.self (by rw [z]; decide) _), (so s_45), (so s_46), (so s_47)⟩
      | 8, _ =>
        obtain rfl := Option.some.inj (show some _ = some o from ho); clear ho
        have v43 := s_43 (dp hdep 6)
        have v44 := s_44 (dp hdep 7)
        refine dj_val (i := 8) (v := .pointer (some (ad59.add (k * 8)))) rfl (.inl rfl) (ev_idx (k := k) v43.eval hAd59 v44.eval rfl (by omega) Try.underlying22 (by kernel_rfl) _ rfl) ?_
        exact ⟨⟨_, rfl⟩, bl, sz, b_B1, b_B2, (so s_37), (so s_38), (so s_39), (so s_40), (so s_41), (so s_42), (so s_43), (so s_44), (fun _ => Sv.self (by rw [z]; decide) _), (so s_46), (so s_47)⟩
      | 9, _ =>
        obtain rfl := Option.some.inj (show some _ = some o from ho); clear ho
        have v45 := s_45 (dp hdep 8)
        refine dj_val (i := 9) (v := .agg x.va) rfl (.inl rfl) (ev_loadR (cs := x.va) (n := 8) v45.eval (GR.cel (he.s.below bl) hAd59 ct_sz hx) Try.underlying28 rfl (by kernel_rfl) rfl _ rfl) ?_
        exact ⟨⟨_, rfl⟩, bl, sz, b_B1, b_B2, (so s_37), (so s_38), (so s_39), (so s_40), (so s_41), (so s_42), (so s_43), (so s_44), (so s_45), (fun _ => Sv.self (by rw [z]; decide) _), (so s_47)⟩
      | 10, _ =>
        obtain rfl := Option.some.inj (show some _ = some o from ho); clear ho
        have v41 := s_41 (dp hdep 4)
        have v46 := s_46 (dp hdep 9)
        refine dj_val (i := 10) (v := .bool false) rfl (.inl rfl) (ev_neCB (a := x) (b := x) (r := false) v41.eval v46.eval (by simp) _ rfl) ?_
        exact ⟨⟨_, rfl⟩, bl, sz, b_B1, b_B2, (so s_37), (so s_38), (so s_39), (so s_40), (so s_41), (so s_42), (so s_43), (so s_44), (so s_45), (so s_46), (fun _ => Sv.self (by rw [z]; decide) _)⟩
      | k + 11, h => exact absurd h (by omega)
    · intro L hall ac65 wc65 hF hJ
      obtain ⟨bl, sz, b_B1, b_B2, s_37, s_38, s_39, s_40, s_41, s_42, s_43, s_44, s_45, s_46, s_47⟩ := hJ
      have hA65 : Ag ac65 66 [(2, .pointer (some ⟨B1, 0, none⟩)), (3, .pointer (some ⟨B2, 0, none⟩)), (5, .int .i64 (k : Int)), (30, .int .i64 (k : Int)), (31, .pointer (some ⟨B1, 0, none⟩)), (32, .slice A1 cs.length c1), (33, .int .i64 (cs.length : Int)), (34, .bool true), (37, .pointer (some ⟨B1, 0, none⟩)), (38, .slice A1 cs.length c1), (39, .int .i64 (k : Int)), (40, .pointer (some (ad58.add (k * 8)))), (41, .agg x.va), (42, .pointer (some ⟨B2, 0, none⟩)), (43, .slice E1 cs.length f1), (44, .int .i64 (k : Int)), (45, .pointer (some (ad59.add (k * 8)))), (46, .agg x.va), (47, .bool false)] := ((((((((((((((((((((Ag.nil (hF.1.trans hA64.1) (hF.2.1.trans hA64.2.1)).cons (s_47 (hall 10 (by decide)))).cons (s_46 (hall 9 (by decide)))).cons (s_45 (hall 8 (by decide)))).cons (s_44 (hall 7 (by decide)))).cons (s_43 (hall 6 (by decide)))).cons (s_42 (hall 5 (by decide)))).cons (s_41 (hall 4 (by decide)))).cons (s_40 (hall 3 (by decide)))).cons (s_39 (hall 2 (by decide)))).cons (s_38 (hall 1 (by decide)))).cons (s_37 (hall 0 (by decide)))).cons (hF.sv (s := 34) (by kernel_rfl) (hA64.get (i := 34) (v := .bool true)))).cons (hF.sv (s := 33) (by kernel_rfl) (hA64.get (i := 33) (v := .int .i64 (cs.length : Int))))).cons (hF.sv (s := 32) (by kernel_rfl) (hA64.get (i := 32) (v := .slice A1 cs.length c1)))).cons (hF.sv (s := 31) (by kernel_rfl) (hA64.get (i := 31) (v := .pointer (some ⟨B1, 0, none⟩))))).cons (hF.sv (s := 30) (by kernel_rfl) (hA64.get (i := 30) (v := .int .i64 (k : Int))))).cons (hF.sv (s := 5) (by kernel_rfl) (hA64.get (i := 5) (v := .int .i64 (k : Int))))).cons (hF.sv (s := 3) (by kernel_rfl) (hA64.get (i := 3) (v := .pointer (some ⟨B2, 0, none⟩))))).cons (hF.sv (s := 2) (by kernel_rfl) (hA64.get (i := 2) (v := .pointer (some ⟨B1, 0, none⟩)))))
      have bl65 := bl
      have sz65 := sz
      have b65_B1 := b_B1
      have b65_B2 := b_B2
      clear hF bl sz b_B1 b_B2 s_37 s_38 s_39 s_40 s_41 s_42 s_43 s_44 s_45 s_46 s_47 hall hA64
      refine then_n ?_
      refine wp_cond_false (hA65.ev (i := 47) (v := .bool false)) ?_
      refine wp_skip ?_
      refine blk_n ?_
      refine then_n ?_
      refine wp_region_lit ?_
      refine sx_val hA65 rfl (ev_move (hA65.ev (i := 5) (v := .int .i64 (k : Int))) _ rfl) ?_
      intro a66 hA66; clear hA65
      refine sx_val (v := .int .i64 ((k + 1 : Nat) : Int)) hA66 rfl (ev_addR (k := .i64) (m := (k : Int)) (n := 1) (r := ((k + 1 : Nat) : Int)) (hA66.ev (i := 35)) (ec _ (.int .i64 1)) (wr (by omega) (by omega) (by omega)) _ rfl) ?_
      intro a67 hA67; clear hA66
      refine sx_val hA67 rfl (ev_assign (hA67.ev (i := 36) (v := .int .i64 ((k + 1 : Nat) : Int))) _ rfl) ?_
      intro a68 hA68; clear hA67
      refine sx_nil ?_
      refine then_n ?_
      refine ⟨cs.length - (k + 1), by omega, k + 1, rfl, ((((Ag.nil hA68.1 hA68.2.1).cons (hA68.get (i := 5) (v := .int .i64 ((k + 1 : Nat) : Int)))).cons (hA68.get (i := 3) (v := .pointer (some ⟨B2, 0, none⟩)))).cons (hA68.get (i := 2) (v := .pointer (some ⟨B1, 0, none⟩)))), by omega, b65_B1, b65_B2, by omega, bl65⟩
  have hp32 := of_decide_eq_false hd32
  refine wp_seq ?_
  refine wp_seq ?_
  refine wp_region_lit ?_
  refine sx_val hA29 rfl (ev_move (hA29.ev (i := 5) (v := .int .i64 (k : Int))) _ rfl) ?_
  intro a33 hA33; clear hA29
  refine sx_val (v := .pointer (some ⟨B1, 0, none⟩)) hA33 rfl (fb_Disk_0 (hA33.ev (i := 2) (v := .pointer (some ⟨B1, 0, none⟩))) _ rfl) ?_
  intro a34 hA34; clear hA33
  refine sx_val (v := .slice A1 cs.length c1) hA34 rfl (ev_cell (v := .slice A1 cs.length c1) (hA34.ev (i := 31) (v := .pointer (some ⟨B1, 0, none⟩))) ((f29_0.cell 0).trans rfl) Try.underlying22 rfl _ rfl) ?_
  intro a35 hA35; clear hA34
  refine sx_val (v := .int .i64 (cs.length : Int)) hA35 rfl (ev_len (hA35.ev (i := 32) (v := .slice A1 cs.length c1)) Try.underlying22 _ rfl) ?_
  intro a36 hA36; clear hA35
  refine sx_val (v := .bool false) hA36 rfl (ev_lssB (k := .i64) (m := (k : Int)) (n := (cs.length : Int)) (hA36.ev (i := 30)) (hA36.ev (i := 33)) hd32 _ rfl) ?_
  intro a37 hA37; clear hA36
  refine sx_nil ?_
  refine then_n ?_
  refine wp_cond_false (hA37.ev (i := 34) (v := .bool false)) ?_
  refine wp_exit ?_
  refine then_x ?_
  refine then_x ?_
  refine blk_hit ?_
  refine then_n ?_
  refine wp_seq ?_
  refine wp_seq ?_
  refine wp_region_lit ?_
  refine sx_val hA37 rfl (ev_assign (ec _ (.int .i64 0)) _ rfl) ?_
  intro a38 hA38; clear hA37
  refine sx_nil ?_
  refine then_n ?_
  refine wp_block ?_
  refine wp_loop_ghost (fun n a wl => ∃ (m : Nat), n = js.length - m ∧ Ag a 66 [(2, .pointer (some ⟨B1, 0, none⟩)), (3, .pointer (some ⟨B2, 0, none⟩)), (6, .int .i64 (m : Int))] ∧ m ≤ js.length ∧ Bx wl B1 25 #[.slice A1 cs.length c1, .slice A2 js.length c2, .int .i64 room] ∧ Bx wl B2 25 #[.slice E1 cs.length f1, .slice E2 js.length f2, .int .i64 room] ∧ w29.heap.size ≤ wl.heap.size ∧ Below w.heap.size w wl) (js.length - 0) ⟨0, rfl, ((((Ag.nil hA38.1 hA38.2.1).cons (hA38.get (i := 6) (v := .int .i64 0))).cons (hA38.get (i := 3) (v := .pointer (some ⟨B2, 0, none⟩)))).cons (hA38.get (i := 2) (v := .pointer (some ⟨B1, 0, none⟩)))), Nat.zero_le _, f29_0, f29_1, Nat.le_refl _, hbel29⟩ ?_
  intro n39 a39 w39 hI39
  obtain ⟨m, hn39, hA39, q39_0, f39_0, f39_1, hsz39, hbel39⟩ := hI39
  subst hn39
  clear hA38
  have hlB1_39 := f39_0.lt
  have hlB2_39 := f39_1.lt
  cases hd40 : decide ((m : Int) < (js.length : Int))
  · have hp40 := of_decide_eq_false hd40
    refine wp_seq ?_
    refine wp_seq ?_
    refine wp_region_lit ?_
    refine sx_val hA39 rfl (ev_move (hA39.ev (i := 6) (v := .int .i64 (m : Int))) _ rfl) ?_
    intro a41 hA41; clear hA39
    refine sx_val (v := .pointer (some ⟨B1, 1, none⟩)) hA41 rfl (fb_Disk_1 (hA41.ev (i := 2) (v := .pointer (some ⟨B1, 0, none⟩))) _ rfl) ?_
    intro a42 hA42; clear hA41
    refine sx_val (v := .slice A2 js.length c2) hA42 rfl (ev_cell (v := .slice A2 js.length c2) (hA42.ev (i := 49) (v := .pointer (some ⟨B1, 1, none⟩))) ((f39_0.cell 1).trans rfl) Try.underlying23 rfl _ rfl) ?_
    intro a43 hA43; clear hA42
    refine sx_val (v := .int .i64 (js.length : Int)) hA43 rfl (ev_len (hA43.ev (i := 50) (v := .slice A2 js.length c2)) Try.underlying23 _ rfl) ?_
    intro a44 hA44; clear hA43
    refine sx_val (v := .bool false) hA44 rfl (ev_lssB (k := .i64) (m := (m : Int)) (n := (js.length : Int)) (hA44.ev (i := 48)) (hA44.ev (i := 51)) hd40 _ rfl) ?_
    intro a45 hA45; clear hA44
    refine sx_nil ?_
    refine then_n ?_
    refine wp_cond_false (hA45.ev (i := 52) (v := .bool false)) ?_
    refine wp_exit ?_
    refine then_x ?_
    refine then_x ?_
    refine blk_hit ?_
    refine then_n ?_
    refine wp_seq ?_
    refine wp_region_lit ?_
    refine sx_val hA45 rfl (ev_assign (ec _ (.bool true)) _ rfl) ?_
    intro a46 hA46; clear hA45
    refine sx_nil ?_
    refine then_n ?_
    refine wp_ret ?_
    refine bodyPost_ret (rs_t (v := .bool true) Try.results14 hA46 (by kernel_rfl) ) hA46.2.1 ?_
    exact ⟨rfl, hbel39⟩
  have hp40 := of_decide_eq_true hd40
  obtain ⟨x, hx⟩ : ∃ x, js[m]? = some x := ⟨_, List.getElem?_eq_getElem (by omega)⟩
  obtain ⟨ad47, hAd47⟩ := GR.adr (hd.j.below hbel39) jb_sz hx
  obtain ⟨ad48, hAd48⟩ := GR.adr (he.j.below hbel39) jb_sz hx
  refine wp_seq ?_
  refine wp_seq ?_
  refine wp_region_lit ?_
  refine sx_val hA39 rfl (ev_move (hA39.ev (i := 6) (v := .int .i64 (m : Int))) _ rfl) ?_
  intro a49 hA49; clear hA39
  refine sx_val (v := .pointer (some ⟨B1, 1, none⟩)) hA49 rfl (fb_Disk_1 (hA49.ev (i := 2) (v := .pointer (some ⟨B1, 0, none⟩))) _ rfl) ?_
  intro a50 hA50; clear hA49
  refine sx_val (v := .slice A2 js.length c2) hA50 rfl (ev_cell (v := .slice A2 js.length c2) (hA50.ev (i := 49) (v := .pointer (some ⟨B1, 1, none⟩))) ((f39_0.cell 1).trans rfl) Try.underlying23 rfl _ rfl) ?_
  intro a51 hA51; clear hA50
  refine sx_val (v := .int .i64 (js.length : Int)) hA51 rfl (ev_len (hA51.ev (i := 50) (v := .slice A2 js.length c2)) Try.underlying23 _ rfl) ?_
  intro a52 hA52; clear hA51
  refine sx_val (v := .bool true) hA52 rfl (ev_lssB (k := .i64) (m := (m : Int)) (n := (js.length : Int)) (hA52.ev (i := 48)) (hA52.ev (i := 51)) hd40 _ rfl) ?_
  intro a53 hA53; clear hA52
  refine sx_nil ?_
  refine then_n ?_
  refine wp_cond_true (hA53.ev (i := 52) (v := .bool true)) ?_
  refine wp_skip ?_
  refine then_n ?_
  refine wp_seq ?_
  refine wp_block ?_
  refine wp_seq ?_
  refine region_D (n := 11) (by kernel_rfl) (by kernel_rfl) rfl (fun L ac wc => Below w.heap.size w wc ∧ w39.heap.size ≤ wc.heap.size ∧ Bx wc B1 25 (#[.slice A1 cs.length c1, .slice A2 js.length c2, .int .i64 room]) ∧ Bx wc B2 25 (#[.slice E1 cs.length f1, .slice E2 js.length f2, .int .i64 room]) ∧ (L 0 = true → Sv ac 55 (.pointer (some ⟨B1, 1, none⟩))) ∧ (L 1 = true → Sv ac 56 (.slice A2 js.length c2)) ∧ (L 2 = true → Sv ac 57 (.int .i64 (m : Int))) ∧ (L 3 = true → Sv ac 58 (.pointer (some (ad47.add (m * 11))))) ∧ (L 4 = true → Sv ac 59 (.agg x.va)) ∧ (L 5 = true → Sv ac 60 (.pointer (some ⟨B2, 1, none⟩))) ∧ (L 6 = true → Sv ac 61 (.slice E2 js.length f2)) ∧ (L 7 = true → Sv ac 62 (.int .i64 (m : Int))) ∧ (L 8 = true → Sv ac 63 (.pointer (some (ad48.add (m * 11))))) ∧ (L 9 = true → Sv ac 64 (.agg x.va)) ∧ (L 10 = true → Sv ac 65 (.bool false))) ⟨(Below.gN hbel39 (gdr _) hbel39.size), (Nat.le_refl _), (f39_0.gN (gdr _)), (f39_1.gN (gdr _)), (fun h => by cases h), (fun h => by cases h), (fun h => by cases h), (fun h => by cases h), (fun h => by cases h), (fun h => by cases h), (fun h => by cases h), (fun h => by cases h), (fun h => by cases h), (fun h => by cases h), (fun h => by cases h)⟩ ?_ ?_
  · intro iq hiq o ho L hL hdep ac wc hF hJ
    obtain ⟨bl, sz, b_B1, b_B2, s_55, s_56, s_57, s_58, s_59, s_60, s_61, s_62, s_63, s_64, s_65⟩ := hJ
    have z := hF.1.trans hA53.1
    match iq, hiq with
    | 0, _ =>
      obtain rfl := Option.some.inj (show some _ = some o from ho); clear ho
      have v2 := hF.sv (s := 2) (by kernel_rfl) (hA53.get (i := 2) (v := .pointer (some ⟨B1, 0, none⟩)))
      refine dj_val (i := 0) (v := .pointer (some ⟨B1, 1, none⟩)) rfl (.inl rfl) (fb_Disk_1 v2.eval _ rfl) ?_
      exact ⟨⟨_, rfl⟩, bl, sz, b_B1, b_B2, (fun _ => Sv.self (by rw [z]; decide) _), (so s_56), (so s_57), (so s_58), (so s_59), (so s_60), (so s_61), (so s_62), (so s_63), (so s_64), (so s_65)⟩
    | 1, _ =>
      obtain rfl := Option.some.inj (show some _ = some o from ho); clear ho
      have v55 := s_55 (dp hdep 0)
      refine dj_val (i := 1) (v := .slice A2 js.length c2) rfl (.inl rfl) (ev_cell (v := .slice A2 js.length c2) v55.eval ((b_B1.cell 1).trans rfl) Try.underlying23 rfl _ rfl) ?_
      exact ⟨⟨_, rfl⟩, bl, sz, b_B1, b_B2, (so s_55), (fun _ => Sv.self (by rw [z]; decide) _), (so s_57), (so s_58), (so s_59), (so s_60), (so s_61), (so s_62), (so s_63), (so s_64), (so s_65)⟩
    | 2, _ =>
      obtain rfl := Option.some.inj (show some _ = some o from ho); clear ho
      have v6 := hF.sv (s := 6) (by kernel_rfl) (hA53.get (i := 6) (v := .int .i64 (m : Int)))
      refine dj_val (i := 2) (v := .int .i64 (m : Int)) rfl (.inl rfl) (ev_move v6.eval _ rfl) ?_
      exact ⟨⟨_, rfl⟩, bl, sz, b_B1, b_B2, (so s_55), (so s_56), (fun _ => Sv.self (by rw [z]; decide) _), (so s_58), (so s_59), (so s_60), (so s_61), (so s_62), (so s_63), (so s_64), (so s_65)⟩
    | 3, _ =>
      obtain rfl := Option.some.inj (show some _ = some o from ho); clear ho
      have v56 := s_56 (dp hdep 1)
      have v57 := s_57 (dp hdep 2)
      refine dj_val (i := 3) (v := .pointer (some (ad47.add (m * 11)))) rfl (.inl rfl) (ev_idx (k := m) v56.eval hAd47 v57.eval rfl (by omega) Try.underlying23 (by kernel_rfl) _ rfl) ?_
      exact ⟨⟨_, rfl⟩, bl, sz, b_B1, b_B2, (so s_55), (so s_56), (so s_57), (fun _ => Sv.self (by rw [z]; decide) _), (so s_59), (so s_60), (so s_61), (so s_62), (so s_63), (so s_64), (so s_65)⟩
    | 4, _ =>
      obtain rfl := Option.some.inj (show some _ = some o from ho); clear ho
      have v58 := s_58 (dp hdep 3)
      refine dj_val (i := 4) (v := .agg x.va) rfl (.inl rfl) (ev_loadR (cs := x.va) (n := 11) v58.eval (GR.cel (hd.j.below bl) hAd47 jb_sz hx) Try.underlying38 rfl (by kernel_rfl) rfl _ rfl) ?_
      exact ⟨⟨_, rfl⟩, bl, sz, b_B1, b_B2, (so s_55), (so s_56), (so s_57), (so s_58), (fun _ => Sv.self (by rw [z]; decide) _), (so s_60), (so s_61), (so s_62), (so s_63), (so s_64), (so s_65)⟩
    | 5, _ =>
      obtain rfl := Option.some.inj (show some _ = some o from ho); clear ho
      have v3 := hF.sv (s := 3) (by kernel_rfl) (hA53.get (i := 3) (v := .pointer (some ⟨B2, 0, none⟩)))
      refine dj_val (i := 5) (v := .pointer (some ⟨B2, 1, none⟩)) rfl (.inl rfl) (fb_Disk_1 v3.eval _ rfl) ?_
      exact ⟨⟨_, rfl⟩, bl, sz, b_B1, b_B2, (so s_55), (so s_56), (so s_57), (so s_58), (so s_59), (fun _ => Sv.self (by rw [z]; decide) _), (so s_61), (so s_62), (so s_63), (so s_64), (so s_65)⟩
    | 6, _ =>
      obtain rfl := Option.some.inj (show some _ = some o from ho); clear ho
      have v60 := s_60 (dp hdep 5)
      refine dj_val (i := 6) (v := .slice E2 js.length f2) rfl (.inl rfl) (ev_cell (v := .slice E2 js.length f2) v60.eval ((b_B2.cell 1).trans rfl) Try.underlying23 rfl _ rfl) ?_
      exact ⟨⟨_, rfl⟩, bl, sz, b_B1, b_B2, (so s_55), (so s_56), (so s_57), (so s_58), (so s_59), (so s_60), (fun _ => Sv.self (by rw [z]; decide) _), (so s_62), (so s_63), (so s_64), (so s_65)⟩
    | 7, _ =>
      obtain rfl := Option.some.inj (show some _ = some o from ho); clear ho
      have v6 := hF.sv (s := 6) (by kernel_rfl) (hA53.get (i := 6) (v := .int .i64 (m : Int)))
      refine dj_val (i := 7) (v := .int .i64 (m : Int)) rfl (.inl rfl) (ev_move v6.eval _ rfl) ?_
      exact ⟨⟨_, rfl⟩, bl, sz, b_B1, b_B2, (so s_55), (so s_56), (so s_57), (so s_58), (so s_59), (so s_60), (so s_61), (fun _ => Sv.self (by rw [z]; decide) _), (so s_63), (so s_64), (so s_65)⟩
    | 8, _ =>
      obtain rfl := Option.some.inj (show some _ = some o from ho); clear ho
      have v61 := s_61 (dp hdep 6)
      have v62 := s_62 (dp hdep 7)
      refine dj_val (i := 8) (v := .pointer (some (ad48.add (m * 11)))) rfl (.inl rfl) (ev_idx (k := m) v61.eval hAd48 v62.eval rfl (by omega) Try.underlying23 (by kernel_rfl) _ rfl) ?_
      exact ⟨⟨_, rfl⟩, bl, sz, b_B1, b_B2, (so s_55), (so s_56), (so s_57), (so s_58), (so s_59), (so s_60), (so s_61), (so s_62), (fun _ => Sv.self (by rw [z]; decide) _), (so s_64), (so s_65)⟩
    | 9, _ =>
      obtain rfl := Option.some.inj (show some _ = some o from ho); clear ho
      have v63 := s_63 (dp hdep 8)
      refine dj_val (i := 9) (v := .agg x.va) rfl (.inl rfl) (ev_loadR (cs := x.va) (n := 11) v63.eval (GR.cel (he.j.below bl) hAd48 jb_sz hx) Try.underlying38 rfl (by kernel_rfl) rfl _ rfl) ?_
      exact ⟨⟨_, rfl⟩, bl, sz, b_B1, b_B2, (so s_55), (so s_56), (so s_57), (so s_58), (so s_59), (so s_60), (so s_61), (so s_62), (so s_63), (fun _ => Sv.self (by rw [z]; decide) _), (so s_65)⟩
    | 10, _ =>
      obtain rfl := Option.some.inj (show some _ = some o from ho); clear ho
      have v59 := s_59 (dp hdep 4)
      have v64 := s_64 (dp hdep 9)
      refine dj_val (i := 10) (v := .bool false) rfl (.inl rfl) (ev_neJB (a := x) (b := x) (r := false) v59.eval v64.eval (by simp) _ rfl) ?_
      exact ⟨⟨_, rfl⟩, bl, sz, b_B1, b_B2, (so s_55), (so s_56), (so s_57), (so s_58), (so s_59), (so s_60), (so s_61), (so s_62), (so s_63), (so s_64), (fun _ => Sv.self (by rw [z]; decide) _)⟩
    | k + 11, h => exact absurd h (by omega)
  · intro L hall ac54 wc54 hF hJ
    obtain ⟨bl, sz, b_B1, b_B2, s_55, s_56, s_57, s_58, s_59, s_60, s_61, s_62, s_63, s_64, s_65⟩ := hJ
    have hA54 : Ag ac54 66 [(2, .pointer (some ⟨B1, 0, none⟩)), (3, .pointer (some ⟨B2, 0, none⟩)), (6, .int .i64 (m : Int)), (48, .int .i64 (m : Int)), (49, .pointer (some ⟨B1, 1, none⟩)), (50, .slice A2 js.length c2), (51, .int .i64 (js.length : Int)), (52, .bool true), (55, .pointer (some ⟨B1, 1, none⟩)), (56, .slice A2 js.length c2), (57, .int .i64 (m : Int)), (58, .pointer (some (ad47.add (m * 11)))), (59, .agg x.va), (60, .pointer (some ⟨B2, 1, none⟩)), (61, .slice E2 js.length f2), (62, .int .i64 (m : Int)), (63, .pointer (some (ad48.add (m * 11)))), (64, .agg x.va), (65, .bool false)] := ((((((((((((((((((((Ag.nil (hF.1.trans hA53.1) (hF.2.1.trans hA53.2.1)).cons (s_65 (hall 10 (by decide)))).cons (s_64 (hall 9 (by decide)))).cons (s_63 (hall 8 (by decide)))).cons (s_62 (hall 7 (by decide)))).cons (s_61 (hall 6 (by decide)))).cons (s_60 (hall 5 (by decide)))).cons (s_59 (hall 4 (by decide)))).cons (s_58 (hall 3 (by decide)))).cons (s_57 (hall 2 (by decide)))).cons (s_56 (hall 1 (by decide)))).cons (s_55 (hall 0 (by decide)))).cons (hF.sv (s := 52) (by kernel_rfl) (hA53.get (i := 52) (v := .bool true)))).cons (hF.sv (s := 51) (by kernel_rfl) (hA53.get (i := 51) (v := .int .i64 (js.length : Int))))).cons (hF.sv (s := 50) (by kernel_rfl) (hA53.get (i := 50) (v := .slice A2 js.length c2)))).cons (hF.sv (s := 49) (by kernel_rfl) (hA53.get (i := 49) (v := .pointer (some ⟨B1, 1, none⟩))))).cons (hF.sv (s := 48) (by kernel_rfl) (hA53.get (i := 48) (v := .int .i64 (m : Int))))).cons (hF.sv (s := 6) (by kernel_rfl) (hA53.get (i := 6) (v := .int .i64 (m : Int))))).cons (hF.sv (s := 3) (by kernel_rfl) (hA53.get (i := 3) (v := .pointer (some ⟨B2, 0, none⟩))))).cons (hF.sv (s := 2) (by kernel_rfl) (hA53.get (i := 2) (v := .pointer (some ⟨B1, 0, none⟩)))))
    have bl54 := bl
    have sz54 := sz
    have b54_B1 := b_B1
    have b54_B2 := b_B2
    clear hF bl sz b_B1 b_B2 s_55 s_56 s_57 s_58 s_59 s_60 s_61 s_62 s_63 s_64 s_65 hall hA53
    refine then_n ?_
    refine wp_cond_false (hA54.ev (i := 65) (v := .bool false)) ?_
    refine wp_skip ?_
    refine blk_n ?_
    refine then_n ?_
    refine wp_region_lit ?_
    refine sx_val hA54 rfl (ev_move (hA54.ev (i := 6) (v := .int .i64 (m : Int))) _ rfl) ?_
    intro a55 hA55; clear hA54
    refine sx_val (v := .int .i64 ((m + 1 : Nat) : Int)) hA55 rfl (ev_addR (k := .i64) (m := (m : Int)) (n := 1) (r := ((m + 1 : Nat) : Int)) (hA55.ev (i := 53)) (ec _ (.int .i64 1)) (wr (by omega) (by omega) (by omega)) _ rfl) ?_
    intro a56 hA56; clear hA55
    refine sx_val hA56 rfl (ev_assign (hA56.ev (i := 54) (v := .int .i64 ((m + 1 : Nat) : Int))) _ rfl) ?_
    intro a57 hA57; clear hA56
    refine sx_nil ?_
    refine then_n ?_
    refine ⟨js.length - (m + 1), by omega, m + 1, rfl, ((((Ag.nil hA57.1 hA57.2.1).cons (hA57.get (i := 6) (v := .int .i64 ((m + 1 : Nat) : Int)))).cons (hA57.get (i := 3) (v := .pointer (some ⟨B2, 0, none⟩)))).cons (hA57.get (i := 2) (v := .pointer (some ⟨B1, 0, none⟩)))), by omega, b54_B1, b54_B2, by omega, bl54⟩

end Go.Proofs.Ytbkdimildnahaaa
