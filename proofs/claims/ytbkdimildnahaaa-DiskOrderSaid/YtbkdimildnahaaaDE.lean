/- Package disk: clone, Left. -/
import Derived.Test.YtbkdimildnahaaaDD
namespace Go.Proofs.Ytbkdimildnahaaa
open Go.RowKit
set_option linter.unusedVariables false
set_option maxRecDepth 100000

set_option maxHeartbeats 4000000 in
theorem clone_any (A1 : Option Addr) (c1 : Nat) (A2 : Option Addr) (c2 : Nat) (cs : List Ct) (js : List Jb) (room : Int) (w : World) (hd : GD w A1 c1 A2 c2 cs js) (hl : cs.length ≤ 900000) (hj : js.length ≤ 900000) : Calls Try.prog 40 #[.agg #[.slice A1 cs.length c1, .slice A2 js.length c2, .int .i64 room]] w (RetD0 w ⟨cs, js, room⟩) := by
  have hbel0 := below0 w
  refine sx_enter (N := 12) [(0, .agg #[.slice A1 cs.length c1, .slice A2 js.length c2, .int .i64 room])] Try.func40 rfl Try.ntmps40 (by simp) (fun a z d s => ((Ag.nil z d).cons (s 0 _ rfl))) ?_
  intro a0 hA0
  refine wp_seq ?_
  refine wp_region_lit ?_
  refine sx_new (cs := #[.slice A1 cs.length c1, .slice A2 js.length c2, .int .i64 room]) (t := 25) hA0 rfl (by decide) (.inl rfl) (ev_box (hA0.ev (i := 0) (v := .agg #[.slice A1 cs.length c1, .slice A2 js.length c2, .int .i64 room])) rfl _ rfl) ?_
  intro B1 w1 a1 hB1 hx1 hg1 hA1
  clear hA0
  have hs1 := hg1.size
  have hl1 := hx1.lt
  refine sx_new (cs := #[.slice none 0 0, .slice none 0 0, .int .i64 0]) (t := 25) hA1 rfl (by decide) (.inl rfl) (ev_alloc (z := .agg (#[.slice none 0 0, .slice none 0 0, .int .i64 0])) (by kernel_rfl) (by kernel_rfl) _ rfl) ?_
  intro B2 w2 a2 hB2 hx2 hg2 hA2
  clear hA1
  have hs2 := hg2.size
  have hl2 := hx2.lt
  refine sx_nil ?_
  refine then_n ?_
  refine wp_seq ?_
  have hx1_3 := hx1.gN hg2
  have hbel0_4 := Below.gN hbel0 hg1 hbel0.size
  have hbel0_5 := Below.gN hbel0_4 hg2 hbel0_4.size
  refine region_D (n := 10) (by kernel_rfl) (by kernel_rfl) rfl (fun L ac wc => ∃ Aq2r1 : Option Addr, ∃ cq2r1 : Nat, ∃ Aq5r1 : Option Addr, ∃ cq5r1 : Nat, Below w.heap.size w wc ∧ w2.heap.size ≤ wc.heap.size ∧ Bx wc B1 25 (#[.slice A1 cs.length c1, .slice A2 js.length c2, .int .i64 room]) ∧ Bx wc B2 25 (bif L 9 then (#[.slice Aq2r1 cs.length cq2r1, .slice Aq5r1 js.length cq5r1, .int .i64 room]) else (#[.slice none 0 0, .slice none 0 0, .int .i64 0])) ∧ (L 2 = true → Own wc w2.heap.size 28 8 (.slice Aq2r1 cs.length cq2r1) cs.length (flat Ct.va cs)) ∧ (L 5 = true → Own wc w2.heap.size 38 11 (.slice Aq5r1 js.length cq5r1) js.length (flat Jb.va js)) ∧ (L 8 = true → L 2 = true) ∧ (L 9 = true → L 2 = true) ∧ (L 8 = true → L 5 = true) ∧ (L 9 = true → L 5 = true) ∧ (L 0 = true → Sv ac 3 (.pointer (some ⟨B1, 0, none⟩))) ∧ (L 1 = true → Sv ac 4 (.slice A1 cs.length c1)) ∧ (L 2 = true → Sv ac 5 (.slice Aq2r1 cs.length cq2r1)) ∧ (L 3 = true → Sv ac 6 (.pointer (some ⟨B1, 1, none⟩))) ∧ (L 4 = true → Sv ac 7 (.slice A2 js.length c2)) ∧ (L 5 = true → Sv ac 8 (.slice Aq5r1 js.length cq5r1)) ∧ (L 6 = true → Sv ac 9 (.pointer (some ⟨B1, 2, none⟩))) ∧ (L 7 = true → Sv ac 10 (.int .i64 room)) ∧ (L 8 = true → Sv ac 11 (.agg #[.slice Aq2r1 cs.length cq2r1, .slice Aq5r1 js.length cq5r1, .int .i64 room]))) ⟨none, 0, none, 0, (Below.gN hbel0_5 (gdr _) hbel0_5.size), (Nat.le_refl _), (hx1_3.gN (gdr _)), (hx2.gN (gdr _)), (fun h => by cases h), (fun h => by cases h), (fun h => by cases h), (fun h => by cases h), (fun h => by cases h), (fun h => by cases h), (fun h => by cases h), (fun h => by cases h), (fun h => by cases h), (fun h => by cases h), (fun h => by cases h), (fun h => by cases h), (fun h => by cases h), (fun h => by cases h), (fun h => by cases h)⟩ ?_ ?_
  · intro iq hiq o ho L hL hdep ac wc hF hJ
    obtain ⟨Aq2r1, cq2r1, Aq5r1, cq5r1, bl, sz, b_B1, b_B2, o_2_0, o_5_0, cl_8_2, cl_9_2, cl_8_5, cl_9_5, s_3, s_4, s_5, s_6, s_7, s_8, s_9, s_10, s_11⟩ := hJ
    have z := hF.1.trans hA2.1
    match iq, hiq with
    | 0, _ =>
      obtain rfl := Option.some.inj (show some _ = some o from ho); clear ho
      have v1 := hF.sv (s := 1) (by kernel_rfl) (hA2.get (i := 1) (v := .pointer (some ⟨B1, 0, none⟩)))
      refine dj_val (i := 0) (v := .pointer (some ⟨B1, 0, none⟩)) rfl (.inl rfl) (fb_Disk_0 v1.eval _ rfl) ?_
      exact ⟨⟨_, rfl⟩, Aq2r1, cq2r1, Aq5r1, cq5r1, bl, sz, b_B1, b_B2, o_2_0, o_5_0, cl_8_2, cl_9_2, cl_8_5, cl_9_5, (fun _ => Sv.self (by rw [z]; decide) _), (so s_4), (so s_5), (so s_6), (so s_7), (so s_8), (so s_9), (so s_10), (so s_11)⟩
    | 1, _ =>
      obtain rfl := Option.some.inj (show some _ = some o from ho); clear ho
      have v3 := s_3 (dp hdep 0)
      refine dj_val (i := 1) (v := .slice A1 cs.length c1) rfl (.inl rfl) (ev_cell (v := .slice A1 cs.length c1) v3.eval ((b_B1.cell 0).trans rfl) Try.underlying22 rfl _ rfl) ?_
      exact ⟨⟨_, rfl⟩, Aq2r1, cq2r1, Aq5r1, cq5r1, bl, sz, b_B1, b_B2, o_2_0, o_5_0, cl_8_2, cl_9_2, cl_8_5, cl_9_5, (so s_3), (fun _ => Sv.self (by rw [z]; decide) _), (so s_5), (so s_6), (so s_7), (so s_8), (so s_9), (so s_10), (so s_11)⟩
    | 2, _ =>
      obtain rfl := Option.some.inj (show some _ = some o from ho); clear ho
      have v4 := s_4 (dp hdep 1)
      refine dj_call (i := 2) (f := 47) (args := #[.slice A1 cs.length c1]) rfl (.inl rfl) (ev_fn rfl (mp1 v4.eval) (by kernel_rfl) _ rfl) (cloneC_any A1 c1 cs _ (hd.s.below bl) (by omega)) ?_
      intro e wk2 hR
      obtain ⟨Aq2r1, cq2r1, rfl, hoq2, hb2⟩ := hR
      refine ⟨_, rfl, ?_⟩
      have hg := g0 hb2
      have hown0 := Own.mono (hoq2) sz
      exact ⟨⟨_, rfl⟩, Aq2r1, cq2r1, Aq5r1, cq5r1, (Below.gN bl hg bl.size), (Nat.le_trans sz hg.size), (b_B1.gN hg), (by
          have e0 : L 9 = false := by
            cases hc : L 9
            · rfl
            · exact absurd (cl_9_2 hc) (by rw [hL]; decide)
          have h0 := b_B2.gN hg
          rw [e0] at h0
          show Bx _ _ _ (bif L 9 then _ else _)
          rw [e0]
          exact h0), (fun _ => hown0), (fun h => Own.gN (o_5_0 h) hg), (fun _ => rfl), (fun _ => rfl), cl_8_5, cl_9_5, (so s_3), (so s_4), (fun _ => Sv.self (by rw [z]; decide) _), (so s_6), (so s_7), (so s_8), (so s_9), (so s_10), (fun h => absurd (cl_8_2 h) (by rw [hL]; decide))⟩
    | 3, _ =>
      obtain rfl := Option.some.inj (show some _ = some o from ho); clear ho
      have v1 := hF.sv (s := 1) (by kernel_rfl) (hA2.get (i := 1) (v := .pointer (some ⟨B1, 0, none⟩)))
      refine dj_val (i := 3) (v := .pointer (some ⟨B1, 1, none⟩)) rfl (.inl rfl) (fb_Disk_1 v1.eval _ rfl) ?_
      exact ⟨⟨_, rfl⟩, Aq2r1, cq2r1, Aq5r1, cq5r1, bl, sz, b_B1, b_B2, o_2_0, o_5_0, cl_8_2, cl_9_2, cl_8_5, cl_9_5, (so s_3), (so s_4), (so s_5), (fun _ => Sv.self (by rw [z]; decide) _), (so s_7), (so s_8), (so s_9), (so s_10), (so s_11)⟩
    | 4, _ =>
      obtain rfl := Option.some.inj (show some _ = some o from ho); clear ho
      have v6 := s_6 (dp hdep 3)
      refine dj_val (i := 4) (v := .slice A2 js.length c2) rfl (.inl rfl) (ev_cell (v := .slice A2 js.length c2) v6.eval ((b_B1.cell 1).trans rfl) Try.underlying23 rfl _ rfl) ?_
      exact ⟨⟨_, rfl⟩, Aq2r1, cq2r1, Aq5r1, cq5r1, bl, sz, b_B1, b_B2, o_2_0, o_5_0, cl_8_2, cl_9_2, cl_8_5, cl_9_5, (so s_3), (so s_4), (so s_5), (so s_6), (fun _ => Sv.self (by rw [z]; decide) _), (so s_8), (so s_9), (so s_10), (so s_11)⟩
    | 5, _ =>
      obtain rfl := Option.some.inj (show some _ = some o from ho); clear ho
      have v7 := s_7 (dp hdep 4)
      refine dj_call (i := 5) (f := 48) (args := #[.slice A2 js.length c2]) rfl (.inl rfl) (ev_fn rfl (mp1 v7.eval) (by kernel_rfl) _ rfl) (cloneJ_any A2 c2 js _ (hd.j.below bl) (by omega)) ?_
      intro e wk5 hR
      obtain ⟨Aq5r1, cq5r1, rfl, hoq5, hb5⟩ := hR
      refine ⟨_, rfl, ?_⟩
      have hg := g0 hb5
      have hown0 := Own.mono (hoq5) sz
      exact ⟨⟨_, rfl⟩, Aq2r1, cq2r1, Aq5r1, cq5r1, (Below.gN bl hg bl.size), (Nat.le_trans sz hg.size), (b_B1.gN hg), (by
          have e0 : L 9 = false := by
            cases hc : L 9
            · rfl
            · exact absurd (cl_9_5 hc) (by rw [hL]; decide)
          have h0 := b_B2.gN hg
          rw [e0] at h0
          show Bx _ _ _ (bif L 9 then _ else _)
          rw [e0]
          exact h0), (fun h => Own.gN (o_2_0 h) hg), (fun _ => hown0), cl_8_2, cl_9_2, (fun _ => rfl), (fun _ => rfl), (so s_3), (so s_4), (so s_5), (so s_6), (so s_7), (fun _ => Sv.self (by rw [z]; decide) _), (so s_9), (so s_10), (fun h => absurd (cl_8_5 h) (by rw [hL]; decide))⟩
    | 6, _ =>
      obtain rfl := Option.some.inj (show some _ = some o from ho); clear ho
      have v1 := hF.sv (s := 1) (by kernel_rfl) (hA2.get (i := 1) (v := .pointer (some ⟨B1, 0, none⟩)))
      refine dj_val (i := 6) (v := .pointer (some ⟨B1, 2, none⟩)) rfl (.inl rfl) (fb_Disk_2 v1.eval _ rfl) ?_
      exact ⟨⟨_, rfl⟩, Aq2r1, cq2r1, Aq5r1, cq5r1, bl, sz, b_B1, b_B2, o_2_0, o_5_0, cl_8_2, cl_9_2, cl_8_5, cl_9_5, (so s_3), (so s_4), (so s_5), (so s_6), (so s_7), (so s_8), (fun _ => Sv.self (by rw [z]; decide) _), (so s_10), (so s_11)⟩
    | 7, _ =>
      obtain rfl := Option.some.inj (show some _ = some o from ho); clear ho
      have v9 := s_9 (dp hdep 6)
      refine dj_val (i := 7) (v := .int .i64 room) rfl (.inl rfl) (ev_cell (v := .int .i64 room) v9.eval ((b_B1.cell 2).trans rfl) Try.underlying3 rfl _ rfl) ?_
      exact ⟨⟨_, rfl⟩, Aq2r1, cq2r1, Aq5r1, cq5r1, bl, sz, b_B1, b_B2, o_2_0, o_5_0, cl_8_2, cl_9_2, cl_8_5, cl_9_5, (so s_3), (so s_4), (so s_5), (so s_6), (so s_7), (so s_8), (so s_9), (fun _ => Sv.self (by rw [z]; decide) _), (so s_11)⟩
    | 8, _ =>
      obtain rfl := Option.some.inj (show some _ = some o from ho); clear ho
      have v5 := s_5 (dp hdep 2)
      have v8 := s_8 (dp hdep 5)
      have v10 := s_10 (dp hdep 7)
      refine dj_val (i := 8) (v := .agg #[.slice Aq2r1 cs.length cq2r1, .slice Aq5r1 js.length cq5r1, .int .i64 room]) rfl (.inl rfl) (bd_Disk_0_1_2 v5.eval v8.eval v10.eval _ rfl) ?_
      exact ⟨⟨_, rfl⟩, Aq2r1, cq2r1, Aq5r1, cq5r1, bl, sz, b_B1, b_B2, o_2_0, o_5_0, (fun _ => dp hdep 2), cl_9_2, (fun _ => dp hdep 5), cl_9_5, (so s_3), (so s_4), (so s_5), (so s_6), (so s_7), (so s_8), (so s_9), (so s_10), (fun _ => Sv.self (by rw [z]; decide) _)⟩
    | 9, _ =>
      obtain rfl := Option.some.inj (show some _ = some o from ho); clear ho
      have v2 := hF.sv (s := 2) (by kernel_rfl) (hA2.get (i := 2) (v := .pointer (some ⟨B2, 0, none⟩)))
      have v11 := s_11 (dp hdep 8)
      have eB2 : L 9 = false := hL
      have yB2 := b_B2
      rw [eB2] at yB2
      refine dj_skip (i := 9) rfl rfl (.inl rfl) (w' := wc.setRow B2 (#[.slice Aq2r1 cs.length cq2r1, .slice Aq5r1 js.length cq5r1, .int .i64 room])) (ev_srow v2.eval v11.eval yB2 (n := 3) (by kernel_rfl) rfl rfl (dk_one _ _ _ _ _ _ _) _ rfl) ?_
      have hg := grw yB2 (#[.slice Aq2r1 cs.length cq2r1, .slice Aq5r1 js.length cq5r1, .int .i64 room])
      have hx := yB2.row (#[.slice Aq2r1 cs.length cq2r1, .slice Aq5r1 js.length cq5r1, .int .i64 room])
      exact ⟨⟨undef, rfl⟩, Aq2r1, cq2r1, Aq5r1, cq5r1, (Below.gB bl hg bl.size (by omega)), (Nat.le_trans sz hg.size), (b_B1.gB hg (by omega)), hx, (fun h => Own.gBT (o_2_0 h) hg yB2 (by decide)), (fun h => Own.gBT (o_5_0 h) hg yB2 (by decide)), cl_8_2, (fun _ => cl_8_2 (dp hdep 8)), cl_8_5, (fun _ => cl_8_5 (dp hdep 8)), s_3, s_4, s_5, s_6, s_7, s_8, s_9, s_10, s_11⟩
    | k + 10, h => exact absurd h (by omega)
  · intro L hall ac6 wc6 hF hJ
    obtain ⟨Aq2r1, cq2r1, Aq5r1, cq5r1, bl, sz, b_B1, b_B2, o_2_0, o_5_0, cl_8_2, cl_9_2, cl_8_5, cl_9_5, s_3, s_4, s_5, s_6, s_7, s_8, s_9, s_10, s_11⟩ := hJ
    have hA6 : Ag ac6 12 [(2, .pointer (some ⟨B2, 0, none⟩))] := ((Ag.nil (hF.1.trans hA2.1) (hF.2.1.trans hA2.2.1)).cons (hF.sv (s := 2) (by kernel_rfl) (hA2.get (i := 2) (v := .pointer (some ⟨B2, 0, none⟩)))))
    have bl6 := bl
    have sz6 := sz
    have b6_B1 := b_B1
    have b6_B2 : Bx wc6 B2 25 (#[.slice Aq2r1 cs.length cq2r1, .slice Aq5r1 js.length cq5r1, .int .i64 room]) := by
      have h := b_B2
      rw [hall 9 (by decide)] at h
      exact h
    have o6_2_0 := o_2_0 (hall 2 (by decide))
    have hh6_2_0 := Own.hi o6_2_0
    have o6_5_0 := o_5_0 (hall 5 (by decide))
    have hh6_5_0 := Own.hi o6_5_0
    clear hF bl sz b_B1 b_B2 o_2_0 o_5_0 cl_8_2 cl_9_2 cl_8_5 cl_9_5 s_3 s_4 s_5 s_6 s_7 s_8 s_9 s_10 s_11 hall hA2
    refine then_n ?_
    refine wp_ret ?_
    refine bodyPost_ret (rs_c  Try.results40 hA6 (by kernel_rfl) b6_B2 Try.underlying25 rfl (by kernel_rfl)) hA6.2.1 ?_
    exact ⟨_, _, _, _, rfl, ⟨rfl, Own.mono o6_2_0 (by omega)⟩, ⟨rfl, Own.mono o6_5_0 (by omega)⟩, bl6⟩

set_option maxHeartbeats 4000000 in
theorem Left_any (A1 : Option Addr) (c1 : Nat) (A2 : Option Addr) (c2 : Nat) (cs : List Ct) (js : List Jb) (room : Int) (w : World) (hd : GD w A1 c1 A2 c2 cs js) (hl : cs.length ≤ 900000) (hj : js.length ≤ 900000) : Calls Try.prog 28 #[.agg #[.slice A1 cs.length c1, .slice A2 js.length c2, .int .i64 room]] w (RetB w (.returned (.tuple #[.int .i64 (lft ⟨cs, js, room⟩).1, .int .i64 (lft ⟨cs, js, room⟩).2]))) := by
  have hbel0 := below0 w
  refine sx_enter (N := 20) [(0, .agg #[.slice A1 cs.length c1, .slice A2 js.length c2, .int .i64 room])] Try.func28 rfl Try.ntmps28 (by simp) (fun a z d s => ((Ag.nil z d).cons (s 0 _ rfl))) ?_
  intro a0 hA0
  refine wp_seq ?_
  refine wp_region_lit ?_
  refine sx_new (cs := #[.slice A1 cs.length c1, .slice A2 js.length c2, .int .i64 room]) (t := 25) hA0 rfl (by decide) (.inl rfl) (ev_box (hA0.ev (i := 0) (v := .agg #[.slice A1 cs.length c1, .slice A2 js.length c2, .int .i64 room])) rfl _ rfl) ?_
  intro B1 w1 a1 hB1 hx1 hg1 hA1
  clear hA0
  have hs1 := hg1.size
  have hl1 := hx1.lt
  refine sx_val hA1 rfl (ev_assign (ec _ (.int .i64 0)) _ rfl) ?_
  intro a2 hA2; clear hA1
  refine sx_val hA2 rfl (ev_assign (ec _ (.int .i64 0)) _ rfl) ?_
  intro a3 hA3; clear hA2
  refine sx_nil ?_
  refine then_n ?_
  refine wp_seq ?_
  refine wp_seq ?_
  refine wp_region_lit ?_
  refine sx_val (v := .agg #[.slice A1 cs.length c1, .slice A2 js.length c2, .int .i64 room]) hA3 rfl (ev_row (hA3.ev (i := 1) (v := .pointer (some ⟨B1, 0, none⟩))) hx1 Try.underlying25 rfl (n := 3) (by kernel_rfl) rfl _ rfl) ?_
  intro a4 hA4; clear hA3
  have hbel0_6 := Below.gN hbel0 hg1 hbel0.size
  refine sx_call (f := 24) (args := #[.agg #[.slice A1 cs.length c1, .slice A2 js.length c2, .int .i64 room]]) hA4 rfl (by decide) (.inl rfl) (ev_fn rfl (mp1 (hA4.ev (i := 7) (v := .agg #[.slice A1 cs.length c1, .slice A2 js.length c2, .int .i64 room]))) (by kernel_rfl) _ rfl) (Check_any A1 c1 A2 c2 cs js room _ ⟨(hd.s.below hbel0_6), (hd.j.below hbel0_6)⟩ (by omega)) ?_
  intro e5 w5 hR5
  obtain ⟨rfl, hb5⟩ := hR5
  refine ⟨_, rfl, ?_⟩
  intro a5 hA5
  clear hA4
  have hg5 := g0 hb5
  have hs5 := hg5.size
  clear hb5
  refine sx_val hA5 rfl (ev_move (hA5.ev (i := 8) (v := .tuple #[.int .i64 (chk ⟨cs, js, room⟩).1, .int .i64 (chk ⟨cs, js, room⟩).2])) _ rfl) ?_
  intro a7 hA7; clear hA5
  refine sx_val (v := .int .i64 (chk ⟨cs, js, room⟩).1) hA7 rfl (ev_ext (hA7.ev (i := 6) (v := .tuple #[.int .i64 (chk ⟨cs, js, room⟩).1, .int .i64 (chk ⟨cs, js, room⟩).2])) rfl _ rfl) ?_
  intro a8 hA8; clear hA7
  refine sx_val (v := .int .i64 (chk ⟨cs, js, room⟩).2) hA8 rfl (ev_ext (hA8.ev (i := 6) (v := .tuple #[.int .i64 (chk ⟨cs, js, room⟩).1, .int .i64 (chk ⟨cs, js, room⟩).2])) rfl _ rfl) ?_
  intro a9 hA9; clear hA8
  refine sx_val hA9 rfl (ev_assign (hA9.ev (i := 9) (v := .int .i64 (chk ⟨cs, js, room⟩).1)) _ rfl) ?_
  intro a10 hA10; clear hA9
  refine sx_val hA10 rfl (ev_assign (hA10.ev (i := 10) (v := .int .i64 (chk ⟨cs, js, room⟩).2)) _ rfl) ?_
  intro a11 hA11; clear hA10
  refine sx_nil ?_
  refine then_n ?_
  refine wp_seq ?_
  refine wp_region_lit ?_
  refine sx_val hA11 rfl (ev_move (hA11.ev (i := 4) (v := .int .i64 (chk ⟨cs, js, room⟩).1)) _ rfl) ?_
  intro a12 hA12; clear hA11
  cases hd13 : decide ((chk ⟨cs, js, room⟩).1 = 0)
  · have hp13 := of_decide_eq_false hd13
    refine sx_val (v := .bool true) hA12 rfl (ev_neqB (k := .i64) (m := (chk ⟨cs, js, room⟩).1) (n := 0) (hA12.ev (i := 11)) (ec _ (.int .i64 0)) (by simpa using hd13) _ rfl) ?_
    intro a14 hA14; clear hA12
    refine sx_nil ?_
    refine then_n ?_
    refine wp_cond_true (hA14.ev (i := 12) (v := .bool true)) ?_
    refine wp_seq ?_
    refine wp_region_lit ?_
    refine sx_val hA14 rfl (ev_move (hA14.ev (i := 4) (v := .int .i64 (chk ⟨cs, js, room⟩).1)) _ rfl) ?_
    intro a15 hA15; clear hA14
    refine sx_val hA15 rfl (ev_assign (ec _ (.int .i64 0)) _ rfl) ?_
    intro a16 hA16; clear hA15
    refine sx_val hA16 rfl (ev_assign (hA16.ev (i := 13) (v := .int .i64 (chk ⟨cs, js, room⟩).1)) _ rfl) ?_
    intro a17 hA17; clear hA16
    refine sx_nil ?_
    refine then_n ?_
    refine wp_ret ?_
    refine then_r ?_
    refine bodyPost_ret (rs_tt (v := .int .i64 0) (v2 := .int .i64 (chk ⟨cs, js, room⟩).1) Try.results28 hA17 (by kernel_rfl) (by kernel_rfl) ) hA17.2.1 ?_
    have E : lft ⟨cs, js, room⟩ = (0, (chk ⟨cs, js, room⟩).1) := if_neg hp13
    have hbel0_18 := Below.gN hbel0_6 hg5 hbel0_6.size
    exact ⟨ret2 (by rw [E]), hbel0_18⟩
  have hp13 := of_decide_eq_true hd13
  refine sx_val (v := .bool false) hA12 rfl (ev_neqB (k := .i64) (m := (chk ⟨cs, js, room⟩).1) (n := 0) (hA12.ev (i := 11)) (ec _ (.int .i64 0)) (by simpa using hd13) _ rfl) ?_
  intro a19 hA19; clear hA12
  refine sx_nil ?_
  refine then_n ?_
  refine wp_cond_false (hA19.ev (i := 12) (v := .bool false)) ?_
  refine wp_skip ?_
  refine then_n ?_
  refine wp_seq ?_
  refine wp_region_lit ?_
  refine sx_val (v := .pointer (some ⟨B1, 2, none⟩)) hA19 rfl (fb_Disk_2 (hA19.ev (i := 1) (v := .pointer (some ⟨B1, 0, none⟩))) _ rfl) ?_
  intro a20 hA20; clear hA19
  have hx1_21 := hx1.gN hg5
  refine sx_val (v := .int .i64 room) hA20 rfl (ev_cell (v := .int .i64 room) (hA20.ev (i := 14) (v := .pointer (some ⟨B1, 2, none⟩))) ((hx1_21.cell 2).trans rfl) Try.underlying3 rfl _ rfl) ?_
  intro a22 hA22; clear hA20
  refine sx_val (v := .pointer (some ⟨B1, 1, none⟩)) hA22 rfl (fb_Disk_1 (hA22.ev (i := 1) (v := .pointer (some ⟨B1, 0, none⟩))) _ rfl) ?_
  intro a23 hA23; clear hA22
  refine sx_val (v := .slice A2 js.length c2) hA23 rfl (ev_cell (v := .slice A2 js.length c2) (hA23.ev (i := 16) (v := .pointer (some ⟨B1, 1, none⟩))) ((hx1_21.cell 1).trans rfl) Try.underlying23 rfl _ rfl) ?_
  intro a24 hA24; clear hA23
  refine sx_val (v := .int .i64 (js.length : Int)) hA24 rfl (ev_len (hA24.ev (i := 17) (v := .slice A2 js.length c2)) Try.underlying23 _ rfl) ?_
  intro a25 hA25; clear hA24
  have hok := chk_ok hp13
  have q1 : (js.length : Int) ≤ room := hok.fit
  have q2 : room ≤ 32 := hok.rhi
  have q3 : 1 ≤ room := hok.rlo
  refine sx_val (v := .int .i64 (room - (js.length : Int))) hA25 rfl (ev_subR (k := .i64) (m := room) (n := (js.length : Int)) (r := room - (js.length : Int)) (hA25.ev (i := 15)) (hA25.ev (i := 18)) (wr (by omega) (by omega) (by omega)) _ rfl) ?_
  intro a26 hA26; clear hA25
  refine sx_val hA26 rfl (ev_assign (hA26.ev (i := 19) (v := .int .i64 (room - (js.length : Int)))) _ rfl) ?_
  intro a27 hA27; clear hA26
  refine sx_val hA27 rfl (ev_assign (ec _ (.int .i64 0)) _ rfl) ?_
  intro a28 hA28; clear hA27
  refine sx_nil ?_
  refine then_n ?_
  refine wp_ret ?_
  refine bodyPost_ret (rs_tt (v := .int .i64 (room - (js.length : Int))) (v2 := .int .i64 0) Try.results28 hA28 (by kernel_rfl) (by kernel_rfl) ) hA28.2.1 ?_
  have E : lft ⟨cs, js, room⟩ = (room - js.length, 0) := if_pos hp13
  have hbel0_29 := Below.gN hbel0_6 hg5 hbel0_6.size
  exact ⟨ret2 (by rw [E]), hbel0_29⟩
end Go.Proofs.Ytbkdimildnahaaa
