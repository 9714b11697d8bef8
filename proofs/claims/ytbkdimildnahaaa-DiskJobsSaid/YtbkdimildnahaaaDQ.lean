/- The reference of disk: own; OwnDisk. -/
import Derived.Test.YtbkdimildnahaaaDN
namespace Go.Proofs.Ytbkdimildnahaaa
open Go.RowKit
set_option linter.unusedVariables false
set_option maxRecDepth 100000

set_option maxHeartbeats 4000000 in
theorem sOwn_any (A1 : Option Addr) (c1 : Nat) (A2 : Option Addr) (c2 : Nat) (cs : List Ct) (js : List Jb) (room : Int) (w : World) (hd : GD w A1 c1 A2 c2 cs js) (hl : cs.length ≤ 900000) (hj : js.length ≤ 900000) : Calls Try.prog 42 #[.agg #[.slice A1 cs.length c1, .slice A2 js.length c2, .int .i64 room]] w (RetD0 w ⟨cs, js, room⟩) := by
  have hbel0 := below0 w
  refine sx_enter (N := 14) [(0, .agg #[.slice A1 cs.length c1, .slice A2 js.length c2, .int .i64 room])] Try.func42 rfl Try.ntmps42 (by simp) (fun a z d s => ((Ag.nil z d).cons (s 0 _ rfl))) ?_
  intro a0 hA0
  refine wp_seq ?_
  refine wp_region_lit ?_
  refine sx_new (cs := #[.slice A1 cs.length c1, .slice A2 js.length c2, .int .i64 room]) (t := 25) hA0 rfl (by decide) (.inl rfl) (ev_box (hA0.ev (i := 0) (v := .agg #[.slice A1 cs.length c1, .slice A2 js.length c2, .int .i64 room])) rfl _ rfl) ?_
  intro B1 w1 a1 hB1 hx1 hg1 hA1
  clear hA0
  have hs1 := hg1.size
  have hl1 := hx1.lt
  refine sx_new (cs := #[.slice none 0 0, .slice none 0 0, .int .i64 0]) (t := 25) hA1 rfl (by decide) (.inl rfl) (ev_alloc (z := .agg (#[.slice none 0 0, .slice none 0 0, .int .i64 0])) (by kernel_rfl) (by kernel_rfl) _ rfl) ?_
  intro B2 w2 a2 hB2 hx2 hg2 hA2
  clear hA1
  have hs2 := hg2.size
  have hl2 := hx2.lt
  refine sx_nil ?_
  refine then_n ?_
  refine wp_seq ?_
  have hx1_3 := hx1.gN hg2
  have hbel0_4 := Below.gN hbel0 hg1 hbel0.size
  have hbel0_5 := Below.gN hbel0_4 hg2 hbel0_4.size
  refine region_D (n := 12) (by kernel_rfl) (by kernel_rfl) rfl (fun L ac wc => ∃ G0r1 : Nat, ∃ Ag3r1 : Option Addr, ∃ cg3r1 : Nat, ∃ G4r1 : Nat, ∃ Ag7r1 : Option Addr, ∃ cg7r1 : Nat, Below w.heap.size w wc ∧ w2.heap.size ≤ wc.heap.size ∧ Bx wc B1 25 (#[.slice A1 cs.length c1, .slice A2 js.length c2, .int .i64 room]) ∧ Bx wc B2 25 (bif L 11 then (#[.slice Ag3r1 cs.length cg3r1, .slice Ag7r1 js.length cg7r1, .int .i64 room]) else (#[.slice none 0 0, .slice none 0 0, .int .i64 0])) ∧ (L 0 = true → L 3 = false → w2.heap.size ≤ G0r1 ∧ Bx wc G0r1 28 #[]) ∧ (L 3 = true → Own wc w2.heap.size 28 8 (.slice Ag3r1 cs.length cg3r1) cs.length (flat Ct.va cs)) ∧ (L 4 = true → L 7 = false → w2.heap.size ≤ G4r1 ∧ Bx wc G4r1 38 #[]) ∧ (L 7 = true → Own wc w2.heap.size 38 11 (.slice Ag7r1 js.length cg7r1) js.length (flat Jb.va js)) ∧ (L 10 = true → L 3 = true) ∧ (L 11 = true → L 3 = true) ∧ (L 10 = true → L 7 = true) ∧ (L 11 = true → L 7 = true) ∧ (L 0 = true → Sv ac 3 (.slice (some ⟨G0r1, 0, none⟩) 0 0)) ∧ (L 1 = true → Sv ac 4 (.pointer (some ⟨B1, 0, none⟩))) ∧ (L 2 = true → Sv ac 5 (.slice A1 cs.length c1)) ∧ (L 3 = true → Sv ac 6 (.slice Ag3r1 cs.length cg3r1)) ∧ (L 4 = true → Sv ac 7 (.slice (some ⟨G4r1, 0, none⟩) 0 0)) ∧ (L 5 = true → Sv ac 8 (.pointer (some ⟨B1, 1, none⟩))) ∧ (L 6 = true → Sv ac 9 (.slice A2 js.length c2)) ∧ (L 7 = true → Sv ac 10 (.slice Ag7r1 js.length cg7r1)) ∧ (L 8 = true → Sv ac 11 (.pointer (some ⟨B1, 2, none⟩))) ∧ (L 9 = true → Sv ac 12 (.int .i64 room)) ∧ (L 10 = true → Sv ac 13 (.agg #[.slice Ag3r1 cs.length cg3r1, .slice Ag7r1 js.length cg7r1, .int .i64 room]))) ⟨0, none, 0, 0, none, 0, (Below.gN hbel0_5 (gdr _) hbel0_5.size), (Nat.le_refl _), (hx1_3.gN (gdr _)), (hx2.gN (gdr _)), (fun h => by cases h), (fun h => by cases h), (fun h => by cases h), (fun h => by cases h), (fun h => by cases h), (fun h => by cases h), (fun h => by cases h), (fun h => by cases h), (fun h => by cases h), (fun h => by cases h), (fun h => by cases h), (fun h => by cases h), (fun h => by cases h), (fun h => by cases h), (fun h => by cases h), (fun h => by cases h), (fun h => by cases h), (fun h => by cases h), (fun h => by cases h)⟩ ?_ ?_
  · intro iq hiq o ho L hL hdep ac wc hF hJ
    obtain ⟨G0r1, Ag3r1, cg3r1, G4r1, Ag7r1, cg7r1, bl, sz, b_B1, b_B2, g_0, a_3, g_4, a_7, cl_10_3, cl_11_3, cl_10_7, cl_11_7, s_3, s_4, s_5, s_6, s_7, s_8, s_9, s_10, s_11, s_12, s_13⟩ := hJ
    have z := hF.1.trans hA2.1
    match iq, hiq with
    | 0, _ =>
      obtain rfl := Option.some.inj (show some _ = some o from ho); clear ho
      refine dj_val (i := 0) rfl (.inl rfl) (w' := wc.alloc (.cells #[] 28)) (v := .slice (some ⟨wc.heap.size, 0, none⟩) 0 0) (ev_bs0 Try.underlying22 (by kernel_rfl) _ rfl) ?_
      have hx := Bx.new wc 28 #[]
      have hg := g0 (al wc (.cells #[] 28))
      exact ⟨⟨_, rfl⟩, wc.heap.size, Ag3r1, cg3r1, G4r1, Ag7r1, cg7r1, (Below.gN bl hg bl.size), (Nat.le_trans sz hg.size), (b_B1.gN hg), (b_B2.gN hg), (fun _ _ => ⟨sz, hx⟩), (fun h => Own.gN (a_3 h) hg), (fun h h2 => ⟨(g_4 h h2).1, (g_4 h h2).2.gN hg⟩), (fun h => Own.gN (a_7 h) hg), cl_10_3, cl_11_3, cl_10_7, cl_11_7, (fun _ => Sv.self (by rw [z]; decide) _), (so s_4), (so s_5), (so s_6), (so s_7), (so s_8), (so s_9), (so s_10), (so s_11), (so s_12), (so s_13)⟩
    | 1, _ =>
      obtain rfl := Option.some.inj (show some _ = some o from ho); clear ho
      have v1 := hF.sv (s := 1) (by kernel_rfl) (hA2.get (i := 1) (v := .pointer (some ⟨B1, 0, none⟩)))
      refine dj_val (i := 1) (v := .pointer (some ⟨B1, 0, none⟩)) rfl (.inl rfl) (fb_Disk_0 v1.eval _ rfl) ?_
      exact ⟨⟨_, rfl⟩, G0r1, Ag3r1, cg3r1, G4r1, Ag7r1, cg7r1, bl, sz, b_B1, b_B2, g_0, a_3, g_4, a_7, cl_10_3, cl_11_3, cl_10_7, cl_11_7, (so s_3), (fun _ => Sv.self (by rw [z]; decide) _), (so s_5), (so s_6), (so s_7), (so s_8), (so s_9), (so s_10), (so s_11), (so s_12), (so s_13)⟩
    | 2, _ =>
      obtain rfl := Option.some.inj (show some _ = some o from ho); clear ho
      have v4 := s_4 (dp hdep 1)
      refine dj_val (i := 2) (v := .slice A1 cs.length c1) rfl (.inl rfl) (ev_cell (v := .slice A1 cs.length c1) v4.eval ((b_B1.cell 0).trans rfl) Try.underlying22 rfl _ rfl) ?_
      exact ⟨⟨_, rfl⟩, G0r1, Ag3r1, cg3r1, G4r1, Ag7r1, cg7r1, bl, sz, b_B1, b_B2, g_0, a_3, g_4, a_7, cl_10_3, cl_11_3, cl_10_7, cl_11_7, (so s_3), (so s_4), (fun _ => Sv.self (by rw [z]; decide) _), (so s_6), (so s_7), (so s_8), (so s_9), (so s_10), (so s_11), (so s_12), (so s_13)⟩
    | 3, _ =>
      obtain rfl := Option.some.inj (show some _ = some o from ho); clear ho
      have v3 := s_3 (dp hdep 0)
      have v5 := s_5 (dp hdep 2)
      obtain ⟨hnn, hnb⟩ := g_0 (dp hdep 0) hL
      have hnl := hnb.lt
      obtain ⟨i0, hi1, hz0, hz1, hz2⟩ := info_parts (show (Try.prog.info? 28).map (fun i => (i.zero, i.size, i.bytes)) = some (some (.agg Ct.zero.va), 8, 64) by kernel_rfl)
      have ho := Own.bx0 (va := Ct.va) (size := 8) hnb
      obtain ⟨Ag3r1, cg3r1, wq2, hrun, hown, hg, -⟩ := run_append_ownG (P := Try.prog) wc G0r1 22 22 28 i0 (.agg Ct.zero.va) 8 64 Try.underlying22 hi1 hz0 hz1 hz2 rfl (by decide) _ 0 (flat Ct.va []) ho _ A1 cs.length c1 (flat Ct.va cs) (hd.s.below bl).2.2 (flat_one ct_one _) (by unfold maxLen; omega) (by omega) (by omega)
      simp only [Nat.zero_add] at hrun hown
      replace hown : Own wq2 w2.heap.size 28 8 (.slice Ag3r1 cs.length cg3r1) cs.length (flat Ct.va cs) := Own.mono hown hnn
      have e1 := v3.eval
      have e2 := v5.eval
      refine dj_val (i := 3) (v := .slice Ag3r1 cs.length cg3r1) (w' := wq2) rfl (.inl rfl) (by simp only [execOp, resolve, invoke, builtin, Sem.run_bind, Sem.run_pure, Result.andThen_ok, List.map_toArray, List.map_cons, List.map_nil, e1, e2, hrun]) ?_
      exact ⟨⟨_, rfl⟩, G0r1, Ag3r1, cg3r1, G4r1, Ag7r1, cg7r1, (Below.gO bl hg ho bl.size (by omega)), (Nat.le_trans sz hg.size), (b_B1.gOT hg ho (by decide)), (by
          have e0 : L 11 = false := by
            cases hc : L 11
            · rfl
            · exact absurd (cl_11_3 hc) (by rw [hL]; decide)
          have h0 := b_B2.gOT hg ho (by decide)
          rw [e0] at h0
          show Bx _ _ _ (bif L 11 then _ else _)
          rw [e0]
          exact h0), (fun _ h2 => by cases h2), (fun _ => hown), (fun h h2 => ⟨(g_4 h h2).1, (g_4 h h2).2.gOT hg ho (by decide)⟩), (fun h => Own.gOT (a_7 h) hg ho (by decide)), (fun _ => rfl), (fun _ => rfl), cl_10_7, cl_11_7, (so s_3), (so s_4), (so s_5), (fun _ => Sv.self (by rw [z]; decide) _), (so s_7), (so s_8), (so s_9), (so s_10), (so s_11), (so s_12), (fun h => absurd (cl_10_3 h) (by rw [hL]; decide))⟩
    | 4, _ =>
      obtain rfl := Option.some.inj (show some _ = some o from ho); clear ho
      refine dj_val (i := 4) rfl (.inl rfl) (w' := wc.alloc (.cells #[] 38)) (v := .slice (some ⟨wc.heap.size, 0, none⟩) 0 0) (ev_bs0 Try.underlying23 (by kernel_rfl) _ rfl) ?_
      have hx := Bx.new wc 38 #[]
      have hg := g0 (al wc (.cells #[] 38))
      exact ⟨⟨_, rfl⟩, G0r1, Ag3r1, cg3r1, wc.heap.size, Ag7r1, cg7r1, (Below.gN bl hg bl.size), (Nat.le_trans sz hg.size), (b_B1.gN hg), (b_B2.gN hg), (fun h h2 => ⟨(g_0 h h2).1, (g_0 h h2).2.gN hg⟩), (fun h => Own.gN (a_3 h) hg), (fun _ _ => ⟨sz, hx⟩), (fun h => Own.gN (a_7 h) hg), cl_10_3, cl_11_3, cl_10_7, cl_11_7, (so s_3), (so s_4), (so s_5), (so s_6), (fun _ => Sv.self (by rw [z]; decide) _), (so s_8), (so s_9), (so s_10), (so s_11), (so s_12), (so s_13)⟩
    | 5, _ =>
      obtain rfl := Option.some.inj (show some _ = some o from ho); clear ho
      have v1 := hF.sv (s := 1) (by kernel_rfl) (hA2.get (i := 1) (v := .pointer (some ⟨B1, 0, none⟩)))
      refine dj_val (i := 5) (v := .pointer (some ⟨B1, 1, none⟩)) rfl (.inl rfl) (fb_Disk_1 v1.eval _ rfl) ?_
      exact ⟨⟨_, rfl⟩, G0r1, Ag3r1, cg3r1, G4r1, Ag7r1, cg7r1, bl, sz, b_B1, b_B2, g_0, a_3, g_4, a_7, cl_10_3, cl_11_3, cl_10_7, cl_11_7, (so s_3), (so s_4), (so s_5), (so s_6), (so s_7), (fun _ => Sv.self (by rw [z]; decide) _), (so s_9), (so s_10), (so s_11), (so s_12), (so s_13)⟩
    | 6, _ =>
      obtain rfl := Option.some.inj (show some _ = some o from ho); clear ho
      have v8 := s_8 (dp hdep 5)
      refine dj_val (i := 6) (v := .slice A2 js.length c2) rfl (.inl rfl) (ev_cell (v := .slice A2 js.length c2) v8.eval ((b_B1.cell 1).trans rfl) Try.underlying23 rfl _ rfl) ?_
      exact ⟨⟨_, rfl⟩, G0r1, Ag3r1, cg3r1, G4r1, Ag7r1, cg7r1, bl, sz, b_B1, b_B2, g_0, a_3, g_4, a_7, cl_10_3, cl_11_3, cl_10_7, cl_11_7, (so s_3), (so s_4), (so s_5), (so s_6), (so s_7), (so s_8), (fun _ => Sv.self (by rw [z]; decide) _), (so s_10), (so s_11), (so s_12), (so s_13)⟩
    | 7, _ =>
      obtain rfl := Option.some.inj (show some _ = some o from ho); clear ho
      have v7 := s_7 (dp hdep 4)
      have v9 := s_9 (dp hdep 6)
      obtain ⟨hnn, hnb⟩ := g_4 (dp hdep 4) hL
      have hnl := hnb.lt
      obtain ⟨i0, hi1, hz0, hz1, hz2⟩ := info_parts (show (Try.prog.info? 38).map (fun i => (i.zero, i.size, i.bytes)) = some (some (.agg Jb.zero.va), 11, 88) by kernel_rfl)
      have ho := Own.bx0 (va := Jb.va) (size := 11) hnb
      obtain ⟨Ag7r1, cg7r1, wq2, hrun, hown, hg, -⟩ := run_append_ownG (P := Try.prog) wc G4r1 23 23 38 i0 (.agg Jb.zero.va) 11 88 Try.underlying23 hi1 hz0 hz1 hz2 rfl (by decide) _ 0 (flat Jb.va []) ho _ A2 js.length c2 (flat Jb.va js) (hd.j.below bl).2.2 (flat_one jb_one _) (by unfold maxLen; omega) (by omega) (by omega)
      simp only [Nat.zero_add] at hrun hown
      replace hown : Own wq2 w2.heap.size 38 11 (.slice Ag7r1 js.length cg7r1) js.length (flat Jb.va js) := Own.mono hown hnn
      have e1 := v7.eval
      have e2 := v9.eval
      refine dj_val (i := 7) (v := .slice Ag7r1 js.length cg7r1) (w' := wq2) rfl (.inl rfl) (by simp only [execOp, resolve, invoke, builtin, Sem.run_bind, Sem.run_pure, Result.andThen_ok, List.map_toArray, List.map_cons, List.map_nil, e1, e2, hrun]) ?_
      exact ⟨⟨_, rfl⟩, G0r1, Ag3r1, cg3r1, G4r1, Ag7r1, cg7r1, (Below.gO bl hg ho bl.size (by omega)), (Nat.le_trans sz hg.size), (b_B1.gOT hg ho (by decide)), (by
          have e0 : L 11 = false := by
            cases hc : L 11
            · rfl
            · exact absurd (cl_11_7 hc) (by rw [hL]; decide)
          have h0 := b_B2.gOT hg ho (by decide)
          rw [e0] at h0
          show Bx _ _ _ (bif L 11 then _ else _)
          rw [e0]
          exact h0), (fun h h2 => ⟨(g_0 h h2).1, (g_0 h h2).2.gOT hg ho (by decide)⟩), (fun h => Own.gOT (a_3 h) hg ho (by decide)), (fun _ h2 => by cases h2), (fun _ => hown), cl_10_3, cl_11_3, (fun _ => rfl), (fun _ => rfl), (so s_3), (so s_4), (so s_5), (so s_6), (so s_7), (so s_8), (so s_9), (fun _ => Sv.self (by rw [z]; decide) _), (so s_11), (so s_12), (fun h => absurd (cl_10_7 h) (by rw [hL]; decide))⟩
    | 8, _ =>
      obtain rfl := Option.some.inj (show some _ = some o from ho); clear ho
      have v1 := hF.sv (s := 1) (by kernel_rfl) (hA2.get (i := 1) (v := .pointer (some ⟨B1, 0, none⟩)))
      refine dj_val (i := 8) (v := .pointer (some ⟨B1, 2, none⟩)) rfl (.inl rfl) (fb_Disk_2 v1.eval _ rfl) ?_
      exact ⟨⟨_, rfl⟩, G0r1, Ag3r1, cg3r1, G4r1, Ag7r1, cg7r1, bl, sz, b_B1, b_B2, g_0, a_3, g_4, a_7, cl_10_3, cl_11_3, cl_10_7, cl_11_7, (so s_3), (so s_4), (so s_5), (so s_6), (so s_7), (so s_8), (so s_9), (so s_10), (fun _ => Sv.self (by rw [z]; decide) _), (so s_12), (so s_13)⟩
    | 9, _ =>
      obtain rfl := Option.some.inj (show some _ = some o from ho); clear ho
      have v11 := s_11 (dp hdep 8)
      refine dj_val (i := 9) (v := .int .i64 room) rfl (.inl rfl) (ev_cell (v := .int .i64 room) v11.eval ((b_B1.cell 2).trans rfl) Try.underlying3 rfl _ rfl) ?_
      exact ⟨⟨_, rfl⟩, G0r1, Ag3r1, cg3r1, G4r1, Ag7r1, cg7r1, bl, sz, b_B1, b_B2, g_0, a_3, g_4, a_7, cl_10_3, cl_11_3, cl_10_7, cl_11_7, (so s_3), (so s_4), (so s_5), (so s_6), (so s_7), (so s_8), (so s_9), (so s_10), (so s_11), (fun _ => Sv.self (by rw [z]; decide) _), (so s_13)⟩
    | 10, _ =>
      obtain rfl := Option.some.inj (show some _ = some o from ho); clear ho
      have v6 := s_6 (dp hdep 3)
      have v10 := s_10 (dp hdep 7)
      have v12 := s_12 (dp hdep 9)
      refine dj_val (i := 10) (v := .agg #[.slice Ag3r1 cs.length cg3r1, .slice Ag7r1 js.length cg7r1, .int .i64 room]) rfl (.inl rfl) (bd_Disk_0_1_2 v6.eval v10.eval v12.eval _ rfl) ?_
      exact ⟨⟨_, rfl⟩, G0r1, Ag3r1, cg3r1, G4r1, Ag7r1, cg7r1, bl, sz, b_B1, b_B2, g_0, a_3, g_4, a_7, (fun _ => dp hdep 3), cl_11_3, (fun _ => dp hdep 7), cl_11_7, (so s_3), (so s_4), (so s_5), (so s_6), (so s_7), (so s_8), (so s_9), (so s_10), (so s_11), (so s_12), (fun _ => Sv.self (by rw [z]; decide) _)⟩
    | 11, _ =>
      obtain rfl := Option.some.inj (show some _ = some o from ho); clear ho
      have v2 := hF.sv (s := 2) (by kernel_rfl) (hA2.get (i := 2) (v := .pointer (some ⟨B2, 0, none⟩)))
      have v13 := s_13 (dp hdep 10)
      have eB2 : L 11 = false := hL
      have yB2 := b_B2
      rw [eB2] at yB2
      refine dj_skip (i := 11) rfl rfl (.inl rfl) (w' := wc.setRow B2 (#[.slice Ag3r1 cs.length cg3r1, .slice Ag7r1 js.length cg7r1, .int .i64 room])) (ev_srow v2.eval v13.eval yB2 (n := 3) (by kernel_rfl) rfl rfl (dk_one _ _ _ _ _ _ _) _ rfl) ?_
      have hg := grw yB2 (#[.slice Ag3r1 cs.length cg3r1, .slice Ag7r1 js.length cg7r1, .int .i64 room])
      have hx := yB2.row (#[.slice Ag3r1 cs.length cg3r1, .slice Ag7r1 js.length cg7r1, .int .i64 room])
      exact ⟨⟨undef, rfl⟩, G0r1, Ag3r1, cg3r1, G4r1, Ag7r1, cg7r1, (Below.gB bl hg bl.size (by omega)), (Nat.le_trans sz hg.size), (b_B1.gB hg (by omega)), hx, (fun h h2 => ⟨(g_0 h h2).1, (g_0 h h2).2.gB hg (by have := (g_0 h h2).1; omega)⟩), (fun h => Own.gBT (a_3 h) hg yB2 (by decide)), (fun h h2 => ⟨(g_4 h h2).1, (g_4 h h2).2.gB hg (by have := (g_4 h h2).1; omega)⟩), (fun h => Own.gBT (a_7 h) hg yB2 (by decide)), cl_10_3, (fun _ => cl_10_3 (dp hdep 10)), cl_10_7, (fun _ => cl_10_7 (dp hdep 10)), s_3, s_4, s_5, s_6, s_7, s_8, s_9, s_10, s_11, s_12, s_13⟩
    | k + 12, h => exact absurd h (by omega)
  · intro L hall ac6 wc6 hF hJ
    obtain ⟨G0r1, Ag3r1, cg3r1, G4r1, Ag7r1, cg7r1, bl, sz, b_B1, b_B2, g_0, a_3, g_4, a_7, cl_10_3, cl_11_3, cl_10_7, cl_11_7, s_3, s_4, s_5, s_6, s_7, s_8, s_9, s_10, s_11, s_12, s_13⟩ := hJ
    have hA6 : Ag ac6 14 [(2, .pointer (some ⟨B2, 0, none⟩))] := ((Ag.nil (hF.1.trans hA2.1) (hF.2.1.trans hA2.2.1)).cons (hF.sv (s := 2) (by kernel_rfl) (hA2.get (i := 2) (v := .pointer (some ⟨B2, 0, none⟩)))))
    have bl6 := bl
    have sz6 := sz
    have b6_B1 := b_B1
    have b6_B2 : Bx wc6 B2 25 (#[.slice Ag3r1 cs.length cg3r1, .slice Ag7r1 js.length cg7r1, .int .i64 room]) := by
      have h := b_B2
      rw [hall 11 (by decide)] at h
      exact h
    have a6_3 := a_3 (hall 3 (by decide))
    have hha6_3 := Own.hi a6_3
    have a6_7 := a_7 (hall 7 (by decide))
    have hha6_7 := Own.hi a6_7
    clear hF bl sz b_B1 b_B2 g_0 a_3 g_4 a_7 cl_10_3 cl_11_3 cl_10_7 cl_11_7 s_3 s_4 s_5 s_6 s_7 s_8 s_9 s_10 s_11 s_12 s_13 hall hA2
    refine then_n ?_
    refine wp_ret ?_
    refine bodyPost_ret (rs_c  Try.results42 hA6 (by kernel_rfl) b6_B2 Try.underlying25 rfl (by kernel_rfl)) hA6.2.1 ?_
    exact ⟨_, _, _, _, rfl, ⟨rfl, Own.mono a6_3 (by omega)⟩, ⟨rfl, Own.mono a6_7 (by omega)⟩, bl6⟩

set_option maxHeartbeats 4000000 in
theorem OwnDisk_any (A1 : Option Addr) (c1 : Nat) (A2 : Option Addr) (c2 : Nat) (cs : List Ct) (js : List Jb) (room : Int) (w : World) (hd : GD w A1 c1 A2 c2 cs js) (hl : cs.length ≤ 900000) (hj : js.length ≤ 900000) : Calls Try.prog 11 #[.agg #[.slice A1 cs.length c1, .slice A2 js.length c2, .int .i64 room]] w (RetD0 w ⟨cs, js, room⟩) := by
  have hbel0 := below0 w
  refine sx_enter (N := 14) [(0, .agg #[.slice A1 cs.length c1, .slice A2 js.length c2, .int .i64 room])] Try.func11 rfl Try.ntmps11 (by simp) (fun a z d s => ((Ag.nil z d).cons (s 0 _ rfl))) ?_
  intro a0 hA0
  refine wp_seq ?_
  refine wp_region_lit ?_
  refine sx_new (cs := #[.slice A1 cs.length c1, .slice A2 js.length c2, .int .i64 room]) (t := 25) hA0 rfl (by decide) (.inl rfl) (ev_box (hA0.ev (i := 0) (v := .agg #[.slice A1 cs.length c1, .slice A2 js.length c2, .int .i64 room])) rfl _ rfl) ?_
  intro B1 w1 a1 hB1 hx1 hg1 hA1
  clear hA0
  have hs1 := hg1.size
  have hl1 := hx1.lt
  refine sx_new (cs := #[.slice none 0 0, .slice none 0 0, .int .i64 0]) (t := 25) hA1 rfl (by decide) (.inl rfl) (ev_alloc (z := .agg (#[.slice none 0 0, .slice none 0 0, .int .i64 0])) (by kernel_rfl) (by kernel_rfl) _ rfl) ?_
  intro B2 w2 a2 hB2 hx2 hg2 hA2
  clear hA1
  have hs2 := hg2.size
  have hl2 := hx2.lt
  refine sx_nil ?_
  refine then_n ?_
  refine wp_seq ?_
  have hx1_3 := hx1.gN hg2
  have hbel0_4 := Below.gN hbel0 hg1 hbel0.size
  have hbel0_5 := Below.gN hbel0_4 hg2 hbel0_4.size
  refine region_D (n := 12) (by kernel_rfl) (by kernel_rfl) rfl (fun L ac wc => ∃ G0r1 : Nat, ∃ Ag3r1 : Option Addr, ∃ cg3r1 : Nat, ∃ G4r1 : Nat, ∃ Ag7r1 : Option Addr, ∃ cg7r1 : Nat, Below w.heap.size w wc ∧ w2.heap.size ≤ wc.heap.size ∧ Bx wc B1 25 (#[.slice A1 cs.length c1, .slice A2 js.length c2, .int .i64 room]) ∧ Bx wc B2 25 (bif L 11 then (#[.slice Ag3r1 cs.length cg3r1, .slice Ag7r1 js.length cg7r1, .int .i64 room]) else (#[.slice none 0 0, .slice none 0 0, .int .i64 0])) ∧ (L 0 = true → L 3 = false → w2.heap.size ≤ G0r1 ∧ Bx wc G0r1 28 #[]) ∧ (L 3 = true → Own wc w2.heap.size 28 8 (.slice Ag3r1 cs.length cg3r1) cs.length (flat Ct.va cs)) ∧ (L 4 = true → L 7 = false → w2.heap.size ≤ G4r1 ∧ Bx wc G4r1 38 #[]) ∧ (L 7 = true → Own wc w2.heap.size 38 11 (.slice Ag7r1 js.length cg7r1) js.length (flat Jb.va js)) ∧ (L 10 = true → L 3 = true) ∧ (L 11 = true → L 3 = true) ∧ (L 10 = true → L 7 = true) ∧ (L 11 = true → L 7 = true) ∧ (L 0 = true → Sv ac 3 (.slice (some ⟨G0r1, 0, none⟩) 0 0)) ∧ (L 1 = true → Sv ac 4 (.pointer (some ⟨B1, 0, none⟩))) ∧ (L 2 = true → Sv ac 5 (.slice A1 cs.length c1)) ∧ (L 3 = true → Sv ac 6 (.slice Ag3r1 cs.length cg3r1)) ∧ (L 4 = true → Sv ac 7 (.slice (some ⟨G4r1, 0, none⟩) 0 0)) ∧ (L 5 = true → Sv ac 8 (.pointer (some ⟨B1, 1, none⟩))) ∧ (L 6 = true → Sv ac 9 (.slice A2 js.length c2)) ∧ (L 7 = true → Sv ac 10 (.slice Ag7r1 js.length cg7r1)) ∧ (L 8 = true → Sv ac 11 (.pointer (some ⟨B1, 2, none⟩))) ∧ (L 9 = true → Sv ac 12 (.int .i64 room)) ∧ (L 10 = true → Sv ac 13 (.agg #[.slice Ag3r1 cs.length cg3r1, .slice Ag7r1 js.length cg7r1, .int .i64 room]))) ⟨0, none, 0, 0, none, 0, (Below.gN hbel0_5 (gdr _) hbel0_5.size), (Nat.le_refl _), (hx1_3.gN (gdr _)), (hx2.gN (gdr _)), (fun h => by cases h), (fun h => by cases h), (fun h => by cases h), (fun h => by cases h), (fun h => by cases h), (fun h => by cases h), (fun h => by cases h), (fun h => by cases h), (fun h => by cases h), (fun h => by cases h), (fun h => by cases h), (fun h => by cases h), (fun h => by cases h), (fun h => by cases h), (fun h => by cases h), (fun h => by cases h), (fun h => by cases h), (fun h => by cases h), (fun h => by cases h)⟩ ?_ ?_
  · intro iq hiq o ho L hL hdep ac wc hF hJ
    obtain ⟨G0r1, Ag3r1, cg3r1, G4r1, Ag7r1, cg7r1, bl, sz, b_B1, b_B2, g_0, a_3, g_4, a_7, cl_10_3, cl_11_3, cl_10_7, cl_11_7, s_3, s_4, s_5, s_6, s_7, s_8, s_9, s_10, s_11, s_12, s_13⟩ := hJ
    have z := hF.1.trans hA2.1
    match iq, hiq with
    | 0, _ =>
      obtain rfl := Option.some.inj (show some _ = some o from ho); clear ho
      refine dj_val (i := 0) rfl (.inl rfl) (w' := wc.alloc (.cells #[] 28)) (v := .slice (some ⟨wc.heap.size, 0, none⟩) 0 0) (ev_bs0 Try.underlying22 (by kernel_rfl) _ rfl) ?_
      have hx := Bx.new wc 28 #[]
      have hg := g0 (al wc (.cells #[] 28))
      exact ⟨⟨_, rfl⟩, wc.heap.size, Ag3r1, cg3r1, G4r1, Ag7r1, cg7r1, (Below.gN bl hg bl.size), (Nat.le_trans sz hg.size), (b_B1.gN hg), (b_B2.gN hg), (fun _ _ => ⟨sz, hx⟩), (fun h => Own.gN (a_3 h) hg), (fun h h2 => ⟨(g_4 h h2).1, (g_4 h h2).2.gN hg⟩), (fun h => Own.gN (a_7 h) hg), cl_10_3, cl_11_3, cl_10_7, cl_11_7, (fun _ => Sv.self (by rw [z]; decide) _), (so s_4), (so s_5), (so s_6), (so s_7), (so s_8), (so s_9), (so s_10), (so s_11), (so s_12), (so s_13)⟩
    | 1, _ =>
      obtain rfl := Option.some.inj (show some _ = some o from ho); clear ho
      have v1 := hF.sv (s := 1) (by kernel_rfl) (hA2.get (i := 1) (v := .pointer (some ⟨B1, 0, none⟩)))
      refine dj_val (i := 1) (v := .pointer (some ⟨B1, 0, none⟩)) rfl (.inl rfl) (fb_Disk_0 v1.eval _ rfl) ?_
      exact ⟨⟨_, rfl⟩, G0r1, Ag3r1, cg3r1, G4r1, Ag7r1, cg7r1, bl, sz, b_B1, b_B2, g_0, a_3, g_4, a_7, cl_10_3, cl_11_3, cl_10_7, cl_11_7, (so s_3), (fun _ => Sv.self (by rw [z]; decide) _), (so s_5), (so s_6), (so s_7), (so s_8), (so s_9), (so s_10), (so s_11), (so s_12), (so s_13)⟩
    | 2, _ =>
      obtain rfl := Option.some.inj (show some _ = some o from ho); clear ho
      have v4 := s_4 (dp hdep 1)
      refine dj_val (i := 2) (v := .slice A1 cs.length c1) rfl (.inl rfl) (ev_cell (v := .slice A1 cs.length c1) v4.eval ((b_B1.cell 0).trans rfl) Try.underlying22 rfl _ rfl) ?_
      exact ⟨⟨_, rfl⟩, G0r1, Ag3r1, cg3r1, G4r1, Ag7r1, cg7r1, bl, sz, b_B1, b_B2, g_0, a_3, g_4, a_7, cl_10_3, cl_11_3, cl_10_7, cl_11_7, (so s_3), (so s_4), (fun _ => Sv.self (by rw [z]; decide) _), (so s_6), (so s_7), (so s_8), (so s_9), (so s_10), (so s_11), (so s_12), (so s_13)⟩
    | 3, _ =>
      obtain rfl := Option.some.inj (show some _ = some o from ho); clear ho
      have v3 := s_3 (dp hdep 0)
      have v5 := s_5 (dp hdep 2)
      obtain ⟨hnn, hnb⟩ := g_0 (dp hdep 0) hL
      have hnl := hnb.lt
      obtain ⟨i0, hi1, hz0, hz1, hz2⟩ := info_parts (show (Try.prog.info? 28).map (fun i => (i.zero, i.size, i.bytes)) = some (some (.agg Ct.zero.va), 8, 64) by kernel_rfl)
      have ho := Own.bx0 (va := Ct.va) (size := 8) hnb
      obtain ⟨Ag3r1, cg3r1, wq2, hrun, hown, hg, -⟩ := run_append_ownG (P := Try.prog) wc G0r1 22 22 28 i0 (.agg Ct.zero.va) 8 64 Try.underlying22 hi1 hz0 hz1 hz2 rfl (by decide) _ 0 (flat Ct.va []) ho _ A1 cs.length c1 (flat Ct.va cs) (hd.s.below bl).2.2 (flat_one ct_one _) (by unfold maxLen; omega) (by omega) (by omega)
      simp only [Nat.zero_add] at hrun hown
      replace hown : Own wq2 w2.heap.size 28 8 (.slice Ag3r1 cs.length cg3r1) cs.length (flat Ct.va cs) := Own.mono hown hnn
      have e1 := v3.eval
      have e2 := v5.eval
      refine dj_val (i := 3) (v := .slice Ag3r1 cs.length cg3r1) (w' := wq2) rfl (.inl rfl) (by simp only [execOp, resolve, invoke, builtin, Sem.run_bind, Sem.run_pure, Result.andThen_ok, List.map_toArray, List.map_cons, List.map_nil, e1, e2, hrun]) ?_
      exact ⟨⟨_, rfl⟩, G0r1, Ag3r1, cg3r1, G4r1, Ag7r1, cg7r1, (Below.gO bl hg ho bl.size (by omega)), (Nat.le_trans sz hg.size), (b_B1.gOT hg ho (by decide)), (by
          have e0 : L 11 = false := by
            cases hc : L 11
            · rfl
            · exact absurd (cl_11_3 hc) (by rw [hL]; decide)
          have h0 := b_B2.gOT hg ho (by decide)
          rw [e0] at h0
          show Bx _ _ _ (bif L 11 then _ else _)
          rw [e0]
          exact h0), (fun _ h2 => by cases h2), (fun _ => hown), (fun h h2 => ⟨(g_4 h h2).1, (g_4 h h2).2.gOT hg ho (by decide)⟩), (fun h => Own.gOT (a_7 h) hg ho (by decide)), (fun _ => rfl), (fun _ => rfl), cl_10_7, cl_11_7, (so s_3), (so s_4), (so s_5), (fun _ => Sv.self (by rw [z]; decide) _), (so s_7), (so s_8), (so s_9), (so s_10), (so s_11), (so s_12), (fun h => absurd (cl_10_3 h) (by rw [hL]; decide))⟩
    | 4, _ =>
      obtain rfl := Option.some.inj (show some _ = some o from ho); clear ho
      refine dj_val (i := 4) rfl (.inl rfl) (w' := wc.alloc (.cells #[] 38)) (v := .slice (some ⟨wc.heap.size, 0, none⟩) 0 0) (ev_bs0 Try.underlying23 (by kernel_rfl) _ rfl) ?_
      have hx := Bx.new wc 38 #[]
      have hg := g0 (al wc (.cells #[] 38))
      exact ⟨⟨_, rfl⟩, G0r1, Ag3r1, cg3r1, wc.heap.size, Ag7r1, cg7r1, (Below.gN bl hg bl.size), (Nat.le_trans sz hg.size), (b_B1.gN hg), (b_B2.gN hg), (fun h h2 => ⟨(g_0 h h2).1, (g_0 h h2).2.gN hg⟩), (fun h => Own.gN (a_3 h) hg), (fun _ _ => ⟨sz, hx⟩), (fun h => Own.gN (a_7 h) hg), cl_10_3, cl_11_3, cl_10_7, cl_11_7, (so s_3), (so s_4), (so s_5), (so s_6), (fun _ => Sv.self (by rw [z]; decide) _), (so s_8), (so s_9), (so s_10), (so s_11), (so s_12), (so s_13)⟩
    | 5, _ =>
      obtain rfl := Option.some.inj (show some _ = some o from ho); clear ho
      have v1 := hF.sv (s := 1) (by kernel_rfl) (hA2.get (i := 1) (v := .pointer (some ⟨B1, 0, none⟩)))
      refine dj_val (i := 5) (v := .pointer (some ⟨B1, 1, none⟩)) rfl (.inl rfl) (fb_Disk_1 v1.eval _ rfl) ?_
      exact ⟨⟨_, rfl⟩, G0r1, Ag3r1, cg3r1, G4r1, Ag7r1, cg7r1, bl, sz, b_B1, b_B2, g_0, a_3, g_4, a_7, cl_10_3, cl_11_3, cl_10_7, cl_11_7, (so s_3), (so s_4), (so s_5), (so s_6), (so s_7), (fun _ => Sv.self (by rw [z]; decide) _), (so s_9), (so s_10), (so s_11), (so s_12), (so s_13)⟩
    | 6, _ =>
      obtain rfl := Option.some.inj (show some _ = some o from ho); clear ho
      have v8 := s_8 (dp hdep 5)
      refine dj_val (i := 6) (v := .slice A2 js.length c2) rfl (.inl rfl) (ev_cell (v := .slice A2 js.length c2) v8.eval ((b_B1.cell 1).trans rfl) Try.underlying23 rfl _ rfl) ?_
      exact ⟨⟨_, rfl⟩, G0r1, Ag3r1, cg3r1, G4r1, Ag7r1, cg7r1, bl, sz, b_B1, b_B2, g_0, a_3, g_4, a_7, cl_10_3, cl_11_3, cl_10_7, cl_11_7, (so s_3), (so s_4), (so s_5), (so s_6), (so s_7), (so s_8), (fun _ => Sv.self (by rw [z]; decide) _), (so s_10), (so s_11), (so s_12), (so s_13)⟩
    | 7, _ =>
      obtain rfl := Option.some.inj (show some _ = some o from ho); clear ho
      have v7 := s_7 (dp hdep 4)
      have v9 := s_9 (dp hdep 6)
      obtain ⟨hnn, hnb⟩ := g_4 (dp hdep 4) hL
      have hnl := hnb.lt
      obtain ⟨i0, hi1, hz0, hz1, hz2⟩ := info_parts (show (Try.prog.info? 38).map (fun i => (i.zero, i.size, i.bytes)) = some (some (.agg Jb.zero.va), 11, 88) by kernel_rfl)
      have ho := Own.bx0 (va := Jb.va) (size := 11) hnb
      obtain ⟨Ag7r1, cg7r1, wq2, hrun, hown, hg, -⟩ := run_append_ownG (P := Try.prog) wc G4r1 23 23 38 i0 (.agg Jb.zero.va) 11 88 Try.underlying23 hi1 hz0 hz1 hz2 rfl (by decide) _ 0 (flat Jb.va []) ho _ A2 js.length c2 (flat Jb.va js) (hd.j.below bl).2.2 (flat_one jb_one _) (by unfold maxLen; omega) (by omega) (by omega)
      simp only [Nat.zero_add] at hrun hown
      replace hown : Own wq2 w2.heap.size 38 11 (.slice Ag7r1 js.length cg7r1) js.length (flat Jb.va js) := Own.mono hown hnn
      have e1 := v7.eval
      have e2 := v9.eval
      refine dj_val (i := 7) (v := .slice Ag7r1 js.length cg7r1) (w' := wq2) rfl (.inl rfl) (by simp only [execOp, resolve, invoke, builtin, Sem.run_bind, Sem.run_pure, Result.andThen_ok, List.map_toArray, List.map_cons, List.map_nil, e1, e2, hrun]) ?_
      exact ⟨⟨_, rfl⟩, G0r1, Ag3r1, cg3r1, G4r1, Ag7r1, cg7r1, (Below.gO bl hg ho bl.size (by omega)), (Nat.le_trans sz hg.size), (b_B1.gOT hg ho (by decide)), (by
          have e0 : L 11 = false := by
            cases hc : L 11
            · rfl
            · exact absurd (cl_11_7 hc) (by rw [hL]; decide)
          have h0 := b_B2.gOT hg ho (by decide)
          rw [e0] at h0
          show Bx _ _ _ (bif L 11 then _ else _)
          rw [e0]
          exact h0), (fun h h2 => ⟨(g_0 h h2).1, (g_0 h h2).2.gOT hg ho (by decide)⟩), (fun h => Own.gOT (a_3 h) hg ho (by decide)), (fun _ h2 => by cases h2), (fun _ => hown), cl_10_3, cl_11_3, (fun _ => rfl), (fun _ => rfl), (so s_3), (so s_4), (so s_5), (so s_6), (so s_7), (so s_8), (so s_9), (fun _ => Sv.self (by rw [z]; decide) _), (so s_11), (so s_12), (fun h => absurd (cl_10_7 h) (by rw [hL]; decide))⟩
    | 8, _ =>
      obtain rfl := Option.some.inj (show some _ = some o from ho); clear ho
      have v1 := hF.sv (s := 1) (by kernel_rfl) (hA2.get (i := 1) (v := .pointer (some ⟨B1, 0, none⟩)))
      refine dj_val (i := 8) (v := .pointer (some ⟨B1, 2, none⟩)) rfl (.inl rfl) (fb_Disk_2 v1.eval _ rfl) ?_
      exact ⟨⟨_, rfl⟩, G0r1, Ag3r1, cg3r1, G4r1, Ag7r1, cg7r1, bl, sz, b_B1, b_B2, g_0, a_3, g_4, a_7, cl_10_3, cl_11_3, cl_10_7, cl_11_7, (so s_3), (so s_4), (so s_5), (so s_6), (so s_7), (so s_8), (so s_9), (so s_10), (fun _ => Sv.self (by rw [z]; decide) _), (so s_12), (so s_13)⟩
    | 9, _ =>
      obtain rfl := Option.some.inj (show some _ = some o from ho); clear ho
      have v11 := s_11 (dp hdep 8)
      refine dj_val (i := 9) (v := .int .i64 room) rfl (.inl rfl) (ev_cell (v := .int .i64 room) v11.eval ((b_B1.cell 2).trans rfl) Try.underlying3 rfl _ rfl) ?_
      exact ⟨⟨_, rfl⟩, G0r1, Ag3r1, cg3r1, G4r1, Ag7r1, cg7r1, bl, sz, b_B1, b_B2, g_0, a_3, g_4, a_7, cl_10_3, cl_11_3, cl_10_7, cl_11_7, (so s_3), (so s_4), (so s_5), (so s_6), (so s_7), (so s_8), (so s_9), (so s_10), (so s_11), (fun _ => Sv.self (by rw [z]; decide) _), (so s_13)⟩
    | 10, _ =>
      obtain rfl := Option.some.inj (show some _ = some o from ho); clear ho
      have v6 := s_6 (dp hdep 3)
      have v10 := s_10 (dp hdep 7)
      have v12 := s_12 (dp hdep 9)
      refine dj_val (i := 10) (v := .agg #[.slice Ag3r1 cs.length cg3r1, .slice Ag7r1 js.length cg7r1, .int .i64 room]) rfl (.inl rfl) (bd_Disk_0_1_2 v6.eval v10.eval v12.eval _ rfl) ?_
      exact ⟨⟨_, rfl⟩, G0r1, Ag3r1, cg3r1, G4r1, Ag7r1, cg7r1, bl, sz, b_B1, b_B2, g_0, a_3, g_4, a_7, (fun _ => dp hdep 3), cl_11_3, (fun _ => dp hdep 7), cl_11_7, (so s_3), (so s_4), (so s_5), (so s_6), (so s_7), (so s_8), (so s_9), (so s_10), (so s_11), (so s_12), (fun _ => Sv.self (by rw [z]; decide) _)⟩
    | 11, _ =>
      obtain rfl := Option.some.inj (show some _ = some o from ho); clear ho
      have v2 := hF.sv (s := 2) (by kernel_rfl) (hA2.get (i := 2) (v := .pointer (some ⟨B2, 0, none⟩)))
      have v13 := s_13 (dp hdep 10)
      have eB2 : L 11 = false := hL
      have yB2 := b_B2
      rw [eB2] at yB2
      refine dj_skip (i := 11) rfl rfl (.inl rfl) (w' := wc.setRow B2 (#[.slice Ag3r1 cs.length cg3r1, .slice Ag7r1 js.length cg7r1, .int .i64 room])) (ev_srow v2.eval v13.eval yB2 (n := 3) (by kernel_rfl) rfl rfl (dk_one _ _ _ _ _ _ _) _ rfl) ?_
      have hg := grw yB2 (#[.slice Ag3r1 cs.length cg3r1, .slice Ag7r1 js.length cg7r1, .int .i64 room])
      have hx := yB2.row (#[.slice Ag3r1 cs.length cg3r1, .slice Ag7r1 js.length cg7r1, .int .i64 room])
      exact ⟨⟨undef, rfl⟩, G0r1, Ag3r1, cg3r1, G4r1, Ag7r1, cg7r1, (Below.gB bl hg bl.size (by omega)), (Nat.le_trans sz hg.size), (b_B1.gB hg (by omega)), hx, (fun h h2 => ⟨(g_0 h h2).1, (g_0 h h2).2.gB hg (by have := (g_0 h h2).1; omega)⟩), (fun h => Own.gBT (a_3 h) hg yB2 (by decide)), (fun h h2 => ⟨(g_4 h h2).1, (g_4 h h2).2.gB hg (by have := (g_4 h h2).1; omega)⟩), (fun h => Own.gBT (a_7 h) hg yB2 (by decide)), cl_10_3, (fun _ => cl_10_3 (dp hdep 10)), cl_10_7, (fun _ => cl_10_7 (dp hdep 10)), s_3, s_4, s_5, s_6, s_7, s_8, s_9, s_10, s_11, s_12, s_13⟩
    | k + 12, h => exact absurd h (by omega)
  · intro L hall ac6 wc6 hF hJ
    obtain ⟨G0r1, Ag3r1, cg3r1, G4r1, Ag7r1, cg7r1, bl, sz, b_B1, b_B2, g_0, a_3, g_4, a_7, cl_10_3, cl_11_3, cl_10_7, cl_11_7, s_3, s_4, s_5, s_6, s_7, s_8, s_9, s_10, s_11, s_12, s_13⟩ := hJ
    have hA6 : Ag ac6 14 [(2, .pointer (some ⟨B2, 0, none⟩))] := ((Ag.nil (hF.1.trans hA2.1) (hF.2.1.trans hA2.2.1)).cons (hF.sv (s := 2) (by kernel_rfl) (hA2.get (i := 2) (v := .pointer (some ⟨B2, 0, none⟩)))))
    have bl6 := bl
    have sz6 := sz
    have b6_B1 := b_B1
    have b6_B2 : Bx wc6 B2 25 (#[.slice Ag3r1 cs.length cg3r1, .slice Ag7r1 js.length cg7r1, .int .i64 room]) := by
      have h := b_B2
      rw [hall 11 (by decide)] at h
      exact h
    have a6_3 := a_3 (hall 3 (by decide))
    have hha6_3 := Own.hi a6_3
    have a6_7 := a_7 (hall 7 (by decide))
    have hha6_7 := Own.hi a6_7
    clear hF bl sz b_B1 b_B2 g_0 a_3 g_4 a_7 cl_10_3 cl_11_3 cl_10_7 cl_11_7 s_3 s_4 s_5 s_6 s_7 s_8 s_9 s_10 s_11 s_12 s_13 hall hA2
    refine then_n ?_
    refine wp_ret ?_
    refine bodyPost_ret (rs_c  Try.results11 hA6 (by kernel_rfl) b6_B2 Try.underlying25 rfl (by kernel_rfl)) hA6.2.1 ?_
    exact ⟨_, _, _, _, rfl, ⟨rfl, Own.mono a6_3 (by omega)⟩, ⟨rfl, Own.mono a6_7 (by omega)⟩, bl6⟩
end Go.Proofs.Ytbkdimildnahaaa
