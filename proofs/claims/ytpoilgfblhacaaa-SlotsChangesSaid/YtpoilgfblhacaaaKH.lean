/- The reference of slots: with, First, Alloc, Ref, Unref, Start, Settle, Count. -/
import Derived.Test.YtpoilgfblhacaaaKG
namespace Go.Proofs.Ytpoilgfblhacaaa
open Go.RowKit
set_option linter.unusedVariables false
set_option linter.unusedSimpArgs false
set_option maxRecDepth 100000

set_option maxHeartbeats 4000000 in
theorem with_any (A1 : Option Addr) (c1 : Nat) (A2 : Option Addr) (c2 : Nat) (rs : List Int) (bs : List Bool) (k : Nat) (r : Int) (b : Bool) (w : World) (hs : GS w A1 c1 A2 c2 rs bs) (hl : rs.length ≤ 900000) (hb0 : bs.length ≤ 900000) (h1 : k < rs.length) (h2 : k < bs.length) : Calls Try.prog 41 #[.agg #[.slice A1 rs.length c1, .slice A2 bs.length c2], .int .i64 (k : Int), .int .i64 r, .bool b] w (RSl w ⟨rs.set k r, bs.set k b⟩ id) := by
  obtain ⟨x, hx⟩ : ∃ x, rs[k]? = some x := ⟨_, List.getElem?_eq_getElem h1⟩
  obtain ⟨y, hy⟩ : ∃ y, bs[k]? = some y := ⟨_, List.getElem?_eq_getElem h2⟩
  have hbel0 := below0 w
  refine sx_enter (N := 30) [(0, .agg #[.slice A1 rs.length c1, .slice A2 bs.length c2]), (1, .int .i64 (k : Int)), (2, .int .i64 r), (3, .bool b)] Try.func41 rfl Try.ntmps41 (by simp) (fun a z d s => (((((Ag.nil z d).cons (s 3 _ rfl)).cons (s 2 _ rfl)).cons (s 1 _ rfl)).cons (s 0 _ rfl))) ?_
  intro a0 hA0
  refine wp_seq ?_
  refine wp_region_lit ?_
  refine sx_new (cs := #[.slice A1 rs.length c1, .slice A2 bs.length c2]) (t := 25) hA0 rfl (by decide) (.inl rfl) (ev_box (hA0.ev (i := 0) (v := .agg #[.slice A1 rs.length c1, .slice A2 bs.length c2])) rfl _ rfl) ?_
  intro B1 w1 a1 hB1 hx1 hg1 hA1
  clear hA0
  have hs1 := hg1.size
  have hl1 := hx1.lt
  refine sx_new (cs := #[.slice none 0 0, .slice none 0 0]) (t := 25) hA1 rfl (by decide) (.inl rfl) (ev_alloc (z := .agg (#[.slice none 0 0, .slice none 0 0])) (by kernel_rfl) (by kernel_rfl) _ rfl) ?_
  intro B2 w2 a2 hB2 hx2 hg2 hA2
  clear hA1
  have hs2 := hg2.size
  have hl2 := hx2.lt
  refine sx_nil ?_
  refine then_n ?_
  refine wp_seq ?_
  have hx1_3 := hx1.gN hg2
  have hbel0_4 := Below.gN hbel0 hg1 hbel0.size
  have hbel0_5 := Below.gN hbel0_4 hg2 hbel0_4.size
  refine region_D (n := 11) (by kernel_rfl) (by kernel_rfl) rfl (fun L ac wc => ∃ G0r1 : Nat, ∃ Ag3r1 : Option Addr, ∃ cg3r1 : Nat, ∃ G4r1 : Nat, ∃ Ag7r1 : Option Addr, ∃ cg7r1 : Nat, ∃ N9r1 : Nat, Below w.heap.size w wc ∧ w2.heap.size ≤ wc.heap.size ∧ Bx wc B1 25 (#[.slice A1 rs.length c1, .slice A2 bs.length c2]) ∧ Bx wc B2 25 (#[.slice none 0 0, .slice none 0 0]) ∧ (L 9 = true → w2.heap.size ≤ N9r1 ∧ Bx wc N9r1 25 (bif L 10 then (#[.slice Ag3r1 rs.length cg3r1, .slice Ag7r1 bs.length cg7r1]) else (#[.slice none 0 0, .slice none 0 0]))) ∧ (L 0 = true → L 3 = false → w2.heap.size ≤ G0r1 ∧ Bx wc G0r1 3 #[]) ∧ (L 3 = true → Own wc w2.heap.size 3 1 (.slice Ag3r1 rs.length cg3r1) rs.length (flat iva rs)) ∧ (L 4 = true → L 7 = false → w2.heap.size ≤ G4r1 ∧ Bx wc G4r1 4 #[]) ∧ (L 7 = true → Own wc w2.heap.size 4 1 (.slice Ag7r1 bs.length cg7r1) bs.length (flat bva bs)) ∧ (L 10 = true → L 9 = true) ∧ (L 8 = true → L 3 = true) ∧ (L 10 = true → L 3 = true) ∧ (L 8 = true → L 7 = true) ∧ (L 10 = true → L 7 = true) ∧ (L 0 = true → Sv ac 10 (.slice (some ⟨G0r1, 0, none⟩) 0 0)) ∧ (L 1 = true → Sv ac 11 (.pointer (some ⟨B1, 0, none⟩))) ∧ (L 2 = true → Sv ac 12 (.slice A1 rs.length c1)) ∧ (L 3 = true → Sv ac 13 (.slice Ag3r1 rs.length cg3r1)) ∧ (L 4 = true → Sv ac 14 (.slice (some ⟨G4r1, 0, none⟩) 0 0)) ∧ (L 5 = true → Sv ac 15 (.pointer (some ⟨B1, 1, none⟩))) ∧ (L 6 = true → Sv ac 16 (.slice A2 bs.length c2)) ∧ (L 7 = true → Sv ac 17 (.slice Ag7r1 bs.length cg7r1)) ∧ (L 8 = true → Sv ac 18 (.agg #[.slice Ag3r1 rs.length cg3r1, .slice Ag7r1 bs.length cg7r1])) ∧ (L 9 = true → Sv ac 9 (.pointer (some ⟨N9r1, 0, none⟩)))) ⟨0, none, 0, 0, none, 0, 0, (Below.gN hbel0_5 (gdr _) hbel0_5.size), (Nat.le_refl _), (hx1_3.gN (gdr _)), (hx2.gN (gdr _)), (fun h => by cases h), (fun h => by cases h), (fun h => by cases h), (fun h => by cases h), (fun h => by cases h), (fun h => by cases h), (fun h => by cases h), (fun h => by cases h), (fun h => by cases h), (fun h => by cases h), (fun h => by cases h), (fun h => by cases h), (fun h => by cases h), (fun h => by cases h), (fun h => by cases h), (fun h => by cases h), (fun h => by cases h), (fun h => by cases h), (fun h => by cases h), (fun h => by cases h)⟩ ?_ ?_
  · intro iq hiq o ho L hL hdep ac wc hF hJ
    obtain ⟨G0r1, Ag3r1, cg3r1, G4r1, Ag7r1, cg7r1, N9r1, bl, sz, b_B1, b_B2, n_N9r1, g_0, a_3, g_4, a_7, cl_10_9, cl_8_3, cl_10_3, cl_8_7, cl_10_7, s_10, s_11, s_12, s_13, s_14, s_15, s_16, s_17, s_18, s_9⟩ := hJ
    have zq := hF.1.trans hA2.1
    match iq, hiq with
    | 0, _ =>
      obtain rfl := Option.some.inj (show some _ = some o from ho); clear ho
      refine dj_val (i := 0) rfl (.inl rfl) (w' := wc.alloc (.cells #[] 3)) (v := .slice (some ⟨wc.heap.size, 0, none⟩) 0 0) (ev_bs0 Try.underlying22 (by kernel_rfl) _ rfl) ?_
      have hx := Bx.new wc 3 #[]
      have hg := g0 (al wc (.cells #[] 3))
      exact ⟨⟨_, rfl⟩, wc.heap.size, Ag3r1, cg3r1, G4r1, Ag7r1, cg7r1, N9r1, (Below.gN bl hg bl.size), (Nat.le_trans sz hg.size), (b_B1.gN hg), (b_B2.gN hg), (fun h => ⟨(n_N9r1 h).1, (n_N9r1 h).2.gN hg⟩), (fun _ _ => ⟨sz, hx⟩), (fun h => Own.gN (a_3 h) hg), (fun h h2 => ⟨(g_4 h h2).1, (g_4 h h2).2.gN hg⟩), (fun h => Own.gN (a_7 h) hg), cl_10_9, cl_8_3, cl_10_3, cl_8_7, cl_10_7, (fun _ => Sv.self (by rw [zq]; decide) _), (so s_11), (so s_12), (so s_13), (so s_14), (so s_15), (so s_16), (so s_17), (so s_18), (so s_9)⟩
    | 1, _ =>
      obtain rfl := Option.some.inj (show some _ = some o from ho); clear ho
      have v4 := hF.sv (s := 4) (by kernel_rfl) (hA2.get (i := 4) (v := .pointer (some ⟨B1, 0, none⟩)))
      refine dj_val (i := 1) (v := .pointer (some ⟨B1, 0, none⟩)) rfl (.inl rfl) (fb_Slots_0 v4.eval _ rfl) ?_
      exact ⟨⟨_, rfl⟩, G0r1, Ag3r1, cg3r1, G4r1, Ag7r1, cg7r1, N9r1, bl, sz, b_B1, b_B2, n_N9r1, g_0, a_3, g_4, a_7, cl_10_9, cl_8_3, cl_10_3, cl_8_7, cl_10_7, (so s_10), (fun _ => Sv.self (by rw [zq]; decide) _), (so s_12), (so s_13), (so s_14), (so s_15), (so s_16), (so s_17), (so s_18), (so s_9)⟩
    | 2, _ =>
      obtain rfl := Option.some.inj (show some _ = some o from ho); clear ho
      have v11 := s_11 (dp hdep 1)
      refine dj_val (i := 2) (v := .slice A1 rs.length c1) rfl (.inl rfl) (ev_cell (v := .slice A1 rs.length c1) v11.eval ((b_B1.cell 0).trans rfl) Try.underlying22 rfl _ rfl) ?_
      exact ⟨⟨_, rfl⟩, G0r1, Ag3r1, cg3r1, G4r1, Ag7r1, cg7r1, N9r1, bl, sz, b_B1, b_B2, n_N9r1, g_0, a_3, g_4, a_7, cl_10_9, cl_8_3, cl_10_3, cl_8_7, cl_10_7, (so s_10), (so s_11), (fun _ => Sv.self (by rw [zq]; decide) _), (so s_13), (so s_14), (so s_15), (so s_16), (so s_17), (so s_18), (so s_9)⟩
    | 3, _ =>
      obtain rfl := Option.some.inj (show some _ = some o from ho); clear ho
      have v10 := s_10 (dp hdep 0)
      have v12 := s_12 (dp hdep 2)
      obtain ⟨hnn, hnb⟩ := g_0 (dp hdep 0) hL
      have hnl := hnb.lt
      obtain ⟨i0, hi1, hz0, hz1, hz2⟩ := info_parts (show (Try.prog.info? 3).map (fun i => (i.zero, i.size, i.bytes)) = some (some (.int .i64 0), 1, 8) by kernel_rfl)
      have ho := Own.bx0 (va := iva) (size := 1) hnb
      obtain ⟨Ag3r1, cg3r1, wq2, hrun, hown, hg, -⟩ := run_append_ownG (P := Try.prog) wc G0r1 22 22 3 i0 (.int .i64 0) 1 8 Try.underlying22 hi1 hz0 hz1 hz2 rfl (by decide) _ 0 (flat iva []) ho _ A1 rs.length c1 (flat iva rs) (hs.r.below bl).2.2 (flat_one iva_one _) (by unfold maxLen; omega) (by omega) (by omega)
      simp only [Nat.zero_add] at hrun hown
      replace hown : Own wq2 w2.heap.size 3 1 (.slice Ag3r1 rs.length cg3r1) rs.length (flat iva rs) := Own.mono hown hnn
      have e1 := v10.eval
      have e2 := v12.eval
      refine dj_val (i := 3) (v := .slice Ag3r1 rs.length cg3r1) (w' := wq2) rfl (.inl rfl) (by simp only [execOp, resolve, invoke, builtin, Sem.run_bind, Sem.run_pure, Result.andThen_ok, List.map_toArray, List.map_cons, List.map_nil, e1, e2, hrun]) ?_
      exact ⟨⟨_, rfl⟩, G0r1, Ag3r1, cg3r1, G4r1, Ag7r1, cg7r1, N9r1, (Below.gO bl hg ho bl.size (by omega)), (Nat.le_trans sz hg.size), (b_B1.gOT hg ho (by decide)), (b_B2.gOT hg ho (by decide)), (fun h => ⟨(n_N9r1 h).1, by
          have e0 : L 10 = false := by
            cases hc : L 10
            · rfl
            · exact absurd (cl_10_3 hc) (by rw [hL]; decide)
          have h0 := (n_N9r1 h).2.gOT hg ho (by decide)
          rw [e0] at h0
          show Bx _ _ _ (bif L 10 then _ else _)
          rw [e0]
          exact h0⟩), (fun _ h2 => by cases h2), (fun _ => hown), (fun h h2 => ⟨(g_4 h h2).1, (g_4 h h2).2.gOT hg ho (by decide)⟩), (fun h => Own.gOT (a_7 h) hg ho (by decide)), cl_10_9, (fun _ => rfl), (fun _ => rfl), cl_8_7, cl_10_7, (so s_10), (so s_11), (so s_12), (fun _ => Sv.self (by rw [zq]; decide) _), (so s_14), (so s_15), (so s_16), (so s_17), (fun h => absurd (cl_8_3 h) (by rw [hL]; decide)), (so s_9)⟩
    | 4, _ =>
      obtain rfl := Option.some.inj (show some _ = some o from ho); clear ho
      refine dj_val (i := 4) rfl (.inl rfl) (w' := wc.alloc (.cells #[] 4)) (v := .slice (some ⟨wc.heap.size, 0, none⟩) 0 0) (ev_bs0 Try.underlying23 (by kernel_rfl) _ rfl) ?_
      have hx := Bx.new wc 4 #[]
      have hg := g0 (al wc (.cells #[] 4))
      exact ⟨⟨_, rfl⟩, G0r1, Ag3r1, cg3r1, wc.heap.size, Ag7r1, cg7r1, N9r1, (Below.gN bl hg bl.size), (Nat.le_trans sz hg.size), (b_B1.gN hg), (b_B2.gN hg), (fun h => ⟨(n_N9r1 h).1, (n_N9r1 h).2.gN hg⟩), (fun h h2 => ⟨(g_0 h h2).1, (g_0 h h2).2.gN hg⟩), (fun h => Own.gN (a_3 h) hg), (fun _ _ => ⟨sz, hx⟩), (fun h => Own.gN (a_7 h) hg), cl_10_9, cl_8_3, cl_10_3, cl_8_7, cl_10_7, (so s_10), (so s_11), (so s_12), (so s_13), (fun _ => Sv.self (by rw [zq]; decide) _), (so s_15), (so s_16), (so s_17), (so s_18), (so s_9)⟩
    | 5, _ =>
      obtain rfl := Option.some.inj (show some _ = some o from ho); clear ho
      have v4 := hF.sv (s := 4) (by kernel_rfl) (hA2.get (i := 4) (v := .pointer (some ⟨B1, 0, none⟩)))
      refine dj_val (i := 5) (v := .pointer (some ⟨B1, 1, none⟩)) rfl (.inl rfl) (fb_Slots_1 v4.eval _ rfl) ?_
      exact ⟨⟨_, rfl⟩, G0r1, Ag3r1, cg3r1, G4r1, Ag7r1, cg7r1, N9r1, bl, sz, b_B1, b_B2, n_N9r1, g_0, a_3, g_4, a_7, cl_10_9, cl_8_3, cl_10_3, cl_8_7, cl_10_7, (so s_10), (so s_11), (so s_12), (so s_13), (so s_14), (fun _ => Sv.self (by rw [zq]; decide) _), (so s_16), (so s_17), (so s_18), (so s_9)⟩
    | 6, _ =>
      obtain rfl := Option.some.inj (show some _ = some o from ho); clear ho
      have v15 := s_15 (dp hdep 5)
      refine dj_val (i := 6) (v := .slice A2 bs.length c2) rfl (.inl rfl) (ev_cell (v := .slice A2 bs.length c2) v15.eval ((b_B1.cell 1).trans rfl) Try.underlying23 rfl _ rfl) ?_
      exact ⟨⟨_, rfl⟩, G0r1, Ag3r1, cg3r1, G4r1, Ag7r1, cg7r1, N9r1, bl, sz, b_B1, b_B2, n_N9r1, g_0, a_3, g_4, a_7, cl_10_9, cl_8_3, cl_10_3, cl_8_7, cl_10_7, (so s_10), (so s_11), (so s_12), (so s_13), (so s_14), (so s_15), (fun _ => Sv.self (by rw [zq]; decide) _), (so s_17), (so s_18), (so s_9)⟩
    | 7, _ =>
      obtain rfl := Option.some.inj (show some _ = some o from ho); clear ho
      have v14 := s_14 (dp hdep 4)
      have v16 := s_16 (dp hdep 6)
      obtain ⟨hnn, hnb⟩ := g_4 (dp hdep 4) hL
      have hnl := hnb.lt
      obtain ⟨i0, hi1, hz0, hz1, hz2⟩ := info_parts (show (Try.prog.info? 4).map (fun i => (i.zero, i.size, i.bytes)) = some (some (.bool false), 1, 1) by kernel_rfl)
      have ho := Own.bx0 (va := bva) (size := 1) hnb
      obtain ⟨Ag7r1, cg7r1, wq2, hrun, hown, hg, -⟩ := run_append_ownG (P := Try.prog) wc G4r1 23 23 4 i0 (.bool false) 1 1 Try.underlying23 hi1 hz0 hz1 hz2 rfl (by decide) _ 0 (flat bva []) ho _ A2 bs.length c2 (flat bva bs) (hs.b.below bl).2.2 (flat_one bva_one _) (by unfold maxLen; omega) (by omega) (by omega)
      simp only [Nat.zero_add] at hrun hown
      replace hown : Own wq2 w2.heap.size 4 1 (.slice Ag7r1 bs.length cg7r1) bs.length (flat bva bs) := Own.mono hown hnn
      have e1 := v14.eval
      have e2 := v16.eval
      refine dj_val (i := 7) (v := .slice Ag7r1 bs.length cg7r1) (w' := wq2) rfl (.inl rfl) (by simp only [execOp, resolve, invoke, builtin, Sem.run_bind, Sem.run_pure, Result.andThen_ok, List.map_toArray, List.map_cons, List.map_nil, e1, e2, hrun]) ?_
      exact ⟨⟨_, rfl⟩, G0r1, Ag3r1, cg3r1, G4r1, Ag7r1, cg7r1, N9r1, (Below.gO bl hg ho bl.size (by omega)), (Nat.le_trans sz hg.size), (b_B1.gOT hg ho (by decide)), (b_B2.gOT hg ho (by decide)), (fun h => ⟨(n_N9r1 h).1, by
          have e0 : L 10 = false := by
            cases hc : L 10
            · rfl
            · exact absurd (cl_10_7 hc) (by rw [hL]; decide)
          have h0 := (n_N9r1 h).2.gOT hg ho (by decide)
          rw [e0] at h0
          show Bx _ _ _ (bif L 10 then _ else _)
          rw [e0]
          exact h0⟩), (fun h h2 => ⟨(g_0 h h2).1, (g_0 h h2).2.gOT hg ho (by decide)⟩), (fun h => Own.gOT (a_3 h) hg ho (by decide)), (fun _ h2 => by cases h2), (fun _ => hown), cl_10_9, cl_8_3, cl_10_3, (fun _ => rfl), (fun _ => rfl), (so s_10), (so s_11), (so s_12), (so s_13), (so s_14), (so s_15), (so s_16), (fun _ => Sv.self (by rw [zq]; decide) _), (fun h => absurd (cl_8_7 h) (by rw [hL]; decide)), (so s_9)⟩
    | 8, _ =>
      obtain rfl := Option.some.inj (show some _ = some o from ho); clear ho
      have v13 := s_13 (dp hdep 3)
      have v17 := s_17 (dp hdep 7)
      refine dj_val (i := 8) (v := .agg #[.slice Ag3r1 rs.length cg3r1, .slice Ag7r1 bs.length cg7r1]) rfl (.inl rfl) (bd_Slots_0_1 v13.eval v17.eval _ rfl) ?_
      exact ⟨⟨_, rfl⟩, G0r1, Ag3r1, cg3r1, G4r1, Ag7r1, cg7r1, N9r1, bl, sz, b_B1, b_B2, n_N9r1, g_0, a_3, g_4, a_7, cl_10_9, (fun _ => dp hdep 3), cl_10_3, (fun _ => dp hdep 7), cl_10_7, (so s_10), (so s_11), (so s_12), (so s_13), (so s_14), (so s_15), (so s_16), (so s_17), (fun _ => Sv.self (by rw [zq]; decide) _), (so s_9)⟩
    | 9, _ =>
      obtain rfl := Option.some.inj (show some _ = some o from ho); clear ho
      refine dj_val (i := 9) rfl (.inl rfl) (w' := wc.alloc (.cells (#[.slice none 0 0, .slice none 0 0]) 25)) (v := .pointer (some ⟨wc.heap.size, 0, none⟩)) (ev_alloc (z := .agg (#[.slice none 0 0, .slice none 0 0])) (by kernel_rfl) (by kernel_rfl) _ rfl) ?_
      have hx := Bx.new wc 25 (#[.slice none 0 0, .slice none 0 0])
      have hg := g0 (al wc (.cells (#[.slice none 0 0, .slice none 0 0]) 25))
      have e0 : L 10 = false := by
        cases hc : L 10
        · rfl
        · exact absurd (cl_10_9 hc) (by rw [hL]; decide)
      replace hx : Bx (wc.alloc (.cells (#[.slice none 0 0, .slice none 0 0]) 25)) wc.heap.size 25 (bif L 10 then (#[.slice Ag3r1 rs.length cg3r1, .slice Ag7r1 bs.length cg7r1]) else (#[.slice none 0 0, .slice none 0 0])) := by rw [e0]; exact hx
      exact ⟨⟨_, rfl⟩, G0r1, Ag3r1, cg3r1, G4r1, Ag7r1, cg7r1, wc.heap.size, (Below.gN bl hg bl.size), (Nat.le_trans sz hg.size), (b_B1.gN hg), (b_B2.gN hg), (fun _ => ⟨sz, hx⟩), (fun h h2 => ⟨(g_0 h h2).1, (g_0 h h2).2.gN hg⟩), (fun h => Own.gN (a_3 h) hg), (fun h h2 => ⟨(g_4 h h2).1, (g_4 h h2).2.gN hg⟩), (fun h => Own.gN (a_7 h) hg), (fun _ => rfl), cl_8_3, cl_10_3, cl_8_7, cl_10_7, (so s_10), (so s_11), (so s_12), (so s_13), (so s_14), (so s_15), (so s_16), (so s_17), (so s_18), (fun _ => Sv.self (by rw [zq]; decide) _)⟩
    | 10, _ =>
      obtain rfl := Option.some.inj (show some _ = some o from ho); clear ho
      have v9 := s_9 (dp hdep 9)
      have v18 := s_18 (dp hdep 8)
      have xN9r1 := (n_N9r1 (dp hdep 9)).2
      rw [hL] at xN9r1
      refine dj_skip (i := 10) rfl rfl (.inl rfl) (w' := wc.setRow N9r1 (#[.slice Ag3r1 rs.length cg3r1, .slice Ag7r1 bs.length cg7r1])) (ev_srow v9.eval v18.eval xN9r1 (n := 2) (by kernel_rfl) rfl rfl (by simp [Value.oneCell']) _ rfl) ?_
      have hg := grw xN9r1 (#[.slice Ag3r1 rs.length cg3r1, .slice Ag7r1 bs.length cg7r1])
      have hx := xN9r1.row (#[.slice Ag3r1 rs.length cg3r1, .slice Ag7r1 bs.length cg7r1])
      exact ⟨⟨undef, rfl⟩, G0r1, Ag3r1, cg3r1, G4r1, Ag7r1, cg7r1, N9r1, (Below.gB bl hg bl.size (by have := (n_N9r1 (dp hdep 9)).1; omega)), (Nat.le_trans sz hg.size), (b_B1.gB hg (by have := (n_N9r1 (dp hdep 9)).1; omega)), (b_B2.gB hg (by have := (n_N9r1 (dp hdep 9)).1; omega)), (fun h => ⟨(n_N9r1 h).1, hx⟩), (fun h h2 => ⟨(g_0 h h2).1, (g_0 h h2).2.gBT hg xN9r1 (by decide)⟩), (fun h => Own.gBT (a_3 h) hg xN9r1 (by decide)), (fun h h2 => ⟨(g_4 h h2).1, (g_4 h h2).2.gBT hg xN9r1 (by decide)⟩), (fun h => Own.gBT (a_7 h) hg xN9r1 (by decide)), (fun _ => dp hdep 9), cl_8_3, (fun _ => cl_8_3 (dp hdep 8)), cl_8_7, (fun _ => cl_8_7 (dp hdep 8)), s_10, s_11, s_12, s_13, s_14, s_15, s_16, s_17, s_18, s_9⟩
    | k + 11, h => exact absurd h (by omega)
  · intro L hall ac6 wc6 hF hJ
    obtain ⟨G0r1, Ag3r1, cg3r1, G4r1, Ag7r1, cg7r1, N9r1, bl, sz, b_B1, b_B2, n_N9r1, g_0, a_3, g_4, a_7, cl_10_9, cl_8_3, cl_10_3, cl_8_7, cl_10_7, s_10, s_11, s_12, s_13, s_14, s_15, s_16, s_17, s_18, s_9⟩ := hJ
    have hA6 : Ag ac6 30 [(1, .int .i64 (k : Int)), (2, .int .i64 r), (3, .bool b), (8, .pointer (some ⟨B2, 0, none⟩)), (9, .pointer (some ⟨N9r1, 0, none⟩))] := ((((((Ag.nil (hF.1.trans hA2.1) (hF.2.1.trans hA2.2.1)).cons (s_9 (hall 9 (by decide)))).cons (hF.sv (s := 8) (by kernel_rfl) (hA2.get (i := 8) (v := .pointer (some ⟨B2, 0, none⟩))))).cons (hF.sv (s := 3) (by kernel_rfl) (hA2.get (i := 3) (v := .bool b)))).cons (hF.sv (s := 2) (by kernel_rfl) (hA2.get (i := 2) (v := .int .i64 r)))).cons (hF.sv (s := 1) (by kernel_rfl) (hA2.get (i := 1) (v := .int .i64 (k : Int)))))
    have bl6 := bl
    have sz6 := sz
    have b6_B1 := b_B1
    have b6_B2 := b_B2
    have n6_N9r1 := (n_N9r1 (hall 9 (by decide))).1
    have b6_N9r1 : Bx wc6 N9r1 25 (#[.slice Ag3r1 rs.length cg3r1, .slice Ag7r1 bs.length cg7r1]) := by
      have h := (n_N9r1 (hall 9 (by decide))).2
      rw [hall 10 (by decide)] at h
      exact h
    have l6_N9r1 := b6_N9r1.lt
    have a6_3 := a_3 (hall 3 (by decide))
    have hha6_3 := Own.hi a6_3
    have a6_7 := a_7 (hall 7 (by decide))
    have hha6_7 := Own.hi a6_7
    clear hF bl sz b_B1 b_B2 n_N9r1 g_0 a_3 g_4 a_7 cl_10_9 cl_8_3 cl_10_3 cl_8_7 cl_10_7 s_10 s_11 s_12 s_13 s_14 s_15 s_16 s_17 s_18 s_9 hall hA2
    refine then_n ?_
    refine wp_seq ?_
    refine wp_region_lit ?_
    refine sx_val (v := .pointer (some ⟨N9r1, 0, none⟩)) hA6 rfl (fb_Slots_0 (hA6.ev (i := 9) (v := .pointer (some ⟨N9r1, 0, none⟩))) _ rfl) ?_
    intro a7 hA7; clear hA6
    refine sx_val (v := .slice Ag3r1 rs.length cg3r1) hA7 rfl (ev_cell (v := .slice Ag3r1 rs.length cg3r1) (hA7.ev (i := 19) (v := .pointer (some ⟨N9r1, 0, none⟩))) ((b6_N9r1.cell 0).trans rfl) Try.underlying22 rfl _ rfl) ?_
    intro a8 hA8; clear hA7
    refine sx_val hA8 rfl (ev_move (hA8.ev (i := 1) (v := .int .i64 (k : Int))) _ rfl) ?_
    intro a9 hA9; clear hA8
    refine sx_val hA9 rfl (ev_move (hA9.ev (i := 2) (v := .int .i64 r)) _ rfl) ?_
    intro a10 hA10; clear hA9
    obtain ⟨gx11, ox11, hxe11, -, -, -⟩ := Own.cells a6_3 (by omega)
    subst hxe11
    refine sx_val (v := .pointer (some ((⟨gx11, ox11, none⟩ : Addr).add (k * 1)))) hA10 rfl (ev_idx (k := k) (hA10.ev (i := 20) (v := .slice (some ⟨gx11, ox11, none⟩) rs.length cg3r1)) rfl (hA10.ev (i := 21) (v := .int .i64 (k : Int))) rfl h1 Try.underlying22 (by kernel_rfl) _ rfl) ?_
    intro a12 hA12; clear hA10
    obtain ⟨w13, hr13, ho13, hg13⟩ := run_store_v (P := Try.prog) a6_3 (fun _ => rfl) (fun _ => rfl) rfl (k := k) h1 r (by kernel_rfl)
    have e1 := (hA12.ev (i := 23) (v := .pointer (some ((⟨gx11, ox11, none⟩ : Addr).add (k * 1)))))
    rw [mk_add] at e1
    have e2 := (hA12.ev (i := 22) (v := .int .i64 r))
    refine sx_skip (w' := w13) hA12 rfl (.inl rfl) (by simp only [execOp, e1, e2, Sem.run_bind, hr13, Result.andThen_ok, Sem.run_pure]) ?_
    clear e1 e2 hr13
    have hs13 := hg13.size
    replace hg13 : World.grownBy _ _ (Value.ownBlock (.slice (some ⟨gx11, ox11, none⟩) rs.length cg3r1)) := hg13
    refine sx_nil ?_
    refine then_n ?_
    refine wp_seq ?_
    refine wp_region_lit ?_
    refine sx_val (v := .pointer (some ⟨N9r1, 1, none⟩)) hA12 rfl (fb_Slots_1 (hA12.ev (i := 9) (v := .pointer (some ⟨N9r1, 0, none⟩))) _ rfl) ?_
    intro a14 hA14; clear hA12
    have b6_N9r1_15 := b6_N9r1.gOT hg13 a6_3 (by decide)
    refine sx_val (v := .slice Ag7r1 bs.length cg7r1) hA14 rfl (ev_cell (v := .slice Ag7r1 bs.length cg7r1) (hA14.ev (i := 24) (v := .pointer (some ⟨N9r1, 1, none⟩))) ((b6_N9r1_15.cell 1).trans rfl) Try.underlying23 rfl _ rfl) ?_
    intro a16 hA16; clear hA14
    refine sx_val hA16 rfl (ev_move (hA16.ev (i := 1) (v := .int .i64 (k : Int))) _ rfl) ?_
    intro a17 hA17; clear hA16
    refine sx_val hA17 rfl (ev_move (hA17.ev (i := 3) (v := .bool b)) _ rfl) ?_
    intro a18 hA18; clear hA17
    have a6_19 := Own.gOT a6_7 hg13 a6_3 (by decide)
    obtain ⟨gx20, ox20, hxe20, -, -, -⟩ := Own.cells a6_19 (by omega)
    subst hxe20
    refine sx_val (v := .pointer (some ((⟨gx20, ox20, none⟩ : Addr).add (k * 1)))) hA18 rfl (ev_idx (k := k) (hA18.ev (i := 25) (v := .slice (some ⟨gx20, ox20, none⟩) bs.length cg7r1)) rfl (hA18.ev (i := 26) (v := .int .i64 (k : Int))) rfl h2 Try.underlying23 (by kernel_rfl) _ rfl) ?_
    intro a21 hA21; clear hA18
    obtain ⟨w22, hr22, ho22, hg22⟩ := run_store_v (P := Try.prog) a6_19 (fun _ => rfl) (fun _ => rfl) rfl (k := k) h2 b (by kernel_rfl)
    have e1 := (hA21.ev (i := 28) (v := .pointer (some ((⟨gx20, ox20, none⟩ : Addr).add (k * 1)))))
    rw [mk_add] at e1
    have e2 := (hA21.ev (i := 27) (v := .bool b))
    refine sx_skip (w' := w22) hA21 rfl (.inl rfl) (by simp only [execOp, e1, e2, Sem.run_bind, hr22, Result.andThen_ok, Sem.run_pure]) ?_
    clear e1 e2 hr22
    have hs22 := hg22.size
    replace hg22 : World.grownBy _ _ (Value.ownBlock (.slice (some ⟨gx20, ox20, none⟩) bs.length cg7r1)) := hg22
    refine sx_nil ?_
    refine then_n ?_
    refine wp_seq ?_
    refine wp_region_lit ?_
    have b6_N9r1_23 := b6_N9r1_15.gOT hg22 a6_19 (by decide)
    refine sx_val (v := .agg #[.slice (some ⟨gx11, ox11, none⟩) rs.length cg3r1, .slice (some ⟨gx20, ox20, none⟩) bs.length cg7r1]) hA21 rfl (ev_row (hA21.ev (i := 9) (v := .pointer (some ⟨N9r1, 0, none⟩))) b6_N9r1_23 Try.underlying25 rfl (n := 2) (by kernel_rfl) rfl _ rfl) ?_
    intro a24 hA24; clear hA21
    have b6_B2_26 := b6_B2.gOT hg13 a6_3 (by decide)
    have b6_B2_27 := b6_B2_26.gOT hg22 a6_19 (by decide)
    refine sx_store hA24 rfl (.inl rfl) rfl (hA24.ev (i := 8) (v := .pointer (some ⟨B2, 0, none⟩))) (hA24.ev (i := 29) (v := .agg #[.slice (some ⟨gx11, ox11, none⟩) rs.length cg3r1, .slice (some ⟨gx20, ox20, none⟩) bs.length cg7r1])) b6_B2_27 (by kernel_rfl) rfl (by simp [Value.oneCell']) ?_
    intro w25 hx25 hg25
    have hs25 := hg25.size
    refine sx_nil ?_
    refine then_n ?_
    refine wp_ret ?_
    refine bodyPost_ret (rs_c  Try.results41 hA24 (by kernel_rfl) hx25 Try.underlying25 rfl (by kernel_rfl)) hA24.2.1 ?_
    have ho13_28 := Own.gOT ho13 hg22 a6_19 (by decide)
    have ho13_29 := Own.gBT ho13_28 hg25 b6_B2_27 (by decide)
    have ho22_30 := Own.gBT ho22 hg25 b6_B2_27 (by decide)
    have bl6_31 := Below.gO bl6 hg13 a6_3 bl6.size (by omega)
    have bl6_32 := Below.gO bl6_31 hg22 a6_19 bl6_31.size (by omega)
    have bl6_33 := Below.gB bl6_32 hg25 bl6_32.size (by omega)
    refine ⟨(some ⟨gx11, ox11, none⟩), cg3r1, (some ⟨gx20, ox20, none⟩), cg7r1, ?_, ?_, ?_, bl6_33⟩
    · simp only [List.length_set]; rfl
    · simp only [List.length_set]; exact Own.mono ho13_29 (by omega)
    · simp only [List.length_set]; exact Own.mono ho22_30 (by omega)

set_option maxHeartbeats 4000000 in
theorem sRef_bad (A1 : Option Addr) (c1 : Nat) (A2 : Option Addr) (c2 : Nat) (rs : List Int) (bs : List Bool) (k : Int) (w : World) (hs : GS w A1 c1 A2 c2 rs bs) (hl : rs.length ≤ 900000) (hb : bs.length ≤ 900000) (ha : ask ⟨rs, bs⟩ k ≠ 0) : Calls Try.prog 12 #[.agg #[.slice A1 rs.length c1, .slice A2 bs.length c2], .int .i64 k] w (RSl w (rff ⟨rs, bs⟩ k).1 fun v => .tuple #[v, .int .i64 (rff ⟨rs, bs⟩ k).2]) := by
  have hbel0 := below0 w
  refine sx_enter (N := 42) [(0, .agg #[.slice A1 rs.length c1, .slice A2 bs.length c2]), (1, .int .i64 k)] Try.func12 rfl Try.ntmps12 (by simp) (fun a z d s => (((Ag.nil z d).cons (s 1 _ rfl)).cons (s 0 _ rfl))) ?_
  intro a0 hA0
  refine wp_seq ?_
  refine wp_region_lit ?_
  refine sx_new (cs := #[.slice A1 rs.length c1, .slice A2 bs.length c2]) (t := 25) hA0 rfl (by decide) (.inl rfl) (ev_box (hA0.ev (i := 0) (v := .agg #[.slice A1 rs.length c1, .slice A2 bs.length c2])) rfl _ rfl) ?_
  intro B1 w1 a1 hB1 hx1 hg1 hA1
  clear hA0
  have hs1 := hg1.size
  have hl1 := hx1.lt
  refine sx_new (cs := #[.slice none 0 0, .slice none 0 0]) (t := 25) hA1 rfl (by decide) (.inl rfl) (ev_alloc (z := .agg (#[.slice none 0 0, .slice none 0 0])) (by kernel_rfl) (by kernel_rfl) _ rfl) ?_
  intro B2 w2 a2 hB2 hx2 hg2 hA2
  clear hA1
  have hs2 := hg2.size
  have hl2 := hx2.lt
  refine sx_val hA2 rfl (ev_assign (ec _ (.int .i64 0)) _ rfl) ?_
  intro a3 hA3; clear hA2
  refine sx_nil ?_
  refine then_n ?_
  refine wp_seq ?_
  refine wp_region_lit ?_
  have hx1_4 := hx1.gN hg2
  refine sx_val (v := .agg #[.slice A1 rs.length c1, .slice A2 bs.length c2]) hA3 rfl (ev_row (hA3.ev (i := 2) (v := .pointer (some ⟨B1, 0, none⟩))) hx1_4 Try.underlying25 rfl (n := 2) (by kernel_rfl) rfl _ rfl) ?_
  intro a5 hA5; clear hA3
  refine sx_val hA5 rfl (ev_move (hA5.ev (i := 1) (v := .int .i64 k)) _ rfl) ?_
  intro a6 hA6; clear hA5
  have hbel0_8 := Below.gN hbel0 hg1 hbel0.size
  have hbel0_9 := Below.gN hbel0_8 hg2 hbel0_8.size
  refine sx_call (f := 39) (args := #[.agg #[.slice A1 rs.length c1, .slice A2 bs.length c2], .int .i64 k]) hA6 rfl (by decide) (.inl rfl) (ev_fn rfl (mp2 (hA6.ev (i := 7) (v := .agg #[.slice A1 rs.length c1, .slice A2 bs.length c2])) (hA6.ev (i := 8) (v := .int .i64 k))) (by kernel_rfl) _ rfl) (asked_any A1 c1 A2 c2 rs bs k _ ⟨(hs.r.below hbel0_9), (hs.b.below hbel0_9)⟩ (by omega) (by omega)) ?_
  intro e7 w7 hR7
  obtain ⟨rfl, hb7⟩ := hR7
  refine ⟨_, rfl, ?_⟩
  intro a7 hA7
  clear hA6
  have hg7 := g0 hb7
  have hs7 := hg7.size
  clear hb7
  refine sx_val hA7 rfl (ev_assign (hA7.ev (i := 9) (v := .int .i64 (ask ⟨rs, bs⟩ k))) _ rfl) ?_
  intro a10 hA10; clear hA7
  refine sx_nil ?_
  refine then_n ?_
  refine wp_seq ?_
  refine wp_block ?_
  refine wp_seq ?_
  refine wp_region_lit ?_
  refine sx_val hA10 rfl (ev_move (hA10.ev (i := 6) (v := .int .i64 (ask ⟨rs, bs⟩ k))) _ rfl) ?_
  intro a11 hA11; clear hA10
  refine sx_val (v := .bool true) hA11 rfl (ev_neqB (k := .i64) (m := (ask ⟨rs, bs⟩ k)) (n := 0) (hA11.ev (i := 11)) (ec _ (.int .i64 0)) (by simpa using (decide_eq_false ha)) _ rfl) ?_
  intro a12 hA12; clear hA11
  refine sx_val hA12 rfl (ev_assign (hA12.ev (i := 12) (v := .bool true)) _ rfl) ?_
  intro a13 hA13; clear hA12
  refine sx_nil ?_
  refine then_n ?_
  refine wp_cond_true (hA13.ev (i := 10) (v := .bool true)) ?_
  refine wp_seq ?_
  refine wp_region_lit ?_
  refine sx_val (v := .agg #[.slice none 0 0, .slice none 0 0]) hA13 rfl (bd0_Slots _ rfl) ?_
  intro a14 hA14; clear hA13
  refine sx_val hA14 rfl (ev_move (hA14.ev (i := 6) (v := .int .i64 (ask ⟨rs, bs⟩ k))) _ rfl) ?_
  intro a15 hA15; clear hA14
  have hx2_17 := hx2.gN hg7
  refine sx_store hA15 rfl (.inl rfl) rfl (hA15.ev (i := 4) (v := .pointer (some ⟨B2, 0, none⟩))) (hA15.ev (i := 13) (v := .agg #[.slice none 0 0, .slice none 0 0])) hx2_17 (by kernel_rfl) rfl (by simp [Value.oneCell']) ?_
  intro w16 hx16 hg16
  have hs16 := hg16.size
  refine sx_val hA15 rfl (ev_assign (hA15.ev (i := 14) (v := .int .i64 (ask ⟨rs, bs⟩ k))) _ rfl) ?_
  intro a18 hA18; clear hA15
  refine sx_nil ?_
  refine then_n ?_
  refine wp_ret ?_
  refine blk_r ?_
  refine then_r ?_
  refine bodyPost_ret (rs_ct (v := .int .i64 (ask ⟨rs, bs⟩ k)) Try.results12 hA18 (by kernel_rfl) (by kernel_rfl) hx16 Try.underlying25 rfl (by kernel_rfl)) hA18.2.1 ?_
  rw [show rff ⟨rs, bs⟩ k = (Ss.nil, ask ⟨rs, bs⟩ k) from if_pos ha]
  have hbel0_19 := Below.gN hbel0_9 hg7 hbel0_9.size
  have hbel0_20 := Below.gB hbel0_19 hg16 hbel0_19.size (by omega)
  exact RSl.nil rfl hbel0_20

set_option maxHeartbeats 4000000 in
theorem sRef_ok1 (A1 : Option Addr) (c1 : Nat) (A2 : Option Addr) (c2 : Nat) (rs : List Int) (bs : List Bool) (k : Nat) (w : World) (hs : GS w A1 c1 A2 c2 rs bs) (ha : ask ⟨rs, bs⟩ (k : Int) = 0) : Calls Try.prog 12 #[.agg #[.slice A1 rs.length c1, .slice A2 bs.length c2], .int .i64 (k : Int)] w (RSl w (rff ⟨rs, bs⟩ (k : Int)).1 fun v => .tuple #[v, .int .i64 (rff ⟨rs, bs⟩ (k : Int)).2]) := by
  have hq := ask_zero ha
  have hkr : k < rs.length := by have := hq.2.2; simp only at this; omega
  have hok := (chs_ok hq.1).2
  have hrl : rs.length ≤ 256 := hok.hi
  have hr1 : 1 ≤ rs.length := hok.lo
  have hbl : bs.length = rs.length := hok.len
  obtain ⟨x, hx⟩ : ∃ x, rs[k]? = some x := ⟨_, List.getElem?_eq_getElem hkr⟩
  obtain ⟨y, hy⟩ : ∃ y, bs[k]? = some y := ⟨_, List.getElem?_eq_getElem (by omega)⟩
  have hxv : 0 ≤ x ∧ x ≤ 512 := hok.val k x hx
  have hoy : opm bs k = y := by simp [opm, hy]
  obtain ⟨ad1, hAd1⟩ := GR.adr hs.r iva_sz hx
  obtain ⟨ad2, hAd2⟩ := GR.adr hs.b bva_sz hy
  have hbel0 := below0 w
  refine sx_enter (N := 42) [(0, .agg #[.slice A1 rs.length c1, .slice A2 bs.length c2]), (1, .int .i64 (k : Int))] Try.func12 rfl Try.ntmps12 (by simp) (fun a z d s => (((Ag.nil z d).cons (s 1 _ rfl)).cons (s 0 _ rfl))) ?_
  intro a0 hA0
  refine wp_seq ?_
  refine wp_region_lit ?_
  refine sx_new (cs := #[.slice A1 rs.length c1, .slice A2 bs.length c2]) (t := 25) hA0 rfl (by decide) (.inl rfl) (ev_box (hA0.ev (i := 0) (v := .agg #[.slice A1 rs.length c1, .slice A2 bs.length c2])) rfl _ rfl) ?_
  intro B1 w1 a1 hB1 hx1 hg1 hA1
  clear hA0
  have hs1 := hg1.size
  have hl1 := hx1.lt
  refine sx_new (cs := #[.slice none 0 0, .slice none 0 0]) (t := 25) hA1 rfl (by decide) (.inl rfl) (ev_alloc (z := .agg (#[.slice none 0 0, .slice none 0 0])) (by kernel_rfl) (by kernel_rfl) _ rfl) ?_
  intro B2 w2 a2 hB2 hx2 hg2 hA2
  clear hA1
  have hs2 := hg2.size
  have hl2 := hx2.lt
  refine sx_val hA2 rfl (ev_assign (ec _ (.int .i64 0)) _ rfl) ?_
  intro a3 hA3; clear hA2
  refine sx_nil ?_
  refine then_n ?_
  refine wp_seq ?_
  refine wp_region_lit ?_
  have hx1_4 := hx1.gN hg2
  refine sx_val (v := .agg #[.slice A1 rs.length c1, .slice A2 bs.length c2]) hA3 rfl (ev_row (hA3.ev (i := 2) (v := .pointer (some ⟨B1, 0, none⟩))) hx1_4 Try.underlying25 rfl (n := 2) (by kernel_rfl) rfl _ rfl) ?_
  intro a5 hA5; clear hA3
  refine sx_val hA5 rfl (ev_move (hA5.ev (i := 1) (v := .int .i64 (k : Int))) _ rfl) ?_
  intro a6 hA6; clear hA5
  have hbel0_8 := Below.gN hbel0 hg1 hbel0.size
  have hbel0_9 := Below.gN hbel0_8 hg2 hbel0_8.size
  refine sx_call (f := 39) (args := #[.agg #[.slice A1 rs.length c1, .slice A2 bs.length c2], .int .i64 (k : Int)]) hA6 rfl (by decide) (.inl rfl) (ev_fn rfl (mp2 (hA6.ev (i := 7) (v := .agg #[.slice A1 rs.length c1, .slice A2 bs.length c2])) (hA6.ev (i := 8) (v := .int .i64 (k : Int)))) (by kernel_rfl) _ rfl) (asked_any A1 c1 A2 c2 rs bs (k : Int) _ ⟨(hs.r.below hbel0_9), (hs.b.below hbel0_9)⟩ (by omega) (by omega)) ?_
  intro e7 w7 hR7
  obtain ⟨rfl, hb7⟩ := hR7
  refine ⟨_, rfl, ?_⟩
  intro a7 hA7
  clear hA6
  have hg7 := g0 hb7
  have hs7 := hg7.size
  clear hb7
  refine sx_val hA7 rfl (ev_assign (hA7.ev (i := 9) (v := .int .i64 (ask ⟨rs, bs⟩ (k : Int)))) _ rfl) ?_
  intro a10 hA10; clear hA7
  refine sx_nil ?_
  refine then_n ?_
  refine wp_seq ?_
  refine wp_block ?_
  refine wp_seq ?_
  refine wp_region_lit ?_
  refine sx_val hA10 rfl (ev_move (hA10.ev (i := 6) (v := .int .i64 (ask ⟨rs, bs⟩ (k : Int)))) _ rfl) ?_
  intro a11 hA11; clear hA10
  refine sx_val (v := .bool false) hA11 rfl (ev_neqB (k := .i64) (m := (ask ⟨rs, bs⟩ (k : Int))) (n := 0) (hA11.ev (i := 11)) (ec _ (.int .i64 0)) (by simpa using (decide_eq_true ha)) _ rfl) ?_
  intro a12 hA12; clear hA11
  refine sx_val hA12 rfl (ev_assign (hA12.ev (i := 12) (v := .bool false)) _ rfl) ?_
  intro a13 hA13; clear hA12
  refine sx_nil ?_
  refine then_n ?_
  refine wp_cond_false (hA13.ev (i := 10) (v := .bool false)) ?_
  refine wp_seq ?_
  refine wp_region_lit ?_
  have hx1_14 := hx1_4.gN hg7
  refine sx_val (v := .agg #[.slice A1 rs.length c1, .slice A2 bs.length c2]) hA13 rfl (ev_row (hA13.ev (i := 2) (v := .pointer (some ⟨B1, 0, none⟩))) hx1_14 Try.underlying25 rfl (n := 2) (by kernel_rfl) rfl _ rfl) ?_
  intro a15 hA15; clear hA13
  refine sx_val hA15 rfl (ev_move (hA15.ev (i := 1) (v := .int .i64 (k : Int))) _ rfl) ?_
  intro a16 hA16; clear hA15
  have hbel0_18 := Below.gN hbel0_9 hg7 hbel0_9.size
  refine sx_call (f := 40) (args := #[.agg #[.slice A1 rs.length c1, .slice A2 bs.length c2], .int .i64 (k : Int)]) hA16 rfl (by decide) (.inl rfl) (ev_fn rfl (mp2 (hA16.ev (i := 16) (v := .agg #[.slice A1 rs.length c1, .slice A2 bs.length c2])) (hA16.ev (i := 17) (v := .int .i64 (k : Int)))) (by kernel_rfl) _ rfl) (sfree_any A1 c1 A2 c2 rs bs k _ ⟨(hs.r.below hbel0_18), (hs.b.below hbel0_18)⟩ (by first | omega | (rw [List.length_set] <;> omega)) (by first | omega | (rw [List.length_set] <;> omega))) ?_
  intro e17 w17 hR17
  obtain ⟨rfl, hb17⟩ := hR17
  refine ⟨_, rfl, ?_⟩
  intro a17 hA17
  clear hA16
  have hg17 := g0 hb17
  have hs17 := hg17.size
  clear hb17
  refine sx_val hA17 rfl (ev_assign (hA17.ev (i := 18) (v := .bool (fre ⟨rs, bs⟩ k))) _ rfl) ?_
  intro a19 hA19; clear hA17
  refine sx_nil ?_
  refine then_n ?_
  cases hd20 : (fre ⟨rs, bs⟩ k)
  rotate_left
  · rw [hd20] at hA19
    refine wp_cond_true (hA19.ev (i := 15) (v := .bool true)) ?_
    refine wp_seq ?_
    refine wp_region_lit ?_
    refine sx_val (v := .agg #[.slice none 0 0, .slice none 0 0]) hA19 rfl (bd0_Slots _ rfl) ?_
    intro a43 hA43; clear hA19
    have hx2_45 := hx2.gN hg7
    have hx2_46 := hx2_45.gN hg17
    refine sx_store hA43 rfl (.inl rfl) rfl (hA43.ev (i := 4) (v := .pointer (some ⟨B2, 0, none⟩))) (hA43.ev (i := 19) (v := .agg #[.slice none 0 0, .slice none 0 0])) hx2_46 (by kernel_rfl) rfl (by simp [Value.oneCell']) ?_
    intro w44 hx44 hg44
    have hs44 := hg44.size
    refine sx_val hA43 rfl (ev_assign (ec _ (.int .i64 9)) _ rfl) ?_
    intro a47 hA47; clear hA43
    refine sx_nil ?_
    refine then_n ?_
    refine wp_ret ?_
    refine blk_r ?_
    refine then_r ?_
    refine bodyPost_ret (rs_ct (v := .int .i64 9) Try.results12 hA47 (by kernel_rfl) (by kernel_rfl) hx44 Try.underlying25 rfl (by kernel_rfl)) hA47.2.1 ?_
    rw [rff_ok ha hx (by omega), if_pos hd20]
    have hbel0_48 := Below.gN hbel0_18 hg17 hbel0_18.size
    have hbel0_49 := Below.gB hbel0_48 hg44 hbel0_48.size (by omega)
    exact RSl.nil rfl hbel0_49
  rw [hd20] at hA19
  refine wp_cond_false (hA19.ev (i := 15) (v := .bool false)) ?_
  refine wp_seq ?_
  refine wp_region_lit ?_
  refine sx_val (v := .pointer (some ⟨B1, 0, none⟩)) hA19 rfl (fb_Slots_0 (hA19.ev (i := 2) (v := .pointer (some ⟨B1, 0, none⟩))) _ rfl) ?_
  intro a21 hA21; clear hA19
  have hx1_22 := hx1_14.gN hg17
  refine sx_val (v := .slice A1 rs.length c1) hA21 rfl (ev_cell (v := .slice A1 rs.length c1) (hA21.ev (i := 21) (v := .pointer (some ⟨B1, 0, none⟩))) ((hx1_22.cell 0).trans rfl) Try.underlying22 rfl _ rfl) ?_
  intro a23 hA23; clear hA21
  refine sx_val hA23 rfl (ev_move (hA23.ev (i := 1) (v := .int .i64 (k : Int))) _ rfl) ?_
  intro a24 hA24; clear hA23
  have hbel0_26 := Below.gN hbel0_18 hg17 hbel0_18.size
  obtain ⟨ad25, hAd25⟩ := GR.adr (hs.r.below hbel0_26) iva_sz hx
  refine sx_val (v := .pointer (some (ad25.add (k * 1)))) hA24 rfl (ev_idx (k := k) (hA24.ev (i := 22) (v := .slice A1 rs.length c1)) hAd25 (hA24.ev (i := 23) (v := .int .i64 (k : Int))) rfl (by omega) Try.underlying22 (by kernel_rfl) _ rfl) ?_
  intro a27 hA27; clear hA24
  refine sx_val (v := .int .i64 x) hA27 rfl (ev_cell (hA27.ev (i := 24) (v := .pointer (some (ad25.add (k * 1))))) ((GR.cel (hs.r.below hbel0_26) hAd25 iva_sz hx) 0 _ rfl) Try.underlying3 rfl _ rfl) ?_
  intro a28 hA28; clear hA27
  cases hd29 : decide (x = 512)
  rotate_left
  · have hp29 := of_decide_eq_true hd29
    refine sx_val (v := .bool true) hA28 rfl (ev_eqlB (k := .i64) (m := x) (n := 512) (hA28.ev (i := 25)) (ec _ (.int .i64 512)) hd29 _ rfl) ?_
    intro a35 hA35; clear hA28
    refine sx_val hA35 rfl (ev_assign (hA35.ev (i := 26) (v := .bool true)) _ rfl) ?_
    intro a36 hA36; clear hA35
    refine sx_nil ?_
    refine then_n ?_
    refine wp_cond_true (hA36.ev (i := 20) (v := .bool true)) ?_
    refine wp_seq ?_
    refine wp_region_lit ?_
    refine sx_val (v := .agg #[.slice none 0 0, .slice none 0 0]) hA36 rfl (bd0_Slots _ rfl) ?_
    intro a37 hA37; clear hA36
    have hx2_39 := hx2.gN hg7
    have hx2_40 := hx2_39.gN hg17
    refine sx_store hA37 rfl (.inl rfl) rfl (hA37.ev (i := 4) (v := .pointer (some ⟨B2, 0, none⟩))) (hA37.ev (i := 27) (v := .agg #[.slice none 0 0, .slice none 0 0])) hx2_40 (by kernel_rfl) rfl (by simp [Value.oneCell']) ?_
    intro w38 hx38 hg38
    have hs38 := hg38.size
    refine sx_val hA37 rfl (ev_assign (ec _ (.int .i64 15)) _ rfl) ?_
    intro a41 hA41; clear hA37
    refine sx_nil ?_
    refine then_n ?_
    refine wp_ret ?_
    refine blk_r ?_
    refine then_r ?_
    refine bodyPost_ret (rs_ct (v := .int .i64 15) Try.results12 hA41 (by kernel_rfl) (by kernel_rfl) hx38 Try.underlying25 rfl (by kernel_rfl)) hA41.2.1 ?_
    rw [rff_ok ha hx (by omega), if_neg (by rw [hd20]; decide), if_pos (by omega)]
    have hbel0_42 := Below.gB hbel0_26 hg38 hbel0_26.size (by omega)
    exact RSl.nil rfl hbel0_42
  have hp29 := of_decide_eq_false hd29
  refine sx_val (v := .bool false) hA28 rfl (ev_eqlB (k := .i64) (m := x) (n := 512) (hA28.ev (i := 25)) (ec _ (.int .i64 512)) hd29 _ rfl) ?_
  intro a30 hA30; clear hA28
  refine sx_val hA30 rfl (ev_assign (hA30.ev (i := 26) (v := .bool false)) _ rfl) ?_
  intro a31 hA31; clear hA30
  refine sx_nil ?_
  refine then_n ?_
  refine wp_cond_false (hA31.ev (i := 20) (v := .bool false)) ?_
  refine wp_skip ?_
  refine blk_n ?_
  refine then_n ?_
  refine wp_seq ?_
  have hx2_32 := hx2.gN hg7
  have hx2_33 := hx2_32.gN hg17
  refine region_D (n := 16) (by kernel_rfl) (by kernel_rfl) rfl (fun L ac wc => ∃ Ap13r8 : Option Addr, ∃ cp13r8 : Nat, ∃ Aj13r8 : Option Addr, ∃ cj13r8 : Nat, Below w.heap.size w wc ∧ w17.heap.size ≤ wc.heap.size ∧ Bx wc B1 25 (#[.slice A1 rs.length c1, .slice A2 bs.length c2]) ∧ Bx wc B2 25 (bif L 14 then (#[.slice Ap13r8 (rs.set k (x + 1)).length cp13r8, .slice Aj13r8 (bs.set k y).length cj13r8]) else (#[.slice none 0 0, .slice none 0 0])) ∧ (L 13 = true → Own wc w17.heap.size 3 1 (.slice Ap13r8 (rs.set k (x + 1)).length cp13r8) (rs.set k (x + 1)).length (flat iva (rs.set k (x + 1)))) ∧ (L 13 = true → Own wc w17.heap.size 4 1 (.slice Aj13r8 (bs.set k y).length cj13r8) (bs.set k y).length (flat bva (bs.set k y))) ∧ (L 14 = true → L 13 = true) ∧ (L 0 = true → Sv ac 28 (.agg #[.slice A1 rs.length c1, .slice A2 bs.length c2])) ∧ (L 1 = true → Sv ac 29 (.int .i64 (k : Int))) ∧ (L 2 = true → Sv ac 30 (.pointer (some ⟨B1, 0, none⟩))) ∧ (L 3 = true → Sv ac 31 (.slice A1 rs.length c1)) ∧ (L 4 = true → Sv ac 32 (.int .i64 (k : Int))) ∧ (L 5 = true → Sv ac 33 (.pointer (some (ad1.add (k * 1))))) ∧ (L 6 = true → Sv ac 34 (.int .i64 x)) ∧ (L 7 = true → Sv ac 35 (.int .i64 (x + 1))) ∧ (L 8 = true → Sv ac 36 (.pointer (some ⟨B1, 1, none⟩))) ∧ (L 9 = true → Sv ac 37 (.slice A2 bs.length c2)) ∧ (L 10 = true → Sv ac 38 (.int .i64 (k : Int))) ∧ (L 11 = true → Sv ac 39 (.pointer (some (ad2.add (k * 1))))) ∧ (L 12 = true → Sv ac 40 (.bool y)) ∧ (L 13 = true → Sv ac 41 (.agg #[.slice Ap13r8 (rs.set k (x + 1)).length cp13r8, .slice Aj13r8 (bs.set k y).length cj13r8])) ∧ (L 15 = true → Sv ac 5 (.int .i64 0))) ⟨none, 0, none, 0, (Below.gN hbel0_26 (gdr _) hbel0_26.size), (Nat.le_refl _), (hx1_22.gN (gdr _)), (hx2_33.gN (gdr _)), (fun h => by cases h), (fun h => by cases h), (fun h => by cases h), (fun h => by cases h), (fun h => by cases h), (fun h => by cases h), (fun h => by cases h), (fun h => by cases h), (fun h => by cases h), (fun h => by cases h), (fun h => by cases h), (fun h => by cases h), (fun h => by cases h), (fun h => by cases h), (fun h => by cases h), (fun h => by cases h), (fun h => by cases h), (fun h => by cases h)⟩ ?_ ?_
  · intro iq hiq o ho L hL hdep ac wc hF hJ
    obtain ⟨Ap13r8, cp13r8, Aj13r8, cj13r8, bl, sz, b_B1, b_B2, o_13_0, o_13_1, cl_14_13, s_28, s_29, s_30, s_31, s_32, s_33, s_34, s_35, s_36, s_37, s_38, s_39, s_40, s_41, s_5⟩ := hJ
    have zq := hF.1.trans hA31.1
    match iq, hiq with
    | 0, _ =>
      obtain rfl := Option.some.inj (show some _ = some o from ho); clear ho
      have v2 := hF.sv (s := 2) (by kernel_rfl) (hA31.get (i := 2) (v := .pointer (some ⟨B1, 0, none⟩)))
      refine dj_val (i := 0) (v := .agg #[.slice A1 rs.length c1, .slice A2 bs.length c2]) rfl (.inl rfl) (ev_row v2.eval b_B1 Try.underlying25 rfl (n := 2) (by kernel_rfl) rfl _ rfl) ?_
      exact ⟨⟨_, rfl⟩, Ap13r8, cp13r8, Aj13r8, cj13r8, bl, sz, b_B1, b_B2, o_13_0, o_13_1, cl_14_13, (fun _ => Sv.self (by rw [zq]; decide) _), (so s_29), (so s_30), (so s_31), (so s_32), (so s_33), (so s_34), (so s_35), (so s_36), (so s_37), (so s_38), (so s_39), (so s_40), (so s_41), (so s_5)⟩
    | 1, _ =>
      obtain rfl := Option.some.inj (show some _ = some o from ho); clear ho
      have v1 := hF.sv (s := 1) (by kernel_rfl) (hA31.get (i := 1) (v := .int .i64 (k : Int)))
      refine dj_val (i := 1) (v := .int .i64 (k : Int)) rfl (.inl rfl) (ev_move v1.eval _ rfl) ?_
      exact ⟨⟨_, rfl⟩, Ap13r8, cp13r8, Aj13r8, cj13r8, bl, sz, b_B1, b_B2, o_13_0, o_13_1, cl_14_13, (so s_28), (fun _ => Sv.self (by rw [zq]; decide) _), (so s_30), (so s_31), (so s_32), (so s_33), (so s_34), (so s_35), (so s_36), (so s_37), (so s_38), (so s_39), (so s_40), (so s_41), (so s_5)⟩
    | 2, _ =>
      obtain rfl := Option.some.inj (show some _ = some o from ho); clear ho
      have v2 := hF.sv (s := 2) (by kernel_rfl) (hA31.get (i := 2) (v := .pointer (some ⟨B1, 0, none⟩)))
      refine dj_val (i := 2) (v := .pointer (some ⟨B1, 0, none⟩)) rfl (.inl rfl) (fb_Slots_0 v2.eval _ rfl) ?_
      exact ⟨⟨_, rfl⟩, Ap13r8, cp13r8, Aj13r8, cj13r8, bl, sz, b_B1, b_B2, o_13_0, o_13_1, cl_14_13, (so s_28), (so s_29), (fun _ => Sv.self (by rw [zq]; decide) _), (so s_31), (so s_32), (so s_33), (so s_34), (so s_35), (so s_36), (so s_37), (so s_38), (so s_39), (so s_40), (so s_41), (so s_5)⟩
    | 3, _ =>
      obtain rfl := Option.some.inj (show some _ = some o from ho); clear ho
      have v30 := s_30 (dp hdep 2)
      refine dj_val (i := 3) (v := .slice A1 rs.length c1) rfl (.inl rfl) (ev_cell (v := .slice A1 rs.length c1) v30.eval ((b_B1.cell 0).trans rfl) Try.underlying22 rfl _ rfl) ?_
      exact ⟨⟨_, rfl⟩, Ap13r8, cp13r8, Aj13r8, cj13r8, bl, sz, b_B1, b_B2, o_13_0, o_13_1, cl_14_13, (so s_28), (so s_29), (so s_30), (fun _ => Sv.self (by rw [zq]; decide) _), (so s_32), (so s_33), (so s_34), (so s_35), (so s_36), (so s_37), (so s_38), (so s_39), (so s_40), (so s_41), (so s_5)⟩
    | 4, _ =>
      obtain rfl := Option.some.inj (show some _ = some o from ho); clear ho
      have v1 := hF.sv (s := 1) (by kernel_rfl) (hA31.get (i := 1) (v := .int .i64 (k : Int)))
      refine dj_val (i := 4) (v := .int .i64 (k : Int)) rfl (.inl rfl) (ev_move v1.eval _ rfl) ?_
      exact ⟨⟨_, rfl⟩, Ap13r8, cp13r8, Aj13r8, cj13r8, bl, sz, b_B1, b_B2, o_13_0, o_13_1, cl_14_13, (so s_28), (so s_29), (so s_30), (so s_31), (fun _ => Sv.self (by rw [zq]; decide) _), (so s_33), (so s_34), (so s_35), (so s_36), (so s_37), (so s_38), (so s_39), (so s_40), (so s_41), (so s_5)⟩
    | 5, _ =>
      obtain rfl := Option.some.inj (show some _ = some o from ho); clear ho
      have v31 := s_31 (dp hdep 3)
      have v32 := s_32 (dp hdep 4)
      refine dj_val (i := 5) (v := .pointer (some (ad1.add (k * 1)))) rfl (.inl rfl) (ev_idx (k := k) v31.eval hAd1 v32.eval rfl (by omega) Try.underlying22 (by kernel_rfl) _ rfl) ?_
      exact ⟨⟨_, rfl⟩, Ap13r8, cp13r8, Aj13r8, cj13r8, bl, sz, b_B1, b_B2, o_13_0, o_13_1, cl_14_13, (so s_28), (so s_29), (so s_30), (so s_31), (so s_32), (fun _ => Sv.self (by rw [zq]; decide) _), (so s_34), (so s_35), (so s_36), (so s_37), (so s_38), (so s_39), (so s_40), (so s_41), (so s_5)⟩
    | 6, _ =>
      obtain rfl := Option.some.inj (show some _ = some o from ho); clear ho
      have v33 := s_33 (dp hdep 5)
      refine dj_val (i := 6) (v := .int .i64 x) rfl (.inl rfl) (ev_cell v33.eval ((GR.cel (hs.r.below bl) hAd1 iva_sz hx) 0 _ rfl) Try.underlying3 rfl _ rfl) ?_
      exact ⟨⟨_, rfl⟩, Ap13r8, cp13r8, Aj13r8, cj13r8, bl, sz, b_B1, b_B2, o_13_0, o_13_1, cl_14_13, (so s_28), (so s_29), (so s_30), (so s_31), (so s_32), (so s_33), (fun _ => Sv.self (by rw [zq]; decide) _), (so s_35), (so s_36), (so s_37), (so s_38), (so s_39), (so s_40), (so s_41), (so s_5)⟩
    | 7, _ =>
      obtain rfl := Option.some.inj (show some _ = some o from ho); clear ho
      have v34 := s_34 (dp hdep 6)
      refine dj_val (i := 7) (v := .int .i64 (x + 1)) rfl (.inl rfl) (ev_addR (k := .i64) (m := x) (n := 1) (r := x + 1) v34.eval (ec ac (.int .i64 1)) (wr (by omega) (by omega) (by omega)) _ rfl) ?_
      exact ⟨⟨_, rfl⟩, Ap13r8, cp13r8, Aj13r8, cj13r8, bl, sz, b_B1, b_B2, o_13_0, o_13_1, cl_14_13, (so s_28), (so s_29), (so s_30), (so s_31), (so s_32), (so s_33), (so s_34), (fun _ => Sv.self (by rw [zq]; decide) _), (so s_36), (so s_37), (so s_38), (so s_39), (so s_40), (so s_41), (so s_5)⟩
    | 8, _ =>
      obtain rfl := Option.some.inj (show some _ = some o from ho); clear ho
      have v2 := hF.sv (s := 2) (by kernel_rfl) (hA31.get (i := 2) (v := .pointer (some ⟨B1, 0, none⟩)))
      refine dj_val (i := 8) (v := .pointer (some ⟨B1, 1, none⟩)) rfl (.inl rfl) (fb_Slots_1 v2.eval _ rfl) ?_
      exact ⟨⟨_, rfl⟩, Ap13r8, cp13r8, Aj13r8, cj13r8, bl, sz, b_B1, b_B2, o_13_0, o_13_1, cl_14_13, (so s_28), (so s_29), (so s_30), (so s_31), (so s_32), (so s_33), (so s_34), (so s_35), (fun _ => Sv.self (by rw [zq]; decide) _), (so s_37), (so s_38), (so s_39), (so s_40), (so s_41), (so s_5)⟩
    | 9, _ =>
      obtain rfl := Option.some.inj (show some _ = some o from ho); clear ho
      have v36 := s_36 (dp hdep 8)
      refine dj_val (i := 9) (v := .slice A2 bs.length c2) rfl (.inl rfl) (ev_cell (v := .slice A2 bs.length c2) v36.eval ((b_B1.cell 1).trans rfl) Try.underlying23 rfl _ rfl) ?_
      exact ⟨⟨_, rfl⟩, Ap13r8, cp13r8, Aj13r8, cj13r8, bl, sz, b_B1, b_B2, o_13_0, o_13_1, cl_14_13, (so s_28), (so s_29), (so s_30), (so s_31), (so s_32), (so s_33), (so s_34), (so s_35), (so s_36), (fun _ => Sv.self (by rw [zq]; decide) _), (so s_38), (so s_39), (so s_40), (so s_41), (so s_5)⟩
    | 10, _ =>
      obtain rfl := Option.some.inj (show some _ = some o from ho); clear ho
      have v1 := hF.sv (s := 1) (by kernel_rfl) (hA31.get (i := 1) (v := .int .i64 (k : Int)))
      refine dj_val (i := 10) (v := .int .i64 (k : Int)) rfl (.inl rfl) (ev_move v1.eval _ rfl) ?_
      exact ⟨⟨_, rfl⟩, Ap13r8, cp13r8, Aj13r8, cj13r8, bl, sz, b_B1, b_B2, o_13_0, o_13_1, cl_14_13, (so s_28), (so s_29), (so s_30), (so s_31), (so s_32), (so s_33), (so s_34), (so s_35), (so s_36), (so s_37), (fun _ => Sv.self (by rw [zq]; decide) _), (so s_39), (so s_40), (so s_41), (so s_5)⟩
    | 11, _ =>
      obtain rfl := Option.some.inj (show some _ = some o from ho); clear ho
      have v37 := s_37 (dp hdep 9)
      have v38 := s_38 (dp hdep 10)
      refine dj_val (i := 11) (v := .pointer (some (ad2.add (k * 1)))) rfl (.inl rfl) (ev_idx (k := k) v37.eval hAd2 v38.eval rfl (by omega) Try.underlying23 (by kernel_rfl) _ rfl) ?_
      exact ⟨⟨_, rfl⟩, Ap13r8, cp13r8, Aj13r8, cj13r8, bl, sz, b_B1, b_B2, o_13_0, o_13_1, cl_14_13, (so s_28), (so s_29), (so s_30), (so s_31), (so s_32), (so s_33), (so s_34), (so s_35), (so s_36), (so s_37), (so s_38), (fun _ => Sv.self (by rw [zq]; decide) _), (so s_40), (so s_41), (so s_5)⟩
    | 12, _ =>
      obtain rfl := Option.some.inj (show some _ = some o from ho); clear ho
      have v39 := s_39 (dp hdep 11)
      refine dj_val (i := 12) (v := .bool y) rfl (.inl rfl) (ev_cell v39.eval ((GR.cel (hs.b.below bl) hAd2 bva_sz hy) 0 _ rfl) Try.underlying4 rfl _ rfl) ?_
      exact ⟨⟨_, rfl⟩, Ap13r8, cp13r8, Aj13r8, cj13r8, bl, sz, b_B1, b_B2, o_13_0, o_13_1, cl_14_13, (so s_28), (so s_29), (so s_30), (so s_31), (so s_32), (so s_33), (so s_34), (so s_35), (so s_36), (so s_37), (so s_38), (so s_39), (fun _ => Sv.self (by rw [zq]; decide) _), (so s_41), (so s_5)⟩
    | 13, _ =>
      obtain rfl := Option.some.inj (show some _ = some o from ho); clear ho
      have v28 := s_28 (dp hdep 0)
      have v29 := s_29 (dp hdep 1)
      have v35 := s_35 (dp hdep 7)
      have v40 := s_40 (dp hdep 12)
      refine dj_call (i := 13) (f := 41) (args := #[.agg #[.slice A1 rs.length c1, .slice A2 bs.length c2], .int .i64 (k : Int), .int .i64 (x + 1), .bool y]) rfl (.inl rfl) (ev_fn rfl (mp4 v28.eval v29.eval v35.eval v40.eval) (by kernel_rfl) _ rfl) (with_any A1 c1 A2 c2 rs bs k (x + 1) y _ ⟨(hs.r.below bl), (hs.b.below bl)⟩ (by omega) (by omega) (by omega) (by omega)) ?_
      intro e wk13 hR
      obtain ⟨Ap13r8, cp13r8, Aj13r8, cj13r8, rfl, hC13, hJ13, hb13⟩ := hR
      refine ⟨_, rfl, ?_⟩
      have hg := g0 hb13
      have hraw0 := hC13
      have hown0 := Own.mono (hC13) sz
      have hraw1 := hJ13
      have hown1 := Own.mono (hJ13) sz
      exact ⟨⟨_, rfl⟩, Ap13r8, cp13r8, Aj13r8, cj13r8, (Below.gN bl hg bl.size), (Nat.le_trans sz hg.size), (b_B1.gN hg), (by
          have e0 : L 14 = false := by
            cases hc : L 14
            · rfl
            · exact absurd (cl_14_13 hc) (by rw [hL]; decide)
          have h0 := b_B2.gN hg
          rw [e0] at h0
          show Bx _ _ _ (bif L 14 then _ else _)
          rw [e0]
          exact h0), (fun _ => hown0), (fun _ => hown1), (fun _ => rfl), (so s_28), (so s_29), (so s_30), (so s_31), (so s_32), (so s_33), (so s_34), (so s_35), (so s_36), (so s_37), (so s_38), (so s_39), (so s_40), (fun _ => Sv.self (by rw [zq]; decide) _), (so s_5)⟩
    | 14, _ =>
      obtain rfl := Option.some.inj (show some _ = some o from ho); clear ho
      have v4 := hF.sv (s := 4) (by kernel_rfl) (hA31.get (i := 4) (v := .pointer (some ⟨B2, 0, none⟩)))
      have v41 := s_41 (dp hdep 13)
      have eB2 : L 14 = false := hL
      have yB2 := b_B2
      rw [eB2] at yB2
      refine dj_skip (i := 14) rfl rfl (.inl rfl) (w' := wc.setRow B2 (#[.slice Ap13r8 (rs.set k (x + 1)).length cp13r8, .slice Aj13r8 (bs.set k y).length cj13r8])) (ev_srow v4.eval v41.eval yB2 (n := 2) (by kernel_rfl) rfl rfl (by simp [Value.oneCell']) _ rfl) ?_
      have hg := grw yB2 (#[.slice Ap13r8 (rs.set k (x + 1)).length cp13r8, .slice Aj13r8 (bs.set k y).length cj13r8])
      have hx := yB2.row (#[.slice Ap13r8 (rs.set k (x + 1)).length cp13r8, .slice Aj13r8 (bs.set k y).length cj13r8])
      exact ⟨⟨undef, rfl⟩, Ap13r8, cp13r8, Aj13r8, cj13r8, (Below.gB bl hg bl.size (by omega)), (Nat.le_trans sz hg.size), (b_B1.gB hg (by omega)), hx, (fun h => Own.gBT (o_13_0 h) hg yB2 (by decide)), (fun h => Own.gBT (o_13_1 h) hg yB2 (by decide)), (fun _ => dp hdep 13), s_28, s_29, s_30, s_31, s_32, s_33, s_34, s_35, s_36, s_37, s_38, s_39, s_40, s_41, s_5⟩
    | 15, _ =>
      obtain rfl := Option.some.inj (show some _ = some o from ho); clear ho
      refine dj_val (i := 15) (v := .int .i64 0) rfl (.inl rfl) (ev_assign (ec ac (.int .i64 0)) _ rfl) ?_
      exact ⟨⟨_, rfl⟩, Ap13r8, cp13r8, Aj13r8, cj13r8, bl, sz, b_B1, b_B2, o_13_0, o_13_1, cl_14_13, (so s_28), (so s_29), (so s_30), (so s_31), (so s_32), (so s_33), (so s_34), (so s_35), (so s_36), (so s_37), (so s_38), (so s_39), (so s_40), (so s_41), (fun _ => Sv.self (by rw [zq]; decide) _)⟩
    | k + 16, h => exact absurd h (by omega)
  · intro L hall ac34 wc34 hF hJ
    obtain ⟨Ap13r8, cp13r8, Aj13r8, cj13r8, bl, sz, b_B1, b_B2, o_13_0, o_13_1, cl_14_13, s_28, s_29, s_30, s_31, s_32, s_33, s_34, s_35, s_36, s_37, s_38, s_39, s_40, s_41, s_5⟩ := hJ
    have hA34 : Ag ac34 42 [(4, .pointer (some ⟨B2, 0, none⟩)), (5, .int .i64 0)] := (((Ag.nil (hF.1.trans hA31.1) (hF.2.1.trans hA31.2.1)).cons (s_5 (hall 15 (by decide)))).cons (hF.sv (s := 4) (by kernel_rfl) (hA31.get (i := 4) (v := .pointer (some ⟨B2, 0, none⟩)))))
    have bl34 := bl
    have sz34 := sz
    have b34_B1 := b_B1
    have b34_B2 : Bx wc34 B2 25 (#[.slice Ap13r8 (rs.set k (x + 1)).length cp13r8, .slice Aj13r8 (bs.set k y).length cj13r8]) := by
      have h := b_B2
      rw [hall 14 (by decide)] at h
      exact h
    have o34_13_0 := o_13_0 (hall 13 (by decide))
    have hh34_13_0 := Own.hi o34_13_0
    have o34_13_1 := o_13_1 (hall 13 (by decide))
    have hh34_13_1 := Own.hi o34_13_1
    clear hF bl sz b_B1 b_B2 o_13_0 o_13_1 cl_14_13 s_28 s_29 s_30 s_31 s_32 s_33 s_34 s_35 s_36 s_37 s_38 s_39 s_40 s_41 s_5 hall hA31
    refine then_n ?_
    refine wp_ret ?_
    refine bodyPost_ret (rs_ct (v := .int .i64 0) Try.results12 hA34 (by kernel_rfl) (by kernel_rfl) b34_B2 Try.underlying25 rfl (by kernel_rfl)) hA34.2.1 ?_
    rw [rff_ok ha hx (by omega), if_neg (by rw [hd20]; decide), if_neg (by omega)]
    refine ⟨Ap13r8, cp13r8, Aj13r8, cj13r8, ?_, ?_, ?_, bl34⟩
    · show _ = Ending.returned (.tuple #[.agg #[.slice _ (rs.set k (x + 1)).length _, .slice _ (bs).length _], .int .i64 0]); rw [set_same hy]
    · show Own _ _ _ _ (.slice _ (rs.set k (x + 1)).length _) (rs.set k (x + 1)).length (flat iva (rs.set k (x + 1))); exact Own.mono o34_13_0 (by omega)
    · show Own _ _ _ _ (.slice _ (bs).length _) (bs).length (flat bva (bs)); rw [set_same hy] at o34_13_1; exact Own.mono o34_13_1 (by omega)

theorem sRef_any (A1 : Option Addr) (c1 : Nat) (A2 : Option Addr) (c2 : Nat) (rs : List Int) (bs : List Bool) (k : Int) (w : World) (hs : GS w A1 c1 A2 c2 rs bs) (hl : rs.length ≤ 900000) (hb : bs.length ≤ 900000) : Calls Try.prog 12 #[.agg #[.slice A1 rs.length c1, .slice A2 bs.length c2], .int .i64 k] w (RSl w (rff ⟨rs, bs⟩ k).1 fun v => .tuple #[v, .int .i64 (rff ⟨rs, bs⟩ k).2]) := by
  by_cases ha : ask ⟨rs, bs⟩ k = 0
  · obtain ⟨kn, rfl, _, _⟩ := ask_of ha
    exact sRef_ok1 A1 c1 A2 c2 rs bs kn w hs ha
  · exact sRef_bad A1 c1 A2 c2 rs bs k w hs hl hb ha

set_option maxHeartbeats 4000000 in
theorem sUnref_bad (A1 : Option Addr) (c1 : Nat) (A2 : Option Addr) (c2 : Nat) (rs : List Int) (bs : List Bool) (k : Int) (w : World) (hs : GS w A1 c1 A2 c2 rs bs) (hl : rs.length ≤ 900000) (hb : bs.length ≤ 900000) (ha : ask ⟨rs, bs⟩ k ≠ 0) : Calls Try.prog 15 #[.agg #[.slice A1 rs.length c1, .slice A2 bs.length c2], .int .i64 k] w (RSl w (unr ⟨rs, bs⟩ k).1 fun v => .tuple #[v, .bool (unr ⟨rs, bs⟩ k).2.1, .int .i64 (unr ⟨rs, bs⟩ k).2.2]) := by
  have hbel0 := below0 w
  refine sx_enter (N := 43) [(0, .agg #[.slice A1 rs.length c1, .slice A2 bs.length c2]), (1, .int .i64 k)] Try.func15 rfl Try.ntmps15 (by simp) (fun a z d s => (((Ag.nil z d).cons (s 1 _ rfl)).cons (s 0 _ rfl))) ?_
  intro a0 hA0
  refine wp_seq ?_
  refine wp_region_lit ?_
  refine sx_new (cs := #[.slice A1 rs.length c1, .slice A2 bs.length c2]) (t := 25) hA0 rfl (by decide) (.inl rfl) (ev_box (hA0.ev (i := 0) (v := .agg #[.slice A1 rs.length c1, .slice A2 bs.length c2])) rfl _ rfl) ?_
  intro B1 w1 a1 hB1 hx1 hg1 hA1
  clear hA0
  have hs1 := hg1.size
  have hl1 := hx1.lt
  refine sx_new (cs := #[.slice none 0 0, .slice none 0 0]) (t := 25) hA1 rfl (by decide) (.inl rfl) (ev_alloc (z := .agg (#[.slice none 0 0, .slice none 0 0])) (by kernel_rfl) (by kernel_rfl) _ rfl) ?_
  intro B2 w2 a2 hB2 hx2 hg2 hA2
  clear hA1
  have hs2 := hg2.size
  have hl2 := hx2.lt
  refine sx_val hA2 rfl (ev_assign (ec _ (.bool false)) _ rfl) ?_
  intro a3 hA3; clear hA2
  refine sx_val hA3 rfl (ev_assign (ec _ (.int .i64 0)) _ rfl) ?_
  intro a4 hA4; clear hA3
  refine sx_nil ?_
  refine then_n ?_
  refine wp_seq ?_
  refine wp_region_lit ?_
  have hx1_5 := hx1.gN hg2
  refine sx_val (v := .agg #[.slice A1 rs.length c1, .slice A2 bs.length c2]) hA4 rfl (ev_row (hA4.ev (i := 2) (v := .pointer (some ⟨B1, 0, none⟩))) hx1_5 Try.underlying25 rfl (n := 2) (by kernel_rfl) rfl _ rfl) ?_
  intro a6 hA6; clear hA4
  refine sx_val hA6 rfl (ev_move (hA6.ev (i := 1) (v := .int .i64 k)) _ rfl) ?_
  intro a7 hA7; clear hA6
  have hbel0_9 := Below.gN hbel0 hg1 hbel0.size
  have hbel0_10 := Below.gN hbel0_9 hg2 hbel0_9.size
  refine sx_call (f := 39) (args := #[.agg #[.slice A1 rs.length c1, .slice A2 bs.length c2], .int .i64 k]) hA7 rfl (by decide) (.inl rfl) (ev_fn rfl (mp2 (hA7.ev (i := 9) (v := .agg #[.slice A1 rs.length c1, .slice A2 bs.length c2])) (hA7.ev (i := 10) (v := .int .i64 k))) (by kernel_rfl) _ rfl) (asked_any A1 c1 A2 c2 rs bs k _ ⟨(hs.r.below hbel0_10), (hs.b.below hbel0_10)⟩ (by omega) (by omega)) ?_
  intro e8 w8 hR8
  obtain ⟨rfl, hb8⟩ := hR8
  refine ⟨_, rfl, ?_⟩
  intro a8 hA8
  clear hA7
  have hg8 := g0 hb8
  have hs8 := hg8.size
  clear hb8
  refine sx_val hA8 rfl (ev_assign (hA8.ev (i := 11) (v := .int .i64 (ask ⟨rs, bs⟩ k))) _ rfl) ?_
  intro a11 hA11; clear hA8
  refine sx_nil ?_
  refine then_n ?_
  refine wp_seq ?_
  refine wp_block ?_
  refine wp_seq ?_
  refine wp_region_lit ?_
  refine sx_val hA11 rfl (ev_move (hA11.ev (i := 7) (v := .int .i64 (ask ⟨rs, bs⟩ k))) _ rfl) ?_
  intro a12 hA12; clear hA11
  refine sx_val (v := .bool true) hA12 rfl (ev_neqB (k := .i64) (m := (ask ⟨rs, bs⟩ k)) (n := 0) (hA12.ev (i := 13)) (ec _ (.int .i64 0)) (by simpa using (decide_eq_false ha)) _ rfl) ?_
  intro a13 hA13; clear hA12
  refine sx_val hA13 rfl (ev_assign (hA13.ev (i := 14) (v := .bool true)) _ rfl) ?_
  intro a14 hA14; clear hA13
  refine sx_nil ?_
  refine then_n ?_
  refine wp_cond_true (hA14.ev (i := 12) (v := .bool true)) ?_
  refine wp_seq ?_
  refine wp_region_lit ?_
  refine sx_val (v := .agg #[.slice none 0 0, .slice none 0 0]) hA14 rfl (bd0_Slots _ rfl) ?_
  intro a15 hA15; clear hA14
  refine sx_val hA15 rfl (ev_move (hA15.ev (i := 7) (v := .int .i64 (ask ⟨rs, bs⟩ k))) _ rfl) ?_
  intro a16 hA16; clear hA15
  have hx2_18 := hx2.gN hg8
  refine sx_store hA16 rfl (.inl rfl) rfl (hA16.ev (i := 4) (v := .pointer (some ⟨B2, 0, none⟩))) (hA16.ev (i := 15) (v := .agg #[.slice none 0 0, .slice none 0 0])) hx2_18 (by kernel_rfl) rfl (by simp [Value.oneCell']) ?_
  intro w17 hx17 hg17
  have hs17 := hg17.size
  refine sx_val hA16 rfl (ev_assign (ec _ (.bool false)) _ rfl) ?_
  intro a19 hA19; clear hA16
  refine sx_val hA19 rfl (ev_assign (hA19.ev (i := 16) (v := .int .i64 (ask ⟨rs, bs⟩ k))) _ rfl) ?_
  intro a20 hA20; clear hA19
  refine sx_nil ?_
  refine then_n ?_
  refine wp_ret ?_
  refine blk_r ?_
  refine then_r ?_
  refine bodyPost_ret (rs_ctt (v := .bool false) (v2 := .int .i64 (ask ⟨rs, bs⟩ k)) Try.results15 hA20 (by kernel_rfl) (by kernel_rfl) (by kernel_rfl) hx17 Try.underlying25 rfl (by kernel_rfl)) hA20.2.1 ?_
  rw [show unr ⟨rs, bs⟩ k = (Ss.nil, false, ask ⟨rs, bs⟩ k) from if_pos ha]
  have hbel0_21 := Below.gN hbel0_10 hg8 hbel0_10.size
  have hbel0_22 := Below.gB hbel0_21 hg17 hbel0_21.size (by omega)
  exact RSl.nil rfl hbel0_22

set_option maxHeartbeats 4000000 in
theorem sUnref_ok1 (A1 : Option Addr) (c1 : Nat) (A2 : Option Addr) (c2 : Nat) (rs : List Int) (bs : List Bool) (k : Nat) (w : World) (hs : GS w A1 c1 A2 c2 rs bs) (ha : ask ⟨rs, bs⟩ (k : Int) = 0) : Calls Try.prog 15 #[.agg #[.slice A1 rs.length c1, .slice A2 bs.length c2], .int .i64 (k : Int)] w (RSl w (unr ⟨rs, bs⟩ (k : Int)).1 fun v => .tuple #[v, .bool (unr ⟨rs, bs⟩ (k : Int)).2.1, .int .i64 (unr ⟨rs, bs⟩ (k : Int)).2.2]) := by
  have hq := ask_zero ha
  have hkr : k < rs.length := by have := hq.2.2; simp only at this; omega
  have hok := (chs_ok hq.1).2
  have hrl : rs.length ≤ 256 := hok.hi
  have hr1 : 1 ≤ rs.length := hok.lo
  have hbl : bs.length = rs.length := hok.len
  obtain ⟨x, hx⟩ : ∃ x, rs[k]? = some x := ⟨_, List.getElem?_eq_getElem hkr⟩
  obtain ⟨y, hy⟩ : ∃ y, bs[k]? = some y := ⟨_, List.getElem?_eq_getElem (by omega)⟩
  have hxv : 0 ≤ x ∧ x ≤ 512 := hok.val k x hx
  have hoy : opm bs k = y := by simp [opm, hy]
  obtain ⟨ad1, hAd1⟩ := GR.adr hs.r iva_sz hx
  obtain ⟨ad2, hAd2⟩ := GR.adr hs.b bva_sz hy
  have hbel0 := below0 w
  refine sx_enter (N := 43) [(0, .agg #[.slice A1 rs.length c1, .slice A2 bs.length c2]), (1, .int .i64 (k : Int))] Try.func15 rfl Try.ntmps15 (by simp) (fun a z d s => (((Ag.nil z d).cons (s 1 _ rfl)).cons (s 0 _ rfl))) ?_
  intro a0 hA0
  refine wp_seq ?_
  refine wp_region_lit ?_
  refine sx_new (cs := #[.slice A1 rs.length c1, .slice A2 bs.length c2]) (t := 25) hA0 rfl (by decide) (.inl rfl) (ev_box (hA0.ev (i := 0) (v := .agg #[.slice A1 rs.length c1, .slice A2 bs.length c2])) rfl _ rfl) ?_
  intro B1 w1 a1 hB1 hx1 hg1 hA1
  clear hA0
  have hs1 := hg1.size
  have hl1 := hx1.lt
  refine sx_new (cs := #[.slice none 0 0, .slice none 0 0]) (t := 25) hA1 rfl (by decide) (.inl rfl) (ev_alloc (z := .agg (#[.slice none 0 0, .slice none 0 0])) (by kernel_rfl) (by kernel_rfl) _ rfl) ?_
  intro B2 w2 a2 hB2 hx2 hg2 hA2
  clear hA1
  have hs2 := hg2.size
  have hl2 := hx2.lt
  refine sx_val hA2 rfl (ev_assign (ec _ (.bool false)) _ rfl) ?_
  intro a3 hA3; clear hA2
  refine sx_val hA3 rfl (ev_assign (ec _ (.int .i64 0)) _ rfl) ?_
  intro a4 hA4; clear hA3
  refine sx_nil ?_
  refine then_n ?_
  refine wp_seq ?_
  refine wp_region_lit ?_
  have hx1_5 := hx1.gN hg2
  refine sx_val (v := .agg #[.slice A1 rs.length c1, .slice A2 bs.length c2]) hA4 rfl (ev_row (hA4.ev (i := 2) (v := .pointer (some ⟨B1, 0, none⟩))) hx1_5 Try.underlying25 rfl (n := 2) (by kernel_rfl) rfl _ rfl) ?_
  intro a6 hA6; clear hA4
  refine sx_val hA6 rfl (ev_move (hA6.ev (i := 1) (v := .int .i64 (k : Int))) _ rfl) ?_
  intro a7 hA7; clear hA6
  have hbel0_9 := Below.gN hbel0 hg1 hbel0.size
  have hbel0_10 := Below.gN hbel0_9 hg2 hbel0_9.size
  refine sx_call (f := 39) (args := #[.agg #[.slice A1 rs.length c1, .slice A2 bs.length c2], .int .i64 (k : Int)]) hA7 rfl (by decide) (.inl rfl) (ev_fn rfl (mp2 (hA7.ev (i := 9) (v := .agg #[.slice A1 rs.length c1, .slice A2 bs.length c2])) (hA7.ev (i := 10) (v := .int .i64 (k : Int)))) (by kernel_rfl) _ rfl) (asked_any A1 c1 A2 c2 rs bs (k : Int) _ ⟨(hs.r.below hbel0_10), (hs.b.below hbel0_10)⟩ (by omega) (by omega)) ?_
  intro e8 w8 hR8
  obtain ⟨rfl, hb8⟩ := hR8
  refine ⟨_, rfl, ?_⟩
  intro a8 hA8
  clear hA7
  have hg8 := g0 hb8
  have hs8 := hg8.size
  clear hb8
  refine sx_val hA8 rfl (ev_assign (hA8.ev (i := 11) (v := .int .i64 (ask ⟨rs, bs⟩ (k : Int)))) _ rfl) ?_
  intro a11 hA11; clear hA8
  refine sx_nil ?_
  refine then_n ?_
  refine wp_seq ?_
  refine wp_block ?_
  refine wp_seq ?_
  refine wp_region_lit ?_
  refine sx_val hA11 rfl (ev_move (hA11.ev (i := 7) (v := .int .i64 (ask ⟨rs, bs⟩ (k : Int)))) _ rfl) ?_
  intro a12 hA12; clear hA11
  refine sx_val (v := .bool false) hA12 rfl (ev_neqB (k := .i64) (m := (ask ⟨rs, bs⟩ (k : Int))) (n := 0) (hA12.ev (i := 13)) (ec _ (.int .i64 0)) (by simpa using (decide_eq_true ha)) _ rfl) ?_
  intro a13 hA13; clear hA12
  refine sx_val hA13 rfl (ev_assign (hA13.ev (i := 14) (v := .bool false)) _ rfl) ?_
  intro a14 hA14; clear hA13
  refine sx_nil ?_
  refine then_n ?_
  refine wp_cond_false (hA14.ev (i := 12) (v := .bool false)) ?_
  refine wp_seq ?_
  refine wp_region_lit ?_
  refine sx_val (v := .pointer (some ⟨B1, 0, none⟩)) hA14 rfl (fb_Slots_0 (hA14.ev (i := 2) (v := .pointer (some ⟨B1, 0, none⟩))) _ rfl) ?_
  intro a15 hA15; clear hA14
  have hx1_16 := hx1_5.gN hg8
  refine sx_val (v := .slice A1 rs.length c1) hA15 rfl (ev_cell (v := .slice A1 rs.length c1) (hA15.ev (i := 18) (v := .pointer (some ⟨B1, 0, none⟩))) ((hx1_16.cell 0).trans rfl) Try.underlying22 rfl _ rfl) ?_
  intro a17 hA17; clear hA15
  refine sx_val hA17 rfl (ev_move (hA17.ev (i := 1) (v := .int .i64 (k : Int))) _ rfl) ?_
  intro a18 hA18; clear hA17
  have hbel0_20 := Below.gN hbel0_10 hg8 hbel0_10.size
  obtain ⟨ad19, hAd19⟩ := GR.adr (hs.r.below hbel0_20) iva_sz hx
  refine sx_val (v := .pointer (some (ad19.add (k * 1)))) hA18 rfl (ev_idx (k := k) (hA18.ev (i := 19) (v := .slice A1 rs.length c1)) hAd19 (hA18.ev (i := 20) (v := .int .i64 (k : Int))) rfl (by omega) Try.underlying22 (by kernel_rfl) _ rfl) ?_
  intro a21 hA21; clear hA18
  refine sx_val (v := .int .i64 x) hA21 rfl (ev_cell (hA21.ev (i := 21) (v := .pointer (some (ad19.add (k * 1))))) ((GR.cel (hs.r.below hbel0_20) hAd19 iva_sz hx) 0 _ rfl) Try.underlying3 rfl _ rfl) ?_
  intro a22 hA22; clear hA21
  cases hd23 : decide (x = 0)
  rotate_left
  · have hp23 := of_decide_eq_true hd23
    refine sx_val (v := .bool true) hA22 rfl (ev_eqlB (k := .i64) (m := x) (n := 0) (hA22.ev (i := 22)) (ec _ (.int .i64 0)) hd23 _ rfl) ?_
    intro a29 hA29; clear hA22
    refine sx_val hA29 rfl (ev_assign (hA29.ev (i := 23) (v := .bool true)) _ rfl) ?_
    intro a30 hA30; clear hA29
    refine sx_nil ?_
    refine then_n ?_
    refine wp_cond_true (hA30.ev (i := 17) (v := .bool true)) ?_
    refine wp_seq ?_
    refine wp_region_lit ?_
    refine sx_val (v := .agg #[.slice none 0 0, .slice none 0 0]) hA30 rfl (bd0_Slots _ rfl) ?_
    intro a31 hA31; clear hA30
    have hx2_33 := hx2.gN hg8
    refine sx_store hA31 rfl (.inl rfl) rfl (hA31.ev (i := 4) (v := .pointer (some ⟨B2, 0, none⟩))) (hA31.ev (i := 24) (v := .agg #[.slice none 0 0, .slice none 0 0])) hx2_33 (by kernel_rfl) rfl (by simp [Value.oneCell']) ?_
    intro w32 hx32 hg32
    have hs32 := hg32.size
    refine sx_val hA31 rfl (ev_assign (ec _ (.bool false)) _ rfl) ?_
    intro a34 hA34; clear hA31
    refine sx_val hA34 rfl (ev_assign (ec _ (.int .i64 15)) _ rfl) ?_
    intro a35 hA35; clear hA34
    refine sx_nil ?_
    refine then_n ?_
    refine wp_ret ?_
    refine blk_r ?_
    refine then_r ?_
    refine bodyPost_ret (rs_ctt (v := .bool false) (v2 := .int .i64 15) Try.results15 hA35 (by kernel_rfl) (by kernel_rfl) (by kernel_rfl) hx32 Try.underlying25 rfl (by kernel_rfl)) hA35.2.1 ?_
    rw [unr_ok ha hx (by omega), if_pos hp23]
    have hbel0_36 := Below.gB hbel0_20 hg32 hbel0_20.size (by omega)
    exact RSl.nil rfl hbel0_36
  have hp23 := of_decide_eq_false hd23
  refine sx_val (v := .bool false) hA22 rfl (ev_eqlB (k := .i64) (m := x) (n := 0) (hA22.ev (i := 22)) (ec _ (.int .i64 0)) hd23 _ rfl) ?_
  intro a24 hA24; clear hA22
  refine sx_val hA24 rfl (ev_assign (hA24.ev (i := 23) (v := .bool false)) _ rfl) ?_
  intro a25 hA25; clear hA24
  refine sx_nil ?_
  refine then_n ?_
  refine wp_cond_false (hA25.ev (i := 17) (v := .bool false)) ?_
  refine wp_skip ?_
  refine blk_n ?_
  refine then_n ?_
  refine wp_seq ?_
  have hx2_26 := hx2.gN hg8
  refine region_D (n := 16) (by kernel_rfl) (by kernel_rfl) rfl (fun L ac wc => ∃ Ap13r6 : Option Addr, ∃ cp13r6 : Nat, ∃ Aj13r6 : Option Addr, ∃ cj13r6 : Nat, ∃ N14r6 : Nat, Below w.heap.size w wc ∧ w8.heap.size ≤ wc.heap.size ∧ Bx wc B1 25 (#[.slice A1 rs.length c1, .slice A2 bs.length c2]) ∧ Bx wc B2 25 (#[.slice none 0 0, .slice none 0 0]) ∧ (L 14 = true → w8.heap.size ≤ N14r6 ∧ Bx wc N14r6 25 (bif L 15 then (#[.slice Ap13r6 (rs.set k (x - 1)).length cp13r6, .slice Aj13r6 (bs.set k y).length cj13r6]) else (#[.slice none 0 0, .slice none 0 0]))) ∧ (L 13 = true → Own wc w8.heap.size 3 1 (.slice Ap13r6 (rs.set k (x - 1)).length cp13r6) (rs.set k (x - 1)).length (flat iva (rs.set k (x - 1)))) ∧ (L 13 = true → Own wc w8.heap.size 4 1 (.slice Aj13r6 (bs.set k y).length cj13r6) (bs.set k y).length (flat bva (bs.set k y))) ∧ (L 15 = true → L 14 = true) ∧ (L 15 = true → L 13 = true) ∧ (L 0 = true → Sv ac 25 (.agg #[.slice A1 rs.length c1, .slice A2 bs.length c2])) ∧ (L 1 = true → Sv ac 26 (.int .i64 (k : Int))) ∧ (L 2 = true → Sv ac 27 (.pointer (some ⟨B1, 0, none⟩))) ∧ (L 3 = true → Sv ac 28 (.slice A1 rs.length c1)) ∧ (L 4 = true → Sv ac 29 (.int .i64 (k : Int))) ∧ (L 5 = true → Sv ac 30 (.pointer (some (ad1.add (k * 1))))) ∧ (L 6 = true → Sv ac 31 (.int .i64 x)) ∧ (L 7 = true → Sv ac 32 (.int .i64 (x - 1))) ∧ (L 8 = true → Sv ac 33 (.pointer (some ⟨B1, 1, none⟩))) ∧ (L 9 = true → Sv ac 34 (.slice A2 bs.length c2)) ∧ (L 10 = true → Sv ac 35 (.int .i64 (k : Int))) ∧ (L 11 = true → Sv ac 36 (.pointer (some (ad2.add (k * 1))))) ∧ (L 12 = true → Sv ac 37 (.bool y)) ∧ (L 13 = true → Sv ac 38 (.agg #[.slice Ap13r6 (rs.set k (x - 1)).length cp13r6, .slice Aj13r6 (bs.set k y).length cj13r6])) ∧ (L 14 = true → Sv ac 8 (.pointer (some ⟨N14r6, 0, none⟩)))) ⟨none, 0, none, 0, 0, (Below.gN hbel0_20 (gdr _) hbel0_20.size), (Nat.le_refl _), (hx1_16.gN (gdr _)), (hx2_26.gN (gdr _)), (fun h => by cases h), (fun h => by cases h), (fun h => by cases h), (fun h => by cases h), (fun h => by cases h), (fun h => by cases h), (fun h => by cases h), (fun h => by cases h), (fun h => by cases h), (fun h => by cases h), (fun h => by cases h), (fun h => by cases h), (fun h => by cases h), (fun h => by cases h), (fun h => by cases h), (fun h => by cases h), (fun h => by cases h), (fun h => by cases h), (fun h => by cases h), (fun h => by cases h)⟩ ?_ ?_
  · intro iq hiq o ho L hL hdep ac wc hF hJ
    obtain ⟨Ap13r6, cp13r6, Aj13r6, cj13r6, N14r6, bl, sz, b_B1, b_B2, n_N14r6, o_13_0, o_13_1, cl_15_14, cl_15_13, s_25, s_26, s_27, s_28, s_29, s_30, s_31, s_32, s_33, s_34, s_35, s_36, s_37, s_38, s_8⟩ := hJ
    have zq := hF.1.trans hA25.1
    match iq, hiq with
    | 0, _ =>
      obtain rfl := Option.some.inj (show some _ = some o from ho); clear ho
      have v2 := hF.sv (s := 2) (by kernel_rfl) (hA25.get (i := 2) (v := .pointer (some ⟨B1, 0, none⟩)))
      refine dj_val (i := 0) (v := .agg #[.slice A1 rs.length c1, .slice A2 bs.length c2]) rfl (.inl rfl) (ev_row v2.eval b_B1 Try.underlying25 rfl (n := 2) (by kernel_rfl) rfl _ rfl) ?_
      exact ⟨⟨_, rfl⟩, Ap13r6, cp13r6, Aj13r6, cj13r6, N14r6, bl, sz, b_B1, b_B2, n_N14r6, o_13_0, o_13_1, cl_15_14, cl_15_13, (fun _ => Sv.self (by rw [zq]; decide) _), (so s_26), (so s_27), (so s_28), (so s_29), (so s_30), (so s_31), (so s_32), (so s_33), (so s_34), (so s_35), (so s_36), (so s_37), (so s_38), (so s_8)⟩
    | 1, _ =>
      obtain rfl := Option.some.inj (show some _ = some o from ho); clear ho
      have v1 := hF.sv (s := 1) (by kernel_rfl) (hA25.get (i := 1) (v := .int .i64 (k : Int)))
      refine dj_val (i := 1) (v := .int .i64 (k : Int)) rfl (.inl rfl) (ev_move v1.eval _ rfl) ?_
      exact ⟨⟨_, rfl⟩, Ap13r6, cp13r6, Aj13r6, cj13r6, N14r6, bl, sz, b_B1, b_B2, n_N14r6, o_13_0, o_13_1, cl_15_14, cl_15_13, (so s_25), (fun _ => Sv.self (by rw [zq]; decide) _), (so s_27), (so s_28), (so s_29), (so s_30), (so s_31), (so s_32), (so s_33), (so s_34), (so s_35), (so s_36), (so s_37), (so s_38), (so s_8)⟩
    | 2, _ =>
      obtain rfl := Option.some.inj (show some _ = some o from ho); clear ho
      have v2 := hF.sv (s := 2) (by kernel_rfl) (hA25.get (i := 2) (v := .pointer (some ⟨B1, 0, none⟩)))
      refine dj_val (i := 2) (v := .pointer (some ⟨B1, 0, none⟩)) rfl (.inl rfl) (fb_Slots_0 v2.eval _ rfl) ?_
      exact ⟨⟨_, rfl⟩, Ap13r6, cp13r6, Aj13r6, cj13r6, N14r6, bl, sz, b_B1, b_B2, n_N14r6, o_13_0, o_13_1, cl_15_14, cl_15_13, (so s_25), (so s_26), (fun _ => Sv.self (by rw [zq]; decide) _), (so s_28), (so s_29), (so s_30), (so s_31), (so s_32), (so s_33), (so s_34), (so s_35), (so s_36), (so s_37), (so s_38), (so s_8)⟩
    | 3, _ =>
      obtain rfl := Option.some.inj (show some _ = some o from ho); clear ho
      have v27 := s_27 (dp hdep 2)
      refine dj_val (i := 3) (v := .slice A1 rs.length c1) rfl (.inl rfl) (ev_cell (v := .slice A1 rs.length c1) v27.eval ((b_B1.cell 0).trans rfl) Try.underlying22 rfl _ rfl) ?_
      exact ⟨⟨_, rfl⟩, Ap13r6, cp13r6, Aj13r6, cj13r6, N14r6, bl, sz, b_B1, b_B2, n_N14r6, o_13_0, o_13_1, cl_15_14, cl_15_13, (so s_25), (so s_26), (so s_27), (fun _ => Sv.self (by rw [zq]; decide) _), (so s_29), (so s_30), (so s_31), (so s_32), (so s_33), (so s_34), (so s_35), (so s_36), (so s_37), (so s_38), (so s_8)⟩
    | 4, _ =>
      obtain rfl := Option.some.inj (show some _ = some o from ho); clear ho
      have v1 := hF.sv (s := 1) (by kernel_rfl) (hA25.get (i := 1) (v := .int .i64 (k : Int)))
      refine dj_val (i := 4) (v := .int .i64 (k : Int)) rfl (.inl rfl) (ev_move v1.eval _ rfl) ?_
      exact ⟨⟨_, rfl⟩, Ap13r6, cp13r6, Aj13r6, cj13r6, N14r6, bl, sz, b_B1, b_B2, n_N14r6, o_13_0, o_13_1, cl_15_14, cl_15_13, (so s_25), (so s_26), (so s_27), (so s_28), (fun _ => Sv.self (by rw [zq]; decide) _), (so s_30), (so s_31), (so s_32), (so s_33), (so s_34), (so s_35), (so s_36), (so s_37), (so s_38), (so s_8)⟩
    | 5, _ =>
      obtain rfl := Option.some.inj (show some _ = some o from ho); clear ho
      have v28 := s_28 (dp hdep 3)
      have v29 := s_29 (dp hdep 4)
      refine dj_val (i := 5) (v := .pointer (some (ad1.add (k * 1)))) rfl (.inl rfl) (ev_idx (k := k) v28.eval hAd1 v29.eval rfl (by omega) Try.underlying22 (by kernel_rfl) _ rfl) ?_
      exact ⟨⟨_, rfl⟩, Ap13r6, cp13r6, Aj13r6, cj13r6, N14r6, bl, sz, b_B1, b_B2, n_N14r6, o_13_0, o_13_1, cl_15_14, cl_15_13, (so s_25), (so s_26), (so s_27), (so s_28), (so s_29), (fun _ => Sv.self (by rw [zq]; decide) _), (so s_31), (so s_32), (so s_33), (so s_34), (so s_35), (so s_36), (so s_37), (so s_38), (so s_8)⟩
    | 6, _ =>
      obtain rfl := Option.some.inj (show some _ = some o from ho); clear ho
      have v30 := s_30 (dp hdep 5)
      refine dj_val (i := 6) (v := .int .i64 x) rfl (.inl rfl) (ev_cell v30.eval ((GR.cel (hs.r.below bl) hAd1 iva_sz hx) 0 _ rfl) Try.underlying3 rfl _ rfl) ?_
      exact ⟨⟨_, rfl⟩, Ap13r6, cp13r6, Aj13r6, cj13r6, N14r6, bl, sz, b_B1, b_B2, n_N14r6, o_13_0, o_13_1, cl_15_14, cl_15_13, (so s_25), (so s_26), (so s_27), (so s_28), (so s_29), (so s_30), (fun _ => Sv.self (by rw [zq]; decide) _), (so s_32), (so s_33), (so s_34), (so s_35), (so s_36), (so s_37), (so s_38), (so s_8)⟩
    | 7, _ =>
      obtain rfl := Option.some.inj (show some _ = some o from ho); clear ho
      have v31 := s_31 (dp hdep 6)
      refine dj_val (i := 7) (v := .int .i64 (x - 1)) rfl (.inl rfl) (ev_subR (k := .i64) (m := x) (n := 1) (r := x - 1) v31.eval (ec ac (.int .i64 1)) (wr (by omega) (by omega) (by omega)) _ rfl) ?_
      exact ⟨⟨_, rfl⟩, Ap13r6, cp13r6, Aj13r6, cj13r6, N14r6, bl, sz, b_B1, b_B2, n_N14r6, o_13_0, o_13_1, cl_15_14, cl_15_13, (so s_25), (so s_26), (so s_27), (so s_28), (so s_29), (so s_30), (so s_31), (fun _ => Sv.self (by rw [zq]; decide) _), (so s_33), (so s_34), (so s_35), (so s_36), (so s_37), (so s_38), (so s_8)⟩
    | 8, _ =>
      obtain rfl := Option.some.inj (show some _ = some o from ho); clear ho
      have v2 := hF.sv (s := 2) (by kernel_rfl) (hA25.get (i := 2) (v := .pointer (some ⟨B1, 0, none⟩)))
      refine dj_val (i := 8) (v := .pointer (some ⟨B1, 1, none⟩)) rfl (.inl rfl) (fb_Slots_1 v2.eval _ rfl) ?_
      exact ⟨⟨_, rfl⟩, Ap13r6, cp13r6, Aj13r6, cj13r6, N14r6, bl, sz, b_B1, b_B2, n_N14r6, o_13_0, o_13_1, cl_15_14, cl_15_13, (so s_25), (so s_26), (so s_27), (so s_28), (so s_29), (so s_30), (so s_31), (so s_32), (fun _ => Sv.self (by rw [zq]; decide) _), (so s_34), (so s_35), (so s_36), (so s_37), (so s_38), (so s_8)⟩
    | 9, _ =>
      obtain rfl := Option.some.inj (show some _ = some o from ho); clear ho
      have v33 := s_33 (dp hdep 8)
      refine dj_val (i := 9) (v := .slice A2 bs.length c2) rfl (.inl rfl) (ev_cell (v := .slice A2 bs.length c2) v33.eval ((b_B1.cell 1).trans rfl) Try.underlying23 rfl _ rfl) ?_
      exact ⟨⟨_, rfl⟩, Ap13r6, cp13r6, Aj13r6, cj13r6, N14r6, bl, sz, b_B1, b_B2, n_N14r6, o_13_0, o_13_1, cl_15_14, cl_15_13, (so s_25), (so s_26), (so s_27), (so s_28), (so s_29), (so s_30), (so s_31), (so s_32), (so s_33), (fun _ => Sv.self (by rw [zq]; decide) _), (so s_35), (so s_36), (so s_37), (so s_38), (so s_8)⟩
    | 10, _ =>
      obtain rfl := Option.some.inj (show some _ = some o from ho); clear ho
      have v1 := hF.sv (s := 1) (by kernel_rfl) (hA25.get (i := 1) (v := .int .i64 (k : Int)))
      refine dj_val (i := 10) (v := .int .i64 (k : Int)) rfl (.inl rfl) (ev_move v1.eval _ rfl) ?_
      exact ⟨⟨_, rfl⟩, Ap13r6, cp13r6, Aj13r6, cj13r6, N14r6, bl, sz, b_B1, b_B2, n_N14r6, o_13_0, o_13_1, cl_15_14, cl_15_13, (so s_25), (so s_26), (so s_27), (so s_28), (so s_29), (so s_30), (so s_31), (so s_32), (so s_33), (so s_34), (fun _ => Sv.self (by rw [zq]; decide) _), (so s_36), (so s_37), (so s_38), (so s_8)⟩
    | 11, _ =>
      obtain rfl := Option.some.inj (show some _ = some o from ho); clear ho
      have v34 := s_34 (dp hdep 9)
      have v35 := s_35 (dp hdep 10)
      refine dj_val (i := 11) (v := .pointer (some (ad2.add (k * 1)))) rfl (.inl rfl) (ev_idx (k := k) v34.eval hAd2 v35.eval rfl (by omega) Try.underlying23 (by kernel_rfl) _ rfl) ?_
      exact ⟨⟨_, rfl⟩, Ap13r6, cp13r6, Aj13r6, cj13r6, N14r6, bl, sz, b_B1, b_B2, n_N14r6, o_13_0, o_13_1, cl_15_14, cl_15_13, (so s_25), (so s_26), (so s_27), (so s_28), (so s_29), (so s_30), (so s_31), (so s_32), (so s_33), (so s_34), (so s_35), (fun _ => Sv.self (by rw [zq]; decide) _), (so s_37), (so s_38), (so s_8)⟩
    | 12, _ =>
      obtain rfl := Option.some.inj (show some _ = some o from ho); clear ho
      have v36 := s_36 (dp hdep 11)
      refine dj_val (i := 12) (v := .bool y) rfl (.inl rfl) (ev_cell v36.eval ((GR.cel (hs.b.below bl) hAd2 bva_sz hy) 0 _ rfl) Try.underlying4 rfl _ rfl) ?_
      exact ⟨⟨_, rfl⟩, Ap13r6, cp13r6, Aj13r6, cj13r6, N14r6, bl, sz, b_B1, b_B2, n_N14r6, o_13_0, o_13_1, cl_15_14, cl_15_13, (so s_25), (so s_26), (so s_27), (so s_28), (so s_29), (so s_30), (so s_31), (so s_32), (so s_33), (so s_34), (so s_35), (so s_36), (fun _ => Sv.self (by rw [zq]; decide) _), (so s_38), (so s_8)⟩
    | 13, _ =>
      obtain rfl := Option.some.inj (show some _ = some o from ho); clear ho
      have v25 := s_25 (dp hdep 0)
      have v26 := s_26 (dp hdep 1)
      have v32 := s_32 (dp hdep 7)
      have v37 := s_37 (dp hdep 12)
      refine dj_call (i := 13) (f := 41) (args := #[.agg #[.slice A1 rs.length c1, .slice A2 bs.length c2], .int .i64 (k : Int), .int .i64 (x - 1), .bool y]) rfl (.inl rfl) (ev_fn rfl (mp4 v25.eval v26.eval v32.eval v37.eval) (by kernel_rfl) _ rfl) (with_any A1 c1 A2 c2 rs bs k (x - 1) y _ ⟨(hs.r.below bl), (hs.b.below bl)⟩ (by omega) (by omega) (by omega) (by omega)) ?_
      intro e wk13 hR
      obtain ⟨Ap13r6, cp13r6, Aj13r6, cj13r6, rfl, hC13, hJ13, hb13⟩ := hR
      refine ⟨_, rfl, ?_⟩
      have hg := g0 hb13
      have hraw0 := hC13
      have hown0 := Own.mono (hC13) sz
      have hraw1 := hJ13
      have hown1 := Own.mono (hJ13) sz
      exact ⟨⟨_, rfl⟩, Ap13r6, cp13r6, Aj13r6, cj13r6, N14r6, (Below.gN bl hg bl.size), (Nat.le_trans sz hg.size), (b_B1.gN hg), (b_B2.gN hg), (fun h => ⟨(n_N14r6 h).1, by
          have e0 : L 15 = false := by
            cases hc : L 15
            · rfl
            · exact absurd (cl_15_13 hc) (by rw [hL]; decide)
          have h0 := (n_N14r6 h).2.gN hg
          rw [e0] at h0
          show Bx _ _ _ (bif L 15 then _ else _)
          rw [e0]
          exact h0⟩), (fun _ => hown0), (fun _ => hown1), cl_15_14, (fun _ => rfl), (so s_25), (so s_26), (so s_27), (so s_28), (so s_29), (so s_30), (so s_31), (so s_32), (so s_33), (so s_34), (so s_35), (so s_36), (so s_37), (fun _ => Sv.self (by rw [zq]; decide) _), (so s_8)⟩
    | 14, _ =>
      obtain rfl := Option.some.inj (show some _ = some o from ho); clear ho
      refine dj_val (i := 14) rfl (.inl rfl) (w' := wc.alloc (.cells (#[.slice none 0 0, .slice none 0 0]) 25)) (v := .pointer (some ⟨wc.heap.size, 0, none⟩)) (ev_alloc (z := .agg (#[.slice none 0 0, .slice none 0 0])) (by kernel_rfl) (by kernel_rfl) _ rfl) ?_
      have hx := Bx.new wc 25 (#[.slice none 0 0, .slice none 0 0])
      have hg := g0 (al wc (.cells (#[.slice none 0 0, .slice none 0 0]) 25))
      have e0 : L 15 = false := by
        cases hc : L 15
        · rfl
        · exact absurd (cl_15_14 hc) (by rw [hL]; decide)
      replace hx : Bx (wc.alloc (.cells (#[.slice none 0 0, .slice none 0 0]) 25)) wc.heap.size 25 (bif L 15 then (#[.slice Ap13r6 (rs.set k (x - 1)).length cp13r6, .slice Aj13r6 (bs.set k y).length cj13r6]) else (#[.slice none 0 0, .slice none 0 0])) := by rw [e0]; exact hx
      exact ⟨⟨_, rfl⟩, Ap13r6, cp13r6, Aj13r6, cj13r6, wc.heap.size, (Below.gN bl hg bl.size), (Nat.le_trans sz hg.size), (b_B1.gN hg), (b_B2.gN hg), (fun _ => ⟨sz, hx⟩), (fun h => Own.gN (o_13_0 h) hg), (fun h => Own.gN (o_13_1 h) hg), (fun _ => rfl), cl_15_13, (so s_25), (so s_26), (so s_27), (so s_28), (so s_29), (so s_30), (so s_31), (so s_32), (so s_33), (so s_34), (so s_35), (so s_36), (so s_37), (so s_38), (fun _ => Sv.self (by rw [zq]; decide) _)⟩
    | 15, _ =>
      obtain rfl := Option.some.inj (show some _ = some o from ho); clear ho
      have v8 := s_8 (dp hdep 14)
      have v38 := s_38 (dp hdep 13)
      have xN14r6 := (n_N14r6 (dp hdep 14)).2
      rw [hL] at xN14r6
      refine dj_skip (i := 15) rfl rfl (.inl rfl) (w' := wc.setRow N14r6 (#[.slice Ap13r6 (rs.set k (x - 1)).length cp13r6, .slice Aj13r6 (bs.set k y).length cj13r6])) (ev_srow v8.eval v38.eval xN14r6 (n := 2) (by kernel_rfl) rfl rfl (by simp [Value.oneCell']) _ rfl) ?_
      have hg := grw xN14r6 (#[.slice Ap13r6 (rs.set k (x - 1)).length cp13r6, .slice Aj13r6 (bs.set k y).length cj13r6])
      have hx := xN14r6.row (#[.slice Ap13r6 (rs.set k (x - 1)).length cp13r6, .slice Aj13r6 (bs.set k y).length cj13r6])
      exact ⟨⟨undef, rfl⟩, Ap13r6, cp13r6, Aj13r6, cj13r6, N14r6, (Below.gB bl hg bl.size (by have := (n_N14r6 (dp hdep 14)).1; omega)), (Nat.le_trans sz hg.size), (b_B1.gB hg (by have := (n_N14r6 (dp hdep 14)).1; omega)), (b_B2.gB hg (by have := (n_N14r6 (dp hdep 14)).1; omega)), (fun h => ⟨(n_N14r6 h).1, hx⟩), (fun h => Own.gBT (o_13_0 h) hg xN14r6 (by decide)), (fun h => Own.gBT (o_13_1 h) hg xN14r6 (by decide)), (fun _ => dp hdep 14), (fun _ => dp hdep 13), s_25, s_26, s_27, s_28, s_29, s_30, s_31, s_32, s_33, s_34, s_35, s_36, s_37, s_38, s_8⟩
    | k + 16, h => exact absurd h (by omega)
  · intro L hall ac27 wc27 hF hJ
    obtain ⟨Ap13r6, cp13r6, Aj13r6, cj13r6, N14r6, bl, sz, b_B1, b_B2, n_N14r6, o_13_0, o_13_1, cl_15_14, cl_15_13, s_25, s_26, s_27, s_28, s_29, s_30, s_31, s_32, s_33, s_34, s_35, s_36, s_37, s_38, s_8⟩ := hJ
    have hA27 : Ag ac27 43 [(1, .int .i64 (k : Int)), (4, .pointer (some ⟨B2, 0, none⟩)), (5, .bool false), (6, .int .i64 0), (8, .pointer (some ⟨N14r6, 0, none⟩))] := ((((((Ag.nil (hF.1.trans hA25.1) (hF.2.1.trans hA25.2.1)).cons (s_8 (hall 14 (by decide)))).cons (hF.sv (s := 6) (by kernel_rfl) (hA25.get (i := 6) (v := .int .i64 0)))).cons (hF.sv (s := 5) (by kernel_rfl) (hA25.get (i := 5) (v := .bool false)))).cons (hF.sv (s := 4) (by kernel_rfl) (hA25.get (i := 4) (v := .pointer (some ⟨B2, 0, none⟩))))).cons (hF.sv (s := 1) (by kernel_rfl) (hA25.get (i := 1) (v := .int .i64 (k : Int)))))
    have bl27 := bl
    have sz27 := sz
    have b27_B1 := b_B1
    have b27_B2 := b_B2
    have n27_N14r6 := (n_N14r6 (hall 14 (by decide))).1
    have b27_N14r6 : Bx wc27 N14r6 25 (#[.slice Ap13r6 (rs.set k (x - 1)).length cp13r6, .slice Aj13r6 (bs.set k y).length cj13r6]) := by
      have h := (n_N14r6 (hall 14 (by decide))).2
      rw [hall 15 (by decide)] at h
      exact h
    have l27_N14r6 := b27_N14r6.lt
    have o27_13_0 := o_13_0 (hall 13 (by decide))
    have hh27_13_0 := Own.hi o27_13_0
    have o27_13_1 := o_13_1 (hall 13 (by decide))
    have hh27_13_1 := Own.hi o27_13_1
    clear hF bl sz b_B1 b_B2 n_N14r6 o_13_0 o_13_1 cl_15_14 cl_15_13 s_25 s_26 s_27 s_28 s_29 s_30 s_31 s_32 s_33 s_34 s_35 s_36 s_37 s_38 s_8 hall hA25
    refine then_n ?_
    refine wp_seq ?_
    refine region_D (n := 7) (by kernel_rfl) (by kernel_rfl) rfl (fun L ac wc => Below w.heap.size w wc ∧ wc27.heap.size ≤ wc.heap.size ∧ Bx wc B2 25 (bif L 4 then (#[.slice Ap13r6 (rs.set k (x - 1)).length cp13r6, .slice Aj13r6 (bs.set k y).length cj13r6]) else (#[.slice none 0 0, .slice none 0 0])) ∧ Bx wc N14r6 25 (#[.slice Ap13r6 (rs.set k (x - 1)).length cp13r6, .slice Aj13r6 (bs.set k y).length cj13r6]) ∧ Own wc (w8.heap.size) 3 1 (.slice Ap13r6 (rs.set k (x - 1)).length cp13r6) (rs.set k (x - 1)).length (flat iva (rs.set k (x - 1))) ∧ Own wc (w8.heap.size) 4 1 (.slice Aj13r6 (bs.set k y).length cj13r6) (bs.set k y).length (flat bva (bs.set k y)) ∧ (L 0 = true → Sv ac 39 (.agg #[.slice Ap13r6 (rs.set k (x - 1)).length cp13r6, .slice Aj13r6 (bs.set k y).length cj13r6])) ∧ (L 1 = true → Sv ac 40 (.agg #[.slice Ap13r6 (rs.set k (x - 1)).length cp13r6, .slice Aj13r6 (bs.set k y).length cj13r6])) ∧ (L 2 = true → Sv ac 41 (.int .i64 (k : Int))) ∧ (L 3 = true → Sv ac 42 (.bool (fre ⟨rs.set k (x - 1), bs.set k y⟩ k))) ∧ (L 5 = true → Sv ac 5 (.bool (fre ⟨rs.set k (x - 1), bs.set k y⟩ k))) ∧ (L 6 = true → Sv ac 6 (.int .i64 0))) ⟨(Below.gN bl27 (gdr _) bl27.size), (Nat.le_refl _), (b27_B2.gN (gdr _)), (b27_N14r6.gN (gdr _)), (Own.gN o27_13_0 (gdr _)), (Own.gN o27_13_1 (gdr _)), (fun h => by cases h), (fun h => by cases h), (fun h => by cases h), (fun h => by cases h), (fun h => by cases h), (fun h => by cases h)⟩ ?_ ?_
    · intro iq hiq o ho L hL hdep ac wc hF hJ
      obtain ⟨bl, sz, b_B2, b_N14r6, p_0, p_1, s_39, s_40, s_41, s_42, s_5, s_6⟩ := hJ
      have zq := hF.1.trans hA27.1
      match iq, hiq with
      | 0, _ =>
        obtain rfl := Option.some.inj (show some _ = some o from ho); clear ho
        have v8 := hF.sv (s := 8) (by kernel_rfl) (hA27.get (i := 8) (v := .pointer (some ⟨N14r6, 0, none⟩)))
        refine dj_val (i := 0) (v := .agg #[.slice Ap13r6 (rs.set k (x - 1)).length cp13r6, .slice Aj13r6 (bs.set k y).length cj13r6]) rfl (.inl rfl) (ev_row v8.eval b_N14r6 Try.underlying25 rfl (n := 2) (by kernel_rfl) rfl _ rfl) ?_
        exact ⟨⟨_, rfl⟩, bl, sz, b_B2, b_N14r6, p_0, p_1, (fun _ => Sv.self (by rw [zq]; decide) _), (so s_40), (so s_41), (so s_42), (so s_5), (so s_6)⟩
      | 1, _ =>
        obtain rfl := Option.some.inj (show some _ = some o from ho); clear ho
        have v8 := hF.sv (s := 8) (by kernel_rfl) (hA27.get (i := 8) (v := .pointer (some ⟨N14r6, 0, none⟩)))
        refine dj_val (i := 1) (v := .agg #[.slice Ap13r6 (rs.set k (x - 1)).length cp13r6, .slice Aj13r6 (bs.set k y).length cj13r6]) rfl (.inl rfl) (ev_row v8.eval b_N14r6 Try.underlying25 rfl (n := 2) (by kernel_rfl) rfl _ rfl) ?_
        exact ⟨⟨_, rfl⟩, bl, sz, b_B2, b_N14r6, p_0, p_1, (so s_39), (fun _ => Sv.self (by rw [zq]; decide) _), (so s_41), (so s_42), (so s_5), (so s_6)⟩
      | 2, _ =>
        obtain rfl := Option.some.inj (show some _ = some o from ho); clear ho
        have v1 := hF.sv (s := 1) (by kernel_rfl) (hA27.get (i := 1) (v := .int .i64 (k : Int)))
        refine dj_val (i := 2) (v := .int .i64 (k : Int)) rfl (.inl rfl) (ev_move v1.eval _ rfl) ?_
        exact ⟨⟨_, rfl⟩, bl, sz, b_B2, b_N14r6, p_0, p_1, (so s_39), (so s_40), (fun _ => Sv.self (by rw [zq]; decide) _), (so s_42), (so s_5), (so s_6)⟩
      | 3, _ =>
        obtain rfl := Option.some.inj (show some _ = some o from ho); clear ho
        have v40 := s_40 (dp hdep 1)
        have v41 := s_41 (dp hdep 2)
        refine dj_call (i := 3) (f := 40) (args := #[.agg #[.slice Ap13r6 (rs.set k (x - 1)).length cp13r6, .slice Aj13r6 (bs.set k y).length cj13r6], .int .i64 (k : Int)]) rfl (.inl rfl) (ev_fn rfl (mp2 v40.eval v41.eval) (by kernel_rfl) _ rfl) (sfree_any Ap13r6 cp13r6 Aj13r6 cj13r6 (rs.set k (x - 1)) (bs.set k y) k _ ⟨(OwnR.gr (e := 3) ⟨rfl, p_0⟩), (OwnR.gr (e := 4) ⟨rfl, p_1⟩)⟩ (by first | omega | (rw [List.length_set] <;> omega)) (by first | omega | (rw [List.length_set] <;> omega))) ?_
        intro e wk3 hR
        obtain ⟨rfl, hb3⟩ := hR
        refine ⟨_, rfl, ?_⟩
        have hg := g0 hb3
        exact ⟨⟨_, rfl⟩, (Below.gN bl hg bl.size), (Nat.le_trans sz hg.size), (b_B2.gN hg), (b_N14r6.gN hg), (Own.gN p_0 hg), (Own.gN p_1 hg), (so s_39), (so s_40), (so s_41), (fun _ => Sv.self (by rw [zq]; decide) _), (so s_5), (so s_6)⟩
      | 4, _ =>
        obtain rfl := Option.some.inj (show some _ = some o from ho); clear ho
        have v4 := hF.sv (s := 4) (by kernel_rfl) (hA27.get (i := 4) (v := .pointer (some ⟨B2, 0, none⟩)))
        have v39 := s_39 (dp hdep 0)
        have eB2 : L 4 = false := hL
        have yB2 := b_B2
        rw [eB2] at yB2
        refine dj_skip (i := 4) rfl rfl (.inl rfl) (w' := wc.setRow B2 (#[.slice Ap13r6 (rs.set k (x - 1)).length cp13r6, .slice Aj13r6 (bs.set k y).length cj13r6])) (ev_srow v4.eval v39.eval yB2 (n := 2) (by kernel_rfl) rfl rfl (by simp [Value.oneCell']) _ rfl) ?_
        have hg := grw yB2 (#[.slice Ap13r6 (rs.set k (x - 1)).length cp13r6, .slice Aj13r6 (bs.set k y).length cj13r6])
        have hx := yB2.row (#[.slice Ap13r6 (rs.set k (x - 1)).length cp13r6, .slice Aj13r6 (bs.set k y).length cj13r6])
        exact ⟨⟨undef, rfl⟩, (Below.gB bl hg bl.size (by omega)), (Nat.le_trans sz hg.size), hx, (b_N14r6.gB hg (by omega)), (Own.gBT p_0 hg yB2 (by decide)), (Own.gBT p_1 hg yB2 (by decide)), s_39, s_40, s_41, s_42, s_5, s_6⟩
      | 5, _ =>
        obtain rfl := Option.some.inj (show some _ = some o from ho); clear ho
        have v42 := s_42 (dp hdep 3)
        refine dj_val (i := 5) (v := .bool (fre ⟨rs.set k (x - 1), bs.set k y⟩ k)) rfl (.inl rfl) (ev_assign v42.eval _ rfl) ?_
        exact ⟨⟨_, rfl⟩, bl, sz, b_B2, b_N14r6, p_0, p_1, (so s_39), (so s_40), (so s_41), (so s_42), (fun _ => Sv.self (by rw [zq]; decide) _), (so s_6)⟩
      | 6, _ =>
        obtain rfl := Option.some.inj (show some _ = some o from ho); clear ho
        refine dj_val (i := 6) (v := .int .i64 0) rfl (.inl rfl) (ev_assign (ec ac (.int .i64 0)) _ rfl) ?_
        exact ⟨⟨_, rfl⟩, bl, sz, b_B2, b_N14r6, p_0, p_1, (so s_39), (so s_40), (so s_41), (so s_42), (so s_5), (fun _ => Sv.self (by rw [zq]; decide) _)⟩
      | k + 7, h => exact absurd h (by omega)
    · intro L hall ac28 wc28 hF hJ
      obtain ⟨bl, sz, b_B2, b_N14r6, p_0, p_1, s_39, s_40, s_41, s_42, s_5, s_6⟩ := hJ
      have hA28 : Ag ac28 43 [(4, .pointer (some ⟨B2, 0, none⟩)), (5, .bool (fre ⟨rs.set k (x - 1), bs.set k y⟩ k)), (6, .int .i64 0)] := ((((Ag.nil (hF.1.trans hA27.1) (hF.2.1.trans hA27.2.1)).cons (s_6 (hall 6 (by decide)))).cons (s_5 (hall 5 (by decide)))).cons (hF.sv (s := 4) (by kernel_rfl) (hA27.get (i := 4) (v := .pointer (some ⟨B2, 0, none⟩)))))
      have bl28 := bl
      have sz28 := sz
      have b28_B2 : Bx wc28 B2 25 (#[.slice Ap13r6 (rs.set k (x - 1)).length cp13r6, .slice Aj13r6 (bs.set k y).length cj13r6]) := by
        have h := b_B2
        rw [hall 4 (by decide)] at h
        exact h
      have b28_N14r6 := b_N14r6
      have p28_0 := p_0
      have p28_1 := p_1
      clear hF bl sz b_B2 b_N14r6 p_0 p_1 s_39 s_40 s_41 s_42 s_5 s_6 hall hA27
      refine then_n ?_
      refine wp_ret ?_
      refine bodyPost_ret (rs_ctt (v := .bool (fre ⟨rs.set k (x - 1), bs.set k y⟩ k)) (v2 := .int .i64 0) Try.results15 hA28 (by kernel_rfl) (by kernel_rfl) (by kernel_rfl) b28_B2 Try.underlying25 rfl (by kernel_rfl)) hA28.2.1 ?_
      rw [unr_ok ha hx (by omega), if_neg hp23]
      refine ⟨Ap13r6, cp13r6, Aj13r6, cj13r6, ?_, ?_, ?_, bl28⟩
      · show _ = Ending.returned (.tuple #[.agg #[.slice _ (rs.set k (x - 1)).length _, .slice _ (bs).length _], .bool (fre ⟨rs.set k (x - 1), bs⟩ k), .int .i64 0]); rw [set_same hy]
      · show Own _ _ _ _ (.slice _ (rs.set k (x - 1)).length _) (rs.set k (x - 1)).length (flat iva (rs.set k (x - 1))); exact Own.mono p28_0 (by omega)
      · show Own _ _ _ _ (.slice _ (bs).length _) (bs).length (flat bva (bs)); rw [set_same hy] at p28_1; exact Own.mono p28_1 (by omega)

theorem sUnref_any (A1 : Option Addr) (c1 : Nat) (A2 : Option Addr) (c2 : Nat) (rs : List Int) (bs : List Bool) (k : Int) (w : World) (hs : GS w A1 c1 A2 c2 rs bs) (hl : rs.length ≤ 900000) (hb : bs.length ≤ 900000) : Calls Try.prog 15 #[.agg #[.slice A1 rs.length c1, .slice A2 bs.length c2], .int .i64 k] w (RSl w (unr ⟨rs, bs⟩ k).1 fun v => .tuple #[v, .bool (unr ⟨rs, bs⟩ k).2.1, .int .i64 (unr ⟨rs, bs⟩ k).2.2]) := by
  by_cases ha : ask ⟨rs, bs⟩ k = 0
  · obtain ⟨kn, rfl, _, _⟩ := ask_of ha
    exact sUnref_ok1 A1 c1 A2 c2 rs bs kn w hs ha
  · exact sUnref_bad A1 c1 A2 c2 rs bs k w hs hl hb ha

set_option maxHeartbeats 4000000 in
theorem sStart_bad (A1 : Option Addr) (c1 : Nat) (A2 : Option Addr) (c2 : Nat) (rs : List Int) (bs : List Bool) (k : Int) (w : World) (hs : GS w A1 c1 A2 c2 rs bs) (hl : rs.length ≤ 900000) (hb : bs.length ≤ 900000) (ha : ask ⟨rs, bs⟩ k ≠ 0) : Calls Try.prog 17 #[.agg #[.slice A1 rs.length c1, .slice A2 bs.length c2], .int .i64 k] w (RSl w (sta ⟨rs, bs⟩ k).1 fun v => .tuple #[v, .int .i64 (sta ⟨rs, bs⟩ k).2]) := by
  have hbel0 := below0 w
  refine sx_enter (N := 38) [(0, .agg #[.slice A1 rs.length c1, .slice A2 bs.length c2]), (1, .int .i64 k)] Try.func17 rfl Try.ntmps17 (by simp) (fun a z d s => (((Ag.nil z d).cons (s 1 _ rfl)).cons (s 0 _ rfl))) ?_
  intro a0 hA0
  refine wp_seq ?_
  refine wp_region_lit ?_
  refine sx_new (cs := #[.slice A1 rs.length c1, .slice A2 bs.length c2]) (t := 25) hA0 rfl (by decide) (.inl rfl) (ev_box (hA0.ev (i := 0) (v := .agg #[.slice A1 rs.length c1, .slice A2 bs.length c2])) rfl _ rfl) ?_
  intro B1 w1 a1 hB1 hx1 hg1 hA1
  clear hA0
  have hs1 := hg1.size
  have hl1 := hx1.lt
  refine sx_new (cs := #[.slice none 0 0, .slice none 0 0]) (t := 25) hA1 rfl (by decide) (.inl rfl) (ev_alloc (z := .agg (#[.slice none 0 0, .slice none 0 0])) (by kernel_rfl) (by kernel_rfl) _ rfl) ?_
  intro B2 w2 a2 hB2 hx2 hg2 hA2
  clear hA1
  have hs2 := hg2.size
  have hl2 := hx2.lt
  refine sx_val hA2 rfl (ev_assign (ec _ (.int .i64 0)) _ rfl) ?_
  intro a3 hA3; clear hA2
  refine sx_nil ?_
  refine then_n ?_
  refine wp_seq ?_
  refine wp_region_lit ?_
  have hx1_4 := hx1.gN hg2
  refine sx_val (v := .agg #[.slice A1 rs.length c1, .slice A2 bs.length c2]) hA3 rfl (ev_row (hA3.ev (i := 2) (v := .pointer (some ⟨B1, 0, none⟩))) hx1_4 Try.underlying25 rfl (n := 2) (by kernel_rfl) rfl _ rfl) ?_
  intro a5 hA5; clear hA3
  refine sx_val hA5 rfl (ev_move (hA5.ev (i := 1) (v := .int .i64 k)) _ rfl) ?_
  intro a6 hA6; clear hA5
  have hbel0_8 := Below.gN hbel0 hg1 hbel0.size
  have hbel0_9 := Below.gN hbel0_8 hg2 hbel0_8.size
  refine sx_call (f := 39) (args := #[.agg #[.slice A1 rs.length c1, .slice A2 bs.length c2], .int .i64 k]) hA6 rfl (by decide) (.inl rfl) (ev_fn rfl (mp2 (hA6.ev (i := 7) (v := .agg #[.slice A1 rs.length c1, .slice A2 bs.length c2])) (hA6.ev (i := 8) (v := .int .i64 k))) (by kernel_rfl) _ rfl) (asked_any A1 c1 A2 c2 rs bs k _ ⟨(hs.r.below hbel0_9), (hs.b.below hbel0_9)⟩ (by omega) (by omega)) ?_
  intro e7 w7 hR7
  obtain ⟨rfl, hb7⟩ := hR7
  refine ⟨_, rfl, ?_⟩
  intro a7 hA7
  clear hA6
  have hg7 := g0 hb7
  have hs7 := hg7.size
  clear hb7
  refine sx_val hA7 rfl (ev_assign (hA7.ev (i := 9) (v := .int .i64 (ask ⟨rs, bs⟩ k))) _ rfl) ?_
  intro a10 hA10; clear hA7
  refine sx_nil ?_
  refine then_n ?_
  refine wp_seq ?_
  refine wp_block ?_
  refine wp_seq ?_
  refine wp_region_lit ?_
  refine sx_val hA10 rfl (ev_move (hA10.ev (i := 6) (v := .int .i64 (ask ⟨rs, bs⟩ k))) _ rfl) ?_
  intro a11 hA11; clear hA10
  refine sx_val (v := .bool true) hA11 rfl (ev_neqB (k := .i64) (m := (ask ⟨rs, bs⟩ k)) (n := 0) (hA11.ev (i := 11)) (ec _ (.int .i64 0)) (by simpa using (decide_eq_false ha)) _ rfl) ?_
  intro a12 hA12; clear hA11
  refine sx_val hA12 rfl (ev_assign (hA12.ev (i := 12) (v := .bool true)) _ rfl) ?_
  intro a13 hA13; clear hA12
  refine sx_nil ?_
  refine then_n ?_
  refine wp_cond_true (hA13.ev (i := 10) (v := .bool true)) ?_
  refine wp_seq ?_
  refine wp_region_lit ?_
  refine sx_val (v := .agg #[.slice none 0 0, .slice none 0 0]) hA13 rfl (bd0_Slots _ rfl) ?_
  intro a14 hA14; clear hA13
  refine sx_val hA14 rfl (ev_move (hA14.ev (i := 6) (v := .int .i64 (ask ⟨rs, bs⟩ k))) _ rfl) ?_
  intro a15 hA15; clear hA14
  have hx2_17 := hx2.gN hg7
  refine sx_store hA15 rfl (.inl rfl) rfl (hA15.ev (i := 4) (v := .pointer (some ⟨B2, 0, none⟩))) (hA15.ev (i := 13) (v := .agg #[.slice none 0 0, .slice none 0 0])) hx2_17 (by kernel_rfl) rfl (by simp [Value.oneCell']) ?_
  intro w16 hx16 hg16
  have hs16 := hg16.size
  refine sx_val hA15 rfl (ev_assign (hA15.ev (i := 14) (v := .int .i64 (ask ⟨rs, bs⟩ k))) _ rfl) ?_
  intro a18 hA18; clear hA15
  refine sx_nil ?_
  refine then_n ?_
  refine wp_ret ?_
  refine blk_r ?_
  refine then_r ?_
  refine bodyPost_ret (rs_ct (v := .int .i64 (ask ⟨rs, bs⟩ k)) Try.results17 hA18 (by kernel_rfl) (by kernel_rfl) hx16 Try.underlying25 rfl (by kernel_rfl)) hA18.2.1 ?_
  rw [show sta ⟨rs, bs⟩ k = (Ss.nil, ask ⟨rs, bs⟩ k) from if_pos ha]
  have hbel0_19 := Below.gN hbel0_9 hg7 hbel0_9.size
  have hbel0_20 := Below.gB hbel0_19 hg16 hbel0_19.size (by omega)
  exact RSl.nil rfl hbel0_20

set_option maxHeartbeats 4000000 in
theorem sStart_ok1 (A1 : Option Addr) (c1 : Nat) (A2 : Option Addr) (c2 : Nat) (rs : List Int) (bs : List Bool) (k : Nat) (w : World) (hs : GS w A1 c1 A2 c2 rs bs) (ha : ask ⟨rs, bs⟩ (k : Int) = 0) : Calls Try.prog 17 #[.agg #[.slice A1 rs.length c1, .slice A2 bs.length c2], .int .i64 (k : Int)] w (RSl w (sta ⟨rs, bs⟩ (k : Int)).1 fun v => .tuple #[v, .int .i64 (sta ⟨rs, bs⟩ (k : Int)).2]) := by
  have hq := ask_zero ha
  have hkr : k < rs.length := by have := hq.2.2; simp only at this; omega
  have hok := (chs_ok hq.1).2
  have hrl : rs.length ≤ 256 := hok.hi
  have hr1 : 1 ≤ rs.length := hok.lo
  have hbl : bs.length = rs.length := hok.len
  obtain ⟨x, hx⟩ : ∃ x, rs[k]? = some x := ⟨_, List.getElem?_eq_getElem hkr⟩
  obtain ⟨y, hy⟩ : ∃ y, bs[k]? = some y := ⟨_, List.getElem?_eq_getElem (by omega)⟩
  have hxv : 0 ≤ x ∧ x ≤ 512 := hok.val k x hx
  have hoy : opm bs k = y := by simp [opm, hy]
  obtain ⟨ad1, hAd1⟩ := GR.adr hs.r iva_sz hx
  obtain ⟨ad2, hAd2⟩ := GR.adr hs.b bva_sz hy
  have hbel0 := below0 w
  refine sx_enter (N := 38) [(0, .agg #[.slice A1 rs.length c1, .slice A2 bs.length c2]), (1, .int .i64 (k : Int))] Try.func17 rfl Try.ntmps17 (by simp) (fun a z d s => (((Ag.nil z d).cons (s 1 _ rfl)).cons (s 0 _ rfl))) ?_
  intro a0 hA0
  refine wp_seq ?_
  refine wp_region_lit ?_
  refine sx_new (cs := #[.slice A1 rs.length c1, .slice A2 bs.length c2]) (t := 25) hA0 rfl (by decide) (.inl rfl) (ev_box (hA0.ev (i := 0) (v := .agg #[.slice A1 rs.length c1, .slice A2 bs.length c2])) rfl _ rfl) ?_
  intro B1 w1 a1 hB1 hx1 hg1 hA1
  clear hA0
  have hs1 := hg1.size
  have hl1 := hx1.lt
  refine sx_new (cs := #[.slice none 0 0, .slice none 0 0]) (t := 25) hA1 rfl (by decide) (.inl rfl) (ev_alloc (z := .agg (#[.slice none 0 0, .slice none 0 0])) (by kernel_rfl) (by kernel_rfl) _ rfl) ?_
  intro B2 w2 a2 hB2 hx2 hg2 hA2
  clear hA1
  have hs2 := hg2.size
  have hl2 := hx2.lt
  refine sx_val hA2 rfl (ev_assign (ec _ (.int .i64 0)) _ rfl) ?_
  intro a3 hA3; clear hA2
  refine sx_nil ?_
  refine then_n ?_
  refine wp_seq ?_
  refine wp_region_lit ?_
  have hx1_4 := hx1.gN hg2
  refine sx_val (v := .agg #[.slice A1 rs.length c1, .slice A2 bs.length c2]) hA3 rfl (ev_row (hA3.ev (i := 2) (v := .pointer (some ⟨B1, 0, none⟩))) hx1_4 Try.underlying25 rfl (n := 2) (by kernel_rfl) rfl _ rfl) ?_
  intro a5 hA5; clear hA3
  refine sx_val hA5 rfl (ev_move (hA5.ev (i := 1) (v := .int .i64 (k : Int))) _ rfl) ?_
  intro a6 hA6; clear hA5
  have hbel0_8 := Below.gN hbel0 hg1 hbel0.size
  have hbel0_9 := Below.gN hbel0_8 hg2 hbel0_8.size
  refine sx_call (f := 39) (args := #[.agg #[.slice A1 rs.length c1, .slice A2 bs.length c2], .int .i64 (k : Int)]) hA6 rfl (by decide) (.inl rfl) (ev_fn rfl (mp2 (hA6.ev (i := 7) (v := .agg #[.slice A1 rs.length c1, .slice A2 bs.length c2])) (hA6.ev (i := 8) (v := .int .i64 (k : Int)))) (by kernel_rfl) _ rfl) (asked_any A1 c1 A2 c2 rs bs (k : Int) _ ⟨(hs.r.below hbel0_9), (hs.b.below hbel0_9)⟩ (by omega) (by omega)) ?_
  intro e7 w7 hR7
  obtain ⟨rfl, hb7⟩ := hR7
  refine ⟨_, rfl, ?_⟩
  intro a7 hA7
  clear hA6
  have hg7 := g0 hb7
  have hs7 := hg7.size
  clear hb7
  refine sx_val hA7 rfl (ev_assign (hA7.ev (i := 9) (v := .int .i64 (ask ⟨rs, bs⟩ (k : Int)))) _ rfl) ?_
  intro a10 hA10; clear hA7
  refine sx_nil ?_
  refine then_n ?_
  refine wp_seq ?_
  refine wp_block ?_
  refine wp_seq ?_
  refine wp_region_lit ?_
  refine sx_val hA10 rfl (ev_move (hA10.ev (i := 6) (v := .int .i64 (ask ⟨rs, bs⟩ (k : Int)))) _ rfl) ?_
  intro a11 hA11; clear hA10
  refine sx_val (v := .bool false) hA11 rfl (ev_neqB (k := .i64) (m := (ask ⟨rs, bs⟩ (k : Int))) (n := 0) (hA11.ev (i := 11)) (ec _ (.int .i64 0)) (by simpa using (decide_eq_true ha)) _ rfl) ?_
  intro a12 hA12; clear hA11
  refine sx_val hA12 rfl (ev_assign (hA12.ev (i := 12) (v := .bool false)) _ rfl) ?_
  intro a13 hA13; clear hA12
  refine sx_nil ?_
  refine then_n ?_
  refine wp_cond_false (hA13.ev (i := 10) (v := .bool false)) ?_
  refine wp_seq ?_
  refine wp_region_lit ?_
  refine sx_val (v := .pointer (some ⟨B1, 1, none⟩)) hA13 rfl (fb_Slots_1 (hA13.ev (i := 2) (v := .pointer (some ⟨B1, 0, none⟩))) _ rfl) ?_
  intro a14 hA14; clear hA13
  have hx1_15 := hx1_4.gN hg7
  refine sx_val (v := .slice A2 bs.length c2) hA14 rfl (ev_cell (v := .slice A2 bs.length c2) (hA14.ev (i := 16) (v := .pointer (some ⟨B1, 1, none⟩))) ((hx1_15.cell 1).trans rfl) Try.underlying23 rfl _ rfl) ?_
  intro a16 hA16; clear hA14
  refine sx_val hA16 rfl (ev_move (hA16.ev (i := 1) (v := .int .i64 (k : Int))) _ rfl) ?_
  intro a17 hA17; clear hA16
  have hbel0_19 := Below.gN hbel0_9 hg7 hbel0_9.size
  obtain ⟨ad18, hAd18⟩ := GR.adr (hs.b.below hbel0_19) bva_sz hy
  refine sx_val (v := .pointer (some (ad18.add (k * 1)))) hA17 rfl (ev_idx (k := k) (hA17.ev (i := 17) (v := .slice A2 bs.length c2)) hAd18 (hA17.ev (i := 18) (v := .int .i64 (k : Int))) rfl (by omega) Try.underlying23 (by kernel_rfl) _ rfl) ?_
  intro a20 hA20; clear hA17
  refine sx_val (v := .bool y) hA20 rfl (ev_cell (hA20.ev (i := 19) (v := .pointer (some (ad18.add (k * 1))))) ((GR.cel (hs.b.below hbel0_19) hAd18 bva_sz hy) 0 _ rfl) Try.underlying4 rfl _ rfl) ?_
  intro a21 hA21; clear hA20
  refine sx_val hA21 rfl (ev_assign (hA21.ev (i := 20) (v := .bool y)) _ rfl) ?_
  intro a22 hA22; clear hA21
  refine sx_nil ?_
  refine then_n ?_
  cases hd23 : y
  rotate_left
  · rw [hd23] at hA22
    refine wp_cond_true (hA22.ev (i := 15) (v := .bool true)) ?_
    refine wp_seq ?_
    refine wp_region_lit ?_
    refine sx_val (v := .agg #[.slice none 0 0, .slice none 0 0]) hA22 rfl (bd0_Slots _ rfl) ?_
    intro a42 hA42; clear hA22
    have hx2_44 := hx2.gN hg7
    refine sx_store hA42 rfl (.inl rfl) rfl (hA42.ev (i := 4) (v := .pointer (some ⟨B2, 0, none⟩))) (hA42.ev (i := 21) (v := .agg #[.slice none 0 0, .slice none 0 0])) hx2_44 (by kernel_rfl) rfl (by simp [Value.oneCell']) ?_
    intro w43 hx43 hg43
    have hs43 := hg43.size
    refine sx_val hA42 rfl (ev_assign (ec _ (.int .i64 10)) _ rfl) ?_
    intro a45 hA45; clear hA42
    refine sx_nil ?_
    refine then_n ?_
    refine wp_ret ?_
    refine blk_r ?_
    refine then_r ?_
    refine bodyPost_ret (rs_ct (v := .int .i64 10) Try.results17 hA45 (by kernel_rfl) (by kernel_rfl) hx43 Try.underlying25 rfl (by kernel_rfl)) hA45.2.1 ?_
    rw [sta_ok ha hx, if_pos (hoy.trans hd23)]
    have hbel0_46 := Below.gB hbel0_19 hg43 hbel0_19.size (by omega)
    exact RSl.nil rfl hbel0_46
  rw [hd23] at hA22
  refine wp_cond_false (hA22.ev (i := 15) (v := .bool false)) ?_
  refine wp_seq ?_
  refine wp_region_lit ?_
  refine sx_val (v := .pointer (some ⟨B1, 0, none⟩)) hA22 rfl (fb_Slots_0 (hA22.ev (i := 2) (v := .pointer (some ⟨B1, 0, none⟩))) _ rfl) ?_
  intro a24 hA24; clear hA22
  refine sx_val (v := .slice A1 rs.length c1) hA24 rfl (ev_cell (v := .slice A1 rs.length c1) (hA24.ev (i := 23) (v := .pointer (some ⟨B1, 0, none⟩))) ((hx1_15.cell 0).trans rfl) Try.underlying22 rfl _ rfl) ?_
  intro a25 hA25; clear hA24
  refine sx_val hA25 rfl (ev_move (hA25.ev (i := 1) (v := .int .i64 (k : Int))) _ rfl) ?_
  intro a26 hA26; clear hA25
  obtain ⟨ad27, hAd27⟩ := GR.adr (hs.r.below hbel0_19) iva_sz hx
  refine sx_val (v := .pointer (some (ad27.add (k * 1)))) hA26 rfl (ev_idx (k := k) (hA26.ev (i := 24) (v := .slice A1 rs.length c1)) hAd27 (hA26.ev (i := 25) (v := .int .i64 (k : Int))) rfl (by omega) Try.underlying22 (by kernel_rfl) _ rfl) ?_
  intro a28 hA28; clear hA26
  refine sx_val (v := .int .i64 x) hA28 rfl (ev_cell (hA28.ev (i := 26) (v := .pointer (some (ad27.add (k * 1))))) ((GR.cel (hs.r.below hbel0_19) hAd27 iva_sz hx) 0 _ rfl) Try.underlying3 rfl _ rfl) ?_
  intro a29 hA29; clear hA28
  cases hd30 : decide (x = 0)
  rotate_left
  · have hp30 := of_decide_eq_true hd30
    refine sx_val (v := .bool true) hA29 rfl (ev_eqlB (k := .i64) (m := x) (n := 0) (hA29.ev (i := 27)) (ec _ (.int .i64 0)) hd30 _ rfl) ?_
    intro a35 hA35; clear hA29
    refine sx_val hA35 rfl (ev_assign (hA35.ev (i := 28) (v := .bool true)) _ rfl) ?_
    intro a36 hA36; clear hA35
    refine sx_nil ?_
    refine then_n ?_
    refine wp_cond_true (hA36.ev (i := 22) (v := .bool true)) ?_
    refine wp_seq ?_
    refine wp_region_lit ?_
    refine sx_val (v := .agg #[.slice none 0 0, .slice none 0 0]) hA36 rfl (bd0_Slots _ rfl) ?_
    intro a37 hA37; clear hA36
    have hx2_39 := hx2.gN hg7
    refine sx_store hA37 rfl (.inl rfl) rfl (hA37.ev (i := 4) (v := .pointer (some ⟨B2, 0, none⟩))) (hA37.ev (i := 29) (v := .agg #[.slice none 0 0, .slice none 0 0])) hx2_39 (by kernel_rfl) rfl (by simp [Value.oneCell']) ?_
    intro w38 hx38 hg38
    have hs38 := hg38.size
    refine sx_val hA37 rfl (ev_assign (ec _ (.int .i64 9)) _ rfl) ?_
    intro a40 hA40; clear hA37
    refine sx_nil ?_
    refine then_n ?_
    refine wp_ret ?_
    refine blk_r ?_
    refine then_r ?_
    refine bodyPost_ret (rs_ct (v := .int .i64 9) Try.results17 hA40 (by kernel_rfl) (by kernel_rfl) hx38 Try.underlying25 rfl (by kernel_rfl)) hA40.2.1 ?_
    rw [sta_ok ha hx, if_neg (by rw [hoy, hd23]; decide), if_pos hp30]
    have hbel0_41 := Below.gB hbel0_19 hg38 hbel0_19.size (by omega)
    exact RSl.nil rfl hbel0_41
  have hp30 := of_decide_eq_false hd30
  refine sx_val (v := .bool false) hA29 rfl (ev_eqlB (k := .i64) (m := x) (n := 0) (hA29.ev (i := 27)) (ec _ (.int .i64 0)) hd30 _ rfl) ?_
  intro a31 hA31; clear hA29
  refine sx_val hA31 rfl (ev_assign (hA31.ev (i := 28) (v := .bool false)) _ rfl) ?_
  intro a32 hA32; clear hA31
  refine sx_nil ?_
  refine then_n ?_
  refine wp_cond_false (hA32.ev (i := 22) (v := .bool false)) ?_
  refine wp_skip ?_
  refine blk_n ?_
  refine then_n ?_
  refine wp_seq ?_
  have hx2_33 := hx2.gN hg7
  refine region_D (n := 10) (by kernel_rfl) (by kernel_rfl) rfl (fun L ac wc => ∃ Ap7r8 : Option Addr, ∃ cp7r8 : Nat, ∃ Aj7r8 : Option Addr, ∃ cj7r8 : Nat, Below w.heap.size w wc ∧ w7.heap.size ≤ wc.heap.size ∧ Bx wc B1 25 (#[.slice A1 rs.length c1, .slice A2 bs.length c2]) ∧ Bx wc B2 25 (bif L 8 then (#[.slice Ap7r8 (rs.set k x).length cp7r8, .slice Aj7r8 (bs.set k true).length cj7r8]) else (#[.slice none 0 0, .slice none 0 0])) ∧ (L 7 = true → Own wc w7.heap.size 3 1 (.slice Ap7r8 (rs.set k x).length cp7r8) (rs.set k x).length (flat iva (rs.set k x))) ∧ (L 7 = true → Own wc w7.heap.size 4 1 (.slice Aj7r8 (bs.set k true).length cj7r8) (bs.set k true).length (flat bva (bs.set k true))) ∧ (L 8 = true → L 7 = true) ∧ (L 0 = true → Sv ac 30 (.agg #[.slice A1 rs.length c1, .slice A2 bs.length c2])) ∧ (L 1 = true → Sv ac 31 (.int .i64 (k : Int))) ∧ (L 2 = true → Sv ac 32 (.pointer (some ⟨B1, 0, none⟩))) ∧ (L 3 = true → Sv ac 33 (.slice A1 rs.length c1)) ∧ (L 4 = true → Sv ac 34 (.int .i64 (k : Int))) ∧ (L 5 = true → Sv ac 35 (.pointer (some (ad1.add (k * 1))))) ∧ (L 6 = true → Sv ac 36 (.int .i64 x)) ∧ (L 7 = true → Sv ac 37 (.agg #[.slice Ap7r8 (rs.set k x).length cp7r8, .slice Aj7r8 (bs.set k true).length cj7r8])) ∧ (L 9 = true → Sv ac 5 (.int .i64 0))) ⟨none, 0, none, 0, (Below.gN hbel0_19 (gdr _) hbel0_19.size), (Nat.le_refl _), (hx1_15.gN (gdr _)), (hx2_33.gN (gdr _)), (fun h => by cases h), (fun h => by cases h), (fun h => by cases h), (fun h => by cases h), (fun h => by cases h), (fun h => by cases h), (fun h => by cases h), (fun h => by cases h), (fun h => by cases h), (fun h => by cases h), (fun h => by cases h), (fun h => by cases h)⟩ ?_ ?_
  · intro iq hiq o ho L hL hdep ac wc hF hJ
    obtain ⟨Ap7r8, cp7r8, Aj7r8, cj7r8, bl, sz, b_B1, b_B2, o_7_0, o_7_1, cl_8_7, s_30, s_31, s_32, s_33, s_34, s_35, s_36, s_37, s_5⟩ := hJ
    have zq := hF.1.trans hA32.1
    match iq, hiq with
    | 0, _ =>
      obtain rfl := Option.some.inj (show some _ = some o from ho); clear ho
      have v2 := hF.sv (s := 2) (by kernel_rfl) (hA32.get (i := 2) (v := .pointer (some ⟨B1, 0, none⟩)))
      refine dj_val (i := 0) (v := .agg #[.slice A1 rs.length c1, .slice A2 bs.length c2]) rfl (.inl rfl) (ev_row v2.eval b_B1 Try.underlying25 rfl (n := 2) (by kernel_rfl) rfl _ rfl) ?_
      exact ⟨⟨_, rfl⟩, Ap7r8, cp7r8, Aj7r8, cj7r8, bl, sz, b_B1, b_B2, o_7_0, o_7_1, cl_8_7, (fun _ => Sv.self (by rw [zq]; decide) _), (so s_31), (so s_32), (so s_33), (so s_34), (so s_35), (so s_36), (so s_37), (so s_5)⟩
    | 1, _ =>
      obtain rfl := Option.some.inj (show some _ = some o from ho); clear ho
      have v1 := hF.sv (s := 1) (by kernel_rfl) (hA32.get (i := 1) (v := .int .i64 (k : Int)))
      refine dj_val (i := 1) (v := .int .i64 (k : Int)) rfl (.inl rfl) (ev_move v1.eval _ rfl) ?_
      exact ⟨⟨_, rfl⟩, Ap7r8, cp7r8, Aj7r8, cj7r8, bl, sz, b_B1, b_B2, o_7_0, o_7_1, cl_8_7, (so s_30), (fun _ => Sv.self (by rw [zq]; decide) _), (so s_32), (so s_33), (so s_34), (so s_35), (so s_36), (so s_37), (so s_5)⟩
    | 2, _ =>
      obtain rfl := Option.some.inj (show some _ = some o from ho); clear ho
      have v2 := hF.sv (s := 2) (by kernel_rfl) (hA32.get (i := 2) (v := .pointer (some ⟨B1, 0, none⟩)))
      refine dj_val (i := 2) (v := .pointer (some ⟨B1, 0, none⟩)) rfl (.inl rfl) (fb_Slots_0 v2.eval _ rfl) ?_
      exact ⟨⟨_, rfl⟩, Ap7r8, cp7r8, Aj7r8, cj7r8, bl, sz, b_B1, b_B2, o_7_0, o_7_1, cl_8_7, (so s_30), (so s_31), (fun _ => Sv.self (by rw [zq]; decide) _), (so s_33), (so s_34), (so s_35), (so s_36), (so s_37), (so s_5)⟩
    | 3, _ =>
      obtain rfl := Option.some.inj (show some _ = some o from ho); clear ho
      have v32 := s_32 (dp hdep 2)
      refine dj_val (i := 3) (v := .slice A1 rs.length c1) rfl (.inl rfl) (ev_cell (v := .slice A1 rs.length c1) v32.eval ((b_B1.cell 0).trans rfl) Try.underlying22 rfl _ rfl) ?_
      exact ⟨⟨_, rfl⟩, Ap7r8, cp7r8, Aj7r8, cj7r8, bl, sz, b_B1, b_B2, o_7_0, o_7_1, cl_8_7, (so s_30), (so s_31), (so s_32), (fun _ => Sv.self (by rw [zq]; decide) _), (so s_34), (so s_35), (so s_36), (so s_37), (so s_5)⟩
    | 4, _ =>
      obtain rfl := Option.some.inj (show some _ = some o from ho); clear ho
      have v1 := hF.sv (s := 1) (by kernel_rfl) (hA32.get (i := 1) (v := .int .i64 (k : Int)))
      refine dj_val (i := 4) (v := .int .i64 (k : Int)) rfl (.inl rfl) (ev_move v1.eval _ rfl) ?_
      exact ⟨⟨_, rfl⟩, Ap7r8, cp7r8, Aj7r8, cj7r8, bl, sz, b_B1, b_B2, o_7_0, o_7_1, cl_8_7, (so s_30), (so s_31), (so s_32), (so s_33), (fun _ => Sv.self (by rw [zq]; decide) _), (so s_35), (so s_36), (so s_37), (so s_5)⟩
    | 5, _ =>
      obtain rfl := Option.some.inj (show some _ = some o from ho); clear ho
      have v33 := s_33 (dp hdep 3)
      have v34 := s_34 (dp hdep 4)
      refine dj_val (i := 5) (v := .pointer (some (ad1.add (k * 1)))) rfl (.inl rfl) (ev_idx (k := k) v33.eval hAd1 v34.eval rfl (by omega) Try.underlying22 (by kernel_rfl) _ rfl) ?_
      exact ⟨⟨_, rfl⟩, Ap7r8, cp7r8, Aj7r8, cj7r8, bl, sz, b_B1, b_B2, o_7_0, o_7_1, cl_8_7, (so s_30), (so s_31), (so s_32), (so s_33), (so s_34), (fun _ => Sv.self (by rw [zq]; decide) _), (so s_36), (so s_37), (so s_5)⟩
    | 6, _ =>
      obtain rfl := Option.some.inj (show some _ = some o from ho); clear ho
      have v35 := s_35 (dp hdep 5)
      refine dj_val (i := 6) (v := .int .i64 x) rfl (.inl rfl) (ev_cell v35.eval ((GR.cel (hs.r.below bl) hAd1 iva_sz hx) 0 _ rfl) Try.underlying3 rfl _ rfl) ?_
      exact ⟨⟨_, rfl⟩, Ap7r8, cp7r8, Aj7r8, cj7r8, bl, sz, b_B1, b_B2, o_7_0, o_7_1, cl_8_7, (so s_30), (so s_31), (so s_32), (so s_33), (so s_34), (so s_35), (fun _ => Sv.self (by rw [zq]; decide) _), (so s_37), (so s_5)⟩
    | 7, _ =>
      obtain rfl := Option.some.inj (show some _ = some o from ho); clear ho
      have v30 := s_30 (dp hdep 0)
      have v31 := s_31 (dp hdep 1)
      have v36 := s_36 (dp hdep 6)
      refine dj_call (i := 7) (f := 41) (args := #[.agg #[.slice A1 rs.length c1, .slice A2 bs.length c2], .int .i64 (k : Int), .int .i64 x, .bool true]) rfl (.inl rfl) (ev_fn rfl (mp4 v30.eval v31.eval v36.eval (ec ac (.bool true))) (by kernel_rfl) _ rfl) (with_any A1 c1 A2 c2 rs bs k x true _ ⟨(hs.r.below bl), (hs.b.below bl)⟩ (by omega) (by omega) (by omega) (by omega)) ?_
      intro e wk7 hR
      obtain ⟨Ap7r8, cp7r8, Aj7r8, cj7r8, rfl, hC7, hJ7, hb7⟩ := hR
      refine ⟨_, rfl, ?_⟩
      have hg := g0 hb7
      have hraw0 := hC7
      have hown0 := Own.mono (hC7) sz
      have hraw1 := hJ7
      have hown1 := Own.mono (hJ7) sz
      exact ⟨⟨_, rfl⟩, Ap7r8, cp7r8, Aj7r8, cj7r8, (Below.gN bl hg bl.size), (Nat.le_trans sz hg.size), (b_B1.gN hg), (by
          have e0 : L 8 = false := by
            cases hc : L 8
            · rfl
            · exact absurd (cl_8_7 hc) (by rw [hL]; decide)
          have h0 := b_B2.gN hg
          rw [e0] at h0
          show Bx _ _ _ (bif L 8 then _ else _)
          rw [e0]
          exact h0), (fun _ => hown0), (fun _ => hown1), (fun _ => rfl), (so s_30), (so s_31), (so s_32), (so s_33), (so s_34), (so s_35), (so s_36), (fun _ => Sv.self (by rw [zq]; decide) _), (so s_5)⟩
    | 8, _ =>
      obtain rfl := Option.some.inj (show some _ = some o from ho); clear ho
      have v4 := hF.sv (s := 4) (by kernel_rfl) (hA32.get (i := 4) (v := .pointer (some ⟨B2, 0, none⟩)))
      have v37 := s_37 (dp hdep 7)
      have eB2 : L 8 = false := hL
      have yB2 := b_B2
      rw [eB2] at yB2
      refine dj_skip (i := 8) rfl rfl (.inl rfl) (w' := wc.setRow B2 (#[.slice Ap7r8 (rs.set k x).length cp7r8, .slice Aj7r8 (bs.set k true).length cj7r8])) (ev_srow v4.eval v37.eval yB2 (n := 2) (by kernel_rfl) rfl rfl (by simp [Value.oneCell']) _ rfl) ?_
      have hg := grw yB2 (#[.slice Ap7r8 (rs.set k x).length cp7r8, .slice Aj7r8 (bs.set k true).length cj7r8])
      have hx := yB2.row (#[.slice Ap7r8 (rs.set k x).length cp7r8, .slice Aj7r8 (bs.set k true).length cj7r8])
      exact ⟨⟨undef, rfl⟩, Ap7r8, cp7r8, Aj7r8, cj7r8, (Below.gB bl hg bl.size (by omega)), (Nat.le_trans sz hg.size), (b_B1.gB hg (by omega)), hx, (fun h => Own.gBT (o_7_0 h) hg yB2 (by decide)), (fun h => Own.gBT (o_7_1 h) hg yB2 (by decide)), (fun _ => dp hdep 7), s_30, s_31, s_32, s_33, s_34, s_35, s_36, s_37, s_5⟩
    | 9, _ =>
      obtain rfl := Option.some.inj (show some _ = some o from ho); clear ho
      refine dj_val (i := 9) (v := .int .i64 0) rfl (.inl rfl) (ev_assign (ec ac (.int .i64 0)) _ rfl) ?_
      exact ⟨⟨_, rfl⟩, Ap7r8, cp7r8, Aj7r8, cj7r8, bl, sz, b_B1, b_B2, o_7_0, o_7_1, cl_8_7, (so s_30), (so s_31), (so s_32), (so s_33), (so s_34), (so s_35), (so s_36), (so s_37), (fun _ => Sv.self (by rw [zq]; decide) _)⟩
    | k + 10, h => exact absurd h (by omega)
  · intro L hall ac34 wc34 hF hJ
    obtain ⟨Ap7r8, cp7r8, Aj7r8, cj7r8, bl, sz, b_B1, b_B2, o_7_0, o_7_1, cl_8_7, s_30, s_31, s_32, s_33, s_34, s_35, s_36, s_37, s_5⟩ := hJ
    have hA34 : Ag ac34 38 [(4, .pointer (some ⟨B2, 0, none⟩)), (5, .int .i64 0)] := (((Ag.nil (hF.1.trans hA32.1) (hF.2.1.trans hA32.2.1)).cons (s_5 (hall 9 (by decide)))).cons (hF.sv (s := 4) (by kernel_rfl) (hA32.get (i := 4) (v := .pointer (some ⟨B2, 0, none⟩)))))
    have bl34 := bl
    have sz34 := sz
    have b34_B1 := b_B1
    have b34_B2 : Bx wc34 B2 25 (#[.slice Ap7r8 (rs.set k x).length cp7r8, .slice Aj7r8 (bs.set k true).length cj7r8]) := by
      have h := b_B2
      rw [hall 8 (by decide)] at h
      exact h
    have o34_7_0 := o_7_0 (hall 7 (by decide))
    have hh34_7_0 := Own.hi o34_7_0
    have o34_7_1 := o_7_1 (hall 7 (by decide))
    have hh34_7_1 := Own.hi o34_7_1
    clear hF bl sz b_B1 b_B2 o_7_0 o_7_1 cl_8_7 s_30 s_31 s_32 s_33 s_34 s_35 s_36 s_37 s_5 hall hA32
    refine then_n ?_
    refine wp_ret ?_
    refine bodyPost_ret (rs_ct (v := .int .i64 0) Try.results17 hA34 (by kernel_rfl) (by kernel_rfl) b34_B2 Try.underlying25 rfl (by kernel_rfl)) hA34.2.1 ?_
    rw [sta_ok ha hx, if_neg (by rw [hoy, hd23]; decide), if_neg hp30]
    refine ⟨Ap7r8, cp7r8, Aj7r8, cj7r8, ?_, ?_, ?_, bl34⟩
    · show _ = Ending.returned (.tuple #[.agg #[.slice _ (rs).length _, .slice _ (bs.set k true).length _], .int .i64 0]); rw [set_same hx]
    · show Own _ _ _ _ (.slice _ (rs).length _) (rs).length (flat iva (rs)); rw [set_same hx] at o34_7_0; exact Own.mono o34_7_0 (by omega)
    · show Own _ _ _ _ (.slice _ (bs.set k true).length _) (bs.set k true).length (flat bva (bs.set k true)); exact Own.mono o34_7_1 (by omega)

theorem sStart_any (A1 : Option Addr) (c1 : Nat) (A2 : Option Addr) (c2 : Nat) (rs : List Int) (bs : List Bool) (k : Int) (w : World) (hs : GS w A1 c1 A2 c2 rs bs) (hl : rs.length ≤ 900000) (hb : bs.length ≤ 900000) : Calls Try.prog 17 #[.agg #[.slice A1 rs.length c1, .slice A2 bs.length c2], .int .i64 k] w (RSl w (sta ⟨rs, bs⟩ k).1 fun v => .tuple #[v, .int .i64 (sta ⟨rs, bs⟩ k).2]) := by
  by_cases ha : ask ⟨rs, bs⟩ k = 0
  · obtain ⟨kn, rfl, _, _⟩ := ask_of ha
    exact sStart_ok1 A1 c1 A2 c2 rs bs kn w hs ha
  · exact sStart_bad A1 c1 A2 c2 rs bs k w hs hl hb ha

set_option maxHeartbeats 4000000 in
theorem sSettle_bad (A1 : Option Addr) (c1 : Nat) (A2 : Option Addr) (c2 : Nat) (rs : List Int) (bs : List Bool) (k : Int) (w : World) (hs : GS w A1 c1 A2 c2 rs bs) (hl : rs.length ≤ 900000) (hb : bs.length ≤ 900000) (ha : ask ⟨rs, bs⟩ k ≠ 0) : Calls Try.prog 19 #[.agg #[.slice A1 rs.length c1, .slice A2 bs.length c2], .int .i64 k] w (RSl w (stl ⟨rs, bs⟩ k).1 fun v => .tuple #[v, .bool (stl ⟨rs, bs⟩ k).2.1, .int .i64 (stl ⟨rs, bs⟩ k).2.2]) := by
  have hbel0 := below0 w
  refine sx_enter (N := 37) [(0, .agg #[.slice A1 rs.length c1, .slice A2 bs.length c2]), (1, .int .i64 k)] Try.func19 rfl Try.ntmps19 (by simp) (fun a z d s => (((Ag.nil z d).cons (s 1 _ rfl)).cons (s 0 _ rfl))) ?_
  intro a0 hA0
  refine wp_seq ?_
  refine wp_region_lit ?_
  refine sx_new (cs := #[.slice A1 rs.length c1, .slice A2 bs.length c2]) (t := 25) hA0 rfl (by decide) (.inl rfl) (ev_box (hA0.ev (i := 0) (v := .agg #[.slice A1 rs.length c1, .slice A2 bs.length c2])) rfl _ rfl) ?_
  intro B1 w1 a1 hB1 hx1 hg1 hA1
  clear hA0
  have hs1 := hg1.size
  have hl1 := hx1.lt
  refine sx_new (cs := #[.slice none 0 0, .slice none 0 0]) (t := 25) hA1 rfl (by decide) (.inl rfl) (ev_alloc (z := .agg (#[.slice none 0 0, .slice none 0 0])) (by kernel_rfl) (by kernel_rfl) _ rfl) ?_
  intro B2 w2 a2 hB2 hx2 hg2 hA2
  clear hA1
  have hs2 := hg2.size
  have hl2 := hx2.lt
  refine sx_val hA2 rfl (ev_assign (ec _ (.bool false)) _ rfl) ?_
  intro a3 hA3; clear hA2
  refine sx_val hA3 rfl (ev_assign (ec _ (.int .i64 0)) _ rfl) ?_
  intro a4 hA4; clear hA3
  refine sx_nil ?_
  refine then_n ?_
  refine wp_seq ?_
  refine wp_region_lit ?_
  have hx1_5 := hx1.gN hg2
  refine sx_val (v := .agg #[.slice A1 rs.length c1, .slice A2 bs.length c2]) hA4 rfl (ev_row (hA4.ev (i := 2) (v := .pointer (some ⟨B1, 0, none⟩))) hx1_5 Try.underlying25 rfl (n := 2) (by kernel_rfl) rfl _ rfl) ?_
  intro a6 hA6; clear hA4
  refine sx_val hA6 rfl (ev_move (hA6.ev (i := 1) (v := .int .i64 k)) _ rfl) ?_
  intro a7 hA7; clear hA6
  have hbel0_9 := Below.gN hbel0 hg1 hbel0.size
  have hbel0_10 := Below.gN hbel0_9 hg2 hbel0_9.size
  refine sx_call (f := 39) (args := #[.agg #[.slice A1 rs.length c1, .slice A2 bs.length c2], .int .i64 k]) hA7 rfl (by decide) (.inl rfl) (ev_fn rfl (mp2 (hA7.ev (i := 9) (v := .agg #[.slice A1 rs.length c1, .slice A2 bs.length c2])) (hA7.ev (i := 10) (v := .int .i64 k))) (by kernel_rfl) _ rfl) (asked_any A1 c1 A2 c2 rs bs k _ ⟨(hs.r.below hbel0_10), (hs.b.below hbel0_10)⟩ (by omega) (by omega)) ?_
  intro e8 w8 hR8
  obtain ⟨rfl, hb8⟩ := hR8
  refine ⟨_, rfl, ?_⟩
  intro a8 hA8
  clear hA7
  have hg8 := g0 hb8
  have hs8 := hg8.size
  clear hb8
  refine sx_val hA8 rfl (ev_assign (hA8.ev (i := 11) (v := .int .i64 (ask ⟨rs, bs⟩ k))) _ rfl) ?_
  intro a11 hA11; clear hA8
  refine sx_nil ?_
  refine then_n ?_
  refine wp_seq ?_
  refine wp_block ?_
  refine wp_seq ?_
  refine wp_region_lit ?_
  refine sx_val hA11 rfl (ev_move (hA11.ev (i := 7) (v := .int .i64 (ask ⟨rs, bs⟩ k))) _ rfl) ?_
  intro a12 hA12; clear hA11
  refine sx_val (v := .bool true) hA12 rfl (ev_neqB (k := .i64) (m := (ask ⟨rs, bs⟩ k)) (n := 0) (hA12.ev (i := 13)) (ec _ (.int .i64 0)) (by simpa using (decide_eq_false ha)) _ rfl) ?_
  intro a13 hA13; clear hA12
  refine sx_val hA13 rfl (ev_assign (hA13.ev (i := 14) (v := .bool true)) _ rfl) ?_
  intro a14 hA14; clear hA13
  refine sx_nil ?_
  refine then_n ?_
  refine wp_cond_true (hA14.ev (i := 12) (v := .bool true)) ?_
  refine wp_seq ?_
  refine wp_region_lit ?_
  refine sx_val (v := .agg #[.slice none 0 0, .slice none 0 0]) hA14 rfl (bd0_Slots _ rfl) ?_
  intro a15 hA15; clear hA14
  refine sx_val hA15 rfl (ev_move (hA15.ev (i := 7) (v := .int .i64 (ask ⟨rs, bs⟩ k))) _ rfl) ?_
  intro a16 hA16; clear hA15
  have hx2_18 := hx2.gN hg8
  refine sx_store hA16 rfl (.inl rfl) rfl (hA16.ev (i := 4) (v := .pointer (some ⟨B2, 0, none⟩))) (hA16.ev (i := 15) (v := .agg #[.slice none 0 0, .slice none 0 0])) hx2_18 (by kernel_rfl) rfl (by simp [Value.oneCell']) ?_
  intro w17 hx17 hg17
  have hs17 := hg17.size
  refine sx_val hA16 rfl (ev_assign (ec _ (.bool false)) _ rfl) ?_
  intro a19 hA19; clear hA16
  refine sx_val hA19 rfl (ev_assign (hA19.ev (i := 16) (v := .int .i64 (ask ⟨rs, bs⟩ k))) _ rfl) ?_
  intro a20 hA20; clear hA19
  refine sx_nil ?_
  refine then_n ?_
  refine wp_ret ?_
  refine blk_r ?_
  refine then_r ?_
  refine bodyPost_ret (rs_ctt (v := .bool false) (v2 := .int .i64 (ask ⟨rs, bs⟩ k)) Try.results19 hA20 (by kernel_rfl) (by kernel_rfl) (by kernel_rfl) hx17 Try.underlying25 rfl (by kernel_rfl)) hA20.2.1 ?_
  rw [show stl ⟨rs, bs⟩ k = (Ss.nil, false, ask ⟨rs, bs⟩ k) from if_pos ha]
  have hbel0_21 := Below.gN hbel0_10 hg8 hbel0_10.size
  have hbel0_22 := Below.gB hbel0_21 hg17 hbel0_21.size (by omega)
  exact RSl.nil rfl hbel0_22

set_option maxHeartbeats 4000000 in
theorem sSettle_ok1 (A1 : Option Addr) (c1 : Nat) (A2 : Option Addr) (c2 : Nat) (rs : List Int) (bs : List Bool) (k : Nat) (w : World) (hs : GS w A1 c1 A2 c2 rs bs) (ha : ask ⟨rs, bs⟩ (k : Int) = 0) : Calls Try.prog 19 #[.agg #[.slice A1 rs.length c1, .slice A2 bs.length c2], .int .i64 (k : Int)] w (RSl w (stl ⟨rs, bs⟩ (k : Int)).1 fun v => .tuple #[v, .bool (stl ⟨rs, bs⟩ (k : Int)).2.1, .int .i64 (stl ⟨rs, bs⟩ (k : Int)).2.2]) := by
  have hq := ask_zero ha
  have hkr : k < rs.length := by have := hq.2.2; simp only at this; omega
  have hok := (chs_ok hq.1).2
  have hrl : rs.length ≤ 256 := hok.hi
  have hr1 : 1 ≤ rs.length := hok.lo
  have hbl : bs.length = rs.length := hok.len
  obtain ⟨x, hx⟩ : ∃ x, rs[k]? = some x := ⟨_, List.getElem?_eq_getElem hkr⟩
  obtain ⟨y, hy⟩ : ∃ y, bs[k]? = some y := ⟨_, List.getElem?_eq_getElem (by omega)⟩
  have hxv : 0 ≤ x ∧ x ≤ 512 := hok.val k x hx
  have hoy : opm bs k = y := by simp [opm, hy]
  obtain ⟨ad1, hAd1⟩ := GR.adr hs.r iva_sz hx
  obtain ⟨ad2, hAd2⟩ := GR.adr hs.b bva_sz hy
  have hbel0 := below0 w
  refine sx_enter (N := 37) [(0, .agg #[.slice A1 rs.length c1, .slice A2 bs.length c2]), (1, .int .i64 (k : Int))] Try.func19 rfl Try.ntmps19 (by simp) (fun a z d s => (((Ag.nil z d).cons (s 1 _ rfl)).cons (s 0 _ rfl))) ?_
  intro a0 hA0
  refine wp_seq ?_
  refine wp_region_lit ?_
  refine sx_new (cs := #[.slice A1 rs.length c1, .slice A2 bs.length c2]) (t := 25) hA0 rfl (by decide) (.inl rfl) (ev_box (hA0.ev (i := 0) (v := .agg #[.slice A1 rs.length c1, .slice A2 bs.length c2])) rfl _ rfl) ?_
  intro B1 w1 a1 hB1 hx1 hg1 hA1
  clear hA0
  have hs1 := hg1.size
  have hl1 := hx1.lt
  refine sx_new (cs := #[.slice none 0 0, .slice none 0 0]) (t := 25) hA1 rfl (by decide) (.inl rfl) (ev_alloc (z := .agg (#[.slice none 0 0, .slice none 0 0])) (by kernel_rfl) (by kernel_rfl) _ rfl) ?_
  intro B2 w2 a2 hB2 hx2 hg2 hA2
  clear hA1
  have hs2 := hg2.size
  have hl2 := hx2.lt
  refine sx_val hA2 rfl (ev_assign (ec _ (.bool false)) _ rfl) ?_
  intro a3 hA3; clear hA2
  refine sx_val hA3 rfl (ev_assign (ec _ (.int .i64 0)) _ rfl) ?_
  intro a4 hA4; clear hA3
  refine sx_nil ?_
  refine then_n ?_
  refine wp_seq ?_
  refine wp_region_lit ?_
  have hx1_5 := hx1.gN hg2
  refine sx_val (v := .agg #[.slice A1 rs.length c1, .slice A2 bs.length c2]) hA4 rfl (ev_row (hA4.ev (i := 2) (v := .pointer (some ⟨B1, 0, none⟩))) hx1_5 Try.underlying25 rfl (n := 2) (by kernel_rfl) rfl _ rfl) ?_
  intro a6 hA6; clear hA4
  refine sx_val hA6 rfl (ev_move (hA6.ev (i := 1) (v := .int .i64 (k : Int))) _ rfl) ?_
  intro a7 hA7; clear hA6
  have hbel0_9 := Below.gN hbel0 hg1 hbel0.size
  have hbel0_10 := Below.gN hbel0_9 hg2 hbel0_9.size
  refine sx_call (f := 39) (args := #[.agg #[.slice A1 rs.length c1, .slice A2 bs.length c2], .int .i64 (k : Int)]) hA7 rfl (by decide) (.inl rfl) (ev_fn rfl (mp2 (hA7.ev (i := 9) (v := .agg #[.slice A1 rs.length c1, .slice A2 bs.length c2])) (hA7.ev (i := 10) (v := .int .i64 (k : Int)))) (by kernel_rfl) _ rfl) (asked_any A1 c1 A2 c2 rs bs (k : Int) _ ⟨(hs.r.below hbel0_10), (hs.b.below hbel0_10)⟩ (by omega) (by omega)) ?_
  intro e8 w8 hR8
  obtain ⟨rfl, hb8⟩ := hR8
  refine ⟨_, rfl, ?_⟩
  intro a8 hA8
  clear hA7
  have hg8 := g0 hb8
  have hs8 := hg8.size
  clear hb8
  refine sx_val hA8 rfl (ev_assign (hA8.ev (i := 11) (v := .int .i64 (ask ⟨rs, bs⟩ (k : Int)))) _ rfl) ?_
  intro a11 hA11; clear hA8
  refine sx_nil ?_
  refine then_n ?_
  refine wp_seq ?_
  refine wp_block ?_
  refine wp_seq ?_
  refine wp_region_lit ?_
  refine sx_val hA11 rfl (ev_move (hA11.ev (i := 7) (v := .int .i64 (ask ⟨rs, bs⟩ (k : Int)))) _ rfl) ?_
  intro a12 hA12; clear hA11
  refine sx_val (v := .bool false) hA12 rfl (ev_neqB (k := .i64) (m := (ask ⟨rs, bs⟩ (k : Int))) (n := 0) (hA12.ev (i := 13)) (ec _ (.int .i64 0)) (by simpa using (decide_eq_true ha)) _ rfl) ?_
  intro a13 hA13; clear hA12
  refine sx_val hA13 rfl (ev_assign (hA13.ev (i := 14) (v := .bool false)) _ rfl) ?_
  intro a14 hA14; clear hA13
  refine sx_nil ?_
  refine then_n ?_
  refine wp_cond_false (hA14.ev (i := 12) (v := .bool false)) ?_
  refine wp_seq ?_
  refine wp_region_lit ?_
  refine sx_val (v := .pointer (some ⟨B1, 1, none⟩)) hA14 rfl (fb_Slots_1 (hA14.ev (i := 2) (v := .pointer (some ⟨B1, 0, none⟩))) _ rfl) ?_
  intro a15 hA15; clear hA14
  have hx1_16 := hx1_5.gN hg8
  refine sx_val (v := .slice A2 bs.length c2) hA15 rfl (ev_cell (v := .slice A2 bs.length c2) (hA15.ev (i := 18) (v := .pointer (some ⟨B1, 1, none⟩))) ((hx1_16.cell 1).trans rfl) Try.underlying23 rfl _ rfl) ?_
  intro a17 hA17; clear hA15
  refine sx_val hA17 rfl (ev_move (hA17.ev (i := 1) (v := .int .i64 (k : Int))) _ rfl) ?_
  intro a18 hA18; clear hA17
  have hbel0_20 := Below.gN hbel0_10 hg8 hbel0_10.size
  obtain ⟨ad19, hAd19⟩ := GR.adr (hs.b.below hbel0_20) bva_sz hy
  refine sx_val (v := .pointer (some (ad19.add (k * 1)))) hA18 rfl (ev_idx (k := k) (hA18.ev (i := 19) (v := .slice A2 bs.length c2)) hAd19 (hA18.ev (i := 20) (v := .int .i64 (k : Int))) rfl (by omega) Try.underlying23 (by kernel_rfl) _ rfl) ?_
  intro a21 hA21; clear hA18
  refine sx_val (v := .bool y) hA21 rfl (ev_cell (hA21.ev (i := 21) (v := .pointer (some (ad19.add (k * 1))))) ((GR.cel (hs.b.below hbel0_20) hAd19 bva_sz hy) 0 _ rfl) Try.underlying4 rfl _ rfl) ?_
  intro a22 hA22; clear hA21
  cases hd23 : y
  · rw [hd23] at hA22
    refine sx_val (v := .bool true) hA22 rfl (ev_notF (hA22.ev (i := 22) (v := .bool false)) _ rfl) ?_
    intro a24 hA24; clear hA22
    refine sx_val hA24 rfl (ev_assign (hA24.ev (i := 23) (v := .bool true)) _ rfl) ?_
    intro a25 hA25; clear hA24
    refine sx_nil ?_
    refine then_n ?_
    refine wp_cond_true (hA25.ev (i := 17) (v := .bool true)) ?_
    refine wp_seq ?_
    refine wp_region_lit ?_
    refine sx_val (v := .agg #[.slice none 0 0, .slice none 0 0]) hA25 rfl (bd0_Slots _ rfl) ?_
    intro a26 hA26; clear hA25
    have hx2_28 := hx2.gN hg8
    refine sx_store hA26 rfl (.inl rfl) rfl (hA26.ev (i := 4) (v := .pointer (some ⟨B2, 0, none⟩))) (hA26.ev (i := 24) (v := .agg #[.slice none 0 0, .slice none 0 0])) hx2_28 (by kernel_rfl) rfl (by simp [Value.oneCell']) ?_
    intro w27 hx27 hg27
    have hs27 := hg27.size
    refine sx_val hA26 rfl (ev_assign (ec _ (.bool false)) _ rfl) ?_
    intro a29 hA29; clear hA26
    refine sx_val hA29 rfl (ev_assign (ec _ (.int .i64 9)) _ rfl) ?_
    intro a30 hA30; clear hA29
    refine sx_nil ?_
    refine then_n ?_
    refine wp_ret ?_
    refine blk_r ?_
    refine then_r ?_
    refine bodyPost_ret (rs_ctt (v := .bool false) (v2 := .int .i64 9) Try.results19 hA30 (by kernel_rfl) (by kernel_rfl) (by kernel_rfl) hx27 Try.underlying25 rfl (by kernel_rfl)) hA30.2.1 ?_
    rw [stl_ok ha hx, if_pos (hoy.trans hd23)]
    have hbel0_31 := Below.gB hbel0_20 hg27 hbel0_20.size (by omega)
    exact RSl.nil rfl hbel0_31
  rw [hd23] at hA22
  refine sx_val (v := .bool false) hA22 rfl (ev_notT (hA22.ev (i := 22) (v := .bool true)) _ rfl) ?_
  intro a32 hA32; clear hA22
  refine sx_val hA32 rfl (ev_assign (hA32.ev (i := 23) (v := .bool false)) _ rfl) ?_
  intro a33 hA33; clear hA32
  refine sx_nil ?_
  refine then_n ?_
  refine wp_cond_false (hA33.ev (i := 17) (v := .bool false)) ?_
  refine wp_skip ?_
  refine blk_n ?_
  refine then_n ?_
  refine wp_seq ?_
  have hx2_34 := hx2.gN hg8
  refine region_D (n := 10) (by kernel_rfl) (by kernel_rfl) rfl (fun L ac wc => ∃ Ap7r6 : Option Addr, ∃ cp7r6 : Nat, ∃ Aj7r6 : Option Addr, ∃ cj7r6 : Nat, ∃ N8r6 : Nat, Below w.heap.size w wc ∧ w8.heap.size ≤ wc.heap.size ∧ Bx wc B1 25 (#[.slice A1 rs.length c1, .slice A2 bs.length c2]) ∧ Bx wc B2 25 (#[.slice none 0 0, .slice none 0 0]) ∧ (L 8 = true → w8.heap.size ≤ N8r6 ∧ Bx wc N8r6 25 (bif L 9 then (#[.slice Ap7r6 (rs.set k x).length cp7r6, .slice Aj7r6 (bs.set k false).length cj7r6]) else (#[.slice none 0 0, .slice none 0 0]))) ∧ (L 7 = true → Own wc w8.heap.size 3 1 (.slice Ap7r6 (rs.set k x).length cp7r6) (rs.set k x).length (flat iva (rs.set k x))) ∧ (L 7 = true → Own wc w8.heap.size 4 1 (.slice Aj7r6 (bs.set k false).length cj7r6) (bs.set k false).length (flat bva (bs.set k false))) ∧ (L 9 = true → L 8 = true) ∧ (L 9 = true → L 7 = true) ∧ (L 0 = true → Sv ac 25 (.agg #[.slice A1 rs.length c1, .slice A2 bs.length c2])) ∧ (L 1 = true → Sv ac 26 (.int .i64 (k : Int))) ∧ (L 2 = true → Sv ac 27 (.pointer (some ⟨B1, 0, none⟩))) ∧ (L 3 = true → Sv ac 28 (.slice A1 rs.length c1)) ∧ (L 4 = true → Sv ac 29 (.int .i64 (k : Int))) ∧ (L 5 = true → Sv ac 30 (.pointer (some (ad1.add (k * 1))))) ∧ (L 6 = true → Sv ac 31 (.int .i64 x)) ∧ (L 7 = true → Sv ac 32 (.agg #[.slice Ap7r6 (rs.set k x).length cp7r6, .slice Aj7r6 (bs.set k false).length cj7r6])) ∧ (L 8 = true → Sv ac 8 (.pointer (some ⟨N8r6, 0, none⟩)))) ⟨none, 0, none, 0, 0, (Below.gN hbel0_20 (gdr _) hbel0_20.size), (Nat.le_refl _), (hx1_16.gN (gdr _)), (hx2_34.gN (gdr _)), (fun h => by cases h), (fun h => by cases h), (fun h => by cases h), (fun h => by cases h), (fun h => by cases h), (fun h => by cases h), (fun h => by cases h), (fun h => by cases h), (fun h => by cases h), (fun h => by cases h), (fun h => by cases h), (fun h => by cases h), (fun h => by cases h), (fun h => by cases h)⟩ ?_ ?_
  · intro iq hiq o ho L hL hdep ac wc hF hJ
    obtain ⟨Ap7r6, cp7r6, Aj7r6, cj7r6, N8r6, bl, sz, b_B1, b_B2, n_N8r6, o_7_0, o_7_1, cl_9_8, cl_9_7, s_25, s_26, s_27, s_28, s_29, s_30, s_31, s_32, s_8⟩ := hJ
    have zq := hF.1.trans hA33.1
    match iq, hiq with
    | 0, _ =>
      obtain rfl := Option.some.inj (show some _ = some o from ho); clear ho
      have v2 := hF.sv (s := 2) (by kernel_rfl) (hA33.get (i := 2) (v := .pointer (some ⟨B1, 0, none⟩)))
      refine dj_val (i := 0) (v := .agg #[.slice A1 rs.length c1, .slice A2 bs.length c2]) rfl (.inl rfl) (ev_row v2.eval b_B1 Try.underlying25 rfl (n := 2) (by kernel_rfl) rfl _ rfl) ?_
      exact ⟨⟨_, rfl⟩, Ap7r6, cp7r6, Aj7r6, cj7r6, N8r6, bl, sz, b_B1, b_B2, n_N8r6, o_7_0, o_7_1, cl_9_8, cl_9_7, (fun _ => Sv.self (by rw [zq]; decide) _), (so s_26), (so s_27), (so s_28), (so s_29), (so s_30), (so s_31), (so s_32), (so s_8)⟩
    | 1, _ =>
      obtain rfl := Option.some.inj (show some _ = some o from ho); clear ho
      have v1 := hF.sv (s := 1) (by kernel_rfl) (hA33.get (i := 1) (v := .int .i64 (k : Int)))
      refine dj_val (i := 1) (v := .int .i64 (k : Int)) rfl (.inl rfl) (ev_move v1.eval _ rfl) ?_
      exact ⟨⟨_, rfl⟩, Ap7r6, cp7r6, Aj7r6, cj7r6, N8r6, bl, sz, b_B1, b_B2, n_N8r6, o_7_0, o_7_1, cl_9_8, cl_9_7, (so s_25), (fun _ => Sv.self (by rw [zq]; decide) _), (so s_27), (so s_28), (so s_29), (so s_30), (so s_31), (so s_32), (so s_8)⟩
    | 2, _ =>
      obtain rfl := Option.some.inj (show some _ = some o from ho); clear ho
      have v2 := hF.sv (s := 2) (by kernel_rfl) (hA33.get (i := 2) (v := .pointer (some ⟨B1, 0, none⟩)))
      refine dj_val (i := 2) (v := .pointer (some ⟨B1, 0, none⟩)) rfl (.inl rfl) (fb_Slots_0 v2.eval _ rfl) ?_
      exact ⟨⟨_, rfl⟩, Ap7r6, cp7r6, Aj7r6, cj7r6, N8r6, bl, sz, b_B1, b_B2, n_N8r6, o_7_0, o_7_1, cl_9_8, cl_9_7, (so s_25), (so s_26), (fun _ => Sv.self (by rw [zq]; decide) _), (so s_28), (so s_29), (so s_30), (so s_31), (so s_32), (so s_8)⟩
    | 3, _ =>
      obtain rfl := Option.some.inj (show some _ = some o from ho); clear ho
      have v27 := s_27 (dp hdep 2)
      refine dj_val (i := 3) (v := .slice A1 rs.length c1) rfl (.inl rfl) (ev_cell (v := .slice A1 rs.length c1) v27.eval ((b_B1.cell 0).trans rfl) Try.underlying22 rfl _ rfl) ?_
      exact ⟨⟨_, rfl⟩, Ap7r6, cp7r6, Aj7r6, cj7r6, N8r6, bl, sz, b_B1, b_B2, n_N8r6, o_7_0, o_7_1, cl_9_8, cl_9_7, (so s_25), (so s_26), (so s_27), (fun _ => Sv.self (by rw [zq]; decide) _), (so s_29), (so s_30), (so s_31), (so s_32), (so s_8)⟩
    | 4, _ =>
      obtain rfl := Option.some.inj (show some _ = some o from ho); clear ho
      have v1 := hF.sv (s := 1) (by kernel_rfl) (hA33.get (i := 1) (v := .int .i64 (k : Int)))
      refine dj_val (i := 4) (v := .int .i64 (k : Int)) rfl (.inl rfl) (ev_move v1.eval _ rfl) ?_
      exact ⟨⟨_, rfl⟩, Ap7r6, cp7r6, Aj7r6, cj7r6, N8r6, bl, sz, b_B1, b_B2, n_N8r6, o_7_0, o_7_1, cl_9_8, cl_9_7, (so s_25), (so s_26), (so s_27), (so s_28), (fun _ => Sv.self (by rw [zq]; decide) _), (so s_30), (so s_31), (so s_32), (so s_8)⟩
    | 5, _ =>
      obtain rfl := Option.some.inj (show some _ = some o from ho); clear ho
      have v28 := s_28 (dp hdep 3)
      have v29 := s_29 (dp hdep 4)
      refine dj_val (i := 5) (v := .pointer (some (ad1.add (k * 1)))) rfl (.inl rfl) (ev_idx (k := k) v28.eval hAd1 v29.eval rfl (by omega) Try.underlying22 (by kernel_rfl) _ rfl) ?_
      exact ⟨⟨_, rfl⟩, Ap7r6, cp7r6, Aj7r6, cj7r6, N8r6, bl, sz, b_B1, b_B2, n_N8r6, o_7_0, o_7_1, cl_9_8, cl_9_7, (so s_25), (so s_26), (so s_27), (so s_28), (so s_29), (fun _ => Sv.self (by rw [zq]; decide) _), (so s_31), (so s_32), (so s_8)⟩
    | 6, _ =>
      obtain rfl := Option.some.inj (show some _ = some o from ho); clear ho
      have v30 := s_30 (dp hdep 5)
      refine dj_val (i := 6) (v := .int .i64 x) rfl (.inl rfl) (ev_cell v30.eval ((GR.cel (hs.r.below bl) hAd1 iva_sz hx) 0 _ rfl) Try.underlying3 rfl _ rfl) ?_
      exact ⟨⟨_, rfl⟩, Ap7r6, cp7r6, Aj7r6, cj7r6, N8r6, bl, sz, b_B1, b_B2, n_N8r6, o_7_0, o_7_1, cl_9_8, cl_9_7, (so s_25), (so s_26), (so s_27), (so s_28), (so s_29), (so s_30), (fun _ => Sv.self (by rw [zq]; decide) _), (so s_32), (so s_8)⟩
    | 7, _ =>
      obtain rfl := Option.some.inj (show some _ = some o from ho); clear ho
      have v25 := s_25 (dp hdep 0)
      have v26 := s_26 (dp hdep 1)
      have v31 := s_31 (dp hdep 6)
      refine dj_call (i := 7) (f := 41) (args := #[.agg #[.slice A1 rs.length c1, .slice A2 bs.length c2], .int .i64 (k : Int), .int .i64 x, .bool false]) rfl (.inl rfl) (ev_fn rfl (mp4 v25.eval v26.eval v31.eval (ec ac (.bool false))) (by kernel_rfl) _ rfl) (with_any A1 c1 A2 c2 rs bs k x false _ ⟨(hs.r.below bl), (hs.b.below bl)⟩ (by omega) (by omega) (by omega) (by omega)) ?_
      intro e wk7 hR
      obtain ⟨Ap7r6, cp7r6, Aj7r6, cj7r6, rfl, hC7, hJ7, hb7⟩ := hR
      refine ⟨_, rfl, ?_⟩
      have hg := g0 hb7
      have hraw0 := hC7
      have hown0 := Own.mono (hC7) sz
      have hraw1 := hJ7
      have hown1 := Own.mono (hJ7) sz
      exact ⟨⟨_, rfl⟩, Ap7r6, cp7r6, Aj7r6, cj7r6, N8r6, (Below.gN bl hg bl.size), (Nat.le_trans sz hg.size), (b_B1.gN hg), (b_B2.gN hg), (fun h => ⟨(n_N8r6 h).1, by
          have e0 : L 9 = false := by
            cases hc : L 9
            · rfl
            · exact absurd (cl_9_7 hc) (by rw [hL]; decide)
          have h0 := (n_N8r6 h).2.gN hg
          rw [e0] at h0
          show Bx _ _ _ (bif L 9 then _ else _)
          rw [e0]
          exact h0⟩), (fun _ => hown0), (fun _ => hown1), cl_9_8, (fun _ => rfl), (so s_25), (so s_26), (so s_27), (so s_28), (so s_29), (so s_30), (so s_31), (fun _ => Sv.self (by rw [zq]; decide) _), (so s_8)⟩
    | 8, _ =>
      obtain rfl := Option.some.inj (show some _ = some o from ho); clear ho
      refine dj_val (i := 8) rfl (.inl rfl) (w' := wc.alloc (.cells (#[.slice none 0 0, .slice none 0 0]) 25)) (v := .pointer (some ⟨wc.heap.size, 0, none⟩)) (ev_alloc (z := .agg (#[.slice none 0 0, .slice none 0 0])) (by kernel_rfl) (by kernel_rfl) _ rfl) ?_
      have hx := Bx.new wc 25 (#[.slice none 0 0, .slice none 0 0])
      have hg := g0 (al wc (.cells (#[.slice none 0 0, .slice none 0 0]) 25))
      have e0 : L 9 = false := by
        cases hc : L 9
        · rfl
        · exact absurd (cl_9_8 hc) (by rw [hL]; decide)
      replace hx : Bx (wc.alloc (.cells (#[.slice none 0 0, .slice none 0 0]) 25)) wc.heap.size 25 (bif L 9 then (#[.slice Ap7r6 (rs.set k x).length cp7r6, .slice Aj7r6 (bs.set k false).length cj7r6]) else (#[.slice none 0 0, .slice none 0 0])) := by rw [e0]; exact hx
      exact ⟨⟨_, rfl⟩, Ap7r6, cp7r6, Aj7r6, cj7r6, wc.heap.size, (Below.gN bl hg bl.size), (Nat.le_trans sz hg.size), (b_B1.gN hg), (b_B2.gN hg), (fun _ => ⟨sz, hx⟩), (fun h => Own.gN (o_7_0 h) hg), (fun h => Own.gN (o_7_1 h) hg), (fun _ => rfl), cl_9_7, (so s_25), (so s_26), (so s_27), (so s_28), (so s_29), (so s_30), (so s_31), (so s_32), (fun _ => Sv.self (by rw [zq]; decide) _)⟩
    | 9, _ =>
      obtain rfl := Option.some.inj (show some _ = some o from ho); clear ho
      have v8 := s_8 (dp hdep 8)
      have v32 := s_32 (dp hdep 7)
      have xN8r6 := (n_N8r6 (dp hdep 8)).2
      rw [hL] at xN8r6
      refine dj_skip (i := 9) rfl rfl (.inl rfl) (w' := wc.setRow N8r6 (#[.slice Ap7r6 (rs.set k x).length cp7r6, .slice Aj7r6 (bs.set k false).length cj7r6])) (ev_srow v8.eval v32.eval xN8r6 (n := 2) (by kernel_rfl) rfl rfl (by simp [Value.oneCell']) _ rfl) ?_
      have hg := grw xN8r6 (#[.slice Ap7r6 (rs.set k x).length cp7r6, .slice Aj7r6 (bs.set k false).length cj7r6])
      have hx := xN8r6.row (#[.slice Ap7r6 (rs.set k x).length cp7r6, .slice Aj7r6 (bs.set k false).length cj7r6])
      exact ⟨⟨undef, rfl⟩, Ap7r6, cp7r6, Aj7r6, cj7r6, N8r6, (Below.gB bl hg bl.size (by have := (n_N8r6 (dp hdep 8)).1; omega)), (Nat.le_trans sz hg.size), (b_B1.gB hg (by have := (n_N8r6 (dp hdep 8)).1; omega)), (b_B2.gB hg (by have := (n_N8r6 (dp hdep 8)).1; omega)), (fun h => ⟨(n_N8r6 h).1, hx⟩), (fun h => Own.gBT (o_7_0 h) hg xN8r6 (by decide)), (fun h => Own.gBT (o_7_1 h) hg xN8r6 (by decide)), (fun _ => dp hdep 8), (fun _ => dp hdep 7), s_25, s_26, s_27, s_28, s_29, s_30, s_31, s_32, s_8⟩
    | k + 10, h => exact absurd h (by omega)
  · intro L hall ac35 wc35 hF hJ
    obtain ⟨Ap7r6, cp7r6, Aj7r6, cj7r6, N8r6, bl, sz, b_B1, b_B2, n_N8r6, o_7_0, o_7_1, cl_9_8, cl_9_7, s_25, s_26, s_27, s_28, s_29, s_30, s_31, s_32, s_8⟩ := hJ
    have hA35 : Ag ac35 37 [(1, .int .i64 (k : Int)), (4, .pointer (some ⟨B2, 0, none⟩)), (5, .bool false), (6, .int .i64 0), (8, .pointer (some ⟨N8r6, 0, none⟩))] := ((((((Ag.nil (hF.1.trans hA33.1) (hF.2.1.trans hA33.2.1)).cons (s_8 (hall 8 (by decide)))).cons (hF.sv (s := 6) (by kernel_rfl) (hA33.get (i := 6) (v := .int .i64 0)))).cons (hF.sv (s := 5) (by kernel_rfl) (hA33.get (i := 5) (v := .bool false)))).cons (hF.sv (s := 4) (by kernel_rfl) (hA33.get (i := 4) (v := .pointer (some ⟨B2, 0, none⟩))))).cons (hF.sv (s := 1) (by kernel_rfl) (hA33.get (i := 1) (v := .int .i64 (k : Int)))))
    have bl35 := bl
    have sz35 := sz
    have b35_B1 := b_B1
    have b35_B2 := b_B2
    have n35_N8r6 := (n_N8r6 (hall 8 (by decide))).1
    have b35_N8r6 : Bx wc35 N8r6 25 (#[.slice Ap7r6 (rs.set k x).length cp7r6, .slice Aj7r6 (bs.set k false).length cj7r6]) := by
      have h := (n_N8r6 (hall 8 (by decide))).2
      rw [hall 9 (by decide)] at h
      exact h
    have l35_N8r6 := b35_N8r6.lt
    have o35_7_0 := o_7_0 (hall 7 (by decide))
    have hh35_7_0 := Own.hi o35_7_0
    have o35_7_1 := o_7_1 (hall 7 (by decide))
    have hh35_7_1 := Own.hi o35_7_1
    clear hF bl sz b_B1 b_B2 n_N8r6 o_7_0 o_7_1 cl_9_8 cl_9_7 s_25 s_26 s_27 s_28 s_29 s_30 s_31 s_32 s_8 hall hA33
    refine then_n ?_
    refine wp_seq ?_
    refine region_D (n := 7) (by kernel_rfl) (by kernel_rfl) rfl (fun L ac wc => Below w.heap.size w wc ∧ wc35.heap.size ≤ wc.heap.size ∧ Bx wc B2 25 (bif L 4 then (#[.slice Ap7r6 (rs.set k x).length cp7r6, .slice Aj7r6 (bs.set k false).length cj7r6]) else (#[.slice none 0 0, .slice none 0 0])) ∧ Bx wc N8r6 25 (#[.slice Ap7r6 (rs.set k x).length cp7r6, .slice Aj7r6 (bs.set k false).length cj7r6]) ∧ Own wc (w8.heap.size) 3 1 (.slice Ap7r6 (rs.set k x).length cp7r6) (rs.set k x).length (flat iva (rs.set k x)) ∧ Own wc (w8.heap.size) 4 1 (.slice Aj7r6 (bs.set k false).length cj7r6) (bs.set k false).length (flat bva (bs.set k false)) ∧ (L 0 = true → Sv ac 33 (.agg #[.slice Ap7r6 (rs.set k x).length cp7r6, .slice Aj7r6 (bs.set k false).length cj7r6])) ∧ (L 1 = true → Sv ac 34 (.agg #[.slice Ap7r6 (rs.set k x).length cp7r6, .slice Aj7r6 (bs.set k false).length cj7r6])) ∧ (L 2 = true → Sv ac 35 (.int .i64 (k : Int))) ∧ (L 3 = true → Sv ac 36 (.bool (fre ⟨rs.set k x, bs.set k false⟩ k))) ∧ (L 5 = true → Sv ac 5 (.bool (fre ⟨rs.set k x, bs.set k false⟩ k))) ∧ (L 6 = true → Sv ac 6 (.int .i64 0))) ⟨(Below.gN bl35 (gdr _) bl35.size), (Nat.le_refl _), (b35_B2.gN (gdr _)), (b35_N8r6.gN (gdr _)), (Own.gN o35_7_0 (gdr _)), (Own.gN o35_7_1 (gdr _)), (fun h => by cases h), (fun h => by cases h), (fun h => by cases h), (fun h => by cases h), (fun h => by cases h), (fun h => by cases h)⟩ ?_ ?_
    · intro iq hiq o ho L hL hdep ac wc hF hJ
      obtain ⟨bl, sz, b_B2, b_N8r6, p_0, p_1, s_33, s_34, s_35, s_36, s_5, s_6⟩ := hJ
      have zq := hF.1.trans hA35.1
      match iq, hiq with
      | 0, _ =>
        obtain rfl := Option.some.inj (show some _ = some o from ho); clear ho
        have v8 := hF.sv (s := 8) (by kernel_rfl) (hA35.get (i := 8) (v := .pointer (some ⟨N8r6, 0, none⟩)))
        refine dj_val (i := 0) (v := .agg #[.slice Ap7r6 (rs.set k x).length cp7r6, .slice Aj7r6 (bs.set k false).length cj7r6]) rfl (.inl rfl) (ev_row v8.eval b_N8r6 Try.underlying25 rfl (n := 2) (by kernel_rfl) rfl _ rfl) ?_
        exact ⟨⟨_, rfl⟩, bl, sz, b_B2, b_N8r6, p_0, p_1, (fun _ => Sv.self (by rw [zq]; decide) _), (so s_34), (so s_35), (so s_36), (so s_5), (so s_6)⟩
      | 1, _ =>
        obtain rfl := Option.some.inj (show some _ = some o from ho); clear ho
        have v8 := hF.sv (s := 8) (by kernel_rfl) (hA35.get (i := 8) (v := .pointer (some ⟨N8r6, 0, none⟩)))
        refine dj_val (i := 1) (v := .agg #[.slice Ap7r6 (rs.set k x).length cp7r6, .slice Aj7r6 (bs.set k false).length cj7r6]) rfl (.inl rfl) (ev_row v8.eval b_N8r6 Try.underlying25 rfl (n := 2) (by kernel_rfl) rfl _ rfl) ?_
        exact ⟨⟨_, rfl⟩, bl, sz, b_B2, b_N8r6, p_0, p_1, (so s_33), (fun _ => Sv.self (by rw [zq]; decide) _), (so s_35), (so s_36), (so s_5), (so s_6)⟩
      | 2, _ =>
        obtain rfl := Option.some.inj (show some _ = some o from ho); clear ho
        have v1 := hF.sv (s := 1) (by kernel_rfl) (hA35.get (i := 1) (v := .int .i64 (k : Int)))
        refine dj_val (i := 2) (v := .int .i64 (k : Int)) rfl (.inl rfl) (ev_move v1.eval _ rfl) ?_
        exact ⟨⟨_, rfl⟩, bl, sz, b_B2, b_N8r6, p_0, p_1, (so s_33), (so s_34), (fun _ => Sv.self (by rw [zq]; decide) _), (so s_36), (so s_5), (so s_6)⟩
      | 3, _ =>
        obtain rfl := Option.some.inj (show some _ = some o from ho); clear ho
        have v34 := s_34 (dp hdep 1)
        have v35 := s_35 (dp hdep 2)
        refine dj_call (i := 3) (f := 40) (args := #[.agg #[.slice Ap7r6 (rs.set k x).length cp7r6, .slice Aj7r6 (bs.set k false).length cj7r6], .int .i64 (k : Int)]) rfl (.inl rfl) (ev_fn rfl (mp2 v34.eval v35.eval) (by kernel_rfl) _ rfl) (sfree_any Ap7r6 cp7r6 Aj7r6 cj7r6 (rs.set k x) (bs.set k false) k _ ⟨(OwnR.gr (e := 3) ⟨rfl, p_0⟩), (OwnR.gr (e := 4) ⟨rfl, p_1⟩)⟩ (by first | omega | (rw [List.length_set] <;> omega)) (by first | omega | (rw [List.length_set] <;> omega))) ?_
        intro e wk3 hR
        obtain ⟨rfl, hb3⟩ := hR
        refine ⟨_, rfl, ?_⟩
        have hg := g0 hb3
        exact ⟨⟨_, rfl⟩, (Below.gN bl hg bl.size), (Nat.le_trans sz hg.size), (b_B2.gN hg), (b_N8r6.gN hg), (Own.gN p_0 hg), (Own.gN p_1 hg), (so s_33), (so s_34), (so s_35), (fun _ => Sv.self (by rw [zq]; decide) _), (so s_5), (so s_6)⟩
      | 4, _ =>
        obtain rfl := Option.some.inj (show some _ = some o from ho); clear ho
        have v4 := hF.sv (s := 4) (by kernel_rfl) (hA35.get (i := 4) (v := .pointer (some ⟨B2, 0, none⟩)))
        have v33 := s_33 (dp hdep 0)
        have eB2 : L 4 = false := hL
        have yB2 := b_B2
        rw [eB2] at yB2
        refine dj_skip (i := 4) rfl rfl (.inl rfl) (w' := wc.setRow B2 (#[.slice Ap7r6 (rs.set k x).length cp7r6, .slice Aj7r6 (bs.set k false).length cj7r6])) (ev_srow v4.eval v33.eval yB2 (n := 2) (by kernel_rfl) rfl rfl (by simp [Value.oneCell']) _ rfl) ?_
        have hg := grw yB2 (#[.slice Ap7r6 (rs.set k x).length cp7r6, .slice Aj7r6 (bs.set k false).length cj7r6])
        have hx := yB2.row (#[.slice Ap7r6 (rs.set k x).length cp7r6, .slice Aj7r6 (bs.set k false).length cj7r6])
        exact ⟨⟨undef, rfl⟩, (Below.gB bl hg bl.size (by omega)), (Nat.le_trans sz hg.size), hx, (b_N8r6.gB hg (by omega)), (Own.gBT p_0 hg yB2 (by decide)), (Own.gBT p_1 hg yB2 (by decide)), s_33, s_34, s_35, s_36, s_5, s_6⟩
      | 5, _ =>
        obtain rfl := Option.some.inj (show some _ = some o from ho); clear ho
        have v36 := s_36 (dp hdep 3)
        refine dj_val (i := 5) (v := .bool (fre ⟨rs.set k x, bs.set k false⟩ k)) rfl (.inl rfl) (ev_assign v36.eval _ rfl) ?_
        exact ⟨⟨_, rfl⟩, bl, sz, b_B2, b_N8r6, p_0, p_1, (so s_33), (so s_34), (so s_35), (so s_36), (fun _ => Sv.self (by rw [zq]; decide) _), (so s_6)⟩
      | 6, _ =>
        obtain rfl := Option.some.inj (show some _ = some o from ho); clear ho
        refine dj_val (i := 6) (v := .int .i64 0) rfl (.inl rfl) (ev_assign (ec ac (.int .i64 0)) _ rfl) ?_
        exact ⟨⟨_, rfl⟩, bl, sz, b_B2, b_N8r6, p_0, p_1, (so s_33), (so s_34), (so s_35), (so s_36), (so s_5), (fun _ => Sv.self (by rw [zq]; decide) _)⟩
      | k + 7, h => exact absurd h (by omega)
    · intro L hall ac36 wc36 hF hJ
      obtain ⟨bl, sz, b_B2, b_N8r6, p_0, p_1, s_33, s_34, s_35, s_36, s_5, s_6⟩ := hJ
      have hA36 : Ag ac36 37 [(4, .pointer (some ⟨B2, 0, none⟩)), (5, .bool (fre ⟨rs.set k x, bs.set k false⟩ k)), (6, .int .i64 0)] := ((((Ag.nil (hF.1.trans hA35.1) (hF.2.1.trans hA35.2.1)).cons (s_6 (hall 6 (by decide)))).cons (s_5 (hall 5 (by decide)))).cons (hF.sv (s := 4) (by kernel_rfl) (hA35.get (i := 4) (v := .pointer (some ⟨B2, 0, none⟩)))))
      have bl36 := bl
      have sz36 := sz
      have b36_B2 : Bx wc36 B2 25 (#[.slice Ap7r6 (rs.set k x).length cp7r6, .slice Aj7r6 (bs.set k false).length cj7r6]) := by
        have h := b_B2
        rw [hall 4 (by decide)] at h
        exact h
      have b36_N8r6 := b_N8r6
      have p36_0 := p_0
      have p36_1 := p_1
      clear hF bl sz b_B2 b_N8r6 p_0 p_1 s_33 s_34 s_35 s_36 s_5 s_6 hall hA35
      refine then_n ?_
      refine wp_ret ?_
      refine bodyPost_ret (rs_ctt (v := .bool (fre ⟨rs.set k x, bs.set k false⟩ k)) (v2 := .int .i64 0) Try.results19 hA36 (by kernel_rfl) (by kernel_rfl) (by kernel_rfl) b36_B2 Try.underlying25 rfl (by kernel_rfl)) hA36.2.1 ?_
      rw [stl_ok ha hx, if_neg (by rw [hoy, hd23]; decide)]
      refine ⟨Ap7r6, cp7r6, Aj7r6, cj7r6, ?_, ?_, ?_, bl36⟩
      · show _ = Ending.returned (.tuple #[.agg #[.slice _ (rs).length _, .slice _ (bs.set k false).length _], .bool (fre ⟨rs, bs.set k false⟩ k), .int .i64 0]); rw [set_same hx]
      · show Own _ _ _ _ (.slice _ (rs).length _) (rs).length (flat iva (rs)); rw [set_same hx] at p36_0; exact Own.mono p36_0 (by omega)
      · show Own _ _ _ _ (.slice _ (bs.set k false).length _) (bs.set k false).length (flat bva (bs.set k false)); exact Own.mono p36_1 (by omega)

theorem sSettle_any (A1 : Option Addr) (c1 : Nat) (A2 : Option Addr) (c2 : Nat) (rs : List Int) (bs : List Bool) (k : Int) (w : World) (hs : GS w A1 c1 A2 c2 rs bs) (hl : rs.length ≤ 900000) (hb : bs.length ≤ 900000) : Calls Try.prog 19 #[.agg #[.slice A1 rs.length c1, .slice A2 bs.length c2], .int .i64 k] w (RSl w (stl ⟨rs, bs⟩ k).1 fun v => .tuple #[v, .bool (stl ⟨rs, bs⟩ k).2.1, .int .i64 (stl ⟨rs, bs⟩ k).2.2]) := by
  by_cases ha : ask ⟨rs, bs⟩ k = 0
  · obtain ⟨kn, rfl, _, _⟩ := ask_of ha
    exact sSettle_ok1 A1 c1 A2 c2 rs bs kn w hs ha
  · exact sSettle_bad A1 c1 A2 c2 rs bs k w hs hl hb ha

set_option maxHeartbeats 4000000 in
theorem sFirst_any (A1 : Option Addr) (c1 : Nat) (A2 : Option Addr) (c2 : Nat) (rs : List Int) (bs : List Bool) (w : World) (hs : GS w A1 c1 A2 c2 rs bs) (hl : rs.length ≤ 900000) (hb : bs.length ≤ 900000) : Calls Try.prog 25 #[.agg #[.slice A1 rs.length c1, .slice A2 bs.length c2]] w (RetB w (.returned (.tuple #[.int .i64 (frst ⟨rs, bs⟩).1, .int .i64 (frst ⟨rs, bs⟩).2]))) := by
  have hbel0 := below0 w
  refine sx_enter (N := 26) [(0, .agg #[.slice A1 rs.length c1, .slice A2 bs.length c2])] Try.func25 rfl Try.ntmps25 (by simp) (fun a z d s => ((Ag.nil z d).cons (s 0 _ rfl))) ?_
  intro a0 hA0
  refine wp_seq ?_
  refine wp_region_lit ?_
  refine sx_new (cs := #[.slice A1 rs.length c1, .slice A2 bs.length c2]) (t := 25) hA0 rfl (by decide) (.inl rfl) (ev_box (hA0.ev (i := 0) (v := .agg #[.slice A1 rs.length c1, .slice A2 bs.length c2])) rfl _ rfl) ?_
  intro B1 w1 a1 hB1 hx1 hg1 hA1
  clear hA0
  have hs1 := hg1.size
  have hl1 := hx1.lt
  refine sx_val hA1 rfl (ev_assign (ec _ (.int .i64 0)) _ rfl) ?_
  intro a2 hA2; clear hA1
  refine sx_val hA2 rfl (ev_assign (ec _ (.int .i64 0)) _ rfl) ?_
  intro a3 hA3; clear hA2
  refine sx_nil ?_
  refine then_n ?_
  refine wp_seq ?_
  refine wp_region_lit ?_
  refine sx_val (v := .agg #[.slice A1 rs.length c1, .slice A2 bs.length c2]) hA3 rfl (ev_row (hA3.ev (i := 1) (v := .pointer (some ⟨B1, 0, none⟩))) hx1 Try.underlying25 rfl (n := 2) (by kernel_rfl) rfl _ rfl) ?_
  intro a4 hA4; clear hA3
  have hbel0_6 := Below.gN hbel0 hg1 hbel0.size
  refine sx_call (f := 21) (args := #[.agg #[.slice A1 rs.length c1, .slice A2 bs.length c2]]) hA4 rfl (by decide) (.inl rfl) (ev_fn rfl (mp1 (hA4.ev (i := 8) (v := .agg #[.slice A1 rs.length c1, .slice A2 bs.length c2]))) (by kernel_rfl) _ rfl) (sCheck_any A1 c1 A2 c2 rs bs _ ⟨(hs.r.below hbel0_6), (hs.b.below hbel0_6)⟩ (by omega) (by omega)) ?_
  intro e5 w5 hR5
  obtain ⟨rfl, hb5⟩ := hR5
  refine ⟨_, rfl, ?_⟩
  intro a5 hA5
  clear hA4
  have hg5 := g0 hb5
  have hs5 := hg5.size
  clear hb5
  refine sx_val hA5 rfl (ev_move (hA5.ev (i := 9) (v := .tuple #[.int .i64 (chs ⟨rs, bs⟩).1, .int .i64 (chs ⟨rs, bs⟩).2])) _ rfl) ?_
  intro a7 hA7; clear hA5
  refine sx_val (v := .int .i64 (chs ⟨rs, bs⟩).1) hA7 rfl (ev_ext (hA7.ev (i := 7) (v := .tuple #[.int .i64 (chs ⟨rs, bs⟩).1, .int .i64 (chs ⟨rs, bs⟩).2])) rfl _ rfl) ?_
  intro a8 hA8; clear hA7
  refine sx_val (v := .int .i64 (chs ⟨rs, bs⟩).2) hA8 rfl (ev_ext (hA8.ev (i := 7) (v := .tuple #[.int .i64 (chs ⟨rs, bs⟩).1, .int .i64 (chs ⟨rs, bs⟩).2])) rfl _ rfl) ?_
  intro a9 hA9; clear hA8
  refine sx_val hA9 rfl (ev_assign (hA9.ev (i := 10) (v := .int .i64 (chs ⟨rs, bs⟩).1)) _ rfl) ?_
  intro a10 hA10; clear hA9
  refine sx_val hA10 rfl (ev_assign (hA10.ev (i := 11) (v := .int .i64 (chs ⟨rs, bs⟩).2)) _ rfl) ?_
  intro a11 hA11; clear hA10
  refine sx_nil ?_
  refine then_n ?_
  refine wp_seq ?_
  refine wp_seq ?_
  refine wp_region_lit ?_
  refine sx_val hA11 rfl (ev_move (hA11.ev (i := 4) (v := .int .i64 (chs ⟨rs, bs⟩).1)) _ rfl) ?_
  intro a12 hA12; clear hA11
  cases hd13 : decide ((chs ⟨rs, bs⟩).1 = 0)
  · have hp13 := of_decide_eq_false hd13
    refine sx_val (v := .bool true) hA12 rfl (ev_neqB (k := .i64) (m := (chs ⟨rs, bs⟩).1) (n := 0) (hA12.ev (i := 12)) (ec _ (.int .i64 0)) (by simpa using hd13) _ rfl) ?_
    intro a14 hA14; clear hA12
    refine sx_nil ?_
    refine then_n ?_
    refine wp_cond_true (hA14.ev (i := 13) (v := .bool true)) ?_
    refine wp_seq ?_
    refine wp_region_lit ?_
    refine sx_val hA14 rfl (ev_move (hA14.ev (i := 4) (v := .int .i64 (chs ⟨rs, bs⟩).1)) _ rfl) ?_
    intro a15 hA15; clear hA14
    refine sx_val hA15 rfl (ev_assign (ec _ (.int .i64 0)) _ rfl) ?_
    intro a16 hA16; clear hA15
    refine sx_val hA16 rfl (ev_assign (hA16.ev (i := 14) (v := .int .i64 (chs ⟨rs, bs⟩).1)) _ rfl) ?_
    intro a17 hA17; clear hA16
    refine sx_nil ?_
    refine then_n ?_
    refine wp_ret ?_
    refine then_r ?_
    refine bodyPost_ret (rs_tt (v := .int .i64 0) (v2 := .int .i64 (chs ⟨rs, bs⟩).1) Try.results25 hA17 (by kernel_rfl) (by kernel_rfl) ) hA17.2.1 ?_
    have E : frst ⟨rs, bs⟩ = (0, (chs ⟨rs, bs⟩).1) := if_pos hp13
    have hbel0_18 := Below.gN hbel0_6 hg5 hbel0_6.size
    exact ⟨by rw [E], hbel0_18⟩
  have hp13 := of_decide_eq_true hd13
  refine sx_val (v := .bool false) hA12 rfl (ev_neqB (k := .i64) (m := (chs ⟨rs, bs⟩).1) (n := 0) (hA12.ev (i := 12)) (ec _ (.int .i64 0)) (by simpa using hd13) _ rfl) ?_
  intro a19 hA19; clear hA12
  refine sx_nil ?_
  refine then_n ?_
  refine wp_cond_false (hA19.ev (i := 13) (v := .bool false)) ?_
  refine wp_skip ?_
  refine then_n ?_
  refine wp_seq ?_
  refine wp_seq ?_
  refine wp_region_lit ?_
  refine sx_val hA19 rfl (ev_assign (ec _ (.int .i64 0)) _ rfl) ?_
  intro a20 hA20; clear hA19
  refine sx_nil ?_
  refine then_n ?_
  refine wp_block ?_
  have hok := (chs_ok (s := ⟨rs, bs⟩) (by omega)).2
  have hrl : rs.length ≤ 256 := hok.hi
  have hr1 : 1 ≤ rs.length := hok.lo
  have hbl : bs.length = rs.length := hok.len
  have hx1_22 := hx1.gN hg5
  have hbel0_23 := Below.gN hbel0_6 hg5 hbel0_6.size
  refine wp_loop_ghost (fun gz a wl => ∃ (k : Nat), gz = rs.length - k ∧ Ag a 26 [(1, .pointer (some ⟨B1, 0, none⟩)), (6, .int .i64 (k : Int))] ∧ k ≤ rs.length ∧ (∀ q, q < k → fre ⟨rs, bs⟩ q = false) ∧ Bx wl B1 25 #[.slice A1 rs.length c1, .slice A2 bs.length c2] ∧ w5.heap.size ≤ wl.heap.size ∧ Below w.heap.size w wl) (rs.length - 0) ⟨0, rfl, (((Ag.nil hA20.1 hA20.2.1).cons (hA20.get (i := 6) (v := .int .i64 0))).cons (hA20.get (i := 1) (v := .pointer (some ⟨B1, 0, none⟩)))), Nat.zero_le _, (fun q h => absurd h (by omega)), hx1_22, Nat.le_refl _, hbel0_23⟩ ?_
  intro n21 a21 w21 hI21
  obtain ⟨k, hn21, hA21, q21_0, q21_1, f21_0, hsz21, hbel21⟩ := hI21
  subst hn21
  clear hA20
  have hlB1_21 := f21_0.lt
  cases hd24 : decide ((k : Int) < (rs.length : Int))
  · have hp24 := of_decide_eq_false hd24
    refine wp_seq ?_
    refine wp_seq ?_
    refine wp_region_lit ?_
    refine sx_val hA21 rfl (ev_move (hA21.ev (i := 6) (v := .int .i64 (k : Int))) _ rfl) ?_
    intro a25 hA25; clear hA21
    refine sx_val (v := .pointer (some ⟨B1, 0, none⟩)) hA25 rfl (fb_Slots_0 (hA25.ev (i := 1) (v := .pointer (some ⟨B1, 0, none⟩))) _ rfl) ?_
    intro a26 hA26; clear hA25
    refine sx_val (v := .slice A1 rs.length c1) hA26 rfl (ev_cell (v := .slice A1 rs.length c1) (hA26.ev (i := 16) (v := .pointer (some ⟨B1, 0, none⟩))) ((f21_0.cell 0).trans rfl) Try.underlying22 rfl _ rfl) ?_
    intro a27 hA27; clear hA26
    refine sx_val (v := .int .i64 (rs.length : Int)) hA27 rfl (ev_len (hA27.ev (i := 17) (v := .slice A1 rs.length c1)) Try.underlying22 _ rfl) ?_
    intro a28 hA28; clear hA27
    refine sx_val (v := .bool false) hA28 rfl (ev_lssB (k := .i64) (m := (k : Int)) (n := (rs.length : Int)) (hA28.ev (i := 15)) (hA28.ev (i := 18)) hd24 _ rfl) ?_
    intro a29 hA29; clear hA28
    refine sx_nil ?_
    refine then_n ?_
    refine wp_cond_false (hA29.ev (i := 19) (v := .bool false)) ?_
    refine wp_exit ?_
    refine then_x ?_
    refine then_x ?_
    refine blk_hit ?_
    refine then_n ?_
    refine wp_seq ?_
    refine wp_region_lit ?_
    refine sx_val hA29 rfl (ev_assign (ec _ (.int .i64 0)) _ rfl) ?_
    intro a30 hA30; clear hA29
    refine sx_val hA30 rfl (ev_assign (ec _ (.int .i64 5)) _ rfl) ?_
    intro a31 hA31; clear hA30
    refine sx_nil ?_
    refine then_n ?_
    refine wp_ret ?_
    refine bodyPost_ret (rs_tt (v := .int .i64 0) (v2 := .int .i64 5) Try.results25 hA31 (by kernel_rfl) (by kernel_rfl) ) hA31.2.1 ?_
    have hf : fr ⟨rs, bs⟩ = -1 := fr_no (fun q hq => q21_1 q (by have hq2 : q < rs.length := hq; omega))
    have E : frst ⟨rs, bs⟩ = (0, 5) := by
      unfold frst
      rw [if_neg (by omega), if_pos (by omega)]
    exact ⟨by rw [E], hbel21⟩
  have hp24 := of_decide_eq_true hd24
  refine wp_seq ?_
  refine wp_seq ?_
  refine wp_region_lit ?_
  refine sx_val hA21 rfl (ev_move (hA21.ev (i := 6) (v := .int .i64 (k : Int))) _ rfl) ?_
  intro a32 hA32; clear hA21
  refine sx_val (v := .pointer (some ⟨B1, 0, none⟩)) hA32 rfl (fb_Slots_0 (hA32.ev (i := 1) (v := .pointer (some ⟨B1, 0, none⟩))) _ rfl) ?_
  intro a33 hA33; clear hA32
  refine sx_val (v := .slice A1 rs.length c1) hA33 rfl (ev_cell (v := .slice A1 rs.length c1) (hA33.ev (i := 16) (v := .pointer (some ⟨B1, 0, none⟩))) ((f21_0.cell 0).trans rfl) Try.underlying22 rfl _ rfl) ?_
  intro a34 hA34; clear hA33
  refine sx_val (v := .int .i64 (rs.length : Int)) hA34 rfl (ev_len (hA34.ev (i := 17) (v := .slice A1 rs.length c1)) Try.underlying22 _ rfl) ?_
  intro a35 hA35; clear hA34
  refine sx_val (v := .bool true) hA35 rfl (ev_lssB (k := .i64) (m := (k : Int)) (n := (rs.length : Int)) (hA35.ev (i := 15)) (hA35.ev (i := 18)) hd24 _ rfl) ?_
  intro a36 hA36; clear hA35
  refine sx_nil ?_
  refine then_n ?_
  refine wp_cond_true (hA36.ev (i := 19) (v := .bool true)) ?_
  refine wp_skip ?_
  refine then_n ?_
  refine wp_seq ?_
  refine wp_block ?_
  refine wp_seq ?_
  refine wp_region_lit ?_
  refine sx_val (v := .agg #[.slice A1 rs.length c1, .slice A2 bs.length c2]) hA36 rfl (ev_row (hA36.ev (i := 1) (v := .pointer (some ⟨B1, 0, none⟩))) f21_0 Try.underlying25 rfl (n := 2) (by kernel_rfl) rfl _ rfl) ?_
  intro a37 hA37; clear hA36
  refine sx_val hA37 rfl (ev_move (hA37.ev (i := 6) (v := .int .i64 (k : Int))) _ rfl) ?_
  intro a38 hA38; clear hA37
  refine sx_call (f := 40) (args := #[.agg #[.slice A1 rs.length c1, .slice A2 bs.length c2], .int .i64 (k : Int)]) hA38 rfl (by decide) (.inl rfl) (ev_fn rfl (mp2 (hA38.ev (i := 22) (v := .agg #[.slice A1 rs.length c1, .slice A2 bs.length c2])) (hA38.ev (i := 23) (v := .int .i64 (k : Int)))) (by kernel_rfl) _ rfl) (sfree_any A1 c1 A2 c2 rs bs k _ ⟨(hs.r.below hbel21), (hs.b.below hbel21)⟩ (by first | omega | (rw [List.length_set] <;> omega)) (by first | omega | (rw [List.length_set] <;> omega))) ?_
  intro e39 w39 hR39
  obtain ⟨rfl, hb39⟩ := hR39
  refine ⟨_, rfl, ?_⟩
  intro a39 hA39
  clear hA38
  have hg39 := g0 hb39
  have hs39 := hg39.size
  clear hb39
  refine sx_nil ?_
  refine then_n ?_
  cases hd40 : (fre ⟨rs, bs⟩ k)
  rotate_left
  · rw [hd40] at hA39
    refine wp_cond_true (hA39.ev (i := 24) (v := .bool true)) ?_
    refine wp_seq ?_
    refine wp_region_lit ?_
    refine sx_val hA39 rfl (ev_move (hA39.ev (i := 6) (v := .int .i64 (k : Int))) _ rfl) ?_
    intro a46 hA46; clear hA39
    refine sx_val hA46 rfl (ev_assign (hA46.ev (i := 25) (v := .int .i64 (k : Int))) _ rfl) ?_
    intro a47 hA47; clear hA46
    refine sx_val hA47 rfl (ev_assign (ec _ (.int .i64 0)) _ rfl) ?_
    intro a48 hA48; clear hA47
    refine sx_nil ?_
    refine then_n ?_
    refine wp_ret ?_
    refine blk_r ?_
    refine then_r ?_
    refine then_r ?_
    refine blk_r ?_
    refine then_r ?_
    refine bodyPost_ret (rs_tt (v := .int .i64 (k : Int)) (v2 := .int .i64 0) Try.results25 hA48 (by kernel_rfl) (by kernel_rfl) ) hA48.2.1 ?_
    have hf : fr ⟨rs, bs⟩ = (k : Int) := fr_at (by show _ < rs.length; omega) hd40 q21_1
    have E : frst ⟨rs, bs⟩ = ((k : Int), 0) := by
      unfold frst
      rw [if_neg (by omega), if_neg (by omega), hf]
    have hbel21_49 := Below.gN hbel21 hg39 hbel21.size
    exact ⟨by rw [E], hbel21_49⟩
  rw [hd40] at hA39
  refine wp_cond_false (hA39.ev (i := 24) (v := .bool false)) ?_
  refine wp_skip ?_
  refine blk_n ?_
  refine then_n ?_
  refine wp_region_lit ?_
  refine sx_val hA39 rfl (ev_move (hA39.ev (i := 6) (v := .int .i64 (k : Int))) _ rfl) ?_
  intro a41 hA41; clear hA39
  refine sx_val (v := .int .i64 ((k + 1 : Nat) : Int)) hA41 rfl (ev_addR (k := .i64) (m := (k : Int)) (n := 1) (r := ((k + 1 : Nat) : Int)) (hA41.ev (i := 20)) (ec _ (.int .i64 1)) (wr (by omega) (by omega) (by omega)) _ rfl) ?_
  intro a42 hA42; clear hA41
  refine sx_val hA42 rfl (ev_assign (hA42.ev (i := 21) (v := .int .i64 ((k + 1 : Nat) : Int))) _ rfl) ?_
  intro a43 hA43; clear hA42
  refine sx_nil ?_
  refine then_n ?_
  have f21_44 := f21_0.gN hg39
  have hbel21_45 := Below.gN hbel21 hg39 hbel21.size
  refine ⟨rs.length - (k + 1), by omega, k + 1, rfl, (((Ag.nil hA43.1 hA43.2.1).cons (hA43.get (i := 6) (v := .int .i64 ((k + 1 : Nat) : Int)))).cons (hA43.get (i := 1) (v := .pointer (some ⟨B1, 0, none⟩)))), by omega, fun q h1 => by
    by_cases he : q = k
    · rw [he]; exact hd40
    · exact q21_1 q (by omega), f21_44, by omega, hbel21_45⟩

set_option maxHeartbeats 4000000 in
theorem sAlloc_any (A1 : Option Addr) (c1 : Nat) (A2 : Option Addr) (c2 : Nat) (rs : List Int) (bs : List Bool) (r : Int) (w : World) (hs : GS w A1 c1 A2 c2 rs bs) (hl : rs.length ≤ 900000) (hb : bs.length ≤ 900000) : Calls Try.prog 23 #[.agg #[.slice A1 rs.length c1, .slice A2 bs.length c2], .int .i64 r] w (RSl w (alc ⟨rs, bs⟩ r).1 fun v => .tuple #[v, .int .i64 (alc ⟨rs, bs⟩ r).2.1, .int .i64 (alc ⟨rs, bs⟩ r).2.2]) := by
  have hbel0 := below0 w
  refine sx_enter (N := 40) [(0, .agg #[.slice A1 rs.length c1, .slice A2 bs.length c2]), (1, .int .i64 r)] Try.func23 rfl Try.ntmps23 (by simp) (fun a z d s => (((Ag.nil z d).cons (s 1 _ rfl)).cons (s 0 _ rfl))) ?_
  intro a0 hA0
  refine wp_seq ?_
  refine wp_region_lit ?_
  refine sx_new (cs := #[.slice A1 rs.length c1, .slice A2 bs.length c2]) (t := 25) hA0 rfl (by decide) (.inl rfl) (ev_box (hA0.ev (i := 0) (v := .agg #[.slice A1 rs.length c1, .slice A2 bs.length c2])) rfl _ rfl) ?_
  intro B1 w1 a1 hB1 hx1 hg1 hA1
  clear hA0
  have hs1 := hg1.size
  have hl1 := hx1.lt
  refine sx_new (cs := #[.slice none 0 0, .slice none 0 0]) (t := 25) hA1 rfl (by decide) (.inl rfl) (ev_alloc (z := .agg (#[.slice none 0 0, .slice none 0 0])) (by kernel_rfl) (by kernel_rfl) _ rfl) ?_
  intro B2 w2 a2 hB2 hx2 hg2 hA2
  clear hA1
  have hs2 := hg2.size
  have hl2 := hx2.lt
  refine sx_val hA2 rfl (ev_assign (ec _ (.int .i64 0)) _ rfl) ?_
  intro a3 hA3; clear hA2
  refine sx_val hA3 rfl (ev_assign (ec _ (.int .i64 0)) _ rfl) ?_
  intro a4 hA4; clear hA3
  refine sx_nil ?_
  refine then_n ?_
  refine wp_seq ?_
  refine wp_region_lit ?_
  have hx1_5 := hx1.gN hg2
  refine sx_val (v := .agg #[.slice A1 rs.length c1, .slice A2 bs.length c2]) hA4 rfl (ev_row (hA4.ev (i := 2) (v := .pointer (some ⟨B1, 0, none⟩))) hx1_5 Try.underlying25 rfl (n := 2) (by kernel_rfl) rfl _ rfl) ?_
  intro a6 hA6; clear hA4
  have hbel0_8 := Below.gN hbel0 hg1 hbel0.size
  have hbel0_9 := Below.gN hbel0_8 hg2 hbel0_8.size
  refine sx_call (f := 21) (args := #[.agg #[.slice A1 rs.length c1, .slice A2 bs.length c2]]) hA6 rfl (by decide) (.inl rfl) (ev_fn rfl (mp1 (hA6.ev (i := 11) (v := .agg #[.slice A1 rs.length c1, .slice A2 bs.length c2]))) (by kernel_rfl) _ rfl) (sCheck_any A1 c1 A2 c2 rs bs _ ⟨(hs.r.below hbel0_9), (hs.b.below hbel0_9)⟩ (by omega) (by omega)) ?_
  intro e7 w7 hR7
  obtain ⟨rfl, hb7⟩ := hR7
  refine ⟨_, rfl, ?_⟩
  intro a7 hA7
  clear hA6
  have hg7 := g0 hb7
  have hs7 := hg7.size
  clear hb7
  refine sx_val hA7 rfl (ev_move (hA7.ev (i := 12) (v := .tuple #[.int .i64 (chs ⟨rs, bs⟩).1, .int .i64 (chs ⟨rs, bs⟩).2])) _ rfl) ?_
  intro a10 hA10; clear hA7
  refine sx_val (v := .int .i64 (chs ⟨rs, bs⟩).1) hA10 rfl (ev_ext (hA10.ev (i := 10) (v := .tuple #[.int .i64 (chs ⟨rs, bs⟩).1, .int .i64 (chs ⟨rs, bs⟩).2])) rfl _ rfl) ?_
  intro a11 hA11; clear hA10
  refine sx_val (v := .int .i64 (chs ⟨rs, bs⟩).2) hA11 rfl (ev_ext (hA11.ev (i := 10) (v := .tuple #[.int .i64 (chs ⟨rs, bs⟩).1, .int .i64 (chs ⟨rs, bs⟩).2])) rfl _ rfl) ?_
  intro a12 hA12; clear hA11
  refine sx_val hA12 rfl (ev_assign (hA12.ev (i := 13) (v := .int .i64 (chs ⟨rs, bs⟩).1)) _ rfl) ?_
  intro a13 hA13; clear hA12
  refine sx_val hA13 rfl (ev_assign (hA13.ev (i := 14) (v := .int .i64 (chs ⟨rs, bs⟩).2)) _ rfl) ?_
  intro a14 hA14; clear hA13
  refine sx_nil ?_
  refine then_n ?_
  refine wp_seq ?_
  refine wp_seq ?_
  refine wp_region_lit ?_
  refine sx_val hA14 rfl (ev_move (hA14.ev (i := 7) (v := .int .i64 (chs ⟨rs, bs⟩).1)) _ rfl) ?_
  intro a15 hA15; clear hA14
  cases hd16 : decide ((chs ⟨rs, bs⟩).1 = 0)
  · have hp16 := of_decide_eq_false hd16
    refine sx_val (v := .bool true) hA15 rfl (ev_neqB (k := .i64) (m := (chs ⟨rs, bs⟩).1) (n := 0) (hA15.ev (i := 15)) (ec _ (.int .i64 0)) (by simpa using hd16) _ rfl) ?_
    intro a17 hA17; clear hA15
    refine sx_nil ?_
    refine then_n ?_
    refine wp_cond_true (hA17.ev (i := 16) (v := .bool true)) ?_
    refine wp_seq ?_
    refine wp_region_lit ?_
    refine sx_val (v := .agg #[.slice none 0 0, .slice none 0 0]) hA17 rfl (bd0_Slots _ rfl) ?_
    intro a18 hA18; clear hA17
    refine sx_val hA18 rfl (ev_move (hA18.ev (i := 7) (v := .int .i64 (chs ⟨rs, bs⟩).1)) _ rfl) ?_
    intro a19 hA19; clear hA18
    have hx2_21 := hx2.gN hg7
    refine sx_store hA19 rfl (.inl rfl) rfl (hA19.ev (i := 4) (v := .pointer (some ⟨B2, 0, none⟩))) (hA19.ev (i := 17) (v := .agg #[.slice none 0 0, .slice none 0 0])) hx2_21 (by kernel_rfl) rfl (by simp [Value.oneCell']) ?_
    intro w20 hx20 hg20
    have hs20 := hg20.size
    refine sx_val hA19 rfl (ev_assign (ec _ (.int .i64 0)) _ rfl) ?_
    intro a22 hA22; clear hA19
    refine sx_val hA22 rfl (ev_assign (hA22.ev (i := 18) (v := .int .i64 (chs ⟨rs, bs⟩).1)) _ rfl) ?_
    intro a23 hA23; clear hA22
    refine sx_nil ?_
    refine then_n ?_
    refine wp_ret ?_
    refine then_r ?_
    refine bodyPost_ret (rs_ctt (v := .int .i64 0) (v2 := .int .i64 (chs ⟨rs, bs⟩).1) Try.results23 hA23 (by kernel_rfl) (by kernel_rfl) (by kernel_rfl) hx20 Try.underlying25 rfl (by kernel_rfl)) hA23.2.1 ?_
    have hbel0_24 := Below.gN hbel0_9 hg7 hbel0_9.size
    have hbel0_25 := Below.gB hbel0_24 hg20 hbel0_24.size (by omega)
    rw [show alc ⟨rs, bs⟩ r = (Ss.nil, 0, (chs ⟨rs, bs⟩).1) from if_pos hp16]
    exact RSl.nil rfl hbel0_25
  have hp16 := of_decide_eq_true hd16
  refine sx_val (v := .bool false) hA15 rfl (ev_neqB (k := .i64) (m := (chs ⟨rs, bs⟩).1) (n := 0) (hA15.ev (i := 15)) (ec _ (.int .i64 0)) (by simpa using hd16) _ rfl) ?_
  intro a26 hA26; clear hA15
  refine sx_nil ?_
  refine then_n ?_
  refine wp_cond_false (hA26.ev (i := 16) (v := .bool false)) ?_
  refine wp_skip ?_
  refine then_n ?_
  refine wp_seq ?_
  refine wp_seq ?_
  refine wp_region_lit ?_
  refine sx_val hA26 rfl (ev_move (hA26.ev (i := 1) (v := .int .i64 r)) _ rfl) ?_
  intro a27 hA27; clear hA26
  cases hd28 : decide (r < 1)
  rotate_left
  · have hp28 := of_decide_eq_true hd28
    refine sx_val (v := .bool true) hA27 rfl (ev_lssB (k := .i64) (m := r) (n := 1) (hA27.ev (i := 19)) (ec _ (.int .i64 1)) hd28 _ rfl) ?_
    intro a91 hA91; clear hA27
    refine sx_val hA91 rfl (ev_move (hA91.ev (i := 20) (v := .bool true)) _ rfl) ?_
    intro a92 hA92; clear hA91
    refine sx_no (j := 2) (s := 21) (want := false) (b := true) hA92 rfl ?_
    intro a93 hA93; clear hA92
    refine sx_no (j := 2) (s := 21) (want := false) (b := true) hA93 rfl ?_
    intro a94 hA94; clear hA93
    refine sx_val hA94 rfl (ev_pickT (hA94.ev (i := 21) (v := .bool true)) (ec _ (.bool true)) _ rfl) ?_
    intro a95 hA95; clear hA94
    refine sx_nil ?_
    refine then_n ?_
    refine wp_cond_true (hA95.ev (i := 24) (v := .bool true)) ?_
    refine wp_seq ?_
    refine wp_region_lit ?_
    refine sx_val (v := .agg #[.slice none 0 0, .slice none 0 0]) hA95 rfl (bd0_Slots _ rfl) ?_
    intro a96 hA96; clear hA95
    have hx2_98 := hx2.gN hg7
    refine sx_store hA96 rfl (.inl rfl) rfl (hA96.ev (i := 4) (v := .pointer (some ⟨B2, 0, none⟩))) (hA96.ev (i := 25) (v := .agg #[.slice none 0 0, .slice none 0 0])) hx2_98 (by kernel_rfl) rfl (by simp [Value.oneCell']) ?_
    intro w97 hx97 hg97
    have hs97 := hg97.size
    refine sx_val hA96 rfl (ev_assign (ec _ (.int .i64 0)) _ rfl) ?_
    intro a99 hA99; clear hA96
    refine sx_val hA99 rfl (ev_assign (ec _ (.int .i64 15)) _ rfl) ?_
    intro a100 hA100; clear hA99
    refine sx_nil ?_
    refine then_n ?_
    refine wp_ret ?_
    refine then_r ?_
    refine bodyPost_ret (rs_ctt (v := .int .i64 0) (v2 := .int .i64 15) Try.results23 hA100 (by kernel_rfl) (by kernel_rfl) (by kernel_rfl) hx97 Try.underlying25 rfl (by kernel_rfl)) hA100.2.1 ?_
    have hbel0_101 := Below.gN hbel0_9 hg7 hbel0_9.size
    have hbel0_102 := Below.gB hbel0_101 hg97 hbel0_101.size (by omega)
    have E : alc ⟨rs, bs⟩ r = (Ss.nil, 0, 15) := by
      unfold alc
      rw [if_neg (by omega), if_pos (by omega)]
    rw [E]
    exact RSl.nil rfl hbel0_102
  have hp28 := of_decide_eq_false hd28
  refine sx_val (v := .bool false) hA27 rfl (ev_lssB (k := .i64) (m := r) (n := 1) (hA27.ev (i := 19)) (ec _ (.int .i64 1)) hd28 _ rfl) ?_
  intro a29 hA29; clear hA27
  refine sx_val hA29 rfl (ev_move (hA29.ev (i := 20) (v := .bool false)) _ rfl) ?_
  intro a30 hA30; clear hA29
  refine sx_val (hg := (.inr ⟨2, false, 21, rfl, rfl, by kernel_rfl⟩)) hA30 rfl (ev_move (hA30.ev (i := 1) (v := .int .i64 r)) _ rfl) ?_
  intro a31 hA31; clear hA30
  cases hd32 : decide (512 < r)
  rotate_left
  · have hp32 := of_decide_eq_true hd32
    refine sx_val (hg := (.inr ⟨2, false, 21, rfl, rfl, by kernel_rfl⟩)) (v := .bool true) hA31 rfl (ev_gtrB (k := .i64) (m := r) (n := 512) (hA31.ev (i := 22)) (ec _ (.int .i64 512)) hd32 _ rfl) ?_
    intro a82 hA82; clear hA31
    refine sx_val hA82 rfl (ev_pickF (hA82.ev (i := 21) (v := .bool false)) (hA82.ev (i := 23) (v := .bool true)) _ rfl) ?_
    intro a83 hA83; clear hA82
    refine sx_nil ?_
    refine then_n ?_
    refine wp_cond_true (hA83.ev (i := 24) (v := .bool true)) ?_
    refine wp_seq ?_
    refine wp_region_lit ?_
    refine sx_val (v := .agg #[.slice none 0 0, .slice none 0 0]) hA83 rfl (bd0_Slots _ rfl) ?_
    intro a84 hA84; clear hA83
    have hx2_86 := hx2.gN hg7
    refine sx_store hA84 rfl (.inl rfl) rfl (hA84.ev (i := 4) (v := .pointer (some ⟨B2, 0, none⟩))) (hA84.ev (i := 25) (v := .agg #[.slice none 0 0, .slice none 0 0])) hx2_86 (by kernel_rfl) rfl (by simp [Value.oneCell']) ?_
    intro w85 hx85 hg85
    have hs85 := hg85.size
    refine sx_val hA84 rfl (ev_assign (ec _ (.int .i64 0)) _ rfl) ?_
    intro a87 hA87; clear hA84
    refine sx_val hA87 rfl (ev_assign (ec _ (.int .i64 15)) _ rfl) ?_
    intro a88 hA88; clear hA87
    refine sx_nil ?_
    refine then_n ?_
    refine wp_ret ?_
    refine then_r ?_
    refine bodyPost_ret (rs_ctt (v := .int .i64 0) (v2 := .int .i64 15) Try.results23 hA88 (by kernel_rfl) (by kernel_rfl) (by kernel_rfl) hx85 Try.underlying25 rfl (by kernel_rfl)) hA88.2.1 ?_
    have hbel0_89 := Below.gN hbel0_9 hg7 hbel0_9.size
    have hbel0_90 := Below.gB hbel0_89 hg85 hbel0_89.size (by omega)
    have E : alc ⟨rs, bs⟩ r = (Ss.nil, 0, 15) := by
      unfold alc
      rw [if_neg (by omega), if_pos (by omega)]
    rw [E]
    exact RSl.nil rfl hbel0_90
  have hp32 := of_decide_eq_false hd32
  refine sx_val (hg := (.inr ⟨2, false, 21, rfl, rfl, by kernel_rfl⟩)) (v := .bool false) hA31 rfl (ev_gtrB (k := .i64) (m := r) (n := 512) (hA31.ev (i := 22)) (ec _ (.int .i64 512)) hd32 _ rfl) ?_
  intro a33 hA33; clear hA31
  refine sx_val hA33 rfl (ev_pickF (hA33.ev (i := 21) (v := .bool false)) (hA33.ev (i := 23) (v := .bool false)) _ rfl) ?_
  intro a34 hA34; clear hA33
  refine sx_nil ?_
  refine then_n ?_
  refine wp_cond_false (hA34.ev (i := 24) (v := .bool false)) ?_
  refine wp_skip ?_
  refine then_n ?_
  refine wp_seq ?_
  refine wp_region_lit ?_
  have hx1_35 := hx1_5.gN hg7
  refine sx_val (v := .agg #[.slice A1 rs.length c1, .slice A2 bs.length c2]) hA34 rfl (ev_row (hA34.ev (i := 2) (v := .pointer (some ⟨B1, 0, none⟩))) hx1_35 Try.underlying25 rfl (n := 2) (by kernel_rfl) rfl _ rfl) ?_
  intro a36 hA36; clear hA34
  have hbel0_38 := Below.gN hbel0_9 hg7 hbel0_9.size
  cases hd39 : decide ((fr ⟨rs, bs⟩) < 0)
  rotate_left
  · have hp39 := of_decide_eq_true hd39
    have hf5 : frst ⟨rs, bs⟩ = (0, 5) := by
      unfold frst
      rw [if_neg (by omega), if_pos hp39]
    refine sx_call (f := 25) (args := #[.agg #[.slice A1 rs.length c1, .slice A2 bs.length c2]]) hA36 rfl (by decide) (.inl rfl) (ev_fn rfl (mp1 (hA36.ev (i := 27) (v := .agg #[.slice A1 rs.length c1, .slice A2 bs.length c2]))) (by kernel_rfl) _ rfl) (sFirst_any A1 c1 A2 c2 rs bs _ ⟨(hs.r.below hbel0_38), (hs.b.below hbel0_38)⟩ (by omega) (by omega)) ?_
    intro e65 w65 hR65
    obtain ⟨he65, hb65⟩ := hR65
    rw [hf5] at he65
    subst he65
    refine ⟨_, rfl, ?_⟩
    intro a65 hA65
    clear hA36
    have hg65 := g0 hb65
    have hs65 := hg65.size
    clear hb65
    refine sx_val hA65 rfl (ev_move (hA65.ev (i := 28) (v := .tuple #[.int .i64 0, .int .i64 5])) _ rfl) ?_
    intro a66 hA66; clear hA65
    refine sx_val (v := .int .i64 0) hA66 rfl (ev_ext (hA66.ev (i := 26) (v := .tuple #[.int .i64 0, .int .i64 5])) rfl _ rfl) ?_
    intro a67 hA67; clear hA66
    refine sx_val (v := .int .i64 5) hA67 rfl (ev_ext (hA67.ev (i := 26) (v := .tuple #[.int .i64 0, .int .i64 5])) rfl _ rfl) ?_
    intro a68 hA68; clear hA67
    refine sx_val hA68 rfl (ev_assign (hA68.ev (i := 29) (v := .int .i64 0)) _ rfl) ?_
    intro a69 hA69; clear hA68
    refine sx_val hA69 rfl (ev_assign (hA69.ev (i := 30) (v := .int .i64 5)) _ rfl) ?_
    intro a70 hA70; clear hA69
    refine sx_nil ?_
    refine then_n ?_
    refine wp_seq ?_
    refine wp_seq ?_
    refine wp_region_lit ?_
    refine sx_val hA70 rfl (ev_move (hA70.ev (i := 7) (v := .int .i64 5)) _ rfl) ?_
    intro a71 hA71; clear hA70
    refine sx_val (v := .bool true) hA71 rfl (ev_neqB (k := .i64) (m := 5) (n := 0) (hA71.ev (i := 31)) (ec _ (.int .i64 0)) (by decide) _ rfl) ?_
    intro a72 hA72; clear hA71
    refine sx_nil ?_
    refine then_n ?_
    refine wp_cond_true (hA72.ev (i := 32) (v := .bool true)) ?_
    refine wp_seq ?_
    refine wp_region_lit ?_
    refine sx_val (v := .agg #[.slice none 0 0, .slice none 0 0]) hA72 rfl (bd0_Slots _ rfl) ?_
    intro a73 hA73; clear hA72
    refine sx_val hA73 rfl (ev_move (hA73.ev (i := 7) (v := .int .i64 5)) _ rfl) ?_
    intro a74 hA74; clear hA73
    have hx2_76 := hx2.gN hg7
    have hx2_77 := hx2_76.gN hg65
    refine sx_store hA74 rfl (.inl rfl) rfl (hA74.ev (i := 4) (v := .pointer (some ⟨B2, 0, none⟩))) (hA74.ev (i := 33) (v := .agg #[.slice none 0 0, .slice none 0 0])) hx2_77 (by kernel_rfl) rfl (by simp [Value.oneCell']) ?_
    intro w75 hx75 hg75
    have hs75 := hg75.size
    refine sx_val hA74 rfl (ev_assign (ec _ (.int .i64 0)) _ rfl) ?_
    intro a78 hA78; clear hA74
    refine sx_val hA78 rfl (ev_assign (hA78.ev (i := 34) (v := .int .i64 5)) _ rfl) ?_
    intro a79 hA79; clear hA78
    refine sx_nil ?_
    refine then_n ?_
    refine wp_ret ?_
    refine then_r ?_
    refine bodyPost_ret (rs_ctt (v := .int .i64 0) (v2 := .int .i64 5) Try.results23 hA79 (by kernel_rfl) (by kernel_rfl) (by kernel_rfl) hx75 Try.underlying25 rfl (by kernel_rfl)) hA79.2.1 ?_
    have hbel0_80 := Below.gN hbel0_38 hg65 hbel0_38.size
    have hbel0_81 := Below.gB hbel0_80 hg75 hbel0_80.size (by omega)
    have E : alc ⟨rs, bs⟩ r = (Ss.nil, 0, 5) := by
      unfold alc
      rw [if_neg (by omega), if_neg (by omega), if_pos hp39]
    rw [E]
    exact RSl.nil rfl hbel0_81
  have hp39 := of_decide_eq_false hd39
  obtain ⟨j, hj, hjl, hjf, hjm⟩ := fr_pos hp39
  have hjr : j < rs.length := hjl
  have hf5 : frst ⟨rs, bs⟩ = ((j : Int), 0) := by
    unfold frst
    rw [if_neg (by omega), if_neg hp39, hj]
  have hok := (chs_ok (s := ⟨rs, bs⟩) (by omega)).2
  have hrl : rs.length ≤ 256 := hok.hi
  have hr1 : 1 ≤ rs.length := hok.lo
  have hbl : bs.length = rs.length := hok.len
  refine sx_call (f := 25) (args := #[.agg #[.slice A1 rs.length c1, .slice A2 bs.length c2]]) hA36 rfl (by decide) (.inl rfl) (ev_fn rfl (mp1 (hA36.ev (i := 27) (v := .agg #[.slice A1 rs.length c1, .slice A2 bs.length c2]))) (by kernel_rfl) _ rfl) (sFirst_any A1 c1 A2 c2 rs bs _ ⟨(hs.r.below hbel0_38), (hs.b.below hbel0_38)⟩ (by omega) (by omega)) ?_
  intro e40 w40 hR40
  obtain ⟨he40, hb40⟩ := hR40
  rw [hf5] at he40
  subst he40
  refine ⟨_, rfl, ?_⟩
  intro a40 hA40
  clear hA36
  have hg40 := g0 hb40
  have hs40 := hg40.size
  clear hb40
  refine sx_val hA40 rfl (ev_move (hA40.ev (i := 28) (v := .tuple #[.int .i64 (j : Int), .int .i64 0])) _ rfl) ?_
  intro a41 hA41; clear hA40
  refine sx_val (v := .int .i64 (j : Int)) hA41 rfl (ev_ext (hA41.ev (i := 26) (v := .tuple #[.int .i64 (j : Int), .int .i64 0])) rfl _ rfl) ?_
  intro a42 hA42; clear hA41
  refine sx_val (v := .int .i64 0) hA42 rfl (ev_ext (hA42.ev (i := 26) (v := .tuple #[.int .i64 (j : Int), .int .i64 0])) rfl _ rfl) ?_
  intro a43 hA43; clear hA42
  refine sx_val hA43 rfl (ev_assign (hA43.ev (i := 29) (v := .int .i64 (j : Int))) _ rfl) ?_
  intro a44 hA44; clear hA43
  refine sx_val hA44 rfl (ev_assign (hA44.ev (i := 30) (v := .int .i64 0)) _ rfl) ?_
  intro a45 hA45; clear hA44
  refine sx_nil ?_
  refine then_n ?_
  refine wp_seq ?_
  refine wp_seq ?_
  refine wp_region_lit ?_
  refine sx_val hA45 rfl (ev_move (hA45.ev (i := 7) (v := .int .i64 0)) _ rfl) ?_
  intro a46 hA46; clear hA45
  refine sx_val (v := .bool false) hA46 rfl (ev_neqB (k := .i64) (m := 0) (n := 0) (hA46.ev (i := 31)) (ec _ (.int .i64 0)) (by decide) _ rfl) ?_
  intro a47 hA47; clear hA46
  refine sx_nil ?_
  refine then_n ?_
  refine wp_cond_false (hA47.ev (i := 32) (v := .bool false)) ?_
  refine wp_skip ?_
  refine then_n ?_
  refine wp_seq ?_
  refine wp_region_lit ?_
  have hx1_48 := hx1_35.gN hg40
  refine sx_val (v := .agg #[.slice A1 rs.length c1, .slice A2 bs.length c2]) hA47 rfl (ev_row (hA47.ev (i := 2) (v := .pointer (some ⟨B1, 0, none⟩))) hx1_48 Try.underlying25 rfl (n := 2) (by kernel_rfl) rfl _ rfl) ?_
  intro a49 hA49; clear hA47
  refine sx_val hA49 rfl (ev_move (hA49.ev (i := 9) (v := .int .i64 (j : Int))) _ rfl) ?_
  intro a50 hA50; clear hA49
  refine sx_val hA50 rfl (ev_move (hA50.ev (i := 1) (v := .int .i64 r)) _ rfl) ?_
  intro a51 hA51; clear hA50
  have hbel0_53 := Below.gN hbel0_38 hg40 hbel0_38.size
  refine sx_call (f := 41) (args := #[.agg #[.slice A1 rs.length c1, .slice A2 bs.length c2], .int .i64 (j : Int), .int .i64 r, .bool true]) hA51 rfl (by decide) (.inl rfl) (ev_fn rfl (mp4 (hA51.ev (i := 35) (v := .agg #[.slice A1 rs.length c1, .slice A2 bs.length c2])) (hA51.ev (i := 36) (v := .int .i64 (j : Int))) (hA51.ev (i := 37) (v := .int .i64 r)) (ec _ (.bool true))) (by kernel_rfl) _ rfl) (with_any A1 c1 A2 c2 rs bs j r true _ ⟨(hs.r.below hbel0_53), (hs.b.below hbel0_53)⟩ (by omega) (by omega) (by omega) (by omega)) ?_
  intro e52 w52 hR52
  obtain ⟨Ap52, cp52, Aj52, cj52, rfl, hC52, hJ52, hb52⟩ := hR52
  refine ⟨_, rfl, ?_⟩
  intro a52 hA52
  clear hA51
  have hg52 := g0 hb52
  have hs52 := hg52.size
  clear hb52
  have ho52_0 : Own w52 (w40.heap.size) 3 1 (.slice Ap52 (rs.set j r).length cp52) (rs.set j r).length (flat iva (rs.set j r)) := hC52
  have hh52_0 := Own.hi ho52_0
  have ho52_1 : Own w52 (w40.heap.size) 4 1 (.slice Aj52 (bs.set j true).length cj52) (bs.set j true).length (flat bva (bs.set j true)) := hJ52
  have hh52_1 := Own.hi ho52_1
  refine sx_val hA52 rfl (ev_move (hA52.ev (i := 9) (v := .int .i64 (j : Int))) _ rfl) ?_
  intro a54 hA54; clear hA52
  have hx2_56 := hx2.gN hg7
  have hx2_57 := hx2_56.gN hg40
  have hx2_58 := hx2_57.gN hg52
  refine sx_store hA54 rfl (.inl rfl) rfl (hA54.ev (i := 4) (v := .pointer (some ⟨B2, 0, none⟩))) (hA54.ev (i := 38) (v := .agg #[.slice Ap52 (rs.set j r).length cp52, .slice Aj52 (bs.set j true).length cj52])) hx2_58 (by kernel_rfl) rfl (by simp [Value.oneCell']) ?_
  intro w55 hx55 hg55
  have hs55 := hg55.size
  refine sx_val hA54 rfl (ev_assign (hA54.ev (i := 39) (v := .int .i64 (j : Int))) _ rfl) ?_
  intro a59 hA59; clear hA54
  refine sx_val hA59 rfl (ev_assign (ec _ (.int .i64 0)) _ rfl) ?_
  intro a60 hA60; clear hA59
  refine sx_nil ?_
  refine then_n ?_
  refine wp_ret ?_
  refine bodyPost_ret (rs_ctt (v := .int .i64 (j : Int)) (v2 := .int .i64 0) Try.results23 hA60 (by kernel_rfl) (by kernel_rfl) (by kernel_rfl) hx55 Try.underlying25 rfl (by kernel_rfl)) hA60.2.1 ?_
  have hbel0_61 := Below.gN hbel0_53 hg52 hbel0_53.size
  have hbel0_62 := Below.gB hbel0_61 hg55 hbel0_61.size (by omega)
  rw [alc_ok (by omega) (by omega) (by omega) hj]
  have ho52_63 := Own.gBT ho52_0 hg55 hx2_58 (by decide)
  have ho52_64 := Own.gBT ho52_1 hg55 hx2_58 (by decide)
  exact ⟨_, _, _, _, rfl, Own.mono ho52_63 (by omega), Own.mono ho52_64 (by omega), hbel0_62⟩

theorem cntS_t {S : Nat → Bool} {k : Nat} (h : S k = true) : cntS S 0 k + 1 = cntS S 0 (k + 1) := by
  show _ = cntS S 0 k + bif S (0 + k) then 1 else 0
  rw [Nat.zero_add, h]; rfl
theorem cntS_f {S : Nat → Bool} {k : Nat} (h : S k = false) : cntS S 0 k = cntS S 0 (k + 1) := by
  show _ = cntS S 0 k + bif S (0 + k) then 1 else 0
  rw [Nat.zero_add, h]; rfl

set_option maxHeartbeats 4000000 in
theorem sCount_any (A1 : Option Addr) (c1 : Nat) (A2 : Option Addr) (c2 : Nat) (rs : List Int) (bs : List Bool) (w : World) (hs : GS w A1 c1 A2 c2 rs bs) (hl : rs.length ≤ 900000) (hb : bs.length ≤ 900000) : Calls Try.prog 27 #[.agg #[.slice A1 rs.length c1, .slice A2 bs.length c2]] w (RetB w (.returned (.tuple #[.int .i64 (cnt ⟨rs, bs⟩).1, .int .i64 (cnt ⟨rs, bs⟩).2.1, .int .i64 (cnt ⟨rs, bs⟩).2.2.1, .int .i64 (cnt ⟨rs, bs⟩).2.2.2]))) := by
  have hbel0 := below0 w
  refine sx_enter (N := 49) [(0, .agg #[.slice A1 rs.length c1, .slice A2 bs.length c2])] Try.func27 rfl Try.ntmps27 (by simp) (fun a z d s => ((Ag.nil z d).cons (s 0 _ rfl))) ?_
  intro a0 hA0
  refine wp_seq ?_
  refine wp_region_lit ?_
  refine sx_new (cs := #[.slice A1 rs.length c1, .slice A2 bs.length c2]) (t := 25) hA0 rfl (by decide) (.inl rfl) (ev_box (hA0.ev (i := 0) (v := .agg #[.slice A1 rs.length c1, .slice A2 bs.length c2])) rfl _ rfl) ?_
  intro B1 w1 a1 hB1 hx1 hg1 hA1
  clear hA0
  have hs1 := hg1.size
  have hl1 := hx1.lt
  refine sx_val hA1 rfl (ev_assign (ec _ (.int .i64 0)) _ rfl) ?_
  intro a2 hA2; clear hA1
  refine sx_val hA2 rfl (ev_assign (ec _ (.int .i64 0)) _ rfl) ?_
  intro a3 hA3; clear hA2
  refine sx_val hA3 rfl (ev_assign (ec _ (.int .i64 0)) _ rfl) ?_
  intro a4 hA4; clear hA3
  refine sx_val hA4 rfl (ev_assign (ec _ (.int .i64 0)) _ rfl) ?_
  intro a5 hA5; clear hA4
  refine sx_nil ?_
  refine then_n ?_
  refine wp_seq ?_
  refine wp_region_lit ?_
  refine sx_val (v := .agg #[.slice A1 rs.length c1, .slice A2 bs.length c2]) hA5 rfl (ev_row (hA5.ev (i := 1) (v := .pointer (some ⟨B1, 0, none⟩))) hx1 Try.underlying25 rfl (n := 2) (by kernel_rfl) rfl _ rfl) ?_
  intro a6 hA6; clear hA5
  have hbel0_8 := Below.gN hbel0 hg1 hbel0.size
  refine sx_call (f := 21) (args := #[.agg #[.slice A1 rs.length c1, .slice A2 bs.length c2]]) hA6 rfl (by decide) (.inl rfl) (ev_fn rfl (mp1 (hA6.ev (i := 13) (v := .agg #[.slice A1 rs.length c1, .slice A2 bs.length c2]))) (by kernel_rfl) _ rfl) (sCheck_any A1 c1 A2 c2 rs bs _ ⟨(hs.r.below hbel0_8), (hs.b.below hbel0_8)⟩ (by omega) (by omega)) ?_
  intro e7 w7 hR7
  obtain ⟨rfl, hb7⟩ := hR7
  refine ⟨_, rfl, ?_⟩
  intro a7 hA7
  clear hA6
  have hg7 := g0 hb7
  have hs7 := hg7.size
  clear hb7
  refine sx_val hA7 rfl (ev_move (hA7.ev (i := 14) (v := .tuple #[.int .i64 (chs ⟨rs, bs⟩).1, .int .i64 (chs ⟨rs, bs⟩).2])) _ rfl) ?_
  intro a9 hA9; clear hA7
  refine sx_val (v := .int .i64 (chs ⟨rs, bs⟩).1) hA9 rfl (ev_ext (hA9.ev (i := 12) (v := .tuple #[.int .i64 (chs ⟨rs, bs⟩).1, .int .i64 (chs ⟨rs, bs⟩).2])) rfl _ rfl) ?_
  intro a10 hA10; clear hA9
  refine sx_val (v := .int .i64 (chs ⟨rs, bs⟩).2) hA10 rfl (ev_ext (hA10.ev (i := 12) (v := .tuple #[.int .i64 (chs ⟨rs, bs⟩).1, .int .i64 (chs ⟨rs, bs⟩).2])) rfl _ rfl) ?_
  intro a11 hA11; clear hA10
  refine sx_val hA11 rfl (ev_assign (hA11.ev (i := 15) (v := .int .i64 (chs ⟨rs, bs⟩).1)) _ rfl) ?_
  intro a12 hA12; clear hA11
  refine sx_val hA12 rfl (ev_assign (hA12.ev (i := 16) (v := .int .i64 (chs ⟨rs, bs⟩).2)) _ rfl) ?_
  intro a13 hA13; clear hA12
  refine sx_nil ?_
  refine then_n ?_
  refine wp_seq ?_
  refine wp_seq ?_
  refine wp_region_lit ?_
  refine sx_val hA13 rfl (ev_move (hA13.ev (i := 6) (v := .int .i64 (chs ⟨rs, bs⟩).1)) _ rfl) ?_
  intro a14 hA14; clear hA13
  cases hd15 : decide ((chs ⟨rs, bs⟩).1 = 0)
  · have hp15 := of_decide_eq_false hd15
    refine sx_val (v := .bool true) hA14 rfl (ev_neqB (k := .i64) (m := (chs ⟨rs, bs⟩).1) (n := 0) (hA14.ev (i := 17)) (ec _ (.int .i64 0)) (by simpa using hd15) _ rfl) ?_
    intro a16 hA16; clear hA14
    refine sx_nil ?_
    refine then_n ?_
    refine wp_cond_true (hA16.ev (i := 18) (v := .bool true)) ?_
    refine wp_seq ?_
    refine wp_region_lit ?_
    refine sx_val hA16 rfl (ev_move (hA16.ev (i := 6) (v := .int .i64 (chs ⟨rs, bs⟩).1)) _ rfl) ?_
    intro a17 hA17; clear hA16
    refine sx_val hA17 rfl (ev_assign (ec _ (.int .i64 0)) _ rfl) ?_
    intro a18 hA18; clear hA17
    refine sx_val hA18 rfl (ev_assign (ec _ (.int .i64 0)) _ rfl) ?_
    intro a19 hA19; clear hA18
    refine sx_val hA19 rfl (ev_assign (ec _ (.int .i64 0)) _ rfl) ?_
    intro a20 hA20; clear hA19
    refine sx_val hA20 rfl (ev_assign (hA20.ev (i := 19) (v := .int .i64 (chs ⟨rs, bs⟩).1)) _ rfl) ?_
    intro a21 hA21; clear hA20
    refine sx_nil ?_
    refine then_n ?_
    refine wp_ret ?_
    refine then_r ?_
    refine bodyPost_ret (rs_tttt (v := .int .i64 0) (v2 := .int .i64 0) (v3 := .int .i64 0) (v4 := .int .i64 (chs ⟨rs, bs⟩).1) Try.results27 hA21 (by kernel_rfl) (by kernel_rfl) (by kernel_rfl) (by kernel_rfl) ) hA21.2.1 ?_
    have E : cnt ⟨rs, bs⟩ = (0, 0, 0, (chs ⟨rs, bs⟩).1) := if_pos hp15
    have hbel0_22 := Below.gN hbel0_8 hg7 hbel0_8.size
    exact ⟨by rw [E], hbel0_22⟩
  have hp15 := of_decide_eq_true hd15
  refine sx_val (v := .bool false) hA14 rfl (ev_neqB (k := .i64) (m := (chs ⟨rs, bs⟩).1) (n := 0) (hA14.ev (i := 17)) (ec _ (.int .i64 0)) (by simpa using hd15) _ rfl) ?_
  intro a23 hA23; clear hA14
  refine sx_nil ?_
  refine then_n ?_
  refine wp_cond_false (hA23.ev (i := 18) (v := .bool false)) ?_
  refine wp_skip ?_
  refine then_n ?_
  refine wp_seq ?_
  refine wp_region_lit ?_
  refine sx_val hA23 rfl (ev_assign (ec _ (.int .i64 0)) _ rfl) ?_
  intro a24 hA24; clear hA23
  refine sx_val hA24 rfl (ev_assign (ec _ (.int .i64 0)) _ rfl) ?_
  intro a25 hA25; clear hA24
  refine sx_val hA25 rfl (ev_assign (ec _ (.int .i64 0)) _ rfl) ?_
  intro a26 hA26; clear hA25
  refine sx_nil ?_
  refine then_n ?_
  refine wp_seq ?_
  refine wp_seq ?_
  refine wp_region_lit ?_
  refine sx_val hA26 rfl (ev_assign (ec _ (.int .i64 0)) _ rfl) ?_
  intro a27 hA27; clear hA26
  refine sx_nil ?_
  refine then_n ?_
  refine wp_block ?_
  have hok := (chs_ok (s := ⟨rs, bs⟩) (by omega)).2
  have hrl : rs.length ≤ 256 := hok.hi
  have hr1 : 1 ≤ rs.length := hok.lo
  have hbl : bs.length = rs.length := hok.len
  have hx1_29 := hx1.gN hg7
  have hbel0_30 := Below.gN hbel0_8 hg7 hbel0_8.size
  refine wp_loop_ghost (fun gz a wl => ∃ (k : Nat), gz = rs.length - k ∧ Ag a 49 [(1, .pointer (some ⟨B1, 0, none⟩)), (2, .int .i64 0), (3, .int .i64 0), (4, .int .i64 0), (5, .int .i64 0), (11, .int .i64 (k : Int)), (8, .int .i64 ((cfr ⟨rs, bs⟩ k : Nat) : Int)), (9, .int .i64 ((cntS (opm bs) 0 k : Nat) : Int)), (10, .int .i64 (sumr rs k))] ∧ k ≤ rs.length ∧ Bx wl B1 25 #[.slice A1 rs.length c1, .slice A2 bs.length c2] ∧ w7.heap.size ≤ wl.heap.size ∧ Below w.heap.size w wl) (rs.length - 0) ⟨0, rfl, ((((((((((Ag.nil hA27.1 hA27.2.1).cons (hA27.get (i := 10) (v := .int .i64 0))).cons (hA27.get (i := 9) (v := .int .i64 0))).cons (hA27.get (i := 8) (v := .int .i64 0))).cons (hA27.get (i := 11) (v := .int .i64 0))).cons (hA27.get (i := 5) (v := .int .i64 0))).cons (hA27.get (i := 4) (v := .int .i64 0))).cons (hA27.get (i := 3) (v := .int .i64 0))).cons (hA27.get (i := 2) (v := .int .i64 0))).cons (hA27.get (i := 1) (v := .pointer (some ⟨B1, 0, none⟩)))), Nat.zero_le _, hx1_29, Nat.le_refl _, hbel0_30⟩ ?_
  intro n28 a28 w28 hI28
  obtain ⟨k, hn28, hA28, q28_0, f28_0, hsz28, hbel28⟩ := hI28
  subst hn28
  clear hA27
  have hlB1_28 := f28_0.lt
  cases hd31 : decide ((k : Int) < (rs.length : Int))
  · have hp31 := of_decide_eq_false hd31
    refine wp_seq ?_
    refine wp_seq ?_
    refine wp_region_lit ?_
    refine sx_val hA28 rfl (ev_move (hA28.ev (i := 11) (v := .int .i64 (k : Int))) _ rfl) ?_
    intro a32 hA32; clear hA28
    refine sx_val (v := .pointer (some ⟨B1, 0, none⟩)) hA32 rfl (fb_Slots_0 (hA32.ev (i := 1) (v := .pointer (some ⟨B1, 0, none⟩))) _ rfl) ?_
    intro a33 hA33; clear hA32
    refine sx_val (v := .slice A1 rs.length c1) hA33 rfl (ev_cell (v := .slice A1 rs.length c1) (hA33.ev (i := 21) (v := .pointer (some ⟨B1, 0, none⟩))) ((f28_0.cell 0).trans rfl) Try.underlying22 rfl _ rfl) ?_
    intro a34 hA34; clear hA33
    refine sx_val (v := .int .i64 (rs.length : Int)) hA34 rfl (ev_len (hA34.ev (i := 22) (v := .slice A1 rs.length c1)) Try.underlying22 _ rfl) ?_
    intro a35 hA35; clear hA34
    refine sx_val (v := .bool false) hA35 rfl (ev_lssB (k := .i64) (m := (k : Int)) (n := (rs.length : Int)) (hA35.ev (i := 20)) (hA35.ev (i := 23)) hd31 _ rfl) ?_
    intro a36 hA36; clear hA35
    refine sx_nil ?_
    refine then_n ?_
    refine wp_cond_false (hA36.ev (i := 24) (v := .bool false)) ?_
    refine wp_exit ?_
    refine then_x ?_
    refine then_x ?_
    refine blk_hit ?_
    refine then_n ?_
    refine wp_seq ?_
    refine wp_region_lit ?_
    refine sx_val hA36 rfl (ev_move (hA36.ev (i := 8) (v := .int .i64 ((cfr ⟨rs, bs⟩ k : Nat) : Int))) _ rfl) ?_
    intro a37 hA37; clear hA36
    refine sx_val hA37 rfl (ev_move (hA37.ev (i := 9) (v := .int .i64 ((cntS (opm bs) 0 k : Nat) : Int))) _ rfl) ?_
    intro a38 hA38; clear hA37
    refine sx_val hA38 rfl (ev_move (hA38.ev (i := 10) (v := .int .i64 (sumr rs k))) _ rfl) ?_
    intro a39 hA39; clear hA38
    refine sx_val hA39 rfl (ev_assign (hA39.ev (i := 46) (v := .int .i64 ((cfr ⟨rs, bs⟩ k : Nat) : Int))) _ rfl) ?_
    intro a40 hA40; clear hA39
    refine sx_val hA40 rfl (ev_assign (hA40.ev (i := 47) (v := .int .i64 ((cntS (opm bs) 0 k : Nat) : Int))) _ rfl) ?_
    intro a41 hA41; clear hA40
    refine sx_val hA41 rfl (ev_assign (hA41.ev (i := 48) (v := .int .i64 (sumr rs k))) _ rfl) ?_
    intro a42 hA42; clear hA41
    refine sx_val hA42 rfl (ev_assign (ec _ (.int .i64 0)) _ rfl) ?_
    intro a43 hA43; clear hA42
    refine sx_nil ?_
    refine then_n ?_
    refine wp_ret ?_
    refine bodyPost_ret (rs_tttt (v := .int .i64 ((cfr ⟨rs, bs⟩ k : Nat) : Int)) (v2 := .int .i64 ((cntS (opm bs) 0 k : Nat) : Int)) (v3 := .int .i64 (sumr rs k)) (v4 := .int .i64 0) Try.results27 hA43 (by kernel_rfl) (by kernel_rfl) (by kernel_rfl) (by kernel_rfl) ) hA43.2.1 ?_
    have hkn : k = rs.length := by omega
    have E : cnt ⟨rs, bs⟩ = (((cfr ⟨rs, bs⟩ k : Nat) : Int), ((cntS (opm bs) 0 k : Nat) : Int), sumr rs k, 0) := by
      rw [hkn]
      exact if_neg (by omega)
    exact ⟨by rw [E], hbel28⟩
  have hp31 := of_decide_eq_true hd31
  have hkr : k < rs.length := by omega
  obtain ⟨x, hx⟩ : ∃ x, rs[k]? = some x := ⟨_, List.getElem?_eq_getElem hkr⟩
  obtain ⟨y, hy⟩ : ∃ y, bs[k]? = some y := ⟨_, List.getElem?_eq_getElem (by omega)⟩
  have hxv : 0 ≤ x ∧ x ≤ 512 := hok.val k x hx
  have hoy : opm bs k = y := by simp [opm, hy]
  have hs1 := sumr_bd hok.val k
  have hs2 := sumr_bd hok.val (k + 1)
  have hc1 := cfr_le ⟨rs, bs⟩ (k + 1)
  have hc2 := cntS_le (opm bs) 0 (k + 1)
  simp only at hs1 hs2
  refine wp_seq ?_
  refine wp_seq ?_
  refine wp_region_lit ?_
  refine sx_val hA28 rfl (ev_move (hA28.ev (i := 11) (v := .int .i64 (k : Int))) _ rfl) ?_
  intro a44 hA44; clear hA28
  refine sx_val (v := .pointer (some ⟨B1, 0, none⟩)) hA44 rfl (fb_Slots_0 (hA44.ev (i := 1) (v := .pointer (some ⟨B1, 0, none⟩))) _ rfl) ?_
  intro a45 hA45; clear hA44
  refine sx_val (v := .slice A1 rs.length c1) hA45 rfl (ev_cell (v := .slice A1 rs.length c1) (hA45.ev (i := 21) (v := .pointer (some ⟨B1, 0, none⟩))) ((f28_0.cell 0).trans rfl) Try.underlying22 rfl _ rfl) ?_
  intro a46 hA46; clear hA45
  refine sx_val (v := .int .i64 (rs.length : Int)) hA46 rfl (ev_len (hA46.ev (i := 22) (v := .slice A1 rs.length c1)) Try.underlying22 _ rfl) ?_
  intro a47 hA47; clear hA46
  refine sx_val (v := .bool true) hA47 rfl (ev_lssB (k := .i64) (m := (k : Int)) (n := (rs.length : Int)) (hA47.ev (i := 20)) (hA47.ev (i := 23)) hd31 _ rfl) ?_
  intro a48 hA48; clear hA47
  refine sx_nil ?_
  refine then_n ?_
  refine wp_cond_true (hA48.ev (i := 24) (v := .bool true)) ?_
  refine wp_skip ?_
  refine then_n ?_
  refine wp_seq ?_
  refine wp_block ?_
  refine wp_seq ?_
  refine wp_seq ?_
  refine wp_region_lit ?_
  refine sx_val (v := .agg #[.slice A1 rs.length c1, .slice A2 bs.length c2]) hA48 rfl (ev_row (hA48.ev (i := 1) (v := .pointer (some ⟨B1, 0, none⟩))) f28_0 Try.underlying25 rfl (n := 2) (by kernel_rfl) rfl _ rfl) ?_
  intro a49 hA49; clear hA48
  refine sx_val hA49 rfl (ev_move (hA49.ev (i := 11) (v := .int .i64 (k : Int))) _ rfl) ?_
  intro a50 hA50; clear hA49
  refine sx_call (f := 40) (args := #[.agg #[.slice A1 rs.length c1, .slice A2 bs.length c2], .int .i64 (k : Int)]) hA50 rfl (by decide) (.inl rfl) (ev_fn rfl (mp2 (hA50.ev (i := 27) (v := .agg #[.slice A1 rs.length c1, .slice A2 bs.length c2])) (hA50.ev (i := 28) (v := .int .i64 (k : Int)))) (by kernel_rfl) _ rfl) (sfree_any A1 c1 A2 c2 rs bs k _ ⟨(hs.r.below hbel28), (hs.b.below hbel28)⟩ (by first | omega | (rw [List.length_set] <;> omega)) (by first | omega | (rw [List.length_set] <;> omega))) ?_
  intro e51 w51 hR51
  obtain ⟨rfl, hb51⟩ := hR51
  refine ⟨_, rfl, ?_⟩
  intro a51 hA51
  clear hA50
  have hg51 := g0 hb51
  have hs51 := hg51.size
  clear hb51
  refine sx_nil ?_
  refine then_n ?_
  cases hd52 : (fre ⟨rs, bs⟩ k)
  · rw [hd52] at hA51
    refine wp_cond_false (hA51.ev (i := 29) (v := .bool false)) ?_
    refine wp_skip ?_
    refine then_n ?_
    refine wp_seq ?_
    refine wp_seq ?_
    refine wp_region_lit ?_
    refine sx_val (v := .pointer (some ⟨B1, 1, none⟩)) hA51 rfl (fb_Slots_1 (hA51.ev (i := 1) (v := .pointer (some ⟨B1, 0, none⟩))) _ rfl) ?_
    intro a53 hA53; clear hA51
    have f28_54 := f28_0.gN hg51
    refine sx_val (v := .slice A2 bs.length c2) hA53 rfl (ev_cell (v := .slice A2 bs.length c2) (hA53.ev (i := 32) (v := .pointer (some ⟨B1, 1, none⟩))) ((f28_54.cell 1).trans rfl) Try.underlying23 rfl _ rfl) ?_
    intro a55 hA55; clear hA53
    refine sx_val hA55 rfl (ev_move (hA55.ev (i := 11) (v := .int .i64 (k : Int))) _ rfl) ?_
    intro a56 hA56; clear hA55
    have hbel28_58 := Below.gN hbel28 hg51 hbel28.size
    obtain ⟨ad57, hAd57⟩ := GR.adr (hs.b.below hbel28_58) bva_sz hy
    refine sx_val (v := .pointer (some (ad57.add (k * 1)))) hA56 rfl (ev_idx (k := k) (hA56.ev (i := 33) (v := .slice A2 bs.length c2)) hAd57 (hA56.ev (i := 34) (v := .int .i64 (k : Int))) rfl (by omega) Try.underlying23 (by kernel_rfl) _ rfl) ?_
    intro a59 hA59; clear hA56
    refine sx_val (v := .bool y) hA59 rfl (ev_cell (hA59.ev (i := 35) (v := .pointer (some (ad57.add (k * 1))))) ((GR.cel (hs.b.below hbel28_58) hAd57 bva_sz hy) 0 _ rfl) Try.underlying4 rfl _ rfl) ?_
    intro a60 hA60; clear hA59
    refine sx_nil ?_
    refine then_n ?_
    cases hd61 : y
    · rw [hd61] at hA60
      refine wp_cond_false (hA60.ev (i := 36) (v := .bool false)) ?_
      refine wp_skip ?_
      refine then_n ?_
      refine wp_region_lit ?_
      refine sx_val hA60 rfl (ev_move (hA60.ev (i := 10) (v := .int .i64 (sumr rs k))) _ rfl) ?_
      intro a62 hA62; clear hA60
      refine sx_val (v := .pointer (some ⟨B1, 0, none⟩)) hA62 rfl (fb_Slots_0 (hA62.ev (i := 1) (v := .pointer (some ⟨B1, 0, none⟩))) _ rfl) ?_
      intro a63 hA63; clear hA62
      refine sx_val (v := .slice A1 rs.length c1) hA63 rfl (ev_cell (v := .slice A1 rs.length c1) (hA63.ev (i := 40) (v := .pointer (some ⟨B1, 0, none⟩))) ((f28_54.cell 0).trans rfl) Try.underlying22 rfl _ rfl) ?_
      intro a64 hA64; clear hA63
      refine sx_val hA64 rfl (ev_move (hA64.ev (i := 11) (v := .int .i64 (k : Int))) _ rfl) ?_
      intro a65 hA65; clear hA64
      obtain ⟨ad66, hAd66⟩ := GR.adr (hs.r.below hbel28_58) iva_sz hx
      refine sx_val (v := .pointer (some (ad66.add (k * 1)))) hA65 rfl (ev_idx (k := k) (hA65.ev (i := 41) (v := .slice A1 rs.length c1)) hAd66 (hA65.ev (i := 42) (v := .int .i64 (k : Int))) rfl (by omega) Try.underlying22 (by kernel_rfl) _ rfl) ?_
      intro a67 hA67; clear hA65
      refine sx_val (v := .int .i64 x) hA67 rfl (ev_cell (hA67.ev (i := 43) (v := .pointer (some (ad66.add (k * 1))))) ((GR.cel (hs.r.below hbel28_58) hAd66 iva_sz hx) 0 _ rfl) Try.underlying3 rfl _ rfl) ?_
      intro a68 hA68; clear hA67
      refine sx_val (v := .int .i64 (sumr rs (k + 1))) hA68 rfl (ev_addR (k := .i64) (m := (sumr rs k)) (n := x) (r := (sumr rs (k + 1))) (hA68.ev (i := 39)) (hA68.ev (i := 44)) (wr (sumr_succ hx) (by omega) (by omega)) _ rfl) ?_
      intro a69 hA69; clear hA68
      refine sx_val hA69 rfl (ev_assign (hA69.ev (i := 45) (v := .int .i64 (sumr rs (k + 1)))) _ rfl) ?_
      intro a70 hA70; clear hA69
      refine sx_nil ?_
      refine blk_n ?_
      refine then_n ?_
      refine wp_region_lit ?_
      refine sx_val hA70 rfl (ev_move (hA70.ev (i := 11) (v := .int .i64 (k : Int))) _ rfl) ?_
      intro a71 hA71; clear hA70
      refine sx_val (v := .int .i64 ((k + 1 : Nat) : Int)) hA71 rfl (ev_addR (k := .i64) (m := (k : Int)) (n := 1) (r := ((k + 1 : Nat) : Int)) (hA71.ev (i := 25)) (ec _ (.int .i64 1)) (wr (by omega) (by omega) (by omega)) _ rfl) ?_
      intro a72 hA72; clear hA71
      refine sx_val hA72 rfl (ev_assign (hA72.ev (i := 26) (v := .int .i64 ((k + 1 : Nat) : Int))) _ rfl) ?_
      intro a73 hA73; clear hA72
      refine sx_nil ?_
      refine then_n ?_
      rw [cfr_f hd52] at hA73
      rw [cntS_f (hoy.trans hd61)] at hA73
      refine ⟨rs.length - (k + 1), by omega, k + 1, rfl, ((((((((((Ag.nil hA73.1 hA73.2.1).cons (hA73.get (i := 10) (v := .int .i64 (sumr rs (k + 1))))).cons (hA73.get (i := 9) (v := .int .i64 ((cntS (opm bs) 0 (k + 1) : Nat) : Int)))).cons (hA73.get (i := 8) (v := .int .i64 ((cfr ⟨rs, bs⟩ (k + 1) : Nat) : Int)))).cons (hA73.get (i := 11) (v := .int .i64 ((k + 1 : Nat) : Int)))).cons (hA73.get (i := 5) (v := .int .i64 0))).cons (hA73.get (i := 4) (v := .int .i64 0))).cons (hA73.get (i := 3) (v := .int .i64 0))).cons (hA73.get (i := 2) (v := .int .i64 0))).cons (hA73.get (i := 1) (v := .pointer (some ⟨B1, 0, none⟩)))), by omega, f28_54, by omega, hbel28_58⟩
    rw [hd61] at hA60
    refine wp_cond_true (hA60.ev (i := 36) (v := .bool true)) ?_
    refine wp_region_lit ?_
    refine sx_val hA60 rfl (ev_move (hA60.ev (i := 9) (v := .int .i64 ((cntS (opm bs) 0 k : Nat) : Int))) _ rfl) ?_
    intro a74 hA74; clear hA60
    refine sx_val (v := .int .i64 ((cntS (opm bs) 0 (k + 1) : Nat) : Int)) hA74 rfl (ev_addR (k := .i64) (m := ((cntS (opm bs) 0 k : Nat) : Int)) (n := 1) (r := ((cntS (opm bs) 0 (k + 1) : Nat) : Int)) (hA74.ev (i := 37)) (ec _ (.int .i64 1)) (wr (by have := cntS_t (hoy.trans hd61); omega) (by omega) (by omega)) _ rfl) ?_
    intro a75 hA75; clear hA74
    refine sx_val hA75 rfl (ev_assign (hA75.ev (i := 38) (v := .int .i64 ((cntS (opm bs) 0 (k + 1) : Nat) : Int))) _ rfl) ?_
    intro a76 hA76; clear hA75
    refine sx_nil ?_
    refine then_n ?_
    refine wp_region_lit ?_
    refine sx_val hA76 rfl (ev_move (hA76.ev (i := 10) (v := .int .i64 (sumr rs k))) _ rfl) ?_
    intro a77 hA77; clear hA76
    refine sx_val (v := .pointer (some ⟨B1, 0, none⟩)) hA77 rfl (fb_Slots_0 (hA77.ev (i := 1) (v := .pointer (some ⟨B1, 0, none⟩))) _ rfl) ?_
    intro a78 hA78; clear hA77
    refine sx_val (v := .slice A1 rs.length c1) hA78 rfl (ev_cell (v := .slice A1 rs.length c1) (hA78.ev (i := 40) (v := .pointer (some ⟨B1, 0, none⟩))) ((f28_54.cell 0).trans rfl) Try.underlying22 rfl _ rfl) ?_
    intro a79 hA79; clear hA78
    refine sx_val hA79 rfl (ev_move (hA79.ev (i := 11) (v := .int .i64 (k : Int))) _ rfl) ?_
    intro a80 hA80; clear hA79
    obtain ⟨ad81, hAd81⟩ := GR.adr (hs.r.below hbel28_58) iva_sz hx
    refine sx_val (v := .pointer (some (ad81.add (k * 1)))) hA80 rfl (ev_idx (k := k) (hA80.ev (i := 41) (v := .slice A1 rs.length c1)) hAd81 (hA80.ev (i := 42) (v := .int .i64 (k : Int))) rfl (by omega) Try.underlying22 (by kernel_rfl) _ rfl) ?_
    intro a82 hA82; clear hA80
    refine sx_val (v := .int .i64 x) hA82 rfl (ev_cell (hA82.ev (i := 43) (v := .pointer (some (ad81.add (k * 1))))) ((GR.cel (hs.r.below hbel28_58) hAd81 iva_sz hx) 0 _ rfl) Try.underlying3 rfl _ rfl) ?_
    intro a83 hA83; clear hA82
    refine sx_val (v := .int .i64 (sumr rs (k + 1))) hA83 rfl (ev_addR (k := .i64) (m := (sumr rs k)) (n := x) (r := (sumr rs (k + 1))) (hA83.ev (i := 39)) (hA83.ev (i := 44)) (wr (sumr_succ hx) (by omega) (by omega)) _ rfl) ?_
    intro a84 hA84; clear hA83
    refine sx_val hA84 rfl (ev_assign (hA84.ev (i := 45) (v := .int .i64 (sumr rs (k + 1)))) _ rfl) ?_
    intro a85 hA85; clear hA84
    refine sx_nil ?_
    refine blk_n ?_
    refine then_n ?_
    refine wp_region_lit ?_
    refine sx_val hA85 rfl (ev_move (hA85.ev (i := 11) (v := .int .i64 (k : Int))) _ rfl) ?_
    intro a86 hA86; clear hA85
    refine sx_val (v := .int .i64 ((k + 1 : Nat) : Int)) hA86 rfl (ev_addR (k := .i64) (m := (k : Int)) (n := 1) (r := ((k + 1 : Nat) : Int)) (hA86.ev (i := 25)) (ec _ (.int .i64 1)) (wr (by omega) (by omega) (by omega)) _ rfl) ?_
    intro a87 hA87; clear hA86
    refine sx_val hA87 rfl (ev_assign (hA87.ev (i := 26) (v := .int .i64 ((k + 1 : Nat) : Int))) _ rfl) ?_
    intro a88 hA88; clear hA87
    refine sx_nil ?_
    refine then_n ?_
    rw [cfr_f hd52] at hA88
    refine ⟨rs.length - (k + 1), by omega, k + 1, rfl, ((((((((((Ag.nil hA88.1 hA88.2.1).cons (hA88.get (i := 10) (v := .int .i64 (sumr rs (k + 1))))).cons (hA88.get (i := 9) (v := .int .i64 ((cntS (opm bs) 0 (k + 1) : Nat) : Int)))).cons (hA88.get (i := 8) (v := .int .i64 ((cfr ⟨rs, bs⟩ (k + 1) : Nat) : Int)))).cons (hA88.get (i := 11) (v := .int .i64 ((k + 1 : Nat) : Int)))).cons (hA88.get (i := 5) (v := .int .i64 0))).cons (hA88.get (i := 4) (v := .int .i64 0))).cons (hA88.get (i := 3) (v := .int .i64 0))).cons (hA88.get (i := 2) (v := .int .i64 0))).cons (hA88.get (i := 1) (v := .pointer (some ⟨B1, 0, none⟩)))), by omega, f28_54, by omega, hbel28_58⟩
  rw [hd52] at hA51
  refine wp_cond_true (hA51.ev (i := 29) (v := .bool true)) ?_
  refine wp_region_lit ?_
  refine sx_val hA51 rfl (ev_move (hA51.ev (i := 8) (v := .int .i64 ((cfr ⟨rs, bs⟩ k : Nat) : Int))) _ rfl) ?_
  intro a89 hA89; clear hA51
  refine sx_val (v := .int .i64 ((cfr ⟨rs, bs⟩ (k + 1) : Nat) : Int)) hA89 rfl (ev_addR (k := .i64) (m := ((cfr ⟨rs, bs⟩ k : Nat) : Int)) (n := 1) (r := ((cfr ⟨rs, bs⟩ (k + 1) : Nat) : Int)) (hA89.ev (i := 30)) (ec _ (.int .i64 1)) (wr (by have := cfr_t hd52; omega) (by omega) (by omega)) _ rfl) ?_
  intro a90 hA90; clear hA89
  refine sx_val hA90 rfl (ev_assign (hA90.ev (i := 31) (v := .int .i64 ((cfr ⟨rs, bs⟩ (k + 1) : Nat) : Int))) _ rfl) ?_
  intro a91 hA91; clear hA90
  refine sx_nil ?_
  refine then_n ?_
  refine wp_seq ?_
  refine wp_seq ?_
  refine wp_region_lit ?_
  refine sx_val (v := .pointer (some ⟨B1, 1, none⟩)) hA91 rfl (fb_Slots_1 (hA91.ev (i := 1) (v := .pointer (some ⟨B1, 0, none⟩))) _ rfl) ?_
  intro a92 hA92; clear hA91
  have f28_93 := f28_0.gN hg51
  refine sx_val (v := .slice A2 bs.length c2) hA92 rfl (ev_cell (v := .slice A2 bs.length c2) (hA92.ev (i := 32) (v := .pointer (some ⟨B1, 1, none⟩))) ((f28_93.cell 1).trans rfl) Try.underlying23 rfl _ rfl) ?_
  intro a94 hA94; clear hA92
  refine sx_val hA94 rfl (ev_move (hA94.ev (i := 11) (v := .int .i64 (k : Int))) _ rfl) ?_
  intro a95 hA95; clear hA94
  have hbel28_97 := Below.gN hbel28 hg51 hbel28.size
  obtain ⟨ad96, hAd96⟩ := GR.adr (hs.b.below hbel28_97) bva_sz hy
  refine sx_val (v := .pointer (some (ad96.add (k * 1)))) hA95 rfl (ev_idx (k := k) (hA95.ev (i := 33) (v := .slice A2 bs.length c2)) hAd96 (hA95.ev (i := 34) (v := .int .i64 (k : Int))) rfl (by omega) Try.underlying23 (by kernel_rfl) _ rfl) ?_
  intro a98 hA98; clear hA95
  refine sx_val (v := .bool y) hA98 rfl (ev_cell (hA98.ev (i := 35) (v := .pointer (some (ad96.add (k * 1))))) ((GR.cel (hs.b.below hbel28_97) hAd96 bva_sz hy) 0 _ rfl) Try.underlying4 rfl _ rfl) ?_
  intro a99 hA99; clear hA98
  refine sx_nil ?_
  refine then_n ?_
  cases hd100 : y
  · rw [hd100] at hA99
    refine wp_cond_false (hA99.ev (i := 36) (v := .bool false)) ?_
    refine wp_skip ?_
    refine then_n ?_
    refine wp_region_lit ?_
    refine sx_val hA99 rfl (ev_move (hA99.ev (i := 10) (v := .int .i64 (sumr rs k))) _ rfl) ?_
    intro a101 hA101; clear hA99
    refine sx_val (v := .pointer (some ⟨B1, 0, none⟩)) hA101 rfl (fb_Slots_0 (hA101.ev (i := 1) (v := .pointer (some ⟨B1, 0, none⟩))) _ rfl) ?_
    intro a102 hA102; clear hA101
    refine sx_val (v := .slice A1 rs.length c1) hA102 rfl (ev_cell (v := .slice A1 rs.length c1) (hA102.ev (i := 40) (v := .pointer (some ⟨B1, 0, none⟩))) ((f28_93.cell 0).trans rfl) Try.underlying22 rfl _ rfl) ?_
    intro a103 hA103; clear hA102
    refine sx_val hA103 rfl (ev_move (hA103.ev (i := 11) (v := .int .i64 (k : Int))) _ rfl) ?_
    intro a104 hA104; clear hA103
    obtain ⟨ad105, hAd105⟩ := GR.adr (hs.r.below hbel28_97) iva_sz hx
    refine sx_val (v := .pointer (some (ad105.add (k * 1)))) hA104 rfl (ev_idx (k := k) (hA104.ev (i := 41) (v := .slice A1 rs.length c1)) hAd105 (hA104.ev (i := 42) (v := .int .i64 (k : Int))) rfl (by omega) Try.underlying22 (by kernel_rfl) _ rfl) ?_
    intro a106 hA106; clear hA104
    refine sx_val (v := .int .i64 x) hA106 rfl (ev_cell (hA106.ev (i := 43) (v := .pointer (some (ad105.add (k * 1))))) ((GR.cel (hs.r.below hbel28_97) hAd105 iva_sz hx) 0 _ rfl) Try.underlying3 rfl _ rfl) ?_
    intro a107 hA107; clear hA106
    refine sx_val (v := .int .i64 (sumr rs (k + 1))) hA107 rfl (ev_addR (k := .i64) (m := (sumr rs k)) (n := x) (r := (sumr rs (k + 1))) (hA107.ev (i := 39)) (hA107.ev (i := 44)) (wr (sumr_succ hx) (by omega) (by omega)) _ rfl) ?_
    intro a108 hA108; clear hA107
    refine sx_val hA108 rfl (ev_assign (hA108.ev (i := 45) (v := .int .i64 (sumr rs (k + 1)))) _ rfl) ?_
    intro a109 hA109; clear hA108
    refine sx_nil ?_
    refine blk_n ?_
    refine then_n ?_
    refine wp_region_lit ?_
    refine sx_val hA109 rfl (ev_move (hA109.ev (i := 11) (v := .int .i64 (k : Int))) _ rfl) ?_
    intro a110 hA110; clear hA109
    refine sx_val (v := .int .i64 ((k + 1 : Nat) : Int)) hA110 rfl (ev_addR (k := .i64) (m := (k : Int)) (n := 1) (r := ((k + 1 : Nat) : Int)) (hA110.ev (i := 25)) (ec _ (.int .i64 1)) (wr (by omega) (by omega) (by omega)) _ rfl) ?_
    intro a111 hA111; clear hA110
    refine sx_val hA111 rfl (ev_assign (hA111.ev (i := 26) (v := .int .i64 ((k + 1 : Nat) : Int))) _ rfl) ?_
    intro a112 hA112; clear hA111
    refine sx_nil ?_
    refine then_n ?_
    rw [cntS_f (hoy.trans hd100)] at hA112
    refine ⟨rs.length - (k + 1), by omega, k + 1, rfl, ((((((((((Ag.nil hA112.1 hA112.2.1).cons (hA112.get (i := 10) (v := .int .i64 (sumr rs (k + 1))))).cons (hA112.get (i := 9) (v := .int .i64 ((cntS (opm bs) 0 (k + 1) : Nat) : Int)))).cons (hA112.get (i := 8) (v := .int .i64 ((cfr ⟨rs, bs⟩ (k + 1) : Nat) : Int)))).cons (hA112.get (i := 11) (v := .int .i64 ((k + 1 : Nat) : Int)))).cons (hA112.get (i := 5) (v := .int .i64 0))).cons (hA112.get (i := 4) (v := .int .i64 0))).cons (hA112.get (i := 3) (v := .int .i64 0))).cons (hA112.get (i := 2) (v := .int .i64 0))).cons (hA112.get (i := 1) (v := .pointer (some ⟨B1, 0, none⟩)))), by omega, f28_93, by omega, hbel28_97⟩
  rw [hd100] at hA99
  refine wp_cond_true (hA99.ev (i := 36) (v := .bool true)) ?_
  refine wp_region_lit ?_
  refine sx_val hA99 rfl (ev_move (hA99.ev (i := 9) (v := .int .i64 ((cntS (opm bs) 0 k : Nat) : Int))) _ rfl) ?_
  intro a113 hA113; clear hA99
  refine sx_val (v := .int .i64 ((cntS (opm bs) 0 (k + 1) : Nat) : Int)) hA113 rfl (ev_addR (k := .i64) (m := ((cntS (opm bs) 0 k : Nat) : Int)) (n := 1) (r := ((cntS (opm bs) 0 (k + 1) : Nat) : Int)) (hA113.ev (i := 37)) (ec _ (.int .i64 1)) (wr (by have := cntS_t (hoy.trans hd100); omega) (by omega) (by omega)) _ rfl) ?_
  intro a114 hA114; clear hA113
  refine sx_val hA114 rfl (ev_assign (hA114.ev (i := 38) (v := .int .i64 ((cntS (opm bs) 0 (k + 1) : Nat) : Int))) _ rfl) ?_
  intro a115 hA115; clear hA114
  refine sx_nil ?_
  refine then_n ?_
  refine wp_region_lit ?_
  refine sx_val hA115 rfl (ev_move (hA115.ev (i := 10) (v := .int .i64 (sumr rs k))) _ rfl) ?_
  intro a116 hA116; clear hA115
  refine sx_val (v := .pointer (some ⟨B1, 0, none⟩)) hA116 rfl (fb_Slots_0 (hA116.ev (i := 1) (v := .pointer (some ⟨B1, 0, none⟩))) _ rfl) ?_
  intro a117 hA117; clear hA116
  refine sx_val (v := .slice A1 rs.length c1) hA117 rfl (ev_cell (v := .slice A1 rs.length c1) (hA117.ev (i := 40) (v := .pointer (some ⟨B1, 0, none⟩))) ((f28_93.cell 0).trans rfl) Try.underlying22 rfl _ rfl) ?_
  intro a118 hA118; clear hA117
  refine sx_val hA118 rfl (ev_move (hA118.ev (i := 11) (v := .int .i64 (k : Int))) _ rfl) ?_
  intro a119 hA119; clear hA118
  obtain ⟨ad120, hAd120⟩ := GR.adr (hs.r.below hbel28_97) iva_sz hx
  refine sx_val (v := .pointer (some (ad120.add (k * 1)))) hA119 rfl (ev_idx (k := k) (hA119.ev (i := 41) (v := .slice A1 rs.length c1)) hAd120 (hA119.ev (i := 42) (v := .int .i64 (k : Int))) rfl (by omega) Try.underlying22 (by kernel_rfl) _ rfl) ?_
  intro a121 hA121; clear hA119
  refine sx_val (v := .int .i64 x) hA121 rfl (ev_cell (hA121.ev (i := 43) (v := .pointer (some (ad120.add (k * 1))))) ((GR.cel (hs.r.below hbel28_97) hAd120 iva_sz hx) 0 _ rfl) Try.underlying3 rfl _ rfl) ?_
  intro a122 hA122; clear hA121
  refine sx_val (v := .int .i64 (sumr rs (k + 1))) hA122 rfl (ev_addR (k := .i64) (m := (sumr rs k)) (n := x) (r := (sumr rs (k + 1))) (hA122.ev (i := 39)) (hA122.ev (i := 44)) (wr (sumr_succ hx) (by omega) (by omega)) _ rfl) ?_
  intro a123 hA123; clear hA122
  refine sx_val hA123 rfl (ev_assign (hA123.ev (i := 45) (v := .int .i64 (sumr rs (k + 1)))) _ rfl) ?_
  intro a124 hA124; clear hA123
  refine sx_nil ?_
  refine blk_n ?_
  refine then_n ?_
  refine wp_region_lit ?_
  refine sx_val hA124 rfl (ev_move (hA124.ev (i := 11) (v := .int .i64 (k : Int))) _ rfl) ?_
  intro a125 hA125; clear hA124
  refine sx_val (v := .int .i64 ((k + 1 : Nat) : Int)) hA125 rfl (ev_addR (k := .i64) (m := (k : Int)) (n := 1) (r := ((k + 1 : Nat) : Int)) (hA125.ev (i := 25)) (ec _ (.int .i64 1)) (wr (by omega) (by omega) (by omega)) _ rfl) ?_
  intro a126 hA126; clear hA125
  refine sx_val hA126 rfl (ev_assign (hA126.ev (i := 26) (v := .int .i64 ((k + 1 : Nat) : Int))) _ rfl) ?_
  intro a127 hA127; clear hA126
  refine sx_nil ?_
  refine then_n ?_
  refine ⟨rs.length - (k + 1), by omega, k + 1, rfl, ((((((((((Ag.nil hA127.1 hA127.2.1).cons (hA127.get (i := 10) (v := .int .i64 (sumr rs (k + 1))))).cons (hA127.get (i := 9) (v := .int .i64 ((cntS (opm bs) 0 (k + 1) : Nat) : Int)))).cons (hA127.get (i := 8) (v := .int .i64 ((cfr ⟨rs, bs⟩ (k + 1) : Nat) : Int)))).cons (hA127.get (i := 11) (v := .int .i64 ((k + 1 : Nat) : Int)))).cons (hA127.get (i := 5) (v := .int .i64 0))).cons (hA127.get (i := 4) (v := .int .i64 0))).cons (hA127.get (i := 3) (v := .int .i64 0))).cons (hA127.get (i := 2) (v := .int .i64 0))).cons (hA127.get (i := 1) (v := .pointer (some ⟨B1, 0, none⟩)))), by omega, f28_93, by omega, hbel28_97⟩
end Go.Proofs.Ytpoilgfblhacaaa
