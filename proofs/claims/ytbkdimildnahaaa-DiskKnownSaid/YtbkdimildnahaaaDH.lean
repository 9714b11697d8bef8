/- Package disk: slices.Delete. -/
import Derived.Test.YtbkdimildnahaaaDG
import Derived.Test.YtbkdimildnahaaaSE
namespace Go.Proofs.Ytbkdimildnahaaa
open Go.RowKit
set_option linter.unusedVariables false
set_option maxRecDepth 100000

/-- A call closed up a slice of jobs in place. -/
def RetX (w : World) (base : Nat) (v : Value) (xs : List Jb) (e : Ending) (w' : World) : Prop :=
  ∃ A c, e = .returned (.slice A xs.length c) ∧ Own w' base 38 11 (.slice A xs.length c) xs.length (flat Jb.va xs) ∧ w.grownBy w' v.ownBlock
theorem erase_eq {js : List Jb} (i : Nat) : js.take i ++ js.drop (i + 1) = js.eraseIdx i := (List.eraseIdx_eq_take_drop_succ js i).symm

set_option maxHeartbeats 4000000 in
theorem Delete_at (g off c : Nat) (js : List Jb) (i base : Nat) (w : World) (ho : Own w base 38 11 (.slice (some ⟨g, off, none⟩) js.length c) js.length (flat Jb.va js)) (hi : i < js.length) (hj : js.length ≤ 900000) : Calls Try.prog 49 #[.slice (some ⟨g, off, none⟩) js.length c, .int .i64 (i : Int), .int .i64 ((i + 1 : Nat) : Int)] w (RetX w base (.slice (some ⟨g, off, none⟩) js.length c) (js.eraseIdx i)) := by
  have hho := Own.hi ho
  have hcap := (Own.cap ho).1
  have hne : decide ((i : Int) = ((i + 1 : Nat) : Int)) = false := by simp; omega
  have hbel0 := grefl w g
  refine sx_enter (N := 33) [(0, .slice (some ⟨g, off, none⟩) js.length c), (1, .int .i64 (i : Int)), (2, .int .i64 ((i + 1 : Nat) : Int))] Try.func49 rfl Try.ntmps49 (by simp) (fun a z d s => ((((Ag.nil z d).cons (s 2 _ rfl)).cons (s 1 _ rfl)).cons (s 0 _ rfl))) ?_
  intro a0 hA0
  refine wp_seq ?_
  refine wp_region_lit ?_
  refine sx_val (v := .slice none 0 0) hA0 rfl (by decide) (.inl rfl) (ev_assign (ec _ (.slice none 0 0)) _ rfl) ?_
  intro a1 hA1
  clear hA0
  refine sx_nil ?_
  refine then_n ?_
  refine wp_seq ?_
  refine wp_region_lit ?_
  refine sx_val (v := .slice (some ⟨g, off, none⟩) js.length c) hA1 rfl (by decide) (.inl rfl) (ev_move (hA1.ev (i := 0) (v := .slice (some ⟨g, off, none⟩) js.length c) (by kernel_rfl)) _ rfl) ?_
  intro a2 hA2
  clear hA1
  refine sx_val (v := .int .i64 (i : Int)) hA2 rfl (by decide) (.inl rfl) (ev_move (hA2.ev (i := 1) (v := .int .i64 (i : Int)) (by kernel_rfl)) _ rfl) ?_
  intro a3 hA3
  clear hA2
  refine sx_val (v := .int .i64 ((i + 1 : Nat) : Int)) hA3 rfl (by decide) (.inl rfl) (ev_move (hA3.ev (i := 2) (v := .int .i64 ((i + 1 : Nat) : Int)) (by kernel_rfl)) _ rfl) ?_
  intro a4 hA4
  clear hA3
  refine sx_val (v := .slice (some ⟨g, off, none⟩) js.length c) hA4 rfl (by decide) (.inl rfl) (ev_move (hA4.ev (i := 0) (v := .slice (some ⟨g, off, none⟩) js.length c) (by kernel_rfl)) _ rfl) ?_
  intro a5 hA5
  clear hA4
  refine sx_val (v := .int .i64 (js.length : Int)) hA5 rfl (by decide) (.inl rfl) (ev_len (hA5.ev (i := 11) (v := .slice (some ⟨g, off, none⟩) js.length c) (by kernel_rfl)) Try.underlying23 _ rfl) ?_
  intro a6 hA6
  clear hA5
  obtain ⟨A7, hAA7⟩ : ∃ A, (if js.length = i then ((some ⟨g, off, none⟩) : Option Addr) else ((some ⟨g, off, none⟩) : Option Addr).map fun a => a.add (i * 11)) = A := ⟨_, rfl⟩
  refine sx_val (v := .slice A7 (i + 1 - i) (js.length - i)) hA6 rfl (by decide) (.inl rfl) (ev_sl_lhm (l := i) (h := i + 1) (m := js.length) (hA6.ev (i := 8) (v := .slice (some ⟨g, off, none⟩) js.length c) (by kernel_rfl)) (hA6.ev (i := 9) (v := .int .i64 (i : Int)) (by kernel_rfl)) (hA6.ev (i := 10) (v := .int .i64 ((i + 1 : Nat) : Int)) (by kernel_rfl)) (hA6.ev (i := 12) (v := .int .i64 (js.length : Int)) (by kernel_rfl)) rfl rfl rfl (by omega) (by omega) (by omega) hAA7 Try.underlying23 (by kernel_rfl) _ rfl) ?_
  intro a8 hA8
  clear hA6
  refine sx_nil ?_
  refine then_n ?_
  refine wp_seq ?_
  refine wp_seq ?_
  refine wp_region_lit ?_
  refine sx_val (v := .int .i64 (i : Int)) hA8 rfl (by decide) (.inl rfl) (ev_move (hA8.ev (i := 1) (v := .int .i64 (i : Int)) (by kernel_rfl)) _ rfl) ?_
  intro a9 hA9
  clear hA8
  refine sx_val (v := .int .i64 ((i + 1 : Nat) : Int)) hA9 rfl (by decide) (.inl rfl) (ev_move (hA9.ev (i := 2) (v := .int .i64 ((i + 1 : Nat) : Int)) (by kernel_rfl)) _ rfl) ?_
  intro a10 hA10
  clear hA9
  refine sx_val (v := .bool false) hA10 rfl (by decide) (.inl rfl) (ev_eqlB (k := .i64) (m := (i : Int)) (n := ((i + 1 : Nat) : Int)) (hA10.ev (i := 14) (v := .int .i64 (i : Int)) (by kernel_rfl)) (hA10.ev (i := 15) (v := .int .i64 ((i + 1 : Nat) : Int)) (by kernel_rfl)) hne _ rfl) ?_
  intro a11 hA11
  clear hA10
  refine sx_nil ?_
  refine then_n ?_
  refine wp_cond_false (hA11.ev (i := 16) (v := .bool false) (by kernel_rfl)) ?_
  refine wp_skip ?_
  refine then_n ?_
  refine wp_seq ?_
  refine wp_region_lit ?_
  refine sx_val (v := .slice (some ⟨g, off, none⟩) js.length c) hA11 rfl (by decide) (.inl rfl) (ev_move (hA11.ev (i := 0) (v := .slice (some ⟨g, off, none⟩) js.length c) (by kernel_rfl)) _ rfl) ?_
  intro a12 hA12
  clear hA11
  refine sx_val (v := .int .i64 (js.length : Int)) hA12 rfl (by decide) (.inl rfl) (ev_len (hA12.ev (i := 18) (v := .slice (some ⟨g, off, none⟩) js.length c) (by kernel_rfl)) Try.underlying23 _ rfl) ?_
  intro a13 hA13
  clear hA12
  refine sx_val (v := .int .i64 (js.length : Int)) hA13 rfl (by decide) (.inl rfl) (ev_assign (hA13.ev (i := 19) (v := .int .i64 (js.length : Int)) (by kernel_rfl)) _ rfl) ?_
  intro a14 hA14
  clear hA13
  refine sx_nil ?_
  refine then_n ?_
  refine wp_seq ?_
  obtain ⟨AAs, hAAs⟩ : ∃ A, (if c = i + 1 then ((some ⟨g, off, none⟩) : Option Addr) else ((some ⟨g, off, none⟩) : Option Addr).map fun a => a.add ((i + 1) * 11)) = A := ⟨_, rfl⟩
  refine region_D (n := 8) (by kernel_rfl) (by kernel_rfl) rfl (fun L ac wc => w.grownBy wc (some g) ∧ w.heap.size ≤ wc.heap.size ∧ (L 6 = false → Own wc (base) 38 11 (.slice (some ⟨g, off, none⟩) js.length c) js.length (flat Jb.va js)) ∧ (L 6 = true → Own wc base 38 11 (.slice (some ⟨g, off, none⟩) (js.take i ++ js.drop (i + 1)).length c) (js.take i ++ js.drop (i + 1)).length (flat Jb.va (js.take i ++ js.drop (i + 1)))) ∧ (L 7 = false → Sv ac 0 (.slice (some ⟨g, off, none⟩) js.length c)) ∧ (L 7 = true → L 0 = true) ∧ (L 7 = true → L 3 = true) ∧ (L 2 = true → L 0 = true) ∧ (L 6 = true → L 0 = true) ∧ (L 5 = true → L 3 = true) ∧ (L 6 = true → L 3 = true) ∧ (L 0 = true → Sv ac 20 (.slice (some ⟨g, off, none⟩) js.length c)) ∧ (L 1 = true → Sv ac 21 (.int .i64 (i : Int))) ∧ (L 2 = true → Sv ac 22 (.slice (some ⟨g, off, none⟩) i c)) ∧ (L 3 = true → Sv ac 23 (.slice (some ⟨g, off, none⟩) js.length c)) ∧ (L 4 = true → Sv ac 24 (.int .i64 ((i + 1 : Nat) : Int))) ∧ (L 5 = true → Sv ac 25 (.slice AAs (js.length - (i + 1)) (c - (i + 1)))) ∧ (L 6 = true → Sv ac 26 (.slice (some ⟨g, off, none⟩) ((js.take i ++ js.drop (i + 1)).length) c)) ∧ (L 7 = true → Sv ac 0 (.slice (some ⟨g, off, none⟩) ((js.take i ++ js.drop (i + 1)).length) c))) ⟨(gtrN hbel0 (gdr _)), (Nat.le_refl _), (fun _ => Own.gN ho (gdr _)), (fun h => by cases h), (fun _ => hA14.get (i := 0) (v := .slice (some ⟨g, off, none⟩) js.length c) (by kernel_rfl)), (fun h => by cases h), (fun h => by cases h), (fun h => by cases h), (fun h => by cases h), (fun h => by cases h), (fun h => by cases h), (fun h => by cases h), (fun h => by cases h), (fun h => by cases h), (fun h => by cases h), (fun h => by cases h), (fun h => by cases h), (fun h => by cases h), (fun h => by cases h)⟩ ?_ ?_
  · intro iq hiq o ho L hL hdep ac wc hF hJ
    obtain ⟨bl, sz, p_0, oo, ps_0, cl_7_0, cl_7_3, cl_2_0, cl_6_0, cl_5_3, cl_6_3, s_20, s_21, s_22, s_23, s_24, s_25, s_26, s_0⟩ := hJ
    have z := hF.1.trans hA14.1
    match iq, hiq with
    | 0, _ =>
      have ho2 := Option.some.inj (show some _ = some o from ho)
      subst ho2
      clear ho
      have ep0 : L 7 = false := by
          cases hc : L 7
          · rfl
          · exact absurd (cl_7_0 hc) (by rw [hL]; decide)
      have v0 := ps_0 ep0
      refine dj_val (i := 0) (v := .slice (some ⟨g, off, none⟩) js.length c) rfl (.inl rfl) (ev_move v0.eval _ rfl) ?_
      exact ⟨⟨_, rfl⟩, (bl), (sz), (p_0), (oo), (fun h => (ps_0 h).other (by decide) _), (fun _ => rfl), (cl_7_3), (fun _ => rfl), (fun _ => rfl), (cl_5_3), (cl_6_3), (fun _ => Sv.self (by rw [z]; decide) _), (fun h => (s_21 h).other (by decide) _), (fun h => (s_22 h).other (by decide) _), (fun h => (s_23 h).other (by decide) _), (fun h => (s_24 h).other (by decide) _), (fun h => (s_25 h).other (by decide) _), (fun h => (s_26 h).other (by decide) _), (fun h => (s_0 h).other (by decide) _)⟩
    | 1, _ =>
      have ho2 := Option.some.inj (show some _ = some o from ho)
      subst ho2
      clear ho
      have v1 := hF.sv (s := 1) (by kernel_rfl) (hA14.get (i := 1) (v := .int .i64 (i : Int)) (by kernel_rfl))
      refine dj_val (i := 1) (v := .int .i64 (i : Int)) rfl (.inl rfl) (ev_move v1.eval _ rfl) ?_
      exact ⟨⟨_, rfl⟩, (bl), (sz), (p_0), (oo), (fun h => (ps_0 h).other (by decide) _), (cl_7_0), (cl_7_3), (cl_2_0), (cl_6_0), (cl_5_3), (cl_6_3), (fun h => (s_20 h).other (by decide) _), (fun _ => Sv.self (by rw [z]; decide) _), (fun h => (s_22 h).other (by decide) _), (fun h => (s_23 h).other (by decide) _), (fun h => (s_24 h).other (by decide) _), (fun h => (s_25 h).other (by decide) _), (fun h => (s_26 h).other (by decide) _), (fun h => (s_0 h).other (by decide) _)⟩
    | 2, _ =>
      have ho2 := Option.some.inj (show some _ = some o from ho)
      subst ho2
      clear ho
      have v20 := s_20 (hdep 0 (dep_in (by kernel_rfl)))
      have v21 := s_21 (hdep 1 (dep_in (by kernel_rfl)))
      refine dj_val (i := 2) (v := .slice (some ⟨g, off, none⟩) i c) rfl (.inl rfl) (ev_sl_h (size := 11) (h := i) v20.eval v21.eval rfl (by omega) Try.underlying23 (by kernel_rfl) _ rfl) ?_
      exact ⟨⟨_, rfl⟩, (bl), (sz), (p_0), (oo), (fun h => (ps_0 h).other (by decide) _), (cl_7_0), (cl_7_3), (fun _ => hdep 0 (dep_in (by kernel_rfl))), (cl_6_0), (cl_5_3), (cl_6_3), (fun h => (s_20 h).other (by decide) _), (fun h => (s_21 h).other (by decide) _), (fun _ => Sv.self (by rw [z]; decide) _), (fun h => (s_23 h).other (by decide) _), (fun h => (s_24 h).other (by decide) _), (fun h => (s_25 h).other (by decide) _), (fun h => (s_26 h).other (by decide) _), (fun h => (s_0 h).other (by decide) _)⟩
    | 3, _ =>
      have ho2 := Option.some.inj (show some _ = some o from ho)
      subst ho2
      clear ho
      have ep0 : L 7 = false := by
          cases hc : L 7
          · rfl
          · exact absurd (cl_7_3 hc) (by rw [hL]; decide)
      have v0 := ps_0 ep0
      refine dj_val (i := 3) (v := .slice (some ⟨g, off, none⟩) js.length c) rfl (.inl rfl) (ev_move v0.eval _ rfl) ?_
      exact ⟨⟨_, rfl⟩, (bl), (sz), (p_0), (oo), (fun h => (ps_0 h).other (by decide) _), (cl_7_0), (fun _ => rfl), (cl_2_0), (cl_6_0), (fun _ => rfl), (fun _ => rfl), (fun h => (s_20 h).other (by decide) _), (fun h => (s_21 h).other (by decide) _), (fun h => (s_22 h).other (by decide) _), (fun _ => Sv.self (by rw [z]; decide) _), (fun h => (s_24 h).other (by decide) _), (fun h => (s_25 h).other (by decide) _), (fun h => (s_26 h).other (by decide) _), (fun h => (s_0 h).other (by decide) _)⟩
    | 4, _ =>
      have ho2 := Option.some.inj (show some _ = some o from ho)
      subst ho2
      clear ho
      have v2 := hF.sv (s := 2) (by kernel_rfl) (hA14.get (i := 2) (v := .int .i64 ((i + 1 : Nat) : Int)) (by kernel_rfl))
      refine dj_val (i := 4) (v := .int .i64 ((i + 1 : Nat) : Int)) rfl (.inl rfl) (ev_move v2.eval _ rfl) ?_
      exact ⟨⟨_, rfl⟩, (bl), (sz), (p_0), (oo), (fun h => (ps_0 h).other (by decide) _), (cl_7_0), (cl_7_3), (cl_2_0), (cl_6_0), (cl_5_3), (cl_6_3), (fun h => (s_20 h).other (by decide) _), (fun h => (s_21 h).other (by decide) _), (fun h => (s_22 h).other (by decide) _), (fun h => (s_23 h).other (by decide) _), (fun _ => Sv.self (by rw [z]; decide) _), (fun h => (s_25 h).other (by decide) _), (fun h => (s_26 h).other (by decide) _), (fun h => (s_0 h).other (by decide) _)⟩
    | 5, _ =>
      have ho2 := Option.some.inj (show some _ = some o from ho)
      subst ho2
      clear ho
      have v23 := s_23 (hdep 3 (dep_in (by kernel_rfl)))
      have v24 := s_24 (hdep 4 (dep_in (by kernel_rfl)))
      refine dj_val (i := 5) (v := .slice AAs (js.length - (i + 1)) (c - (i + 1))) rfl (.inl rfl) (ev_sl_l (l := i + 1) v23.eval v24.eval rfl (by omega) hAAs Try.underlying23 (by kernel_rfl) _ rfl) ?_
      exact ⟨⟨_, rfl⟩, (bl), (sz), (p_0), (oo), (fun h => (ps_0 h).other (by decide) _), (cl_7_0), (cl_7_3), (cl_2_0), (cl_6_0), (fun _ => hdep 3 (dep_in (by kernel_rfl))), (cl_6_3), (fun h => (s_20 h).other (by decide) _), (fun h => (s_21 h).other (by decide) _), (fun h => (s_22 h).other (by decide) _), (fun h => (s_23 h).other (by decide) _), (fun h => (s_24 h).other (by decide) _), (fun _ => Sv.self (by rw [z]; decide) _), (fun h => (s_26 h).other (by decide) _), (fun h => (s_0 h).other (by decide) _)⟩
    | 6, _ =>
      have ho2 := Option.some.inj (show some _ = some o from ho)
      subst ho2
      clear ho
      have v22 := s_22 (hdep 2 (dep_in (by kernel_rfl)))
      have v25 := s_25 (hdep 5 (dep_in (by kernel_rfl)))
      obtain ⟨w2, hr, hown, hg⟩ := run_close (P := Try.prog) (t := 23) (ty := 23) (p_0 hL) jb_sz jb_one rfl (i := i) (j := i + 1) (by omega) (by omega) hAAs Try.underlying23 (by kernel_rfl)
      have e1 := v22.eval
      have e2 := v25.eval
      refine dj_val (i := 6) (v := .slice (some ⟨g, off, none⟩) ((js.take i ++ js.drop (i + 1)).length) c) (w' := w2) rfl (.inl rfl) (by simp only [execOp, resolve, invoke, builtin, Sem.run_bind, Sem.run_pure, Result.andThen_ok, List.map_toArray, List.map_cons, List.map_nil, e1, e2, hr]) ?_
      exact ⟨⟨_, rfl⟩, (gtr bl hg), (Nat.le_trans sz hg.size), (fun h => by cases h), (fun _ => hown), (fun h => (ps_0 h).other (by decide) _), (cl_7_0), (cl_7_3), (cl_2_0), (fun _ => cl_2_0 (hdep 2 (dep_in (by kernel_rfl)))), (cl_5_3), (fun _ => cl_5_3 (hdep 5 (dep_in (by kernel_rfl)))), (fun h => (s_20 h).other (by decide) _), (fun h => (s_21 h).other (by decide) _), (fun h => (s_22 h).other (by decide) _), (fun h => (s_23 h).other (by decide) _), (fun h => (s_24 h).other (by decide) _), (fun h => (s_25 h).other (by decide) _), (fun _ => Sv.self (by rw [z]; decide) _), (fun h => (s_0 h).other (by decide) _)⟩
    | 7, _ =>
      have ho2 := Option.some.inj (show some _ = some o from ho)
      subst ho2
      clear ho
      have v26 := s_26 (hdep 6 (dep_in (by kernel_rfl)))
      refine dj_val (i := 7) (v := .slice (some ⟨g, off, none⟩) ((js.take i ++ js.drop (i + 1)).length) c) rfl (.inl rfl) (ev_assign v26.eval _ rfl) ?_
      exact ⟨⟨_, rfl⟩, (bl), (sz), (p_0), (oo), (fun h => by cases h), (fun _ => cl_6_0 (hdep 6 (dep_in (by kernel_rfl)))), (fun _ => cl_6_3 (hdep 6 (dep_in (by kernel_rfl)))), (cl_2_0), (cl_6_0), (cl_5_3), (cl_6_3), (fun h => (s_20 h).other (by decide) _), (fun h => (s_21 h).other (by decide) _), (fun h => (s_22 h).other (by decide) _), (fun h => (s_23 h).other (by decide) _), (fun h => (s_24 h).other (by decide) _), (fun h => (s_25 h).other (by decide) _), (fun h => (s_26 h).other (by decide) _), (fun _ => Sv.self (by rw [z]; decide) _)⟩
    | k + 8, h => exact absurd h (by omega)
  · intro L hall ac19 wc19 hF hJ
    obtain ⟨bl, sz, p_0, oo, ps_0, cl_7_0, cl_7_3, cl_2_0, cl_6_0, cl_5_3, cl_6_3, s_20, s_21, s_22, s_23, s_24, s_25, s_26, s_0⟩ := hJ
    have hA19 : Ag ac19 33 [(1, .int .i64 (i : Int)), (2, .int .i64 ((i + 1 : Nat) : Int)), (6, .slice none 0 0), (8, .slice (some ⟨g, off, none⟩) js.length c), (9, .int .i64 (i : Int)), (10, .int .i64 ((i + 1 : Nat) : Int)), (11, .slice (some ⟨g, off, none⟩) js.length c), (12, .int .i64 (js.length : Int)), (14, .int .i64 (i : Int)), (15, .int .i64 ((i + 1 : Nat) : Int)), (16, .bool false), (18, .slice (some ⟨g, off, none⟩) js.length c), (19, .int .i64 (js.length : Int)), (7, .int .i64 (js.length : Int)), (20, .slice (some ⟨g, off, none⟩) js.length c), (21, .int .i64 (i : Int)), (22, .slice (some ⟨g, off, none⟩) i c), (23, .slice (some ⟨g, off, none⟩) js.length c), (24, .int .i64 ((i + 1 : Nat) : Int)), (25, .slice AAs (js.length - (i + 1)) (c - (i + 1))), (26, .slice (some ⟨g, off, none⟩) ((js.take i ++ js.drop (i + 1)).length) c), (0, .slice (some ⟨g, off, none⟩) ((js.take i ++ js.drop (i + 1)).length) c)] := (((((((((((((((((((((((Ag.nil (hF.1.trans hA14.1) (hF.2.1.trans hA14.2.1)).cons (s_0 (hall 7 (by decide)))).cons (s_26 (hall 6 (by decide)))).cons (s_25 (hall 5 (by decide)))).cons (s_24 (hall 4 (by decide)))).cons (s_23 (hall 3 (by decide)))).cons (s_22 (hall 2 (by decide)))).cons (s_21 (hall 1 (by decide)))).cons (s_20 (hall 0 (by decide)))).cons (hF.sv (s := 7) (by kernel_rfl) (hA14.get (i := 7) (v := .int .i64 (js.length : Int)) (by kernel_rfl)))).cons (hF.sv (s := 19) (by kernel_rfl) (hA14.get (i := 19) (v := .int .i64 (js.length : Int)) (by kernel_rfl)))).cons (hF.sv (s := 18) (by kernel_rfl) (hA14.get (i := 18) (v := .slice (some ⟨g, off, none⟩) js.length c) (by kernel_rfl)))).cons (hF.sv (s := 16) (by kernel_rfl) (hA14.get (i := 16) (v := .bool false) (by kernel_rfl)))).cons (hF.sv (s := 15) (by kernel_rfl) (hA14.get (i := 15) (v := .int .i64 ((i + 1 : Nat) : Int)) (by kernel_rfl)))).cons (hF.sv (s := 14) (by kernel_rfl) (hA14.get (i := 14) (v := .int .i64 (i : Int)) (by kernel_rfl)))).cons (hF.sv (s := 12) (by kernel_rfl) (hA14.get (i := 12) (v := .int .i64 (js.length : Int)) (by kernel_rfl)))).cons (hF.sv (s := 11) (by kernel_rfl) (hA14.get (i := 11) (v := .slice (some ⟨g, off, none⟩) js.length c) (by kernel_rfl)))).cons (hF.sv (s := 10) (by kernel_rfl) (hA14.get (i := 10) (v := .int .i64 ((i + 1 : Nat) : Int)) (by kernel_rfl)))).cons (hF.sv (s := 9) (by kernel_rfl) (hA14.get (i := 9) (v := .int .i64 (i : Int)) (by kernel_rfl)))).cons (hF.sv (s := 8) (by kernel_rfl) (hA14.get (i := 8) (v := .slice (some ⟨g, off, none⟩) js.length c) (by kernel_rfl)))).cons (hF.sv (s := 6) (by kernel_rfl) (hA14.get (i := 6) (v := .slice none 0 0) (by kernel_rfl)))).cons (hF.sv (s := 2) (by kernel_rfl) (hA14.get (i := 2) (v := .int .i64 ((i + 1 : Nat) : Int)) (by kernel_rfl)))).cons (hF.sv (s := 1) (by kernel_rfl) (hA14.get (i := 1) (v := .int .i64 (i : Int)) (by kernel_rfl))))
    have bl19 := bl
    have sz19 := sz
    have oo19 := oo (hall 6 (by decide))
    have hhh19 := Own.hi oo19
    clear hF bl sz p_0 oo ps_0 cl_7_0 cl_7_3 cl_2_0 cl_6_0 cl_5_3 cl_6_3 s_20 s_21 s_22 s_23 s_24 s_25 s_26 s_0 hall hA14
    refine then_n ?_
    refine wp_seq ?_
    refine wp_region_lit ?_
    refine sx_val (v := .slice (some ⟨g, off, none⟩) ((js.take i ++ js.drop (i + 1)).length) c) hA19 rfl (by decide) (.inl rfl) (ev_move (hA19.ev (i := 0) (v := .slice (some ⟨g, off, none⟩) ((js.take i ++ js.drop (i + 1)).length) c) (by kernel_rfl)) _ rfl) ?_
    intro a20 hA20
    clear hA19
    refine sx_val (v := .slice (some ⟨g, off, none⟩) ((js.take i ++ js.drop (i + 1)).length) c) hA20 rfl (by decide) (.inl rfl) (ev_move (hA20.ev (i := 0) (v := .slice (some ⟨g, off, none⟩) ((js.take i ++ js.drop (i + 1)).length) c) (by kernel_rfl)) _ rfl) ?_
    intro a21 hA21
    clear hA20
    refine sx_val (v := .int .i64 ((js.take i ++ js.drop (i + 1)).length : Int)) hA21 rfl (by decide) (.inl rfl) (ev_len (hA21.ev (i := 28) (v := .slice (some ⟨g, off, none⟩) ((js.take i ++ js.drop (i + 1)).length) c) (by kernel_rfl)) Try.underlying23 _ rfl) ?_
    intro a22 hA22
    clear hA21
    refine sx_val (v := .int .i64 (js.length : Int)) hA22 rfl (by decide) (.inl rfl) (ev_move (hA22.ev (i := 7) (v := .int .i64 (js.length : Int)) (by kernel_rfl)) _ rfl) ?_
    intro a23 hA23
    clear hA22
    have hle : (js.take i ++ js.drop (i + 1)).length + 1 = js.length := by rw [List.length_append, List.length_take, List.length_drop]; omega
    refine sx_val (v := .slice (some ⟨g, off + (js.take i ++ js.drop (i + 1)).length * 11, none⟩) (js.length - (js.take i ++ js.drop (i + 1)).length) (c - (js.take i ++ js.drop (i + 1)).length)) hA23 rfl (by decide) (.inl rfl) (ev_sl_lh (l := (js.take i ++ js.drop (i + 1)).length) (h := js.length) (hA23.ev (i := 27) (v := .slice (some ⟨g, off, none⟩) ((js.take i ++ js.drop (i + 1)).length) c) (by kernel_rfl)) (hA23.ev (i := 29) (v := .int .i64 ((js.take i ++ js.drop (i + 1)).length : Int)) (by kernel_rfl)) (hA23.ev (i := 30) (v := .int .i64 (js.length : Int)) (by kernel_rfl)) rfl rfl (by omega) (by omega) (by rw [if_neg (by omega), Option.map_some, mk_add]) Try.underlying23 (by kernel_rfl) _ rfl) ?_
    intro a25 hA25
    clear hA23
    obtain ⟨w26, hr26, ho26, hg26⟩ := run_clear (P := Try.prog) (t := 23) (ty := 0) (k := js.length - (js.take i ++ js.drop (i + 1)).length) (c2 := c - (js.take i ++ js.drop (i + 1)).length) oo19 (by omega) (by omega) Try.underlying23 (z := .agg Jb.zero.va) (by kernel_rfl) rfl (jb_one _)
    have ev26 := (hA25.ev (i := 31) (v := .slice (some ⟨g, off + (js.take i ++ js.drop (i + 1)).length * 11, none⟩) (js.length - (js.take i ++ js.drop (i + 1)).length) (c - (js.take i ++ js.drop (i + 1)).length)) (by kernel_rfl))
    refine sx_valN (v := .tuple #[]) (w' := w26) hA25 rfl (.inl rfl) (by simp only [execOp, resolve, invoke, builtin, Sem.run_bind, Sem.run_pure, Result.andThen_ok, List.map_toArray, List.map_cons, List.map_nil, ev26, hr26]) ?_
    have hs26 := hg26.size
    refine sx_nil ?_
    refine then_n ?_
    refine wp_seq ?_
    refine wp_region_lit ?_
    refine sx_val (v := .slice (some ⟨g, off, none⟩) ((js.take i ++ js.drop (i + 1)).length) c) hA25 rfl (by decide) (.inl rfl) (ev_move (hA25.ev (i := 0) (v := .slice (some ⟨g, off, none⟩) ((js.take i ++ js.drop (i + 1)).length) c) (by kernel_rfl)) _ rfl) ?_
    intro a27 hA27
    clear hA25
    refine sx_val (v := .slice (some ⟨g, off, none⟩) ((js.take i ++ js.drop (i + 1)).length) c) hA27 rfl (by decide) (.inl rfl) (ev_assign (hA27.ev (i := 32) (v := .slice (some ⟨g, off, none⟩) ((js.take i ++ js.drop (i + 1)).length) c) (by kernel_rfl)) _ rfl) ?_
    intro a28 hA28
    clear hA27
    refine sx_nil ?_
    refine then_n ?_
    refine wp_ret ?_
    refine bodyPost_ret (rs_t (v := .slice (some ⟨g, off, none⟩) ((js.take i ++ js.drop (i + 1)).length) c) Try.results49 hA28 (by kernel_rfl) ) hA28.2.1 ?_
    have bl19_29 := gtr bl19 hg26
    rw [← erase_eq i]
    exact ⟨_, _, rfl, ho26, bl19_29⟩

theorem Delete_any (A : Option Addr) (c : Nat) (js : List Jb) (i base : Nat) (w : World) (ho : Own w base 38 11 (.slice A js.length c) js.length (flat Jb.va js)) (hi : i < js.length) (hj : js.length ≤ 900000) : Calls Try.prog 49 #[.slice A js.length c, .int .i64 (i : Int), .int .i64 ((i + 1 : Nat) : Int)] w (RetX w base (.slice A js.length c) (js.eraseIdx i)) := by
  obtain ⟨g, off, rfl, _⟩ := Own.cells ho (by omega)
  exact Delete_at g off c js i base w ho hi hj
end Go.Proofs.Ytbkdimildnahaaa
