/- Package disk: slices.Delete. -/
import Derived.Test.YtbkdimildnahaaaDG
import Derived.Test.YtbkdimildnahaaaSE
namespace Go.Proofs.Ytbkdimildnahaaa
open Go.RowKit
set_option linter.unusedVariables false
set_option maxRecDepth 100000

/-- A call closed up a slice of jobs in place. -/
def RetX (w : World) (base : Nat) (v : Value) (xs : List Jb) (e : Ending) (w' : World) : Prop :=
  ∃ A c, e = .returned (.slice A xs.length c) ∧ Own w' base 38 11 (.slice A xs.length c) xs.length (flat Jb.va xs) ∧ w.grownBy w' v.ownBlock
theorem erase_eq {js : List Jb} (i : Nat) : js.take i ++ js.drop (i + 1) = js.eraseIdx i := (List.eraseIdx_eq_take_drop_succ js i).symm

set_option maxHeartbeats 4000000 in
theorem Delete_at (g off c : Nat) (js : List Jb) (i base : Nat) (w : World) (ho : Own w base 38 11 (.slice (some ⟨g, off, none⟩) js.length c) js.length (flat Jb.va js)) (hi : i < js.length) (hj : js.length ≤ 900000) : Calls Try.prog 49 #[.slice (some ⟨g, off, none⟩) js.length c, .int .i64 (i : Int), .int .i64 ((i + 1 : Nat) : Int)] w (RetX w base (.slice (some ⟨g, off, none⟩) js.length c) (js.eraseIdx i)) := by
  have hho := Own.hi ho
  have hcap := (Own.cap ho).1
  have hne : decide ((i : Int) = ((i + 1 : Nat) : Int)) = false := by simp; omega
  have hbel0 := grefl w g
  refine sx_enter (N := 33) [(0, .slice (some ⟨g, off, none⟩) js.length c), (1, .int .i64 (i : Int)), (2, .int .i64 ((i + 1 : Nat) : Int))] Try.func49 rfl Try.ntmps49 (by simp) (fun a z d s => ((((Ag.nil z d).cons (s 2 _ rfl)).cons (s 1 _ rfl)).cons (s 0 _ rfl))) ?_
  intro a0 hA0
  refine wp_seq ?_
  refine wp_region_lit ?_
  refine sx_val hA0 rfl (ev_assign (ec _ (.slice none 0 0)) _ rfl) ?_
  intro a1 hA1; clear hA0
  refine sx_nil ?_
  refine then_n ?_
  refine wp_seq ?_
  refine wp_region_lit ?_
  refine sx_val hA1 rfl (ev_move (hA1.ev (i := 0) (v := .slice (some ⟨g, off, none⟩) js.length c)) _ rfl) ?_
  intro a2 hA2; clear hA1
  refine sx_val hA2 rfl (ev_move (hA2.ev (i := 1) (v := .int .i64 (i : Int))) _ rfl) ?_
  intro a3 hA3; clear hA2
  refine sx_val hA3 rfl (ev_move (hA3.ev (i := 2) (v := .int .i64 ((i + 1 : Nat) : Int))) _ rfl) ?_
  intro a4 hA4; clear hA3
  refine sx_val hA4 rfl (ev_move (hA4.ev (i := 0) (v := .slice (some ⟨g, off, none⟩) js.length c)) _ rfl) ?_
  intro a5 hA5; clear hA4
  refine sx_val (v := .int .i64 (js.length : Int)) hA5 rfl (ev_len (hA5.ev (i := 11) (v := .slice (some ⟨g, off, none⟩) js.length c)) Try.underlying23 _ rfl) ?_
  intro a6 hA6; clear hA5
  obtain ⟨A7, hAA7⟩ : ∃ A, (if js.length = i then ((some ⟨g, off, none⟩) : Option Addr) else ((some ⟨g, off, none⟩) : Option Addr).map fun a => a.add (i * 11)) = A := ⟨_, rfl⟩
  refine sx_val (v := .slice A7 (i + 1 - i) (js.length - i)) hA6 rfl (ev_sl_lhm (l := i) (h := i + 1) (m := js.length) (hA6.ev (i := 8) (v := .slice (some ⟨g, off, none⟩) js.length c)) (hA6.ev (i := 9) (v := .int .i64 (i : Int))) (hA6.ev (i := 10) (v := .int .i64 ((i + 1 : Nat) : Int))) (hA6.ev (i := 12) (v := .int .i64 (js.length : Int))) rfl rfl rfl (by omega) (by omega) (by omega) hAA7 Try.underlying23 (by kernel_rfl) _ rfl) ?_
  intro a8 hA8; clear hA6
  refine sx_nil ?_
  refine then_n ?_
  refine wp_seq ?_
  refine wp_seq ?_
  refine wp_region_lit ?_
  refine sx_val hA8 rfl (ev_move (hA8.ev (i := 1) (v := .int .i64 (i : Int))) _ rfl) ?_
  intro a9 hA9; clear hA8
  refine sx_val hA9 rfl (ev_move (hA9.ev (i := 2) (v := .int .i64 ((i + 1 : Nat) : Int))) _ rfl) ?_
  intro a10 hA10; clear hA9
  refine sx_val (v := .bool false) hA10 rfl (ev_eqlB (k := .i64) (m := (i : Int)) (n := ((i + 1 : Nat) : Int)) (hA10.ev (i := 14)) (hA10.ev (i := 15)) hne _ rfl) ?_
  intro a11 hA11; clear hA10
  refine sx_nil ?_
  refine then_n ?_
  refine wp_cond_false (hA11.ev (i := 16) (v := .bool false)) ?_
  refine wp_skip ?_
  refine then_n ?_
  refine wp_seq ?_
  refine wp_region_lit ?_
  refine sx_val hA11 rfl (ev_move (hA11.ev (i := 0) (v := .slice (some ⟨g, off, none⟩) js.length c)) _ rfl) ?_
  intro a12 hA12; clear hA11
  refine sx_val (v := .int .i64 (js.length : Int)) hA12 rfl (ev_len (hA12.ev (i := 18) (v := .slice (some ⟨g, off, none⟩) js.length c)) Try.underlying23 _ rfl) ?_
  intro a13 hA13; clear hA12
  refine sx_val hA13 rfl (ev_assign (hA13.ev (i := 19) (v := .int .i64 (js.length : Int))) _ rfl) ?_
  intro a14 hA14; clear hA13
  refine sx_nil ?_
  refine then_n ?_
  refine wp_seq ?_
  obtain ⟨AAs, hAAs⟩ : ∃ A, (if c = i + 1 then ((some ⟨g, off, none⟩) : Option Addr) else ((some ⟨g, off, none⟩) : Option Addr).map fun a => a.add ((i + 1) * 11)) = A := ⟨_, rfl⟩
  refine region_D (n := 8) (by kernel_rfl) (by kernel_rfl) rfl (fun L ac wc => w.grownBy wc (some g) ∧ w.heap.size ≤ wc.heap.size ∧ (L 6 = false → Own wc (base) 38 11 (.slice (some ⟨g, off, none⟩) js.length c) js.length (flat Jb.va js)) ∧ (L 6 = true → Own wc base 38 11 (.slice (some ⟨g, off, none⟩) (js.take i ++ js.drop (i + 1)).length c) (js.take i ++ js.drop (i + 1)).length (flat Jb.va (js.take i ++ js.drop (i + 1)))) ∧ (L 7 = false → Sv ac 0 (.slice (some ⟨g, off, none⟩) js.length c)) ∧ (L 7 = true → L 0 = true) ∧ (L 7 = true → L 3 = true) ∧ (L 2 = true → L 0 = true) ∧ (L 6 = true → L 0 = true) ∧ (L 5 = true → L 3 = true) ∧ (L 6 = true → L 3 = true) ∧ (L 0 = true → Sv ac 20 (.slice (some ⟨g, off, none⟩) js.length c)) ∧ (L 1 = true → Sv ac 21 (.int .i64 (i : Int))) ∧ (L 2 = true → Sv ac 22 (.slice (some ⟨g, off, none⟩) i c)) ∧ (L 3 = true → Sv ac 23 (.slice (some ⟨g, off, none⟩) js.length c)) ∧ (L 4 = true → Sv ac 24 (.int .i64 ((i + 1 : Nat) : Int))) ∧ (L 5 = true → Sv ac 25 (.slice AAs (js.length - (i + 1)) (c - (i + 1)))) ∧ (L 6 = true → Sv ac 26 (.slice (some ⟨g, off, none⟩) (js.take i ++ js.drop (i + 1)).length c)) ∧ (L 7 = true → Sv ac 0 (.slice (some ⟨g, off, none⟩) (js.take i ++ js.drop (i + 1)).length c))) ⟨(gtrN hbel0 (gdr _)), (Nat.le_refl _), (fun _ => Own.gN ho (gdr _)), (fun h => by cases h), (fun _ => hA14.get (i := 0) (v := .slice (some ⟨g, off, none⟩) js.length c)), (fun h => by cases h), (fun h => by cases h), (fun h => by cases h), (fun h => by cases h), (fun h => by cases h), (fun h => by cases h), (fun h => by cases h), (fun h => by cases h), (fun h => by cases h), (fun h => by cases h), (fun h => by cases h), (fun h => by cases h), (fun h => by cases h), (fun h => by cases h)⟩ ?_ ?_
  · intro iq hiq o ho L hL hdep ac wc hF hJ
    obtain ⟨bl, sz, p_0, oo, ps_0, cl_7_0, cl_7_3, cl_2_0, cl_6_0, cl_5_3, cl_6_3, s_20, s_21, s_22, s_23, s_24, s_25, s_26, s_0⟩ := hJ
    have z := hF.1.trans hA14.1
    match iq, hiq with
    | 0, _ =>
      obtain rfl := Option.some.inj (show some _ = some o from ho); clear ho
      have ep0 : L 7 = false := by
          cases hc : L 7
          · rfl
          · exact absurd (cl_7_0 hc) (by rw [hL]; decide)
      have v0 := ps_0 ep0
      refine dj_val (i := 0) (v := .slice (some ⟨g, off, none⟩) js.length c) rfl (.inl rfl) (ev_move v0.eval _ rfl) ?_
      exact ⟨⟨_, rfl⟩, bl, sz, p_0, oo, (so ps_0), (fun _ => rfl), cl_7_3, (fun _ => rfl), (fun _ => rfl), cl_5_3, cl_6_3, (fun _ => Sv.self (by rw [z]; decide) _), (so s_21), (so s_22), (so s_23), (so s_24), (so s_25), (so s_26), (so s_0)⟩
    | 1, _ =>
      obtain rfl := Option.some.inj (show some _ = some o from ho); clear ho
      have v1 := hF.sv (s := 1) (by kernel_rfl) (hA14.get (i := 1) (v := .int .i64 (i : Int)))
      refine dj_val (i := 1) (v := .int .i64 (i : Int)) rfl (.inl rfl) (ev_move v1.eval _ rfl) ?_
      exact ⟨⟨_, rfl⟩, bl, sz, p_0, oo, (so ps_0), cl_7_0, cl_7_3, cl_2_0, cl_6_0, cl_5_3, cl_6_3, (so s_20), (fun _ => Sv.self (by rw [z]; decide) _), (so s_22), (so s_23), (so s_24), (so s_25), (so s_26), (so s_0)⟩
    | 2, _ =>
      obtain rfl := Option.some.inj (show some _ = some o from ho); clear ho
      have v20 := s_20 (dp hdep 0)
      have v21 := s_21 (dp hdep 1)
      refine dj_val (i := 2) (v := .slice (some ⟨g, off, none⟩) i c) rfl (.inl rfl) (ev_sl_h (size := 11) (h := i) v20.eval v21.eval rfl (by omega) Try.underlying23 (by kernel_rfl) _ rfl) ?_
      exact ⟨⟨_, rfl⟩, bl, sz, p_0, oo, (so ps_0), cl_7_0, cl_7_3, (fun _ => dp hdep 0), cl_6_0, cl_5_3, cl_6_3, (so s_20), (so s_21), (fun _ => Sv.self (by rw [z]; decide) _), (so s_23), (so s_24), (so s_25), (so s_26), (so s_0)⟩
    | 3, _ =>
      obtain rfl := Option.some.inj (show some _ = some o from ho); clear ho
      have ep0 : L 7 = false := by
          cases hc : L 7
          · rfl
          · exact absurd (cl_7_3 hc) (by rw [hL]; decide)
      have v0 := ps_0 ep0
      refine dj_val (i := 3) (v := .slice (some ⟨g, off, none⟩) js.length c) rfl (.inl rfl) (ev_move v0.eval _ rfl) ?_
      exact ⟨⟨_, rfl⟩, bl, sz, p_0, oo, (so ps_0), cl_7_0, (fun _ => rfl), cl_2_0, cl_6_0, (fun _ => rfl), (fun _ => rfl), (so s_20), (so s_21), (so s_22), (fun _ => Sv.self (by rw [z]; decide) _), (so s_24), (so s_25), (so s_26), (so s_0)⟩
    | 4, _ =>
      obtain rfl := Option.some.inj (show some _ = some o from ho); clear ho
      have v2 := hF.sv (s := 2) (by kernel_rfl) (hA14.get (i := 2) (v := .int .i64 ((i + 1 : Nat) : Int)))
      refine dj_val (i := 4) (v := .int .i64 ((i + 1 : Nat) : Int)) rfl (.inl rfl) (ev_move v2.eval _ rfl) ?_
      exact ⟨⟨_, rfl⟩, bl, sz, p_0, oo, (so ps_0), cl_7_0, cl_7_3, cl_2_0, cl_6_0, cl_5_3, cl_6_3, (so s_20), (so s_21), (so s_22), (so s_23), (fun _ => Sv.self (by rw [z]; decide) _), (so s_25), (so s_26), (so s_0)⟩
    | 5, _ =>
      obtain rfl := Option.some.inj (show some _ = some o from ho); clear ho
      have v23 := s_23 (dp hdep 3)
      have v24 := s_24 (dp hdep 4)
      refine dj_val (i := 5) (v := .slice AAs (js.length - (i + 1)) (c - (i + 1))) rfl (.inl rfl) (ev_sl_l (l := i + 1) v23.eval v24.eval rfl (by omega) hAAs Try.underlying23 (by kernel_rfl) _ rfl) ?_
      exact ⟨⟨_, rfl⟩, bl, sz, p_0, oo, (so ps_0), cl_7_0, cl_7_3, cl_2_0, cl_6_0, (fun _ => dp hdep 3), cl_6_3, (so s_20), (so s_21), (so s_22), (so s_23), (so s_24), (fun _ => Sv.self (by rw [z]; decide) _), (so s_26), (so s_0)⟩
    | 6, _ =>
      obtain rfl := Option.some.inj (show some _ = some o from ho); clear ho
      have v22 := s_22 (dp hdep 2)
      have v25 := s_25 (dp hdep 5)
      obtain ⟨w2, hr, hown, hg⟩ := run_close (P := Try.prog) (t := 23) (ty := 23) (p_0 hL) jb_sz jb_one rfl (i := i) (j := i + 1) (by omega) (by omega) hAAs Try.underlying23 (by kernel_rfl)
      have e1 := v22.eval
      have e2 := v25.eval
      refine dj_val (i := 6) (v := .slice (some ⟨g, off, none⟩) (js.take i ++ js.drop (i + 1)).length c) (w' := w2) rfl (.inl rfl) (by simp only [execOp, resolve, invoke, builtin, Sem.run_bind, Sem.run_pure, Result.andThen_ok, List.map_toArray, List.map_cons, List.map_nil, e1, e2, hr]) ?_
      exact ⟨⟨_, rfl⟩, (gtr bl hg), (Nat.le_trans sz hg.size), (fun h => by cases h), (fun _ => hown), (so ps_0), cl_7_0, cl_7_3, cl_2_0, (fun _ => cl_2_0 (dp hdep 2)), cl_5_3, (fun _ => cl_5_3 (dp hdep 5)), (so s_20), (so s_21), (so s_22), (so s_23), (so s_24), (so s_25), (fun _ => Sv.self (by rw [z]; decide) _), (so s_0)⟩
    | 7, _ =>
      obtain rfl := Option.some.inj (show some _ = some o from ho); clear ho
      have v26 := s_26 (dp hdep 6)
      refine dj_val (i := 7) (v := .slice (some ⟨g, off, none⟩) (js.take i ++ js.drop (i + 1)).length c) rfl (.inl rfl) (ev_assign v26.eval _ rfl) ?_
      exact ⟨⟨_, rfl⟩, bl, sz, p_0, oo, (fun h => by cases h), (fun _ => cl_6_0 (dp hdep 6)), (fun _ => cl_6_3 (dp hdep 6)), cl_2_0, cl_6_0, cl_5_3, cl_6_3, (so s_20), (so s_21), (so s_22), (so s_23), (so s_24), (so s_25), (so s_26), (fun _ => Sv.self (by rw [z]; decide) _)⟩
    | k + 8, h => exact absurd h (by omega)
  · intro L hall ac19 wc19 hF hJ
    obtain ⟨bl, sz, p_0, oo, ps_0, cl_7_0, cl_7_3, cl_2_0, cl_6_0, cl_5_3, cl_6_3, s_20, s_21, s_22, s_23, s_24, s_25, s_26, s_0⟩ := hJ
    have hA19 : Ag ac19 33 [(6, .slice none 0 0), (7, .int .i64 (js.length : Int)), (0, .slice (some ⟨g, off, none⟩) (js.take i ++ js.drop (i + 1)).length c)] := ((((Ag.nil (hF.1.trans hA14.1) (hF.2.1.trans hA14.2.1)).cons (s_0 (hall 7 (by decide)))).cons (hF.sv (s := 7) (by kernel_rfl) (hA14.get (i := 7) (v := .int .i64 (js.length : Int))))).cons (hF.sv (s := 6) (by kernel_rfl) (hA14.get (i := 6) (v := .slice none 0 0))))
    have bl19 := bl
    have sz19 := sz
    have oo19 := oo (hall 6 (by decide))
    have hhh19 := Own.hi oo19
    clear hF bl sz p_0 oo ps_0 cl_7_0 cl_7_3 cl_2_0 cl_6_0 cl_5_3 cl_6_3 s_20 s_21 s_22 s_23 s_24 s_25 s_26 s_0 hall hA14
    refine then_n ?_
    refine wp_seq ?_
    refine wp_region_lit ?_
    refine sx_val hA19 rfl (ev_move (hA19.ev (i := 0) (v := .slice (some ⟨g, off, none⟩) (js.take i ++ js.drop (i + 1)).length c)) _ rfl) ?_
    intro a20 hA20; clear hA19
    refine sx_val hA20 rfl (ev_move (hA20.ev (i := 0) (v := .slice (some ⟨g, off, none⟩) (js.take i ++ js.drop (i + 1)).length c)) _ rfl) ?_
    intro a21 hA21; clear hA20
    refine sx_val (v := .int .i64 ((js.take i ++ js.drop (i + 1)).length : Int)) hA21 rfl (ev_len (hA21.ev (i := 28) (v := .slice (some ⟨g, off, none⟩) (js.take i ++ js.drop (i + 1)).length c)) Try.underlying23 _ rfl) ?_
    intro a22 hA22; clear hA21
    refine sx_val hA22 rfl (ev_move (hA22.ev (i := 7) (v := .int .i64 (js.length : Int))) _ rfl) ?_
    intro a23 hA23; clear hA22
    have hle : (js.take i ++ js.drop (i + 1)).length + 1 = js.length := by rw [List.length_append, List.length_take, List.length_drop]; omega
    refine sx_val (v := .slice (some ⟨g, off + (js.take i ++ js.drop (i + 1)).length * 11, none⟩) (js.length - (js.take i ++ js.drop (i + 1)).length) (c - (js.take i ++ js.drop (i + 1)).length)) hA23 rfl (ev_sl_lh (l := (js.take i ++ js.drop (i + 1)).length) (h := js.length) (hA23.ev (i := 27) (v := .slice (some ⟨g, off, none⟩) (js.take i ++ js.drop (i + 1)).length c)) (hA23.ev (i := 29) (v := .int .i64 ((js.take i ++ js.drop (i + 1)).length : Int))) (hA23.ev (i := 30) (v := .int .i64 (js.length : Int))) rfl rfl (by omega) (by omega) (by rw [if_neg (by omega), Option.map_some, mk_add]) Try.underlying23 (by kernel_rfl) _ rfl) ?_
    intro a25 hA25; clear hA23
    obtain ⟨w26, hr26, ho26, hg26⟩ := run_clear (P := Try.prog) (t := 23) (ty := 0) (k := js.length - (js.take i ++ js.drop (i + 1)).length) (c2 := c - (js.take i ++ js.drop (i + 1)).length) oo19 (by omega) (by omega) Try.underlying23 (z := .agg Jb.zero.va) (by kernel_rfl) rfl (jb_one _)
    have ev26 := (hA25.ev (i := 31) (v := .slice (some ⟨g, off + (js.take i ++ js.drop (i + 1)).length * 11, none⟩) (js.length - (js.take i ++ js.drop (i + 1)).length) (c - (js.take i ++ js.drop (i + 1)).length)))
    refine sx_valN (v := .tuple #[]) (w' := w26) hA25 rfl (.inl rfl) (by simp only [execOp, resolve, invoke, builtin, Sem.run_bind, Sem.run_pure, Result.andThen_ok, List.map_toArray, List.map_cons, List.map_nil, ev26, hr26]) ?_
    have hs26 := hg26.size
    refine sx_nil ?_
    refine then_n ?_
    refine wp_seq ?_
    refine wp_region_lit ?_
    refine sx_val hA25 rfl (ev_move (hA25.ev (i := 0) (v := .slice (some ⟨g, off, none⟩) (js.take i ++ js.drop (i + 1)).length c)) _ rfl) ?_
    intro a27 hA27; clear hA25
    refine sx_val hA27 rfl (ev_assign (hA27.ev (i := 32) (v := .slice (some ⟨g, off, none⟩) (js.take i ++ js.drop (i + 1)).length c)) _ rfl) ?_
    intro a28 hA28; clear hA27
    refine sx_nil ?_
    refine then_n ?_
    refine wp_ret ?_
    refine bodyPost_ret (rs_t (v := .slice (some ⟨g, off, none⟩) (js.take i ++ js.drop (i + 1)).length c) Try.results49 hA28 (by kernel_rfl) ) hA28.2.1 ?_
    have bl19_29 := gtr bl19 hg26
    rw [← erase_eq i]
    exact ⟨_, _, rfl, ho26, bl19_29⟩

theorem Delete_any (A : Option Addr) (c : Nat) (js : List Jb) (i base : Nat) (w : World) (ho : Own w base 38 11 (.slice A js.length c) js.length (flat Jb.va js)) (hi : i < js.length) (hj : js.length ≤ 900000) : Calls Try.prog 49 #[.slice A js.length c, .int .i64 (i : Int), .int .i64 ((i + 1 : Nat) : Int)] w (RetX w base (.slice A js.length c) (js.eraseIdx i)) := by
  obtain ⟨g, off, rfl, _⟩ := Own.cells ho (by omega)
  exact Delete_at g off c js i base w ho hi hj
end Go.Proofs.Ytbkdimildnahaaa
