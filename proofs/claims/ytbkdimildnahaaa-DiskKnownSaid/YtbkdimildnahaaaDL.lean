/- Package disk: All. -/
import Derived.Test.YtbkdimildnahaaaDJ
namespace Go.Proofs.Ytbkdimildnahaaa
open Go.RowKit
set_option linter.unusedVariables false
set_option maxRecDepth 100000

/-- All slots of jobs are there. -/
def SlotsIn (n : Nat) (js : List Jb) : Prop := ∀ (k : Nat) (x : Jb), js[k]? = some x → 0 ≤ x.slot ∧ x.slot < n
theorem SlotsIn.of {d : Dk} (h : OkD d) : SlotsIn d.cs.length d.js := fun k x hx => inR_s (h.inr k x hx)
theorem SlotsIn.tail {n : Nat} {js : List Jb} (h : SlotsIn n js) : SlotsIn n (js.eraseIdx 0) := by
  intro k x hx
  cases js with
  | nil => simp at hx
  | cons y l => exact h (k + 1) x (by simpa using hx)
theorem allJ_step {d : Dk} {l : List Jb} (h : 0 < d.js.length) : allJ d.js.length d l = allJ (com d 0).1.js.length (com d 0).1 (l ++ [(com d 0).2]) := by
  have e : (com d 0).1.js.length = d.js.length - 1 := by
    rw [com_js d 0 h, List.length_eraseIdx]
    simp [h]
  rw [e]
  obtain ⟨n, hn⟩ : ∃ n, d.js.length = n + 1 := ⟨d.js.length - 1, by omega⟩
  rw [hn]
  cases hj : d.js with
  | nil => rw [hj] at h; simp at h
  | cons y t =>
    show (match d.js with | [] => _ | _ :: _ => _) = _
    rw [hj]
    rfl
theorem Dk_eta (d : Dk) {r : Int} (h : d.room = r) : (⟨d.cs, d.js, r⟩ : Dk) = d := by subst h; rfl
theorem allJ_nil {d : Dk} {l : List Jb} (h : ¬ 0 < d.js.length) : allJ d.js.length d l = (d, l) := by
  rw [show d.js.length = 0 by omega]; rfl

set_option maxHeartbeats 8000000 in
theorem All_any (A1 : Option Addr) (c1 : Nat) (A2 : Option Addr) (c2 : Nat) (cs : List Ct) (js : List Jb) (room : Int) (w : World) (hd : GD w A1 c1 A2 c2 cs js) (hl : cs.length ≤ 900000) (hj : js.length ≤ 900000) : Calls Try.prog 19 #[.agg #[.slice A1 cs.length c1, .slice A2 js.length c2, .int .i64 room]] w (RetDL w (all ⟨cs, js, room⟩)) := by
  have hbel0 := below0 w
  refine sx_enter (N := 30) [(0, .agg #[.slice A1 cs.length c1, .slice A2 js.length c2, .int .i64 room])] Try.func19 rfl Try.ntmps19 (by simp) (fun a z d s => ((Ag.nil z d).cons (s 0 _ rfl))) ?_
  intro a0 hA0
  refine wp_seq ?_
  refine wp_region_lit ?_
  refine sx_new (cs := #[.slice A1 cs.length c1, .slice A2 js.length c2, .int .i64 room]) (t := 25) hA0 rfl (by decide) (.inl rfl) (ev_box (hA0.ev (i := 0) (v := .agg #[.slice A1 cs.length c1, .slice A2 js.length c2, .int .i64 room]) (by kernel_rfl)) rfl _ rfl) ?_
  intro B1 w1 a1 hB1 hx1 hg1 hA1
  clear hA0
  have hs1 := hg1.size
  have hl1 := hx1.lt
  refine sx_new (cs := #[.slice none 0 0, .slice none 0 0, .int .i64 0]) (t := 25) hA1 rfl (by decide) (.inl rfl) (ev_alloc (z := .agg (#[.slice none 0 0, .slice none 0 0, .int .i64 0])) (by kernel_rfl) (by kernel_rfl) _ rfl) ?_
  intro B2 w2 a2 hB2 hx2 hg2 hA2
  clear hA1
  have hs2 := hg2.size
  have hl2 := hx2.lt
  refine sx_val (v := .slice none 0 0) hA2 rfl (by decide) (.inl rfl) (ev_assign (ec _ (.slice none 0 0)) _ rfl) ?_
  intro a3 hA3
  clear hA2
  refine sx_val (v := .int .i64 0) hA3 rfl (by decide) (.inl rfl) (ev_assign (ec _ (.int .i64 0)) _ rfl) ?_
  intro a4 hA4
  clear hA3
  refine sx_nil ?_
  refine then_n ?_
  refine wp_seq ?_
  refine wp_seq ?_
  refine wp_region_lit ?_
  have hx1_5 := hx1.gN hg2
  refine sx_val (v := .agg #[.slice A1 cs.length c1, .slice A2 js.length c2, .int .i64 room]) hA4 rfl (by decide) (.inl rfl) (ev_row (hA4.ev (i := 1) (v := .pointer (some ⟨B1, 0, none⟩)) (by kernel_rfl)) hx1_5 Try.underlying25 rfl (n := 3) (by kernel_rfl) rfl _ rfl) ?_
  intro a6 hA6
  clear hA4
  have hbel0_8 := Below.gN hbel0 hg1 hbel0.size
  have hbel0_9 := Below.gN hbel0_8 hg2 hbel0_8.size
  refine sx_call (f := 24) (args := #[.agg #[.slice A1 cs.length c1, .slice A2 js.length c2, .int .i64 room]]) hA6 rfl (by decide) (.inl rfl) (ev_fn rfl (mp1 (hA6.ev (i := 10) (v := .agg #[.slice A1 cs.length c1, .slice A2 js.length c2, .int .i64 room]) (by kernel_rfl))) (by kernel_rfl) _ rfl) (Check_any A1 c1 A2 c2 cs js room _ ⟨(hd.s.below hbel0_9), (hd.j.below hbel0_9)⟩ (by omega)) ?_
  intro e7 w7 hR7
  obtain ⟨rfl, hb7⟩ := hR7
  refine ⟨_, rfl, ?_⟩
  intro a7 hA7
  clear hA6
  have hg7 := g0 hb7
  have hs7 := hg7.size
  clear hb7
  refine sx_val (v := .tuple #[.int .i64 ((chk ⟨cs, js, room⟩).1), .int .i64 ((chk ⟨cs, js, room⟩).2)]) hA7 rfl (by decide) (.inl rfl) (ev_move (hA7.ev (i := 11) (v := .tuple #[.int .i64 ((chk ⟨cs, js, room⟩).1), .int .i64 ((chk ⟨cs, js, room⟩).2)]) (by kernel_rfl)) _ rfl) ?_
  intro a10 hA10
  clear hA7
  refine sx_val (v := .int .i64 ((chk ⟨cs, js, room⟩).1)) hA10 rfl (by decide) (.inl rfl) (ev_ext (hA10.ev (i := 9) (v := .tuple #[.int .i64 ((chk ⟨cs, js, room⟩).1), .int .i64 ((chk ⟨cs, js, room⟩).2)]) (by kernel_rfl)) rfl _ rfl) ?_
  intro a11 hA11
  clear hA10
  refine sx_val (v := .int .i64 ((chk ⟨cs, js, room⟩).2)) hA11 rfl (by decide) (.inl rfl) (ev_ext (hA11.ev (i := 9) (v := .tuple #[.int .i64 ((chk ⟨cs, js, room⟩).1), .int .i64 ((chk ⟨cs, js, room⟩).2)]) (by kernel_rfl)) rfl _ rfl) ?_
  intro a12 hA12
  clear hA11
  refine sx_val (v := .int .i64 ((chk ⟨cs, js, room⟩).1)) hA12 rfl (by decide) (.inl rfl) (ev_assign (hA12.ev (i := 12) (v := .int .i64 ((chk ⟨cs, js, room⟩).1)) (by kernel_rfl)) _ rfl) ?_
  intro a13 hA13
  clear hA12
  refine sx_val (v := .int .i64 ((chk ⟨cs, js, room⟩).2)) hA13 rfl (by decide) (.inl rfl) (ev_assign (hA13.ev (i := 13) (v := .int .i64 ((chk ⟨cs, js, room⟩).2)) (by kernel_rfl)) _ rfl) ?_
  intro a14 hA14
  clear hA13
  refine sx_nil ?_
  refine then_n ?_
  refine wp_seq ?_
  refine wp_region_lit ?_
  refine sx_val (v := .int .i64 ((chk ⟨cs, js, room⟩).1)) hA14 rfl (by decide) (.inl rfl) (ev_move (hA14.ev (i := 5) (v := .int .i64 ((chk ⟨cs, js, room⟩).1)) (by kernel_rfl)) _ rfl) ?_
  intro a15 hA15
  clear hA14
  cases hd16 : decide ((chk ⟨cs, js, room⟩).1 = 0)
  · have hp16 := of_decide_eq_false hd16
    refine sx_val (v := .bool true) hA15 rfl (by decide) (.inl rfl) (ev_neqB (k := .i64) (m := (chk ⟨cs, js, room⟩).1) (n := 0) (hA15.ev (i := 14) (v := .int .i64 ((chk ⟨cs, js, room⟩).1)) (by kernel_rfl)) (ec _ (.int .i64 0)) (by simpa using hd16) _ rfl) ?_
    intro a17 hA17
    clear hA15
    refine sx_nil ?_
    refine then_n ?_
    refine wp_cond_true (hA17.ev (i := 15) (v := .bool true) (by kernel_rfl)) ?_
    refine wp_seq ?_
    refine wp_region_lit ?_
    refine sx_val (v := .agg #[.slice none 0 0, .slice none 0 0, .int .i64 0]) hA17 rfl (by decide) (.inl rfl) (bd0_Disk _ rfl) ?_
    intro a18 hA18
    clear hA17
    refine sx_val (v := .int .i64 ((chk ⟨cs, js, room⟩).1)) hA18 rfl (by decide) (.inl rfl) (ev_move (hA18.ev (i := 5) (v := .int .i64 ((chk ⟨cs, js, room⟩).1)) (by kernel_rfl)) _ rfl) ?_
    intro a19 hA19
    clear hA18
    have hx2_21 := hx2.gN hg7
    refine sx_store hA19 rfl (.inl rfl) rfl (hA19.ev (i := 2) (v := .pointer (some ⟨B2, 0, none⟩)) (by kernel_rfl)) (hA19.ev (i := 16) (v := .agg #[.slice none 0 0, .slice none 0 0, .int .i64 0]) (by kernel_rfl)) hx2_21 (by kernel_rfl) rfl (dk_one _ _ _ _ _ _ _) ?_
    intro w20 hx20 hg20
    have hs20 := hg20.size
    refine sx_val (v := .slice none 0 0) hA19 rfl (by decide) (.inl rfl) (ev_assign (ec _ (.slice none 0 0)) _ rfl) ?_
    intro a22 hA22
    clear hA19
    refine sx_val (v := .int .i64 ((chk ⟨cs, js, room⟩).1)) hA22 rfl (by decide) (.inl rfl) (ev_assign (hA22.ev (i := 17) (v := .int .i64 ((chk ⟨cs, js, room⟩).1)) (by kernel_rfl)) _ rfl) ?_
    intro a23 hA23
    clear hA22
    refine sx_nil ?_
    refine then_n ?_
    refine wp_ret ?_
    refine then_r ?_
    refine bodyPost_ret (rs_ctt (v := .slice none 0 0) (v2 := .int .i64 ((chk ⟨cs, js, room⟩).1)) Try.results19 hA23 (by kernel_rfl) (by kernel_rfl) (by kernel_rfl) hx20 Try.underlying25 rfl (by kernel_rfl)) hA23.2.1 ?_
    have hbel0_24 := Below.gN hbel0_9 hg7 hbel0_9.size
    have hbel0_25 := Below.gB hbel0_24 hg20 hbel0_24.size (by omega)
    rw [show all ⟨cs, js, room⟩ = (Dk.nil, [], (chk ⟨cs, js, room⟩).1) from if_neg hp16]
    exact ⟨none, 0, none, 0, none, 0, rfl, OwC.nil _ _, OwJ.nil _ _, OwJ.nil _ _, hbel0_25⟩
  · have hp16 := of_decide_eq_true hd16
    refine sx_val (v := .bool false) hA15 rfl (by decide) (.inl rfl) (ev_neqB (k := .i64) (m := (chk ⟨cs, js, room⟩).1) (n := 0) (hA15.ev (i := 14) (v := .int .i64 ((chk ⟨cs, js, room⟩).1)) (by kernel_rfl)) (ec _ (.int .i64 0)) (by simpa using hd16) _ rfl) ?_
    intro a26 hA26
    clear hA15
    refine sx_nil ?_
    refine then_n ?_
    refine wp_cond_false (hA26.ev (i := 15) (v := .bool false) (by kernel_rfl)) ?_
    refine wp_skip ?_
    refine then_n ?_
    refine wp_seq ?_
    refine wp_region_lit ?_
    have hx1_27 := hx1_5.gN hg7
    refine sx_val (v := .agg #[.slice A1 cs.length c1, .slice A2 js.length c2, .int .i64 room]) hA26 rfl (by decide) (.inl rfl) (ev_row (hA26.ev (i := 1) (v := .pointer (some ⟨B1, 0, none⟩)) (by kernel_rfl)) hx1_27 Try.underlying25 rfl (n := 3) (by kernel_rfl) rfl _ rfl) ?_
    intro a28 hA28
    clear hA26
    have hbel0_30 := Below.gN hbel0_9 hg7 hbel0_9.size
    refine sx_call (f := 40) (args := #[.agg #[.slice A1 cs.length c1, .slice A2 js.length c2, .int .i64 room]]) hA28 rfl (by decide) (.inl rfl) (ev_fn rfl (mp1 (hA28.ev (i := 18) (v := .agg #[.slice A1 cs.length c1, .slice A2 js.length c2, .int .i64 room]) (by kernel_rfl))) (by kernel_rfl) _ rfl) (clone_any A1 c1 A2 c2 cs js room _ ⟨(hd.s.below hbel0_30), (hd.j.below hbel0_30)⟩ (by omega) (by omega)) ?_
    intro e29 w29 hR29
    obtain ⟨Ap29, cp29, Aj29, cj29, rfl, hC29, hJ29, hb29⟩ := hR29
    refine ⟨_, rfl, ?_⟩
    intro a29 hA29
    clear hA28
    have hg29 := g0 hb29
    have hs29 := hg29.size
    clear hb29
    have ho29_0 := hC29.2
    have hh29_0 := Own.hi ho29_0
    have ho29_1 := hJ29.2
    have hh29_1 := Own.hi ho29_1
    refine sx_new (cs := #[.slice none 0 0, .slice none 0 0, .int .i64 0]) (t := 25) hA29 rfl (by decide) (.inl rfl) (ev_alloc (z := .agg (#[.slice none 0 0, .slice none 0 0, .int .i64 0])) (by kernel_rfl) (by kernel_rfl) _ rfl) ?_
    intro B31 w31 a31 hB31 hx31 hg31 hA31
    clear hA29
    have hs31 := hg31.size
    have hl31 := hx31.lt
    refine sx_store hA31 rfl (.inl rfl) rfl (hA31.ev (i := 7) (v := .pointer (some ⟨B31, 0, none⟩)) (by kernel_rfl)) (hA31.ev (i := 19) (v := .agg #[.slice Ap29 cs.length cp29, .slice Aj29 js.length cj29, .int .i64 room]) (by kernel_rfl)) hx31 (by kernel_rfl) rfl (dk_one _ _ _ _ _ _ _) ?_
    intro w32 hx32 hg32
    have hs32 := hg32.size
    refine sx_nil ?_
    refine then_n ?_
    refine wp_seq ?_
    refine wp_region_lit ?_
    refine sx_val (v := .slice none 0 0) hA31 rfl (by decide) (.inl rfl) (ev_assign (ec _ (.slice none 0 0)) _ rfl) ?_
    intro a33 hA33
    clear hA31
    refine sx_nil ?_
    refine then_n ?_
    refine wp_seq ?_
    refine wp_block ?_
    have hok := chk_ok hp16
    have ho29_35 := Own.gN ho29_0 hg31
    have ho29_36 := Own.gBT ho29_35 hg32 hx31 (by decide)
    have ho29_37 := Own.gN ho29_1 hg31
    have ho29_38 := Own.gBT ho29_37 hg32 hx31 (by decide)
    have hx1_39 := hx1_27.gN hg29
    have hx1_40 := hx1_39.gN hg31
    have hx1_41 := hx1_40.gB hg32 (by omega)
    have hx2_42 := hx2.gN hg7
    have hx2_43 := hx2_42.gN hg29
    have hx2_44 := hx2_43.gN hg31
    have hx2_45 := hx2_44.gB hg32 (by omega)
    have hbel0_46 := Below.gN hbel0_30 hg29 hbel0_30.size
    have hbel0_47 := Below.gN hbel0_46 hg31 hbel0_46.size
    have hbel0_48 := Below.gB hbel0_47 hg32 hbel0_47.size (by omega)
    refine wp_loop_ghost (fun n a wl => ∃ (dc : List Ct) (dj : List Jb) (l : List Jb) (A2g : Option Addr) (c2g : Nat) (Al : Option Addr) (cl : Nat), n = dj.length ∧ Ag a 30 [(0, .agg #[.slice A1 cs.length c1, .slice A2 js.length c2, .int .i64 room]), (1, .pointer (some ⟨B1, 0, none⟩)), (2, .pointer (some ⟨B2, 0, none⟩)), (3, .slice none 0 0), (4, .int .i64 0), (10, .agg #[.slice A1 cs.length c1, .slice A2 js.length c2, .int .i64 room]), (11, .tuple #[.int .i64 ((chk ⟨cs, js, room⟩).1), .int .i64 ((chk ⟨cs, js, room⟩).2)]), (9, .tuple #[.int .i64 ((chk ⟨cs, js, room⟩).1), .int .i64 ((chk ⟨cs, js, room⟩).2)]), (12, .int .i64 ((chk ⟨cs, js, room⟩).1)), (13, .int .i64 ((chk ⟨cs, js, room⟩).2)), (5, .int .i64 ((chk ⟨cs, js, room⟩).1)), (14, .int .i64 ((chk ⟨cs, js, room⟩).1)), (15, .bool false), (18, .agg #[.slice A1 cs.length c1, .slice A2 js.length c2, .int .i64 room]), (19, .agg #[.slice Ap29 cs.length cp29, .slice Aj29 js.length cj29, .int .i64 room]), (7, .pointer (some ⟨B31, 0, none⟩)), (8, .slice Al l.length cl)] ∧ dc.length = cs.length ∧ SlotsIn cs.length dj ∧ l.length + dj.length = js.length ∧ allJ dj.length ⟨dc, dj, room⟩ l = allJ js.length ⟨cs, js, room⟩ [] ∧ Bx wl B1 25 #[.slice A1 cs.length c1, .slice A2 js.length c2, .int .i64 room] ∧ Bx wl B2 25 #[.slice none 0 0, .slice none 0 0, .int .i64 0] ∧ Bx wl B31 25 #[.slice Ap29 dc.length cp29, .slice A2g dj.length c2g, .int .i64 room] ∧ Own wl (w7.heap.size) 28 8 (.slice Ap29 dc.length cp29) dc.length (flat Ct.va dc) ∧ Own wl (w7.heap.size) 38 11 (.slice A2g dj.length c2g) dj.length (flat Jb.va dj) ∧ Own wl (w7.heap.size) 38 11 (.slice Al l.length cl) l.length (flat Jb.va l) ∧ w32.heap.size ≤ wl.heap.size ∧ Below w.heap.size w wl) (js.length) ⟨cs, js, [], Aj29, cj29, none, 0, rfl, ((((((((((((((((((Ag.nil hA33.1 hA33.2.1).cons (hA33.get (i := 8) (v := .slice none 0 0) (by kernel_rfl))).cons (hA33.get (i := 7) (v := .pointer (some ⟨B31, 0, none⟩)) (by kernel_rfl))).cons (hA33.get (i := 19) (v := .agg #[.slice Ap29 cs.length cp29, .slice Aj29 js.length cj29, .int .i64 room]) (by kernel_rfl))).cons (hA33.get (i := 18) (v := .agg #[.slice A1 cs.length c1, .slice A2 js.length c2, .int .i64 room]) (by kernel_rfl))).cons (hA33.get (i := 15) (v := .bool false) (by kernel_rfl))).cons (hA33.get (i := 14) (v := .int .i64 ((chk ⟨cs, js, room⟩).1)) (by kernel_rfl))).cons (hA33.get (i := 5) (v := .int .i64 ((chk ⟨cs, js, room⟩).1)) (by kernel_rfl))).cons (hA33.get (i := 13) (v := .int .i64 ((chk ⟨cs, js, room⟩).2)) (by kernel_rfl))).cons (hA33.get (i := 12) (v := .int .i64 ((chk ⟨cs, js, room⟩).1)) (by kernel_rfl))).cons (hA33.get (i := 9) (v := .tuple #[.int .i64 ((chk ⟨cs, js, room⟩).1), .int .i64 ((chk ⟨cs, js, room⟩).2)]) (by kernel_rfl))).cons (hA33.get (i := 11) (v := .tuple #[.int .i64 ((chk ⟨cs, js, room⟩).1), .int .i64 ((chk ⟨cs, js, room⟩).2)]) (by kernel_rfl))).cons (hA33.get (i := 10) (v := .agg #[.slice A1 cs.length c1, .slice A2 js.length c2, .int .i64 room]) (by kernel_rfl))).cons (hA33.get (i := 4) (v := .int .i64 0) (by kernel_rfl))).cons (hA33.get (i := 3) (v := .slice none 0 0) (by kernel_rfl))).cons (hA33.get (i := 2) (v := .pointer (some ⟨B2, 0, none⟩)) (by kernel_rfl))).cons (hA33.get (i := 1) (v := .pointer (some ⟨B1, 0, none⟩)) (by kernel_rfl))).cons (hA33.get (i := 0) (v := .agg #[.slice A1 cs.length c1, .slice A2 js.length c2, .int .i64 room]) (by kernel_rfl))), rfl, SlotsIn.of hok, (by simp), rfl, hx1_41, hx2_45, hx32, ho29_36, ho29_38, (Own.nil _ _ _ 11), Nat.le_refl _, hbel0_48⟩ ?_
    intro n34 a34 w34 hI34
    obtain ⟨dc, dj, l, A2g, c2g, Al, cl, hn34, hA34, q34_0, q34_1, q34_2, q34_3, f34_0, f34_1, f34_2, f34_3, f34_4, f34_5, hsz34, hbel34⟩ := hI34
    subst hn34
    clear hA33
    have hlB1_34 := f34_0.lt
    have hlB2_34 := f34_1.lt
    have hlB31_34 := f34_2.lt
    have hhAp29_34 := Own.hi f34_3
    have hhA2g_34 := Own.hi f34_4
    have hhAl_34 := Own.hi f34_5
    refine wp_seq ?_
    refine wp_seq ?_
    refine wp_region_lit ?_
    refine sx_val (v := .pointer (some ⟨B31, 1, none⟩)) hA34 rfl (by decide) (.inl rfl) (fb_Disk_1 (hA34.ev (i := 7) (v := .pointer (some ⟨B31, 0, none⟩)) (by kernel_rfl)) _ rfl) ?_
    intro a49 hA49
    clear hA34
    refine sx_val (v := .slice A2g dj.length c2g) hA49 rfl (by decide) (.inl rfl) (ev_cell (hA49.ev (i := 20) (v := .pointer (some ⟨B31, 1, none⟩)) (by kernel_rfl)) ((f34_2.cell 1).trans rfl) Try.underlying23 rfl _ rfl) ?_
    intro a50 hA50
    clear hA49
    refine sx_val (v := .int .i64 (dj.length : Int)) hA50 rfl (by decide) (.inl rfl) (ev_len (hA50.ev (i := 21) (v := .slice A2g dj.length c2g) (by kernel_rfl)) Try.underlying23 _ rfl) ?_
    intro a51 hA51
    clear hA50
    cases hd52 : decide (0 < (dj.length : Int))
    · have hp52 := of_decide_eq_false hd52
      refine sx_val (v := .bool false) hA51 rfl (by decide) (.inl rfl) (ev_gtrB (k := .i64) (m := (dj.length : Int)) (n := 0) (hA51.ev (i := 22) (v := .int .i64 (dj.length : Int)) (by kernel_rfl)) (ec _ (.int .i64 0)) hd52 _ rfl) ?_
      intro a53 hA53
      clear hA51
      refine sx_nil ?_
      refine then_n ?_
      refine wp_cond_false (hA53.ev (i := 23) (v := .bool false) (by kernel_rfl)) ?_
      refine wp_exit ?_
      refine then_x ?_
      refine then_x ?_
      refine blk_hit ?_
      refine then_n ?_
      refine wp_seq ?_
      refine wp_region_lit ?_
      refine sx_val (v := .agg #[.slice Ap29 dc.length cp29, .slice A2g dj.length c2g, .int .i64 room]) hA53 rfl (by decide) (.inl rfl) (ev_row (hA53.ev (i := 7) (v := .pointer (some ⟨B31, 0, none⟩)) (by kernel_rfl)) f34_2 Try.underlying25 rfl (n := 3) (by kernel_rfl) rfl _ rfl) ?_
      intro a54 hA54
      clear hA53
      refine sx_val (v := .slice Al l.length cl) hA54 rfl (by decide) (.inl rfl) (ev_move (hA54.ev (i := 8) (v := .slice Al l.length cl) (by kernel_rfl)) _ rfl) ?_
      intro a55 hA55
      clear hA54
      refine sx_store hA55 rfl (.inl rfl) rfl (hA55.ev (i := 2) (v := .pointer (some ⟨B2, 0, none⟩)) (by kernel_rfl)) (hA55.ev (i := 28) (v := .agg #[.slice Ap29 dc.length cp29, .slice A2g dj.length c2g, .int .i64 room]) (by kernel_rfl)) f34_1 (by kernel_rfl) rfl (dk_one _ _ _ _ _ _ _) ?_
      intro w56 hx56 hg56
      have hs56 := hg56.size
      refine sx_val (v := .slice Al l.length cl) hA55 rfl (by decide) (.inl rfl) (ev_assign (hA55.ev (i := 29) (v := .slice Al l.length cl) (by kernel_rfl)) _ rfl) ?_
      intro a57 hA57
      clear hA55
      refine sx_val (v := .int .i64 0) hA57 rfl (by decide) (.inl rfl) (ev_assign (ec _ (.int .i64 0)) _ rfl) ?_
      intro a58 hA58
      clear hA57
      refine sx_nil ?_
      refine then_n ?_
      refine wp_ret ?_
      refine bodyPost_ret (rs_ctt (v := .slice Al l.length cl) (v2 := .int .i64 0) Try.results19 hA58 (by kernel_rfl) (by kernel_rfl) (by kernel_rfl) hx56 Try.underlying25 rfl (by kernel_rfl)) hA58.2.1 ?_
      have hbel34_59 := Below.gB hbel34 hg56 hbel34.size (by omega)
      have hz : ¬ 0 < dj.length := by omega
      have E : all ⟨cs, js, room⟩ = (⟨dc, dj, room⟩, l, 0) := by
        unfold all
        rw [if_pos hp16, ← q34_3, show allJ dj.length ⟨dc, dj, room⟩ l = (⟨dc, dj, room⟩, l) from allJ_nil (d := ⟨dc, dj, room⟩) hz]
      rw [E]
      have f34_60 := Own.gBT f34_3 hg56 f34_1 (by decide)
      have f34_61 := Own.gBT f34_4 hg56 f34_1 (by decide)
      have f34_62 := Own.gBT f34_5 hg56 f34_1 (by decide)
      exact ⟨_, _, _, _, _, _, rfl, ⟨rfl, Own.mono f34_60 (by omega)⟩, ⟨rfl, Own.mono f34_61 (by omega)⟩, ⟨rfl, Own.mono f34_62 (by omega)⟩, hbel34_59⟩
    · have hp52 := of_decide_eq_true hd52
      refine sx_val (v := .bool true) hA51 rfl (by decide) (.inl rfl) (ev_gtrB (k := .i64) (m := (dj.length : Int)) (n := 0) (hA51.ev (i := 22) (v := .int .i64 (dj.length : Int)) (by kernel_rfl)) (ec _ (.int .i64 0)) hd52 _ rfl) ?_
      intro a63 hA63
      clear hA51
      refine sx_nil ?_
      refine then_n ?_
      refine wp_cond_true (hA63.ev (i := 23) (v := .bool true) (by kernel_rfl)) ?_
      refine wp_skip ?_
      refine then_n ?_
      refine wp_block ?_
      refine wp_region_lit ?_
      refine sx_val (v := .slice Al l.length cl) hA63 rfl (by decide) (.inl rfl) (ev_move (hA63.ev (i := 8) (v := .slice Al l.length cl) (by kernel_rfl)) _ rfl) ?_
      intro a64 hA64
      clear hA63
      obtain ⟨x, hx⟩ : ∃ x, dj[0]? = some x := ⟨_, List.getElem?_eq_getElem (by omega)⟩
      have hsl := q34_1 0 x hx
      refine sx_call (f := 41) (args := #[.pointer (some ⟨B31, 0, none⟩), .int .i64 0]) hA64 rfl (by decide) (.inl rfl) (ev_fn rfl (mp2 (hA64.ev (i := 7) (v := .pointer (some ⟨B31, 0, none⟩)) (by kernel_rfl)) (ec _ (.int .i64 0))) (by kernel_rfl) _ rfl) (complete_int B31 Ap29 cp29 A2g c2g dc dj room 0 0 (w7.heap.size) (w7.heap.size) x _ f34_2 f34_3 f34_4 hx hsl.1 (by have := hsl.2; omega) (by omega) (by omega) rfl) ?_
      intro e65 w65 hR65
      obtain ⟨Ay65, cy65, rfl, hx65, hp65_1, hp65_2, hg65⟩ := hR65
      refine ⟨_, rfl, ?_⟩
      intro a65 hA65
      clear hA64
      have hs65 := hg65.size
      have hh65 := Own.hi hp65_1
      have hh65_2 := Own.hi hp65_2
      refine sx_bs (n := 1) (cs := ((com ⟨dc, dj, room⟩ 0).2).va) (e := 38) hA65 rfl (by decide) (.inl rfl) (bs1_Job (hA65.ev (i := 25) (v := .agg (((com ⟨dc, dj, room⟩ 0).2).va)) (by kernel_rfl)) _ rfl) ?_
      intro B66 w66 a66 hB66 hx66 hg66 hA66
      clear hA65
      have hs66 := hg66.size
      have hl66 := hx66.lt
      have f34_68 := Own.g2 f34_5 hg65 f34_2 (by decide) f34_3 (by decide)
      have f34_69 := Own.gN f34_68 hg66
      refine sx_app (va := Jb.va) (l1 := l) (l2 := [((com ⟨dc, dj, room⟩ 0).2)]) (z := .agg Jb.zero.va) (size := 11) (bytes := 88) hA66 rfl (by decide) (.inl rfl) rfl (hA66.ev (i := 24) (v := .slice Al l.length cl) (by kernel_rfl)) (hA66.ev (i := 26) (v := .slice (some ⟨B66, 0, none⟩) 1 1) (by kernel_rfl)) rfl rfl Try.underlying23 (by kernel_rfl) rfl (by decide) jb_one (base := w7.heap.size) f34_69 (Sl.bx1 (va := Jb.va) (x := ((com ⟨dc, dj, room⟩ 0).2)) hx66 (jb_sz _)) (by omega) (by decide) (by omega) ?_
      intro A67 c67 w67 a67 ho67 hg67 hA67
      clear hA66
      have hs67 := hg67.size
      have hh67 := Own.hi ho67
      replace ho67 : Own w67 (w7.heap.size) 38 11 (.slice A67 (l ++ [((com ⟨dc, dj, room⟩ 0).2)]).length c67) (l ++ [((com ⟨dc, dj, room⟩ 0).2)]).length (flat Jb.va (l ++ [((com ⟨dc, dj, room⟩ 0).2)])) := ho67
      refine sx_val (v := .slice A67 ((l ++ [((com ⟨dc, dj, room⟩ 0).2)]).length) c67) hA67 rfl (by decide) (.inl rfl) (ev_assign (hA67.ev (i := 27) (v := .slice A67 ((l ++ [((com ⟨dc, dj, room⟩ 0).2)]).length) c67) (by kernel_rfl)) _ rfl) ?_
      intro a70 hA70
      clear hA67
      refine sx_nil ?_
      refine blk_n ?_
      refine then_n ?_
      have hp65_71 := Own.gN hp65_1 hg66
      have hp65_72 := Own.gOT hp65_71 hg67 f34_69 (by decide)
      have hp65_73 := Own.gN hp65_2 hg66
      have hp65_74 := Own.gO hp65_73 hg67 f34_69 hh65_2 hhAl_34 (by omega)
      have hx65_75 := hx65.gN hg66
      have hx65_76 := hx65_75.gOT hg67 f34_69 (by decide)
      have hpos : 0 < dj.length := by omega
      have hlen : (com ⟨dc, dj, room⟩ 0).1.cs.length = dc.length := com_len _ _
      have hroom : (com ⟨dc, dj, room⟩ 0).1.room = room := com_room _ _
      have hjs : (com ⟨dc, dj, room⟩ 0).1.js = dj.eraseIdx 0 := com_js _ 0 hpos
      have hjl : (dj.eraseIdx 0).length = dj.length - 1 := by rw [List.length_eraseIdx]; simp [hpos]
      have hxn : Bx w67 B31 25 #[.slice Ap29 (com ⟨dc, dj, room⟩ 0).1.cs.length cp29, .slice Ay65 (com ⟨dc, dj, room⟩ 0).1.js.length cy65, .int .i64 room] := by
        have h := hx65_76
        rw [hroom] at h
        rw [hlen]
        exact h
      have f34_77 := f34_0.g2 hg65 (by omega) f34_3 (by decide)
      have f34_78 := f34_77.gN hg66
      have f34_79 := f34_78.gOT hg67 f34_69 (by decide)
      have f34_80 := f34_1.g2 hg65 (by omega) f34_3 (by decide)
      have f34_81 := f34_80.gN hg66
      have f34_82 := f34_81.gOT hg67 f34_69 (by decide)
      have hbel34_83 := Below.g2 hbel34 hg65 hbel34.size f34_3 (by omega) (by omega)
      have hbel34_84 := Below.gN hbel34_83 hg66 hbel34_83.size
      have hbel34_85 := Below.gO hbel34_84 hg67 f34_69 hbel34_84.size (by omega)
      refine ⟨((com ⟨dc, dj, room⟩ 0).1.js).length, by rw [hjs, hjl]; omega, (com ⟨dc, dj, room⟩ 0).1.cs, (com ⟨dc, dj, room⟩ 0).1.js, (l ++ [(com ⟨dc, dj, room⟩ 0).2]), Ay65, cy65, A67, c67, rfl, ((((((((((((((((((Ag.nil hA70.1 hA70.2.1).cons (hA70.get (i := 8) (v := .slice A67 ((l ++ [((com ⟨dc, dj, room⟩ 0).2)]).length) c67) (by kernel_rfl))).cons (hA70.get (i := 7) (v := .pointer (some ⟨B31, 0, none⟩)) (by kernel_rfl))).cons (hA70.get (i := 19) (v := .agg #[.slice Ap29 cs.length cp29, .slice Aj29 js.length cj29, .int .i64 room]) (by kernel_rfl))).cons (hA70.get (i := 18) (v := .agg #[.slice A1 cs.length c1, .slice A2 js.length c2, .int .i64 room]) (by kernel_rfl))).cons (hA70.get (i := 15) (v := .bool false) (by kernel_rfl))).cons (hA70.get (i := 14) (v := .int .i64 ((chk ⟨cs, js, room⟩).1)) (by kernel_rfl))).cons (hA70.get (i := 5) (v := .int .i64 ((chk ⟨cs, js, room⟩).1)) (by kernel_rfl))).cons (hA70.get (i := 13) (v := .int .i64 ((chk ⟨cs, js, room⟩).2)) (by kernel_rfl))).cons (hA70.get (i := 12) (v := .int .i64 ((chk ⟨cs, js, room⟩).1)) (by kernel_rfl))).cons (hA70.get (i := 9) (v := .tuple #[.int .i64 ((chk ⟨cs, js, room⟩).1), .int .i64 ((chk ⟨cs, js, room⟩).2)]) (by kernel_rfl))).cons (hA70.get (i := 11) (v := .tuple #[.int .i64 ((chk ⟨cs, js, room⟩).1), .int .i64 ((chk ⟨cs, js, room⟩).2)]) (by kernel_rfl))).cons (hA70.get (i := 10) (v := .agg #[.slice A1 cs.length c1, .slice A2 js.length c2, .int .i64 room]) (by kernel_rfl))).cons (hA70.get (i := 4) (v := .int .i64 0) (by kernel_rfl))).cons (hA70.get (i := 3) (v := .slice none 0 0) (by kernel_rfl))).cons (hA70.get (i := 2) (v := .pointer (some ⟨B2, 0, none⟩)) (by kernel_rfl))).cons (hA70.get (i := 1) (v := .pointer (some ⟨B1, 0, none⟩)) (by kernel_rfl))).cons (hA70.get (i := 0) (v := .agg #[.slice A1 cs.length c1, .slice A2 js.length c2, .int .i64 room]) (by kernel_rfl))), by rw [hlen]; exact q34_0, by rw [hjs]; exact SlotsIn.tail q34_1, by rw [hjs, hjl, List.length_append]; simp; omega, by rw [← q34_3, allJ_step (d := ⟨dc, dj, room⟩) hpos, Dk_eta (com ⟨dc, dj, room⟩ 0).1 hroom], f34_79, f34_82, hxn, (by rw [hlen]; exact hp65_72), (Own.mono hp65_74 (by omega)), ho67, by omega, hbel34_85⟩
end Go.Proofs.Ytbkdimildnahaaa
