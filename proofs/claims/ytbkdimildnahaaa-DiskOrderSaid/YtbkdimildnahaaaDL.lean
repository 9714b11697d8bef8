/- Package disk: All. -/
import Derived.Test.YtbkdimildnahaaaDJ
namespace Go.Proofs.Ytbkdimildnahaaa
open Go.RowKit
set_option linter.unusedVariables false
set_option maxRecDepth 100000

/-- All slots of jobs are there. -/
def SlotsIn (n : Nat) (js : List Jb) : Prop := ∀ (k : Nat) (x : Jb), js[k]? = some x → 0 ≤ x.slot ∧ x.slot < n
theorem SlotsIn.of {d : Dk} (h : OkD d) : SlotsIn d.cs.length d.js := fun k x hx => inR_s (h.inr k x hx)
theorem SlotsIn.tail {n : Nat} {js : List Jb} (h : SlotsIn n js) : SlotsIn n (js.eraseIdx 0) := by
  intro k x hx
  cases js with
  | nil => simp at hx
  | cons y l => exact h (k + 1) x (by simpa using hx)
theorem allJ_step {d : Dk} {l : List Jb} (h : 0 < d.js.length) : allJ d.js.length d l = allJ (com d 0).1.js.length (com d 0).1 (l ++ [(com d 0).2]) := by
  have e : (com d 0).1.js.length = d.js.length - 1 := by
    rw [com_js d 0 h, List.length_eraseIdx]
    simp [h]
  rw [e]
  obtain ⟨n, hn⟩ : ∃ n, d.js.length = n + 1 := ⟨d.js.length - 1, by omega⟩
  rw [hn]
  cases hj : d.js with
  | nil => rw [hj] at h; simp at h
  | cons y t =>
    show (match d.js with | [] => _ | _ :: _ => _) = _
    rw [hj]
    rfl
theorem Dk_eta (d : Dk) {r : Int} (h : d.room = r) : (⟨d.cs, d.js, r⟩ : Dk) = d := by subst h; rfl
theorem allJ_nil {d : Dk} {l : List Jb} (h : ¬ 0 < d.js.length) : allJ d.js.length d l = (d, l) := by
  rw [show d.js.length = 0 by omega]; rfl

set_option maxHeartbeats 8000000 in
theorem All_any (A1 : Option Addr) (c1 : Nat) (A2 : Option Addr) (c2 : Nat) (cs : List Ct) (js : List Jb) (room : Int) (w : World) (hd : GD w A1 c1 A2 c2 cs js) (hl : cs.length ≤ 900000) (hj : js.length ≤ 900000) : Calls Try.prog 19 #[.agg #[.slice A1 cs.length c1, .slice A2 js.length c2, .int .i64 room]] w (RetDL w (all ⟨cs, js, room⟩)) := by
  have hbel0 := below0 w
  refine sx_enter (N := 30) [(0, .agg #[.slice A1 cs.length c1, .slice A2 js.length c2, .int .i64 room])] Try.func19 rfl Try.ntmps19 (by simp) (fun a z d s => ((Ag.nil z d).cons (s 0 _ rfl))) ?_
  intro a0 hA0
  refine wp_seq ?_
  refine wp_region_lit ?_
  refine sx_new (cs := #[.slice A1 cs.length c1, .slice A2 js.length c2, .int .i64 room]) (t := 25) hA0 rfl (by decide) (.inl rfl) (ev_box (hA0.ev (i := 0) (v := .agg #[.slice A1 cs.length c1, .slice A2 js.length c2, .int .i64 room])) rfl _ rfl) ?_
  intro B1 w1 a1 hB1 hx1 hg1 hA1
  clear hA0
  have hs1 := hg1.size
  have hl1 := hx1.lt
  refine sx_new (cs := #[.slice none 0 0, .slice none 0 0, .int .i64 0]) (t := 25) hA1 rfl (by decide) (.inl rfl) (ev_alloc (z := .agg (#[.slice none 0 0, .slice none 0 0, .int .i64 0])) (by kernel_rfl) (by kernel_rfl) _ rfl) ?_
  intro B2 w2 a2 hB2 hx2 hg2 hA2
  clear hA1
  have hs2 := hg2.size
  have hl2 := hx2.lt
  refine sx_val hA2 rfl (ev_assign (ec _ (.slice none 0 0)) _ rfl) ?_
  intro a3 hA3; clear hA2
  refine sx_val hA3 rfl (ev_assign (ec _ (.int .i64 0)) _ rfl) ?_
  intro a4 hA4; clear hA3
  refine sx_nil ?_
  refine then_n ?_
  refine wp_seq ?_
  refine wp_seq ?_
  refine wp_region_lit ?_
  have hx1_5 := hx1.gN hg2
  refine sx_val (v := .agg #[.slice A1 cs.length c1, .slice A2 js.length c2, .int .i64 room]) hA4 rfl (ev_row (hA4.ev (i := 1) (v := .pointer (some ⟨B1, 0, none⟩))) hx1_5 Try.underlying25 rfl (n := 3) (by kernel_rfl) rfl _ rfl) ?_
  intro a6 hA6; clear hA4
  have hbel0_8 := Below.gN hbel0 hg1 hbel0.size
  have hbel0_9 := Below.gN hbel0_8 hg2 hbel0_8.size
  refine sx_call (f := 24) (args := #[.agg #[.slice A1 cs.length c1, .slice A2 js.length c2, .int .i64 room]]) hA6 rfl (by decide) (.inl rfl) (ev_fn rfl (mp1 (hA6.ev (i := 10) (v := .agg #[.slice A1 cs.length c1, .slice A2 js.length c2, .int .i64 room]))) (by kernel_rfl) _ rfl) (Check_any A1 c1 A2 c2 cs js room _ ⟨(hd.s.below hbel0_9), (hd.j.below hbel0_9)⟩ (by omega)) ?_
  intro e7 w7 hR7
  obtain ⟨rfl, hb7⟩ := hR7
  refine ⟨_, rfl, ?_⟩
  intro a7 hA7
  clear hA6
  have hg7 := g0 hb7
  have hs7 := hg7.size
  clear hb7
  refine sx_val hA7 rfl (ev_move (hA7.ev (i := 11) (v := .tuple #[.int .i64 (chk ⟨cs, js, room⟩).1, .int .i64 (chk ⟨cs, js, room⟩).2])) _ rfl) ?_
  intro a10 hA10; clear hA7
  refine sx_val (v := .int .i64 (chk ⟨cs, js, room⟩).1) hA10 rfl (ev_ext (hA10.ev (i := 9) (v := .tuple #[.int .i64 (chk ⟨cs, js, room⟩).1, .int .i64 (chk ⟨cs, js, room⟩).2])) rfl _ rfl) ?_
  intro a11 hA11; clear hA10
  refine sx_val (v := .int .i64 (chk ⟨cs, js, room⟩).2) hA11 rfl (ev_ext (hA11.ev (i := 9) (v := .tuple #[.int .i64 (chk ⟨cs, js, room⟩).1, .int .i64 (chk ⟨cs, js, room⟩).2])) rfl _ rfl) ?_
  intro a12 hA12; clear hA11
  refine sx_val hA12 rfl (ev_assign (hA12.ev (i := 12) (v := .int .i64 (chk ⟨cs, js, room⟩).1)) _ rfl) ?_
  intro a13 hA13; clear hA12
  refine sx_val hA13 rfl (ev_assign (hA13.ev (i := 13) (v := .int .i64 (chk ⟨cs, js, room⟩).2)) _ rfl) ?_
  intro a14 hA14; clear hA13
  refine sx_nil ?_
  refine then_n ?_
  refine wp_seq ?_
  refine wp_region_lit ?_
  refine sx_val hA14 rfl (ev_move (hA14.ev (i := 5) (v := .int .i64 (chk ⟨cs, js, room⟩).1)) _ rfl) ?_
  intro a15 hA15; clear hA14
  cases hd16 : decide ((chk ⟨cs, js, room⟩).1 = 0)
  · have hp16 := of_decide_eq_false hd16
    refine sx_val (v := .bool true) hA15 rfl (ev_neqB (k := .i64) (m := (chk ⟨cs, js, room⟩).1) (n := 0) (hA15.ev (i := 14)) (ec _ (.int .i64 0)) (by simpa using hd16) _ rfl) ?_
    intro a17 hA17; clear hA15
    refine sx_nil ?_
    refine then_n ?_
    refine wp_cond_true (hA17.ev (i := 15) (v := .bool true)) ?_
    refine wp_seq ?_
    refine wp_region_lit ?_
    refine sx_val (v := .agg #[.slice none 0 0, .slice none 0 0, .int .i64 0]) hA17 rfl (bd0_Disk _ rfl) ?_
    intro a18 hA18; clear hA17
    refine sx_val hA18 rfl (ev_move (hA18.ev (i := 5) (v := .int .i64 (chk ⟨cs, js, room⟩).1)) _ rfl) ?_
    intro a19 hA19; clear hA18
    have hx2_21 := hx2.gN hg7
    refine sx_store hA19 rfl (.inl rfl) rfl (hA19.ev (i := 2) (v := .pointer (some ⟨B2, 0, none⟩))) (hA19.ev (i := 16) (v := .agg #[.slice none 0 0, .slice none 0 0, .int .i64 0])) hx2_21 (by kernel_rfl) rfl (dk_one _ _ _ _ _ _ _) ?_
    intro w20 hx20 hg20
    have hs20 := hg20.size
    refine sx_val hA19 rfl (ev_assign (ec _ (.slice none 0 0)) _ rfl) ?_
    intro a22 hA22; clear hA19
    refine sx_val hA22 rfl (ev_assign (hA22.ev (i := 17) (v := .int .i64 (chk ⟨cs, js, room⟩).1)) _ rfl) ?_
    intro a23 hA23; clear hA22
    refine sx_nil ?_
    refine then_n ?_
    refine wp_ret ?_
    refine then_r ?_
    refine bodyPost_ret (rs_ctt (v := .slice none 0 0) (v2 := .int .i64 (chk ⟨cs, js, room⟩).1) Try.results19 hA23 (by kernel_rfl) (by kernel_rfl) (by kernel_rfl) hx20 Try.underlying25 rfl (by kernel_rfl)) hA23.2.1 ?_
    have hbel0_24 := Below.gN hbel0_9 hg7 hbel0_9.size
    have hbel0_25 := Below.gB hbel0_24 hg20 hbel0_24.size (by omega)
    rw [show all ⟨cs, js, room⟩ = (Dk.nil, [], (chk ⟨cs, js, room⟩).1) from if_neg hp16]
    exact ⟨none, 0, none, 0, none, 0, rfl, OwC.nil _ _, OwJ.nil _ _, OwJ.nil _ _, hbel0_25⟩
  have hp16 := of_decide_eq_true hd16
  refine sx_val (v := .bool false) hA15 rfl (ev_neqB (k := .i64) (m := (chk ⟨cs, js, room⟩).1) (n := 0) (hA15.ev (i := 14)) (ec _ (.int .i64 0)) (by simpa using hd16) _ rfl) ?_
  intro a26 hA26; clear hA15
  refine sx_nil ?_
  refine then_n ?_
  refine wp_cond_false (hA26.ev (i := 15) (v := .bool false)) ?_
  refine wp_skip ?_
  refine then_n ?_
  refine wp_seq ?_
  refine wp_region_lit ?_
  have hx1_27 := hx1_5.gN hg7
  refine sx_val (v := .agg #[.slice A1 cs.length c1, .slice A2 js.length c2, .int .i64 room]) hA26 rfl (ev_row (hA26.ev (i := 1) (v := .pointer (some ⟨B1, 0, none⟩))) hx1_27 Try.underlying25 rfl (n := 3) (by kernel_rfl) rfl _ rfl) ?_
  intro a28 hA28; clear hA26
  have hbel0_30 := Below.gN hbel0_9 hg7 hbel0_9.size
  refine sx_call (f := 40) (args := #[.agg #[.slice A1 cs.length c1, .slice A2 js.length c2, .int .i64 room]]) hA28 rfl (by decide) (.inl rfl) (ev_fn rfl (mp1 (hA28.ev (i := 18) (v := .agg #[.slice A1 cs.length c1, .slice A2 js.length c2, .int .i64 room]))) (by kernel_rfl) _ rfl) (clone_any A1 c1 A2 c2 cs js room _ ⟨(hd.s.below hbel0_30), (hd.j.below hbel0_30)⟩ (by omega) (by omega)) ?_
  intro e29 w29 hR29
  obtain ⟨Ap29, cp29, Aj29, cj29, rfl, hC29, hJ29, hb29⟩ := hR29
  refine ⟨_, rfl, ?_⟩
  intro a29 hA29
  clear hA28
  have hg29 := g0 hb29
  have hs29 := hg29.size
  clear hb29
  have ho29_0 : Own w29 (w7.heap.size) 28 8 (.slice Ap29 cs.length cp29) cs.length (flat Ct.va cs) := hC29.2
  have hh29_0 := Own.hi ho29_0
  have ho29_1 : Own w29 (w7.heap.size) 38 11 (.slice Aj29 js.length cj29) js.length (flat Jb.va js) := hJ29.2
  have hh29_1 := Own.hi ho29_1
  refine sx_new (cs := #[.slice none 0 0, .slice none 0 0, .int .i64 0]) (t := 25) hA29 rfl (by decide) (.inl rfl) (ev_alloc (z := .agg (#[.slice none 0 0, .slice none 0 0, .int .i64 0])) (by kernel_rfl) (by kernel_rfl) _ rfl) ?_
  intro B31 w31 a31 hB31 hx31 hg31 hA31
  clear hA29
  have hs31 := hg31.size
  have hl31 := hx31.lt
  refine sx_store hA31 rfl (.inl rfl) rfl (hA31.ev (i := 7) (v := .pointer (some ⟨B31, 0, none⟩))) (hA31.ev (i := 19) (v := .agg #[.slice Ap29 cs.length cp29, .slice Aj29 js.length cj29, .int .i64 room])) hx31 (by kernel_rfl) rfl (dk_one _ _ _ _ _ _ _) ?_
  intro w32 hx32 hg32
  have hs32 := hg32.size
  refine sx_nil ?_
  refine then_n ?_
  refine wp_seq ?_
  refine wp_region_lit ?_
  refine sx_val hA31 rfl (ev_assign (ec _ (.slice none 0 0)) _ rfl) ?_
  intro a33 hA33; clear hA31
  refine sx_nil ?_
  refine then_n ?_
  refine wp_seq ?_
  refine wp_block ?_
  have hok := chk_ok hp16
  have ho29_35 := Own.gN ho29_0 hg31
  have ho29_36 := Own.gBT ho29_35 hg32 hx31 (by decide)
  have ho29_37 := Own.gN ho29_1 hg31
  have ho29_38 := Own.gBT ho29_37 hg32 hx31 (by decide)
  have hx2_39 := hx2.gN hg7
  have hx2_40 := hx2_39.gN hg29
  have hx2_41 := hx2_40.gN hg31
  have hx2_42 := hx2_41.gB hg32 (by omega)
  have hbel0_43 := Below.gN hbel0_30 hg29 hbel0_30.size
  have hbel0_44 := Below.gN hbel0_43 hg31 hbel0_43.size
  have hbel0_45 := Below.gB hbel0_44 hg32 hbel0_44.size (by omega)
  refine wp_loop_ghost (fun n a wl => ∃ (dc : List Ct) (dj : List Jb) (l : List Jb) (A2g : Option Addr) (c2g : Nat) (Al : Option Addr) (cl : Nat), n = dj.length ∧ Ag a 30 [(2, .pointer (some ⟨B2, 0, none⟩)), (3, .slice none 0 0), (4, .int .i64 0), (7, .pointer (some ⟨B31, 0, none⟩)), (8, .slice Al l.length cl)] ∧ dc.length = cs.length ∧ SlotsIn cs.length dj ∧ l.length + dj.length = js.length ∧ allJ dj.length ⟨dc, dj, room⟩ l = allJ js.length ⟨cs, js, room⟩ [] ∧ Bx wl B2 25 #[.slice none 0 0, .slice none 0 0, .int .i64 0] ∧ Bx wl B31 25 #[.slice Ap29 dc.length cp29, .slice A2g dj.length c2g, .int .i64 room] ∧ Own wl (w7.heap.size) 28 8 (.slice Ap29 dc.length cp29) dc.length (flat Ct.va dc) ∧ Own wl (w7.heap.size) 38 11 (.slice A2g dj.length c2g) dj.length (flat Jb.va dj) ∧ Own wl (w7.heap.size) 38 11 (.slice Al l.length cl) l.length (flat Jb.va l) ∧ w32.heap.size ≤ wl.heap.size ∧ Below w.heap.size w wl) (js.length) ⟨cs, js, [], Aj29, cj29, none, 0, rfl, ((((((Ag.nil hA33.1 hA33.2.1).cons (hA33.get (i := 8) (v := .slice none 0 0))).cons (hA33.get (i := 7) (v := .pointer (some ⟨B31, 0, none⟩)))).cons (hA33.get (i := 4) (v := .int .i64 0))).cons (hA33.get (i := 3) (v := .slice none 0 0))).cons (hA33.get (i := 2) (v := .pointer (some ⟨B2, 0, none⟩)))), rfl, SlotsIn.of hok, (by simp), rfl, hx2_42, hx32, ho29_36, ho29_38, (Own.nil _ _ _ 11), Nat.le_refl _, hbel0_45⟩ ?_
  intro n34 a34 w34 hI34
  obtain ⟨dc, dj, l, A2g, c2g, Al, cl, hn34, hA34, q34_0, q34_1, q34_2, q34_3, f34_0, f34_1, f34_2, f34_3, f34_4, hsz34, hbel34⟩ := hI34
  subst hn34
  clear hA33
  have hlB2_34 := f34_0.lt
  have hlB31_34 := f34_1.lt
  have hhAp29_34 := Own.hi f34_2
  have hhA2g_34 := Own.hi f34_3
  have hhAl_34 := Own.hi f34_4
  refine wp_seq ?_
  refine wp_seq ?_
  refine wp_region_lit ?_
  refine sx_val (v := .pointer (some ⟨B31, 1, none⟩)) hA34 rfl (fb_Disk_1 (hA34.ev (i := 7) (v := .pointer (some ⟨B31, 0, none⟩))) _ rfl) ?_
  intro a46 hA46; clear hA34
  refine sx_val (v := .slice A2g dj.length c2g) hA46 rfl (ev_cell (v := .slice A2g dj.length c2g) (hA46.ev (i := 20) (v := .pointer (some ⟨B31, 1, none⟩))) ((f34_1.cell 1).trans rfl) Try.underlying23 rfl _ rfl) ?_
  intro a47 hA47; clear hA46
  refine sx_val (v := .int .i64 (dj.length : Int)) hA47 rfl (ev_len (hA47.ev (i := 21) (v := .slice A2g dj.length c2g)) Try.underlying23 _ rfl) ?_
  intro a48 hA48; clear hA47
  cases hd49 : decide (0 < (dj.length : Int))
  · have hp49 := of_decide_eq_false hd49
    refine sx_val (v := .bool false) hA48 rfl (ev_gtrB (k := .i64) (m := (dj.length : Int)) (n := 0) (hA48.ev (i := 22)) (ec _ (.int .i64 0)) hd49 _ rfl) ?_
    intro a50 hA50; clear hA48
    refine sx_nil ?_
    refine then_n ?_
    refine wp_cond_false (hA50.ev (i := 23) (v := .bool false)) ?_
    refine wp_exit ?_
    refine then_x ?_
    refine then_x ?_
    refine blk_hit ?_
    refine then_n ?_
    refine wp_seq ?_
    refine wp_region_lit ?_
    refine sx_val (v := .agg #[.slice Ap29 dc.length cp29, .slice A2g dj.length c2g, .int .i64 room]) hA50 rfl (ev_row (hA50.ev (i := 7) (v := .pointer (some ⟨B31, 0, none⟩))) f34_1 Try.underlying25 rfl (n := 3) (by kernel_rfl) rfl _ rfl) ?_
    intro a51 hA51; clear hA50
    refine sx_val hA51 rfl (ev_move (hA51.ev (i := 8) (v := .slice Al l.length cl)) _ rfl) ?_
    intro a52 hA52; clear hA51
    refine sx_store hA52 rfl (.inl rfl) rfl (hA52.ev (i := 2) (v := .pointer (some ⟨B2, 0, none⟩))) (hA52.ev (i := 28) (v := .agg #[.slice Ap29 dc.length cp29, .slice A2g dj.length c2g, .int .i64 room])) f34_0 (by kernel_rfl) rfl (dk_one _ _ _ _ _ _ _) ?_
    intro w53 hx53 hg53
    have hs53 := hg53.size
    refine sx_val hA52 rfl (ev_assign (hA52.ev (i := 29) (v := .slice Al l.length cl)) _ rfl) ?_
    intro a54 hA54; clear hA52
    refine sx_val hA54 rfl (ev_assign (ec _ (.int .i64 0)) _ rfl) ?_
    intro a55 hA55; clear hA54
    refine sx_nil ?_
    refine then_n ?_
    refine wp_ret ?_
    refine bodyPost_ret (rs_ctt (v := .slice Al l.length cl) (v2 := .int .i64 0) Try.results19 hA55 (by kernel_rfl) (by kernel_rfl) (by kernel_rfl) hx53 Try.underlying25 rfl (by kernel_rfl)) hA55.2.1 ?_
    have hbel34_56 := Below.gB hbel34 hg53 hbel34.size (by omega)
    have hz : ¬ 0 < dj.length := by omega
    have E : all ⟨cs, js, room⟩ = (⟨dc, dj, room⟩, l, 0) := by
      unfold all
      rw [if_pos hp16, ← q34_3, show allJ dj.length ⟨dc, dj, room⟩ l = (⟨dc, dj, room⟩, l) from allJ_nil (d := ⟨dc, dj, room⟩) hz]
    rw [E]
    have f34_57 := Own.gBT f34_2 hg53 f34_0 (by decide)
    have f34_58 := Own.gBT f34_3 hg53 f34_0 (by decide)
    have f34_59 := Own.gBT f34_4 hg53 f34_0 (by decide)
    exact ⟨_, _, _, _, _, _, rfl, ⟨rfl, Own.mono f34_57 (by omega)⟩, ⟨rfl, Own.mono f34_58 (by omega)⟩, ⟨rfl, Own.mono f34_59 (by omega)⟩, hbel34_56⟩
  have hp49 := of_decide_eq_true hd49
  refine sx_val (v := .bool true) hA48 rfl (ev_gtrB (k := .i64) (m := (dj.length : Int)) (n := 0) (hA48.ev (i := 22)) (ec _ (.int .i64 0)) hd49 _ rfl) ?_
  intro a60 hA60; clear hA48
  refine sx_nil ?_
  refine then_n ?_
  refine wp_cond_true (hA60.ev (i := 23) (v := .bool true)) ?_
  refine wp_skip ?_
  refine then_n ?_
  refine wp_block ?_
  refine wp_region_lit ?_
  refine sx_val hA60 rfl (ev_move (hA60.ev (i := 8) (v := .slice Al l.length cl)) _ rfl) ?_
  intro a61 hA61; clear hA60
  obtain ⟨x, hx⟩ : ∃ x, dj[0]? = some x := ⟨_, List.getElem?_eq_getElem (by omega)⟩
  have hsl := q34_1 0 x hx
  refine sx_call (f := 41) (args := #[.pointer (some ⟨B31, 0, none⟩), .int .i64 0]) hA61 rfl (by decide) (.inl rfl) (ev_fn rfl (mp2 (hA61.ev (i := 7) (v := .pointer (some ⟨B31, 0, none⟩))) (ec _ (.int .i64 0))) (by kernel_rfl) _ rfl) (complete_int B31 Ap29 cp29 A2g c2g dc dj room 0 0 (w7.heap.size) (w7.heap.size) x _ f34_1 f34_2 f34_3 hx hsl.1 (by have := hsl.2; omega) (by omega) (by omega) rfl) ?_
  intro e62 w62 hR62
  obtain ⟨Ay62, cy62, rfl, hx62, hp62_1, hp62_2, hg62⟩ := hR62
  refine ⟨_, rfl, ?_⟩
  intro a62 hA62
  clear hA61
  have hs62 := hg62.size
  have hh62 := Own.hi hp62_1
  have hh62_2 := Own.hi hp62_2
  refine sx_bs (n := 1) (cs := (com ⟨dc, dj, room⟩ 0).2.va) (e := 38) hA62 rfl (by decide) (.inl rfl) (bs1_Job (hA62.ev (i := 25) (v := .agg (com ⟨dc, dj, room⟩ 0).2.va)) _ rfl) ?_
  intro B63 w63 a63 hB63 hx63 hg63 hA63
  clear hA62
  have hs63 := hg63.size
  have hl63 := hx63.lt
  have f34_65 := Own.g2 f34_4 hg62 f34_1 (by decide) f34_2 (by decide)
  have f34_66 := Own.gN f34_65 hg63
  refine sx_app (va := Jb.va) (l1 := l) (l2 := [(com ⟨dc, dj, room⟩ 0).2]) (z := .agg Jb.zero.va) (size := 11) (bytes := 88) hA63 rfl (by decide) (.inl rfl) rfl (hA63.ev (i := 24) (v := .slice Al l.length cl)) (hA63.ev (i := 26) (v := .slice (some ⟨B63, 0, none⟩) 1 1)) rfl rfl Try.underlying23 (by kernel_rfl) rfl (by decide) jb_one (base := w7.heap.size) f34_66 (Sl.bx1 (va := Jb.va) (x := (com ⟨dc, dj, room⟩ 0).2) hx63 (jb_sz _)) (by omega) (by decide) (by omega) ?_
  intro A64 c64 w64 a64 ho64 hg64 hA64
  clear hA63
  have hs64 := hg64.size
  have hh64 := Own.hi ho64
  replace ho64 : Own w64 (w7.heap.size) 38 11 (.slice A64 (l ++ [(com ⟨dc, dj, room⟩ 0).2]).length c64) (l ++ [(com ⟨dc, dj, room⟩ 0).2]).length (flat Jb.va (l ++ [(com ⟨dc, dj, room⟩ 0).2])) := ho64
  refine sx_val hA64 rfl (ev_assign (hA64.ev (i := 27) (v := .slice A64 (l ++ [(com ⟨dc, dj, room⟩ 0).2]).length c64)) _ rfl) ?_
  intro a67 hA67; clear hA64
  refine sx_nil ?_
  refine blk_n ?_
  refine then_n ?_
  have hp62_68 := Own.gN hp62_1 hg63
  have hp62_69 := Own.gOT hp62_68 hg64 f34_66 (by decide)
  have hp62_70 := Own.gN hp62_2 hg63
  have hp62_71 := Own.gO hp62_70 hg64 f34_66 hh62_2 hhAl_34 (by omega)
  have hx62_72 := hx62.gN hg63
  have hx62_73 := hx62_72.gOT hg64 f34_66 (by decide)
  have hpos : 0 < dj.length := by omega
  have hlen : (com ⟨dc, dj, room⟩ 0).1.cs.length = dc.length := com_len _ _
  have hroom : (com ⟨dc, dj, room⟩ 0).1.room = room := com_room _ _
  have hjs : (com ⟨dc, dj, room⟩ 0).1.js = dj.eraseIdx 0 := com_js _ 0 hpos
  have hjl : (dj.eraseIdx 0).length = dj.length - 1 := by rw [List.length_eraseIdx]; simp [hpos]
  have hxn : Bx w64 B31 25 #[.slice Ap29 (com ⟨dc, dj, room⟩ 0).1.cs.length cp29, .slice Ay62 (com ⟨dc, dj, room⟩ 0).1.js.length cy62, .int .i64 room] := by
    have h := hx62_73
    rw [hroom] at h
    rw [hlen]
    exact h
  have f34_74 := f34_0.g2 hg62 (by omega) f34_2 (by decide)
  have f34_75 := f34_74.gN hg63
  have f34_76 := f34_75.gOT hg64 f34_66 (by decide)
  have hbel34_77 := Below.g2 hbel34 hg62 hbel34.size f34_2 (by omega) (by omega)
  have hbel34_78 := Below.gN hbel34_77 hg63 hbel34_77.size
  have hbel34_79 := Below.gO hbel34_78 hg64 f34_66 hbel34_78.size (by omega)
  refine ⟨(com ⟨dc, dj, room⟩ 0).1.js.length, by rw [hjs, hjl]; omega, (com ⟨dc, dj, room⟩ 0).1.cs, (com ⟨dc, dj, room⟩ 0).1.js, (l ++ [(com ⟨dc, dj, room⟩ 0).2]), Ay62, cy62, A64, c64, rfl, ((((((Ag.nil hA67.1 hA67.2.1).cons (hA67.get (i := 8) (v := .slice A64 (l ++ [(com ⟨dc, dj, room⟩ 0).2]).length c64))).cons (hA67.get (i := 7) (v := .pointer (some ⟨B31, 0, none⟩)))).cons (hA67.get (i := 4) (v := .int .i64 0))).cons (hA67.get (i := 3) (v := .slice none 0 0))).cons (hA67.get (i := 2) (v := .pointer (some ⟨B2, 0, none⟩)))), by rw [hlen]; exact q34_0, by rw [hjs]; exact SlotsIn.tail q34_1, by rw [hjs, hjl, List.length_append]; simp; omega, by rw [← q34_3, allJ_step (d := ⟨dc, dj, room⟩) hpos, Dk_eta (com ⟨dc, dj, room⟩ 0).1 hroom], f34_76, hxn, (by rw [hlen]; exact hp62_69), (Own.mono hp62_71 (by omega)), ho64, by omega, hbel34_79⟩
end Go.Proofs.Ytbkdimildnahaaa
