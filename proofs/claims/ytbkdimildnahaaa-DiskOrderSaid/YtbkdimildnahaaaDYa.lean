/- The law: Mod, made. -/
import Derived.Test.YtbkdimildnahaaaDX
import Derived.Test.YtbkdimildnahaaaSI
import Derived.Test.YtbkdimildnahaaaDM
namespace Go.Proofs.Ytbkdimildnahaaa
open Go.RowKit
set_option linter.unusedVariables false
set_option maxRecDepth 100000

set_option maxHeartbeats 4000000 in
theorem Mod_any (n m : Int) (w : World) (hm : 1 ≤ m) (hm2 : m ≤ 1000000000) : Calls Try.prog 35 #[.int .i64 n, .int .i64 m] w (RetB w (.returned (.int .i64 (n % m)))) := by
  have hbd := tmod_bd n m hm
  have hbel0 := below0 w
  refine sx_enter (N := 16) [(0, .int .i64 n), (1, .int .i64 m)] Try.func35 rfl Try.ntmps35 (by simp) (fun a z d s => (((Ag.nil z d).cons (s 1 _ rfl)).cons (s 0 _ rfl))) ?_
  intro a0 hA0
  refine wp_seq ?_
  refine wp_region_lit ?_
  refine sx_val hA0 rfl (ev_assign (ec _ (.int .i64 0)) _ rfl) ?_
  intro a1 hA1; clear hA0
  refine sx_nil ?_
  refine then_n ?_
  refine wp_seq ?_
  refine wp_seq ?_
  refine wp_region_lit ?_
  refine sx_val hA1 rfl (ev_move (hA1.ev (i := 1) (v := .int .i64 m)) _ rfl) ?_
  intro a2 hA2; clear hA1
  refine sx_val (v := .bool false) hA2 rfl (ev_lssB (k := .i64) (m := m) (n := 1) (hA2.ev (i := 5)) (ec _ (.int .i64 1)) (by simp; omega) _ rfl) ?_
  intro a3 hA3; clear hA2
  refine sx_nil ?_
  refine then_n ?_
  refine wp_cond_false (hA3.ev (i := 6) (v := .bool false)) ?_
  refine wp_skip ?_
  refine then_n ?_
  refine wp_seq ?_
  refine wp_region_lit ?_
  refine sx_val hA3 rfl (ev_move (hA3.ev (i := 0) (v := .int .i64 n)) _ rfl) ?_
  intro a4 hA4; clear hA3
  refine sx_val hA4 rfl (ev_move (hA4.ev (i := 1) (v := .int .i64 m)) _ rfl) ?_
  intro a5 hA5; clear hA4
  refine sx_val (v := .int .i64 (n.tmod m)) hA5 rfl (ev_remR (k := .i64) (m := n) (n := m) (r := n.tmod m) (hA5.ev (i := 7)) (hA5.ev (i := 8)) (by omega) rfl _ rfl) ?_
  intro a6 hA6; clear hA5
  refine sx_val hA6 rfl (ev_assign (hA6.ev (i := 9) (v := .int .i64 (n.tmod m))) _ rfl) ?_
  intro a7 hA7; clear hA6
  refine sx_nil ?_
  refine then_n ?_
  refine wp_seq ?_
  refine wp_seq ?_
  refine wp_region_lit ?_
  refine sx_val hA7 rfl (ev_move (hA7.ev (i := 0) (v := .int .i64 (n.tmod m))) _ rfl) ?_
  intro a8 hA8; clear hA7
  cases hd9 : decide ((n.tmod m) < 0)
  · have hp9 := of_decide_eq_false hd9
    refine sx_val (v := .bool false) hA8 rfl (ev_lssB (k := .i64) (m := (n.tmod m)) (n := 0) (hA8.ev (i := 10)) (ec _ (.int .i64 0)) hd9 _ rfl) ?_
    intro a10 hA10; clear hA8
    refine sx_nil ?_
    refine then_n ?_
    refine wp_cond_false (hA10.ev (i := 11) (v := .bool false)) ?_
    refine wp_skip ?_
    refine then_n ?_
    refine wp_seq ?_
    refine wp_region_lit ?_
    refine sx_val hA10 rfl (ev_move (hA10.ev (i := 0) (v := .int .i64 (n.tmod m))) _ rfl) ?_
    intro a11 hA11; clear hA10
    refine sx_val hA11 rfl (ev_assign (hA11.ev (i := 15) (v := .int .i64 (n.tmod m))) _ rfl) ?_
    intro a12 hA12; clear hA11
    refine sx_nil ?_
    refine then_n ?_
    refine wp_ret ?_
    refine bodyPost_ret (rs_t (v := .int .i64 (n.tmod m)) Try.results35 hA12 (by kernel_rfl) ) hA12.2.1 ?_
    have E : (n.tmod m) = n % m := mod_of_pos n m hm (by omega)
    exact ⟨by rw [← E], hbel0⟩
  have hp9 := of_decide_eq_true hd9
  refine sx_val (v := .bool true) hA8 rfl (ev_lssB (k := .i64) (m := (n.tmod m)) (n := 0) (hA8.ev (i := 10)) (ec _ (.int .i64 0)) hd9 _ rfl) ?_
  intro a13 hA13; clear hA8
  refine sx_nil ?_
  refine then_n ?_
  refine wp_cond_true (hA13.ev (i := 11) (v := .bool true)) ?_
  refine wp_region_lit ?_
  refine sx_val hA13 rfl (ev_move (hA13.ev (i := 0) (v := .int .i64 (n.tmod m))) _ rfl) ?_
  intro a14 hA14; clear hA13
  refine sx_val hA14 rfl (ev_move (hA14.ev (i := 1) (v := .int .i64 m)) _ rfl) ?_
  intro a15 hA15; clear hA14
  refine sx_val (v := .int .i64 ((n.tmod m) + m)) hA15 rfl (ev_addR (k := .i64) (m := (n.tmod m)) (n := m) (r := (n.tmod m) + m) (hA15.ev (i := 12)) (hA15.ev (i := 13)) (wr (by omega) (by omega) (by omega)) _ rfl) ?_
  intro a16 hA16; clear hA15
  refine sx_val hA16 rfl (ev_assign (hA16.ev (i := 14) (v := .int .i64 ((n.tmod m) + m))) _ rfl) ?_
  intro a17 hA17; clear hA16
  refine sx_nil ?_
  refine then_n ?_
  refine wp_seq ?_
  refine wp_region_lit ?_
  refine sx_val hA17 rfl (ev_move (hA17.ev (i := 0) (v := .int .i64 ((n.tmod m) + m))) _ rfl) ?_
  intro a18 hA18; clear hA17
  refine sx_val hA18 rfl (ev_assign (hA18.ev (i := 15) (v := .int .i64 ((n.tmod m) + m))) _ rfl) ?_
  intro a19 hA19; clear hA18
  refine sx_nil ?_
  refine then_n ?_
  refine wp_ret ?_
  refine bodyPost_ret (rs_t (v := .int .i64 ((n.tmod m) + m)) Try.results35 hA19 (by kernel_rfl) ) hA19.2.1 ?_
  have E : (n.tmod m) + m = n % m := mod_of_neg n m hm hp9
  exact ⟨by rw [← E], hbel0⟩

/-- The errors that a device without error answers with. -/
theorem sub_err {d : Dk} (h : OkD d) {x : Jb} (hr : inR d.cs.length x.slot x.frame = true) : (sub d x).2 = 0 ∨ (sub d x).2 = 10 ∨ (sub d x).2 = 5 := by
  unfold sub
  rw [if_pos (by rw [chk_of h]), if_neg (by rw [hr]; decide)]
  split
  · exact .inr (.inl rfl)
  · split
    · exact .inr (.inr rfl)
    · exact .inl rfl
theorem cmp_err {d : Dk} (h : OkD d) (i : Int) : (cmp d i).2.2 = 0 ∨ (cmp d i).2.2 = 6 := by
  unfold cmp
  rw [if_pos (by rw [chk_of h])]
  split
  · exact .inr rfl
  · exact .inl rfl
theorem cmp_ok0 {d : Dk} (h : OkD d) {i : Int} (h2 : (cmp d i).2.2 = 0) : OkD (cmp d i).1 ∧ (cmp d i).1.cs.length = d.cs.length ∧ (cmp d i).1.room = d.room ∧ (∀ x ∈ (cmp d i).1.js, x ∈ d.js) := by
  unfold cmp at h2 ⊢
  rw [if_pos (by rw [chk_of h])] at h2 ⊢
  split at h2
  · simp at h2
  · rename_i hi
    rw [if_neg hi]
    refine ⟨com_ok h (by omega), com_len _ _, com_room _ _, ?_⟩
    intro x hx
    rw [com_js d _ (by omega)] at hx
    exact (List.eraseIdx_sublist _ _).subset hx
/-- A device of 8 slots with room for 6. -/
structure D86 (d : Dk) : Prop where
  ok : OkD d
  n : d.cs.length = 8
  r : d.room = 6
  fr : ∀ x ∈ d.js, x.frame < 20
theorem D86.jl {d : Dk} (h : D86 d) : d.js.length ≤ 6 := by
  have := h.ok.fit
  have := h.r
  omega
theorem D86.sub {d : Dk} {x : Jb} (h : D86 d) (hc : clean x = true) (hf : x.frame < 20) (h2 : (sub d x).2 = 0) : D86 (sub d x).1 := by
  obtain ⟨h1, h3, h4, -⟩ := sub_ok hc h2
  refine ⟨h1, by rw [h4]; exact h.n, by rw [h4]; exact h.r, ?_⟩
  rw [h4]
  intro y hy
  rcases List.mem_append.1 hy with hy | hy
  · exact h.fr y hy
  · simp at hy; subst hy; exact hf
theorem D86.cmp {d : Dk} {i : Int} (h : D86 d) (h2 : (cmp d i).2.2 = 0) : D86 (cmp d i).1 := by
  obtain ⟨h1, h3, h4, h5⟩ := cmp_ok0 h.ok h2
  exact ⟨h1, by rw [h3]; exact h.n, by rw [h4]; exact h.r, fun x hx => h.fr x (h5 x hx)⟩
theorem D86.rng {d : Dk} (h : D86 d) {b : Bool} {c : Ct} {s f : Int} (h0 : 0 ≤ s) (h1 : s < 8) (h2 : 0 ≤ f) (h3 : f < 256) : inR d.cs.length (⟨b, s, f, c⟩ : Jb).slot (⟨b, s, f, c⟩ : Jb).frame = true := by
  have := h.n
  simp [inR, h0, h2, h3]
  omega
theorem new86 : D86 (nw 8 6).1 := ⟨nw_ok rfl, rfl, rfl, fun x hx => by cases hx⟩
def RetMd (w : World) (e : Ending) (w' : World) : Prop :=
  ∃ d A1 c1 A2 c2, e = .returned (.tuple #[.agg #[.slice A1 d.cs.length c1, .slice A2 d.js.length c2, .int .i64 d.room], .bool true]) ∧ D86 d ∧ Own w' w.heap.size 28 8 (.slice A1 d.cs.length c1) d.cs.length (flat Ct.va d.cs) ∧ Own w' w.heap.size 38 11 (.slice A2 d.js.length c2) d.js.length (flat Jb.va d.js) ∧ Below w.heap.size w w'

set_option maxHeartbeats 16000000 in
theorem made_any (A : Option Addr) (c : Nat) (xs : List Int) (w : World) (hx : GR 1 iva w A c xs) : Calls Try.prog 34 #[.slice A xs.length c] w (RetMd w) := by
  have hxl := hx.len
  have hbel0 := below0 w
  refine sx_enter (N := 84) [(0, .slice A xs.length c)] Try.func34 rfl Try.ntmps34 (by simp) (fun a z d s => ((Ag.nil z d).cons (s 0 _ rfl))) ?_
  intro a0 hA0
  refine wp_seq ?_
  refine wp_region_lit ?_
  refine sx_new (cs := #[.slice none 0 0, .slice none 0 0, .int .i64 0]) (t := 25) hA0 rfl (by decide) (.inl rfl) (ev_alloc (z := .agg (#[.slice none 0 0, .slice none 0 0, .int .i64 0])) (by kernel_rfl) (by kernel_rfl) _ rfl) ?_
  intro B1 w1 a1 hB1 hx1 hg1 hA1
  clear hA0
  have hs1 := hg1.size
  have hl1 := hx1.lt
  refine sx_val hA1 rfl (ev_assign (ec _ (.bool false)) _ rfl) ?_
  intro a2 hA2; clear hA1
  refine sx_nil ?_
  refine then_n ?_
  refine wp_seq ?_
  refine wp_region_lit ?_
  refine sx_call (f := 22) (args := #[.int .i64 8, .int .i64 6]) hA2 rfl (by decide) (.inl rfl) (ev_fn rfl (mp2 (ec _ (.int .i64 8)) (ec _ (.int .i64 6))) (by kernel_rfl) _ rfl) (New_any 8 6 _) ?_
  intro e3 w3 hR3
  obtain ⟨Ap3, cp3, Aj3, cj3, rfl, hC3, hJ3, hb3⟩ := hR3
  refine ⟨_, rfl, ?_⟩
  intro a3 hA3
  clear hA2
  have hg3 := g0 hb3
  have hs3 := hg3.size
  clear hb3
  have ho3_0 : Own w3 (w1.heap.size) 28 8 (.slice Ap3 (nw 8 6).1.cs.length cp3) (nw 8 6).1.cs.length (flat Ct.va (nw 8 6).1.cs) := hC3.2
  have hh3_0 := Own.hi ho3_0
  have ho3_1 : Own w3 (w1.heap.size) 38 11 (.slice Aj3 (nw 8 6).1.js.length cj3) (nw 8 6).1.js.length (flat Jb.va (nw 8 6).1.js) := hJ3.2
  have hh3_1 := Own.hi ho3_1
  refine sx_val hA3 rfl (ev_move (hA3.ev (i := 11) (v := .tuple #[.agg #[.slice Ap3 (nw 8 6).1.cs.length cp3, .slice Aj3 (nw 8 6).1.js.length cj3, .int .i64 (nw 8 6).1.room], .int .i64 (nw 8 6).2])) _ rfl) ?_
  intro a4 hA4; clear hA3
  refine sx_val (v := .agg #[.slice Ap3 (nw 8 6).1.cs.length cp3, .slice Aj3 (nw 8 6).1.js.length cj3, .int .i64 (nw 8 6).1.room]) hA4 rfl (ev_ext (hA4.ev (i := 10) (v := .tuple #[.agg #[.slice Ap3 (nw 8 6).1.cs.length cp3, .slice Aj3 (nw 8 6).1.js.length cj3, .int .i64 (nw 8 6).1.room], .int .i64 (nw 8 6).2])) rfl _ rfl) ?_
  intro a5 hA5; clear hA4
  refine sx_val (v := .int .i64 (nw 8 6).2) hA5 rfl (ev_ext (hA5.ev (i := 10) (v := .tuple #[.agg #[.slice Ap3 (nw 8 6).1.cs.length cp3, .slice Aj3 (nw 8 6).1.js.length cj3, .int .i64 (nw 8 6).1.room], .int .i64 (nw 8 6).2])) rfl _ rfl) ?_
  intro a6 hA6; clear hA5
  refine sx_new (cs := #[.slice none 0 0, .slice none 0 0, .int .i64 0]) (t := 25) hA6 rfl (by decide) (.inl rfl) (ev_alloc (z := .agg (#[.slice none 0 0, .slice none 0 0, .int .i64 0])) (by kernel_rfl) (by kernel_rfl) _ rfl) ?_
  intro B7 w7 a7 hB7 hx7 hg7 hA7
  clear hA6
  have hs7 := hg7.size
  have hl7 := hx7.lt
  refine sx_store hA7 rfl (.inl rfl) rfl (hA7.ev (i := 4) (v := .pointer (some ⟨B7, 0, none⟩))) (hA7.ev (i := 12) (v := .agg #[.slice Ap3 (nw 8 6).1.cs.length cp3, .slice Aj3 (nw 8 6).1.js.length cj3, .int .i64 (nw 8 6).1.room])) hx7 (by kernel_rfl) rfl (dk_one _ _ _ _ _ _ _) ?_
  intro w8 hx8 hg8
  have hs8 := hg8.size
  refine sx_val hA7 rfl (ev_assign (hA7.ev (i := 13) (v := .int .i64 (nw 8 6).2)) _ rfl) ?_
  intro a9 hA9; clear hA7
  refine sx_nil ?_
  refine then_n ?_
  refine wp_seq ?_
  refine wp_seq ?_
  refine wp_region_lit ?_
  refine sx_val hA9 rfl (ev_move (hA9.ev (i := 5) (v := .int .i64 (nw 8 6).2)) _ rfl) ?_
  intro a10 hA10; clear hA9
  cases hd11 : decide ((nw 8 6).2 = 0)
  · have hp11 := of_decide_eq_false hd11
    refine sx_val (v := .bool true) hA10 rfl (ev_neqB (k := .i64) (m := (nw 8 6).2) (n := 0) (hA10.ev (i := 14)) (ec _ (.int .i64 0)) (by simpa using hd11) _ rfl) ?_
    intro a12 hA12; clear hA10
    refine sx_nil ?_
    refine then_n ?_
    refine wp_cond_true (hA12.ev (i := 15) (v := .bool true)) ?_
    refine wp_seq ?_
    refine wp_region_lit ?_
    refine sx_val (v := .agg #[.slice Ap3 (nw 8 6).1.cs.length cp3, .slice Aj3 (nw 8 6).1.js.length cj3, .int .i64 (nw 8 6).1.room]) hA12 rfl (ev_row (hA12.ev (i := 4) (v := .pointer (some ⟨B7, 0, none⟩))) hx8 Try.underlying25 rfl (n := 3) (by kernel_rfl) rfl _ rfl) ?_
    intro a13 hA13; clear hA12
    have hx1_15 := hx1.gN hg3
    have hx1_16 := hx1_15.gN hg7
    have hx1_17 := hx1_16.gB hg8 (by omega)
    refine sx_store hA13 rfl (.inl rfl) rfl (hA13.ev (i := 2) (v := .pointer (some ⟨B1, 0, none⟩))) (hA13.ev (i := 16) (v := .agg #[.slice Ap3 (nw 8 6).1.cs.length cp3, .slice Aj3 (nw 8 6).1.js.length cj3, .int .i64 (nw 8 6).1.room])) hx1_17 (by kernel_rfl) rfl (dk_one _ _ _ _ _ _ _) ?_
    intro w14 hx14 hg14
    have hs14 := hg14.size
    refine sx_val hA13 rfl (ev_assign (ec _ (.bool false)) _ rfl) ?_
    intro a18 hA18; clear hA13
    refine sx_nil ?_
    refine then_n ?_
    refine wp_ret ?_
    refine then_r ?_
    refine bodyPost_ret (rs_ct (v := .bool false) Try.results34 hA18 (by kernel_rfl) (by kernel_rfl) hx14 Try.underlying25 rfl (by kernel_rfl)) hA18.2.1 ?_
    have hbel0_19 := Below.gN hbel0 hg1 hbel0.size
    have hbel0_20 := Below.gN hbel0_19 hg3 hbel0_19.size
    have hbel0_21 := Below.gN hbel0_20 hg7 hbel0_20.size
    have hbel0_22 := Below.gB hbel0_21 hg8 hbel0_21.size (by omega)
    have hbel0_23 := Below.gB hbel0_22 hg14 hbel0_22.size (by omega)
    exact absurd (show (nw 8 6).2 = 0 from rfl) hp11
  have hp11 := of_decide_eq_true hd11
  refine sx_val (v := .bool false) hA10 rfl (ev_neqB (k := .i64) (m := (nw 8 6).2) (n := 0) (hA10.ev (i := 14)) (ec _ (.int .i64 0)) (by simpa using hd11) _ rfl) ?_
  intro a24 hA24; clear hA10
  refine sx_nil ?_
  refine then_n ?_
  refine wp_cond_false (hA24.ev (i := 15) (v := .bool false)) ?_
  refine wp_skip ?_
  refine then_n ?_
  refine wp_seq ?_
  refine wp_seq ?_
  refine wp_region_lit ?_
  refine sx_val hA24 rfl (ev_assign (ec _ (.int .i64 0)) _ rfl) ?_
  intro a25 hA25; clear hA24
  refine sx_nil ?_
  refine then_n ?_
  refine wp_block ?_
  have ho3_27 := Own.gN ho3_0 hg7
  have ho3_28 := Own.gBT ho3_27 hg8 hx7 (by decide)
  have ho3_29 := Own.gN ho3_1 hg7
  have ho3_30 := Own.gBT ho3_29 hg8 hx7 (by decide)
  have hx1_31 := hx1.gN hg3
  have hx1_32 := hx1_31.gN hg7
  have hx1_33 := hx1_32.gB hg8 (by omega)
  have hbel0_34 := Below.gN hbel0 hg1 hbel0.size
  have hbel0_35 := Below.gN hbel0_34 hg3 hbel0_34.size
  have hbel0_36 := Below.gN hbel0_35 hg7 hbel0_35.size
  have hbel0_37 := Below.gB hbel0_36 hg8 hbel0_36.size (by omega)
  refine wp_loop_ghost (fun n a wl => ∃ (k : Nat) (d : Dk) (A1g : Option Addr) (c1g : Nat) (A2g : Option Addr) (c2g : Nat), n = xs.length - k ∧ Ag a 84 [(0, .slice A xs.length c), (2, .pointer (some ⟨B1, 0, none⟩)), (4, .pointer (some ⟨B7, 0, none⟩)), (6, .int .i64 (k : Int))] ∧ k ≤ xs.length ∧ D86 d ∧ Bx wl B1 25 #[.slice none 0 0, .slice none 0 0, .int .i64 0] ∧ Bx wl B7 25 #[.slice A1g d.cs.length c1g, .slice A2g d.js.length c2g, .int .i64 d.room] ∧ Own wl (w1.heap.size) 28 8 (.slice A1g d.cs.length c1g) d.cs.length (flat Ct.va d.cs) ∧ Own wl (w1.heap.size) 38 11 (.slice A2g d.js.length c2g) d.js.length (flat Jb.va d.js) ∧ w8.heap.size ≤ wl.heap.size ∧ Below w.heap.size w wl) (xs.length - 0) ⟨0, (nw 8 6).1, Ap3, cp3, Aj3, cj3, rfl, (((((Ag.nil hA25.1 hA25.2.1).cons (hA25.get (i := 6) (v := .int .i64 0))).cons (hA25.get (i := 4) (v := .pointer (some ⟨B7, 0, none⟩)))).cons (hA25.get (i := 2) (v := .pointer (some ⟨B1, 0, none⟩)))).cons (hA25.get (i := 0) (v := .slice A xs.length c))), Nat.zero_le _, new86, hx1_33, hx8, ho3_28, ho3_30, Nat.le_refl _, hbel0_37⟩ ?_
  intro n26 a26 w26 hI26
  obtain ⟨k, d, A1g, c1g, A2g, c2g, hn26, hA26, q26_0, q26_1, f26_0, f26_1, f26_2, f26_3, hsz26, hbel26⟩ := hI26
  subst hn26
  clear hA25
  have hlB1_26 := f26_0.lt
  have hlB7_26 := f26_1.lt
  have hhA1g_26 := Own.hi f26_2
  have hhA2g_26 := Own.hi f26_3
  cases hd38 : decide ((k : Int) < (xs.length : Int))
  · have hp38 := of_decide_eq_false hd38
    have hn8 := (q26_1).n
    have hr6 := (q26_1).r
    have hj6 := D86.jl q26_1
    refine wp_seq ?_
    refine wp_seq ?_
    refine wp_region_lit ?_
    refine sx_val hA26 rfl (ev_move (hA26.ev (i := 6) (v := .int .i64 (k : Int))) _ rfl) ?_
    intro a39 hA39; clear hA26
    refine sx_val hA39 rfl (ev_move (hA39.ev (i := 0) (v := .slice A xs.length c)) _ rfl) ?_
    intro a40 hA40; clear hA39
    refine sx_val (v := .int .i64 (xs.length : Int)) hA40 rfl (ev_len (hA40.ev (i := 18) (v := .slice A xs.length c)) Try.underlying57 _ rfl) ?_
    intro a41 hA41; clear hA40
    refine sx_val (v := .bool false) hA41 rfl (ev_lssB (k := .i64) (m := (k : Int)) (n := (xs.length : Int)) (hA41.ev (i := 17)) (hA41.ev (i := 19)) hd38 _ rfl) ?_
    intro a42 hA42; clear hA41
    refine sx_val hA42 rfl (ev_move (hA42.ev (i := 20) (v := .bool false)) _ rfl) ?_
    intro a43 hA43; clear hA42
    refine sx_no (j := 4) (s := 21) (want := true) (b := false) hA43 rfl ?_
    intro a44 hA44; clear hA43
    refine sx_no (j := 4) (s := 21) (want := true) (b := false) hA44 rfl ?_
    intro a45 hA45; clear hA44
    refine sx_val hA45 rfl (ev_pickF (hA45.ev (i := 21) (v := .bool false)) (ec _ (.bool false)) _ rfl) ?_
    intro a46 hA46; clear hA45
    refine sx_nil ?_
    refine then_n ?_
    refine wp_cond_false (hA46.ev (i := 24) (v := .bool false)) ?_
    refine wp_exit ?_
    refine then_x ?_
    refine then_x ?_
    refine blk_hit ?_
    refine then_n ?_
    refine wp_seq ?_
    refine wp_region_lit ?_
    refine sx_val (v := .agg #[.slice A1g d.cs.length c1g, .slice A2g d.js.length c2g, .int .i64 d.room]) hA46 rfl (ev_row (hA46.ev (i := 4) (v := .pointer (some ⟨B7, 0, none⟩))) f26_1 Try.underlying25 rfl (n := 3) (by kernel_rfl) rfl _ rfl) ?_
    intro a47 hA47; clear hA46
    refine sx_store hA47 rfl (.inl rfl) rfl (hA47.ev (i := 2) (v := .pointer (some ⟨B1, 0, none⟩))) (hA47.ev (i := 83) (v := .agg #[.slice A1g d.cs.length c1g, .slice A2g d.js.length c2g, .int .i64 d.room])) f26_0 (by kernel_rfl) rfl (dk_one _ _ _ _ _ _ _) ?_
    intro w48 hx48 hg48
    have hs48 := hg48.size
    refine sx_val hA47 rfl (ev_assign (ec _ (.bool true)) _ rfl) ?_
    intro a49 hA49; clear hA47
    refine sx_nil ?_
    refine then_n ?_
    refine wp_ret ?_
    refine bodyPost_ret (rs_ct (v := .bool true) Try.results34 hA49 (by kernel_rfl) (by kernel_rfl) hx48 Try.underlying25 rfl (by kernel_rfl)) hA49.2.1 ?_
    have hbel26_50 := Below.gB hbel26 hg48 hbel26.size (by omega)
    have f26_51 := Own.gBT f26_2 hg48 f26_0 (by decide)
    have f26_52 := Own.gBT f26_3 hg48 f26_0 (by decide)
    exact ⟨d, _, _, _, _, rfl, q26_1, Own.mono f26_51 (by omega), Own.mono f26_52 (by omega), hbel26_50⟩
  have hp38 := of_decide_eq_true hd38
  obtain ⟨z, hz⟩ : ∃ z, xs[k]? = some z := ⟨_, List.getElem?_eq_getElem (by omega)⟩
  have hn8 := (q26_1).n
  have hr6 := (q26_1).r
  have hj6 := D86.jl q26_1
  refine wp_seq ?_
  refine wp_seq ?_
  refine wp_region_lit ?_
  refine sx_val hA26 rfl (ev_move (hA26.ev (i := 6) (v := .int .i64 (k : Int))) _ rfl) ?_
  intro a53 hA53; clear hA26
  refine sx_val hA53 rfl (ev_move (hA53.ev (i := 0) (v := .slice A xs.length c)) _ rfl) ?_
  intro a54 hA54; clear hA53
  refine sx_val (v := .int .i64 (xs.length : Int)) hA54 rfl (ev_len (hA54.ev (i := 18) (v := .slice A xs.length c)) Try.underlying57 _ rfl) ?_
  intro a55 hA55; clear hA54
  refine sx_val (v := .bool true) hA55 rfl (ev_lssB (k := .i64) (m := (k : Int)) (n := (xs.length : Int)) (hA55.ev (i := 17)) (hA55.ev (i := 19)) hd38 _ rfl) ?_
  intro a56 hA56; clear hA55
  refine sx_val hA56 rfl (ev_move (hA56.ev (i := 20) (v := .bool true)) _ rfl) ?_
  intro a57 hA57; clear hA56
  refine sx_val (hg := (.inr ⟨4, true, 21, rfl, rfl, by kernel_rfl⟩)) hA57 rfl (ev_move (hA57.ev (i := 6) (v := .int .i64 (k : Int))) _ rfl) ?_
  intro a58 hA58; clear hA57
  cases hd59 : decide ((k : Int) < 30)
  · have hp59 := of_decide_eq_false hd59
    refine sx_val (hg := (.inr ⟨4, true, 21, rfl, rfl, by kernel_rfl⟩)) (v := .bool false) hA58 rfl (ev_lssB (k := .i64) (m := (k : Int)) (n := 30) (hA58.ev (i := 22)) (ec _ (.int .i64 30)) hd59 _ rfl) ?_
    intro a60 hA60; clear hA58
    refine sx_val hA60 rfl (ev_pickT (hA60.ev (i := 21) (v := .bool true)) (hA60.ev (i := 23) (v := .bool false)) _ rfl) ?_
    intro a61 hA61; clear hA60
    refine sx_nil ?_
    refine then_n ?_
    refine wp_cond_false (hA61.ev (i := 24) (v := .bool false)) ?_
    refine wp_exit ?_
    refine then_x ?_
    refine then_x ?_
    refine blk_hit ?_
    refine then_n ?_
    refine wp_seq ?_
    refine wp_region_lit ?_
    refine sx_val (v := .agg #[.slice A1g d.cs.length c1g, .slice A2g d.js.length c2g, .int .i64 d.room]) hA61 rfl (ev_row (hA61.ev (i := 4) (v := .pointer (some ⟨B7, 0, none⟩))) f26_1 Try.underlying25 rfl (n := 3) (by kernel_rfl) rfl _ rfl) ?_
    intro a62 hA62; clear hA61
    refine sx_store hA62 rfl (.inl rfl) rfl (hA62.ev (i := 2) (v := .pointer (some ⟨B1, 0, none⟩))) (hA62.ev (i := 83) (v := .agg #[.slice A1g d.cs.length c1g, .slice A2g d.js.length c2g, .int .i64 d.room])) f26_0 (by kernel_rfl) rfl (dk_one _ _ _ _ _ _ _) ?_
    intro w63 hx63 hg63
    have hs63 := hg63.size
    refine sx_val hA62 rfl (ev_assign (ec _ (.bool true)) _ rfl) ?_
    intro a64 hA64; clear hA62
    refine sx_nil ?_
    refine then_n ?_
    refine wp_ret ?_
    refine bodyPost_ret (rs_ct (v := .bool true) Try.results34 hA64 (by kernel_rfl) (by kernel_rfl) hx63 Try.underlying25 rfl (by kernel_rfl)) hA64.2.1 ?_
    have hbel26_65 := Below.gB hbel26 hg63 hbel26.size (by omega)
    have f26_66 := Own.gBT f26_2 hg63 f26_0 (by decide)
    have f26_67 := Own.gBT f26_3 hg63 f26_0 (by decide)
    exact ⟨d, _, _, _, _, rfl, q26_1, Own.mono f26_66 (by omega), Own.mono f26_67 (by omega), hbel26_65⟩
  have hp59 := of_decide_eq_true hd59
  refine sx_val (hg := (.inr ⟨4, true, 21, rfl, rfl, by kernel_rfl⟩)) (v := .bool true) hA58 rfl (ev_lssB (k := .i64) (m := (k : Int)) (n := 30) (hA58.ev (i := 22)) (ec _ (.int .i64 30)) hd59 _ rfl) ?_
  intro a68 hA68; clear hA58
  refine sx_val hA68 rfl (ev_pickT (hA68.ev (i := 21) (v := .bool true)) (hA68.ev (i := 23) (v := .bool true)) _ rfl) ?_
  intro a69 hA69; clear hA68
  refine sx_nil ?_
  refine then_n ?_
  refine wp_cond_true (hA69.ev (i := 24) (v := .bool true)) ?_
  refine wp_skip ?_
  refine then_n ?_
  refine wp_seq ?_
  refine wp_block ?_
  refine wp_seq ?_
  refine wp_region_lit ?_
  refine sx_val hA69 rfl (ev_move (hA69.ev (i := 0) (v := .slice A xs.length c)) _ rfl) ?_
  intro a70 hA70; clear hA69
  refine sx_val hA70 rfl (ev_move (hA70.ev (i := 6) (v := .int .i64 (k : Int))) _ rfl) ?_
  intro a71 hA71; clear hA70
  obtain ⟨ad72, hAd72⟩ := GR.adr (hx.below hbel26) iva_sz hz
  refine sx_val (v := .pointer (some (ad72.add (k * 1)))) hA71 rfl (ev_idx (k := k) (hA71.ev (i := 27) (v := .slice A xs.length c)) hAd72 (hA71.ev (i := 28) (v := .int .i64 (k : Int))) rfl (by omega) Try.underlying57 (by kernel_rfl) _ rfl) ?_
  intro a73 hA73; clear hA71
  refine sx_val (v := .int .i64 z) hA73 rfl (ev_cell (hA73.ev (i := 29) (v := .pointer (some (ad72.add (k * 1))))) ((GR.cel (hx.below hbel26) hAd72 iva_sz hz) 0 _ rfl) Try.underlying3 rfl _ rfl) ?_
  intro a74 hA74; clear hA73
  refine sx_call (f := 35) (args := #[.int .i64 z, .int .i64 1048576]) hA74 rfl (by decide) (.inl rfl) (ev_fn rfl (mp2 (hA74.ev (i := 30) (v := .int .i64 z)) (ec _ (.int .i64 1048576))) (by kernel_rfl) _ rfl) (Mod_any z 1048576 _ (by omega) (by omega)) ?_
  intro e75 w75 hR75
  obtain ⟨rfl, hb75⟩ := hR75
  refine ⟨_, rfl, ?_⟩
  intro a75 hA75
  clear hA74
  have hg75 := g0 hb75
  have hs75 := hg75.size
  clear hb75
  refine sx_val hA75 rfl (ev_assign (hA75.ev (i := 31) (v := .int .i64 (z % 1048576))) _ rfl) ?_
  intro a76 hA76; clear hA75
  refine sx_nil ?_
  refine then_n ?_
  refine wp_seq ?_
  refine wp_region_lit ?_
  have f26_77 := f26_1.gN hg75
  refine sx_val (v := .agg #[.slice A1g d.cs.length c1g, .slice A2g d.js.length c2g, .int .i64 d.room]) hA76 rfl (ev_row (hA76.ev (i := 4) (v := .pointer (some ⟨B7, 0, none⟩))) f26_77 Try.underlying25 rfl (n := 3) (by kernel_rfl) rfl _ rfl) ?_
  intro a78 hA78; clear hA76
  refine sx_new (cs := #[.slice none 0 0, .slice none 0 0, .int .i64 0]) (t := 25) hA78 rfl (by decide) (.inl rfl) (ev_alloc (z := .agg (#[.slice none 0 0, .slice none 0 0, .int .i64 0])) (by kernel_rfl) (by kernel_rfl) _ rfl) ?_
  intro B79 w79 a79 hB79 hx79 hg79 hA79
  clear hA78
  have hs79 := hg79.size
  have hl79 := hx79.lt
  refine sx_store hA79 rfl (.inl rfl) rfl (hA79.ev (i := 8) (v := .pointer (some ⟨B79, 0, none⟩))) (hA79.ev (i := 32) (v := .agg #[.slice A1g d.cs.length c1g, .slice A2g d.js.length c2g, .int .i64 d.room])) hx79 (by kernel_rfl) rfl (dk_one _ _ _ _ _ _ _) ?_
  intro w80 hx80 hg80
  have hs80 := hg80.size
  refine sx_nil ?_
  refine then_n ?_
  refine wp_seq ?_
  refine wp_region_lit ?_
  refine sx_val hA79 rfl (ev_assign (ec _ (.int .i64 0)) _ rfl) ?_
  intro a81 hA81; clear hA79
  refine sx_nil ?_
  refine then_n ?_
  refine wp_seq ?_
  refine wp_seq ?_
  refine wp_region_lit ?_
  refine sx_val hA81 rfl (ev_move (hA81.ev (i := 7) (v := .int .i64 (z % 1048576))) _ rfl) ?_
  intro a82 hA82; clear hA81
  refine sx_val (v := .int .i64 ((z % 1048576) % 4)) hA82 rfl (ev_remR (k := .i64) (m := (z % 1048576)) (n := 4) (r := ((z % 1048576) % 4)) (hA82.ev (i := 33)) (ec _ (.int .i64 4)) (by decide) (rm (by omega)) _ rfl) ?_
  intro a83 hA83; clear hA82
  refine sx_nil ?_
  refine then_n ?_
  refine wp_block ?_
  refine wp_seq ?_
  refine wp_seq ?_
  refine wp_region_lit ?_
  cases hd84 : decide (((z % 1048576) % 4) = 0)
  rotate_left
  · have hp84 := of_decide_eq_true hd84
    refine sx_val (v := .bool true) hA83 rfl (ev_eqlB (k := .i64) (m := ((z % 1048576) % 4)) (n := 0) (hA83.ev (i := 34)) (ec _ (.int .i64 0)) hd84 _ rfl) ?_
    intro a431 hA431; clear hA83
    refine sx_val hA431 rfl (ev_assign (hA431.ev (i := 45) (v := .bool true)) _ rfl) ?_
    intro a432 hA432; clear hA431
    refine sx_nil ?_
    refine then_n ?_
    refine wp_cond_true (hA432.ev (i := 44) (v := .bool true)) ?_
    refine wp_skip ?_
    refine then_n ?_
    refine wp_cond_true (hA432.ev (i := 44) (v := .bool true)) ?_
    have f26_433 := f26_0.gN hg75
    have f26_434 := f26_433.gN hg79
    have f26_435 := f26_434.gB hg80 (by omega)
    have f26_436 := f26_77.gN hg79
    have f26_437 := f26_436.gB hg80 (by omega)
    have f26_438 := Own.gN f26_2 hg75
    have f26_439 := Own.gN f26_438 hg79
    have f26_440 := Own.gBT f26_439 hg80 hx79 (by decide)
    have f26_441 := Own.gN f26_3 hg75
    have f26_442 := Own.gN f26_441 hg79
    have f26_443 := Own.gBT f26_442 hg80 hx79 (by decide)
    have hbel26_444 := Below.gN hbel26 hg75 hbel26.size
    have hbel26_445 := Below.gN hbel26_444 hg79 hbel26_444.size
    have hbel26_446 := Below.gB hbel26_445 hg80 hbel26_445.size (by omega)
    refine region_D (n := 16) (by kernel_rfl) (by kernel_rfl) rfl (fun L ac wc => ∃ Ap10r14 : Option Addr, ∃ cp10r14 : Nat, ∃ Aj10r14 : Option Addr, ∃ cj10r14 : Nat, Below w.heap.size w wc ∧ w80.heap.size ≤ wc.heap.size ∧ Bx wc B1 25 (#[.slice none 0 0, .slice none 0 0, .int .i64 0]) ∧ Bx wc B7 25 (#[.slice A1g d.cs.length c1g, .slice A2g d.js.length c2g, .int .i64 d.room]) ∧ Bx wc B79 25 (bif L 14 then (#[.slice Ap10r14 (sub d ⟨true, (((z % 1048576) / 4) % 8), (((z % 1048576) / 32) % 20), (wd (z % 1048576))⟩).1.cs.length cp10r14, .slice Aj10r14 (sub d ⟨true, (((z % 1048576) / 4) % 8), (((z % 1048576) / 32) % 20), (wd (z % 1048576))⟩).1.js.length cj10r14, .int .i64 (sub d ⟨true, (((z % 1048576) / 4) % 8), (((z % 1048576) / 32) % 20), (wd (z % 1048576))⟩).1.room]) else (#[.slice A1g d.cs.length c1g, .slice A2g d.js.length c2g, .int .i64 d.room])) ∧ Own wc (w1.heap.size) 28 8 (.slice A1g d.cs.length c1g) d.cs.length (flat Ct.va d.cs) ∧ Own wc (w1.heap.size) 38 11 (.slice A2g d.js.length c2g) d.js.length (flat Jb.va d.js) ∧ (L 10 = true → Own wc w80.heap.size 28 8 (.slice Ap10r14 (sub d ⟨true, (((z % 1048576) / 4) % 8), (((z % 1048576) / 32) % 20), (wd (z % 1048576))⟩).1.cs.length cp10r14) (sub d ⟨true, (((z % 1048576) / 4) % 8), (((z % 1048576) / 32) % 20), (wd (z % 1048576))⟩).1.cs.length (flat Ct.va (sub d ⟨true, (((z % 1048576) / 4) % 8), (((z % 1048576) / 32) % 20), (wd (z % 1048576))⟩).1.cs)) ∧ (L 10 = true → Own wc w80.heap.size 38 11 (.slice Aj10r14 (sub d ⟨true, (((z % 1048576) / 4) % 8), (((z % 1048576) / 32) % 20), (wd (z % 1048576))⟩).1.js.length cj10r14) (sub d ⟨true, (((z % 1048576) / 4) % 8), (((z % 1048576) / 32) % 20), (wd (z % 1048576))⟩).1.js.length (flat Jb.va (sub d ⟨true, (((z % 1048576) / 4) % 8), (((z % 1048576) / 32) % 20), (wd (z % 1048576))⟩).1.js)) ∧ (L 11 = true → L 10 = true) ∧ (L 12 = true → L 10 = true) ∧ (L 14 = true → L 10 = true) ∧ (L 0 = true → Sv ac 48 (.agg #[.slice A1g d.cs.length c1g, .slice A2g d.js.length c2g, .int .i64 d.room])) ∧ (L 1 = true → Sv ac 49 (.int .i64 (z % 1048576))) ∧ (L 2 = true → Sv ac 50 (.int .i64 ((z % 1048576) / 4))) ∧ (L 3 = true → Sv ac 51 (.int .i64 (((z % 1048576) / 4) % 8))) ∧ (L 4 = true → Sv ac 52 (.int .i64 (z % 1048576))) ∧ (L 5 = true → Sv ac 53 (.int .i64 ((z % 1048576) / 32))) ∧ (L 6 = true → Sv ac 54 (.int .i64 (((z % 1048576) / 32) % 20))) ∧ (L 7 = true → Sv ac 55 (.int .i64 (z % 1048576))) ∧ (L 8 = true → Sv ac 56 (.int .u64 (z % 1048576))) ∧ (L 9 = true → Sv ac 57 (.agg (wd (z % 1048576)).va)) ∧ (L 10 = true → Sv ac 58 (.tuple #[.agg #[.slice Ap10r14 (sub d ⟨true, (((z % 1048576) / 4) % 8), (((z % 1048576) / 32) % 20), (wd (z % 1048576))⟩).1.cs.length cp10r14, .slice Aj10r14 (sub d ⟨true, (((z % 1048576) / 4) % 8), (((z % 1048576) / 32) % 20), (wd (z % 1048576))⟩).1.js.length cj10r14, .int .i64 (sub d ⟨true, (((z % 1048576) / 4) % 8), (((z % 1048576) / 32) % 20), (wd (z % 1048576))⟩).1.room], .int .i64 (sub d ⟨true, (((z % 1048576) / 4) % 8), (((z % 1048576) / 32) % 20), (wd (z % 1048576))⟩).2])) ∧ (L 11 = true → Sv ac 47 (.tuple #[.agg #[.slice Ap10r14 (sub d ⟨true, (((z % 1048576) / 4) % 8), (((z % 1048576) / 32) % 20), (wd (z % 1048576))⟩).1.cs.length cp10r14, .slice Aj10r14 (sub d ⟨true, (((z % 1048576) / 4) % 8), (((z % 1048576) / 32) % 20), (wd (z % 1048576))⟩).1.js.length cj10r14, .int .i64 (sub d ⟨true, (((z % 1048576) / 4) % 8), (((z % 1048576) / 32) % 20), (wd (z % 1048576))⟩).1.room], .int .i64 (sub d ⟨true, (((z % 1048576) / 4) % 8), (((z % 1048576) / 32) % 20), (wd (z % 1048576))⟩).2])) ∧ (L 12 = true → Sv ac 59 (.agg #[.slice Ap10r14 (sub d ⟨true, (((z % 1048576) / 4) % 8), (((z % 1048576) / 32) % 20), (wd (z % 1048576))⟩).1.cs.length cp10r14, .slice Aj10r14 (sub d ⟨true, (((z % 1048576) / 4) % 8), (((z % 1048576) / 32) % 20), (wd (z % 1048576))⟩).1.js.length cj10r14, .int .i64 (sub d ⟨true, (((z % 1048576) / 4) % 8), (((z % 1048576) / 32) % 20), (wd (z % 1048576))⟩).1.room])) ∧ (L 13 = true → Sv ac 60 (.int .i64 (sub d ⟨true, (((z % 1048576) / 4) % 8), (((z % 1048576) / 32) % 20), (wd (z % 1048576))⟩).2)) ∧ (L 15 = true → Sv ac 9 (.int .i64 (sub d ⟨true, (((z % 1048576) / 4) % 8), (((z % 1048576) / 32) % 20), (wd (z % 1048576))⟩).2))) ⟨none, 0, none, 0, (Below.gN hbel26_446 (gdr _) hbel26_446.size), (Nat.le_refl _), (f26_435.gN (gdr _)), (f26_437.gN (gdr _)), (hx80.gN (gdr _)), (Own.gN f26_440 (gdr _)), (Own.gN f26_443 (gdr _)), (fun h => by cases h), (fun h => by cases h), (fun h => by cases h), (fun h => by cases h), (fun h => by cases h), (fun h => by cases h), (fun h => by cases h), (fun h => by cases h), (fun h => by cases h), (fun h => by cases h), (fun h => by cases h), (fun h => by cases h), (fun h => by cases h), (fun h => by cases h), (fun h => by cases h), (fun h => by cases h), (fun h => by cases h), (fun h => by cases h), (fun h => by cases h), (fun h => by cases h)⟩ ?_ ?_
    · intro iq hiq o ho L hL hdep ac wc hF hJ
      obtain ⟨Ap10r14, cp10r14, Aj10r14, cj10r14, bl, sz, b_B1, b_B7, b_B79, p_0, p_1, o_10_0, o_10_1, cl_11_10, cl_12_10, cl_14_10, s_48, s_49, s_50, s_51, s_52, s_53, s_54, s_55, s_56, s_57, s_58, s_47, s_59, s_60, s_9⟩ := hJ
      have zq := hF.1.trans hA432.1
      match iq, hiq with
      | 0, _ =>
        obtain rfl := Option.some.inj (show some _ = some o from ho); clear ho
        have v4 := hF.sv (s := 4) (by kernel_rfl) (hA432.get (i := 4) (v := .pointer (some ⟨B7, 0, none⟩)))
        refine dj_val (i := 0) (v := .agg #[.slice A1g d.cs.length c1g, .slice A2g d.js.length c2g, .int .i64 d.room]) rfl (.inl rfl) (ev_row v4.eval b_B7 Try.underlying25 rfl (n := 3) (by kernel_rfl) rfl _ rfl) ?_
        exact ⟨⟨_, rfl⟩, Ap10r14, cp10r14, Aj10r14, cj10r14, bl, sz, b_B1, b_B7, b_B79, p_0, p_1, o_10_0, o_10_1, cl_11_10, cl_12_10, cl_14_10, (fun _ => Sv.self (by rw [zq]; decide) _), (so s_49), (so s_50), (so s_51), (so s_52), (so s_53), (so s_54), (so s_55), (so s_56), (so s_57), (so s_58), (so s_47), (so s_59), (so s_60), (so s_9)⟩
      | 1, _ =>
        obtain rfl := Option.some.inj (show some _ = some o from ho); clear ho
        have v7 := hF.sv (s := 7) (by kernel_rfl) (hA432.get (i := 7) (v := .int .i64 (z % 1048576)))
        refine dj_val (i := 1) (v := .int .i64 (z % 1048576)) rfl (.inl rfl) (ev_move v7.eval _ rfl) ?_
        exact ⟨⟨_, rfl⟩, Ap10r14, cp10r14, Aj10r14, cj10r14, bl, sz, b_B1, b_B7, b_B79, p_0, p_1, o_10_0, o_10_1, cl_11_10, cl_12_10, cl_14_10, (so s_48), (fun _ => Sv.self (by rw [zq]; decide) _), (so s_50), (so s_51), (so s_52), (so s_53), (so s_54), (so s_55), (so s_56), (so s_57), (so s_58), (so s_47), (so s_59), (so s_60), (so s_9)⟩
      | 2, _ =>
        obtain rfl := Option.some.inj (show some _ = some o from ho); clear ho
        have v49 := s_49 (dp hdep 1)
        refine dj_val (i := 2) (v := .int .i64 ((z % 1048576) / 4)) rfl (.inl rfl) (ev_quoR (k := .i64) (m := (z % 1048576)) (n := 4) (r := ((z % 1048576) / 4)) v49.eval (ec ac (.int .i64 4)) (by decide) (qd (by omega) (by decide) (by omega)) _ rfl) ?_
        exact ⟨⟨_, rfl⟩, Ap10r14, cp10r14, Aj10r14, cj10r14, bl, sz, b_B1, b_B7, b_B79, p_0, p_1, o_10_0, o_10_1, cl_11_10, cl_12_10, cl_14_10, (so s_48), (so s_49), (fun _ => Sv.self (by rw [zq]; decide) _), (so s_51), (so s_52), (so s_53), (so s_54), (so s_55), (so s_56), (so s_57), (so s_58), (so s_47), (so s_59), (so s_60), (so s_9)⟩
      | 3, _ =>
        obtain rfl := Option.some.inj (show some _ = some o from ho); clear ho
        have v50 := s_50 (dp hdep 2)
        refine dj_val (i := 3) (v := .int .i64 (((z % 1048576) / 4) % 8)) rfl (.inl rfl) (ev_remR (k := .i64) (m := ((z % 1048576) / 4)) (n := 8) (r := (((z % 1048576) / 4) % 8)) v50.eval (ec ac (.int .i64 8)) (by decide) (rm (by omega)) _ rfl) ?_
        exact ⟨⟨_, rfl⟩, Ap10r14, cp10r14, Aj10r14, cj10r14, bl, sz, b_B1, b_B7, b_B79, p_0, p_1, o_10_0, o_10_1, cl_11_10, cl_12_10, cl_14_10, (so s_48), (so s_49), (so s_50), (fun _ => Sv.self (by rw [zq]; decide) _), (so s_52), (so s_53), (so s_54), (so s_55), (so s_56), (so s_57), (so s_58), (so s_47), (so s_59), (so s_60), (so s_9)⟩
      | 4, _ =>
        obtain rfl := Option.some.inj (show some _ = some o from ho); clear ho
        have v7 := hF.sv (s := 7) (by kernel_rfl) (hA432.get (i := 7) (v := .int .i64 (z % 1048576)))
        refine dj_val (i := 4) (v := .int .i64 (z % 1048576)) rfl (.inl rfl) (ev_move v7.eval _ rfl) ?_
        exact ⟨⟨_, rfl⟩, Ap10r14, cp10r14, Aj10r14, cj10r14, bl, sz, b_B1, b_B7, b_B79, p_0, p_1, o_10_0, o_10_1, cl_11_10, cl_12_10, cl_14_10, (so s_48), (so s_49), (so s_50), (so s_51), (fun _ => Sv.self (by rw [zq]; decide) _), (so s_53), (so s_54), (so s_55), (so s_56), (so s_57), (so s_58), (so s_47), (so s_59), (so s_60), (so s_9)⟩
      | 5, _ =>
        obtain rfl := Option.some.inj (show some _ = some o from ho); clear ho
        have v52 := s_52 (dp hdep 4)
        refine dj_val (i := 5) (v := .int .i64 ((z % 1048576) / 32)) rfl (.inl rfl) (ev_quoR (k := .i64) (m := (z % 1048576)) (n := 32) (r := ((z % 1048576) / 32)) v52.eval (ec ac (.int .i64 32)) (by decide) (qd (by omega) (by decide) (by omega)) _ rfl) ?_
        exact ⟨⟨_, rfl⟩, Ap10r14, cp10r14, Aj10r14, cj10r14, bl, sz, b_B1, b_B7, b_B79, p_0, p_1, o_10_0, o_10_1, cl_11_10, cl_12_10, cl_14_10, (so s_48), (so s_49), (so s_50), (so s_51), (so s_52), (fun _ => Sv.self (by rw [zq]; decide) _), (so s_54), (so s_55), (so s_56), (so s_57), (so s_58), (so s_47), (so s_59), (so s_60), (so s_9)⟩
      | 6, _ =>
        obtain rfl := Option.some.inj (show some _ = some o from ho); clear ho
        have v53 := s_53 (dp hdep 5)
        refine dj_val (i := 6) (v := .int .i64 (((z % 1048576) / 32) % 20)) rfl (.inl rfl) (ev_remR (k := .i64) (m := ((z % 1048576) / 32)) (n := 20) (r := (((z % 1048576) / 32) % 20)) v53.eval (ec ac (.int .i64 20)) (by decide) (rm (by omega)) _ rfl) ?_
        exact ⟨⟨_, rfl⟩, Ap10r14, cp10r14, Aj10r14, cj10r14, bl, sz, b_B1, b_B7, b_B79, p_0, p_1, o_10_0, o_10_1, cl_11_10, cl_12_10, cl_14_10, (so s_48), (so s_49), (so s_50), (so s_51), (so s_52), (so s_53), (fun _ => Sv.self (by rw [zq]; decide) _), (so s_55), (so s_56), (so s_57), (so s_58), (so s_47), (so s_59), (so s_60), (so s_9)⟩
      | 7, _ =>
        obtain rfl := Option.some.inj (show some _ = some o from ho); clear ho
        have v7 := hF.sv (s := 7) (by kernel_rfl) (hA432.get (i := 7) (v := .int .i64 (z % 1048576)))
        refine dj_val (i := 7) (v := .int .i64 (z % 1048576)) rfl (.inl rfl) (ev_move v7.eval _ rfl) ?_
        exact ⟨⟨_, rfl⟩, Ap10r14, cp10r14, Aj10r14, cj10r14, bl, sz, b_B1, b_B7, b_B79, p_0, p_1, o_10_0, o_10_1, cl_11_10, cl_12_10, cl_14_10, (so s_48), (so s_49), (so s_50), (so s_51), (so s_52), (so s_53), (so s_54), (fun _ => Sv.self (by rw [zq]; decide) _), (so s_56), (so s_57), (so s_58), (so s_47), (so s_59), (so s_60), (so s_9)⟩
      | 8, _ =>
        obtain rfl := Option.some.inj (show some _ = some o from ho); clear ho
        have v55 := s_55 (dp hdep 7)
        refine dj_val (i := 8) (v := .int .u64 (z % 1048576)) rfl (.inl rfl) (ev_convU (m := (z % 1048576)) v55.eval (by omega) (by omega) _ rfl) ?_
        exact ⟨⟨_, rfl⟩, Ap10r14, cp10r14, Aj10r14, cj10r14, bl, sz, b_B1, b_B7, b_B79, p_0, p_1, o_10_0, o_10_1, cl_11_10, cl_12_10, cl_14_10, (so s_48), (so s_49), (so s_50), (so s_51), (so s_52), (so s_53), (so s_54), (so s_55), (fun _ => Sv.self (by rw [zq]; decide) _), (so s_57), (so s_58), (so s_47), (so s_59), (so s_60), (so s_9)⟩
      | 9, _ =>
        obtain rfl := Option.some.inj (show some _ = some o from ho); clear ho
        have v56 := s_56 (dp hdep 8)
        refine dj_call (i := 9) (f := 33) (args := #[.int .u64 (z % 1048576)]) rfl (.inl rfl) (ev_fn rfl (mp1 v56.eval) (by kernel_rfl) _ rfl) (word_any (z % 1048576) _) ?_
        intro e wk9 hR
        obtain ⟨rfl, hb9⟩ := hR
        refine ⟨_, rfl, ?_⟩
        have hg := g0 hb9
        exact ⟨⟨_, rfl⟩, Ap10r14, cp10r14, Aj10r14, cj10r14, (Below.gN bl hg bl.size), (Nat.le_trans sz hg.size), (b_B1.gN hg), (b_B7.gN hg), (b_B79.gN hg), (Own.gN p_0 hg), (Own.gN p_1 hg), (fun h => Own.gN (o_10_0 h) hg), (fun h => Own.gN (o_10_1 h) hg), cl_11_10, cl_12_10, cl_14_10, (so s_48), (so s_49), (so s_50), (so s_51), (so s_52), (so s_53), (so s_54), (so s_55), (so s_56), (fun _ => Sv.self (by rw [zq]; decide) _), (so s_58), (so s_47), (so s_59), (so s_60), (so s_9)⟩
      | 10, _ =>
        obtain rfl := Option.some.inj (show some _ = some o from ho); clear ho
        have v48 := s_48 (dp hdep 0)
        have v51 := s_51 (dp hdep 3)
        have v54 := s_54 (dp hdep 6)
        have v57 := s_57 (dp hdep 9)
        refine dj_call (i := 10) (f := 12) (args := #[.agg #[.slice A1g d.cs.length c1g, .slice A2g d.js.length c2g, .int .i64 d.room], .int .i64 (((z % 1048576) / 4) % 8), .int .i64 (((z % 1048576) / 32) % 20), .agg (wd (z % 1048576)).va]) rfl (.inl rfl) (ev_fn rfl (mp4 v48.eval v51.eval v54.eval v57.eval) (by kernel_rfl) _ rfl) (Write_any A1g c1g A2g c2g d.cs d.js d.room (((z % 1048576) / 4) % 8) (((z % 1048576) / 32) % 20) (wd (z % 1048576)) _ ⟨(OwnR.gr (e := 28) ⟨rfl, p_0⟩), (OwnR.gr (e := 38) ⟨rfl, p_1⟩)⟩ (by omega) (by omega)) ?_
        intro e wk10 hR
        obtain ⟨Ap10r14, cp10r14, Aj10r14, cj10r14, rfl, hC10, hJ10, hb10⟩ := hR
        refine ⟨_, rfl, ?_⟩
        have hg := g0 hb10
        have hown0 := Own.mono (hC10.2) sz
        have hown1 := Own.mono (hJ10.2) sz
        exact ⟨⟨_, rfl⟩, Ap10r14, cp10r14, Aj10r14, cj10r14, (Below.gN bl hg bl.size), (Nat.le_trans sz hg.size), (b_B1.gN hg), (b_B7.gN hg), (by
            have e0 : L 14 = false := by
              cases hc : L 14
              · rfl
              · exact absurd (cl_14_10 hc) (by rw [hL]; decide)
            have h0 := b_B79.gN hg
            rw [e0] at h0
            show Bx _ _ _ (bif L 14 then _ else _)
            rw [e0]
            exact h0), (Own.gN p_0 hg), (Own.gN p_1 hg), (fun _ => hown0), (fun _ => hown1), (fun _ => rfl), (fun _ => rfl), (fun _ => rfl), (so s_48), (so s_49), (so s_50), (so s_51), (so s_52), (so s_53), (so s_54), (so s_55), (so s_56), (so s_57), (fun _ => Sv.self (by rw [zq]; decide) _), (fun h => absurd (cl_11_10 h) (by rw [hL]; decide)), (fun h => absurd (cl_12_10 h) (by rw [hL]; decide)), (so s_60), (so s_9)⟩
      | 11, _ =>
        obtain rfl := Option.some.inj (show some _ = some o from ho); clear ho
        have v58 := s_58 (dp hdep 10)
        refine dj_val (i := 11) (v := .tuple #[.agg #[.slice Ap10r14 (sub d ⟨true, (((z % 1048576) / 4) % 8), (((z % 1048576) / 32) % 20), (wd (z % 1048576))⟩).1.cs.length cp10r14, .slice Aj10r14 (sub d ⟨true, (((z % 1048576) / 4) % 8), (((z % 1048576) / 32) % 20), (wd (z % 1048576))⟩).1.js.length cj10r14, .int .i64 (sub d ⟨true, (((z % 1048576) / 4) % 8), (((z % 1048576) / 32) % 20), (wd (z % 1048576))⟩).1.room], .int .i64 (sub d ⟨true, (((z % 1048576) / 4) % 8), (((z % 1048576) / 32) % 20), (wd (z % 1048576))⟩).2]) rfl (.inl rfl) (ev_move v58.eval _ rfl) ?_
        exact ⟨⟨_, rfl⟩, Ap10r14, cp10r14, Aj10r14, cj10r14, bl, sz, b_B1, b_B7, b_B79, p_0, p_1, o_10_0, o_10_1, (fun _ => dp hdep 10), cl_12_10, cl_14_10, (so s_48), (so s_49), (so s_50), (so s_51), (so s_52), (so s_53), (so s_54), (so s_55), (so s_56), (so s_57), (so s_58), (fun _ => Sv.self (by rw [zq]; decide) _), (so s_59), (so s_60), (so s_9)⟩
      | 12, _ =>
        obtain rfl := Option.some.inj (show some _ = some o from ho); clear ho
        have v47 := s_47 (dp hdep 11)
        refine dj_val (i := 12) (v := .agg #[.slice Ap10r14 (sub d ⟨true, (((z % 1048576) / 4) % 8), (((z % 1048576) / 32) % 20), (wd (z % 1048576))⟩).1.cs.length cp10r14, .slice Aj10r14 (sub d ⟨true, (((z % 1048576) / 4) % 8), (((z % 1048576) / 32) % 20), (wd (z % 1048576))⟩).1.js.length cj10r14, .int .i64 (sub d ⟨true, (((z % 1048576) / 4) % 8), (((z % 1048576) / 32) % 20), (wd (z % 1048576))⟩).1.room]) rfl (.inl rfl) (ev_ext v47.eval rfl _ rfl) ?_
        exact ⟨⟨_, rfl⟩, Ap10r14, cp10r14, Aj10r14, cj10r14, bl, sz, b_B1, b_B7, b_B79, p_0, p_1, o_10_0, o_10_1, cl_11_10, (fun _ => cl_11_10 (dp hdep 11)), cl_14_10, (so s_48), (so s_49), (so s_50), (so s_51), (so s_52), (so s_53), (so s_54), (so s_55), (so s_56), (so s_57), (so s_58), (so s_47), (fun _ => Sv.self (by rw [zq]; decide) _), (so s_60), (so s_9)⟩
      | 13, _ =>
        obtain rfl := Option.some.inj (show some _ = some o from ho); clear ho
        have v47 := s_47 (dp hdep 11)
        refine dj_val (i := 13) (v := .int .i64 (sub d ⟨true, (((z % 1048576) / 4) % 8), (((z % 1048576) / 32) % 20), (wd (z % 1048576))⟩).2) rfl (.inl rfl) (ev_ext v47.eval rfl _ rfl) ?_
        exact ⟨⟨_, rfl⟩, Ap10r14, cp10r14, Aj10r14, cj10r14, bl, sz, b_B1, b_B7, b_B79, p_0, p_1, o_10_0, o_10_1, cl_11_10, cl_12_10, cl_14_10, (so s_48), (so s_49), (so s_50), (so s_51), (so s_52), (so s_53), (so s_54), (so s_55), (so s_56), (so s_57), (so s_58), (so s_47), (so s_59), (fun _ => Sv.self (by rw [zq]; decide) _), (so s_9)⟩
      | 14, _ =>
        obtain rfl := Option.some.inj (show some _ = some o from ho); clear ho
        have v8 := hF.sv (s := 8) (by kernel_rfl) (hA432.get (i := 8) (v := .pointer (some ⟨B79, 0, none⟩)))
        have v59 := s_59 (dp hdep 12)
        have eB79 : L 14 = false := hL
        have yB79 := b_B79
        rw [eB79] at yB79
        refine dj_skip (i := 14) rfl rfl (.inl rfl) (w' := wc.setRow B79 (#[.slice Ap10r14 (sub d ⟨true, (((z % 1048576) / 4) % 8), (((z % 1048576) / 32) % 20), (wd (z % 1048576))⟩).1.cs.length cp10r14, .slice Aj10r14 (sub d ⟨true, (((z % 1048576) / 4) % 8), (((z % 1048576) / 32) % 20), (wd (z % 1048576))⟩).1.js.length cj10r14, .int .i64 (sub d ⟨true, (((z % 1048576) / 4) % 8), (((z % 1048576) / 32) % 20), (wd (z % 1048576))⟩).1.room])) (ev_srow v8.eval v59.eval yB79 (n := 3) (by kernel_rfl) rfl rfl (dk_one _ _ _ _ _ _ _) _ rfl) ?_
        have hg := grw yB79 (#[.slice Ap10r14 (sub d ⟨true, (((z % 1048576) / 4) % 8), (((z % 1048576) / 32) % 20), (wd (z % 1048576))⟩).1.cs.length cp10r14, .slice Aj10r14 (sub d ⟨true, (((z % 1048576) / 4) % 8), (((z % 1048576) / 32) % 20), (wd (z % 1048576))⟩).1.js.length cj10r14, .int .i64 (sub d ⟨true, (((z % 1048576) / 4) % 8), (((z % 1048576) / 32) % 20), (wd (z % 1048576))⟩).1.room])
        have hx := yB79.row (#[.slice Ap10r14 (sub d ⟨true, (((z % 1048576) / 4) % 8), (((z % 1048576) / 32) % 20), (wd (z % 1048576))⟩).1.cs.length cp10r14, .slice Aj10r14 (sub d ⟨true, (((z % 1048576) / 4) % 8), (((z % 1048576) / 32) % 20), (wd (z % 1048576))⟩).1.js.length cj10r14, .int .i64 (sub d ⟨true, (((z % 1048576) / 4) % 8), (((z % 1048576) / 32) % 20), (wd (z % 1048576))⟩).1.room])
        exact ⟨⟨undef, rfl⟩, Ap10r14, cp10r14, Aj10r14, cj10r14, (Below.gB bl hg bl.size (by omega)), (Nat.le_trans sz hg.size), (b_B1.gB hg (by omega)), (b_B7.gB hg (by omega)), hx, (Own.gBT p_0 hg yB79 (by decide)), (Own.gBT p_1 hg yB79 (by decide)), (fun h => Own.gBT (o_10_0 h) hg yB79 (by decide)), (fun h => Own.gBT (o_10_1 h) hg yB79 (by decide)), cl_11_10, cl_12_10, (fun _ => cl_12_10 (dp hdep 12)), s_48, s_49, s_50, s_51, s_52, s_53, s_54, s_55, s_56, s_57, s_58, s_47, s_59, s_60, s_9⟩
      | 15, _ =>
        obtain rfl := Option.some.inj (show some _ = some o from ho); clear ho
        have v60 := s_60 (dp hdep 13)
        refine dj_val (i := 15) (v := .int .i64 (sub d ⟨true, (((z % 1048576) / 4) % 8), (((z % 1048576) / 32) % 20), (wd (z % 1048576))⟩).2) rfl (.inl rfl) (ev_assign v60.eval _ rfl) ?_
        exact ⟨⟨_, rfl⟩, Ap10r14, cp10r14, Aj10r14, cj10r14, bl, sz, b_B1, b_B7, b_B79, p_0, p_1, o_10_0, o_10_1, cl_11_10, cl_12_10, cl_14_10, (so s_48), (so s_49), (so s_50), (so s_51), (so s_52), (so s_53), (so s_54), (so s_55), (so s_56), (so s_57), (so s_58), (so s_47), (so s_59), (so s_60), (fun _ => Sv.self (by rw [zq]; decide) _)⟩
      | k + 16, h => exact absurd h (by omega)
    · intro L hall ac447 wc447 hF hJ
      obtain ⟨Ap10r14, cp10r14, Aj10r14, cj10r14, bl, sz, b_B1, b_B7, b_B79, p_0, p_1, o_10_0, o_10_1, cl_11_10, cl_12_10, cl_14_10, s_48, s_49, s_50, s_51, s_52, s_53, s_54, s_55, s_56, s_57, s_58, s_47, s_59, s_60, s_9⟩ := hJ
      have hA447 : Ag ac447 84 [(0, .slice A xs.length c), (2, .pointer (some ⟨B1, 0, none⟩)), (4, .pointer (some ⟨B7, 0, none⟩)), (6, .int .i64 (k : Int)), (17, .int .i64 (k : Int)), (18, .slice A xs.length c), (19, .int .i64 (xs.length : Int)), (20, .bool true), (21, .bool true), (22, .int .i64 (k : Int)), (23, .bool true), (24, .bool true), (27, .slice A xs.length c), (28, .int .i64 (k : Int)), (29, .pointer (some (ad72.add (k * 1)))), (30, .int .i64 z), (31, .int .i64 (z % 1048576)), (7, .int .i64 (z % 1048576)), (32, .agg #[.slice A1g d.cs.length c1g, .slice A2g d.js.length c2g, .int .i64 d.room]), (8, .pointer (some ⟨B79, 0, none⟩)), (33, .int .i64 (z % 1048576)), (34, .int .i64 ((z % 1048576) % 4)), (45, .bool true), (44, .bool true), (48, .agg #[.slice A1g d.cs.length c1g, .slice A2g d.js.length c2g, .int .i64 d.room]), (49, .int .i64 (z % 1048576)), (50, .int .i64 ((z % 1048576) / 4)), (51, .int .i64 (((z % 1048576) / 4) % 8)), (52, .int .i64 (z % 1048576)), (53, .int .i64 ((z % 1048576) / 32)), (54, .int .i64 (((z % 1048576) / 32) % 20)), (55, .int .i64 (z % 1048576)), (56, .int .u64 (z % 1048576)), (57, .agg (wd (z % 1048576)).va), (58, .tuple #[.agg #[.slice Ap10r14 (sub d ⟨true, (((z % 1048576) / 4) % 8), (((z % 1048576) / 32) % 20), (wd (z % 1048576))⟩).1.cs.length cp10r14, .slice Aj10r14 (sub d ⟨true, (((z % 1048576) / 4) % 8), (((z % 1048576) / 32) % 20), (wd (z % 1048576))⟩).1.js.length cj10r14, .int .i64 (sub d ⟨true, (((z % 1048576) / 4) % 8), (((z % 1048576) / 32) % 20), (wd (z % 1048576))⟩).1.room], .int .i64 (sub d ⟨true, (((z % 1048576) / 4) % 8), (((z % 1048576) / 32) % 20), (wd (z % 1048576))⟩).2]), (47, .tuple #[.agg #[.slice Ap10r14 (sub d ⟨true, (((z % 1048576) / 4) % 8), (((z % 1048576) / 32) % 20), (wd (z % 1048576))⟩).1.cs.length cp10r14, .slice Aj10r14 (sub d ⟨true, (((z % 1048576) / 4) % 8), (((z % 1048576) / 32) % 20), (wd (z % 1048576))⟩).1.js.length cj10r14, .int .i64 (sub d ⟨true, (((z % 1048576) / 4) % 8), (((z % 1048576) / 32) % 20), (wd (z % 1048576))⟩).1.room], .int .i64 (sub d ⟨true, (((z % 1048576) / 4) % 8), (((z % 1048576) / 32) % 20), (wd (z % 1048576))⟩).2]), (59, .agg #[.slice Ap10r14 (sub d ⟨true, (((z % 1048576) / 4) % 8), (((z % 1048576) / 32) % 20), (wd (z % 1048576))⟩).1.cs.length cp10r14, .slice Aj10r14 (sub d ⟨true, (((z % 1048576) / 4) % 8), (((z % 1048576) / 32) % 20), (wd (z % 1048576))⟩).1.js.length cj10r14, .int .i64 (sub d ⟨true, (((z % 1048576) / 4) % 8), (((z % 1048576) / 32) % 20), (wd (z % 1048576))⟩).1.room]), (60, .int .i64 (sub d ⟨true, (((z % 1048576) / 4) % 8), (((z % 1048576) / 32) % 20), (wd (z % 1048576))⟩).2), (9, .int .i64 (sub d ⟨true, (((z % 1048576) / 4) % 8), (((z % 1048576) / 32) % 20), (wd (z % 1048576))⟩).2)] := ((((((((((((((((((((((((((((((((((((((((Ag.nil (hF.1.trans hA432.1) (hF.2.1.trans hA432.2.1)).cons (s_9 (hall 15 (by decide)))).cons (s_60 (hall 13 (by decide)))).cons (s_59 (hall 12 (by decide)))).cons (s_47 (hall 11 (by decide)))).cons (s_58 (hall 10 (by decide)))).cons (s_57 (hall 9 (by decide)))).cons (s_56 (hall 8 (by decide)))).cons (s_55 (hall 7 (by decide)))).cons (s_54 (hall 6 (by decide)))).cons (s_53 (hall 5 (by decide)))).cons (s_52 (hall 4 (by decide)))).cons (s_51 (hall 3 (by decide)))).cons (s_50 (hall 2 (by decide)))).cons (s_49 (hall 1 (by decide)))).cons (s_48 (hall 0 (by decide)))).cons (hF.sv (s := 44) (by kernel_rfl) (hA432.get (i := 44) (v := .bool true)))).cons (hF.sv (s := 45) (by kernel_rfl) (hA432.get (i := 45) (v := .bool true)))).cons (hF.sv (s := 34) (by kernel_rfl) (hA432.get (i := 34) (v := .int .i64 ((z % 1048576) % 4))))).cons (hF.sv (s := 33) (by kernel_rfl) (hA432.get (i := 33) (v := .int .i64 (z % 1048576))))).cons (hF.sv (s := 8) (by kernel_rfl) (hA432.get (i := 8) (v := .pointer (some ⟨B79, 0, none⟩))))).cons (hF.sv (s := 32) (by kernel_rfl) (hA432.get (i := 32) (v := .agg #[.slice A1g d.cs.length c1g, .slice A2g d.js.length c2g, .int .i64 d.room])))).cons (hF.sv (s := 7) (by kernel_rfl) (hA432.get (i := 7) (v := .int .i64 (z % 1048576))))).cons (hF.sv (s := 31) (by kernel_rfl) (hA432.get (i := 31) (v := .int .i64 (z % 1048576))))).cons (hF.sv (s := 30) (by kernel_rfl) (hA432.get (i := 30) (v := .int .i64 z)))).cons (hF.sv (s := 29) (by kernel_rfl) (hA432.get (i := 29) (v := .pointer (some (ad72.add (k * 1))))))).cons (hF.sv (s := 28) (by kernel_rfl) (hA432.get (i := 28) (v := .int .i64 (k : Int))))).cons (hF.sv (s := 27) (by kernel_rfl) (hA432.get (i := 27) (v := .slice A xs.length c)))).cons (hF.sv (s := 24) (by kernel_rfl) (hA432.get (i := 24) (v := .bool true)))).cons (hF.sv (s := 23) (by kernel_rfl) (hA432.get (i := 23) (v := .bool true)))).cons (hF.sv (s := 22) (by kernel_rfl) (hA432.get (i := 22) (v := .int .i64 (k : Int))))).cons (hF.sv (s := 21) (by kernel_rfl) (hA432.get (i := 21) (v := .bool true)))).cons (hF.sv (s := 20) (by kernel_rfl) (hA432.get (i := 20) (v := .bool true)))).cons (hF.sv (s := 19) (by kernel_rfl) (hA432.get (i := 19) (v := .int .i64 (xs.length : Int))))).cons (hF.sv (s := 18) (by kernel_rfl) (hA432.get (i := 18) (v := .slice A xs.length c)))).cons (hF.sv (s := 17) (by kernel_rfl) (hA432.get (i := 17) (v := .int .i64 (k : Int))))).cons (hF.sv (s := 6) (by kernel_rfl) (hA432.get (i := 6) (v := .int .i64 (k : Int))))).cons (hF.sv (s := 4) (by kernel_rfl) (hA432.get (i := 4) (v := .pointer (some ⟨B7, 0, none⟩))))).cons (hF.sv (s := 2) (by kernel_rfl) (hA432.get (i := 2) (v := .pointer (some ⟨B1, 0, none⟩))))).cons (hF.sv (s := 0) (by kernel_rfl) (hA432.get (i := 0) (v := .slice A xs.length c))))
      have bl447 := bl
      have sz447 := sz
      have b447_B1 := b_B1
      have b447_B7 := b_B7
      have b447_B79 : Bx wc447 B79 25 (#[.slice Ap10r14 (sub d ⟨true, (((z % 1048576) / 4) % 8), (((z % 1048576) / 32) % 20), (wd (z % 1048576))⟩).1.cs.length cp10r14, .slice Aj10r14 (sub d ⟨true, (((z % 1048576) / 4) % 8), (((z % 1048576) / 32) % 20), (wd (z % 1048576))⟩).1.js.length cj10r14, .int .i64 (sub d ⟨true, (((z % 1048576) / 4) % 8), (((z % 1048576) / 32) % 20), (wd (z % 1048576))⟩).1.room]) := by
        have h := b_B79
        rw [hall 14 (by decide)] at h
        exact h
      have p447_0 := p_0
      have p447_1 := p_1
      have o447_10_0 := o_10_0 (hall 10 (by decide))
      have hh447_10_0 := Own.hi o447_10_0
      have o447_10_1 := o_10_1 (hall 10 (by decide))
      have hh447_10_1 := Own.hi o447_10_1
      clear hF bl sz b_B1 b_B7 b_B79 p_0 p_1 o_10_0 o_10_1 cl_11_10 cl_12_10 cl_14_10 s_48 s_49 s_50 s_51 s_52 s_53 s_54 s_55 s_56 s_57 s_58 s_47 s_59 s_60 s_9 hall hA432
      refine blk_n ?_
      refine then_n ?_
      refine wp_seq ?_
      refine wp_region_lit ?_
      refine sx_val hA447 rfl (ev_move (hA447.ev (i := 9) (v := .int .i64 (sub d ⟨true, (((z % 1048576) / 4) % 8), (((z % 1048576) / 32) % 20), (wd (z % 1048576))⟩).2)) _ rfl) ?_
      intro a448 hA448; clear hA447
      refine sx_nil ?_
      refine then_n ?_
      refine wp_block ?_
      refine wp_seq ?_
      refine wp_region_lit ?_
      cases hd449 : decide ((sub d ⟨true, (((z % 1048576) / 4) % 8), (((z % 1048576) / 32) % 20), (wd (z % 1048576))⟩).2 = 0)
      rotate_left
      · have hp449 := of_decide_eq_true hd449
        refine sx_val (v := .bool true) hA448 rfl (ev_eqlB (k := .i64) (m := (sub d ⟨true, (((z % 1048576) / 4) % 8), (((z % 1048576) / 32) % 20), (wd (z % 1048576))⟩).2) (n := 0) (hA448.ev (i := 74)) (ec _ (.int .i64 0)) hd449 _ rfl) ?_
        intro a480 hA480; clear hA448
        refine sx_val hA480 rfl (ev_assign (hA480.ev (i := 77) (v := .bool true)) _ rfl) ?_
        intro a481 hA481; clear hA480
        refine sx_nil ?_
        refine then_n ?_
        refine wp_cond_true (hA481.ev (i := 76) (v := .bool true)) ?_
        refine wp_region_lit ?_
        refine sx_val (v := .agg #[.slice Ap10r14 (sub d ⟨true, (((z % 1048576) / 4) % 8), (((z % 1048576) / 32) % 20), (wd (z % 1048576))⟩).1.cs.length cp10r14, .slice Aj10r14 (sub d ⟨true, (((z % 1048576) / 4) % 8), (((z % 1048576) / 32) % 20), (wd (z % 1048576))⟩).1.js.length cj10r14, .int .i64 (sub d ⟨true, (((z % 1048576) / 4) % 8), (((z % 1048576) / 32) % 20), (wd (z % 1048576))⟩).1.room]) hA481 rfl (ev_row (hA481.ev (i := 8) (v := .pointer (some ⟨B79, 0, none⟩))) b447_B79 Try.underlying25 rfl (n := 3) (by kernel_rfl) rfl _ rfl) ?_
        intro a482 hA482; clear hA481
        refine sx_store hA482 rfl (.inl rfl) rfl (hA482.ev (i := 4) (v := .pointer (some ⟨B7, 0, none⟩))) (hA482.ev (i := 78) (v := .agg #[.slice Ap10r14 (sub d ⟨true, (((z % 1048576) / 4) % 8), (((z % 1048576) / 32) % 20), (wd (z % 1048576))⟩).1.cs.length cp10r14, .slice Aj10r14 (sub d ⟨true, (((z % 1048576) / 4) % 8), (((z % 1048576) / 32) % 20), (wd (z % 1048576))⟩).1.js.length cj10r14, .int .i64 (sub d ⟨true, (((z % 1048576) / 4) % 8), (((z % 1048576) / 32) % 20), (wd (z % 1048576))⟩).1.room])) b447_B7 (by kernel_rfl) rfl (dk_one _ _ _ _ _ _ _) ?_
        intro w483 hx483 hg483
        have hs483 := hg483.size
        refine sx_nil ?_
        refine blk_n ?_
        refine blk_n ?_
        refine then_n ?_
        refine wp_region_lit ?_
        refine sx_val hA482 rfl (ev_move (hA482.ev (i := 6) (v := .int .i64 (k : Int))) _ rfl) ?_
        intro a484 hA484; clear hA482
        refine sx_val (v := .int .i64 ((k + 1 : Nat) : Int)) hA484 rfl (ev_addR (k := .i64) (m := (k : Int)) (n := 1) (r := ((k + 1 : Nat) : Int)) (hA484.ev (i := 25)) (ec _ (.int .i64 1)) (wr (by omega) (by omega) (by omega)) _ rfl) ?_
        intro a485 hA485; clear hA484
        refine sx_val hA485 rfl (ev_assign (hA485.ev (i := 26) (v := .int .i64 ((k + 1 : Nat) : Int))) _ rfl) ?_
        intro a486 hA486; clear hA485
        refine sx_nil ?_
        refine then_n ?_
        have o447_10_487 := Own.gBT o447_10_0 hg483 b447_B7 (by decide)
        have o447_10_488 := Own.gBT o447_10_1 hg483 b447_B7 (by decide)
        have b447_B1_489 := b447_B1.gB hg483 (by omega)
        have bl447_490 := Below.gB bl447 hg483 bl447.size (by omega)
        refine ⟨xs.length - (k + 1), by omega, k + 1, (sub d ⟨true, (((z % 1048576) / 4) % 8), (((z % 1048576) / 32) % 20), (wd (z % 1048576))⟩).1, Ap10r14, cp10r14, Aj10r14, cj10r14, rfl, (((((Ag.nil hA486.1 hA486.2.1).cons (hA486.get (i := 6) (v := .int .i64 ((k + 1 : Nat) : Int)))).cons (hA486.get (i := 4) (v := .pointer (some ⟨B7, 0, none⟩)))).cons (hA486.get (i := 2) (v := .pointer (some ⟨B1, 0, none⟩)))).cons (hA486.get (i := 0) (v := .slice A xs.length c))), by omega, D86.sub q26_1 rfl (by show _ % 20 < 20; omega) hp449, b447_B1_489, hx483, (Own.mono o447_10_487 (by omega)), (Own.mono o447_10_488 (by omega)), by omega, bl447_490⟩
      have hp449 := of_decide_eq_false hd449
      refine sx_val (v := .bool false) hA448 rfl (ev_eqlB (k := .i64) (m := (sub d ⟨true, (((z % 1048576) / 4) % 8), (((z % 1048576) / 32) % 20), (wd (z % 1048576))⟩).2) (n := 0) (hA448.ev (i := 74)) (ec _ (.int .i64 0)) hd449 _ rfl) ?_
      intro a450 hA450; clear hA448
      refine sx_val hA450 rfl (ev_assign (hA450.ev (i := 77) (v := .bool false)) _ rfl) ?_
      intro a451 hA451; clear hA450
      refine sx_nil ?_
      refine then_n ?_
      refine wp_cond_false (hA451.ev (i := 76) (v := .bool false)) ?_
      refine wp_seq ?_
      refine wp_seq ?_
      refine wp_region_lit ?_
      cases hd452 : decide ((sub d ⟨true, (((z % 1048576) / 4) % 8), (((z % 1048576) / 32) % 20), (wd (z % 1048576))⟩).2 = 10)
      rotate_left
      · have hp452 := of_decide_eq_true hd452
        refine sx_val (v := .bool true) hA451 rfl (ev_eqlB (k := .i64) (m := (sub d ⟨true, (((z % 1048576) / 4) % 8), (((z % 1048576) / 32) % 20), (wd (z % 1048576))⟩).2) (n := 10) (hA451.ev (i := 74)) (ec _ (.int .i64 10)) hd452 _ rfl) ?_
        intro a475 hA475; clear hA451
        refine sx_val hA475 rfl (ev_assign (hA475.ev (i := 80) (v := .bool true)) _ rfl) ?_
        intro a476 hA476; clear hA475
        refine sx_nil ?_
        refine then_n ?_
        refine wp_cond_true (hA476.ev (i := 79) (v := .bool true)) ?_
        refine wp_skip ?_
        refine then_n ?_
        refine wp_cond_true (hA476.ev (i := 79) (v := .bool true)) ?_
        refine wp_skip ?_
        refine blk_n ?_
        refine blk_n ?_
        refine then_n ?_
        refine wp_region_lit ?_
        refine sx_val hA476 rfl (ev_move (hA476.ev (i := 6) (v := .int .i64 (k : Int))) _ rfl) ?_
        intro a477 hA477; clear hA476
        refine sx_val (v := .int .i64 ((k + 1 : Nat) : Int)) hA477 rfl (ev_addR (k := .i64) (m := (k : Int)) (n := 1) (r := ((k + 1 : Nat) : Int)) (hA477.ev (i := 25)) (ec _ (.int .i64 1)) (wr (by omega) (by omega) (by omega)) _ rfl) ?_
        intro a478 hA478; clear hA477
        refine sx_val hA478 rfl (ev_assign (hA478.ev (i := 26) (v := .int .i64 ((k + 1 : Nat) : Int))) _ rfl) ?_
        intro a479 hA479; clear hA478
        refine sx_nil ?_
        refine then_n ?_
        refine ⟨xs.length - (k + 1), by omega, k + 1, d, A1g, c1g, A2g, c2g, rfl, (((((Ag.nil hA479.1 hA479.2.1).cons (hA479.get (i := 6) (v := .int .i64 ((k + 1 : Nat) : Int)))).cons (hA479.get (i := 4) (v := .pointer (some ⟨B7, 0, none⟩)))).cons (hA479.get (i := 2) (v := .pointer (some ⟨B1, 0, none⟩)))).cons (hA479.get (i := 0) (v := .slice A xs.length c))), by omega, q26_1, b447_B1, b447_B7, (Own.mono p447_0 (by omega)), (Own.mono p447_1 (by omega)), by omega, bl447⟩
      have hp452 := of_decide_eq_false hd452
      refine sx_val (v := .bool false) hA451 rfl (ev_eqlB (k := .i64) (m := (sub d ⟨true, (((z % 1048576) / 4) % 8), (((z % 1048576) / 32) % 20), (wd (z % 1048576))⟩).2) (n := 10) (hA451.ev (i := 74)) (ec _ (.int .i64 10)) hd452 _ rfl) ?_
      intro a453 hA453; clear hA451
      refine sx_val hA453 rfl (ev_assign (hA453.ev (i := 80) (v := .bool false)) _ rfl) ?_
      intro a454 hA454; clear hA453
      refine sx_nil ?_
      refine then_n ?_
      refine wp_cond_false (hA454.ev (i := 79) (v := .bool false)) ?_
      refine wp_seq ?_
      refine wp_region_lit ?_
      cases hd455 : decide ((sub d ⟨true, (((z % 1048576) / 4) % 8), (((z % 1048576) / 32) % 20), (wd (z % 1048576))⟩).2 = 5)
      rotate_left
      · have hp455 := of_decide_eq_true hd455
        refine sx_val (v := .bool true) hA454 rfl (ev_eqlB (k := .i64) (m := (sub d ⟨true, (((z % 1048576) / 4) % 8), (((z % 1048576) / 32) % 20), (wd (z % 1048576))⟩).2) (n := 5) (hA454.ev (i := 74)) (ec _ (.int .i64 5)) hd455 _ rfl) ?_
        intro a470 hA470; clear hA454
        refine sx_val hA470 rfl (ev_assign (hA470.ev (i := 81) (v := .bool true)) _ rfl) ?_
        intro a471 hA471; clear hA470
        refine sx_nil ?_
        refine then_n ?_
        refine wp_cond_true (hA471.ev (i := 79) (v := .bool true)) ?_
        refine wp_skip ?_
        refine then_n ?_
        refine wp_cond_true (hA471.ev (i := 79) (v := .bool true)) ?_
        refine wp_skip ?_
        refine blk_n ?_
        refine blk_n ?_
        refine then_n ?_
        refine wp_region_lit ?_
        refine sx_val hA471 rfl (ev_move (hA471.ev (i := 6) (v := .int .i64 (k : Int))) _ rfl) ?_
        intro a472 hA472; clear hA471
        refine sx_val (v := .int .i64 ((k + 1 : Nat) : Int)) hA472 rfl (ev_addR (k := .i64) (m := (k : Int)) (n := 1) (r := ((k + 1 : Nat) : Int)) (hA472.ev (i := 25)) (ec _ (.int .i64 1)) (wr (by omega) (by omega) (by omega)) _ rfl) ?_
        intro a473 hA473; clear hA472
        refine sx_val hA473 rfl (ev_assign (hA473.ev (i := 26) (v := .int .i64 ((k + 1 : Nat) : Int))) _ rfl) ?_
        intro a474 hA474; clear hA473
        refine sx_nil ?_
        refine then_n ?_
        refine ⟨xs.length - (k + 1), by omega, k + 1, d, A1g, c1g, A2g, c2g, rfl, (((((Ag.nil hA474.1 hA474.2.1).cons (hA474.get (i := 6) (v := .int .i64 ((k + 1 : Nat) : Int)))).cons (hA474.get (i := 4) (v := .pointer (some ⟨B7, 0, none⟩)))).cons (hA474.get (i := 2) (v := .pointer (some ⟨B1, 0, none⟩)))).cons (hA474.get (i := 0) (v := .slice A xs.length c))), by omega, q26_1, b447_B1, b447_B7, (Own.mono p447_0 (by omega)), (Own.mono p447_1 (by omega)), by omega, bl447⟩
      have hp455 := of_decide_eq_false hd455
      refine sx_val (v := .bool false) hA454 rfl (ev_eqlB (k := .i64) (m := (sub d ⟨true, (((z % 1048576) / 4) % 8), (((z % 1048576) / 32) % 20), (wd (z % 1048576))⟩).2) (n := 5) (hA454.ev (i := 74)) (ec _ (.int .i64 5)) hd455 _ rfl) ?_
      intro a456 hA456; clear hA454
      refine sx_val hA456 rfl (ev_assign (hA456.ev (i := 81) (v := .bool false)) _ rfl) ?_
      intro a457 hA457; clear hA456
      refine sx_nil ?_
      refine then_n ?_
      refine wp_cond_false (hA457.ev (i := 79) (v := .bool false)) ?_
      refine wp_region_lit ?_
      cases hd458 : decide ((sub d ⟨true, (((z % 1048576) / 4) % 8), (((z % 1048576) / 32) % 20), (wd (z % 1048576))⟩).2 = 6)
      rotate_left
      · have hp458 := of_decide_eq_true hd458
        refine sx_val (v := .bool true) hA457 rfl (ev_eqlB (k := .i64) (m := (sub d ⟨true, (((z % 1048576) / 4) % 8), (((z % 1048576) / 32) % 20), (wd (z % 1048576))⟩).2) (n := 6) (hA457.ev (i := 74)) (ec _ (.int .i64 6)) hd458 _ rfl) ?_
        intro a465 hA465; clear hA457
        refine sx_val hA465 rfl (ev_assign (hA465.ev (i := 82) (v := .bool true)) _ rfl) ?_
        intro a466 hA466; clear hA465
        refine sx_nil ?_
        refine then_n ?_
        refine wp_cond_true (hA466.ev (i := 79) (v := .bool true)) ?_
        refine wp_skip ?_
        refine blk_n ?_
        refine blk_n ?_
        refine then_n ?_
        refine wp_region_lit ?_
        refine sx_val hA466 rfl (ev_move (hA466.ev (i := 6) (v := .int .i64 (k : Int))) _ rfl) ?_
        intro a467 hA467; clear hA466
        refine sx_val (v := .int .i64 ((k + 1 : Nat) : Int)) hA467 rfl (ev_addR (k := .i64) (m := (k : Int)) (n := 1) (r := ((k + 1 : Nat) : Int)) (hA467.ev (i := 25)) (ec _ (.int .i64 1)) (wr (by omega) (by omega) (by omega)) _ rfl) ?_
        intro a468 hA468; clear hA467
        refine sx_val hA468 rfl (ev_assign (hA468.ev (i := 26) (v := .int .i64 ((k + 1 : Nat) : Int))) _ rfl) ?_
        intro a469 hA469; clear hA468
        refine sx_nil ?_
        refine then_n ?_
        refine ⟨xs.length - (k + 1), by omega, k + 1, d, A1g, c1g, A2g, c2g, rfl, (((((Ag.nil hA469.1 hA469.2.1).cons (hA469.get (i := 6) (v := .int .i64 ((k + 1 : Nat) : Int)))).cons (hA469.get (i := 4) (v := .pointer (some ⟨B7, 0, none⟩)))).cons (hA469.get (i := 2) (v := .pointer (some ⟨B1, 0, none⟩)))).cons (hA469.get (i := 0) (v := .slice A xs.length c))), by omega, q26_1, b447_B1, b447_B7, (Own.mono p447_0 (by omega)), (Own.mono p447_1 (by omega)), by omega, bl447⟩
      have hp458 := of_decide_eq_false hd458
      refine sx_val (v := .bool false) hA457 rfl (ev_eqlB (k := .i64) (m := (sub d ⟨true, (((z % 1048576) / 4) % 8), (((z % 1048576) / 32) % 20), (wd (z % 1048576))⟩).2) (n := 6) (hA457.ev (i := 74)) (ec _ (.int .i64 6)) hd458 _ rfl) ?_
      intro a459 hA459; clear hA457
      refine sx_val hA459 rfl (ev_assign (hA459.ev (i := 82) (v := .bool false)) _ rfl) ?_
      intro a460 hA460; clear hA459
      refine sx_nil ?_
      refine then_n ?_
      refine wp_cond_false (hA460.ev (i := 79) (v := .bool false)) ?_
      refine wp_seq ?_
      refine wp_region_lit ?_
      refine sx_val (v := .agg #[.slice A1g d.cs.length c1g, .slice A2g d.js.length c2g, .int .i64 d.room]) hA460 rfl (ev_row (hA460.ev (i := 4) (v := .pointer (some ⟨B7, 0, none⟩))) b447_B7 Try.underlying25 rfl (n := 3) (by kernel_rfl) rfl _ rfl) ?_
      intro a461 hA461; clear hA460
      refine sx_store hA461 rfl (.inl rfl) rfl (hA461.ev (i := 2) (v := .pointer (some ⟨B1, 0, none⟩))) (hA461.ev (i := 75) (v := .agg #[.slice A1g d.cs.length c1g, .slice A2g d.js.length c2g, .int .i64 d.room])) b447_B1 (by kernel_rfl) rfl (dk_one _ _ _ _ _ _ _) ?_
      intro w462 hx462 hg462
      have hs462 := hg462.size
      refine sx_val hA461 rfl (ev_assign (ec _ (.bool false)) _ rfl) ?_
      intro a463 hA463; clear hA461
      refine sx_nil ?_
      refine then_n ?_
      refine wp_ret ?_
      refine blk_r ?_
      refine blk_r ?_
      refine then_r ?_
      refine then_r ?_
      refine blk_r ?_
      refine then_r ?_
      refine bodyPost_ret (rs_ct (v := .bool false) Try.results34 hA463 (by kernel_rfl) (by kernel_rfl) hx462 Try.underlying25 rfl (by kernel_rfl)) hA463.2.1 ?_
      have bl447_464 := Below.gB bl447 hg462 bl447.size (by omega)
      rcases sub_err (q26_1).ok (D86.rng q26_1 (b := true) (c := (wd (z % 1048576))) (s := ((z % 1048576) / 4) % 8) (f := ((z % 1048576) / 32) % 20) (by omega) (by omega) (by omega) (by omega)) with h | h | h <;> omega
  have hp84 := of_decide_eq_false hd84
  refine sx_val (v := .bool false) hA83 rfl (ev_eqlB (k := .i64) (m := ((z % 1048576) % 4)) (n := 0) (hA83.ev (i := 34)) (ec _ (.int .i64 0)) hd84 _ rfl) ?_
  intro a85 hA85; clear hA83
  refine sx_val hA85 rfl (ev_assign (hA85.ev (i := 45) (v := .bool false)) _ rfl) ?_
  intro a86 hA86; clear hA85
  refine sx_nil ?_
  refine then_n ?_
  refine wp_cond_false (hA86.ev (i := 44) (v := .bool false)) ?_
  refine wp_region_lit ?_
  cases hd87 : decide (((z % 1048576) % 4) = 1)
  rotate_left
  · have hp87 := of_decide_eq_true hd87
    refine sx_val (v := .bool true) hA86 rfl (ev_eqlB (k := .i64) (m := ((z % 1048576) % 4)) (n := 1) (hA86.ev (i := 34)) (ec _ (.int .i64 1)) hd87 _ rfl) ?_
    intro a371 hA371; clear hA86
    refine sx_val hA371 rfl (ev_assign (hA371.ev (i := 46) (v := .bool true)) _ rfl) ?_
    intro a372 hA372; clear hA371
    refine sx_nil ?_
    refine then_n ?_
    refine wp_cond_true (hA372.ev (i := 44) (v := .bool true)) ?_
    have f26_373 := f26_0.gN hg75
    have f26_374 := f26_373.gN hg79
    have f26_375 := f26_374.gB hg80 (by omega)
    have f26_376 := f26_77.gN hg79
    have f26_377 := f26_376.gB hg80 (by omega)
    have f26_378 := Own.gN f26_2 hg75
    have f26_379 := Own.gN f26_378 hg79
    have f26_380 := Own.gBT f26_379 hg80 hx79 (by decide)
    have f26_381 := Own.gN f26_3 hg75
    have f26_382 := Own.gN f26_381 hg79
    have f26_383 := Own.gBT f26_382 hg80 hx79 (by decide)
    have hbel26_384 := Below.gN hbel26 hg75 hbel26.size
    have hbel26_385 := Below.gN hbel26_384 hg79 hbel26_384.size
    have hbel26_386 := Below.gB hbel26_385 hg80 hbel26_385.size (by omega)
    refine region_D (n := 16) (by kernel_rfl) (by kernel_rfl) rfl (fun L ac wc => ∃ Ap10r14 : Option Addr, ∃ cp10r14 : Nat, ∃ Aj10r14 : Option Addr, ∃ cj10r14 : Nat, Below w.heap.size w wc ∧ w80.heap.size ≤ wc.heap.size ∧ Bx wc B1 25 (#[.slice none 0 0, .slice none 0 0, .int .i64 0]) ∧ Bx wc B7 25 (#[.slice A1g d.cs.length c1g, .slice A2g d.js.length c2g, .int .i64 d.room]) ∧ Bx wc B79 25 (bif L 14 then (#[.slice Ap10r14 (sub d ⟨true, (((z % 1048576) / 4) % 8), (((z % 1048576) / 32) % 20), (wd (z % 1048576))⟩).1.cs.length cp10r14, .slice Aj10r14 (sub d ⟨true, (((z % 1048576) / 4) % 8), (((z % 1048576) / 32) % 20), (wd (z % 1048576))⟩).1.js.length cj10r14, .int .i64 (sub d ⟨true, (((z % 1048576) / 4) % 8), (((z % 1048576) / 32) % 20), (wd (z % 1048576))⟩).1.room]) else (#[.slice A1g d.cs.length c1g, .slice A2g d.js.length c2g, .int .i64 d.room])) ∧ Own wc (w1.heap.size) 28 8 (.slice A1g d.cs.length c1g) d.cs.length (flat Ct.va d.cs) ∧ Own wc (w1.heap.size) 38 11 (.slice A2g d.js.length c2g) d.js.length (flat Jb.va d.js) ∧ (L 10 = true → Own wc w80.heap.size 28 8 (.slice Ap10r14 (sub d ⟨true, (((z % 1048576) / 4) % 8), (((z % 1048576) / 32) % 20), (wd (z % 1048576))⟩).1.cs.length cp10r14) (sub d ⟨true, (((z % 1048576) / 4) % 8), (((z % 1048576) / 32) % 20), (wd (z % 1048576))⟩).1.cs.length (flat Ct.va (sub d ⟨true, (((z % 1048576) / 4) % 8), (((z % 1048576) / 32) % 20), (wd (z % 1048576))⟩).1.cs)) ∧ (L 10 = true → Own wc w80.heap.size 38 11 (.slice Aj10r14 (sub d ⟨true, (((z % 1048576) / 4) % 8), (((z % 1048576) / 32) % 20), (wd (z % 1048576))⟩).1.js.length cj10r14) (sub d ⟨true, (((z % 1048576) / 4) % 8), (((z % 1048576) / 32) % 20), (wd (z % 1048576))⟩).1.js.length (flat Jb.va (sub d ⟨true, (((z % 1048576) / 4) % 8), (((z % 1048576) / 32) % 20), (wd (z % 1048576))⟩).1.js)) ∧ (L 11 = true → L 10 = true) ∧ (L 12 = true → L 10 = true) ∧ (L 14 = true → L 10 = true) ∧ (L 0 = true → Sv ac 48 (.agg #[.slice A1g d.cs.length c1g, .slice A2g d.js.length c2g, .int .i64 d.room])) ∧ (L 1 = true → Sv ac 49 (.int .i64 (z % 1048576))) ∧ (L 2 = true → Sv ac 50 (.int .i64 ((z % 1048576) / 4))) ∧ (L 3 = true → Sv ac 51 (.int .i64 (((z % 1048576) / 4) % 8))) ∧ (L 4 = true → Sv ac 52 (.int .i64 (z % 1048576))) ∧ (L 5 = true → Sv ac 53 (.int .i64 ((z % 1048576) / 32))) ∧ (L 6 = true → Sv ac 54 (.int .i64 (((z % 1048576) / 32) % 20))) ∧ (L 7 = true → Sv ac 55 (.int .i64 (z % 1048576))) ∧ (L 8 = true → Sv ac 56 (.int .u64 (z % 1048576))) ∧ (L 9 = true → Sv ac 57 (.agg (wd (z % 1048576)).va)) ∧ (L 10 = true → Sv ac 58 (.tuple #[.agg #[.slice Ap10r14 (sub d ⟨true, (((z % 1048576) / 4) % 8), (((z % 1048576) / 32) % 20), (wd (z % 1048576))⟩).1.cs.length cp10r14, .slice Aj10r14 (sub d ⟨true, (((z % 1048576) / 4) % 8), (((z % 1048576) / 32) % 20), (wd (z % 1048576))⟩).1.js.length cj10r14, .int .i64 (sub d ⟨true, (((z % 1048576) / 4) % 8), (((z % 1048576) / 32) % 20), (wd (z % 1048576))⟩).1.room], .int .i64 (sub d ⟨true, (((z % 1048576) / 4) % 8), (((z % 1048576) / 32) % 20), (wd (z % 1048576))⟩).2])) ∧ (L 11 = true → Sv ac 47 (.tuple #[.agg #[.slice Ap10r14 (sub d ⟨true, (((z % 1048576) / 4) % 8), (((z % 1048576) / 32) % 20), (wd (z % 1048576))⟩).1.cs.length cp10r14, .slice Aj10r14 (sub d ⟨true, (((z % 1048576) / 4) % 8), (((z % 1048576) / 32) % 20), (wd (z % 1048576))⟩).1.js.length cj10r14, .int .i64 (sub d ⟨true, (((z % 1048576) / 4) % 8), (((z % 1048576) / 32) % 20), (wd (z % 1048576))⟩).1.room], .int .i64 (sub d ⟨true, (((z % 1048576) / 4) % 8), (((z % 1048576) / 32) % 20), (wd (z % 1048576))⟩).2])) ∧ (L 12 = true → Sv ac 59 (.agg #[.slice Ap10r14 (sub d ⟨true, (((z % 1048576) / 4) % 8), (((z % 1048576) / 32) % 20), (wd (z % 1048576))⟩).1.cs.length cp10r14, .slice Aj10r14 (sub d ⟨true, (((z % 1048576) / 4) % 8), (((z % 1048576) / 32) % 20), (wd (z % 1048576))⟩).1.js.length cj10r14, .int .i64 (sub d ⟨true, (((z % 1048576) / 4) % 8), (((z % 1048576) / 32) % 20), (wd (z % 1048576))⟩).1.room])) ∧ (L 13 = true → Sv ac 60 (.int .i64 (sub d ⟨true, (((z % 1048576) / 4) % 8), (((z % 1048576) / 32) % 20), (wd (z % 1048576))⟩).2)) ∧ (L 15 = true → Sv ac 9 (.int .i64 (sub d ⟨true, (((z % 1048576) / 4) % 8), (((z % 1048576) / 32) % 20), (wd (z % 1048576))⟩).2))) ⟨none, 0, none, 0, (Below.gN hbel26_386 (gdr _) hbel26_386.size), (Nat.le_refl _), (f26_375.gN (gdr _)), (f26_377.gN (gdr _)), (hx80.gN (gdr _)), (Own.gN f26_380 (gdr _)), (Own.gN f26_383 (gdr _)), (fun h => by cases h), (fun h => by cases h), (fun h => by cases h), (fun h => by cases h), (fun h => by cases h), (fun h => by cases h), (fun h => by cases h), (fun h => by cases h), (fun h => by cases h), (fun h => by cases h), (fun h => by cases h), (fun h => by cases h), (fun h => by cases h), (fun h => by cases h), (fun h => by cases h), (fun h => by cases h), (fun h => by cases h), (fun h => by cases h), (fun h => by cases h), (fun h => by cases h)⟩ ?_ ?_
    · intro iq hiq o ho L hL hdep ac wc hF hJ
      obtain ⟨Ap10r14, cp10r14, Aj10r14, cj10r14, bl, sz, b_B1, b_B7, b_B79, p_0, p_1, o_10_0, o_10_1, cl_11_10, cl_12_10, cl_14_10, s_48, s_49, s_50, s_51, s_52, s_53, s_54, s_55, s_56, s_57, s_58, s_47, s_59, s_60, s_9⟩ := hJ
      have zq := hF.1.trans hA372.1
      match iq, hiq with
      | 0, _ =>
        obtain rfl := Option.some.inj (show some _ = some o from ho); clear ho
        have v4 := hF.sv (s := 4) (by kernel_rfl) (hA372.get (i := 4) (v := .pointer (some ⟨B7, 0, none⟩)))
        refine dj_val (i := 0) (v := .agg #[.slice A1g d.cs.length c1g, .slice A2g d.js.length c2g, .int .i64 d.room]) rfl (.inl rfl) (ev_row v4.eval b_B7 Try.underlying25 rfl (n := 3) (by kernel_rfl) rfl _ rfl) ?_
        exact ⟨⟨_, rfl⟩, Ap10r14, cp10r14, Aj10r14, cj10r14, bl, sz, b_B1, b_B7, b_B79, p_0, p_1, o_10_0, o_10_1, cl_11_10, cl_12_10, cl_14_10, (fun _ => Sv.self (by rw [zq]; decide) _), (so s_49), (so s_50), (so s_51), (so s_52), (so s_53), (so s_54), (so s_55), (so s_56), (so s_57), (so s_58), (so s_47), (so s_59), (so s_60), (so s_9)⟩
      | 1, _ =>
        obtain rfl := Option.some.inj (show some _ = some o from ho); clear ho
        have v7 := hF.sv (s := 7) (by kernel_rfl) (hA372.get (i := 7) (v := .int .i64 (z % 1048576)))
        refine dj_val (i := 1) (v := .int .i64 (z % 1048576)) rfl (.inl rfl) (ev_move v7.eval _ rfl) ?_
        exact ⟨⟨_, rfl⟩, Ap10r14, cp10r14, Aj10r14, cj10r14, bl, sz, b_B1, b_B7, b_B79, p_0, p_1, o_10_0, o_10_1, cl_11_10, cl_12_10, cl_14_10, (so s_48), (fun _ => Sv.self (by rw [zq]; decide) _), (so s_50), (so s_51), (so s_52), (so s_53), (so s_54), (so s_55), (so s_56), (so s_57), (so s_58), (so s_47), (so s_59), (so s_60), (so s_9)⟩
      | 2, _ =>
        obtain rfl := Option.some.inj (show some _ = some o from ho); clear ho
        have v49 := s_49 (dp hdep 1)
        refine dj_val (i := 2) (v := .int .i64 ((z % 1048576) / 4)) rfl (.inl rfl) (ev_quoR (k := .i64) (m := (z % 1048576)) (n := 4) (r := ((z % 1048576) / 4)) v49.eval (ec ac (.int .i64 4)) (by decide) (qd (by omega) (by decide) (by omega)) _ rfl) ?_
        exact ⟨⟨_, rfl⟩, Ap10r14, cp10r14, Aj10r14, cj10r14, bl, sz, b_B1, b_B7, b_B79, p_0, p_1, o_10_0, o_10_1, cl_11_10, cl_12_10, cl_14_10, (so s_48), (so s_49), (fun _ => Sv.self (by rw [zq]; decide) _), (so s_51), (so s_52), (so s_53), (so s_54), (so s_55), (so s_56), (so s_57), (so s_58), (so s_47), (so s_59), (so s_60), (so s_9)⟩
      | 3, _ =>
        obtain rfl := Option.some.inj (show some _ = some o from ho); clear ho
        have v50 := s_50 (dp hdep 2)
        refine dj_val (i := 3) (v := .int .i64 (((z % 1048576) / 4) % 8)) rfl (.inl rfl) (ev_remR (k := .i64) (m := ((z % 1048576) / 4)) (n := 8) (r := (((z % 1048576) / 4) % 8)) v50.eval (ec ac (.int .i64 8)) (by decide) (rm (by omega)) _ rfl) ?_
        exact ⟨⟨_, rfl⟩, Ap10r14, cp10r14, Aj10r14, cj10r14, bl, sz, b_B1, b_B7, b_B79, p_0, p_1, o_10_0, o_10_1, cl_11_10, cl_12_10, cl_14_10, (so s_48), (so s_49), (so s_50), (fun _ => Sv.self (by rw [zq]; decide) _), (so s_52), (so s_53), (so s_54), (so s_55), (so s_56), (so s_57), (so s_58), (so s_47), (so s_59), (so s_60), (so s_9)⟩
      | 4, _ =>
        obtain rfl := Option.some.inj (show some _ = some o from ho); clear ho
        have v7 := hF.sv (s := 7) (by kernel_rfl) (hA372.get (i := 7) (v := .int .i64 (z % 1048576)))
        refine dj_val (i := 4) (v := .int .i64 (z % 1048576)) rfl (.inl rfl) (ev_move v7.eval _ rfl) ?_
        exact ⟨⟨_, rfl⟩, Ap10r14, cp10r14, Aj10r14, cj10r14, bl, sz, b_B1, b_B7, b_B79, p_0, p_1, o_10_0, o_10_1, cl_11_10, cl_12_10, cl_14_10, (so s_48), (so s_49), (so s_50), (so s_51), (fun _ => Sv.self (by rw [zq]; decide) _), (so s_53), (so s_54), (so s_55), (so s_56), (so s_57), (so s_58), (so s_47), (so s_59), (so s_60), (so s_9)⟩
      | 5, _ =>
        obtain rfl := Option.some.inj (show some _ = some o from ho); clear ho
        have v52 := s_52 (dp hdep 4)
        refine dj_val (i := 5) (v := .int .i64 ((z % 1048576) / 32)) rfl (.inl rfl) (ev_quoR (k := .i64) (m := (z % 1048576)) (n := 32) (r := ((z % 1048576) / 32)) v52.eval (ec ac (.int .i64 32)) (by decide) (qd (by omega) (by decide) (by omega)) _ rfl) ?_
        exact ⟨⟨_, rfl⟩, Ap10r14, cp10r14, Aj10r14, cj10r14, bl, sz, b_B1, b_B7, b_B79, p_0, p_1, o_10_0, o_10_1, cl_11_10, cl_12_10, cl_14_10, (so s_48), (so s_49), (so s_50), (so s_51), (so s_52), (fun _ => Sv.self (by rw [zq]; decide) _), (so s_54), (so s_55), (so s_56), (so s_57), (so s_58), (so s_47), (so s_59), (so s_60), (so s_9)⟩
      | 6, _ =>
        obtain rfl := Option.some.inj (show some _ = some o from ho); clear ho
        have v53 := s_53 (dp hdep 5)
        refine dj_val (i := 6) (v := .int .i64 (((z % 1048576) / 32) % 20)) rfl (.inl rfl) (ev_remR (k := .i64) (m := ((z % 1048576) / 32)) (n := 20) (r := (((z % 1048576) / 32) % 20)) v53.eval (ec ac (.int .i64 20)) (by decide) (rm (by omega)) _ rfl) ?_
        exact ⟨⟨_, rfl⟩, Ap10r14, cp10r14, Aj10r14, cj10r14, bl, sz, b_B1, b_B7, b_B79, p_0, p_1, o_10_0, o_10_1, cl_11_10, cl_12_10, cl_14_10, (so s_48), (so s_49), (so s_50), (so s_51), (so s_52), (so s_53), (fun _ => Sv.self (by rw [zq]; decide) _), (so s_55), (so s_56), (so s_57), (so s_58), (so s_47), (so s_59), (so s_60), (so s_9)⟩
      | 7, _ =>
        obtain rfl := Option.some.inj (show some _ = some o from ho); clear ho
        have v7 := hF.sv (s := 7) (by kernel_rfl) (hA372.get (i := 7) (v := .int .i64 (z % 1048576)))
        refine dj_val (i := 7) (v := .int .i64 (z % 1048576)) rfl (.inl rfl) (ev_move v7.eval _ rfl) ?_
        exact ⟨⟨_, rfl⟩, Ap10r14, cp10r14, Aj10r14, cj10r14, bl, sz, b_B1, b_B7, b_B79, p_0, p_1, o_10_0, o_10_1, cl_11_10, cl_12_10, cl_14_10, (so s_48), (so s_49), (so s_50), (so s_51), (so s_52), (so s_53), (so s_54), (fun _ => Sv.self (by rw [zq]; decide) _), (so s_56), (so s_57), (so s_58), (so s_47), (so s_59), (so s_60), (so s_9)⟩
      | 8, _ =>
        obtain rfl := Option.some.inj (show some _ = some o from ho); clear ho
        have v55 := s_55 (dp hdep 7)
        refine dj_val (i := 8) (v := .int .u64 (z % 1048576)) rfl (.inl rfl) (ev_convU (m := (z % 1048576)) v55.eval (by omega) (by omega) _ rfl) ?_
        exact ⟨⟨_, rfl⟩, Ap10r14, cp10r14, Aj10r14, cj10r14, bl, sz, b_B1, b_B7, b_B79, p_0, p_1, o_10_0, o_10_1, cl_11_10, cl_12_10, cl_14_10, (so s_48), (so s_49), (so s_50), (so s_51), (so s_52), (so s_53), (so s_54), (so s_55), (fun _ => Sv.self (by rw [zq]; decide) _), (so s_57), (so s_58), (so s_47), (so s_59), (so s_60), (so s_9)⟩
      | 9, _ =>
        obtain rfl := Option.some.inj (show some _ = some o from ho); clear ho
        have v56 := s_56 (dp hdep 8)
        refine dj_call (i := 9) (f := 33) (args := #[.int .u64 (z % 1048576)]) rfl (.inl rfl) (ev_fn rfl (mp1 v56.eval) (by kernel_rfl) _ rfl) (word_any (z % 1048576) _) ?_
        intro e wk9 hR
        obtain ⟨rfl, hb9⟩ := hR
        refine ⟨_, rfl, ?_⟩
        have hg := g0 hb9
        exact ⟨⟨_, rfl⟩, Ap10r14, cp10r14, Aj10r14, cj10r14, (Below.gN bl hg bl.size), (Nat.le_trans sz hg.size), (b_B1.gN hg), (b_B7.gN hg), (b_B79.gN hg), (Own.gN p_0 hg), (Own.gN p_1 hg), (fun h => Own.gN (o_10_0 h) hg), (fun h => Own.gN (o_10_1 h) hg), cl_11_10, cl_12_10, cl_14_10, (so s_48), (so s_49), (so s_50), (so s_51), (so s_52), (so s_53), (so s_54), (so s_55), (so s_56), (fun _ => Sv.self (by rw [zq]; decide) _), (so s_58), (so s_47), (so s_59), (so s_60), (so s_9)⟩
      | 10, _ =>
        obtain rfl := Option.some.inj (show some _ = some o from ho); clear ho
        have v48 := s_48 (dp hdep 0)
        have v51 := s_51 (dp hdep 3)
        have v54 := s_54 (dp hdep 6)
        have v57 := s_57 (dp hdep 9)
        refine dj_call (i := 10) (f := 12) (args := #[.agg #[.slice A1g d.cs.length c1g, .slice A2g d.js.length c2g, .int .i64 d.room], .int .i64 (((z % 1048576) / 4) % 8), .int .i64 (((z % 1048576) / 32) % 20), .agg (wd (z % 1048576)).va]) rfl (.inl rfl) (ev_fn rfl (mp4 v48.eval v51.eval v54.eval v57.eval) (by kernel_rfl) _ rfl) (Write_any A1g c1g A2g c2g d.cs d.js d.room (((z % 1048576) / 4) % 8) (((z % 1048576) / 32) % 20) (wd (z % 1048576)) _ ⟨(OwnR.gr (e := 28) ⟨rfl, p_0⟩), (OwnR.gr (e := 38) ⟨rfl, p_1⟩)⟩ (by omega) (by omega)) ?_
        intro e wk10 hR
        obtain ⟨Ap10r14, cp10r14, Aj10r14, cj10r14, rfl, hC10, hJ10, hb10⟩ := hR
        refine ⟨_, rfl, ?_⟩
        have hg := g0 hb10
        have hown0 := Own.mono (hC10.2) sz
        have hown1 := Own.mono (hJ10.2) sz
        exact ⟨⟨_, rfl⟩, Ap10r14, cp10r14, Aj10r14, cj10r14, (Below.gN bl hg bl.size), (Nat.le_trans sz hg.size), (b_B1.gN hg), (b_B7.gN hg), (by
            have e0 : L 14 = false := by
              cases hc : L 14
              · rfl
              · exact absurd (cl_14_10 hc) (by rw [hL]; decide)
            have h0 := b_B79.gN hg
            rw [e0] at h0
            show Bx _ _ _ (bif L 14 then _ else _)
            rw [e0]
            exact h0), (Own.gN p_0 hg), (Own.gN p_1 hg), (fun _ => hown0), (fun _ => hown1), (fun _ => rfl), (fun _ => rfl), (fun _ => rfl), (so s_48), (so s_49), (so s_50), (so s_51), (so s_52), (so s_53), (so s_54), (so s_55), (so s_56), (so s_57), (fun _ => Sv.self (by rw [zq]; decide) _), (fun h => absurd (cl_11_10 h) (by rw [hL]; decide)), (fun h => absurd (cl_12_10 h) (by rw [hL]; decide)), (so s_60), (so s_9)⟩
      | 11, _ =>
        obtain rfl := Option.some.inj (show some _ = some o from ho); clear ho
        have v58 := s_58 (dp hdep 10)
        refine dj_val (i := 11) (v := .tuple #[.agg #[.slice Ap10r14 (sub d ⟨true, (((z % 1048576) / 4) % 8), (((z % 1048576) / 32) % 20), (wd (z % 1048576))⟩).1.cs.length cp10r14, .slice Aj10r14 (sub d ⟨true, (((z % 1048576) / 4) % 8), (((z % 1048576) / 32) % 20), (wd (z % 1048576))⟩).1.js.length cj10r14, .int .i64 (sub d ⟨true, (((z % 1048576) / 4) % 8), (((z % 1048576) / 32) % 20), (wd (z % 1048576))⟩).1.room], .int .i64 (sub d ⟨true, (((z % 1048576) / 4) % 8), (((z % 1048576) / 32) % 20), (wd (z % 1048576))⟩).2]) rfl (.inl rfl) (ev_move v58.eval _ rfl) ?_
        exact ⟨⟨_, rfl⟩, Ap10r14, cp10r14, Aj10r14, cj10r14, bl, sz, b_B1, b_B7, b_B79, p_0, p_1, o_10_0, o_10_1, (fun _ => dp hdep 10), cl_12_10, cl_14_10, (so s_48), (so s_49), (so s_50), (so s_51), (so s_52), (so s_53), (so s_54), (so s_55), (so s_56), (so s_57), (so s_58), (fun _ => Sv.self (by rw [zq]; decide) _), (so s_59), (so s_60), (so s_9)⟩
      | 12, _ =>
        obtain rfl := Option.some.inj (show some _ = some o from ho); clear ho
        have v47 := s_47 (dp hdep 11)
        refine dj_val (i := 12) (v := .agg #[.slice Ap10r14 (sub d ⟨true, (((z % 1048576) / 4) % 8), (((z % 1048576) / 32) % 20), (wd (z % 1048576))⟩).1.cs.length cp10r14, .slice Aj10r14 (sub d ⟨true, (((z % 1048576) / 4) % 8), (((z % 1048576) / 32) % 20), (wd (z % 1048576))⟩).1.js.length cj10r14, .int .i64 (sub d ⟨true, (((z % 1048576) / 4) % 8), (((z % 1048576) / 32) % 20), (wd (z % 1048576))⟩).1.room]) rfl (.inl rfl) (ev_ext v47.eval rfl _ rfl) ?_
        exact ⟨⟨_, rfl⟩, Ap10r14, cp10r14, Aj10r14, cj10r14, bl, sz, b_B1, b_B7, b_B79, p_0, p_1, o_10_0, o_10_1, cl_11_10, (fun _ => cl_11_10 (dp hdep 11)), cl_14_10, (so s_48), (so s_49), (so s_50), (so s_51), (so s_52), (so s_53), (so s_54), (so s_55), (so s_56), (so s_57), (so s_58), (so s_47), (fun _ => Sv.self (by rw [zq]; decide) _), (so s_60), (so s_9)⟩
      | 13, _ =>
        obtain rfl := Option.some.inj (show some _ = some o from ho); clear ho
        have v47 := s_47 (dp hdep 11)
        refine dj_val (i := 13) (v := .int .i64 (sub d ⟨true, (((z % 1048576) / 4) % 8), (((z % 1048576) / 32) % 20), (wd (z % 1048576))⟩).2) rfl (.inl rfl) (ev_ext v47.eval rfl _ rfl) ?_
        exact ⟨⟨_, rfl⟩, Ap10r14, cp10r14, Aj10r14, cj10r14, bl, sz, b_B1, b_B7, b_B79, p_0, p_1, o_10_0, o_10_1, cl_11_10, cl_12_10, cl_14_10, (so s_48), (so s_49), (so s_50), (so s_51), (so s_52), (so s_53), (so s_54), (so s_55), (so s_56), (so s_57), (so s_58), (so s_47), (so s_59), (fun _ => Sv.self (by rw [zq]; decide) _), (so s_9)⟩
      | 14, _ =>
        obtain rfl := Option.some.inj (show some _ = some o from ho); clear ho
        have v8 := hF.sv (s := 8) (by kernel_rfl) (hA372.get (i := 8) (v := .pointer (some ⟨B79, 0, none⟩)))
        have v59 := s_59 (dp hdep 12)
        have eB79 : L 14 = false := hL
        have yB79 := b_B79
        rw [eB79] at yB79
        refine dj_skip (i := 14) rfl rfl (.inl rfl) (w' := wc.setRow B79 (#[.slice Ap10r14 (sub d ⟨true, (((z % 1048576) / 4) % 8), (((z % 1048576) / 32) % 20), (wd (z % 1048576))⟩).1.cs.length cp10r14, .slice Aj10r14 (sub d ⟨true, (((z % 1048576) / 4) % 8), (((z % 1048576) / 32) % 20), (wd (z % 1048576))⟩).1.js.length cj10r14, .int .i64 (sub d ⟨true, (((z % 1048576) / 4) % 8), (((z % 1048576) / 32) % 20), (wd (z % 1048576))⟩).1.room])) (ev_srow v8.eval v59.eval yB79 (n := 3) (by kernel_rfl) rfl rfl (dk_one _ _ _ _ _ _ _) _ rfl) ?_
        have hg := grw yB79 (#[.slice Ap10r14 (sub d ⟨true, (((z % 1048576) / 4) % 8), (((z % 1048576) / 32) % 20), (wd (z % 1048576))⟩).1.cs.length cp10r14, .slice Aj10r14 (sub d ⟨true, (((z % 1048576) / 4) % 8), (((z % 1048576) / 32) % 20), (wd (z % 1048576))⟩).1.js.length cj10r14, .int .i64 (sub d ⟨true, (((z % 1048576) / 4) % 8), (((z % 1048576) / 32) % 20), (wd (z % 1048576))⟩).1.room])
        have hx := yB79.row (#[.slice Ap10r14 (sub d ⟨true, (((z % 1048576) / 4) % 8), (((z % 1048576) / 32) % 20), (wd (z % 1048576))⟩).1.cs.length cp10r14, .slice Aj10r14 (sub d ⟨true, (((z % 1048576) / 4) % 8), (((z % 1048576) / 32) % 20), (wd (z % 1048576))⟩).1.js.length cj10r14, .int .i64 (sub d ⟨true, (((z % 1048576) / 4) % 8), (((z % 1048576) / 32) % 20), (wd (z % 1048576))⟩).1.room])
        exact ⟨⟨undef, rfl⟩, Ap10r14, cp10r14, Aj10r14, cj10r14, (Below.gB bl hg bl.size (by omega)), (Nat.le_trans sz hg.size), (b_B1.gB hg (by omega)), (b_B7.gB hg (by omega)), hx, (Own.gBT p_0 hg yB79 (by decide)), (Own.gBT p_1 hg yB79 (by decide)), (fun h => Own.gBT (o_10_0 h) hg yB79 (by decide)), (fun h => Own.gBT (o_10_1 h) hg yB79 (by decide)), cl_11_10, cl_12_10, (fun _ => cl_12_10 (dp hdep 12)), s_48, s_49, s_50, s_51, s_52, s_53, s_54, s_55, s_56, s_57, s_58, s_47, s_59, s_60, s_9⟩
      | 15, _ =>
        obtain rfl := Option.some.inj (show some _ = some o from ho); clear ho
        have v60 := s_60 (dp hdep 13)
        refine dj_val (i := 15) (v := .int .i64 (sub d ⟨true, (((z % 1048576) / 4) % 8), (((z % 1048576) / 32) % 20), (wd (z % 1048576))⟩).2) rfl (.inl rfl) (ev_assign v60.eval _ rfl) ?_
        exact ⟨⟨_, rfl⟩, Ap10r14, cp10r14, Aj10r14, cj10r14, bl, sz, b_B1, b_B7, b_B79, p_0, p_1, o_10_0, o_10_1, cl_11_10, cl_12_10, cl_14_10, (so s_48), (so s_49), (so s_50), (so s_51), (so s_52), (so s_53), (so s_54), (so s_55), (so s_56), (so s_57), (so s_58), (so s_47), (so s_59), (so s_60), (fun _ => Sv.self (by rw [zq]; decide) _)⟩
      | k + 16, h => exact absurd h (by omega)
    · intro L hall ac387 wc387 hF hJ
      obtain ⟨Ap10r14, cp10r14, Aj10r14, cj10r14, bl, sz, b_B1, b_B7, b_B79, p_0, p_1, o_10_0, o_10_1, cl_11_10, cl_12_10, cl_14_10, s_48, s_49, s_50, s_51, s_52, s_53, s_54, s_55, s_56, s_57, s_58, s_47, s_59, s_60, s_9⟩ := hJ
      have hA387 : Ag ac387 84 [(0, .slice A xs.length c), (2, .pointer (some ⟨B1, 0, none⟩)), (4, .pointer (some ⟨B7, 0, none⟩)), (6, .int .i64 (k : Int)), (17, .int .i64 (k : Int)), (18, .slice A xs.length c), (19, .int .i64 (xs.length : Int)), (20, .bool true), (21, .bool true), (22, .int .i64 (k : Int)), (23, .bool true), (24, .bool true), (27, .slice A xs.length c), (28, .int .i64 (k : Int)), (29, .pointer (some (ad72.add (k * 1)))), (30, .int .i64 z), (31, .int .i64 (z % 1048576)), (7, .int .i64 (z % 1048576)), (32, .agg #[.slice A1g d.cs.length c1g, .slice A2g d.js.length c2g, .int .i64 d.room]), (8, .pointer (some ⟨B79, 0, none⟩)), (33, .int .i64 (z % 1048576)), (34, .int .i64 ((z % 1048576) % 4)), (45, .bool false), (44, .bool true), (46, .bool true), (48, .agg #[.slice A1g d.cs.length c1g, .slice A2g d.js.length c2g, .int .i64 d.room]), (49, .int .i64 (z % 1048576)), (50, .int .i64 ((z % 1048576) / 4)), (51, .int .i64 (((z % 1048576) / 4) % 8)), (52, .int .i64 (z % 1048576)), (53, .int .i64 ((z % 1048576) / 32)), (54, .int .i64 (((z % 1048576) / 32) % 20)), (55, .int .i64 (z % 1048576)), (56, .int .u64 (z % 1048576)), (57, .agg (wd (z % 1048576)).va), (58, .tuple #[.agg #[.slice Ap10r14 (sub d ⟨true, (((z % 1048576) / 4) % 8), (((z % 1048576) / 32) % 20), (wd (z % 1048576))⟩).1.cs.length cp10r14, .slice Aj10r14 (sub d ⟨true, (((z % 1048576) / 4) % 8), (((z % 1048576) / 32) % 20), (wd (z % 1048576))⟩).1.js.length cj10r14, .int .i64 (sub d ⟨true, (((z % 1048576) / 4) % 8), (((z % 1048576) / 32) % 20), (wd (z % 1048576))⟩).1.room], .int .i64 (sub d ⟨true, (((z % 1048576) / 4) % 8), (((z % 1048576) / 32) % 20), (wd (z % 1048576))⟩).2]), (47, .tuple #[.agg #[.slice Ap10r14 (sub d ⟨true, (((z % 1048576) / 4) % 8), (((z % 1048576) / 32) % 20), (wd (z % 1048576))⟩).1.cs.length cp10r14, .slice Aj10r14 (sub d ⟨true, (((z % 1048576) / 4) % 8), (((z % 1048576) / 32) % 20), (wd (z % 1048576))⟩).1.js.length cj10r14, .int .i64 (sub d ⟨true, (((z % 1048576) / 4) % 8), (((z % 1048576) / 32) % 20), (wd (z % 1048576))⟩).1.room], .int .i64 (sub d ⟨true, (((z % 1048576) / 4) % 8), (((z % 1048576) / 32) % 20), (wd (z % 1048576))⟩).2]), (59, .agg #[.slice Ap10r14 (sub d ⟨true, (((z % 1048576) / 4) % 8), (((z % 1048576) / 32) % 20), (wd (z % 1048576))⟩).1.cs.length cp10r14, .slice Aj10r14 (sub d ⟨true, (((z % 1048576) / 4) % 8), (((z % 1048576) / 32) % 20), (wd (z % 1048576))⟩).1.js.length cj10r14, .int .i64 (sub d ⟨true, (((z % 1048576) / 4) % 8), (((z % 1048576) / 32) % 20), (wd (z % 1048576))⟩).1.room]), (60, .int .i64 (sub d ⟨true, (((z % 1048576) / 4) % 8), (((z % 1048576) / 32) % 20), (wd (z % 1048576))⟩).2), (9, .int .i64 (sub d ⟨true, (((z % 1048576) / 4) % 8), (((z % 1048576) / 32) % 20), (wd (z % 1048576))⟩).2)] := (((((((((((((((((((((((((((((((((((((((((Ag.nil (hF.1.trans hA372.1) (hF.2.1.trans hA372.2.1)).cons (s_9 (hall 15 (by decide)))).cons (s_60 (hall 13 (by decide)))).cons (s_59 (hall 12 (by decide)))).cons (s_47 (hall 11 (by decide)))).cons (s_58 (hall 10 (by decide)))).cons (s_57 (hall 9 (by decide)))).cons (s_56 (hall 8 (by decide)))).cons (s_55 (hall 7 (by decide)))).cons (s_54 (hall 6 (by decide)))).cons (s_53 (hall 5 (by decide)))).cons (s_52 (hall 4 (by decide)))).cons (s_51 (hall 3 (by decide)))).cons (s_50 (hall 2 (by decide)))).cons (s_49 (hall 1 (by decide)))).cons (s_48 (hall 0 (by decide)))).cons (hF.sv (s := 46) (by kernel_rfl) (hA372.get (i := 46) (v := .bool true)))).cons (hF.sv (s := 44) (by kernel_rfl) (hA372.get (i := 44) (v := .bool true)))).cons (hF.sv (s := 45) (by kernel_rfl) (hA372.get (i := 45) (v := .bool false)))).cons (hF.sv (s := 34) (by kernel_rfl) (hA372.get (i := 34) (v := .int .i64 ((z % 1048576) % 4))))).cons (hF.sv (s := 33) (by kernel_rfl) (hA372.get (i := 33) (v := .int .i64 (z % 1048576))))).cons (hF.sv (s := 8) (by kernel_rfl) (hA372.get (i := 8) (v := .pointer (some ⟨B79, 0, none⟩))))).cons (hF.sv (s := 32) (by kernel_rfl) (hA372.get (i := 32) (v := .agg #[.slice A1g d.cs.length c1g, .slice A2g d.js.length c2g, .int .i64 d.room])))).cons (hF.sv (s := 7) (by kernel_rfl) (hA372.get (i := 7) (v := .int .i64 (z % 1048576))))).cons (hF.sv (s := 31) (by kernel_rfl) (hA372.get (i := 31) (v := .int .i64 (z % 1048576))))).cons (hF.sv (s := 30) (by kernel_rfl) (hA372.get (i := 30) (v := .int .i64 z)))).cons (hF.sv (s := 29) (by kernel_rfl) (hA372.get (i := 29) (v := .pointer (some (ad72.add (k * 1))))))).cons (hF.sv (s := 28) (by kernel_rfl) (hA372.get (i := 28) (v := .int .i64 (k : Int))))).cons (hF.sv (s := 27) (by kernel_rfl) (hA372.get (i := 27) (v := .slice A xs.length c)))).cons (hF.sv (s := 24) (by kernel_rfl) (hA372.get (i := 24) (v := .bool true)))).cons (hF.sv (s := 23) (by kernel_rfl) (hA372.get (i := 23) (v := .bool true)))).cons (hF.sv (s := 22) (by kernel_rfl) (hA372.get (i := 22) (v := .int .i64 (k : Int))))).cons (hF.sv (s := 21) (by kernel_rfl) (hA372.get (i := 21) (v := .bool true)))).cons (hF.sv (s := 20) (by kernel_rfl) (hA372.get (i := 20) (v := .bool true)))).cons (hF.sv (s := 19) (by kernel_rfl) (hA372.get (i := 19) (v := .int .i64 (xs.length : Int))))).cons (hF.sv (s := 18) (by kernel_rfl) (hA372.get (i := 18) (v := .slice A xs.length c)))).cons (hF.sv (s := 17) (by kernel_rfl) (hA372.get (i := 17) (v := .int .i64 (k : Int))))).cons (hF.sv (s := 6) (by kernel_rfl) (hA372.get (i := 6) (v := .int .i64 (k : Int))))).cons (hF.sv (s := 4) (by kernel_rfl) (hA372.get (i := 4) (v := .pointer (some ⟨B7, 0, none⟩))))).cons (hF.sv (s := 2) (by kernel_rfl) (hA372.get (i := 2) (v := .pointer (some ⟨B1, 0, none⟩))))).cons (hF.sv (s := 0) (by kernel_rfl) (hA372.get (i := 0) (v := .slice A xs.length c))))
      have bl387 := bl
      have sz387 := sz
      have b387_B1 := b_B1
      have b387_B7 := b_B7
      have b387_B79 : Bx wc387 B79 25 (#[.slice Ap10r14 (sub d ⟨true, (((z % 1048576) / 4) % 8), (((z % 1048576) / 32) % 20), (wd (z % 1048576))⟩).1.cs.length cp10r14, .slice Aj10r14 (sub d ⟨true, (((z % 1048576) / 4) % 8), (((z % 1048576) / 32) % 20), (wd (z % 1048576))⟩).1.js.length cj10r14, .int .i64 (sub d ⟨true, (((z % 1048576) / 4) % 8), (((z % 1048576) / 32) % 20), (wd (z % 1048576))⟩).1.room]) := by
        have h := b_B79
        rw [hall 14 (by decide)] at h
        exact h
      have p387_0 := p_0
      have p387_1 := p_1
      have o387_10_0 := o_10_0 (hall 10 (by decide))
      have hh387_10_0 := Own.hi o387_10_0
      have o387_10_1 := o_10_1 (hall 10 (by decide))
      have hh387_10_1 := Own.hi o387_10_1
      clear hF bl sz b_B1 b_B7 b_B79 p_0 p_1 o_10_0 o_10_1 cl_11_10 cl_12_10 cl_14_10 s_48 s_49 s_50 s_51 s_52 s_53 s_54 s_55 s_56 s_57 s_58 s_47 s_59 s_60 s_9 hall hA372
      refine blk_n ?_
      refine then_n ?_
      refine wp_seq ?_
      refine wp_region_lit ?_
      refine sx_val hA387 rfl (ev_move (hA387.ev (i := 9) (v := .int .i64 (sub d ⟨true, (((z % 1048576) / 4) % 8), (((z % 1048576) / 32) % 20), (wd (z % 1048576))⟩).2)) _ rfl) ?_
      intro a388 hA388; clear hA387
      refine sx_nil ?_
      refine then_n ?_
      refine wp_block ?_
      refine wp_seq ?_
      refine wp_region_lit ?_
      cases hd389 : decide ((sub d ⟨true, (((z % 1048576) / 4) % 8), (((z % 1048576) / 32) % 20), (wd (z % 1048576))⟩).2 = 0)
      rotate_left
      · have hp389 := of_decide_eq_true hd389
        refine sx_val (v := .bool true) hA388 rfl (ev_eqlB (k := .i64) (m := (sub d ⟨true, (((z % 1048576) / 4) % 8), (((z % 1048576) / 32) % 20), (wd (z % 1048576))⟩).2) (n := 0) (hA388.ev (i := 74)) (ec _ (.int .i64 0)) hd389 _ rfl) ?_
        intro a420 hA420; clear hA388
        refine sx_val hA420 rfl (ev_assign (hA420.ev (i := 77) (v := .bool true)) _ rfl) ?_
        intro a421 hA421; clear hA420
        refine sx_nil ?_
        refine then_n ?_
        refine wp_cond_true (hA421.ev (i := 76) (v := .bool true)) ?_
        refine wp_region_lit ?_
        refine sx_val (v := .agg #[.slice Ap10r14 (sub d ⟨true, (((z % 1048576) / 4) % 8), (((z % 1048576) / 32) % 20), (wd (z % 1048576))⟩).1.cs.length cp10r14, .slice Aj10r14 (sub d ⟨true, (((z % 1048576) / 4) % 8), (((z % 1048576) / 32) % 20), (wd (z % 1048576))⟩).1.js.length cj10r14, .int .i64 (sub d ⟨true, (((z % 1048576) / 4) % 8), (((z % 1048576) / 32) % 20), (wd (z % 1048576))⟩).1.room]) hA421 rfl (ev_row (hA421.ev (i := 8) (v := .pointer (some ⟨B79, 0, none⟩))) b387_B79 Try.underlying25 rfl (n := 3) (by kernel_rfl) rfl _ rfl) ?_
        intro a422 hA422; clear hA421
        refine sx_store hA422 rfl (.inl rfl) rfl (hA422.ev (i := 4) (v := .pointer (some ⟨B7, 0, none⟩))) (hA422.ev (i := 78) (v := .agg #[.slice Ap10r14 (sub d ⟨true, (((z % 1048576) / 4) % 8), (((z % 1048576) / 32) % 20), (wd (z % 1048576))⟩).1.cs.length cp10r14, .slice Aj10r14 (sub d ⟨true, (((z % 1048576) / 4) % 8), (((z % 1048576) / 32) % 20), (wd (z % 1048576))⟩).1.js.length cj10r14, .int .i64 (sub d ⟨true, (((z % 1048576) / 4) % 8), (((z % 1048576) / 32) % 20), (wd (z % 1048576))⟩).1.room])) b387_B7 (by kernel_rfl) rfl (dk_one _ _ _ _ _ _ _) ?_
        intro w423 hx423 hg423
        have hs423 := hg423.size
        refine sx_nil ?_
        refine blk_n ?_
        refine blk_n ?_
        refine then_n ?_
        refine wp_region_lit ?_
        refine sx_val hA422 rfl (ev_move (hA422.ev (i := 6) (v := .int .i64 (k : Int))) _ rfl) ?_
        intro a424 hA424; clear hA422
        refine sx_val (v := .int .i64 ((k + 1 : Nat) : Int)) hA424 rfl (ev_addR (k := .i64) (m := (k : Int)) (n := 1) (r := ((k + 1 : Nat) : Int)) (hA424.ev (i := 25)) (ec _ (.int .i64 1)) (wr (by omega) (by omega) (by omega)) _ rfl) ?_
        intro a425 hA425; clear hA424
        refine sx_val hA425 rfl (ev_assign (hA425.ev (i := 26) (v := .int .i64 ((k + 1 : Nat) : Int))) _ rfl) ?_
        intro a426 hA426; clear hA425
        refine sx_nil ?_
        refine then_n ?_
        have o387_10_427 := Own.gBT o387_10_0 hg423 b387_B7 (by decide)
        have o387_10_428 := Own.gBT o387_10_1 hg423 b387_B7 (by decide)
        have b387_B1_429 := b387_B1.gB hg423 (by omega)
        have bl387_430 := Below.gB bl387 hg423 bl387.size (by omega)
        refine ⟨xs.length - (k + 1), by omega, k + 1, (sub d ⟨true, (((z % 1048576) / 4) % 8), (((z % 1048576) / 32) % 20), (wd (z % 1048576))⟩).1, Ap10r14, cp10r14, Aj10r14, cj10r14, rfl, (((((Ag.nil hA426.1 hA426.2.1).cons (hA426.get (i := 6) (v := .int .i64 ((k + 1 : Nat) : Int)))).cons (hA426.get (i := 4) (v := .pointer (some ⟨B7, 0, none⟩)))).cons (hA426.get (i := 2) (v := .pointer (some ⟨B1, 0, none⟩)))).cons (hA426.get (i := 0) (v := .slice A xs.length c))), by omega, D86.sub q26_1 rfl (by show _ % 20 < 20; omega) hp389, b387_B1_429, hx423, (Own.mono o387_10_427 (by omega)), (Own.mono o387_10_428 (by omega)), by omega, bl387_430⟩
      have hp389 := of_decide_eq_false hd389
      refine sx_val (v := .bool false) hA388 rfl (ev_eqlB (k := .i64) (m := (sub d ⟨true, (((z % 1048576) / 4) % 8), (((z % 1048576) / 32) % 20), (wd (z % 1048576))⟩).2) (n := 0) (hA388.ev (i := 74)) (ec _ (.int .i64 0)) hd389 _ rfl) ?_
      intro a390 hA390; clear hA388
      refine sx_val hA390 rfl (ev_assign (hA390.ev (i := 77) (v := .bool false)) _ rfl) ?_
      intro a391 hA391; clear hA390
      refine sx_nil ?_
      refine then_n ?_
      refine wp_cond_false (hA391.ev (i := 76) (v := .bool false)) ?_
      refine wp_seq ?_
      refine wp_seq ?_
      refine wp_region_lit ?_
      cases hd392 : decide ((sub d ⟨true, (((z % 1048576) / 4) % 8), (((z % 1048576) / 32) % 20), (wd (z % 1048576))⟩).2 = 10)
      rotate_left
      · have hp392 := of_decide_eq_true hd392
        refine sx_val (v := .bool true) hA391 rfl (ev_eqlB (k := .i64) (m := (sub d ⟨true, (((z % 1048576) / 4) % 8), (((z % 1048576) / 32) % 20), (wd (z % 1048576))⟩).2) (n := 10) (hA391.ev (i := 74)) (ec _ (.int .i64 10)) hd392 _ rfl) ?_
        intro a415 hA415; clear hA391
        refine sx_val hA415 rfl (ev_assign (hA415.ev (i := 80) (v := .bool true)) _ rfl) ?_
        intro a416 hA416; clear hA415
        refine sx_nil ?_
        refine then_n ?_
        refine wp_cond_true (hA416.ev (i := 79) (v := .bool true)) ?_
        refine wp_skip ?_
        refine then_n ?_
        refine wp_cond_true (hA416.ev (i := 79) (v := .bool true)) ?_
        refine wp_skip ?_
        refine blk_n ?_
        refine blk_n ?_
        refine then_n ?_
        refine wp_region_lit ?_
        refine sx_val hA416 rfl (ev_move (hA416.ev (i := 6) (v := .int .i64 (k : Int))) _ rfl) ?_
        intro a417 hA417; clear hA416
        refine sx_val (v := .int .i64 ((k + 1 : Nat) : Int)) hA417 rfl (ev_addR (k := .i64) (m := (k : Int)) (n := 1) (r := ((k + 1 : Nat) : Int)) (hA417.ev (i := 25)) (ec _ (.int .i64 1)) (wr (by omega) (by omega) (by omega)) _ rfl) ?_
        intro a418 hA418; clear hA417
        refine sx_val hA418 rfl (ev_assign (hA418.ev (i := 26) (v := .int .i64 ((k + 1 : Nat) : Int))) _ rfl) ?_
        intro a419 hA419; clear hA418
        refine sx_nil ?_
        refine then_n ?_
        refine ⟨xs.length - (k + 1), by omega, k + 1, d, A1g, c1g, A2g, c2g, rfl, (((((Ag.nil hA419.1 hA419.2.1).cons (hA419.get (i := 6) (v := .int .i64 ((k + 1 : Nat) : Int)))).cons (hA419.get (i := 4) (v := .pointer (some ⟨B7, 0, none⟩)))).cons (hA419.get (i := 2) (v := .pointer (some ⟨B1, 0, none⟩)))).cons (hA419.get (i := 0) (v := .slice A xs.length c))), by omega, q26_1, b387_B1, b387_B7, (Own.mono p387_0 (by omega)), (Own.mono p387_1 (by omega)), by omega, bl387⟩
      have hp392 := of_decide_eq_false hd392
      refine sx_val (v := .bool false) hA391 rfl (ev_eqlB (k := .i64) (m := (sub d ⟨true, (((z % 1048576) / 4) % 8), (((z % 1048576) / 32) % 20), (wd (z % 1048576))⟩).2) (n := 10) (hA391.ev (i := 74)) (ec _ (.int .i64 10)) hd392 _ rfl) ?_
      intro a393 hA393; clear hA391
      refine sx_val hA393 rfl (ev_assign (hA393.ev (i := 80) (v := .bool false)) _ rfl) ?_
      intro a394 hA394; clear hA393
      refine sx_nil ?_
      refine then_n ?_
      refine wp_cond_false (hA394.ev (i := 79) (v := .bool false)) ?_
      refine wp_seq ?_
      refine wp_region_lit ?_
      cases hd395 : decide ((sub d ⟨true, (((z % 1048576) / 4) % 8), (((z % 1048576) / 32) % 20), (wd (z % 1048576))⟩).2 = 5)
      rotate_left
      · have hp395 := of_decide_eq_true hd395
        refine sx_val (v := .bool true) hA394 rfl (ev_eqlB (k := .i64) (m := (sub d ⟨true, (((z % 1048576) / 4) % 8), (((z % 1048576) / 32) % 20), (wd (z % 1048576))⟩).2) (n := 5) (hA394.ev (i := 74)) (ec _ (.int .i64 5)) hd395 _ rfl) ?_
        intro a410 hA410; clear hA394
        refine sx_val hA410 rfl (ev_assign (hA410.ev (i := 81) (v := .bool true)) _ rfl) ?_
        intro a411 hA411; clear hA410
        refine sx_nil ?_
        refine then_n ?_
        refine wp_cond_true (hA411.ev (i := 79) (v := .bool true)) ?_
        refine wp_skip ?_
        refine then_n ?_
        refine wp_cond_true (hA411.ev (i := 79) (v := .bool true)) ?_
        refine wp_skip ?_
        refine blk_n ?_
        refine blk_n ?_
        refine then_n ?_
        refine wp_region_lit ?_
        refine sx_val hA411 rfl (ev_move (hA411.ev (i := 6) (v := .int .i64 (k : Int))) _ rfl) ?_
        intro a412 hA412; clear hA411
        refine sx_val (v := .int .i64 ((k + 1 : Nat) : Int)) hA412 rfl (ev_addR (k := .i64) (m := (k : Int)) (n := 1) (r := ((k + 1 : Nat) : Int)) (hA412.ev (i := 25)) (ec _ (.int .i64 1)) (wr (by omega) (by omega) (by omega)) _ rfl) ?_
        intro a413 hA413; clear hA412
        refine sx_val hA413 rfl (ev_assign (hA413.ev (i := 26) (v := .int .i64 ((k + 1 : Nat) : Int))) _ rfl) ?_
        intro a414 hA414; clear hA413
        refine sx_nil ?_
        refine then_n ?_
        refine ⟨xs.length - (k + 1), by omega, k + 1, d, A1g, c1g, A2g, c2g, rfl, (((((Ag.nil hA414.1 hA414.2.1).cons (hA414.get (i := 6) (v := .int .i64 ((k + 1 : Nat) : Int)))).cons (hA414.get (i := 4) (v := .pointer (some ⟨B7, 0, none⟩)))).cons (hA414.get (i := 2) (v := .pointer (some ⟨B1, 0, none⟩)))).cons (hA414.get (i := 0) (v := .slice A xs.length c))), by omega, q26_1, b387_B1, b387_B7, (Own.mono p387_0 (by omega)), (Own.mono p387_1 (by omega)), by omega, bl387⟩
      have hp395 := of_decide_eq_false hd395
      refine sx_val (v := .bool false) hA394 rfl (ev_eqlB (k := .i64) (m := (sub d ⟨true, (((z % 1048576) / 4) % 8), (((z % 1048576) / 32) % 20), (wd (z % 1048576))⟩).2) (n := 5) (hA394.ev (i := 74)) (ec _ (.int .i64 5)) hd395 _ rfl) ?_
      intro a396 hA396; clear hA394
      refine sx_val hA396 rfl (ev_assign (hA396.ev (i := 81) (v := .bool false)) _ rfl) ?_
      intro a397 hA397; clear hA396
      refine sx_nil ?_
      refine then_n ?_
      refine wp_cond_false (hA397.ev (i := 79) (v := .bool false)) ?_
      refine wp_region_lit ?_
      cases hd398 : decide ((sub d ⟨true, (((z % 1048576) / 4) % 8), (((z % 1048576) / 32) % 20), (wd (z % 1048576))⟩).2 = 6)
      rotate_left
      · have hp398 := of_decide_eq_true hd398
        refine sx_val (v := .bool true) hA397 rfl (ev_eqlB (k := .i64) (m := (sub d ⟨true, (((z % 1048576) / 4) % 8), (((z % 1048576) / 32) % 20), (wd (z % 1048576))⟩).2) (n := 6) (hA397.ev (i := 74)) (ec _ (.int .i64 6)) hd398 _ rfl) ?_
        intro a405 hA405; clear hA397
        refine sx_val hA405 rfl (ev_assign (hA405.ev (i := 82) (v := .bool true)) _ rfl) ?_
        intro a406 hA406; clear hA405
        refine sx_nil ?_
        refine then_n ?_
        refine wp_cond_true (hA406.ev (i := 79) (v := .bool true)) ?_
        refine wp_skip ?_
        refine blk_n ?_
        refine blk_n ?_
        refine then_n ?_
        refine wp_region_lit ?_
        refine sx_val hA406 rfl (ev_move (hA406.ev (i := 6) (v := .int .i64 (k : Int))) _ rfl) ?_
        intro a407 hA407; clear hA406
        refine sx_val (v := .int .i64 ((k + 1 : Nat) : Int)) hA407 rfl (ev_addR (k := .i64) (m := (k : Int)) (n := 1) (r := ((k + 1 : Nat) : Int)) (hA407.ev (i := 25)) (ec _ (.int .i64 1)) (wr (by omega) (by omega) (by omega)) _ rfl) ?_
        intro a408 hA408; clear hA407
        refine sx_val hA408 rfl (ev_assign (hA408.ev (i := 26) (v := .int .i64 ((k + 1 : Nat) : Int))) _ rfl) ?_
        intro a409 hA409; clear hA408
        refine sx_nil ?_
        refine then_n ?_
        refine ⟨xs.length - (k + 1), by omega, k + 1, d, A1g, c1g, A2g, c2g, rfl, (((((Ag.nil hA409.1 hA409.2.1).cons (hA409.get (i := 6) (v := .int .i64 ((k + 1 : Nat) : Int)))).cons (hA409.get (i := 4) (v := .pointer (some ⟨B7, 0, none⟩)))).cons (hA409.get (i := 2) (v := .pointer (some ⟨B1, 0, none⟩)))).cons (hA409.get (i := 0) (v := .slice A xs.length c))), by omega, q26_1, b387_B1, b387_B7, (Own.mono p387_0 (by omega)), (Own.mono p387_1 (by omega)), by omega, bl387⟩
      have hp398 := of_decide_eq_false hd398
      refine sx_val (v := .bool false) hA397 rfl (ev_eqlB (k := .i64) (m := (sub d ⟨true, (((z % 1048576) / 4) % 8), (((z % 1048576) / 32) % 20), (wd (z % 1048576))⟩).2) (n := 6) (hA397.ev (i := 74)) (ec _ (.int .i64 6)) hd398 _ rfl) ?_
      intro a399 hA399; clear hA397
      refine sx_val hA399 rfl (ev_assign (hA399.ev (i := 82) (v := .bool false)) _ rfl) ?_
      intro a400 hA400; clear hA399
      refine sx_nil ?_
      refine then_n ?_
      refine wp_cond_false (hA400.ev (i := 79) (v := .bool false)) ?_
      refine wp_seq ?_
      refine wp_region_lit ?_
      refine sx_val (v := .agg #[.slice A1g d.cs.length c1g, .slice A2g d.js.length c2g, .int .i64 d.room]) hA400 rfl (ev_row (hA400.ev (i := 4) (v := .pointer (some ⟨B7, 0, none⟩))) b387_B7 Try.underlying25 rfl (n := 3) (by kernel_rfl) rfl _ rfl) ?_
      intro a401 hA401; clear hA400
      refine sx_store hA401 rfl (.inl rfl) rfl (hA401.ev (i := 2) (v := .pointer (some ⟨B1, 0, none⟩))) (hA401.ev (i := 75) (v := .agg #[.slice A1g d.cs.length c1g, .slice A2g d.js.length c2g, .int .i64 d.room])) b387_B1 (by kernel_rfl) rfl (dk_one _ _ _ _ _ _ _) ?_
      intro w402 hx402 hg402
      have hs402 := hg402.size
      refine sx_val hA401 rfl (ev_assign (ec _ (.bool false)) _ rfl) ?_
      intro a403 hA403; clear hA401
      refine sx_nil ?_
      refine then_n ?_
      refine wp_ret ?_
      refine blk_r ?_
      refine blk_r ?_
      refine then_r ?_
      refine then_r ?_
      refine blk_r ?_
      refine then_r ?_
      refine bodyPost_ret (rs_ct (v := .bool false) Try.results34 hA403 (by kernel_rfl) (by kernel_rfl) hx402 Try.underlying25 rfl (by kernel_rfl)) hA403.2.1 ?_
      have bl387_404 := Below.gB bl387 hg402 bl387.size (by omega)
      rcases sub_err (q26_1).ok (D86.rng q26_1 (b := true) (c := (wd (z % 1048576))) (s := ((z % 1048576) / 4) % 8) (f := ((z % 1048576) / 32) % 20) (by omega) (by omega) (by omega) (by omega)) with h | h | h <;> omega
  have hp87 := of_decide_eq_false hd87
  refine sx_val (v := .bool false) hA86 rfl (ev_eqlB (k := .i64) (m := ((z % 1048576) % 4)) (n := 1) (hA86.ev (i := 34)) (ec _ (.int .i64 1)) hd87 _ rfl) ?_
  intro a88 hA88; clear hA86
  refine sx_val hA88 rfl (ev_assign (hA88.ev (i := 46) (v := .bool false)) _ rfl) ?_
  intro a89 hA89; clear hA88
  refine sx_nil ?_
  refine then_n ?_
  refine wp_cond_false (hA89.ev (i := 44) (v := .bool false)) ?_
  refine wp_seq ?_
  refine wp_region_lit ?_
  cases hd90 : decide (((z % 1048576) % 4) = 2)
  · have hp90 := of_decide_eq_false hd90
    refine sx_val (v := .bool false) hA89 rfl (ev_eqlB (k := .i64) (m := ((z % 1048576) % 4)) (n := 2) (hA89.ev (i := 34)) (ec _ (.int .i64 2)) hd90 _ rfl) ?_
    intro a91 hA91; clear hA89
    refine sx_val hA91 rfl (ev_assign (hA91.ev (i := 62) (v := .bool false)) _ rfl) ?_
    intro a92 hA92; clear hA91
    refine sx_nil ?_
    refine then_n ?_
    refine wp_cond_false (hA92.ev (i := 61) (v := .bool false)) ?_
    refine wp_region_lit ?_
    have f26_93 := f26_77.gN hg79
    have f26_94 := f26_93.gB hg80 (by omega)
    refine sx_val (v := .agg #[.slice A1g d.cs.length c1g, .slice A2g d.js.length c2g, .int .i64 d.room]) hA92 rfl (ev_row (hA92.ev (i := 4) (v := .pointer (some ⟨B7, 0, none⟩))) f26_94 Try.underlying25 rfl (n := 3) (by kernel_rfl) rfl _ rfl) ?_
    intro a95 hA95; clear hA92
    refine sx_val hA95 rfl (ev_move (hA95.ev (i := 7) (v := .int .i64 (z % 1048576))) _ rfl) ?_
    intro a96 hA96; clear hA95
    refine sx_val (v := .int .i64 ((z % 1048576) / 4)) hA96 rfl (ev_quoR (k := .i64) (m := (z % 1048576)) (n := 4) (r := ((z % 1048576) / 4)) (hA96.ev (i := 37)) (ec _ (.int .i64 4)) (by decide) (qd (by omega) (by decide) (by omega)) _ rfl) ?_
    intro a97 hA97; clear hA96
    refine sx_val (v := .int .i64 (((z % 1048576) / 4) % 3)) hA97 rfl (ev_remR (k := .i64) (m := ((z % 1048576) / 4)) (n := 3) (r := (((z % 1048576) / 4) % 3)) (hA97.ev (i := 38)) (ec _ (.int .i64 3)) (by decide) (rm (by omega)) _ rfl) ?_
    intro a98 hA98; clear hA97
    have f26_100 := Own.gN f26_2 hg75
    have f26_101 := Own.gN f26_100 hg79
    have f26_102 := Own.gBT f26_101 hg80 hx79 (by decide)
    have f26_103 := Own.gN f26_3 hg75
    have f26_104 := Own.gN f26_103 hg79
    have f26_105 := Own.gBT f26_104 hg80 hx79 (by decide)
    refine sx_call (f := 17) (args := #[.agg #[.slice A1g d.cs.length c1g, .slice A2g d.js.length c2g, .int .i64 d.room], .int .i64 (((z % 1048576) / 4) % 3)]) hA98 rfl (by decide) (.inl rfl) (ev_fn rfl (mp2 (hA98.ev (i := 36) (v := .agg #[.slice A1g d.cs.length c1g, .slice A2g d.js.length c2g, .int .i64 d.room])) (hA98.ev (i := 39) (v := .int .i64 (((z % 1048576) / 4) % 3)))) (by kernel_rfl) _ rfl) (Complete_any A1g c1g A2g c2g d.cs d.js d.room (((z % 1048576) / 4) % 3) _ ⟨(OwnR.gr (e := 28) ⟨rfl, f26_102⟩), (OwnR.gr (e := 38) ⟨rfl, f26_105⟩)⟩ (by omega) (by omega)) ?_
    intro e99 w99 hR99
    obtain ⟨Ap99, cp99, Aj99, cj99, rfl, hC99, hJ99, hb99⟩ := hR99
    refine ⟨_, rfl, ?_⟩
    intro a99 hA99
    clear hA98
    have hg99 := g0 hb99
    have hs99 := hg99.size
    clear hb99
    have ho99_0 : Own w99 (w80.heap.size) 28 8 (.slice Ap99 (cmp d (((z % 1048576) / 4) % 3)).1.cs.length cp99) (cmp d (((z % 1048576) / 4) % 3)).1.cs.length (flat Ct.va (cmp d (((z % 1048576) / 4) % 3)).1.cs) := hC99.2
    have hh99_0 := Own.hi ho99_0
    have ho99_1 : Own w99 (w80.heap.size) 38 11 (.slice Aj99 (cmp d (((z % 1048576) / 4) % 3)).1.js.length cj99) (cmp d (((z % 1048576) / 4) % 3)).1.js.length (flat Jb.va (cmp d (((z % 1048576) / 4) % 3)).1.js) := hJ99.2
    have hh99_1 := Own.hi ho99_1
    refine sx_val hA99 rfl (ev_move (hA99.ev (i := 40) (v := .tuple #[.agg #[.slice Ap99 (cmp d (((z % 1048576) / 4) % 3)).1.cs.length cp99, .slice Aj99 (cmp d (((z % 1048576) / 4) % 3)).1.js.length cj99, .int .i64 (cmp d (((z % 1048576) / 4) % 3)).1.room], .agg (cmp d (((z % 1048576) / 4) % 3)).2.1.va, .int .i64 (cmp d (((z % 1048576) / 4) % 3)).2.2])) _ rfl) ?_
    intro a106 hA106; clear hA99
    refine sx_val (v := .agg #[.slice Ap99 (cmp d (((z % 1048576) / 4) % 3)).1.cs.length cp99, .slice Aj99 (cmp d (((z % 1048576) / 4) % 3)).1.js.length cj99, .int .i64 (cmp d (((z % 1048576) / 4) % 3)).1.room]) hA106 rfl (ev_ext (hA106.ev (i := 35) (v := .tuple #[.agg #[.slice Ap99 (cmp d (((z % 1048576) / 4) % 3)).1.cs.length cp99, .slice Aj99 (cmp d (((z % 1048576) / 4) % 3)).1.js.length cj99, .int .i64 (cmp d (((z % 1048576) / 4) % 3)).1.room], .agg (cmp d (((z % 1048576) / 4) % 3)).2.1.va, .int .i64 (cmp d (((z % 1048576) / 4) % 3)).2.2])) rfl _ rfl) ?_
    intro a107 hA107; clear hA106
    refine sx_val (v := .agg (cmp d (((z % 1048576) / 4) % 3)).2.1.va) hA107 rfl (ev_ext (hA107.ev (i := 35) (v := .tuple #[.agg #[.slice Ap99 (cmp d (((z % 1048576) / 4) % 3)).1.cs.length cp99, .slice Aj99 (cmp d (((z % 1048576) / 4) % 3)).1.js.length cj99, .int .i64 (cmp d (((z % 1048576) / 4) % 3)).1.room], .agg (cmp d (((z % 1048576) / 4) % 3)).2.1.va, .int .i64 (cmp d (((z % 1048576) / 4) % 3)).2.2])) rfl _ rfl) ?_
    intro a108 hA108; clear hA107
    refine sx_val (v := .int .i64 (cmp d (((z % 1048576) / 4) % 3)).2.2) hA108 rfl (ev_ext (hA108.ev (i := 35) (v := .tuple #[.agg #[.slice Ap99 (cmp d (((z % 1048576) / 4) % 3)).1.cs.length cp99, .slice Aj99 (cmp d (((z % 1048576) / 4) % 3)).1.js.length cj99, .int .i64 (cmp d (((z % 1048576) / 4) % 3)).1.room], .agg (cmp d (((z % 1048576) / 4) % 3)).2.1.va, .int .i64 (cmp d (((z % 1048576) / 4) % 3)).2.2])) rfl _ rfl) ?_
    intro a109 hA109; clear hA108
    have hx80_111 := hx80.gN hg99
    refine sx_store hA109 rfl (.inl rfl) rfl (hA109.ev (i := 8) (v := .pointer (some ⟨B79, 0, none⟩))) (hA109.ev (i := 41) (v := .agg #[.slice Ap99 (cmp d (((z % 1048576) / 4) % 3)).1.cs.length cp99, .slice Aj99 (cmp d (((z % 1048576) / 4) % 3)).1.js.length cj99, .int .i64 (cmp d (((z % 1048576) / 4) % 3)).1.room])) hx80_111 (by kernel_rfl) rfl (dk_one _ _ _ _ _ _ _) ?_
    intro w110 hx110 hg110
    have hs110 := hg110.size
    refine sx_val hA109 rfl (ev_assign (hA109.ev (i := 43) (v := .int .i64 (cmp d (((z % 1048576) / 4) % 3)).2.2)) _ rfl) ?_
    intro a112 hA112; clear hA109
    refine sx_nil ?_
    refine blk_n ?_
    refine then_n ?_
    refine wp_seq ?_
    refine wp_region_lit ?_
    refine sx_val hA112 rfl (ev_move (hA112.ev (i := 9) (v := .int .i64 (cmp d (((z % 1048576) / 4) % 3)).2.2)) _ rfl) ?_
    intro a113 hA113; clear hA112
    refine sx_nil ?_
    refine then_n ?_
    refine wp_block ?_
    refine wp_seq ?_
    refine wp_region_lit ?_
    cases hd114 : decide ((cmp d (((z % 1048576) / 4) % 3)).2.2 = 0)
    rotate_left
    · have hp114 := of_decide_eq_true hd114
      refine sx_val (v := .bool true) hA113 rfl (ev_eqlB (k := .i64) (m := (cmp d (((z % 1048576) / 4) % 3)).2.2) (n := 0) (hA113.ev (i := 74)) (ec _ (.int .i64 0)) hd114 _ rfl) ?_
      intro a205 hA205; clear hA113
      refine sx_val hA205 rfl (ev_assign (hA205.ev (i := 77) (v := .bool true)) _ rfl) ?_
      intro a206 hA206; clear hA205
      refine sx_nil ?_
      refine then_n ?_
      refine wp_cond_true (hA206.ev (i := 76) (v := .bool true)) ?_
      refine wp_region_lit ?_
      refine sx_val (v := .agg #[.slice Ap99 (cmp d (((z % 1048576) / 4) % 3)).1.cs.length cp99, .slice Aj99 (cmp d (((z % 1048576) / 4) % 3)).1.js.length cj99, .int .i64 (cmp d (((z % 1048576) / 4) % 3)).1.room]) hA206 rfl (ev_row (hA206.ev (i := 8) (v := .pointer (some ⟨B79, 0, none⟩))) hx110 Try.underlying25 rfl (n := 3) (by kernel_rfl) rfl _ rfl) ?_
      intro a207 hA207; clear hA206
      have f26_209 := f26_94.gN hg99
      have f26_210 := f26_209.gB hg110 (by omega)
      refine sx_store hA207 rfl (.inl rfl) rfl (hA207.ev (i := 4) (v := .pointer (some ⟨B7, 0, none⟩))) (hA207.ev (i := 78) (v := .agg #[.slice Ap99 (cmp d (((z % 1048576) / 4) % 3)).1.cs.length cp99, .slice Aj99 (cmp d (((z % 1048576) / 4) % 3)).1.js.length cj99, .int .i64 (cmp d (((z % 1048576) / 4) % 3)).1.room])) f26_210 (by kernel_rfl) rfl (dk_one _ _ _ _ _ _ _) ?_
      intro w208 hx208 hg208
      have hs208 := hg208.size
      refine sx_nil ?_
      refine blk_n ?_
      refine blk_n ?_
      refine then_n ?_
      refine wp_region_lit ?_
      refine sx_val hA207 rfl (ev_move (hA207.ev (i := 6) (v := .int .i64 (k : Int))) _ rfl) ?_
      intro a211 hA211; clear hA207
      refine sx_val (v := .int .i64 ((k + 1 : Nat) : Int)) hA211 rfl (ev_addR (k := .i64) (m := (k : Int)) (n := 1) (r := ((k + 1 : Nat) : Int)) (hA211.ev (i := 25)) (ec _ (.int .i64 1)) (wr (by omega) (by omega) (by omega)) _ rfl) ?_
      intro a212 hA212; clear hA211
      refine sx_val hA212 rfl (ev_assign (hA212.ev (i := 26) (v := .int .i64 ((k + 1 : Nat) : Int))) _ rfl) ?_
      intro a213 hA213; clear hA212
      refine sx_nil ?_
      refine then_n ?_
      have ho99_214 := Own.gBT ho99_0 hg110 hx80_111 (by decide)
      have ho99_215 := Own.gBT ho99_214 hg208 f26_210 (by decide)
      have ho99_216 := Own.gBT ho99_1 hg110 hx80_111 (by decide)
      have ho99_217 := Own.gBT ho99_216 hg208 f26_210 (by decide)
      have f26_218 := f26_0.gN hg75
      have f26_219 := f26_218.gN hg79
      have f26_220 := f26_219.gB hg80 (by omega)
      have f26_221 := f26_220.gN hg99
      have f26_222 := f26_221.gB hg110 (by omega)
      have f26_223 := f26_222.gB hg208 (by omega)
      have hbel26_224 := Below.gN hbel26 hg75 hbel26.size
      have hbel26_225 := Below.gN hbel26_224 hg79 hbel26_224.size
      have hbel26_226 := Below.gB hbel26_225 hg80 hbel26_225.size (by omega)
      have hbel26_227 := Below.gN hbel26_226 hg99 hbel26_226.size
      have hbel26_228 := Below.gB hbel26_227 hg110 hbel26_227.size (by omega)
      have hbel26_229 := Below.gB hbel26_228 hg208 hbel26_228.size (by omega)
      refine ⟨xs.length - (k + 1), by omega, k + 1, (cmp d (((z % 1048576) / 4) % 3)).1, Ap99, cp99, Aj99, cj99, rfl, (((((Ag.nil hA213.1 hA213.2.1).cons (hA213.get (i := 6) (v := .int .i64 ((k + 1 : Nat) : Int)))).cons (hA213.get (i := 4) (v := .pointer (some ⟨B7, 0, none⟩)))).cons (hA213.get (i := 2) (v := .pointer (some ⟨B1, 0, none⟩)))).cons (hA213.get (i := 0) (v := .slice A xs.length c))), by omega, D86.cmp q26_1 hp114, f26_223, hx208, (Own.mono ho99_215 (by omega)), (Own.mono ho99_217 (by omega)), by omega, hbel26_229⟩
    have hp114 := of_decide_eq_false hd114
    refine sx_val (v := .bool false) hA113 rfl (ev_eqlB (k := .i64) (m := (cmp d (((z % 1048576) / 4) % 3)).2.2) (n := 0) (hA113.ev (i := 74)) (ec _ (.int .i64 0)) hd114 _ rfl) ?_
    intro a115 hA115; clear hA113
    refine sx_val hA115 rfl (ev_assign (hA115.ev (i := 77) (v := .bool false)) _ rfl) ?_
    intro a116 hA116; clear hA115
    refine sx_nil ?_
    refine then_n ?_
    refine wp_cond_false (hA116.ev (i := 76) (v := .bool false)) ?_
    refine wp_seq ?_
    refine wp_seq ?_
    refine wp_region_lit ?_
    cases hd117 : decide ((cmp d (((z % 1048576) / 4) % 3)).2.2 = 10)
    rotate_left
    · have hp117 := of_decide_eq_true hd117
      refine sx_val (v := .bool true) hA116 rfl (ev_eqlB (k := .i64) (m := (cmp d (((z % 1048576) / 4) % 3)).2.2) (n := 10) (hA116.ev (i := 74)) (ec _ (.int .i64 10)) hd117 _ rfl) ?_
      intro a184 hA184; clear hA116
      refine sx_val hA184 rfl (ev_assign (hA184.ev (i := 80) (v := .bool true)) _ rfl) ?_
      intro a185 hA185; clear hA184
      refine sx_nil ?_
      refine then_n ?_
      refine wp_cond_true (hA185.ev (i := 79) (v := .bool true)) ?_
      refine wp_skip ?_
      refine then_n ?_
      refine wp_cond_true (hA185.ev (i := 79) (v := .bool true)) ?_
      refine wp_skip ?_
      refine blk_n ?_
      refine blk_n ?_
      refine then_n ?_
      refine wp_region_lit ?_
      refine sx_val hA185 rfl (ev_move (hA185.ev (i := 6) (v := .int .i64 (k : Int))) _ rfl) ?_
      intro a186 hA186; clear hA185
      refine sx_val (v := .int .i64 ((k + 1 : Nat) : Int)) hA186 rfl (ev_addR (k := .i64) (m := (k : Int)) (n := 1) (r := ((k + 1 : Nat) : Int)) (hA186.ev (i := 25)) (ec _ (.int .i64 1)) (wr (by omega) (by omega) (by omega)) _ rfl) ?_
      intro a187 hA187; clear hA186
      refine sx_val hA187 rfl (ev_assign (hA187.ev (i := 26) (v := .int .i64 ((k + 1 : Nat) : Int))) _ rfl) ?_
      intro a188 hA188; clear hA187
      refine sx_nil ?_
      refine then_n ?_
      have f26_189 := Own.gN f26_102 hg99
      have f26_190 := Own.gBT f26_189 hg110 hx80_111 (by decide)
      have f26_191 := Own.gN f26_105 hg99
      have f26_192 := Own.gBT f26_191 hg110 hx80_111 (by decide)
      have f26_193 := f26_0.gN hg75
      have f26_194 := f26_193.gN hg79
      have f26_195 := f26_194.gB hg80 (by omega)
      have f26_196 := f26_195.gN hg99
      have f26_197 := f26_196.gB hg110 (by omega)
      have f26_198 := f26_94.gN hg99
      have f26_199 := f26_198.gB hg110 (by omega)
      have hbel26_200 := Below.gN hbel26 hg75 hbel26.size
      have hbel26_201 := Below.gN hbel26_200 hg79 hbel26_200.size
      have hbel26_202 := Below.gB hbel26_201 hg80 hbel26_201.size (by omega)
      have hbel26_203 := Below.gN hbel26_202 hg99 hbel26_202.size
      have hbel26_204 := Below.gB hbel26_203 hg110 hbel26_203.size (by omega)
      refine ⟨xs.length - (k + 1), by omega, k + 1, d, A1g, c1g, A2g, c2g, rfl, (((((Ag.nil hA188.1 hA188.2.1).cons (hA188.get (i := 6) (v := .int .i64 ((k + 1 : Nat) : Int)))).cons (hA188.get (i := 4) (v := .pointer (some ⟨B7, 0, none⟩)))).cons (hA188.get (i := 2) (v := .pointer (some ⟨B1, 0, none⟩)))).cons (hA188.get (i := 0) (v := .slice A xs.length c))), by omega, q26_1, f26_197, f26_199, (Own.mono f26_190 (by omega)), (Own.mono f26_192 (by omega)), by omega, hbel26_204⟩
    have hp117 := of_decide_eq_false hd117
    refine sx_val (v := .bool false) hA116 rfl (ev_eqlB (k := .i64) (m := (cmp d (((z % 1048576) / 4) % 3)).2.2) (n := 10) (hA116.ev (i := 74)) (ec _ (.int .i64 10)) hd117 _ rfl) ?_
    intro a118 hA118; clear hA116
    refine sx_val hA118 rfl (ev_assign (hA118.ev (i := 80) (v := .bool false)) _ rfl) ?_
    intro a119 hA119; clear hA118
    refine sx_nil ?_
    refine then_n ?_
    refine wp_cond_false (hA119.ev (i := 79) (v := .bool false)) ?_
    refine wp_seq ?_
    refine wp_region_lit ?_
    cases hd120 : decide ((cmp d (((z % 1048576) / 4) % 3)).2.2 = 5)
    rotate_left
    · have hp120 := of_decide_eq_true hd120
      refine sx_val (v := .bool true) hA119 rfl (ev_eqlB (k := .i64) (m := (cmp d (((z % 1048576) / 4) % 3)).2.2) (n := 5) (hA119.ev (i := 74)) (ec _ (.int .i64 5)) hd120 _ rfl) ?_
      intro a163 hA163; clear hA119
      refine sx_val hA163 rfl (ev_assign (hA163.ev (i := 81) (v := .bool true)) _ rfl) ?_
      intro a164 hA164; clear hA163
      refine sx_nil ?_
      refine then_n ?_
      refine wp_cond_true (hA164.ev (i := 79) (v := .bool true)) ?_
      refine wp_skip ?_
      refine then_n ?_
      refine wp_cond_true (hA164.ev (i := 79) (v := .bool true)) ?_
      refine wp_skip ?_
      refine blk_n ?_
      refine blk_n ?_
      refine then_n ?_
      refine wp_region_lit ?_
      refine sx_val hA164 rfl (ev_move (hA164.ev (i := 6) (v := .int .i64 (k : Int))) _ rfl) ?_
      intro a165 hA165; clear hA164
      refine sx_val (v := .int .i64 ((k + 1 : Nat) : Int)) hA165 rfl (ev_addR (k := .i64) (m := (k : Int)) (n := 1) (r := ((k + 1 : Nat) : Int)) (hA165.ev (i := 25)) (ec _ (.int .i64 1)) (wr (by omega) (by omega) (by omega)) _ rfl) ?_
      intro a166 hA166; clear hA165
      refine sx_val hA166 rfl (ev_assign (hA166.ev (i := 26) (v := .int .i64 ((k + 1 : Nat) : Int))) _ rfl) ?_
      intro a167 hA167; clear hA166
      refine sx_nil ?_
      refine then_n ?_
      have f26_168 := Own.gN f26_102 hg99
      have f26_169 := Own.gBT f26_168 hg110 hx80_111 (by decide)
      have f26_170 := Own.gN f26_105 hg99
      have f26_171 := Own.gBT f26_170 hg110 hx80_111 (by decide)
      have f26_172 := f26_0.gN hg75
      have f26_173 := f26_172.gN hg79
      have f26_174 := f26_173.gB hg80 (by omega)
      have f26_175 := f26_174.gN hg99
      have f26_176 := f26_175.gB hg110 (by omega)
      have f26_177 := f26_94.gN hg99
      have f26_178 := f26_177.gB hg110 (by omega)
      have hbel26_179 := Below.gN hbel26 hg75 hbel26.size
      have hbel26_180 := Below.gN hbel26_179 hg79 hbel26_179.size
      have hbel26_181 := Below.gB hbel26_180 hg80 hbel26_180.size (by omega)
      have hbel26_182 := Below.gN hbel26_181 hg99 hbel26_181.size
      have hbel26_183 := Below.gB hbel26_182 hg110 hbel26_182.size (by omega)
      refine ⟨xs.length - (k + 1), by omega, k + 1, d, A1g, c1g, A2g, c2g, rfl, (((((Ag.nil hA167.1 hA167.2.1).cons (hA167.get (i := 6) (v := .int .i64 ((k + 1 : Nat) : Int)))).cons (hA167.get (i := 4) (v := .pointer (some ⟨B7, 0, none⟩)))).cons (hA167.get (i := 2) (v := .pointer (some ⟨B1, 0, none⟩)))).cons (hA167.get (i := 0) (v := .slice A xs.length c))), by omega, q26_1, f26_176, f26_178, (Own.mono f26_169 (by omega)), (Own.mono f26_171 (by omega)), by omega, hbel26_183⟩
    have hp120 := of_decide_eq_false hd120
    refine sx_val (v := .bool false) hA119 rfl (ev_eqlB (k := .i64) (m := (cmp d (((z % 1048576) / 4) % 3)).2.2) (n := 5) (hA119.ev (i := 74)) (ec _ (.int .i64 5)) hd120 _ rfl) ?_
    intro a121 hA121; clear hA119
    refine sx_val hA121 rfl (ev_assign (hA121.ev (i := 81) (v := .bool false)) _ rfl) ?_
    intro a122 hA122; clear hA121
    refine sx_nil ?_
    refine then_n ?_
    refine wp_cond_false (hA122.ev (i := 79) (v := .bool false)) ?_
    refine wp_region_lit ?_
    cases hd123 : decide ((cmp d (((z % 1048576) / 4) % 3)).2.2 = 6)
    · have hp123 := of_decide_eq_false hd123
      refine sx_val (v := .bool false) hA122 rfl (ev_eqlB (k := .i64) (m := (cmp d (((z % 1048576) / 4) % 3)).2.2) (n := 6) (hA122.ev (i := 74)) (ec _ (.int .i64 6)) hd123 _ rfl) ?_
      intro a124 hA124; clear hA122
      refine sx_val hA124 rfl (ev_assign (hA124.ev (i := 82) (v := .bool false)) _ rfl) ?_
      intro a125 hA125; clear hA124
      refine sx_nil ?_
      refine then_n ?_
      refine wp_cond_false (hA125.ev (i := 79) (v := .bool false)) ?_
      refine wp_seq ?_
      refine wp_region_lit ?_
      have f26_126 := f26_94.gN hg99
      have f26_127 := f26_126.gB hg110 (by omega)
      refine sx_val (v := .agg #[.slice A1g d.cs.length c1g, .slice A2g d.js.length c2g, .int .i64 d.room]) hA125 rfl (ev_row (hA125.ev (i := 4) (v := .pointer (some ⟨B7, 0, none⟩))) f26_127 Try.underlying25 rfl (n := 3) (by kernel_rfl) rfl _ rfl) ?_
      intro a128 hA128; clear hA125
      have f26_130 := f26_0.gN hg75
      have f26_131 := f26_130.gN hg79
      have f26_132 := f26_131.gB hg80 (by omega)
      have f26_133 := f26_132.gN hg99
      have f26_134 := f26_133.gB hg110 (by omega)
      refine sx_store hA128 rfl (.inl rfl) rfl (hA128.ev (i := 2) (v := .pointer (some ⟨B1, 0, none⟩))) (hA128.ev (i := 75) (v := .agg #[.slice A1g d.cs.length c1g, .slice A2g d.js.length c2g, .int .i64 d.room])) f26_134 (by kernel_rfl) rfl (dk_one _ _ _ _ _ _ _) ?_
      intro w129 hx129 hg129
      have hs129 := hg129.size
      refine sx_val hA128 rfl (ev_assign (ec _ (.bool false)) _ rfl) ?_
      intro a135 hA135; clear hA128
      refine sx_nil ?_
      refine then_n ?_
      refine wp_ret ?_
      refine blk_r ?_
      refine blk_r ?_
      refine then_r ?_
      refine then_r ?_
      refine blk_r ?_
      refine then_r ?_
      refine bodyPost_ret (rs_ct (v := .bool false) Try.results34 hA135 (by kernel_rfl) (by kernel_rfl) hx129 Try.underlying25 rfl (by kernel_rfl)) hA135.2.1 ?_
      have hbel26_136 := Below.gN hbel26 hg75 hbel26.size
      have hbel26_137 := Below.gN hbel26_136 hg79 hbel26_136.size
      have hbel26_138 := Below.gB hbel26_137 hg80 hbel26_137.size (by omega)
      have hbel26_139 := Below.gN hbel26_138 hg99 hbel26_138.size
      have hbel26_140 := Below.gB hbel26_139 hg110 hbel26_139.size (by omega)
      have hbel26_141 := Below.gB hbel26_140 hg129 hbel26_140.size (by omega)
      rcases cmp_err (q26_1).ok (((z % 1048576) / 4) % 3) with h | h <;> omega
    have hp123 := of_decide_eq_true hd123
    refine sx_val (v := .bool true) hA122 rfl (ev_eqlB (k := .i64) (m := (cmp d (((z % 1048576) / 4) % 3)).2.2) (n := 6) (hA122.ev (i := 74)) (ec _ (.int .i64 6)) hd123 _ rfl) ?_
    intro a142 hA142; clear hA122
    refine sx_val hA142 rfl (ev_assign (hA142.ev (i := 82) (v := .bool true)) _ rfl) ?_
    intro a143 hA143; clear hA142
    refine sx_nil ?_
    refine then_n ?_
    refine wp_cond_true (hA143.ev (i := 79) (v := .bool true)) ?_
    refine wp_skip ?_
    refine blk_n ?_
    refine blk_n ?_
    refine then_n ?_
    refine wp_region_lit ?_
    refine sx_val hA143 rfl (ev_move (hA143.ev (i := 6) (v := .int .i64 (k : Int))) _ rfl) ?_
    intro a144 hA144; clear hA143
    refine sx_val (v := .int .i64 ((k + 1 : Nat) : Int)) hA144 rfl (ev_addR (k := .i64) (m := (k : Int)) (n := 1) (r := ((k + 1 : Nat) : Int)) (hA144.ev (i := 25)) (ec _ (.int .i64 1)) (wr (by omega) (by omega) (by omega)) _ rfl) ?_
    intro a145 hA145; clear hA144
    refine sx_val hA145 rfl (ev_assign (hA145.ev (i := 26) (v := .int .i64 ((k + 1 : Nat) : Int))) _ rfl) ?_
    intro a146 hA146; clear hA145
    refine sx_nil ?_
    refine then_n ?_
    have f26_147 := Own.gN f26_102 hg99
    have f26_148 := Own.gBT f26_147 hg110 hx80_111 (by decide)
    have f26_149 := Own.gN f26_105 hg99
    have f26_150 := Own.gBT f26_149 hg110 hx80_111 (by decide)
    have f26_151 := f26_0.gN hg75
    have f26_152 := f26_151.gN hg79
    have f26_153 := f26_152.gB hg80 (by omega)
    have f26_154 := f26_153.gN hg99
    have f26_155 := f26_154.gB hg110 (by omega)
    have f26_156 := f26_94.gN hg99
    have f26_157 := f26_156.gB hg110 (by omega)
    have hbel26_158 := Below.gN hbel26 hg75 hbel26.size
    have hbel26_159 := Below.gN hbel26_158 hg79 hbel26_158.size
    have hbel26_160 := Below.gB hbel26_159 hg80 hbel26_159.size (by omega)
    have hbel26_161 := Below.gN hbel26_160 hg99 hbel26_160.size
    have hbel26_162 := Below.gB hbel26_161 hg110 hbel26_161.size (by omega)
    refine ⟨xs.length - (k + 1), by omega, k + 1, d, A1g, c1g, A2g, c2g, rfl, (((((Ag.nil hA146.1 hA146.2.1).cons (hA146.get (i := 6) (v := .int .i64 ((k + 1 : Nat) : Int)))).cons (hA146.get (i := 4) (v := .pointer (some ⟨B7, 0, none⟩)))).cons (hA146.get (i := 2) (v := .pointer (some ⟨B1, 0, none⟩)))).cons (hA146.get (i := 0) (v := .slice A xs.length c))), by omega, q26_1, f26_155, f26_157, (Own.mono f26_148 (by omega)), (Own.mono f26_150 (by omega)), by omega, hbel26_162⟩
  have hp90 := of_decide_eq_true hd90
  refine sx_val (v := .bool true) hA89 rfl (ev_eqlB (k := .i64) (m := ((z % 1048576) % 4)) (n := 2) (hA89.ev (i := 34)) (ec _ (.int .i64 2)) hd90 _ rfl) ?_
  intro a230 hA230; clear hA89
  refine sx_val hA230 rfl (ev_assign (hA230.ev (i := 62) (v := .bool true)) _ rfl) ?_
  intro a231 hA231; clear hA230
  refine sx_nil ?_
  refine then_n ?_
  refine wp_cond_true (hA231.ev (i := 61) (v := .bool true)) ?_
  refine wp_region_lit ?_
  have f26_232 := f26_77.gN hg79
  have f26_233 := f26_232.gB hg80 (by omega)
  refine sx_val (v := .agg #[.slice A1g d.cs.length c1g, .slice A2g d.js.length c2g, .int .i64 d.room]) hA231 rfl (ev_row (hA231.ev (i := 4) (v := .pointer (some ⟨B7, 0, none⟩))) f26_233 Try.underlying25 rfl (n := 3) (by kernel_rfl) rfl _ rfl) ?_
  intro a234 hA234; clear hA231
  refine sx_val hA234 rfl (ev_move (hA234.ev (i := 7) (v := .int .i64 (z % 1048576))) _ rfl) ?_
  intro a235 hA235; clear hA234
  refine sx_val (v := .int .i64 ((z % 1048576) / 4)) hA235 rfl (ev_quoR (k := .i64) (m := (z % 1048576)) (n := 4) (r := ((z % 1048576) / 4)) (hA235.ev (i := 65)) (ec _ (.int .i64 4)) (by decide) (qd (by omega) (by decide) (by omega)) _ rfl) ?_
  intro a236 hA236; clear hA235
  refine sx_val (v := .int .i64 (((z % 1048576) / 4) % 8)) hA236 rfl (ev_remR (k := .i64) (m := ((z % 1048576) / 4)) (n := 8) (r := (((z % 1048576) / 4) % 8)) (hA236.ev (i := 66)) (ec _ (.int .i64 8)) (by decide) (rm (by omega)) _ rfl) ?_
  intro a237 hA237; clear hA236
  refine sx_val hA237 rfl (ev_move (hA237.ev (i := 7) (v := .int .i64 (z % 1048576))) _ rfl) ?_
  intro a238 hA238; clear hA237
  refine sx_val (v := .int .i64 ((z % 1048576) / 32)) hA238 rfl (ev_quoR (k := .i64) (m := (z % 1048576)) (n := 32) (r := ((z % 1048576) / 32)) (hA238.ev (i := 68)) (ec _ (.int .i64 32)) (by decide) (qd (by omega) (by decide) (by omega)) _ rfl) ?_
  intro a239 hA239; clear hA238
  refine sx_val (v := .int .i64 (((z % 1048576) / 32) % 20)) hA239 rfl (ev_remR (k := .i64) (m := ((z % 1048576) / 32)) (n := 20) (r := (((z % 1048576) / 32) % 20)) (hA239.ev (i := 69)) (ec _ (.int .i64 20)) (by decide) (rm (by omega)) _ rfl) ?_
  intro a240 hA240; clear hA239
  have f26_242 := Own.gN f26_2 hg75
  have f26_243 := Own.gN f26_242 hg79
  have f26_244 := Own.gBT f26_243 hg80 hx79 (by decide)
  have f26_245 := Own.gN f26_3 hg75
  have f26_246 := Own.gN f26_245 hg79
  have f26_247 := Own.gBT f26_246 hg80 hx79 (by decide)
  refine sx_call (f := 15) (args := #[.agg #[.slice A1g d.cs.length c1g, .slice A2g d.js.length c2g, .int .i64 d.room], .int .i64 (((z % 1048576) / 4) % 8), .int .i64 (((z % 1048576) / 32) % 20)]) hA240 rfl (by decide) (.inl rfl) (ev_fn rfl (mp3 (hA240.ev (i := 64) (v := .agg #[.slice A1g d.cs.length c1g, .slice A2g d.js.length c2g, .int .i64 d.room])) (hA240.ev (i := 67) (v := .int .i64 (((z % 1048576) / 4) % 8))) (hA240.ev (i := 70) (v := .int .i64 (((z % 1048576) / 32) % 20)))) (by kernel_rfl) _ rfl) (Read_any A1g c1g A2g c2g d.cs d.js d.room (((z % 1048576) / 4) % 8) (((z % 1048576) / 32) % 20) _ ⟨(OwnR.gr (e := 28) ⟨rfl, f26_244⟩), (OwnR.gr (e := 38) ⟨rfl, f26_247⟩)⟩ (by omega) (by omega)) ?_
  intro e241 w241 hR241
  obtain ⟨Ap241, cp241, Aj241, cj241, rfl, hC241, hJ241, hb241⟩ := hR241
  refine ⟨_, rfl, ?_⟩
  intro a241 hA241
  clear hA240
  have hg241 := g0 hb241
  have hs241 := hg241.size
  clear hb241
  have ho241_0 : Own w241 (w80.heap.size) 28 8 (.slice Ap241 (sub d ⟨false, (((z % 1048576) / 4) % 8), (((z % 1048576) / 32) % 20), Ct.zero⟩).1.cs.length cp241) (sub d ⟨false, (((z % 1048576) / 4) % 8), (((z % 1048576) / 32) % 20), Ct.zero⟩).1.cs.length (flat Ct.va (sub d ⟨false, (((z % 1048576) / 4) % 8), (((z % 1048576) / 32) % 20), Ct.zero⟩).1.cs) := hC241.2
  have hh241_0 := Own.hi ho241_0
  have ho241_1 : Own w241 (w80.heap.size) 38 11 (.slice Aj241 (sub d ⟨false, (((z % 1048576) / 4) % 8), (((z % 1048576) / 32) % 20), Ct.zero⟩).1.js.length cj241) (sub d ⟨false, (((z % 1048576) / 4) % 8), (((z % 1048576) / 32) % 20), Ct.zero⟩).1.js.length (flat Jb.va (sub d ⟨false, (((z % 1048576) / 4) % 8), (((z % 1048576) / 32) % 20), Ct.zero⟩).1.js) := hJ241.2
  have hh241_1 := Own.hi ho241_1
  refine sx_val hA241 rfl (ev_move (hA241.ev (i := 71) (v := .tuple #[.agg #[.slice Ap241 (sub d ⟨false, (((z % 1048576) / 4) % 8), (((z % 1048576) / 32) % 20), Ct.zero⟩).1.cs.length cp241, .slice Aj241 (sub d ⟨false, (((z % 1048576) / 4) % 8), (((z % 1048576) / 32) % 20), Ct.zero⟩).1.js.length cj241, .int .i64 (sub d ⟨false, (((z % 1048576) / 4) % 8), (((z % 1048576) / 32) % 20), Ct.zero⟩).1.room], .int .i64 (sub d ⟨false, (((z % 1048576) / 4) % 8), (((z % 1048576) / 32) % 20), Ct.zero⟩).2])) _ rfl) ?_
  intro a248 hA248; clear hA241
  refine sx_val (v := .agg #[.slice Ap241 (sub d ⟨false, (((z % 1048576) / 4) % 8), (((z % 1048576) / 32) % 20), Ct.zero⟩).1.cs.length cp241, .slice Aj241 (sub d ⟨false, (((z % 1048576) / 4) % 8), (((z % 1048576) / 32) % 20), Ct.zero⟩).1.js.length cj241, .int .i64 (sub d ⟨false, (((z % 1048576) / 4) % 8), (((z % 1048576) / 32) % 20), Ct.zero⟩).1.room]) hA248 rfl (ev_ext (hA248.ev (i := 63) (v := .tuple #[.agg #[.slice Ap241 (sub d ⟨false, (((z % 1048576) / 4) % 8), (((z % 1048576) / 32) % 20), Ct.zero⟩).1.cs.length cp241, .slice Aj241 (sub d ⟨false, (((z % 1048576) / 4) % 8), (((z % 1048576) / 32) % 20), Ct.zero⟩).1.js.length cj241, .int .i64 (sub d ⟨false, (((z % 1048576) / 4) % 8), (((z % 1048576) / 32) % 20), Ct.zero⟩).1.room], .int .i64 (sub d ⟨false, (((z % 1048576) / 4) % 8), (((z % 1048576) / 32) % 20), Ct.zero⟩).2])) rfl _ rfl) ?_
  intro a249 hA249; clear hA248
  refine sx_val (v := .int .i64 (sub d ⟨false, (((z % 1048576) / 4) % 8), (((z % 1048576) / 32) % 20), Ct.zero⟩).2) hA249 rfl (ev_ext (hA249.ev (i := 63) (v := .tuple #[.agg #[.slice Ap241 (sub d ⟨false, (((z % 1048576) / 4) % 8), (((z % 1048576) / 32) % 20), Ct.zero⟩).1.cs.length cp241, .slice Aj241 (sub d ⟨false, (((z % 1048576) / 4) % 8), (((z % 1048576) / 32) % 20), Ct.zero⟩).1.js.length cj241, .int .i64 (sub d ⟨false, (((z % 1048576) / 4) % 8), (((z % 1048576) / 32) % 20), Ct.zero⟩).1.room], .int .i64 (sub d ⟨false, (((z % 1048576) / 4) % 8), (((z % 1048576) / 32) % 20), Ct.zero⟩).2])) rfl _ rfl) ?_
  intro a250 hA250; clear hA249
  have hx80_252 := hx80.gN hg241
  refine sx_store hA250 rfl (.inl rfl) rfl (hA250.ev (i := 8) (v := .pointer (some ⟨B79, 0, none⟩))) (hA250.ev (i := 72) (v := .agg #[.slice Ap241 (sub d ⟨false, (((z % 1048576) / 4) % 8), (((z % 1048576) / 32) % 20), Ct.zero⟩).1.cs.length cp241, .slice Aj241 (sub d ⟨false, (((z % 1048576) / 4) % 8), (((z % 1048576) / 32) % 20), Ct.zero⟩).1.js.length cj241, .int .i64 (sub d ⟨false, (((z % 1048576) / 4) % 8), (((z % 1048576) / 32) % 20), Ct.zero⟩).1.room])) hx80_252 (by kernel_rfl) rfl (dk_one _ _ _ _ _ _ _) ?_
  intro w251 hx251 hg251
  have hs251 := hg251.size
  refine sx_val hA250 rfl (ev_assign (hA250.ev (i := 73) (v := .int .i64 (sub d ⟨false, (((z % 1048576) / 4) % 8), (((z % 1048576) / 32) % 20), Ct.zero⟩).2)) _ rfl) ?_
  intro a253 hA253; clear hA250
  refine sx_nil ?_
  refine blk_n ?_
  refine then_n ?_
  refine wp_seq ?_
  refine wp_region_lit ?_
  refine sx_val hA253 rfl (ev_move (hA253.ev (i := 9) (v := .int .i64 (sub d ⟨false, (((z % 1048576) / 4) % 8), (((z % 1048576) / 32) % 20), Ct.zero⟩).2)) _ rfl) ?_
  intro a254 hA254; clear hA253
  refine sx_nil ?_
  refine then_n ?_
  refine wp_block ?_
  refine wp_seq ?_
  refine wp_region_lit ?_
  cases hd255 : decide ((sub d ⟨false, (((z % 1048576) / 4) % 8), (((z % 1048576) / 32) % 20), Ct.zero⟩).2 = 0)
  rotate_left
  · have hp255 := of_decide_eq_true hd255
    refine sx_val (v := .bool true) hA254 rfl (ev_eqlB (k := .i64) (m := (sub d ⟨false, (((z % 1048576) / 4) % 8), (((z % 1048576) / 32) % 20), Ct.zero⟩).2) (n := 0) (hA254.ev (i := 74)) (ec _ (.int .i64 0)) hd255 _ rfl) ?_
    intro a346 hA346; clear hA254
    refine sx_val hA346 rfl (ev_assign (hA346.ev (i := 77) (v := .bool true)) _ rfl) ?_
    intro a347 hA347; clear hA346
    refine sx_nil ?_
    refine then_n ?_
    refine wp_cond_true (hA347.ev (i := 76) (v := .bool true)) ?_
    refine wp_region_lit ?_
    refine sx_val (v := .agg #[.slice Ap241 (sub d ⟨false, (((z % 1048576) / 4) % 8), (((z % 1048576) / 32) % 20), Ct.zero⟩).1.cs.length cp241, .slice Aj241 (sub d ⟨false, (((z % 1048576) / 4) % 8), (((z % 1048576) / 32) % 20), Ct.zero⟩).1.js.length cj241, .int .i64 (sub d ⟨false, (((z % 1048576) / 4) % 8), (((z % 1048576) / 32) % 20), Ct.zero⟩).1.room]) hA347 rfl (ev_row (hA347.ev (i := 8) (v := .pointer (some ⟨B79, 0, none⟩))) hx251 Try.underlying25 rfl (n := 3) (by kernel_rfl) rfl _ rfl) ?_
    intro a348 hA348; clear hA347
    have f26_350 := f26_233.gN hg241
    have f26_351 := f26_350.gB hg251 (by omega)
    refine sx_store hA348 rfl (.inl rfl) rfl (hA348.ev (i := 4) (v := .pointer (some ⟨B7, 0, none⟩))) (hA348.ev (i := 78) (v := .agg #[.slice Ap241 (sub d ⟨false, (((z % 1048576) / 4) % 8), (((z % 1048576) / 32) % 20), Ct.zero⟩).1.cs.length cp241, .slice Aj241 (sub d ⟨false, (((z % 1048576) / 4) % 8), (((z % 1048576) / 32) % 20), Ct.zero⟩).1.js.length cj241, .int .i64 (sub d ⟨false, (((z % 1048576) / 4) % 8), (((z % 1048576) / 32) % 20), Ct.zero⟩).1.room])) f26_351 (by kernel_rfl) rfl (dk_one _ _ _ _ _ _ _) ?_
    intro w349 hx349 hg349
    have hs349 := hg349.size
    refine sx_nil ?_
    refine blk_n ?_
    refine blk_n ?_
    refine then_n ?_
    refine wp_region_lit ?_
    refine sx_val hA348 rfl (ev_move (hA348.ev (i := 6) (v := .int .i64 (k : Int))) _ rfl) ?_
    intro a352 hA352; clear hA348
    refine sx_val (v := .int .i64 ((k + 1 : Nat) : Int)) hA352 rfl (ev_addR (k := .i64) (m := (k : Int)) (n := 1) (r := ((k + 1 : Nat) : Int)) (hA352.ev (i := 25)) (ec _ (.int .i64 1)) (wr (by omega) (by omega) (by omega)) _ rfl) ?_
    intro a353 hA353; clear hA352
    refine sx_val hA353 rfl (ev_assign (hA353.ev (i := 26) (v := .int .i64 ((k + 1 : Nat) : Int))) _ rfl) ?_
    intro a354 hA354; clear hA353
    refine sx_nil ?_
    refine then_n ?_
    have ho241_355 := Own.gBT ho241_0 hg251 hx80_252 (by decide)
    have ho241_356 := Own.gBT ho241_355 hg349 f26_351 (by decide)
    have ho241_357 := Own.gBT ho241_1 hg251 hx80_252 (by decide)
    have ho241_358 := Own.gBT ho241_357 hg349 f26_351 (by decide)
    have f26_359 := f26_0.gN hg75
    have f26_360 := f26_359.gN hg79
    have f26_361 := f26_360.gB hg80 (by omega)
    have f26_362 := f26_361.gN hg241
    have f26_363 := f26_362.gB hg251 (by omega)
    have f26_364 := f26_363.gB hg349 (by omega)
    have hbel26_365 := Below.gN hbel26 hg75 hbel26.size
    have hbel26_366 := Below.gN hbel26_365 hg79 hbel26_365.size
    have hbel26_367 := Below.gB hbel26_366 hg80 hbel26_366.size (by omega)
    have hbel26_368 := Below.gN hbel26_367 hg241 hbel26_367.size
    have hbel26_369 := Below.gB hbel26_368 hg251 hbel26_368.size (by omega)
    have hbel26_370 := Below.gB hbel26_369 hg349 hbel26_369.size (by omega)
    refine ⟨xs.length - (k + 1), by omega, k + 1, (sub d ⟨false, (((z % 1048576) / 4) % 8), (((z % 1048576) / 32) % 20), Ct.zero⟩).1, Ap241, cp241, Aj241, cj241, rfl, (((((Ag.nil hA354.1 hA354.2.1).cons (hA354.get (i := 6) (v := .int .i64 ((k + 1 : Nat) : Int)))).cons (hA354.get (i := 4) (v := .pointer (some ⟨B7, 0, none⟩)))).cons (hA354.get (i := 2) (v := .pointer (some ⟨B1, 0, none⟩)))).cons (hA354.get (i := 0) (v := .slice A xs.length c))), by omega, D86.sub q26_1 rfl (by show _ % 20 < 20; omega) hp255, f26_364, hx349, (Own.mono ho241_356 (by omega)), (Own.mono ho241_358 (by omega)), by omega, hbel26_370⟩
  have hp255 := of_decide_eq_false hd255
  refine sx_val (v := .bool false) hA254 rfl (ev_eqlB (k := .i64) (m := (sub d ⟨false, (((z % 1048576) / 4) % 8), (((z % 1048576) / 32) % 20), Ct.zero⟩).2) (n := 0) (hA254.ev (i := 74)) (ec _ (.int .i64 0)) hd255 _ rfl) ?_
  intro a256 hA256; clear hA254
  refine sx_val hA256 rfl (ev_assign (hA256.ev (i := 77) (v := .bool false)) _ rfl) ?_
  intro a257 hA257; clear hA256
  refine sx_nil ?_
  refine then_n ?_
  refine wp_cond_false (hA257.ev (i := 76) (v := .bool false)) ?_
  refine wp_seq ?_
  refine wp_seq ?_
  refine wp_region_lit ?_
  cases hd258 : decide ((sub d ⟨false, (((z % 1048576) / 4) % 8), (((z % 1048576) / 32) % 20), Ct.zero⟩).2 = 10)
  rotate_left
  · have hp258 := of_decide_eq_true hd258
    refine sx_val (v := .bool true) hA257 rfl (ev_eqlB (k := .i64) (m := (sub d ⟨false, (((z % 1048576) / 4) % 8), (((z % 1048576) / 32) % 20), Ct.zero⟩).2) (n := 10) (hA257.ev (i := 74)) (ec _ (.int .i64 10)) hd258 _ rfl) ?_
    intro a325 hA325; clear hA257
    refine sx_val hA325 rfl (ev_assign (hA325.ev (i := 80) (v := .bool true)) _ rfl) ?_
    intro a326 hA326; clear hA325
    refine sx_nil ?_
    refine then_n ?_
    refine wp_cond_true (hA326.ev (i := 79) (v := .bool true)) ?_
    refine wp_skip ?_
    refine then_n ?_
    refine wp_cond_true (hA326.ev (i := 79) (v := .bool true)) ?_
    refine wp_skip ?_
    refine blk_n ?_
    refine blk_n ?_
    refine then_n ?_
    refine wp_region_lit ?_
    refine sx_val hA326 rfl (ev_move (hA326.ev (i := 6) (v := .int .i64 (k : Int))) _ rfl) ?_
    intro a327 hA327; clear hA326
    refine sx_val (v := .int .i64 ((k + 1 : Nat) : Int)) hA327 rfl (ev_addR (k := .i64) (m := (k : Int)) (n := 1) (r := ((k + 1 : Nat) : Int)) (hA327.ev (i := 25)) (ec _ (.int .i64 1)) (wr (by omega) (by omega) (by omega)) _ rfl) ?_
    intro a328 hA328; clear hA327
    refine sx_val hA328 rfl (ev_assign (hA328.ev (i := 26) (v := .int .i64 ((k + 1 : Nat) : Int))) _ rfl) ?_
    intro a329 hA329; clear hA328
    refine sx_nil ?_
    refine then_n ?_
    have f26_330 := Own.gN f26_244 hg241
    have f26_331 := Own.gBT f26_330 hg251 hx80_252 (by decide)
    have f26_332 := Own.gN f26_247 hg241
    have f26_333 := Own.gBT f26_332 hg251 hx80_252 (by decide)
    have f26_334 := f26_0.gN hg75
    have f26_335 := f26_334.gN hg79
    have f26_336 := f26_335.gB hg80 (by omega)
    have f26_337 := f26_336.gN hg241
    have f26_338 := f26_337.gB hg251 (by omega)
    have f26_339 := f26_233.gN hg241
    have f26_340 := f26_339.gB hg251 (by omega)
    have hbel26_341 := Below.gN hbel26 hg75 hbel26.size
    have hbel26_342 := Below.gN hbel26_341 hg79 hbel26_341.size
    have hbel26_343 := Below.gB hbel26_342 hg80 hbel26_342.size (by omega)
    have hbel26_344 := Below.gN hbel26_343 hg241 hbel26_343.size
    have hbel26_345 := Below.gB hbel26_344 hg251 hbel26_344.size (by omega)
    refine ⟨xs.length - (k + 1), by omega, k + 1, d, A1g, c1g, A2g, c2g, rfl, (((((Ag.nil hA329.1 hA329.2.1).cons (hA329.get (i := 6) (v := .int .i64 ((k + 1 : Nat) : Int)))).cons (hA329.get (i := 4) (v := .pointer (some ⟨B7, 0, none⟩)))).cons (hA329.get (i := 2) (v := .pointer (some ⟨B1, 0, none⟩)))).cons (hA329.get (i := 0) (v := .slice A xs.length c))), by omega, q26_1, f26_338, f26_340, (Own.mono f26_331 (by omega)), (Own.mono f26_333 (by omega)), by omega, hbel26_345⟩
  have hp258 := of_decide_eq_false hd258
  refine sx_val (v := .bool false) hA257 rfl (ev_eqlB (k := .i64) (m := (sub d ⟨false, (((z % 1048576) / 4) % 8), (((z % 1048576) / 32) % 20), Ct.zero⟩).2) (n := 10) (hA257.ev (i := 74)) (ec _ (.int .i64 10)) hd258 _ rfl) ?_
  intro a259 hA259; clear hA257
  refine sx_val hA259 rfl (ev_assign (hA259.ev (i := 80) (v := .bool false)) _ rfl) ?_
  intro a260 hA260; clear hA259
  refine sx_nil ?_
  refine then_n ?_
  refine wp_cond_false (hA260.ev (i := 79) (v := .bool false)) ?_
  refine wp_seq ?_
  refine wp_region_lit ?_
  cases hd261 : decide ((sub d ⟨false, (((z % 1048576) / 4) % 8), (((z % 1048576) / 32) % 20), Ct.zero⟩).2 = 5)
  rotate_left
  · have hp261 := of_decide_eq_true hd261
    refine sx_val (v := .bool true) hA260 rfl (ev_eqlB (k := .i64) (m := (sub d ⟨false, (((z % 1048576) / 4) % 8), (((z % 1048576) / 32) % 20), Ct.zero⟩).2) (n := 5) (hA260.ev (i := 74)) (ec _ (.int .i64 5)) hd261 _ rfl) ?_
    intro a304 hA304; clear hA260
    refine sx_val hA304 rfl (ev_assign (hA304.ev (i := 81) (v := .bool true)) _ rfl) ?_
    intro a305 hA305; clear hA304
    refine sx_nil ?_
    refine then_n ?_
    refine wp_cond_true (hA305.ev (i := 79) (v := .bool true)) ?_
    refine wp_skip ?_
    refine then_n ?_
    refine wp_cond_true (hA305.ev (i := 79) (v := .bool true)) ?_
    refine wp_skip ?_
    refine blk_n ?_
    refine blk_n ?_
    refine then_n ?_
    refine wp_region_lit ?_
    refine sx_val hA305 rfl (ev_move (hA305.ev (i := 6) (v := .int .i64 (k : Int))) _ rfl) ?_
    intro a306 hA306; clear hA305
    refine sx_val (v := .int .i64 ((k + 1 : Nat) : Int)) hA306 rfl (ev_addR (k := .i64) (m := (k : Int)) (n := 1) (r := ((k + 1 : Nat) : Int)) (hA306.ev (i := 25)) (ec _ (.int .i64 1)) (wr (by omega) (by omega) (by omega)) _ rfl) ?_
    intro a307 hA307; clear hA306
    refine sx_val hA307 rfl (ev_assign (hA307.ev (i := 26) (v := .int .i64 ((k + 1 : Nat) : Int))) _ rfl) ?_
    intro a308 hA308; clear hA307
    refine sx_nil ?_
    refine then_n ?_
    have f26_309 := Own.gN f26_244 hg241
    have f26_310 := Own.gBT f26_309 hg251 hx80_252 (by decide)
    have f26_311 := Own.gN f26_247 hg241
    have f26_312 := Own.gBT f26_311 hg251 hx80_252 (by decide)
    have f26_313 := f26_0.gN hg75
    have f26_314 := f26_313.gN hg79
    have f26_315 := f26_314.gB hg80 (by omega)
    have f26_316 := f26_315.gN hg241
    have f26_317 := f26_316.gB hg251 (by omega)
    have f26_318 := f26_233.gN hg241
    have f26_319 := f26_318.gB hg251 (by omega)
    have hbel26_320 := Below.gN hbel26 hg75 hbel26.size
    have hbel26_321 := Below.gN hbel26_320 hg79 hbel26_320.size
    have hbel26_322 := Below.gB hbel26_321 hg80 hbel26_321.size (by omega)
    have hbel26_323 := Below.gN hbel26_322 hg241 hbel26_322.size
    have hbel26_324 := Below.gB hbel26_323 hg251 hbel26_323.size (by omega)
    refine ⟨xs.length - (k + 1), by omega, k + 1, d, A1g, c1g, A2g, c2g, rfl, (((((Ag.nil hA308.1 hA308.2.1).cons (hA308.get (i := 6) (v := .int .i64 ((k + 1 : Nat) : Int)))).cons (hA308.get (i := 4) (v := .pointer (some ⟨B7, 0, none⟩)))).cons (hA308.get (i := 2) (v := .pointer (some ⟨B1, 0, none⟩)))).cons (hA308.get (i := 0) (v := .slice A xs.length c))), by omega, q26_1, f26_317, f26_319, (Own.mono f26_310 (by omega)), (Own.mono f26_312 (by omega)), by omega, hbel26_324⟩
  have hp261 := of_decide_eq_false hd261
  refine sx_val (v := .bool false) hA260 rfl (ev_eqlB (k := .i64) (m := (sub d ⟨false, (((z % 1048576) / 4) % 8), (((z % 1048576) / 32) % 20), Ct.zero⟩).2) (n := 5) (hA260.ev (i := 74)) (ec _ (.int .i64 5)) hd261 _ rfl) ?_
  intro a262 hA262; clear hA260
  refine sx_val hA262 rfl (ev_assign (hA262.ev (i := 81) (v := .bool false)) _ rfl) ?_
  intro a263 hA263; clear hA262
  refine sx_nil ?_
  refine then_n ?_
  refine wp_cond_false (hA263.ev (i := 79) (v := .bool false)) ?_
  refine wp_region_lit ?_
  cases hd264 : decide ((sub d ⟨false, (((z % 1048576) / 4) % 8), (((z % 1048576) / 32) % 20), Ct.zero⟩).2 = 6)
  rotate_left
  · have hp264 := of_decide_eq_true hd264
    refine sx_val (v := .bool true) hA263 rfl (ev_eqlB (k := .i64) (m := (sub d ⟨false, (((z % 1048576) / 4) % 8), (((z % 1048576) / 32) % 20), Ct.zero⟩).2) (n := 6) (hA263.ev (i := 74)) (ec _ (.int .i64 6)) hd264 _ rfl) ?_
    intro a283 hA283; clear hA263
    refine sx_val hA283 rfl (ev_assign (hA283.ev (i := 82) (v := .bool true)) _ rfl) ?_
    intro a284 hA284; clear hA283
    refine sx_nil ?_
    refine then_n ?_
    refine wp_cond_true (hA284.ev (i := 79) (v := .bool true)) ?_
    refine wp_skip ?_
    refine blk_n ?_
    refine blk_n ?_
    refine then_n ?_
    refine wp_region_lit ?_
    refine sx_val hA284 rfl (ev_move (hA284.ev (i := 6) (v := .int .i64 (k : Int))) _ rfl) ?_
    intro a285 hA285; clear hA284
    refine sx_val (v := .int .i64 ((k + 1 : Nat) : Int)) hA285 rfl (ev_addR (k := .i64) (m := (k : Int)) (n := 1) (r := ((k + 1 : Nat) : Int)) (hA285.ev (i := 25)) (ec _ (.int .i64 1)) (wr (by omega) (by omega) (by omega)) _ rfl) ?_
    intro a286 hA286; clear hA285
    refine sx_val hA286 rfl (ev_assign (hA286.ev (i := 26) (v := .int .i64 ((k + 1 : Nat) : Int))) _ rfl) ?_
    intro a287 hA287; clear hA286
    refine sx_nil ?_
    refine then_n ?_
    have f26_288 := Own.gN f26_244 hg241
    have f26_289 := Own.gBT f26_288 hg251 hx80_252 (by decide)
    have f26_290 := Own.gN f26_247 hg241
    have f26_291 := Own.gBT f26_290 hg251 hx80_252 (by decide)
    have f26_292 := f26_0.gN hg75
    have f26_293 := f26_292.gN hg79
    have f26_294 := f26_293.gB hg80 (by omega)
    have f26_295 := f26_294.gN hg241
    have f26_296 := f26_295.gB hg251 (by omega)
    have f26_297 := f26_233.gN hg241
    have f26_298 := f26_297.gB hg251 (by omega)
    have hbel26_299 := Below.gN hbel26 hg75 hbel26.size
    have hbel26_300 := Below.gN hbel26_299 hg79 hbel26_299.size
    have hbel26_301 := Below.gB hbel26_300 hg80 hbel26_300.size (by omega)
    have hbel26_302 := Below.gN hbel26_301 hg241 hbel26_301.size
    have hbel26_303 := Below.gB hbel26_302 hg251 hbel26_302.size (by omega)
    refine ⟨xs.length - (k + 1), by omega, k + 1, d, A1g, c1g, A2g, c2g, rfl, (((((Ag.nil hA287.1 hA287.2.1).cons (hA287.get (i := 6) (v := .int .i64 ((k + 1 : Nat) : Int)))).cons (hA287.get (i := 4) (v := .pointer (some ⟨B7, 0, none⟩)))).cons (hA287.get (i := 2) (v := .pointer (some ⟨B1, 0, none⟩)))).cons (hA287.get (i := 0) (v := .slice A xs.length c))), by omega, q26_1, f26_296, f26_298, (Own.mono f26_289 (by omega)), (Own.mono f26_291 (by omega)), by omega, hbel26_303⟩
  have hp264 := of_decide_eq_false hd264
  refine sx_val (v := .bool false) hA263 rfl (ev_eqlB (k := .i64) (m := (sub d ⟨false, (((z % 1048576) / 4) % 8), (((z % 1048576) / 32) % 20), Ct.zero⟩).2) (n := 6) (hA263.ev (i := 74)) (ec _ (.int .i64 6)) hd264 _ rfl) ?_
  intro a265 hA265; clear hA263
  refine sx_val hA265 rfl (ev_assign (hA265.ev (i := 82) (v := .bool false)) _ rfl) ?_
  intro a266 hA266; clear hA265
  refine sx_nil ?_
  refine then_n ?_
  refine wp_cond_false (hA266.ev (i := 79) (v := .bool false)) ?_
  refine wp_seq ?_
  refine wp_region_lit ?_
  have f26_267 := f26_233.gN hg241
  have f26_268 := f26_267.gB hg251 (by omega)
  refine sx_val (v := .agg #[.slice A1g d.cs.length c1g, .slice A2g d.js.length c2g, .int .i64 d.room]) hA266 rfl (ev_row (hA266.ev (i := 4) (v := .pointer (some ⟨B7, 0, none⟩))) f26_268 Try.underlying25 rfl (n := 3) (by kernel_rfl) rfl _ rfl) ?_
  intro a269 hA269; clear hA266
  have f26_271 := f26_0.gN hg75
  have f26_272 := f26_271.gN hg79
  have f26_273 := f26_272.gB hg80 (by omega)
  have f26_274 := f26_273.gN hg241
  have f26_275 := f26_274.gB hg251 (by omega)
  refine sx_store hA269 rfl (.inl rfl) rfl (hA269.ev (i := 2) (v := .pointer (some ⟨B1, 0, none⟩))) (hA269.ev (i := 75) (v := .agg #[.slice A1g d.cs.length c1g, .slice A2g d.js.length c2g, .int .i64 d.room])) f26_275 (by kernel_rfl) rfl (dk_one _ _ _ _ _ _ _) ?_
  intro w270 hx270 hg270
  have hs270 := hg270.size
  refine sx_val hA269 rfl (ev_assign (ec _ (.bool false)) _ rfl) ?_
  intro a276 hA276; clear hA269
  refine sx_nil ?_
  refine then_n ?_
  refine wp_ret ?_
  refine blk_r ?_
  refine blk_r ?_
  refine then_r ?_
  refine then_r ?_
  refine blk_r ?_
  refine then_r ?_
  refine bodyPost_ret (rs_ct (v := .bool false) Try.results34 hA276 (by kernel_rfl) (by kernel_rfl) hx270 Try.underlying25 rfl (by kernel_rfl)) hA276.2.1 ?_
  have hbel26_277 := Below.gN hbel26 hg75 hbel26.size
  have hbel26_278 := Below.gN hbel26_277 hg79 hbel26_277.size
  have hbel26_279 := Below.gB hbel26_278 hg80 hbel26_278.size (by omega)
  have hbel26_280 := Below.gN hbel26_279 hg241 hbel26_279.size
  have hbel26_281 := Below.gB hbel26_280 hg251 hbel26_280.size (by omega)
  have hbel26_282 := Below.gB hbel26_281 hg270 hbel26_281.size (by omega)
  rcases sub_err (q26_1).ok (D86.rng q26_1 (b := false) (c := Ct.zero) (s := ((z % 1048576) / 4) % 8) (f := ((z % 1048576) / 32) % 20) (by omega) (by omega) (by omega) (by omega)) with h | h | h <;> omega
end Go.Proofs.Ytbkdimildnahaaa
