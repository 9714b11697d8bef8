/- The law: DiskAlone. -/
import Derived.Test.YtbkdimildnahaaaDYb
import Derived.Test.YtbkdimildnahaaaDO
namespace Go.Proofs.Ytbkdimildnahaaa
open Go.RowKit
set_option linter.unusedVariables false
set_option maxRecDepth 100000

set_option maxHeartbeats 16000000 in
theorem DiskAlone_walk (A : Option Addr) (c : Nat) (xs : List Int) (s nq : Int) (w : World) (hx : GR 1 iva w A c xs) : Calls Try.prog 7 #[.slice A xs.length c, .int .i64 s, .int .i64 nq] w (RetB w (.returned (.bool true))) := by
  have hxl := hx.len
  have hbel0 := below0 w
  refine sx_enter (N := 99) [(0, .slice A xs.length c), (1, .int .i64 s), (2, .int .i64 nq)] Try.func7 rfl Try.ntmps7 (by simp) (fun a z d s => ((((Ag.nil z d).cons (s 2 _ rfl)).cons (s 1 _ rfl)).cons (s 0 _ rfl))) ?_
  intro a0 hA0
  refine wp_seq ?_
  refine wp_region_lit ?_
  refine sx_val hA0 rfl (ev_assign (ec _ (.bool false)) _ rfl) ?_
  intro a1 hA1; clear hA0
  refine sx_nil ?_
  refine then_n ?_
  refine wp_seq ?_
  refine wp_region_lit ?_
  refine sx_call (f := 5) (args := #[]) hA1 rfl (by decide) (.inl rfl) (ev_fn rfl (mp0 ) (by kernel_rfl) _ rfl) (Known_any _) ?_
  intro e2 w2 hR2
  obtain ⟨rfl, hb2⟩ := hR2
  refine ⟨_, rfl, ?_⟩
  intro a2 hA2
  clear hA1
  have hg2 := g0 hb2
  have hs2 := hg2.size
  clear hb2
  refine sx_val hA2 rfl (ev_assign (hA2.ev (i := 17) (v := .bool true)) _ rfl) ?_
  intro a3 hA3; clear hA2
  refine sx_nil ?_
  refine then_n ?_
  refine wp_seq ?_
  refine wp_region_lit ?_
  refine sx_val hA3 rfl (ev_move (hA3.ev (i := 0) (v := .slice A xs.length c)) _ rfl) ?_
  intro a4 hA4; clear hA3
  have hbel0_6 := Below.gN hbel0 hg2 hbel0.size
  refine sx_call (f := 34) (args := #[.slice A xs.length c]) hA4 rfl (by decide) (.inl rfl) (ev_fn rfl (mp1 (hA4.ev (i := 19) (v := .slice A xs.length c))) (by kernel_rfl) _ rfl) (made_any A c xs _ (hx.below hbel0_6)) ?_
  intro e5 w5 hR5
  obtain ⟨d, Ap5, cp5, Aj5, cj5, rfl, h86, hC5, hJ5, hb5⟩ := hR5
  refine ⟨_, rfl, ?_⟩
  intro a5 hA5
  clear hA4
  have hg5 := g0 hb5
  have hs5 := hg5.size
  clear hb5
  have ho5_0 : Own w5 (w2.heap.size) 28 8 (.slice Ap5 d.cs.length cp5) d.cs.length (flat Ct.va d.cs) := hC5
  have hh5_0 := Own.hi ho5_0
  have ho5_1 : Own w5 (w2.heap.size) 38 11 (.slice Aj5 d.js.length cj5) d.js.length (flat Jb.va d.js) := hJ5
  have hh5_1 := Own.hi ho5_1
  have hn8 := h86.n
  have hr6 := h86.r
  have hj6 := h86.jl
  refine sx_val hA5 rfl (ev_move (hA5.ev (i := 20) (v := .tuple #[.agg #[.slice Ap5 d.cs.length cp5, .slice Aj5 d.js.length cj5, .int .i64 d.room], .bool true])) _ rfl) ?_
  intro a7 hA7; clear hA5
  refine sx_val (v := .agg #[.slice Ap5 d.cs.length cp5, .slice Aj5 d.js.length cj5, .int .i64 d.room]) hA7 rfl (ev_ext (hA7.ev (i := 18) (v := .tuple #[.agg #[.slice Ap5 d.cs.length cp5, .slice Aj5 d.js.length cj5, .int .i64 d.room], .bool true])) rfl _ rfl) ?_
  intro a8 hA8; clear hA7
  refine sx_val (v := .bool true) hA8 rfl (ev_ext (hA8.ev (i := 18) (v := .tuple #[.agg #[.slice Ap5 d.cs.length cp5, .slice Aj5 d.js.length cj5, .int .i64 d.room], .bool true])) rfl _ rfl) ?_
  intro a9 hA9; clear hA8
  refine sx_new (cs := #[.slice none 0 0, .slice none 0 0, .int .i64 0]) (t := 25) hA9 rfl (by decide) (.inl rfl) (ev_alloc (z := .agg (#[.slice none 0 0, .slice none 0 0, .int .i64 0])) (by kernel_rfl) (by kernel_rfl) _ rfl) ?_
  intro B10 w10 a10 hB10 hx10 hg10 hA10
  clear hA9
  have hs10 := hg10.size
  have hl10 := hx10.lt
  refine sx_store hA10 rfl (.inl rfl) rfl (hA10.ev (i := 8) (v := .pointer (some ⟨B10, 0, none⟩))) (hA10.ev (i := 21) (v := .agg #[.slice Ap5 d.cs.length cp5, .slice Aj5 d.js.length cj5, .int .i64 d.room])) hx10 (by kernel_rfl) rfl (dk_one _ _ _ _ _ _ _) ?_
  intro w11 hx11 hg11
  have hs11 := hg11.size
  refine sx_val hA10 rfl (ev_assign (hA10.ev (i := 22) (v := .bool true)) _ rfl) ?_
  intro a12 hA12; clear hA10
  refine sx_nil ?_
  refine then_n ?_
  refine wp_seq ?_
  refine wp_region_lit ?_
  refine sx_val hA12 rfl (ev_move (hA12.ev (i := 1) (v := .int .i64 s)) _ rfl) ?_
  intro a13 hA13; clear hA12
  refine sx_call (f := 35) (args := #[.int .i64 s, .int .i64 8]) hA13 rfl (by decide) (.inl rfl) (ev_fn rfl (mp2 (hA13.ev (i := 23) (v := .int .i64 s)) (ec _ (.int .i64 8))) (by kernel_rfl) _ rfl) (Mod_any s 8 _ (by omega) (by omega)) ?_
  intro e14 w14 hR14
  obtain ⟨rfl, hb14⟩ := hR14
  refine ⟨_, rfl, ?_⟩
  intro a14 hA14
  clear hA13
  have hg14 := g0 hb14
  have hs14 := hg14.size
  clear hb14
  refine sx_val hA14 rfl (ev_assign (hA14.ev (i := 24) (v := .int .i64 (s % 8))) _ rfl) ?_
  intro a15 hA15; clear hA14
  refine sx_nil ?_
  refine then_n ?_
  refine wp_seq ?_
  have hx11_16 := hx11.gN hg14
  have ho5_17 := Own.gN ho5_0 hg10
  have ho5_18 := Own.gBT ho5_17 hg11 hx10 (by decide)
  have ho5_19 := Own.gN ho5_18 hg14
  have ho5_20 := Own.gN ho5_1 hg10
  have ho5_21 := Own.gBT ho5_20 hg11 hx10 (by decide)
  have ho5_22 := Own.gN ho5_21 hg14
  have hbel0_23 := Below.gN hbel0_6 hg5 hbel0_6.size
  have hbel0_24 := Below.gN hbel0_23 hg10 hbel0_23.size
  have hbel0_25 := Below.gB hbel0_24 hg11 hbel0_24.size (by omega)
  have hbel0_26 := Below.gN hbel0_25 hg14 hbel0_25.size
  refine region_D (n := 13) (by kernel_rfl) (by kernel_rfl) rfl (fun L ac wc => ∃ Ap6r4 : Option Addr, ∃ cp6r4 : Nat, ∃ Aj6r4 : Option Addr, ∃ cj6r4 : Nat, ∃ N10r4 : Nat, Below w.heap.size w wc ∧ w14.heap.size ≤ wc.heap.size ∧ Bx wc B10 25 (#[.slice Ap5 d.cs.length cp5, .slice Aj5 d.js.length cj5, .int .i64 d.room]) ∧ Own wc (w2.heap.size) 28 8 (.slice Ap5 d.cs.length cp5) d.cs.length (flat Ct.va d.cs) ∧ Own wc (w2.heap.size) 38 11 (.slice Aj5 d.js.length cj5) d.js.length (flat Jb.va d.js) ∧ (L 10 = true → w14.heap.size ≤ N10r4 ∧ Bx wc N10r4 25 (bif L 11 then (#[.slice Ap6r4 (sub d ⟨true, (s % 8), 200, (wd (nq % 5))⟩).1.cs.length cp6r4, .slice Aj6r4 (sub d ⟨true, (s % 8), 200, (wd (nq % 5))⟩).1.js.length cj6r4, .int .i64 (sub d ⟨true, (s % 8), 200, (wd (nq % 5))⟩).1.room]) else (#[.slice none 0 0, .slice none 0 0, .int .i64 0]))) ∧ (L 6 = true → Own wc w14.heap.size 28 8 (.slice Ap6r4 (sub d ⟨true, (s % 8), 200, (wd (nq % 5))⟩).1.cs.length cp6r4) (sub d ⟨true, (s % 8), 200, (wd (nq % 5))⟩).1.cs.length (flat Ct.va (sub d ⟨true, (s % 8), 200, (wd (nq % 5))⟩).1.cs)) ∧ (L 6 = true → Own wc w14.heap.size 38 11 (.slice Aj6r4 (sub d ⟨true, (s % 8), 200, (wd (nq % 5))⟩).1.js.length cj6r4) (sub d ⟨true, (s % 8), 200, (wd (nq % 5))⟩).1.js.length (flat Jb.va (sub d ⟨true, (s % 8), 200, (wd (nq % 5))⟩).1.js)) ∧ (L 11 = true → L 10 = true) ∧ (L 7 = true → L 6 = true) ∧ (L 8 = true → L 6 = true) ∧ (L 11 = true → L 6 = true) ∧ (L 0 = true → Sv ac 26 (.agg #[.slice Ap5 d.cs.length cp5, .slice Aj5 d.js.length cj5, .int .i64 d.room])) ∧ (L 1 = true → Sv ac 27 (.int .i64 (s % 8))) ∧ (L 2 = true → Sv ac 28 (.int .i64 nq)) ∧ (L 3 = true → Sv ac 29 (.int .i64 (nq % 5))) ∧ (L 4 = true → Sv ac 30 (.int .u64 (nq % 5))) ∧ (L 5 = true → Sv ac 31 (.agg (wd (nq % 5)).va)) ∧ (L 6 = true → Sv ac 32 (.tuple #[.agg #[.slice Ap6r4 (sub d ⟨true, (s % 8), 200, (wd (nq % 5))⟩).1.cs.length cp6r4, .slice Aj6r4 (sub d ⟨true, (s % 8), 200, (wd (nq % 5))⟩).1.js.length cj6r4, .int .i64 (sub d ⟨true, (s % 8), 200, (wd (nq % 5))⟩).1.room], .int .i64 (sub d ⟨true, (s % 8), 200, (wd (nq % 5))⟩).2])) ∧ (L 7 = true → Sv ac 25 (.tuple #[.agg #[.slice Ap6r4 (sub d ⟨true, (s % 8), 200, (wd (nq % 5))⟩).1.cs.length cp6r4, .slice Aj6r4 (sub d ⟨true, (s % 8), 200, (wd (nq % 5))⟩).1.js.length cj6r4, .int .i64 (sub d ⟨true, (s % 8), 200, (wd (nq % 5))⟩).1.room], .int .i64 (sub d ⟨true, (s % 8), 200, (wd (nq % 5))⟩).2])) ∧ (L 8 = true → Sv ac 33 (.agg #[.slice Ap6r4 (sub d ⟨true, (s % 8), 200, (wd (nq % 5))⟩).1.cs.length cp6r4, .slice Aj6r4 (sub d ⟨true, (s % 8), 200, (wd (nq % 5))⟩).1.js.length cj6r4, .int .i64 (sub d ⟨true, (s % 8), 200, (wd (nq % 5))⟩).1.room])) ∧ (L 9 = true → Sv ac 34 (.int .i64 (sub d ⟨true, (s % 8), 200, (wd (nq % 5))⟩).2)) ∧ (L 10 = true → Sv ac 10 (.pointer (some ⟨N10r4, 0, none⟩))) ∧ (L 12 = true → Sv ac 11 (.int .i64 (sub d ⟨true, (s % 8), 200, (wd (nq % 5))⟩).2))) ⟨none, 0, none, 0, 0, (Below.gN hbel0_26 (gdr _) hbel0_26.size), (Nat.le_refl _), (hx11_16.gN (gdr _)), (Own.gN ho5_19 (gdr _)), (Own.gN ho5_22 (gdr _)), (fun h => by cases h), (fun h => by cases h), (fun h => by cases h), (fun h => by cases h), (fun h => by cases h), (fun h => by cases h), (fun h => by cases h), (fun h => by cases h), (fun h => by cases h), (fun h => by cases h), (fun h => by cases h), (fun h => by cases h), (fun h => by cases h), (fun h => by cases h), (fun h => by cases h), (fun h => by cases h), (fun h => by cases h), (fun h => by cases h), (fun h => by cases h)⟩ ?_ ?_
  · intro iq hiq o ho L hL hdep ac wc hF hJ
    obtain ⟨Ap6r4, cp6r4, Aj6r4, cj6r4, N10r4, bl, sz, b_B10, p_0, p_1, n_N10r4, o_6_0, o_6_1, cl_11_10, cl_7_6, cl_8_6, cl_11_6, s_26, s_27, s_28, s_29, s_30, s_31, s_32, s_25, s_33, s_34, s_10, s_11⟩ := hJ
    have zq := hF.1.trans hA15.1
    match iq, hiq with
    | 0, _ =>
      obtain rfl := Option.some.inj (show some _ = some o from ho); clear ho
      have v8 := hF.sv (s := 8) (by kernel_rfl) (hA15.get (i := 8) (v := .pointer (some ⟨B10, 0, none⟩)))
      refine dj_val (i := 0) (v := .agg #[.slice Ap5 d.cs.length cp5, .slice Aj5 d.js.length cj5, .int .i64 d.room]) rfl (.inl rfl) (ev_row v8.eval b_B10 Try.underlying25 rfl (n := 3) (by kernel_rfl) rfl _ rfl) ?_
      exact ⟨⟨_, rfl⟩, Ap6r4, cp6r4, Aj6r4, cj6r4, N10r4, bl, sz, b_B10, p_0, p_1, n_N10r4, o_6_0, o_6_1, cl_11_10, cl_7_6, cl_8_6, cl_11_6, (fun _ => Sv.self (by rw [zq]; decide) _), (so s_27), (so s_28), (so s_29), (so s_30), (so s_31), (so s_32), (so s_25), (so s_33), (so s_34), (so s_10), (so s_11)⟩
    | 1, _ =>
      obtain rfl := Option.some.inj (show some _ = some o from ho); clear ho
      have v1 := hF.sv (s := 1) (by kernel_rfl) (hA15.get (i := 1) (v := .int .i64 (s % 8)))
      refine dj_val (i := 1) (v := .int .i64 (s % 8)) rfl (.inl rfl) (ev_move v1.eval _ rfl) ?_
      exact ⟨⟨_, rfl⟩, Ap6r4, cp6r4, Aj6r4, cj6r4, N10r4, bl, sz, b_B10, p_0, p_1, n_N10r4, o_6_0, o_6_1, cl_11_10, cl_7_6, cl_8_6, cl_11_6, (so s_26), (fun _ => Sv.self (by rw [zq]; decide) _), (so s_28), (so s_29), (so s_30), (so s_31), (so s_32), (so s_25), (so s_33), (so s_34), (so s_10), (so s_11)⟩
    | 2, _ =>
      obtain rfl := Option.some.inj (show some _ = some o from ho); clear ho
      have v2 := hF.sv (s := 2) (by kernel_rfl) (hA15.get (i := 2) (v := .int .i64 nq))
      refine dj_val (i := 2) (v := .int .i64 nq) rfl (.inl rfl) (ev_move v2.eval _ rfl) ?_
      exact ⟨⟨_, rfl⟩, Ap6r4, cp6r4, Aj6r4, cj6r4, N10r4, bl, sz, b_B10, p_0, p_1, n_N10r4, o_6_0, o_6_1, cl_11_10, cl_7_6, cl_8_6, cl_11_6, (so s_26), (so s_27), (fun _ => Sv.self (by rw [zq]; decide) _), (so s_29), (so s_30), (so s_31), (so s_32), (so s_25), (so s_33), (so s_34), (so s_10), (so s_11)⟩
    | 3, _ =>
      obtain rfl := Option.some.inj (show some _ = some o from ho); clear ho
      have v28 := s_28 (dp hdep 2)
      refine dj_call (i := 3) (f := 35) (args := #[.int .i64 nq, .int .i64 5]) rfl (.inl rfl) (ev_fn rfl (mp2 v28.eval (ec ac (.int .i64 5))) (by kernel_rfl) _ rfl) (Mod_any nq 5 _ (by omega) (by omega)) ?_
      intro e wk3 hR
      obtain ⟨rfl, hb3⟩ := hR
      refine ⟨_, rfl, ?_⟩
      have hg := g0 hb3
      exact ⟨⟨_, rfl⟩, Ap6r4, cp6r4, Aj6r4, cj6r4, N10r4, (Below.gN bl hg bl.size), (Nat.le_trans sz hg.size), (b_B10.gN hg), (Own.gN p_0 hg), (Own.gN p_1 hg), (fun h => ⟨(n_N10r4 h).1, (n_N10r4 h).2.gN hg⟩), (fun h => Own.gN (o_6_0 h) hg), (fun h => Own.gN (o_6_1 h) hg), cl_11_10, cl_7_6, cl_8_6, cl_11_6, (so s_26), (so s_27), (so s_28), (fun _ => Sv.self (by rw [zq]; decide) _), (so s_30), (so s_31), (so s_32), (so s_25), (so s_33), (so s_34), (so s_10), (so s_11)⟩
    | 4, _ =>
      obtain rfl := Option.some.inj (show some _ = some o from ho); clear ho
      have v29 := s_29 (dp hdep 3)
      refine dj_val (i := 4) (v := .int .u64 (nq % 5)) rfl (.inl rfl) (ev_convU (m := (nq % 5)) v29.eval (by omega) (by omega) _ rfl) ?_
      exact ⟨⟨_, rfl⟩, Ap6r4, cp6r4, Aj6r4, cj6r4, N10r4, bl, sz, b_B10, p_0, p_1, n_N10r4, o_6_0, o_6_1, cl_11_10, cl_7_6, cl_8_6, cl_11_6, (so s_26), (so s_27), (so s_28), (so s_29), (fun _ => Sv.self (by rw [zq]; decide) _), (so s_31), (so s_32), (so s_25), (so s_33), (so s_34), (so s_10), (so s_11)⟩
    | 5, _ =>
      obtain rfl := Option.some.inj (show some _ = some o from ho); clear ho
      have v30 := s_30 (dp hdep 4)
      refine dj_call (i := 5) (f := 33) (args := #[.int .u64 (nq % 5)]) rfl (.inl rfl) (ev_fn rfl (mp1 v30.eval) (by kernel_rfl) _ rfl) (word_any (nq % 5) _) ?_
      intro e wk5 hR
      obtain ⟨rfl, hb5⟩ := hR
      refine ⟨_, rfl, ?_⟩
      have hg := g0 hb5
      exact ⟨⟨_, rfl⟩, Ap6r4, cp6r4, Aj6r4, cj6r4, N10r4, (Below.gN bl hg bl.size), (Nat.le_trans sz hg.size), (b_B10.gN hg), (Own.gN p_0 hg), (Own.gN p_1 hg), (fun h => ⟨(n_N10r4 h).1, (n_N10r4 h).2.gN hg⟩), (fun h => Own.gN (o_6_0 h) hg), (fun h => Own.gN (o_6_1 h) hg), cl_11_10, cl_7_6, cl_8_6, cl_11_6, (so s_26), (so s_27), (so s_28), (so s_29), (so s_30), (fun _ => Sv.self (by rw [zq]; decide) _), (so s_32), (so s_25), (so s_33), (so s_34), (so s_10), (so s_11)⟩
    | 6, _ =>
      obtain rfl := Option.some.inj (show some _ = some o from ho); clear ho
      have v26 := s_26 (dp hdep 0)
      have v27 := s_27 (dp hdep 1)
      have v31 := s_31 (dp hdep 5)
      refine dj_call (i := 6) (f := 12) (args := #[.agg #[.slice Ap5 d.cs.length cp5, .slice Aj5 d.js.length cj5, .int .i64 d.room], .int .i64 (s % 8), .int .i64 200, .agg (wd (nq % 5)).va]) rfl (.inl rfl) (ev_fn rfl (mp4 v26.eval v27.eval (ec ac (.int .i64 200)) v31.eval) (by kernel_rfl) _ rfl) (Write_any Ap5 cp5 Aj5 cj5 d.cs d.js d.room (s % 8) 200 (wd (nq % 5)) _ ⟨(OwnR.gr (e := 28) ⟨rfl, p_0⟩), (OwnR.gr (e := 38) ⟨rfl, p_1⟩)⟩ (by omega) (by omega)) ?_
      intro e wk6 hR
      obtain ⟨Ap6r4, cp6r4, Aj6r4, cj6r4, rfl, hC6, hJ6, hb6⟩ := hR
      refine ⟨_, rfl, ?_⟩
      have hg := g0 hb6
      have hown0 := Own.mono (hC6.2) sz
      have hown1 := Own.mono (hJ6.2) sz
      exact ⟨⟨_, rfl⟩, Ap6r4, cp6r4, Aj6r4, cj6r4, N10r4, (Below.gN bl hg bl.size), (Nat.le_trans sz hg.size), (b_B10.gN hg), (Own.gN p_0 hg), (Own.gN p_1 hg), (fun h => ⟨(n_N10r4 h).1, by
          have e0 : L 11 = false := by
            cases hc : L 11
            · rfl
            · exact absurd (cl_11_6 hc) (by rw [hL]; decide)
          have h0 := (n_N10r4 h).2.gN hg
          rw [e0] at h0
          show Bx _ _ _ (bif L 11 then _ else _)
          rw [e0]
          exact h0⟩), (fun _ => hown0), (fun _ => hown1), cl_11_10, (fun _ => rfl), (fun _ => rfl), (fun _ => rfl), (so s_26), (so s_27), (so s_28), (so s_29), (so s_30), (so s_31), (fun _ => Sv.self (by rw [zq]; decide) _), (fun h => absurd (cl_7_6 h) (by rw [hL]; decide)), (fun h => absurd (cl_8_6 h) (by rw [hL]; decide)), (so s_34), (so s_10), (so s_11)⟩
    | 7, _ =>
      obtain rfl := Option.some.inj (show some _ = some o from ho); clear ho
      have v32 := s_32 (dp hdep 6)
      refine dj_val (i := 7) (v := .tuple #[.agg #[.slice Ap6r4 (sub d ⟨true, (s % 8), 200, (wd (nq % 5))⟩).1.cs.length cp6r4, .slice Aj6r4 (sub d ⟨true, (s % 8), 200, (wd (nq % 5))⟩).1.js.length cj6r4, .int .i64 (sub d ⟨true, (s % 8), 200, (wd (nq % 5))⟩).1.room], .int .i64 (sub d ⟨true, (s % 8), 200, (wd (nq % 5))⟩).2]) rfl (.inl rfl) (ev_move v32.eval _ rfl) ?_
      exact ⟨⟨_, rfl⟩, Ap6r4, cp6r4, Aj6r4, cj6r4, N10r4, bl, sz, b_B10, p_0, p_1, n_N10r4, o_6_0, o_6_1, cl_11_10, (fun _ => dp hdep 6), cl_8_6, cl_11_6, (so s_26), (so s_27), (so s_28), (so s_29), (so s_30), (so s_31), (so s_32), (fun _ => Sv.self (by rw [zq]; decide) _), (so s_33), (so s_34), (so s_10), (so s_11)⟩
    | 8, _ =>
      obtain rfl := Option.some.inj (show some _ = some o from ho); clear ho
      have v25 := s_25 (dp hdep 7)
      refine dj_val (i := 8) (v := .agg #[.slice Ap6r4 (sub d ⟨true, (s % 8), 200, (wd (nq % 5))⟩).1.cs.length cp6r4, .slice Aj6r4 (sub d ⟨true, (s % 8), 200, (wd (nq % 5))⟩).1.js.length cj6r4, .int .i64 (sub d ⟨true, (s % 8), 200, (wd (nq % 5))⟩).1.room]) rfl (.inl rfl) (ev_ext v25.eval rfl _ rfl) ?_
      exact ⟨⟨_, rfl⟩, Ap6r4, cp6r4, Aj6r4, cj6r4, N10r4, bl, sz, b_B10, p_0, p_1, n_N10r4, o_6_0, o_6_1, cl_11_10, cl_7_6, (fun _ => cl_7_6 (dp hdep 7)), cl_11_6, (so s_26), (so s_27), (so s_28), (so s_29), (so s_30), (so s_31), (so s_32), (so s_25), (fun _ => Sv.self (by rw [zq]; decide) _), (so s_34), (so s_10), (so s_11)⟩
    | 9, _ =>
      obtain rfl := Option.some.inj (show some _ = some o from ho); clear ho
      have v25 := s_25 (dp hdep 7)
      refine dj_val (i := 9) (v := .int .i64 (sub d ⟨true, (s % 8), 200, (wd (nq % 5))⟩).2) rfl (.inl rfl) (ev_ext v25.eval rfl _ rfl) ?_
      exact ⟨⟨_, rfl⟩, Ap6r4, cp6r4, Aj6r4, cj6r4, N10r4, bl, sz, b_B10, p_0, p_1, n_N10r4, o_6_0, o_6_1, cl_11_10, cl_7_6, cl_8_6, cl_11_6, (so s_26), (so s_27), (so s_28), (so s_29), (so s_30), (so s_31), (so s_32), (so s_25), (so s_33), (fun _ => Sv.self (by rw [zq]; decide) _), (so s_10), (so s_11)⟩
    | 10, _ =>
      obtain rfl := Option.some.inj (show some _ = some o from ho); clear ho
      refine dj_val (i := 10) rfl (.inl rfl) (w' := wc.alloc (.cells (#[.slice none 0 0, .slice none 0 0, .int .i64 0]) 25)) (v := .pointer (some ⟨wc.heap.size, 0, none⟩)) (ev_alloc (z := .agg (#[.slice none 0 0, .slice none 0 0, .int .i64 0])) (by kernel_rfl) (by kernel_rfl) _ rfl) ?_
      have hx := Bx.new wc 25 (#[.slice none 0 0, .slice none 0 0, .int .i64 0])
      have hg := g0 (al wc (.cells (#[.slice none 0 0, .slice none 0 0, .int .i64 0]) 25))
      have e0 : L 11 = false := by
        cases hc : L 11
        · rfl
        · exact absurd (cl_11_10 hc) (by rw [hL]; decide)
      replace hx : Bx (wc.alloc (.cells (#[.slice none 0 0, .slice none 0 0, .int .i64 0]) 25)) wc.heap.size 25 (bif L 11 then (#[.slice Ap6r4 (sub d ⟨true, (s % 8), 200, (wd (nq % 5))⟩).1.cs.length cp6r4, .slice Aj6r4 (sub d ⟨true, (s % 8), 200, (wd (nq % 5))⟩).1.js.length cj6r4, .int .i64 (sub d ⟨true, (s % 8), 200, (wd (nq % 5))⟩).1.room]) else (#[.slice none 0 0, .slice none 0 0, .int .i64 0])) := by rw [e0]; exact hx
      exact ⟨⟨_, rfl⟩, Ap6r4, cp6r4, Aj6r4, cj6r4, wc.heap.size, (Below.gN bl hg bl.size), (Nat.le_trans sz hg.size), (b_B10.gN hg), (Own.gN p_0 hg), (Own.gN p_1 hg), (fun _ => ⟨sz, hx⟩), (fun h => Own.gN (o_6_0 h) hg), (fun h => Own.gN (o_6_1 h) hg), (fun _ => rfl), cl_7_6, cl_8_6, cl_11_6, (so s_26), (so s_27), (so s_28), (so s_29), (so s_30), (so s_31), (so s_32), (so s_25), (so s_33), (so s_34), (fun _ => Sv.self (by rw [zq]; decide) _), (so s_11)⟩
    | 11, _ =>
      obtain rfl := Option.some.inj (show some _ = some o from ho); clear ho
      have v10 := s_10 (dp hdep 10)
      have v33 := s_33 (dp hdep 8)
      have xN10r4 := (n_N10r4 (dp hdep 10)).2
      rw [hL] at xN10r4
      refine dj_skip (i := 11) rfl rfl (.inl rfl) (w' := wc.setRow N10r4 (#[.slice Ap6r4 (sub d ⟨true, (s % 8), 200, (wd (nq % 5))⟩).1.cs.length cp6r4, .slice Aj6r4 (sub d ⟨true, (s % 8), 200, (wd (nq % 5))⟩).1.js.length cj6r4, .int .i64 (sub d ⟨true, (s % 8), 200, (wd (nq % 5))⟩).1.room])) (ev_srow v10.eval v33.eval xN10r4 (n := 3) (by kernel_rfl) rfl rfl (dk_one _ _ _ _ _ _ _) _ rfl) ?_
      have hg := grw xN10r4 (#[.slice Ap6r4 (sub d ⟨true, (s % 8), 200, (wd (nq % 5))⟩).1.cs.length cp6r4, .slice Aj6r4 (sub d ⟨true, (s % 8), 200, (wd (nq % 5))⟩).1.js.length cj6r4, .int .i64 (sub d ⟨true, (s % 8), 200, (wd (nq % 5))⟩).1.room])
      have hx := xN10r4.row (#[.slice Ap6r4 (sub d ⟨true, (s % 8), 200, (wd (nq % 5))⟩).1.cs.length cp6r4, .slice Aj6r4 (sub d ⟨true, (s % 8), 200, (wd (nq % 5))⟩).1.js.length cj6r4, .int .i64 (sub d ⟨true, (s % 8), 200, (wd (nq % 5))⟩).1.room])
      exact ⟨⟨undef, rfl⟩, Ap6r4, cp6r4, Aj6r4, cj6r4, N10r4, (Below.gB bl hg bl.size (by have := (n_N10r4 (dp hdep 10)).1; omega)), (Nat.le_trans sz hg.size), (b_B10.gB hg (by have := (n_N10r4 (dp hdep 10)).1; omega)), (Own.gB p_0 hg hh5_0 (by have := (n_N10r4 (dp hdep 10)).1; omega)), (Own.gB p_1 hg hh5_1 (by have := (n_N10r4 (dp hdep 10)).1; omega)), (fun h => ⟨(n_N10r4 h).1, hx⟩), (fun h => Own.gBT (o_6_0 h) hg xN10r4 (by decide)), (fun h => Own.gBT (o_6_1 h) hg xN10r4 (by decide)), (fun _ => dp hdep 10), cl_7_6, cl_8_6, (fun _ => cl_8_6 (dp hdep 8)), s_26, s_27, s_28, s_29, s_30, s_31, s_32, s_25, s_33, s_34, s_10, s_11⟩
    | 12, _ =>
      obtain rfl := Option.some.inj (show some _ = some o from ho); clear ho
      have v34 := s_34 (dp hdep 9)
      refine dj_val (i := 12) (v := .int .i64 (sub d ⟨true, (s % 8), 200, (wd (nq % 5))⟩).2) rfl (.inl rfl) (ev_assign v34.eval _ rfl) ?_
      exact ⟨⟨_, rfl⟩, Ap6r4, cp6r4, Aj6r4, cj6r4, N10r4, bl, sz, b_B10, p_0, p_1, n_N10r4, o_6_0, o_6_1, cl_11_10, cl_7_6, cl_8_6, cl_11_6, (so s_26), (so s_27), (so s_28), (so s_29), (so s_30), (so s_31), (so s_32), (so s_25), (so s_33), (so s_34), (so s_10), (fun _ => Sv.self (by rw [zq]; decide) _)⟩
    | k + 13, h => exact absurd h (by omega)
  · intro L hall ac27 wc27 hF hJ
    obtain ⟨Ap6r4, cp6r4, Aj6r4, cj6r4, N10r4, bl, sz, b_B10, p_0, p_1, n_N10r4, o_6_0, o_6_1, cl_11_10, cl_7_6, cl_8_6, cl_11_6, s_26, s_27, s_28, s_29, s_30, s_31, s_32, s_25, s_33, s_34, s_10, s_11⟩ := hJ
    have hA27 : Ag ac27 99 [(1, .int .i64 (s % 8)), (2, .int .i64 nq), (6, .bool false), (7, .bool true), (8, .pointer (some ⟨B10, 0, none⟩)), (9, .bool true), (10, .pointer (some ⟨N10r4, 0, none⟩)), (11, .int .i64 (sub d ⟨true, (s % 8), 200, (wd (nq % 5))⟩).2)] := (((((((((Ag.nil (hF.1.trans hA15.1) (hF.2.1.trans hA15.2.1)).cons (s_11 (hall 12 (by decide)))).cons (s_10 (hall 10 (by decide)))).cons (hF.sv (s := 9) (by kernel_rfl) (hA15.get (i := 9) (v := .bool true)))).cons (hF.sv (s := 8) (by kernel_rfl) (hA15.get (i := 8) (v := .pointer (some ⟨B10, 0, none⟩))))).cons (hF.sv (s := 7) (by kernel_rfl) (hA15.get (i := 7) (v := .bool true)))).cons (hF.sv (s := 6) (by kernel_rfl) (hA15.get (i := 6) (v := .bool false)))).cons (hF.sv (s := 2) (by kernel_rfl) (hA15.get (i := 2) (v := .int .i64 nq)))).cons (hF.sv (s := 1) (by kernel_rfl) (hA15.get (i := 1) (v := .int .i64 (s % 8)))))
    have bl27 := bl
    have sz27 := sz
    have b27_B10 := b_B10
    have p27_0 := p_0
    have p27_1 := p_1
    have n27_N10r4 := (n_N10r4 (hall 10 (by decide))).1
    have b27_N10r4 : Bx wc27 N10r4 25 (#[.slice Ap6r4 (sub d ⟨true, (s % 8), 200, (wd (nq % 5))⟩).1.cs.length cp6r4, .slice Aj6r4 (sub d ⟨true, (s % 8), 200, (wd (nq % 5))⟩).1.js.length cj6r4, .int .i64 (sub d ⟨true, (s % 8), 200, (wd (nq % 5))⟩).1.room]) := by
      have h := (n_N10r4 (hall 10 (by decide))).2
      rw [hall 11 (by decide)] at h
      exact h
    have l27_N10r4 := b27_N10r4.lt
    have o27_6_0 := o_6_0 (hall 6 (by decide))
    have hh27_6_0 := Own.hi o27_6_0
    have o27_6_1 := o_6_1 (hall 6 (by decide))
    have hh27_6_1 := Own.hi o27_6_1
    clear hF bl sz b_B10 p_0 p_1 n_N10r4 o_6_0 o_6_1 cl_11_10 cl_7_6 cl_8_6 cl_11_6 s_26 s_27 s_28 s_29 s_30 s_31 s_32 s_25 s_33 s_34 s_10 s_11 hall hA15
    refine then_n ?_
    refine wp_seq ?_
    refine wp_seq ?_
    refine wp_region_lit ?_
    refine sx_val hA27 rfl (ev_move (hA27.ev (i := 9) (v := .bool true)) _ rfl) ?_
    intro a28 hA28; clear hA27
    refine sx_val (v := .bool false) hA28 rfl (ev_notT (hA28.ev (i := 35) (v := .bool true)) _ rfl) ?_
    intro a29 hA29; clear hA28
    refine sx_val hA29 rfl (ev_move (hA29.ev (i := 36) (v := .bool false)) _ rfl) ?_
    intro a30 hA30; clear hA29
    refine sx_val (hg := (.inr ⟨2, false, 37, rfl, rfl, by kernel_rfl⟩)) hA30 rfl (ev_move (hA30.ev (i := 11) (v := .int .i64 (sub d ⟨true, (s % 8), 200, (wd (nq % 5))⟩).2)) _ rfl) ?_
    intro a31 hA31; clear hA30
    cases hd32 : decide ((sub d ⟨true, (s % 8), 200, (wd (nq % 5))⟩).2 = 0)
    · have hp32 := of_decide_eq_false hd32
      have y1 := sub_err h86.ok (h86.rng (b := true) (c := wd (nq % 5)) (s := s % 8) (f := 200) (by omega) (by omega) (by omega) (by omega))
      refine sx_val (hg := (.inr ⟨2, false, 37, rfl, rfl, by kernel_rfl⟩)) (v := .bool true) hA31 rfl (ev_neqB (k := .i64) (m := (sub d ⟨true, (s % 8), 200, (wd (nq % 5))⟩).2) (n := 0) (hA31.ev (i := 38)) (ec _ (.int .i64 0)) (by simpa using hd32) _ rfl) ?_
      intro a33 hA33; clear hA31
      refine sx_val hA33 rfl (ev_pickF (hA33.ev (i := 37) (v := .bool false)) (hA33.ev (i := 39) (v := .bool true)) _ rfl) ?_
      intro a34 hA34; clear hA33
      refine sx_nil ?_
      refine then_n ?_
      refine wp_cond_true (hA34.ev (i := 40) (v := .bool true)) ?_
      refine wp_seq ?_
      refine wp_region_lit ?_
      refine sx_val hA34 rfl (ev_move (hA34.ev (i := 7) (v := .bool true)) _ rfl) ?_
      intro a35 hA35; clear hA34
      refine sx_val hA35 rfl (ev_move (hA35.ev (i := 41) (v := .bool true)) _ rfl) ?_
      intro a36 hA36; clear hA35
      refine sx_val (hg := (.inr ⟨1, true, 42, rfl, rfl, by kernel_rfl⟩)) hA36 rfl (ev_move (hA36.ev (i := 9) (v := .bool true)) _ rfl) ?_
      intro a37 hA37; clear hA36
      refine sx_val hA37 rfl (ev_pickT (hA37.ev (i := 42) (v := .bool true)) (hA37.ev (i := 43) (v := .bool true)) _ rfl) ?_
      intro a38 hA38; clear hA37
      refine sx_val hA38 rfl (ev_move (hA38.ev (i := 44) (v := .bool true)) _ rfl) ?_
      intro a39 hA39; clear hA38
      refine sx_val (hg := (.inr ⟨4, true, 45, rfl, rfl, by kernel_rfl⟩)) hA39 rfl (ev_move (hA39.ev (i := 11) (v := .int .i64 (sub d ⟨true, (s % 8), 200, (wd (nq % 5))⟩).2)) _ rfl) ?_
      intro a40 hA40; clear hA39
      cases hd41 : decide ((sub d ⟨true, (s % 8), 200, (wd (nq % 5))⟩).2 = 10)
      rotate_left
      · have hp41 := of_decide_eq_true hd41
        refine sx_val (hg := (.inr ⟨4, true, 45, rfl, rfl, by kernel_rfl⟩)) (v := .bool true) hA40 rfl (ev_eqlB (k := .i64) (m := (sub d ⟨true, (s % 8), 200, (wd (nq % 5))⟩).2) (n := 10) (hA40.ev (i := 46)) (ec _ (.int .i64 10)) hd41 _ rfl) ?_
        intro a49 hA49; clear hA40
        refine sx_val (hg := (.inr ⟨4, true, 45, rfl, rfl, by kernel_rfl⟩)) hA49 rfl (ev_move (hA49.ev (i := 47) (v := .bool true)) _ rfl) ?_
        intro a50 hA50; clear hA49
        refine sx_no (j := 7) (s := 48) (want := false) (b := true) hA50 rfl ?_
        intro a51 hA51; clear hA50
        refine sx_no (j := 7) (s := 48) (want := false) (b := true) hA51 rfl ?_
        intro a52 hA52; clear hA51
        refine sx_val (hg := (.inr ⟨4, true, 45, rfl, rfl, by kernel_rfl⟩)) hA52 rfl (ev_pickT (hA52.ev (i := 48) (v := .bool true)) (ec _ (.bool true)) _ rfl) ?_
        intro a53 hA53; clear hA52
        refine sx_val hA53 rfl (ev_pickT (hA53.ev (i := 45) (v := .bool true)) (hA53.ev (i := 51) (v := .bool true)) _ rfl) ?_
        intro a54 hA54; clear hA53
        refine sx_val hA54 rfl (ev_assign (hA54.ev (i := 52) (v := .bool true)) _ rfl) ?_
        intro a55 hA55; clear hA54
        refine sx_nil ?_
        refine then_n ?_
        refine wp_ret ?_
        refine then_r ?_
        refine bodyPost_ret (rs_t (v := .bool true) Try.results7 hA55 (by kernel_rfl) ) hA55.2.1 ?_
        exact ⟨rfl, bl27⟩
      have hp41 := of_decide_eq_false hd41
      refine sx_val (hg := (.inr ⟨4, true, 45, rfl, rfl, by kernel_rfl⟩)) (v := .bool false) hA40 rfl (ev_eqlB (k := .i64) (m := (sub d ⟨true, (s % 8), 200, (wd (nq % 5))⟩).2) (n := 10) (hA40.ev (i := 46)) (ec _ (.int .i64 10)) hd41 _ rfl) ?_
      intro a42 hA42; clear hA40
      refine sx_val (hg := (.inr ⟨4, true, 45, rfl, rfl, by kernel_rfl⟩)) hA42 rfl (ev_move (hA42.ev (i := 47) (v := .bool false)) _ rfl) ?_
      intro a43 hA43; clear hA42
      refine sx_val (hg := (.inr ⟨7, false, 48, rfl, rfl, by kernel_rfl⟩)) hA43 rfl (ev_move (hA43.ev (i := 11) (v := .int .i64 (sub d ⟨true, (s % 8), 200, (wd (nq % 5))⟩).2)) _ rfl) ?_
      intro a44 hA44; clear hA43
      refine sx_val (hg := (.inr ⟨7, false, 48, rfl, rfl, by kernel_rfl⟩)) (v := .bool true) hA44 rfl (ev_eqlB (k := .i64) (m := (sub d ⟨true, (s % 8), 200, (wd (nq % 5))⟩).2) (n := 5) (hA44.ev (i := 49)) (ec _ (.int .i64 5)) (by simp; rcases y1 with h | h | h <;> omega) _ rfl) ?_
      intro a45 hA45; clear hA44
      refine sx_val (hg := (.inr ⟨4, true, 45, rfl, rfl, by kernel_rfl⟩)) hA45 rfl (ev_pickF (hA45.ev (i := 48) (v := .bool false)) (hA45.ev (i := 50) (v := .bool true)) _ rfl) ?_
      intro a46 hA46; clear hA45
      refine sx_val hA46 rfl (ev_pickT (hA46.ev (i := 45) (v := .bool true)) (hA46.ev (i := 51) (v := .bool true)) _ rfl) ?_
      intro a47 hA47; clear hA46
      refine sx_val hA47 rfl (ev_assign (hA47.ev (i := 52) (v := .bool true)) _ rfl) ?_
      intro a48 hA48; clear hA47
      refine sx_nil ?_
      refine then_n ?_
      refine wp_ret ?_
      refine then_r ?_
      refine bodyPost_ret (rs_t (v := .bool true) Try.results7 hA48 (by kernel_rfl) ) hA48.2.1 ?_
      exact ⟨rfl, bl27⟩
    have hp32 := of_decide_eq_true hd32
    obtain ⟨o1, -, o3, -, -, -⟩ := sub_ok (d := d) (x := ⟨true, s % 8, 200, wd (nq % 5)⟩) rfl hp32
    have hal : (sub d ⟨true, (s % 8), 200, (wd (nq % 5))⟩).1.cs.length = 8 := by rw [o3]; exact hn8
    have haj : (sub d ⟨true, (s % 8), 200, (wd (nq % 5))⟩).1.js.length ≤ 7 := by rw [o3]; simp; omega
    have hsub := hp32
    refine sx_val (hg := (.inr ⟨2, false, 37, rfl, rfl, by kernel_rfl⟩)) (v := .bool false) hA31 rfl (ev_neqB (k := .i64) (m := (sub d ⟨true, (s % 8), 200, (wd (nq % 5))⟩).2) (n := 0) (hA31.ev (i := 38)) (ec _ (.int .i64 0)) (by simpa using hd32) _ rfl) ?_
    intro a56 hA56; clear hA31
    refine sx_val hA56 rfl (ev_pickF (hA56.ev (i := 37) (v := .bool false)) (hA56.ev (i := 39) (v := .bool false)) _ rfl) ?_
    intro a57 hA57; clear hA56
    refine sx_nil ?_
    refine then_n ?_
    refine wp_cond_false (hA57.ev (i := 40) (v := .bool false)) ?_
    refine wp_skip ?_
    refine then_n ?_
    refine wp_seq ?_
    refine wp_seq ?_
    refine wp_region_lit ?_
    refine sx_val hA57 rfl (ev_assign (ec _ (.int .i64 0)) _ rfl) ?_
    intro a58 hA58; clear hA57
    refine sx_nil ?_
    refine then_n ?_
    refine wp_block ?_
    refine wp_loop_ghost (fun n a wl => ∃ (k : Nat), n = 8 - k ∧ Ag a 99 [(1, .int .i64 (s % 8)), (2, .int .i64 nq), (7, .bool true), (8, .pointer (some ⟨B10, 0, none⟩)), (10, .pointer (some ⟨N10r4, 0, none⟩)), (12, .int .i64 (k : Int))] ∧ k ≤ 8 ∧ Bx wl B10 25 #[.slice Ap5 d.cs.length cp5, .slice Aj5 d.js.length cj5, .int .i64 d.room] ∧ Bx wl N10r4 25 #[.slice Ap6r4 (sub d ⟨true, (s % 8), 200, (wd (nq % 5))⟩).1.cs.length cp6r4, .slice Aj6r4 (sub d ⟨true, (s % 8), 200, (wd (nq % 5))⟩).1.js.length cj6r4, .int .i64 (sub d ⟨true, (s % 8), 200, (wd (nq % 5))⟩).1.room] ∧ Own wl (w2.heap.size) 28 8 (.slice Ap5 d.cs.length cp5) d.cs.length (flat Ct.va d.cs) ∧ Own wl (w2.heap.size) 38 11 (.slice Aj5 d.js.length cj5) d.js.length (flat Jb.va d.js) ∧ Own wl (w14.heap.size) 28 8 (.slice Ap6r4 (sub d ⟨true, (s % 8), 200, (wd (nq % 5))⟩).1.cs.length cp6r4) (sub d ⟨true, (s % 8), 200, (wd (nq % 5))⟩).1.cs.length (flat Ct.va (sub d ⟨true, (s % 8), 200, (wd (nq % 5))⟩).1.cs) ∧ Own wl (w14.heap.size) 38 11 (.slice Aj6r4 (sub d ⟨true, (s % 8), 200, (wd (nq % 5))⟩).1.js.length cj6r4) (sub d ⟨true, (s % 8), 200, (wd (nq % 5))⟩).1.js.length (flat Jb.va (sub d ⟨true, (s % 8), 200, (wd (nq % 5))⟩).1.js) ∧ wc27.heap.size ≤ wl.heap.size ∧ Below w.heap.size w wl) (8 - 0) ⟨0, rfl, (((((((Ag.nil hA58.1 hA58.2.1).cons (hA58.get (i := 12) (v := .int .i64 0))).cons (hA58.get (i := 10) (v := .pointer (some ⟨N10r4, 0, none⟩)))).cons (hA58.get (i := 8) (v := .pointer (some ⟨B10, 0, none⟩)))).cons (hA58.get (i := 7) (v := .bool true))).cons (hA58.get (i := 2) (v := .int .i64 nq))).cons (hA58.get (i := 1) (v := .int .i64 (s % 8)))), Nat.zero_le _, b27_B10, b27_N10r4, p27_0, p27_1, o27_6_0, o27_6_1, Nat.le_refl _, bl27⟩ ?_
    intro n59 a59 w59 hI59
    obtain ⟨k, hn59, hA59, q59_0, f59_0, f59_1, f59_2, f59_3, f59_4, f59_5, hsz59, hbel59⟩ := hI59
    subst hn59
    clear hA58
    have hlB10_59 := f59_0.lt
    have hlN10r4_59 := f59_1.lt
    cases hd60 : decide ((k : Int) < 8)
    · have hp60 := of_decide_eq_false hd60
      refine wp_seq ?_
      refine wp_seq ?_
      refine wp_region_lit ?_
      refine sx_val hA59 rfl (ev_move (hA59.ev (i := 12) (v := .int .i64 (k : Int))) _ rfl) ?_
      intro a61 hA61; clear hA59
      refine sx_val (v := .bool false) hA61 rfl (ev_lssB (k := .i64) (m := (k : Int)) (n := 8) (hA61.ev (i := 53)) (ec _ (.int .i64 8)) hd60 _ rfl) ?_
      intro a62 hA62; clear hA61
      refine sx_nil ?_
      refine then_n ?_
      refine wp_cond_false (hA62.ev (i := 54) (v := .bool false)) ?_
      refine wp_exit ?_
      refine then_x ?_
      refine then_x ?_
      refine blk_hit ?_
      refine then_n ?_
      refine wp_seq ?_
      refine wp_region_lit ?_
      refine sx_val hA62 rfl (ev_move (hA62.ev (i := 7) (v := .bool true)) _ rfl) ?_
      intro a63 hA63; clear hA62
      refine sx_val hA63 rfl (ev_assign (hA63.ev (i := 98) (v := .bool true)) _ rfl) ?_
      intro a64 hA64; clear hA63
      refine sx_nil ?_
      refine then_n ?_
      refine wp_ret ?_
      refine bodyPost_ret (rs_t (v := .bool true) Try.results7 hA64 (by kernel_rfl) ) hA64.2.1 ?_
      exact ⟨rfl, hbel59⟩
    have hp60 := of_decide_eq_true hd60
    obtain ⟨u1, u2, u3, u4⟩ := al_later h86 (s := s % 8) (c := wd (nq % 5)) hsub (k := k) (by omega)
    refine wp_seq ?_
    refine wp_seq ?_
    refine wp_region_lit ?_
    refine sx_val hA59 rfl (ev_move (hA59.ev (i := 12) (v := .int .i64 (k : Int))) _ rfl) ?_
    intro a65 hA65; clear hA59
    refine sx_val (v := .bool true) hA65 rfl (ev_lssB (k := .i64) (m := (k : Int)) (n := 8) (hA65.ev (i := 53)) (ec _ (.int .i64 8)) hd60 _ rfl) ?_
    intro a66 hA66; clear hA65
    refine sx_nil ?_
    refine then_n ?_
    refine wp_cond_true (hA66.ev (i := 54) (v := .bool true)) ?_
    refine wp_skip ?_
    refine then_n ?_
    refine wp_seq ?_
    refine wp_block ?_
    refine wp_seq ?_
    refine wp_region_lit ?_
    refine sx_val (v := .agg #[.slice Ap5 d.cs.length cp5, .slice Aj5 d.js.length cj5, .int .i64 d.room]) hA66 rfl (ev_row (hA66.ev (i := 8) (v := .pointer (some ⟨B10, 0, none⟩))) f59_0 Try.underlying25 rfl (n := 3) (by kernel_rfl) rfl _ rfl) ?_
    intro a67 hA67; clear hA66
    refine sx_val hA67 rfl (ev_move (hA67.ev (i := 12) (v := .int .i64 (k : Int))) _ rfl) ?_
    intro a68 hA68; clear hA67
    refine sx_call (f := 30) (args := #[.agg #[.slice Ap5 d.cs.length cp5, .slice Aj5 d.js.length cj5, .int .i64 d.room], .int .i64 (k : Int)]) hA68 rfl (by decide) (.inl rfl) (ev_fn rfl (mp2 (hA68.ev (i := 58) (v := .agg #[.slice Ap5 d.cs.length cp5, .slice Aj5 d.js.length cj5, .int .i64 d.room])) (hA68.ev (i := 59) (v := .int .i64 (k : Int)))) (by kernel_rfl) _ rfl) (Later_any Ap5 cp5 Aj5 cj5 d.cs d.js d.room (k : Int) _ ⟨(OwnR.gr (e := 28) ⟨rfl, f59_2⟩), (OwnR.gr (e := 38) ⟨rfl, f59_3⟩)⟩ (by omega) (by omega)) ?_
    intro e69 w69 hR69
    obtain ⟨rfl, hb69⟩ := hR69
    refine ⟨_, rfl, ?_⟩
    intro a69 hA69
    clear hA68
    have hg69 := g0 hb69
    have hs69 := hg69.size
    clear hb69
    refine sx_val hA69 rfl (ev_move (hA69.ev (i := 60) (v := .tuple #[.agg (lat d (k : Int)).1.va, .int .i64 (lat d (k : Int)).2])) _ rfl) ?_
    intro a70 hA70; clear hA69
    refine sx_val (v := .agg (lat d (k : Int)).1.va) hA70 rfl (ev_ext (hA70.ev (i := 57) (v := .tuple #[.agg (lat d (k : Int)).1.va, .int .i64 (lat d (k : Int)).2])) rfl _ rfl) ?_
    intro a71 hA71; clear hA70
    refine sx_val (v := .int .i64 (lat d (k : Int)).2) hA71 rfl (ev_ext (hA71.ev (i := 57) (v := .tuple #[.agg (lat d (k : Int)).1.va, .int .i64 (lat d (k : Int)).2])) rfl _ rfl) ?_
    intro a72 hA72; clear hA71
    refine sx_new (cs := Ct.zero.va) (t := 28) hA72 rfl (by decide) (.inl rfl) (ev_alloc (z := .agg Ct.zero.va) (by kernel_rfl) (by kernel_rfl) _ rfl) ?_
    intro B73 w73 a73 hB73 hx73 hg73 hA73
    clear hA72
    have hs73 := hg73.size
    have hl73 := hx73.lt
    refine sx_store hA73 rfl (.inl rfl) rfl (hA73.ev (i := 13) (v := .pointer (some ⟨B73, 0, none⟩))) (hA73.ev (i := 61) (v := .agg (lat d (k : Int)).1.va)) hx73 (by kernel_rfl) rfl (ct_one _) ?_
    intro w74 hx74 hg74
    have hs74 := hg74.size
    refine sx_val hA73 rfl (ev_assign (hA73.ev (i := 62) (v := .int .i64 (lat d (k : Int)).2)) _ rfl) ?_
    intro a75 hA75; clear hA73
    refine sx_nil ?_
    refine then_n ?_
    refine wp_seq ?_
    refine wp_region_lit ?_
    have f59_76 := f59_1.gN hg69
    have f59_77 := f59_76.gN hg73
    have f59_78 := f59_77.gB hg74 (by omega)
    refine sx_val (v := .agg #[.slice Ap6r4 (sub d ⟨true, (s % 8), 200, (wd (nq % 5))⟩).1.cs.length cp6r4, .slice Aj6r4 (sub d ⟨true, (s % 8), 200, (wd (nq % 5))⟩).1.js.length cj6r4, .int .i64 (sub d ⟨true, (s % 8), 200, (wd (nq % 5))⟩).1.room]) hA75 rfl (ev_row (hA75.ev (i := 10) (v := .pointer (some ⟨N10r4, 0, none⟩))) f59_78 Try.underlying25 rfl (n := 3) (by kernel_rfl) rfl _ rfl) ?_
    intro a79 hA79; clear hA75
    refine sx_val hA79 rfl (ev_move (hA79.ev (i := 12) (v := .int .i64 (k : Int))) _ rfl) ?_
    intro a80 hA80; clear hA79
    have f59_82 := Own.gN f59_4 hg69
    have f59_83 := Own.gN f59_82 hg73
    have f59_84 := Own.gB f59_83 hg74 hh27_6_0 (by omega)
    have f59_85 := Own.gN f59_5 hg69
    have f59_86 := Own.gN f59_85 hg73
    have f59_87 := Own.gBT f59_86 hg74 hx73 (by decide)
    refine sx_call (f := 30) (args := #[.agg #[.slice Ap6r4 (sub d ⟨true, (s % 8), 200, (wd (nq % 5))⟩).1.cs.length cp6r4, .slice Aj6r4 (sub d ⟨true, (s % 8), 200, (wd (nq % 5))⟩).1.js.length cj6r4, .int .i64 (sub d ⟨true, (s % 8), 200, (wd (nq % 5))⟩).1.room], .int .i64 (k : Int)]) hA80 rfl (by decide) (.inl rfl) (ev_fn rfl (mp2 (hA80.ev (i := 64) (v := .agg #[.slice Ap6r4 (sub d ⟨true, (s % 8), 200, (wd (nq % 5))⟩).1.cs.length cp6r4, .slice Aj6r4 (sub d ⟨true, (s % 8), 200, (wd (nq % 5))⟩).1.js.length cj6r4, .int .i64 (sub d ⟨true, (s % 8), 200, (wd (nq % 5))⟩).1.room])) (hA80.ev (i := 65) (v := .int .i64 (k : Int)))) (by kernel_rfl) _ rfl) (Later_any Ap6r4 cp6r4 Aj6r4 cj6r4 (sub d ⟨true, (s % 8), 200, (wd (nq % 5))⟩).1.cs (sub d ⟨true, (s % 8), 200, (wd (nq % 5))⟩).1.js (sub d ⟨true, (s % 8), 200, (wd (nq % 5))⟩).1.room (k : Int) _ ⟨(OwnR.gr (e := 28) ⟨rfl, f59_84⟩), (OwnR.gr (e := 38) ⟨rfl, f59_87⟩)⟩ (by omega) (by omega)) ?_
    intro e81 w81 hR81
    obtain ⟨rfl, hb81⟩ := hR81
    refine ⟨_, rfl, ?_⟩
    intro a81 hA81
    clear hA80
    have hg81 := g0 hb81
    have hs81 := hg81.size
    clear hb81
    refine sx_val hA81 rfl (ev_move (hA81.ev (i := 66) (v := .tuple #[.agg (lat (sub d ⟨true, (s % 8), 200, (wd (nq % 5))⟩).1 (k : Int)).1.va, .int .i64 (lat (sub d ⟨true, (s % 8), 200, (wd (nq % 5))⟩).1 (k : Int)).2])) _ rfl) ?_
    intro a88 hA88; clear hA81
    refine sx_val (v := .agg (lat (sub d ⟨true, (s % 8), 200, (wd (nq % 5))⟩).1 (k : Int)).1.va) hA88 rfl (ev_ext (hA88.ev (i := 63) (v := .tuple #[.agg (lat (sub d ⟨true, (s % 8), 200, (wd (nq % 5))⟩).1 (k : Int)).1.va, .int .i64 (lat (sub d ⟨true, (s % 8), 200, (wd (nq % 5))⟩).1 (k : Int)).2])) rfl _ rfl) ?_
    intro a89 hA89; clear hA88
    refine sx_val (v := .int .i64 (lat (sub d ⟨true, (s % 8), 200, (wd (nq % 5))⟩).1 (k : Int)).2) hA89 rfl (ev_ext (hA89.ev (i := 63) (v := .tuple #[.agg (lat (sub d ⟨true, (s % 8), 200, (wd (nq % 5))⟩).1 (k : Int)).1.va, .int .i64 (lat (sub d ⟨true, (s % 8), 200, (wd (nq % 5))⟩).1 (k : Int)).2])) rfl _ rfl) ?_
    intro a90 hA90; clear hA89
    refine sx_new (cs := Ct.zero.va) (t := 28) hA90 rfl (by decide) (.inl rfl) (ev_alloc (z := .agg Ct.zero.va) (by kernel_rfl) (by kernel_rfl) _ rfl) ?_
    intro B91 w91 a91 hB91 hx91 hg91 hA91
    clear hA90
    have hs91 := hg91.size
    have hl91 := hx91.lt
    refine sx_store hA91 rfl (.inl rfl) rfl (hA91.ev (i := 15) (v := .pointer (some ⟨B91, 0, none⟩))) (hA91.ev (i := 67) (v := .agg (lat (sub d ⟨true, (s % 8), 200, (wd (nq % 5))⟩).1 (k : Int)).1.va)) hx91 (by kernel_rfl) rfl (ct_one _) ?_
    intro w92 hx92 hg92
    have hs92 := hg92.size
    refine sx_val hA91 rfl (ev_assign (hA91.ev (i := 68) (v := .int .i64 (lat (sub d ⟨true, (s % 8), 200, (wd (nq % 5))⟩).1 (k : Int)).2)) _ rfl) ?_
    intro a93 hA93; clear hA91
    refine sx_nil ?_
    refine then_n ?_
    refine wp_seq ?_
    have f59_94 := f59_0.gN hg69
    have f59_95 := f59_94.gN hg73
    have f59_96 := f59_95.gB hg74 (by omega)
    have f59_97 := f59_96.gN hg81
    have f59_98 := f59_97.gN hg91
    have f59_99 := f59_98.gB hg92 (by omega)
    have f59_100 := f59_78.gN hg81
    have f59_101 := f59_100.gN hg91
    have f59_102 := f59_101.gB hg92 (by omega)
    have hx74_103 := hx74.gN hg81
    have hx74_104 := hx74_103.gN hg91
    have hx74_105 := hx74_104.gB hg92 (by omega)
    have f59_106 := Own.gN f59_2 hg69
    have f59_107 := Own.gN f59_106 hg73
    have f59_108 := Own.gB f59_107 hg74 hh5_0 (by omega)
    have f59_109 := Own.gN f59_108 hg81
    have f59_110 := Own.gN f59_109 hg91
    have f59_111 := Own.gB f59_110 hg92 hh5_0 (by omega)
    have f59_112 := Own.gN f59_3 hg69
    have f59_113 := Own.gN f59_112 hg73
    have f59_114 := Own.gBT f59_113 hg74 hx73 (by decide)
    have f59_115 := Own.gN f59_114 hg81
    have f59_116 := Own.gN f59_115 hg91
    have f59_117 := Own.gBT f59_116 hg92 hx91 (by decide)
    have f59_118 := Own.gN f59_84 hg81
    have f59_119 := Own.gN f59_118 hg91
    have f59_120 := Own.gB f59_119 hg92 hh27_6_0 (by omega)
    have f59_121 := Own.gN f59_87 hg81
    have f59_122 := Own.gN f59_121 hg91
    have f59_123 := Own.gBT f59_122 hg92 hx91 (by decide)
    have hbel59_124 := Below.gN hbel59 hg69 hbel59.size
    have hbel59_125 := Below.gN hbel59_124 hg73 hbel59_124.size
    have hbel59_126 := Below.gB hbel59_125 hg74 hbel59_125.size (by omega)
    have hbel59_127 := Below.gN hbel59_126 hg81 hbel59_126.size
    have hbel59_128 := Below.gN hbel59_127 hg91 hbel59_127.size
    have hbel59_129 := Below.gB hbel59_128 hg92 hbel59_128.size (by omega)
    cases hd130 : decide ((k : Int) = (s % 8))
    · have hp130 := of_decide_eq_false hd130
      refine region_D (n := 29) (by kernel_rfl) (by kernel_rfl) rfl (fun L ac wc => Below w.heap.size w wc ∧ w92.heap.size ≤ wc.heap.size ∧ Bx wc B10 25 (#[.slice Ap5 d.cs.length cp5, .slice Aj5 d.js.length cj5, .int .i64 d.room]) ∧ Bx wc N10r4 25 (#[.slice Ap6r4 (sub d ⟨true, (s % 8), 200, (wd (nq % 5))⟩).1.cs.length cp6r4, .slice Aj6r4 (sub d ⟨true, (s % 8), 200, (wd (nq % 5))⟩).1.js.length cj6r4, .int .i64 (sub d ⟨true, (s % 8), 200, (wd (nq % 5))⟩).1.room]) ∧ Bx wc B73 28 (lat d (k : Int)).1.va ∧ Bx wc B91 28 (lat (sub d ⟨true, (s % 8), 200, (wd (nq % 5))⟩).1 (k : Int)).1.va ∧ Own wc (w2.heap.size) 28 8 (.slice Ap5 d.cs.length cp5) d.cs.length (flat Ct.va d.cs) ∧ Own wc (w2.heap.size) 38 11 (.slice Aj5 d.js.length cj5) d.js.length (flat Jb.va d.js) ∧ Own wc (w14.heap.size) 28 8 (.slice Ap6r4 (sub d ⟨true, (s % 8), 200, (wd (nq % 5))⟩).1.cs.length cp6r4) (sub d ⟨true, (s % 8), 200, (wd (nq % 5))⟩).1.cs.length (flat Ct.va (sub d ⟨true, (s % 8), 200, (wd (nq % 5))⟩).1.cs) ∧ Own wc (w14.heap.size) 38 11 (.slice Aj6r4 (sub d ⟨true, (s % 8), 200, (wd (nq % 5))⟩).1.js.length cj6r4) (sub d ⟨true, (s % 8), 200, (wd (nq % 5))⟩).1.js.length (flat Jb.va (sub d ⟨true, (s % 8), 200, (wd (nq % 5))⟩).1.js) ∧ (L 0 = true → Sv ac 69 (.int .i64 (lat d (k : Int)).2)) ∧ (L 1 = true → Sv ac 70 (.bool false)) ∧ (L 2 = true → Sv ac 71 (.bool false)) ∧ (L 3 = true → Sv ac 72 (.int .i64 (lat (sub d ⟨true, (s % 8), 200, (wd (nq % 5))⟩).1 (k : Int)).2)) ∧ (L 4 = true → Sv ac 73 (.bool false)) ∧ (L 5 = true → Sv ac 74 (.bool false)) ∧ (L 6 = true → Sv ac 75 (.bool false)) ∧ (L 7 = true → Sv ac 76 (.int .i64 (k : Int))) ∧ (L 8 = true → Sv ac 77 (.int .i64 (s % 8))) ∧ (L 9 = true → Sv ac 78 (.bool true)) ∧ (L 10 = true → Sv ac 79 (.bool true)) ∧ (L 11 = true → Sv ac 80 (.agg (lat d (k : Int)).1.va)) ∧ (L 12 = true → Sv ac 81 (.agg (lat (sub d ⟨true, (s % 8), 200, (wd (nq % 5))⟩).1 (k : Int)).1.va)) ∧ (L 13 = true → Sv ac 82 (.bool false)) ∧ (L 14 = true → Sv ac 83 (.bool false)) ∧ (L 15 = true → Sv ac 84 (.bool false)) ∧ (L 16 = true → Sv ac 85 (.bool false)) ∧ (L 17 = true → Sv ac 86 (.int .i64 (k : Int))) ∧ (L 18 = true → Sv ac 87 (.int .i64 (s % 8))) ∧ (L 19 = true → Sv ac 88 (.bool false)) ∧ (L 20 = true → Sv ac 89 (.bool false)) ∧ (L 27 = true → Sv ac 96 (.bool false)) ∧ (L 28 = true → Sv ac 97 (.bool false))) ⟨(Below.gN hbel59_129 (gdr _) hbel59_129.size), (Nat.le_refl _), (f59_99.gN (gdr _)), (f59_102.gN (gdr _)), (hx74_105.gN (gdr _)), (hx92.gN (gdr _)), (Own.gN f59_111 (gdr _)), (Own.gN f59_117 (gdr _)), (Own.gN f59_120 (gdr _)), (Own.gN f59_123 (gdr _)), (fun h => by cases h), (fun h => by cases h), (fun h => by cases h), (fun h => by cases h), (fun h => by cases h), (fun h => by cases h), (fun h => by cases h), (fun h => by cases h), (fun h => by cases h), (fun h => by cases h), (fun h => by cases h), (fun h => by cases h), (fun h => by cases h), (fun h => by cases h), (fun h => by cases h), (fun h => by cases h), (fun h => by cases h), (fun h => by cases h), (fun h => by cases h), (fun h => by cases h), (fun h => by cases h), (fun h => by cases h), (fun h => by cases h)⟩ ?_ ?_
      · intro iq hiq o ho L hL hdep ac wc hF hJ
        obtain ⟨bl, sz, b_B10, b_N10r4, b_B73, b_B91, p_0, p_1, p_2, p_3, s_69, s_70, s_71, s_72, s_73, s_74, s_75, s_76, s_77, s_78, s_79, s_80, s_81, s_82, s_83, s_84, s_85, s_86, s_87, s_88, s_89, s_96, s_97⟩ := hJ
        have zq := hF.1.trans hA93.1
        match iq, hiq with
        | 0, _ =>
          obtain rfl := Option.some.inj (show some _ = some o from ho); clear ho
          have v14 := hF.sv (s := 14) (by kernel_rfl) (hA93.get (i := 14) (v := .int .i64 (lat d (k : Int)).2))
          refine dj_val (i := 0) (v := .int .i64 (lat d (k : Int)).2) rfl (.inl rfl) (ev_move v14.eval _ rfl) ?_
          exact ⟨⟨_, rfl⟩, bl, sz, b_B10, b_N10r4, b_B73, b_B91, p_0, p_1, p_2, p_3, (fun _ => Sv.self (by rw [zq]; decide) _), (so s_70), (so s_71), (so s_72), (so s_73), (so s_74), (so s_75), (so s_76), (so s_77), (so s_78), (so s_79), (so s_80), (so s_81), (so s_82), (so s_83), (so s_84), (so s_85), (so s_86), (so s_87), (so s_88), (so s_89), (so s_96), (so s_97)⟩
        | 1, _ =>
          obtain rfl := Option.some.inj (show some _ = some o from ho); clear ho
          have v69 := s_69 (dp hdep 0)
          refine dj_val (i := 1) (v := .bool false) rfl (.inl rfl) (ev_neqB (k := .i64) (m := (lat d (k : Int)).2) (n := 0) v69.eval (ec ac (.int .i64 0)) (by simpa using (by rw [u1] <;> rfl)) _ rfl) ?_
          exact ⟨⟨_, rfl⟩, bl, sz, b_B10, b_N10r4, b_B73, b_B91, p_0, p_1, p_2, p_3, (so s_69), (fun _ => Sv.self (by rw [zq]; decide) _), (so s_71), (so s_72), (so s_73), (so s_74), (so s_75), (so s_76), (so s_77), (so s_78), (so s_79), (so s_80), (so s_81), (so s_82), (so s_83), (so s_84), (so s_85), (so s_86), (so s_87), (so s_88), (so s_89), (so s_96), (so s_97)⟩
        | 2, _ =>
          obtain rfl := Option.some.inj (show some _ = some o from ho); clear ho
          have v70 := s_70 (dp hdep 1)
          refine dj_val (i := 2) (v := .bool false) rfl (.inl rfl) (ev_move v70.eval _ rfl) ?_
          exact ⟨⟨_, rfl⟩, bl, sz, b_B10, b_N10r4, b_B73, b_B91, p_0, p_1, p_2, p_3, (so s_69), (so s_70), (fun _ => Sv.self (by rw [zq]; decide) _), (so s_72), (so s_73), (so s_74), (so s_75), (so s_76), (so s_77), (so s_78), (so s_79), (so s_80), (so s_81), (so s_82), (so s_83), (so s_84), (so s_85), (so s_86), (so s_87), (so s_88), (so s_89), (so s_96), (so s_97)⟩
        | 3, _ =>
          obtain rfl := Option.some.inj (show some _ = some o from ho); clear ho
          have v71 := s_71 (dp hdep 2)
          have v16 := hF.sv (s := 16) (by kernel_rfl) (hA93.get (i := 16) (v := .int .i64 (lat (sub d ⟨true, (s % 8), 200, (wd (nq % 5))⟩).1 (k : Int)).2))
          refine dj_val (i := 3) (v := .int .i64 (lat (sub d ⟨true, (s % 8), 200, (wd (nq % 5))⟩).1 (k : Int)).2) rfl (.inr ⟨2, false, 71, rfl, by kernel_rfl, v71⟩) (ev_move v16.eval _ rfl) ?_
          exact ⟨⟨_, rfl⟩, bl, sz, b_B10, b_N10r4, b_B73, b_B91, p_0, p_1, p_2, p_3, (so s_69), (so s_70), (so s_71), (fun _ => Sv.self (by rw [zq]; decide) _), (so s_73), (so s_74), (so s_75), (so s_76), (so s_77), (so s_78), (so s_79), (so s_80), (so s_81), (so s_82), (so s_83), (so s_84), (so s_85), (so s_86), (so s_87), (so s_88), (so s_89), (so s_96), (so s_97)⟩
        | 4, _ =>
          obtain rfl := Option.some.inj (show some _ = some o from ho); clear ho
          have v71 := s_71 (dp hdep 2)
          have v72 := s_72 (dp hdep 3)
          refine dj_val (i := 4) (v := .bool false) rfl (.inr ⟨2, false, 71, rfl, by kernel_rfl, v71⟩) (ev_neqB (k := .i64) (m := (lat (sub d ⟨true, (s % 8), 200, (wd (nq % 5))⟩).1 (k : Int)).2) (n := 0) v72.eval (ec ac (.int .i64 0)) (by simpa using (by rw [u2] <;> rfl)) _ rfl) ?_
          exact ⟨⟨_, rfl⟩, bl, sz, b_B10, b_N10r4, b_B73, b_B91, p_0, p_1, p_2, p_3, (so s_69), (so s_70), (so s_71), (so s_72), (fun _ => Sv.self (by rw [zq]; decide) _), (so s_74), (so s_75), (so s_76), (so s_77), (so s_78), (so s_79), (so s_80), (so s_81), (so s_82), (so s_83), (so s_84), (so s_85), (so s_86), (so s_87), (so s_88), (so s_89), (so s_96), (so s_97)⟩
        | 5, _ =>
          obtain rfl := Option.some.inj (show some _ = some o from ho); clear ho
          have v71 := s_71 (dp hdep 2)
          have v73 := s_73 (dp hdep 4)
          refine dj_val (i := 5) (v := .bool false) rfl (.inl rfl) (ev_pickF v71.eval v73.eval _ rfl) ?_
          exact ⟨⟨_, rfl⟩, bl, sz, b_B10, b_N10r4, b_B73, b_B91, p_0, p_1, p_2, p_3, (so s_69), (so s_70), (so s_71), (so s_72), (so s_73), (fun _ => Sv.self (by rw [zq]; decide) _), (so s_75), (so s_76), (so s_77), (so s_78), (so s_79), (so s_80), (so s_81), (so s_82), (so s_83), (so s_84), (so s_85), (so s_86), (so s_87), (so s_88), (so s_89), (so s_96), (so s_97)⟩
        | 6, _ =>
          obtain rfl := Option.some.inj (show some _ = some o from ho); clear ho
          have v74 := s_74 (dp hdep 5)
          refine dj_val (i := 6) (v := .bool false) rfl (.inl rfl) (ev_move v74.eval _ rfl) ?_
          exact ⟨⟨_, rfl⟩, bl, sz, b_B10, b_N10r4, b_B73, b_B91, p_0, p_1, p_2, p_3, (so s_69), (so s_70), (so s_71), (so s_72), (so s_73), (so s_74), (fun _ => Sv.self (by rw [zq]; decide) _), (so s_76), (so s_77), (so s_78), (so s_79), (so s_80), (so s_81), (so s_82), (so s_83), (so s_84), (so s_85), (so s_86), (so s_87), (so s_88), (so s_89), (so s_96), (so s_97)⟩
        | 7, _ =>
          obtain rfl := Option.some.inj (show some _ = some o from ho); clear ho
          have v75 := s_75 (dp hdep 6)
          have v12 := hF.sv (s := 12) (by kernel_rfl) (hA93.get (i := 12) (v := .int .i64 (k : Int)))
          refine dj_val (i := 7) (v := .int .i64 (k : Int)) rfl (.inr ⟨6, false, 75, rfl, by kernel_rfl, v75⟩) (ev_move v12.eval _ rfl) ?_
          exact ⟨⟨_, rfl⟩, bl, sz, b_B10, b_N10r4, b_B73, b_B91, p_0, p_1, p_2, p_3, (so s_69), (so s_70), (so s_71), (so s_72), (so s_73), (so s_74), (so s_75), (fun _ => Sv.self (by rw [zq]; decide) _), (so s_77), (so s_78), (so s_79), (so s_80), (so s_81), (so s_82), (so s_83), (so s_84), (so s_85), (so s_86), (so s_87), (so s_88), (so s_89), (so s_96), (so s_97)⟩
        | 8, _ =>
          obtain rfl := Option.some.inj (show some _ = some o from ho); clear ho
          have v75 := s_75 (dp hdep 6)
          have v1 := hF.sv (s := 1) (by kernel_rfl) (hA93.get (i := 1) (v := .int .i64 (s % 8)))
          refine dj_val (i := 8) (v := .int .i64 (s % 8)) rfl (.inr ⟨6, false, 75, rfl, by kernel_rfl, v75⟩) (ev_move v1.eval _ rfl) ?_
          exact ⟨⟨_, rfl⟩, bl, sz, b_B10, b_N10r4, b_B73, b_B91, p_0, p_1, p_2, p_3, (so s_69), (so s_70), (so s_71), (so s_72), (so s_73), (so s_74), (so s_75), (so s_76), (fun _ => Sv.self (by rw [zq]; decide) _), (so s_78), (so s_79), (so s_80), (so s_81), (so s_82), (so s_83), (so s_84), (so s_85), (so s_86), (so s_87), (so s_88), (so s_89), (so s_96), (so s_97)⟩
        | 9, _ =>
          obtain rfl := Option.some.inj (show some _ = some o from ho); clear ho
          have v75 := s_75 (dp hdep 6)
          have v76 := s_76 (dp hdep 7)
          have v77 := s_77 (dp hdep 8)
          refine dj_val (i := 9) (v := .bool true) rfl (.inr ⟨6, false, 75, rfl, by kernel_rfl, v75⟩) (ev_neqB (k := .i64) (m := (k : Int)) (n := (s % 8)) v76.eval v77.eval (by simpa using hd130) _ rfl) ?_
          exact ⟨⟨_, rfl⟩, bl, sz, b_B10, b_N10r4, b_B73, b_B91, p_0, p_1, p_2, p_3, (so s_69), (so s_70), (so s_71), (so s_72), (so s_73), (so s_74), (so s_75), (so s_76), (so s_77), (fun _ => Sv.self (by rw [zq]; decide) _), (so s_79), (so s_80), (so s_81), (so s_82), (so s_83), (so s_84), (so s_85), (so s_86), (so s_87), (so s_88), (so s_89), (so s_96), (so s_97)⟩
        | 10, _ =>
          obtain rfl := Option.some.inj (show some _ = some o from ho); clear ho
          have v75 := s_75 (dp hdep 6)
          have v78 := s_78 (dp hdep 9)
          refine dj_val (i := 10) (v := .bool true) rfl (.inr ⟨6, false, 75, rfl, by kernel_rfl, v75⟩) (ev_move v78.eval _ rfl) ?_
          exact ⟨⟨_, rfl⟩, bl, sz, b_B10, b_N10r4, b_B73, b_B91, p_0, p_1, p_2, p_3, (so s_69), (so s_70), (so s_71), (so s_72), (so s_73), (so s_74), (so s_75), (so s_76), (so s_77), (so s_78), (fun _ => Sv.self (by rw [zq]; decide) _), (so s_80), (so s_81), (so s_82), (so s_83), (so s_84), (so s_85), (so s_86), (so s_87), (so s_88), (so s_89), (so s_96), (so s_97)⟩
        | 11, _ =>
          obtain rfl := Option.some.inj (show some _ = some o from ho); clear ho
          have v79 := s_79 (dp hdep 10)
          have v13 := hF.sv (s := 13) (by kernel_rfl) (hA93.get (i := 13) (v := .pointer (some ⟨B73, 0, none⟩)))
          refine dj_val (i := 11) (v := .agg (lat d (k : Int)).1.va) rfl (.inr ⟨10, true, 79, rfl, by kernel_rfl, v79⟩) (ev_row v13.eval b_B73 Try.underlying28 rfl (n := 8) (by kernel_rfl) rfl _ rfl) ?_
          exact ⟨⟨_, rfl⟩, bl, sz, b_B10, b_N10r4, b_B73, b_B91, p_0, p_1, p_2, p_3, (so s_69), (so s_70), (so s_71), (so s_72), (so s_73), (so s_74), (so s_75), (so s_76), (so s_77), (so s_78), (so s_79), (fun _ => Sv.self (by rw [zq]; decide) _), (so s_81), (so s_82), (so s_83), (so s_84), (so s_85), (so s_86), (so s_87), (so s_88), (so s_89), (so s_96), (so s_97)⟩
        | 12, _ =>
          obtain rfl := Option.some.inj (show some _ = some o from ho); clear ho
          have v79 := s_79 (dp hdep 10)
          have v15 := hF.sv (s := 15) (by kernel_rfl) (hA93.get (i := 15) (v := .pointer (some ⟨B91, 0, none⟩)))
          refine dj_val (i := 12) (v := .agg (lat (sub d ⟨true, (s % 8), 200, (wd (nq % 5))⟩).1 (k : Int)).1.va) rfl (.inr ⟨10, true, 79, rfl, by kernel_rfl, v79⟩) (ev_row v15.eval b_B91 Try.underlying28 rfl (n := 8) (by kernel_rfl) rfl _ rfl) ?_
          exact ⟨⟨_, rfl⟩, bl, sz, b_B10, b_N10r4, b_B73, b_B91, p_0, p_1, p_2, p_3, (so s_69), (so s_70), (so s_71), (so s_72), (so s_73), (so s_74), (so s_75), (so s_76), (so s_77), (so s_78), (so s_79), (so s_80), (fun _ => Sv.self (by rw [zq]; decide) _), (so s_82), (so s_83), (so s_84), (so s_85), (so s_86), (so s_87), (so s_88), (so s_89), (so s_96), (so s_97)⟩
        | 13, _ =>
          obtain rfl := Option.some.inj (show some _ = some o from ho); clear ho
          have v79 := s_79 (dp hdep 10)
          have v80 := s_80 (dp hdep 11)
          have v81 := s_81 (dp hdep 12)
          refine dj_val (i := 13) (v := .bool false) rfl (.inr ⟨10, true, 79, rfl, by kernel_rfl, v79⟩) (ev_neCB (a := (lat d (k : Int)).1) (b := (lat (sub d ⟨true, (s % 8), 200, (wd (nq % 5))⟩).1 (k : Int)).1) (r := false) v80.eval v81.eval (by rw [u3 hp130]; simp) _ rfl) ?_
          exact ⟨⟨_, rfl⟩, bl, sz, b_B10, b_N10r4, b_B73, b_B91, p_0, p_1, p_2, p_3, (so s_69), (so s_70), (so s_71), (so s_72), (so s_73), (so s_74), (so s_75), (so s_76), (so s_77), (so s_78), (so s_79), (so s_80), (so s_81), (fun _ => Sv.self (by rw [zq]; decide) _), (so s_83), (so s_84), (so s_85), (so s_86), (so s_87), (so s_88), (so s_89), (so s_96), (so s_97)⟩
        | 14, _ =>
          obtain rfl := Option.some.inj (show some _ = some o from ho); clear ho
          have v75 := s_75 (dp hdep 6)
          have v79 := s_79 (dp hdep 10)
          have v82 := s_82 (dp hdep 13)
          refine dj_val (i := 14) (v := .bool false) rfl (.inr ⟨6, false, 75, rfl, by kernel_rfl, v75⟩) (ev_pickT v79.eval v82.eval _ rfl) ?_
          exact ⟨⟨_, rfl⟩, bl, sz, b_B10, b_N10r4, b_B73, b_B91, p_0, p_1, p_2, p_3, (so s_69), (so s_70), (so s_71), (so s_72), (so s_73), (so s_74), (so s_75), (so s_76), (so s_77), (so s_78), (so s_79), (so s_80), (so s_81), (so s_82), (fun _ => Sv.self (by rw [zq]; decide) _), (so s_84), (so s_85), (so s_86), (so s_87), (so s_88), (so s_89), (so s_96), (so s_97)⟩
        | 15, _ =>
          obtain rfl := Option.some.inj (show some _ = some o from ho); clear ho
          have v75 := s_75 (dp hdep 6)
          have v83 := s_83 (dp hdep 14)
          refine dj_val (i := 15) (v := .bool false) rfl (.inl rfl) (ev_pickF v75.eval v83.eval _ rfl) ?_
          exact ⟨⟨_, rfl⟩, bl, sz, b_B10, b_N10r4, b_B73, b_B91, p_0, p_1, p_2, p_3, (so s_69), (so s_70), (so s_71), (so s_72), (so s_73), (so s_74), (so s_75), (so s_76), (so s_77), (so s_78), (so s_79), (so s_80), (so s_81), (so s_82), (so s_83), (fun _ => Sv.self (by rw [zq]; decide) _), (so s_85), (so s_86), (so s_87), (so s_88), (so s_89), (so s_96), (so s_97)⟩
        | 16, _ =>
          obtain rfl := Option.some.inj (show some _ = some o from ho); clear ho
          have v84 := s_84 (dp hdep 15)
          refine dj_val (i := 16) (v := .bool false) rfl (.inl rfl) (ev_move v84.eval _ rfl) ?_
          exact ⟨⟨_, rfl⟩, bl, sz, b_B10, b_N10r4, b_B73, b_B91, p_0, p_1, p_2, p_3, (so s_69), (so s_70), (so s_71), (so s_72), (so s_73), (so s_74), (so s_75), (so s_76), (so s_77), (so s_78), (so s_79), (so s_80), (so s_81), (so s_82), (so s_83), (so s_84), (fun _ => Sv.self (by rw [zq]; decide) _), (so s_86), (so s_87), (so s_88), (so s_89), (so s_96), (so s_97)⟩
        | 17, _ =>
          obtain rfl := Option.some.inj (show some _ = some o from ho); clear ho
          have v85 := s_85 (dp hdep 16)
          have v12 := hF.sv (s := 12) (by kernel_rfl) (hA93.get (i := 12) (v := .int .i64 (k : Int)))
          refine dj_val (i := 17) (v := .int .i64 (k : Int)) rfl (.inr ⟨16, false, 85, rfl, by kernel_rfl, v85⟩) (ev_move v12.eval _ rfl) ?_
          exact ⟨⟨_, rfl⟩, bl, sz, b_B10, b_N10r4, b_B73, b_B91, p_0, p_1, p_2, p_3, (so s_69), (so s_70), (so s_71), (so s_72), (so s_73), (so s_74), (so s_75), (so s_76), (so s_77), (so s_78), (so s_79), (so s_80), (so s_81), (so s_82), (so s_83), (so s_84), (so s_85), (fun _ => Sv.self (by rw [zq]; decide) _), (so s_87), (so s_88), (so s_89), (so s_96), (so s_97)⟩
        | 18, _ =>
          obtain rfl := Option.some.inj (show some _ = some o from ho); clear ho
          have v85 := s_85 (dp hdep 16)
          have v1 := hF.sv (s := 1) (by kernel_rfl) (hA93.get (i := 1) (v := .int .i64 (s % 8)))
          refine dj_val (i := 18) (v := .int .i64 (s % 8)) rfl (.inr ⟨16, false, 85, rfl, by kernel_rfl, v85⟩) (ev_move v1.eval _ rfl) ?_
          exact ⟨⟨_, rfl⟩, bl, sz, b_B10, b_N10r4, b_B73, b_B91, p_0, p_1, p_2, p_3, (so s_69), (so s_70), (so s_71), (so s_72), (so s_73), (so s_74), (so s_75), (so s_76), (so s_77), (so s_78), (so s_79), (so s_80), (so s_81), (so s_82), (so s_83), (so s_84), (so s_85), (so s_86), (fun _ => Sv.self (by rw [zq]; decide) _), (so s_88), (so s_89), (so s_96), (so s_97)⟩
        | 19, _ =>
          obtain rfl := Option.some.inj (show some _ = some o from ho); clear ho
          have v85 := s_85 (dp hdep 16)
          have v86 := s_86 (dp hdep 17)
          have v87 := s_87 (dp hdep 18)
          refine dj_val (i := 19) (v := .bool false) rfl (.inr ⟨16, false, 85, rfl, by kernel_rfl, v85⟩) (ev_eqlB (k := .i64) (m := (k : Int)) (n := (s % 8)) v86.eval v87.eval hd130 _ rfl) ?_
          exact ⟨⟨_, rfl⟩, bl, sz, b_B10, b_N10r4, b_B73, b_B91, p_0, p_1, p_2, p_3, (so s_69), (so s_70), (so s_71), (so s_72), (so s_73), (so s_74), (so s_75), (so s_76), (so s_77), (so s_78), (so s_79), (so s_80), (so s_81), (so s_82), (so s_83), (so s_84), (so s_85), (so s_86), (so s_87), (fun _ => Sv.self (by rw [zq]; decide) _), (so s_89), (so s_96), (so s_97)⟩
        | 20, _ =>
          obtain rfl := Option.some.inj (show some _ = some o from ho); clear ho
          have v85 := s_85 (dp hdep 16)
          have v88 := s_88 (dp hdep 19)
          refine dj_val (i := 20) (v := .bool false) rfl (.inr ⟨16, false, 85, rfl, by kernel_rfl, v85⟩) (ev_move v88.eval _ rfl) ?_
          exact ⟨⟨_, rfl⟩, bl, sz, b_B10, b_N10r4, b_B73, b_B91, p_0, p_1, p_2, p_3, (so s_69), (so s_70), (so s_71), (so s_72), (so s_73), (so s_74), (so s_75), (so s_76), (so s_77), (so s_78), (so s_79), (so s_80), (so s_81), (so s_82), (so s_83), (so s_84), (so s_85), (so s_86), (so s_87), (so s_88), (fun _ => Sv.self (by rw [zq]; decide) _), (so s_96), (so s_97)⟩
        | 21, _ =>
          obtain rfl := Option.some.inj (show some _ = some o from ho); clear ho
          have v89 := s_89 (dp hdep 20)
          refine dj_no (i := 21) rfl (j := 20) (s := 89) (want := true) (b := false) rfl (by kernel_rfl) v89 rfl ?_
          exact ⟨⟨_, rfl⟩, bl, sz, b_B10, b_N10r4, b_B73, b_B91, p_0, p_1, p_2, p_3, (so s_69), (so s_70), (so s_71), (so s_72), (so s_73), (so s_74), (so s_75), (so s_76), (so s_77), (so s_78), (so s_79), (so s_80), (so s_81), (so s_82), (so s_83), (so s_84), (so s_85), (so s_86), (so s_87), (so s_88), (so s_89), (so s_96), (so s_97)⟩
        | 22, _ =>
          obtain rfl := Option.some.inj (show some _ = some o from ho); clear ho
          have v89 := s_89 (dp hdep 20)
          refine dj_no (i := 22) rfl (j := 20) (s := 89) (want := true) (b := false) rfl (by kernel_rfl) v89 rfl ?_
          exact ⟨⟨_, rfl⟩, bl, sz, b_B10, b_N10r4, b_B73, b_B91, p_0, p_1, p_2, p_3, (so s_69), (so s_70), (so s_71), (so s_72), (so s_73), (so s_74), (so s_75), (so s_76), (so s_77), (so s_78), (so s_79), (so s_80), (so s_81), (so s_82), (so s_83), (so s_84), (so s_85), (so s_86), (so s_87), (so s_88), (so s_89), (so s_96), (so s_97)⟩
        | 23, _ =>
          obtain rfl := Option.some.inj (show some _ = some o from ho); clear ho
          have v89 := s_89 (dp hdep 20)
          refine dj_no (i := 23) rfl (j := 20) (s := 89) (want := true) (b := false) rfl (by kernel_rfl) v89 rfl ?_
          exact ⟨⟨_, rfl⟩, bl, sz, b_B10, b_N10r4, b_B73, b_B91, p_0, p_1, p_2, p_3, (so s_69), (so s_70), (so s_71), (so s_72), (so s_73), (so s_74), (so s_75), (so s_76), (so s_77), (so s_78), (so s_79), (so s_80), (so s_81), (so s_82), (so s_83), (so s_84), (so s_85), (so s_86), (so s_87), (so s_88), (so s_89), (so s_96), (so s_97)⟩
        | 24, _ =>
          obtain rfl := Option.some.inj (show some _ = some o from ho); clear ho
          have v89 := s_89 (dp hdep 20)
          refine dj_no (i := 24) rfl (j := 20) (s := 89) (want := true) (b := false) rfl (by kernel_rfl) v89 rfl ?_
          exact ⟨⟨_, rfl⟩, bl, sz, b_B10, b_N10r4, b_B73, b_B91, p_0, p_1, p_2, p_3, (so s_69), (so s_70), (so s_71), (so s_72), (so s_73), (so s_74), (so s_75), (so s_76), (so s_77), (so s_78), (so s_79), (so s_80), (so s_81), (so s_82), (so s_83), (so s_84), (so s_85), (so s_86), (so s_87), (so s_88), (so s_89), (so s_96), (so s_97)⟩
        | 25, _ =>
          obtain rfl := Option.some.inj (show some _ = some o from ho); clear ho
          have v89 := s_89 (dp hdep 20)
          refine dj_no (i := 25) rfl (j := 20) (s := 89) (want := true) (b := false) rfl (by kernel_rfl) v89 rfl ?_
          exact ⟨⟨_, rfl⟩, bl, sz, b_B10, b_N10r4, b_B73, b_B91, p_0, p_1, p_2, p_3, (so s_69), (so s_70), (so s_71), (so s_72), (so s_73), (so s_74), (so s_75), (so s_76), (so s_77), (so s_78), (so s_79), (so s_80), (so s_81), (so s_82), (so s_83), (so s_84), (so s_85), (so s_86), (so s_87), (so s_88), (so s_89), (so s_96), (so s_97)⟩
        | 26, _ =>
          obtain rfl := Option.some.inj (show some _ = some o from ho); clear ho
          have v89 := s_89 (dp hdep 20)
          refine dj_no (i := 26) rfl (j := 20) (s := 89) (want := true) (b := false) rfl (by kernel_rfl) v89 rfl ?_
          exact ⟨⟨_, rfl⟩, bl, sz, b_B10, b_N10r4, b_B73, b_B91, p_0, p_1, p_2, p_3, (so s_69), (so s_70), (so s_71), (so s_72), (so s_73), (so s_74), (so s_75), (so s_76), (so s_77), (so s_78), (so s_79), (so s_80), (so s_81), (so s_82), (so s_83), (so s_84), (so s_85), (so s_86), (so s_87), (so s_88), (so s_89), (so s_96), (so s_97)⟩
        | 27, _ =>
          obtain rfl := Option.some.inj (show some _ = some o from ho); clear ho
          have v85 := s_85 (dp hdep 16)
          have v89 := s_89 (dp hdep 20)
          refine dj_val (i := 27) (v := .bool false) rfl (.inr ⟨16, false, 85, rfl, by kernel_rfl, v85⟩) (ev_pickF v89.eval (ec ac (.bool false)) _ rfl) ?_
          exact ⟨⟨_, rfl⟩, bl, sz, b_B10, b_N10r4, b_B73, b_B91, p_0, p_1, p_2, p_3, (so s_69), (so s_70), (so s_71), (so s_72), (so s_73), (so s_74), (so s_75), (so s_76), (so s_77), (so s_78), (so s_79), (so s_80), (so s_81), (so s_82), (so s_83), (so s_84), (so s_85), (so s_86), (so s_87), (so s_88), (so s_89), (fun _ => Sv.self (by rw [zq]; decide) _), (so s_97)⟩
        | 28, _ =>
          obtain rfl := Option.some.inj (show some _ = some o from ho); clear ho
          have v85 := s_85 (dp hdep 16)
          have v96 := s_96 (dp hdep 27)
          refine dj_val (i := 28) (v := .bool false) rfl (.inl rfl) (ev_pickF v85.eval v96.eval _ rfl) ?_
          exact ⟨⟨_, rfl⟩, bl, sz, b_B10, b_N10r4, b_B73, b_B91, p_0, p_1, p_2, p_3, (so s_69), (so s_70), (so s_71), (so s_72), (so s_73), (so s_74), (so s_75), (so s_76), (so s_77), (so s_78), (so s_79), (so s_80), (so s_81), (so s_82), (so s_83), (so s_84), (so s_85), (so s_86), (so s_87), (so s_88), (so s_89), (so s_96), (fun _ => Sv.self (by rw [zq]; decide) _)⟩
        | k + 29, h => exact absurd h (by omega)
      · intro L hall ac131 wc131 hF hJ
        obtain ⟨bl, sz, b_B10, b_N10r4, b_B73, b_B91, p_0, p_1, p_2, p_3, s_69, s_70, s_71, s_72, s_73, s_74, s_75, s_76, s_77, s_78, s_79, s_80, s_81, s_82, s_83, s_84, s_85, s_86, s_87, s_88, s_89, s_96, s_97⟩ := hJ
        have hA131 : Ag ac131 99 [(1, .int .i64 (s % 8)), (2, .int .i64 nq), (7, .bool true), (8, .pointer (some ⟨B10, 0, none⟩)), (10, .pointer (some ⟨N10r4, 0, none⟩)), (12, .int .i64 (k : Int)), (53, .int .i64 (k : Int)), (54, .bool true), (58, .agg #[.slice Ap5 d.cs.length cp5, .slice Aj5 d.js.length cj5, .int .i64 d.room]), (59, .int .i64 (k : Int)), (60, .tuple #[.agg (lat d (k : Int)).1.va, .int .i64 (lat d (k : Int)).2]), (57, .tuple #[.agg (lat d (k : Int)).1.va, .int .i64 (lat d (k : Int)).2]), (61, .agg (lat d (k : Int)).1.va), (62, .int .i64 (lat d (k : Int)).2), (13, .pointer (some ⟨B73, 0, none⟩)), (14, .int .i64 (lat d (k : Int)).2), (64, .agg #[.slice Ap6r4 (sub d ⟨true, (s % 8), 200, (wd (nq % 5))⟩).1.cs.length cp6r4, .slice Aj6r4 (sub d ⟨true, (s % 8), 200, (wd (nq % 5))⟩).1.js.length cj6r4, .int .i64 (sub d ⟨true, (s % 8), 200, (wd (nq % 5))⟩).1.room]), (65, .int .i64 (k : Int)), (66, .tuple #[.agg (lat (sub d ⟨true, (s % 8), 200, (wd (nq % 5))⟩).1 (k : Int)).1.va, .int .i64 (lat (sub d ⟨true, (s % 8), 200, (wd (nq % 5))⟩).1 (k : Int)).2]), (63, .tuple #[.agg (lat (sub d ⟨true, (s % 8), 200, (wd (nq % 5))⟩).1 (k : Int)).1.va, .int .i64 (lat (sub d ⟨true, (s % 8), 200, (wd (nq % 5))⟩).1 (k : Int)).2]), (67, .agg (lat (sub d ⟨true, (s % 8), 200, (wd (nq % 5))⟩).1 (k : Int)).1.va), (68, .int .i64 (lat (sub d ⟨true, (s % 8), 200, (wd (nq % 5))⟩).1 (k : Int)).2), (15, .pointer (some ⟨B91, 0, none⟩)), (16, .int .i64 (lat (sub d ⟨true, (s % 8), 200, (wd (nq % 5))⟩).1 (k : Int)).2), (69, .int .i64 (lat d (k : Int)).2), (70, .bool false), (71, .bool false), (72, .int .i64 (lat (sub d ⟨true, (s % 8), 200, (wd (nq % 5))⟩).1 (k : Int)).2), (73, .bool false), (74, .bool false), (75, .bool false), (76, .int .i64 (k : Int)), (77, .int .i64 (s % 8)), (78, .bool true), (79, .bool true), (80, .agg (lat d (k : Int)).1.va), (81, .agg (lat (sub d ⟨true, (s % 8), 200, (wd (nq % 5))⟩).1 (k : Int)).1.va), (82, .bool false), (83, .bool false), (84, .bool false), (85, .bool false), (86, .int .i64 (k : Int)), (87, .int .i64 (s % 8)), (88, .bool false), (89, .bool false), (96, .bool false), (97, .bool false)] := ((((((((((((((((((((((((((((((((((((((((((((((((Ag.nil (hF.1.trans hA93.1) (hF.2.1.trans hA93.2.1)).cons (s_97 (hall 28 (by decide)))).cons (s_96 (hall 27 (by decide)))).cons (s_89 (hall 20 (by decide)))).cons (s_88 (hall 19 (by decide)))).cons (s_87 (hall 18 (by decide)))).cons (s_86 (hall 17 (by decide)))).cons (s_85 (hall 16 (by decide)))).cons (s_84 (hall 15 (by decide)))).cons (s_83 (hall 14 (by decide)))).cons (s_82 (hall 13 (by decide)))).cons (s_81 (hall 12 (by decide)))).cons (s_80 (hall 11 (by decide)))).cons (s_79 (hall 10 (by decide)))).cons (s_78 (hall 9 (by decide)))).cons (s_77 (hall 8 (by decide)))).cons (s_76 (hall 7 (by decide)))).cons (s_75 (hall 6 (by decide)))).cons (s_74 (hall 5 (by decide)))).cons (s_73 (hall 4 (by decide)))).cons (s_72 (hall 3 (by decide)))).cons (s_71 (hall 2 (by decide)))).cons (s_70 (hall 1 (by decide)))).cons (s_69 (hall 0 (by decide)))).cons (hF.sv (s := 16) (by kernel_rfl) (hA93.get (i := 16) (v := .int .i64 (lat (sub d ⟨true, (s % 8), 200, (wd (nq % 5))⟩).1 (k : Int)).2)))).cons (hF.sv (s := 15) (by kernel_rfl) (hA93.get (i := 15) (v := .pointer (some ⟨B91, 0, none⟩))))).cons (hF.sv (s := 68) (by kernel_rfl) (hA93.get (i := 68) (v := .int .i64 (lat (sub d ⟨true, (s % 8), 200, (wd (nq % 5))⟩).1 (k : Int)).2)))).cons (hF.sv (s := 67) (by kernel_rfl) (hA93.get (i := 67) (v := .agg (lat (sub d ⟨true, (s % 8), 200, (wd (nq % 5))⟩).1 (k : Int)).1.va)))).cons (hF.sv (s := 63) (by kernel_rfl) (hA93.get (i := 63) (v := .tuple #[.agg (lat (sub d ⟨true, (s % 8), 200, (wd (nq % 5))⟩).1 (k : Int)).1.va, .int .i64 (lat (sub d ⟨true, (s % 8), 200, (wd (nq % 5))⟩).1 (k : Int)).2])))).cons (hF.sv (s := 66) (by kernel_rfl) (hA93.get (i := 66) (v := .tuple #[.agg (lat (sub d ⟨true, (s % 8), 200, (wd (nq % 5))⟩).1 (k : Int)).1.va, .int .i64 (lat (sub d ⟨true, (s % 8), 200, (wd (nq % 5))⟩).1 (k : Int)).2])))).cons (hF.sv (s := 65) (by kernel_rfl) (hA93.get (i := 65) (v := .int .i64 (k : Int))))).cons (hF.sv (s := 64) (by kernel_rfl) (hA93.get (i := 64) (v := .agg #[.slice Ap6r4 (sub d ⟨true, (s % 8), 200, (wd (nq % 5))⟩).1.cs.length cp6r4, .slice Aj6r4 (sub d ⟨true, (s % 8), 200, (wd (nq % 5))⟩).1.js.length cj6r4, .int .i64 (sub d ⟨true, (s % 8), 200, (wd (nq % 5))⟩).1.room])))).cons (hF.sv (s := 14) (by kernel_rfl) (hA93.get (i := 14) (v := .int .i64 (lat d (k : Int)).2)))).cons (hF.sv (s := 13) (by kernel_rfl) (hA93.get (i := 13) (v := .pointer (some ⟨B73, 0, none⟩))))).cons (hF.sv (s := 62) (by kernel_rfl) (hA93.get (i := 62) (v := .int .i64 (lat d (k : Int)).2)))).cons (hF.sv (s := 61) (by kernel_rfl) (hA93.get (i := 61) (v := .agg (lat d (k : Int)).1.va)))).cons (hF.sv (s := 57) (by kernel_rfl) (hA93.get (i := 57) (v := .tuple #[.agg (lat d (k : Int)).1.va, .int .i64 (lat d (k : Int)).2])))).cons (hF.sv (s := 60) (by kernel_rfl) (hA93.get (i := 60) (v := .tuple #[.agg (lat d (k : Int)).1.va, .int .i64 (lat d (k : Int)).2])))).cons (hF.sv (s := 59) (by kernel_rfl) (hA93.get (i := 59) (v := .int .i64 (k : Int))))).cons (hF.sv (s := 58) (by kernel_rfl) (hA93.get (i := 58) (v := .agg #[.slice Ap5 d.cs.length cp5, .slice Aj5 d.js.length cj5, .int .i64 d.room])))).cons (hF.sv (s := 54) (by kernel_rfl) (hA93.get (i := 54) (v := .bool true)))).cons (hF.sv (s := 53) (by kernel_rfl) (hA93.get (i := 53) (v := .int .i64 (k : Int))))).cons (hF.sv (s := 12) (by kernel_rfl) (hA93.get (i := 12) (v := .int .i64 (k : Int))))).cons (hF.sv (s := 10) (by kernel_rfl) (hA93.get (i := 10) (v := .pointer (some ⟨N10r4, 0, none⟩))))).cons (hF.sv (s := 8) (by kernel_rfl) (hA93.get (i := 8) (v := .pointer (some ⟨B10, 0, none⟩))))).cons (hF.sv (s := 7) (by kernel_rfl) (hA93.get (i := 7) (v := .bool true)))).cons (hF.sv (s := 2) (by kernel_rfl) (hA93.get (i := 2) (v := .int .i64 nq)))).cons (hF.sv (s := 1) (by kernel_rfl) (hA93.get (i := 1) (v := .int .i64 (s % 8)))))
        have bl131 := bl
        have sz131 := sz
        have b131_B10 := b_B10
        have b131_N10r4 := b_N10r4
        have b131_B73 := b_B73
        have b131_B91 := b_B91
        have p131_0 := p_0
        have p131_1 := p_1
        have p131_2 := p_2
        have p131_3 := p_3
        clear hF bl sz b_B10 b_N10r4 b_B73 b_B91 p_0 p_1 p_2 p_3 s_69 s_70 s_71 s_72 s_73 s_74 s_75 s_76 s_77 s_78 s_79 s_80 s_81 s_82 s_83 s_84 s_85 s_86 s_87 s_88 s_89 s_96 s_97 hall hA93
        refine then_n ?_
        refine wp_cond_false (hA131.ev (i := 97) (v := .bool false)) ?_
        refine wp_skip ?_
        refine blk_n ?_
        refine then_n ?_
        refine wp_region_lit ?_
        refine sx_val hA131 rfl (ev_move (hA131.ev (i := 12) (v := .int .i64 (k : Int))) _ rfl) ?_
        intro a132 hA132; clear hA131
        refine sx_val (v := .int .i64 ((k + 1 : Nat) : Int)) hA132 rfl (ev_addR (k := .i64) (m := (k : Int)) (n := 1) (r := ((k + 1 : Nat) : Int)) (hA132.ev (i := 55)) (ec _ (.int .i64 1)) (wr (by omega) (by omega) (by omega)) _ rfl) ?_
        intro a133 hA133; clear hA132
        refine sx_val hA133 rfl (ev_assign (hA133.ev (i := 56) (v := .int .i64 ((k + 1 : Nat) : Int))) _ rfl) ?_
        intro a134 hA134; clear hA133
        refine sx_nil ?_
        refine then_n ?_
        refine ⟨8 - (k + 1), by omega, k + 1, rfl, (((((((Ag.nil hA134.1 hA134.2.1).cons (hA134.get (i := 12) (v := .int .i64 ((k + 1 : Nat) : Int)))).cons (hA134.get (i := 10) (v := .pointer (some ⟨N10r4, 0, none⟩)))).cons (hA134.get (i := 8) (v := .pointer (some ⟨B10, 0, none⟩)))).cons (hA134.get (i := 7) (v := .bool true))).cons (hA134.get (i := 2) (v := .int .i64 nq))).cons (hA134.get (i := 1) (v := .int .i64 (s % 8)))), by omega, b131_B10, b131_N10r4, p131_0, p131_1, p131_2, p131_3, by omega, bl131⟩
    have hp130 := of_decide_eq_true hd130
    refine region_D (n := 29) (by kernel_rfl) (by kernel_rfl) rfl (fun L ac wc => Below w.heap.size w wc ∧ w92.heap.size ≤ wc.heap.size ∧ Bx wc B10 25 (#[.slice Ap5 d.cs.length cp5, .slice Aj5 d.js.length cj5, .int .i64 d.room]) ∧ Bx wc N10r4 25 (#[.slice Ap6r4 (sub d ⟨true, (s % 8), 200, (wd (nq % 5))⟩).1.cs.length cp6r4, .slice Aj6r4 (sub d ⟨true, (s % 8), 200, (wd (nq % 5))⟩).1.js.length cj6r4, .int .i64 (sub d ⟨true, (s % 8), 200, (wd (nq % 5))⟩).1.room]) ∧ Bx wc B73 28 (lat d (k : Int)).1.va ∧ Bx wc B91 28 (lat (sub d ⟨true, (s % 8), 200, (wd (nq % 5))⟩).1 (k : Int)).1.va ∧ Own wc (w2.heap.size) 28 8 (.slice Ap5 d.cs.length cp5) d.cs.length (flat Ct.va d.cs) ∧ Own wc (w2.heap.size) 38 11 (.slice Aj5 d.js.length cj5) d.js.length (flat Jb.va d.js) ∧ Own wc (w14.heap.size) 28 8 (.slice Ap6r4 (sub d ⟨true, (s % 8), 200, (wd (nq % 5))⟩).1.cs.length cp6r4) (sub d ⟨true, (s % 8), 200, (wd (nq % 5))⟩).1.cs.length (flat Ct.va (sub d ⟨true, (s % 8), 200, (wd (nq % 5))⟩).1.cs) ∧ Own wc (w14.heap.size) 38 11 (.slice Aj6r4 (sub d ⟨true, (s % 8), 200, (wd (nq % 5))⟩).1.js.length cj6r4) (sub d ⟨true, (s % 8), 200, (wd (nq % 5))⟩).1.js.length (flat Jb.va (sub d ⟨true, (s % 8), 200, (wd (nq % 5))⟩).1.js) ∧ (L 0 = true → Sv ac 69 (.int .i64 (lat d (k : Int)).2)) ∧ (L 1 = true → Sv ac 70 (.bool false)) ∧ (L 2 = true → Sv ac 71 (.bool false)) ∧ (L 3 = true → Sv ac 72 (.int .i64 (lat (sub d ⟨true, (s % 8), 200, (wd (nq % 5))⟩).1 (k : Int)).2)) ∧ (L 4 = true → Sv ac 73 (.bool false)) ∧ (L 5 = true → Sv ac 74 (.bool false)) ∧ (L 6 = true → Sv ac 75 (.bool false)) ∧ (L 7 = true → Sv ac 76 (.int .i64 (k : Int))) ∧ (L 8 = true → Sv ac 77 (.int .i64 (s % 8))) ∧ (L 9 = true → Sv ac 78 (.bool false)) ∧ (L 10 = true → Sv ac 79 (.bool false)) ∧ (L 14 = true → Sv ac 83 (.bool false)) ∧ (L 15 = true → Sv ac 84 (.bool false)) ∧ (L 16 = true → Sv ac 85 (.bool false)) ∧ (L 17 = true → Sv ac 86 (.int .i64 (k : Int))) ∧ (L 18 = true → Sv ac 87 (.int .i64 (s % 8))) ∧ (L 19 = true → Sv ac 88 (.bool true)) ∧ (L 20 = true → Sv ac 89 (.bool true)) ∧ (L 21 = true → Sv ac 90 (.agg (lat (sub d ⟨true, (s % 8), 200, (wd (nq % 5))⟩).1 (k : Int)).1.va)) ∧ (L 22 = true → Sv ac 91 (.int .i64 nq)) ∧ (L 23 = true → Sv ac 92 (.int .i64 (nq % 5))) ∧ (L 24 = true → Sv ac 93 (.int .u64 (nq % 5))) ∧ (L 25 = true → Sv ac 94 (.agg (wd (nq % 5)).va)) ∧ (L 26 = true → Sv ac 95 (.bool false)) ∧ (L 27 = true → Sv ac 96 (.bool false)) ∧ (L 28 = true → Sv ac 97 (.bool false))) ⟨(Below.gN hbel59_129 (gdr _) hbel59_129.size), (Nat.le_refl _), (f59_99.gN (gdr _)), (f59_102.gN (gdr _)), (hx74_105.gN (gdr _)), (hx92.gN (gdr _)), (Own.gN f59_111 (gdr _)), (Own.gN f59_117 (gdr _)), (Own.gN f59_120 (gdr _)), (Own.gN f59_123 (gdr _)), (fun h => by cases h), (fun h => by cases h), (fun h => by cases h), (fun h => by cases h), (fun h => by cases h), (fun h => by cases h), (fun h => by cases h), (fun h => by cases h), (fun h => by cases h), (fun h => by cases h), (fun h => by cases h), (fun h => by cases h), (fun h => by cases h), (fun h => by cases h), (fun h => by cases h), (fun h => by cases h), (fun h => by cases h), (fun h => by cases h), (fun h => by cases h), (fun h => by cases h), (fun h => by cases h), (fun h => by cases h), (fun h => by cases h), (fun h => by cases h), (fun h => by cases h), (fun h => by cases h)⟩ ?_ ?_
    · intro iq hiq o ho L hL hdep ac wc hF hJ
      obtain ⟨bl, sz, b_B10, b_N10r4, b_B73, b_B91, p_0, p_1, p_2, p_3, s_69, s_70, s_71, s_72, s_73, s_74, s_75, s_76, s_77, s_78, s_79, s_83, s_84, s_85, s_86, s_87, s_88, s_89, s_90, s_91, s_92, s_93, s_94, s_95, s_96, s_97⟩ := hJ
      have zq := hF.1.trans hA93.1
      match iq, hiq with
      | 0, _ =>
        obtain rfl := Option.some.inj (show some _ = some o from ho); clear ho
        have v14 := hF.sv (s := 14) (by kernel_rfl) (hA93.get (i := 14) (v := .int .i64 (lat d (k : Int)).2))
        refine dj_val (i := 0) (v := .int .i64 (lat d (k : Int)).2) rfl (.inl rfl) (ev_move v14.eval _ rfl) ?_
        exact ⟨⟨_, rfl⟩, bl, sz, b_B10, b_N10r4, b_B73, b_B91, p_0, p_1, p_2, p_3, (fun _ => Sv.self (by rw [zq]; decide) _), (so s_70), (so s_71), (so s_72), (so s_73), (so s_74), (so s_75), (so s_76), (so s_77), (so s_78), (so s_79), (so s_83), (so s_84), (so s_85), (so s_86), (so s_87), (so s_88), (so s_89), (so s_90), (so s_91), (so s_92), (so s_93), (so s_94), (so s_95), (so s_96), (so s_97)⟩
      | 1, _ =>
        obtain rfl := Option.some.inj (show some _ = some o from ho); clear ho
        have v69 := s_69 (dp hdep 0)
        refine dj_val (i := 1) (v := .bool false) rfl (.inl rfl) (ev_neqB (k := .i64) (m := (lat d (k : Int)).2) (n := 0) v69.eval (ec ac (.int .i64 0)) (by simpa using (by rw [u1] <;> rfl)) _ rfl) ?_
        exact ⟨⟨_, rfl⟩, bl, sz, b_B10, b_N10r4, b_B73, b_B91, p_0, p_1, p_2, p_3, (so s_69), (fun _ => Sv.self (by rw [zq]; decide) _), (so s_71), (so s_72), (so s_73), (so s_74), (so s_75), (so s_76), (so s_77), (so s_78), (so s_79), (so s_83), (so s_84), (so s_85), (so s_86), (so s_87), (so s_88), (so s_89), (so s_90), (so s_91), (so s_92), (so s_93), (so s_94), (so s_95), (so s_96), (so s_97)⟩
      | 2, _ =>
        obtain rfl := Option.some.inj (show some _ = some o from ho); clear ho
        have v70 := s_70 (dp hdep 1)
        refine dj_val (i := 2) (v := .bool false) rfl (.inl rfl) (ev_move v70.eval _ rfl) ?_
        exact ⟨⟨_, rfl⟩, bl, sz, b_B10, b_N10r4, b_B73, b_B91, p_0, p_1, p_2, p_3, (so s_69), (so s_70), (fun _ => Sv.self (by rw [zq]; decide) _), (so s_72), (so s_73), (so s_74), (so s_75), (so s_76), (so s_77), (so s_78), (so s_79), (so s_83), (so s_84), (so s_85), (so s_86), (so s_87), (so s_88), (so s_89), (so s_90), (so s_91), (so s_92), (so s_93), (so s_94), (so s_95), (so s_96), (so s_97)⟩
      | 3, _ =>
        obtain rfl := Option.some.inj (show some _ = some o from ho); clear ho
        have v71 := s_71 (dp hdep 2)
        have v16 := hF.sv (s := 16) (by kernel_rfl) (hA93.get (i := 16) (v := .int .i64 (lat (sub d ⟨true, (s % 8), 200, (wd (nq % 5))⟩).1 (k : Int)).2))
        refine dj_val (i := 3) (v := .int .i64 (lat (sub d ⟨true, (s % 8), 200, (wd (nq % 5))⟩).1 (k : Int)).2) rfl (.inr ⟨2, false, 71, rfl, by kernel_rfl, v71⟩) (ev_move v16.eval _ rfl) ?_
        exact ⟨⟨_, rfl⟩, bl, sz, b_B10, b_N10r4, b_B73, b_B91, p_0, p_1, p_2, p_3, (so s_69), (so s_70), (so s_71), (fun _ => Sv.self (by rw [zq]; decide) _), (so s_73), (so s_74), (so s_75), (so s_76), (so s_77), (so s_78), (so s_79), (so s_83), (so s_84), (so s_85), (so s_86), (so s_87), (so s_88), (so s_89), (so s_90), (so s_91), (so s_92), (so s_93), (so s_94), (so s_95), (so s_96), (so s_97)⟩
      | 4, _ =>
        obtain rfl := Option.some.inj (show some _ = some o from ho); clear ho
        have v71 := s_71 (dp hdep 2)
        have v72 := s_72 (dp hdep 3)
        refine dj_val (i := 4) (v := .bool false) rfl (.inr ⟨2, false, 71, rfl, by kernel_rfl, v71⟩) (ev_neqB (k := .i64) (m := (lat (sub d ⟨true, (s % 8), 200, (wd (nq % 5))⟩).1 (k : Int)).2) (n := 0) v72.eval (ec ac (.int .i64 0)) (by simpa using (by rw [u2] <;> rfl)) _ rfl) ?_
        exact ⟨⟨_, rfl⟩, bl, sz, b_B10, b_N10r4, b_B73, b_B91, p_0, p_1, p_2, p_3, (so s_69), (so s_70), (so s_71), (so s_72), (fun _ => Sv.self (by rw [zq]; decide) _), (so s_74), (so s_75), (so s_76), (so s_77), (so s_78), (so s_79), (so s_83), (so s_84), (so s_85), (so s_86), (so s_87), (so s_88), (so s_89), (so s_90), (so s_91), (so s_92), (so s_93), (so s_94), (so s_95), (so s_96), (so s_97)⟩
      | 5, _ =>
        obtain rfl := Option.some.inj (show some _ = some o from ho); clear ho
        have v71 := s_71 (dp hdep 2)
        have v73 := s_73 (dp hdep 4)
        refine dj_val (i := 5) (v := .bool false) rfl (.inl rfl) (ev_pickF v71.eval v73.eval _ rfl) ?_
        exact ⟨⟨_, rfl⟩, bl, sz, b_B10, b_N10r4, b_B73, b_B91, p_0, p_1, p_2, p_3, (so s_69), (so s_70), (so s_71), (so s_72), (so s_73), (fun _ => Sv.self (by rw [zq]; decide) _), (so s_75), (so s_76), (so s_77), (so s_78), (so s_79), (so s_83), (so s_84), (so s_85), (so s_86), (so s_87), (so s_88), (so s_89), (so s_90), (so s_91), (so s_92), (so s_93), (so s_94), (so s_95), (so s_96), (so s_97)⟩
      | 6, _ =>
        obtain rfl := Option.some.inj (show some _ = some o from ho); clear ho
        have v74 := s_74 (dp hdep 5)
        refine dj_val (i := 6) (v := .bool false) rfl (.inl rfl) (ev_move v74.eval _ rfl) ?_
        exact ⟨⟨_, rfl⟩, bl, sz, b_B10, b_N10r4, b_B73, b_B91, p_0, p_1, p_2, p_3, (so s_69), (so s_70), (so s_71), (so s_72), (so s_73), (so s_74), (fun _ => Sv.self (by rw [zq]; decide) _), (so s_76), (so s_77), (so s_78), (so s_79), (so s_83), (so s_84), (so s_85), (so s_86), (so s_87), (so s_88), (so s_89), (so s_90), (so s_91), (so s_92), (so s_93), (so s_94), (so s_95), (so s_96), (so s_97)⟩
      | 7, _ =>
        obtain rfl := Option.some.inj (show some _ = some o from ho); clear ho
        have v75 := s_75 (dp hdep 6)
        have v12 := hF.sv (s := 12) (by kernel_rfl) (hA93.get (i := 12) (v := .int .i64 (k : Int)))
        refine dj_val (i := 7) (v := .int .i64 (k : Int)) rfl (.inr ⟨6, false, 75, rfl, by kernel_rfl, v75⟩) (ev_move v12.eval _ rfl) ?_
        exact ⟨⟨_, rfl⟩, bl, sz, b_B10, b_N10r4, b_B73, b_B91, p_0, p_1, p_2, p_3, (so s_69), (so s_70), (so s_71), (so s_72), (so s_73), (so s_74), (so s_75), (fun _ => Sv.self (by rw [zq]; decide) _), (so s_77), (so s_78), (so s_79), (so s_83), (so s_84), (so s_85), (so s_86), (so s_87), (so s_88), (so s_89), (so s_90), (so s_91), (so s_92), (so s_93), (so s_94), (so s_95), (so s_96), (so s_97)⟩
      | 8, _ =>
        obtain rfl := Option.some.inj (show some _ = some o from ho); clear ho
        have v75 := s_75 (dp hdep 6)
        have v1 := hF.sv (s := 1) (by kernel_rfl) (hA93.get (i := 1) (v := .int .i64 (s % 8)))
        refine dj_val (i := 8) (v := .int .i64 (s % 8)) rfl (.inr ⟨6, false, 75, rfl, by kernel_rfl, v75⟩) (ev_move v1.eval _ rfl) ?_
        exact ⟨⟨_, rfl⟩, bl, sz, b_B10, b_N10r4, b_B73, b_B91, p_0, p_1, p_2, p_3, (so s_69), (so s_70), (so s_71), (so s_72), (so s_73), (so s_74), (so s_75), (so s_76), (fun _ => Sv.self (by rw [zq]; decide) _), (so s_78), (so s_79), (so s_83), (so s_84), (so s_85), (so s_86), (so s_87), (so s_88), (so s_89), (so s_90), (so s_91), (so s_92), (so s_93), (so s_94), (so s_95), (so s_96), (so s_97)⟩
      | 9, _ =>
        obtain rfl := Option.some.inj (show some _ = some o from ho); clear ho
        have v75 := s_75 (dp hdep 6)
        have v76 := s_76 (dp hdep 7)
        have v77 := s_77 (dp hdep 8)
        refine dj_val (i := 9) (v := .bool false) rfl (.inr ⟨6, false, 75, rfl, by kernel_rfl, v75⟩) (ev_neqB (k := .i64) (m := (k : Int)) (n := (s % 8)) v76.eval v77.eval (by simpa using hd130) _ rfl) ?_
        exact ⟨⟨_, rfl⟩, bl, sz, b_B10, b_N10r4, b_B73, b_B91, p_0, p_1, p_2, p_3, (so s_69), (so s_70), (so s_71), (so s_72), (so s_73), (so s_74), (so s_75), (so s_76), (so s_77), (fun _ => Sv.self (by rw [zq]; decide) _), (so s_79), (so s_83), (so s_84), (so s_85), (so s_86), (so s_87), (so s_88), (so s_89), (so s_90), (so s_91), (so s_92), (so s_93), (so s_94), (so s_95), (so s_96), (so s_97)⟩
      | 10, _ =>
        obtain rfl := Option.some.inj (show some _ = some o from ho); clear ho
        have v75 := s_75 (dp hdep 6)
        have v78 := s_78 (dp hdep 9)
        refine dj_val (i := 10) (v := .bool false) rfl (.inr ⟨6, false, 75, rfl, by kernel_rfl, v75⟩) (ev_move v78.eval _ rfl) ?_
        exact ⟨⟨_, rfl⟩, bl, sz, b_B10, b_N10r4, b_B73, b_B91, p_0, p_1, p_2, p_3, (so s_69), (so s_70), (so s_71), (so s_72), (so s_73), (so s_74), (so s_75), (so s_76), (so s_77), (so s_78), (fun _ => Sv.self (by rw [zq]; decide) _), (so s_83), (so s_84), (so s_85), (so s_86), (so s_87), (so s_88), (so s_89), (so s_90), (so s_91), (so s_92), (so s_93), (so s_94), (so s_95), (so s_96), (so s_97)⟩
      | 11, _ =>
        obtain rfl := Option.some.inj (show some _ = some o from ho); clear ho
        have v79 := s_79 (dp hdep 10)
        refine dj_no (i := 11) rfl (j := 10) (s := 79) (want := true) (b := false) rfl (by kernel_rfl) v79 rfl ?_
        exact ⟨⟨_, rfl⟩, bl, sz, b_B10, b_N10r4, b_B73, b_B91, p_0, p_1, p_2, p_3, (so s_69), (so s_70), (so s_71), (so s_72), (so s_73), (so s_74), (so s_75), (so s_76), (so s_77), (so s_78), (so s_79), (so s_83), (so s_84), (so s_85), (so s_86), (so s_87), (so s_88), (so s_89), (so s_90), (so s_91), (so s_92), (so s_93), (so s_94), (so s_95), (so s_96), (so s_97)⟩
      | 12, _ =>
        obtain rfl := Option.some.inj (show some _ = some o from ho); clear ho
        have v79 := s_79 (dp hdep 10)
        refine dj_no (i := 12) rfl (j := 10) (s := 79) (want := true) (b := false) rfl (by kernel_rfl) v79 rfl ?_
        exact ⟨⟨_, rfl⟩, bl, sz, b_B10, b_N10r4, b_B73, b_B91, p_0, p_1, p_2, p_3, (so s_69), (so s_70), (so s_71), (so s_72), (so s_73), (so s_74), (so s_75), (so s_76), (so s_77), (so s_78), (so s_79), (so s_83), (so s_84), (so s_85), (so s_86), (so s_87), (so s_88), (so s_89), (so s_90), (so s_91), (so s_92), (so s_93), (so s_94), (so s_95), (so s_96), (so s_97)⟩
      | 13, _ =>
        obtain rfl := Option.some.inj (show some _ = some o from ho); clear ho
        have v79 := s_79 (dp hdep 10)
        refine dj_no (i := 13) rfl (j := 10) (s := 79) (want := true) (b := false) rfl (by kernel_rfl) v79 rfl ?_
        exact ⟨⟨_, rfl⟩, bl, sz, b_B10, b_N10r4, b_B73, b_B91, p_0, p_1, p_2, p_3, (so s_69), (so s_70), (so s_71), (so s_72), (so s_73), (so s_74), (so s_75), (so s_76), (so s_77), (so s_78), (so s_79), (so s_83), (so s_84), (so s_85), (so s_86), (so s_87), (so s_88), (so s_89), (so s_90), (so s_91), (so s_92), (so s_93), (so s_94), (so s_95), (so s_96), (so s_97)⟩
      | 14, _ =>
        obtain rfl := Option.some.inj (show some _ = some o from ho); clear ho
        have v75 := s_75 (dp hdep 6)
        have v79 := s_79 (dp hdep 10)
        refine dj_val (i := 14) (v := .bool false) rfl (.inr ⟨6, false, 75, rfl, by kernel_rfl, v75⟩) (ev_pickF v79.eval (ec ac (.bool false)) _ rfl) ?_
        exact ⟨⟨_, rfl⟩, bl, sz, b_B10, b_N10r4, b_B73, b_B91, p_0, p_1, p_2, p_3, (so s_69), (so s_70), (so s_71), (so s_72), (so s_73), (so s_74), (so s_75), (so s_76), (so s_77), (so s_78), (so s_79), (fun _ => Sv.self (by rw [zq]; decide) _), (so s_84), (so s_85), (so s_86), (so s_87), (so s_88), (so s_89), (so s_90), (so s_91), (so s_92), (so s_93), (so s_94), (so s_95), (so s_96), (so s_97)⟩
      | 15, _ =>
        obtain rfl := Option.some.inj (show some _ = some o from ho); clear ho
        have v75 := s_75 (dp hdep 6)
        have v83 := s_83 (dp hdep 14)
        refine dj_val (i := 15) (v := .bool false) rfl (.inl rfl) (ev_pickF v75.eval v83.eval _ rfl) ?_
        exact ⟨⟨_, rfl⟩, bl, sz, b_B10, b_N10r4, b_B73, b_B91, p_0, p_1, p_2, p_3, (so s_69), (so s_70), (so s_71), (so s_72), (so s_73), (so s_74), (so s_75), (so s_76), (so s_77), (so s_78), (so s_79), (so s_83), (fun _ => Sv.self (by rw [zq]; decide) _), (so s_85), (so s_86), (so s_87), (so s_88), (so s_89), (so s_90), (so s_91), (so s_92), (so s_93), (so s_94), (so s_95), (so s_96), (so s_97)⟩
      | 16, _ =>
        obtain rfl := Option.some.inj (show some _ = some o from ho); clear ho
        have v84 := s_84 (dp hdep 15)
        refine dj_val (i := 16) (v := .bool false) rfl (.inl rfl) (ev_move v84.eval _ rfl) ?_
        exact ⟨⟨_, rfl⟩, bl, sz, b_B10, b_N10r4, b_B73, b_B91, p_0, p_1, p_2, p_3, (so s_69), (so s_70), (so s_71), (so s_72), (so s_73), (so s_74), (so s_75), (so s_76), (so s_77), (so s_78), (so s_79), (so s_83), (so s_84), (fun _ => Sv.self (by rw [zq]; decide) _), (so s_86), (so s_87), (so s_88), (so s_89), (so s_90), (so s_91), (so s_92), (so s_93), (so s_94), (so s_95), (so s_96), (so s_97)⟩
      | 17, _ =>
        obtain rfl := Option.some.inj (show some _ = some o from ho); clear ho
        have v85 := s_85 (dp hdep 16)
        have v12 := hF.sv (s := 12) (by kernel_rfl) (hA93.get (i := 12) (v := .int .i64 (k : Int)))
        refine dj_val (i := 17) (v := .int .i64 (k : Int)) rfl (.inr ⟨16, false, 85, rfl, by kernel_rfl, v85⟩) (ev_move v12.eval _ rfl) ?_
        exact ⟨⟨_, rfl⟩, bl, sz, b_B10, b_N10r4, b_B73, b_B91, p_0, p_1, p_2, p_3, (so s_69), (so s_70), (so s_71), (so s_72), (so s_73), (so s_74), (so s_75), (so s_76), (so s_77), (so s_78), (so s_79), (so s_83), (so s_84), (so s_85), (fun _ => Sv.self (by rw [zq]; decide) _), (so s_87), (so s_88), (so s_89), (so s_90), (so s_91), (so s_92), (so s_93), (so s_94), (so s_95), (so s_96), (so s_97)⟩
      | 18, _ =>
        obtain rfl := Option.some.inj (show some _ = some o from ho); clear ho
        have v85 := s_85 (dp hdep 16)
        have v1 := hF.sv (s := 1) (by kernel_rfl) (hA93.get (i := 1) (v := .int .i64 (s % 8)))
        refine dj_val (i := 18) (v := .int .i64 (s % 8)) rfl (.inr ⟨16, false, 85, rfl, by kernel_rfl, v85⟩) (ev_move v1.eval _ rfl) ?_
        exact ⟨⟨_, rfl⟩, bl, sz, b_B10, b_N10r4, b_B73, b_B91, p_0, p_1, p_2, p_3, (so s_69), (so s_70), (so s_71), (so s_72), (so s_73), (so s_74), (so s_75), (so s_76), (so s_77), (so s_78), (so s_79), (so s_83), (so s_84), (so s_85), (so s_86), (fun _ => Sv.self (by rw [zq]; decide) _), (so s_88), (so s_89), (so s_90), (so s_91), (so s_92), (so s_93), (so s_94), (so s_95), (so s_96), (so s_97)⟩
      | 19, _ =>
        obtain rfl := Option.some.inj (show some _ = some o from ho); clear ho
        have v85 := s_85 (dp hdep 16)
        have v86 := s_86 (dp hdep 17)
        have v87 := s_87 (dp hdep 18)
        refine dj_val (i := 19) (v := .bool true) rfl (.inr ⟨16, false, 85, rfl, by kernel_rfl, v85⟩) (ev_eqlB (k := .i64) (m := (k : Int)) (n := (s % 8)) v86.eval v87.eval hd130 _ rfl) ?_
        exact ⟨⟨_, rfl⟩, bl, sz, b_B10, b_N10r4, b_B73, b_B91, p_0, p_1, p_2, p_3, (so s_69), (so s_70), (so s_71), (so s_72), (so s_73), (so s_74), (so s_75), (so s_76), (so s_77), (so s_78), (so s_79), (so s_83), (so s_84), (so s_85), (so s_86), (so s_87), (fun _ => Sv.self (by rw [zq]; decide) _), (so s_89), (so s_90), (so s_91), (so s_92), (so s_93), (so s_94), (so s_95), (so s_96), (so s_97)⟩
      | 20, _ =>
        obtain rfl := Option.some.inj (show some _ = some o from ho); clear ho
        have v85 := s_85 (dp hdep 16)
        have v88 := s_88 (dp hdep 19)
        refine dj_val (i := 20) (v := .bool true) rfl (.inr ⟨16, false, 85, rfl, by kernel_rfl, v85⟩) (ev_move v88.eval _ rfl) ?_
        exact ⟨⟨_, rfl⟩, bl, sz, b_B10, b_N10r4, b_B73, b_B91, p_0, p_1, p_2, p_3, (so s_69), (so s_70), (so s_71), (so s_72), (so s_73), (so s_74), (so s_75), (so s_76), (so s_77), (so s_78), (so s_79), (so s_83), (so s_84), (so s_85), (so s_86), (so s_87), (so s_88), (fun _ => Sv.self (by rw [zq]; decide) _), (so s_90), (so s_91), (so s_92), (so s_93), (so s_94), (so s_95), (so s_96), (so s_97)⟩
      | 21, _ =>
        obtain rfl := Option.some.inj (show some _ = some o from ho); clear ho
        have v89 := s_89 (dp hdep 20)
        have v15 := hF.sv (s := 15) (by kernel_rfl) (hA93.get (i := 15) (v := .pointer (some ⟨B91, 0, none⟩)))
        refine dj_val (i := 21) (v := .agg (lat (sub d ⟨true, (s % 8), 200, (wd (nq % 5))⟩).1 (k : Int)).1.va) rfl (.inr ⟨20, true, 89, rfl, by kernel_rfl, v89⟩) (ev_row v15.eval b_B91 Try.underlying28 rfl (n := 8) (by kernel_rfl) rfl _ rfl) ?_
        exact ⟨⟨_, rfl⟩, bl, sz, b_B10, b_N10r4, b_B73, b_B91, p_0, p_1, p_2, p_3, (so s_69), (so s_70), (so s_71), (so s_72), (so s_73), (so s_74), (so s_75), (so s_76), (so s_77), (so s_78), (so s_79), (so s_83), (so s_84), (so s_85), (so s_86), (so s_87), (so s_88), (so s_89), (fun _ => Sv.self (by rw [zq]; decide) _), (so s_91), (so s_92), (so s_93), (so s_94), (so s_95), (so s_96), (so s_97)⟩
      | 22, _ =>
        obtain rfl := Option.some.inj (show some _ = some o from ho); clear ho
        have v89 := s_89 (dp hdep 20)
        have v2 := hF.sv (s := 2) (by kernel_rfl) (hA93.get (i := 2) (v := .int .i64 nq))
        refine dj_val (i := 22) (v := .int .i64 nq) rfl (.inr ⟨20, true, 89, rfl, by kernel_rfl, v89⟩) (ev_move v2.eval _ rfl) ?_
        exact ⟨⟨_, rfl⟩, bl, sz, b_B10, b_N10r4, b_B73, b_B91, p_0, p_1, p_2, p_3, (so s_69), (so s_70), (so s_71), (so s_72), (so s_73), (so s_74), (so s_75), (so s_76), (so s_77), (so s_78), (so s_79), (so s_83), (so s_84), (so s_85), (so s_86), (so s_87), (so s_88), (so s_89), (so s_90), (fun _ => Sv.self (by rw [zq]; decide) _), (so s_92), (so s_93), (so s_94), (so s_95), (so s_96), (so s_97)⟩
      | 23, _ =>
        obtain rfl := Option.some.inj (show some _ = some o from ho); clear ho
        have v89 := s_89 (dp hdep 20)
        have v91 := s_91 (dp hdep 22)
        refine dj_call (i := 23) (f := 35) (args := #[.int .i64 nq, .int .i64 5]) rfl (.inr ⟨20, true, 89, rfl, by kernel_rfl, v89⟩) (ev_fn rfl (mp2 v91.eval (ec ac (.int .i64 5))) (by kernel_rfl) _ rfl) (Mod_any nq 5 _ (by omega) (by omega)) ?_
        intro e wk23 hR
        obtain ⟨rfl, hb23⟩ := hR
        refine ⟨_, rfl, ?_⟩
        have hg := g0 hb23
        exact ⟨⟨_, rfl⟩, (Below.gN bl hg bl.size), (Nat.le_trans sz hg.size), (b_B10.gN hg), (b_N10r4.gN hg), (b_B73.gN hg), (b_B91.gN hg), (Own.gN p_0 hg), (Own.gN p_1 hg), (Own.gN p_2 hg), (Own.gN p_3 hg), (so s_69), (so s_70), (so s_71), (so s_72), (so s_73), (so s_74), (so s_75), (so s_76), (so s_77), (so s_78), (so s_79), (so s_83), (so s_84), (so s_85), (so s_86), (so s_87), (so s_88), (so s_89), (so s_90), (so s_91), (fun _ => Sv.self (by rw [zq]; decide) _), (so s_93), (so s_94), (so s_95), (so s_96), (so s_97)⟩
      | 24, _ =>
        obtain rfl := Option.some.inj (show some _ = some o from ho); clear ho
        have v89 := s_89 (dp hdep 20)
        have v92 := s_92 (dp hdep 23)
        refine dj_val (i := 24) (v := .int .u64 (nq % 5)) rfl (.inr ⟨20, true, 89, rfl, by kernel_rfl, v89⟩) (ev_convU (m := (nq % 5)) v92.eval (by omega) (by omega) _ rfl) ?_
        exact ⟨⟨_, rfl⟩, bl, sz, b_B10, b_N10r4, b_B73, b_B91, p_0, p_1, p_2, p_3, (so s_69), (so s_70), (so s_71), (so s_72), (so s_73), (so s_74), (so s_75), (so s_76), (so s_77), (so s_78), (so s_79), (so s_83), (so s_84), (so s_85), (so s_86), (so s_87), (so s_88), (so s_89), (so s_90), (so s_91), (so s_92), (fun _ => Sv.self (by rw [zq]; decide) _), (so s_94), (so s_95), (so s_96), (so s_97)⟩
      | 25, _ =>
        obtain rfl := Option.some.inj (show some _ = some o from ho); clear ho
        have v89 := s_89 (dp hdep 20)
        have v93 := s_93 (dp hdep 24)
        refine dj_call (i := 25) (f := 33) (args := #[.int .u64 (nq % 5)]) rfl (.inr ⟨20, true, 89, rfl, by kernel_rfl, v89⟩) (ev_fn rfl (mp1 v93.eval) (by kernel_rfl) _ rfl) (word_any (nq % 5) _) ?_
        intro e wk25 hR
        obtain ⟨rfl, hb25⟩ := hR
        refine ⟨_, rfl, ?_⟩
        have hg := g0 hb25
        exact ⟨⟨_, rfl⟩, (Below.gN bl hg bl.size), (Nat.le_trans sz hg.size), (b_B10.gN hg), (b_N10r4.gN hg), (b_B73.gN hg), (b_B91.gN hg), (Own.gN p_0 hg), (Own.gN p_1 hg), (Own.gN p_2 hg), (Own.gN p_3 hg), (so s_69), (so s_70), (so s_71), (so s_72), (so s_73), (so s_74), (so s_75), (so s_76), (so s_77), (so s_78), (so s_79), (so s_83), (so s_84), (so s_85), (so s_86), (so s_87), (so s_88), (so s_89), (so s_90), (so s_91), (so s_92), (so s_93), (fun _ => Sv.self (by rw [zq]; decide) _), (so s_95), (so s_96), (so s_97)⟩
      | 26, _ =>
        obtain rfl := Option.some.inj (show some _ = some o from ho); clear ho
        have v89 := s_89 (dp hdep 20)
        have v90 := s_90 (dp hdep 21)
        have v94 := s_94 (dp hdep 25)
        refine dj_val (i := 26) (v := .bool false) rfl (.inr ⟨20, true, 89, rfl, by kernel_rfl, v89⟩) (ev_neCB (a := (lat (sub d ⟨true, (s % 8), 200, (wd (nq % 5))⟩).1 (k : Int)).1) (b := (wd (nq % 5))) (r := false) v90.eval v94.eval (by rw [u4 hp130]; simp) _ rfl) ?_
        exact ⟨⟨_, rfl⟩, bl, sz, b_B10, b_N10r4, b_B73, b_B91, p_0, p_1, p_2, p_3, (so s_69), (so s_70), (so s_71), (so s_72), (so s_73), (so s_74), (so s_75), (so s_76), (so s_77), (so s_78), (so s_79), (so s_83), (so s_84), (so s_85), (so s_86), (so s_87), (so s_88), (so s_89), (so s_90), (so s_91), (so s_92), (so s_93), (so s_94), (fun _ => Sv.self (by rw [zq]; decide) _), (so s_96), (so s_97)⟩
      | 27, _ =>
        obtain rfl := Option.some.inj (show some _ = some o from ho); clear ho
        have v85 := s_85 (dp hdep 16)
        have v89 := s_89 (dp hdep 20)
        have v95 := s_95 (dp hdep 26)
        refine dj_val (i := 27) (v := .bool false) rfl (.inr ⟨16, false, 85, rfl, by kernel_rfl, v85⟩) (ev_pickT v89.eval v95.eval _ rfl) ?_
        exact ⟨⟨_, rfl⟩, bl, sz, b_B10, b_N10r4, b_B73, b_B91, p_0, p_1, p_2, p_3, (so s_69), (so s_70), (so s_71), (so s_72), (so s_73), (so s_74), (so s_75), (so s_76), (so s_77), (so s_78), (so s_79), (so s_83), (so s_84), (so s_85), (so s_86), (so s_87), (so s_88), (so s_89), (so s_90), (so s_91), (so s_92), (so s_93), (so s_94), (so s_95), (fun _ => Sv.self (by rw [zq]; decide) _), (so s_97)⟩
      | 28, _ =>
        obtain rfl := Option.some.inj (show some _ = some o from ho); clear ho
        have v85 := s_85 (dp hdep 16)
        have v96 := s_96 (dp hdep 27)
        refine dj_val (i := 28) (v := .bool false) rfl (.inl rfl) (ev_pickF v85.eval v96.eval _ rfl) ?_
        exact ⟨⟨_, rfl⟩, bl, sz, b_B10, b_N10r4, b_B73, b_B91, p_0, p_1, p_2, p_3, (so s_69), (so s_70), (so s_71), (so s_72), (so s_73), (so s_74), (so s_75), (so s_76), (so s_77), (so s_78), (so s_79), (so s_83), (so s_84), (so s_85), (so s_86), (so s_87), (so s_88), (so s_89), (so s_90), (so s_91), (so s_92), (so s_93), (so s_94), (so s_95), (so s_96), (fun _ => Sv.self (by rw [zq]; decide) _)⟩
      | k + 29, h => exact absurd h (by omega)
    · intro L hall ac135 wc135 hF hJ
      obtain ⟨bl, sz, b_B10, b_N10r4, b_B73, b_B91, p_0, p_1, p_2, p_3, s_69, s_70, s_71, s_72, s_73, s_74, s_75, s_76, s_77, s_78, s_79, s_83, s_84, s_85, s_86, s_87, s_88, s_89, s_90, s_91, s_92, s_93, s_94, s_95, s_96, s_97⟩ := hJ
      have hA135 : Ag ac135 99 [(1, .int .i64 (s % 8)), (2, .int .i64 nq), (7, .bool true), (8, .pointer (some ⟨B10, 0, none⟩)), (10, .pointer (some ⟨N10r4, 0, none⟩)), (12, .int .i64 (k : Int)), (53, .int .i64 (k : Int)), (54, .bool true), (58, .agg #[.slice Ap5 d.cs.length cp5, .slice Aj5 d.js.length cj5, .int .i64 d.room]), (59, .int .i64 (k : Int)), (60, .tuple #[.agg (lat d (k : Int)).1.va, .int .i64 (lat d (k : Int)).2]), (57, .tuple #[.agg (lat d (k : Int)).1.va, .int .i64 (lat d (k : Int)).2]), (61, .agg (lat d (k : Int)).1.va), (62, .int .i64 (lat d (k : Int)).2), (13, .pointer (some ⟨B73, 0, none⟩)), (14, .int .i64 (lat d (k : Int)).2), (64, .agg #[.slice Ap6r4 (sub d ⟨true, (s % 8), 200, (wd (nq % 5))⟩).1.cs.length cp6r4, .slice Aj6r4 (sub d ⟨true, (s % 8), 200, (wd (nq % 5))⟩).1.js.length cj6r4, .int .i64 (sub d ⟨true, (s % 8), 200, (wd (nq % 5))⟩).1.room]), (65, .int .i64 (k : Int)), (66, .tuple #[.agg (lat (sub d ⟨true, (s % 8), 200, (wd (nq % 5))⟩).1 (k : Int)).1.va, .int .i64 (lat (sub d ⟨true, (s % 8), 200, (wd (nq % 5))⟩).1 (k : Int)).2]), (63, .tuple #[.agg (lat (sub d ⟨true, (s % 8), 200, (wd (nq % 5))⟩).1 (k : Int)).1.va, .int .i64 (lat (sub d ⟨true, (s % 8), 200, (wd (nq % 5))⟩).1 (k : Int)).2]), (67, .agg (lat (sub d ⟨true, (s % 8), 200, (wd (nq % 5))⟩).1 (k : Int)).1.va), (68, .int .i64 (lat (sub d ⟨true, (s % 8), 200, (wd (nq % 5))⟩).1 (k : Int)).2), (15, .pointer (some ⟨B91, 0, none⟩)), (16, .int .i64 (lat (sub d ⟨true, (s % 8), 200, (wd (nq % 5))⟩).1 (k : Int)).2), (69, .int .i64 (lat d (k : Int)).2), (70, .bool false), (71, .bool false), (72, .int .i64 (lat (sub d ⟨true, (s % 8), 200, (wd (nq % 5))⟩).1 (k : Int)).2), (73, .bool false), (74, .bool false), (75, .bool false), (76, .int .i64 (k : Int)), (77, .int .i64 (s % 8)), (78, .bool false), (79, .bool false), (83, .bool false), (84, .bool false), (85, .bool false), (86, .int .i64 (k : Int)), (87, .int .i64 (s % 8)), (88, .bool true), (89, .bool true), (90, .agg (lat (sub d ⟨true, (s % 8), 200, (wd (nq % 5))⟩).1 (k : Int)).1.va), (91, .int .i64 nq), (92, .int .i64 (nq % 5)), (93, .int .u64 (nq % 5)), (94, .agg (wd (nq % 5)).va), (95, .bool false), (96, .bool false), (97, .bool false)] := (((((((((((((((((((((((((((((((((((((((((((((((((((Ag.nil (hF.1.trans hA93.1) (hF.2.1.trans hA93.2.1)).cons (s_97 (hall 28 (by decide)))).cons (s_96 (hall 27 (by decide)))).cons (s_95 (hall 26 (by decide)))).cons (s_94 (hall 25 (by decide)))).cons (s_93 (hall 24 (by decide)))).cons (s_92 (hall 23 (by decide)))).cons (s_91 (hall 22 (by decide)))).cons (s_90 (hall 21 (by decide)))).cons (s_89 (hall 20 (by decide)))).cons (s_88 (hall 19 (by decide)))).cons (s_87 (hall 18 (by decide)))).cons (s_86 (hall 17 (by decide)))).cons (s_85 (hall 16 (by decide)))).cons (s_84 (hall 15 (by decide)))).cons (s_83 (hall 14 (by decide)))).cons (s_79 (hall 10 (by decide)))).cons (s_78 (hall 9 (by decide)))).cons (s_77 (hall 8 (by decide)))).cons (s_76 (hall 7 (by decide)))).cons (s_75 (hall 6 (by decide)))).cons (s_74 (hall 5 (by decide)))).cons (s_73 (hall 4 (by decide)))).cons (s_72 (hall 3 (by decide)))).cons (s_71 (hall 2 (by decide)))).cons (s_70 (hall 1 (by decide)))).cons (s_69 (hall 0 (by decide)))).cons (hF.sv (s := 16) (by kernel_rfl) (hA93.get (i := 16) (v := .int .i64 (lat (sub d ⟨true, (s % 8), 200, (wd (nq % 5))⟩).1 (k : Int)).2)))).cons (hF.sv (s := 15) (by kernel_rfl) (hA93.get (i := 15) (v := .pointer (some ⟨B91, 0, none⟩))))).cons (hF.sv (s := 68) (by kernel_rfl) (hA93.get (i := 68) (v := .int .i64 (lat (sub d ⟨true, (s % 8), 200, (wd (nq % 5))⟩).1 (k : Int)).2)))).cons (hF.sv (s := 67) (by kernel_rfl) (hA93.get (i := 67) (v := .agg (lat (sub d ⟨true, (s % 8), 200, (wd (nq % 5))⟩).1 (k : Int)).1.va)))).cons (hF.sv (s := 63) (by kernel_rfl) (hA93.get (i := 63) (v := .tuple #[.agg (lat (sub d ⟨true, (s % 8), 200, (wd (nq % 5))⟩).1 (k : Int)).1.va, .int .i64 (lat (sub d ⟨true, (s % 8), 200, (wd (nq % 5))⟩).1 (k : Int)).2])))).cons (hF.sv (s := 66) (by kernel_rfl) (hA93.get (i := 66) (v := .tuple #[.agg (lat (sub d ⟨true, (s % 8), 200, (wd (nq % 5))⟩).1 (k : Int)).1.va, .int .i64 (lat (sub d ⟨true, (s % 8), 200, (wd (nq % 5))⟩).1 (k : Int)).2])))).cons (hF.sv (s := 65) (by kernel_rfl) (hA93.get (i := 65) (v := .int .i64 (k : Int))))).cons (hF.sv (s := 64) (by kernel_rfl) (hA93.get (i := 64) (v := .agg #[.slice Ap6r4 (sub d ⟨true, (s % 8), 200, (wd (nq % 5))⟩).1.cs.length cp6r4, .slice Aj6r4 (sub d ⟨true, (s % 8), 200, (wd (nq % 5))⟩).1.js.length cj6r4, .int .i64 (sub d ⟨true, (s % 8), 200, (wd (nq % 5))⟩).1.room])))).cons (hF.sv (s := 14) (by kernel_rfl) (hA93.get (i := 14) (v := .int .i64 (lat d (k : Int)).2)))).cons (hF.sv (s := 13) (by kernel_rfl) (hA93.get (i := 13) (v := .pointer (some ⟨B73, 0, none⟩))))).cons (hF.sv (s := 62) (by kernel_rfl) (hA93.get (i := 62) (v := .int .i64 (lat d (k : Int)).2)))).cons (hF.sv (s := 61) (by kernel_rfl) (hA93.get (i := 61) (v := .agg (lat d (k : Int)).1.va)))).cons (hF.sv (s := 57) (by kernel_rfl) (hA93.get (i := 57) (v := .tuple #[.agg (lat d (k : Int)).1.va, .int .i64 (lat d (k : Int)).2])))).cons (hF.sv (s := 60) (by kernel_rfl) (hA93.get (i := 60) (v := .tuple #[.agg (lat d (k : Int)).1.va, .int .i64 (lat d (k : Int)).2])))).cons (hF.sv (s := 59) (by kernel_rfl) (hA93.get (i := 59) (v := .int .i64 (k : Int))))).cons (hF.sv (s := 58) (by kernel_rfl) (hA93.get (i := 58) (v := .agg #[.slice Ap5 d.cs.length cp5, .slice Aj5 d.js.length cj5, .int .i64 d.room])))).cons (hF.sv (s := 54) (by kernel_rfl) (hA93.get (i := 54) (v := .bool true)))).cons (hF.sv (s := 53) (by kernel_rfl) (hA93.get (i := 53) (v := .int .i64 (k : Int))))).cons (hF.sv (s := 12) (by kernel_rfl) (hA93.get (i := 12) (v := .int .i64 (k : Int))))).cons (hF.sv (s := 10) (by kernel_rfl) (hA93.get (i := 10) (v := .pointer (some ⟨N10r4, 0, none⟩))))).cons (hF.sv (s := 8) (by kernel_rfl) (hA93.get (i := 8) (v := .pointer (some ⟨B10, 0, none⟩))))).cons (hF.sv (s := 7) (by kernel_rfl) (hA93.get (i := 7) (v := .bool true)))).cons (hF.sv (s := 2) (by kernel_rfl) (hA93.get (i := 2) (v := .int .i64 nq)))).cons (hF.sv (s := 1) (by kernel_rfl) (hA93.get (i := 1) (v := .int .i64 (s % 8)))))
      have bl135 := bl
      have sz135 := sz
      have b135_B10 := b_B10
      have b135_N10r4 := b_N10r4
      have b135_B73 := b_B73
      have b135_B91 := b_B91
      have p135_0 := p_0
      have p135_1 := p_1
      have p135_2 := p_2
      have p135_3 := p_3
      clear hF bl sz b_B10 b_N10r4 b_B73 b_B91 p_0 p_1 p_2 p_3 s_69 s_70 s_71 s_72 s_73 s_74 s_75 s_76 s_77 s_78 s_79 s_83 s_84 s_85 s_86 s_87 s_88 s_89 s_90 s_91 s_92 s_93 s_94 s_95 s_96 s_97 hall hA93
      refine then_n ?_
      refine wp_cond_false (hA135.ev (i := 97) (v := .bool false)) ?_
      refine wp_skip ?_
      refine blk_n ?_
      refine then_n ?_
      refine wp_region_lit ?_
      refine sx_val hA135 rfl (ev_move (hA135.ev (i := 12) (v := .int .i64 (k : Int))) _ rfl) ?_
      intro a136 hA136; clear hA135
      refine sx_val (v := .int .i64 ((k + 1 : Nat) : Int)) hA136 rfl (ev_addR (k := .i64) (m := (k : Int)) (n := 1) (r := ((k + 1 : Nat) : Int)) (hA136.ev (i := 55)) (ec _ (.int .i64 1)) (wr (by omega) (by omega) (by omega)) _ rfl) ?_
      intro a137 hA137; clear hA136
      refine sx_val hA137 rfl (ev_assign (hA137.ev (i := 56) (v := .int .i64 ((k + 1 : Nat) : Int))) _ rfl) ?_
      intro a138 hA138; clear hA137
      refine sx_nil ?_
      refine then_n ?_
      refine ⟨8 - (k + 1), by omega, k + 1, rfl, (((((((Ag.nil hA138.1 hA138.2.1).cons (hA138.get (i := 12) (v := .int .i64 ((k + 1 : Nat) : Int)))).cons (hA138.get (i := 10) (v := .pointer (some ⟨N10r4, 0, none⟩)))).cons (hA138.get (i := 8) (v := .pointer (some ⟨B10, 0, none⟩)))).cons (hA138.get (i := 7) (v := .bool true))).cons (hA138.get (i := 2) (v := .int .i64 nq))).cons (hA138.get (i := 1) (v := .int .i64 (s % 8)))), by omega, b135_B10, b135_N10r4, p135_0, p135_1, p135_2, p135_3, by omega, bl135⟩
end Go.Proofs.Ytbkdimildnahaaa
