/- The law: DiskChecks. -/
import Derived.Test.YtbkdimildnahaaaDW
namespace Go.Proofs.Ytbkdimildnahaaa
open Go.RowKit
set_option linter.unusedVariables false
set_option maxRecDepth 100000

theorem nw_len (s r : Int) : (nw s r).1.cs.length ≤ 900000 ∧ (nw s r).1.js.length ≤ 900000 := by
  unfold nw
  split
  · simp [Dk.nil]
  · simp; omega
theorem sub_len {d : Dk} (x : Jb) (h1 : d.cs.length ≤ 800000) (h2 : d.js.length ≤ 800000) : (sub d x).1.cs.length ≤ 900000 ∧ (sub d x).1.js.length ≤ 900000 := by
  unfold sub
  split
  · split
    · simp [Dk.nil]
    · split
      · simp [Dk.nil]
      · split
        · simp [Dk.nil]
        · simp; omega
  · simp [Dk.nil]
theorem com_jlen (d : Dk) (k : Nat) : (com d k).1.js.length ≤ d.js.length := by
  by_cases hk : k < d.js.length
  · rw [com_js d k hk, List.length_eraseIdx]; split <;> omega
  · unfold com; rw [List.getElem?_eq_none (by omega)]; exact Nat.le_refl _
theorem cmp_len {d : Dk} (i : Int) (h1 : d.cs.length ≤ 800000) (h2 : d.js.length ≤ 800000) : (cmp d i).1.cs.length ≤ 900000 ∧ (cmp d i).1.js.length ≤ 900000 := by
  unfold cmp
  split
  · split
    · simp [Dk.nil]
    · simp only []
      have := com_jlen d i.toNat
      rw [com_len]
      omega
  · simp [Dk.nil]
theorem allJ_len : ∀ (n : Nat) (d : Dk) (l : List Jb), (allJ n d l).1.cs.length = d.cs.length ∧ (allJ n d l).1.js.length ≤ d.js.length ∧ (allJ n d l).2.length ≤ l.length + n
  | 0, d, l => by simp [allJ]
  | n + 1, d, l => by
    unfold allJ
    split
    · simp
    · have ih := allJ_len n (com d 0).1 (l ++ [(com d 0).2])
      have h1 := com_len d 0
      have h2 := com_jlen d 0
      simp at ih
      omega
theorem all_len {d : Dk} (h1 : d.cs.length ≤ 400000) (h2 : d.js.length ≤ 400000) : (all d).1.cs.length ≤ 900000 ∧ (all d).1.js.length ≤ 900000 ∧ (all d).2.1.length ≤ 900000 := by
  unfold all
  split
  · have := allJ_len d.js.length d []
    simp at this ⊢
    omega
  · simp [Dk.nil]

set_option maxHeartbeats 16000000 in
theorem DiskChecks_walk (A1 : Option Addr) (c1 : Nat) (A2 : Option Addr) (c2 : Nat) (cs : List Ct) (js : List Jb) (room : Int) (s r : Int) (w : World) (hd : GD w A1 c1 A2 c2 cs js) : Calls Try.prog 4 #[.agg #[.slice A1 cs.length c1, .slice A2 js.length c2, .int .i64 room], .int .i64 s, .int .i64 r] w (RetB w (.returned (.bool true))) := by
  have hbel0 := below0 w
  refine sx_enter (N := 133) [(0, .agg #[.slice A1 cs.length c1, .slice A2 js.length c2, .int .i64 room]), (1, .int .i64 s), (2, .int .i64 r)] Try.func4 rfl Try.ntmps4 (by simp) (fun a z d s => ((((Ag.nil z d).cons (s 2 _ rfl)).cons (s 1 _ rfl)).cons (s 0 _ rfl))) ?_
  intro a0 hA0
  refine wp_seq ?_
  refine wp_region_lit ?_
  refine sx_new (cs := #[.slice A1 cs.length c1, .slice A2 js.length c2, .int .i64 room]) (t := 25) hA0 rfl (by decide) (.inl rfl) (ev_box (hA0.ev (i := 0) (v := .agg #[.slice A1 cs.length c1, .slice A2 js.length c2, .int .i64 room])) rfl _ rfl) ?_
  intro B1 w1 a1 hB1 hx1 hg1 hA1
  clear hA0
  have hs1 := hg1.size
  have hl1 := hx1.lt
  refine sx_val hA1 rfl (ev_assign (ec _ (.bool false)) _ rfl) ?_
  intro a2 hA2; clear hA1
  refine sx_nil ?_
  refine then_n ?_
  refine wp_seq ?_
  refine wp_seq ?_
  refine wp_region_lit ?_
  refine sx_val (v := .agg #[.slice A1 cs.length c1, .slice A2 js.length c2, .int .i64 room]) hA2 rfl (ev_row (hA2.ev (i := 3) (v := .pointer (some ⟨B1, 0, none⟩))) hx1 Try.underlying25 rfl (n := 3) (by kernel_rfl) rfl _ rfl) ?_
  intro a3 hA3; clear hA2
  cases hd5 : lgt cs.length js.length
  · refine sx_call (f := 9) (args := #[.agg #[.slice A1 cs.length c1, .slice A2 js.length c2, .int .i64 room]]) hA3 rfl (by decide) (.inl rfl) (ev_fn rfl (mp1 (hA3.ev (i := 20) (v := .agg #[.slice A1 cs.length c1, .slice A2 js.length c2, .int .i64 room]))) (by kernel_rfl) _ rfl) (light_any A1 c1 A2 c2 cs js room _) ?_
    intro e6 w6 hR6
    obtain ⟨he6, hb6⟩ := hR6
    rw [hd5] at he6
    subst he6
    refine ⟨_, rfl, ?_⟩
    intro a6 hA6
    clear hA3
    have hg6 := g0 hb6
    have hs6 := hg6.size
    clear hb6
    refine sx_val (v := .bool true) hA6 rfl (ev_notF (hA6.ev (i := 21) (v := .bool false)) _ rfl) ?_
    intro a7 hA7; clear hA6
    refine sx_nil ?_
    refine then_n ?_
    refine wp_cond_true (hA7.ev (i := 22) (v := .bool true)) ?_
    refine wp_seq ?_
    refine wp_region_lit ?_
    refine sx_call (f := 10) (args := #[]) hA7 rfl (by decide) (.inl rfl) (ev_fn rfl (mp0 ) (by kernel_rfl) _ rfl) (awake_any _) ?_
    intro e8 w8 hR8
    obtain ⟨rfl, hb8⟩ := hR8
    refine ⟨_, rfl, ?_⟩
    intro a8 hA8
    clear hA7
    have hg8 := g0 hb8
    have hs8 := hg8.size
    clear hb8
    refine sx_val hA8 rfl (ev_assign (hA8.ev (i := 23) (v := .bool true)) _ rfl) ?_
    intro a9 hA9; clear hA8
    refine sx_nil ?_
    refine then_n ?_
    refine wp_ret ?_
    refine then_r ?_
    refine bodyPost_ret (rs_t (v := .bool true) Try.results4 hA9 (by kernel_rfl) ) hA9.2.1 ?_
    have hbel0_10 := Below.gN hbel0 hg1 hbel0.size
    have hbel0_11 := Below.gN hbel0_10 hg6 hbel0_10.size
    have hbel0_12 := Below.gN hbel0_11 hg8 hbel0_11.size
    exact ⟨rfl, hbel0_12⟩
  have hlg : cs.length ≤ 300 ∧ js.length ≤ 40 := by have h := hd5; simp [lgt] at h; exact h
  refine sx_call (f := 9) (args := #[.agg #[.slice A1 cs.length c1, .slice A2 js.length c2, .int .i64 room]]) hA3 rfl (by decide) (.inl rfl) (ev_fn rfl (mp1 (hA3.ev (i := 20) (v := .agg #[.slice A1 cs.length c1, .slice A2 js.length c2, .int .i64 room]))) (by kernel_rfl) _ rfl) (light_any A1 c1 A2 c2 cs js room _) ?_
  intro e13 w13 hR13
  obtain ⟨he13, hb13⟩ := hR13
  rw [hd5] at he13
  subst he13
  refine ⟨_, rfl, ?_⟩
  intro a13 hA13
  clear hA3
  have hg13 := g0 hb13
  have hs13 := hg13.size
  clear hb13
  refine sx_val (v := .bool false) hA13 rfl (ev_notT (hA13.ev (i := 21) (v := .bool true)) _ rfl) ?_
  intro a14 hA14; clear hA13
  refine sx_nil ?_
  refine then_n ?_
  refine wp_cond_false (hA14.ev (i := 22) (v := .bool false)) ?_
  refine wp_skip ?_
  refine then_n ?_
  refine wp_seq ?_
  refine wp_region_lit ?_
  have hx1_15 := hx1.gN hg13
  refine sx_val (v := .agg #[.slice A1 cs.length c1, .slice A2 js.length c2, .int .i64 room]) hA14 rfl (ev_row (hA14.ev (i := 3) (v := .pointer (some ⟨B1, 0, none⟩))) hx1_15 Try.underlying25 rfl (n := 3) (by kernel_rfl) rfl _ rfl) ?_
  intro a16 hA16; clear hA14
  have hbel0_18 := Below.gN hbel0 hg1 hbel0.size
  have hbel0_19 := Below.gN hbel0_18 hg13 hbel0_18.size
  refine sx_call (f := 11) (args := #[.agg #[.slice A1 cs.length c1, .slice A2 js.length c2, .int .i64 room]]) hA16 rfl (by decide) (.inl rfl) (ev_fn rfl (mp1 (hA16.ev (i := 24) (v := .agg #[.slice A1 cs.length c1, .slice A2 js.length c2, .int .i64 room]))) (by kernel_rfl) _ rfl) (OwnDisk_any A1 c1 A2 c2 cs js room _ ⟨(hd.s.below hbel0_19), (hd.j.below hbel0_19)⟩ (by omega) (by omega)) ?_
  intro e17 w17 hR17
  obtain ⟨Ap17, cp17, Aj17, cj17, rfl, hC17, hJ17, hb17⟩ := hR17
  refine ⟨_, rfl, ?_⟩
  intro a17 hA17
  clear hA16
  have hg17 := g0 hb17
  have hs17 := hg17.size
  clear hb17
  have ho17_0 : Own w17 (w13.heap.size) 28 8 (.slice Ap17 cs.length cp17) cs.length (flat Ct.va cs) := hC17.2
  have hh17_0 := Own.hi ho17_0
  have ho17_1 : Own w17 (w13.heap.size) 38 11 (.slice Aj17 js.length cj17) js.length (flat Jb.va js) := hJ17.2
  have hh17_1 := Own.hi ho17_1
  refine sx_new (cs := #[.slice none 0 0, .slice none 0 0, .int .i64 0]) (t := 25) hA17 rfl (by decide) (.inl rfl) (ev_alloc (z := .agg (#[.slice none 0 0, .slice none 0 0, .int .i64 0])) (by kernel_rfl) (by kernel_rfl) _ rfl) ?_
  intro B20 w20 a20 hB20 hx20 hg20 hA20
  clear hA17
  have hs20 := hg20.size
  have hl20 := hx20.lt
  refine sx_store hA20 rfl (.inl rfl) rfl (hA20.ev (i := 7) (v := .pointer (some ⟨B20, 0, none⟩))) (hA20.ev (i := 25) (v := .agg #[.slice Ap17 cs.length cp17, .slice Aj17 js.length cj17, .int .i64 room])) hx20 (by kernel_rfl) rfl (dk_one _ _ _ _ _ _ _) ?_
  intro w21 hx21 hg21
  have hs21 := hg21.size
  refine sx_nil ?_
  refine then_n ?_
  refine wp_seq ?_
  refine wp_region_lit ?_
  refine sx_val hA20 rfl (ev_move (hA20.ev (i := 1) (v := .int .i64 s)) _ rfl) ?_
  intro a22 hA22; clear hA20
  refine sx_val hA22 rfl (ev_move (hA22.ev (i := 2) (v := .int .i64 r)) _ rfl) ?_
  intro a23 hA23; clear hA22
  refine sx_call (f := 22) (args := #[.int .i64 s, .int .i64 r]) hA23 rfl (by decide) (.inl rfl) (ev_fn rfl (mp2 (hA23.ev (i := 27) (v := .int .i64 s)) (hA23.ev (i := 28) (v := .int .i64 r))) (by kernel_rfl) _ rfl) (New_any s r _) ?_
  intro e24 w24 hR24
  obtain ⟨Ap24, cp24, Aj24, cj24, rfl, hC24, hJ24, hb24⟩ := hR24
  refine ⟨_, rfl, ?_⟩
  intro a24 hA24
  clear hA23
  have hg24 := g0 hb24
  have hs24 := hg24.size
  clear hb24
  have ho24_0 : Own w24 (w21.heap.size) 28 8 (.slice Ap24 (nw s r).1.cs.length cp24) (nw s r).1.cs.length (flat Ct.va (nw s r).1.cs) := hC24.2
  have hh24_0 := Own.hi ho24_0
  have ho24_1 : Own w24 (w21.heap.size) 38 11 (.slice Aj24 (nw s r).1.js.length cj24) (nw s r).1.js.length (flat Jb.va (nw s r).1.js) := hJ24.2
  have hh24_1 := Own.hi ho24_1
  refine sx_val hA24 rfl (ev_move (hA24.ev (i := 29) (v := .tuple #[.agg #[.slice Ap24 (nw s r).1.cs.length cp24, .slice Aj24 (nw s r).1.js.length cj24, .int .i64 (nw s r).1.room], .int .i64 (nw s r).2])) _ rfl) ?_
  intro a25 hA25; clear hA24
  refine sx_val (v := .agg #[.slice Ap24 (nw s r).1.cs.length cp24, .slice Aj24 (nw s r).1.js.length cj24, .int .i64 (nw s r).1.room]) hA25 rfl (ev_ext (hA25.ev (i := 26) (v := .tuple #[.agg #[.slice Ap24 (nw s r).1.cs.length cp24, .slice Aj24 (nw s r).1.js.length cj24, .int .i64 (nw s r).1.room], .int .i64 (nw s r).2])) rfl _ rfl) ?_
  intro a26 hA26; clear hA25
  refine sx_val (v := .int .i64 (nw s r).2) hA26 rfl (ev_ext (hA26.ev (i := 26) (v := .tuple #[.agg #[.slice Ap24 (nw s r).1.cs.length cp24, .slice Aj24 (nw s r).1.js.length cj24, .int .i64 (nw s r).1.room], .int .i64 (nw s r).2])) rfl _ rfl) ?_
  intro a27 hA27; clear hA26
  refine sx_new (cs := #[.slice none 0 0, .slice none 0 0, .int .i64 0]) (t := 25) hA27 rfl (by decide) (.inl rfl) (ev_alloc (z := .agg (#[.slice none 0 0, .slice none 0 0, .int .i64 0])) (by kernel_rfl) (by kernel_rfl) _ rfl) ?_
  intro B28 w28 a28 hB28 hx28 hg28 hA28
  clear hA27
  have hs28 := hg28.size
  have hl28 := hx28.lt
  refine sx_store hA28 rfl (.inl rfl) rfl (hA28.ev (i := 8) (v := .pointer (some ⟨B28, 0, none⟩))) (hA28.ev (i := 30) (v := .agg #[.slice Ap24 (nw s r).1.cs.length cp24, .slice Aj24 (nw s r).1.js.length cj24, .int .i64 (nw s r).1.room])) hx28 (by kernel_rfl) rfl (dk_one _ _ _ _ _ _ _) ?_
  intro w29 hx29 hg29
  have hs29 := hg29.size
  refine sx_val hA28 rfl (ev_assign (hA28.ev (i := 31) (v := .int .i64 (nw s r).2)) _ rfl) ?_
  intro a30 hA30; clear hA28
  refine sx_nil ?_
  refine then_n ?_
  refine wp_seq ?_
  refine wp_region_lit ?_
  refine sx_val hA30 rfl (ev_move (hA30.ev (i := 1) (v := .int .i64 s)) _ rfl) ?_
  intro a31 hA31; clear hA30
  refine sx_val hA31 rfl (ev_move (hA31.ev (i := 2) (v := .int .i64 r)) _ rfl) ?_
  intro a32 hA32; clear hA31
  refine sx_call (f := 23) (args := #[.int .i64 s, .int .i64 r]) hA32 rfl (by decide) (.inl rfl) (ev_fn rfl (mp2 (hA32.ev (i := 33) (v := .int .i64 s)) (hA32.ev (i := 34) (v := .int .i64 r))) (by kernel_rfl) _ rfl) (sNew_any s r _) ?_
  intro e33 w33 hR33
  obtain ⟨Ap33, cp33, Aj33, cj33, rfl, hC33, hJ33, hb33⟩ := hR33
  refine ⟨_, rfl, ?_⟩
  intro a33 hA33
  clear hA32
  have hg33 := g0 hb33
  have hs33 := hg33.size
  clear hb33
  have ho33_0 : Own w33 (w29.heap.size) 28 8 (.slice Ap33 (nw s r).1.cs.length cp33) (nw s r).1.cs.length (flat Ct.va (nw s r).1.cs) := hC33.2
  have hh33_0 := Own.hi ho33_0
  have ho33_1 : Own w33 (w29.heap.size) 38 11 (.slice Aj33 (nw s r).1.js.length cj33) (nw s r).1.js.length (flat Jb.va (nw s r).1.js) := hJ33.2
  have hh33_1 := Own.hi ho33_1
  refine sx_val hA33 rfl (ev_move (hA33.ev (i := 35) (v := .tuple #[.agg #[.slice Ap33 (nw s r).1.cs.length cp33, .slice Aj33 (nw s r).1.js.length cj33, .int .i64 (nw s r).1.room], .int .i64 (nw s r).2])) _ rfl) ?_
  intro a34 hA34; clear hA33
  refine sx_val (v := .agg #[.slice Ap33 (nw s r).1.cs.length cp33, .slice Aj33 (nw s r).1.js.length cj33, .int .i64 (nw s r).1.room]) hA34 rfl (ev_ext (hA34.ev (i := 32) (v := .tuple #[.agg #[.slice Ap33 (nw s r).1.cs.length cp33, .slice Aj33 (nw s r).1.js.length cj33, .int .i64 (nw s r).1.room], .int .i64 (nw s r).2])) rfl _ rfl) ?_
  intro a35 hA35; clear hA34
  refine sx_val (v := .int .i64 (nw s r).2) hA35 rfl (ev_ext (hA35.ev (i := 32) (v := .tuple #[.agg #[.slice Ap33 (nw s r).1.cs.length cp33, .slice Aj33 (nw s r).1.js.length cj33, .int .i64 (nw s r).1.room], .int .i64 (nw s r).2])) rfl _ rfl) ?_
  intro a36 hA36; clear hA35
  refine sx_new (cs := #[.slice none 0 0, .slice none 0 0, .int .i64 0]) (t := 25) hA36 rfl (by decide) (.inl rfl) (ev_alloc (z := .agg (#[.slice none 0 0, .slice none 0 0, .int .i64 0])) (by kernel_rfl) (by kernel_rfl) _ rfl) ?_
  intro B37 w37 a37 hB37 hx37 hg37 hA37
  clear hA36
  have hs37 := hg37.size
  have hl37 := hx37.lt
  refine sx_store hA37 rfl (.inl rfl) rfl (hA37.ev (i := 10) (v := .pointer (some ⟨B37, 0, none⟩))) (hA37.ev (i := 36) (v := .agg #[.slice Ap33 (nw s r).1.cs.length cp33, .slice Aj33 (nw s r).1.js.length cj33, .int .i64 (nw s r).1.room])) hx37 (by kernel_rfl) rfl (dk_one _ _ _ _ _ _ _) ?_
  intro w38 hx38 hg38
  have hs38 := hg38.size
  refine sx_val hA37 rfl (ev_assign (hA37.ev (i := 37) (v := .int .i64 (nw s r).2)) _ rfl) ?_
  intro a39 hA39; clear hA37
  refine sx_nil ?_
  refine then_n ?_
  refine wp_seq ?_
  refine wp_seq ?_
  refine wp_region_lit ?_
  have hx29_40 := hx29.gN hg33
  have hx29_41 := hx29_40.gN hg37
  have hx29_42 := hx29_41.gB hg38 (by omega)
  refine sx_val (v := .agg #[.slice Ap24 (nw s r).1.cs.length cp24, .slice Aj24 (nw s r).1.js.length cj24, .int .i64 (nw s r).1.room]) hA39 rfl (ev_row (hA39.ev (i := 8) (v := .pointer (some ⟨B28, 0, none⟩))) hx29_42 Try.underlying25 rfl (n := 3) (by kernel_rfl) rfl _ rfl) ?_
  intro a43 hA43; clear hA39
  refine sx_val (v := .agg #[.slice Ap33 (nw s r).1.cs.length cp33, .slice Aj33 (nw s r).1.js.length cj33, .int .i64 (nw s r).1.room]) hA43 rfl (ev_row (hA43.ev (i := 10) (v := .pointer (some ⟨B37, 0, none⟩))) hx38 Try.underlying25 rfl (n := 3) (by kernel_rfl) rfl _ rfl) ?_
  intro a44 hA44; clear hA43
  have hle46 : (nw s r).1.cs.length ≤ 900000 ∧ (nw s r).1.js.length ≤ 900000 := nw_len _ _
  have ho24_47 := Own.gN ho24_0 hg28
  have ho24_48 := Own.gBT ho24_47 hg29 hx28 (by decide)
  have ho24_49 := Own.gN ho24_48 hg33
  have ho24_50 := Own.gN ho24_49 hg37
  have ho24_51 := Own.gBT ho24_50 hg38 hx37 (by decide)
  have ho24_52 := Own.gN ho24_1 hg28
  have ho24_53 := Own.gBT ho24_52 hg29 hx28 (by decide)
  have ho24_54 := Own.gN ho24_53 hg33
  have ho24_55 := Own.gN ho24_54 hg37
  have ho24_56 := Own.gBT ho24_55 hg38 hx37 (by decide)
  have ho33_57 := Own.gN ho33_0 hg37
  have ho33_58 := Own.gBT ho33_57 hg38 hx37 (by decide)
  have ho33_59 := Own.gN ho33_1 hg37
  have ho33_60 := Own.gBT ho33_59 hg38 hx37 (by decide)
  refine sx_call (f := 14) (args := #[.agg #[.slice Ap24 (nw s r).1.cs.length cp24, .slice Aj24 (nw s r).1.js.length cj24, .int .i64 (nw s r).1.room], .agg #[.slice Ap33 (nw s r).1.cs.length cp33, .slice Aj33 (nw s r).1.js.length cj33, .int .i64 (nw s r).1.room]]) hA44 rfl (by decide) (.inl rfl) (ev_fn rfl (mp2 (hA44.ev (i := 38) (v := .agg #[.slice Ap24 (nw s r).1.cs.length cp24, .slice Aj24 (nw s r).1.js.length cj24, .int .i64 (nw s r).1.room])) (hA44.ev (i := 39) (v := .agg #[.slice Ap33 (nw s r).1.cs.length cp33, .slice Aj33 (nw s r).1.js.length cj33, .int .i64 (nw s r).1.room]))) (by kernel_rfl) _ rfl) (SameDisk_any Ap24 cp24 Aj24 cj24 (nw s r).1.cs (nw s r).1.js (nw s r).1.room Ap33 cp33 Aj33 cj33 _ ⟨(OwnR.gr (e := 28) ⟨rfl, ho24_51⟩), (OwnR.gr (e := 38) ⟨rfl, ho24_56⟩)⟩ ⟨(OwnR.gr (e := 28) ⟨rfl, ho33_58⟩), (OwnR.gr (e := 38) ⟨rfl, ho33_60⟩)⟩ hle46.1 hle46.2) ?_
  intro e45 w45 hR45
  obtain ⟨rfl, hb45⟩ := hR45
  refine ⟨_, rfl, ?_⟩
  intro a45 hA45
  clear hA44
  have hg45 := g0 hb45
  have hs45 := hg45.size
  clear hb45
  refine sx_val (v := .bool false) hA45 rfl (ev_notT (hA45.ev (i := 40) (v := .bool true)) _ rfl) ?_
  intro a61 hA61; clear hA45
  refine sx_val hA61 rfl (ev_move (hA61.ev (i := 41) (v := .bool false)) _ rfl) ?_
  intro a62 hA62; clear hA61
  refine sx_val (hg := (.inr ⟨4, false, 42, rfl, rfl, by kernel_rfl⟩)) hA62 rfl (ev_move (hA62.ev (i := 9) (v := .int .i64 (nw s r).2)) _ rfl) ?_
  intro a63 hA63; clear hA62
  refine sx_val (hg := (.inr ⟨4, false, 42, rfl, rfl, by kernel_rfl⟩)) hA63 rfl (ev_move (hA63.ev (i := 11) (v := .int .i64 (nw s r).2)) _ rfl) ?_
  intro a64 hA64; clear hA63
  refine sx_val (hg := (.inr ⟨4, false, 42, rfl, rfl, by kernel_rfl⟩)) (v := .bool false) hA64 rfl (ev_neqB (k := .i64) (m := (nw s r).2) (n := (nw s r).2) (hA64.ev (i := 43)) (hA64.ev (i := 44)) (by simp) _ rfl) ?_
  intro a65 hA65; clear hA64
  refine sx_val hA65 rfl (ev_pickF (hA65.ev (i := 42) (v := .bool false)) (hA65.ev (i := 45) (v := .bool false)) _ rfl) ?_
  intro a66 hA66; clear hA65
  refine sx_nil ?_
  refine then_n ?_
  refine wp_cond_false (hA66.ev (i := 46) (v := .bool false)) ?_
  refine wp_skip ?_
  refine then_n ?_
  refine wp_seq ?_
  refine wp_region_lit ?_
  have hx21_67 := hx21.gN hg24
  have hx21_68 := hx21_67.gN hg28
  have hx21_69 := hx21_68.gB hg29 (by omega)
  have hx21_70 := hx21_69.gN hg33
  have hx21_71 := hx21_70.gN hg37
  have hx21_72 := hx21_71.gB hg38 (by omega)
  have hx21_73 := hx21_72.gN hg45
  refine sx_val (v := .agg #[.slice Ap17 cs.length cp17, .slice Aj17 js.length cj17, .int .i64 room]) hA66 rfl (ev_row (hA66.ev (i := 7) (v := .pointer (some ⟨B20, 0, none⟩))) hx21_73 Try.underlying25 rfl (n := 3) (by kernel_rfl) rfl _ rfl) ?_
  intro a74 hA74; clear hA66
  have ho17_76 := Own.gN ho17_0 hg20
  have ho17_77 := Own.gBT ho17_76 hg21 hx20 (by decide)
  have ho17_78 := Own.gN ho17_77 hg24
  have ho17_79 := Own.gN ho17_78 hg28
  have ho17_80 := Own.gBT ho17_79 hg29 hx28 (by decide)
  have ho17_81 := Own.gN ho17_80 hg33
  have ho17_82 := Own.gN ho17_81 hg37
  have ho17_83 := Own.gBT ho17_82 hg38 hx37 (by decide)
  have ho17_84 := Own.gN ho17_83 hg45
  have ho17_85 := Own.gN ho17_1 hg20
  have ho17_86 := Own.gBT ho17_85 hg21 hx20 (by decide)
  have ho17_87 := Own.gN ho17_86 hg24
  have ho17_88 := Own.gN ho17_87 hg28
  have ho17_89 := Own.gBT ho17_88 hg29 hx28 (by decide)
  have ho17_90 := Own.gN ho17_89 hg33
  have ho17_91 := Own.gN ho17_90 hg37
  have ho17_92 := Own.gBT ho17_91 hg38 hx37 (by decide)
  have ho17_93 := Own.gN ho17_92 hg45
  refine sx_call (f := 24) (args := #[.agg #[.slice Ap17 cs.length cp17, .slice Aj17 js.length cj17, .int .i64 room]]) hA74 rfl (by decide) (.inl rfl) (ev_fn rfl (mp1 (hA74.ev (i := 48) (v := .agg #[.slice Ap17 cs.length cp17, .slice Aj17 js.length cj17, .int .i64 room]))) (by kernel_rfl) _ rfl) (Check_any Ap17 cp17 Aj17 cj17 cs js room _ ⟨(OwnR.gr (e := 28) ⟨rfl, ho17_84⟩), (OwnR.gr (e := 38) ⟨rfl, ho17_93⟩)⟩ (by omega)) ?_
  intro e75 w75 hR75
  obtain ⟨rfl, hb75⟩ := hR75
  refine ⟨_, rfl, ?_⟩
  intro a75 hA75
  clear hA74
  have hg75 := g0 hb75
  have hs75 := hg75.size
  clear hb75
  refine sx_val hA75 rfl (ev_move (hA75.ev (i := 49) (v := .tuple #[.int .i64 (chk ⟨cs, js, room⟩).1, .int .i64 (chk ⟨cs, js, room⟩).2])) _ rfl) ?_
  intro a94 hA94; clear hA75
  refine sx_val (v := .int .i64 (chk ⟨cs, js, room⟩).1) hA94 rfl (ev_ext (hA94.ev (i := 47) (v := .tuple #[.int .i64 (chk ⟨cs, js, room⟩).1, .int .i64 (chk ⟨cs, js, room⟩).2])) rfl _ rfl) ?_
  intro a95 hA95; clear hA94
  refine sx_val (v := .int .i64 (chk ⟨cs, js, room⟩).2) hA95 rfl (ev_ext (hA95.ev (i := 47) (v := .tuple #[.int .i64 (chk ⟨cs, js, room⟩).1, .int .i64 (chk ⟨cs, js, room⟩).2])) rfl _ rfl) ?_
  intro a96 hA96; clear hA95
  refine sx_val hA96 rfl (ev_assign (hA96.ev (i := 50) (v := .int .i64 (chk ⟨cs, js, room⟩).1)) _ rfl) ?_
  intro a97 hA97; clear hA96
  refine sx_val hA97 rfl (ev_assign (hA97.ev (i := 51) (v := .int .i64 (chk ⟨cs, js, room⟩).2)) _ rfl) ?_
  intro a98 hA98; clear hA97
  refine sx_nil ?_
  refine then_n ?_
  refine wp_seq ?_
  refine wp_region_lit ?_
  have hx1_99 := hx1_15.gN hg17
  have hx1_100 := hx1_99.gN hg20
  have hx1_101 := hx1_100.gB hg21 (by omega)
  have hx1_102 := hx1_101.gN hg24
  have hx1_103 := hx1_102.gN hg28
  have hx1_104 := hx1_103.gB hg29 (by omega)
  have hx1_105 := hx1_104.gN hg33
  have hx1_106 := hx1_105.gN hg37
  have hx1_107 := hx1_106.gB hg38 (by omega)
  have hx1_108 := hx1_107.gN hg45
  have hx1_109 := hx1_108.gN hg75
  refine sx_val (v := .agg #[.slice A1 cs.length c1, .slice A2 js.length c2, .int .i64 room]) hA98 rfl (ev_row (hA98.ev (i := 3) (v := .pointer (some ⟨B1, 0, none⟩))) hx1_109 Try.underlying25 rfl (n := 3) (by kernel_rfl) rfl _ rfl) ?_
  intro a110 hA110; clear hA98
  have hbel0_112 := Below.gN hbel0_19 hg17 hbel0_19.size
  have hbel0_113 := Below.gN hbel0_112 hg20 hbel0_112.size
  have hbel0_114 := Below.gB hbel0_113 hg21 hbel0_113.size (by omega)
  have hbel0_115 := Below.gN hbel0_114 hg24 hbel0_114.size
  have hbel0_116 := Below.gN hbel0_115 hg28 hbel0_115.size
  have hbel0_117 := Below.gB hbel0_116 hg29 hbel0_116.size (by omega)
  have hbel0_118 := Below.gN hbel0_117 hg33 hbel0_117.size
  have hbel0_119 := Below.gN hbel0_118 hg37 hbel0_118.size
  have hbel0_120 := Below.gB hbel0_119 hg38 hbel0_119.size (by omega)
  have hbel0_121 := Below.gN hbel0_120 hg45 hbel0_120.size
  have hbel0_122 := Below.gN hbel0_121 hg75 hbel0_121.size
  refine sx_call (f := 25) (args := #[.agg #[.slice A1 cs.length c1, .slice A2 js.length c2, .int .i64 room]]) hA110 rfl (by decide) (.inl rfl) (ev_fn rfl (mp1 (hA110.ev (i := 53) (v := .agg #[.slice A1 cs.length c1, .slice A2 js.length c2, .int .i64 room]))) (by kernel_rfl) _ rfl) (sCheck_any A1 c1 A2 c2 cs js room _ ⟨(hd.s.below hbel0_122), (hd.j.below hbel0_122)⟩ (by omega)) ?_
  intro e111 w111 hR111
  obtain ⟨rfl, hb111⟩ := hR111
  refine ⟨_, rfl, ?_⟩
  intro a111 hA111
  clear hA110
  have hg111 := g0 hb111
  have hs111 := hg111.size
  clear hb111
  refine sx_val hA111 rfl (ev_move (hA111.ev (i := 54) (v := .tuple #[.int .i64 (chk ⟨cs, js, room⟩).1, .int .i64 (chk ⟨cs, js, room⟩).2])) _ rfl) ?_
  intro a123 hA123; clear hA111
  refine sx_val (v := .int .i64 (chk ⟨cs, js, room⟩).1) hA123 rfl (ev_ext (hA123.ev (i := 52) (v := .tuple #[.int .i64 (chk ⟨cs, js, room⟩).1, .int .i64 (chk ⟨cs, js, room⟩).2])) rfl _ rfl) ?_
  intro a124 hA124; clear hA123
  refine sx_val (v := .int .i64 (chk ⟨cs, js, room⟩).2) hA124 rfl (ev_ext (hA124.ev (i := 52) (v := .tuple #[.int .i64 (chk ⟨cs, js, room⟩).1, .int .i64 (chk ⟨cs, js, room⟩).2])) rfl _ rfl) ?_
  intro a125 hA125; clear hA124
  refine sx_val hA125 rfl (ev_assign (hA125.ev (i := 55) (v := .int .i64 (chk ⟨cs, js, room⟩).1)) _ rfl) ?_
  intro a126 hA126; clear hA125
  refine sx_val hA126 rfl (ev_assign (hA126.ev (i := 56) (v := .int .i64 (chk ⟨cs, js, room⟩).2)) _ rfl) ?_
  intro a127 hA127; clear hA126
  refine sx_nil ?_
  refine then_n ?_
  refine wp_seq ?_
  refine wp_seq ?_
  refine wp_region_lit ?_
  refine sx_val hA127 rfl (ev_move (hA127.ev (i := 9) (v := .int .i64 (chk ⟨cs, js, room⟩).1)) _ rfl) ?_
  intro a128 hA128; clear hA127
  refine sx_val hA128 rfl (ev_move (hA128.ev (i := 11) (v := .int .i64 (chk ⟨cs, js, room⟩).1)) _ rfl) ?_
  intro a129 hA129; clear hA128
  refine sx_val (v := .bool false) hA129 rfl (ev_neqB (k := .i64) (m := (chk ⟨cs, js, room⟩).1) (n := (chk ⟨cs, js, room⟩).1) (hA129.ev (i := 57)) (hA129.ev (i := 58)) (by simp) _ rfl) ?_
  intro a130 hA130; clear hA129
  refine sx_val hA130 rfl (ev_move (hA130.ev (i := 59) (v := .bool false)) _ rfl) ?_
  intro a131 hA131; clear hA130
  refine sx_val (hg := (.inr ⟨3, false, 60, rfl, rfl, by kernel_rfl⟩)) hA131 rfl (ev_move (hA131.ev (i := 12) (v := .int .i64 (chk ⟨cs, js, room⟩).2)) _ rfl) ?_
  intro a132 hA132; clear hA131
  refine sx_val (hg := (.inr ⟨3, false, 60, rfl, rfl, by kernel_rfl⟩)) hA132 rfl (ev_move (hA132.ev (i := 13) (v := .int .i64 (chk ⟨cs, js, room⟩).2)) _ rfl) ?_
  intro a133 hA133; clear hA132
  refine sx_val (hg := (.inr ⟨3, false, 60, rfl, rfl, by kernel_rfl⟩)) (v := .bool false) hA133 rfl (ev_neqB (k := .i64) (m := (chk ⟨cs, js, room⟩).2) (n := (chk ⟨cs, js, room⟩).2) (hA133.ev (i := 61)) (hA133.ev (i := 62)) (by simp) _ rfl) ?_
  intro a134 hA134; clear hA133
  refine sx_val hA134 rfl (ev_pickF (hA134.ev (i := 60) (v := .bool false)) (hA134.ev (i := 63) (v := .bool false)) _ rfl) ?_
  intro a135 hA135; clear hA134
  refine sx_nil ?_
  refine then_n ?_
  refine wp_cond_false (hA135.ev (i := 64) (v := .bool false)) ?_
  refine wp_skip ?_
  refine then_n ?_
  refine wp_seq ?_
  refine wp_region_lit ?_
  have hx21_136 := hx21_73.gN hg75
  have hx21_137 := hx21_136.gN hg111
  refine sx_val (v := .agg #[.slice Ap17 cs.length cp17, .slice Aj17 js.length cj17, .int .i64 room]) hA135 rfl (ev_row (hA135.ev (i := 7) (v := .pointer (some ⟨B20, 0, none⟩))) hx21_137 Try.underlying25 rfl (n := 3) (by kernel_rfl) rfl _ rfl) ?_
  intro a138 hA138; clear hA135
  refine sx_val hA138 rfl (ev_move (hA138.ev (i := 1) (v := .int .i64 s)) _ rfl) ?_
  intro a139 hA139; clear hA138
  have ho17_141 := Own.gN ho17_84 hg75
  have ho17_142 := Own.gN ho17_141 hg111
  have ho17_143 := Own.gN ho17_93 hg75
  have ho17_144 := Own.gN ho17_143 hg111
  refine sx_call (f := 26) (args := #[.agg #[.slice Ap17 cs.length cp17, .slice Aj17 js.length cj17, .int .i64 room], .int .i64 s]) hA139 rfl (by decide) (.inl rfl) (ev_fn rfl (mp2 (hA139.ev (i := 66) (v := .agg #[.slice Ap17 cs.length cp17, .slice Aj17 js.length cj17, .int .i64 room])) (hA139.ev (i := 67) (v := .int .i64 s))) (by kernel_rfl) _ rfl) (Find_any Ap17 cp17 Aj17 cj17 cs js room s _ ⟨(OwnR.gr (e := 28) ⟨rfl, ho17_142⟩), (OwnR.gr (e := 38) ⟨rfl, ho17_144⟩)⟩ (by omega) (by omega)) ?_
  intro e140 w140 hR140
  obtain ⟨rfl, hb140⟩ := hR140
  refine ⟨_, rfl, ?_⟩
  intro a140 hA140
  clear hA139
  have hg140 := g0 hb140
  have hs140 := hg140.size
  clear hb140
  refine sx_val hA140 rfl (ev_move (hA140.ev (i := 68) (v := .tuple #[.int .i64 (fnd ⟨cs, js, room⟩ s).1, .int .i64 (fnd ⟨cs, js, room⟩ s).2])) _ rfl) ?_
  intro a145 hA145; clear hA140
  refine sx_val (v := .int .i64 (fnd ⟨cs, js, room⟩ s).1) hA145 rfl (ev_ext (hA145.ev (i := 65) (v := .tuple #[.int .i64 (fnd ⟨cs, js, room⟩ s).1, .int .i64 (fnd ⟨cs, js, room⟩ s).2])) rfl _ rfl) ?_
  intro a146 hA146; clear hA145
  refine sx_val (v := .int .i64 (fnd ⟨cs, js, room⟩ s).2) hA146 rfl (ev_ext (hA146.ev (i := 65) (v := .tuple #[.int .i64 (fnd ⟨cs, js, room⟩ s).1, .int .i64 (fnd ⟨cs, js, room⟩ s).2])) rfl _ rfl) ?_
  intro a147 hA147; clear hA146
  refine sx_val hA147 rfl (ev_assign (hA147.ev (i := 69) (v := .int .i64 (fnd ⟨cs, js, room⟩ s).1)) _ rfl) ?_
  intro a148 hA148; clear hA147
  refine sx_val hA148 rfl (ev_assign (hA148.ev (i := 70) (v := .int .i64 (fnd ⟨cs, js, room⟩ s).2)) _ rfl) ?_
  intro a149 hA149; clear hA148
  refine sx_nil ?_
  refine then_n ?_
  refine wp_seq ?_
  refine wp_region_lit ?_
  have hx1_150 := hx1_109.gN hg111
  have hx1_151 := hx1_150.gN hg140
  refine sx_val (v := .agg #[.slice A1 cs.length c1, .slice A2 js.length c2, .int .i64 room]) hA149 rfl (ev_row (hA149.ev (i := 3) (v := .pointer (some ⟨B1, 0, none⟩))) hx1_151 Try.underlying25 rfl (n := 3) (by kernel_rfl) rfl _ rfl) ?_
  intro a152 hA152; clear hA149
  refine sx_val hA152 rfl (ev_move (hA152.ev (i := 1) (v := .int .i64 s)) _ rfl) ?_
  intro a153 hA153; clear hA152
  have hbel0_155 := Below.gN hbel0_122 hg111 hbel0_122.size
  have hbel0_156 := Below.gN hbel0_155 hg140 hbel0_155.size
  refine sx_call (f := 27) (args := #[.agg #[.slice A1 cs.length c1, .slice A2 js.length c2, .int .i64 room], .int .i64 s]) hA153 rfl (by decide) (.inl rfl) (ev_fn rfl (mp2 (hA153.ev (i := 72) (v := .agg #[.slice A1 cs.length c1, .slice A2 js.length c2, .int .i64 room])) (hA153.ev (i := 73) (v := .int .i64 s))) (by kernel_rfl) _ rfl) (sFind_any A1 c1 A2 c2 cs js room s _ ⟨(hd.s.below hbel0_156), (hd.j.below hbel0_156)⟩ (by omega) (by omega)) ?_
  intro e154 w154 hR154
  obtain ⟨rfl, hb154⟩ := hR154
  refine ⟨_, rfl, ?_⟩
  intro a154 hA154
  clear hA153
  have hg154 := g0 hb154
  have hs154 := hg154.size
  clear hb154
  refine sx_val hA154 rfl (ev_move (hA154.ev (i := 74) (v := .tuple #[.int .i64 (fnd ⟨cs, js, room⟩ s).1, .int .i64 (fnd ⟨cs, js, room⟩ s).2])) _ rfl) ?_
  intro a157 hA157; clear hA154
  refine sx_val (v := .int .i64 (fnd ⟨cs, js, room⟩ s).1) hA157 rfl (ev_ext (hA157.ev (i := 71) (v := .tuple #[.int .i64 (fnd ⟨cs, js, room⟩ s).1, .int .i64 (fnd ⟨cs, js, room⟩ s).2])) rfl _ rfl) ?_
  intro a158 hA158; clear hA157
  refine sx_val (v := .int .i64 (fnd ⟨cs, js, room⟩ s).2) hA158 rfl (ev_ext (hA158.ev (i := 71) (v := .tuple #[.int .i64 (fnd ⟨cs, js, room⟩ s).1, .int .i64 (fnd ⟨cs, js, room⟩ s).2])) rfl _ rfl) ?_
  intro a159 hA159; clear hA158
  refine sx_val hA159 rfl (ev_assign (hA159.ev (i := 75) (v := .int .i64 (fnd ⟨cs, js, room⟩ s).1)) _ rfl) ?_
  intro a160 hA160; clear hA159
  refine sx_val hA160 rfl (ev_assign (hA160.ev (i := 76) (v := .int .i64 (fnd ⟨cs, js, room⟩ s).2)) _ rfl) ?_
  intro a161 hA161; clear hA160
  refine sx_nil ?_
  refine then_n ?_
  refine wp_seq ?_
  refine wp_seq ?_
  refine wp_region_lit ?_
  refine sx_val hA161 rfl (ev_move (hA161.ev (i := 14) (v := .int .i64 (fnd ⟨cs, js, room⟩ s).1)) _ rfl) ?_
  intro a162 hA162; clear hA161
  refine sx_val hA162 rfl (ev_move (hA162.ev (i := 15) (v := .int .i64 (fnd ⟨cs, js, room⟩ s).1)) _ rfl) ?_
  intro a163 hA163; clear hA162
  refine sx_val (v := .bool false) hA163 rfl (ev_neqB (k := .i64) (m := (fnd ⟨cs, js, room⟩ s).1) (n := (fnd ⟨cs, js, room⟩ s).1) (hA163.ev (i := 77)) (hA163.ev (i := 78)) (by simp) _ rfl) ?_
  intro a164 hA164; clear hA163
  refine sx_val hA164 rfl (ev_move (hA164.ev (i := 79) (v := .bool false)) _ rfl) ?_
  intro a165 hA165; clear hA164
  refine sx_val (hg := (.inr ⟨3, false, 80, rfl, rfl, by kernel_rfl⟩)) hA165 rfl (ev_move (hA165.ev (i := 9) (v := .int .i64 (fnd ⟨cs, js, room⟩ s).2)) _ rfl) ?_
  intro a166 hA166; clear hA165
  refine sx_val (hg := (.inr ⟨3, false, 80, rfl, rfl, by kernel_rfl⟩)) hA166 rfl (ev_move (hA166.ev (i := 11) (v := .int .i64 (fnd ⟨cs, js, room⟩ s).2)) _ rfl) ?_
  intro a167 hA167; clear hA166
  refine sx_val (hg := (.inr ⟨3, false, 80, rfl, rfl, by kernel_rfl⟩)) (v := .bool false) hA167 rfl (ev_neqB (k := .i64) (m := (fnd ⟨cs, js, room⟩ s).2) (n := (fnd ⟨cs, js, room⟩ s).2) (hA167.ev (i := 81)) (hA167.ev (i := 82)) (by simp) _ rfl) ?_
  intro a168 hA168; clear hA167
  refine sx_val hA168 rfl (ev_pickF (hA168.ev (i := 80) (v := .bool false)) (hA168.ev (i := 83) (v := .bool false)) _ rfl) ?_
  intro a169 hA169; clear hA168
  refine sx_nil ?_
  refine then_n ?_
  refine wp_cond_false (hA169.ev (i := 84) (v := .bool false)) ?_
  refine wp_skip ?_
  refine then_n ?_
  refine wp_seq ?_
  refine wp_region_lit ?_
  have hx21_170 := hx21_137.gN hg140
  have hx21_171 := hx21_170.gN hg154
  refine sx_val (v := .agg #[.slice Ap17 cs.length cp17, .slice Aj17 js.length cj17, .int .i64 room]) hA169 rfl (ev_row (hA169.ev (i := 7) (v := .pointer (some ⟨B20, 0, none⟩))) hx21_171 Try.underlying25 rfl (n := 3) (by kernel_rfl) rfl _ rfl) ?_
  intro a172 hA172; clear hA169
  have ho17_174 := Own.gN ho17_142 hg140
  have ho17_175 := Own.gN ho17_174 hg154
  have ho17_176 := Own.gN ho17_144 hg140
  have ho17_177 := Own.gN ho17_176 hg154
  refine sx_call (f := 28) (args := #[.agg #[.slice Ap17 cs.length cp17, .slice Aj17 js.length cj17, .int .i64 room]]) hA172 rfl (by decide) (.inl rfl) (ev_fn rfl (mp1 (hA172.ev (i := 86) (v := .agg #[.slice Ap17 cs.length cp17, .slice Aj17 js.length cj17, .int .i64 room]))) (by kernel_rfl) _ rfl) (Left_any Ap17 cp17 Aj17 cj17 cs js room _ ⟨(OwnR.gr (e := 28) ⟨rfl, ho17_175⟩), (OwnR.gr (e := 38) ⟨rfl, ho17_177⟩)⟩ (by omega) (by omega)) ?_
  intro e173 w173 hR173
  obtain ⟨rfl, hb173⟩ := hR173
  refine ⟨_, rfl, ?_⟩
  intro a173 hA173
  clear hA172
  have hg173 := g0 hb173
  have hs173 := hg173.size
  clear hb173
  refine sx_val hA173 rfl (ev_move (hA173.ev (i := 87) (v := .tuple #[.int .i64 (lft ⟨cs, js, room⟩).1, .int .i64 (lft ⟨cs, js, room⟩).2])) _ rfl) ?_
  intro a178 hA178; clear hA173
  refine sx_val (v := .int .i64 (lft ⟨cs, js, room⟩).1) hA178 rfl (ev_ext (hA178.ev (i := 85) (v := .tuple #[.int .i64 (lft ⟨cs, js, room⟩).1, .int .i64 (lft ⟨cs, js, room⟩).2])) rfl _ rfl) ?_
  intro a179 hA179; clear hA178
  refine sx_val (v := .int .i64 (lft ⟨cs, js, room⟩).2) hA179 rfl (ev_ext (hA179.ev (i := 85) (v := .tuple #[.int .i64 (lft ⟨cs, js, room⟩).1, .int .i64 (lft ⟨cs, js, room⟩).2])) rfl _ rfl) ?_
  intro a180 hA180; clear hA179
  refine sx_val hA180 rfl (ev_assign (hA180.ev (i := 88) (v := .int .i64 (lft ⟨cs, js, room⟩).1)) _ rfl) ?_
  intro a181 hA181; clear hA180
  refine sx_val hA181 rfl (ev_assign (hA181.ev (i := 89) (v := .int .i64 (lft ⟨cs, js, room⟩).2)) _ rfl) ?_
  intro a182 hA182; clear hA181
  refine sx_nil ?_
  refine then_n ?_
  refine wp_seq ?_
  refine wp_region_lit ?_
  have hx1_183 := hx1_151.gN hg154
  have hx1_184 := hx1_183.gN hg173
  refine sx_val (v := .agg #[.slice A1 cs.length c1, .slice A2 js.length c2, .int .i64 room]) hA182 rfl (ev_row (hA182.ev (i := 3) (v := .pointer (some ⟨B1, 0, none⟩))) hx1_184 Try.underlying25 rfl (n := 3) (by kernel_rfl) rfl _ rfl) ?_
  intro a185 hA185; clear hA182
  have hbel0_187 := Below.gN hbel0_156 hg154 hbel0_156.size
  have hbel0_188 := Below.gN hbel0_187 hg173 hbel0_187.size
  refine sx_call (f := 29) (args := #[.agg #[.slice A1 cs.length c1, .slice A2 js.length c2, .int .i64 room]]) hA185 rfl (by decide) (.inl rfl) (ev_fn rfl (mp1 (hA185.ev (i := 91) (v := .agg #[.slice A1 cs.length c1, .slice A2 js.length c2, .int .i64 room]))) (by kernel_rfl) _ rfl) (sLeft_any A1 c1 A2 c2 cs js room _ ⟨(hd.s.below hbel0_188), (hd.j.below hbel0_188)⟩ (by omega) (by omega)) ?_
  intro e186 w186 hR186
  obtain ⟨rfl, hb186⟩ := hR186
  refine ⟨_, rfl, ?_⟩
  intro a186 hA186
  clear hA185
  have hg186 := g0 hb186
  have hs186 := hg186.size
  clear hb186
  refine sx_val hA186 rfl (ev_move (hA186.ev (i := 92) (v := .tuple #[.int .i64 (lft ⟨cs, js, room⟩).1, .int .i64 (lft ⟨cs, js, room⟩).2])) _ rfl) ?_
  intro a189 hA189; clear hA186
  refine sx_val (v := .int .i64 (lft ⟨cs, js, room⟩).1) hA189 rfl (ev_ext (hA189.ev (i := 90) (v := .tuple #[.int .i64 (lft ⟨cs, js, room⟩).1, .int .i64 (lft ⟨cs, js, room⟩).2])) rfl _ rfl) ?_
  intro a190 hA190; clear hA189
  refine sx_val (v := .int .i64 (lft ⟨cs, js, room⟩).2) hA190 rfl (ev_ext (hA190.ev (i := 90) (v := .tuple #[.int .i64 (lft ⟨cs, js, room⟩).1, .int .i64 (lft ⟨cs, js, room⟩).2])) rfl _ rfl) ?_
  intro a191 hA191; clear hA190
  refine sx_val hA191 rfl (ev_assign (hA191.ev (i := 93) (v := .int .i64 (lft ⟨cs, js, room⟩).1)) _ rfl) ?_
  intro a192 hA192; clear hA191
  refine sx_val hA192 rfl (ev_assign (hA192.ev (i := 94) (v := .int .i64 (lft ⟨cs, js, room⟩).2)) _ rfl) ?_
  intro a193 hA193; clear hA192
  refine sx_nil ?_
  refine then_n ?_
  refine wp_seq ?_
  refine wp_region_lit ?_
  have hx21_194 := hx21_171.gN hg173
  have hx21_195 := hx21_194.gN hg186
  refine sx_val (v := .agg #[.slice Ap17 cs.length cp17, .slice Aj17 js.length cj17, .int .i64 room]) hA193 rfl (ev_row (hA193.ev (i := 7) (v := .pointer (some ⟨B20, 0, none⟩))) hx21_195 Try.underlying25 rfl (n := 3) (by kernel_rfl) rfl _ rfl) ?_
  intro a196 hA196; clear hA193
  refine sx_val hA196 rfl (ev_move (hA196.ev (i := 1) (v := .int .i64 s)) _ rfl) ?_
  intro a197 hA197; clear hA196
  have ho17_199 := Own.gN ho17_175 hg173
  have ho17_200 := Own.gN ho17_199 hg186
  have ho17_201 := Own.gN ho17_177 hg173
  have ho17_202 := Own.gN ho17_201 hg186
  refine sx_call (f := 30) (args := #[.agg #[.slice Ap17 cs.length cp17, .slice Aj17 js.length cj17, .int .i64 room], .int .i64 s]) hA197 rfl (by decide) (.inl rfl) (ev_fn rfl (mp2 (hA197.ev (i := 96) (v := .agg #[.slice Ap17 cs.length cp17, .slice Aj17 js.length cj17, .int .i64 room])) (hA197.ev (i := 97) (v := .int .i64 s))) (by kernel_rfl) _ rfl) (Later_any Ap17 cp17 Aj17 cj17 cs js room s _ ⟨(OwnR.gr (e := 28) ⟨rfl, ho17_200⟩), (OwnR.gr (e := 38) ⟨rfl, ho17_202⟩)⟩ (by omega) (by omega)) ?_
  intro e198 w198 hR198
  obtain ⟨rfl, hb198⟩ := hR198
  refine ⟨_, rfl, ?_⟩
  intro a198 hA198
  clear hA197
  have hg198 := g0 hb198
  have hs198 := hg198.size
  clear hb198
  refine sx_val hA198 rfl (ev_move (hA198.ev (i := 98) (v := .tuple #[.agg (lat ⟨cs, js, room⟩ s).1.va, .int .i64 (lat ⟨cs, js, room⟩ s).2])) _ rfl) ?_
  intro a203 hA203; clear hA198
  refine sx_val (v := .agg (lat ⟨cs, js, room⟩ s).1.va) hA203 rfl (ev_ext (hA203.ev (i := 95) (v := .tuple #[.agg (lat ⟨cs, js, room⟩ s).1.va, .int .i64 (lat ⟨cs, js, room⟩ s).2])) rfl _ rfl) ?_
  intro a204 hA204; clear hA203
  refine sx_val (v := .int .i64 (lat ⟨cs, js, room⟩ s).2) hA204 rfl (ev_ext (hA204.ev (i := 95) (v := .tuple #[.agg (lat ⟨cs, js, room⟩ s).1.va, .int .i64 (lat ⟨cs, js, room⟩ s).2])) rfl _ rfl) ?_
  intro a205 hA205; clear hA204
  refine sx_new (cs := Ct.zero.va) (t := 28) hA205 rfl (by decide) (.inl rfl) (ev_alloc (z := .agg Ct.zero.va) (by kernel_rfl) (by kernel_rfl) _ rfl) ?_
  intro B206 w206 a206 hB206 hx206 hg206 hA206
  clear hA205
  have hs206 := hg206.size
  have hl206 := hx206.lt
  refine sx_store hA206 rfl (.inl rfl) rfl (hA206.ev (i := 16) (v := .pointer (some ⟨B206, 0, none⟩))) (hA206.ev (i := 99) (v := .agg (lat ⟨cs, js, room⟩ s).1.va)) hx206 (by kernel_rfl) rfl (ct_one _) ?_
  intro w207 hx207 hg207
  have hs207 := hg207.size
  refine sx_val hA206 rfl (ev_assign (hA206.ev (i := 100) (v := .int .i64 (lat ⟨cs, js, room⟩ s).2)) _ rfl) ?_
  intro a208 hA208; clear hA206
  refine sx_nil ?_
  refine then_n ?_
  refine wp_seq ?_
  refine wp_region_lit ?_
  have hx1_209 := hx1_184.gN hg186
  have hx1_210 := hx1_209.gN hg198
  have hx1_211 := hx1_210.gN hg206
  have hx1_212 := hx1_211.gB hg207 (by omega)
  refine sx_val (v := .agg #[.slice A1 cs.length c1, .slice A2 js.length c2, .int .i64 room]) hA208 rfl (ev_row (hA208.ev (i := 3) (v := .pointer (some ⟨B1, 0, none⟩))) hx1_212 Try.underlying25 rfl (n := 3) (by kernel_rfl) rfl _ rfl) ?_
  intro a213 hA213; clear hA208
  refine sx_val hA213 rfl (ev_move (hA213.ev (i := 1) (v := .int .i64 s)) _ rfl) ?_
  intro a214 hA214; clear hA213
  have hbel0_216 := Below.gN hbel0_188 hg186 hbel0_188.size
  have hbel0_217 := Below.gN hbel0_216 hg198 hbel0_216.size
  have hbel0_218 := Below.gN hbel0_217 hg206 hbel0_217.size
  have hbel0_219 := Below.gB hbel0_218 hg207 hbel0_218.size (by omega)
  refine sx_call (f := 31) (args := #[.agg #[.slice A1 cs.length c1, .slice A2 js.length c2, .int .i64 room], .int .i64 s]) hA214 rfl (by decide) (.inl rfl) (ev_fn rfl (mp2 (hA214.ev (i := 102) (v := .agg #[.slice A1 cs.length c1, .slice A2 js.length c2, .int .i64 room])) (hA214.ev (i := 103) (v := .int .i64 s))) (by kernel_rfl) _ rfl) (sLater_any A1 c1 A2 c2 cs js room s _ ⟨(hd.s.below hbel0_219), (hd.j.below hbel0_219)⟩ (by omega) (by omega)) ?_
  intro e215 w215 hR215
  obtain ⟨rfl, hb215⟩ := hR215
  refine ⟨_, rfl, ?_⟩
  intro a215 hA215
  clear hA214
  have hg215 := g0 hb215
  have hs215 := hg215.size
  clear hb215
  refine sx_val hA215 rfl (ev_move (hA215.ev (i := 104) (v := .tuple #[.agg (lat ⟨cs, js, room⟩ s).1.va, .int .i64 (lat ⟨cs, js, room⟩ s).2])) _ rfl) ?_
  intro a220 hA220; clear hA215
  refine sx_val (v := .agg (lat ⟨cs, js, room⟩ s).1.va) hA220 rfl (ev_ext (hA220.ev (i := 101) (v := .tuple #[.agg (lat ⟨cs, js, room⟩ s).1.va, .int .i64 (lat ⟨cs, js, room⟩ s).2])) rfl _ rfl) ?_
  intro a221 hA221; clear hA220
  refine sx_val (v := .int .i64 (lat ⟨cs, js, room⟩ s).2) hA221 rfl (ev_ext (hA221.ev (i := 101) (v := .tuple #[.agg (lat ⟨cs, js, room⟩ s).1.va, .int .i64 (lat ⟨cs, js, room⟩ s).2])) rfl _ rfl) ?_
  intro a222 hA222; clear hA221
  refine sx_new (cs := Ct.zero.va) (t := 28) hA222 rfl (by decide) (.inl rfl) (ev_alloc (z := .agg Ct.zero.va) (by kernel_rfl) (by kernel_rfl) _ rfl) ?_
  intro B223 w223 a223 hB223 hx223 hg223 hA223
  clear hA222
  have hs223 := hg223.size
  have hl223 := hx223.lt
  refine sx_store hA223 rfl (.inl rfl) rfl (hA223.ev (i := 18) (v := .pointer (some ⟨B223, 0, none⟩))) (hA223.ev (i := 105) (v := .agg (lat ⟨cs, js, room⟩ s).1.va)) hx223 (by kernel_rfl) rfl (ct_one _) ?_
  intro w224 hx224 hg224
  have hs224 := hg224.size
  refine sx_val hA223 rfl (ev_assign (hA223.ev (i := 106) (v := .int .i64 (lat ⟨cs, js, room⟩ s).2)) _ rfl) ?_
  intro a225 hA225; clear hA223
  refine sx_nil ?_
  refine then_n ?_
  refine wp_seq ?_
  refine wp_region_lit ?_
  refine sx_val hA225 rfl (ev_move (hA225.ev (i := 14) (v := .int .i64 (lft ⟨cs, js, room⟩).1)) _ rfl) ?_
  intro a226 hA226; clear hA225
  refine sx_val hA226 rfl (ev_move (hA226.ev (i := 15) (v := .int .i64 (lft ⟨cs, js, room⟩).1)) _ rfl) ?_
  intro a227 hA227; clear hA226
  refine sx_val (v := .bool true) hA227 rfl (ev_eqlB (k := .i64) (m := (lft ⟨cs, js, room⟩).1) (n := (lft ⟨cs, js, room⟩).1) (hA227.ev (i := 107)) (hA227.ev (i := 108)) (by simp) _ rfl) ?_
  intro a228 hA228; clear hA227
  refine sx_val hA228 rfl (ev_move (hA228.ev (i := 109) (v := .bool true)) _ rfl) ?_
  intro a229 hA229; clear hA228
  refine sx_val (hg := (.inr ⟨3, true, 110, rfl, rfl, by kernel_rfl⟩)) hA229 rfl (ev_move (hA229.ev (i := 9) (v := .int .i64 (lft ⟨cs, js, room⟩).2)) _ rfl) ?_
  intro a230 hA230; clear hA229
  refine sx_val (hg := (.inr ⟨3, true, 110, rfl, rfl, by kernel_rfl⟩)) hA230 rfl (ev_move (hA230.ev (i := 11) (v := .int .i64 (lft ⟨cs, js, room⟩).2)) _ rfl) ?_
  intro a231 hA231; clear hA230
  refine sx_val (hg := (.inr ⟨3, true, 110, rfl, rfl, by kernel_rfl⟩)) (v := .bool true) hA231 rfl (ev_eqlB (k := .i64) (m := (lft ⟨cs, js, room⟩).2) (n := (lft ⟨cs, js, room⟩).2) (hA231.ev (i := 111)) (hA231.ev (i := 112)) (by simp) _ rfl) ?_
  intro a232 hA232; clear hA231
  refine sx_val hA232 rfl (ev_pickT (hA232.ev (i := 110) (v := .bool true)) (hA232.ev (i := 113) (v := .bool true)) _ rfl) ?_
  intro a233 hA233; clear hA232
  refine sx_val hA233 rfl (ev_move (hA233.ev (i := 114) (v := .bool true)) _ rfl) ?_
  intro a234 hA234; clear hA233
  have hx207_235 := hx207.gN hg215
  have hx207_236 := hx207_235.gN hg223
  have hx207_237 := hx207_236.gB hg224 (by omega)
  refine sx_val (hg := (.inr ⟨8, true, 115, rfl, rfl, by kernel_rfl⟩)) (v := .agg (lat ⟨cs, js, room⟩ s).1.va) hA234 rfl (ev_row (hA234.ev (i := 16) (v := .pointer (some ⟨B206, 0, none⟩))) hx207_237 Try.underlying28 rfl (n := 8) (by kernel_rfl) rfl _ rfl) ?_
  intro a238 hA238; clear hA234
  refine sx_val (hg := (.inr ⟨8, true, 115, rfl, rfl, by kernel_rfl⟩)) (v := .agg (lat ⟨cs, js, room⟩ s).1.va) hA238 rfl (ev_row (hA238.ev (i := 18) (v := .pointer (some ⟨B223, 0, none⟩))) hx224 Try.underlying28 rfl (n := 8) (by kernel_rfl) rfl _ rfl) ?_
  intro a239 hA239; clear hA238
  refine sx_val (hg := (.inr ⟨8, true, 115, rfl, rfl, by kernel_rfl⟩)) (v := .bool true) hA239 rfl (ev_eqCB (a := (lat ⟨cs, js, room⟩ s).1) (b := (lat ⟨cs, js, room⟩ s).1) (r := true) (hA239.ev (i := 116) (v := .agg (lat ⟨cs, js, room⟩ s).1.va)) (hA239.ev (i := 117) (v := .agg (lat ⟨cs, js, room⟩ s).1.va)) (by simp) _ rfl) ?_
  intro a240 hA240; clear hA239
  refine sx_val hA240 rfl (ev_pickT (hA240.ev (i := 115) (v := .bool true)) (hA240.ev (i := 118) (v := .bool true)) _ rfl) ?_
  intro a241 hA241; clear hA240
  refine sx_val hA241 rfl (ev_move (hA241.ev (i := 119) (v := .bool true)) _ rfl) ?_
  intro a242 hA242; clear hA241
  refine sx_val (hg := (.inr ⟨13, true, 120, rfl, rfl, by kernel_rfl⟩)) hA242 rfl (ev_move (hA242.ev (i := 17) (v := .int .i64 (lat ⟨cs, js, room⟩ s).2)) _ rfl) ?_
  intro a243 hA243; clear hA242
  refine sx_val (hg := (.inr ⟨13, true, 120, rfl, rfl, by kernel_rfl⟩)) hA243 rfl (ev_move (hA243.ev (i := 19) (v := .int .i64 (lat ⟨cs, js, room⟩ s).2)) _ rfl) ?_
  intro a244 hA244; clear hA243
  refine sx_val (hg := (.inr ⟨13, true, 120, rfl, rfl, by kernel_rfl⟩)) (v := .bool true) hA244 rfl (ev_eqlB (k := .i64) (m := (lat ⟨cs, js, room⟩ s).2) (n := (lat ⟨cs, js, room⟩ s).2) (hA244.ev (i := 121)) (hA244.ev (i := 122)) (by simp) _ rfl) ?_
  intro a245 hA245; clear hA244
  refine sx_val hA245 rfl (ev_pickT (hA245.ev (i := 120) (v := .bool true)) (hA245.ev (i := 123) (v := .bool true)) _ rfl) ?_
  intro a246 hA246; clear hA245
  refine sx_val hA246 rfl (ev_move (hA246.ev (i := 124) (v := .bool true)) _ rfl) ?_
  intro a247 hA247; clear hA246
  have hx21_248 := hx21_195.gN hg198
  have hx21_249 := hx21_248.gN hg206
  have hx21_250 := hx21_249.gB hg207 (by omega)
  have hx21_251 := hx21_250.gN hg215
  have hx21_252 := hx21_251.gN hg223
  have hx21_253 := hx21_252.gB hg224 (by omega)
  refine sx_val (hg := (.inr ⟨18, true, 125, rfl, rfl, by kernel_rfl⟩)) (v := .agg #[.slice Ap17 cs.length cp17, .slice Aj17 js.length cj17, .int .i64 room]) hA247 rfl (ev_row (hA247.ev (i := 7) (v := .pointer (some ⟨B20, 0, none⟩))) hx21_253 Try.underlying25 rfl (n := 3) (by kernel_rfl) rfl _ rfl) ?_
  intro a254 hA254; clear hA247
  have hx1_255 := hx1_212.gN hg215
  have hx1_256 := hx1_255.gN hg223
  have hx1_257 := hx1_256.gB hg224 (by omega)
  refine sx_val (hg := (.inr ⟨18, true, 125, rfl, rfl, by kernel_rfl⟩)) (v := .agg #[.slice A1 cs.length c1, .slice A2 js.length c2, .int .i64 room]) hA254 rfl (ev_row (hA254.ev (i := 3) (v := .pointer (some ⟨B1, 0, none⟩))) hx1_257 Try.underlying25 rfl (n := 3) (by kernel_rfl) rfl _ rfl) ?_
  intro a258 hA258; clear hA254
  have ho17_260 := Own.gN ho17_200 hg198
  have ho17_261 := Own.gN ho17_260 hg206
  have ho17_262 := Own.gB ho17_261 hg207 hh17_0 (by omega)
  have ho17_263 := Own.gN ho17_262 hg215
  have ho17_264 := Own.gN ho17_263 hg223
  have ho17_265 := Own.gB ho17_264 hg224 hh17_0 (by omega)
  have ho17_266 := Own.gN ho17_202 hg198
  have ho17_267 := Own.gN ho17_266 hg206
  have ho17_268 := Own.gBT ho17_267 hg207 hx206 (by decide)
  have ho17_269 := Own.gN ho17_268 hg215
  have ho17_270 := Own.gN ho17_269 hg223
  have ho17_271 := Own.gBT ho17_270 hg224 hx223 (by decide)
  have hbel0_272 := Below.gN hbel0_219 hg215 hbel0_219.size
  have hbel0_273 := Below.gN hbel0_272 hg223 hbel0_272.size
  have hbel0_274 := Below.gB hbel0_273 hg224 hbel0_273.size (by omega)
  refine sx_call (f := 14) (args := #[.agg #[.slice Ap17 cs.length cp17, .slice Aj17 js.length cj17, .int .i64 room], .agg #[.slice A1 cs.length c1, .slice A2 js.length c2, .int .i64 room]]) hA258 rfl (by decide) (.inr ⟨18, true, 125, rfl, rfl, by kernel_rfl⟩) (ev_fn rfl (mp2 (hA258.ev (i := 126) (v := .agg #[.slice Ap17 cs.length cp17, .slice Aj17 js.length cj17, .int .i64 room])) (hA258.ev (i := 127) (v := .agg #[.slice A1 cs.length c1, .slice A2 js.length c2, .int .i64 room]))) (by kernel_rfl) _ rfl) (SameDisk_any Ap17 cp17 Aj17 cj17 cs js room A1 c1 A2 c2 _ ⟨(OwnR.gr (e := 28) ⟨rfl, ho17_265⟩), (OwnR.gr (e := 38) ⟨rfl, ho17_271⟩)⟩ ⟨(hd.s.below hbel0_274), (hd.j.below hbel0_274)⟩ (by omega) (by omega)) ?_
  intro e259 w259 hR259
  obtain ⟨rfl, hb259⟩ := hR259
  refine ⟨_, rfl, ?_⟩
  intro a259 hA259
  clear hA258
  have hg259 := g0 hb259
  have hs259 := hg259.size
  clear hb259
  refine sx_val hA259 rfl (ev_pickT (hA259.ev (i := 125) (v := .bool true)) (hA259.ev (i := 128) (v := .bool true)) _ rfl) ?_
  intro a275 hA275; clear hA259
  refine sx_val hA275 rfl (ev_move (hA275.ev (i := 129) (v := .bool true)) _ rfl) ?_
  intro a276 hA276; clear hA275
  refine sx_call (f := 10) (args := #[]) hA276 rfl (by decide) (.inr ⟨23, true, 130, rfl, rfl, by kernel_rfl⟩) (ev_fn rfl (mp0 ) (by kernel_rfl) _ rfl) (awake_any _) ?_
  intro e277 w277 hR277
  obtain ⟨rfl, hb277⟩ := hR277
  refine ⟨_, rfl, ?_⟩
  intro a277 hA277
  clear hA276
  have hg277 := g0 hb277
  have hs277 := hg277.size
  clear hb277
  refine sx_val hA277 rfl (ev_pickT (hA277.ev (i := 130) (v := .bool true)) (hA277.ev (i := 131) (v := .bool true)) _ rfl) ?_
  intro a278 hA278; clear hA277
  refine sx_val hA278 rfl (ev_assign (hA278.ev (i := 132) (v := .bool true)) _ rfl) ?_
  intro a279 hA279; clear hA278
  refine sx_nil ?_
  refine then_n ?_
  refine wp_ret ?_
  refine bodyPost_ret (rs_t (v := .bool true) Try.results4 hA279 (by kernel_rfl) ) hA279.2.1 ?_
  have hbel0_280 := Below.gN hbel0_274 hg259 hbel0_274.size
  have hbel0_281 := Below.gN hbel0_280 hg277 hbel0_280.size
  exact ⟨rfl, hbel0_281⟩
end Go.Proofs.Ytbkdimildnahaaa
