/- Package disk: slices.Clone, New; the reference: New. -/
import Derived.Test.YtbkdimildnahaaaDA
import Derived.Test.YtbkdimildnahaaaDK
import Derived.Test.YtbkdimildnahaaaSM
namespace Go.Proofs.Ytbkdimildnahaaa
open Go.RowKit
set_option linter.unusedVariables false
set_option maxRecDepth 100000

/-- A call returned a slice of its own that reads as xs. -/
def RetS {α : Type} (e : TypeId) (n : Nat) (va : α → Array Value) (w : World) (xs : List α) (r : Ending) (w' : World) : Prop :=
  ∃ A c, r = .returned (.slice A xs.length c) ∧ Own w' w.heap.size e n (.slice A xs.length c) xs.length (flat va xs) ∧ Below w.heap.size w w'

set_option maxHeartbeats 1000000 in
theorem cloneC_any (A : Option Addr) (c : Nat) (xs : List Ct) (w : World) (hg : GR 8 Ct.va w A c xs) (hl : xs.length ≤ 900000) : Calls Try.prog 47 #[.slice A xs.length c] w (RetS 28 8 Ct.va w xs) := by
  have hbel0 := below0 w
  refine sx_enter (N := 8) [(0, .slice A xs.length c)] Try.func47 rfl Try.ntmps47 (by simp) (fun a z d s => ((Ag.nil z d).cons (s 0 _ rfl))) ?_
  intro a0 hA0
  refine wp_seq ?_
  refine wp_region_lit ?_
  refine sx_val hA0 rfl (ev_assign (ec _ (.slice none 0 0)) _ rfl) ?_
  intro a1 hA1; clear hA0
  refine sx_nil ?_
  refine then_n ?_
  refine wp_seq ?_
  refine wp_seq ?_
  refine wp_region_lit ?_
  refine sx_val hA1 rfl (ev_move (hA1.ev (i := 0) (v := .slice A xs.length c)) _ rfl) ?_
  intro a2 hA2; clear hA1
  cases hd3 : A.isNone
  rotate_left
  · refine sx_val (v := .bool true) hA2 rfl (ev_eqnil (hA2.ev (i := 3) (v := .slice A xs.length c)) (ec _ (.slice none 0 0)) Try.underlying22 hd3 _ rfl) ?_
    intro a11 hA11; clear hA2
    refine sx_nil ?_
    refine then_n ?_
    refine wp_cond_true (hA11.ev (i := 4) (v := .bool true)) ?_
    refine wp_seq ?_
    refine wp_region_lit ?_
    refine sx_val hA11 rfl (ev_assign (ec _ (.slice none 0 0)) _ rfl) ?_
    intro a12 hA12; clear hA11
    refine sx_nil ?_
    refine then_n ?_
    refine wp_ret ?_
    refine then_r ?_
    refine bodyPost_ret (rs_t (v := .slice none 0 0) Try.results47 hA12 (by kernel_rfl) ) hA12.2.1 ?_
    have he := GR.none_nil hg hd3
    subst he
    exact ⟨none, 0, rfl, Own.nil _ _ _ 8, hbel0⟩
  refine sx_val (v := .bool false) hA2 rfl (ev_eqnil (hA2.ev (i := 3) (v := .slice A xs.length c)) (ec _ (.slice none 0 0)) Try.underlying22 hd3 _ rfl) ?_
  intro a4 hA4; clear hA2
  refine sx_nil ?_
  refine then_n ?_
  refine wp_cond_false (hA4.ev (i := 4) (v := .bool false)) ?_
  refine wp_skip ?_
  refine then_n ?_
  refine wp_seq ?_
  refine wp_region_lit ?_
  refine sx_bs (n := 0) (cs := #[]) (e := 28) hA4 rfl (by decide) (.inl rfl) (ev_bs0 Try.underlying22 (by kernel_rfl) _ rfl) ?_
  intro B5 w5 a5 hB5 hx5 hg5 hA5
  clear hA4
  have hs5 := hg5.size
  have hl5 := hx5.lt
  have ho5 := Own.bx0 (va := Ct.va) (size := 8) hx5
  have hh5 := Own.hi ho5
  refine sx_val hA5 rfl (ev_move (hA5.ev (i := 0) (v := .slice A xs.length c)) _ rfl) ?_
  intro a6 hA6; clear hA5
  have hbel0_8 := Below.gN hbel0 hg5 hbel0.size
  refine sx_app (va := Ct.va) (l1 := []) (l2 := xs) (z := .agg Ct.zero.va) (size := 8) (bytes := 64) hA6 rfl (by decide) (.inl rfl) rfl (hA6.ev (i := 5) (v := .slice (some ⟨B5, 0, none⟩) 0 0)) (hA6.ev (i := 6) (v := .slice A xs.length c)) rfl rfl Try.underlying22 (by kernel_rfl) rfl (by decide) ct_one (base := B5) ho5 (hg.below hbel0_8).2.2 (by show 0 + xs.length ≤ _; omega) (by decide) (by omega) ?_
  intro A7 c7 w7 a7 ho7 hg7 hA7
  clear hA6
  have hs7 := hg7.size
  have hh7 := Own.hi ho7
  replace ho7 : Own w7 (B5) 28 8 (.slice A7 xs.length c7) xs.length (flat Ct.va (xs)) := ho7
  refine sx_val hA7 rfl (ev_assign (hA7.ev (i := 7) (v := .slice A7 xs.length c7)) _ rfl) ?_
  intro a9 hA9; clear hA7
  refine sx_nil ?_
  refine then_n ?_
  refine wp_ret ?_
  refine bodyPost_ret (rs_t (v := .slice A7 xs.length c7) Try.results47 hA9 (by kernel_rfl) ) hA9.2.1 ?_
  have hbel0_10 := Below.gO hbel0_8 hg7 ho5 hbel0_8.size (by omega)
  exact ⟨_, _, rfl, Own.mono ho7 (by omega), hbel0_10⟩

set_option maxHeartbeats 1000000 in
theorem cloneJ_any (A : Option Addr) (c : Nat) (xs : List Jb) (w : World) (hg : GR 11 Jb.va w A c xs) (hl : xs.length ≤ 900000) : Calls Try.prog 48 #[.slice A xs.length c] w (RetS 38 11 Jb.va w xs) := by
  have hbel0 := below0 w
  refine sx_enter (N := 8) [(0, .slice A xs.length c)] Try.func48 rfl Try.ntmps48 (by simp) (fun a z d s => ((Ag.nil z d).cons (s 0 _ rfl))) ?_
  intro a0 hA0
  refine wp_seq ?_
  refine wp_region_lit ?_
  refine sx_val hA0 rfl (ev_assign (ec _ (.slice none 0 0)) _ rfl) ?_
  intro a1 hA1; clear hA0
  refine sx_nil ?_
  refine then_n ?_
  refine wp_seq ?_
  refine wp_seq ?_
  refine wp_region_lit ?_
  refine sx_val hA1 rfl (ev_move (hA1.ev (i := 0) (v := .slice A xs.length c)) _ rfl) ?_
  intro a2 hA2; clear hA1
  cases hd3 : A.isNone
  rotate_left
  · refine sx_val (v := .bool true) hA2 rfl (ev_eqnil (hA2.ev (i := 3) (v := .slice A xs.length c)) (ec _ (.slice none 0 0)) Try.underlying23 hd3 _ rfl) ?_
    intro a11 hA11; clear hA2
    refine sx_nil ?_
    refine then_n ?_
    refine wp_cond_true (hA11.ev (i := 4) (v := .bool true)) ?_
    refine wp_seq ?_
    refine wp_region_lit ?_
    refine sx_val hA11 rfl (ev_assign (ec _ (.slice none 0 0)) _ rfl) ?_
    intro a12 hA12; clear hA11
    refine sx_nil ?_
    refine then_n ?_
    refine wp_ret ?_
    refine then_r ?_
    refine bodyPost_ret (rs_t (v := .slice none 0 0) Try.results48 hA12 (by kernel_rfl) ) hA12.2.1 ?_
    have he := GR.none_nil hg hd3
    subst he
    exact ⟨none, 0, rfl, Own.nil _ _ _ 11, hbel0⟩
  refine sx_val (v := .bool false) hA2 rfl (ev_eqnil (hA2.ev (i := 3) (v := .slice A xs.length c)) (ec _ (.slice none 0 0)) Try.underlying23 hd3 _ rfl) ?_
  intro a4 hA4; clear hA2
  refine sx_nil ?_
  refine then_n ?_
  refine wp_cond_false (hA4.ev (i := 4) (v := .bool false)) ?_
  refine wp_skip ?_
  refine then_n ?_
  refine wp_seq ?_
  refine wp_region_lit ?_
  refine sx_bs (n := 0) (cs := #[]) (e := 38) hA4 rfl (by decide) (.inl rfl) (ev_bs0 Try.underlying23 (by kernel_rfl) _ rfl) ?_
  intro B5 w5 a5 hB5 hx5 hg5 hA5
  clear hA4
  have hs5 := hg5.size
  have hl5 := hx5.lt
  have ho5 := Own.bx0 (va := Jb.va) (size := 11) hx5
  have hh5 := Own.hi ho5
  refine sx_val hA5 rfl (ev_move (hA5.ev (i := 0) (v := .slice A xs.length c)) _ rfl) ?_
  intro a6 hA6; clear hA5
  have hbel0_8 := Below.gN hbel0 hg5 hbel0.size
  refine sx_app (va := Jb.va) (l1 := []) (l2 := xs) (z := .agg Jb.zero.va) (size := 11) (bytes := 88) hA6 rfl (by decide) (.inl rfl) rfl (hA6.ev (i := 5) (v := .slice (some ⟨B5, 0, none⟩) 0 0)) (hA6.ev (i := 6) (v := .slice A xs.length c)) rfl rfl Try.underlying23 (by kernel_rfl) rfl (by decide) jb_one (base := B5) ho5 (hg.below hbel0_8).2.2 (by show 0 + xs.length ≤ _; omega) (by decide) (by omega) ?_
  intro A7 c7 w7 a7 ho7 hg7 hA7
  clear hA6
  have hs7 := hg7.size
  have hh7 := Own.hi ho7
  replace ho7 : Own w7 (B5) 38 11 (.slice A7 xs.length c7) xs.length (flat Jb.va (xs)) := ho7
  refine sx_val hA7 rfl (ev_assign (hA7.ev (i := 7) (v := .slice A7 xs.length c7)) _ rfl) ?_
  intro a9 hA9; clear hA7
  refine sx_nil ?_
  refine then_n ?_
  refine wp_ret ?_
  refine bodyPost_ret (rs_t (v := .slice A7 xs.length c7) Try.results48 hA9 (by kernel_rfl) ) hA9.2.1 ?_
  have hbel0_10 := Below.gO hbel0_8 hg7 ho5 hbel0_8.size (by omega)
  exact ⟨_, _, rfl, Own.mono ho7 (by omega), hbel0_10⟩

set_option maxHeartbeats 1000000 in
theorem New_any (s r : Int) (w : World) : Calls Try.prog 22 #[.int .i64 s, .int .i64 r] w (RetD w (nw s r)) := by
  have hbel0 := below0 w
  refine sx_enter (N := 25) [(0, .int .i64 s), (1, .int .i64 r)] Try.func22 rfl Try.ntmps22 (by simp) (fun a z d s => (((Ag.nil z d).cons (s 1 _ rfl)).cons (s 0 _ rfl))) ?_
  intro a0 hA0
  refine wp_seq ?_
  refine wp_region_lit ?_
  refine sx_new (cs := #[.slice none 0 0, .slice none 0 0, .int .i64 0]) (t := 25) hA0 rfl (by decide) (.inl rfl) (ev_alloc (z := .agg (#[.slice none 0 0, .slice none 0 0, .int .i64 0])) (by kernel_rfl) (by kernel_rfl) _ rfl) ?_
  intro B1 w1 a1 hB1 hx1 hg1 hA1
  clear hA0
  have hs1 := hg1.size
  have hl1 := hx1.lt
  refine sx_val hA1 rfl (ev_assign (ec _ (.int .i64 0)) _ rfl) ?_
  intro a2 hA2; clear hA1
  refine sx_nil ?_
  refine then_n ?_
  refine wp_seq ?_
  refine wp_seq ?_
  refine wp_region_lit ?_
  refine sx_val hA2 rfl (ev_move (hA2.ev (i := 0) (v := .int .i64 s)) _ rfl) ?_
  intro a3 hA3; clear hA2
  cases hd4 : decide (s < 1)
  rotate_left
  · have hp4 := of_decide_eq_true hd4
    refine sx_val (v := .bool true) hA3 rfl (ev_lssB (k := .i64) (m := s) (n := 1) (hA3.ev (i := 6)) (ec _ (.int .i64 1)) hd4 _ rfl) ?_
    intro a65 hA65; clear hA3
    refine sx_val hA65 rfl (ev_move (hA65.ev (i := 7) (v := .bool true)) _ rfl) ?_
    intro a66 hA66; clear hA65
    refine sx_no (j := 2) (s := 8) (want := false) (b := true) hA66 rfl ?_
    intro a67 hA67; clear hA66
    refine sx_no (j := 2) (s := 8) (want := false) (b := true) hA67 rfl ?_
    intro a68 hA68; clear hA67
    refine sx_val hA68 rfl (ev_pickT (hA68.ev (i := 8) (v := .bool true)) (ec _ (.bool true)) _ rfl) ?_
    intro a69 hA69; clear hA68
    refine sx_val hA69 rfl (ev_move (hA69.ev (i := 11) (v := .bool true)) _ rfl) ?_
    intro a70 hA70; clear hA69
    refine sx_no (j := 6) (s := 12) (want := false) (b := true) hA70 rfl ?_
    intro a71 hA71; clear hA70
    refine sx_no (j := 6) (s := 12) (want := false) (b := true) hA71 rfl ?_
    intro a72 hA72; clear hA71
    refine sx_val hA72 rfl (ev_pickT (hA72.ev (i := 12) (v := .bool true)) (ec _ (.bool true)) _ rfl) ?_
    intro a73 hA73; clear hA72
    refine sx_val hA73 rfl (ev_move (hA73.ev (i := 15) (v := .bool true)) _ rfl) ?_
    intro a74 hA74; clear hA73
    refine sx_no (j := 10) (s := 16) (want := false) (b := true) hA74 rfl ?_
    intro a75 hA75; clear hA74
    refine sx_no (j := 10) (s := 16) (want := false) (b := true) hA75 rfl ?_
    intro a76 hA76; clear hA75
    refine sx_val hA76 rfl (ev_pickT (hA76.ev (i := 16) (v := .bool true)) (ec _ (.bool true)) _ rfl) ?_
    intro a77 hA77; clear hA76
    refine sx_nil ?_
    refine then_n ?_
    refine wp_cond_true (hA77.ev (i := 19) (v := .bool true)) ?_
    refine wp_seq ?_
    refine wp_region_lit ?_
    refine sx_val (v := .agg #[.slice none 0 0, .slice none 0 0, .int .i64 0]) hA77 rfl (bd0_Disk _ rfl) ?_
    intro a78 hA78; clear hA77
    refine sx_store hA78 rfl (.inl rfl) rfl (hA78.ev (i := 4) (v := .pointer (some ⟨B1, 0, none⟩))) (hA78.ev (i := 20) (v := .agg #[.slice none 0 0, .slice none 0 0, .int .i64 0])) hx1 (by kernel_rfl) rfl (dk_one _ _ _ _ _ _ _) ?_
    intro w79 hx79 hg79
    have hs79 := hg79.size
    refine sx_val hA78 rfl (ev_assign (ec _ (.int .i64 2)) _ rfl) ?_
    intro a80 hA80; clear hA78
    refine sx_nil ?_
    refine then_n ?_
    refine wp_ret ?_
    refine then_r ?_
    refine bodyPost_ret (rs_ct (v := .int .i64 2) Try.results22 hA80 (by kernel_rfl) (by kernel_rfl) hx79 Try.underlying25 rfl (by kernel_rfl)) hA80.2.1 ?_
    have E : nw s r = (Dk.nil, 2) := if_pos (by omega)
    rw [E]
    have hbel0_81 := Below.gN hbel0 hg1 hbel0.size
    have hbel0_82 := Below.gB hbel0_81 hg79 hbel0_81.size (by omega)
    exact ⟨none, 0, none, 0, rfl, OwC.nil _ _, OwJ.nil _ _, hbel0_82⟩
  have hp4 := of_decide_eq_false hd4
  refine sx_val (v := .bool false) hA3 rfl (ev_lssB (k := .i64) (m := s) (n := 1) (hA3.ev (i := 6)) (ec _ (.int .i64 1)) hd4 _ rfl) ?_
  intro a5 hA5; clear hA3
  refine sx_val hA5 rfl (ev_move (hA5.ev (i := 7) (v := .bool false)) _ rfl) ?_
  intro a6 hA6; clear hA5
  refine sx_val (hg := (.inr ⟨2, false, 8, rfl, rfl, by kernel_rfl⟩)) hA6 rfl (ev_move (hA6.ev (i := 0) (v := .int .i64 s)) _ rfl) ?_
  intro a7 hA7; clear hA6
  cases hd8 : decide (256 < s)
  rotate_left
  · have hp8 := of_decide_eq_true hd8
    refine sx_val (hg := (.inr ⟨2, false, 8, rfl, rfl, by kernel_rfl⟩)) (v := .bool true) hA7 rfl (ev_gtrB (k := .i64) (m := s) (n := 256) (hA7.ev (i := 9)) (ec _ (.int .i64 256)) hd8 _ rfl) ?_
    intro a50 hA50; clear hA7
    refine sx_val hA50 rfl (ev_pickF (hA50.ev (i := 8) (v := .bool false)) (hA50.ev (i := 10) (v := .bool true)) _ rfl) ?_
    intro a51 hA51; clear hA50
    refine sx_val hA51 rfl (ev_move (hA51.ev (i := 11) (v := .bool true)) _ rfl) ?_
    intro a52 hA52; clear hA51
    refine sx_no (j := 6) (s := 12) (want := false) (b := true) hA52 rfl ?_
    intro a53 hA53; clear hA52
    refine sx_no (j := 6) (s := 12) (want := false) (b := true) hA53 rfl ?_
    intro a54 hA54; clear hA53
    refine sx_val hA54 rfl (ev_pickT (hA54.ev (i := 12) (v := .bool true)) (ec _ (.bool true)) _ rfl) ?_
    intro a55 hA55; clear hA54
    refine sx_val hA55 rfl (ev_move (hA55.ev (i := 15) (v := .bool true)) _ rfl) ?_
    intro a56 hA56; clear hA55
    refine sx_no (j := 10) (s := 16) (want := false) (b := true) hA56 rfl ?_
    intro a57 hA57; clear hA56
    refine sx_no (j := 10) (s := 16) (want := false) (b := true) hA57 rfl ?_
    intro a58 hA58; clear hA57
    refine sx_val hA58 rfl (ev_pickT (hA58.ev (i := 16) (v := .bool true)) (ec _ (.bool true)) _ rfl) ?_
    intro a59 hA59; clear hA58
    refine sx_nil ?_
    refine then_n ?_
    refine wp_cond_true (hA59.ev (i := 19) (v := .bool true)) ?_
    refine wp_seq ?_
    refine wp_region_lit ?_
    refine sx_val (v := .agg #[.slice none 0 0, .slice none 0 0, .int .i64 0]) hA59 rfl (bd0_Disk _ rfl) ?_
    intro a60 hA60; clear hA59
    refine sx_store hA60 rfl (.inl rfl) rfl (hA60.ev (i := 4) (v := .pointer (some ⟨B1, 0, none⟩))) (hA60.ev (i := 20) (v := .agg #[.slice none 0 0, .slice none 0 0, .int .i64 0])) hx1 (by kernel_rfl) rfl (dk_one _ _ _ _ _ _ _) ?_
    intro w61 hx61 hg61
    have hs61 := hg61.size
    refine sx_val hA60 rfl (ev_assign (ec _ (.int .i64 2)) _ rfl) ?_
    intro a62 hA62; clear hA60
    refine sx_nil ?_
    refine then_n ?_
    refine wp_ret ?_
    refine then_r ?_
    refine bodyPost_ret (rs_ct (v := .int .i64 2) Try.results22 hA62 (by kernel_rfl) (by kernel_rfl) hx61 Try.underlying25 rfl (by kernel_rfl)) hA62.2.1 ?_
    have E : nw s r = (Dk.nil, 2) := if_pos (by omega)
    rw [E]
    have hbel0_63 := Below.gN hbel0 hg1 hbel0.size
    have hbel0_64 := Below.gB hbel0_63 hg61 hbel0_63.size (by omega)
    exact ⟨none, 0, none, 0, rfl, OwC.nil _ _, OwJ.nil _ _, hbel0_64⟩
  have hp8 := of_decide_eq_false hd8
  refine sx_val (hg := (.inr ⟨2, false, 8, rfl, rfl, by kernel_rfl⟩)) (v := .bool false) hA7 rfl (ev_gtrB (k := .i64) (m := s) (n := 256) (hA7.ev (i := 9)) (ec _ (.int .i64 256)) hd8 _ rfl) ?_
  intro a9 hA9; clear hA7
  refine sx_val hA9 rfl (ev_pickF (hA9.ev (i := 8) (v := .bool false)) (hA9.ev (i := 10) (v := .bool false)) _ rfl) ?_
  intro a10 hA10; clear hA9
  refine sx_val hA10 rfl (ev_move (hA10.ev (i := 11) (v := .bool false)) _ rfl) ?_
  intro a11 hA11; clear hA10
  refine sx_val (hg := (.inr ⟨6, false, 12, rfl, rfl, by kernel_rfl⟩)) hA11 rfl (ev_move (hA11.ev (i := 1) (v := .int .i64 r)) _ rfl) ?_
  intro a12 hA12; clear hA11
  cases hd13 : decide (r < 1)
  rotate_left
  · have hp13 := of_decide_eq_true hd13
    refine sx_val (hg := (.inr ⟨6, false, 12, rfl, rfl, by kernel_rfl⟩)) (v := .bool true) hA12 rfl (ev_lssB (k := .i64) (m := r) (n := 1) (hA12.ev (i := 13)) (ec _ (.int .i64 1)) hd13 _ rfl) ?_
    intro a39 hA39; clear hA12
    refine sx_val hA39 rfl (ev_pickF (hA39.ev (i := 12) (v := .bool false)) (hA39.ev (i := 14) (v := .bool true)) _ rfl) ?_
    intro a40 hA40; clear hA39
    refine sx_val hA40 rfl (ev_move (hA40.ev (i := 15) (v := .bool true)) _ rfl) ?_
    intro a41 hA41; clear hA40
    refine sx_no (j := 10) (s := 16) (want := false) (b := true) hA41 rfl ?_
    intro a42 hA42; clear hA41
    refine sx_no (j := 10) (s := 16) (want := false) (b := true) hA42 rfl ?_
    intro a43 hA43; clear hA42
    refine sx_val hA43 rfl (ev_pickT (hA43.ev (i := 16) (v := .bool true)) (ec _ (.bool true)) _ rfl) ?_
    intro a44 hA44; clear hA43
    refine sx_nil ?_
    refine then_n ?_
    refine wp_cond_true (hA44.ev (i := 19) (v := .bool true)) ?_
    refine wp_seq ?_
    refine wp_region_lit ?_
    refine sx_val (v := .agg #[.slice none 0 0, .slice none 0 0, .int .i64 0]) hA44 rfl (bd0_Disk _ rfl) ?_
    intro a45 hA45; clear hA44
    refine sx_store hA45 rfl (.inl rfl) rfl (hA45.ev (i := 4) (v := .pointer (some ⟨B1, 0, none⟩))) (hA45.ev (i := 20) (v := .agg #[.slice none 0 0, .slice none 0 0, .int .i64 0])) hx1 (by kernel_rfl) rfl (dk_one _ _ _ _ _ _ _) ?_
    intro w46 hx46 hg46
    have hs46 := hg46.size
    refine sx_val hA45 rfl (ev_assign (ec _ (.int .i64 2)) _ rfl) ?_
    intro a47 hA47; clear hA45
    refine sx_nil ?_
    refine then_n ?_
    refine wp_ret ?_
    refine then_r ?_
    refine bodyPost_ret (rs_ct (v := .int .i64 2) Try.results22 hA47 (by kernel_rfl) (by kernel_rfl) hx46 Try.underlying25 rfl (by kernel_rfl)) hA47.2.1 ?_
    have E : nw s r = (Dk.nil, 2) := if_pos (by omega)
    rw [E]
    have hbel0_48 := Below.gN hbel0 hg1 hbel0.size
    have hbel0_49 := Below.gB hbel0_48 hg46 hbel0_48.size (by omega)
    exact ⟨none, 0, none, 0, rfl, OwC.nil _ _, OwJ.nil _ _, hbel0_49⟩
  have hp13 := of_decide_eq_false hd13
  refine sx_val (hg := (.inr ⟨6, false, 12, rfl, rfl, by kernel_rfl⟩)) (v := .bool false) hA12 rfl (ev_lssB (k := .i64) (m := r) (n := 1) (hA12.ev (i := 13)) (ec _ (.int .i64 1)) hd13 _ rfl) ?_
  intro a14 hA14; clear hA12
  refine sx_val hA14 rfl (ev_pickF (hA14.ev (i := 12) (v := .bool false)) (hA14.ev (i := 14) (v := .bool false)) _ rfl) ?_
  intro a15 hA15; clear hA14
  refine sx_val hA15 rfl (ev_move (hA15.ev (i := 15) (v := .bool false)) _ rfl) ?_
  intro a16 hA16; clear hA15
  refine sx_val (hg := (.inr ⟨10, false, 16, rfl, rfl, by kernel_rfl⟩)) hA16 rfl (ev_move (hA16.ev (i := 1) (v := .int .i64 r)) _ rfl) ?_
  intro a17 hA17; clear hA16
  cases hd18 : decide (32 < r)
  rotate_left
  · have hp18 := of_decide_eq_true hd18
    refine sx_val (hg := (.inr ⟨10, false, 16, rfl, rfl, by kernel_rfl⟩)) (v := .bool true) hA17 rfl (ev_gtrB (k := .i64) (m := r) (n := 32) (hA17.ev (i := 17)) (ec _ (.int .i64 32)) hd18 _ rfl) ?_
    intro a32 hA32; clear hA17
    refine sx_val hA32 rfl (ev_pickF (hA32.ev (i := 16) (v := .bool false)) (hA32.ev (i := 18) (v := .bool true)) _ rfl) ?_
    intro a33 hA33; clear hA32
    refine sx_nil ?_
    refine then_n ?_
    refine wp_cond_true (hA33.ev (i := 19) (v := .bool true)) ?_
    refine wp_seq ?_
    refine wp_region_lit ?_
    refine sx_val (v := .agg #[.slice none 0 0, .slice none 0 0, .int .i64 0]) hA33 rfl (bd0_Disk _ rfl) ?_
    intro a34 hA34; clear hA33
    refine sx_store hA34 rfl (.inl rfl) rfl (hA34.ev (i := 4) (v := .pointer (some ⟨B1, 0, none⟩))) (hA34.ev (i := 20) (v := .agg #[.slice none 0 0, .slice none 0 0, .int .i64 0])) hx1 (by kernel_rfl) rfl (dk_one _ _ _ _ _ _ _) ?_
    intro w35 hx35 hg35
    have hs35 := hg35.size
    refine sx_val hA34 rfl (ev_assign (ec _ (.int .i64 2)) _ rfl) ?_
    intro a36 hA36; clear hA34
    refine sx_nil ?_
    refine then_n ?_
    refine wp_ret ?_
    refine then_r ?_
    refine bodyPost_ret (rs_ct (v := .int .i64 2) Try.results22 hA36 (by kernel_rfl) (by kernel_rfl) hx35 Try.underlying25 rfl (by kernel_rfl)) hA36.2.1 ?_
    have E : nw s r = (Dk.nil, 2) := if_pos (by omega)
    rw [E]
    have hbel0_37 := Below.gN hbel0 hg1 hbel0.size
    have hbel0_38 := Below.gB hbel0_37 hg35 hbel0_37.size (by omega)
    exact ⟨none, 0, none, 0, rfl, OwC.nil _ _, OwJ.nil _ _, hbel0_38⟩
  have hp18 := of_decide_eq_false hd18
  refine sx_val (hg := (.inr ⟨10, false, 16, rfl, rfl, by kernel_rfl⟩)) (v := .bool false) hA17 rfl (ev_gtrB (k := .i64) (m := r) (n := 32) (hA17.ev (i := 17)) (ec _ (.int .i64 32)) hd18 _ rfl) ?_
  intro a19 hA19; clear hA17
  refine sx_val hA19 rfl (ev_pickF (hA19.ev (i := 16) (v := .bool false)) (hA19.ev (i := 18) (v := .bool false)) _ rfl) ?_
  intro a20 hA20; clear hA19
  refine sx_nil ?_
  refine then_n ?_
  refine wp_cond_false (hA20.ev (i := 19) (v := .bool false)) ?_
  refine wp_skip ?_
  refine then_n ?_
  refine wp_seq ?_
  refine wp_region_lit ?_
  refine sx_val hA20 rfl (ev_move (hA20.ev (i := 0) (v := .int .i64 s)) _ rfl) ?_
  intro a21 hA21; clear hA20
  refine sx_make (va := Ct.va) (x0 := Ct.zero) (n := s.toNat) (z := .agg Ct.zero.va) (size := 8) (bytes := 64) hA21 rfl (by decide) (.inl rfl) rfl (hA21.ev (i := 21) (v := .int .i64 s)) (hA21.ev (i := 21) (v := .int .i64 s)) (by omega) (by omega) Try.underlying22 (by kernel_rfl) rfl ct_sz (by decide) (by omega) (by omega) ?_
  intro A22 w22 a22 ho22 hg22 hA22
  clear hA21
  have hs22 := hg22.size
  have hh22 := Own.hi ho22
  refine sx_val hA22 rfl (ev_move (hA22.ev (i := 1) (v := .int .i64 r)) _ rfl) ?_
  intro a23 hA23; clear hA22
  refine sx_val (v := .agg #[.slice A22 (List.replicate s.toNat Ct.zero).length s.toNat, .slice none 0 0, .int .i64 r]) hA23 rfl (bd_Disk_0_2 (hA23.ev (i := 22) (v := .slice A22 (List.replicate s.toNat Ct.zero).length s.toNat)) (hA23.ev (i := 23) (v := .int .i64 r)) _ rfl) ?_
  intro a24 hA24; clear hA23
  have hx1_26 := hx1.gN hg22
  refine sx_store hA24 rfl (.inl rfl) rfl (hA24.ev (i := 4) (v := .pointer (some ⟨B1, 0, none⟩))) (hA24.ev (i := 24) (v := .agg #[.slice A22 (List.replicate s.toNat Ct.zero).length s.toNat, .slice none 0 0, .int .i64 r])) hx1_26 (by kernel_rfl) rfl (dk_one _ _ _ _ _ _ _) ?_
  intro w25 hx25 hg25
  have hs25 := hg25.size
  refine sx_val hA24 rfl (ev_assign (ec _ (.int .i64 0)) _ rfl) ?_
  intro a27 hA27; clear hA24
  refine sx_nil ?_
  refine then_n ?_
  refine wp_ret ?_
  refine bodyPost_ret (rs_ct (v := .int .i64 0) Try.results22 hA27 (by kernel_rfl) (by kernel_rfl) hx25 Try.underlying25 rfl (by kernel_rfl)) hA27.2.1 ?_
  have E : nw s r = (⟨List.replicate s.toNat Ct.zero, [], r⟩, 0) := if_neg (by omega)
  rw [E]
  have ho22_28 := Own.gBT ho22 hg25 hx1_26 (by decide)
  have hbel0_29 := Below.gN hbel0 hg1 hbel0.size
  have hbel0_30 := Below.gN hbel0_29 hg22 hbel0_29.size
  have hbel0_31 := Below.gB hbel0_30 hg25 hbel0_30.size (by omega)
  exact ⟨_, _, none, 0, rfl, ⟨rfl, Own.mono ho22_28 (by omega)⟩, OwJ.nil _ _, hbel0_31⟩

set_option maxHeartbeats 1000000 in
theorem sNew_any (s r : Int) (w : World) : Calls Try.prog 23 #[.int .i64 s, .int .i64 r] w (RetD w (nw s r)) := by
  have hbel0 := below0 w
  refine sx_enter (N := 25) [(0, .int .i64 s), (1, .int .i64 r)] Try.func23 rfl Try.ntmps23 (by simp) (fun a z d s => (((Ag.nil z d).cons (s 1 _ rfl)).cons (s 0 _ rfl))) ?_
  intro a0 hA0
  refine wp_seq ?_
  refine wp_region_lit ?_
  refine sx_new (cs := #[.slice none 0 0, .slice none 0 0, .int .i64 0]) (t := 25) hA0 rfl (by decide) (.inl rfl) (ev_alloc (z := .agg (#[.slice none 0 0, .slice none 0 0, .int .i64 0])) (by kernel_rfl) (by kernel_rfl) _ rfl) ?_
  intro B1 w1 a1 hB1 hx1 hg1 hA1
  clear hA0
  have hs1 := hg1.size
  have hl1 := hx1.lt
  refine sx_val hA1 rfl (ev_assign (ec _ (.int .i64 0)) _ rfl) ?_
  intro a2 hA2; clear hA1
  refine sx_nil ?_
  refine then_n ?_
  refine wp_seq ?_
  refine wp_seq ?_
  refine wp_region_lit ?_
  refine sx_val hA2 rfl (ev_move (hA2.ev (i := 0) (v := .int .i64 s)) _ rfl) ?_
  intro a3 hA3; clear hA2
  cases hd4 : decide (s < 1)
  rotate_left
  · have hp4 := of_decide_eq_true hd4
    refine sx_val (v := .bool true) hA3 rfl (ev_lssB (k := .i64) (m := s) (n := 1) (hA3.ev (i := 6)) (ec _ (.int .i64 1)) hd4 _ rfl) ?_
    intro a65 hA65; clear hA3
    refine sx_val hA65 rfl (ev_move (hA65.ev (i := 7) (v := .bool true)) _ rfl) ?_
    intro a66 hA66; clear hA65
    refine sx_no (j := 2) (s := 8) (want := false) (b := true) hA66 rfl ?_
    intro a67 hA67; clear hA66
    refine sx_no (j := 2) (s := 8) (want := false) (b := true) hA67 rfl ?_
    intro a68 hA68; clear hA67
    refine sx_val hA68 rfl (ev_pickT (hA68.ev (i := 8) (v := .bool true)) (ec _ (.bool true)) _ rfl) ?_
    intro a69 hA69; clear hA68
    refine sx_val hA69 rfl (ev_move (hA69.ev (i := 11) (v := .bool true)) _ rfl) ?_
    intro a70 hA70; clear hA69
    refine sx_no (j := 6) (s := 12) (want := false) (b := true) hA70 rfl ?_
    intro a71 hA71; clear hA70
    refine sx_no (j := 6) (s := 12) (want := false) (b := true) hA71 rfl ?_
    intro a72 hA72; clear hA71
    refine sx_val hA72 rfl (ev_pickT (hA72.ev (i := 12) (v := .bool true)) (ec _ (.bool true)) _ rfl) ?_
    intro a73 hA73; clear hA72
    refine sx_val hA73 rfl (ev_move (hA73.ev (i := 15) (v := .bool true)) _ rfl) ?_
    intro a74 hA74; clear hA73
    refine sx_no (j := 10) (s := 16) (want := false) (b := true) hA74 rfl ?_
    intro a75 hA75; clear hA74
    refine sx_no (j := 10) (s := 16) (want := false) (b := true) hA75 rfl ?_
    intro a76 hA76; clear hA75
    refine sx_val hA76 rfl (ev_pickT (hA76.ev (i := 16) (v := .bool true)) (ec _ (.bool true)) _ rfl) ?_
    intro a77 hA77; clear hA76
    refine sx_nil ?_
    refine then_n ?_
    refine wp_cond_true (hA77.ev (i := 19) (v := .bool true)) ?_
    refine wp_seq ?_
    refine wp_region_lit ?_
    refine sx_val (v := .agg #[.slice none 0 0, .slice none 0 0, .int .i64 0]) hA77 rfl (bd0_Disk _ rfl) ?_
    intro a78 hA78; clear hA77
    refine sx_store hA78 rfl (.inl rfl) rfl (hA78.ev (i := 4) (v := .pointer (some ⟨B1, 0, none⟩))) (hA78.ev (i := 20) (v := .agg #[.slice none 0 0, .slice none 0 0, .int .i64 0])) hx1 (by kernel_rfl) rfl (dk_one _ _ _ _ _ _ _) ?_
    intro w79 hx79 hg79
    have hs79 := hg79.size
    refine sx_val hA78 rfl (ev_assign (ec _ (.int .i64 2)) _ rfl) ?_
    intro a80 hA80; clear hA78
    refine sx_nil ?_
    refine then_n ?_
    refine wp_ret ?_
    refine then_r ?_
    refine bodyPost_ret (rs_ct (v := .int .i64 2) Try.results23 hA80 (by kernel_rfl) (by kernel_rfl) hx79 Try.underlying25 rfl (by kernel_rfl)) hA80.2.1 ?_
    have E : nw s r = (Dk.nil, 2) := if_pos (by omega)
    rw [E]
    have hbel0_81 := Below.gN hbel0 hg1 hbel0.size
    have hbel0_82 := Below.gB hbel0_81 hg79 hbel0_81.size (by omega)
    exact ⟨none, 0, none, 0, rfl, OwC.nil _ _, OwJ.nil _ _, hbel0_82⟩
  have hp4 := of_decide_eq_false hd4
  refine sx_val (v := .bool false) hA3 rfl (ev_lssB (k := .i64) (m := s) (n := 1) (hA3.ev (i := 6)) (ec _ (.int .i64 1)) hd4 _ rfl) ?_
  intro a5 hA5; clear hA3
  refine sx_val hA5 rfl (ev_move (hA5.ev (i := 7) (v := .bool false)) _ rfl) ?_
  intro a6 hA6; clear hA5
  refine sx_val (hg := (.inr ⟨2, false, 8, rfl, rfl, by kernel_rfl⟩)) hA6 rfl (ev_move (hA6.ev (i := 0) (v := .int .i64 s)) _ rfl) ?_
  intro a7 hA7; clear hA6
  cases hd8 : decide (256 < s)
  rotate_left
  · have hp8 := of_decide_eq_true hd8
    refine sx_val (hg := (.inr ⟨2, false, 8, rfl, rfl, by kernel_rfl⟩)) (v := .bool true) hA7 rfl (ev_gtrB (k := .i64) (m := s) (n := 256) (hA7.ev (i := 9)) (ec _ (.int .i64 256)) hd8 _ rfl) ?_
    intro a50 hA50; clear hA7
    refine sx_val hA50 rfl (ev_pickF (hA50.ev (i := 8) (v := .bool false)) (hA50.ev (i := 10) (v := .bool true)) _ rfl) ?_
    intro a51 hA51; clear hA50
    refine sx_val hA51 rfl (ev_move (hA51.ev (i := 11) (v := .bool true)) _ rfl) ?_
    intro a52 hA52; clear hA51
    refine sx_no (j := 6) (s := 12) (want := false) (b := true) hA52 rfl ?_
    intro a53 hA53; clear hA52
    refine sx_no (j := 6) (s := 12) (want := false) (b := true) hA53 rfl ?_
    intro a54 hA54; clear hA53
    refine sx_val hA54 rfl (ev_pickT (hA54.ev (i := 12) (v := .bool true)) (ec _ (.bool true)) _ rfl) ?_
    intro a55 hA55; clear hA54
    refine sx_val hA55 rfl (ev_move (hA55.ev (i := 15) (v := .bool true)) _ rfl) ?_
    intro a56 hA56; clear hA55
    refine sx_no (j := 10) (s := 16) (want := false) (b := true) hA56 rfl ?_
    intro a57 hA57; clear hA56
    refine sx_no (j := 10) (s := 16) (want := false) (b := true) hA57 rfl ?_
    intro a58 hA58; clear hA57
    refine sx_val hA58 rfl (ev_pickT (hA58.ev (i := 16) (v := .bool true)) (ec _ (.bool true)) _ rfl) ?_
    intro a59 hA59; clear hA58
    refine sx_nil ?_
    refine then_n ?_
    refine wp_cond_true (hA59.ev (i := 19) (v := .bool true)) ?_
    refine wp_seq ?_
    refine wp_region_lit ?_
    refine sx_val (v := .agg #[.slice none 0 0, .slice none 0 0, .int .i64 0]) hA59 rfl (bd0_Disk _ rfl) ?_
    intro a60 hA60; clear hA59
    refine sx_store hA60 rfl (.inl rfl) rfl (hA60.ev (i := 4) (v := .pointer (some ⟨B1, 0, none⟩))) (hA60.ev (i := 20) (v := .agg #[.slice none 0 0, .slice none 0 0, .int .i64 0])) hx1 (by kernel_rfl) rfl (dk_one _ _ _ _ _ _ _) ?_
    intro w61 hx61 hg61
    have hs61 := hg61.size
    refine sx_val hA60 rfl (ev_assign (ec _ (.int .i64 2)) _ rfl) ?_
    intro a62 hA62; clear hA60
    refine sx_nil ?_
    refine then_n ?_
    refine wp_ret ?_
    refine then_r ?_
    refine bodyPost_ret (rs_ct (v := .int .i64 2) Try.results23 hA62 (by kernel_rfl) (by kernel_rfl) hx61 Try.underlying25 rfl (by kernel_rfl)) hA62.2.1 ?_
    have E : nw s r = (Dk.nil, 2) := if_pos (by omega)
    rw [E]
    have hbel0_63 := Below.gN hbel0 hg1 hbel0.size
    have hbel0_64 := Below.gB hbel0_63 hg61 hbel0_63.size (by omega)
    exact ⟨none, 0, none, 0, rfl, OwC.nil _ _, OwJ.nil _ _, hbel0_64⟩
  have hp8 := of_decide_eq_false hd8
  refine sx_val (hg := (.inr ⟨2, false, 8, rfl, rfl, by kernel_rfl⟩)) (v := .bool false) hA7 rfl (ev_gtrB (k := .i64) (m := s) (n := 256) (hA7.ev (i := 9)) (ec _ (.int .i64 256)) hd8 _ rfl) ?_
  intro a9 hA9; clear hA7
  refine sx_val hA9 rfl (ev_pickF (hA9.ev (i := 8) (v := .bool false)) (hA9.ev (i := 10) (v := .bool false)) _ rfl) ?_
  intro a10 hA10; clear hA9
  refine sx_val hA10 rfl (ev_move (hA10.ev (i := 11) (v := .bool false)) _ rfl) ?_
  intro a11 hA11; clear hA10
  refine sx_val (hg := (.inr ⟨6, false, 12, rfl, rfl, by kernel_rfl⟩)) hA11 rfl (ev_move (hA11.ev (i := 1) (v := .int .i64 r)) _ rfl) ?_
  intro a12 hA12; clear hA11
  cases hd13 : decide (r < 1)
  rotate_left
  · have hp13 := of_decide_eq_true hd13
    refine sx_val (hg := (.inr ⟨6, false, 12, rfl, rfl, by kernel_rfl⟩)) (v := .bool true) hA12 rfl (ev_lssB (k := .i64) (m := r) (n := 1) (hA12.ev (i := 13)) (ec _ (.int .i64 1)) hd13 _ rfl) ?_
    intro a39 hA39; clear hA12
    refine sx_val hA39 rfl (ev_pickF (hA39.ev (i := 12) (v := .bool false)) (hA39.ev (i := 14) (v := .bool true)) _ rfl) ?_
    intro a40 hA40; clear hA39
    refine sx_val hA40 rfl (ev_move (hA40.ev (i := 15) (v := .bool true)) _ rfl) ?_
    intro a41 hA41; clear hA40
    refine sx_no (j := 10) (s := 16) (want := false) (b := true) hA41 rfl ?_
    intro a42 hA42; clear hA41
    refine sx_no (j := 10) (s := 16) (want := false) (b := true) hA42 rfl ?_
    intro a43 hA43; clear hA42
    refine sx_val hA43 rfl (ev_pickT (hA43.ev (i := 16) (v := .bool true)) (ec _ (.bool true)) _ rfl) ?_
    intro a44 hA44; clear hA43
    refine sx_nil ?_
    refine then_n ?_
    refine wp_cond_true (hA44.ev (i := 19) (v := .bool true)) ?_
    refine wp_seq ?_
    refine wp_region_lit ?_
    refine sx_val (v := .agg #[.slice none 0 0, .slice none 0 0, .int .i64 0]) hA44 rfl (bd0_Disk _ rfl) ?_
    intro a45 hA45; clear hA44
    refine sx_store hA45 rfl (.inl rfl) rfl (hA45.ev (i := 4) (v := .pointer (some ⟨B1, 0, none⟩))) (hA45.ev (i := 20) (v := .agg #[.slice none 0 0, .slice none 0 0, .int .i64 0])) hx1 (by kernel_rfl) rfl (dk_one _ _ _ _ _ _ _) ?_
    intro w46 hx46 hg46
    have hs46 := hg46.size
    refine sx_val hA45 rfl (ev_assign (ec _ (.int .i64 2)) _ rfl) ?_
    intro a47 hA47; clear hA45
    refine sx_nil ?_
    refine then_n ?_
    refine wp_ret ?_
    refine then_r ?_
    refine bodyPost_ret (rs_ct (v := .int .i64 2) Try.results23 hA47 (by kernel_rfl) (by kernel_rfl) hx46 Try.underlying25 rfl (by kernel_rfl)) hA47.2.1 ?_
    have E : nw s r = (Dk.nil, 2) := if_pos (by omega)
    rw [E]
    have hbel0_48 := Below.gN hbel0 hg1 hbel0.size
    have hbel0_49 := Below.gB hbel0_48 hg46 hbel0_48.size (by omega)
    exact ⟨none, 0, none, 0, rfl, OwC.nil _ _, OwJ.nil _ _, hbel0_49⟩
  have hp13 := of_decide_eq_false hd13
  refine sx_val (hg := (.inr ⟨6, false, 12, rfl, rfl, by kernel_rfl⟩)) (v := .bool false) hA12 rfl (ev_lssB (k := .i64) (m := r) (n := 1) (hA12.ev (i := 13)) (ec _ (.int .i64 1)) hd13 _ rfl) ?_
  intro a14 hA14; clear hA12
  refine sx_val hA14 rfl (ev_pickF (hA14.ev (i := 12) (v := .bool false)) (hA14.ev (i := 14) (v := .bool false)) _ rfl) ?_
  intro a15 hA15; clear hA14
  refine sx_val hA15 rfl (ev_move (hA15.ev (i := 15) (v := .bool false)) _ rfl) ?_
  intro a16 hA16; clear hA15
  refine sx_val (hg := (.inr ⟨10, false, 16, rfl, rfl, by kernel_rfl⟩)) hA16 rfl (ev_move (hA16.ev (i := 1) (v := .int .i64 r)) _ rfl) ?_
  intro a17 hA17; clear hA16
  cases hd18 : decide (32 < r)
  rotate_left
  · have hp18 := of_decide_eq_true hd18
    refine sx_val (hg := (.inr ⟨10, false, 16, rfl, rfl, by kernel_rfl⟩)) (v := .bool true) hA17 rfl (ev_gtrB (k := .i64) (m := r) (n := 32) (hA17.ev (i := 17)) (ec _ (.int .i64 32)) hd18 _ rfl) ?_
    intro a32 hA32; clear hA17
    refine sx_val hA32 rfl (ev_pickF (hA32.ev (i := 16) (v := .bool false)) (hA32.ev (i := 18) (v := .bool true)) _ rfl) ?_
    intro a33 hA33; clear hA32
    refine sx_nil ?_
    refine then_n ?_
    refine wp_cond_true (hA33.ev (i := 19) (v := .bool true)) ?_
    refine wp_seq ?_
    refine wp_region_lit ?_
    refine sx_val (v := .agg #[.slice none 0 0, .slice none 0 0, .int .i64 0]) hA33 rfl (bd0_Disk _ rfl) ?_
    intro a34 hA34; clear hA33
    refine sx_store hA34 rfl (.inl rfl) rfl (hA34.ev (i := 4) (v := .pointer (some ⟨B1, 0, none⟩))) (hA34.ev (i := 20) (v := .agg #[.slice none 0 0, .slice none 0 0, .int .i64 0])) hx1 (by kernel_rfl) rfl (dk_one _ _ _ _ _ _ _) ?_
    intro w35 hx35 hg35
    have hs35 := hg35.size
    refine sx_val hA34 rfl (ev_assign (ec _ (.int .i64 2)) _ rfl) ?_
    intro a36 hA36; clear hA34
    refine sx_nil ?_
    refine then_n ?_
    refine wp_ret ?_
    refine then_r ?_
    refine bodyPost_ret (rs_ct (v := .int .i64 2) Try.results23 hA36 (by kernel_rfl) (by kernel_rfl) hx35 Try.underlying25 rfl (by kernel_rfl)) hA36.2.1 ?_
    have E : nw s r = (Dk.nil, 2) := if_pos (by omega)
    rw [E]
    have hbel0_37 := Below.gN hbel0 hg1 hbel0.size
    have hbel0_38 := Below.gB hbel0_37 hg35 hbel0_37.size (by omega)
    exact ⟨none, 0, none, 0, rfl, OwC.nil _ _, OwJ.nil _ _, hbel0_38⟩
  have hp18 := of_decide_eq_false hd18
  refine sx_val (hg := (.inr ⟨10, false, 16, rfl, rfl, by kernel_rfl⟩)) (v := .bool false) hA17 rfl (ev_gtrB (k := .i64) (m := r) (n := 32) (hA17.ev (i := 17)) (ec _ (.int .i64 32)) hd18 _ rfl) ?_
  intro a19 hA19; clear hA17
  refine sx_val hA19 rfl (ev_pickF (hA19.ev (i := 16) (v := .bool false)) (hA19.ev (i := 18) (v := .bool false)) _ rfl) ?_
  intro a20 hA20; clear hA19
  refine sx_nil ?_
  refine then_n ?_
  refine wp_cond_false (hA20.ev (i := 19) (v := .bool false)) ?_
  refine wp_skip ?_
  refine then_n ?_
  refine wp_seq ?_
  refine wp_region_lit ?_
  refine sx_val hA20 rfl (ev_move (hA20.ev (i := 0) (v := .int .i64 s)) _ rfl) ?_
  intro a21 hA21; clear hA20
  refine sx_make (va := Ct.va) (x0 := Ct.zero) (n := s.toNat) (z := .agg Ct.zero.va) (size := 8) (bytes := 64) hA21 rfl (by decide) (.inl rfl) rfl (hA21.ev (i := 21) (v := .int .i64 s)) (hA21.ev (i := 21) (v := .int .i64 s)) (by omega) (by omega) Try.underlying22 (by kernel_rfl) rfl ct_sz (by decide) (by omega) (by omega) ?_
  intro A22 w22 a22 ho22 hg22 hA22
  clear hA21
  have hs22 := hg22.size
  have hh22 := Own.hi ho22
  refine sx_val hA22 rfl (ev_move (hA22.ev (i := 1) (v := .int .i64 r)) _ rfl) ?_
  intro a23 hA23; clear hA22
  refine sx_val (v := .agg #[.slice A22 (List.replicate s.toNat Ct.zero).length s.toNat, .slice none 0 0, .int .i64 r]) hA23 rfl (bd_Disk_0_2 (hA23.ev (i := 22) (v := .slice A22 (List.replicate s.toNat Ct.zero).length s.toNat)) (hA23.ev (i := 23) (v := .int .i64 r)) _ rfl) ?_
  intro a24 hA24; clear hA23
  have hx1_26 := hx1.gN hg22
  refine sx_store hA24 rfl (.inl rfl) rfl (hA24.ev (i := 4) (v := .pointer (some ⟨B1, 0, none⟩))) (hA24.ev (i := 24) (v := .agg #[.slice A22 (List.replicate s.toNat Ct.zero).length s.toNat, .slice none 0 0, .int .i64 r])) hx1_26 (by kernel_rfl) rfl (dk_one _ _ _ _ _ _ _) ?_
  intro w25 hx25 hg25
  have hs25 := hg25.size
  refine sx_val hA24 rfl (ev_assign (ec _ (.int .i64 0)) _ rfl) ?_
  intro a27 hA27; clear hA24
  refine sx_nil ?_
  refine then_n ?_
  refine wp_ret ?_
  refine bodyPost_ret (rs_ct (v := .int .i64 0) Try.results23 hA27 (by kernel_rfl) (by kernel_rfl) hx25 Try.underlying25 rfl (by kernel_rfl)) hA27.2.1 ?_
  have E : nw s r = (⟨List.replicate s.toNat Ct.zero, [], r⟩, 0) := if_neg (by omega)
  rw [E]
  have ho22_28 := Own.gBT ho22 hg25 hx1_26 (by decide)
  have hbel0_29 := Below.gN hbel0 hg1 hbel0.size
  have hbel0_30 := Below.gN hbel0_29 hg22 hbel0_29.size
  have hbel0_31 := Below.gB hbel0_30 hg25 hbel0_30.size (by omega)
  exact ⟨_, _, none, 0, rfl, ⟨rfl, Own.mono ho22_28 (by omega)⟩, OwJ.nil _ _, hbel0_31⟩
end Go.Proofs.Ytbkdimildnahaaa
