/- The reference of disk: Find, Later. -/
import Derived.Test.YtbkdimildnahaaaDS
namespace Go.Proofs.Ytbkdimildnahaaa
open Go.RowKit
set_option linter.unusedVariables false
set_option maxRecDepth 100000

/-- None of the first m jobs has this slot. -/
def NoS (js : List Jb) (m : Nat) (s : Int) : Prop := ∀ (k : Nat) (y : Jb), k < m → js[k]? = some y → y.slot ≠ s
theorem NoS.zero (js : List Jb) (s : Int) : NoS js 0 s := fun k y hk => by omega
theorem NoS.succ {js : List Jb} {m : Nat} {s : Int} {y : Jb} (h : NoS js m s) (hy : js[m]? = some y) (hs : y.slot ≠ s) : NoS js (m + 1) s := by
  intro k z hk hz
  by_cases e : k = m
  · subst e; rw [hy] at hz; injection hz with hz; subst hz; exact hs
  · exact h k z (by omega) hz
theorem fd_some {js : List Jb} {m : Nat} {s : Int} {y : Jb} (h : NoS js m s) (hy : js[m]? = some y) (hs : y.slot = s) : fdJ js s = some m := by
  have hl := (List.getElem?_eq_some_iff.1 hy).1
  unfold fdJ
  rw [List.findIdx?_eq_some_iff_getElem]
  refine ⟨hl, ?_, ?_⟩
  · have := (List.getElem?_eq_some_iff.1 hy).2
    rw [this]; simp [hs]
  · intro j hj hp
    have hjl : j < js.length := by omega
    exact h j js[j] hj (List.getElem?_eq_getElem hjl) (by simpa using hp)
theorem fd_none {js : List Jb} {m : Nat} {s : Int} (h : NoS js m s) (hm : js.length ≤ m) : fdJ js s = none := by
  unfold fdJ
  rw [List.findIdx?_eq_none_iff]
  intro y hy
  obtain ⟨k, hk, rfl⟩ := List.getElem_of_mem hy
  have := h k js[k] (by omega) (List.getElem?_eq_getElem hk)
  simpa using this
/-- What a slot will contain after the first m jobs. -/
def ltm (c : Ct) (js : List Jb) (s : Int) : Nat → Ct
  | 0 => c
  | m + 1 => match js[m]? with
    | none => ltm c js s m
    | some y => if y.wr = true ∧ y.slot = s then y.data else ltm c js s m
theorem ltm_succ {c : Ct} {js : List Jb} {s : Int} {m : Nat} {y : Jb} (h : js[m]? = some y) : ltm c js s (m + 1) = if y.wr = true ∧ y.slot = s then y.data else ltm c js s m := by
  show (match js[m]? with | none => _ | some y => _) = _
  rw [h]
theorem ltm_no {c : Ct} {js : List Jb} {s : Int} : ∀ m, NoS js m s → ltm c js s m = c
  | 0, _ => rfl
  | m + 1, h => by
    have ih := ltm_no (c := c) m (fun k y hk hy => h k y (by omega) hy)
    cases hy : js[m]? with
    | none => show (match js[m]? with | none => _ | some y => _) = _; rw [hy]; exact ih
    | some y => rw [ltm_succ hy, if_neg (fun e => h m y (by omega) hy e.2), ih]
theorem ltm_at {d : Dk} (hok : OkD d) {c : Ct} {s : Int} {k : Nat} {x : Jb} (hk : d.js[k]? = some x) (hs : x.slot = s) : ∀ m, k < m → ltm c d.js s m = if x.wr = true then x.data else c
  | 0, h => by omega
  | m + 1, h => by
    by_cases e : k = m
    · subst e
      rw [ltm_succ hk]
      have : NoS d.js k s := by
        intro j y hj hy e
        have hc := hok.apart k x hk
        rw [clash_hit hy hj (by simp [hits, e, hs])] at hc
        cases hc
      rw [ltm_no k this]
      simp [hs]
    · have ih := ltm_at hok (c := c) hk hs m (by omega)
      cases hy : d.js[m]? with
      | none => show (match d.js[m]? with | none => _ | some y => _) = _; rw [hy]; exact ih
      | some y =>
        have hne : y.slot ≠ s := by
          intro e2
          have hc := hok.apart m y hy
          rw [clash_hit hk (by omega) (by simp [hits, e2, hs])] at hc
          cases hc
        rw [ltm_succ hy, if_neg (fun e => hne e.2), ih]
theorem ltm_eq {d : Dk} (hok : OkD d) {s : Int} {c : Ct} (hc : d.cs[s.toNat]? = some c) {m : Nat} (hm : m = d.js.length) : ltm c d.js s m = ltc d s := by
  subst hm
  unfold ltc
  cases hf : fdJ d.js s with
  | none =>
    have : NoS d.js d.js.length s := by
      intro k y hk hy e
      unfold fdJ at hf
      rw [List.findIdx?_eq_none_iff] at hf
      have := hf y (List.mem_of_getElem? hy)
      simp [e] at this
    simp only [ltm_no _ this, hc, Option.getD_some]
  | some k =>
    unfold fdJ at hf
    rw [List.findIdx?_eq_some_iff_getElem] at hf
    obtain ⟨hk, hp, _⟩ := hf
    have hx : d.js[k]? = some d.js[k] := List.getElem?_eq_getElem hk
    simp only [hx, hc, Option.getD_some]
    exact ltm_at hok hx (by simpa using hp) _ hk

set_option maxHeartbeats 4000000 in
theorem sFind_any (A1 : Option Addr) (c1 : Nat) (A2 : Option Addr) (c2 : Nat) (cs : List Ct) (js : List Jb) (room : Int) (s : Int) (w : World) (hd : GD w A1 c1 A2 c2 cs js) (hl : cs.length ≤ 900000) (hj : js.length ≤ 900000) : Calls Try.prog 27 #[.agg #[.slice A1 cs.length c1, .slice A2 js.length c2, .int .i64 room], .int .i64 s] w (RetB w (.returned (.tuple #[.int .i64 (fnd ⟨cs, js, room⟩ s).1, .int .i64 (fnd ⟨cs, js, room⟩ s).2]))) := by
  have hbel0 := below0 w
  refine sx_enter (N := 37) [(0, .agg #[.slice A1 cs.length c1, .slice A2 js.length c2, .int .i64 room]), (1, .int .i64 s)] Try.func27 rfl Try.ntmps27 (by simp) (fun a z d s => (((Ag.nil z d).cons (s 1 _ rfl)).cons (s 0 _ rfl))) ?_
  intro a0 hA0
  refine wp_seq ?_
  refine wp_region_lit ?_
  refine sx_new (cs := #[.slice A1 cs.length c1, .slice A2 js.length c2, .int .i64 room]) (t := 25) hA0 rfl (by decide) (.inl rfl) (ev_box (hA0.ev (i := 0) (v := .agg #[.slice A1 cs.length c1, .slice A2 js.length c2, .int .i64 room])) rfl _ rfl) ?_
  intro B1 w1 a1 hB1 hx1 hg1 hA1
  clear hA0
  have hs1 := hg1.size
  have hl1 := hx1.lt
  refine sx_val hA1 rfl (ev_assign (ec _ (.int .i64 0)) _ rfl) ?_
  intro a2 hA2; clear hA1
  refine sx_val hA2 rfl (ev_assign (ec _ (.int .i64 0)) _ rfl) ?_
  intro a3 hA3; clear hA2
  refine sx_nil ?_
  refine then_n ?_
  refine wp_seq ?_
  refine wp_region_lit ?_
  refine sx_val (v := .agg #[.slice A1 cs.length c1, .slice A2 js.length c2, .int .i64 room]) hA3 rfl (ev_row (hA3.ev (i := 2) (v := .pointer (some ⟨B1, 0, none⟩))) hx1 Try.underlying25 rfl (n := 3) (by kernel_rfl) rfl _ rfl) ?_
  intro a4 hA4; clear hA3
  have hbel0_6 := Below.gN hbel0 hg1 hbel0.size
  refine sx_call (f := 25) (args := #[.agg #[.slice A1 cs.length c1, .slice A2 js.length c2, .int .i64 room]]) hA4 rfl (by decide) (.inl rfl) (ev_fn rfl (mp1 (hA4.ev (i := 10) (v := .agg #[.slice A1 cs.length c1, .slice A2 js.length c2, .int .i64 room]))) (by kernel_rfl) _ rfl) (sCheck_any A1 c1 A2 c2 cs js room _ ⟨(hd.s.below hbel0_6), (hd.j.below hbel0_6)⟩ (by omega)) ?_
  intro e5 w5 hR5
  obtain ⟨rfl, hb5⟩ := hR5
  refine ⟨_, rfl, ?_⟩
  intro a5 hA5
  clear hA4
  have hg5 := g0 hb5
  have hs5 := hg5.size
  clear hb5
  refine sx_val hA5 rfl (ev_move (hA5.ev (i := 11) (v := .tuple #[.int .i64 (chk ⟨cs, js, room⟩).1, .int .i64 (chk ⟨cs, js, room⟩).2])) _ rfl) ?_
  intro a7 hA7; clear hA5
  refine sx_val (v := .int .i64 (chk ⟨cs, js, room⟩).1) hA7 rfl (ev_ext (hA7.ev (i := 9) (v := .tuple #[.int .i64 (chk ⟨cs, js, room⟩).1, .int .i64 (chk ⟨cs, js, room⟩).2])) rfl _ rfl) ?_
  intro a8 hA8; clear hA7
  refine sx_val (v := .int .i64 (chk ⟨cs, js, room⟩).2) hA8 rfl (ev_ext (hA8.ev (i := 9) (v := .tuple #[.int .i64 (chk ⟨cs, js, room⟩).1, .int .i64 (chk ⟨cs, js, room⟩).2])) rfl _ rfl) ?_
  intro a9 hA9; clear hA8
  refine sx_val hA9 rfl (ev_assign (hA9.ev (i := 12) (v := .int .i64 (chk ⟨cs, js, room⟩).1)) _ rfl) ?_
  intro a10 hA10; clear hA9
  refine sx_val hA10 rfl (ev_assign (hA10.ev (i := 13) (v := .int .i64 (chk ⟨cs, js, room⟩).2)) _ rfl) ?_
  intro a11 hA11; clear hA10
  refine sx_nil ?_
  refine then_n ?_
  refine wp_seq ?_
  refine wp_seq ?_
  refine wp_region_lit ?_
  refine sx_val hA11 rfl (ev_move (hA11.ev (i := 6) (v := .int .i64 (chk ⟨cs, js, room⟩).1)) _ rfl) ?_
  intro a12 hA12; clear hA11
  cases hd13 : decide ((chk ⟨cs, js, room⟩).1 = 0)
  · have hp13 := of_decide_eq_false hd13
    refine sx_val (v := .bool true) hA12 rfl (ev_neqB (k := .i64) (m := (chk ⟨cs, js, room⟩).1) (n := 0) (hA12.ev (i := 14)) (ec _ (.int .i64 0)) (by simpa using hd13) _ rfl) ?_
    intro a14 hA14; clear hA12
    refine sx_nil ?_
    refine then_n ?_
    refine wp_cond_true (hA14.ev (i := 15) (v := .bool true)) ?_
    refine wp_seq ?_
    refine wp_region_lit ?_
    refine sx_val hA14 rfl (ev_move (hA14.ev (i := 6) (v := .int .i64 (chk ⟨cs, js, room⟩).1)) _ rfl) ?_
    intro a15 hA15; clear hA14
    refine sx_val hA15 rfl (ev_assign (ec _ (.int .i64 0)) _ rfl) ?_
    intro a16 hA16; clear hA15
    refine sx_val hA16 rfl (ev_assign (hA16.ev (i := 16) (v := .int .i64 (chk ⟨cs, js, room⟩).1)) _ rfl) ?_
    intro a17 hA17; clear hA16
    refine sx_nil ?_
    refine then_n ?_
    refine wp_ret ?_
    refine then_r ?_
    refine bodyPost_ret (rs_tt (v := .int .i64 0) (v2 := .int .i64 (chk ⟨cs, js, room⟩).1) Try.results27 hA17 (by kernel_rfl) (by kernel_rfl) ) hA17.2.1 ?_
    have hbel0_18 := Below.gN hbel0_6 hg5 hbel0_6.size
    have E : fnd ⟨cs, js, room⟩ s = (0, (chk ⟨cs, js, room⟩).1) := by
      unfold fnd
      exact if_neg hp13
    exact ⟨ret2 (by rw [E]), hbel0_18⟩
  have hp13 := of_decide_eq_true hd13
  refine sx_val (v := .bool false) hA12 rfl (ev_neqB (k := .i64) (m := (chk ⟨cs, js, room⟩).1) (n := 0) (hA12.ev (i := 14)) (ec _ (.int .i64 0)) (by simpa using hd13) _ rfl) ?_
  intro a19 hA19; clear hA12
  refine sx_nil ?_
  refine then_n ?_
  refine wp_cond_false (hA19.ev (i := 15) (v := .bool false)) ?_
  refine wp_skip ?_
  refine then_n ?_
  refine wp_seq ?_
  refine wp_seq ?_
  refine wp_region_lit ?_
  have hx1_20 := hx1.gN hg5
  refine sx_val (v := .agg #[.slice A1 cs.length c1, .slice A2 js.length c2, .int .i64 room]) hA19 rfl (ev_row (hA19.ev (i := 2) (v := .pointer (some ⟨B1, 0, none⟩))) hx1_20 Try.underlying25 rfl (n := 3) (by kernel_rfl) rfl _ rfl) ?_
  intro a21 hA21; clear hA19
  refine sx_val hA21 rfl (ev_move (hA21.ev (i := 1) (v := .int .i64 s)) _ rfl) ?_
  intro a22 hA22; clear hA21
  cases hd24 : inS cs.length s
  · refine sx_call (f := 44) (args := #[.agg #[.slice A1 cs.length c1, .slice A2 js.length c2, .int .i64 room], .int .i64 s]) hA22 rfl (by decide) (.inl rfl) (ev_fn rfl (mp2 (hA22.ev (i := 17) (v := .agg #[.slice A1 cs.length c1, .slice A2 js.length c2, .int .i64 room])) (hA22.ev (i := 18) (v := .int .i64 s))) (by kernel_rfl) _ rfl) (slot_any A1 c1 A2 c2 cs js room s _) ?_
    intro e25 w25 hR25
    obtain ⟨he25, hb25⟩ := hR25
    rw [hd24] at he25
    subst he25
    refine ⟨_, rfl, ?_⟩
    intro a25 hA25
    clear hA22
    have hg25 := g0 hb25
    have hs25 := hg25.size
    clear hb25
    refine sx_val (v := .bool true) hA25 rfl (ev_notF (hA25.ev (i := 19) (v := .bool false)) _ rfl) ?_
    intro a26 hA26; clear hA25
    refine sx_nil ?_
    refine then_n ?_
    refine wp_cond_true (hA26.ev (i := 20) (v := .bool true)) ?_
    refine wp_seq ?_
    refine wp_region_lit ?_
    refine sx_val hA26 rfl (ev_assign (ec _ (.int .i64 0)) _ rfl) ?_
    intro a27 hA27; clear hA26
    refine sx_val hA27 rfl (ev_assign (ec _ (.int .i64 2)) _ rfl) ?_
    intro a28 hA28; clear hA27
    refine sx_nil ?_
    refine then_n ?_
    refine wp_ret ?_
    refine then_r ?_
    refine bodyPost_ret (rs_tt (v := .int .i64 0) (v2 := .int .i64 2) Try.results27 hA28 (by kernel_rfl) (by kernel_rfl) ) hA28.2.1 ?_
    have hbel0_29 := Below.gN hbel0_6 hg5 hbel0_6.size
    have hbel0_30 := Below.gN hbel0_29 hg25 hbel0_29.size
    have E : fnd ⟨cs, js, room⟩ s = (0, 2) := by
      unfold fnd
      rw [if_pos hp13, if_pos hd24]
    exact ⟨ret2 (by rw [E]), hbel0_30⟩
  refine sx_call (f := 44) (args := #[.agg #[.slice A1 cs.length c1, .slice A2 js.length c2, .int .i64 room], .int .i64 s]) hA22 rfl (by decide) (.inl rfl) (ev_fn rfl (mp2 (hA22.ev (i := 17) (v := .agg #[.slice A1 cs.length c1, .slice A2 js.length c2, .int .i64 room])) (hA22.ev (i := 18) (v := .int .i64 s))) (by kernel_rfl) _ rfl) (slot_any A1 c1 A2 c2 cs js room s _) ?_
  intro e31 w31 hR31
  obtain ⟨he31, hb31⟩ := hR31
  rw [hd24] at he31
  subst he31
  refine ⟨_, rfl, ?_⟩
  intro a31 hA31
  clear hA22
  have hg31 := g0 hb31
  have hs31 := hg31.size
  clear hb31
  refine sx_val (v := .bool false) hA31 rfl (ev_notT (hA31.ev (i := 19) (v := .bool true)) _ rfl) ?_
  intro a32 hA32; clear hA31
  refine sx_nil ?_
  refine then_n ?_
  refine wp_cond_false (hA32.ev (i := 20) (v := .bool false)) ?_
  refine wp_skip ?_
  refine then_n ?_
  refine wp_seq ?_
  refine wp_seq ?_
  refine wp_region_lit ?_
  refine sx_val hA32 rfl (ev_assign (ec _ (.int .i64 0)) _ rfl) ?_
  intro a33 hA33; clear hA32
  refine sx_nil ?_
  refine then_n ?_
  refine wp_block ?_
  have hx1_35 := hx1_20.gN hg31
  have hbel0_36 := Below.gN hbel0_6 hg5 hbel0_6.size
  have hbel0_37 := Below.gN hbel0_36 hg31 hbel0_36.size
  refine wp_loop_ghost (fun n a wl => ∃ (m : Nat), n = js.length - m ∧ Ag a 37 [(1, .int .i64 s), (2, .pointer (some ⟨B1, 0, none⟩)), (8, .int .i64 (m : Int))] ∧ m ≤ js.length ∧ NoS js m s ∧ Bx wl B1 25 #[.slice A1 cs.length c1, .slice A2 js.length c2, .int .i64 room] ∧ w31.heap.size ≤ wl.heap.size ∧ Below w.heap.size w wl) (js.length - 0) ⟨0, rfl, ((((Ag.nil hA33.1 hA33.2.1).cons (hA33.get (i := 8) (v := .int .i64 0))).cons (hA33.get (i := 2) (v := .pointer (some ⟨B1, 0, none⟩)))).cons (hA33.get (i := 1) (v := .int .i64 s))), Nat.zero_le _, NoS.zero _ _, hx1_35, Nat.le_refl _, hbel0_37⟩ ?_
  intro n34 a34 w34 hI34
  obtain ⟨m, hn34, hA34, q34_0, q34_1, f34_0, hsz34, hbel34⟩ := hI34
  subst hn34
  clear hA33
  have hlB1_34 := f34_0.lt
  cases hd38 : decide ((m : Int) < (js.length : Int))
  · have hp38 := of_decide_eq_false hd38
    refine wp_seq ?_
    refine wp_seq ?_
    refine wp_region_lit ?_
    refine sx_val hA34 rfl (ev_move (hA34.ev (i := 8) (v := .int .i64 (m : Int))) _ rfl) ?_
    intro a39 hA39; clear hA34
    refine sx_val (v := .pointer (some ⟨B1, 1, none⟩)) hA39 rfl (fb_Disk_1 (hA39.ev (i := 2) (v := .pointer (some ⟨B1, 0, none⟩))) _ rfl) ?_
    intro a40 hA40; clear hA39
    refine sx_val (v := .slice A2 js.length c2) hA40 rfl (ev_cell (v := .slice A2 js.length c2) (hA40.ev (i := 22) (v := .pointer (some ⟨B1, 1, none⟩))) ((f34_0.cell 1).trans rfl) Try.underlying23 rfl _ rfl) ?_
    intro a41 hA41; clear hA40
    refine sx_val (v := .int .i64 (js.length : Int)) hA41 rfl (ev_len (hA41.ev (i := 23) (v := .slice A2 js.length c2)) Try.underlying23 _ rfl) ?_
    intro a42 hA42; clear hA41
    refine sx_val (v := .bool false) hA42 rfl (ev_lssB (k := .i64) (m := (m : Int)) (n := (js.length : Int)) (hA42.ev (i := 21)) (hA42.ev (i := 24)) hd38 _ rfl) ?_
    intro a43 hA43; clear hA42
    refine sx_nil ?_
    refine then_n ?_
    refine wp_cond_false (hA43.ev (i := 25) (v := .bool false)) ?_
    refine wp_exit ?_
    refine then_x ?_
    refine then_x ?_
    refine blk_hit ?_
    refine then_n ?_
    refine wp_seq ?_
    refine wp_region_lit ?_
    refine sx_val hA43 rfl (ev_assign (ec _ (.int .i64 0)) _ rfl) ?_
    intro a44 hA44; clear hA43
    refine sx_val hA44 rfl (ev_assign (ec _ (.int .i64 6)) _ rfl) ?_
    intro a45 hA45; clear hA44
    refine sx_nil ?_
    refine then_n ?_
    refine wp_ret ?_
    refine bodyPost_ret (rs_tt (v := .int .i64 0) (v2 := .int .i64 6) Try.results27 hA45 (by kernel_rfl) (by kernel_rfl) ) hA45.2.1 ?_
    have E : fnd ⟨cs, js, room⟩ s = (0, 6) := by
      unfold fnd
      rw [if_pos hp13, if_neg (by rw [hd24]; decide), show fdJ js s = none from fd_none q34_1 (by omega)]
    exact ⟨ret2 (by rw [E]), hbel34⟩
  have hp38 := of_decide_eq_true hd38
  obtain ⟨y, hy⟩ : ∃ y, js[m]? = some y := ⟨_, List.getElem?_eq_getElem (by omega)⟩
  refine wp_seq ?_
  refine wp_seq ?_
  refine wp_region_lit ?_
  refine sx_val hA34 rfl (ev_move (hA34.ev (i := 8) (v := .int .i64 (m : Int))) _ rfl) ?_
  intro a46 hA46; clear hA34
  refine sx_val (v := .pointer (some ⟨B1, 1, none⟩)) hA46 rfl (fb_Disk_1 (hA46.ev (i := 2) (v := .pointer (some ⟨B1, 0, none⟩))) _ rfl) ?_
  intro a47 hA47; clear hA46
  refine sx_val (v := .slice A2 js.length c2) hA47 rfl (ev_cell (v := .slice A2 js.length c2) (hA47.ev (i := 22) (v := .pointer (some ⟨B1, 1, none⟩))) ((f34_0.cell 1).trans rfl) Try.underlying23 rfl _ rfl) ?_
  intro a48 hA48; clear hA47
  refine sx_val (v := .int .i64 (js.length : Int)) hA48 rfl (ev_len (hA48.ev (i := 23) (v := .slice A2 js.length c2)) Try.underlying23 _ rfl) ?_
  intro a49 hA49; clear hA48
  refine sx_val (v := .bool true) hA49 rfl (ev_lssB (k := .i64) (m := (m : Int)) (n := (js.length : Int)) (hA49.ev (i := 21)) (hA49.ev (i := 24)) hd38 _ rfl) ?_
  intro a50 hA50; clear hA49
  refine sx_nil ?_
  refine then_n ?_
  refine wp_cond_true (hA50.ev (i := 25) (v := .bool true)) ?_
  refine wp_skip ?_
  refine then_n ?_
  refine wp_seq ?_
  refine wp_block ?_
  refine wp_seq ?_
  refine wp_region_lit ?_
  refine sx_val (v := .pointer (some ⟨B1, 1, none⟩)) hA50 rfl (fb_Disk_1 (hA50.ev (i := 2) (v := .pointer (some ⟨B1, 0, none⟩))) _ rfl) ?_
  intro a51 hA51; clear hA50
  refine sx_val (v := .slice A2 js.length c2) hA51 rfl (ev_cell (v := .slice A2 js.length c2) (hA51.ev (i := 28) (v := .pointer (some ⟨B1, 1, none⟩))) ((f34_0.cell 1).trans rfl) Try.underlying23 rfl _ rfl) ?_
  intro a52 hA52; clear hA51
  refine sx_val hA52 rfl (ev_move (hA52.ev (i := 8) (v := .int .i64 (m : Int))) _ rfl) ?_
  intro a53 hA53; clear hA52
  obtain ⟨ad54, hAd54⟩ := GR.adr (hd.j.below hbel34) jb_sz hy
  refine sx_val (v := .pointer (some (ad54.add (m * 11)))) hA53 rfl (ev_idx (k := m) (hA53.ev (i := 29) (v := .slice A2 js.length c2)) hAd54 (hA53.ev (i := 30) (v := .int .i64 (m : Int))) rfl (by omega) Try.underlying23 (by kernel_rfl) _ rfl) ?_
  intro a55 hA55; clear hA53
  refine sx_val (v := .pointer (some ((ad54.add (m * 11)).add 1))) hA55 rfl (fa_Job_1 (hA55.ev (i := 31) (v := .pointer (some (ad54.add (m * 11))))) _ rfl) ?_
  intro a56 hA56; clear hA55
  refine sx_val (v := .int .i64 y.slot) hA56 rfl (ev_cell (hA56.ev (i := 32) (v := .pointer (some ((ad54.add (m * 11)).add 1)))) ((GR.cel (hd.j.below hbel34) hAd54 jb_sz hy) 1 _ rfl) Try.underlying3 rfl _ rfl) ?_
  intro a57 hA57; clear hA56
  refine sx_val hA57 rfl (ev_move (hA57.ev (i := 1) (v := .int .i64 s)) _ rfl) ?_
  intro a58 hA58; clear hA57
  cases hd59 : decide (y.slot = s)
  · have hp59 := of_decide_eq_false hd59
    refine sx_val (v := .bool false) hA58 rfl (ev_eqlB (k := .i64) (m := y.slot) (n := s) (hA58.ev (i := 33)) (hA58.ev (i := 34)) hd59 _ rfl) ?_
    intro a60 hA60; clear hA58
    refine sx_nil ?_
    refine then_n ?_
    refine wp_cond_false (hA60.ev (i := 35) (v := .bool false)) ?_
    refine wp_skip ?_
    refine blk_n ?_
    refine then_n ?_
    refine wp_region_lit ?_
    refine sx_val hA60 rfl (ev_move (hA60.ev (i := 8) (v := .int .i64 (m : Int))) _ rfl) ?_
    intro a61 hA61; clear hA60
    refine sx_val (v := .int .i64 ((m + 1 : Nat) : Int)) hA61 rfl (ev_addR (k := .i64) (m := (m : Int)) (n := 1) (r := ((m + 1 : Nat) : Int)) (hA61.ev (i := 26)) (ec _ (.int .i64 1)) (wr (by omega) (by omega) (by omega)) _ rfl) ?_
    intro a62 hA62; clear hA61
    refine sx_val hA62 rfl (ev_assign (hA62.ev (i := 27) (v := .int .i64 ((m + 1 : Nat) : Int))) _ rfl) ?_
    intro a63 hA63; clear hA62
    refine sx_nil ?_
    refine then_n ?_
    refine ⟨js.length - (m + 1), by omega, m + 1, rfl, ((((Ag.nil hA63.1 hA63.2.1).cons (hA63.get (i := 8) (v := .int .i64 ((m + 1 : Nat) : Int)))).cons (hA63.get (i := 2) (v := .pointer (some ⟨B1, 0, none⟩)))).cons (hA63.get (i := 1) (v := .int .i64 s))), by omega, NoS.succ q34_1 hy hp59, f34_0, by omega, hbel34⟩
  have hp59 := of_decide_eq_true hd59
  refine sx_val (v := .bool true) hA58 rfl (ev_eqlB (k := .i64) (m := y.slot) (n := s) (hA58.ev (i := 33)) (hA58.ev (i := 34)) hd59 _ rfl) ?_
  intro a64 hA64; clear hA58
  refine sx_nil ?_
  refine then_n ?_
  refine wp_cond_true (hA64.ev (i := 35) (v := .bool true)) ?_
  refine wp_seq ?_
  refine wp_region_lit ?_
  refine sx_val hA64 rfl (ev_move (hA64.ev (i := 8) (v := .int .i64 (m : Int))) _ rfl) ?_
  intro a65 hA65; clear hA64
  refine sx_val hA65 rfl (ev_assign (hA65.ev (i := 36) (v := .int .i64 (m : Int))) _ rfl) ?_
  intro a66 hA66; clear hA65
  refine sx_val hA66 rfl (ev_assign (ec _ (.int .i64 0)) _ rfl) ?_
  intro a67 hA67; clear hA66
  refine sx_nil ?_
  refine then_n ?_
  refine wp_ret ?_
  refine blk_r ?_
  refine then_r ?_
  refine then_r ?_
  refine blk_r ?_
  refine then_r ?_
  refine bodyPost_ret (rs_tt (v := .int .i64 (m : Int)) (v2 := .int .i64 0) Try.results27 hA67 (by kernel_rfl) (by kernel_rfl) ) hA67.2.1 ?_
  have E : fnd ⟨cs, js, room⟩ s = ((m : Int), 0) := by
    unfold fnd
    rw [if_pos hp13, if_neg (by rw [hd24]; decide), show fdJ js s = some m from fd_some q34_1 hy hp59]
  exact ⟨ret2 (by rw [E]), hbel34⟩

set_option maxHeartbeats 4000000 in
theorem sLater_any (A1 : Option Addr) (c1 : Nat) (A2 : Option Addr) (c2 : Nat) (cs : List Ct) (js : List Jb) (room : Int) (s : Int) (w : World) (hd : GD w A1 c1 A2 c2 cs js) (hl : cs.length ≤ 900000) (hj : js.length ≤ 900000) : Calls Try.prog 31 #[.agg #[.slice A1 cs.length c1, .slice A2 js.length c2, .int .i64 room], .int .i64 s] w (RetB w (.returned (.tuple #[.agg (lat ⟨cs, js, room⟩ s).1.va, .int .i64 (lat ⟨cs, js, room⟩ s).2]))) := by
  have hbel0 := below0 w
  refine sx_enter (N := 59) [(0, .agg #[.slice A1 cs.length c1, .slice A2 js.length c2, .int .i64 room]), (1, .int .i64 s)] Try.func31 rfl Try.ntmps31 (by simp) (fun a z d s => (((Ag.nil z d).cons (s 1 _ rfl)).cons (s 0 _ rfl))) ?_
  intro a0 hA0
  refine wp_seq ?_
  refine wp_region_lit ?_
  refine sx_new (cs := #[.slice A1 cs.length c1, .slice A2 js.length c2, .int .i64 room]) (t := 25) hA0 rfl (by decide) (.inl rfl) (ev_box (hA0.ev (i := 0) (v := .agg #[.slice A1 cs.length c1, .slice A2 js.length c2, .int .i64 room])) rfl _ rfl) ?_
  intro B1 w1 a1 hB1 hx1 hg1 hA1
  clear hA0
  have hs1 := hg1.size
  have hl1 := hx1.lt
  refine sx_new (cs := Ct.zero.va) (t := 28) hA1 rfl (by decide) (.inl rfl) (ev_alloc (z := .agg Ct.zero.va) (by kernel_rfl) (by kernel_rfl) _ rfl) ?_
  intro B2 w2 a2 hB2 hx2 hg2 hA2
  clear hA1
  have hs2 := hg2.size
  have hl2 := hx2.lt
  refine sx_val hA2 rfl (ev_assign (ec _ (.int .i64 0)) _ rfl) ?_
  intro a3 hA3; clear hA2
  refine sx_nil ?_
  refine then_n ?_
  refine wp_seq ?_
  refine wp_region_lit ?_
  have hx1_4 := hx1.gN hg2
  refine sx_val (v := .agg #[.slice A1 cs.length c1, .slice A2 js.length c2, .int .i64 room]) hA3 rfl (ev_row (hA3.ev (i := 2) (v := .pointer (some ⟨B1, 0, none⟩))) hx1_4 Try.underlying25 rfl (n := 3) (by kernel_rfl) rfl _ rfl) ?_
  intro a5 hA5; clear hA3
  have hbel0_7 := Below.gN hbel0 hg1 hbel0.size
  have hbel0_8 := Below.gN hbel0_7 hg2 hbel0_7.size
  refine sx_call (f := 25) (args := #[.agg #[.slice A1 cs.length c1, .slice A2 js.length c2, .int .i64 room]]) hA5 rfl (by decide) (.inl rfl) (ev_fn rfl (mp1 (hA5.ev (i := 11) (v := .agg #[.slice A1 cs.length c1, .slice A2 js.length c2, .int .i64 room]))) (by kernel_rfl) _ rfl) (sCheck_any A1 c1 A2 c2 cs js room _ ⟨(hd.s.below hbel0_8), (hd.j.below hbel0_8)⟩ (by omega)) ?_
  intro e6 w6 hR6
  obtain ⟨rfl, hb6⟩ := hR6
  refine ⟨_, rfl, ?_⟩
  intro a6 hA6
  clear hA5
  have hg6 := g0 hb6
  have hs6 := hg6.size
  clear hb6
  refine sx_val hA6 rfl (ev_move (hA6.ev (i := 12) (v := .tuple #[.int .i64 (chk ⟨cs, js, room⟩).1, .int .i64 (chk ⟨cs, js, room⟩).2])) _ rfl) ?_
  intro a9 hA9; clear hA6
  refine sx_val (v := .int .i64 (chk ⟨cs, js, room⟩).1) hA9 rfl (ev_ext (hA9.ev (i := 10) (v := .tuple #[.int .i64 (chk ⟨cs, js, room⟩).1, .int .i64 (chk ⟨cs, js, room⟩).2])) rfl _ rfl) ?_
  intro a10 hA10; clear hA9
  refine sx_val (v := .int .i64 (chk ⟨cs, js, room⟩).2) hA10 rfl (ev_ext (hA10.ev (i := 10) (v := .tuple #[.int .i64 (chk ⟨cs, js, room⟩).1, .int .i64 (chk ⟨cs, js, room⟩).2])) rfl _ rfl) ?_
  intro a11 hA11; clear hA10
  refine sx_val hA11 rfl (ev_assign (hA11.ev (i := 13) (v := .int .i64 (chk ⟨cs, js, room⟩).1)) _ rfl) ?_
  intro a12 hA12; clear hA11
  refine sx_val hA12 rfl (ev_assign (hA12.ev (i := 14) (v := .int .i64 (chk ⟨cs, js, room⟩).2)) _ rfl) ?_
  intro a13 hA13; clear hA12
  refine sx_nil ?_
  refine then_n ?_
  refine wp_seq ?_
  refine wp_seq ?_
  refine wp_region_lit ?_
  refine sx_val hA13 rfl (ev_move (hA13.ev (i := 6) (v := .int .i64 (chk ⟨cs, js, room⟩).1)) _ rfl) ?_
  intro a14 hA14; clear hA13
  cases hd15 : decide ((chk ⟨cs, js, room⟩).1 = 0)
  · have hp15 := of_decide_eq_false hd15
    refine sx_val (v := .bool true) hA14 rfl (ev_neqB (k := .i64) (m := (chk ⟨cs, js, room⟩).1) (n := 0) (hA14.ev (i := 15)) (ec _ (.int .i64 0)) (by simpa using hd15) _ rfl) ?_
    intro a16 hA16; clear hA14
    refine sx_nil ?_
    refine then_n ?_
    refine wp_cond_true (hA16.ev (i := 16) (v := .bool true)) ?_
    refine wp_seq ?_
    refine wp_region_lit ?_
    refine sx_val (v := .agg Ct.zero.va) hA16 rfl (bd0_Content _ rfl) ?_
    intro a17 hA17; clear hA16
    refine sx_val hA17 rfl (ev_move (hA17.ev (i := 6) (v := .int .i64 (chk ⟨cs, js, room⟩).1)) _ rfl) ?_
    intro a18 hA18; clear hA17
    have hx2_20 := hx2.gN hg6
    refine sx_store hA18 rfl (.inl rfl) rfl (hA18.ev (i := 4) (v := .pointer (some ⟨B2, 0, none⟩))) (hA18.ev (i := 17) (v := .agg Ct.zero.va)) hx2_20 (by kernel_rfl) rfl (ct_one _) ?_
    intro w19 hx19 hg19
    have hs19 := hg19.size
    refine sx_val hA18 rfl (ev_assign (hA18.ev (i := 18) (v := .int .i64 (chk ⟨cs, js, room⟩).1)) _ rfl) ?_
    intro a21 hA21; clear hA18
    refine sx_nil ?_
    refine then_n ?_
    refine wp_ret ?_
    refine then_r ?_
    refine bodyPost_ret (rs_ct (v := .int .i64 (chk ⟨cs, js, room⟩).1) Try.results31 hA21 (by kernel_rfl) (by kernel_rfl) hx19 Try.underlying28 rfl (by kernel_rfl)) hA21.2.1 ?_
    have hbel0_22 := Below.gN hbel0_8 hg6 hbel0_8.size
    have hbel0_23 := Below.gB hbel0_22 hg19 hbel0_22.size (by omega)
    have E : lat ⟨cs, js, room⟩ s = (Ct.zero, (chk ⟨cs, js, room⟩).1) := by
      unfold lat
      exact if_neg hp15
    exact ⟨by rw [E], hbel0_23⟩
  have hp15 := of_decide_eq_true hd15
  refine sx_val (v := .bool false) hA14 rfl (ev_neqB (k := .i64) (m := (chk ⟨cs, js, room⟩).1) (n := 0) (hA14.ev (i := 15)) (ec _ (.int .i64 0)) (by simpa using hd15) _ rfl) ?_
  intro a24 hA24; clear hA14
  refine sx_nil ?_
  refine then_n ?_
  refine wp_cond_false (hA24.ev (i := 16) (v := .bool false)) ?_
  refine wp_skip ?_
  refine then_n ?_
  refine wp_seq ?_
  refine wp_seq ?_
  refine wp_region_lit ?_
  have hx1_25 := hx1_4.gN hg6
  refine sx_val (v := .agg #[.slice A1 cs.length c1, .slice A2 js.length c2, .int .i64 room]) hA24 rfl (ev_row (hA24.ev (i := 2) (v := .pointer (some ⟨B1, 0, none⟩))) hx1_25 Try.underlying25 rfl (n := 3) (by kernel_rfl) rfl _ rfl) ?_
  intro a26 hA26; clear hA24
  refine sx_val hA26 rfl (ev_move (hA26.ev (i := 1) (v := .int .i64 s)) _ rfl) ?_
  intro a27 hA27; clear hA26
  cases hd29 : inS cs.length s
  · refine sx_call (f := 44) (args := #[.agg #[.slice A1 cs.length c1, .slice A2 js.length c2, .int .i64 room], .int .i64 s]) hA27 rfl (by decide) (.inl rfl) (ev_fn rfl (mp2 (hA27.ev (i := 19) (v := .agg #[.slice A1 cs.length c1, .slice A2 js.length c2, .int .i64 room])) (hA27.ev (i := 20) (v := .int .i64 s))) (by kernel_rfl) _ rfl) (slot_any A1 c1 A2 c2 cs js room s _) ?_
    intro e30 w30 hR30
    obtain ⟨he30, hb30⟩ := hR30
    rw [hd29] at he30
    subst he30
    refine ⟨_, rfl, ?_⟩
    intro a30 hA30
    clear hA27
    have hg30 := g0 hb30
    have hs30 := hg30.size
    clear hb30
    refine sx_val (v := .bool true) hA30 rfl (ev_notF (hA30.ev (i := 21) (v := .bool false)) _ rfl) ?_
    intro a31 hA31; clear hA30
    refine sx_nil ?_
    refine then_n ?_
    refine wp_cond_true (hA31.ev (i := 22) (v := .bool true)) ?_
    refine wp_seq ?_
    refine wp_region_lit ?_
    refine sx_val (v := .agg Ct.zero.va) hA31 rfl (bd0_Content _ rfl) ?_
    intro a32 hA32; clear hA31
    have hx2_34 := hx2.gN hg6
    have hx2_35 := hx2_34.gN hg30
    refine sx_store hA32 rfl (.inl rfl) rfl (hA32.ev (i := 4) (v := .pointer (some ⟨B2, 0, none⟩))) (hA32.ev (i := 23) (v := .agg Ct.zero.va)) hx2_35 (by kernel_rfl) rfl (ct_one _) ?_
    intro w33 hx33 hg33
    have hs33 := hg33.size
    refine sx_val hA32 rfl (ev_assign (ec _ (.int .i64 2)) _ rfl) ?_
    intro a36 hA36; clear hA32
    refine sx_nil ?_
    refine then_n ?_
    refine wp_ret ?_
    refine then_r ?_
    refine bodyPost_ret (rs_ct (v := .int .i64 2) Try.results31 hA36 (by kernel_rfl) (by kernel_rfl) hx33 Try.underlying28 rfl (by kernel_rfl)) hA36.2.1 ?_
    have hbel0_37 := Below.gN hbel0_8 hg6 hbel0_8.size
    have hbel0_38 := Below.gN hbel0_37 hg30 hbel0_37.size
    have hbel0_39 := Below.gB hbel0_38 hg33 hbel0_38.size (by omega)
    have E : lat ⟨cs, js, room⟩ s = (Ct.zero, 2) := by
      unfold lat
      rw [if_pos hp15, if_pos hd29]
    exact ⟨by rw [E], hbel0_39⟩
  refine sx_call (f := 44) (args := #[.agg #[.slice A1 cs.length c1, .slice A2 js.length c2, .int .i64 room], .int .i64 s]) hA27 rfl (by decide) (.inl rfl) (ev_fn rfl (mp2 (hA27.ev (i := 19) (v := .agg #[.slice A1 cs.length c1, .slice A2 js.length c2, .int .i64 room])) (hA27.ev (i := 20) (v := .int .i64 s))) (by kernel_rfl) _ rfl) (slot_any A1 c1 A2 c2 cs js room s _) ?_
  intro e40 w40 hR40
  obtain ⟨he40, hb40⟩ := hR40
  rw [hd29] at he40
  subst he40
  refine ⟨_, rfl, ?_⟩
  intro a40 hA40
  clear hA27
  have hg40 := g0 hb40
  have hs40 := hg40.size
  clear hb40
  refine sx_val (v := .bool false) hA40 rfl (ev_notT (hA40.ev (i := 21) (v := .bool true)) _ rfl) ?_
  intro a41 hA41; clear hA40
  refine sx_nil ?_
  refine then_n ?_
  refine wp_cond_false (hA41.ev (i := 22) (v := .bool false)) ?_
  refine wp_skip ?_
  refine then_n ?_
  refine wp_seq ?_
  refine wp_region_lit ?_
  refine sx_val (v := .pointer (some ⟨B1, 0, none⟩)) hA41 rfl (fb_Disk_0 (hA41.ev (i := 2) (v := .pointer (some ⟨B1, 0, none⟩))) _ rfl) ?_
  intro a42 hA42; clear hA41
  have hx1_43 := hx1_25.gN hg40
  refine sx_val (v := .slice A1 cs.length c1) hA42 rfl (ev_cell (v := .slice A1 cs.length c1) (hA42.ev (i := 24) (v := .pointer (some ⟨B1, 0, none⟩))) ((hx1_43.cell 0).trans rfl) Try.underlying22 rfl _ rfl) ?_
  intro a44 hA44; clear hA42
  refine sx_val hA44 rfl (ev_move (hA44.ev (i := 1) (v := .int .i64 s)) _ rfl) ?_
  intro a45 hA45; clear hA44
  have hin : 0 ≤ s ∧ s < (cs.length : Int) := by have := hd29; simp [inS] at this; exact this
  obtain ⟨c, hc⟩ : ∃ c, cs[s.toNat]? = some c := ⟨_, List.getElem?_eq_getElem (by omega)⟩
  have hbel0_47 := Below.gN hbel0_8 hg6 hbel0_8.size
  have hbel0_48 := Below.gN hbel0_47 hg40 hbel0_47.size
  obtain ⟨ad46, hAd46⟩ := GR.adr (hd.s.below hbel0_48) ct_sz hc
  refine sx_val (v := .pointer (some (ad46.add (s.toNat * 8)))) hA45 rfl (ev_idx (k := s.toNat) (hA45.ev (i := 25) (v := .slice A1 cs.length c1)) hAd46 (hA45.ev (i := 26) (v := .int .i64 s)) (by omega) (by omega) Try.underlying22 (by kernel_rfl) _ rfl) ?_
  intro a49 hA49; clear hA45
  refine sx_val (v := .agg c.va) hA49 rfl (ev_loadR (cs := c.va) (n := 8) (hA49.ev (i := 27) (v := .pointer (some (ad46.add (s.toNat * 8))))) (GR.cel (hd.s.below hbel0_48) hAd46 ct_sz hc) Try.underlying28 rfl (by kernel_rfl) rfl _ rfl) ?_
  intro a50 hA50; clear hA49
  refine sx_new (cs := Ct.zero.va) (t := 28) hA50 rfl (by decide) (.inl rfl) (ev_alloc (z := .agg Ct.zero.va) (by kernel_rfl) (by kernel_rfl) _ rfl) ?_
  intro B51 w51 a51 hB51 hx51 hg51 hA51
  clear hA50
  have hs51 := hg51.size
  have hl51 := hx51.lt
  refine sx_store hA51 rfl (.inl rfl) rfl (hA51.ev (i := 8) (v := .pointer (some ⟨B51, 0, none⟩))) (hA51.ev (i := 28) (v := .agg c.va)) hx51 (by kernel_rfl) rfl (ct_one _) ?_
  intro w52 hx52 hg52
  have hs52 := hg52.size
  refine sx_nil ?_
  refine then_n ?_
  refine wp_seq ?_
  refine wp_seq ?_
  refine wp_region_lit ?_
  refine sx_val hA51 rfl (ev_assign (ec _ (.int .i64 0)) _ rfl) ?_
  intro a53 hA53; clear hA51
  refine sx_nil ?_
  refine then_n ?_
  refine wp_block ?_
  have hx1_55 := hx1_43.gN hg51
  have hx1_56 := hx1_55.gB hg52 (by omega)
  have hx2_57 := hx2.gN hg6
  have hx2_58 := hx2_57.gN hg40
  have hx2_59 := hx2_58.gN hg51
  have hx2_60 := hx2_59.gB hg52 (by omega)
  have hbel0_61 := Below.gN hbel0_48 hg51 hbel0_48.size
  have hbel0_62 := Below.gB hbel0_61 hg52 hbel0_61.size (by omega)
  refine wp_loop_ghost (fun n a wl => ∃ (m : Nat), n = js.length - m ∧ Ag a 59 [(1, .int .i64 s), (2, .pointer (some ⟨B1, 0, none⟩)), (4, .pointer (some ⟨B2, 0, none⟩)), (5, .int .i64 0), (8, .pointer (some ⟨B51, 0, none⟩)), (9, .int .i64 (m : Int))] ∧ m ≤ js.length ∧ Bx wl B1 25 #[.slice A1 cs.length c1, .slice A2 js.length c2, .int .i64 room] ∧ Bx wl B2 28 Ct.zero.va ∧ Bx wl B51 28 (ltm c js s m).va ∧ w52.heap.size ≤ wl.heap.size ∧ Below w.heap.size w wl) (js.length - 0) ⟨0, rfl, (((((((Ag.nil hA53.1 hA53.2.1).cons (hA53.get (i := 9) (v := .int .i64 0))).cons (hA53.get (i := 8) (v := .pointer (some ⟨B51, 0, none⟩)))).cons (hA53.get (i := 5) (v := .int .i64 0))).cons (hA53.get (i := 4) (v := .pointer (some ⟨B2, 0, none⟩)))).cons (hA53.get (i := 2) (v := .pointer (some ⟨B1, 0, none⟩)))).cons (hA53.get (i := 1) (v := .int .i64 s))), Nat.zero_le _, hx1_56, hx2_60, hx52, Nat.le_refl _, hbel0_62⟩ ?_
  intro n54 a54 w54 hI54
  obtain ⟨m, hn54, hA54, q54_0, f54_0, f54_1, f54_2, hsz54, hbel54⟩ := hI54
  subst hn54
  clear hA53
  have hlB1_54 := f54_0.lt
  have hlB2_54 := f54_1.lt
  have hlB51_54 := f54_2.lt
  cases hd63 : decide ((m : Int) < (js.length : Int))
  · have hp63 := of_decide_eq_false hd63
    refine wp_seq ?_
    refine wp_seq ?_
    refine wp_region_lit ?_
    refine sx_val hA54 rfl (ev_move (hA54.ev (i := 9) (v := .int .i64 (m : Int))) _ rfl) ?_
    intro a64 hA64; clear hA54
    refine sx_val (v := .pointer (some ⟨B1, 1, none⟩)) hA64 rfl (fb_Disk_1 (hA64.ev (i := 2) (v := .pointer (some ⟨B1, 0, none⟩))) _ rfl) ?_
    intro a65 hA65; clear hA64
    refine sx_val (v := .slice A2 js.length c2) hA65 rfl (ev_cell (v := .slice A2 js.length c2) (hA65.ev (i := 30) (v := .pointer (some ⟨B1, 1, none⟩))) ((f54_0.cell 1).trans rfl) Try.underlying23 rfl _ rfl) ?_
    intro a66 hA66; clear hA65
    refine sx_val (v := .int .i64 (js.length : Int)) hA66 rfl (ev_len (hA66.ev (i := 31) (v := .slice A2 js.length c2)) Try.underlying23 _ rfl) ?_
    intro a67 hA67; clear hA66
    refine sx_val (v := .bool false) hA67 rfl (ev_lssB (k := .i64) (m := (m : Int)) (n := (js.length : Int)) (hA67.ev (i := 29)) (hA67.ev (i := 32)) hd63 _ rfl) ?_
    intro a68 hA68; clear hA67
    refine sx_nil ?_
    refine then_n ?_
    refine wp_cond_false (hA68.ev (i := 33) (v := .bool false)) ?_
    refine wp_exit ?_
    refine then_x ?_
    refine then_x ?_
    refine blk_hit ?_
    refine then_n ?_
    refine wp_seq ?_
    refine wp_region_lit ?_
    refine sx_val (v := .agg (ltm c js s m).va) hA68 rfl (ev_row (hA68.ev (i := 8) (v := .pointer (some ⟨B51, 0, none⟩))) f54_2 Try.underlying28 rfl (n := 8) (by kernel_rfl) rfl _ rfl) ?_
    intro a69 hA69; clear hA68
    refine sx_store hA69 rfl (.inl rfl) rfl (hA69.ev (i := 4) (v := .pointer (some ⟨B2, 0, none⟩))) (hA69.ev (i := 58) (v := .agg (ltm c js s m).va)) f54_1 (by kernel_rfl) rfl (ct_one _) ?_
    intro w70 hx70 hg70
    have hs70 := hg70.size
    refine sx_val hA69 rfl (ev_assign (ec _ (.int .i64 0)) _ rfl) ?_
    intro a71 hA71; clear hA69
    refine sx_nil ?_
    refine then_n ?_
    refine wp_ret ?_
    refine bodyPost_ret (rs_ct (v := .int .i64 0) Try.results31 hA71 (by kernel_rfl) (by kernel_rfl) hx70 Try.underlying28 rfl (by kernel_rfl)) hA71.2.1 ?_
    have hbel54_72 := Below.gB hbel54 hg70 hbel54.size (by omega)
    have E : lat ⟨cs, js, room⟩ s = (ltm c js s m, 0) := by
      unfold lat
      rw [if_pos hp15, if_neg (by rw [hd29]; decide), ← ltm_eq (d := ⟨cs, js, room⟩) (chk_ok hp15) hc (show m = js.length by omega)]
    exact ⟨by rw [E], hbel54_72⟩
  have hp63 := of_decide_eq_true hd63
  obtain ⟨y, hy⟩ : ∃ y, js[m]? = some y := ⟨_, List.getElem?_eq_getElem (by omega)⟩
  refine wp_seq ?_
  refine wp_seq ?_
  refine wp_region_lit ?_
  refine sx_val hA54 rfl (ev_move (hA54.ev (i := 9) (v := .int .i64 (m : Int))) _ rfl) ?_
  intro a73 hA73; clear hA54
  refine sx_val (v := .pointer (some ⟨B1, 1, none⟩)) hA73 rfl (fb_Disk_1 (hA73.ev (i := 2) (v := .pointer (some ⟨B1, 0, none⟩))) _ rfl) ?_
  intro a74 hA74; clear hA73
  refine sx_val (v := .slice A2 js.length c2) hA74 rfl (ev_cell (v := .slice A2 js.length c2) (hA74.ev (i := 30) (v := .pointer (some ⟨B1, 1, none⟩))) ((f54_0.cell 1).trans rfl) Try.underlying23 rfl _ rfl) ?_
  intro a75 hA75; clear hA74
  refine sx_val (v := .int .i64 (js.length : Int)) hA75 rfl (ev_len (hA75.ev (i := 31) (v := .slice A2 js.length c2)) Try.underlying23 _ rfl) ?_
  intro a76 hA76; clear hA75
  refine sx_val (v := .bool true) hA76 rfl (ev_lssB (k := .i64) (m := (m : Int)) (n := (js.length : Int)) (hA76.ev (i := 29)) (hA76.ev (i := 32)) hd63 _ rfl) ?_
  intro a77 hA77; clear hA76
  refine sx_nil ?_
  refine then_n ?_
  refine wp_cond_true (hA77.ev (i := 33) (v := .bool true)) ?_
  refine wp_skip ?_
  refine then_n ?_
  refine wp_seq ?_
  refine wp_block ?_
  refine wp_seq ?_
  refine wp_region_lit ?_
  refine sx_val (v := .pointer (some ⟨B1, 1, none⟩)) hA77 rfl (fb_Disk_1 (hA77.ev (i := 2) (v := .pointer (some ⟨B1, 0, none⟩))) _ rfl) ?_
  intro a78 hA78; clear hA77
  refine sx_val (v := .slice A2 js.length c2) hA78 rfl (ev_cell (v := .slice A2 js.length c2) (hA78.ev (i := 36) (v := .pointer (some ⟨B1, 1, none⟩))) ((f54_0.cell 1).trans rfl) Try.underlying23 rfl _ rfl) ?_
  intro a79 hA79; clear hA78
  refine sx_val hA79 rfl (ev_move (hA79.ev (i := 9) (v := .int .i64 (m : Int))) _ rfl) ?_
  intro a80 hA80; clear hA79
  obtain ⟨ad81, hAd81⟩ := GR.adr (hd.j.below hbel54) jb_sz hy
  refine sx_val (v := .pointer (some (ad81.add (m * 11)))) hA80 rfl (ev_idx (k := m) (hA80.ev (i := 37) (v := .slice A2 js.length c2)) hAd81 (hA80.ev (i := 38) (v := .int .i64 (m : Int))) rfl (by omega) Try.underlying23 (by kernel_rfl) _ rfl) ?_
  intro a82 hA82; clear hA80
  refine sx_val (v := .pointer (some ((ad81.add (m * 11)).add 0))) hA82 rfl (fa_Job_0 (hA82.ev (i := 39) (v := .pointer (some (ad81.add (m * 11))))) _ rfl) ?_
  intro a83 hA83; clear hA82
  refine sx_val (v := .bool y.wr) hA83 rfl (ev_cell (hA83.ev (i := 40) (v := .pointer (some ((ad81.add (m * 11)).add 0)))) ((GR.cel (hd.j.below hbel54) hAd81 jb_sz hy) 0 _ rfl) Try.underlying4 rfl _ rfl) ?_
  intro a84 hA84; clear hA83
  refine sx_val hA84 rfl (ev_move (hA84.ev (i := 41) (v := .bool y.wr)) _ rfl) ?_
  intro a85 hA85; clear hA84
  cases hd86 : y.wr
  · rw [hd86] at hA85
    refine sx_no (j := 6) (s := 42) (want := true) (b := false) hA85 rfl ?_
    intro a87 hA87; clear hA85
    refine sx_no (j := 6) (s := 42) (want := true) (b := false) hA87 rfl ?_
    intro a88 hA88; clear hA87
    refine sx_no (j := 6) (s := 42) (want := true) (b := false) hA88 rfl ?_
    intro a89 hA89; clear hA88
    refine sx_no (j := 6) (s := 42) (want := true) (b := false) hA89 rfl ?_
    intro a90 hA90; clear hA89
    refine sx_no (j := 6) (s := 42) (want := true) (b := false) hA90 rfl ?_
    intro a91 hA91; clear hA90
    refine sx_no (j := 6) (s := 42) (want := true) (b := false) hA91 rfl ?_
    intro a92 hA92; clear hA91
    refine sx_no (j := 6) (s := 42) (want := true) (b := false) hA92 rfl ?_
    intro a93 hA93; clear hA92
    refine sx_no (j := 6) (s := 42) (want := true) (b := false) hA93 rfl ?_
    intro a94 hA94; clear hA93
    refine sx_val hA94 rfl (ev_pickF (hA94.ev (i := 42) (v := .bool false)) (ec _ (.bool false)) _ rfl) ?_
    intro a95 hA95; clear hA94
    refine sx_nil ?_
    refine then_n ?_
    refine wp_cond_false (hA95.ev (i := 51) (v := .bool false)) ?_
    refine wp_skip ?_
    refine blk_n ?_
    refine then_n ?_
    refine wp_region_lit ?_
    refine sx_val hA95 rfl (ev_move (hA95.ev (i := 9) (v := .int .i64 (m : Int))) _ rfl) ?_
    intro a96 hA96; clear hA95
    refine sx_val (v := .int .i64 ((m + 1 : Nat) : Int)) hA96 rfl (ev_addR (k := .i64) (m := (m : Int)) (n := 1) (r := ((m + 1 : Nat) : Int)) (hA96.ev (i := 34)) (ec _ (.int .i64 1)) (wr (by omega) (by omega) (by omega)) _ rfl) ?_
    intro a97 hA97; clear hA96
    refine sx_val hA97 rfl (ev_assign (hA97.ev (i := 35) (v := .int .i64 ((m + 1 : Nat) : Int))) _ rfl) ?_
    intro a98 hA98; clear hA97
    refine sx_nil ?_
    refine then_n ?_
    refine ⟨js.length - (m + 1), by omega, m + 1, rfl, (((((((Ag.nil hA98.1 hA98.2.1).cons (hA98.get (i := 9) (v := .int .i64 ((m + 1 : Nat) : Int)))).cons (hA98.get (i := 8) (v := .pointer (some ⟨B51, 0, none⟩)))).cons (hA98.get (i := 5) (v := .int .i64 0))).cons (hA98.get (i := 4) (v := .pointer (some ⟨B2, 0, none⟩)))).cons (hA98.get (i := 2) (v := .pointer (some ⟨B1, 0, none⟩)))).cons (hA98.get (i := 1) (v := .int .i64 s))), by omega, f54_0, f54_1, (by rw [ltm_succ hy, if_neg (fun e => by rw [hd86] at e; cases e.1)]; exact f54_2), by omega, hbel54⟩
  rw [hd86] at hA85
  refine sx_val (hg := (.inr ⟨6, true, 42, rfl, rfl, by kernel_rfl⟩)) (v := .pointer (some ⟨B1, 1, none⟩)) hA85 rfl (fb_Disk_1 (hA85.ev (i := 2) (v := .pointer (some ⟨B1, 0, none⟩))) _ rfl) ?_
  intro a99 hA99; clear hA85
  refine sx_val (hg := (.inr ⟨6, true, 42, rfl, rfl, by kernel_rfl⟩)) (v := .slice A2 js.length c2) hA99 rfl (ev_cell (v := .slice A2 js.length c2) (hA99.ev (i := 43) (v := .pointer (some ⟨B1, 1, none⟩))) ((f54_0.cell 1).trans rfl) Try.underlying23 rfl _ rfl) ?_
  intro a100 hA100; clear hA99
  refine sx_val (hg := (.inr ⟨6, true, 42, rfl, rfl, by kernel_rfl⟩)) hA100 rfl (ev_move (hA100.ev (i := 9) (v := .int .i64 (m : Int))) _ rfl) ?_
  intro a101 hA101; clear hA100
  refine sx_val (hg := (.inr ⟨6, true, 42, rfl, rfl, by kernel_rfl⟩)) (v := .pointer (some (ad81.add (m * 11)))) hA101 rfl (ev_idx (k := m) (hA101.ev (i := 44) (v := .slice A2 js.length c2)) hAd81 (hA101.ev (i := 45) (v := .int .i64 (m : Int))) rfl (by omega) Try.underlying23 (by kernel_rfl) _ rfl) ?_
  intro a102 hA102; clear hA101
  refine sx_val (hg := (.inr ⟨6, true, 42, rfl, rfl, by kernel_rfl⟩)) (v := .pointer (some ((ad81.add (m * 11)).add 1))) hA102 rfl (fa_Job_1 (hA102.ev (i := 46) (v := .pointer (some (ad81.add (m * 11))))) _ rfl) ?_
  intro a103 hA103; clear hA102
  refine sx_val (hg := (.inr ⟨6, true, 42, rfl, rfl, by kernel_rfl⟩)) (v := .int .i64 y.slot) hA103 rfl (ev_cell (hA103.ev (i := 47) (v := .pointer (some ((ad81.add (m * 11)).add 1)))) ((GR.cel (hd.j.below hbel54) hAd81 jb_sz hy) 1 _ rfl) Try.underlying3 rfl _ rfl) ?_
  intro a104 hA104; clear hA103
  refine sx_val (hg := (.inr ⟨6, true, 42, rfl, rfl, by kernel_rfl⟩)) hA104 rfl (ev_move (hA104.ev (i := 1) (v := .int .i64 s)) _ rfl) ?_
  intro a105 hA105; clear hA104
  cases hd106 : decide (y.slot = s)
  · have hp106 := of_decide_eq_false hd106
    refine sx_val (hg := (.inr ⟨6, true, 42, rfl, rfl, by kernel_rfl⟩)) (v := .bool false) hA105 rfl (ev_eqlB (k := .i64) (m := y.slot) (n := s) (hA105.ev (i := 48)) (hA105.ev (i := 49)) hd106 _ rfl) ?_
    intro a107 hA107; clear hA105
    refine sx_val hA107 rfl (ev_pickT (hA107.ev (i := 42) (v := .bool true)) (hA107.ev (i := 50) (v := .bool false)) _ rfl) ?_
    intro a108 hA108; clear hA107
    refine sx_nil ?_
    refine then_n ?_
    refine wp_cond_false (hA108.ev (i := 51) (v := .bool false)) ?_
    refine wp_skip ?_
    refine blk_n ?_
    refine then_n ?_
    refine wp_region_lit ?_
    refine sx_val hA108 rfl (ev_move (hA108.ev (i := 9) (v := .int .i64 (m : Int))) _ rfl) ?_
    intro a109 hA109; clear hA108
    refine sx_val (v := .int .i64 ((m + 1 : Nat) : Int)) hA109 rfl (ev_addR (k := .i64) (m := (m : Int)) (n := 1) (r := ((m + 1 : Nat) : Int)) (hA109.ev (i := 34)) (ec _ (.int .i64 1)) (wr (by omega) (by omega) (by omega)) _ rfl) ?_
    intro a110 hA110; clear hA109
    refine sx_val hA110 rfl (ev_assign (hA110.ev (i := 35) (v := .int .i64 ((m + 1 : Nat) : Int))) _ rfl) ?_
    intro a111 hA111; clear hA110
    refine sx_nil ?_
    refine then_n ?_
    refine ⟨js.length - (m + 1), by omega, m + 1, rfl, (((((((Ag.nil hA111.1 hA111.2.1).cons (hA111.get (i := 9) (v := .int .i64 ((m + 1 : Nat) : Int)))).cons (hA111.get (i := 8) (v := .pointer (some ⟨B51, 0, none⟩)))).cons (hA111.get (i := 5) (v := .int .i64 0))).cons (hA111.get (i := 4) (v := .pointer (some ⟨B2, 0, none⟩)))).cons (hA111.get (i := 2) (v := .pointer (some ⟨B1, 0, none⟩)))).cons (hA111.get (i := 1) (v := .int .i64 s))), by omega, f54_0, f54_1, (by rw [ltm_succ hy, if_neg (fun e => hp106 e.2)]; exact f54_2), by omega, hbel54⟩
  have hp106 := of_decide_eq_true hd106
  refine sx_val (hg := (.inr ⟨6, true, 42, rfl, rfl, by kernel_rfl⟩)) (v := .bool true) hA105 rfl (ev_eqlB (k := .i64) (m := y.slot) (n := s) (hA105.ev (i := 48)) (hA105.ev (i := 49)) hd106 _ rfl) ?_
  intro a112 hA112; clear hA105
  refine sx_val hA112 rfl (ev_pickT (hA112.ev (i := 42) (v := .bool true)) (hA112.ev (i := 50) (v := .bool true)) _ rfl) ?_
  intro a113 hA113; clear hA112
  refine sx_nil ?_
  refine then_n ?_
  refine wp_cond_true (hA113.ev (i := 51) (v := .bool true)) ?_
  refine wp_region_lit ?_
  refine sx_val (v := .pointer (some ⟨B1, 1, none⟩)) hA113 rfl (fb_Disk_1 (hA113.ev (i := 2) (v := .pointer (some ⟨B1, 0, none⟩))) _ rfl) ?_
  intro a114 hA114; clear hA113
  refine sx_val (v := .slice A2 js.length c2) hA114 rfl (ev_cell (v := .slice A2 js.length c2) (hA114.ev (i := 52) (v := .pointer (some ⟨B1, 1, none⟩))) ((f54_0.cell 1).trans rfl) Try.underlying23 rfl _ rfl) ?_
  intro a115 hA115; clear hA114
  refine sx_val hA115 rfl (ev_move (hA115.ev (i := 9) (v := .int .i64 (m : Int))) _ rfl) ?_
  intro a116 hA116; clear hA115
  refine sx_val (v := .pointer (some (ad81.add (m * 11)))) hA116 rfl (ev_idx (k := m) (hA116.ev (i := 53) (v := .slice A2 js.length c2)) hAd81 (hA116.ev (i := 54) (v := .int .i64 (m : Int))) rfl (by omega) Try.underlying23 (by kernel_rfl) _ rfl) ?_
  intro a117 hA117; clear hA116
  refine sx_val (v := .pointer (some ((ad81.add (m * 11)).add 3))) hA117 rfl (fa_Job_3 (hA117.ev (i := 55) (v := .pointer (some (ad81.add (m * 11))))) _ rfl) ?_
  intro a118 hA118; clear hA117
  refine sx_val (v := .agg y.data.va) hA118 rfl (ev_loadR (cs := y.data.va) (n := 8) (hA118.ev (i := 56) (v := .pointer (some ((ad81.add (m * 11)).add 3)))) (jb_epart (GR.cel (hd.j.below hbel54) hAd81 jb_sz hy)) Try.underlying28 rfl (by kernel_rfl) rfl _ rfl) ?_
  intro a119 hA119; clear hA118
  refine sx_store hA119 rfl (.inl rfl) rfl (hA119.ev (i := 8) (v := .pointer (some ⟨B51, 0, none⟩))) (hA119.ev (i := 57) (v := .agg y.data.va)) f54_2 (by kernel_rfl) rfl (ct_one _) ?_
  intro w120 hx120 hg120
  have hs120 := hg120.size
  refine sx_nil ?_
  refine blk_n ?_
  refine then_n ?_
  refine wp_region_lit ?_
  refine sx_val hA119 rfl (ev_move (hA119.ev (i := 9) (v := .int .i64 (m : Int))) _ rfl) ?_
  intro a121 hA121; clear hA119
  refine sx_val (v := .int .i64 ((m + 1 : Nat) : Int)) hA121 rfl (ev_addR (k := .i64) (m := (m : Int)) (n := 1) (r := ((m + 1 : Nat) : Int)) (hA121.ev (i := 34)) (ec _ (.int .i64 1)) (wr (by omega) (by omega) (by omega)) _ rfl) ?_
  intro a122 hA122; clear hA121
  refine sx_val hA122 rfl (ev_assign (hA122.ev (i := 35) (v := .int .i64 ((m + 1 : Nat) : Int))) _ rfl) ?_
  intro a123 hA123; clear hA122
  refine sx_nil ?_
  refine then_n ?_
  have f54_124 := f54_0.gB hg120 (by omega)
  have f54_125 := f54_1.gB hg120 (by omega)
  have hbel54_126 := Below.gB hbel54 hg120 hbel54.size (by omega)
  refine ⟨js.length - (m + 1), by omega, m + 1, rfl, (((((((Ag.nil hA123.1 hA123.2.1).cons (hA123.get (i := 9) (v := .int .i64 ((m + 1 : Nat) : Int)))).cons (hA123.get (i := 8) (v := .pointer (some ⟨B51, 0, none⟩)))).cons (hA123.get (i := 5) (v := .int .i64 0))).cons (hA123.get (i := 4) (v := .pointer (some ⟨B2, 0, none⟩)))).cons (hA123.get (i := 2) (v := .pointer (some ⟨B1, 0, none⟩)))).cons (hA123.get (i := 1) (v := .int .i64 s))), by omega, f54_124, f54_125, (by rw [ltm_succ hy, if_pos ⟨hd86, hp106⟩]; exact hx120), by omega, hbel54_126⟩
end Go.Proofs.Ytbkdimildnahaaa
