/- Package disk: jobs. -/
import Derived.Test.YtbkdimildnahaaaDB
namespace Go.Proofs.Ytbkdimildnahaaa
open Go.RowKit
set_option linter.unusedVariables false
set_option maxRecDepth 100000

/-- What the map of jobs holds after k jobs. -/
def jmf (js : List Jb) : Nat → Bool × Int → Option Int
  | 0 => fun _ => none
  | k + 1 => match js[k]? with
    | none => jmf js k
    | some x => fun q => if q = (true, x.frame) then some (k : Int) else (fun q => if q = (false, x.slot) then some (k : Int) else (jmf js k) q) q
theorem jmf_succ {js : List Jb} {k : Nat} {x : Jb} (h : js[k]? = some x) : jmf js (k + 1) = fun q => if q = (true, x.frame) then some (k : Int) else (fun q => if q = (false, x.slot) then some (k : Int) else (jmf js k) q) q := by
  show (match js[k]? with | none => _ | some x => _) = _
  rw [h]
theorem take_any {js : List Jb} {k : Nat} {x : Jb} (h : js[k]? = some x) (p : Jb → Bool) : (js.take (k + 1)).any p = ((js.take k).any p || p x) := by
  rw [List.take_add_one, h]; simp
theorem jmf_some {js : List Jb} : ∀ (k : Nat) (b : Bool) (s : Int), (jmf js k (b, s)).isSome = (js.take k).any fun x => if b = true then x.frame == s else x.slot == s
  | 0, b, s => by simp [jmf]
  | k + 1, b, s => by
    cases h : js[k]? with
    | none =>
      have : jmf js (k + 1) = jmf js k := by show (match js[k]? with | none => _ | some x => _) = _; rw [h]
      rw [this, jmf_some k b s, List.take_of_length_le (by have := List.getElem?_eq_none_iff.1 h; omega), List.take_of_length_le (by have := List.getElem?_eq_none_iff.1 h; omega)]
    | some x =>
      rw [jmf_succ h, take_any h, ← jmf_some k b s]
      cases b
      · by_cases h1 : s = x.slot
        · simp [h1]
        · have : (x.slot == s) = false := by simp; exact fun e => h1 e.symm
          simp [h1, this]
      · by_cases h1 : s = x.frame
        · simp [h1]
        · have : (x.frame == s) = false := by simp; exact fun e => h1 e.symm
          simp [h1, this]
theorem jmf_at {js : List Jb} : ∀ (k : Nat) (s i : Int), jmf js k (false, s) = some i → ∃ (m : Nat) (x : Jb), i = (m : Int) ∧ m < k ∧ js[m]? = some x ∧ x.slot = s
  | 0, s, i, h => by simp [jmf] at h
  | k + 1, s, i, h => by
    cases hx : js[k]? with
    | none =>
      have : jmf js (k + 1) = jmf js k := by show (match js[k]? with | none => _ | some x => _) = _; rw [hx]
      rw [this] at h
      obtain ⟨m, x, h1, h2, h3⟩ := jmf_at k s i h
      exact ⟨m, x, h1, by omega, h3⟩
    | some x =>
      rw [jmf_succ hx] at h
      by_cases h1 : s = x.slot
      · simp [h1] at h
        exact ⟨k, x, h.symm, by omega, hx, h1.symm⟩
      · simp [h1] at h
        obtain ⟨m, x, h1, h2, h3⟩ := jmf_at k s i h
        exact ⟨m, x, h1, by omega, h3⟩
/-- A call returned the map of the jobs. -/
def RetM (w : World) (js : List Jb) (e : Ending) (w' : World) : Prop :=
  ∃ B, e = .returned (.map (some B)) ∧ Mp w' B kyv (Value.int .i64) (jmf js js.length) ∧ w.heap.size ≤ B ∧ Below w.heap.size w w'

set_option maxHeartbeats 4000000 in
theorem jobs_any (A1 : Option Addr) (c1 : Nat) (A2 : Option Addr) (c2 : Nat) (cs : List Ct) (js : List Jb) (room : Int) (w : World) (hd : GD w A1 c1 A2 c2 cs js) (hj : js.length ≤ 900000) : Calls Try.prog 46 #[.agg #[.slice A1 cs.length c1, .slice A2 js.length c2, .int .i64 room]] w (RetM w js) := by
  have hbel0 := below0 w
  refine sx_enter (N := 27) [(0, .agg #[.slice A1 cs.length c1, .slice A2 js.length c2, .int .i64 room])] Try.func46 rfl Try.ntmps46 (by simp) (fun a z d s => ((Ag.nil z d).cons (s 0 _ rfl))) ?_
  intro a0 hA0
  refine wp_seq ?_
  refine wp_region_lit ?_
  refine sx_new (cs := #[.slice A1 cs.length c1, .slice A2 js.length c2, .int .i64 room]) (t := 25) hA0 rfl (by decide) (.inl rfl) (ev_box (hA0.ev (i := 0) (v := .agg #[.slice A1 cs.length c1, .slice A2 js.length c2, .int .i64 room])) rfl _ rfl) ?_
  intro B1 w1 a1 hB1 hx1 hg1 hA1
  clear hA0
  have hs1 := hg1.size
  have hl1 := hx1.lt
  refine sx_val hA1 rfl (ev_assign (ec _ (.map none)) _ rfl) ?_
  intro a2 hA2; clear hA1
  refine sx_nil ?_
  refine then_n ?_
  refine wp_seq ?_
  refine wp_region_lit ?_
  refine sx_map (kv := kyv) (vv := (Value.int .i64)) hA2 rfl (by decide) (.inl rfl) rfl ?_
  intro B3 w3 a3 hB3 hm3 hg3 hA3
  clear hA2
  have hs3 := hg3.size
  have hl3 := hm3.lt
  refine sx_val hA3 rfl (ev_assign (hA3.ev (i := 6) (v := .map (some B3))) _ rfl) ?_
  intro a4 hA4; clear hA3
  refine sx_nil ?_
  refine then_n ?_
  refine wp_seq ?_
  refine wp_seq ?_
  refine wp_region_lit ?_
  refine sx_val (v := .pointer (some ⟨B1, 1, none⟩)) hA4 rfl (fb_Disk_1 (hA4.ev (i := 1) (v := .pointer (some ⟨B1, 0, none⟩))) _ rfl) ?_
  intro a5 hA5; clear hA4
  have hx1_6 := hx1.gN hg3
  refine sx_val (v := .slice A2 js.length c2) hA5 rfl (ev_cell (v := .slice A2 js.length c2) (hA5.ev (i := 7) (v := .pointer (some ⟨B1, 1, none⟩))) ((hx1_6.cell 1).trans rfl) Try.underlying23 rfl _ rfl) ?_
  intro a7 hA7; clear hA5
  refine sx_val (v := .int .i64 (js.length : Int)) hA7 rfl (ev_len (hA7.ev (i := 8) (v := .slice A2 js.length c2)) Try.underlying23 _ rfl) ?_
  intro a8 hA8; clear hA7
  refine sx_val hA8 rfl (ev_move (ec _ (.int .i64 0)) _ rfl) ?_
  intro a9 hA9; clear hA8
  refine sx_nil ?_
  refine then_n ?_
  refine wp_block ?_
  have hbel0_11 := Below.gN hbel0 hg1 hbel0.size
  have hbel0_12 := Below.gN hbel0_11 hg3 hbel0_11.size
  refine wp_loop_ghost (fun n a wl => ∃ (k : Nat), n = js.length - k ∧ Ag a 27 [(2, .map none), (3, .map (some B3)), (8, .slice A2 js.length c2), (9, .int .i64 (js.length : Int)), (10, .int .i64 (k : Int))] ∧ k ≤ js.length ∧ Mp wl B3 kyv (Value.int .i64) (jmf js k) ∧ w3.heap.size ≤ wl.heap.size ∧ Below w.heap.size w wl) (js.length - 0) ⟨0, rfl, ((((((Ag.nil hA9.1 hA9.2.1).cons (hA9.get (i := 10) (v := .int .i64 0))).cons (hA9.get (i := 9) (v := .int .i64 (js.length : Int)))).cons (hA9.get (i := 8) (v := .slice A2 js.length c2))).cons (hA9.get (i := 3) (v := .map (some B3)))).cons (hA9.get (i := 2) (v := .map none))), Nat.zero_le _, hm3, Nat.le_refl _, hbel0_12⟩ ?_
  intro n10 a10 w10 hI10
  obtain ⟨k, hn10, hA10, q10_0, f10_0, hsz10, hbel10⟩ := hI10
  subst hn10
  clear hA9
  have hlB3_10 := f10_0.lt
  cases hd13 : decide ((k : Int) < (js.length : Int))
  · have hp13 := of_decide_eq_false hd13
    refine wp_seq ?_
    refine wp_region_lit ?_
    refine sx_val (v := .bool false) hA10 rfl (ev_lssB (k := .i64) (m := (k : Int)) (n := (js.length : Int)) (hA10.ev (i := 10)) (hA10.ev (i := 9)) hd13 _ rfl) ?_
    intro a14 hA14; clear hA10
    refine sx_nil ?_
    refine then_n ?_
    refine wp_seq ?_
    refine wp_cond_false (hA14.ev (i := 11) (v := .bool false)) ?_
    refine wp_exit ?_
    refine then_x ?_
    refine then_x ?_
    refine blk_hit ?_
    refine then_n ?_
    refine wp_seq ?_
    refine wp_region_lit ?_
    refine sx_val hA14 rfl (ev_move (hA14.ev (i := 3) (v := .map (some B3))) _ rfl) ?_
    intro a15 hA15; clear hA14
    refine sx_val hA15 rfl (ev_assign (hA15.ev (i := 26) (v := .map (some B3))) _ rfl) ?_
    intro a16 hA16; clear hA15
    refine sx_nil ?_
    refine then_n ?_
    refine wp_ret ?_
    refine bodyPost_ret (rs_t (v := .map (some B3)) Try.results46 hA16 (by kernel_rfl) ) hA16.2.1 ?_
    have hkl : k = js.length := by omega
    rw [hkl] at f10_0
    exact ⟨B3, rfl, f10_0, by omega, hbel10⟩
  have hp13 := of_decide_eq_true hd13
  obtain ⟨x, hx⟩ : ∃ x, js[k]? = some x := ⟨_, List.getElem?_eq_getElem (by omega)⟩
  refine wp_seq ?_
  refine wp_region_lit ?_
  refine sx_val (v := .bool true) hA10 rfl (ev_lssB (k := .i64) (m := (k : Int)) (n := (js.length : Int)) (hA10.ev (i := 10)) (hA10.ev (i := 9)) hd13 _ rfl) ?_
  intro a17 hA17; clear hA10
  refine sx_nil ?_
  refine then_n ?_
  refine wp_seq ?_
  refine wp_cond_true (hA17.ev (i := 11) (v := .bool true)) ?_
  refine wp_skip ?_
  refine then_n ?_
  refine wp_seq ?_
  refine wp_block ?_
  refine wp_seq ?_
  refine wp_region_lit ?_
  refine sx_val hA17 rfl (ev_move (hA17.ev (i := 10) (v := .int .i64 (k : Int))) _ rfl) ?_
  intro a18 hA18; clear hA17
  obtain ⟨ad19, hAd19, hbl19, hce19⟩ := GR.at_ (hd.j.below hbel10) jb_sz hx
  refine sx_val (v := .pointer (some (ad19.add (k * 11)))) hA18 rfl (ev_idx (k := k) (hA18.ev (i := 8) (v := .slice A2 js.length c2)) hAd19 (hA18.ev (i := 10) (v := .int .i64 (k : Int))) rfl (by omega) Try.underlying23 (by kernel_rfl) _ rfl) ?_
  intro a20 hA20; clear hA18
  refine sx_val (v := .agg x.va) hA20 rfl (ev_loadR (cs := x.va) (n := 11) (hA20.ev (i := 13) (v := .pointer (some (ad19.add (k * 11))))) hce19 Try.underlying38 rfl (by kernel_rfl) rfl _ rfl) ?_
  intro a21 hA21; clear hA20
  refine sx_new (cs := Jb.zero.va) (t := 38) hA21 rfl (by decide) (.inl rfl) (ev_alloc (z := .agg Jb.zero.va) (by kernel_rfl) (by kernel_rfl) _ rfl) ?_
  intro B22 w22 a22 hB22 hx22 hg22 hA22
  clear hA21
  have hs22 := hg22.size
  have hl22 := hx22.lt
  refine sx_val hA22 rfl (ev_assign (hA22.ev (i := 12) (v := .int .i64 (k : Int))) _ rfl) ?_
  intro a23 hA23; clear hA22
  refine sx_store hA23 rfl (.inl rfl) rfl (hA23.ev (i := 5) (v := .pointer (some ⟨B22, 0, none⟩))) (hA23.ev (i := 14) (v := .agg x.va)) hx22 (by kernel_rfl) rfl (jb_one _) ?_
  intro w24 hx24 hg24
  have hs24 := hg24.size
  refine sx_nil ?_
  refine then_n ?_
  refine wp_seq ?_
  refine wp_region_lit ?_
  refine sx_val hA23 rfl (ev_move (hA23.ev (i := 3) (v := .map (some B3))) _ rfl) ?_
  intro a25 hA25; clear hA23
  refine sx_val (v := .pointer (some ⟨B22, 1, none⟩)) hA25 rfl (fb_Job_1 (hA25.ev (i := 5) (v := .pointer (some ⟨B22, 0, none⟩))) _ rfl) ?_
  intro a26 hA26; clear hA25
  refine sx_val (v := .int .i64 x.slot) hA26 rfl (ev_cell (v := .int .i64 x.slot) (hA26.ev (i := 16) (v := .pointer (some ⟨B22, 1, none⟩))) ((hx24.cell 1).trans rfl) Try.underlying3 rfl _ rfl) ?_
  intro a27 hA27; clear hA26
  refine sx_val (v := .agg #[.bool false, .int .i64 x.slot]) hA27 rfl (bd_key_1 (hA27.ev (i := 17) (v := .int .i64 x.slot)) _ rfl) ?_
  intro a28 hA28; clear hA27
  refine sx_val hA28 rfl (ev_move (hA28.ev (i := 4) (v := .int .i64 (k : Int))) _ rfl) ?_
  intro a29 hA29; clear hA28
  have f10_30 := f10_0.gN hg22
  have f10_31 := f10_30.gB hg24 (by omega)
  refine sx_upd mk_key (k := (false, x.slot)) (v := (k : Int)) hA29 rfl (.inl rfl) rfl Try.underlying74 f10_31 (hA29.ev (i := 15) (v := .map (some B3))) (hA29.ev (i := 18) (v := .agg #[.bool false, .int .i64 x.slot])) (hA29.ev (i := 19) (v := .int .i64 (k : Int))) ?_
  intro w32 hm32 hg32
  have hs32 := hg32.size
  refine sx_nil ?_
  refine then_n ?_
  refine wp_region_lit ?_
  refine sx_val hA29 rfl (ev_move (hA29.ev (i := 3) (v := .map (some B3))) _ rfl) ?_
  intro a33 hA33; clear hA29
  refine sx_val (v := .pointer (some ⟨B22, 2, none⟩)) hA33 rfl (fb_Job_2 (hA33.ev (i := 5) (v := .pointer (some ⟨B22, 0, none⟩))) _ rfl) ?_
  intro a34 hA34; clear hA33
  have hx24_35 := hx24.gB hg32 (by omega)
  refine sx_val (v := .int .i64 x.frame) hA34 rfl (ev_cell (v := .int .i64 x.frame) (hA34.ev (i := 21) (v := .pointer (some ⟨B22, 2, none⟩))) ((hx24_35.cell 2).trans rfl) Try.underlying3 rfl _ rfl) ?_
  intro a36 hA36; clear hA34
  refine sx_val (v := .agg #[.bool true, .int .i64 x.frame]) hA36 rfl (bd_key_0_1 (ec _ (.bool true)) (hA36.ev (i := 22) (v := .int .i64 x.frame)) _ rfl) ?_
  intro a37 hA37; clear hA36
  refine sx_val hA37 rfl (ev_move (hA37.ev (i := 4) (v := .int .i64 (k : Int))) _ rfl) ?_
  intro a38 hA38; clear hA37
  refine sx_upd mk_key (k := (true, x.frame)) (v := (k : Int)) hA38 rfl (.inl rfl) rfl Try.underlying74 hm32 (hA38.ev (i := 20) (v := .map (some B3))) (hA38.ev (i := 23) (v := .agg #[.bool true, .int .i64 x.frame])) (hA38.ev (i := 24) (v := .int .i64 (k : Int))) ?_
  intro w39 hm39 hg39
  have hs39 := hg39.size
  refine sx_nil ?_
  refine blk_n ?_
  refine then_n ?_
  refine wp_region_lit ?_
  refine sx_val (v := .int .i64 ((k + 1 : Nat) : Int)) hA38 rfl (ev_addR (k := .i64) (m := (k : Int)) (n := 1) (r := ((k + 1 : Nat) : Int)) (hA38.ev (i := 10)) (ec _ (.int .i64 1)) (wr (by omega) (by omega) (by omega)) _ rfl) ?_
  intro a40 hA40; clear hA38
  refine sx_val hA40 rfl (ev_move (hA40.ev (i := 25) (v := .int .i64 ((k + 1 : Nat) : Int))) _ rfl) ?_
  intro a41 hA41; clear hA40
  refine sx_nil ?_
  refine then_n ?_
  have hbel10_42 := Below.gN hbel10 hg22 hbel10.size
  have hbel10_43 := Below.gB hbel10_42 hg24 hbel10_42.size (by omega)
  have hbel10_44 := Below.gB hbel10_43 hg32 hbel10_43.size (by omega)
  have hbel10_45 := Below.gB hbel10_44 hg39 hbel10_44.size (by omega)
  refine ⟨js.length - (k + 1), by omega, k + 1, rfl, ((((((Ag.nil hA41.1 hA41.2.1).cons (hA41.get (i := 10) (v := .int .i64 ((k + 1 : Nat) : Int)))).cons (hA41.get (i := 9) (v := .int .i64 (js.length : Int)))).cons (hA41.get (i := 8) (v := .slice A2 js.length c2))).cons (hA41.get (i := 3) (v := .map (some B3)))).cons (hA41.get (i := 2) (v := .map none))), by omega, (by rw [jmf_succ hx]; exact hm39), by omega, hbel10_45⟩
end Go.Proofs.Ytbkdimildnahaaa
