/- headgatekit: SameInts, SameBools, SameSlots, Mod; the law: of, gives, drops, settles. -/
import Derived.Test.YtpoilgfblhacaaaKG
namespace Go.Proofs.Ytpoilgfblhacaaa
open Go.RowKit
set_option linter.unusedVariables false
set_option linter.unusedSimpArgs false
set_option maxRecDepth 100000

def sme (s t : Ss) : Bool := decide (s.rs = t.rs) && decide (s.bs = t.bs)
theorem sme_eq {s t : Ss} : sme s t = true ↔ s = t := by
  cases s; cases t; simp [sme]
theorem sme_refl (s : Ss) : sme s s = true := sme_eq.2 rfl
theorem list_eq {α : Type} {xs ys : List α} {k : Nat} (h1 : xs.length = ys.length) (h2 : xs.length ≤ k) (h : ∀ q, q < k → xs[q]? = ys[q]?) : xs = ys := by
  refine List.ext_getElem? fun q => ?_
  by_cases hq : q < k
  · exact h q hq
  · rw [List.getElem?_eq_none (by omega), List.getElem?_eq_none (by omega)]
theorem list_ne {α : Type} {xs ys : List α} {k : Nat} {x y : α} (hx : xs[k]? = some x) (hy : ys[k]? = some y) (h : x ≠ y) : xs ≠ ys := by
  rintro rfl
  rw [hx] at hy
  injection hy with hy
  exact h hy
theorem list_step {α : Type} {xs ys : List α} {k : Nat} {x y : α} (hx : xs[k]? = some x) (hy : ys[k]? = some y) (h : x = y) (hp : ∀ q, q < k → xs[q]? = ys[q]?) : ∀ q, q < k + 1 → xs[q]? = ys[q]? := by
  intro q hq
  by_cases he : q = k
  · rw [he, hx, hy, h]
  · exact hp q (by omega)
def ofr (xs : List Int) (k : Nat) : List Int := (xs.take k).map (· % 1000)
def ofb (xs : List Int) (k : Nat) : List Bool := (xs.take k).map (fun x => decide (1000 ≤ x))
theorem ofr_succ {xs : List Int} {k : Nat} {x : Int} (h : xs[k]? = some x) : ofr xs (k + 1) = ofr xs k ++ [x % 1000] := by
  unfold ofr; rw [List.take_add_one, h]; simp
theorem ofb_succ {xs : List Int} {k : Nat} {x : Int} (h : xs[k]? = some x) : ofb xs (k + 1) = ofb xs k ++ [decide (1000 ≤ x)] := by
  unfold ofb; rw [List.take_add_one, h]; simp
theorem ofr_len {xs : List Int} {k : Nat} (h : k ≤ xs.length) : (ofr xs k).length = k := by simp [ofr]; omega
theorem ofb_len {xs : List Int} {k : Nat} (h : k ≤ xs.length) : (ofb xs k).length = k := by simp [ofb]; omega
def ofS (xs : List Int) : Ss := ⟨ofr xs xs.length, ofb xs xs.length⟩

set_option maxHeartbeats 4000000 in
theorem SameInts_any (A1 : Option Addr) (c1 : Nat) (A2 : Option Addr) (c2 : Nat) (xs ys : List Int) (w : World) (h1 : GR 1 iva w A1 c1 xs) (h2 : GR 1 iva w A2 c2 ys) : Calls Try.prog 42 #[.slice A1 xs.length c1, .slice A2 ys.length c2] w (RetB w (.returned (.bool (decide (xs = ys))))) := by
  have hl1 := h1.len
  have hl2 := h2.len
  have hbel0 := below0 w
  refine sx_enter (N := 26) [(0, .slice A1 xs.length c1), (1, .slice A2 ys.length c2)] Try.func42 rfl Try.ntmps42 (by simp) (fun a z d s => (((Ag.nil z d).cons (s 1 _ rfl)).cons (s 0 _ rfl))) ?_
  intro a0 hA0
  refine wp_seq ?_
  refine wp_region_lit ?_
  refine sx_val hA0 rfl (ev_assign (ec _ (.bool false)) _ rfl) ?_
  intro a1 hA1; clear hA0
  refine sx_nil ?_
  refine then_n ?_
  refine wp_seq ?_
  refine wp_seq ?_
  refine wp_region_lit ?_
  refine sx_val hA1 rfl (ev_move (hA1.ev (i := 0) (v := .slice A1 xs.length c1)) _ rfl) ?_
  intro a2 hA2; clear hA1
  refine sx_val (v := .int .i64 (xs.length : Int)) hA2 rfl (ev_len (hA2.ev (i := 6) (v := .slice A1 xs.length c1)) Try.underlying22 _ rfl) ?_
  intro a3 hA3; clear hA2
  refine sx_val hA3 rfl (ev_move (hA3.ev (i := 1) (v := .slice A2 ys.length c2)) _ rfl) ?_
  intro a4 hA4; clear hA3
  refine sx_val (v := .int .i64 (ys.length : Int)) hA4 rfl (ev_len (hA4.ev (i := 8) (v := .slice A2 ys.length c2)) Try.underlying22 _ rfl) ?_
  intro a5 hA5; clear hA4
  cases hd6 : decide ((xs.length : Int) = (ys.length : Int))
  · have hp6 := of_decide_eq_false hd6
    refine sx_val (v := .bool true) hA5 rfl (ev_neqB (k := .i64) (m := (xs.length : Int)) (n := (ys.length : Int)) (hA5.ev (i := 7)) (hA5.ev (i := 9)) (by simpa using hd6) _ rfl) ?_
    intro a7 hA7; clear hA5
    refine sx_nil ?_
    refine then_n ?_
    refine wp_cond_true (hA7.ev (i := 10) (v := .bool true)) ?_
    refine wp_seq ?_
    refine wp_region_lit ?_
    refine sx_val hA7 rfl (ev_assign (ec _ (.bool false)) _ rfl) ?_
    intro a8 hA8; clear hA7
    refine sx_nil ?_
    refine then_n ?_
    refine wp_ret ?_
    refine then_r ?_
    refine bodyPost_ret (rs_t (v := .bool false) Try.results42 hA8 (by kernel_rfl) ) hA8.2.1 ?_
    have E : decide (xs = ys) = false := decide_eq_false (fun e => absurd (congrArg (fun l => ((List.length l : Nat) : Int)) e) hp6)
    exact ⟨by rw [E], hbel0⟩
  have hp6 := of_decide_eq_true hd6
  refine sx_val (v := .bool false) hA5 rfl (ev_neqB (k := .i64) (m := (xs.length : Int)) (n := (ys.length : Int)) (hA5.ev (i := 7)) (hA5.ev (i := 9)) (by simpa using hd6) _ rfl) ?_
  intro a9 hA9; clear hA5
  refine sx_nil ?_
  refine then_n ?_
  refine wp_cond_false (hA9.ev (i := 10) (v := .bool false)) ?_
  refine wp_skip ?_
  refine then_n ?_
  refine wp_seq ?_
  refine wp_seq ?_
  refine wp_region_lit ?_
  refine sx_val hA9 rfl (ev_assign (ec _ (.int .i64 0)) _ rfl) ?_
  intro a10 hA10; clear hA9
  refine sx_nil ?_
  refine then_n ?_
  refine wp_block ?_
  refine wp_loop_ghost (fun gz a wl => ∃ (k : Nat), gz = xs.length - k ∧ Ag a 26 [(0, .slice A1 xs.length c1), (1, .slice A2 ys.length c2), (5, .int .i64 (k : Int))] ∧ k ≤ xs.length ∧ (∀ q, q < k → xs[q]? = ys[q]?) ∧ w.heap.size ≤ wl.heap.size ∧ Below w.heap.size w wl) (xs.length - 0) ⟨0, rfl, ((((Ag.nil hA10.1 hA10.2.1).cons (hA10.get (i := 5) (v := .int .i64 0))).cons (hA10.get (i := 1) (v := .slice A2 ys.length c2))).cons (hA10.get (i := 0) (v := .slice A1 xs.length c1))), Nat.zero_le _, (fun q h => absurd h (by omega)), Nat.le_refl _, hbel0⟩ ?_
  intro n11 a11 w11 hI11
  obtain ⟨k, hn11, hA11, q11_0, q11_1, hsz11, hbel11⟩ := hI11
  subst hn11
  clear hA10
  cases hd12 : decide ((k : Int) < (xs.length : Int))
  · have hp12 := of_decide_eq_false hd12
    refine wp_seq ?_
    refine wp_seq ?_
    refine wp_region_lit ?_
    refine sx_val hA11 rfl (ev_move (hA11.ev (i := 5) (v := .int .i64 (k : Int))) _ rfl) ?_
    intro a13 hA13; clear hA11
    refine sx_val hA13 rfl (ev_move (hA13.ev (i := 0) (v := .slice A1 xs.length c1)) _ rfl) ?_
    intro a14 hA14; clear hA13
    refine sx_val (v := .int .i64 (xs.length : Int)) hA14 rfl (ev_len (hA14.ev (i := 12) (v := .slice A1 xs.length c1)) Try.underlying22 _ rfl) ?_
    intro a15 hA15; clear hA14
    refine sx_val (v := .bool false) hA15 rfl (ev_lssB (k := .i64) (m := (k : Int)) (n := (xs.length : Int)) (hA15.ev (i := 11)) (hA15.ev (i := 13)) hd12 _ rfl) ?_
    intro a16 hA16; clear hA15
    refine sx_nil ?_
    refine then_n ?_
    refine wp_cond_false (hA16.ev (i := 14) (v := .bool false)) ?_
    refine wp_exit ?_
    refine then_x ?_
    refine then_x ?_
    refine blk_hit ?_
    refine then_n ?_
    refine wp_seq ?_
    refine wp_region_lit ?_
    refine sx_val hA16 rfl (ev_assign (ec _ (.bool true)) _ rfl) ?_
    intro a17 hA17; clear hA16
    refine sx_nil ?_
    refine then_n ?_
    refine wp_ret ?_
    refine bodyPost_ret (rs_t (v := .bool true) Try.results42 hA17 (by kernel_rfl) ) hA17.2.1 ?_
    have E : decide (xs = ys) = true := decide_eq_true (list_eq (k := k) (by omega) (by omega) q11_1)
    exact ⟨by rw [E], hbel11⟩
  have hp12 := of_decide_eq_true hd12
  obtain ⟨x, hx⟩ : ∃ x, xs[k]? = some x := ⟨_, List.getElem?_eq_getElem (by omega)⟩
  obtain ⟨y, hy⟩ : ∃ y, ys[k]? = some y := ⟨_, List.getElem?_eq_getElem (by omega)⟩
  obtain ⟨ad1, hAd1⟩ := GR.adr h1 iva_sz hx
  obtain ⟨ad2, hAd2⟩ := GR.adr h2 iva_sz hy
  refine wp_seq ?_
  refine wp_seq ?_
  refine wp_region_lit ?_
  refine sx_val hA11 rfl (ev_move (hA11.ev (i := 5) (v := .int .i64 (k : Int))) _ rfl) ?_
  intro a18 hA18; clear hA11
  refine sx_val hA18 rfl (ev_move (hA18.ev (i := 0) (v := .slice A1 xs.length c1)) _ rfl) ?_
  intro a19 hA19; clear hA18
  refine sx_val (v := .int .i64 (xs.length : Int)) hA19 rfl (ev_len (hA19.ev (i := 12) (v := .slice A1 xs.length c1)) Try.underlying22 _ rfl) ?_
  intro a20 hA20; clear hA19
  refine sx_val (v := .bool true) hA20 rfl (ev_lssB (k := .i64) (m := (k : Int)) (n := (xs.length : Int)) (hA20.ev (i := 11)) (hA20.ev (i := 13)) hd12 _ rfl) ?_
  intro a21 hA21; clear hA20
  refine sx_nil ?_
  refine then_n ?_
  refine wp_cond_true (hA21.ev (i := 14) (v := .bool true)) ?_
  refine wp_skip ?_
  refine then_n ?_
  refine wp_seq ?_
  refine wp_block ?_
  refine wp_seq ?_
  cases hd22 : decide (x = y)
  · have hp22 := of_decide_eq_false hd22
    refine region_D (n := 9) (by kernel_rfl) (by kernel_rfl) rfl (fun L ac wc => Below w.heap.size w wc ∧ w11.heap.size ≤ wc.heap.size ∧ (L 0 = true → Sv ac 17 (.slice A1 xs.length c1)) ∧ (L 1 = true → Sv ac 18 (.int .i64 (k : Int))) ∧ (L 2 = true → Sv ac 19 (.pointer (some (ad1.add (k * 1))))) ∧ (L 3 = true → Sv ac 20 (.int .i64 x)) ∧ (L 4 = true → Sv ac 21 (.slice A2 ys.length c2)) ∧ (L 5 = true → Sv ac 22 (.int .i64 (k : Int))) ∧ (L 6 = true → Sv ac 23 (.pointer (some (ad2.add (k * 1))))) ∧ (L 7 = true → Sv ac 24 (.int .i64 y)) ∧ (L 8 = true → Sv ac 25 (.bool true))) ⟨(Below.gN hbel11 (gdr _) hbel11.size), (Nat.le_refl _), (fun h => by cases h), (fun h => by cases h), (fun h => by cases h), (fun h => by cases h), (fun h => by cases h), (fun h => by cases h), (fun h => by cases h), (fun h => by cases h), (fun h => by cases h)⟩ ?_ ?_
    · intro iq hiq o ho L hL hdep ac wc hF hJ
      obtain ⟨bl, sz, s_17, s_18, s_19, s_20, s_21, s_22, s_23, s_24, s_25⟩ := hJ
      have zq := hF.1.trans hA21.1
      match iq, hiq with
      | 0, _ =>
        obtain rfl := Option.some.inj (show some _ = some o from ho); clear ho
        have v0 := hF.sv (s := 0) (by kernel_rfl) (hA21.get (i := 0) (v := .slice A1 xs.length c1))
        refine dj_val (i := 0) (v := .slice A1 xs.length c1) rfl (.inl rfl) (ev_move v0.eval _ rfl) ?_
        exact ⟨⟨_, rfl⟩, bl, sz, (fun _ => Sv.self (by rw [zq]; decide) _), (so s_18), (so s_19), (so s_20), (so s_21), (so s_22), (so s_23), (so s_24), (so s_25)⟩
      | 1, _ =>
        obtain rfl := Option.some.inj (show some _ = some o from ho); clear ho
        have v5 := hF.sv (s := 5) (by kernel_rfl) (hA21.get (i := 5) (v := .int .i64 (k : Int)))
        refine dj_val (i := 1) (v := .int .i64 (k : Int)) rfl (.inl rfl) (ev_move v5.eval _ rfl) ?_
        exact ⟨⟨_, rfl⟩, bl, sz, (so s_17), (fun _ => Sv.self (by rw [zq]; decide) _), (so s_19), (so s_20), (so s_21), (so s_22), (so s_23), (so s_24), (so s_25)⟩
      | 2, _ =>
        obtain rfl := Option.some.inj (show some _ = some o from ho); clear ho
        have v17 := s_17 (dp hdep 0)
        have v18 := s_18 (dp hdep 1)
        refine dj_val (i := 2) (v := .pointer (some (ad1.add (k * 1)))) rfl (.inl rfl) (ev_idx (k := k) v17.eval hAd1 v18.eval rfl (by omega) Try.underlying22 (by kernel_rfl) _ rfl) ?_
        exact ⟨⟨_, rfl⟩, bl, sz, (so s_17), (so s_18), (fun _ => Sv.self (by rw [zq]; decide) _), (so s_20), (so s_21), (so s_22), (so s_23), (so s_24), (so s_25)⟩
      | 3, _ =>
        obtain rfl := Option.some.inj (show some _ = some o from ho); clear ho
        have v19 := s_19 (dp hdep 2)
        refine dj_val (i := 3) (v := .int .i64 x) rfl (.inl rfl) (ev_cell v19.eval ((GR.cel (h1.below bl) hAd1 iva_sz hx) 0 _ rfl) Try.underlying3 rfl _ rfl) ?_
        exact ⟨⟨_, rfl⟩, bl, sz, (so s_17), (so s_18), (so s_19), (fun _ => Sv.self (by rw [zq]; decide) _), (so s_21), (so s_22), (so s_23), (so s_24), (so s_25)⟩
      | 4, _ =>
        obtain rfl := Option.some.inj (show some _ = some o from ho); clear ho
        have v1 := hF.sv (s := 1) (by kernel_rfl) (hA21.get (i := 1) (v := .slice A2 ys.length c2))
        refine dj_val (i := 4) (v := .slice A2 ys.length c2) rfl (.inl rfl) (ev_move v1.eval _ rfl) ?_
        exact ⟨⟨_, rfl⟩, bl, sz, (so s_17), (so s_18), (so s_19), (so s_20), (fun _ => Sv.self (by rw [zq]; decide) _), (so s_22), (so s_23), (so s_24), (so s_25)⟩
      | 5, _ =>
        obtain rfl := Option.some.inj (show some _ = some o from ho); clear ho
        have v5 := hF.sv (s := 5) (by kernel_rfl) (hA21.get (i := 5) (v := .int .i64 (k : Int)))
        refine dj_val (i := 5) (v := .int .i64 (k : Int)) rfl (.inl rfl) (ev_move v5.eval _ rfl) ?_
        exact ⟨⟨_, rfl⟩, bl, sz, (so s_17), (so s_18), (so s_19), (so s_20), (so s_21), (fun _ => Sv.self (by rw [zq]; decide) _), (so s_23), (so s_24), (so s_25)⟩
      | 6, _ =>
        obtain rfl := Option.some.inj (show some _ = some o from ho); clear ho
        have v21 := s_21 (dp hdep 4)
        have v22 := s_22 (dp hdep 5)
        refine dj_val (i := 6) (v := .pointer (some (ad2.add (k * 1)))) rfl (.inl rfl) (ev_idx (k := k) v21.eval hAd2 v22.eval rfl (by omega) Try.underlying22 (by kernel_rfl) _ rfl) ?_
        exact ⟨⟨_, rfl⟩, bl, sz, (so s_17), (so s_18), (so s_19), (so s_20), (so s_21), (so s_22), (fun _ => Sv.self (by rw [zq]; decide) _), (so s_24), (so s_25)⟩
      | 7, _ =>
        obtain rfl := Option.some.inj (show some _ = some o from ho); clear ho
        have v23 := s_23 (dp hdep 6)
        refine dj_val (i := 7) (v := .int .i64 y) rfl (.inl rfl) (ev_cell v23.eval ((GR.cel (h2.below bl) hAd2 iva_sz hy) 0 _ rfl) Try.underlying3 rfl _ rfl) ?_
        exact ⟨⟨_, rfl⟩, bl, sz, (so s_17), (so s_18), (so s_19), (so s_20), (so s_21), (so s_22), (so s_23), (fun _ => Sv.self (by rw [zq]; decide) _), (so s_25)⟩
      | 8, _ =>
        obtain rfl := Option.some.inj (show some _ = some o from ho); clear ho
        have v20 := s_20 (dp hdep 3)
        have v24 := s_24 (dp hdep 7)
        refine dj_val (i := 8) (v := .bool true) rfl (.inl rfl) (ev_neqB (k := .i64) (m := x) (n := y) v20.eval v24.eval (by simpa using hd22) _ rfl) ?_
        exact ⟨⟨_, rfl⟩, bl, sz, (so s_17), (so s_18), (so s_19), (so s_20), (so s_21), (so s_22), (so s_23), (so s_24), (fun _ => Sv.self (by rw [zq]; decide) _)⟩
      | k + 9, h => exact absurd h (by omega)
    · intro L hall ac23 wc23 hF hJ
      obtain ⟨bl, sz, s_17, s_18, s_19, s_20, s_21, s_22, s_23, s_24, s_25⟩ := hJ
      have hA23 : Ag ac23 26 [(0, .slice A1 xs.length c1), (1, .slice A2 ys.length c2), (5, .int .i64 (k : Int)), (11, .int .i64 (k : Int)), (12, .slice A1 xs.length c1), (13, .int .i64 (xs.length : Int)), (14, .bool true), (17, .slice A1 xs.length c1), (18, .int .i64 (k : Int)), (19, .pointer (some (ad1.add (k * 1)))), (20, .int .i64 x), (21, .slice A2 ys.length c2), (22, .int .i64 (k : Int)), (23, .pointer (some (ad2.add (k * 1)))), (24, .int .i64 y), (25, .bool true)] := (((((((((((((((((Ag.nil (hF.1.trans hA21.1) (hF.2.1.trans hA21.2.1)).cons (s_25 (hall 8 (by decide)))).cons (s_24 (hall 7 (by decide)))).cons (s_23 (hall 6 (by decide)))).cons (s_22 (hall 5 (by decide)))).cons (s_21 (hall 4 (by decide)))).cons (s_20 (hall 3 (by decide)))).cons (s_19 (hall 2 (by decide)))).cons (s_18 (hall 1 (by decide)))).cons (s_17 (hall 0 (by decide)))).cons (hF.sv (s := 14) (by kernel_rfl) (hA21.get (i := 14) (v := .bool true)))).cons (hF.sv (s := 13) (by kernel_rfl) (hA21.get (i := 13) (v := .int .i64 (xs.length : Int))))).cons (hF.sv (s := 12) (by kernel_rfl) (hA21.get (i := 12) (v := .slice A1 xs.length c1)))).cons (hF.sv (s := 11) (by kernel_rfl) (hA21.get (i := 11) (v := .int .i64 (k : Int))))).cons (hF.sv (s := 5) (by kernel_rfl) (hA21.get (i := 5) (v := .int .i64 (k : Int))))).cons (hF.sv (s := 1) (by kernel_rfl) (hA21.get (i := 1) (v := .slice A2 ys.length c2)))).cons (hF.sv (s := 0) (by kernel_rfl) (hA21.get (i := 0) (v := .slice A1 xs.length c1))))
      have bl23 := bl
      have sz23 := sz
      clear hF bl sz s_17 s_18 s_19 s_20 s_21 s_22 s_23 s_24 s_25 hall hA21
      refine then_n ?_
      refine wp_cond_true (hA23.ev (i := 25) (v := .bool true)) ?_
      refine wp_seq ?_
      refine wp_region_lit ?_
      refine sx_val hA23 rfl (ev_assign (ec _ (.bool false)) _ rfl) ?_
      intro a24 hA24; clear hA23
      refine sx_nil ?_
      refine then_n ?_
      refine wp_ret ?_
      refine blk_r ?_
      refine then_r ?_
      refine then_r ?_
      refine blk_r ?_
      refine then_r ?_
      refine bodyPost_ret (rs_t (v := .bool false) Try.results42 hA24 (by kernel_rfl) ) hA24.2.1 ?_
      have E : decide (xs = ys) = false := decide_eq_false (list_ne hx hy hp22)
      exact ⟨by rw [E], bl23⟩
  have hp22 := of_decide_eq_true hd22
  refine region_D (n := 9) (by kernel_rfl) (by kernel_rfl) rfl (fun L ac wc => Below w.heap.size w wc ∧ w11.heap.size ≤ wc.heap.size ∧ (L 0 = true → Sv ac 17 (.slice A1 xs.length c1)) ∧ (L 1 = true → Sv ac 18 (.int .i64 (k : Int))) ∧ (L 2 = true → Sv ac 19 (.pointer (some (ad1.add (k * 1))))) ∧ (L 3 = true → Sv ac 20 (.int .i64 x)) ∧ (L 4 = true → Sv ac 21 (.slice A2 ys.length c2)) ∧ (L 5 = true → Sv ac 22 (.int .i64 (k : Int))) ∧ (L 6 = true → Sv ac 23 (.pointer (some (ad2.add (k * 1))))) ∧ (L 7 = true → Sv ac 24 (.int .i64 y)) ∧ (L 8 = true → Sv ac 25 (.bool false))) ⟨(Below.gN hbel11 (gdr _) hbel11.size), (Nat.le_refl _), (fun h => by cases h), (fun h => by cases h), (fun h => by cases h), (fun h => by cases h), (fun h => by cases h), (fun h => by cases h), (fun h => by cases h), (fun h => by cases h), (fun h => by cases h)⟩ ?_ ?_
  · intro iq hiq o ho L hL hdep ac wc hF hJ
    obtain ⟨bl, sz, s_17, s_18, s_19, s_20, s_21, s_22, s_23, s_24, s_25⟩ := hJ
    have zq := hF.1.trans hA21.1
    match iq, hiq with
    | 0, _ =>
      obtain rfl := Option.some.inj (show some _ = some o from ho); clear ho
      have v0 := hF.sv (s := 0) (by kernel_rfl) (hA21.get (i := 0) (v := .slice A1 xs.length c1))
      refine dj_val (i := 0) (v := .slice A1 xs.length c1) rfl (.inl rfl) (ev_move v0.eval _ rfl) ?_
      exact ⟨⟨_, rfl⟩, bl, sz, (fun _ => Sv.self (by rw [zq]; decide) _), (so s_18), (so s_19), (so s_20), (so s_21), (so s_22), (so s_23), (so s_24), (so s_25)⟩
    | 1, _ =>
      obtain rfl := Option.some.inj (show some _ = some o from ho); clear ho
      have v5 := hF.sv (s := 5) (by kernel_rfl) (hA21.get (i := 5) (v := .int .i64 (k : Int)))
      refine dj_val (i := 1) (v := .int .i64 (k : Int)) rfl (.inl rfl) (ev_move v5.eval _ rfl) ?_
      exact ⟨⟨_, rfl⟩, bl, sz, (so s_17), (fun _ => Sv.self (by rw [zq]; decide) _), (so s_19), (so s_20), (so s_21), (so s_22), (so s_23), (so s_24), (so s_25)⟩
    | 2, _ =>
      obtain rfl := Option.some.inj (show some _ = some o from ho); clear ho
      have v17 := s_17 (dp hdep 0)
      have v18 := s_18 (dp hdep 1)
      refine dj_val (i := 2) (v := .pointer (some (ad1.add (k * 1)))) rfl (.inl rfl) (ev_idx (k := k) v17.eval hAd1 v18.eval rfl (by omega) Try.underlying22 (by kernel_rfl) _ rfl) ?_
      exact ⟨⟨_, rfl⟩, bl, sz, (so s_17), (so s_18), (fun _ => Sv.self (by rw [zq]; decide) _), (so s_20), (so s_21), (so s_22), (so s_23), (so s_24), (so s_25)⟩
    | 3, _ =>
      obtain rfl := Option.some.inj (show some _ = some o from ho); clear ho
      have v19 := s_19 (dp hdep 2)
      refine dj_val (i := 3) (v := .int .i64 x) rfl (.inl rfl) (ev_cell v19.eval ((GR.cel (h1.below bl) hAd1 iva_sz hx) 0 _ rfl) Try.underlying3 rfl _ rfl) ?_
      exact ⟨⟨_, rfl⟩, bl, sz, (so s_17), (so s_18), (so s_19), (fun _ => Sv.self (by rw [zq]; decide) _), (so s_21), (so s_22), (so s_23), (so s_24), (so s_25)⟩
    | 4, _ =>
      obtain rfl := Option.some.inj (show some _ = some o from ho); clear ho
      have v1 := hF.sv (s := 1) (by kernel_rfl) (hA21.get (i := 1) (v := .slice A2 ys.length c2))
      refine dj_val (i := 4) (v := .slice A2 ys.length c2) rfl (.inl rfl) (ev_move v1.eval _ rfl) ?_
      exact ⟨⟨_, rfl⟩, bl, sz, (so s_17), (so s_18), (so s_19), (so s_20), (fun _ => Sv.self (by rw [zq]; decide) _), (so s_22), (so s_23), (so s_24), (so s_25)⟩
    | 5, _ =>
      obtain rfl := Option.some.inj (show some _ = some o from ho); clear ho
      have v5 := hF.sv (s := 5) (by kernel_rfl) (hA21.get (i := 5) (v := .int .i64 (k : Int)))
      refine dj_val (i := 5) (v := .int .i64 (k : Int)) rfl (.inl rfl) (ev_move v5.eval _ rfl) ?_
      exact ⟨⟨_, rfl⟩, bl, sz, (so s_17), (so s_18), (so s_19), (so s_20), (so s_21), (fun _ => Sv.self (by rw [zq]; decide) _), (so s_23), (so s_24), (so s_25)⟩
    | 6, _ =>
      obtain rfl := Option.some.inj (show some _ = some o from ho); clear ho
      have v21 := s_21 (dp hdep 4)
      have v22 := s_22 (dp hdep 5)
      refine dj_val (i := 6) (v := .pointer (some (ad2.add (k * 1)))) rfl (.inl rfl) (ev_idx (k := k) v21.eval hAd2 v22.eval rfl (by omega) Try.underlying22 (by kernel_rfl) _ rfl) ?_
      exact ⟨⟨_, rfl⟩, bl, sz, (so s_17), (so s_18), (so s_19), (so s_20), (so s_21), (so s_22), (fun _ => Sv.self (by rw [zq]; decide) _), (so s_24), (so s_25)⟩
    | 7, _ =>
      obtain rfl := Option.some.inj (show some _ = some o from ho); clear ho
      have v23 := s_23 (dp hdep 6)
      refine dj_val (i := 7) (v := .int .i64 y) rfl (.inl rfl) (ev_cell v23.eval ((GR.cel (h2.below bl) hAd2 iva_sz hy) 0 _ rfl) Try.underlying3 rfl _ rfl) ?_
      exact ⟨⟨_, rfl⟩, bl, sz, (so s_17), (so s_18), (so s_19), (so s_20), (so s_21), (so s_22), (so s_23), (fun _ => Sv.self (by rw [zq]; decide) _), (so s_25)⟩
    | 8, _ =>
      obtain rfl := Option.some.inj (show some _ = some o from ho); clear ho
      have v20 := s_20 (dp hdep 3)
      have v24 := s_24 (dp hdep 7)
      refine dj_val (i := 8) (v := .bool false) rfl (.inl rfl) (ev_neqB (k := .i64) (m := x) (n := y) v20.eval v24.eval (by simpa using hd22) _ rfl) ?_
      exact ⟨⟨_, rfl⟩, bl, sz, (so s_17), (so s_18), (so s_19), (so s_20), (so s_21), (so s_22), (so s_23), (so s_24), (fun _ => Sv.self (by rw [zq]; decide) _)⟩
    | k + 9, h => exact absurd h (by omega)
  · intro L hall ac25 wc25 hF hJ
    obtain ⟨bl, sz, s_17, s_18, s_19, s_20, s_21, s_22, s_23, s_24, s_25⟩ := hJ
    have hA25 : Ag ac25 26 [(0, .slice A1 xs.length c1), (1, .slice A2 ys.length c2), (5, .int .i64 (k : Int)), (11, .int .i64 (k : Int)), (12, .slice A1 xs.length c1), (13, .int .i64 (xs.length : Int)), (14, .bool true), (17, .slice A1 xs.length c1), (18, .int .i64 (k : Int)), (19, .pointer (some (ad1.add (k * 1)))), (20, .int .i64 x), (21, .slice A2 ys.length c2), (22, .int .i64 (k : Int)), (23, .pointer (some (ad2.add (k * 1)))), (24, .int .i64 y), (25, .bool false)] := (((((((((((((((((Ag.nil (hF.1.trans hA21.1) (hF.2.1.trans hA21.2.1)).cons (s_25 (hall 8 (by decide)))).cons (s_24 (hall 7 (by decide)))).cons (s_23 (hall 6 (by decide)))).cons (s_22 (hall 5 (by decide)))).cons (s_21 (hall 4 (by decide)))).cons (s_20 (hall 3 (by decide)))).cons (s_19 (hall 2 (by decide)))).cons (s_18 (hall 1 (by decide)))).cons (s_17 (hall 0 (by decide)))).cons (hF.sv (s := 14) (by kernel_rfl) (hA21.get (i := 14) (v := .bool true)))).cons (hF.sv (s := 13) (by kernel_rfl) (hA21.get (i := 13) (v := .int .i64 (xs.length : Int))))).cons (hF.sv (s := 12) (by kernel_rfl) (hA21.get (i := 12) (v := .slice A1 xs.length c1)))).cons (hF.sv (s := 11) (by kernel_rfl) (hA21.get (i := 11) (v := .int .i64 (k : Int))))).cons (hF.sv (s := 5) (by kernel_rfl) (hA21.get (i := 5) (v := .int .i64 (k : Int))))).cons (hF.sv (s := 1) (by kernel_rfl) (hA21.get (i := 1) (v := .slice A2 ys.length c2)))).cons (hF.sv (s := 0) (by kernel_rfl) (hA21.get (i := 0) (v := .slice A1 xs.length c1))))
    have bl25 := bl
    have sz25 := sz
    clear hF bl sz s_17 s_18 s_19 s_20 s_21 s_22 s_23 s_24 s_25 hall hA21
    refine then_n ?_
    refine wp_cond_false (hA25.ev (i := 25) (v := .bool false)) ?_
    refine wp_skip ?_
    refine blk_n ?_
    refine then_n ?_
    refine wp_region_lit ?_
    refine sx_val hA25 rfl (ev_move (hA25.ev (i := 5) (v := .int .i64 (k : Int))) _ rfl) ?_
    intro a26 hA26; clear hA25
    refine sx_val (v := .int .i64 ((k + 1 : Nat) : Int)) hA26 rfl (ev_addR (k := .i64) (m := (k : Int)) (n := 1) (r := ((k + 1 : Nat) : Int)) (hA26.ev (i := 15)) (ec _ (.int .i64 1)) (wr (by omega) (by omega) (by omega)) _ rfl) ?_
    intro a27 hA27; clear hA26
    refine sx_val hA27 rfl (ev_assign (hA27.ev (i := 16) (v := .int .i64 ((k + 1 : Nat) : Int))) _ rfl) ?_
    intro a28 hA28; clear hA27
    refine sx_nil ?_
    refine then_n ?_
    refine ⟨xs.length - (k + 1), by omega, k + 1, rfl, ((((Ag.nil hA28.1 hA28.2.1).cons (hA28.get (i := 5) (v := .int .i64 ((k + 1 : Nat) : Int)))).cons (hA28.get (i := 1) (v := .slice A2 ys.length c2))).cons (hA28.get (i := 0) (v := .slice A1 xs.length c1))), by omega, list_step hx hy hp22 q11_1, by omega, bl25⟩

set_option maxHeartbeats 4000000 in
theorem SameBools_any (A1 : Option Addr) (c1 : Nat) (A2 : Option Addr) (c2 : Nat) (xs ys : List Bool) (w : World) (h1 : GR 1 bva w A1 c1 xs) (h2 : GR 1 bva w A2 c2 ys) : Calls Try.prog 43 #[.slice A1 xs.length c1, .slice A2 ys.length c2] w (RetB w (.returned (.bool (decide (xs = ys))))) := by
  have hl1 := h1.len
  have hl2 := h2.len
  have hbel0 := below0 w
  refine sx_enter (N := 26) [(0, .slice A1 xs.length c1), (1, .slice A2 ys.length c2)] Try.func43 rfl Try.ntmps43 (by simp) (fun a z d s => (((Ag.nil z d).cons (s 1 _ rfl)).cons (s 0 _ rfl))) ?_
  intro a0 hA0
  refine wp_seq ?_
  refine wp_region_lit ?_
  refine sx_val hA0 rfl (ev_assign (ec _ (.bool false)) _ rfl) ?_
  intro a1 hA1; clear hA0
  refine sx_nil ?_
  refine then_n ?_
  refine wp_seq ?_
  refine wp_seq ?_
  refine wp_region_lit ?_
  refine sx_val hA1 rfl (ev_move (hA1.ev (i := 0) (v := .slice A1 xs.length c1)) _ rfl) ?_
  intro a2 hA2; clear hA1
  refine sx_val (v := .int .i64 (xs.length : Int)) hA2 rfl (ev_len (hA2.ev (i := 6) (v := .slice A1 xs.length c1)) Try.underlying23 _ rfl) ?_
  intro a3 hA3; clear hA2
  refine sx_val hA3 rfl (ev_move (hA3.ev (i := 1) (v := .slice A2 ys.length c2)) _ rfl) ?_
  intro a4 hA4; clear hA3
  refine sx_val (v := .int .i64 (ys.length : Int)) hA4 rfl (ev_len (hA4.ev (i := 8) (v := .slice A2 ys.length c2)) Try.underlying23 _ rfl) ?_
  intro a5 hA5; clear hA4
  cases hd6 : decide ((xs.length : Int) = (ys.length : Int))
  · have hp6 := of_decide_eq_false hd6
    refine sx_val (v := .bool true) hA5 rfl (ev_neqB (k := .i64) (m := (xs.length : Int)) (n := (ys.length : Int)) (hA5.ev (i := 7)) (hA5.ev (i := 9)) (by simpa using hd6) _ rfl) ?_
    intro a7 hA7; clear hA5
    refine sx_nil ?_
    refine then_n ?_
    refine wp_cond_true (hA7.ev (i := 10) (v := .bool true)) ?_
    refine wp_seq ?_
    refine wp_region_lit ?_
    refine sx_val hA7 rfl (ev_assign (ec _ (.bool false)) _ rfl) ?_
    intro a8 hA8; clear hA7
    refine sx_nil ?_
    refine then_n ?_
    refine wp_ret ?_
    refine then_r ?_
    refine bodyPost_ret (rs_t (v := .bool false) Try.results43 hA8 (by kernel_rfl) ) hA8.2.1 ?_
    have E : decide (xs = ys) = false := decide_eq_false (fun e => absurd (congrArg (fun l => ((List.length l : Nat) : Int)) e) hp6)
    exact ⟨by rw [E], hbel0⟩
  have hp6 := of_decide_eq_true hd6
  refine sx_val (v := .bool false) hA5 rfl (ev_neqB (k := .i64) (m := (xs.length : Int)) (n := (ys.length : Int)) (hA5.ev (i := 7)) (hA5.ev (i := 9)) (by simpa using hd6) _ rfl) ?_
  intro a9 hA9; clear hA5
  refine sx_nil ?_
  refine then_n ?_
  refine wp_cond_false (hA9.ev (i := 10) (v := .bool false)) ?_
  refine wp_skip ?_
  refine then_n ?_
  refine wp_seq ?_
  refine wp_seq ?_
  refine wp_region_lit ?_
  refine sx_val hA9 rfl (ev_assign (ec _ (.int .i64 0)) _ rfl) ?_
  intro a10 hA10; clear hA9
  refine sx_nil ?_
  refine then_n ?_
  refine wp_block ?_
  refine wp_loop_ghost (fun gz a wl => ∃ (k : Nat), gz = xs.length - k ∧ Ag a 26 [(0, .slice A1 xs.length c1), (1, .slice A2 ys.length c2), (5, .int .i64 (k : Int))] ∧ k ≤ xs.length ∧ (∀ q, q < k → xs[q]? = ys[q]?) ∧ w.heap.size ≤ wl.heap.size ∧ Below w.heap.size w wl) (xs.length - 0) ⟨0, rfl, ((((Ag.nil hA10.1 hA10.2.1).cons (hA10.get (i := 5) (v := .int .i64 0))).cons (hA10.get (i := 1) (v := .slice A2 ys.length c2))).cons (hA10.get (i := 0) (v := .slice A1 xs.length c1))), Nat.zero_le _, (fun q h => absurd h (by omega)), Nat.le_refl _, hbel0⟩ ?_
  intro n11 a11 w11 hI11
  obtain ⟨k, hn11, hA11, q11_0, q11_1, hsz11, hbel11⟩ := hI11
  subst hn11
  clear hA10
  cases hd12 : decide ((k : Int) < (xs.length : Int))
  · have hp12 := of_decide_eq_false hd12
    refine wp_seq ?_
    refine wp_seq ?_
    refine wp_region_lit ?_
    refine sx_val hA11 rfl (ev_move (hA11.ev (i := 5) (v := .int .i64 (k : Int))) _ rfl) ?_
    intro a13 hA13; clear hA11
    refine sx_val hA13 rfl (ev_move (hA13.ev (i := 0) (v := .slice A1 xs.length c1)) _ rfl) ?_
    intro a14 hA14; clear hA13
    refine sx_val (v := .int .i64 (xs.length : Int)) hA14 rfl (ev_len (hA14.ev (i := 12) (v := .slice A1 xs.length c1)) Try.underlying23 _ rfl) ?_
    intro a15 hA15; clear hA14
    refine sx_val (v := .bool false) hA15 rfl (ev_lssB (k := .i64) (m := (k : Int)) (n := (xs.length : Int)) (hA15.ev (i := 11)) (hA15.ev (i := 13)) hd12 _ rfl) ?_
    intro a16 hA16; clear hA15
    refine sx_nil ?_
    refine then_n ?_
    refine wp_cond_false (hA16.ev (i := 14) (v := .bool false)) ?_
    refine wp_exit ?_
    refine then_x ?_
    refine then_x ?_
    refine blk_hit ?_
    refine then_n ?_
    refine wp_seq ?_
    refine wp_region_lit ?_
    refine sx_val hA16 rfl (ev_assign (ec _ (.bool true)) _ rfl) ?_
    intro a17 hA17; clear hA16
    refine sx_nil ?_
    refine then_n ?_
    refine wp_ret ?_
    refine bodyPost_ret (rs_t (v := .bool true) Try.results43 hA17 (by kernel_rfl) ) hA17.2.1 ?_
    have E : decide (xs = ys) = true := decide_eq_true (list_eq (k := k) (by omega) (by omega) q11_1)
    exact ⟨by rw [E], hbel11⟩
  have hp12 := of_decide_eq_true hd12
  obtain ⟨x, hx⟩ : ∃ x, xs[k]? = some x := ⟨_, List.getElem?_eq_getElem (by omega)⟩
  obtain ⟨y, hy⟩ : ∃ y, ys[k]? = some y := ⟨_, List.getElem?_eq_getElem (by omega)⟩
  obtain ⟨ad1, hAd1⟩ := GR.adr h1 bva_sz hx
  obtain ⟨ad2, hAd2⟩ := GR.adr h2 bva_sz hy
  refine wp_seq ?_
  refine wp_seq ?_
  refine wp_region_lit ?_
  refine sx_val hA11 rfl (ev_move (hA11.ev (i := 5) (v := .int .i64 (k : Int))) _ rfl) ?_
  intro a18 hA18; clear hA11
  refine sx_val hA18 rfl (ev_move (hA18.ev (i := 0) (v := .slice A1 xs.length c1)) _ rfl) ?_
  intro a19 hA19; clear hA18
  refine sx_val (v := .int .i64 (xs.length : Int)) hA19 rfl (ev_len (hA19.ev (i := 12) (v := .slice A1 xs.length c1)) Try.underlying23 _ rfl) ?_
  intro a20 hA20; clear hA19
  refine sx_val (v := .bool true) hA20 rfl (ev_lssB (k := .i64) (m := (k : Int)) (n := (xs.length : Int)) (hA20.ev (i := 11)) (hA20.ev (i := 13)) hd12 _ rfl) ?_
  intro a21 hA21; clear hA20
  refine sx_nil ?_
  refine then_n ?_
  refine wp_cond_true (hA21.ev (i := 14) (v := .bool true)) ?_
  refine wp_skip ?_
  refine then_n ?_
  refine wp_seq ?_
  refine wp_block ?_
  refine wp_seq ?_
  cases hd22 : x
  rotate_left
  · cases hd30 : y
    · refine region_D (n := 9) (by kernel_rfl) (by kernel_rfl) rfl (fun L ac wc => Below w.heap.size w wc ∧ w11.heap.size ≤ wc.heap.size ∧ (L 0 = true → Sv ac 17 (.slice A1 xs.length c1)) ∧ (L 1 = true → Sv ac 18 (.int .i64 (k : Int))) ∧ (L 2 = true → Sv ac 19 (.pointer (some (ad1.add (k * 1))))) ∧ (L 3 = true → Sv ac 20 (.bool x)) ∧ (L 4 = true → Sv ac 21 (.slice A2 ys.length c2)) ∧ (L 5 = true → Sv ac 22 (.int .i64 (k : Int))) ∧ (L 6 = true → Sv ac 23 (.pointer (some (ad2.add (k * 1))))) ∧ (L 7 = true → Sv ac 24 (.bool y)) ∧ (L 8 = true → Sv ac 25 (.bool true))) ⟨(Below.gN hbel11 (gdr _) hbel11.size), (Nat.le_refl _), (fun h => by cases h), (fun h => by cases h), (fun h => by cases h), (fun h => by cases h), (fun h => by cases h), (fun h => by cases h), (fun h => by cases h), (fun h => by cases h), (fun h => by cases h)⟩ ?_ ?_
      · intro iq hiq o ho L hL hdep ac wc hF hJ
        obtain ⟨bl, sz, s_17, s_18, s_19, s_20, s_21, s_22, s_23, s_24, s_25⟩ := hJ
        have zq := hF.1.trans hA21.1
        match iq, hiq with
        | 0, _ =>
          obtain rfl := Option.some.inj (show some _ = some o from ho); clear ho
          have v0 := hF.sv (s := 0) (by kernel_rfl) (hA21.get (i := 0) (v := .slice A1 xs.length c1))
          refine dj_val (i := 0) (v := .slice A1 xs.length c1) rfl (.inl rfl) (ev_move v0.eval _ rfl) ?_
          exact ⟨⟨_, rfl⟩, bl, sz, (fun _ => Sv.self (by rw [zq]; decide) _), (so s_18), (so s_19), (so s_20), (so s_21), (so s_22), (so s_23), (so s_24), (so s_25)⟩
        | 1, _ =>
          obtain rfl := Option.some.inj (show some _ = some o from ho); clear ho
          have v5 := hF.sv (s := 5) (by kernel_rfl) (hA21.get (i := 5) (v := .int .i64 (k : Int)))
          refine dj_val (i := 1) (v := .int .i64 (k : Int)) rfl (.inl rfl) (ev_move v5.eval _ rfl) ?_
          exact ⟨⟨_, rfl⟩, bl, sz, (so s_17), (fun _ => Sv.self (by rw [zq]; decide) _), (so s_19), (so s_20), (so s_21), (so s_22), (so s_23), (so s_24), (so s_25)⟩
        | 2, _ =>
          obtain rfl := Option.some.inj (show some _ = some o from ho); clear ho
          have v17 := s_17 (dp hdep 0)
          have v18 := s_18 (dp hdep 1)
          refine dj_val (i := 2) (v := .pointer (some (ad1.add (k * 1)))) rfl (.inl rfl) (ev_idx (k := k) v17.eval hAd1 v18.eval rfl (by omega) Try.underlying23 (by kernel_rfl) _ rfl) ?_
          exact ⟨⟨_, rfl⟩, bl, sz, (so s_17), (so s_18), (fun _ => Sv.self (by rw [zq]; decide) _), (so s_20), (so s_21), (so s_22), (so s_23), (so s_24), (so s_25)⟩
        | 3, _ =>
          obtain rfl := Option.some.inj (show some _ = some o from ho); clear ho
          have v19 := s_19 (dp hdep 2)
          refine dj_val (i := 3) (v := .bool x) rfl (.inl rfl) (ev_cell v19.eval ((GR.cel (h1.below bl) hAd1 bva_sz hx) 0 _ rfl) Try.underlying4 rfl _ rfl) ?_
          exact ⟨⟨_, rfl⟩, bl, sz, (so s_17), (so s_18), (so s_19), (fun _ => Sv.self (by rw [zq]; decide) _), (so s_21), (so s_22), (so s_23), (so s_24), (so s_25)⟩
        | 4, _ =>
          obtain rfl := Option.some.inj (show some _ = some o from ho); clear ho
          have v1 := hF.sv (s := 1) (by kernel_rfl) (hA21.get (i := 1) (v := .slice A2 ys.length c2))
          refine dj_val (i := 4) (v := .slice A2 ys.length c2) rfl (.inl rfl) (ev_move v1.eval _ rfl) ?_
          exact ⟨⟨_, rfl⟩, bl, sz, (so s_17), (so s_18), (so s_19), (so s_20), (fun _ => Sv.self (by rw [zq]; decide) _), (so s_22), (so s_23), (so s_24), (so s_25)⟩
        | 5, _ =>
          obtain rfl := Option.some.inj (show some _ = some o from ho); clear ho
          have v5 := hF.sv (s := 5) (by kernel_rfl) (hA21.get (i := 5) (v := .int .i64 (k : Int)))
          refine dj_val (i := 5) (v := .int .i64 (k : Int)) rfl (.inl rfl) (ev_move v5.eval _ rfl) ?_
          exact ⟨⟨_, rfl⟩, bl, sz, (so s_17), (so s_18), (so s_19), (so s_20), (so s_21), (fun _ => Sv.self (by rw [zq]; decide) _), (so s_23), (so s_24), (so s_25)⟩
        | 6, _ =>
          obtain rfl := Option.some.inj (show some _ = some o from ho); clear ho
          have v21 := s_21 (dp hdep 4)
          have v22 := s_22 (dp hdep 5)
          refine dj_val (i := 6) (v := .pointer (some (ad2.add (k * 1)))) rfl (.inl rfl) (ev_idx (k := k) v21.eval hAd2 v22.eval rfl (by omega) Try.underlying23 (by kernel_rfl) _ rfl) ?_
          exact ⟨⟨_, rfl⟩, bl, sz, (so s_17), (so s_18), (so s_19), (so s_20), (so s_21), (so s_22), (fun _ => Sv.self (by rw [zq]; decide) _), (so s_24), (so s_25)⟩
        | 7, _ =>
          obtain rfl := Option.some.inj (show some _ = some o from ho); clear ho
          have v23 := s_23 (dp hdep 6)
          refine dj_val (i := 7) (v := .bool y) rfl (.inl rfl) (ev_cell v23.eval ((GR.cel (h2.below bl) hAd2 bva_sz hy) 0 _ rfl) Try.underlying4 rfl _ rfl) ?_
          exact ⟨⟨_, rfl⟩, bl, sz, (so s_17), (so s_18), (so s_19), (so s_20), (so s_21), (so s_22), (so s_23), (fun _ => Sv.self (by rw [zq]; decide) _), (so s_25)⟩
        | 8, _ =>
          obtain rfl := Option.some.inj (show some _ = some o from ho); clear ho
          have v20 := s_20 (dp hdep 3)
          have v24 := s_24 (dp hdep 7)
          refine dj_val (i := 8) (v := .bool true) rfl (.inl rfl) (ev_neqBB v20.eval v24.eval Try.underlying4 (by rw [hd22, hd30]; rfl) _ rfl) ?_
          exact ⟨⟨_, rfl⟩, bl, sz, (so s_17), (so s_18), (so s_19), (so s_20), (so s_21), (so s_22), (so s_23), (so s_24), (fun _ => Sv.self (by rw [zq]; decide) _)⟩
        | k + 9, h => exact absurd h (by omega)
      · intro L hall ac31 wc31 hF hJ
        obtain ⟨bl, sz, s_17, s_18, s_19, s_20, s_21, s_22, s_23, s_24, s_25⟩ := hJ
        have hA31 : Ag ac31 26 [(0, .slice A1 xs.length c1), (1, .slice A2 ys.length c2), (5, .int .i64 (k : Int)), (11, .int .i64 (k : Int)), (12, .slice A1 xs.length c1), (13, .int .i64 (xs.length : Int)), (14, .bool true), (17, .slice A1 xs.length c1), (18, .int .i64 (k : Int)), (19, .pointer (some (ad1.add (k * 1)))), (20, .bool x), (21, .slice A2 ys.length c2), (22, .int .i64 (k : Int)), (23, .pointer (some (ad2.add (k * 1)))), (24, .bool y), (25, .bool true)] := (((((((((((((((((Ag.nil (hF.1.trans hA21.1) (hF.2.1.trans hA21.2.1)).cons (s_25 (hall 8 (by decide)))).cons (s_24 (hall 7 (by decide)))).cons (s_23 (hall 6 (by decide)))).cons (s_22 (hall 5 (by decide)))).cons (s_21 (hall 4 (by decide)))).cons (s_20 (hall 3 (by decide)))).cons (s_19 (hall 2 (by decide)))).cons (s_18 (hall 1 (by decide)))).cons (s_17 (hall 0 (by decide)))).cons (hF.sv (s := 14) (by kernel_rfl) (hA21.get (i := 14) (v := .bool true)))).cons (hF.sv (s := 13) (by kernel_rfl) (hA21.get (i := 13) (v := .int .i64 (xs.length : Int))))).cons (hF.sv (s := 12) (by kernel_rfl) (hA21.get (i := 12) (v := .slice A1 xs.length c1)))).cons (hF.sv (s := 11) (by kernel_rfl) (hA21.get (i := 11) (v := .int .i64 (k : Int))))).cons (hF.sv (s := 5) (by kernel_rfl) (hA21.get (i := 5) (v := .int .i64 (k : Int))))).cons (hF.sv (s := 1) (by kernel_rfl) (hA21.get (i := 1) (v := .slice A2 ys.length c2)))).cons (hF.sv (s := 0) (by kernel_rfl) (hA21.get (i := 0) (v := .slice A1 xs.length c1))))
        have bl31 := bl
        have sz31 := sz
        clear hF bl sz s_17 s_18 s_19 s_20 s_21 s_22 s_23 s_24 s_25 hall hA21
        refine then_n ?_
        refine wp_cond_true (hA31.ev (i := 25) (v := .bool true)) ?_
        refine wp_seq ?_
        refine wp_region_lit ?_
        refine sx_val hA31 rfl (ev_assign (ec _ (.bool false)) _ rfl) ?_
        intro a32 hA32; clear hA31
        refine sx_nil ?_
        refine then_n ?_
        refine wp_ret ?_
        refine blk_r ?_
        refine then_r ?_
        refine then_r ?_
        refine blk_r ?_
        refine then_r ?_
        refine bodyPost_ret (rs_t (v := .bool false) Try.results43 hA32 (by kernel_rfl) ) hA32.2.1 ?_
        have E : decide (xs = ys) = false := decide_eq_false (list_ne hx hy (by rw [hd22, hd30]; decide))
        exact ⟨by rw [E], bl31⟩
    refine region_D (n := 9) (by kernel_rfl) (by kernel_rfl) rfl (fun L ac wc => Below w.heap.size w wc ∧ w11.heap.size ≤ wc.heap.size ∧ (L 0 = true → Sv ac 17 (.slice A1 xs.length c1)) ∧ (L 1 = true → Sv ac 18 (.int .i64 (k : Int))) ∧ (L 2 = true → Sv ac 19 (.pointer (some (ad1.add (k * 1))))) ∧ (L 3 = true → Sv ac 20 (.bool x)) ∧ (L 4 = true → Sv ac 21 (.slice A2 ys.length c2)) ∧ (L 5 = true → Sv ac 22 (.int .i64 (k : Int))) ∧ (L 6 = true → Sv ac 23 (.pointer (some (ad2.add (k * 1))))) ∧ (L 7 = true → Sv ac 24 (.bool y)) ∧ (L 8 = true → Sv ac 25 (.bool false))) ⟨(Below.gN hbel11 (gdr _) hbel11.size), (Nat.le_refl _), (fun h => by cases h), (fun h => by cases h), (fun h => by cases h), (fun h => by cases h), (fun h => by cases h), (fun h => by cases h), (fun h => by cases h), (fun h => by cases h), (fun h => by cases h)⟩ ?_ ?_
    · intro iq hiq o ho L hL hdep ac wc hF hJ
      obtain ⟨bl, sz, s_17, s_18, s_19, s_20, s_21, s_22, s_23, s_24, s_25⟩ := hJ
      have zq := hF.1.trans hA21.1
      match iq, hiq with
      | 0, _ =>
        obtain rfl := Option.some.inj (show some _ = some o from ho); clear ho
        have v0 := hF.sv (s := 0) (by kernel_rfl) (hA21.get (i := 0) (v := .slice A1 xs.length c1))
        refine dj_val (i := 0) (v := .slice A1 xs.length c1) rfl (.inl rfl) (ev_move v0.eval _ rfl) ?_
        exact ⟨⟨_, rfl⟩, bl, sz, (fun _ => Sv.self (by rw [zq]; decide) _), (so s_18), (so s_19), (so s_20), (so s_21), (so s_22), (so s_23), (so s_24), (so s_25)⟩
      | 1, _ =>
        obtain rfl := Option.some.inj (show some _ = some o from ho); clear ho
        have v5 := hF.sv (s := 5) (by kernel_rfl) (hA21.get (i := 5) (v := .int .i64 (k : Int)))
        refine dj_val (i := 1) (v := .int .i64 (k : Int)) rfl (.inl rfl) (ev_move v5.eval _ rfl) ?_
        exact ⟨⟨_, rfl⟩, bl, sz, (so s_17), (fun _ => Sv.self (by rw [zq]; decide) _), (so s_19), (so s_20), (so s_21), (so s_22), (so s_23), (so s_24), (so s_25)⟩
      | 2, _ =>
        obtain rfl := Option.some.inj (show some _ = some o from ho); clear ho
        have v17 := s_17 (dp hdep 0)
        have v18 := s_18 (dp hdep 1)
        refine dj_val (i := 2) (v := .pointer (some (ad1.add (k * 1)))) rfl (.inl rfl) (ev_idx (k := k) v17.eval hAd1 v18.eval rfl (by omega) Try.underlying23 (by kernel_rfl) _ rfl) ?_
        exact ⟨⟨_, rfl⟩, bl, sz, (so s_17), (so s_18), (fun _ => Sv.self (by rw [zq]; decide) _), (so s_20), (so s_21), (so s_22), (so s_23), (so s_24), (so s_25)⟩
      | 3, _ =>
        obtain rfl := Option.some.inj (show some _ = some o from ho); clear ho
        have v19 := s_19 (dp hdep 2)
        refine dj_val (i := 3) (v := .bool x) rfl (.inl rfl) (ev_cell v19.eval ((GR.cel (h1.below bl) hAd1 bva_sz hx) 0 _ rfl) Try.underlying4 rfl _ rfl) ?_
        exact ⟨⟨_, rfl⟩, bl, sz, (so s_17), (so s_18), (so s_19), (fun _ => Sv.self (by rw [zq]; decide) _), (so s_21), (so s_22), (so s_23), (so s_24), (so s_25)⟩
      | 4, _ =>
        obtain rfl := Option.some.inj (show some _ = some o from ho); clear ho
        have v1 := hF.sv (s := 1) (by kernel_rfl) (hA21.get (i := 1) (v := .slice A2 ys.length c2))
        refine dj_val (i := 4) (v := .slice A2 ys.length c2) rfl (.inl rfl) (ev_move v1.eval _ rfl) ?_
        exact ⟨⟨_, rfl⟩, bl, sz, (so s_17), (so s_18), (so s_19), (so s_20), (fun _ => Sv.self (by rw [zq]; decide) _), (so s_22), (so s_23), (so s_24), (so s_25)⟩
      | 5, _ =>
        obtain rfl := Option.some.inj (show some _ = some o from ho); clear ho
        have v5 := hF.sv (s := 5) (by kernel_rfl) (hA21.get (i := 5) (v := .int .i64 (k : Int)))
        refine dj_val (i := 5) (v := .int .i64 (k : Int)) rfl (.inl rfl) (ev_move v5.eval _ rfl) ?_
        exact ⟨⟨_, rfl⟩, bl, sz, (so s_17), (so s_18), (so s_19), (so s_20), (so s_21), (fun _ => Sv.self (by rw [zq]; decide) _), (so s_23), (so s_24), (so s_25)⟩
      | 6, _ =>
        obtain rfl := Option.some.inj (show some _ = some o from ho); clear ho
        have v21 := s_21 (dp hdep 4)
        have v22 := s_22 (dp hdep 5)
        refine dj_val (i := 6) (v := .pointer (some (ad2.add (k * 1)))) rfl (.inl rfl) (ev_idx (k := k) v21.eval hAd2 v22.eval rfl (by omega) Try.underlying23 (by kernel_rfl) _ rfl) ?_
        exact ⟨⟨_, rfl⟩, bl, sz, (so s_17), (so s_18), (so s_19), (so s_20), (so s_21), (so s_22), (fun _ => Sv.self (by rw [zq]; decide) _), (so s_24), (so s_25)⟩
      | 7, _ =>
        obtain rfl := Option.some.inj (show some _ = some o from ho); clear ho
        have v23 := s_23 (dp hdep 6)
        refine dj_val (i := 7) (v := .bool y) rfl (.inl rfl) (ev_cell v23.eval ((GR.cel (h2.below bl) hAd2 bva_sz hy) 0 _ rfl) Try.underlying4 rfl _ rfl) ?_
        exact ⟨⟨_, rfl⟩, bl, sz, (so s_17), (so s_18), (so s_19), (so s_20), (so s_21), (so s_22), (so s_23), (fun _ => Sv.self (by rw [zq]; decide) _), (so s_25)⟩
      | 8, _ =>
        obtain rfl := Option.some.inj (show some _ = some o from ho); clear ho
        have v20 := s_20 (dp hdep 3)
        have v24 := s_24 (dp hdep 7)
        refine dj_val (i := 8) (v := .bool false) rfl (.inl rfl) (ev_neqBB v20.eval v24.eval Try.underlying4 (by rw [hd22, hd30]; rfl) _ rfl) ?_
        exact ⟨⟨_, rfl⟩, bl, sz, (so s_17), (so s_18), (so s_19), (so s_20), (so s_21), (so s_22), (so s_23), (so s_24), (fun _ => Sv.self (by rw [zq]; decide) _)⟩
      | k + 9, h => exact absurd h (by omega)
    · intro L hall ac33 wc33 hF hJ
      obtain ⟨bl, sz, s_17, s_18, s_19, s_20, s_21, s_22, s_23, s_24, s_25⟩ := hJ
      have hA33 : Ag ac33 26 [(0, .slice A1 xs.length c1), (1, .slice A2 ys.length c2), (5, .int .i64 (k : Int)), (11, .int .i64 (k : Int)), (12, .slice A1 xs.length c1), (13, .int .i64 (xs.length : Int)), (14, .bool true), (17, .slice A1 xs.length c1), (18, .int .i64 (k : Int)), (19, .pointer (some (ad1.add (k * 1)))), (20, .bool x), (21, .slice A2 ys.length c2), (22, .int .i64 (k : Int)), (23, .pointer (some (ad2.add (k * 1)))), (24, .bool y), (25, .bool false)] := (((((((((((((((((Ag.nil (hF.1.trans hA21.1) (hF.2.1.trans hA21.2.1)).cons (s_25 (hall 8 (by decide)))).cons (s_24 (hall 7 (by decide)))).cons (s_23 (hall 6 (by decide)))).cons (s_22 (hall 5 (by decide)))).cons (s_21 (hall 4 (by decide)))).cons (s_20 (hall 3 (by decide)))).cons (s_19 (hall 2 (by decide)))).cons (s_18 (hall 1 (by decide)))).cons (s_17 (hall 0 (by decide)))).cons (hF.sv (s := 14) (by kernel_rfl) (hA21.get (i := 14) (v := .bool true)))).cons (hF.sv (s := 13) (by kernel_rfl) (hA21.get (i := 13) (v := .int .i64 (xs.length : Int))))).cons (hF.sv (s := 12) (by kernel_rfl) (hA21.get (i := 12) (v := .slice A1 xs.length c1)))).cons (hF.sv (s := 11) (by kernel_rfl) (hA21.get (i := 11) (v := .int .i64 (k : Int))))).cons (hF.sv (s := 5) (by kernel_rfl) (hA21.get (i := 5) (v := .int .i64 (k : Int))))).cons (hF.sv (s := 1) (by kernel_rfl) (hA21.get (i := 1) (v := .slice A2 ys.length c2)))).cons (hF.sv (s := 0) (by kernel_rfl) (hA21.get (i := 0) (v := .slice A1 xs.length c1))))
      have bl33 := bl
      have sz33 := sz
      clear hF bl sz s_17 s_18 s_19 s_20 s_21 s_22 s_23 s_24 s_25 hall hA21
      refine then_n ?_
      refine wp_cond_false (hA33.ev (i := 25) (v := .bool false)) ?_
      refine wp_skip ?_
      refine blk_n ?_
      refine then_n ?_
      refine wp_region_lit ?_
      refine sx_val hA33 rfl (ev_move (hA33.ev (i := 5) (v := .int .i64 (k : Int))) _ rfl) ?_
      intro a34 hA34; clear hA33
      refine sx_val (v := .int .i64 ((k + 1 : Nat) : Int)) hA34 rfl (ev_addR (k := .i64) (m := (k : Int)) (n := 1) (r := ((k + 1 : Nat) : Int)) (hA34.ev (i := 15)) (ec _ (.int .i64 1)) (wr (by omega) (by omega) (by omega)) _ rfl) ?_
      intro a35 hA35; clear hA34
      refine sx_val hA35 rfl (ev_assign (hA35.ev (i := 16) (v := .int .i64 ((k + 1 : Nat) : Int))) _ rfl) ?_
      intro a36 hA36; clear hA35
      refine sx_nil ?_
      refine then_n ?_
      refine ⟨xs.length - (k + 1), by omega, k + 1, rfl, ((((Ag.nil hA36.1 hA36.2.1).cons (hA36.get (i := 5) (v := .int .i64 ((k + 1 : Nat) : Int)))).cons (hA36.get (i := 1) (v := .slice A2 ys.length c2))).cons (hA36.get (i := 0) (v := .slice A1 xs.length c1))), by omega, list_step hx hy (by rw [hd22, hd30]) q11_1, by omega, bl33⟩
  cases hd23 : y
  rotate_left
  · refine region_D (n := 9) (by kernel_rfl) (by kernel_rfl) rfl (fun L ac wc => Below w.heap.size w wc ∧ w11.heap.size ≤ wc.heap.size ∧ (L 0 = true → Sv ac 17 (.slice A1 xs.length c1)) ∧ (L 1 = true → Sv ac 18 (.int .i64 (k : Int))) ∧ (L 2 = true → Sv ac 19 (.pointer (some (ad1.add (k * 1))))) ∧ (L 3 = true → Sv ac 20 (.bool x)) ∧ (L 4 = true → Sv ac 21 (.slice A2 ys.length c2)) ∧ (L 5 = true → Sv ac 22 (.int .i64 (k : Int))) ∧ (L 6 = true → Sv ac 23 (.pointer (some (ad2.add (k * 1))))) ∧ (L 7 = true → Sv ac 24 (.bool y)) ∧ (L 8 = true → Sv ac 25 (.bool true))) ⟨(Below.gN hbel11 (gdr _) hbel11.size), (Nat.le_refl _), (fun h => by cases h), (fun h => by cases h), (fun h => by cases h), (fun h => by cases h), (fun h => by cases h), (fun h => by cases h), (fun h => by cases h), (fun h => by cases h), (fun h => by cases h)⟩ ?_ ?_
    · intro iq hiq o ho L hL hdep ac wc hF hJ
      obtain ⟨bl, sz, s_17, s_18, s_19, s_20, s_21, s_22, s_23, s_24, s_25⟩ := hJ
      have zq := hF.1.trans hA21.1
      match iq, hiq with
      | 0, _ =>
        obtain rfl := Option.some.inj (show some _ = some o from ho); clear ho
        have v0 := hF.sv (s := 0) (by kernel_rfl) (hA21.get (i := 0) (v := .slice A1 xs.length c1))
        refine dj_val (i := 0) (v := .slice A1 xs.length c1) rfl (.inl rfl) (ev_move v0.eval _ rfl) ?_
        exact ⟨⟨_, rfl⟩, bl, sz, (fun _ => Sv.self (by rw [zq]; decide) _), (so s_18), (so s_19), (so s_20), (so s_21), (so s_22), (so s_23), (so s_24), (so s_25)⟩
      | 1, _ =>
        obtain rfl := Option.some.inj (show some _ = some o from ho); clear ho
        have v5 := hF.sv (s := 5) (by kernel_rfl) (hA21.get (i := 5) (v := .int .i64 (k : Int)))
        refine dj_val (i := 1) (v := .int .i64 (k : Int)) rfl (.inl rfl) (ev_move v5.eval _ rfl) ?_
        exact ⟨⟨_, rfl⟩, bl, sz, (so s_17), (fun _ => Sv.self (by rw [zq]; decide) _), (so s_19), (so s_20), (so s_21), (so s_22), (so s_23), (so s_24), (so s_25)⟩
      | 2, _ =>
        obtain rfl := Option.some.inj (show some _ = some o from ho); clear ho
        have v17 := s_17 (dp hdep 0)
        have v18 := s_18 (dp hdep 1)
        refine dj_val (i := 2) (v := .pointer (some (ad1.add (k * 1)))) rfl (.inl rfl) (ev_idx (k := k) v17.eval hAd1 v18.eval rfl (by omega) Try.underlying23 (by kernel_rfl) _ rfl) ?_
        exact ⟨⟨_, rfl⟩, bl, sz, (so s_17), (so s_18), (fun _ => Sv.self (by rw [zq]; decide) _), (so s_20), (so s_21), (so s_22), (so s_23), (so s_24), (so s_25)⟩
      | 3, _ =>
        obtain rfl := Option.some.inj (show some _ = some o from ho); clear ho
        have v19 := s_19 (dp hdep 2)
        refine dj_val (i := 3) (v := .bool x) rfl (.inl rfl) (ev_cell v19.eval ((GR.cel (h1.below bl) hAd1 bva_sz hx) 0 _ rfl) Try.underlying4 rfl _ rfl) ?_
        exact ⟨⟨_, rfl⟩, bl, sz, (so s_17), (so s_18), (so s_19), (fun _ => Sv.self (by rw [zq]; decide) _), (so s_21), (so s_22), (so s_23), (so s_24), (so s_25)⟩
      | 4, _ =>
        obtain rfl := Option.some.inj (show some _ = some o from ho); clear ho
        have v1 := hF.sv (s := 1) (by kernel_rfl) (hA21.get (i := 1) (v := .slice A2 ys.length c2))
        refine dj_val (i := 4) (v := .slice A2 ys.length c2) rfl (.inl rfl) (ev_move v1.eval _ rfl) ?_
        exact ⟨⟨_, rfl⟩, bl, sz, (so s_17), (so s_18), (so s_19), (so s_20), (fun _ => Sv.self (by rw [zq]; decide) _), (so s_22), (so s_23), (so s_24), (so s_25)⟩
      | 5, _ =>
        obtain rfl := Option.some.inj (show some _ = some o from ho); clear ho
        have v5 := hF.sv (s := 5) (by kernel_rfl) (hA21.get (i := 5) (v := .int .i64 (k : Int)))
        refine dj_val (i := 5) (v := .int .i64 (k : Int)) rfl (.inl rfl) (ev_move v5.eval _ rfl) ?_
        exact ⟨⟨_, rfl⟩, bl, sz, (so s_17), (so s_18), (so s_19), (so s_20), (so s_21), (fun _ => Sv.self (by rw [zq]; decide) _), (so s_23), (so s_24), (so s_25)⟩
      | 6, _ =>
        obtain rfl := Option.some.inj (show some _ = some o from ho); clear ho
        have v21 := s_21 (dp hdep 4)
        have v22 := s_22 (dp hdep 5)
        refine dj_val (i := 6) (v := .pointer (some (ad2.add (k * 1)))) rfl (.inl rfl) (ev_idx (k := k) v21.eval hAd2 v22.eval rfl (by omega) Try.underlying23 (by kernel_rfl) _ rfl) ?_
        exact ⟨⟨_, rfl⟩, bl, sz, (so s_17), (so s_18), (so s_19), (so s_20), (so s_21), (so s_22), (fun _ => Sv.self (by rw [zq]; decide) _), (so s_24), (so s_25)⟩
      | 7, _ =>
        obtain rfl := Option.some.inj (show some _ = some o from ho); clear ho
        have v23 := s_23 (dp hdep 6)
        refine dj_val (i := 7) (v := .bool y) rfl (.inl rfl) (ev_cell v23.eval ((GR.cel (h2.below bl) hAd2 bva_sz hy) 0 _ rfl) Try.underlying4 rfl _ rfl) ?_
        exact ⟨⟨_, rfl⟩, bl, sz, (so s_17), (so s_18), (so s_19), (so s_20), (so s_21), (so s_22), (so s_23), (fun _ => Sv.self (by rw [zq]; decide) _), (so s_25)⟩
      | 8, _ =>
        obtain rfl := Option.some.inj (show some _ = some o from ho); clear ho
        have v20 := s_20 (dp hdep 3)
        have v24 := s_24 (dp hdep 7)
        refine dj_val (i := 8) (v := .bool true) rfl (.inl rfl) (ev_neqBB v20.eval v24.eval Try.underlying4 (by rw [hd22, hd23]; rfl) _ rfl) ?_
        exact ⟨⟨_, rfl⟩, bl, sz, (so s_17), (so s_18), (so s_19), (so s_20), (so s_21), (so s_22), (so s_23), (so s_24), (fun _ => Sv.self (by rw [zq]; decide) _)⟩
      | k + 9, h => exact absurd h (by omega)
    · intro L hall ac28 wc28 hF hJ
      obtain ⟨bl, sz, s_17, s_18, s_19, s_20, s_21, s_22, s_23, s_24, s_25⟩ := hJ
      have hA28 : Ag ac28 26 [(0, .slice A1 xs.length c1), (1, .slice A2 ys.length c2), (5, .int .i64 (k : Int)), (11, .int .i64 (k : Int)), (12, .slice A1 xs.length c1), (13, .int .i64 (xs.length : Int)), (14, .bool true), (17, .slice A1 xs.length c1), (18, .int .i64 (k : Int)), (19, .pointer (some (ad1.add (k * 1)))), (20, .bool x), (21, .slice A2 ys.length c2), (22, .int .i64 (k : Int)), (23, .pointer (some (ad2.add (k * 1)))), (24, .bool y), (25, .bool true)] := (((((((((((((((((Ag.nil (hF.1.trans hA21.1) (hF.2.1.trans hA21.2.1)).cons (s_25 (hall 8 (by decide)))).cons (s_24 (hall 7 (by decide)))).cons (s_23 (hall 6 (by decide)))).cons (s_22 (hall 5 (by decide)))).cons (s_21 (hall 4 (by decide)))).cons (s_20 (hall 3 (by decide)))).cons (s_19 (hall 2 (by decide)))).cons (s_18 (hall 1 (by decide)))).cons (s_17 (hall 0 (by decide)))).cons (hF.sv (s := 14) (by kernel_rfl) (hA21.get (i := 14) (v := .bool true)))).cons (hF.sv (s := 13) (by kernel_rfl) (hA21.get (i := 13) (v := .int .i64 (xs.length : Int))))).cons (hF.sv (s := 12) (by kernel_rfl) (hA21.get (i := 12) (v := .slice A1 xs.length c1)))).cons (hF.sv (s := 11) (by kernel_rfl) (hA21.get (i := 11) (v := .int .i64 (k : Int))))).cons (hF.sv (s := 5) (by kernel_rfl) (hA21.get (i := 5) (v := .int .i64 (k : Int))))).cons (hF.sv (s := 1) (by kernel_rfl) (hA21.get (i := 1) (v := .slice A2 ys.length c2)))).cons (hF.sv (s := 0) (by kernel_rfl) (hA21.get (i := 0) (v := .slice A1 xs.length c1))))
      have bl28 := bl
      have sz28 := sz
      clear hF bl sz s_17 s_18 s_19 s_20 s_21 s_22 s_23 s_24 s_25 hall hA21
      refine then_n ?_
      refine wp_cond_true (hA28.ev (i := 25) (v := .bool true)) ?_
      refine wp_seq ?_
      refine wp_region_lit ?_
      refine sx_val hA28 rfl (ev_assign (ec _ (.bool false)) _ rfl) ?_
      intro a29 hA29; clear hA28
      refine sx_nil ?_
      refine then_n ?_
      refine wp_ret ?_
      refine blk_r ?_
      refine then_r ?_
      refine then_r ?_
      refine blk_r ?_
      refine then_r ?_
      refine bodyPost_ret (rs_t (v := .bool false) Try.results43 hA29 (by kernel_rfl) ) hA29.2.1 ?_
      have E : decide (xs = ys) = false := decide_eq_false (list_ne hx hy (by rw [hd22, hd23]; decide))
      exact ⟨by rw [E], bl28⟩
  refine region_D (n := 9) (by kernel_rfl) (by kernel_rfl) rfl (fun L ac wc => Below w.heap.size w wc ∧ w11.heap.size ≤ wc.heap.size ∧ (L 0 = true → Sv ac 17 (.slice A1 xs.length c1)) ∧ (L 1 = true → Sv ac 18 (.int .i64 (k : Int))) ∧ (L 2 = true → Sv ac 19 (.pointer (some (ad1.add (k * 1))))) ∧ (L 3 = true → Sv ac 20 (.bool x)) ∧ (L 4 = true → Sv ac 21 (.slice A2 ys.length c2)) ∧ (L 5 = true → Sv ac 22 (.int .i64 (k : Int))) ∧ (L 6 = true → Sv ac 23 (.pointer (some (ad2.add (k * 1))))) ∧ (L 7 = true → Sv ac 24 (.bool y)) ∧ (L 8 = true → Sv ac 25 (.bool false))) ⟨(Below.gN hbel11 (gdr _) hbel11.size), (Nat.le_refl _), (fun h => by cases h), (fun h => by cases h), (fun h => by cases h), (fun h => by cases h), (fun h => by cases h), (fun h => by cases h), (fun h => by cases h), (fun h => by cases h), (fun h => by cases h)⟩ ?_ ?_
  · intro iq hiq o ho L hL hdep ac wc hF hJ
    obtain ⟨bl, sz, s_17, s_18, s_19, s_20, s_21, s_22, s_23, s_24, s_25⟩ := hJ
    have zq := hF.1.trans hA21.1
    match iq, hiq with
    | 0, _ =>
      obtain rfl := Option.some.inj (show some _ = some o from ho); clear ho
      have v0 := hF.sv (s := 0) (by kernel_rfl) (hA21.get (i := 0) (v := .slice A1 xs.length c1))
      refine dj_val (i := 0) (v := .slice A1 xs.length c1) rfl (.inl rfl) (ev_move v0.eval _ rfl) ?_
      exact ⟨⟨_, rfl⟩, bl, sz, (fun _ => Sv.self (by rw [zq]; decide) _), (so s_18), (so s_19), (so s_20), (so s_21), (so s_22), (so s_23), (so s_24), (so s_25)⟩
    | 1, _ =>
      obtain rfl := Option.some.inj (show some _ = some o from ho); clear ho
      have v5 := hF.sv (s := 5) (by kernel_rfl) (hA21.get (i := 5) (v := .int .i64 (k : Int)))
      refine dj_val (i := 1) (v := .int .i64 (k : Int)) rfl (.inl rfl) (ev_move v5.eval _ rfl) ?_
      exact ⟨⟨_, rfl⟩, bl, sz, (so s_17), (fun _ => Sv.self (by rw [zq]; decide) _), (so s_19), (so s_20), (so s_21), (so s_22), (so s_23), (so s_24), (so s_25)⟩
    | 2, _ =>
      obtain rfl := Option.some.inj (show some _ = some o from ho); clear ho
      have v17 := s_17 (dp hdep 0)
      have v18 := s_18 (dp hdep 1)
      refine dj_val (i := 2) (v := .pointer (some (ad1.add (k * 1)))) rfl (.inl rfl) (ev_idx (k := k) v17.eval hAd1 v18.eval rfl (by omega) Try.underlying23 (by kernel_rfl) _ rfl) ?_
      exact ⟨⟨_, rfl⟩, bl, sz, (so s_17), (so s_18), (fun _ => Sv.self (by rw [zq]; decide) _), (so s_20), (so s_21), (so s_22), (so s_23), (so s_24), (so s_25)⟩
    | 3, _ =>
      obtain rfl := Option.some.inj (show some _ = some o from ho); clear ho
      have v19 := s_19 (dp hdep 2)
      refine dj_val (i := 3) (v := .bool x) rfl (.inl rfl) (ev_cell v19.eval ((GR.cel (h1.below bl) hAd1 bva_sz hx) 0 _ rfl) Try.underlying4 rfl _ rfl) ?_
      exact ⟨⟨_, rfl⟩, bl, sz, (so s_17), (so s_18), (so s_19), (fun _ => Sv.self (by rw [zq]; decide) _), (so s_21), (so s_22), (so s_23), (so s_24), (so s_25)⟩
    | 4, _ =>
      obtain rfl := Option.some.inj (show some _ = some o from ho); clear ho
      have v1 := hF.sv (s := 1) (by kernel_rfl) (hA21.get (i := 1) (v := .slice A2 ys.length c2))
      refine dj_val (i := 4) (v := .slice A2 ys.length c2) rfl (.inl rfl) (ev_move v1.eval _ rfl) ?_
      exact ⟨⟨_, rfl⟩, bl, sz, (so s_17), (so s_18), (so s_19), (so s_20), (fun _ => Sv.self (by rw [zq]; decide) _), (so s_22), (so s_23), (so s_24), (so s_25)⟩
    | 5, _ =>
      obtain rfl := Option.some.inj (show some _ = some o from ho); clear ho
      have v5 := hF.sv (s := 5) (by kernel_rfl) (hA21.get (i := 5) (v := .int .i64 (k : Int)))
      refine dj_val (i := 5) (v := .int .i64 (k : Int)) rfl (.inl rfl) (ev_move v5.eval _ rfl) ?_
      exact ⟨⟨_, rfl⟩, bl, sz, (so s_17), (so s_18), (so s_19), (so s_20), (so s_21), (fun _ => Sv.self (by rw [zq]; decide) _), (so s_23), (so s_24), (so s_25)⟩
    | 6, _ =>
      obtain rfl := Option.some.inj (show some _ = some o from ho); clear ho
      have v21 := s_21 (dp hdep 4)
      have v22 := s_22 (dp hdep 5)
      refine dj_val (i := 6) (v := .pointer (some (ad2.add (k * 1)))) rfl (.inl rfl) (ev_idx (k := k) v21.eval hAd2 v22.eval rfl (by omega) Try.underlying23 (by kernel_rfl) _ rfl) ?_
      exact ⟨⟨_, rfl⟩, bl, sz, (so s_17), (so s_18), (so s_19), (so s_20), (so s_21), (so s_22), (fun _ => Sv.self (by rw [zq]; decide) _), (so s_24), (so s_25)⟩
    | 7, _ =>
      obtain rfl := Option.some.inj (show some _ = some o from ho); clear ho
      have v23 := s_23 (dp hdep 6)
      refine dj_val (i := 7) (v := .bool y) rfl (.inl rfl) (ev_cell v23.eval ((GR.cel (h2.below bl) hAd2 bva_sz hy) 0 _ rfl) Try.underlying4 rfl _ rfl) ?_
      exact ⟨⟨_, rfl⟩, bl, sz, (so s_17), (so s_18), (so s_19), (so s_20), (so s_21), (so s_22), (so s_23), (fun _ => Sv.self (by rw [zq]; decide) _), (so s_25)⟩
    | 8, _ =>
      obtain rfl := Option.some.inj (show some _ = some o from ho); clear ho
      have v20 := s_20 (dp hdep 3)
      have v24 := s_24 (dp hdep 7)
      refine dj_val (i := 8) (v := .bool false) rfl (.inl rfl) (ev_neqBB v20.eval v24.eval Try.underlying4 (by rw [hd22, hd23]; rfl) _ rfl) ?_
      exact ⟨⟨_, rfl⟩, bl, sz, (so s_17), (so s_18), (so s_19), (so s_20), (so s_21), (so s_22), (so s_23), (so s_24), (fun _ => Sv.self (by rw [zq]; decide) _)⟩
    | k + 9, h => exact absurd h (by omega)
  · intro L hall ac24 wc24 hF hJ
    obtain ⟨bl, sz, s_17, s_18, s_19, s_20, s_21, s_22, s_23, s_24, s_25⟩ := hJ
    have hA24 : Ag ac24 26 [(0, .slice A1 xs.length c1), (1, .slice A2 ys.length c2), (5, .int .i64 (k : Int)), (11, .int .i64 (k : Int)), (12, .slice A1 xs.length c1), (13, .int .i64 (xs.length : Int)), (14, .bool true), (17, .slice A1 xs.length c1), (18, .int .i64 (k : Int)), (19, .pointer (some (ad1.add (k * 1)))), (20, .bool x), (21, .slice A2 ys.length c2), (22, .int .i64 (k : Int)), (23, .pointer (some (ad2.add (k * 1)))), (24, .bool y), (25, .bool false)] := (((((((((((((((((Ag.nil (hF.1.trans hA21.1) (hF.2.1.trans hA21.2.1)).cons (s_25 (hall 8 (by decide)))).cons (s_24 (hall 7 (by decide)))).cons (s_23 (hall 6 (by decide)))).cons (s_22 (hall 5 (by decide)))).cons (s_21 (hall 4 (by decide)))).cons (s_20 (hall 3 (by decide)))).cons (s_19 (hall 2 (by decide)))).cons (s_18 (hall 1 (by decide)))).cons (s_17 (hall 0 (by decide)))).cons (hF.sv (s := 14) (by kernel_rfl) (hA21.get (i := 14) (v := .bool true)))).cons (hF.sv (s := 13) (by kernel_rfl) (hA21.get (i := 13) (v := .int .i64 (xs.length : Int))))).cons (hF.sv (s := 12) (by kernel_rfl) (hA21.get (i := 12) (v := .slice A1 xs.length c1)))).cons (hF.sv (s := 11) (by kernel_rfl) (hA21.get (i := 11) (v := .int .i64 (k : Int))))).cons (hF.sv (s := 5) (by kernel_rfl) (hA21.get (i := 5) (v := .int .i64 (k : Int))))).cons (hF.sv (s := 1) (by kernel_rfl) (hA21.get (i := 1) (v := .slice A2 ys.length c2)))).cons (hF.sv (s := 0) (by kernel_rfl) (hA21.get (i := 0) (v := .slice A1 xs.length c1))))
    have bl24 := bl
    have sz24 := sz
    clear hF bl sz s_17 s_18 s_19 s_20 s_21 s_22 s_23 s_24 s_25 hall hA21
    refine then_n ?_
    refine wp_cond_false (hA24.ev (i := 25) (v := .bool false)) ?_
    refine wp_skip ?_
    refine blk_n ?_
    refine then_n ?_
    refine wp_region_lit ?_
    refine sx_val hA24 rfl (ev_move (hA24.ev (i := 5) (v := .int .i64 (k : Int))) _ rfl) ?_
    intro a25 hA25; clear hA24
    refine sx_val (v := .int .i64 ((k + 1 : Nat) : Int)) hA25 rfl (ev_addR (k := .i64) (m := (k : Int)) (n := 1) (r := ((k + 1 : Nat) : Int)) (hA25.ev (i := 15)) (ec _ (.int .i64 1)) (wr (by omega) (by omega) (by omega)) _ rfl) ?_
    intro a26 hA26; clear hA25
    refine sx_val hA26 rfl (ev_assign (hA26.ev (i := 16) (v := .int .i64 ((k + 1 : Nat) : Int))) _ rfl) ?_
    intro a27 hA27; clear hA26
    refine sx_nil ?_
    refine then_n ?_
    refine ⟨xs.length - (k + 1), by omega, k + 1, rfl, ((((Ag.nil hA27.1 hA27.2.1).cons (hA27.get (i := 5) (v := .int .i64 ((k + 1 : Nat) : Int)))).cons (hA27.get (i := 1) (v := .slice A2 ys.length c2))).cons (hA27.get (i := 0) (v := .slice A1 xs.length c1))), by omega, list_step hx hy (by rw [hd22, hd23]) q11_1, by omega, bl24⟩

set_option maxHeartbeats 4000000 in
theorem SameSlots_any (A1 : Option Addr) (c1 : Nat) (A2 : Option Addr) (c2 : Nat) (rs : List Int) (bs : List Bool) (A3 : Option Addr) (c3 : Nat) (A4 : Option Addr) (c4 : Nat) (rs2 : List Int) (bs2 : List Bool) (w : World) (hs : GS w A1 c1 A2 c2 rs bs) (hsB : GS w A3 c3 A4 c4 rs2 bs2) : Calls Try.prog 13 #[.agg #[.slice A1 rs.length c1, .slice A2 bs.length c2], .agg #[.slice A3 rs2.length c3, .slice A4 bs2.length c4]] w (RetB w (.returned (.bool (sme ⟨rs, bs⟩ ⟨rs2, bs2⟩)))) := by
  have hbel0 := below0 w
  refine sx_enter (N := 17) [(0, .agg #[.slice A1 rs.length c1, .slice A2 bs.length c2]), (1, .agg #[.slice A3 rs2.length c3, .slice A4 bs2.length c4])] Try.func13 rfl Try.ntmps13 (by simp) (fun a z d s => (((Ag.nil z d).cons (s 1 _ rfl)).cons (s 0 _ rfl))) ?_
  intro a0 hA0
  refine wp_seq ?_
  refine wp_region_lit ?_
  refine sx_new (cs := #[.slice A1 rs.length c1, .slice A2 bs.length c2]) (t := 25) hA0 rfl (by decide) (.inl rfl) (ev_box (hA0.ev (i := 0) (v := .agg #[.slice A1 rs.length c1, .slice A2 bs.length c2])) rfl _ rfl) ?_
  intro B1 w1 a1 hB1 hx1 hg1 hA1
  clear hA0
  have hs1 := hg1.size
  have hl1 := hx1.lt
  refine sx_new (cs := #[.slice A3 rs2.length c3, .slice A4 bs2.length c4]) (t := 25) hA1 rfl (by decide) (.inl rfl) (ev_box (hA1.ev (i := 1) (v := .agg #[.slice A3 rs2.length c3, .slice A4 bs2.length c4])) rfl _ rfl) ?_
  intro B2 w2 a2 hB2 hx2 hg2 hA2
  clear hA1
  have hs2 := hg2.size
  have hl2 := hx2.lt
  refine sx_val hA2 rfl (ev_assign (ec _ (.bool false)) _ rfl) ?_
  intro a3 hA3; clear hA2
  refine sx_nil ?_
  refine then_n ?_
  refine wp_seq ?_
  refine wp_region_lit ?_
  refine sx_val (v := .pointer (some ⟨B1, 0, none⟩)) hA3 rfl (fb_Slots_0 (hA3.ev (i := 2) (v := .pointer (some ⟨B1, 0, none⟩))) _ rfl) ?_
  intro a4 hA4; clear hA3
  have hx1_5 := hx1.gN hg2
  refine sx_val (v := .slice A1 rs.length c1) hA4 rfl (ev_cell (v := .slice A1 rs.length c1) (hA4.ev (i := 5) (v := .pointer (some ⟨B1, 0, none⟩))) ((hx1_5.cell 0).trans rfl) Try.underlying22 rfl _ rfl) ?_
  intro a6 hA6; clear hA4
  refine sx_val (v := .pointer (some ⟨B2, 0, none⟩)) hA6 rfl (fb_Slots_0 (hA6.ev (i := 3) (v := .pointer (some ⟨B2, 0, none⟩))) _ rfl) ?_
  intro a7 hA7; clear hA6
  refine sx_val (v := .slice A3 rs2.length c3) hA7 rfl (ev_cell (v := .slice A3 rs2.length c3) (hA7.ev (i := 7) (v := .pointer (some ⟨B2, 0, none⟩))) ((hx2.cell 0).trans rfl) Try.underlying22 rfl _ rfl) ?_
  intro a8 hA8; clear hA7
  have hbel0_10 := Below.gN hbel0 hg1 hbel0.size
  have hbel0_11 := Below.gN hbel0_10 hg2 hbel0_10.size
  refine sx_call (f := 42) (args := #[.slice A1 rs.length c1, .slice A3 rs2.length c3]) hA8 rfl (by decide) (.inl rfl) (ev_fn rfl (mp2 (hA8.ev (i := 6) (v := .slice A1 rs.length c1)) (hA8.ev (i := 8) (v := .slice A3 rs2.length c3))) (by kernel_rfl) _ rfl) (SameInts_any A1 c1 A3 c3 rs rs2 _ (hs.r.below hbel0_11) (hsB.r.below hbel0_11)) ?_
  intro e9 w9 hR9
  obtain ⟨rfl, hb9⟩ := hR9
  refine ⟨_, rfl, ?_⟩
  intro a9 hA9
  clear hA8
  have hg9 := g0 hb9
  have hs9 := hg9.size
  clear hb9
  refine sx_val hA9 rfl (ev_move (hA9.ev (i := 9) (v := .bool (decide (rs = rs2)))) _ rfl) ?_
  intro a12 hA12; clear hA9
  cases hd13 : (decide (rs = rs2))
  · rw [hd13] at hA12
    refine sx_no (j := 5) (s := 10) (want := true) (b := false) hA12 rfl ?_
    intro a14 hA14; clear hA12
    refine sx_no (j := 5) (s := 10) (want := true) (b := false) hA14 rfl ?_
    intro a15 hA15; clear hA14
    refine sx_no (j := 5) (s := 10) (want := true) (b := false) hA15 rfl ?_
    intro a16 hA16; clear hA15
    refine sx_no (j := 5) (s := 10) (want := true) (b := false) hA16 rfl ?_
    intro a17 hA17; clear hA16
    refine sx_no (j := 5) (s := 10) (want := true) (b := false) hA17 rfl ?_
    intro a18 hA18; clear hA17
    refine sx_val hA18 rfl (ev_pickF (hA18.ev (i := 10) (v := .bool false)) (ec _ (.bool false)) _ rfl) ?_
    intro a19 hA19; clear hA18
    refine sx_val hA19 rfl (ev_assign (hA19.ev (i := 16) (v := .bool false)) _ rfl) ?_
    intro a20 hA20; clear hA19
    refine sx_nil ?_
    refine then_n ?_
    refine wp_ret ?_
    refine bodyPost_ret (rs_t (v := .bool false) Try.results13 hA20 (by kernel_rfl) ) hA20.2.1 ?_
    have hbel0_21 := Below.gN hbel0_11 hg9 hbel0_11.size
    exact ⟨by rw [show sme ⟨rs, bs⟩ ⟨rs2, bs2⟩ = false by unfold sme; simp only [hd13]; first | rfl | simp], hbel0_21⟩
  rw [hd13] at hA12
  refine sx_val (hg := (.inr ⟨5, true, 10, rfl, rfl, by kernel_rfl⟩)) (v := .pointer (some ⟨B1, 1, none⟩)) hA12 rfl (fb_Slots_1 (hA12.ev (i := 2) (v := .pointer (some ⟨B1, 0, none⟩))) _ rfl) ?_
  intro a22 hA22; clear hA12
  have hx1_23 := hx1_5.gN hg9
  refine sx_val (hg := (.inr ⟨5, true, 10, rfl, rfl, by kernel_rfl⟩)) (v := .slice A2 bs.length c2) hA22 rfl (ev_cell (v := .slice A2 bs.length c2) (hA22.ev (i := 11) (v := .pointer (some ⟨B1, 1, none⟩))) ((hx1_23.cell 1).trans rfl) Try.underlying23 rfl _ rfl) ?_
  intro a24 hA24; clear hA22
  refine sx_val (hg := (.inr ⟨5, true, 10, rfl, rfl, by kernel_rfl⟩)) (v := .pointer (some ⟨B2, 1, none⟩)) hA24 rfl (fb_Slots_1 (hA24.ev (i := 3) (v := .pointer (some ⟨B2, 0, none⟩))) _ rfl) ?_
  intro a25 hA25; clear hA24
  have hx2_26 := hx2.gN hg9
  refine sx_val (hg := (.inr ⟨5, true, 10, rfl, rfl, by kernel_rfl⟩)) (v := .slice A4 bs2.length c4) hA25 rfl (ev_cell (v := .slice A4 bs2.length c4) (hA25.ev (i := 13) (v := .pointer (some ⟨B2, 1, none⟩))) ((hx2_26.cell 1).trans rfl) Try.underlying23 rfl _ rfl) ?_
  intro a27 hA27; clear hA25
  have hbel0_29 := Below.gN hbel0_11 hg9 hbel0_11.size
  refine sx_call (f := 43) (args := #[.slice A2 bs.length c2, .slice A4 bs2.length c4]) hA27 rfl (by decide) (.inr ⟨5, true, 10, rfl, rfl, by kernel_rfl⟩) (ev_fn rfl (mp2 (hA27.ev (i := 12) (v := .slice A2 bs.length c2)) (hA27.ev (i := 14) (v := .slice A4 bs2.length c4))) (by kernel_rfl) _ rfl) (SameBools_any A2 c2 A4 c4 bs bs2 _ (hs.b.below hbel0_29) (hsB.b.below hbel0_29)) ?_
  intro e28 w28 hR28
  obtain ⟨rfl, hb28⟩ := hR28
  refine ⟨_, rfl, ?_⟩
  intro a28 hA28
  clear hA27
  have hg28 := g0 hb28
  have hs28 := hg28.size
  clear hb28
  refine sx_val hA28 rfl (ev_pickT (hA28.ev (i := 10) (v := .bool true)) (hA28.ev (i := 15) (v := .bool (decide (bs = bs2)))) _ rfl) ?_
  intro a30 hA30; clear hA28
  refine sx_val hA30 rfl (ev_assign (hA30.ev (i := 16) (v := .bool (decide (bs = bs2)))) _ rfl) ?_
  intro a31 hA31; clear hA30
  refine sx_nil ?_
  refine then_n ?_
  refine wp_ret ?_
  refine bodyPost_ret (rs_t (v := .bool (decide (bs = bs2))) Try.results13 hA31 (by kernel_rfl) ) hA31.2.1 ?_
  have hbel0_32 := Below.gN hbel0_29 hg28 hbel0_29.size
  exact ⟨by rw [show sme ⟨rs, bs⟩ ⟨rs2, bs2⟩ = (decide (bs = bs2)) by unfold sme; simp only [hd13]; first | rfl | simp], hbel0_32⟩

set_option maxHeartbeats 4000000 in
theorem Mod_any (n m : Int) (w : World) (hm : 1 ≤ m) (hm2 : m ≤ 1000000000) : Calls Try.prog 34 #[.int .i64 n, .int .i64 m] w (RetB w (.returned (.int .i64 (n % m)))) := by
  have hbd := tmod_bd n m hm
  have hbel0 := below0 w
  refine sx_enter (N := 16) [(0, .int .i64 n), (1, .int .i64 m)] Try.func34 rfl Try.ntmps34 (by simp) (fun a z d s => (((Ag.nil z d).cons (s 1 _ rfl)).cons (s 0 _ rfl))) ?_
  intro a0 hA0
  refine wp_seq ?_
  refine wp_region_lit ?_
  refine sx_val hA0 rfl (ev_assign (ec _ (.int .i64 0)) _ rfl) ?_
  intro a1 hA1; clear hA0
  refine sx_nil ?_
  refine then_n ?_
  refine wp_seq ?_
  refine wp_seq ?_
  refine wp_region_lit ?_
  refine sx_val hA1 rfl (ev_move (hA1.ev (i := 1) (v := .int .i64 m)) _ rfl) ?_
  intro a2 hA2; clear hA1
  refine sx_val (v := .bool false) hA2 rfl (ev_lssB (k := .i64) (m := m) (n := 1) (hA2.ev (i := 5)) (ec _ (.int .i64 1)) (by simp; omega) _ rfl) ?_
  intro a3 hA3; clear hA2
  refine sx_nil ?_
  refine then_n ?_
  refine wp_cond_false (hA3.ev (i := 6) (v := .bool false)) ?_
  refine wp_skip ?_
  refine then_n ?_
  refine wp_seq ?_
  refine wp_region_lit ?_
  refine sx_val hA3 rfl (ev_move (hA3.ev (i := 0) (v := .int .i64 n)) _ rfl) ?_
  intro a4 hA4; clear hA3
  refine sx_val hA4 rfl (ev_move (hA4.ev (i := 1) (v := .int .i64 m)) _ rfl) ?_
  intro a5 hA5; clear hA4
  refine sx_val (v := .int .i64 (n.tmod m)) hA5 rfl (ev_remR (k := .i64) (m := n) (n := m) (r := n.tmod m) (hA5.ev (i := 7)) (hA5.ev (i := 8)) (by omega) rfl _ rfl) ?_
  intro a6 hA6; clear hA5
  refine sx_val hA6 rfl (ev_assign (hA6.ev (i := 9) (v := .int .i64 (n.tmod m))) _ rfl) ?_
  intro a7 hA7; clear hA6
  refine sx_nil ?_
  refine then_n ?_
  refine wp_seq ?_
  refine wp_seq ?_
  refine wp_region_lit ?_
  refine sx_val hA7 rfl (ev_move (hA7.ev (i := 0) (v := .int .i64 (n.tmod m))) _ rfl) ?_
  intro a8 hA8; clear hA7
  cases hd9 : decide ((n.tmod m) < 0)
  · have hp9 := of_decide_eq_false hd9
    refine sx_val (v := .bool false) hA8 rfl (ev_lssB (k := .i64) (m := (n.tmod m)) (n := 0) (hA8.ev (i := 10)) (ec _ (.int .i64 0)) hd9 _ rfl) ?_
    intro a10 hA10; clear hA8
    refine sx_nil ?_
    refine then_n ?_
    refine wp_cond_false (hA10.ev (i := 11) (v := .bool false)) ?_
    refine wp_skip ?_
    refine then_n ?_
    refine wp_seq ?_
    refine wp_region_lit ?_
    refine sx_val hA10 rfl (ev_move (hA10.ev (i := 0) (v := .int .i64 (n.tmod m))) _ rfl) ?_
    intro a11 hA11; clear hA10
    refine sx_val hA11 rfl (ev_assign (hA11.ev (i := 15) (v := .int .i64 (n.tmod m))) _ rfl) ?_
    intro a12 hA12; clear hA11
    refine sx_nil ?_
    refine then_n ?_
    refine wp_ret ?_
    refine bodyPost_ret (rs_t (v := .int .i64 (n.tmod m)) Try.results34 hA12 (by kernel_rfl) ) hA12.2.1 ?_
    have E : (n.tmod m) = n % m := mod_of_pos n m hm (by omega)
    exact ⟨by rw [← E], hbel0⟩
  have hp9 := of_decide_eq_true hd9
  refine sx_val (v := .bool true) hA8 rfl (ev_lssB (k := .i64) (m := (n.tmod m)) (n := 0) (hA8.ev (i := 10)) (ec _ (.int .i64 0)) hd9 _ rfl) ?_
  intro a13 hA13; clear hA8
  refine sx_nil ?_
  refine then_n ?_
  refine wp_cond_true (hA13.ev (i := 11) (v := .bool true)) ?_
  refine wp_region_lit ?_
  refine sx_val hA13 rfl (ev_move (hA13.ev (i := 0) (v := .int .i64 (n.tmod m))) _ rfl) ?_
  intro a14 hA14; clear hA13
  refine sx_val hA14 rfl (ev_move (hA14.ev (i := 1) (v := .int .i64 m)) _ rfl) ?_
  intro a15 hA15; clear hA14
  refine sx_val (v := .int .i64 ((n.tmod m) + m)) hA15 rfl (ev_addR (k := .i64) (m := (n.tmod m)) (n := m) (r := (n.tmod m) + m) (hA15.ev (i := 12)) (hA15.ev (i := 13)) (wr (by omega) (by omega) (by omega)) _ rfl) ?_
  intro a16 hA16; clear hA15
  refine sx_val hA16 rfl (ev_assign (hA16.ev (i := 14) (v := .int .i64 ((n.tmod m) + m))) _ rfl) ?_
  intro a17 hA17; clear hA16
  refine sx_nil ?_
  refine then_n ?_
  refine wp_seq ?_
  refine wp_region_lit ?_
  refine sx_val hA17 rfl (ev_move (hA17.ev (i := 0) (v := .int .i64 ((n.tmod m) + m))) _ rfl) ?_
  intro a18 hA18; clear hA17
  refine sx_val hA18 rfl (ev_assign (hA18.ev (i := 15) (v := .int .i64 ((n.tmod m) + m))) _ rfl) ?_
  intro a19 hA19; clear hA18
  refine sx_nil ?_
  refine then_n ?_
  refine wp_ret ?_
  refine bodyPost_ret (rs_t (v := .int .i64 ((n.tmod m) + m)) Try.results34 hA19 (by kernel_rfl) ) hA19.2.1 ?_
  have E : (n.tmod m) + m = n % m := mod_of_neg n m hm hp9
  exact ⟨by rw [← E], hbel0⟩

set_option maxHeartbeats 4000000 in
theorem of_any (A : Option Addr) (c : Nat) (xs : List Int) (w : World) (hg : GR 1 iva w A c xs) (h0 : ∀ x ∈ xs, 0 ≤ x) (hl : xs.length ≤ 1000) : Calls Try.prog 30 #[.slice A xs.length c] w (RSl w (ofS xs) id) := by
  have hbel0 := below0 w
  refine sx_enter (N := 32) [(0, .slice A xs.length c)] Try.func30 rfl Try.ntmps30 (by simp) (fun a z d s => ((Ag.nil z d).cons (s 0 _ rfl))) ?_
  intro a0 hA0
  refine wp_seq ?_
  refine wp_region_lit ?_
  refine sx_new (cs := #[.slice none 0 0, .slice none 0 0]) (t := 25) hA0 rfl (by decide) (.inl rfl) (ev_alloc (z := .agg (#[.slice none 0 0, .slice none 0 0])) (by kernel_rfl) (by kernel_rfl) _ rfl) ?_
  intro B1 w1 a1 hB1 hx1 hg1 hA1
  clear hA0
  have hs1 := hg1.size
  have hl1 := hx1.lt
  refine sx_nil ?_
  refine then_n ?_
  refine wp_seq ?_
  refine wp_region_lit ?_
  refine sx_new (cs := #[.slice none 0 0, .slice none 0 0]) (t := 25) hA1 rfl (by decide) (.inl rfl) (ev_alloc (z := .agg (#[.slice none 0 0, .slice none 0 0])) (by kernel_rfl) (by kernel_rfl) _ rfl) ?_
  intro B2 w2 a2 hB2 hx2 hg2 hA2
  clear hA1
  have hs2 := hg2.size
  have hl2 := hx2.lt
  refine sx_nil ?_
  refine then_n ?_
  refine wp_seq ?_
  refine wp_seq ?_
  refine wp_region_lit ?_
  refine sx_val hA2 rfl (ev_assign (ec _ (.int .i64 0)) _ rfl) ?_
  intro a3 hA3; clear hA2
  refine sx_nil ?_
  refine then_n ?_
  refine wp_block ?_
  have hx1_5 := hx1.gN hg2
  have hbel0_6 := Below.gN hbel0 hg1 hbel0.size
  have hbel0_7 := Below.gN hbel0_6 hg2 hbel0_6.size
  refine wp_loop_ghost (fun gz a wl => ∃ (k : Nat) (A1g : Option Addr) (c1g : Nat) (A2g : Option Addr) (c2g : Nat), gz = xs.length - k ∧ Ag a 32 [(0, .slice A xs.length c), (2, .pointer (some ⟨B1, 0, none⟩)), (3, .pointer (some ⟨B2, 0, none⟩)), (4, .int .i64 (k : Int))] ∧ k ≤ xs.length ∧ Bx wl B1 25 #[.slice none 0 0, .slice none 0 0] ∧ Bx wl B2 25 #[.slice A1g (ofr xs k).length c1g, .slice A2g (ofb xs k).length c2g] ∧ Own wl (w.heap.size) 3 1 (.slice A1g (ofr xs k).length c1g) (ofr xs k).length (flat iva (ofr xs k)) ∧ Own wl (w.heap.size) 4 1 (.slice A2g (ofb xs k).length c2g) (ofb xs k).length (flat bva (ofb xs k)) ∧ w2.heap.size ≤ wl.heap.size ∧ Below w.heap.size w wl) (xs.length - 0) ⟨0, none, 0, none, 0, rfl, (((((Ag.nil hA3.1 hA3.2.1).cons (hA3.get (i := 4) (v := .int .i64 0))).cons (hA3.get (i := 3) (v := .pointer (some ⟨B2, 0, none⟩)))).cons (hA3.get (i := 2) (v := .pointer (some ⟨B1, 0, none⟩)))).cons (hA3.get (i := 0) (v := .slice A xs.length c))), Nat.zero_le _, hx1_5, hx2, (Own.nil _ _ _ 1), (Own.nil _ _ _ 1), Nat.le_refl _, hbel0_7⟩ ?_
  intro n4 a4 w4 hI4
  obtain ⟨k, A1g, c1g, A2g, c2g, hn4, hA4, q4_0, f4_0, f4_1, f4_2, f4_3, hsz4, hbel4⟩ := hI4
  subst hn4
  clear hA3
  have hlB1_4 := f4_0.lt
  have hlB2_4 := f4_1.lt
  have hh4_0 := Own.hi f4_2
  have hh4_1 := Own.hi f4_3
  cases hd8 : decide ((k : Int) < (xs.length : Int))
  · have hp8 := of_decide_eq_false hd8
    refine wp_seq ?_
    refine wp_seq ?_
    refine wp_region_lit ?_
    refine sx_val hA4 rfl (ev_move (hA4.ev (i := 4) (v := .int .i64 (k : Int))) _ rfl) ?_
    intro a9 hA9; clear hA4
    refine sx_val hA9 rfl (ev_move (hA9.ev (i := 0) (v := .slice A xs.length c)) _ rfl) ?_
    intro a10 hA10; clear hA9
    refine sx_val (v := .int .i64 (xs.length : Int)) hA10 rfl (ev_len (hA10.ev (i := 6) (v := .slice A xs.length c)) Try.underlying22 _ rfl) ?_
    intro a11 hA11; clear hA10
    refine sx_val (v := .bool false) hA11 rfl (ev_lssB (k := .i64) (m := (k : Int)) (n := (xs.length : Int)) (hA11.ev (i := 5)) (hA11.ev (i := 7)) hd8 _ rfl) ?_
    intro a12 hA12; clear hA11
    refine sx_nil ?_
    refine then_n ?_
    refine wp_cond_false (hA12.ev (i := 8) (v := .bool false)) ?_
    refine wp_exit ?_
    refine then_x ?_
    refine then_x ?_
    refine blk_hit ?_
    refine then_n ?_
    refine wp_seq ?_
    refine wp_region_lit ?_
    refine sx_val (v := .agg #[.slice A1g (ofr xs k).length c1g, .slice A2g (ofb xs k).length c2g]) hA12 rfl (ev_row (hA12.ev (i := 3) (v := .pointer (some ⟨B2, 0, none⟩))) f4_1 Try.underlying25 rfl (n := 2) (by kernel_rfl) rfl _ rfl) ?_
    intro a13 hA13; clear hA12
    refine sx_store hA13 rfl (.inl rfl) rfl (hA13.ev (i := 2) (v := .pointer (some ⟨B1, 0, none⟩))) (hA13.ev (i := 31) (v := .agg #[.slice A1g (ofr xs k).length c1g, .slice A2g (ofb xs k).length c2g])) f4_0 (by kernel_rfl) rfl (by simp [Value.oneCell']) ?_
    intro w14 hx14 hg14
    have hs14 := hg14.size
    refine sx_nil ?_
    refine then_n ?_
    refine wp_ret ?_
    refine bodyPost_ret (rs_c  Try.results30 hA13 (by kernel_rfl) hx14 Try.underlying25 rfl (by kernel_rfl)) hA13.2.1 ?_
    have f4_15 := Own.gBT f4_2 hg14 f4_0 (by decide)
    have f4_16 := Own.gBT f4_3 hg14 f4_0 (by decide)
    have hbel4_17 := Below.gB hbel4 hg14 hbel4.size (by omega)
    have hkn : k = xs.length := by omega
    subst hkn
    exact ⟨_, _, _, _, rfl, Own.mono f4_15 (by omega), Own.mono f4_16 (by omega), hbel4_17⟩
  have hp8 := of_decide_eq_true hd8
  obtain ⟨x, hx⟩ : ∃ x, xs[k]? = some x := ⟨_, List.getElem?_eq_getElem (by omega)⟩
  have hx0 := h0 x (List.mem_of_getElem? hx)
  obtain ⟨ad1, hAd1⟩ := GR.adr hg iva_sz hx
  have hor := ofr_len (xs := xs) (k := k) (by omega)
  have hob := ofb_len (xs := xs) (k := k) (by omega)
  refine wp_seq ?_
  refine wp_seq ?_
  refine wp_region_lit ?_
  refine sx_val hA4 rfl (ev_move (hA4.ev (i := 4) (v := .int .i64 (k : Int))) _ rfl) ?_
  intro a18 hA18; clear hA4
  refine sx_val hA18 rfl (ev_move (hA18.ev (i := 0) (v := .slice A xs.length c)) _ rfl) ?_
  intro a19 hA19; clear hA18
  refine sx_val (v := .int .i64 (xs.length : Int)) hA19 rfl (ev_len (hA19.ev (i := 6) (v := .slice A xs.length c)) Try.underlying22 _ rfl) ?_
  intro a20 hA20; clear hA19
  refine sx_val (v := .bool true) hA20 rfl (ev_lssB (k := .i64) (m := (k : Int)) (n := (xs.length : Int)) (hA20.ev (i := 5)) (hA20.ev (i := 7)) hd8 _ rfl) ?_
  intro a21 hA21; clear hA20
  refine sx_nil ?_
  refine then_n ?_
  refine wp_cond_true (hA21.ev (i := 8) (v := .bool true)) ?_
  refine wp_skip ?_
  refine then_n ?_
  refine wp_seq ?_
  refine wp_block ?_
  refine wp_seq ?_
  refine region_D (n := 11) (by kernel_rfl) (by kernel_rfl) rfl (fun L ac wc => ∃ G7r5 : Nat, ∃ Ag8r5 : Option Addr, ∃ cg8r5 : Nat, Below w.heap.size w wc ∧ w4.heap.size ≤ wc.heap.size ∧ Bx wc B1 25 (#[.slice none 0 0, .slice none 0 0]) ∧ Bx wc B2 25 (bif L 10 then (#[.slice Ag8r5 ((ofr xs k) ++ [(x % 1000)]).length cg8r5, .slice A2g (ofb xs k).length c2g]) else (#[.slice A1g (ofr xs k).length c1g, .slice A2g (ofb xs k).length c2g])) ∧ (L 8 = false → Own wc (w.heap.size) 3 1 (.slice A1g (ofr xs k).length c1g) (ofr xs k).length (flat iva (ofr xs k))) ∧ Own wc (w.heap.size) 4 1 (.slice A2g (ofb xs k).length c2g) (ofb xs k).length (flat bva (ofb xs k)) ∧ (L 7 = true → Own wc w4.heap.size 3 1 (.slice (some ⟨G7r5, 0, none⟩) 1 1) 1 (flat iva [(x % 1000)])) ∧ (L 8 = true → Own wc (w.heap.size) 3 1 (.slice Ag8r5 ((ofr xs k) ++ [(x % 1000)]).length cg8r5) ((ofr xs k) ++ [(x % 1000)]).length (flat iva ((ofr xs k) ++ [(x % 1000)]))) ∧ (L 10 = true → L 1 = true) ∧ (L 8 = true → L 1 = true) ∧ (L 10 = true → L 8 = true) ∧ (L 0 = true → Sv ac 11 (.pointer (some ⟨B2, 0, none⟩))) ∧ (L 1 = true → Sv ac 12 (.slice A1g (ofr xs k).length c1g)) ∧ (L 2 = true → Sv ac 13 (.slice A xs.length c)) ∧ (L 3 = true → Sv ac 14 (.int .i64 (k : Int))) ∧ (L 4 = true → Sv ac 15 (.pointer (some (ad1.add (k * 1))))) ∧ (L 5 = true → Sv ac 16 (.int .i64 x)) ∧ (L 6 = true → Sv ac 17 (.int .i64 (x % 1000))) ∧ (L 7 = true → Sv ac 18 (.slice (some ⟨G7r5, 0, none⟩) 1 1)) ∧ (L 8 = true → Sv ac 19 (.slice Ag8r5 ((ofr xs k) ++ [(x % 1000)]).length cg8r5)) ∧ (L 9 = true → Sv ac 20 (.pointer (some ⟨B2, 0, none⟩)))) ⟨0, none, 0, (Below.gN hbel4 (gdr _) hbel4.size), (Nat.le_refl _), (f4_0.gN (gdr _)), (f4_1.gN (gdr _)), (fun _ => Own.gN f4_2 (gdr _)), (Own.gN f4_3 (gdr _)), (fun h => by cases h), (fun h => by cases h), (fun h => by cases h), (fun h => by cases h), (fun h => by cases h), (fun h => by cases h), (fun h => by cases h), (fun h => by cases h), (fun h => by cases h), (fun h => by cases h), (fun h => by cases h), (fun h => by cases h), (fun h => by cases h), (fun h => by cases h), (fun h => by cases h)⟩ ?_ ?_
  · intro iq hiq o ho L hL hdep ac wc hF hJ
    obtain ⟨G7r5, Ag8r5, cg8r5, bl, sz, b_B1, b_B2, p_0, p_1, a_7, a_8, cl_10_1, cl_8_1, cl_10_8, s_11, s_12, s_13, s_14, s_15, s_16, s_17, s_18, s_19, s_20⟩ := hJ
    have zq := hF.1.trans hA21.1
    match iq, hiq with
    | 0, _ =>
      obtain rfl := Option.some.inj (show some _ = some o from ho); clear ho
      have v3 := hF.sv (s := 3) (by kernel_rfl) (hA21.get (i := 3) (v := .pointer (some ⟨B2, 0, none⟩)))
      refine dj_val (i := 0) (v := .pointer (some ⟨B2, 0, none⟩)) rfl (.inl rfl) (fb_Slots_0 v3.eval _ rfl) ?_
      exact ⟨⟨_, rfl⟩, G7r5, Ag8r5, cg8r5, bl, sz, b_B1, b_B2, p_0, p_1, a_7, a_8, cl_10_1, cl_8_1, cl_10_8, (fun _ => Sv.self (by rw [zq]; decide) _), (so s_12), (so s_13), (so s_14), (so s_15), (so s_16), (so s_17), (so s_18), (so s_19), (so s_20)⟩
    | 1, _ =>
      obtain rfl := Option.some.inj (show some _ = some o from ho); clear ho
      have v11 := s_11 (dp hdep 0)
      have eB2 : L 10 = false := by
          cases hc : L 10
          · rfl
          · exact absurd (cl_10_1 hc) (by rw [hL]; decide)
      have yB2 := b_B2
      rw [eB2] at yB2
      refine dj_val (i := 1) (v := .slice A1g (ofr xs k).length c1g) rfl (.inl rfl) (ev_cell (v := .slice A1g (ofr xs k).length c1g) v11.eval ((yB2.cell 0).trans rfl) Try.underlying22 rfl _ rfl) ?_
      exact ⟨⟨_, rfl⟩, G7r5, Ag8r5, cg8r5, bl, sz, b_B1, b_B2, p_0, p_1, a_7, a_8, (fun _ => rfl), (fun _ => rfl), cl_10_8, (so s_11), (fun _ => Sv.self (by rw [zq]; decide) _), (so s_13), (so s_14), (so s_15), (so s_16), (so s_17), (so s_18), (so s_19), (so s_20)⟩
    | 2, _ =>
      obtain rfl := Option.some.inj (show some _ = some o from ho); clear ho
      have v0 := hF.sv (s := 0) (by kernel_rfl) (hA21.get (i := 0) (v := .slice A xs.length c))
      refine dj_val (i := 2) (v := .slice A xs.length c) rfl (.inl rfl) (ev_move v0.eval _ rfl) ?_
      exact ⟨⟨_, rfl⟩, G7r5, Ag8r5, cg8r5, bl, sz, b_B1, b_B2, p_0, p_1, a_7, a_8, cl_10_1, cl_8_1, cl_10_8, (so s_11), (so s_12), (fun _ => Sv.self (by rw [zq]; decide) _), (so s_14), (so s_15), (so s_16), (so s_17), (so s_18), (so s_19), (so s_20)⟩
    | 3, _ =>
      obtain rfl := Option.some.inj (show some _ = some o from ho); clear ho
      have v4 := hF.sv (s := 4) (by kernel_rfl) (hA21.get (i := 4) (v := .int .i64 (k : Int)))
      refine dj_val (i := 3) (v := .int .i64 (k : Int)) rfl (.inl rfl) (ev_move v4.eval _ rfl) ?_
      exact ⟨⟨_, rfl⟩, G7r5, Ag8r5, cg8r5, bl, sz, b_B1, b_B2, p_0, p_1, a_7, a_8, cl_10_1, cl_8_1, cl_10_8, (so s_11), (so s_12), (so s_13), (fun _ => Sv.self (by rw [zq]; decide) _), (so s_15), (so s_16), (so s_17), (so s_18), (so s_19), (so s_20)⟩
    | 4, _ =>
      obtain rfl := Option.some.inj (show some _ = some o from ho); clear ho
      have v13 := s_13 (dp hdep 2)
      have v14 := s_14 (dp hdep 3)
      refine dj_val (i := 4) (v := .pointer (some (ad1.add (k * 1)))) rfl (.inl rfl) (ev_idx (k := k) v13.eval hAd1 v14.eval rfl (by omega) Try.underlying22 (by kernel_rfl) _ rfl) ?_
      exact ⟨⟨_, rfl⟩, G7r5, Ag8r5, cg8r5, bl, sz, b_B1, b_B2, p_0, p_1, a_7, a_8, cl_10_1, cl_8_1, cl_10_8, (so s_11), (so s_12), (so s_13), (so s_14), (fun _ => Sv.self (by rw [zq]; decide) _), (so s_16), (so s_17), (so s_18), (so s_19), (so s_20)⟩
    | 5, _ =>
      obtain rfl := Option.some.inj (show some _ = some o from ho); clear ho
      have v15 := s_15 (dp hdep 4)
      refine dj_val (i := 5) (v := .int .i64 x) rfl (.inl rfl) (ev_cell v15.eval ((GR.cel (hg.below bl) hAd1 iva_sz hx) 0 _ rfl) Try.underlying3 rfl _ rfl) ?_
      exact ⟨⟨_, rfl⟩, G7r5, Ag8r5, cg8r5, bl, sz, b_B1, b_B2, p_0, p_1, a_7, a_8, cl_10_1, cl_8_1, cl_10_8, (so s_11), (so s_12), (so s_13), (so s_14), (so s_15), (fun _ => Sv.self (by rw [zq]; decide) _), (so s_17), (so s_18), (so s_19), (so s_20)⟩
    | 6, _ =>
      obtain rfl := Option.some.inj (show some _ = some o from ho); clear ho
      have v16 := s_16 (dp hdep 5)
      refine dj_val (i := 6) (v := .int .i64 (x % 1000)) rfl (.inl rfl) (ev_remR (k := .i64) (m := x) (n := 1000) (r := (x % 1000)) v16.eval (ec ac (.int .i64 1000)) (by decide) (rm (by omega)) _ rfl) ?_
      exact ⟨⟨_, rfl⟩, G7r5, Ag8r5, cg8r5, bl, sz, b_B1, b_B2, p_0, p_1, a_7, a_8, cl_10_1, cl_8_1, cl_10_8, (so s_11), (so s_12), (so s_13), (so s_14), (so s_15), (so s_16), (fun _ => Sv.self (by rw [zq]; decide) _), (so s_18), (so s_19), (so s_20)⟩
    | 7, _ =>
      obtain rfl := Option.some.inj (show some _ = some o from ho); clear ho
      have v17 := s_17 (dp hdep 6)
      refine dj_val (i := 7) rfl (.inl rfl) (w' := wc.alloc (.cells (iva (x % 1000)) 3)) (v := .slice (some ⟨wc.heap.size, 0, none⟩) 1 1) (bs1_int v17.eval _ rfl) ?_
      have hown := Own.mono (Own.bxn (n := 1) (xs := [(x % 1000)]) (show Bx _ _ _ (flat iva [(x % 1000)]).toArray from Bx.new wc 3 (iva (x % 1000))) iva_sz rfl (by decide)) sz
      have hg := g0 (al wc (.cells (iva (x % 1000)) 3))
      exact ⟨⟨_, rfl⟩, wc.heap.size, Ag8r5, cg8r5, (Below.gN bl hg bl.size), (Nat.le_trans sz hg.size), (b_B1.gN hg), (b_B2.gN hg), (fun h => Own.gN (p_0 h) hg), (Own.gN p_1 hg), (fun _ => hown), (fun h => Own.gN (a_8 h) hg), cl_10_1, cl_8_1, cl_10_8, (so s_11), (so s_12), (so s_13), (so s_14), (so s_15), (so s_16), (so s_17), (fun _ => Sv.self (by rw [zq]; decide) _), (so s_19), (so s_20)⟩
    | 8, _ =>
      obtain rfl := Option.some.inj (show some _ = some o from ho); clear ho
      have v12 := s_12 (dp hdep 1)
      have v18 := s_18 (dp hdep 7)
      have ho := p_0 hL
      obtain ⟨i0, hi1, hz0, hz1, hz2⟩ := info_parts (show (Try.prog.info? 3).map (fun i => (i.zero, i.size, i.bytes)) = some (some (.int .i64 0), 1, 8) by kernel_rfl)
      obtain ⟨Ag8r5, cg8r5, wq2, hrun, hown, hg, -⟩ := run_append_ownG (P := Try.prog) wc (w.heap.size) 22 22 3 i0 (.int .i64 0) 1 8 Try.underlying22 hi1 hz0 hz1 hz2 rfl (by decide) _ (ofr xs k).length (flat iva (ofr xs k)) ho _ (some ⟨G7r5, 0, none⟩) 1 1 (flat iva [(x % 1000)]) (OwnR.gr (e := 3) ⟨rfl, (a_7 (dp hdep 7))⟩).2.2 (flat_one iva_one _) (by unfold maxLen; omega) (by omega) (by omega)
      have hln : (ofr xs k).length + 1 = ((ofr xs k) ++ [(x % 1000)]).length := by simp
      rw [hln] at hrun hown
      rw [← flat_append] at hown
      have e1 := v12.eval
      have e2 := v18.eval
      refine dj_val (i := 8) (v := .slice Ag8r5 ((ofr xs k) ++ [(x % 1000)]).length cg8r5) (w' := wq2) rfl (.inl rfl) (by simp only [execOp, resolve, invoke, builtin, Sem.run_bind, Sem.run_pure, Result.andThen_ok, List.map_toArray, List.map_cons, List.map_nil, e1, e2, hrun]) ?_
      exact ⟨⟨_, rfl⟩, G7r5, Ag8r5, cg8r5, (Below.gO bl hg ho bl.size (by omega)), (Nat.le_trans sz hg.size), (b_B1.gOT hg ho (by decide)), (by
          have e0 : L 10 = false := by
            cases hc : L 10
            · rfl
            · exact absurd (cl_10_8 hc) (by rw [hL]; decide)
          have h0 := b_B2.gOT hg ho (by decide)
          rw [e0] at h0
          show Bx _ _ _ (bif L 10 then _ else _)
          rw [e0]
          exact h0), (fun h => by cases h), (Own.gOT p_1 hg ho (by decide)), (fun h => Own.gO (a_7 h) hg ho (Own.hi (a_7 h)) hh4_0 (by omega)), (fun _ => hown), cl_10_1, (fun _ => dp hdep 1), (fun _ => rfl), (so s_11), (so s_12), (so s_13), (so s_14), (so s_15), (so s_16), (so s_17), (so s_18), (fun _ => Sv.self (by rw [zq]; decide) _), (so s_20)⟩
    | 9, _ =>
      obtain rfl := Option.some.inj (show some _ = some o from ho); clear ho
      have v3 := hF.sv (s := 3) (by kernel_rfl) (hA21.get (i := 3) (v := .pointer (some ⟨B2, 0, none⟩)))
      refine dj_val (i := 9) (v := .pointer (some ⟨B2, 0, none⟩)) rfl (.inl rfl) (fb_Slots_0 v3.eval _ rfl) ?_
      exact ⟨⟨_, rfl⟩, G7r5, Ag8r5, cg8r5, bl, sz, b_B1, b_B2, p_0, p_1, a_7, a_8, cl_10_1, cl_8_1, cl_10_8, (so s_11), (so s_12), (so s_13), (so s_14), (so s_15), (so s_16), (so s_17), (so s_18), (so s_19), (fun _ => Sv.self (by rw [zq]; decide) _)⟩
    | 10, _ =>
      obtain rfl := Option.some.inj (show some _ = some o from ho); clear ho
      have v20 := s_20 (dp hdep 9)
      have v19 := s_19 (dp hdep 8)
      have eB2 : L 10 = false := hL
      have yB2 := b_B2
      rw [eB2] at yB2
      refine dj_skip (i := 10) rfl rfl (.inl rfl) (w' := wc.setCell ⟨B2, 0, none⟩ (.slice Ag8r5 ((ofr xs k) ++ [(x % 1000)]).length cg8r5)) (ev_scell (v := .slice Ag8r5 ((ofr xs k) ++ [(x % 1000)]).length cg8r5) v20.eval v19.eval ((yB2.cell 0).trans rfl) (yB2.frozen 0) (by kernel_rfl) rfl _ rfl) ?_
      have hg := gsc (i := 0) yB2 (.slice Ag8r5 ((ofr xs k) ++ [(x % 1000)]).length cg8r5)
      have hx := (yB2.set 0 (.slice Ag8r5 ((ofr xs k) ++ [(x % 1000)]).length cg8r5))
      exact ⟨⟨undef, rfl⟩, G7r5, Ag8r5, cg8r5, (Below.gB bl hg bl.size (by omega)), (Nat.le_trans sz hg.size), (b_B1.gB hg (by omega)), hx, (fun h => Own.gBT (p_0 h) hg yB2 (by decide)), (Own.gBT p_1 hg yB2 (by decide)), (fun h => Own.gBT (a_7 h) hg yB2 (by decide)), (fun h => Own.gBT (a_8 h) hg yB2 (by decide)), (fun _ => cl_8_1 (dp hdep 8)), cl_8_1, (fun _ => dp hdep 8), s_11, s_12, s_13, s_14, s_15, s_16, s_17, s_18, s_19, s_20⟩
    | k + 11, h => exact absurd h (by omega)
  · intro L hall ac22 wc22 hF hJ
    obtain ⟨G7r5, Ag8r5, cg8r5, bl, sz, b_B1, b_B2, p_0, p_1, a_7, a_8, cl_10_1, cl_8_1, cl_10_8, s_11, s_12, s_13, s_14, s_15, s_16, s_17, s_18, s_19, s_20⟩ := hJ
    have hA22 : Ag ac22 32 [(0, .slice A xs.length c), (2, .pointer (some ⟨B1, 0, none⟩)), (3, .pointer (some ⟨B2, 0, none⟩)), (4, .int .i64 (k : Int)), (5, .int .i64 (k : Int)), (6, .slice A xs.length c), (7, .int .i64 (xs.length : Int)), (8, .bool true), (11, .pointer (some ⟨B2, 0, none⟩)), (12, .slice A1g (ofr xs k).length c1g), (13, .slice A xs.length c), (14, .int .i64 (k : Int)), (15, .pointer (some (ad1.add (k * 1)))), (16, .int .i64 x), (17, .int .i64 (x % 1000)), (18, .slice (some ⟨G7r5, 0, none⟩) 1 1), (19, .slice Ag8r5 ((ofr xs k) ++ [(x % 1000)]).length cg8r5), (20, .pointer (some ⟨B2, 0, none⟩))] := (((((((((((((((((((Ag.nil (hF.1.trans hA21.1) (hF.2.1.trans hA21.2.1)).cons (s_20 (hall 9 (by decide)))).cons (s_19 (hall 8 (by decide)))).cons (s_18 (hall 7 (by decide)))).cons (s_17 (hall 6 (by decide)))).cons (s_16 (hall 5 (by decide)))).cons (s_15 (hall 4 (by decide)))).cons (s_14 (hall 3 (by decide)))).cons (s_13 (hall 2 (by decide)))).cons (s_12 (hall 1 (by decide)))).cons (s_11 (hall 0 (by decide)))).cons (hF.sv (s := 8) (by kernel_rfl) (hA21.get (i := 8) (v := .bool true)))).cons (hF.sv (s := 7) (by kernel_rfl) (hA21.get (i := 7) (v := .int .i64 (xs.length : Int))))).cons (hF.sv (s := 6) (by kernel_rfl) (hA21.get (i := 6) (v := .slice A xs.length c)))).cons (hF.sv (s := 5) (by kernel_rfl) (hA21.get (i := 5) (v := .int .i64 (k : Int))))).cons (hF.sv (s := 4) (by kernel_rfl) (hA21.get (i := 4) (v := .int .i64 (k : Int))))).cons (hF.sv (s := 3) (by kernel_rfl) (hA21.get (i := 3) (v := .pointer (some ⟨B2, 0, none⟩))))).cons (hF.sv (s := 2) (by kernel_rfl) (hA21.get (i := 2) (v := .pointer (some ⟨B1, 0, none⟩))))).cons (hF.sv (s := 0) (by kernel_rfl) (hA21.get (i := 0) (v := .slice A xs.length c))))
    have bl22 := bl
    have sz22 := sz
    have b22_B1 := b_B1
    have b22_B2 : Bx wc22 B2 25 (#[.slice Ag8r5 ((ofr xs k) ++ [(x % 1000)]).length cg8r5, .slice A2g (ofb xs k).length c2g]) := by
      have h := b_B2
      rw [hall 10 (by decide)] at h
      exact h
    have p22_1 := p_1
    have a22_7 := a_7 (hall 7 (by decide))
    have hha22_7 := Own.hi a22_7
    have a22_8 := a_8 (hall 8 (by decide))
    have hha22_8 := Own.hi a22_8
    clear hF bl sz b_B1 b_B2 p_0 p_1 a_7 a_8 cl_10_1 cl_8_1 cl_10_8 s_11 s_12 s_13 s_14 s_15 s_16 s_17 s_18 s_19 s_20 hall hA21
    refine then_n ?_
    refine region_D (n := 11) (by kernel_rfl) (by kernel_rfl) rfl (fun L ac wc => ∃ G7r6 : Nat, ∃ Ag8r6 : Option Addr, ∃ cg8r6 : Nat, Below w.heap.size w wc ∧ wc22.heap.size ≤ wc.heap.size ∧ Bx wc B1 25 (#[.slice none 0 0, .slice none 0 0]) ∧ Bx wc B2 25 (bif L 10 then (#[.slice Ag8r5 ((ofr xs k) ++ [(x % 1000)]).length cg8r5, .slice Ag8r6 ((ofb xs k) ++ [(decide (1000 ≤ x))]).length cg8r6]) else (#[.slice Ag8r5 ((ofr xs k) ++ [(x % 1000)]).length cg8r5, .slice A2g (ofb xs k).length c2g])) ∧ (L 8 = false → Own wc (w.heap.size) 4 1 (.slice A2g (ofb xs k).length c2g) (ofb xs k).length (flat bva (ofb xs k))) ∧ Own wc (w4.heap.size) 3 1 (.slice (some ⟨G7r5, 0, none⟩) 1 1) 1 (flat iva ([(x % 1000)])) ∧ Own wc (w.heap.size) 3 1 (.slice Ag8r5 ((ofr xs k) ++ [(x % 1000)]).length cg8r5) ((ofr xs k) ++ [(x % 1000)]).length (flat iva ((ofr xs k) ++ [(x % 1000)])) ∧ (L 7 = true → Own wc wc22.heap.size 4 1 (.slice (some ⟨G7r6, 0, none⟩) 1 1) 1 (flat bva [(decide (1000 ≤ x))])) ∧ (L 8 = true → Own wc (w.heap.size) 4 1 (.slice Ag8r6 ((ofb xs k) ++ [(decide (1000 ≤ x))]).length cg8r6) ((ofb xs k) ++ [(decide (1000 ≤ x))]).length (flat bva ((ofb xs k) ++ [(decide (1000 ≤ x))]))) ∧ (L 10 = true → L 1 = true) ∧ (L 8 = true → L 1 = true) ∧ (L 10 = true → L 8 = true) ∧ (L 0 = true → Sv ac 21 (.pointer (some ⟨B2, 1, none⟩))) ∧ (L 1 = true → Sv ac 22 (.slice A2g (ofb xs k).length c2g)) ∧ (L 2 = true → Sv ac 23 (.slice A xs.length c)) ∧ (L 3 = true → Sv ac 24 (.int .i64 (k : Int))) ∧ (L 4 = true → Sv ac 25 (.pointer (some (ad1.add (k * 1))))) ∧ (L 5 = true → Sv ac 26 (.int .i64 x)) ∧ (L 6 = true → Sv ac 27 (.bool (decide (1000 ≤ x)))) ∧ (L 7 = true → Sv ac 28 (.slice (some ⟨G7r6, 0, none⟩) 1 1)) ∧ (L 8 = true → Sv ac 29 (.slice Ag8r6 ((ofb xs k) ++ [(decide (1000 ≤ x))]).length cg8r6)) ∧ (L 9 = true → Sv ac 30 (.pointer (some ⟨B2, 1, none⟩)))) ⟨0, none, 0, (Below.gN bl22 (gdr _) bl22.size), (Nat.le_refl _), (b22_B1.gN (gdr _)), (b22_B2.gN (gdr _)), (fun _ => Own.gN p22_1 (gdr _)), (Own.gN a22_7 (gdr _)), (Own.gN a22_8 (gdr _)), (fun h => by cases h), (fun h => by cases h), (fun h => by cases h), (fun h => by cases h), (fun h => by cases h), (fun h => by cases h), (fun h => by cases h), (fun h => by cases h), (fun h => by cases h), (fun h => by cases h), (fun h => by cases h), (fun h => by cases h), (fun h => by cases h), (fun h => by cases h), (fun h => by cases h)⟩ ?_ ?_
    · intro iq hiq o ho L hL hdep ac wc hF hJ
      obtain ⟨G7r6, Ag8r6, cg8r6, bl, sz, b_B1, b_B2, p_0, p_1, p_2, a_7, a_8, cl_10_1, cl_8_1, cl_10_8, s_21, s_22, s_23, s_24, s_25, s_26, s_27, s_28, s_29, s_30⟩ := hJ
      have zq := hF.1.trans hA22.1
      match iq, hiq with
      | 0, _ =>
        obtain rfl := Option.some.inj (show some _ = some o from ho); clear ho
        have v3 := hF.sv (s := 3) (by kernel_rfl) (hA22.get (i := 3) (v := .pointer (some ⟨B2, 0, none⟩)))
        refine dj_val (i := 0) (v := .pointer (some ⟨B2, 1, none⟩)) rfl (.inl rfl) (fb_Slots_1 v3.eval _ rfl) ?_
        exact ⟨⟨_, rfl⟩, G7r6, Ag8r6, cg8r6, bl, sz, b_B1, b_B2, p_0, p_1, p_2, a_7, a_8, cl_10_1, cl_8_1, cl_10_8, (fun _ => Sv.self (by rw [zq]; decide) _), (so s_22), (so s_23), (so s_24), (so s_25), (so s_26), (so s_27), (so s_28), (so s_29), (so s_30)⟩
      | 1, _ =>
        obtain rfl := Option.some.inj (show some _ = some o from ho); clear ho
        have v21 := s_21 (dp hdep 0)
        have eB2 : L 10 = false := by
            cases hc : L 10
            · rfl
            · exact absurd (cl_10_1 hc) (by rw [hL]; decide)
        have yB2 := b_B2
        rw [eB2] at yB2
        refine dj_val (i := 1) (v := .slice A2g (ofb xs k).length c2g) rfl (.inl rfl) (ev_cell (v := .slice A2g (ofb xs k).length c2g) v21.eval ((yB2.cell 1).trans rfl) Try.underlying23 rfl _ rfl) ?_
        exact ⟨⟨_, rfl⟩, G7r6, Ag8r6, cg8r6, bl, sz, b_B1, b_B2, p_0, p_1, p_2, a_7, a_8, (fun _ => rfl), (fun _ => rfl), cl_10_8, (so s_21), (fun _ => Sv.self (by rw [zq]; decide) _), (so s_23), (so s_24), (so s_25), (so s_26), (so s_27), (so s_28), (so s_29), (so s_30)⟩
      | 2, _ =>
        obtain rfl := Option.some.inj (show some _ = some o from ho); clear ho
        have v0 := hF.sv (s := 0) (by kernel_rfl) (hA22.get (i := 0) (v := .slice A xs.length c))
        refine dj_val (i := 2) (v := .slice A xs.length c) rfl (.inl rfl) (ev_move v0.eval _ rfl) ?_
        exact ⟨⟨_, rfl⟩, G7r6, Ag8r6, cg8r6, bl, sz, b_B1, b_B2, p_0, p_1, p_2, a_7, a_8, cl_10_1, cl_8_1, cl_10_8, (so s_21), (so s_22), (fun _ => Sv.self (by rw [zq]; decide) _), (so s_24), (so s_25), (so s_26), (so s_27), (so s_28), (so s_29), (so s_30)⟩
      | 3, _ =>
        obtain rfl := Option.some.inj (show some _ = some o from ho); clear ho
        have v4 := hF.sv (s := 4) (by kernel_rfl) (hA22.get (i := 4) (v := .int .i64 (k : Int)))
        refine dj_val (i := 3) (v := .int .i64 (k : Int)) rfl (.inl rfl) (ev_move v4.eval _ rfl) ?_
        exact ⟨⟨_, rfl⟩, G7r6, Ag8r6, cg8r6, bl, sz, b_B1, b_B2, p_0, p_1, p_2, a_7, a_8, cl_10_1, cl_8_1, cl_10_8, (so s_21), (so s_22), (so s_23), (fun _ => Sv.self (by rw [zq]; decide) _), (so s_25), (so s_26), (so s_27), (so s_28), (so s_29), (so s_30)⟩
      | 4, _ =>
        obtain rfl := Option.some.inj (show some _ = some o from ho); clear ho
        have v23 := s_23 (dp hdep 2)
        have v24 := s_24 (dp hdep 3)
        refine dj_val (i := 4) (v := .pointer (some (ad1.add (k * 1)))) rfl (.inl rfl) (ev_idx (k := k) v23.eval hAd1 v24.eval rfl (by omega) Try.underlying22 (by kernel_rfl) _ rfl) ?_
        exact ⟨⟨_, rfl⟩, G7r6, Ag8r6, cg8r6, bl, sz, b_B1, b_B2, p_0, p_1, p_2, a_7, a_8, cl_10_1, cl_8_1, cl_10_8, (so s_21), (so s_22), (so s_23), (so s_24), (fun _ => Sv.self (by rw [zq]; decide) _), (so s_26), (so s_27), (so s_28), (so s_29), (so s_30)⟩
      | 5, _ =>
        obtain rfl := Option.some.inj (show some _ = some o from ho); clear ho
        have v25 := s_25 (dp hdep 4)
        refine dj_val (i := 5) (v := .int .i64 x) rfl (.inl rfl) (ev_cell v25.eval ((GR.cel (hg.below bl) hAd1 iva_sz hx) 0 _ rfl) Try.underlying3 rfl _ rfl) ?_
        exact ⟨⟨_, rfl⟩, G7r6, Ag8r6, cg8r6, bl, sz, b_B1, b_B2, p_0, p_1, p_2, a_7, a_8, cl_10_1, cl_8_1, cl_10_8, (so s_21), (so s_22), (so s_23), (so s_24), (so s_25), (fun _ => Sv.self (by rw [zq]; decide) _), (so s_27), (so s_28), (so s_29), (so s_30)⟩
      | 6, _ =>
        obtain rfl := Option.some.inj (show some _ = some o from ho); clear ho
        have v26 := s_26 (dp hdep 5)
        refine dj_val (i := 6) (v := .bool (decide (1000 ≤ x))) rfl (.inl rfl) (ev_geqB (k := .i64) (m := x) (n := 1000) v26.eval (ec ac (.int .i64 1000)) rfl _ rfl) ?_
        exact ⟨⟨_, rfl⟩, G7r6, Ag8r6, cg8r6, bl, sz, b_B1, b_B2, p_0, p_1, p_2, a_7, a_8, cl_10_1, cl_8_1, cl_10_8, (so s_21), (so s_22), (so s_23), (so s_24), (so s_25), (so s_26), (fun _ => Sv.self (by rw [zq]; decide) _), (so s_28), (so s_29), (so s_30)⟩
      | 7, _ =>
        obtain rfl := Option.some.inj (show some _ = some o from ho); clear ho
        have v27 := s_27 (dp hdep 6)
        refine dj_val (i := 7) rfl (.inl rfl) (w' := wc.alloc (.cells (bva (decide (1000 ≤ x))) 4)) (v := .slice (some ⟨wc.heap.size, 0, none⟩) 1 1) (bs1_bool v27.eval _ rfl) ?_
        have hown := Own.mono (Own.bxn (n := 1) (xs := [(decide (1000 ≤ x))]) (show Bx _ _ _ (flat bva [(decide (1000 ≤ x))]).toArray from Bx.new wc 4 (bva (decide (1000 ≤ x)))) bva_sz rfl (by decide)) sz
        have hg := g0 (al wc (.cells (bva (decide (1000 ≤ x))) 4))
        exact ⟨⟨_, rfl⟩, wc.heap.size, Ag8r6, cg8r6, (Below.gN bl hg bl.size), (Nat.le_trans sz hg.size), (b_B1.gN hg), (b_B2.gN hg), (fun h => Own.gN (p_0 h) hg), (Own.gN p_1 hg), (Own.gN p_2 hg), (fun _ => hown), (fun h => Own.gN (a_8 h) hg), cl_10_1, cl_8_1, cl_10_8, (so s_21), (so s_22), (so s_23), (so s_24), (so s_25), (so s_26), (so s_27), (fun _ => Sv.self (by rw [zq]; decide) _), (so s_29), (so s_30)⟩
      | 8, _ =>
        obtain rfl := Option.some.inj (show some _ = some o from ho); clear ho
        have v22 := s_22 (dp hdep 1)
        have v28 := s_28 (dp hdep 7)
        have ho := p_0 hL
        obtain ⟨i0, hi1, hz0, hz1, hz2⟩ := info_parts (show (Try.prog.info? 4).map (fun i => (i.zero, i.size, i.bytes)) = some (some (.bool false), 1, 1) by kernel_rfl)
        obtain ⟨Ag8r6, cg8r6, wq2, hrun, hown, hg, -⟩ := run_append_ownG (P := Try.prog) wc (w.heap.size) 23 23 4 i0 (.bool false) 1 1 Try.underlying23 hi1 hz0 hz1 hz2 rfl (by decide) _ (ofb xs k).length (flat bva (ofb xs k)) ho _ (some ⟨G7r6, 0, none⟩) 1 1 (flat bva [(decide (1000 ≤ x))]) (OwnR.gr (e := 4) ⟨rfl, (a_7 (dp hdep 7))⟩).2.2 (flat_one bva_one _) (by unfold maxLen; omega) (by omega) (by omega)
        have hln : (ofb xs k).length + 1 = ((ofb xs k) ++ [(decide (1000 ≤ x))]).length := by simp
        rw [hln] at hrun hown
        rw [← flat_append] at hown
        have e1 := v22.eval
        have e2 := v28.eval
        refine dj_val (i := 8) (v := .slice Ag8r6 ((ofb xs k) ++ [(decide (1000 ≤ x))]).length cg8r6) (w' := wq2) rfl (.inl rfl) (by simp only [execOp, resolve, invoke, builtin, Sem.run_bind, Sem.run_pure, Result.andThen_ok, List.map_toArray, List.map_cons, List.map_nil, e1, e2, hrun]) ?_
        exact ⟨⟨_, rfl⟩, G7r6, Ag8r6, cg8r6, (Below.gO bl hg ho bl.size (by omega)), (Nat.le_trans sz hg.size), (b_B1.gOT hg ho (by decide)), (by
            have e0 : L 10 = false := by
              cases hc : L 10
              · rfl
              · exact absurd (cl_10_8 hc) (by rw [hL]; decide)
            have h0 := b_B2.gOT hg ho (by decide)
            rw [e0] at h0
            show Bx _ _ _ (bif L 10 then _ else _)
            rw [e0]
            exact h0), (fun h => by cases h), (Own.gOT p_1 hg ho (by decide)), (Own.gOT p_2 hg ho (by decide)), (fun h => Own.gO (a_7 h) hg ho (Own.hi (a_7 h)) hh4_1 (by omega)), (fun _ => hown), cl_10_1, (fun _ => dp hdep 1), (fun _ => rfl), (so s_21), (so s_22), (so s_23), (so s_24), (so s_25), (so s_26), (so s_27), (so s_28), (fun _ => Sv.self (by rw [zq]; decide) _), (so s_30)⟩
      | 9, _ =>
        obtain rfl := Option.some.inj (show some _ = some o from ho); clear ho
        have v3 := hF.sv (s := 3) (by kernel_rfl) (hA22.get (i := 3) (v := .pointer (some ⟨B2, 0, none⟩)))
        refine dj_val (i := 9) (v := .pointer (some ⟨B2, 1, none⟩)) rfl (.inl rfl) (fb_Slots_1 v3.eval _ rfl) ?_
        exact ⟨⟨_, rfl⟩, G7r6, Ag8r6, cg8r6, bl, sz, b_B1, b_B2, p_0, p_1, p_2, a_7, a_8, cl_10_1, cl_8_1, cl_10_8, (so s_21), (so s_22), (so s_23), (so s_24), (so s_25), (so s_26), (so s_27), (so s_28), (so s_29), (fun _ => Sv.self (by rw [zq]; decide) _)⟩
      | 10, _ =>
        obtain rfl := Option.some.inj (show some _ = some o from ho); clear ho
        have v30 := s_30 (dp hdep 9)
        have v29 := s_29 (dp hdep 8)
        have eB2 : L 10 = false := hL
        have yB2 := b_B2
        rw [eB2] at yB2
        refine dj_skip (i := 10) rfl rfl (.inl rfl) (w' := wc.setCell ⟨B2, 1, none⟩ (.slice Ag8r6 ((ofb xs k) ++ [(decide (1000 ≤ x))]).length cg8r6)) (ev_scell (v := .slice Ag8r6 ((ofb xs k) ++ [(decide (1000 ≤ x))]).length cg8r6) v30.eval v29.eval ((yB2.cell 1).trans rfl) (yB2.frozen 1) (by kernel_rfl) rfl _ rfl) ?_
        have hg := gsc (i := 1) yB2 (.slice Ag8r6 ((ofb xs k) ++ [(decide (1000 ≤ x))]).length cg8r6)
        have hx := (yB2.set 1 (.slice Ag8r6 ((ofb xs k) ++ [(decide (1000 ≤ x))]).length cg8r6))
        exact ⟨⟨undef, rfl⟩, G7r6, Ag8r6, cg8r6, (Below.gB bl hg bl.size (by omega)), (Nat.le_trans sz hg.size), (b_B1.gB hg (by omega)), hx, (fun h => Own.gBT (p_0 h) hg yB2 (by decide)), (Own.gBT p_1 hg yB2 (by decide)), (Own.gBT p_2 hg yB2 (by decide)), (fun h => Own.gBT (a_7 h) hg yB2 (by decide)), (fun h => Own.gBT (a_8 h) hg yB2 (by decide)), (fun _ => cl_8_1 (dp hdep 8)), cl_8_1, (fun _ => dp hdep 8), s_21, s_22, s_23, s_24, s_25, s_26, s_27, s_28, s_29, s_30⟩
      | k + 11, h => exact absurd h (by omega)
    · intro L hall ac23 wc23 hF hJ
      obtain ⟨G7r6, Ag8r6, cg8r6, bl, sz, b_B1, b_B2, p_0, p_1, p_2, a_7, a_8, cl_10_1, cl_8_1, cl_10_8, s_21, s_22, s_23, s_24, s_25, s_26, s_27, s_28, s_29, s_30⟩ := hJ
      have hA23 : Ag ac23 32 [(0, .slice A xs.length c), (2, .pointer (some ⟨B1, 0, none⟩)), (3, .pointer (some ⟨B2, 0, none⟩)), (4, .int .i64 (k : Int)), (5, .int .i64 (k : Int)), (6, .slice A xs.length c), (7, .int .i64 (xs.length : Int)), (8, .bool true), (11, .pointer (some ⟨B2, 0, none⟩)), (12, .slice A1g (ofr xs k).length c1g), (13, .slice A xs.length c), (14, .int .i64 (k : Int)), (15, .pointer (some (ad1.add (k * 1)))), (16, .int .i64 x), (17, .int .i64 (x % 1000)), (18, .slice (some ⟨G7r5, 0, none⟩) 1 1), (19, .slice Ag8r5 ((ofr xs k) ++ [(x % 1000)]).length cg8r5), (20, .pointer (some ⟨B2, 0, none⟩)), (21, .pointer (some ⟨B2, 1, none⟩)), (22, .slice A2g (ofb xs k).length c2g), (23, .slice A xs.length c), (24, .int .i64 (k : Int)), (25, .pointer (some (ad1.add (k * 1)))), (26, .int .i64 x), (27, .bool (decide (1000 ≤ x))), (28, .slice (some ⟨G7r6, 0, none⟩) 1 1), (29, .slice Ag8r6 ((ofb xs k) ++ [(decide (1000 ≤ x))]).length cg8r6), (30, .pointer (some ⟨B2, 1, none⟩))] := (((((((((((((((((((((((((((((Ag.nil (hF.1.trans hA22.1) (hF.2.1.trans hA22.2.1)).cons (s_30 (hall 9 (by decide)))).cons (s_29 (hall 8 (by decide)))).cons (s_28 (hall 7 (by decide)))).cons (s_27 (hall 6 (by decide)))).cons (s_26 (hall 5 (by decide)))).cons (s_25 (hall 4 (by decide)))).cons (s_24 (hall 3 (by decide)))).cons (s_23 (hall 2 (by decide)))).cons (s_22 (hall 1 (by decide)))).cons (s_21 (hall 0 (by decide)))).cons (hF.sv (s := 20) (by kernel_rfl) (hA22.get (i := 20) (v := .pointer (some ⟨B2, 0, none⟩))))).cons (hF.sv (s := 19) (by kernel_rfl) (hA22.get (i := 19) (v := .slice Ag8r5 ((ofr xs k) ++ [(x % 1000)]).length cg8r5)))).cons (hF.sv (s := 18) (by kernel_rfl) (hA22.get (i := 18) (v := .slice (some ⟨G7r5, 0, none⟩) 1 1)))).cons (hF.sv (s := 17) (by kernel_rfl) (hA22.get (i := 17) (v := .int .i64 (x % 1000))))).cons (hF.sv (s := 16) (by kernel_rfl) (hA22.get (i := 16) (v := .int .i64 x)))).cons (hF.sv (s := 15) (by kernel_rfl) (hA22.get (i := 15) (v := .pointer (some (ad1.add (k * 1))))))).cons (hF.sv (s := 14) (by kernel_rfl) (hA22.get (i := 14) (v := .int .i64 (k : Int))))).cons (hF.sv (s := 13) (by kernel_rfl) (hA22.get (i := 13) (v := .slice A xs.length c)))).cons (hF.sv (s := 12) (by kernel_rfl) (hA22.get (i := 12) (v := .slice A1g (ofr xs k).length c1g)))).cons (hF.sv (s := 11) (by kernel_rfl) (hA22.get (i := 11) (v := .pointer (some ⟨B2, 0, none⟩))))).cons (hF.sv (s := 8) (by kernel_rfl) (hA22.get (i := 8) (v := .bool true)))).cons (hF.sv (s := 7) (by kernel_rfl) (hA22.get (i := 7) (v := .int .i64 (xs.length : Int))))).cons (hF.sv (s := 6) (by kernel_rfl) (hA22.get (i := 6) (v := .slice A xs.length c)))).cons (hF.sv (s := 5) (by kernel_rfl) (hA22.get (i := 5) (v := .int .i64 (k : Int))))).cons (hF.sv (s := 4) (by kernel_rfl) (hA22.get (i := 4) (v := .int .i64 (k : Int))))).cons (hF.sv (s := 3) (by kernel_rfl) (hA22.get (i := 3) (v := .pointer (some ⟨B2, 0, none⟩))))).cons (hF.sv (s := 2) (by kernel_rfl) (hA22.get (i := 2) (v := .pointer (some ⟨B1, 0, none⟩))))).cons (hF.sv (s := 0) (by kernel_rfl) (hA22.get (i := 0) (v := .slice A xs.length c))))
      have bl23 := bl
      have sz23 := sz
      have b23_B1 := b_B1
      have b23_B2 : Bx wc23 B2 25 (#[.slice Ag8r5 ((ofr xs k) ++ [(x % 1000)]).length cg8r5, .slice Ag8r6 ((ofb xs k) ++ [(decide (1000 ≤ x))]).length cg8r6]) := by
        have h := b_B2
        rw [hall 10 (by decide)] at h
        exact h
      have p23_1 := p_1
      have p23_2 := p_2
      have a23_7 := a_7 (hall 7 (by decide))
      have hha23_7 := Own.hi a23_7
      have a23_8 := a_8 (hall 8 (by decide))
      have hha23_8 := Own.hi a23_8
      clear hF bl sz b_B1 b_B2 p_0 p_1 p_2 a_7 a_8 cl_10_1 cl_8_1 cl_10_8 s_21 s_22 s_23 s_24 s_25 s_26 s_27 s_28 s_29 s_30 hall hA22
      refine blk_n ?_
      refine then_n ?_
      refine wp_region_lit ?_
      refine sx_val hA23 rfl (ev_move (hA23.ev (i := 4) (v := .int .i64 (k : Int))) _ rfl) ?_
      intro a24 hA24; clear hA23
      refine sx_val (v := .int .i64 ((k + 1 : Nat) : Int)) hA24 rfl (ev_addR (k := .i64) (m := (k : Int)) (n := 1) (r := ((k + 1 : Nat) : Int)) (hA24.ev (i := 9)) (ec _ (.int .i64 1)) (wr (by omega) (by omega) (by omega)) _ rfl) ?_
      intro a25 hA25; clear hA24
      refine sx_val hA25 rfl (ev_assign (hA25.ev (i := 10) (v := .int .i64 ((k + 1 : Nat) : Int))) _ rfl) ?_
      intro a26 hA26; clear hA25
      refine sx_nil ?_
      refine then_n ?_
      refine ⟨xs.length - (k + 1), by omega, k + 1, Ag8r5, cg8r5, Ag8r6, cg8r6, rfl, (((((Ag.nil hA26.1 hA26.2.1).cons (hA26.get (i := 4) (v := .int .i64 ((k + 1 : Nat) : Int)))).cons (hA26.get (i := 3) (v := .pointer (some ⟨B2, 0, none⟩)))).cons (hA26.get (i := 2) (v := .pointer (some ⟨B1, 0, none⟩)))).cons (hA26.get (i := 0) (v := .slice A xs.length c))), by omega, b23_B1, (by rw [ofr_succ hx, ofb_succ hx]; exact b23_B2), (by rw [ofr_succ hx]; exact p23_2), (by rw [ofb_succ hx]; exact a23_8), by omega, bl23⟩

def gvs (s : Ss) (r sl : Int) (t : Ss) : Bool := decide ((alc s r).2.2 = 0) && (decide ((alc s r).2.1 = sl) && sme (alc s r).1 t)
set_option maxHeartbeats 4000000 in
theorem gives_any (A1 : Option Addr) (c1 : Nat) (A2 : Option Addr) (c2 : Nat) (rs : List Int) (bs : List Bool) (A3 : Option Addr) (c3 : Nat) (A4 : Option Addr) (c4 : Nat) (rs2 : List Int) (bs2 : List Bool) (r sl : Int) (w : World) (hs : GS w A1 c1 A2 c2 rs bs) (hsB : GS w A3 c3 A4 c4 rs2 bs2) (hl : rs.length ≤ 900000) (hb : bs.length ≤ 900000) : Calls Try.prog 31 #[.agg #[.slice A1 rs.length c1, .slice A2 bs.length c2], .int .i64 r, .int .i64 sl, .agg #[.slice A3 rs2.length c3, .slice A4 bs2.length c4]] w (RetB w (.returned (.bool (gvs ⟨rs, bs⟩ r sl ⟨rs2, bs2⟩)))) := by
  have hbel0 := below0 w
  refine sx_enter (N := 31) [(0, .agg #[.slice A1 rs.length c1, .slice A2 bs.length c2]), (1, .int .i64 r), (2, .int .i64 sl), (3, .agg #[.slice A3 rs2.length c3, .slice A4 bs2.length c4])] Try.func31 rfl Try.ntmps31 (by simp) (fun a z d s => (((((Ag.nil z d).cons (s 3 _ rfl)).cons (s 2 _ rfl)).cons (s 1 _ rfl)).cons (s 0 _ rfl))) ?_
  intro a0 hA0
  refine wp_seq ?_
  refine wp_region_lit ?_
  refine sx_new (cs := #[.slice A1 rs.length c1, .slice A2 bs.length c2]) (t := 25) hA0 rfl (by decide) (.inl rfl) (ev_box (hA0.ev (i := 0) (v := .agg #[.slice A1 rs.length c1, .slice A2 bs.length c2])) rfl _ rfl) ?_
  intro B1 w1 a1 hB1 hx1 hg1 hA1
  clear hA0
  have hs1 := hg1.size
  have hl1 := hx1.lt
  refine sx_new (cs := #[.slice A3 rs2.length c3, .slice A4 bs2.length c4]) (t := 25) hA1 rfl (by decide) (.inl rfl) (ev_box (hA1.ev (i := 3) (v := .agg #[.slice A3 rs2.length c3, .slice A4 bs2.length c4])) rfl _ rfl) ?_
  intro B2 w2 a2 hB2 hx2 hg2 hA2
  clear hA1
  have hs2 := hg2.size
  have hl2 := hx2.lt
  refine sx_val hA2 rfl (ev_assign (ec _ (.bool false)) _ rfl) ?_
  intro a3 hA3; clear hA2
  refine sx_nil ?_
  refine then_n ?_
  refine wp_seq ?_
  refine wp_region_lit ?_
  have hx1_4 := hx1.gN hg2
  refine sx_val (v := .agg #[.slice A1 rs.length c1, .slice A2 bs.length c2]) hA3 rfl (ev_row (hA3.ev (i := 4) (v := .pointer (some ⟨B1, 0, none⟩))) hx1_4 Try.underlying25 rfl (n := 2) (by kernel_rfl) rfl _ rfl) ?_
  intro a5 hA5; clear hA3
  refine sx_val hA5 rfl (ev_move (hA5.ev (i := 1) (v := .int .i64 r)) _ rfl) ?_
  intro a6 hA6; clear hA5
  have hbel0_8 := Below.gN hbel0 hg1 hbel0.size
  have hbel0_9 := Below.gN hbel0_8 hg2 hbel0_8.size
  refine sx_call (f := 22) (args := #[.agg #[.slice A1 rs.length c1, .slice A2 bs.length c2], .int .i64 r]) hA6 rfl (by decide) (.inl rfl) (ev_fn rfl (mp2 (hA6.ev (i := 13) (v := .agg #[.slice A1 rs.length c1, .slice A2 bs.length c2])) (hA6.ev (i := 14) (v := .int .i64 r))) (by kernel_rfl) _ rfl) (Alloc_any A1 c1 A2 c2 rs bs r _ ⟨(hs.r.below hbel0_9), (hs.b.below hbel0_9)⟩ (by omega) (by omega)) ?_
  intro e7 w7 hR7
  obtain ⟨Ap7, cp7, Aj7, cj7, rfl, hC7, hJ7, hb7⟩ := hR7
  refine ⟨_, rfl, ?_⟩
  intro a7 hA7
  clear hA6
  have hg7 := g0 hb7
  have hs7 := hg7.size
  clear hb7
  have ho7_0 : Own w7 (w2.heap.size) 3 1 (.slice Ap7 (alc ⟨rs, bs⟩ r).1.rs.length cp7) (alc ⟨rs, bs⟩ r).1.rs.length (flat iva (alc ⟨rs, bs⟩ r).1.rs) := hC7
  have hh7_0 := Own.hi ho7_0
  have ho7_1 : Own w7 (w2.heap.size) 4 1 (.slice Aj7 (alc ⟨rs, bs⟩ r).1.bs.length cj7) (alc ⟨rs, bs⟩ r).1.bs.length (flat bva (alc ⟨rs, bs⟩ r).1.bs) := hJ7
  have hh7_1 := Own.hi ho7_1
  refine sx_val hA7 rfl (ev_move (hA7.ev (i := 15) (v := .tuple #[.agg #[.slice Ap7 (alc ⟨rs, bs⟩ r).1.rs.length cp7, .slice Aj7 (alc ⟨rs, bs⟩ r).1.bs.length cj7], .int .i64 (alc ⟨rs, bs⟩ r).2.1, .int .i64 (alc ⟨rs, bs⟩ r).2.2])) _ rfl) ?_
  intro a10 hA10; clear hA7
  refine sx_val (v := .agg #[.slice Ap7 (alc ⟨rs, bs⟩ r).1.rs.length cp7, .slice Aj7 (alc ⟨rs, bs⟩ r).1.bs.length cj7]) hA10 rfl (ev_ext (hA10.ev (i := 12) (v := .tuple #[.agg #[.slice Ap7 (alc ⟨rs, bs⟩ r).1.rs.length cp7, .slice Aj7 (alc ⟨rs, bs⟩ r).1.bs.length cj7], .int .i64 (alc ⟨rs, bs⟩ r).2.1, .int .i64 (alc ⟨rs, bs⟩ r).2.2])) rfl _ rfl) ?_
  intro a11 hA11; clear hA10
  refine sx_val (v := .int .i64 (alc ⟨rs, bs⟩ r).2.1) hA11 rfl (ev_ext (hA11.ev (i := 12) (v := .tuple #[.agg #[.slice Ap7 (alc ⟨rs, bs⟩ r).1.rs.length cp7, .slice Aj7 (alc ⟨rs, bs⟩ r).1.bs.length cj7], .int .i64 (alc ⟨rs, bs⟩ r).2.1, .int .i64 (alc ⟨rs, bs⟩ r).2.2])) rfl _ rfl) ?_
  intro a12 hA12; clear hA11
  refine sx_val (v := .int .i64 (alc ⟨rs, bs⟩ r).2.2) hA12 rfl (ev_ext (hA12.ev (i := 12) (v := .tuple #[.agg #[.slice Ap7 (alc ⟨rs, bs⟩ r).1.rs.length cp7, .slice Aj7 (alc ⟨rs, bs⟩ r).1.bs.length cj7], .int .i64 (alc ⟨rs, bs⟩ r).2.1, .int .i64 (alc ⟨rs, bs⟩ r).2.2])) rfl _ rfl) ?_
  intro a13 hA13; clear hA12
  refine sx_new (cs := #[.slice none 0 0, .slice none 0 0]) (t := 25) hA13 rfl (by decide) (.inl rfl) (ev_alloc (z := .agg (#[.slice none 0 0, .slice none 0 0])) (by kernel_rfl) (by kernel_rfl) _ rfl) ?_
  intro B14 w14 a14 hB14 hx14 hg14 hA14
  clear hA13
  have hs14 := hg14.size
  have hl14 := hx14.lt
  refine sx_store hA14 rfl (.inl rfl) rfl (hA14.ev (i := 9) (v := .pointer (some ⟨B14, 0, none⟩))) (hA14.ev (i := 16) (v := .agg #[.slice Ap7 (alc ⟨rs, bs⟩ r).1.rs.length cp7, .slice Aj7 (alc ⟨rs, bs⟩ r).1.bs.length cj7])) hx14 (by kernel_rfl) rfl (by simp [Value.oneCell']) ?_
  intro w15 hx15 hg15
  have hs15 := hg15.size
  refine sx_val hA14 rfl (ev_assign (hA14.ev (i := 17) (v := .int .i64 (alc ⟨rs, bs⟩ r).2.1)) _ rfl) ?_
  intro a16 hA16; clear hA14
  refine sx_val hA16 rfl (ev_assign (hA16.ev (i := 18) (v := .int .i64 (alc ⟨rs, bs⟩ r).2.2)) _ rfl) ?_
  intro a17 hA17; clear hA16
  refine sx_nil ?_
  refine then_n ?_
  refine wp_seq ?_
  refine wp_region_lit ?_
  refine sx_val hA17 rfl (ev_move (hA17.ev (i := 11) (v := .int .i64 (alc ⟨rs, bs⟩ r).2.2)) _ rfl) ?_
  intro a18 hA18; clear hA17
  cases hd19 : decide ((alc ⟨rs, bs⟩ r).2.2 = 0)
  · have hp19 := of_decide_eq_false hd19
    refine sx_val (v := .bool false) hA18 rfl (ev_eqlB (k := .i64) (m := (alc ⟨rs, bs⟩ r).2.2) (n := 0) (hA18.ev (i := 19)) (ec _ (.int .i64 0)) hd19 _ rfl) ?_
    intro a20 hA20; clear hA18
    refine sx_val hA20 rfl (ev_move (hA20.ev (i := 20) (v := .bool false)) _ rfl) ?_
    intro a21 hA21; clear hA20
    refine sx_no (j := 2) (s := 21) (want := true) (b := false) hA21 rfl ?_
    intro a22 hA22; clear hA21
    refine sx_no (j := 2) (s := 21) (want := true) (b := false) hA22 rfl ?_
    intro a23 hA23; clear hA22
    refine sx_no (j := 2) (s := 21) (want := true) (b := false) hA23 rfl ?_
    intro a24 hA24; clear hA23
    refine sx_val hA24 rfl (ev_pickF (hA24.ev (i := 21) (v := .bool false)) (ec _ (.bool false)) _ rfl) ?_
    intro a25 hA25; clear hA24
    refine sx_val hA25 rfl (ev_move (hA25.ev (i := 25) (v := .bool false)) _ rfl) ?_
    intro a26 hA26; clear hA25
    refine sx_no (j := 7) (s := 26) (want := true) (b := false) hA26 rfl ?_
    intro a27 hA27; clear hA26
    refine sx_no (j := 7) (s := 26) (want := true) (b := false) hA27 rfl ?_
    intro a28 hA28; clear hA27
    refine sx_no (j := 7) (s := 26) (want := true) (b := false) hA28 rfl ?_
    intro a29 hA29; clear hA28
    refine sx_val hA29 rfl (ev_pickF (hA29.ev (i := 26) (v := .bool false)) (ec _ (.bool false)) _ rfl) ?_
    intro a30 hA30; clear hA29
    refine sx_val hA30 rfl (ev_assign (hA30.ev (i := 30) (v := .bool false)) _ rfl) ?_
    intro a31 hA31; clear hA30
    refine sx_nil ?_
    refine then_n ?_
    refine wp_ret ?_
    refine bodyPost_ret (rs_t (v := .bool false) Try.results31 hA31 (by kernel_rfl) ) hA31.2.1 ?_
    have hbel0_32 := Below.gN hbel0_9 hg7 hbel0_9.size
    have hbel0_33 := Below.gN hbel0_32 hg14 hbel0_32.size
    have hbel0_34 := Below.gB hbel0_33 hg15 hbel0_33.size (by omega)
    exact ⟨by rw [show gvs ⟨rs, bs⟩ r sl ⟨rs2, bs2⟩ = false by unfold gvs; simp [hp19]], hbel0_34⟩
  have hp19 := of_decide_eq_true hd19
  refine sx_val (v := .bool true) hA18 rfl (ev_eqlB (k := .i64) (m := (alc ⟨rs, bs⟩ r).2.2) (n := 0) (hA18.ev (i := 19)) (ec _ (.int .i64 0)) hd19 _ rfl) ?_
  intro a35 hA35; clear hA18
  refine sx_val hA35 rfl (ev_move (hA35.ev (i := 20) (v := .bool true)) _ rfl) ?_
  intro a36 hA36; clear hA35
  refine sx_val (hg := (.inr ⟨2, true, 21, rfl, rfl, by kernel_rfl⟩)) hA36 rfl (ev_move (hA36.ev (i := 10) (v := .int .i64 (alc ⟨rs, bs⟩ r).2.1)) _ rfl) ?_
  intro a37 hA37; clear hA36
  refine sx_val (hg := (.inr ⟨2, true, 21, rfl, rfl, by kernel_rfl⟩)) hA37 rfl (ev_move (hA37.ev (i := 2) (v := .int .i64 sl)) _ rfl) ?_
  intro a38 hA38; clear hA37
  cases hd39 : decide ((alc ⟨rs, bs⟩ r).2.1 = sl)
  · have hp39 := of_decide_eq_false hd39
    refine sx_val (hg := (.inr ⟨2, true, 21, rfl, rfl, by kernel_rfl⟩)) (v := .bool false) hA38 rfl (ev_eqlB (k := .i64) (m := (alc ⟨rs, bs⟩ r).2.1) (n := sl) (hA38.ev (i := 22)) (hA38.ev (i := 23)) hd39 _ rfl) ?_
    intro a40 hA40; clear hA38
    refine sx_val hA40 rfl (ev_pickT (hA40.ev (i := 21) (v := .bool true)) (hA40.ev (i := 24) (v := .bool false)) _ rfl) ?_
    intro a41 hA41; clear hA40
    refine sx_val hA41 rfl (ev_move (hA41.ev (i := 25) (v := .bool false)) _ rfl) ?_
    intro a42 hA42; clear hA41
    refine sx_no (j := 7) (s := 26) (want := true) (b := false) hA42 rfl ?_
    intro a43 hA43; clear hA42
    refine sx_no (j := 7) (s := 26) (want := true) (b := false) hA43 rfl ?_
    intro a44 hA44; clear hA43
    refine sx_no (j := 7) (s := 26) (want := true) (b := false) hA44 rfl ?_
    intro a45 hA45; clear hA44
    refine sx_val hA45 rfl (ev_pickF (hA45.ev (i := 26) (v := .bool false)) (ec _ (.bool false)) _ rfl) ?_
    intro a46 hA46; clear hA45
    refine sx_val hA46 rfl (ev_assign (hA46.ev (i := 30) (v := .bool false)) _ rfl) ?_
    intro a47 hA47; clear hA46
    refine sx_nil ?_
    refine then_n ?_
    refine wp_ret ?_
    refine bodyPost_ret (rs_t (v := .bool false) Try.results31 hA47 (by kernel_rfl) ) hA47.2.1 ?_
    have hbel0_48 := Below.gN hbel0_9 hg7 hbel0_9.size
    have hbel0_49 := Below.gN hbel0_48 hg14 hbel0_48.size
    have hbel0_50 := Below.gB hbel0_49 hg15 hbel0_49.size (by omega)
    exact ⟨by rw [show gvs ⟨rs, bs⟩ r sl ⟨rs2, bs2⟩ = false by unfold gvs; simp [hp19, hp39]], hbel0_50⟩
  have hp39 := of_decide_eq_true hd39
  refine sx_val (hg := (.inr ⟨2, true, 21, rfl, rfl, by kernel_rfl⟩)) (v := .bool true) hA38 rfl (ev_eqlB (k := .i64) (m := (alc ⟨rs, bs⟩ r).2.1) (n := sl) (hA38.ev (i := 22)) (hA38.ev (i := 23)) hd39 _ rfl) ?_
  intro a51 hA51; clear hA38
  refine sx_val hA51 rfl (ev_pickT (hA51.ev (i := 21) (v := .bool true)) (hA51.ev (i := 24) (v := .bool true)) _ rfl) ?_
  intro a52 hA52; clear hA51
  refine sx_val hA52 rfl (ev_move (hA52.ev (i := 25) (v := .bool true)) _ rfl) ?_
  intro a53 hA53; clear hA52
  refine sx_val (hg := (.inr ⟨7, true, 26, rfl, rfl, by kernel_rfl⟩)) (v := .agg #[.slice Ap7 (alc ⟨rs, bs⟩ r).1.rs.length cp7, .slice Aj7 (alc ⟨rs, bs⟩ r).1.bs.length cj7]) hA53 rfl (ev_row (hA53.ev (i := 9) (v := .pointer (some ⟨B14, 0, none⟩))) hx15 Try.underlying25 rfl (n := 2) (by kernel_rfl) rfl _ rfl) ?_
  intro a54 hA54; clear hA53
  have hx2_55 := hx2.gN hg7
  have hx2_56 := hx2_55.gN hg14
  have hx2_57 := hx2_56.gB hg15 (by omega)
  refine sx_val (hg := (.inr ⟨7, true, 26, rfl, rfl, by kernel_rfl⟩)) (v := .agg #[.slice A3 rs2.length c3, .slice A4 bs2.length c4]) hA54 rfl (ev_row (hA54.ev (i := 7) (v := .pointer (some ⟨B2, 0, none⟩))) hx2_57 Try.underlying25 rfl (n := 2) (by kernel_rfl) rfl _ rfl) ?_
  intro a58 hA58; clear hA54
  have ho7_60 := Own.gN ho7_0 hg14
  have ho7_61 := Own.gBT ho7_60 hg15 hx14 (by decide)
  have ho7_62 := Own.gN ho7_1 hg14
  have ho7_63 := Own.gBT ho7_62 hg15 hx14 (by decide)
  have hbel0_64 := Below.gN hbel0_9 hg7 hbel0_9.size
  have hbel0_65 := Below.gN hbel0_64 hg14 hbel0_64.size
  have hbel0_66 := Below.gB hbel0_65 hg15 hbel0_65.size (by omega)
  refine sx_call (f := 13) (args := #[.agg #[.slice Ap7 (alc ⟨rs, bs⟩ r).1.rs.length cp7, .slice Aj7 (alc ⟨rs, bs⟩ r).1.bs.length cj7], .agg #[.slice A3 rs2.length c3, .slice A4 bs2.length c4]]) hA58 rfl (by decide) (.inr ⟨7, true, 26, rfl, rfl, by kernel_rfl⟩) (ev_fn rfl (mp2 (hA58.ev (i := 27) (v := .agg #[.slice Ap7 (alc ⟨rs, bs⟩ r).1.rs.length cp7, .slice Aj7 (alc ⟨rs, bs⟩ r).1.bs.length cj7])) (hA58.ev (i := 28) (v := .agg #[.slice A3 rs2.length c3, .slice A4 bs2.length c4]))) (by kernel_rfl) _ rfl) (SameSlots_any Ap7 cp7 Aj7 cj7 (alc ⟨rs, bs⟩ r).1.rs (alc ⟨rs, bs⟩ r).1.bs A3 c3 A4 c4 rs2 bs2 _ ⟨(OwnR.gr (e := 3) ⟨rfl, ho7_61⟩), (OwnR.gr (e := 4) ⟨rfl, ho7_63⟩)⟩ ⟨(hsB.r.below hbel0_66), (hsB.b.below hbel0_66)⟩) ?_
  intro e59 w59 hR59
  obtain ⟨rfl, hb59⟩ := hR59
  refine ⟨_, rfl, ?_⟩
  intro a59 hA59
  clear hA58
  have hg59 := g0 hb59
  have hs59 := hg59.size
  clear hb59
  refine sx_val hA59 rfl (ev_pickT (hA59.ev (i := 26) (v := .bool true)) (hA59.ev (i := 29) (v := .bool (sme (alc ⟨rs, bs⟩ r).1 ⟨rs2, bs2⟩))) _ rfl) ?_
  intro a67 hA67; clear hA59
  refine sx_val hA67 rfl (ev_assign (hA67.ev (i := 30) (v := .bool (sme (alc ⟨rs, bs⟩ r).1 ⟨rs2, bs2⟩))) _ rfl) ?_
  intro a68 hA68; clear hA67
  refine sx_nil ?_
  refine then_n ?_
  refine wp_ret ?_
  refine bodyPost_ret (rs_t (v := .bool (sme (alc ⟨rs, bs⟩ r).1 ⟨rs2, bs2⟩)) Try.results31 hA68 (by kernel_rfl) ) hA68.2.1 ?_
  have hbel0_69 := Below.gN hbel0_66 hg59 hbel0_66.size
  exact ⟨by rw [show gvs ⟨rs, bs⟩ r sl ⟨rs2, bs2⟩ = (sme (alc ⟨rs, bs⟩ r).1 ⟨rs2, bs2⟩) by unfold gvs; simp [hp19, hp39]], hbel0_69⟩

def drp (s t : Ss) (b : Bool) : Bool := decide ((unr s 0).2.2 = 0) && (((unr s 0).2.1 == b) && sme (unr s 0).1 t)
set_option maxHeartbeats 4000000 in
theorem drops_any (A1 : Option Addr) (c1 : Nat) (A2 : Option Addr) (c2 : Nat) (rs : List Int) (bs : List Bool) (A3 : Option Addr) (c3 : Nat) (A4 : Option Addr) (c4 : Nat) (rs2 : List Int) (bs2 : List Bool) (fb : Bool) (w : World) (hs : GS w A1 c1 A2 c2 rs bs) (hsB : GS w A3 c3 A4 c4 rs2 bs2) (hl : rs.length ≤ 900000) (hb : bs.length ≤ 900000) : Calls Try.prog 32 #[.agg #[.slice A1 rs.length c1, .slice A2 bs.length c2], .agg #[.slice A3 rs2.length c3, .slice A4 bs2.length c4], .bool fb] w (RetB w (.returned (.bool (drp ⟨rs, bs⟩ ⟨rs2, bs2⟩ fb)))) := by
  have hbel0 := below0 w
  refine sx_enter (N := 28) [(0, .agg #[.slice A1 rs.length c1, .slice A2 bs.length c2]), (1, .agg #[.slice A3 rs2.length c3, .slice A4 bs2.length c4]), (2, .bool fb)] Try.func32 rfl Try.ntmps32 (by simp) (fun a z d s => ((((Ag.nil z d).cons (s 2 _ rfl)).cons (s 1 _ rfl)).cons (s 0 _ rfl))) ?_
  intro a0 hA0
  refine wp_seq ?_
  refine wp_region_lit ?_
  refine sx_new (cs := #[.slice A1 rs.length c1, .slice A2 bs.length c2]) (t := 25) hA0 rfl (by decide) (.inl rfl) (ev_box (hA0.ev (i := 0) (v := .agg #[.slice A1 rs.length c1, .slice A2 bs.length c2])) rfl _ rfl) ?_
  intro B1 w1 a1 hB1 hx1 hg1 hA1
  clear hA0
  have hs1 := hg1.size
  have hl1 := hx1.lt
  refine sx_new (cs := #[.slice A3 rs2.length c3, .slice A4 bs2.length c4]) (t := 25) hA1 rfl (by decide) (.inl rfl) (ev_box (hA1.ev (i := 1) (v := .agg #[.slice A3 rs2.length c3, .slice A4 bs2.length c4])) rfl _ rfl) ?_
  intro B2 w2 a2 hB2 hx2 hg2 hA2
  clear hA1
  have hs2 := hg2.size
  have hl2 := hx2.lt
  refine sx_val hA2 rfl (ev_assign (ec _ (.bool false)) _ rfl) ?_
  intro a3 hA3; clear hA2
  refine sx_nil ?_
  refine then_n ?_
  refine wp_seq ?_
  refine wp_region_lit ?_
  have hx1_4 := hx1.gN hg2
  refine sx_val (v := .agg #[.slice A1 rs.length c1, .slice A2 bs.length c2]) hA3 rfl (ev_row (hA3.ev (i := 3) (v := .pointer (some ⟨B1, 0, none⟩))) hx1_4 Try.underlying25 rfl (n := 2) (by kernel_rfl) rfl _ rfl) ?_
  intro a5 hA5; clear hA3
  have hbel0_7 := Below.gN hbel0 hg1 hbel0.size
  have hbel0_8 := Below.gN hbel0_7 hg2 hbel0_7.size
  refine sx_call (f := 14) (args := #[.agg #[.slice A1 rs.length c1, .slice A2 bs.length c2], .int .i64 0]) hA5 rfl (by decide) (.inl rfl) (ev_fn rfl (mp2 (hA5.ev (i := 11) (v := .agg #[.slice A1 rs.length c1, .slice A2 bs.length c2])) (ec _ (.int .i64 0))) (by kernel_rfl) _ rfl) (Unref_any A1 c1 A2 c2 rs bs 0 _ ⟨(hs.r.below hbel0_8), (hs.b.below hbel0_8)⟩ (by omega) (by omega)) ?_
  intro e6 w6 hR6
  obtain ⟨Ap6, cp6, Aj6, cj6, rfl, hC6, hJ6, hb6⟩ := hR6
  refine ⟨_, rfl, ?_⟩
  intro a6 hA6
  clear hA5
  have hg6 := g0 hb6
  have hs6 := hg6.size
  clear hb6
  have ho6_0 : Own w6 (w2.heap.size) 3 1 (.slice Ap6 (unr ⟨rs, bs⟩ 0).1.rs.length cp6) (unr ⟨rs, bs⟩ 0).1.rs.length (flat iva (unr ⟨rs, bs⟩ 0).1.rs) := hC6
  have hh6_0 := Own.hi ho6_0
  have ho6_1 : Own w6 (w2.heap.size) 4 1 (.slice Aj6 (unr ⟨rs, bs⟩ 0).1.bs.length cj6) (unr ⟨rs, bs⟩ 0).1.bs.length (flat bva (unr ⟨rs, bs⟩ 0).1.bs) := hJ6
  have hh6_1 := Own.hi ho6_1
  refine sx_val hA6 rfl (ev_move (hA6.ev (i := 12) (v := .tuple #[.agg #[.slice Ap6 (unr ⟨rs, bs⟩ 0).1.rs.length cp6, .slice Aj6 (unr ⟨rs, bs⟩ 0).1.bs.length cj6], .bool (unr ⟨rs, bs⟩ 0).2.1, .int .i64 (unr ⟨rs, bs⟩ 0).2.2])) _ rfl) ?_
  intro a9 hA9; clear hA6
  refine sx_val (v := .agg #[.slice Ap6 (unr ⟨rs, bs⟩ 0).1.rs.length cp6, .slice Aj6 (unr ⟨rs, bs⟩ 0).1.bs.length cj6]) hA9 rfl (ev_ext (hA9.ev (i := 10) (v := .tuple #[.agg #[.slice Ap6 (unr ⟨rs, bs⟩ 0).1.rs.length cp6, .slice Aj6 (unr ⟨rs, bs⟩ 0).1.bs.length cj6], .bool (unr ⟨rs, bs⟩ 0).2.1, .int .i64 (unr ⟨rs, bs⟩ 0).2.2])) rfl _ rfl) ?_
  intro a10 hA10; clear hA9
  refine sx_val (v := .bool (unr ⟨rs, bs⟩ 0).2.1) hA10 rfl (ev_ext (hA10.ev (i := 10) (v := .tuple #[.agg #[.slice Ap6 (unr ⟨rs, bs⟩ 0).1.rs.length cp6, .slice Aj6 (unr ⟨rs, bs⟩ 0).1.bs.length cj6], .bool (unr ⟨rs, bs⟩ 0).2.1, .int .i64 (unr ⟨rs, bs⟩ 0).2.2])) rfl _ rfl) ?_
  intro a11 hA11; clear hA10
  refine sx_val (v := .int .i64 (unr ⟨rs, bs⟩ 0).2.2) hA11 rfl (ev_ext (hA11.ev (i := 10) (v := .tuple #[.agg #[.slice Ap6 (unr ⟨rs, bs⟩ 0).1.rs.length cp6, .slice Aj6 (unr ⟨rs, bs⟩ 0).1.bs.length cj6], .bool (unr ⟨rs, bs⟩ 0).2.1, .int .i64 (unr ⟨rs, bs⟩ 0).2.2])) rfl _ rfl) ?_
  intro a12 hA12; clear hA11
  refine sx_new (cs := #[.slice none 0 0, .slice none 0 0]) (t := 25) hA12 rfl (by decide) (.inl rfl) (ev_alloc (z := .agg (#[.slice none 0 0, .slice none 0 0])) (by kernel_rfl) (by kernel_rfl) _ rfl) ?_
  intro B13 w13 a13 hB13 hx13 hg13 hA13
  clear hA12
  have hs13 := hg13.size
  have hl13 := hx13.lt
  refine sx_store hA13 rfl (.inl rfl) rfl (hA13.ev (i := 7) (v := .pointer (some ⟨B13, 0, none⟩))) (hA13.ev (i := 13) (v := .agg #[.slice Ap6 (unr ⟨rs, bs⟩ 0).1.rs.length cp6, .slice Aj6 (unr ⟨rs, bs⟩ 0).1.bs.length cj6])) hx13 (by kernel_rfl) rfl (by simp [Value.oneCell']) ?_
  intro w14 hx14 hg14
  have hs14 := hg14.size
  refine sx_val hA13 rfl (ev_assign (hA13.ev (i := 14) (v := .bool (unr ⟨rs, bs⟩ 0).2.1)) _ rfl) ?_
  intro a15 hA15; clear hA13
  refine sx_val hA15 rfl (ev_assign (hA15.ev (i := 15) (v := .int .i64 (unr ⟨rs, bs⟩ 0).2.2)) _ rfl) ?_
  intro a16 hA16; clear hA15
  refine sx_nil ?_
  refine then_n ?_
  refine wp_seq ?_
  refine wp_region_lit ?_
  refine sx_val hA16 rfl (ev_move (hA16.ev (i := 9) (v := .int .i64 (unr ⟨rs, bs⟩ 0).2.2)) _ rfl) ?_
  intro a17 hA17; clear hA16
  cases hd18 : decide ((unr ⟨rs, bs⟩ 0).2.2 = 0)
  · have hp18 := of_decide_eq_false hd18
    refine sx_val (v := .bool false) hA17 rfl (ev_eqlB (k := .i64) (m := (unr ⟨rs, bs⟩ 0).2.2) (n := 0) (hA17.ev (i := 16)) (ec _ (.int .i64 0)) hd18 _ rfl) ?_
    intro a19 hA19; clear hA17
    refine sx_val hA19 rfl (ev_move (hA19.ev (i := 17) (v := .bool false)) _ rfl) ?_
    intro a20 hA20; clear hA19
    refine sx_no (j := 2) (s := 18) (want := true) (b := false) hA20 rfl ?_
    intro a21 hA21; clear hA20
    refine sx_no (j := 2) (s := 18) (want := true) (b := false) hA21 rfl ?_
    intro a22 hA22; clear hA21
    refine sx_no (j := 2) (s := 18) (want := true) (b := false) hA22 rfl ?_
    intro a23 hA23; clear hA22
    refine sx_val hA23 rfl (ev_pickF (hA23.ev (i := 18) (v := .bool false)) (ec _ (.bool false)) _ rfl) ?_
    intro a24 hA24; clear hA23
    refine sx_val hA24 rfl (ev_move (hA24.ev (i := 22) (v := .bool false)) _ rfl) ?_
    intro a25 hA25; clear hA24
    refine sx_no (j := 7) (s := 23) (want := true) (b := false) hA25 rfl ?_
    intro a26 hA26; clear hA25
    refine sx_no (j := 7) (s := 23) (want := true) (b := false) hA26 rfl ?_
    intro a27 hA27; clear hA26
    refine sx_no (j := 7) (s := 23) (want := true) (b := false) hA27 rfl ?_
    intro a28 hA28; clear hA27
    refine sx_val hA28 rfl (ev_pickF (hA28.ev (i := 23) (v := .bool false)) (ec _ (.bool false)) _ rfl) ?_
    intro a29 hA29; clear hA28
    refine sx_val hA29 rfl (ev_assign (hA29.ev (i := 27) (v := .bool false)) _ rfl) ?_
    intro a30 hA30; clear hA29
    refine sx_nil ?_
    refine then_n ?_
    refine wp_ret ?_
    refine bodyPost_ret (rs_t (v := .bool false) Try.results32 hA30 (by kernel_rfl) ) hA30.2.1 ?_
    have hbel0_31 := Below.gN hbel0_8 hg6 hbel0_8.size
    have hbel0_32 := Below.gN hbel0_31 hg13 hbel0_31.size
    have hbel0_33 := Below.gB hbel0_32 hg14 hbel0_32.size (by omega)
    exact ⟨by rw [show drp ⟨rs, bs⟩ ⟨rs2, bs2⟩ fb = false by unfold drp; simp [hp18]], hbel0_33⟩
  have hp18 := of_decide_eq_true hd18
  refine sx_val (v := .bool true) hA17 rfl (ev_eqlB (k := .i64) (m := (unr ⟨rs, bs⟩ 0).2.2) (n := 0) (hA17.ev (i := 16)) (ec _ (.int .i64 0)) hd18 _ rfl) ?_
  intro a34 hA34; clear hA17
  refine sx_val hA34 rfl (ev_move (hA34.ev (i := 17) (v := .bool true)) _ rfl) ?_
  intro a35 hA35; clear hA34
  refine sx_val (hg := (.inr ⟨2, true, 18, rfl, rfl, by kernel_rfl⟩)) hA35 rfl (ev_move (hA35.ev (i := 8) (v := .bool (unr ⟨rs, bs⟩ 0).2.1)) _ rfl) ?_
  intro a36 hA36; clear hA35
  refine sx_val (hg := (.inr ⟨2, true, 18, rfl, rfl, by kernel_rfl⟩)) hA36 rfl (ev_move (hA36.ev (i := 2) (v := .bool fb)) _ rfl) ?_
  intro a37 hA37; clear hA36
  cases hd38 : (unr ⟨rs, bs⟩ 0).2.1
  rotate_left
  · rw [hd38] at hA37
    cases hd70 : fb
    · rw [hd70] at hA37
      refine sx_val (hg := (.inr ⟨2, true, 18, rfl, rfl, by kernel_rfl⟩)) (v := .bool false) hA37 rfl (ev_eqlBB (hA37.ev (i := 19) (v := .bool true)) (hA37.ev (i := 20) (v := .bool false)) Try.underlying4 rfl _ rfl) ?_
      intro a71 hA71; clear hA37
      refine sx_val hA71 rfl (ev_pickT (hA71.ev (i := 18) (v := .bool true)) (hA71.ev (i := 21) (v := .bool false)) _ rfl) ?_
      intro a72 hA72; clear hA71
      refine sx_val hA72 rfl (ev_move (hA72.ev (i := 22) (v := .bool false)) _ rfl) ?_
      intro a73 hA73; clear hA72
      refine sx_no (j := 7) (s := 23) (want := true) (b := false) hA73 rfl ?_
      intro a74 hA74; clear hA73
      refine sx_no (j := 7) (s := 23) (want := true) (b := false) hA74 rfl ?_
      intro a75 hA75; clear hA74
      refine sx_no (j := 7) (s := 23) (want := true) (b := false) hA75 rfl ?_
      intro a76 hA76; clear hA75
      refine sx_val hA76 rfl (ev_pickF (hA76.ev (i := 23) (v := .bool false)) (ec _ (.bool false)) _ rfl) ?_
      intro a77 hA77; clear hA76
      refine sx_val hA77 rfl (ev_assign (hA77.ev (i := 27) (v := .bool false)) _ rfl) ?_
      intro a78 hA78; clear hA77
      refine sx_nil ?_
      refine then_n ?_
      refine wp_ret ?_
      refine bodyPost_ret (rs_t (v := .bool false) Try.results32 hA78 (by kernel_rfl) ) hA78.2.1 ?_
      have hbel0_79 := Below.gN hbel0_8 hg6 hbel0_8.size
      have hbel0_80 := Below.gN hbel0_79 hg13 hbel0_79.size
      have hbel0_81 := Below.gB hbel0_80 hg14 hbel0_80.size (by omega)
      exact ⟨by rw [show drp ⟨rs, bs⟩ ⟨rs2, bs2⟩ false = false by unfold drp; simp [hp18, hd38, hd70]], hbel0_81⟩
    rw [hd70] at hA37
    refine sx_val (hg := (.inr ⟨2, true, 18, rfl, rfl, by kernel_rfl⟩)) (v := .bool true) hA37 rfl (ev_eqlBB (hA37.ev (i := 19) (v := .bool true)) (hA37.ev (i := 20) (v := .bool true)) Try.underlying4 rfl _ rfl) ?_
    intro a82 hA82; clear hA37
    refine sx_val hA82 rfl (ev_pickT (hA82.ev (i := 18) (v := .bool true)) (hA82.ev (i := 21) (v := .bool true)) _ rfl) ?_
    intro a83 hA83; clear hA82
    refine sx_val hA83 rfl (ev_move (hA83.ev (i := 22) (v := .bool true)) _ rfl) ?_
    intro a84 hA84; clear hA83
    refine sx_val (hg := (.inr ⟨7, true, 23, rfl, rfl, by kernel_rfl⟩)) (v := .agg #[.slice Ap6 (unr ⟨rs, bs⟩ 0).1.rs.length cp6, .slice Aj6 (unr ⟨rs, bs⟩ 0).1.bs.length cj6]) hA84 rfl (ev_row (hA84.ev (i := 7) (v := .pointer (some ⟨B13, 0, none⟩))) hx14 Try.underlying25 rfl (n := 2) (by kernel_rfl) rfl _ rfl) ?_
    intro a85 hA85; clear hA84
    have hx2_86 := hx2.gN hg6
    have hx2_87 := hx2_86.gN hg13
    have hx2_88 := hx2_87.gB hg14 (by omega)
    refine sx_val (hg := (.inr ⟨7, true, 23, rfl, rfl, by kernel_rfl⟩)) (v := .agg #[.slice A3 rs2.length c3, .slice A4 bs2.length c4]) hA85 rfl (ev_row (hA85.ev (i := 4) (v := .pointer (some ⟨B2, 0, none⟩))) hx2_88 Try.underlying25 rfl (n := 2) (by kernel_rfl) rfl _ rfl) ?_
    intro a89 hA89; clear hA85
    have ho6_91 := Own.gN ho6_0 hg13
    have ho6_92 := Own.gBT ho6_91 hg14 hx13 (by decide)
    have ho6_93 := Own.gN ho6_1 hg13
    have ho6_94 := Own.gBT ho6_93 hg14 hx13 (by decide)
    have hbel0_95 := Below.gN hbel0_8 hg6 hbel0_8.size
    have hbel0_96 := Below.gN hbel0_95 hg13 hbel0_95.size
    have hbel0_97 := Below.gB hbel0_96 hg14 hbel0_96.size (by omega)
    refine sx_call (f := 13) (args := #[.agg #[.slice Ap6 (unr ⟨rs, bs⟩ 0).1.rs.length cp6, .slice Aj6 (unr ⟨rs, bs⟩ 0).1.bs.length cj6], .agg #[.slice A3 rs2.length c3, .slice A4 bs2.length c4]]) hA89 rfl (by decide) (.inr ⟨7, true, 23, rfl, rfl, by kernel_rfl⟩) (ev_fn rfl (mp2 (hA89.ev (i := 24) (v := .agg #[.slice Ap6 (unr ⟨rs, bs⟩ 0).1.rs.length cp6, .slice Aj6 (unr ⟨rs, bs⟩ 0).1.bs.length cj6])) (hA89.ev (i := 25) (v := .agg #[.slice A3 rs2.length c3, .slice A4 bs2.length c4]))) (by kernel_rfl) _ rfl) (SameSlots_any Ap6 cp6 Aj6 cj6 (unr ⟨rs, bs⟩ 0).1.rs (unr ⟨rs, bs⟩ 0).1.bs A3 c3 A4 c4 rs2 bs2 _ ⟨(OwnR.gr (e := 3) ⟨rfl, ho6_92⟩), (OwnR.gr (e := 4) ⟨rfl, ho6_94⟩)⟩ ⟨(hsB.r.below hbel0_97), (hsB.b.below hbel0_97)⟩) ?_
    intro e90 w90 hR90
    obtain ⟨rfl, hb90⟩ := hR90
    refine ⟨_, rfl, ?_⟩
    intro a90 hA90
    clear hA89
    have hg90 := g0 hb90
    have hs90 := hg90.size
    clear hb90
    refine sx_val hA90 rfl (ev_pickT (hA90.ev (i := 23) (v := .bool true)) (hA90.ev (i := 26) (v := .bool (sme (unr ⟨rs, bs⟩ 0).1 ⟨rs2, bs2⟩))) _ rfl) ?_
    intro a98 hA98; clear hA90
    refine sx_val hA98 rfl (ev_assign (hA98.ev (i := 27) (v := .bool (sme (unr ⟨rs, bs⟩ 0).1 ⟨rs2, bs2⟩))) _ rfl) ?_
    intro a99 hA99; clear hA98
    refine sx_nil ?_
    refine then_n ?_
    refine wp_ret ?_
    refine bodyPost_ret (rs_t (v := .bool (sme (unr ⟨rs, bs⟩ 0).1 ⟨rs2, bs2⟩)) Try.results32 hA99 (by kernel_rfl) ) hA99.2.1 ?_
    have hbel0_100 := Below.gN hbel0_97 hg90 hbel0_97.size
    exact ⟨by rw [show drp ⟨rs, bs⟩ ⟨rs2, bs2⟩ true = (sme (unr ⟨rs, bs⟩ 0).1 ⟨rs2, bs2⟩) by unfold drp; simp [hp18, hd38, hd70]], hbel0_100⟩
  rw [hd38] at hA37
  cases hd39 : fb
  rotate_left
  · rw [hd39] at hA37
    refine sx_val (hg := (.inr ⟨2, true, 18, rfl, rfl, by kernel_rfl⟩)) (v := .bool false) hA37 rfl (ev_eqlBB (hA37.ev (i := 19) (v := .bool false)) (hA37.ev (i := 20) (v := .bool true)) Try.underlying4 rfl _ rfl) ?_
    intro a59 hA59; clear hA37
    refine sx_val hA59 rfl (ev_pickT (hA59.ev (i := 18) (v := .bool true)) (hA59.ev (i := 21) (v := .bool false)) _ rfl) ?_
    intro a60 hA60; clear hA59
    refine sx_val hA60 rfl (ev_move (hA60.ev (i := 22) (v := .bool false)) _ rfl) ?_
    intro a61 hA61; clear hA60
    refine sx_no (j := 7) (s := 23) (want := true) (b := false) hA61 rfl ?_
    intro a62 hA62; clear hA61
    refine sx_no (j := 7) (s := 23) (want := true) (b := false) hA62 rfl ?_
    intro a63 hA63; clear hA62
    refine sx_no (j := 7) (s := 23) (want := true) (b := false) hA63 rfl ?_
    intro a64 hA64; clear hA63
    refine sx_val hA64 rfl (ev_pickF (hA64.ev (i := 23) (v := .bool false)) (ec _ (.bool false)) _ rfl) ?_
    intro a65 hA65; clear hA64
    refine sx_val hA65 rfl (ev_assign (hA65.ev (i := 27) (v := .bool false)) _ rfl) ?_
    intro a66 hA66; clear hA65
    refine sx_nil ?_
    refine then_n ?_
    refine wp_ret ?_
    refine bodyPost_ret (rs_t (v := .bool false) Try.results32 hA66 (by kernel_rfl) ) hA66.2.1 ?_
    have hbel0_67 := Below.gN hbel0_8 hg6 hbel0_8.size
    have hbel0_68 := Below.gN hbel0_67 hg13 hbel0_67.size
    have hbel0_69 := Below.gB hbel0_68 hg14 hbel0_68.size (by omega)
    exact ⟨by rw [show drp ⟨rs, bs⟩ ⟨rs2, bs2⟩ true = false by unfold drp; simp [hp18, hd38, hd39]], hbel0_69⟩
  rw [hd39] at hA37
  refine sx_val (hg := (.inr ⟨2, true, 18, rfl, rfl, by kernel_rfl⟩)) (v := .bool true) hA37 rfl (ev_eqlBB (hA37.ev (i := 19) (v := .bool false)) (hA37.ev (i := 20) (v := .bool false)) Try.underlying4 rfl _ rfl) ?_
  intro a40 hA40; clear hA37
  refine sx_val hA40 rfl (ev_pickT (hA40.ev (i := 18) (v := .bool true)) (hA40.ev (i := 21) (v := .bool true)) _ rfl) ?_
  intro a41 hA41; clear hA40
  refine sx_val hA41 rfl (ev_move (hA41.ev (i := 22) (v := .bool true)) _ rfl) ?_
  intro a42 hA42; clear hA41
  refine sx_val (hg := (.inr ⟨7, true, 23, rfl, rfl, by kernel_rfl⟩)) (v := .agg #[.slice Ap6 (unr ⟨rs, bs⟩ 0).1.rs.length cp6, .slice Aj6 (unr ⟨rs, bs⟩ 0).1.bs.length cj6]) hA42 rfl (ev_row (hA42.ev (i := 7) (v := .pointer (some ⟨B13, 0, none⟩))) hx14 Try.underlying25 rfl (n := 2) (by kernel_rfl) rfl _ rfl) ?_
  intro a43 hA43; clear hA42
  have hx2_44 := hx2.gN hg6
  have hx2_45 := hx2_44.gN hg13
  have hx2_46 := hx2_45.gB hg14 (by omega)
  refine sx_val (hg := (.inr ⟨7, true, 23, rfl, rfl, by kernel_rfl⟩)) (v := .agg #[.slice A3 rs2.length c3, .slice A4 bs2.length c4]) hA43 rfl (ev_row (hA43.ev (i := 4) (v := .pointer (some ⟨B2, 0, none⟩))) hx2_46 Try.underlying25 rfl (n := 2) (by kernel_rfl) rfl _ rfl) ?_
  intro a47 hA47; clear hA43
  have ho6_49 := Own.gN ho6_0 hg13
  have ho6_50 := Own.gBT ho6_49 hg14 hx13 (by decide)
  have ho6_51 := Own.gN ho6_1 hg13
  have ho6_52 := Own.gBT ho6_51 hg14 hx13 (by decide)
  have hbel0_53 := Below.gN hbel0_8 hg6 hbel0_8.size
  have hbel0_54 := Below.gN hbel0_53 hg13 hbel0_53.size
  have hbel0_55 := Below.gB hbel0_54 hg14 hbel0_54.size (by omega)
  refine sx_call (f := 13) (args := #[.agg #[.slice Ap6 (unr ⟨rs, bs⟩ 0).1.rs.length cp6, .slice Aj6 (unr ⟨rs, bs⟩ 0).1.bs.length cj6], .agg #[.slice A3 rs2.length c3, .slice A4 bs2.length c4]]) hA47 rfl (by decide) (.inr ⟨7, true, 23, rfl, rfl, by kernel_rfl⟩) (ev_fn rfl (mp2 (hA47.ev (i := 24) (v := .agg #[.slice Ap6 (unr ⟨rs, bs⟩ 0).1.rs.length cp6, .slice Aj6 (unr ⟨rs, bs⟩ 0).1.bs.length cj6])) (hA47.ev (i := 25) (v := .agg #[.slice A3 rs2.length c3, .slice A4 bs2.length c4]))) (by kernel_rfl) _ rfl) (SameSlots_any Ap6 cp6 Aj6 cj6 (unr ⟨rs, bs⟩ 0).1.rs (unr ⟨rs, bs⟩ 0).1.bs A3 c3 A4 c4 rs2 bs2 _ ⟨(OwnR.gr (e := 3) ⟨rfl, ho6_50⟩), (OwnR.gr (e := 4) ⟨rfl, ho6_52⟩)⟩ ⟨(hsB.r.below hbel0_55), (hsB.b.below hbel0_55)⟩) ?_
  intro e48 w48 hR48
  obtain ⟨rfl, hb48⟩ := hR48
  refine ⟨_, rfl, ?_⟩
  intro a48 hA48
  clear hA47
  have hg48 := g0 hb48
  have hs48 := hg48.size
  clear hb48
  refine sx_val hA48 rfl (ev_pickT (hA48.ev (i := 23) (v := .bool true)) (hA48.ev (i := 26) (v := .bool (sme (unr ⟨rs, bs⟩ 0).1 ⟨rs2, bs2⟩))) _ rfl) ?_
  intro a56 hA56; clear hA48
  refine sx_val hA56 rfl (ev_assign (hA56.ev (i := 27) (v := .bool (sme (unr ⟨rs, bs⟩ 0).1 ⟨rs2, bs2⟩))) _ rfl) ?_
  intro a57 hA57; clear hA56
  refine sx_nil ?_
  refine then_n ?_
  refine wp_ret ?_
  refine bodyPost_ret (rs_t (v := .bool (sme (unr ⟨rs, bs⟩ 0).1 ⟨rs2, bs2⟩)) Try.results32 hA57 (by kernel_rfl) ) hA57.2.1 ?_
  have hbel0_58 := Below.gN hbel0_55 hg48 hbel0_55.size
  exact ⟨by rw [show drp ⟨rs, bs⟩ ⟨rs2, bs2⟩ false = (sme (unr ⟨rs, bs⟩ 0).1 ⟨rs2, bs2⟩) by unfold drp; simp [hp18, hd38, hd39]], hbel0_58⟩

def stt (s t : Ss) (b : Bool) : Bool := decide ((stl s 0).2.2 = 0) && (((stl s 0).2.1 == b) && sme (stl s 0).1 t)
set_option maxHeartbeats 4000000 in
theorem settles_any (A1 : Option Addr) (c1 : Nat) (A2 : Option Addr) (c2 : Nat) (rs : List Int) (bs : List Bool) (A3 : Option Addr) (c3 : Nat) (A4 : Option Addr) (c4 : Nat) (rs2 : List Int) (bs2 : List Bool) (fb : Bool) (w : World) (hs : GS w A1 c1 A2 c2 rs bs) (hsB : GS w A3 c3 A4 c4 rs2 bs2) (hl : rs.length ≤ 900000) (hb : bs.length ≤ 900000) : Calls Try.prog 33 #[.agg #[.slice A1 rs.length c1, .slice A2 bs.length c2], .agg #[.slice A3 rs2.length c3, .slice A4 bs2.length c4], .bool fb] w (RetB w (.returned (.bool (stt ⟨rs, bs⟩ ⟨rs2, bs2⟩ fb)))) := by
  have hbel0 := below0 w
  refine sx_enter (N := 28) [(0, .agg #[.slice A1 rs.length c1, .slice A2 bs.length c2]), (1, .agg #[.slice A3 rs2.length c3, .slice A4 bs2.length c4]), (2, .bool fb)] Try.func33 rfl Try.ntmps33 (by simp) (fun a z d s => ((((Ag.nil z d).cons (s 2 _ rfl)).cons (s 1 _ rfl)).cons (s 0 _ rfl))) ?_
  intro a0 hA0
  refine wp_seq ?_
  refine wp_region_lit ?_
  refine sx_new (cs := #[.slice A1 rs.length c1, .slice A2 bs.length c2]) (t := 25) hA0 rfl (by decide) (.inl rfl) (ev_box (hA0.ev (i := 0) (v := .agg #[.slice A1 rs.length c1, .slice A2 bs.length c2])) rfl _ rfl) ?_
  intro B1 w1 a1 hB1 hx1 hg1 hA1
  clear hA0
  have hs1 := hg1.size
  have hl1 := hx1.lt
  refine sx_new (cs := #[.slice A3 rs2.length c3, .slice A4 bs2.length c4]) (t := 25) hA1 rfl (by decide) (.inl rfl) (ev_box (hA1.ev (i := 1) (v := .agg #[.slice A3 rs2.length c3, .slice A4 bs2.length c4])) rfl _ rfl) ?_
  intro B2 w2 a2 hB2 hx2 hg2 hA2
  clear hA1
  have hs2 := hg2.size
  have hl2 := hx2.lt
  refine sx_val hA2 rfl (ev_assign (ec _ (.bool false)) _ rfl) ?_
  intro a3 hA3; clear hA2
  refine sx_nil ?_
  refine then_n ?_
  refine wp_seq ?_
  refine wp_region_lit ?_
  have hx1_4 := hx1.gN hg2
  refine sx_val (v := .agg #[.slice A1 rs.length c1, .slice A2 bs.length c2]) hA3 rfl (ev_row (hA3.ev (i := 3) (v := .pointer (some ⟨B1, 0, none⟩))) hx1_4 Try.underlying25 rfl (n := 2) (by kernel_rfl) rfl _ rfl) ?_
  intro a5 hA5; clear hA3
  have hbel0_7 := Below.gN hbel0 hg1 hbel0.size
  have hbel0_8 := Below.gN hbel0_7 hg2 hbel0_7.size
  refine sx_call (f := 18) (args := #[.agg #[.slice A1 rs.length c1, .slice A2 bs.length c2], .int .i64 0]) hA5 rfl (by decide) (.inl rfl) (ev_fn rfl (mp2 (hA5.ev (i := 11) (v := .agg #[.slice A1 rs.length c1, .slice A2 bs.length c2])) (ec _ (.int .i64 0))) (by kernel_rfl) _ rfl) (Settle_any A1 c1 A2 c2 rs bs 0 _ ⟨(hs.r.below hbel0_8), (hs.b.below hbel0_8)⟩ (by omega) (by omega)) ?_
  intro e6 w6 hR6
  obtain ⟨Ap6, cp6, Aj6, cj6, rfl, hC6, hJ6, hb6⟩ := hR6
  refine ⟨_, rfl, ?_⟩
  intro a6 hA6
  clear hA5
  have hg6 := g0 hb6
  have hs6 := hg6.size
  clear hb6
  have ho6_0 : Own w6 (w2.heap.size) 3 1 (.slice Ap6 (stl ⟨rs, bs⟩ 0).1.rs.length cp6) (stl ⟨rs, bs⟩ 0).1.rs.length (flat iva (stl ⟨rs, bs⟩ 0).1.rs) := hC6
  have hh6_0 := Own.hi ho6_0
  have ho6_1 : Own w6 (w2.heap.size) 4 1 (.slice Aj6 (stl ⟨rs, bs⟩ 0).1.bs.length cj6) (stl ⟨rs, bs⟩ 0).1.bs.length (flat bva (stl ⟨rs, bs⟩ 0).1.bs) := hJ6
  have hh6_1 := Own.hi ho6_1
  refine sx_val hA6 rfl (ev_move (hA6.ev (i := 12) (v := .tuple #[.agg #[.slice Ap6 (stl ⟨rs, bs⟩ 0).1.rs.length cp6, .slice Aj6 (stl ⟨rs, bs⟩ 0).1.bs.length cj6], .bool (stl ⟨rs, bs⟩ 0).2.1, .int .i64 (stl ⟨rs, bs⟩ 0).2.2])) _ rfl) ?_
  intro a9 hA9; clear hA6
  refine sx_val (v := .agg #[.slice Ap6 (stl ⟨rs, bs⟩ 0).1.rs.length cp6, .slice Aj6 (stl ⟨rs, bs⟩ 0).1.bs.length cj6]) hA9 rfl (ev_ext (hA9.ev (i := 10) (v := .tuple #[.agg #[.slice Ap6 (stl ⟨rs, bs⟩ 0).1.rs.length cp6, .slice Aj6 (stl ⟨rs, bs⟩ 0).1.bs.length cj6], .bool (stl ⟨rs, bs⟩ 0).2.1, .int .i64 (stl ⟨rs, bs⟩ 0).2.2])) rfl _ rfl) ?_
  intro a10 hA10; clear hA9
  refine sx_val (v := .bool (stl ⟨rs, bs⟩ 0).2.1) hA10 rfl (ev_ext (hA10.ev (i := 10) (v := .tuple #[.agg #[.slice Ap6 (stl ⟨rs, bs⟩ 0).1.rs.length cp6, .slice Aj6 (stl ⟨rs, bs⟩ 0).1.bs.length cj6], .bool (stl ⟨rs, bs⟩ 0).2.1, .int .i64 (stl ⟨rs, bs⟩ 0).2.2])) rfl _ rfl) ?_
  intro a11 hA11; clear hA10
  refine sx_val (v := .int .i64 (stl ⟨rs, bs⟩ 0).2.2) hA11 rfl (ev_ext (hA11.ev (i := 10) (v := .tuple #[.agg #[.slice Ap6 (stl ⟨rs, bs⟩ 0).1.rs.length cp6, .slice Aj6 (stl ⟨rs, bs⟩ 0).1.bs.length cj6], .bool (stl ⟨rs, bs⟩ 0).2.1, .int .i64 (stl ⟨rs, bs⟩ 0).2.2])) rfl _ rfl) ?_
  intro a12 hA12; clear hA11
  refine sx_new (cs := #[.slice none 0 0, .slice none 0 0]) (t := 25) hA12 rfl (by decide) (.inl rfl) (ev_alloc (z := .agg (#[.slice none 0 0, .slice none 0 0])) (by kernel_rfl) (by kernel_rfl) _ rfl) ?_
  intro B13 w13 a13 hB13 hx13 hg13 hA13
  clear hA12
  have hs13 := hg13.size
  have hl13 := hx13.lt
  refine sx_store hA13 rfl (.inl rfl) rfl (hA13.ev (i := 7) (v := .pointer (some ⟨B13, 0, none⟩))) (hA13.ev (i := 13) (v := .agg #[.slice Ap6 (stl ⟨rs, bs⟩ 0).1.rs.length cp6, .slice Aj6 (stl ⟨rs, bs⟩ 0).1.bs.length cj6])) hx13 (by kernel_rfl) rfl (by simp [Value.oneCell']) ?_
  intro w14 hx14 hg14
  have hs14 := hg14.size
  refine sx_val hA13 rfl (ev_assign (hA13.ev (i := 14) (v := .bool (stl ⟨rs, bs⟩ 0).2.1)) _ rfl) ?_
  intro a15 hA15; clear hA13
  refine sx_val hA15 rfl (ev_assign (hA15.ev (i := 15) (v := .int .i64 (stl ⟨rs, bs⟩ 0).2.2)) _ rfl) ?_
  intro a16 hA16; clear hA15
  refine sx_nil ?_
  refine then_n ?_
  refine wp_seq ?_
  refine wp_region_lit ?_
  refine sx_val hA16 rfl (ev_move (hA16.ev (i := 9) (v := .int .i64 (stl ⟨rs, bs⟩ 0).2.2)) _ rfl) ?_
  intro a17 hA17; clear hA16
  cases hd18 : decide ((stl ⟨rs, bs⟩ 0).2.2 = 0)
  · have hp18 := of_decide_eq_false hd18
    refine sx_val (v := .bool false) hA17 rfl (ev_eqlB (k := .i64) (m := (stl ⟨rs, bs⟩ 0).2.2) (n := 0) (hA17.ev (i := 16)) (ec _ (.int .i64 0)) hd18 _ rfl) ?_
    intro a19 hA19; clear hA17
    refine sx_val hA19 rfl (ev_move (hA19.ev (i := 17) (v := .bool false)) _ rfl) ?_
    intro a20 hA20; clear hA19
    refine sx_no (j := 2) (s := 18) (want := true) (b := false) hA20 rfl ?_
    intro a21 hA21; clear hA20
    refine sx_no (j := 2) (s := 18) (want := true) (b := false) hA21 rfl ?_
    intro a22 hA22; clear hA21
    refine sx_no (j := 2) (s := 18) (want := true) (b := false) hA22 rfl ?_
    intro a23 hA23; clear hA22
    refine sx_val hA23 rfl (ev_pickF (hA23.ev (i := 18) (v := .bool false)) (ec _ (.bool false)) _ rfl) ?_
    intro a24 hA24; clear hA23
    refine sx_val hA24 rfl (ev_move (hA24.ev (i := 22) (v := .bool false)) _ rfl) ?_
    intro a25 hA25; clear hA24
    refine sx_no (j := 7) (s := 23) (want := true) (b := false) hA25 rfl ?_
    intro a26 hA26; clear hA25
    refine sx_no (j := 7) (s := 23) (want := true) (b := false) hA26 rfl ?_
    intro a27 hA27; clear hA26
    refine sx_no (j := 7) (s := 23) (want := true) (b := false) hA27 rfl ?_
    intro a28 hA28; clear hA27
    refine sx_val hA28 rfl (ev_pickF (hA28.ev (i := 23) (v := .bool false)) (ec _ (.bool false)) _ rfl) ?_
    intro a29 hA29; clear hA28
    refine sx_val hA29 rfl (ev_assign (hA29.ev (i := 27) (v := .bool false)) _ rfl) ?_
    intro a30 hA30; clear hA29
    refine sx_nil ?_
    refine then_n ?_
    refine wp_ret ?_
    refine bodyPost_ret (rs_t (v := .bool false) Try.results33 hA30 (by kernel_rfl) ) hA30.2.1 ?_
    have hbel0_31 := Below.gN hbel0_8 hg6 hbel0_8.size
    have hbel0_32 := Below.gN hbel0_31 hg13 hbel0_31.size
    have hbel0_33 := Below.gB hbel0_32 hg14 hbel0_32.size (by omega)
    exact ⟨by rw [show stt ⟨rs, bs⟩ ⟨rs2, bs2⟩ fb = false by unfold stt; simp [hp18]], hbel0_33⟩
  have hp18 := of_decide_eq_true hd18
  refine sx_val (v := .bool true) hA17 rfl (ev_eqlB (k := .i64) (m := (stl ⟨rs, bs⟩ 0).2.2) (n := 0) (hA17.ev (i := 16)) (ec _ (.int .i64 0)) hd18 _ rfl) ?_
  intro a34 hA34; clear hA17
  refine sx_val hA34 rfl (ev_move (hA34.ev (i := 17) (v := .bool true)) _ rfl) ?_
  intro a35 hA35; clear hA34
  refine sx_val (hg := (.inr ⟨2, true, 18, rfl, rfl, by kernel_rfl⟩)) hA35 rfl (ev_move (hA35.ev (i := 8) (v := .bool (stl ⟨rs, bs⟩ 0).2.1)) _ rfl) ?_
  intro a36 hA36; clear hA35
  refine sx_val (hg := (.inr ⟨2, true, 18, rfl, rfl, by kernel_rfl⟩)) hA36 rfl (ev_move (hA36.ev (i := 2) (v := .bool fb)) _ rfl) ?_
  intro a37 hA37; clear hA36
  cases hd38 : (stl ⟨rs, bs⟩ 0).2.1
  rotate_left
  · rw [hd38] at hA37
    cases hd70 : fb
    · rw [hd70] at hA37
      refine sx_val (hg := (.inr ⟨2, true, 18, rfl, rfl, by kernel_rfl⟩)) (v := .bool false) hA37 rfl (ev_eqlBB (hA37.ev (i := 19) (v := .bool true)) (hA37.ev (i := 20) (v := .bool false)) Try.underlying4 rfl _ rfl) ?_
      intro a71 hA71; clear hA37
      refine sx_val hA71 rfl (ev_pickT (hA71.ev (i := 18) (v := .bool true)) (hA71.ev (i := 21) (v := .bool false)) _ rfl) ?_
      intro a72 hA72; clear hA71
      refine sx_val hA72 rfl (ev_move (hA72.ev (i := 22) (v := .bool false)) _ rfl) ?_
      intro a73 hA73; clear hA72
      refine sx_no (j := 7) (s := 23) (want := true) (b := false) hA73 rfl ?_
      intro a74 hA74; clear hA73
      refine sx_no (j := 7) (s := 23) (want := true) (b := false) hA74 rfl ?_
      intro a75 hA75; clear hA74
      refine sx_no (j := 7) (s := 23) (want := true) (b := false) hA75 rfl ?_
      intro a76 hA76; clear hA75
      refine sx_val hA76 rfl (ev_pickF (hA76.ev (i := 23) (v := .bool false)) (ec _ (.bool false)) _ rfl) ?_
      intro a77 hA77; clear hA76
      refine sx_val hA77 rfl (ev_assign (hA77.ev (i := 27) (v := .bool false)) _ rfl) ?_
      intro a78 hA78; clear hA77
      refine sx_nil ?_
      refine then_n ?_
      refine wp_ret ?_
      refine bodyPost_ret (rs_t (v := .bool false) Try.results33 hA78 (by kernel_rfl) ) hA78.2.1 ?_
      have hbel0_79 := Below.gN hbel0_8 hg6 hbel0_8.size
      have hbel0_80 := Below.gN hbel0_79 hg13 hbel0_79.size
      have hbel0_81 := Below.gB hbel0_80 hg14 hbel0_80.size (by omega)
      exact ⟨by rw [show stt ⟨rs, bs⟩ ⟨rs2, bs2⟩ false = false by unfold stt; simp [hp18, hd38, hd70]], hbel0_81⟩
    rw [hd70] at hA37
    refine sx_val (hg := (.inr ⟨2, true, 18, rfl, rfl, by kernel_rfl⟩)) (v := .bool true) hA37 rfl (ev_eqlBB (hA37.ev (i := 19) (v := .bool true)) (hA37.ev (i := 20) (v := .bool true)) Try.underlying4 rfl _ rfl) ?_
    intro a82 hA82; clear hA37
    refine sx_val hA82 rfl (ev_pickT (hA82.ev (i := 18) (v := .bool true)) (hA82.ev (i := 21) (v := .bool true)) _ rfl) ?_
    intro a83 hA83; clear hA82
    refine sx_val hA83 rfl (ev_move (hA83.ev (i := 22) (v := .bool true)) _ rfl) ?_
    intro a84 hA84; clear hA83
    refine sx_val (hg := (.inr ⟨7, true, 23, rfl, rfl, by kernel_rfl⟩)) (v := .agg #[.slice Ap6 (stl ⟨rs, bs⟩ 0).1.rs.length cp6, .slice Aj6 (stl ⟨rs, bs⟩ 0).1.bs.length cj6]) hA84 rfl (ev_row (hA84.ev (i := 7) (v := .pointer (some ⟨B13, 0, none⟩))) hx14 Try.underlying25 rfl (n := 2) (by kernel_rfl) rfl _ rfl) ?_
    intro a85 hA85; clear hA84
    have hx2_86 := hx2.gN hg6
    have hx2_87 := hx2_86.gN hg13
    have hx2_88 := hx2_87.gB hg14 (by omega)
    refine sx_val (hg := (.inr ⟨7, true, 23, rfl, rfl, by kernel_rfl⟩)) (v := .agg #[.slice A3 rs2.length c3, .slice A4 bs2.length c4]) hA85 rfl (ev_row (hA85.ev (i := 4) (v := .pointer (some ⟨B2, 0, none⟩))) hx2_88 Try.underlying25 rfl (n := 2) (by kernel_rfl) rfl _ rfl) ?_
    intro a89 hA89; clear hA85
    have ho6_91 := Own.gN ho6_0 hg13
    have ho6_92 := Own.gBT ho6_91 hg14 hx13 (by decide)
    have ho6_93 := Own.gN ho6_1 hg13
    have ho6_94 := Own.gBT ho6_93 hg14 hx13 (by decide)
    have hbel0_95 := Below.gN hbel0_8 hg6 hbel0_8.size
    have hbel0_96 := Below.gN hbel0_95 hg13 hbel0_95.size
    have hbel0_97 := Below.gB hbel0_96 hg14 hbel0_96.size (by omega)
    refine sx_call (f := 13) (args := #[.agg #[.slice Ap6 (stl ⟨rs, bs⟩ 0).1.rs.length cp6, .slice Aj6 (stl ⟨rs, bs⟩ 0).1.bs.length cj6], .agg #[.slice A3 rs2.length c3, .slice A4 bs2.length c4]]) hA89 rfl (by decide) (.inr ⟨7, true, 23, rfl, rfl, by kernel_rfl⟩) (ev_fn rfl (mp2 (hA89.ev (i := 24) (v := .agg #[.slice Ap6 (stl ⟨rs, bs⟩ 0).1.rs.length cp6, .slice Aj6 (stl ⟨rs, bs⟩ 0).1.bs.length cj6])) (hA89.ev (i := 25) (v := .agg #[.slice A3 rs2.length c3, .slice A4 bs2.length c4]))) (by kernel_rfl) _ rfl) (SameSlots_any Ap6 cp6 Aj6 cj6 (stl ⟨rs, bs⟩ 0).1.rs (stl ⟨rs, bs⟩ 0).1.bs A3 c3 A4 c4 rs2 bs2 _ ⟨(OwnR.gr (e := 3) ⟨rfl, ho6_92⟩), (OwnR.gr (e := 4) ⟨rfl, ho6_94⟩)⟩ ⟨(hsB.r.below hbel0_97), (hsB.b.below hbel0_97)⟩) ?_
    intro e90 w90 hR90
    obtain ⟨rfl, hb90⟩ := hR90
    refine ⟨_, rfl, ?_⟩
    intro a90 hA90
    clear hA89
    have hg90 := g0 hb90
    have hs90 := hg90.size
    clear hb90
    refine sx_val hA90 rfl (ev_pickT (hA90.ev (i := 23) (v := .bool true)) (hA90.ev (i := 26) (v := .bool (sme (stl ⟨rs, bs⟩ 0).1 ⟨rs2, bs2⟩))) _ rfl) ?_
    intro a98 hA98; clear hA90
    refine sx_val hA98 rfl (ev_assign (hA98.ev (i := 27) (v := .bool (sme (stl ⟨rs, bs⟩ 0).1 ⟨rs2, bs2⟩))) _ rfl) ?_
    intro a99 hA99; clear hA98
    refine sx_nil ?_
    refine then_n ?_
    refine wp_ret ?_
    refine bodyPost_ret (rs_t (v := .bool (sme (stl ⟨rs, bs⟩ 0).1 ⟨rs2, bs2⟩)) Try.results33 hA99 (by kernel_rfl) ) hA99.2.1 ?_
    have hbel0_100 := Below.gN hbel0_97 hg90 hbel0_97.size
    exact ⟨by rw [show stt ⟨rs, bs⟩ ⟨rs2, bs2⟩ true = (sme (stl ⟨rs, bs⟩ 0).1 ⟨rs2, bs2⟩) by unfold stt; simp [hp18, hd38, hd70]], hbel0_100⟩
  rw [hd38] at hA37
  cases hd39 : fb
  rotate_left
  · rw [hd39] at hA37
    refine sx_val (hg := (.inr ⟨2, true, 18, rfl, rfl, by kernel_rfl⟩)) (v := .bool false) hA37 rfl (ev_eqlBB (hA37.ev (i := 19) (v := .bool false)) (hA37.ev (i := 20) (v := .bool true)) Try.underlying4 rfl _ rfl) ?_
    intro a59 hA59; clear hA37
    refine sx_val hA59 rfl (ev_pickT (hA59.ev (i := 18) (v := .bool true)) (hA59.ev (i := 21) (v := .bool false)) _ rfl) ?_
    intro a60 hA60; clear hA59
    refine sx_val hA60 rfl (ev_move (hA60.ev (i := 22) (v := .bool false)) _ rfl) ?_
    intro a61 hA61; clear hA60
    refine sx_no (j := 7) (s := 23) (want := true) (b := false) hA61 rfl ?_
    intro a62 hA62; clear hA61
    refine sx_no (j := 7) (s := 23) (want := true) (b := false) hA62 rfl ?_
    intro a63 hA63; clear hA62
    refine sx_no (j := 7) (s := 23) (want := true) (b := false) hA63 rfl ?_
    intro a64 hA64; clear hA63
    refine sx_val hA64 rfl (ev_pickF (hA64.ev (i := 23) (v := .bool false)) (ec _ (.bool false)) _ rfl) ?_
    intro a65 hA65; clear hA64
    refine sx_val hA65 rfl (ev_assign (hA65.ev (i := 27) (v := .bool false)) _ rfl) ?_
    intro a66 hA66; clear hA65
    refine sx_nil ?_
    refine then_n ?_
    refine wp_ret ?_
    refine bodyPost_ret (rs_t (v := .bool false) Try.results33 hA66 (by kernel_rfl) ) hA66.2.1 ?_
    have hbel0_67 := Below.gN hbel0_8 hg6 hbel0_8.size
    have hbel0_68 := Below.gN hbel0_67 hg13 hbel0_67.size
    have hbel0_69 := Below.gB hbel0_68 hg14 hbel0_68.size (by omega)
    exact ⟨by rw [show stt ⟨rs, bs⟩ ⟨rs2, bs2⟩ true = false by unfold stt; simp [hp18, hd38, hd39]], hbel0_69⟩
  rw [hd39] at hA37
  refine sx_val (hg := (.inr ⟨2, true, 18, rfl, rfl, by kernel_rfl⟩)) (v := .bool true) hA37 rfl (ev_eqlBB (hA37.ev (i := 19) (v := .bool false)) (hA37.ev (i := 20) (v := .bool false)) Try.underlying4 rfl _ rfl) ?_
  intro a40 hA40; clear hA37
  refine sx_val hA40 rfl (ev_pickT (hA40.ev (i := 18) (v := .bool true)) (hA40.ev (i := 21) (v := .bool true)) _ rfl) ?_
  intro a41 hA41; clear hA40
  refine sx_val hA41 rfl (ev_move (hA41.ev (i := 22) (v := .bool true)) _ rfl) ?_
  intro a42 hA42; clear hA41
  refine sx_val (hg := (.inr ⟨7, true, 23, rfl, rfl, by kernel_rfl⟩)) (v := .agg #[.slice Ap6 (stl ⟨rs, bs⟩ 0).1.rs.length cp6, .slice Aj6 (stl ⟨rs, bs⟩ 0).1.bs.length cj6]) hA42 rfl (ev_row (hA42.ev (i := 7) (v := .pointer (some ⟨B13, 0, none⟩))) hx14 Try.underlying25 rfl (n := 2) (by kernel_rfl) rfl _ rfl) ?_
  intro a43 hA43; clear hA42
  have hx2_44 := hx2.gN hg6
  have hx2_45 := hx2_44.gN hg13
  have hx2_46 := hx2_45.gB hg14 (by omega)
  refine sx_val (hg := (.inr ⟨7, true, 23, rfl, rfl, by kernel_rfl⟩)) (v := .agg #[.slice A3 rs2.length c3, .slice A4 bs2.length c4]) hA43 rfl (ev_row (hA43.ev (i := 4) (v := .pointer (some ⟨B2, 0, none⟩))) hx2_46 Try.underlying25 rfl (n := 2) (by kernel_rfl) rfl _ rfl) ?_
  intro a47 hA47; clear hA43
  have ho6_49 := Own.gN ho6_0 hg13
  have ho6_50 := Own.gBT ho6_49 hg14 hx13 (by decide)
  have ho6_51 := Own.gN ho6_1 hg13
  have ho6_52 := Own.gBT ho6_51 hg14 hx13 (by decide)
  have hbel0_53 := Below.gN hbel0_8 hg6 hbel0_8.size
  have hbel0_54 := Below.gN hbel0_53 hg13 hbel0_53.size
  have hbel0_55 := Below.gB hbel0_54 hg14 hbel0_54.size (by omega)
  refine sx_call (f := 13) (args := #[.agg #[.slice Ap6 (stl ⟨rs, bs⟩ 0).1.rs.length cp6, .slice Aj6 (stl ⟨rs, bs⟩ 0).1.bs.length cj6], .agg #[.slice A3 rs2.length c3, .slice A4 bs2.length c4]]) hA47 rfl (by decide) (.inr ⟨7, true, 23, rfl, rfl, by kernel_rfl⟩) (ev_fn rfl (mp2 (hA47.ev (i := 24) (v := .agg #[.slice Ap6 (stl ⟨rs, bs⟩ 0).1.rs.length cp6, .slice Aj6 (stl ⟨rs, bs⟩ 0).1.bs.length cj6])) (hA47.ev (i := 25) (v := .agg #[.slice A3 rs2.length c3, .slice A4 bs2.length c4]))) (by kernel_rfl) _ rfl) (SameSlots_any Ap6 cp6 Aj6 cj6 (stl ⟨rs, bs⟩ 0).1.rs (stl ⟨rs, bs⟩ 0).1.bs A3 c3 A4 c4 rs2 bs2 _ ⟨(OwnR.gr (e := 3) ⟨rfl, ho6_50⟩), (OwnR.gr (e := 4) ⟨rfl, ho6_52⟩)⟩ ⟨(hsB.r.below hbel0_55), (hsB.b.below hbel0_55)⟩) ?_
  intro e48 w48 hR48
  obtain ⟨rfl, hb48⟩ := hR48
  refine ⟨_, rfl, ?_⟩
  intro a48 hA48
  clear hA47
  have hg48 := g0 hb48
  have hs48 := hg48.size
  clear hb48
  refine sx_val hA48 rfl (ev_pickT (hA48.ev (i := 23) (v := .bool true)) (hA48.ev (i := 26) (v := .bool (sme (stl ⟨rs, bs⟩ 0).1 ⟨rs2, bs2⟩))) _ rfl) ?_
  intro a56 hA56; clear hA48
  refine sx_val hA56 rfl (ev_assign (hA56.ev (i := 27) (v := .bool (sme (stl ⟨rs, bs⟩ 0).1 ⟨rs2, bs2⟩))) _ rfl) ?_
  intro a57 hA57; clear hA56
  refine sx_nil ?_
  refine then_n ?_
  refine wp_ret ?_
  refine bodyPost_ret (rs_t (v := .bool (sme (stl ⟨rs, bs⟩ 0).1 ⟨rs2, bs2⟩)) Try.results33 hA57 (by kernel_rfl) ) hA57.2.1 ?_
  have hbel0_58 := Below.gN hbel0_55 hg48 hbel0_55.size
  exact ⟨by rw [show stt ⟨rs, bs⟩ ⟨rs2, bs2⟩ false = (sme (stl ⟨rs, bs⟩ 0).1 ⟨rs2, bs2⟩) by unfold stt; simp [hp18, hd38, hd39]], hbel0_58⟩
end Go.Proofs.Ytpoilgfblhacaaa
