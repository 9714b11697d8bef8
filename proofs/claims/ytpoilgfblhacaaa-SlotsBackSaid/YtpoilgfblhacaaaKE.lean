/- The book of package slots: open, free, slots, first, at. -/
import Derived.Test.YtpoilgfblhacaaaKC
import Derived.Test.YtpoilgfblhacaaaSE
namespace Go.Proofs.Ytpoilgfblhacaaa
open Go.RowKit
set_option linter.unusedVariables false
set_option linter.unusedSimpArgs false
set_option maxRecDepth 100000

theorem look_at {rs : List Int} {k : Nat} {x : Int} (hx : rs[k]? = some x) : ((opf rs (k : Int)).map (Value.int .i64)).getD (.int .i64 0) = .int .i64 x := by
  have h := opf_at rs k
  rw [hx] at h
  cases hq : opf rs (k : Int) with
  | none => rw [hq] at h; simp at h; simp [← h]
  | some y => rw [hq] at h; simp at h; simp [← h]
theorem fre_bk (rs : List Int) (bs : List Bool) (k : Nat) : fre ⟨rs, bs⟩ k = (!(opf rs (k : Int)).isSome && !opm bs k) := by
  rw [opf_is, Bool.not_not]; rfl
def fil {α : Type} (l : List α) (z : α) (n k : Nat) : List α := l.take k ++ List.replicate (n - k) z
section
variable {α : Type} {l : List α} {z : α} {n k : Nat}
theorem fil_zero : List.replicate n z = fil l z n 0 := by simp [fil]
theorem fil_len (h1 : k ≤ l.length) (h2 : k ≤ n) : (fil l z n k).length = n := by simp [fil]; omega
theorem fil_set {x : α} (hx : l[k]? = some x) (hk : k < n) : (fil l z n k).set k x = fil l z n (k + 1) := by
  have hl := (List.getElem?_eq_some_iff.1 hx).1
  apply List.ext_getElem?
  intro i
  have h1 : (l.take k).length = k := by rw [List.length_take]; omega
  have h2 : (l.take (k + 1)).length = k + 1 := by rw [List.length_take]; omega
  unfold fil
  rw [List.getElem?_set]
  by_cases hi : k = i
  · subst hi
    rw [if_pos rfl, List.length_append, h1, List.length_replicate, if_pos (by omega), List.getElem?_append_left (by omega), List.getElem?_take, if_pos (by omega), hx]
  · rw [if_neg hi]
    by_cases hlt : i < k
    · rw [List.getElem?_append_left (by omega), List.getElem?_append_left (by omega), List.getElem?_take, List.getElem?_take, if_pos hlt, if_pos (by omega)]
    · rw [List.getElem?_append_right (by omega), List.getElem?_append_right (by omega), h1, h2, List.getElem?_replicate, List.getElem?_replicate]
      by_cases hn : i < n
      · rw [if_pos (by omega), if_pos (by omega)]
      · rw [if_neg (by omega), if_neg (by omega)]
theorem fil_all (h : l.length = n) : fil l z n n = l := by subst h; simp [fil]
end
theorem mrow_ix (S : Nat → Bool) (j : Nat) (hj : j < 4) : (mrow S)[j]? = some (.int .u64 ((wdn S (64 * j) 64 : Nat) : Int)) := by
  have : j = 0 ∨ j = 1 ∨ j = 2 ∨ j = 3 := by omega
  rcases this with rfl | rfl | rfl | rfl <;> rfl
theorem bit_used (s : Ss) (n j i : Nat) (hi : i < 64) (hn : 64 * j + i < n) : decide (((wdn (usS s n) (64 * j) 64 / 2 ^ i &&& 1 : Nat) : Int) = 0) = fre s (64 * j + i) := by
  have h := bit_of (usS s n) (64 * j + i)
  rw [show (64 * j + i) / 64 = j by omega, show (64 * j + i) % 64 = i by omega] at h
  rw [h]
  simp [usS, hn]
/-- The call returned the book of slots. -/
def RBk (w : World) (rs : List Int) (bs : List Bool) (K : Value → Value) (e : Ending) (w' : World) : Prop :=
  ∃ M, e = .returned (K (.agg (bkr rs.length M (opm bs)))) ∧ Mp w' M (Value.int .i64) (Value.int .i64) (opf rs) ∧ w.heap.size ≤ M ∧ Below w.heap.size w w'
theorem ask_zero {s : Ss} {k : Int} (h : ask s k = 0) : (chs s).1 = 0 ∧ 0 ≤ k ∧ k < s.rs.length := by
  unfold ask at h
  by_cases h1 : (chs s).1 ≠ 0
  · rw [if_pos h1] at h; exact absurd h h1
  · rw [if_neg h1] at h
    by_cases h2 : k < 0 ∨ (s.rs.length : Int) ≤ k
    · rw [if_pos h2] at h; cases h
    · exact ⟨by omega, by omega, by omega⟩
theorem ask_mk {s : Ss} {k : Int} (h1 : (chs s).1 = 0) (h2 : ¬ k < 0) (h3 : ¬ (s.rs.length : Int) ≤ k) : ask s k = 0 := by
  unfold ask
  rw [if_neg (by omega), if_neg (by omega)]

set_option maxHeartbeats 4000000 in
theorem open_any (A1 : Option Addr) (c1 : Nat) (A2 : Option Addr) (c2 : Nat) (rs : List Int) (bs : List Bool) (w : World) (hs : GS w A1 c1 A2 c2 rs bs) (hrl : rs.length ≤ 256) (hbl : bs.length = rs.length) : Calls Try.prog 46 #[.agg #[.slice A1 rs.length c1, .slice A2 bs.length c2]] w (RBk w rs bs id) := by
  have hbel0 := below0 w
  refine sx_enter (N := 35) [(0, .agg #[.slice A1 rs.length c1, .slice A2 bs.length c2])] Try.func46 rfl Try.ntmps46 (by simp) (fun a z d s => ((Ag.nil z d).cons (s 0 _ rfl))) ?_
  intro a0 hA0
  refine wp_seq ?_
  refine wp_region_lit ?_
  refine sx_new (cs := #[.slice A1 rs.length c1, .slice A2 bs.length c2]) (t := 25) hA0 rfl (by decide) (.inl rfl) (ev_box (hA0.ev (i := 0) (v := .agg #[.slice A1 rs.length c1, .slice A2 bs.length c2])) rfl _ rfl) ?_
  intro B1 w1 a1 hB1 hx1 hg1 hA1
  clear hA0
  have hs1 := hg1.size
  have hl1 := hx1.lt
  refine sx_new (cs := #[.int .i64 0, .map none, .int .u64 0, .int .u64 0, .int .u64 0, .int .u64 0]) (t := 56) hA1 rfl (by decide) (.inl rfl) (ev_alloc (z := .agg (#[.int .i64 0, .map none, .int .u64 0, .int .u64 0, .int .u64 0, .int .u64 0])) (by kernel_rfl) (by kernel_rfl) _ rfl) ?_
  intro B2 w2 a2 hB2 hx2 hg2 hA2
  clear hA1
  have hs2 := hg2.size
  have hl2 := hx2.lt
  refine sx_nil ?_
  refine then_n ?_
  refine wp_seq ?_
  refine wp_region_lit ?_
  refine sx_val (v := .pointer (some ⟨B1, 0, none⟩)) hA2 rfl (fb_Slots_0 (hA2.ev (i := 1) (v := .pointer (some ⟨B1, 0, none⟩))) _ rfl) ?_
  intro a3 hA3; clear hA2
  have hx1_4 := hx1.gN hg2
  refine sx_val (v := .slice A1 rs.length c1) hA3 rfl (ev_cell (v := .slice A1 rs.length c1) (hA3.ev (i := 6) (v := .pointer (some ⟨B1, 0, none⟩))) ((hx1_4.cell 0).trans rfl) Try.underlying22 rfl _ rfl) ?_
  intro a5 hA5; clear hA3
  refine sx_val (v := .int .i64 (rs.length : Int)) hA5 rfl (ev_len (hA5.ev (i := 7) (v := .slice A1 rs.length c1)) Try.underlying22 _ rfl) ?_
  intro a6 hA6; clear hA5
  refine sx_map (kv := (Value.int .i64)) (vv := (Value.int .i64)) hA6 rfl (by decide) (.inl rfl) rfl ?_
  intro B7 w7 a7 hB7 hm7 hg7 hA7
  clear hA6
  have hs7 := hg7.size
  have hl7 := hm7.lt
  refine sx_val (v := .agg (bkr rs.length B7 (fun _ => false))) hA7 rfl (bd_book_0_1 (hA7.ev (i := 8) (v := .int .i64 (rs.length : Int))) (hA7.ev (i := 9) (v := .map (some B7))) _ rfl) ?_
  intro a8 hA8; clear hA7
  refine sx_new (cs := #[.int .i64 0, .map none, .int .u64 0, .int .u64 0, .int .u64 0, .int .u64 0]) (t := 56) hA8 rfl (by decide) (.inl rfl) (ev_alloc (z := .agg (#[.int .i64 0, .map none, .int .u64 0, .int .u64 0, .int .u64 0, .int .u64 0])) (by kernel_rfl) (by kernel_rfl) _ rfl) ?_
  intro B9 w9 a9 hB9 hx9 hg9 hA9
  clear hA8
  have hs9 := hg9.size
  have hl9 := hx9.lt
  refine sx_store hA9 rfl (.inl rfl) rfl (hA9.ev (i := 3) (v := .pointer (some ⟨B9, 0, none⟩))) (hA9.ev (i := 10) (v := .agg (bkr rs.length B7 (fun _ => false)))) hx9 (by kernel_rfl) rfl (bkr_one _ _ _) ?_
  intro w10 hx10 hg10
  have hs10 := hg10.size
  refine sx_nil ?_
  refine then_n ?_
  refine wp_seq ?_
  refine wp_seq ?_
  refine wp_region_lit ?_
  refine sx_val (v := .pointer (some ⟨B1, 0, none⟩)) hA9 rfl (fb_Slots_0 (hA9.ev (i := 1) (v := .pointer (some ⟨B1, 0, none⟩))) _ rfl) ?_
  intro a11 hA11; clear hA9
  have hx1_12 := hx1_4.gN hg7
  have hx1_13 := hx1_12.gN hg9
  have hx1_14 := hx1_13.gB hg10 (by omega)
  refine sx_val (v := .slice A1 rs.length c1) hA11 rfl (ev_cell (v := .slice A1 rs.length c1) (hA11.ev (i := 11) (v := .pointer (some ⟨B1, 0, none⟩))) ((hx1_14.cell 0).trans rfl) Try.underlying22 rfl _ rfl) ?_
  intro a15 hA15; clear hA11
  refine sx_val (v := .int .i64 (rs.length : Int)) hA15 rfl (ev_len (hA15.ev (i := 12) (v := .slice A1 rs.length c1)) Try.underlying22 _ rfl) ?_
  intro a16 hA16; clear hA15
  refine sx_val hA16 rfl (ev_move (ec _ (.int .i64 0)) _ rfl) ?_
  intro a17 hA17; clear hA16
  refine sx_nil ?_
  refine then_n ?_
  refine wp_block ?_
  have hm7_19 := hm7.gN hg9
  have hm7_20 := hm7_19.gB hg10 (by omega)
  have hx2_21 := hx2.gN hg7
  have hx2_22 := hx2_21.gN hg9
  have hx2_23 := hx2_22.gB hg10 (by omega)
  have hbel0_24 := Below.gN hbel0 hg1 hbel0.size
  have hbel0_25 := Below.gN hbel0_24 hg2 hbel0_24.size
  have hbel0_26 := Below.gN hbel0_25 hg7 hbel0_25.size
  have hbel0_27 := Below.gN hbel0_26 hg9 hbel0_26.size
  have hbel0_28 := Below.gB hbel0_27 hg10 hbel0_27.size (by omega)
  refine wp_loop_ghost (fun gz a wl => ∃ (k : Nat), gz = rs.length - k ∧ Ag a 35 [(1, .pointer (some ⟨B1, 0, none⟩)), (2, .pointer (some ⟨B2, 0, none⟩)), (3, .pointer (some ⟨B9, 0, none⟩)), (12, .slice A1 rs.length c1), (13, .int .i64 (rs.length : Int)), (14, .int .i64 (k : Int))] ∧ k ≤ rs.length ∧ Bx wl B1 25 #[.slice A1 rs.length c1, .slice A2 bs.length c2] ∧ Bx wl B2 56 #[.int .i64 0, .map none, .int .u64 0, .int .u64 0, .int .u64 0, .int .u64 0] ∧ Bx wl B9 56 (bkr rs.length B7 (opm (bs.take k))) ∧ Mp wl B7 (Value.int .i64) (Value.int .i64) (opf (rs.take k)) ∧ w10.heap.size ≤ wl.heap.size ∧ Below w.heap.size w wl) (rs.length - 0) ⟨0, rfl, (((((((Ag.nil hA17.1 hA17.2.1).cons (hA17.get (i := 14) (v := .int .i64 0))).cons (hA17.get (i := 13) (v := .int .i64 (rs.length : Int)))).cons (hA17.get (i := 12) (v := .slice A1 rs.length c1))).cons (hA17.get (i := 3) (v := .pointer (some ⟨B9, 0, none⟩)))).cons (hA17.get (i := 2) (v := .pointer (some ⟨B2, 0, none⟩)))).cons (hA17.get (i := 1) (v := .pointer (some ⟨B1, 0, none⟩)))), Nat.zero_le _, hx1_14, hx2_23, (by rw [List.take_zero, opm_nil]; exact hx10), (Mp.congr' hm7_20 (fun q => by rw [List.take_zero]; exact opf_nil q)), Nat.le_refl _, hbel0_28⟩ ?_
  intro n18 a18 w18 hI18
  obtain ⟨k, hn18, hA18, q18_0, f18_0, f18_1, f18_2, f18_3, hsz18, hbel18⟩ := hI18
  subst hn18
  clear hA17
  have hlB1_18 := f18_0.lt
  have hlB2_18 := f18_1.lt
  have hlB9_18 := f18_2.lt
  have hlB7_18 := f18_3.lt
  cases hd29 : decide ((k : Int) < (rs.length : Int))
  · have hp29 := of_decide_eq_false hd29
    refine wp_seq ?_
    refine wp_region_lit ?_
    refine sx_val (v := .bool false) hA18 rfl (ev_lssB (k := .i64) (m := (k : Int)) (n := (rs.length : Int)) (hA18.ev (i := 14)) (hA18.ev (i := 13)) hd29 _ rfl) ?_
    intro a30 hA30; clear hA18
    refine sx_nil ?_
    refine then_n ?_
    refine wp_seq ?_
    refine wp_cond_false (hA30.ev (i := 15) (v := .bool false)) ?_
    refine wp_exit ?_
    refine then_x ?_
    refine then_x ?_
    refine blk_hit ?_
    refine then_n ?_
    refine wp_seq ?_
    refine wp_region_lit ?_
    refine sx_val (v := .agg (bkr rs.length B7 (opm (bs.take k)))) hA30 rfl (ev_row (hA30.ev (i := 3) (v := .pointer (some ⟨B9, 0, none⟩))) f18_2 Try.underlying56 rfl (n := 6) (by kernel_rfl) rfl _ rfl) ?_
    intro a31 hA31; clear hA30
    refine sx_store hA31 rfl (.inl rfl) rfl (hA31.ev (i := 2) (v := .pointer (some ⟨B2, 0, none⟩))) (hA31.ev (i := 34) (v := .agg (bkr rs.length B7 (opm (bs.take k))))) f18_1 (by kernel_rfl) rfl (bkr_one _ _ _) ?_
    intro w32 hx32 hg32
    have hs32 := hg32.size
    refine sx_nil ?_
    refine then_n ?_
    refine wp_ret ?_
    refine bodyPost_ret (rs_c  Try.results46 hA31 (by kernel_rfl) hx32 Try.underlying56 rfl (by kernel_rfl)) hA31.2.1 ?_
    have f18_33 := f18_3.gB hg32 (by omega)
    have hbel18_34 := Below.gB hbel18 hg32 hbel18.size (by omega)
    have hkl : k = rs.length := by omega
    have e1 : rs.take k = rs := by rw [hkl, List.take_length]
    have e2 : bs.take k = bs := by rw [hkl, ← hbl, List.take_length]
    rw [e1] at f18_33
    rw [e2]
    exact ⟨B7, rfl, f18_33, by omega, hbel18_34⟩
  have hp29 := of_decide_eq_true hd29
  obtain ⟨x, hx⟩ : ∃ x, rs[k]? = some x := ⟨_, List.getElem?_eq_getElem (by omega)⟩
  obtain ⟨y, hy⟩ : ∃ y, bs[k]? = some y := ⟨_, List.getElem?_eq_getElem (by omega)⟩
  refine wp_seq ?_
  refine wp_region_lit ?_
  refine sx_val (v := .bool true) hA18 rfl (ev_lssB (k := .i64) (m := (k : Int)) (n := (rs.length : Int)) (hA18.ev (i := 14)) (hA18.ev (i := 13)) hd29 _ rfl) ?_
  intro a35 hA35; clear hA18
  refine sx_nil ?_
  refine then_n ?_
  refine wp_seq ?_
  refine wp_cond_true (hA35.ev (i := 15) (v := .bool true)) ?_
  refine wp_skip ?_
  refine then_n ?_
  refine wp_seq ?_
  refine wp_block ?_
  refine wp_seq ?_
  refine wp_region_lit ?_
  refine sx_val hA35 rfl (ev_move (hA35.ev (i := 14) (v := .int .i64 (k : Int))) _ rfl) ?_
  intro a36 hA36; clear hA35
  obtain ⟨ad37, hAd37⟩ := GR.adr (hs.r.below hbel18) iva_sz hx
  refine sx_val (v := .pointer (some (ad37.add (k * 1)))) hA36 rfl (ev_idx (k := k) (hA36.ev (i := 12) (v := .slice A1 rs.length c1)) hAd37 (hA36.ev (i := 14) (v := .int .i64 (k : Int))) rfl (by omega) Try.underlying22 (by kernel_rfl) _ rfl) ?_
  intro a38 hA38; clear hA36
  refine sx_val (v := .int .i64 x) hA38 rfl (ev_cell (hA38.ev (i := 17) (v := .pointer (some (ad37.add (k * 1))))) ((GR.cel (hs.r.below hbel18) hAd37 iva_sz hx) 0 _ rfl) Try.underlying3 rfl _ rfl) ?_
  intro a39 hA39; clear hA38
  refine sx_val hA39 rfl (ev_assign (hA39.ev (i := 16) (v := .int .i64 (k : Int))) _ rfl) ?_
  intro a40 hA40; clear hA39
  refine sx_val hA40 rfl (ev_assign (hA40.ev (i := 18) (v := .int .i64 x)) _ rfl) ?_
  intro a41 hA41; clear hA40
  refine sx_nil ?_
  refine then_n ?_
  refine wp_seq ?_
  refine wp_seq ?_
  refine wp_region_lit ?_
  refine sx_val hA41 rfl (ev_move (hA41.ev (i := 5) (v := .int .i64 x)) _ rfl) ?_
  intro a42 hA42; clear hA41
  cases hd43 : decide (x = 0)
  rotate_left
  · have hp43 := of_decide_eq_true hd43
    refine sx_val (v := .bool false) hA42 rfl (ev_neqB (k := .i64) (m := x) (n := 0) (hA42.ev (i := 19)) (ec _ (.int .i64 0)) (by simpa using hd43) _ rfl) ?_
    intro a74 hA74; clear hA42
    refine sx_nil ?_
    refine then_n ?_
    refine wp_cond_false (hA74.ev (i := 20) (v := .bool false)) ?_
    refine wp_skip ?_
    refine then_n ?_
    refine wp_seq ?_
    refine wp_region_lit ?_
    refine sx_val (v := .pointer (some ⟨B1, 1, none⟩)) hA74 rfl (fb_Slots_1 (hA74.ev (i := 1) (v := .pointer (some ⟨B1, 0, none⟩))) _ rfl) ?_
    intro a75 hA75; clear hA74
    refine sx_val (v := .slice A2 bs.length c2) hA75 rfl (ev_cell (v := .slice A2 bs.length c2) (hA75.ev (i := 25) (v := .pointer (some ⟨B1, 1, none⟩))) ((f18_0.cell 1).trans rfl) Try.underlying23 rfl _ rfl) ?_
    intro a76 hA76; clear hA75
    refine sx_val hA76 rfl (ev_move (hA76.ev (i := 4) (v := .int .i64 (k : Int))) _ rfl) ?_
    intro a77 hA77; clear hA76
    obtain ⟨ad78, hAd78⟩ := GR.adr (hs.b.below hbel18) bva_sz hy
    refine sx_val (v := .pointer (some (ad78.add (k * 1)))) hA77 rfl (ev_idx (k := k) (hA77.ev (i := 26) (v := .slice A2 bs.length c2)) hAd78 (hA77.ev (i := 27) (v := .int .i64 (k : Int))) rfl (by omega) Try.underlying23 (by kernel_rfl) _ rfl) ?_
    intro a79 hA79; clear hA77
    refine sx_val (v := .bool y) hA79 rfl (ev_cell (hA79.ev (i := 28) (v := .pointer (some (ad78.add (k * 1))))) ((GR.cel (hs.b.below hbel18) hAd78 bva_sz hy) 0 _ rfl) Try.underlying4 rfl _ rfl) ?_
    intro a80 hA80; clear hA79
    refine sx_nil ?_
    refine then_n ?_
    cases hd81 : y
    · rw [hd81] at hA80
      refine wp_cond_false (hA80.ev (i := 29) (v := .bool false)) ?_
      refine wp_skip ?_
      refine blk_n ?_
      refine then_n ?_
      refine wp_region_lit ?_
      refine sx_val (v := .int .i64 ((k + 1 : Nat) : Int)) hA80 rfl (ev_addR (k := .i64) (m := (k : Int)) (n := 1) (r := ((k + 1 : Nat) : Int)) (hA80.ev (i := 14)) (ec _ (.int .i64 1)) (wr (by omega) (by omega) (by omega)) _ rfl) ?_
      intro a82 hA82; clear hA80
      refine sx_val hA82 rfl (ev_move (hA82.ev (i := 33) (v := .int .i64 ((k + 1 : Nat) : Int))) _ rfl) ?_
      intro a83 hA83; clear hA82
      refine sx_nil ?_
      refine then_n ?_
      refine ⟨rs.length - (k + 1), by omega, k + 1, rfl, (((((((Ag.nil hA83.1 hA83.2.1).cons (hA83.get (i := 14) (v := .int .i64 ((k + 1 : Nat) : Int)))).cons (hA83.get (i := 13) (v := .int .i64 (rs.length : Int)))).cons (hA83.get (i := 12) (v := .slice A1 rs.length c1))).cons (hA83.get (i := 3) (v := .pointer (some ⟨B9, 0, none⟩)))).cons (hA83.get (i := 2) (v := .pointer (some ⟨B2, 0, none⟩)))).cons (hA83.get (i := 1) (v := .pointer (some ⟨B1, 0, none⟩)))), by omega, f18_0, f18_1, (by rw [opm_take hy, if_neg (by rw [hd81]; decide)]; exact f18_2), (Mp.congr' f18_3 (fun q => by rw [opf_take hx, if_pos hp43])), by omega, hbel18⟩
    rw [hd81] at hA80
    refine wp_cond_true (hA80.ev (i := 29) (v := .bool true)) ?_
    refine wp_region_lit ?_
    refine sx_val (v := .pointer (some ⟨B9, 2, none⟩)) hA80 rfl (fb_book_2 (hA80.ev (i := 3) (v := .pointer (some ⟨B9, 0, none⟩))) _ rfl) ?_
    intro a84 hA84; clear hA80
    refine sx_val hA84 rfl (ev_move (hA84.ev (i := 4) (v := .int .i64 (k : Int))) _ rfl) ?_
    intro a85 hA85; clear hA84
    refine sx_call (f := 45) (args := #[.pointer (some ⟨B9, 2, none⟩), .int .i64 (k : Int), .bool true]) hA85 rfl (by decide) (.inl rfl) (ev_fn rfl (mp3 (hA85.ev (i := 30) (v := .pointer (some ⟨B9, 2, none⟩))) (hA85.ev (i := 31) (v := .int .i64 (k : Int))) (ec _ (.bool true))) (by kernel_rfl) _ rfl) (put_bk_t B9 rs.length B7 (opm (bs.take k)) k _ f18_2 (by omega)) ?_
    intro e86 w86 hR86
    obtain ⟨rfl, hx86, hg86⟩ := hR86
    refine ⟨_, rfl, ?_⟩
    intro a86 hA86
    clear hA85
    have hs86 := hg86.size
    refine sx_nil ?_
    refine blk_n ?_
    refine then_n ?_
    refine wp_region_lit ?_
    refine sx_val (v := .int .i64 ((k + 1 : Nat) : Int)) hA86 rfl (ev_addR (k := .i64) (m := (k : Int)) (n := 1) (r := ((k + 1 : Nat) : Int)) (hA86.ev (i := 14)) (ec _ (.int .i64 1)) (wr (by omega) (by omega) (by omega)) _ rfl) ?_
    intro a87 hA87; clear hA86
    refine sx_val hA87 rfl (ev_move (hA87.ev (i := 33) (v := .int .i64 ((k + 1 : Nat) : Int))) _ rfl) ?_
    intro a88 hA88; clear hA87
    refine sx_nil ?_
    refine then_n ?_
    have f18_89 := f18_3.gB hg86 (by omega)
    have f18_90 := f18_0.gB hg86 (by omega)
    have f18_91 := f18_1.gB hg86 (by omega)
    have hbel18_92 := Below.gB hbel18 hg86 hbel18.size (by omega)
    refine ⟨rs.length - (k + 1), by omega, k + 1, rfl, (((((((Ag.nil hA88.1 hA88.2.1).cons (hA88.get (i := 14) (v := .int .i64 ((k + 1 : Nat) : Int)))).cons (hA88.get (i := 13) (v := .int .i64 (rs.length : Int)))).cons (hA88.get (i := 12) (v := .slice A1 rs.length c1))).cons (hA88.get (i := 3) (v := .pointer (some ⟨B9, 0, none⟩)))).cons (hA88.get (i := 2) (v := .pointer (some ⟨B2, 0, none⟩)))).cons (hA88.get (i := 1) (v := .pointer (some ⟨B1, 0, none⟩)))), by omega, f18_90, f18_91, (by rw [opm_take hy, if_pos hd81]; exact hx86), (Mp.congr' f18_89 (fun q => by rw [opf_take hx, if_pos hp43])), by omega, hbel18_92⟩
  have hp43 := of_decide_eq_false hd43
  refine sx_val (v := .bool true) hA42 rfl (ev_neqB (k := .i64) (m := x) (n := 0) (hA42.ev (i := 19)) (ec _ (.int .i64 0)) (by simpa using hd43) _ rfl) ?_
  intro a44 hA44; clear hA42
  refine sx_nil ?_
  refine then_n ?_
  refine wp_cond_true (hA44.ev (i := 20) (v := .bool true)) ?_
  refine wp_region_lit ?_
  refine sx_val (v := .pointer (some ⟨B9, 1, none⟩)) hA44 rfl (fb_book_1 (hA44.ev (i := 3) (v := .pointer (some ⟨B9, 0, none⟩))) _ rfl) ?_
  intro a45 hA45; clear hA44
  refine sx_val (v := .map (some B7)) hA45 rfl (ev_cell (v := .map (some B7)) (hA45.ev (i := 21) (v := .pointer (some ⟨B9, 1, none⟩))) ((f18_2.cell 1).trans rfl) Try.underlying51 rfl _ rfl) ?_
  intro a46 hA46; clear hA45
  refine sx_val hA46 rfl (ev_move (hA46.ev (i := 4) (v := .int .i64 (k : Int))) _ rfl) ?_
  intro a47 hA47; clear hA46
  refine sx_val hA47 rfl (ev_move (hA47.ev (i := 5) (v := .int .i64 x)) _ rfl) ?_
  intro a48 hA48; clear hA47
  refine sx_upd mk_int (k := (k : Int)) (v := x) hA48 rfl (.inl rfl) rfl Try.underlying51 f18_3 (hA48.ev (i := 22) (v := .map (some B7))) (hA48.ev (i := 23) (v := .int .i64 (k : Int))) (hA48.ev (i := 24) (v := .int .i64 x)) ?_
  intro w49 hm49 hg49
  have hs49 := hg49.size
  refine sx_nil ?_
  refine then_n ?_
  refine wp_seq ?_
  refine wp_region_lit ?_
  refine sx_val (v := .pointer (some ⟨B1, 1, none⟩)) hA48 rfl (fb_Slots_1 (hA48.ev (i := 1) (v := .pointer (some ⟨B1, 0, none⟩))) _ rfl) ?_
  intro a50 hA50; clear hA48
  have f18_51 := f18_0.gB hg49 (by omega)
  refine sx_val (v := .slice A2 bs.length c2) hA50 rfl (ev_cell (v := .slice A2 bs.length c2) (hA50.ev (i := 25) (v := .pointer (some ⟨B1, 1, none⟩))) ((f18_51.cell 1).trans rfl) Try.underlying23 rfl _ rfl) ?_
  intro a52 hA52; clear hA50
  refine sx_val hA52 rfl (ev_move (hA52.ev (i := 4) (v := .int .i64 (k : Int))) _ rfl) ?_
  intro a53 hA53; clear hA52
  have hbel18_55 := Below.gB hbel18 hg49 hbel18.size (by omega)
  obtain ⟨ad54, hAd54⟩ := GR.adr (hs.b.below hbel18_55) bva_sz hy
  refine sx_val (v := .pointer (some (ad54.add (k * 1)))) hA53 rfl (ev_idx (k := k) (hA53.ev (i := 26) (v := .slice A2 bs.length c2)) hAd54 (hA53.ev (i := 27) (v := .int .i64 (k : Int))) rfl (by omega) Try.underlying23 (by kernel_rfl) _ rfl) ?_
  intro a56 hA56; clear hA53
  refine sx_val (v := .bool y) hA56 rfl (ev_cell (hA56.ev (i := 28) (v := .pointer (some (ad54.add (k * 1))))) ((GR.cel (hs.b.below hbel18_55) hAd54 bva_sz hy) 0 _ rfl) Try.underlying4 rfl _ rfl) ?_
  intro a57 hA57; clear hA56
  refine sx_nil ?_
  refine then_n ?_
  cases hd58 : y
  · rw [hd58] at hA57
    refine wp_cond_false (hA57.ev (i := 29) (v := .bool false)) ?_
    refine wp_skip ?_
    refine blk_n ?_
    refine then_n ?_
    refine wp_region_lit ?_
    refine sx_val (v := .int .i64 ((k + 1 : Nat) : Int)) hA57 rfl (ev_addR (k := .i64) (m := (k : Int)) (n := 1) (r := ((k + 1 : Nat) : Int)) (hA57.ev (i := 14)) (ec _ (.int .i64 1)) (wr (by omega) (by omega) (by omega)) _ rfl) ?_
    intro a59 hA59; clear hA57
    refine sx_val hA59 rfl (ev_move (hA59.ev (i := 33) (v := .int .i64 ((k + 1 : Nat) : Int))) _ rfl) ?_
    intro a60 hA60; clear hA59
    refine sx_nil ?_
    refine then_n ?_
    have f18_61 := f18_2.gB hg49 (by omega)
    have f18_62 := f18_1.gB hg49 (by omega)
    refine ⟨rs.length - (k + 1), by omega, k + 1, rfl, (((((((Ag.nil hA60.1 hA60.2.1).cons (hA60.get (i := 14) (v := .int .i64 ((k + 1 : Nat) : Int)))).cons (hA60.get (i := 13) (v := .int .i64 (rs.length : Int)))).cons (hA60.get (i := 12) (v := .slice A1 rs.length c1))).cons (hA60.get (i := 3) (v := .pointer (some ⟨B9, 0, none⟩)))).cons (hA60.get (i := 2) (v := .pointer (some ⟨B2, 0, none⟩)))).cons (hA60.get (i := 1) (v := .pointer (some ⟨B1, 0, none⟩)))), by omega, f18_51, f18_62, (by rw [opm_take hy, if_neg (by rw [hd58]; decide)]; exact f18_61), (Mp.congr' hm49 (fun q => by rw [opf_take hx, if_neg hp43])), by omega, hbel18_55⟩
  rw [hd58] at hA57
  refine wp_cond_true (hA57.ev (i := 29) (v := .bool true)) ?_
  refine wp_region_lit ?_
  refine sx_val (v := .pointer (some ⟨B9, 2, none⟩)) hA57 rfl (fb_book_2 (hA57.ev (i := 3) (v := .pointer (some ⟨B9, 0, none⟩))) _ rfl) ?_
  intro a63 hA63; clear hA57
  refine sx_val hA63 rfl (ev_move (hA63.ev (i := 4) (v := .int .i64 (k : Int))) _ rfl) ?_
  intro a64 hA64; clear hA63
  have f18_66 := f18_2.gB hg49 (by omega)
  refine sx_call (f := 45) (args := #[.pointer (some ⟨B9, 2, none⟩), .int .i64 (k : Int), .bool true]) hA64 rfl (by decide) (.inl rfl) (ev_fn rfl (mp3 (hA64.ev (i := 30) (v := .pointer (some ⟨B9, 2, none⟩))) (hA64.ev (i := 31) (v := .int .i64 (k : Int))) (ec _ (.bool true))) (by kernel_rfl) _ rfl) (put_bk_t B9 rs.length B7 (opm (bs.take k)) k _ f18_66 (by omega)) ?_
  intro e65 w65 hR65
  obtain ⟨rfl, hx65, hg65⟩ := hR65
  refine ⟨_, rfl, ?_⟩
  intro a65 hA65
  clear hA64
  have hs65 := hg65.size
  refine sx_nil ?_
  refine blk_n ?_
  refine then_n ?_
  refine wp_region_lit ?_
  refine sx_val (v := .int .i64 ((k + 1 : Nat) : Int)) hA65 rfl (ev_addR (k := .i64) (m := (k : Int)) (n := 1) (r := ((k + 1 : Nat) : Int)) (hA65.ev (i := 14)) (ec _ (.int .i64 1)) (wr (by omega) (by omega) (by omega)) _ rfl) ?_
  intro a67 hA67; clear hA65
  refine sx_val hA67 rfl (ev_move (hA67.ev (i := 33) (v := .int .i64 ((k + 1 : Nat) : Int))) _ rfl) ?_
  intro a68 hA68; clear hA67
  refine sx_nil ?_
  refine then_n ?_
  have hm49_69 := hm49.gB hg65 (by omega)
  have f18_70 := f18_51.gB hg65 (by omega)
  have f18_71 := f18_1.gB hg49 (by omega)
  have f18_72 := f18_71.gB hg65 (by omega)
  have hbel18_73 := Below.gB hbel18_55 hg65 hbel18_55.size (by omega)
  refine ⟨rs.length - (k + 1), by omega, k + 1, rfl, (((((((Ag.nil hA68.1 hA68.2.1).cons (hA68.get (i := 14) (v := .int .i64 ((k + 1 : Nat) : Int)))).cons (hA68.get (i := 13) (v := .int .i64 (rs.length : Int)))).cons (hA68.get (i := 12) (v := .slice A1 rs.length c1))).cons (hA68.get (i := 3) (v := .pointer (some ⟨B9, 0, none⟩)))).cons (hA68.get (i := 2) (v := .pointer (some ⟨B2, 0, none⟩)))).cons (hA68.get (i := 1) (v := .pointer (some ⟨B1, 0, none⟩)))), by omega, f18_70, f18_72, (by rw [opm_take hy, if_pos hd58]; exact hx65), (Mp.congr' hm49_69 (fun q => by rw [opf_take hx, if_neg hp43])), by omega, hbel18_73⟩

theorem look_gd (o : Option Int) : (o.map (Value.int .i64)).getD (.int .i64 0) = .int .i64 (o.getD 0) := by cases o <;> rfl
set_option maxHeartbeats 2000000 in
theorem bfree_any (w : World) (B M n : Nat) (rs : List Int) (bs : List Bool) (hB : Bks w B M n rs bs) (k : Nat) (hk : k < 256) : Calls Try.prog 37 #[.pointer (some ⟨B, 0, none⟩), .int .i64 (k : Int)] w (RetB w (.returned (.bool (fre ⟨rs, bs⟩ k)))) := by
  have hlB := hB.x.lt
  have hlM := hB.m.lt
  have hbel0 := below0 w
  refine sx_enter (N := 26) [(0, .pointer (some ⟨B, 0, none⟩)), (1, .int .i64 (k : Int))] Try.func37 rfl Try.ntmps37 (by simp) (fun a z d s => (((Ag.nil z d).cons (s 1 _ rfl)).cons (s 0 _ rfl))) ?_
  intro a0 hA0
  refine wp_seq ?_
  refine wp_region_lit ?_
  refine sx_val hA0 rfl (ev_assign (ec _ (.bool false)) _ rfl) ?_
  intro a1 hA1; clear hA0
  refine sx_nil ?_
  refine then_n ?_
  refine wp_seq ?_
  refine wp_region_lit ?_
  refine sx_val hA1 rfl (ev_move (hA1.ev (i := 0) (v := .pointer (some ⟨B, 0, none⟩))) _ rfl) ?_
  intro a2 hA2; clear hA1
  refine sx_val hA2 rfl (ev_nilCheck (hA2.ev (i := 8) (v := .pointer (some ⟨B, 0, none⟩))) _ rfl) ?_
  intro a3 hA3; clear hA2
  refine sx_val (v := .pointer (some ⟨B, 1, none⟩)) hA3 rfl (fb_book_1 (hA3.ev (i := 9) (v := .pointer (some ⟨B, 0, none⟩))) _ rfl) ?_
  intro a4 hA4; clear hA3
  refine sx_val (v := .map (some M)) hA4 rfl (ev_cell (v := .map (some M)) (hA4.ev (i := 10) (v := .pointer (some ⟨B, 1, none⟩))) ((hB.x.cell 1).trans rfl) Try.underlying51 rfl _ rfl) ?_
  intro a5 hA5; clear hA4
  refine sx_val hA5 rfl (ev_move (hA5.ev (i := 1) (v := .int .i64 (k : Int))) _ rfl) ?_
  intro a6 hA6; clear hA5
  refine sx_val (v := .tuple #[.int .i64 ((opf rs (k : Int)).getD 0), .bool (opf rs (k : Int)).isSome]) hA6 rfl (ev_look2 mk_int hB.m Try.underlying51 (by kernel_rfl) (k := (k : Int)) (r := .int .i64 ((opf rs (k : Int)).getD 0)) (ok := (opf rs (k : Int)).isSome) (hA6.ev (i := 11) (v := .map (some M))) (hA6.ev (i := 12) (v := .int .i64 (k : Int))) (look_gd _) rfl _ rfl) ?_
  intro a7 hA7; clear hA6
  refine sx_val hA7 rfl (ev_move (hA7.ev (i := 13) (v := .tuple #[.int .i64 ((opf rs (k : Int)).getD 0), .bool (opf rs (k : Int)).isSome])) _ rfl) ?_
  intro a8 hA8; clear hA7
  refine sx_val (v := .int .i64 ((opf rs (k : Int)).getD 0)) hA8 rfl (ev_ext (hA8.ev (i := 7) (v := .tuple #[.int .i64 ((opf rs (k : Int)).getD 0), .bool (opf rs (k : Int)).isSome])) rfl _ rfl) ?_
  intro a9 hA9; clear hA8
  refine sx_val (v := .bool (opf rs (k : Int)).isSome) hA9 rfl (ev_ext (hA9.ev (i := 7) (v := .tuple #[.int .i64 ((opf rs (k : Int)).getD 0), .bool (opf rs (k : Int)).isSome])) rfl _ rfl) ?_
  intro a10 hA10; clear hA9
  refine sx_val hA10 rfl (ev_assign (hA10.ev (i := 14) (v := .int .i64 ((opf rs (k : Int)).getD 0))) _ rfl) ?_
  intro a11 hA11; clear hA10
  refine sx_val hA11 rfl (ev_assign (hA11.ev (i := 15) (v := .bool (opf rs (k : Int)).isSome)) _ rfl) ?_
  intro a12 hA12; clear hA11
  refine sx_nil ?_
  refine then_n ?_
  refine wp_seq ?_
  refine wp_region_lit ?_
  refine sx_val hA12 rfl (ev_move (hA12.ev (i := 6) (v := .bool (opf rs (k : Int)).isSome)) _ rfl) ?_
  intro a13 hA13; clear hA12
  cases hd14 : (opf rs (k : Int)).isSome
  rotate_left
  · rw [hd14] at hA13
    refine sx_val (v := .bool false) hA13 rfl (ev_notT (hA13.ev (i := 16) (v := .bool true)) _ rfl) ?_
    intro a33 hA33; clear hA13
    refine sx_val hA33 rfl (ev_move (hA33.ev (i := 17) (v := .bool false)) _ rfl) ?_
    intro a34 hA34; clear hA33
    refine sx_no (j := 2) (s := 18) (want := true) (b := false) hA34 rfl ?_
    intro a35 hA35; clear hA34
    refine sx_no (j := 2) (s := 18) (want := true) (b := false) hA35 rfl ?_
    intro a36 hA36; clear hA35
    refine sx_no (j := 2) (s := 18) (want := true) (b := false) hA36 rfl ?_
    intro a37 hA37; clear hA36
    refine sx_no (j := 2) (s := 18) (want := true) (b := false) hA37 rfl ?_
    intro a38 hA38; clear hA37
    refine sx_no (j := 2) (s := 18) (want := true) (b := false) hA38 rfl ?_
    intro a39 hA39; clear hA38
    refine sx_no (j := 2) (s := 18) (want := true) (b := false) hA39 rfl ?_
    intro a40 hA40; clear hA39
    refine sx_val hA40 rfl (ev_pickF (hA40.ev (i := 18) (v := .bool false)) (ec _ (.bool false)) _ rfl) ?_
    intro a41 hA41; clear hA40
    refine sx_val hA41 rfl (ev_assign (hA41.ev (i := 25) (v := .bool false)) _ rfl) ?_
    intro a42 hA42; clear hA41
    refine sx_nil ?_
    refine then_n ?_
    refine wp_ret ?_
    refine bodyPost_ret (rs_t (v := .bool false) Try.results37 hA42 (by kernel_rfl) ) hA42.2.1 ?_
    exact ⟨by rw [show fre ⟨rs, bs⟩ k = false by rw [fre_bk]; simp [hd14]], hbel0⟩
  rw [hd14] at hA13
  refine sx_val (v := .bool true) hA13 rfl (ev_notF (hA13.ev (i := 16) (v := .bool false)) _ rfl) ?_
  intro a15 hA15; clear hA13
  refine sx_val hA15 rfl (ev_move (hA15.ev (i := 17) (v := .bool true)) _ rfl) ?_
  intro a16 hA16; clear hA15
  refine sx_val (hg := (.inr ⟨2, true, 18, rfl, rfl, by kernel_rfl⟩)) hA16 rfl (ev_move (hA16.ev (i := 0) (v := .pointer (some ⟨B, 0, none⟩))) _ rfl) ?_
  intro a17 hA17; clear hA16
  refine sx_val (hg := (.inr ⟨2, true, 18, rfl, rfl, by kernel_rfl⟩)) hA17 rfl (ev_nilCheck (hA17.ev (i := 19) (v := .pointer (some ⟨B, 0, none⟩))) _ rfl) ?_
  intro a18 hA18; clear hA17
  refine sx_val (hg := (.inr ⟨2, true, 18, rfl, rfl, by kernel_rfl⟩)) (v := .pointer (some ⟨B, 2, none⟩)) hA18 rfl (fb_book_2 (hA18.ev (i := 20) (v := .pointer (some ⟨B, 0, none⟩))) _ rfl) ?_
  intro a19 hA19; clear hA18
  refine sx_val (hg := (.inr ⟨2, true, 18, rfl, rfl, by kernel_rfl⟩)) hA19 rfl (ev_move (hA19.ev (i := 1) (v := .int .i64 (k : Int))) _ rfl) ?_
  intro a20 hA20; clear hA19
  cases hd22 : (opm bs k)
  · refine sx_call (f := 44) (args := #[.pointer (some ⟨B, 2, none⟩), .int .i64 (k : Int)]) hA20 rfl (by decide) (.inr ⟨2, true, 18, rfl, rfl, by kernel_rfl⟩) (ev_fn rfl (mp2 (hA20.ev (i := 21) (v := .pointer (some ⟨B, 2, none⟩))) (hA20.ev (i := 22) (v := .int .i64 (k : Int)))) (by kernel_rfl) _ rfl) (has_bk B n M (opm bs) k _ hB.x (by omega)) ?_
    intro e23 w23 hR23
    obtain ⟨he23, hb23⟩ := hR23
    rw [hd22] at he23
    subst he23
    refine ⟨_, rfl, ?_⟩
    intro a23 hA23
    clear hA20
    have hg23 := g0 hb23
    have hs23 := hg23.size
    clear hb23
    refine sx_val (hg := (.inr ⟨2, true, 18, rfl, rfl, by kernel_rfl⟩)) (v := .bool true) hA23 rfl (ev_notF (hA23.ev (i := 23) (v := .bool false)) _ rfl) ?_
    intro a24 hA24; clear hA23
    refine sx_val hA24 rfl (ev_pickT (hA24.ev (i := 18) (v := .bool true)) (hA24.ev (i := 24) (v := .bool true)) _ rfl) ?_
    intro a25 hA25; clear hA24
    refine sx_val hA25 rfl (ev_assign (hA25.ev (i := 25) (v := .bool true)) _ rfl) ?_
    intro a26 hA26; clear hA25
    refine sx_nil ?_
    refine then_n ?_
    refine wp_ret ?_
    refine bodyPost_ret (rs_t (v := .bool true) Try.results37 hA26 (by kernel_rfl) ) hA26.2.1 ?_
    have hbel0_27 := Below.gN hbel0 hg23 hbel0.size
    exact ⟨by rw [show fre ⟨rs, bs⟩ k = true by rw [fre_bk]; simp [hd14, hd22]], hbel0_27⟩
  refine sx_call (f := 44) (args := #[.pointer (some ⟨B, 2, none⟩), .int .i64 (k : Int)]) hA20 rfl (by decide) (.inr ⟨2, true, 18, rfl, rfl, by kernel_rfl⟩) (ev_fn rfl (mp2 (hA20.ev (i := 21) (v := .pointer (some ⟨B, 2, none⟩))) (hA20.ev (i := 22) (v := .int .i64 (k : Int)))) (by kernel_rfl) _ rfl) (has_bk B n M (opm bs) k _ hB.x (by omega)) ?_
  intro e28 w28 hR28
  obtain ⟨he28, hb28⟩ := hR28
  rw [hd22] at he28
  subst he28
  refine ⟨_, rfl, ?_⟩
  intro a28 hA28
  clear hA20
  have hg28 := g0 hb28
  have hs28 := hg28.size
  clear hb28
  refine sx_val (hg := (.inr ⟨2, true, 18, rfl, rfl, by kernel_rfl⟩)) (v := .bool false) hA28 rfl (ev_notT (hA28.ev (i := 23) (v := .bool true)) _ rfl) ?_
  intro a29 hA29; clear hA28
  refine sx_val hA29 rfl (ev_pickT (hA29.ev (i := 18) (v := .bool true)) (hA29.ev (i := 24) (v := .bool false)) _ rfl) ?_
  intro a30 hA30; clear hA29
  refine sx_val hA30 rfl (ev_assign (hA30.ev (i := 25) (v := .bool false)) _ rfl) ?_
  intro a31 hA31; clear hA30
  refine sx_nil ?_
  refine then_n ?_
  refine wp_ret ?_
  refine bodyPost_ret (rs_t (v := .bool false) Try.results37 hA31 (by kernel_rfl) ) hA31.2.1 ?_
  have hbel0_32 := Below.gN hbel0 hg28 hbel0.size
  exact ⟨by rw [show fre ⟨rs, bs⟩ k = false by rw [fre_bk]; simp [hd14, hd22]], hbel0_32⟩

set_option maxHeartbeats 4000000 in
theorem slots_any (w : World) (B M n : Nat) (rs : List Int) (bs : List Bool) (hB : Bks w B M n rs bs) (h1 : 1 ≤ n) (hn : n ≤ 256) (hrn : rs.length = n) (hbn : bs.length = n) : Calls Try.prog 38 #[.pointer (some ⟨B, 0, none⟩)] w (RSl w ⟨rs, bs⟩ id) := by
  have hlB := hB.x.lt
  have hlM := hB.m.lt
  have hbel0 := below0 w
  refine sx_enter (N := 44) [(0, .pointer (some ⟨B, 0, none⟩))] Try.func38 rfl Try.ntmps38 (by simp) (fun a z d s => ((Ag.nil z d).cons (s 0 _ rfl))) ?_
  intro a0 hA0
  refine wp_seq ?_
  refine wp_region_lit ?_
  refine sx_new (cs := #[.slice none 0 0, .slice none 0 0]) (t := 25) hA0 rfl (by decide) (.inl rfl) (ev_alloc (z := .agg (#[.slice none 0 0, .slice none 0 0])) (by kernel_rfl) (by kernel_rfl) _ rfl) ?_
  intro B1 w1 a1 hB1 hx1 hg1 hA1
  clear hA0
  have hs1 := hg1.size
  have hl1 := hx1.lt
  refine sx_nil ?_
  refine then_n ?_
  refine wp_seq ?_
  have hB.x_2 := hB.x.gN hg1
  have hB.m_3 := hB.m.gN hg1
  have hbel0_4 := Below.gN hbel0 hg1 hbel0.size
  refine region_D (n := 13) (by kernel_rfl) (by kernel_rfl) rfl (fun L ac wc => ∃ Am4r1 : Option Addr, ∃ Am9r1 : Option Addr, ∃ N11r1 : Nat, Below w.heap.size w wc ∧ w1.heap.size ≤ wc.heap.size ∧ Bx wc B 56 (bkr n M (opm bs)) ∧ Bx wc B1 25 (#[.slice none 0 0, .slice none 0 0]) ∧ Mp wc M (Value.int .i64) (Value.int .i64) (opf rs) ∧ (L 11 = true → w1.heap.size ≤ N11r1 ∧ Bx wc N11r1 25 (bif L 12 then (#[.slice Am4r1 n n, .slice Am9r1 n n]) else (#[.slice none 0 0, .slice none 0 0]))) ∧ (L 4 = true → Own wc w1.heap.size 3 1 (.slice Am4r1 n n) n (flat iva (List.replicate n (0 : Int)))) ∧ (L 9 = true → Own wc w1.heap.size 4 1 (.slice Am9r1 n n) n (flat bva (List.replicate n false))) ∧ (L 12 = true → L 11 = true) ∧ (L 10 = true → L 4 = true) ∧ (L 12 = true → L 4 = true) ∧ (L 10 = true → L 9 = true) ∧ (L 12 = true → L 9 = true) ∧ (L 0 = true → Sv ac 5 (.pointer (some ⟨B, 0, none⟩))) ∧ (L 1 = true → Sv ac 6 (.pointer (some ⟨B, 0, none⟩))) ∧ (L 2 = true → Sv ac 7 (.pointer (some ⟨B, 0, none⟩))) ∧ (L 3 = true → Sv ac 8 (.int .i64 (n : Int))) ∧ (L 4 = true → Sv ac 9 (.slice Am4r1 n n)) ∧ (L 5 = true → Sv ac 10 (.pointer (some ⟨B, 0, none⟩))) ∧ (L 6 = true → Sv ac 11 (.pointer (some ⟨B, 0, none⟩))) ∧ (L 7 = true → Sv ac 12 (.pointer (some ⟨B, 0, none⟩))) ∧ (L 8 = true → Sv ac 13 (.int .i64 (n : Int))) ∧ (L 9 = true → Sv ac 14 (.slice Am9r1 n n)) ∧ (L 10 = true → Sv ac 15 (.agg #[.slice Am4r1 n n, .slice Am9r1 n n])) ∧ (L 11 = true → Sv ac 3 (.pointer (some ⟨N11r1, 0, none⟩)))) ⟨none, none, 0, (Below.gN hbel0_4 (gdr _) hbel0_4.size), (Nat.le_refl _), (hB.x_2.gN (gdr _)), (hx1.gN (gdr _)), (hB.m_3.gN (gdr _)), (fun h => by cases h), (fun h => by cases h), (fun h => by cases h), (fun h => by cases h), (fun h => by cases h), (fun h => by cases h), (fun h => by cases h), (fun h => by cases h), (fun h => by cases h), (fun h => by cases h), (fun h => by cases h), (fun h => by cases h), (fun h => by cases h), (fun h => by cases h), (fun h => by cases h), (fun h => by cases h), (fun h => by cases h), (fun h => by cases h), (fun h => by cases h), (fun h => by cases h)⟩ ?_ ?_
  · intro iq hiq o ho L hL hdep ac wc hF hJ
    obtain ⟨Am4r1, Am9r1, N11r1, bl, sz, b_B, b_B1, m_M, n_N11r1, a_4, a_9, cl_12_11, cl_10_4, cl_12_4, cl_10_9, cl_12_9, s_5, s_6, s_7, s_8, s_9, s_10, s_11, s_12, s_13, s_14, s_15, s_3⟩ := hJ
    have zq := hF.1.trans hA1.1
    match iq, hiq with
    | 0, _ =>
      obtain rfl := Option.some.inj (show some _ = some o from ho); clear ho
      have v0 := hF.sv (s := 0) (by kernel_rfl) (hA1.get (i := 0) (v := .pointer (some ⟨B, 0, none⟩)))
      refine dj_val (i := 0) (v := .pointer (some ⟨B, 0, none⟩)) rfl (.inl rfl) (ev_move v0.eval _ rfl) ?_
      exact ⟨⟨_, rfl⟩, Am4r1, Am9r1, N11r1, bl, sz, b_B, b_B1, m_M, n_N11r1, a_4, a_9, cl_12_11, cl_10_4, cl_12_4, cl_10_9, cl_12_9, (fun _ => Sv.self (by rw [zq]; decide) _), (so s_6), (so s_7), (so s_8), (so s_9), (so s_10), (so s_11), (so s_12), (so s_13), (so s_14), (so s_15), (so s_3)⟩
    | 1, _ =>
      obtain rfl := Option.some.inj (show some _ = some o from ho); clear ho
      have v5 := s_5 (dp hdep 0)
      refine dj_val (i := 1) (v := .pointer (some ⟨B, 0, none⟩)) rfl (.inl rfl) (ev_nilCheck v5.eval _ rfl) ?_
      exact ⟨⟨_, rfl⟩, Am4r1, Am9r1, N11r1, bl, sz, b_B, b_B1, m_M, n_N11r1, a_4, a_9, cl_12_11, cl_10_4, cl_12_4, cl_10_9, cl_12_9, (so s_5), (fun _ => Sv.self (by rw [zq]; decide) _), (so s_7), (so s_8), (so s_9), (so s_10), (so s_11), (so s_12), (so s_13), (so s_14), (so s_15), (so s_3)⟩
    | 2, _ =>
      obtain rfl := Option.some.inj (show some _ = some o from ho); clear ho
      have v6 := s_6 (dp hdep 1)
      refine dj_val (i := 2) (v := .pointer (some ⟨B, 0, none⟩)) rfl (.inl rfl) (fb_book_0 v6.eval _ rfl) ?_
      exact ⟨⟨_, rfl⟩, Am4r1, Am9r1, N11r1, bl, sz, b_B, b_B1, m_M, n_N11r1, a_4, a_9, cl_12_11, cl_10_4, cl_12_4, cl_10_9, cl_12_9, (so s_5), (so s_6), (fun _ => Sv.self (by rw [zq]; decide) _), (so s_8), (so s_9), (so s_10), (so s_11), (so s_12), (so s_13), (so s_14), (so s_15), (so s_3)⟩
    | 3, _ =>
      obtain rfl := Option.some.inj (show some _ = some o from ho); clear ho
      have v7 := s_7 (dp hdep 2)
      refine dj_val (i := 3) (v := .int .i64 (n : Int)) rfl (.inl rfl) (ev_cell (v := .int .i64 (n : Int)) v7.eval ((b_B.cell 0).trans rfl) Try.underlying3 rfl _ rfl) ?_
      exact ⟨⟨_, rfl⟩, Am4r1, Am9r1, N11r1, bl, sz, b_B, b_B1, m_M, n_N11r1, a_4, a_9, cl_12_11, cl_10_4, cl_12_4, cl_10_9, cl_12_9, (so s_5), (so s_6), (so s_7), (fun _ => Sv.self (by rw [zq]; decide) _), (so s_9), (so s_10), (so s_11), (so s_12), (so s_13), (so s_14), (so s_15), (so s_3)⟩
    | 4, _ =>
      obtain rfl := Option.some.inj (show some _ = some o from ho); clear ho
      have v8 := s_8 (dp hdep 3)
      have e1 := v8.eval
      have e2 := v8.eval
      obtain ⟨Am4r1, wq2, hrun, hown, hg⟩ := run_mk (w := wc) (va := iva) (x0 := (0 : Int)) (n := n) (z := .int .i64 0) (size := 1) (bytes := 8) (P := Try.prog) (m := (n : Int)) (m2 := (n : Int)) (by omega) (by omega) Try.underlying22 (by kernel_rfl) rfl iva_sz (by decide) (by omega) (by omega)
      replace hown : Own wq2 w1.heap.size 3 1 (.slice Am4r1 n n) n (flat iva (List.replicate n (0 : Int))) := Own.mono hown sz
      refine dj_val (i := 4) (v := .slice Am4r1 n n) (w' := wq2) rfl (.inl rfl) (by simp only [execOp, e1, e2, Sem.run_bind, hrun, Result.andThen_ok, Sem.run_pure]) ?_
      exact ⟨⟨_, rfl⟩, Am4r1, Am9r1, N11r1, (Below.gN bl hg bl.size), (Nat.le_trans sz hg.size), (b_B.gN hg), (b_B1.gN hg), (m_M.gN hg), (fun h => ⟨(n_N11r1 h).1, by
          have e0 : L 12 = false := by
            cases hc : L 12
            · rfl
            · exact absurd (cl_12_4 hc) (by rw [hL]; decide)
          have h0 := (n_N11r1 h).2.gN hg
          rw [e0] at h0
          show Bx _ _ _ (bif L 12 then _ else _)
          rw [e0]
          exact h0⟩), (fun _ => hown), (fun h => Own.gN (a_9 h) hg), cl_12_11, (fun _ => rfl), (fun _ => rfl), cl_10_9, cl_12_9, (so s_5), (so s_6), (so s_7), (so s_8), (fun _ => Sv.self (by rw [zq]; decide) _), (so s_10), (so s_11), (so s_12), (so s_13), (so s_14), (fun h => absurd (cl_10_4 h) (by rw [hL]; decide)), (so s_3)⟩
    | 5, _ =>
      obtain rfl := Option.some.inj (show some _ = some o from ho); clear ho
      have v0 := hF.sv (s := 0) (by kernel_rfl) (hA1.get (i := 0) (v := .pointer (some ⟨B, 0, none⟩)))
      refine dj_val (i := 5) (v := .pointer (some ⟨B, 0, none⟩)) rfl (.inl rfl) (ev_move v0.eval _ rfl) ?_
      exact ⟨⟨_, rfl⟩, Am4r1, Am9r1, N11r1, bl, sz, b_B, b_B1, m_M, n_N11r1, a_4, a_9, cl_12_11, cl_10_4, cl_12_4, cl_10_9, cl_12_9, (so s_5), (so s_6), (so s_7), (so s_8), (so s_9), (fun _ => Sv.self (by rw [zq]; decide) _), (so s_11), (so s_12), (so s_13), (so s_14), (so s_15), (so s_3)⟩
    | 6, _ =>
      obtain rfl := Option.some.inj (show some _ = some o from ho); clear ho
      have v10 := s_10 (dp hdep 5)
      refine dj_val (i := 6) (v := .pointer (some ⟨B, 0, none⟩)) rfl (.inl rfl) (ev_nilCheck v10.eval _ rfl) ?_
      exact ⟨⟨_, rfl⟩, Am4r1, Am9r1, N11r1, bl, sz, b_B, b_B1, m_M, n_N11r1, a_4, a_9, cl_12_11, cl_10_4, cl_12_4, cl_10_9, cl_12_9, (so s_5), (so s_6), (so s_7), (so s_8), (so s_9), (so s_10), (fun _ => Sv.self (by rw [zq]; decide) _), (so s_12), (so s_13), (so s_14), (so s_15), (so s_3)⟩
    | 7, _ =>
      obtain rfl := Option.some.inj (show some _ = some o from ho); clear ho
      have v11 := s_11 (dp hdep 6)
      refine dj_val (i := 7) (v := .pointer (some ⟨B, 0, none⟩)) rfl (.inl rfl) (fb_book_0 v11.eval _ rfl) ?_
      exact ⟨⟨_, rfl⟩, Am4r1, Am9r1, N11r1, bl, sz, b_B, b_B1, m_M, n_N11r1, a_4, a_9, cl_12_11, cl_10_4, cl_12_4, cl_10_9, cl_12_9, (so s_5), (so s_6), (so s_7), (so s_8), (so s_9), (so s_10), (so s_11), (fun _ => Sv.self (by rw [zq]; decide) _), (so s_13), (so s_14), (so s_15), (so s_3)⟩
    | 8, _ =>
      obtain rfl := Option.some.inj (show some _ = some o from ho); clear ho
      have v12 := s_12 (dp hdep 7)
      refine dj_val (i := 8) (v := .int .i64 (n : Int)) rfl (.inl rfl) (ev_cell (v := .int .i64 (n : Int)) v12.eval ((b_B.cell 0).trans rfl) Try.underlying3 rfl _ rfl) ?_
      exact ⟨⟨_, rfl⟩, Am4r1, Am9r1, N11r1, bl, sz, b_B, b_B1, m_M, n_N11r1, a_4, a_9, cl_12_11, cl_10_4, cl_12_4, cl_10_9, cl_12_9, (so s_5), (so s_6), (so s_7), (so s_8), (so s_9), (so s_10), (so s_11), (so s_12), (fun _ => Sv.self (by rw [zq]; decide) _), (so s_14), (so s_15), (so s_3)⟩
    | 9, _ =>
      obtain rfl := Option.some.inj (show some _ = some o from ho); clear ho
      have v13 := s_13 (dp hdep 8)
      have e1 := v13.eval
      have e2 := v13.eval
      obtain ⟨Am9r1, wq2, hrun, hown, hg⟩ := run_mk (w := wc) (va := bva) (x0 := false) (n := n) (z := .bool false) (size := 1) (bytes := 1) (P := Try.prog) (m := (n : Int)) (m2 := (n : Int)) (by omega) (by omega) Try.underlying23 (by kernel_rfl) rfl bva_sz (by decide) (by omega) (by omega)
      replace hown : Own wq2 w1.heap.size 4 1 (.slice Am9r1 n n) n (flat bva (List.replicate n false)) := Own.mono hown sz
      refine dj_val (i := 9) (v := .slice Am9r1 n n) (w' := wq2) rfl (.inl rfl) (by simp only [execOp, e1, e2, Sem.run_bind, hrun, Result.andThen_ok, Sem.run_pure]) ?_
      exact ⟨⟨_, rfl⟩, Am4r1, Am9r1, N11r1, (Below.gN bl hg bl.size), (Nat.le_trans sz hg.size), (b_B.gN hg), (b_B1.gN hg), (m_M.gN hg), (fun h => ⟨(n_N11r1 h).1, by
          have e0 : L 12 = false := by
            cases hc : L 12
            · rfl
            · exact absurd (cl_12_9 hc) (by rw [hL]; decide)
          have h0 := (n_N11r1 h).2.gN hg
          rw [e0] at h0
          show Bx _ _ _ (bif L 12 then _ else _)
          rw [e0]
          exact h0⟩), (fun h => Own.gN (a_4 h) hg), (fun _ => hown), cl_12_11, cl_10_4, cl_12_4, (fun _ => rfl), (fun _ => rfl), (so s_5), (so s_6), (so s_7), (so s_8), (so s_9), (so s_10), (so s_11), (so s_12), (so s_13), (fun _ => Sv.self (by rw [zq]; decide) _), (fun h => absurd (cl_10_9 h) (by rw [hL]; decide)), (so s_3)⟩
    | 10, _ =>
      obtain rfl := Option.some.inj (show some _ = some o from ho); clear ho
      have v9 := s_9 (dp hdep 4)
      have v14 := s_14 (dp hdep 9)
      refine dj_val (i := 10) (v := .agg #[.slice Am4r1 n n, .slice Am9r1 n n]) rfl (.inl rfl) (bd_Slots_0_1 v9.eval v14.eval _ rfl) ?_
      exact ⟨⟨_, rfl⟩, Am4r1, Am9r1, N11r1, bl, sz, b_B, b_B1, m_M, n_N11r1, a_4, a_9, cl_12_11, (fun _ => dp hdep 4), cl_12_4, (fun _ => dp hdep 9), cl_12_9, (so s_5), (so s_6), (so s_7), (so s_8), (so s_9), (so s_10), (so s_11), (so s_12), (so s_13), (so s_14), (fun _ => Sv.self (by rw [zq]; decide) _), (so s_3)⟩
    | 11, _ =>
      obtain rfl := Option.some.inj (show some _ = some o from ho); clear ho
      refine dj_val (i := 11) rfl (.inl rfl) (w' := wc.alloc (.cells (#[.slice none 0 0, .slice none 0 0]) 25)) (v := .pointer (some ⟨wc.heap.size, 0, none⟩)) (ev_alloc (z := .agg (#[.slice none 0 0, .slice none 0 0])) (by kernel_rfl) (by kernel_rfl) _ rfl) ?_
      have hx := Bx.new wc 25 (#[.slice none 0 0, .slice none 0 0])
      have hg := g0 (al wc (.cells (#[.slice none 0 0, .slice none 0 0]) 25))
      have e0 : L 12 = false := by
        cases hc : L 12
        · rfl
        · exact absurd (cl_12_11 hc) (by rw [hL]; decide)
      replace hx : Bx (wc.alloc (.cells (#[.slice none 0 0, .slice none 0 0]) 25)) wc.heap.size 25 (bif L 12 then (#[.slice Am4r1 n n, .slice Am9r1 n n]) else (#[.slice none 0 0, .slice none 0 0])) := by rw [e0]; exact hx
      exact ⟨⟨_, rfl⟩, Am4r1, Am9r1, wc.heap.size, (Below.gN bl hg bl.size), (Nat.le_trans sz hg.size), (b_B.gN hg), (b_B1.gN hg), (m_M.gN hg), (fun _ => ⟨sz, hx⟩), (fun h => Own.gN (a_4 h) hg), (fun h => Own.gN (a_9 h) hg), (fun _ => rfl), cl_10_4, cl_12_4, cl_10_9, cl_12_9, (so s_5), (so s_6), (so s_7), (so s_8), (so s_9), (so s_10), (so s_11), (so s_12), (so s_13), (so s_14), (so s_15), (fun _ => Sv.self (by rw [zq]; decide) _)⟩
    | 12, _ =>
      obtain rfl := Option.some.inj (show some _ = some o from ho); clear ho
      have v3 := s_3 (dp hdep 11)
      have v15 := s_15 (dp hdep 10)
      have xN11r1 := (n_N11r1 (dp hdep 11)).2
      rw [hL] at xN11r1
      refine dj_skip (i := 12) rfl rfl (.inl rfl) (w' := wc.setRow N11r1 (#[.slice Am4r1 n n, .slice Am9r1 n n])) (ev_srow v3.eval v15.eval xN11r1 (n := 2) (by kernel_rfl) rfl rfl (by simp [Value.oneCell']) _ rfl) ?_
      have hg := grw xN11r1 (#[.slice Am4r1 n n, .slice Am9r1 n n])
      have hx := xN11r1.row (#[.slice Am4r1 n n, .slice Am9r1 n n])
      exact ⟨⟨undef, rfl⟩, Am4r1, Am9r1, N11r1, (Below.gB bl hg bl.size (by have := (n_N11r1 (dp hdep 11)).1; omega)), (Nat.le_trans sz hg.size), (b_B.gB hg (by have := (n_N11r1 (dp hdep 11)).1; omega)), (b_B1.gB hg (by have := (n_N11r1 (dp hdep 11)).1; omega)), (m_M.gB hg (by have := (n_N11r1 (dp hdep 11)).1; omega)), (fun h => ⟨(n_N11r1 h).1, hx⟩), (fun h => Own.gBT (a_4 h) hg xN11r1 (by decide)), (fun h => Own.gBT (a_9 h) hg xN11r1 (by decide)), (fun _ => dp hdep 11), cl_10_4, (fun _ => cl_10_4 (dp hdep 10)), cl_10_9, (fun _ => cl_10_9 (dp hdep 10)), s_5, s_6, s_7, s_8, s_9, s_10, s_11, s_12, s_13, s_14, s_15, s_3⟩
    | k + 13, h => exact absurd h (by omega)
  · intro L hall ac5 wc5 hF hJ
    obtain ⟨Am4r1, Am9r1, N11r1, bl, sz, b_B, b_B1, m_M, n_N11r1, a_4, a_9, cl_12_11, cl_10_4, cl_12_4, cl_10_9, cl_12_9, s_5, s_6, s_7, s_8, s_9, s_10, s_11, s_12, s_13, s_14, s_15, s_3⟩ := hJ
    have hA5 : Ag ac5 44 [(0, .pointer (some ⟨B, 0, none⟩)), (2, .pointer (some ⟨B1, 0, none⟩)), (3, .pointer (some ⟨N11r1, 0, none⟩))] := ((((Ag.nil (hF.1.trans hA1.1) (hF.2.1.trans hA1.2.1)).cons (s_3 (hall 11 (by decide)))).cons (hF.sv (s := 2) (by kernel_rfl) (hA1.get (i := 2) (v := .pointer (some ⟨B1, 0, none⟩))))).cons (hF.sv (s := 0) (by kernel_rfl) (hA1.get (i := 0) (v := .pointer (some ⟨B, 0, none⟩)))))
    have bl5 := bl
    have sz5 := sz
    have b5_B := b_B
    have b5_B1 := b_B1
    have m5_M := m_M
    have n5_N11r1 := (n_N11r1 (hall 11 (by decide))).1
    have b5_N11r1 : Bx wc5 N11r1 25 (#[.slice Am4r1 n n, .slice Am9r1 n n]) := by
      have h := (n_N11r1 (hall 11 (by decide))).2
      rw [hall 12 (by decide)] at h
      exact h
    have l5_N11r1 := b5_N11r1.lt
    have a5_4 := a_4 (hall 4 (by decide))
    have hha5_4 := Own.hi a5_4
    have a5_9 := a_9 (hall 9 (by decide))
    have hha5_9 := Own.hi a5_9
    clear hF bl sz b_B b_B1 m_M n_N11r1 a_4 a_9 cl_12_11 cl_10_4 cl_12_4 cl_10_9 cl_12_9 s_5 s_6 s_7 s_8 s_9 s_10 s_11 s_12 s_13 s_14 s_15 s_3 hall hA1
    refine then_n ?_
    refine wp_seq ?_
    refine wp_seq ?_
    refine wp_region_lit ?_
    refine sx_val hA5 rfl (ev_move (hA5.ev (i := 0) (v := .pointer (some ⟨B, 0, none⟩))) _ rfl) ?_
    intro a6 hA6; clear hA5
    refine sx_val hA6 rfl (ev_nilCheck (hA6.ev (i := 16) (v := .pointer (some ⟨B, 0, none⟩))) _ rfl) ?_
    intro a7 hA7; clear hA6
    refine sx_val (v := .pointer (some ⟨B, 0, none⟩)) hA7 rfl (fb_book_0 (hA7.ev (i := 17) (v := .pointer (some ⟨B, 0, none⟩))) _ rfl) ?_
    intro a8 hA8; clear hA7
    refine sx_val (v := .int .i64 (n : Int)) hA8 rfl (ev_cell (v := .int .i64 (n : Int)) (hA8.ev (i := 18) (v := .pointer (some ⟨B, 0, none⟩))) ((b5_B.cell 0).trans rfl) Try.underlying3 rfl _ rfl) ?_
    intro a9 hA9; clear hA8
    refine sx_val hA9 rfl (ev_move (ec _ (.int .i64 0)) _ rfl) ?_
    intro a10 hA10; clear hA9
    refine sx_nil ?_
    refine then_n ?_
    refine wp_block ?_
    obtain ⟨gx11, ox11, hxe11, -, -, -⟩ := Own.cells a5_4 (by omega)
    subst hxe11
    obtain ⟨gx12, ox12, hxe12, -, -, -⟩ := Own.cells a5_9 (by omega)
    subst hxe12
    refine wp_loop_ghost (fun gz a wl => ∃ (k : Nat), gz = n - k ∧ Ag a 44 [(0, .pointer (some ⟨B, 0, none⟩)), (2, .pointer (some ⟨B1, 0, none⟩)), (3, .pointer (some ⟨N11r1, 0, none⟩)), (19, .int .i64 (n : Int)), (20, .int .i64 (k : Int))] ∧ k ≤ n ∧ Bx wl B 56 (bkr n M (opm bs)) ∧ Bx wl B1 25 #[.slice none 0 0, .slice none 0 0] ∧ Bx wl N11r1 25 #[.slice (some ⟨gx11, ox11, none⟩) n n, .slice (some ⟨gx12, ox12, none⟩) n n] ∧ Mp wl M (Value.int .i64) (Value.int .i64) (opf rs) ∧ Own wl (w1.heap.size) 3 1 (.slice (some ⟨gx11, ox11, none⟩) n n) n (flat iva (fil rs 0 n k)) ∧ Own wl (w1.heap.size) 4 1 (.slice (some ⟨gx12, ox12, none⟩) n n) n (flat bva (fil bs false n k)) ∧ wc5.heap.size ≤ wl.heap.size ∧ Below w.heap.size w wl) (n - 0) ⟨0, rfl, ((((((Ag.nil hA10.1 hA10.2.1).cons (hA10.get (i := 20) (v := .int .i64 0))).cons (hA10.get (i := 19) (v := .int .i64 (n : Int)))).cons (hA10.get (i := 3) (v := .pointer (some ⟨N11r1, 0, none⟩)))).cons (hA10.get (i := 2) (v := .pointer (some ⟨B1, 0, none⟩)))).cons (hA10.get (i := 0) (v := .pointer (some ⟨B, 0, none⟩)))), Nat.zero_le _, b5_B, b5_B1, b5_N11r1, m5_M, (by rw [← fil_zero]; exact a5_4), (by rw [← fil_zero]; exact a5_9), Nat.le_refl _, bl5⟩ ?_
    intro n13 a13 w13 hI13
    obtain ⟨k, hn13, hA13, q13_0, f13_0, f13_1, f13_2, f13_3, f13_4, f13_5, hsz13, hbel13⟩ := hI13
    subst hn13
    clear hA10
    have hlB_13 := f13_0.lt
    have hlB1_13 := f13_1.lt
    have hlN11r1_13 := f13_2.lt
    have hlM_13 := f13_3.lt
    have hh13_0 := Own.hi f13_4
    have hh13_1 := Own.hi f13_5
    cases hd14 : decide ((k : Int) < (n : Int))
    · have hp14 := of_decide_eq_false hd14
      refine wp_seq ?_
      refine wp_region_lit ?_
      refine sx_val (v := .bool false) hA13 rfl (ev_lssB (k := .i64) (m := (k : Int)) (n := (n : Int)) (hA13.ev (i := 20)) (hA13.ev (i := 19)) hd14 _ rfl) ?_
      intro a15 hA15; clear hA13
      refine sx_nil ?_
      refine then_n ?_
      refine wp_seq ?_
      refine wp_cond_false (hA15.ev (i := 21) (v := .bool false)) ?_
      refine wp_exit ?_
      refine then_x ?_
      refine then_x ?_
      refine blk_hit ?_
      refine then_n ?_
      refine wp_seq ?_
      refine wp_region_lit ?_
      refine sx_val (v := .agg #[.slice (some ⟨gx11, ox11, none⟩) n n, .slice (some ⟨gx12, ox12, none⟩) n n]) hA15 rfl (ev_row (hA15.ev (i := 3) (v := .pointer (some ⟨N11r1, 0, none⟩))) f13_2 Try.underlying25 rfl (n := 2) (by kernel_rfl) rfl _ rfl) ?_
      intro a16 hA16; clear hA15
      refine sx_store hA16 rfl (.inl rfl) rfl (hA16.ev (i := 2) (v := .pointer (some ⟨B1, 0, none⟩))) (hA16.ev (i := 43) (v := .agg #[.slice (some ⟨gx11, ox11, none⟩) n n, .slice (some ⟨gx12, ox12, none⟩) n n])) f13_1 (by kernel_rfl) rfl (by simp [Value.oneCell']) ?_
      intro w17 hx17 hg17
      have hs17 := hg17.size
      refine sx_nil ?_
      refine then_n ?_
      refine wp_ret ?_
      refine bodyPost_ret (rs_c  Try.results38 hA16 (by kernel_rfl) hx17 Try.underlying25 rfl (by kernel_rfl)) hA16.2.1 ?_
      have f13_18 := Own.gBT f13_4 hg17 f13_1 (by decide)
      have f13_19 := Own.gBT f13_5 hg17 f13_1 (by decide)
      have hbel13_20 := Below.gB hbel13 hg17 hbel13.size (by omega)
      have hkn : k = n := by omega
      have e1 : fil rs 0 n k = rs := by rw [hkn]; exact fil_all hrn
      have e2 : fil bs false n k = bs := by rw [hkn]; exact fil_all hbn
      rw [e1] at f13_18
      rw [e2] at f13_19
      refine ⟨(some ⟨gx11, ox11, none⟩), n, (some ⟨gx12, ox12, none⟩), n, ?_, ?_, ?_, hbel13_20⟩
      · show Ending.returned _ = .returned (.agg #[.slice _ rs.length _, .slice _ bs.length _]); rw [hrn, hbn]
      · show Own _ _ _ _ (.slice _ rs.length _) rs.length _; rw [hrn]; exact Own.mono f13_18 (by omega)
      · show Own _ _ _ _ (.slice _ bs.length _) bs.length _; rw [hbn]; exact Own.mono f13_19 (by omega)
    have hp14 := of_decide_eq_true hd14
    obtain ⟨x, hx⟩ : ∃ x, rs[k]? = some x := ⟨_, List.getElem?_eq_getElem (by omega)⟩
    obtain ⟨y, hy⟩ : ∃ y, bs[k]? = some y := ⟨_, List.getElem?_eq_getElem (by omega)⟩
    have hyb : bs[k]? = some (opm bs k) := by simp [opm, hy]
    refine wp_seq ?_
    refine wp_region_lit ?_
    refine sx_val (v := .bool true) hA13 rfl (ev_lssB (k := .i64) (m := (k : Int)) (n := (n : Int)) (hA13.ev (i := 20)) (hA13.ev (i := 19)) hd14 _ rfl) ?_
    intro a21 hA21; clear hA13
    refine sx_nil ?_
    refine then_n ?_
    refine wp_seq ?_
    refine wp_cond_true (hA21.ev (i := 21) (v := .bool true)) ?_
    refine wp_skip ?_
    refine then_n ?_
    refine wp_seq ?_
    refine wp_block ?_
    refine wp_seq ?_
    refine wp_region_lit ?_
    refine sx_val hA21 rfl (ev_move (hA21.ev (i := 20) (v := .int .i64 (k : Int))) _ rfl) ?_
    intro a22 hA22; clear hA21
    refine sx_val hA22 rfl (ev_assign (hA22.ev (i := 22) (v := .int .i64 (k : Int))) _ rfl) ?_
    intro a23 hA23; clear hA22
    refine sx_nil ?_
    refine then_n ?_
    refine wp_seq ?_
    refine region_D (n := 11) (by kernel_rfl) (by kernel_rfl) rfl (fun L ac wc => Below w.heap.size w wc ∧ w13.heap.size ≤ wc.heap.size ∧ Bx wc B 56 (bkr n M (opm bs)) ∧ Bx wc B1 25 (#[.slice none 0 0, .slice none 0 0]) ∧ Bx wc N11r1 25 (#[.slice (some ⟨gx11, ox11, none⟩) n n, .slice (some ⟨gx12, ox12, none⟩) n n]) ∧ (L 10 = false → Own wc (w1.heap.size) 3 1 (.slice (some ⟨gx11, ox11, none⟩) n n) n (flat iva (fil rs 0 n k))) ∧ Own wc (w1.heap.size) 4 1 (.slice (some ⟨gx12, ox12, none⟩) n n) n (flat bva (fil bs false n k)) ∧ Mp wc M (Value.int .i64) (Value.int .i64) (opf rs) ∧ (L 10 = true → Own wc (w1.heap.size) 3 1 (.slice (some ⟨gx11, ox11, none⟩) n n) n (flat iva ((fil rs 0 n k).set k x))) ∧ (L 0 = true → Sv ac 23 (.pointer (some ⟨N11r1, 0, none⟩))) ∧ (L 1 = true → Sv ac 24 (.slice (some ⟨gx11, ox11, none⟩) n n)) ∧ (L 2 = true → Sv ac 25 (.int .i64 (k : Int))) ∧ (L 3 = true → Sv ac 26 (.pointer (some ⟨B, 0, none⟩))) ∧ (L 4 = true → Sv ac 27 (.pointer (some ⟨B, 0, none⟩))) ∧ (L 5 = true → Sv ac 28 (.pointer (some ⟨B, 1, none⟩))) ∧ (L 6 = true → Sv ac 29 (.map (some M))) ∧ (L 7 = true → Sv ac 30 (.int .i64 (k : Int))) ∧ (L 8 = true → Sv ac 31 (.int .i64 x)) ∧ (L 9 = true → Sv ac 32 (.pointer (some ((⟨gx11, ox11, none⟩ : Addr).add (k * 1)))))) ⟨(Below.gN hbel13 (gdr _) hbel13.size), (Nat.le_refl _), (f13_0.gN (gdr _)), (f13_1.gN (gdr _)), (f13_2.gN (gdr _)), (fun _ => Own.gN f13_4 (gdr _)), (Own.gN f13_5 (gdr _)), (f13_3.gN (gdr _)), (fun h => by cases h), (fun h => by cases h), (fun h => by cases h), (fun h => by cases h), (fun h => by cases h), (fun h => by cases h), (fun h => by cases h), (fun h => by cases h), (fun h => by cases h), (fun h => by cases h), (fun h => by cases h)⟩ ?_ ?_
    · intro iq hiq o ho L hL hdep ac wc hF hJ
      obtain ⟨bl, sz, b_B, b_B1, b_N11r1, p_0, p_1, m_M, a_10, s_23, s_24, s_25, s_26, s_27, s_28, s_29, s_30, s_31, s_32⟩ := hJ
      have zq := hF.1.trans hA23.1
      match iq, hiq with
      | 0, _ =>
        obtain rfl := Option.some.inj (show some _ = some o from ho); clear ho
        have v3 := hF.sv (s := 3) (by kernel_rfl) (hA23.get (i := 3) (v := .pointer (some ⟨N11r1, 0, none⟩)))
        refine dj_val (i := 0) (v := .pointer (some ⟨N11r1, 0, none⟩)) rfl (.inl rfl) (fb_Slots_0 v3.eval _ rfl) ?_
        exact ⟨⟨_, rfl⟩, bl, sz, b_B, b_B1, b_N11r1, p_0, p_1, m_M, a_10, (fun _ => Sv.self (by rw [zq]; decide) _), (so s_24), (so s_25), (so s_26), (so s_27), (so s_28), (so s_29), (so s_30), (so s_31), (so s_32)⟩
      | 1, _ =>
        obtain rfl := Option.some.inj (show some _ = some o from ho); clear ho
        have v23 := s_23 (dp hdep 0)
        refine dj_val (i := 1) (v := .slice (some ⟨gx11, ox11, none⟩) n n) rfl (.inl rfl) (ev_cell (v := .slice (some ⟨gx11, ox11, none⟩) n n) v23.eval ((b_N11r1.cell 0).trans rfl) Try.underlying22 rfl _ rfl) ?_
        exact ⟨⟨_, rfl⟩, bl, sz, b_B, b_B1, b_N11r1, p_0, p_1, m_M, a_10, (so s_23), (fun _ => Sv.self (by rw [zq]; decide) _), (so s_25), (so s_26), (so s_27), (so s_28), (so s_29), (so s_30), (so s_31), (so s_32)⟩
      | 2, _ =>
        obtain rfl := Option.some.inj (show some _ = some o from ho); clear ho
        have v4 := hF.sv (s := 4) (by kernel_rfl) (hA23.get (i := 4) (v := .int .i64 (k : Int)))
        refine dj_val (i := 2) (v := .int .i64 (k : Int)) rfl (.inl rfl) (ev_move v4.eval _ rfl) ?_
        exact ⟨⟨_, rfl⟩, bl, sz, b_B, b_B1, b_N11r1, p_0, p_1, m_M, a_10, (so s_23), (so s_24), (fun _ => Sv.self (by rw [zq]; decide) _), (so s_26), (so s_27), (so s_28), (so s_29), (so s_30), (so s_31), (so s_32)⟩
      | 3, _ =>
        obtain rfl := Option.some.inj (show some _ = some o from ho); clear ho
        have v0 := hF.sv (s := 0) (by kernel_rfl) (hA23.get (i := 0) (v := .pointer (some ⟨B, 0, none⟩)))
        refine dj_val (i := 3) (v := .pointer (some ⟨B, 0, none⟩)) rfl (.inl rfl) (ev_move v0.eval _ rfl) ?_
        exact ⟨⟨_, rfl⟩, bl, sz, b_B, b_B1, b_N11r1, p_0, p_1, m_M, a_10, (so s_23), (so s_24), (so s_25), (fun _ => Sv.self (by rw [zq]; decide) _), (so s_27), (so s_28), (so s_29), (so s_30), (so s_31), (so s_32)⟩
      | 4, _ =>
        obtain rfl := Option.some.inj (show some _ = some o from ho); clear ho
        have v26 := s_26 (dp hdep 3)
        refine dj_val (i := 4) (v := .pointer (some ⟨B, 0, none⟩)) rfl (.inl rfl) (ev_nilCheck v26.eval _ rfl) ?_
        exact ⟨⟨_, rfl⟩, bl, sz, b_B, b_B1, b_N11r1, p_0, p_1, m_M, a_10, (so s_23), (so s_24), (so s_25), (so s_26), (fun _ => Sv.self (by rw [zq]; decide) _), (so s_28), (so s_29), (so s_30), (so s_31), (so s_32)⟩
      | 5, _ =>
        obtain rfl := Option.some.inj (show some _ = some o from ho); clear ho
        have v27 := s_27 (dp hdep 4)
        refine dj_val (i := 5) (v := .pointer (some ⟨B, 1, none⟩)) rfl (.inl rfl) (fb_book_1 v27.eval _ rfl) ?_
        exact ⟨⟨_, rfl⟩, bl, sz, b_B, b_B1, b_N11r1, p_0, p_1, m_M, a_10, (so s_23), (so s_24), (so s_25), (so s_26), (so s_27), (fun _ => Sv.self (by rw [zq]; decide) _), (so s_29), (so s_30), (so s_31), (so s_32)⟩
      | 6, _ =>
        obtain rfl := Option.some.inj (show some _ = some o from ho); clear ho
        have v28 := s_28 (dp hdep 5)
        refine dj_val (i := 6) (v := .map (some M)) rfl (.inl rfl) (ev_cell (v := .map (some M)) v28.eval ((b_B.cell 1).trans rfl) Try.underlying51 rfl _ rfl) ?_
        exact ⟨⟨_, rfl⟩, bl, sz, b_B, b_B1, b_N11r1, p_0, p_1, m_M, a_10, (so s_23), (so s_24), (so s_25), (so s_26), (so s_27), (so s_28), (fun _ => Sv.self (by rw [zq]; decide) _), (so s_30), (so s_31), (so s_32)⟩
      | 7, _ =>
        obtain rfl := Option.some.inj (show some _ = some o from ho); clear ho
        have v4 := hF.sv (s := 4) (by kernel_rfl) (hA23.get (i := 4) (v := .int .i64 (k : Int)))
        refine dj_val (i := 7) (v := .int .i64 (k : Int)) rfl (.inl rfl) (ev_move v4.eval _ rfl) ?_
        exact ⟨⟨_, rfl⟩, bl, sz, b_B, b_B1, b_N11r1, p_0, p_1, m_M, a_10, (so s_23), (so s_24), (so s_25), (so s_26), (so s_27), (so s_28), (so s_29), (fun _ => Sv.self (by rw [zq]; decide) _), (so s_31), (so s_32)⟩
      | 8, _ =>
        obtain rfl := Option.some.inj (show some _ = some o from ho); clear ho
        have v29 := s_29 (dp hdep 6)
        have v30 := s_30 (dp hdep 7)
        refine dj_val (i := 8) (v := .int .i64 x) rfl (.inl rfl) (ev_look mk_int m_M Try.underlying51 (by kernel_rfl) (k := (k : Int)) (r := .int .i64 x) v29.eval v30.eval (look_at hx) _ rfl) ?_
        exact ⟨⟨_, rfl⟩, bl, sz, b_B, b_B1, b_N11r1, p_0, p_1, m_M, a_10, (so s_23), (so s_24), (so s_25), (so s_26), (so s_27), (so s_28), (so s_29), (so s_30), (fun _ => Sv.self (by rw [zq]; decide) _), (so s_32)⟩
      | 9, _ =>
        obtain rfl := Option.some.inj (show some _ = some o from ho); clear ho
        have v24 := s_24 (dp hdep 1)
        have v25 := s_25 (dp hdep 2)
        refine dj_val (i := 9) (v := .pointer (some ((⟨gx11, ox11, none⟩ : Addr).add (k * 1)))) rfl (.inl rfl) (ev_idx (k := k) v24.eval rfl v25.eval rfl (by omega) Try.underlying22 (by kernel_rfl) _ rfl) ?_
        exact ⟨⟨_, rfl⟩, bl, sz, b_B, b_B1, b_N11r1, p_0, p_1, m_M, a_10, (so s_23), (so s_24), (so s_25), (so s_26), (so s_27), (so s_28), (so s_29), (so s_30), (so s_31), (fun _ => Sv.self (by rw [zq]; decide) _)⟩
      | 10, _ =>
        obtain rfl := Option.some.inj (show some _ = some o from ho); clear ho
        have v32 := s_32 (dp hdep 9)
        have v31 := s_31 (dp hdep 8)
        have ho := p_0 hL
        obtain ⟨wq2, hrun, hown, hg⟩ := run_store_v (P := Try.prog) ho (fun _ => rfl) (fun _ => rfl) (fil_len (by omega) (by omega)).symm (k := k) (by omega) x (by kernel_rfl)
        have e1 := v32.eval
        rw [mk_add] at e1
        have e2 := v31.eval
        replace hg : World.grownBy _ _ (Value.ownBlock (.slice (some ⟨gx11, ox11, none⟩) n n)) := hg
        refine dj_skip (i := 10) rfl rfl (.inl rfl) (w' := wq2) (by simp only [execOp, e1, e2, Sem.run_bind, hrun, Result.andThen_ok, Sem.run_pure]) ?_
        exact ⟨⟨undef, rfl⟩, (Below.gO bl hg ho bl.size (by omega)), (Nat.le_trans sz hg.size), (b_B.gOT hg ho (by decide)), (b_B1.gOT hg ho (by decide)), (b_N11r1.gOT hg ho (by decide)), (fun h => by cases h), (Own.gOT p_1 hg ho (by decide)), (Mp.gOT m_M hg ho), (fun _ => hown), s_23, s_24, s_25, s_26, s_27, s_28, s_29, s_30, s_31, s_32⟩
      | k + 11, h => exact absurd h (by omega)
    · intro L hall ac24 wc24 hF hJ
      obtain ⟨bl, sz, b_B, b_B1, b_N11r1, p_0, p_1, m_M, a_10, s_23, s_24, s_25, s_26, s_27, s_28, s_29, s_30, s_31, s_32⟩ := hJ
      have hA24 : Ag ac24 44 [(0, .pointer (some ⟨B, 0, none⟩)), (2, .pointer (some ⟨B1, 0, none⟩)), (3, .pointer (some ⟨N11r1, 0, none⟩)), (19, .int .i64 (n : Int)), (20, .int .i64 (k : Int)), (21, .bool true), (22, .int .i64 (k : Int)), (4, .int .i64 (k : Int)), (23, .pointer (some ⟨N11r1, 0, none⟩)), (24, .slice (some ⟨gx11, ox11, none⟩) n n), (25, .int .i64 (k : Int)), (26, .pointer (some ⟨B, 0, none⟩)), (27, .pointer (some ⟨B, 0, none⟩)), (28, .pointer (some ⟨B, 1, none⟩)), (29, .map (some M)), (30, .int .i64 (k : Int)), (31, .int .i64 x), (32, .pointer (some ((⟨gx11, ox11, none⟩ : Addr).add (k * 1))))] := (((((((((((((((((((Ag.nil (hF.1.trans hA23.1) (hF.2.1.trans hA23.2.1)).cons (s_32 (hall 9 (by decide)))).cons (s_31 (hall 8 (by decide)))).cons (s_30 (hall 7 (by decide)))).cons (s_29 (hall 6 (by decide)))).cons (s_28 (hall 5 (by decide)))).cons (s_27 (hall 4 (by decide)))).cons (s_26 (hall 3 (by decide)))).cons (s_25 (hall 2 (by decide)))).cons (s_24 (hall 1 (by decide)))).cons (s_23 (hall 0 (by decide)))).cons (hF.sv (s := 4) (by kernel_rfl) (hA23.get (i := 4) (v := .int .i64 (k : Int))))).cons (hF.sv (s := 22) (by kernel_rfl) (hA23.get (i := 22) (v := .int .i64 (k : Int))))).cons (hF.sv (s := 21) (by kernel_rfl) (hA23.get (i := 21) (v := .bool true)))).cons (hF.sv (s := 20) (by kernel_rfl) (hA23.get (i := 20) (v := .int .i64 (k : Int))))).cons (hF.sv (s := 19) (by kernel_rfl) (hA23.get (i := 19) (v := .int .i64 (n : Int))))).cons (hF.sv (s := 3) (by kernel_rfl) (hA23.get (i := 3) (v := .pointer (some ⟨N11r1, 0, none⟩))))).cons (hF.sv (s := 2) (by kernel_rfl) (hA23.get (i := 2) (v := .pointer (some ⟨B1, 0, none⟩))))).cons (hF.sv (s := 0) (by kernel_rfl) (hA23.get (i := 0) (v := .pointer (some ⟨B, 0, none⟩)))))
      have bl24 := bl
      have sz24 := sz
      have b24_B := b_B
      have b24_B1 := b_B1
      have b24_N11r1 := b_N11r1
      have p24_1 := p_1
      have m24_M := m_M
      have a24_10 := a_10 (hall 10 (by decide))
      have hha24_10 := Own.hi a24_10
      clear hF bl sz b_B b_B1 b_N11r1 p_0 p_1 m_M a_10 s_23 s_24 s_25 s_26 s_27 s_28 s_29 s_30 s_31 s_32 hall hA23
      refine then_n ?_
      refine region_D (n := 10) (by kernel_rfl) (by kernel_rfl) rfl (fun L ac wc => Below w.heap.size w wc ∧ wc24.heap.size ≤ wc.heap.size ∧ Bx wc B 56 (bkr n M (opm bs)) ∧ Bx wc B1 25 (#[.slice none 0 0, .slice none 0 0]) ∧ Bx wc N11r1 25 (#[.slice (some ⟨gx11, ox11, none⟩) n n, .slice (some ⟨gx12, ox12, none⟩) n n]) ∧ (L 9 = false → Own wc (w1.heap.size) 4 1 (.slice (some ⟨gx12, ox12, none⟩) n n) n (flat bva (fil bs false n k))) ∧ Own wc (w1.heap.size) 3 1 (.slice (some ⟨gx11, ox11, none⟩) n n) n (flat iva ((fil rs 0 n k).set k x)) ∧ Mp wc M (Value.int .i64) (Value.int .i64) (opf rs) ∧ (L 9 = true → Own wc (w1.heap.size) 4 1 (.slice (some ⟨gx12, ox12, none⟩) n n) n (flat bva ((fil bs false n k).set k (opm bs k)))) ∧ (L 0 = true → Sv ac 33 (.pointer (some ⟨N11r1, 1, none⟩))) ∧ (L 1 = true → Sv ac 34 (.slice (some ⟨gx12, ox12, none⟩) n n)) ∧ (L 2 = true → Sv ac 35 (.int .i64 (k : Int))) ∧ (L 3 = true → Sv ac 36 (.pointer (some ⟨B, 0, none⟩))) ∧ (L 4 = true → Sv ac 37 (.pointer (some ⟨B, 0, none⟩))) ∧ (L 5 = true → Sv ac 38 (.pointer (some ⟨B, 2, none⟩))) ∧ (L 6 = true → Sv ac 39 (.int .i64 (k : Int))) ∧ (L 7 = true → Sv ac 40 (.bool (opm bs k))) ∧ (L 8 = true → Sv ac 41 (.pointer (some ((⟨gx12, ox12, none⟩ : Addr).add (k * 1)))))) ⟨(Below.gN bl24 (gdr _) bl24.size), (Nat.le_refl _), (b24_B.gN (gdr _)), (b24_B1.gN (gdr _)), (b24_N11r1.gN (gdr _)), (fun _ => Own.gN p24_1 (gdr _)), (Own.gN a24_10 (gdr _)), (m24_M.gN (gdr _)), (fun h => by cases h), (fun h => by cases h), (fun h => by cases h), (fun h => by cases h), (fun h => by cases h), (fun h => by cases h), (fun h => by cases h), (fun h => by cases h), (fun h => by cases h), (fun h => by cases h)⟩ ?_ ?_
      · intro iq hiq o ho L hL hdep ac wc hF hJ
        obtain ⟨bl, sz, b_B, b_B1, b_N11r1, p_0, p_1, m_M, a_9, s_33, s_34, s_35, s_36, s_37, s_38, s_39, s_40, s_41⟩ := hJ
        have zq := hF.1.trans hA24.1
        match iq, hiq with
        | 0, _ =>
          obtain rfl := Option.some.inj (show some _ = some o from ho); clear ho
          have v3 := hF.sv (s := 3) (by kernel_rfl) (hA24.get (i := 3) (v := .pointer (some ⟨N11r1, 0, none⟩)))
          refine dj_val (i := 0) (v := .pointer (some ⟨N11r1, 1, none⟩)) rfl (.inl rfl) (fb_Slots_1 v3.eval _ rfl) ?_
          exact ⟨⟨_, rfl⟩, bl, sz, b_B, b_B1, b_N11r1, p_0, p_1, m_M, a_9, (fun _ => Sv.self (by rw [zq]; decide) _), (so s_34), (so s_35), (so s_36), (so s_37), (so s_38), (so s_39), (so s_40), (so s_41)⟩
        | 1, _ =>
          obtain rfl := Option.some.inj (show some _ = some o from ho); clear ho
          have v33 := s_33 (dp hdep 0)
          refine dj_val (i := 1) (v := .slice (some ⟨gx12, ox12, none⟩) n n) rfl (.inl rfl) (ev_cell (v := .slice (some ⟨gx12, ox12, none⟩) n n) v33.eval ((b_N11r1.cell 1).trans rfl) Try.underlying23 rfl _ rfl) ?_
          exact ⟨⟨_, rfl⟩, bl, sz, b_B, b_B1, b_N11r1, p_0, p_1, m_M, a_9, (so s_33), (fun _ => Sv.self (by rw [zq]; decide) _), (so s_35), (so s_36), (so s_37), (so s_38), (so s_39), (so s_40), (so s_41)⟩
        | 2, _ =>
          obtain rfl := Option.some.inj (show some _ = some o from ho); clear ho
          have v4 := hF.sv (s := 4) (by kernel_rfl) (hA24.get (i := 4) (v := .int .i64 (k : Int)))
          refine dj_val (i := 2) (v := .int .i64 (k : Int)) rfl (.inl rfl) (ev_move v4.eval _ rfl) ?_
          exact ⟨⟨_, rfl⟩, bl, sz, b_B, b_B1, b_N11r1, p_0, p_1, m_M, a_9, (so s_33), (so s_34), (fun _ => Sv.self (by rw [zq]; decide) _), (so s_36), (so s_37), (so s_38), (so s_39), (so s_40), (so s_41)⟩
        | 3, _ =>
          obtain rfl := Option.some.inj (show some _ = some o from ho); clear ho
          have v0 := hF.sv (s := 0) (by kernel_rfl) (hA24.get (i := 0) (v := .pointer (some ⟨B, 0, none⟩)))
          refine dj_val (i := 3) (v := .pointer (some ⟨B, 0, none⟩)) rfl (.inl rfl) (ev_move v0.eval _ rfl) ?_
          exact ⟨⟨_, rfl⟩, bl, sz, b_B, b_B1, b_N11r1, p_0, p_1, m_M, a_9, (so s_33), (so s_34), (so s_35), (fun _ => Sv.self (by rw [zq]; decide) _), (so s_37), (so s_38), (so s_39), (so s_40), (so s_41)⟩
        | 4, _ =>
          obtain rfl := Option.some.inj (show some _ = some o from ho); clear ho
          have v36 := s_36 (dp hdep 3)
          refine dj_val (i := 4) (v := .pointer (some ⟨B, 0, none⟩)) rfl (.inl rfl) (ev_nilCheck v36.eval _ rfl) ?_
          exact ⟨⟨_, rfl⟩, bl, sz, b_B, b_B1, b_N11r1, p_0, p_1, m_M, a_9, (so s_33), (so s_34), (so s_35), (so s_36), (fun _ => Sv.self (by rw [zq]; decide) _), (so s_38), (so s_39), (so s_40), (so s_41)⟩
        | 5, _ =>
          obtain rfl := Option.some.inj (show some _ = some o from ho); clear ho
          have v37 := s_37 (dp hdep 4)
          refine dj_val (i := 5) (v := .pointer (some ⟨B, 2, none⟩)) rfl (.inl rfl) (fb_book_2 v37.eval _ rfl) ?_
          exact ⟨⟨_, rfl⟩, bl, sz, b_B, b_B1, b_N11r1, p_0, p_1, m_M, a_9, (so s_33), (so s_34), (so s_35), (so s_36), (so s_37), (fun _ => Sv.self (by rw [zq]; decide) _), (so s_39), (so s_40), (so s_41)⟩
        | 6, _ =>
          obtain rfl := Option.some.inj (show some _ = some o from ho); clear ho
          have v4 := hF.sv (s := 4) (by kernel_rfl) (hA24.get (i := 4) (v := .int .i64 (k : Int)))
          refine dj_val (i := 6) (v := .int .i64 (k : Int)) rfl (.inl rfl) (ev_move v4.eval _ rfl) ?_
          exact ⟨⟨_, rfl⟩, bl, sz, b_B, b_B1, b_N11r1, p_0, p_1, m_M, a_9, (so s_33), (so s_34), (so s_35), (so s_36), (so s_37), (so s_38), (fun _ => Sv.self (by rw [zq]; decide) _), (so s_40), (so s_41)⟩
        | 7, _ =>
          obtain rfl := Option.some.inj (show some _ = some o from ho); clear ho
          have v38 := s_38 (dp hdep 5)
          have v39 := s_39 (dp hdep 6)
          refine dj_call (i := 7) (f := 44) (args := #[.pointer (some ⟨B, 2, none⟩), .int .i64 (k : Int)]) rfl (.inl rfl) (ev_fn rfl (mp2 v38.eval v39.eval) (by kernel_rfl) _ rfl) (has_bk B n M (opm bs) k _ b_B (by omega)) ?_
          intro e wk7 hR
          obtain ⟨rfl, hb7⟩ := hR
          refine ⟨_, rfl, ?_⟩
          have hg := g0 hb7
          exact ⟨⟨_, rfl⟩, (Below.gN bl hg bl.size), (Nat.le_trans sz hg.size), (b_B.gN hg), (b_B1.gN hg), (b_N11r1.gN hg), (fun h => Own.gN (p_0 h) hg), (Own.gN p_1 hg), (m_M.gN hg), (fun h => Own.gN (a_9 h) hg), (so s_33), (so s_34), (so s_35), (so s_36), (so s_37), (so s_38), (so s_39), (fun _ => Sv.self (by rw [zq]; decide) _), (so s_41)⟩
        | 8, _ =>
          obtain rfl := Option.some.inj (show some _ = some o from ho); clear ho
          have v34 := s_34 (dp hdep 1)
          have v35 := s_35 (dp hdep 2)
          refine dj_val (i := 8) (v := .pointer (some ((⟨gx12, ox12, none⟩ : Addr).add (k * 1)))) rfl (.inl rfl) (ev_idx (k := k) v34.eval rfl v35.eval rfl (by omega) Try.underlying23 (by kernel_rfl) _ rfl) ?_
          exact ⟨⟨_, rfl⟩, bl, sz, b_B, b_B1, b_N11r1, p_0, p_1, m_M, a_9, (so s_33), (so s_34), (so s_35), (so s_36), (so s_37), (so s_38), (so s_39), (so s_40), (fun _ => Sv.self (by rw [zq]; decide) _)⟩
        | 9, _ =>
          obtain rfl := Option.some.inj (show some _ = some o from ho); clear ho
          have v41 := s_41 (dp hdep 8)
          have v40 := s_40 (dp hdep 7)
          have ho := p_0 hL
          obtain ⟨wq2, hrun, hown, hg⟩ := run_store_v (P := Try.prog) ho (fun _ => rfl) (fun _ => rfl) (fil_len (by omega) (by omega)).symm (k := k) (by omega) (opm bs k) (by kernel_rfl)
          have e1 := v41.eval
          rw [mk_add] at e1
          have e2 := v40.eval
          replace hg : World.grownBy _ _ (Value.ownBlock (.slice (some ⟨gx12, ox12, none⟩) n n)) := hg
          refine dj_skip (i := 9) rfl rfl (.inl rfl) (w' := wq2) (by simp only [execOp, e1, e2, Sem.run_bind, hrun, Result.andThen_ok, Sem.run_pure]) ?_
          exact ⟨⟨undef, rfl⟩, (Below.gO bl hg ho bl.size (by omega)), (Nat.le_trans sz hg.size), (b_B.gOT hg ho (by decide)), (b_B1.gOT hg ho (by decide)), (b_N11r1.gOT hg ho (by decide)), (fun h => by cases h), (Own.gOT p_1 hg ho (by decide)), (Mp.gOT m_M hg ho), (fun _ => hown), s_33, s_34, s_35, s_36, s_37, s_38, s_39, s_40, s_41⟩
        | k + 10, h => exact absurd h (by omega)
      · intro L hall ac25 wc25 hF hJ
        obtain ⟨bl, sz, b_B, b_B1, b_N11r1, p_0, p_1, m_M, a_9, s_33, s_34, s_35, s_36, s_37, s_38, s_39, s_40, s_41⟩ := hJ
        have hA25 : Ag ac25 44 [(0, .pointer (some ⟨B, 0, none⟩)), (2, .pointer (some ⟨B1, 0, none⟩)), (3, .pointer (some ⟨N11r1, 0, none⟩)), (19, .int .i64 (n : Int)), (20, .int .i64 (k : Int)), (21, .bool true), (22, .int .i64 (k : Int)), (4, .int .i64 (k : Int)), (23, .pointer (some ⟨N11r1, 0, none⟩)), (24, .slice (some ⟨gx11, ox11, none⟩) n n), (25, .int .i64 (k : Int)), (26, .pointer (some ⟨B, 0, none⟩)), (27, .pointer (some ⟨B, 0, none⟩)), (28, .pointer (some ⟨B, 1, none⟩)), (29, .map (some M)), (30, .int .i64 (k : Int)), (31, .int .i64 x), (32, .pointer (some ((⟨gx11, ox11, none⟩ : Addr).add (k * 1)))), (33, .pointer (some ⟨N11r1, 1, none⟩)), (34, .slice (some ⟨gx12, ox12, none⟩) n n), (35, .int .i64 (k : Int)), (36, .pointer (some ⟨B, 0, none⟩)), (37, .pointer (some ⟨B, 0, none⟩)), (38, .pointer (some ⟨B, 2, none⟩)), (39, .int .i64 (k : Int)), (40, .bool (opm bs k)), (41, .pointer (some ((⟨gx12, ox12, none⟩ : Addr).add (k * 1))))] := ((((((((((((((((((((((((((((Ag.nil (hF.1.trans hA24.1) (hF.2.1.trans hA24.2.1)).cons (s_41 (hall 8 (by decide)))).cons (s_40 (hall 7 (by decide)))).cons (s_39 (hall 6 (by decide)))).cons (s_38 (hall 5 (by decide)))).cons (s_37 (hall 4 (by decide)))).cons (s_36 (hall 3 (by decide)))).cons (s_35 (hall 2 (by decide)))).cons (s_34 (hall 1 (by decide)))).cons (s_33 (hall 0 (by decide)))).cons (hF.sv (s := 32) (by kernel_rfl) (hA24.get (i := 32) (v := .pointer (some ((⟨gx11, ox11, none⟩ : Addr).add (k * 1))))))).cons (hF.sv (s := 31) (by kernel_rfl) (hA24.get (i := 31) (v := .int .i64 x)))).cons (hF.sv (s := 30) (by kernel_rfl) (hA24.get (i := 30) (v := .int .i64 (k : Int))))).cons (hF.sv (s := 29) (by kernel_rfl) (hA24.get (i := 29) (v := .map (some M))))).cons (hF.sv (s := 28) (by kernel_rfl) (hA24.get (i := 28) (v := .pointer (some ⟨B, 1, none⟩))))).cons (hF.sv (s := 27) (by kernel_rfl) (hA24.get (i := 27) (v := .pointer (some ⟨B, 0, none⟩))))).cons (hF.sv (s := 26) (by kernel_rfl) (hA24.get (i := 26) (v := .pointer (some ⟨B, 0, none⟩))))).cons (hF.sv (s := 25) (by kernel_rfl) (hA24.get (i := 25) (v := .int .i64 (k : Int))))).cons (hF.sv (s := 24) (by kernel_rfl) (hA24.get (i := 24) (v := .slice (some ⟨gx11, ox11, none⟩) n n)))).cons (hF.sv (s := 23) (by kernel_rfl) (hA24.get (i := 23) (v := .pointer (some ⟨N11r1, 0, none⟩))))).cons (hF.sv (s := 4) (by kernel_rfl) (hA24.get (i := 4) (v := .int .i64 (k : Int))))).cons (hF.sv (s := 22) (by kernel_rfl) (hA24.get (i := 22) (v := .int .i64 (k : Int))))).cons (hF.sv (s := 21) (by kernel_rfl) (hA24.get (i := 21) (v := .bool true)))).cons (hF.sv (s := 20) (by kernel_rfl) (hA24.get (i := 20) (v := .int .i64 (k : Int))))).cons (hF.sv (s := 19) (by kernel_rfl) (hA24.get (i := 19) (v := .int .i64 (n : Int))))).cons (hF.sv (s := 3) (by kernel_rfl) (hA24.get (i := 3) (v := .pointer (some ⟨N11r1, 0, none⟩))))).cons (hF.sv (s := 2) (by kernel_rfl) (hA24.get (i := 2) (v := .pointer (some ⟨B1, 0, none⟩))))).cons (hF.sv (s := 0) (by kernel_rfl) (hA24.get (i := 0) (v := .pointer (some ⟨B, 0, none⟩)))))
        have bl25 := bl
        have sz25 := sz
        have b25_B := b_B
        have b25_B1 := b_B1
        have b25_N11r1 := b_N11r1
        have p25_1 := p_1
        have m25_M := m_M
        have a25_9 := a_9 (hall 9 (by decide))
        have hha25_9 := Own.hi a25_9
        clear hF bl sz b_B b_B1 b_N11r1 p_0 p_1 m_M a_9 s_33 s_34 s_35 s_36 s_37 s_38 s_39 s_40 s_41 hall hA24
        refine blk_n ?_
        refine then_n ?_
        refine wp_region_lit ?_
        refine sx_val (v := .int .i64 ((k + 1 : Nat) : Int)) hA25 rfl (ev_addR (k := .i64) (m := (k : Int)) (n := 1) (r := ((k + 1 : Nat) : Int)) (hA25.ev (i := 20)) (ec _ (.int .i64 1)) (wr (by omega) (by omega) (by omega)) _ rfl) ?_
        intro a26 hA26; clear hA25
        refine sx_val hA26 rfl (ev_move (hA26.ev (i := 42) (v := .int .i64 ((k + 1 : Nat) : Int))) _ rfl) ?_
        intro a27 hA27; clear hA26
        refine sx_nil ?_
        refine then_n ?_
        refine ⟨n - (k + 1), by omega, k + 1, rfl, ((((((Ag.nil hA27.1 hA27.2.1).cons (hA27.get (i := 20) (v := .int .i64 ((k + 1 : Nat) : Int)))).cons (hA27.get (i := 19) (v := .int .i64 (n : Int)))).cons (hA27.get (i := 3) (v := .pointer (some ⟨N11r1, 0, none⟩)))).cons (hA27.get (i := 2) (v := .pointer (some ⟨B1, 0, none⟩)))).cons (hA27.get (i := 0) (v := .pointer (some ⟨B, 0, none⟩)))), by omega, b25_B, b25_B1, b25_N11r1, m25_M, (by rw [← fil_set hx (by omega)]; exact p25_1), (by rw [← fil_set hyb (by omega)]; exact a25_9), by omega, bl25⟩

set_option maxHeartbeats 4000000 in
theorem first_any (w : World) (B M n : Nat) (rs : List Int) (bs : List Bool) (hB : Bks w B M n rs bs) (hn : n ≤ 256) (hrn : rs.length = n) : Calls Try.prog 47 #[.pointer (some ⟨B, 0, none⟩)] w (RetB w (.returned (.int .i64 (fr ⟨rs, bs⟩)))) := by
  have hlB := hB.x.lt
  have hlM := hB.m.lt
  have hbel0 := below0 w
  refine sx_enter (N := 52) [(0, .pointer (some ⟨B, 0, none⟩))] Try.func47 rfl Try.ntmps47 (by simp) (fun a z d s => ((Ag.nil z d).cons (s 0 _ rfl))) ?_
  intro a0 hA0
  refine wp_seq ?_
  refine wp_region_lit ?_
  refine sx_val hA0 rfl (ev_assign (ec _ (.int .i64 0)) _ rfl) ?_
  intro a1 hA1; clear hA0
  refine sx_nil ?_
  refine then_n ?_
  refine wp_scope_straight ?_
  refine wp_seq ?_
  refine wp_region_lit ?_
  refine sx_new (cs := (mrow (fun _ => false))) (t := 54) hA1 rfl (by decide) (.inl rfl) (ev_alloc (z := .agg (mrow (fun _ => false))) (by kernel_rfl) (by kernel_rfl) _ rfl) ?_
  intro B2 w2 a2 hB2 hx2 hg2 hA2
  clear hA1
  have hs2 := hg2.size
  have hl2 := hx2.lt
  refine sx_nil ?_
  refine then_n ?_
  refine wp_seq ?_
  refine wp_seq ?_
  refine wp_region_lit ?_
  refine sx_val hA2 rfl (ev_move (hA2.ev (i := 0) (v := .pointer (some ⟨B, 0, none⟩))) _ rfl) ?_
  intro a3 hA3; clear hA2
  refine sx_val hA3 rfl (ev_nilCheck (hA3.ev (i := 10) (v := .pointer (some ⟨B, 0, none⟩))) _ rfl) ?_
  intro a4 hA4; clear hA3
  refine sx_val (v := .pointer (some ⟨B, 0, none⟩)) hA4 rfl (fb_book_0 (hA4.ev (i := 11) (v := .pointer (some ⟨B, 0, none⟩))) _ rfl) ?_
  intro a5 hA5; clear hA4
  have hB.x_6 := hB.x.gN hg2
  refine sx_val (v := .int .i64 (n : Int)) hA5 rfl (ev_cell (v := .int .i64 (n : Int)) (hA5.ev (i := 12) (v := .pointer (some ⟨B, 0, none⟩))) ((hB.x_6.cell 0).trans rfl) Try.underlying3 rfl _ rfl) ?_
  intro a7 hA7; clear hA5
  refine sx_val hA7 rfl (ev_move (ec _ (.int .i64 0)) _ rfl) ?_
  intro a8 hA8; clear hA7
  refine sx_nil ?_
  refine then_n ?_
  refine wp_block ?_
  have hB.m_10 := hB.m.gN hg2
  have hbel0_11 := Below.gN hbel0 hg2 hbel0.size
  refine wp_loop_ghost (fun gz a wl => ∃ (k : Nat), gz = n - k ∧ Ag a 52 [(0, .pointer (some ⟨B, 0, none⟩)), (2, .int .i64 0), (3, .pointer (some ⟨B2, 0, none⟩)), (13, .int .i64 (n : Int)), (14, .int .i64 (k : Int))] ∧ k ≤ n ∧ Bx wl B 56 (bkr n M (opm bs)) ∧ Bx wl B2 54 (mrow (usS ⟨rs, bs⟩ k)) ∧ Mp wl M (Value.int .i64) (Value.int .i64) (opf rs) ∧ w2.heap.size ≤ wl.heap.size ∧ Below w.heap.size w wl) (n - 0) ⟨0, rfl, ((((((Ag.nil hA8.1 hA8.2.1).cons (hA8.get (i := 14) (v := .int .i64 0))).cons (hA8.get (i := 13) (v := .int .i64 (n : Int)))).cons (hA8.get (i := 3) (v := .pointer (some ⟨B2, 0, none⟩)))).cons (hA8.get (i := 2) (v := .int .i64 0))).cons (hA8.get (i := 0) (v := .pointer (some ⟨B, 0, none⟩)))), Nat.zero_le _, hB.x_6, (by rw [usS_zero]; exact hx2), hB.m_10, Nat.le_refl _, hbel0_11⟩ ?_
  intro n9 a9 w9 hI9
  obtain ⟨k, hn9, hA9, q9_0, f9_0, f9_1, f9_2, hsz9, hbel9⟩ := hI9
  subst hn9
  clear hA8
  have hlB_9 := f9_0.lt
  have hlB2_9 := f9_1.lt
  have hlM_9 := f9_2.lt
  cases hd12 : decide ((k : Int) < (n : Int))
  rotate_left
  · have hp12 := of_decide_eq_true hd12
    refine wp_seq ?_
    refine wp_region_lit ?_
    refine sx_val (v := .bool true) hA9 rfl (ev_lssB (k := .i64) (m := (k : Int)) (n := (n : Int)) (hA9.ev (i := 14)) (hA9.ev (i := 13)) hd12 _ rfl) ?_
    intro a64 hA64; clear hA9
    refine sx_nil ?_
    refine then_n ?_
    refine wp_seq ?_
    refine wp_cond_true (hA64.ev (i := 15) (v := .bool true)) ?_
    refine wp_skip ?_
    refine then_n ?_
    refine wp_seq ?_
    refine wp_block ?_
    refine wp_seq ?_
    refine wp_region_lit ?_
    refine sx_val hA64 rfl (ev_move (hA64.ev (i := 14) (v := .int .i64 (k : Int))) _ rfl) ?_
    intro a65 hA65; clear hA64
    refine sx_val hA65 rfl (ev_assign (hA65.ev (i := 16) (v := .int .i64 (k : Int))) _ rfl) ?_
    intro a66 hA66; clear hA65
    refine sx_nil ?_
    refine then_n ?_
    refine wp_region_lit ?_
    refine sx_val hA66 rfl (ev_move (hA66.ev (i := 4) (v := .int .i64 (k : Int))) _ rfl) ?_
    intro a67 hA67; clear hA66
    refine sx_val hA67 rfl (ev_move (hA67.ev (i := 0) (v := .pointer (some ⟨B, 0, none⟩))) _ rfl) ?_
    intro a68 hA68; clear hA67
    refine sx_val hA68 rfl (ev_move (hA68.ev (i := 4) (v := .int .i64 (k : Int))) _ rfl) ?_
    intro a69 hA69; clear hA68
    cases hd71 : fre ⟨rs, bs⟩ k
    · refine sx_call (f := 37) (args := #[.pointer (some ⟨B, 0, none⟩), .int .i64 (k : Int)]) hA69 rfl (by decide) (.inl rfl) (ev_fn rfl (mp2 (hA69.ev (i := 18) (v := .pointer (some ⟨B, 0, none⟩))) (hA69.ev (i := 19) (v := .int .i64 (k : Int)))) (by kernel_rfl) _ rfl) (bfree_any _ B M n rs bs ⟨f9_0, f9_2⟩ k (by omega)) ?_
      intro e72 w72 hR72
      obtain ⟨he72, hb72⟩ := hR72
      rw [hd71] at he72
      subst he72
      refine ⟨_, rfl, ?_⟩
      intro a72 hA72
      clear hA69
      have hg72 := g0 hb72
      have hs72 := hg72.size
      clear hb72
      refine sx_val (v := .bool true) hA72 rfl (ev_notF (hA72.ev (i := 20) (v := .bool false)) _ rfl) ?_
      intro a73 hA73; clear hA72
      have f9_75 := f9_1.gN hg72
      refine sx_call (f := 45) (args := #[.pointer (some ⟨B2, 0, none⟩), .int .i64 (k : Int), .bool true]) hA73 rfl (by decide) (.inl rfl) (ev_fn rfl (mp3 (hA73.ev (i := 3) (v := .pointer (some ⟨B2, 0, none⟩))) (hA73.ev (i := 17) (v := .int .i64 (k : Int))) (hA73.ev (i := 21) (v := .bool true))) (by kernel_rfl) _ rfl) (put_mk_t B2 (usS ⟨rs, bs⟩ k) k _ f9_75 (by omega)) ?_
      intro e74 w74 hR74
      obtain ⟨rfl, hx74, hg74⟩ := hR74
      refine ⟨_, rfl, ?_⟩
      intro a74 hA74
      clear hA73
      have hs74 := hg74.size
      refine sx_nil ?_
      refine blk_n ?_
      refine then_n ?_
      refine wp_region_lit ?_
      refine sx_val (v := .int .i64 ((k + 1 : Nat) : Int)) hA74 rfl (ev_addR (k := .i64) (m := (k : Int)) (n := 1) (r := ((k + 1 : Nat) : Int)) (hA74.ev (i := 14)) (ec _ (.int .i64 1)) (wr (by omega) (by omega) (by omega)) _ rfl) ?_
      intro a76 hA76; clear hA74
      refine sx_val hA76 rfl (ev_move (hA76.ev (i := 23) (v := .int .i64 ((k + 1 : Nat) : Int))) _ rfl) ?_
      intro a77 hA77; clear hA76
      refine sx_nil ?_
      refine then_n ?_
      have f9_78 := f9_0.gN hg72
      have f9_79 := f9_78.gB hg74 (by omega)
      have f9_80 := f9_2.gN hg72
      have f9_81 := f9_80.gB hg74 (by omega)
      have hbel9_82 := Below.gN hbel9 hg72 hbel9.size
      have hbel9_83 := Below.gB hbel9_82 hg74 hbel9_82.size (by omega)
      refine ⟨n - (k + 1), by omega, k + 1, rfl, ((((((Ag.nil hA77.1 hA77.2.1).cons (hA77.get (i := 14) (v := .int .i64 ((k + 1 : Nat) : Int)))).cons (hA77.get (i := 13) (v := .int .i64 (n : Int)))).cons (hA77.get (i := 3) (v := .pointer (some ⟨B2, 0, none⟩)))).cons (hA77.get (i := 2) (v := .int .i64 0))).cons (hA77.get (i := 0) (v := .pointer (some ⟨B, 0, none⟩)))), by omega, f9_79, (by rw [← usS_succ, hd71]; exact hx74), f9_81, by omega, hbel9_83⟩
    refine sx_call (f := 37) (args := #[.pointer (some ⟨B, 0, none⟩), .int .i64 (k : Int)]) hA69 rfl (by decide) (.inl rfl) (ev_fn rfl (mp2 (hA69.ev (i := 18) (v := .pointer (some ⟨B, 0, none⟩))) (hA69.ev (i := 19) (v := .int .i64 (k : Int)))) (by kernel_rfl) _ rfl) (bfree_any _ B M n rs bs ⟨f9_0, f9_2⟩ k (by omega)) ?_
    intro e84 w84 hR84
    obtain ⟨he84, hb84⟩ := hR84
    rw [hd71] at he84
    subst he84
    refine ⟨_, rfl, ?_⟩
    intro a84 hA84
    clear hA69
    have hg84 := g0 hb84
    have hs84 := hg84.size
    clear hb84
    refine sx_val (v := .bool false) hA84 rfl (ev_notT (hA84.ev (i := 20) (v := .bool true)) _ rfl) ?_
    intro a85 hA85; clear hA84
    have f9_87 := f9_1.gN hg84
    refine sx_call (f := 45) (args := #[.pointer (some ⟨B2, 0, none⟩), .int .i64 (k : Int), .bool false]) hA85 rfl (by decide) (.inl rfl) (ev_fn rfl (mp3 (hA85.ev (i := 3) (v := .pointer (some ⟨B2, 0, none⟩))) (hA85.ev (i := 17) (v := .int .i64 (k : Int))) (hA85.ev (i := 21) (v := .bool false))) (by kernel_rfl) _ rfl) (put_mk_f B2 (usS ⟨rs, bs⟩ k) k _ f9_87 (by omega)) ?_
    intro e86 w86 hR86
    obtain ⟨rfl, hx86, hg86⟩ := hR86
    refine ⟨_, rfl, ?_⟩
    intro a86 hA86
    clear hA85
    have hs86 := hg86.size
    refine sx_nil ?_
    refine blk_n ?_
    refine then_n ?_
    refine wp_region_lit ?_
    refine sx_val (v := .int .i64 ((k + 1 : Nat) : Int)) hA86 rfl (ev_addR (k := .i64) (m := (k : Int)) (n := 1) (r := ((k + 1 : Nat) : Int)) (hA86.ev (i := 14)) (ec _ (.int .i64 1)) (wr (by omega) (by omega) (by omega)) _ rfl) ?_
    intro a88 hA88; clear hA86
    refine sx_val hA88 rfl (ev_move (hA88.ev (i := 23) (v := .int .i64 ((k + 1 : Nat) : Int))) _ rfl) ?_
    intro a89 hA89; clear hA88
    refine sx_nil ?_
    refine then_n ?_
    have f9_90 := f9_0.gN hg84
    have f9_91 := f9_90.gB hg86 (by omega)
    have f9_92 := f9_2.gN hg84
    have f9_93 := f9_92.gB hg86 (by omega)
    have hbel9_94 := Below.gN hbel9 hg84 hbel9.size
    have hbel9_95 := Below.gB hbel9_94 hg86 hbel9_94.size (by omega)
    refine ⟨n - (k + 1), by omega, k + 1, rfl, ((((((Ag.nil hA89.1 hA89.2.1).cons (hA89.get (i := 14) (v := .int .i64 ((k + 1 : Nat) : Int)))).cons (hA89.get (i := 13) (v := .int .i64 (n : Int)))).cons (hA89.get (i := 3) (v := .pointer (some ⟨B2, 0, none⟩)))).cons (hA89.get (i := 2) (v := .int .i64 0))).cons (hA89.get (i := 0) (v := .pointer (some ⟨B, 0, none⟩)))), by omega, f9_91, (by rw [← usS_succ, hd71]; exact hx86), f9_93, by omega, hbel9_95⟩
  have hp12 := of_decide_eq_false hd12
  refine wp_seq ?_
  refine wp_region_lit ?_
  refine sx_val (v := .bool false) hA9 rfl (ev_lssB (k := .i64) (m := (k : Int)) (n := (n : Int)) (hA9.ev (i := 14)) (hA9.ev (i := 13)) hd12 _ rfl) ?_
  intro a13 hA13; clear hA9
  refine sx_nil ?_
  refine then_n ?_
  refine wp_seq ?_
  refine wp_cond_false (hA13.ev (i := 15) (v := .bool false)) ?_
  refine wp_exit ?_
  refine then_x ?_
  refine then_x ?_
  refine blk_hit ?_
  refine then_n ?_
  refine wp_seq ?_
  refine wp_region_lit ?_
  refine sx_val hA13 rfl (ev_assign (ec _ (.int .i64 (-1))) _ rfl) ?_
  intro a14 hA14; clear hA13
  refine sx_nil ?_
  refine then_n ?_
  refine wp_seq ?_
  refine wp_label ?_
  refine then_n ?_
  refine wp_seq ?_
  refine wp_seq ?_
  refine wp_region_lit ?_
  refine sx_val (v := .agg (mrow (usS ⟨rs, bs⟩ k))) hA14 rfl (ev_row (hA14.ev (i := 3) (v := .pointer (some ⟨B2, 0, none⟩))) f9_1 Try.underlying54 rfl (n := 4) (by kernel_rfl) rfl _ rfl) ?_
  intro a15 hA15; clear hA14
  refine sx_val hA15 rfl (ev_move (ec _ (.int .i64 0)) _ rfl) ?_
  intro a16 hA16; clear hA15
  refine sx_nil ?_
  refine then_n ?_
  refine wp_block ?_
  refine wp_loop_ghost (fun gz a wl => ∃ (j : Nat), gz = 4 - j ∧ Ag a 52 [(0, .pointer (some ⟨B, 0, none⟩)), (2, .int .i64 0), (24, .agg (mrow (usS ⟨rs, bs⟩ k))), (25, .int .i64 (j : Int)), (5, .int .i64 (-1))] ∧ j ≤ 4 ∧ (∀ q, q < 64 * j → q < n → fre ⟨rs, bs⟩ q = false) ∧ Bx wl B 56 (bkr n M (opm bs)) ∧ Mp wl M (Value.int .i64) (Value.int .i64) (opf rs) ∧ w9.heap.size ≤ wl.heap.size ∧ Below w.heap.size w wl) (4 - 0) ⟨0, rfl, ((((((Ag.nil hA16.1 hA16.2.1).cons (hA16.get (i := 5) (v := .int .i64 (-1)))).cons (hA16.get (i := 25) (v := .int .i64 0))).cons (hA16.get (i := 24) (v := .agg (mrow (usS ⟨rs, bs⟩ k))))).cons (hA16.get (i := 2) (v := .int .i64 0))).cons (hA16.get (i := 0) (v := .pointer (some ⟨B, 0, none⟩)))), Nat.zero_le _, (fun q h => absurd h (by omega)), f9_0, f9_2, Nat.le_refl _, hbel9⟩ ?_
  intro n17 a17 w17 hI17
  obtain ⟨j, hn17, hA17, q17_0, q17_1, f17_0, f17_1, hsz17, hbel17⟩ := hI17
  subst hn17
  clear hA16
  have hlB_17 := f17_0.lt
  have hlM_17 := f17_1.lt
  cases hd18 : decide ((j : Int) < 4)
  · have hp18 := of_decide_eq_false hd18
    have hkn : k = n := by omega
    refine wp_seq ?_
    refine wp_region_lit ?_
    refine sx_val (v := .bool false) hA17 rfl (ev_lssB (k := .i64) (m := (j : Int)) (n := 4) (hA17.ev (i := 25)) (ec _ (.int .i64 4)) hd18 _ rfl) ?_
    intro a19 hA19; clear hA17
    refine sx_nil ?_
    refine then_n ?_
    refine wp_seq ?_
    refine wp_cond_false (hA19.ev (i := 26) (v := .bool false)) ?_
    refine wp_exit ?_
    refine then_x ?_
    refine then_x ?_
    refine blk_hit ?_
    refine then_n ?_
    refine wp_seq ?_
    refine wp_region_lit ?_
    refine sx_val hA19 rfl (ev_move (hA19.ev (i := 5) (v := .int .i64 (-1))) _ rfl) ?_
    intro a20 hA20; clear hA19
    refine sx_val hA20 rfl (ev_assign (hA20.ev (i := 51) (v := .int .i64 (-1))) _ rfl) ?_
    intro a21 hA21; clear hA20
    refine sx_nil ?_
    refine then_n ?_
    refine wp_ret ?_
    refine sc_r ?_
    refine bodyPost_ret (rs_t (v := .int .i64 (-1)) Try.results47 hA21 (by kernel_rfl) ) hA21.2.1 ?_
    have E : fr ⟨rs, bs⟩ = -1 := fr_no (fun q hq => q17_1 q (by have hqn : q < n := (by rw [← hrn]; exact hq); omega) (by rw [← hrn]; exact hq))
    exact ⟨by rw [E], hbel17⟩
  have hp18 := of_decide_eq_true hd18
  have hkn : k = n := by omega
  refine wp_seq ?_
  refine wp_region_lit ?_
  refine sx_val (v := .bool true) hA17 rfl (ev_lssB (k := .i64) (m := (j : Int)) (n := 4) (hA17.ev (i := 25)) (ec _ (.int .i64 4)) hd18 _ rfl) ?_
  intro a22 hA22; clear hA17
  refine sx_nil ?_
  refine then_n ?_
  refine wp_seq ?_
  refine wp_cond_true (hA22.ev (i := 26) (v := .bool true)) ?_
  refine wp_skip ?_
  refine then_n ?_
  refine wp_seq ?_
  refine wp_block ?_
  refine wp_seq ?_
  refine wp_region_lit ?_
  refine sx_val hA22 rfl (ev_move (hA22.ev (i := 25) (v := .int .i64 (j : Int))) _ rfl) ?_
  intro a23 hA23; clear hA22
  refine sx_val (v := .int .u64 (((wdn (usS ⟨rs, bs⟩ k) (64 * j) 64) : Nat) : Int)) hA23 rfl (ev_ixA (n := 4) (j := j) (hA23.ev (i := 24) (v := .agg (mrow (usS ⟨rs, bs⟩ k)))) (hA23.ev (i := 25)) (by omega) Try.underlying54 (by kernel_rfl) Try.underlying52 rfl (mrow_ix _ j (by omega)) _ rfl) ?_
  intro a24 hA24; clear hA23
  refine sx_val hA24 rfl (ev_assign (hA24.ev (i := 27) (v := .int .i64 (j : Int))) _ rfl) ?_
  intro a25 hA25; clear hA24
  refine sx_val hA25 rfl (ev_assign (hA25.ev (i := 28) (v := .int .u64 (((wdn (usS ⟨rs, bs⟩ k) (64 * j) 64) : Nat) : Int))) _ rfl) ?_
  intro a26 hA26; clear hA25
  refine sx_nil ?_
  refine then_n ?_
  refine wp_seq ?_
  refine wp_region_lit ?_
  refine sx_val hA26 rfl (ev_move (ec _ (.int .i64 0)) _ rfl) ?_
  intro a27 hA27; clear hA26
  refine sx_nil ?_
  refine then_n ?_
  refine wp_block ?_
  refine wp_loop_ghost (fun gz a wl => ∃ (i : Nat), gz = 64 - i ∧ Ag a 52 [(0, .pointer (some ⟨B, 0, none⟩)), (2, .int .i64 0), (24, .agg (mrow (usS ⟨rs, bs⟩ k))), (25, .int .i64 (j : Int)), (26, .bool true), (27, .int .i64 (j : Int)), (28, .int .u64 (((wdn (usS ⟨rs, bs⟩ k) (64 * j) 64) : Nat) : Int)), (6, .int .i64 (j : Int)), (7, .int .u64 (((wdn (usS ⟨rs, bs⟩ k) (64 * j) 64) : Nat) : Int)), (29, .int .i64 (i : Int)), (5, .int .i64 (-1))] ∧ i ≤ 64 ∧ (∀ q, q < 64 * j + i → q < n → fre ⟨rs, bs⟩ q = false) ∧ Bx wl B 56 (bkr n M (opm bs)) ∧ Mp wl M (Value.int .i64) (Value.int .i64) (opf rs) ∧ w17.heap.size ≤ wl.heap.size ∧ Below w.heap.size w wl) (64 - 0) ⟨0, rfl, ((((((((((((Ag.nil hA27.1 hA27.2.1).cons (hA27.get (i := 5) (v := .int .i64 (-1)))).cons (hA27.get (i := 29) (v := .int .i64 0))).cons (hA27.get (i := 7) (v := .int .u64 (((wdn (usS ⟨rs, bs⟩ k) (64 * j) 64) : Nat) : Int)))).cons (hA27.get (i := 6) (v := .int .i64 (j : Int)))).cons (hA27.get (i := 28) (v := .int .u64 (((wdn (usS ⟨rs, bs⟩ k) (64 * j) 64) : Nat) : Int)))).cons (hA27.get (i := 27) (v := .int .i64 (j : Int)))).cons (hA27.get (i := 26) (v := .bool true))).cons (hA27.get (i := 25) (v := .int .i64 (j : Int)))).cons (hA27.get (i := 24) (v := .agg (mrow (usS ⟨rs, bs⟩ k))))).cons (hA27.get (i := 2) (v := .int .i64 0))).cons (hA27.get (i := 0) (v := .pointer (some ⟨B, 0, none⟩)))), Nat.zero_le _, (fun q h1 h2 => q17_1 q (by omega) h2), f17_0, f17_1, Nat.le_refl _, hbel17⟩ ?_
  intro n28 a28 w28 hI28
  obtain ⟨i, hn28, hA28, q28_0, q28_1, f28_0, f28_1, hsz28, hbel28⟩ := hI28
  subst hn28
  clear hA27
  have hlB_28 := f28_0.lt
  have hlM_28 := f28_1.lt
  cases hd29 : decide ((i : Int) < 64)
  · have hp29 := of_decide_eq_false hd29
    refine wp_seq ?_
    refine wp_region_lit ?_
    refine sx_val (v := .bool false) hA28 rfl (ev_lssB (k := .i64) (m := (i : Int)) (n := 64) (hA28.ev (i := 29)) (ec _ (.int .i64 64)) hd29 _ rfl) ?_
    intro a30 hA30; clear hA28
    refine sx_nil ?_
    refine then_n ?_
    refine wp_seq ?_
    refine wp_cond_false (hA30.ev (i := 30) (v := .bool false)) ?_
    refine wp_exit ?_
    refine then_x ?_
    refine then_x ?_
    refine blk_hit ?_
    refine blk_n ?_
    refine then_n ?_
    refine wp_region_lit ?_
    refine sx_val (v := .int .i64 ((j + 1 : Nat) : Int)) hA30 rfl (ev_addR (k := .i64) (m := (j : Int)) (n := 1) (r := ((j + 1 : Nat) : Int)) (hA30.ev (i := 25)) (ec _ (.int .i64 1)) (wr (by omega) (by omega) (by omega)) _ rfl) ?_
    intro a31 hA31; clear hA30
    refine sx_val hA31 rfl (ev_move (hA31.ev (i := 50) (v := .int .i64 ((j + 1 : Nat) : Int))) _ rfl) ?_
    intro a32 hA32; clear hA31
    refine sx_nil ?_
    refine then_n ?_
    refine ⟨4 - (j + 1), by omega, j + 1, rfl, ((((((Ag.nil hA32.1 hA32.2.1).cons (hA32.get (i := 5) (v := .int .i64 (-1)))).cons (hA32.get (i := 25) (v := .int .i64 ((j + 1 : Nat) : Int)))).cons (hA32.get (i := 24) (v := .agg (mrow (usS ⟨rs, bs⟩ k))))).cons (hA32.get (i := 2) (v := .int .i64 0))).cons (hA32.get (i := 0) (v := .pointer (some ⟨B, 0, none⟩)))), by omega, fun q h1 h2 => q28_1 q (by omega) h2, f28_0, f28_1, by omega, hbel28⟩
  have hp29 := of_decide_eq_true hd29
  refine wp_seq ?_
  refine wp_region_lit ?_
  refine sx_val (v := .bool true) hA28 rfl (ev_lssB (k := .i64) (m := (i : Int)) (n := 64) (hA28.ev (i := 29)) (ec _ (.int .i64 64)) hd29 _ rfl) ?_
  intro a33 hA33; clear hA28
  refine sx_nil ?_
  refine then_n ?_
  refine wp_seq ?_
  refine wp_cond_true (hA33.ev (i := 30) (v := .bool true)) ?_
  refine wp_skip ?_
  refine then_n ?_
  refine wp_seq ?_
  refine wp_block ?_
  refine wp_seq ?_
  refine wp_region_lit ?_
  refine sx_val hA33 rfl (ev_move (hA33.ev (i := 29) (v := .int .i64 (i : Int))) _ rfl) ?_
  intro a34 hA34; clear hA33
  refine sx_val hA34 rfl (ev_assign (hA34.ev (i := 31) (v := .int .i64 (i : Int))) _ rfl) ?_
  intro a35 hA35; clear hA34
  refine sx_nil ?_
  refine then_n ?_
  refine wp_seq ?_
  refine wp_region_lit ?_
  refine sx_val hA35 rfl (ev_move (hA35.ev (i := 6) (v := .int .i64 (j : Int))) _ rfl) ?_
  intro a36 hA36; clear hA35
  refine sx_val (v := .int .i64 ((j : Int) * 64)) hA36 rfl (ev_mulR (k := .i64) (m := (j : Int)) (n := 64) (r := (j : Int) * 64) (hA36.ev (i := 32)) (ec _ (.int .i64 64)) (wr (by omega) (by omega) (by omega)) _ rfl) ?_
  intro a37 hA37; clear hA36
  refine sx_val hA37 rfl (ev_move (hA37.ev (i := 8) (v := .int .i64 (i : Int))) _ rfl) ?_
  intro a38 hA38; clear hA37
  refine sx_val (v := .int .i64 (((64 * j + i) : Nat) : Int)) hA38 rfl (ev_addR (k := .i64) (m := (j : Int) * 64) (n := (i : Int)) (r := (((64 * j + i) : Nat) : Int)) (hA38.ev (i := 33)) (hA38.ev (i := 34)) (wr (by omega) (by omega) (by omega)) _ rfl) ?_
  intro a39 hA39; clear hA38
  refine sx_val hA39 rfl (ev_assign (hA39.ev (i := 35) (v := .int .i64 (((64 * j + i) : Nat) : Int))) _ rfl) ?_
  intro a40 hA40; clear hA39
  refine sx_nil ?_
  refine then_n ?_
  refine wp_seq ?_
  refine wp_seq ?_
  refine wp_region_lit ?_
  refine sx_val hA40 rfl (ev_move (hA40.ev (i := 9) (v := .int .i64 (((64 * j + i) : Nat) : Int))) _ rfl) ?_
  intro a41 hA41; clear hA40
  refine sx_val hA41 rfl (ev_move (hA41.ev (i := 0) (v := .pointer (some ⟨B, 0, none⟩))) _ rfl) ?_
  intro a42 hA42; clear hA41
  refine sx_val hA42 rfl (ev_nilCheck (hA42.ev (i := 37) (v := .pointer (some ⟨B, 0, none⟩))) _ rfl) ?_
  intro a43 hA43; clear hA42
  refine sx_val (v := .pointer (some ⟨B, 0, none⟩)) hA43 rfl (fb_book_0 (hA43.ev (i := 38) (v := .pointer (some ⟨B, 0, none⟩))) _ rfl) ?_
  intro a44 hA44; clear hA43
  refine sx_val (v := .int .i64 (n : Int)) hA44 rfl (ev_cell (v := .int .i64 (n : Int)) (hA44.ev (i := 39) (v := .pointer (some ⟨B, 0, none⟩))) ((f28_0.cell 0).trans rfl) Try.underlying3 rfl _ rfl) ?_
  intro a45 hA45; clear hA44
  cases hd46 : decide ((n : Int) ≤ (((64 * j + i) : Nat) : Int))
  rotate_left
  · have hp46 := of_decide_eq_true hd46
    refine sx_val (v := .bool true) hA45 rfl (ev_geqB (k := .i64) (m := (((64 * j + i) : Nat) : Int)) (n := (n : Int)) (hA45.ev (i := 36)) (hA45.ev (i := 40)) hd46 _ rfl) ?_
    intro a61 hA61; clear hA45
    refine sx_nil ?_
    refine then_n ?_
    refine wp_cond_true (hA61.ev (i := 41) (v := .bool true)) ?_
    refine wp_exit ?_
    refine then_x ?_
    refine blk_miss (by decide) ?_
    refine then_x ?_
    refine then_x ?_
    refine blk_miss (by decide) ?_
    refine blk_miss (by decide) ?_
    refine then_x ?_
    refine then_x ?_
    refine blk_hit ?_
    refine then_n ?_
    refine wp_seq ?_
    refine wp_region_lit ?_
    refine sx_val hA61 rfl (ev_move (hA61.ev (i := 5) (v := .int .i64 (-1))) _ rfl) ?_
    intro a62 hA62; clear hA61
    refine sx_val hA62 rfl (ev_assign (hA62.ev (i := 51) (v := .int .i64 (-1))) _ rfl) ?_
    intro a63 hA63; clear hA62
    refine sx_nil ?_
    refine then_n ?_
    refine wp_ret ?_
    refine sc_r ?_
    refine bodyPost_ret (rs_t (v := .int .i64 (-1)) Try.results47 hA63 (by kernel_rfl) ) hA63.2.1 ?_
    have E : fr ⟨rs, bs⟩ = -1 := fr_no (fun q hq => q28_1 q (by have hqn : q < n := (by rw [← hrn]; exact hq); omega) (by rw [← hrn]; exact hq))
    exact ⟨by rw [E], hbel28⟩
  have hp46 := of_decide_eq_false hd46
  refine sx_val (v := .bool false) hA45 rfl (ev_geqB (k := .i64) (m := (((64 * j + i) : Nat) : Int)) (n := (n : Int)) (hA45.ev (i := 36)) (hA45.ev (i := 40)) hd46 _ rfl) ?_
  intro a47 hA47; clear hA45
  refine sx_nil ?_
  refine then_n ?_
  refine wp_cond_false (hA47.ev (i := 41) (v := .bool false)) ?_
  refine wp_skip ?_
  refine then_n ?_
  refine wp_seq ?_
  refine wp_region_lit ?_
  refine sx_val hA47 rfl (ev_move (hA47.ev (i := 7) (v := .int .u64 (((wdn (usS ⟨rs, bs⟩ k) (64 * j) 64) : Nat) : Int))) _ rfl) ?_
  intro a48 hA48; clear hA47
  refine sx_val hA48 rfl (ev_move (hA48.ev (i := 8) (v := .int .i64 (i : Int))) _ rfl) ?_
  intro a49 hA49; clear hA48
  refine sx_val (v := .int .u64 (i : Int)) hA49 rfl (ev_convN (m := i) (hA49.ev (i := 43)) (by omega) _ rfl) ?_
  intro a50 hA50; clear hA49
  refine sx_val (v := .int .u64 ((((wdn (usS ⟨rs, bs⟩ k) (64 * j) 64) / 2 ^ i) : Nat) : Int)) hA50 rfl (ev_shrN (k := .u64) (m := (wdn (usS ⟨rs, bs⟩ k) (64 * j) 64)) (n := i) (hA50.ev (i := 42)) (hA50.ev (i := 44)) (by omega) rfl _ rfl) ?_
  intro a51 hA51; clear hA50
  refine sx_val (v := .int .u64 (((((wdn (usS ⟨rs, bs⟩ k) (64 * j) 64) / 2 ^ i) &&& 1) : Nat) : Int)) hA51 rfl (ev_andN (m := ((wdn (usS ⟨rs, bs⟩ k) (64 * j) 64) / 2 ^ i)) (n := 1) (hA51.ev (i := 45)) (ec _ (.int .u64 1)) (Nat.lt_of_le_of_lt (Nat.div_le_self _ _) (wd64 _ _)) (by decide) rfl _ rfl) ?_
  intro a52 hA52; clear hA51
  refine sx_val (v := .bool (fre ⟨rs, bs⟩ (64 * j + i))) hA52 rfl (ev_eqlB (k := .u64) (m := (((((wdn (usS ⟨rs, bs⟩ k) (64 * j) 64) / 2 ^ i) &&& 1) : Nat) : Int)) (n := 0) (b := fre ⟨rs, bs⟩ (64 * j + i)) (hA52.ev (i := 46)) (ec _ (.int .u64 0)) (bit_used _ k j i (by omega) (by omega)) _ rfl) ?_
  intro a53 hA53; clear hA52
  refine sx_nil ?_
  refine then_n ?_
  cases hd54 : (fre ⟨rs, bs⟩ (64 * j + i))
  · rw [hd54] at hA53
    refine wp_cond_false (hA53.ev (i := 47) (v := .bool false)) ?_
    refine wp_skip ?_
    refine blk_n ?_
    refine then_n ?_
    refine wp_region_lit ?_
    refine sx_val (v := .int .i64 ((i + 1 : Nat) : Int)) hA53 rfl (ev_addR (k := .i64) (m := (i : Int)) (n := 1) (r := ((i + 1 : Nat) : Int)) (hA53.ev (i := 29)) (ec _ (.int .i64 1)) (wr (by omega) (by omega) (by omega)) _ rfl) ?_
    intro a55 hA55; clear hA53
    refine sx_val hA55 rfl (ev_move (hA55.ev (i := 49) (v := .int .i64 ((i + 1 : Nat) : Int))) _ rfl) ?_
    intro a56 hA56; clear hA55
    refine sx_nil ?_
    refine then_n ?_
    refine ⟨64 - (i + 1), by omega, i + 1, rfl, ((((((((((((Ag.nil hA56.1 hA56.2.1).cons (hA56.get (i := 5) (v := .int .i64 (-1)))).cons (hA56.get (i := 29) (v := .int .i64 ((i + 1 : Nat) : Int)))).cons (hA56.get (i := 7) (v := .int .u64 (((wdn (usS ⟨rs, bs⟩ k) (64 * j) 64) : Nat) : Int)))).cons (hA56.get (i := 6) (v := .int .i64 (j : Int)))).cons (hA56.get (i := 28) (v := .int .u64 (((wdn (usS ⟨rs, bs⟩ k) (64 * j) 64) : Nat) : Int)))).cons (hA56.get (i := 27) (v := .int .i64 (j : Int)))).cons (hA56.get (i := 26) (v := .bool true))).cons (hA56.get (i := 25) (v := .int .i64 (j : Int)))).cons (hA56.get (i := 24) (v := .agg (mrow (usS ⟨rs, bs⟩ k))))).cons (hA56.get (i := 2) (v := .int .i64 0))).cons (hA56.get (i := 0) (v := .pointer (some ⟨B, 0, none⟩)))), by omega, fun q h1 h2 => by
      by_cases he : q = 64 * j + i
      · rw [he]; exact hd54
      · exact q28_1 q (by omega) h2, f28_0, f28_1, by omega, hbel28⟩
  rw [hd54] at hA53
  refine wp_cond_true (hA53.ev (i := 47) (v := .bool true)) ?_
  refine wp_seq ?_
  refine wp_region_lit ?_
  refine sx_val hA53 rfl (ev_move (hA53.ev (i := 9) (v := .int .i64 (((64 * j + i) : Nat) : Int))) _ rfl) ?_
  intro a57 hA57; clear hA53
  refine sx_val hA57 rfl (ev_assign (hA57.ev (i := 48) (v := .int .i64 (((64 * j + i) : Nat) : Int))) _ rfl) ?_
  intro a58 hA58; clear hA57
  refine sx_nil ?_
  refine then_n ?_
  refine wp_exit ?_
  refine blk_miss (by decide) ?_
  refine then_x ?_
  refine then_x ?_
  refine blk_miss (by decide) ?_
  refine blk_miss (by decide) ?_
  refine then_x ?_
  refine then_x ?_
  refine blk_hit ?_
  refine then_n ?_
  refine wp_seq ?_
  refine wp_region_lit ?_
  refine sx_val hA58 rfl (ev_move (hA58.ev (i := 5) (v := .int .i64 (((64 * j + i) : Nat) : Int))) _ rfl) ?_
  intro a59 hA59; clear hA58
  refine sx_val hA59 rfl (ev_assign (hA59.ev (i := 51) (v := .int .i64 (((64 * j + i) : Nat) : Int))) _ rfl) ?_
  intro a60 hA60; clear hA59
  refine sx_nil ?_
  refine then_n ?_
  refine wp_ret ?_
  refine sc_r ?_
  refine bodyPost_ret (rs_t (v := .int .i64 (((64 * j + i) : Nat) : Int)) Try.results47 hA60 (by kernel_rfl) ) hA60.2.1 ?_
  have E : fr ⟨rs, bs⟩ = ((64 * j + i : Nat) : Int) := fr_at (by show _ < rs.length; omega) hd54 (fun q hq => q28_1 q (by omega) (by omega))
  exact ⟨by rw [E], hbel28⟩

set_option maxHeartbeats 4000000 in
theorem at_bad (A1 : Option Addr) (c1 : Nat) (A2 : Option Addr) (c2 : Nat) (rs : List Int) (bs : List Bool) (k : Int) (w : World) (hs : GS w A1 c1 A2 c2 rs bs) (hl : rs.length ≤ 900000) (hb : bs.length ≤ 900000) (ha : ask ⟨rs, bs⟩ k ≠ 0) : Calls Try.prog 36 #[.agg #[.slice A1 rs.length c1, .slice A2 bs.length c2], .int .i64 k] w (RetB w (.returned (.tuple #[.agg #[.int .i64 0, .map none, .int .u64 0, .int .u64 0, .int .u64 0, .int .u64 0], .int .i64 (ask ⟨rs, bs⟩ k)]))) := by
  have hbel0 := below0 w
  refine sx_enter (N := 29) [(0, .agg #[.slice A1 rs.length c1, .slice A2 bs.length c2]), (1, .int .i64 k)] Try.func36 rfl Try.ntmps36 (by simp) (fun a z d s => (((Ag.nil z d).cons (s 1 _ rfl)).cons (s 0 _ rfl))) ?_
  intro a0 hA0
  refine wp_seq ?_
  refine wp_region_lit ?_
  refine sx_new (cs := #[.slice A1 rs.length c1, .slice A2 bs.length c2]) (t := 25) hA0 rfl (by decide) (.inl rfl) (ev_box (hA0.ev (i := 0) (v := .agg #[.slice A1 rs.length c1, .slice A2 bs.length c2])) rfl _ rfl) ?_
  intro B1 w1 a1 hB1 hx1 hg1 hA1
  clear hA0
  have hs1 := hg1.size
  have hl1 := hx1.lt
  refine sx_new (cs := #[.int .i64 0, .map none, .int .u64 0, .int .u64 0, .int .u64 0, .int .u64 0]) (t := 56) hA1 rfl (by decide) (.inl rfl) (ev_alloc (z := .agg (#[.int .i64 0, .map none, .int .u64 0, .int .u64 0, .int .u64 0, .int .u64 0])) (by kernel_rfl) (by kernel_rfl) _ rfl) ?_
  intro B2 w2 a2 hB2 hx2 hg2 hA2
  clear hA1
  have hs2 := hg2.size
  have hl2 := hx2.lt
  refine sx_val hA2 rfl (ev_assign (ec _ (.int .i64 0)) _ rfl) ?_
  intro a3 hA3; clear hA2
  refine sx_nil ?_
  refine then_n ?_
  refine wp_seq ?_
  refine wp_seq ?_
  refine wp_region_lit ?_
  have hx1_4 := hx1.gN hg2
  refine sx_val (v := .agg #[.slice A1 rs.length c1, .slice A2 bs.length c2]) hA3 rfl (ev_row (hA3.ev (i := 2) (v := .pointer (some ⟨B1, 0, none⟩))) hx1_4 Try.underlying25 rfl (n := 2) (by kernel_rfl) rfl _ rfl) ?_
  intro a5 hA5; clear hA3
  have hbel0_7 := Below.gN hbel0 hg1 hbel0.size
  have hbel0_8 := Below.gN hbel0_7 hg2 hbel0_7.size
  refine sx_call (f := 20) (args := #[.agg #[.slice A1 rs.length c1, .slice A2 bs.length c2]]) hA5 rfl (by decide) (.inl rfl) (ev_fn rfl (mp1 (hA5.ev (i := 9) (v := .agg #[.slice A1 rs.length c1, .slice A2 bs.length c2]))) (by kernel_rfl) _ rfl) (Check_any A1 c1 A2 c2 rs bs _ ⟨(hs.r.below hbel0_8), (hs.b.below hbel0_8)⟩ (by omega) (by omega)) ?_
  intro e6 w6 hR6
  obtain ⟨rfl, hb6⟩ := hR6
  refine ⟨_, rfl, ?_⟩
  intro a6 hA6
  clear hA5
  have hg6 := g0 hb6
  have hs6 := hg6.size
  clear hb6
  refine sx_val hA6 rfl (ev_move (hA6.ev (i := 10) (v := .tuple #[.int .i64 (chs ⟨rs, bs⟩).1, .int .i64 (chs ⟨rs, bs⟩).2])) _ rfl) ?_
  intro a9 hA9; clear hA6
  refine sx_val (v := .int .i64 (chs ⟨rs, bs⟩).1) hA9 rfl (ev_ext (hA9.ev (i := 8) (v := .tuple #[.int .i64 (chs ⟨rs, bs⟩).1, .int .i64 (chs ⟨rs, bs⟩).2])) rfl _ rfl) ?_
  intro a10 hA10; clear hA9
  refine sx_val (v := .int .i64 (chs ⟨rs, bs⟩).2) hA10 rfl (ev_ext (hA10.ev (i := 8) (v := .tuple #[.int .i64 (chs ⟨rs, bs⟩).1, .int .i64 (chs ⟨rs, bs⟩).2])) rfl _ rfl) ?_
  intro a11 hA11; clear hA10
  refine sx_val hA11 rfl (ev_assign (hA11.ev (i := 11) (v := .int .i64 (chs ⟨rs, bs⟩).1)) _ rfl) ?_
  intro a12 hA12; clear hA11
  refine sx_val hA12 rfl (ev_assign (hA12.ev (i := 12) (v := .int .i64 (chs ⟨rs, bs⟩).2)) _ rfl) ?_
  intro a13 hA13; clear hA12
  refine sx_nil ?_
  refine then_n ?_
  refine wp_seq ?_
  refine wp_region_lit ?_
  refine sx_val hA13 rfl (ev_move (hA13.ev (i := 6) (v := .int .i64 (chs ⟨rs, bs⟩).1)) _ rfl) ?_
  intro a14 hA14; clear hA13
  cases hd15 : decide ((chs ⟨rs, bs⟩).1 = 0)
  · have hp15 := of_decide_eq_false hd15
    refine sx_val (v := .bool true) hA14 rfl (ev_neqB (k := .i64) (m := (chs ⟨rs, bs⟩).1) (n := 0) (hA14.ev (i := 13)) (ec _ (.int .i64 0)) (by simpa using hd15) _ rfl) ?_
    intro a16 hA16; clear hA14
    refine sx_nil ?_
    refine then_n ?_
    refine wp_cond_true (hA16.ev (i := 14) (v := .bool true)) ?_
    refine wp_seq ?_
    refine wp_region_lit ?_
    refine sx_val (v := .agg #[.int .i64 0, .map none, .int .u64 0, .int .u64 0, .int .u64 0, .int .u64 0]) hA16 rfl (bd0_book _ rfl) ?_
    intro a17 hA17; clear hA16
    refine sx_val hA17 rfl (ev_move (hA17.ev (i := 6) (v := .int .i64 (chs ⟨rs, bs⟩).1)) _ rfl) ?_
    intro a18 hA18; clear hA17
    have hx2_20 := hx2.gN hg6
    refine sx_store hA18 rfl (.inl rfl) rfl (hA18.ev (i := 4) (v := .pointer (some ⟨B2, 0, none⟩))) (hA18.ev (i := 15) (v := .agg #[.int .i64 0, .map none, .int .u64 0, .int .u64 0, .int .u64 0, .int .u64 0])) hx2_20 (by kernel_rfl) rfl (by simp [Value.oneCell']) ?_
    intro w19 hx19 hg19
    have hs19 := hg19.size
    refine sx_val hA18 rfl (ev_assign (hA18.ev (i := 16) (v := .int .i64 (chs ⟨rs, bs⟩).1)) _ rfl) ?_
    intro a21 hA21; clear hA18
    refine sx_nil ?_
    refine then_n ?_
    refine wp_ret ?_
    refine then_r ?_
    refine bodyPost_ret (rs_ct (v := .int .i64 (chs ⟨rs, bs⟩).1) Try.results36 hA21 (by kernel_rfl) (by kernel_rfl) hx19 Try.underlying56 rfl (by kernel_rfl)) hA21.2.1 ?_
    have hbel0_22 := Below.gN hbel0_8 hg6 hbel0_8.size
    have hbel0_23 := Below.gB hbel0_22 hg19 hbel0_22.size (by omega)
    have E : ask ⟨rs, bs⟩ k = (chs ⟨rs, bs⟩).1 := if_pos (by omega)
    exact ⟨by rw [E], hbel0_23⟩
  have hp15 := of_decide_eq_true hd15
  refine sx_val (v := .bool false) hA14 rfl (ev_neqB (k := .i64) (m := (chs ⟨rs, bs⟩).1) (n := 0) (hA14.ev (i := 13)) (ec _ (.int .i64 0)) (by simpa using hd15) _ rfl) ?_
  intro a24 hA24; clear hA14
  refine sx_nil ?_
  refine then_n ?_
  refine wp_cond_false (hA24.ev (i := 14) (v := .bool false)) ?_
  refine wp_skip ?_
  refine then_n ?_
  refine wp_seq ?_
  refine wp_seq ?_
  refine wp_region_lit ?_
  refine sx_val hA24 rfl (ev_move (hA24.ev (i := 1) (v := .int .i64 k)) _ rfl) ?_
  intro a25 hA25; clear hA24
  cases hd26 : decide (k < 0)
  rotate_left
  · have hp26 := of_decide_eq_true hd26
    refine sx_val (v := .bool true) hA25 rfl (ev_lssB (k := .i64) (m := k) (n := 0) (hA25.ev (i := 17)) (ec _ (.int .i64 0)) hd26 _ rfl) ?_
    intro a54 hA54; clear hA25
    refine sx_val hA54 rfl (ev_move (hA54.ev (i := 18) (v := .bool true)) _ rfl) ?_
    intro a55 hA55; clear hA54
    refine sx_no (j := 2) (s := 19) (want := false) (b := true) hA55 rfl ?_
    intro a56 hA56; clear hA55
    refine sx_no (j := 2) (s := 19) (want := false) (b := true) hA56 rfl ?_
    intro a57 hA57; clear hA56
    refine sx_no (j := 2) (s := 19) (want := false) (b := true) hA57 rfl ?_
    intro a58 hA58; clear hA57
    refine sx_no (j := 2) (s := 19) (want := false) (b := true) hA58 rfl ?_
    intro a59 hA59; clear hA58
    refine sx_no (j := 2) (s := 19) (want := false) (b := true) hA59 rfl ?_
    intro a60 hA60; clear hA59
    refine sx_val hA60 rfl (ev_pickT (hA60.ev (i := 19) (v := .bool true)) (ec _ (.bool true)) _ rfl) ?_
    intro a61 hA61; clear hA60
    refine sx_nil ?_
    refine then_n ?_
    refine wp_cond_true (hA61.ev (i := 25) (v := .bool true)) ?_
    refine wp_seq ?_
    refine wp_region_lit ?_
    refine sx_val (v := .agg #[.int .i64 0, .map none, .int .u64 0, .int .u64 0, .int .u64 0, .int .u64 0]) hA61 rfl (bd0_book _ rfl) ?_
    intro a62 hA62; clear hA61
    have hx2_64 := hx2.gN hg6
    refine sx_store hA62 rfl (.inl rfl) rfl (hA62.ev (i := 4) (v := .pointer (some ⟨B2, 0, none⟩))) (hA62.ev (i := 26) (v := .agg #[.int .i64 0, .map none, .int .u64 0, .int .u64 0, .int .u64 0, .int .u64 0])) hx2_64 (by kernel_rfl) rfl (by simp [Value.oneCell']) ?_
    intro w63 hx63 hg63
    have hs63 := hg63.size
    refine sx_val hA62 rfl (ev_assign (ec _ (.int .i64 2)) _ rfl) ?_
    intro a65 hA65; clear hA62
    refine sx_nil ?_
    refine then_n ?_
    refine wp_ret ?_
    refine then_r ?_
    refine bodyPost_ret (rs_ct (v := .int .i64 2) Try.results36 hA65 (by kernel_rfl) (by kernel_rfl) hx63 Try.underlying56 rfl (by kernel_rfl)) hA65.2.1 ?_
    have hbel0_66 := Below.gN hbel0_8 hg6 hbel0_8.size
    have hbel0_67 := Below.gB hbel0_66 hg63 hbel0_66.size (by omega)
    have E : ask ⟨rs, bs⟩ k = 2 := by
      unfold ask
      rw [if_neg (by omega), if_pos (by show k < 0 ∨ (rs.length : Int) ≤ k; omega)]
    exact ⟨by rw [E], hbel0_67⟩
  have hp26 := of_decide_eq_false hd26
  refine sx_val (v := .bool false) hA25 rfl (ev_lssB (k := .i64) (m := k) (n := 0) (hA25.ev (i := 17)) (ec _ (.int .i64 0)) hd26 _ rfl) ?_
  intro a27 hA27; clear hA25
  refine sx_val hA27 rfl (ev_move (hA27.ev (i := 18) (v := .bool false)) _ rfl) ?_
  intro a28 hA28; clear hA27
  refine sx_val (hg := (.inr ⟨2, false, 19, rfl, rfl, by kernel_rfl⟩)) hA28 rfl (ev_move (hA28.ev (i := 1) (v := .int .i64 k)) _ rfl) ?_
  intro a29 hA29; clear hA28
  refine sx_val (hg := (.inr ⟨2, false, 19, rfl, rfl, by kernel_rfl⟩)) (v := .pointer (some ⟨B1, 0, none⟩)) hA29 rfl (fb_Slots_0 (hA29.ev (i := 2) (v := .pointer (some ⟨B1, 0, none⟩))) _ rfl) ?_
  intro a30 hA30; clear hA29
  have hx1_31 := hx1_4.gN hg6
  refine sx_val (hg := (.inr ⟨2, false, 19, rfl, rfl, by kernel_rfl⟩)) (v := .slice A1 rs.length c1) hA30 rfl (ev_cell (v := .slice A1 rs.length c1) (hA30.ev (i := 21) (v := .pointer (some ⟨B1, 0, none⟩))) ((hx1_31.cell 0).trans rfl) Try.underlying22 rfl _ rfl) ?_
  intro a32 hA32; clear hA30
  refine sx_val (hg := (.inr ⟨2, false, 19, rfl, rfl, by kernel_rfl⟩)) (v := .int .i64 (rs.length : Int)) hA32 rfl (ev_len (hA32.ev (i := 22) (v := .slice A1 rs.length c1)) Try.underlying22 _ rfl) ?_
  intro a33 hA33; clear hA32
  cases hd34 : decide ((rs.length : Int) ≤ k)
  rotate_left
  · have hp34 := of_decide_eq_true hd34
    refine sx_val (hg := (.inr ⟨2, false, 19, rfl, rfl, by kernel_rfl⟩)) (v := .bool true) hA33 rfl (ev_geqB (k := .i64) (m := k) (n := (rs.length : Int)) (hA33.ev (i := 20)) (hA33.ev (i := 23)) hd34 _ rfl) ?_
    intro a46 hA46; clear hA33
    refine sx_val hA46 rfl (ev_pickF (hA46.ev (i := 19) (v := .bool false)) (hA46.ev (i := 24) (v := .bool true)) _ rfl) ?_
    intro a47 hA47; clear hA46
    refine sx_nil ?_
    refine then_n ?_
    refine wp_cond_true (hA47.ev (i := 25) (v := .bool true)) ?_
    refine wp_seq ?_
    refine wp_region_lit ?_
    refine sx_val (v := .agg #[.int .i64 0, .map none, .int .u64 0, .int .u64 0, .int .u64 0, .int .u64 0]) hA47 rfl (bd0_book _ rfl) ?_
    intro a48 hA48; clear hA47
    have hx2_50 := hx2.gN hg6
    refine sx_store hA48 rfl (.inl rfl) rfl (hA48.ev (i := 4) (v := .pointer (some ⟨B2, 0, none⟩))) (hA48.ev (i := 26) (v := .agg #[.int .i64 0, .map none, .int .u64 0, .int .u64 0, .int .u64 0, .int .u64 0])) hx2_50 (by kernel_rfl) rfl (by simp [Value.oneCell']) ?_
    intro w49 hx49 hg49
    have hs49 := hg49.size
    refine sx_val hA48 rfl (ev_assign (ec _ (.int .i64 2)) _ rfl) ?_
    intro a51 hA51; clear hA48
    refine sx_nil ?_
    refine then_n ?_
    refine wp_ret ?_
    refine then_r ?_
    refine bodyPost_ret (rs_ct (v := .int .i64 2) Try.results36 hA51 (by kernel_rfl) (by kernel_rfl) hx49 Try.underlying56 rfl (by kernel_rfl)) hA51.2.1 ?_
    have hbel0_52 := Below.gN hbel0_8 hg6 hbel0_8.size
    have hbel0_53 := Below.gB hbel0_52 hg49 hbel0_52.size (by omega)
    have E : ask ⟨rs, bs⟩ k = 2 := by
      unfold ask
      rw [if_neg (by omega), if_pos (by show k < 0 ∨ (rs.length : Int) ≤ k; omega)]
    exact ⟨by rw [E], hbel0_53⟩
  have hp34 := of_decide_eq_false hd34
  refine sx_val (hg := (.inr ⟨2, false, 19, rfl, rfl, by kernel_rfl⟩)) (v := .bool false) hA33 rfl (ev_geqB (k := .i64) (m := k) (n := (rs.length : Int)) (hA33.ev (i := 20)) (hA33.ev (i := 23)) hd34 _ rfl) ?_
  intro a35 hA35; clear hA33
  refine sx_val hA35 rfl (ev_pickF (hA35.ev (i := 19) (v := .bool false)) (hA35.ev (i := 24) (v := .bool false)) _ rfl) ?_
  intro a36 hA36; clear hA35
  refine sx_nil ?_
  refine then_n ?_
  refine wp_cond_false (hA36.ev (i := 25) (v := .bool false)) ?_
  refine wp_skip ?_
  refine then_n ?_
  refine wp_seq ?_
  refine wp_region_lit ?_
  refine sx_val (v := .agg #[.slice A1 rs.length c1, .slice A2 bs.length c2]) hA36 rfl (ev_row (hA36.ev (i := 2) (v := .pointer (some ⟨B1, 0, none⟩))) hx1_31 Try.underlying25 rfl (n := 2) (by kernel_rfl) rfl _ rfl) ?_
  intro a37 hA37; clear hA36
  have hbel0_39 := Below.gN hbel0_8 hg6 hbel0_8.size
  have hok := (chs_ok (s := ⟨rs, bs⟩) (by omega)).2
  have hrl : rs.length ≤ 256 := hok.hi
  have hr1 : 1 ≤ rs.length := hok.lo
  have hbl : bs.length = rs.length := hok.len
  refine sx_call (f := 46) (args := #[.agg #[.slice A1 rs.length c1, .slice A2 bs.length c2]]) hA37 rfl (by decide) (.inl rfl) (ev_fn rfl (mp1 (hA37.ev (i := 27) (v := .agg #[.slice A1 rs.length c1, .slice A2 bs.length c2]))) (by kernel_rfl) _ rfl) (open_any A1 c1 A2 c2 rs bs _ ⟨(hs.r.below hbel0_39), (hs.b.below hbel0_39)⟩ hok.hi hok.len) ?_
  intro e38 w38 hR38
  obtain ⟨Mo38, rfl, hmp38, hle38, hb38⟩ := hR38
  refine ⟨_, rfl, ?_⟩
  intro a38 hA38
  clear hA37
  have hg38 := g0 hb38
  have hs38 := hg38.size
  clear hb38
  have hmMo38 := hmp38
  have hlMo38 := hmMo38.lt
  have hqMo38 := hle38
  have hx2_41 := hx2.gN hg6
  have hx2_42 := hx2_41.gN hg38
  refine sx_store hA38 rfl (.inl rfl) rfl (hA38.ev (i := 4) (v := .pointer (some ⟨B2, 0, none⟩))) (hA38.ev (i := 28) (v := .agg (bkr rs.length Mo38 (opm bs)))) hx2_42 (by kernel_rfl) rfl (bkr_one _ _ _) ?_
  intro w40 hx40 hg40
  have hs40 := hg40.size
  refine sx_val hA38 rfl (ev_assign (ec _ (.int .i64 0)) _ rfl) ?_
  intro a43 hA43; clear hA38
  refine sx_nil ?_
  refine then_n ?_
  refine wp_ret ?_
  refine bodyPost_ret (rs_ct (v := .int .i64 0) Try.results36 hA43 (by kernel_rfl) (by kernel_rfl) hx40 Try.underlying56 rfl (by kernel_rfl)) hA43.2.1 ?_
  have hbel0_44 := Below.gN hbel0_39 hg38 hbel0_39.size
  have hbel0_45 := Below.gB hbel0_44 hg40 hbel0_44.size (by omega)
  exact absurd (ask_mk (by omega) (by omega) (by show ¬ (rs.length : Int) ≤ _; omega)) ha

set_option maxHeartbeats 4000000 in
theorem at_ok (A1 : Option Addr) (c1 : Nat) (A2 : Option Addr) (c2 : Nat) (rs : List Int) (bs : List Bool) (k : Int) (w : World) (hs : GS w A1 c1 A2 c2 rs bs) (ha : ask ⟨rs, bs⟩ k = 0) : Calls Try.prog 36 #[.agg #[.slice A1 rs.length c1, .slice A2 bs.length c2], .int .i64 k] w (RBk w rs bs fun v => .tuple #[v, .int .i64 0]) := by
  have hq := ask_zero ha
  have hz1 : decide ((chs ⟨rs, bs⟩).1 = 0) = true := decide_eq_true hq.1
  have hz2 : decide (k < 0) = false := decide_eq_false (by omega)
  have hz3 : decide ((rs.length : Int) ≤ k) = false := decide_eq_false (by have := hq.2.2; show ¬ _; simp only at this; omega)
  have hok := (chs_ok hq.1).2
  have hrl : rs.length ≤ 256 := hok.hi
  have hbl : bs.length = rs.length := hok.len
  have hbel0 := below0 w
  refine sx_enter (N := 29) [(0, .agg #[.slice A1 rs.length c1, .slice A2 bs.length c2]), (1, .int .i64 k)] Try.func36 rfl Try.ntmps36 (by simp) (fun a z d s => (((Ag.nil z d).cons (s 1 _ rfl)).cons (s 0 _ rfl))) ?_
  intro a0 hA0
  refine wp_seq ?_
  refine wp_region_lit ?_
  refine sx_new (cs := #[.slice A1 rs.length c1, .slice A2 bs.length c2]) (t := 25) hA0 rfl (by decide) (.inl rfl) (ev_box (hA0.ev (i := 0) (v := .agg #[.slice A1 rs.length c1, .slice A2 bs.length c2])) rfl _ rfl) ?_
  intro B1 w1 a1 hB1 hx1 hg1 hA1
  clear hA0
  have hs1 := hg1.size
  have hl1 := hx1.lt
  refine sx_new (cs := #[.int .i64 0, .map none, .int .u64 0, .int .u64 0, .int .u64 0, .int .u64 0]) (t := 56) hA1 rfl (by decide) (.inl rfl) (ev_alloc (z := .agg (#[.int .i64 0, .map none, .int .u64 0, .int .u64 0, .int .u64 0, .int .u64 0])) (by kernel_rfl) (by kernel_rfl) _ rfl) ?_
  intro B2 w2 a2 hB2 hx2 hg2 hA2
  clear hA1
  have hs2 := hg2.size
  have hl2 := hx2.lt
  refine sx_val hA2 rfl (ev_assign (ec _ (.int .i64 0)) _ rfl) ?_
  intro a3 hA3; clear hA2
  refine sx_nil ?_
  refine then_n ?_
  refine wp_seq ?_
  refine wp_seq ?_
  refine wp_region_lit ?_
  have hx1_4 := hx1.gN hg2
  refine sx_val (v := .agg #[.slice A1 rs.length c1, .slice A2 bs.length c2]) hA3 rfl (ev_row (hA3.ev (i := 2) (v := .pointer (some ⟨B1, 0, none⟩))) hx1_4 Try.underlying25 rfl (n := 2) (by kernel_rfl) rfl _ rfl) ?_
  intro a5 hA5; clear hA3
  have hbel0_7 := Below.gN hbel0 hg1 hbel0.size
  have hbel0_8 := Below.gN hbel0_7 hg2 hbel0_7.size
  refine sx_call (f := 20) (args := #[.agg #[.slice A1 rs.length c1, .slice A2 bs.length c2]]) hA5 rfl (by decide) (.inl rfl) (ev_fn rfl (mp1 (hA5.ev (i := 9) (v := .agg #[.slice A1 rs.length c1, .slice A2 bs.length c2]))) (by kernel_rfl) _ rfl) (Check_any A1 c1 A2 c2 rs bs _ ⟨(hs.r.below hbel0_8), (hs.b.below hbel0_8)⟩ (by omega) (by omega)) ?_
  intro e6 w6 hR6
  obtain ⟨rfl, hb6⟩ := hR6
  refine ⟨_, rfl, ?_⟩
  intro a6 hA6
  clear hA5
  have hg6 := g0 hb6
  have hs6 := hg6.size
  clear hb6
  refine sx_val hA6 rfl (ev_move (hA6.ev (i := 10) (v := .tuple #[.int .i64 (chs ⟨rs, bs⟩).1, .int .i64 (chs ⟨rs, bs⟩).2])) _ rfl) ?_
  intro a9 hA9; clear hA6
  refine sx_val (v := .int .i64 (chs ⟨rs, bs⟩).1) hA9 rfl (ev_ext (hA9.ev (i := 8) (v := .tuple #[.int .i64 (chs ⟨rs, bs⟩).1, .int .i64 (chs ⟨rs, bs⟩).2])) rfl _ rfl) ?_
  intro a10 hA10; clear hA9
  refine sx_val (v := .int .i64 (chs ⟨rs, bs⟩).2) hA10 rfl (ev_ext (hA10.ev (i := 8) (v := .tuple #[.int .i64 (chs ⟨rs, bs⟩).1, .int .i64 (chs ⟨rs, bs⟩).2])) rfl _ rfl) ?_
  intro a11 hA11; clear hA10
  refine sx_val hA11 rfl (ev_assign (hA11.ev (i := 11) (v := .int .i64 (chs ⟨rs, bs⟩).1)) _ rfl) ?_
  intro a12 hA12; clear hA11
  refine sx_val hA12 rfl (ev_assign (hA12.ev (i := 12) (v := .int .i64 (chs ⟨rs, bs⟩).2)) _ rfl) ?_
  intro a13 hA13; clear hA12
  refine sx_nil ?_
  refine then_n ?_
  refine wp_seq ?_
  refine wp_region_lit ?_
  refine sx_val hA13 rfl (ev_move (hA13.ev (i := 6) (v := .int .i64 (chs ⟨rs, bs⟩).1)) _ rfl) ?_
  intro a14 hA14; clear hA13
  refine sx_val (v := .bool false) hA14 rfl (ev_neqB (k := .i64) (m := (chs ⟨rs, bs⟩).1) (n := 0) (hA14.ev (i := 13)) (ec _ (.int .i64 0)) (by simpa using hz1) _ rfl) ?_
  intro a15 hA15; clear hA14
  refine sx_nil ?_
  refine then_n ?_
  refine wp_cond_false (hA15.ev (i := 14) (v := .bool false)) ?_
  refine wp_skip ?_
  refine then_n ?_
  refine wp_seq ?_
  refine wp_seq ?_
  refine wp_region_lit ?_
  refine sx_val hA15 rfl (ev_move (hA15.ev (i := 1) (v := .int .i64 k)) _ rfl) ?_
  intro a16 hA16; clear hA15
  refine sx_val (v := .bool false) hA16 rfl (ev_lssB (k := .i64) (m := k) (n := 0) (hA16.ev (i := 17)) (ec _ (.int .i64 0)) hz2 _ rfl) ?_
  intro a17 hA17; clear hA16
  refine sx_val hA17 rfl (ev_move (hA17.ev (i := 18) (v := .bool false)) _ rfl) ?_
  intro a18 hA18; clear hA17
  refine sx_val (hg := (.inr ⟨2, false, 19, rfl, rfl, by kernel_rfl⟩)) hA18 rfl (ev_move (hA18.ev (i := 1) (v := .int .i64 k)) _ rfl) ?_
  intro a19 hA19; clear hA18
  refine sx_val (hg := (.inr ⟨2, false, 19, rfl, rfl, by kernel_rfl⟩)) (v := .pointer (some ⟨B1, 0, none⟩)) hA19 rfl (fb_Slots_0 (hA19.ev (i := 2) (v := .pointer (some ⟨B1, 0, none⟩))) _ rfl) ?_
  intro a20 hA20; clear hA19
  have hx1_21 := hx1_4.gN hg6
  refine sx_val (hg := (.inr ⟨2, false, 19, rfl, rfl, by kernel_rfl⟩)) (v := .slice A1 rs.length c1) hA20 rfl (ev_cell (v := .slice A1 rs.length c1) (hA20.ev (i := 21) (v := .pointer (some ⟨B1, 0, none⟩))) ((hx1_21.cell 0).trans rfl) Try.underlying22 rfl _ rfl) ?_
  intro a22 hA22; clear hA20
  refine sx_val (hg := (.inr ⟨2, false, 19, rfl, rfl, by kernel_rfl⟩)) (v := .int .i64 (rs.length : Int)) hA22 rfl (ev_len (hA22.ev (i := 22) (v := .slice A1 rs.length c1)) Try.underlying22 _ rfl) ?_
  intro a23 hA23; clear hA22
  refine sx_val (hg := (.inr ⟨2, false, 19, rfl, rfl, by kernel_rfl⟩)) (v := .bool false) hA23 rfl (ev_geqB (k := .i64) (m := k) (n := (rs.length : Int)) (hA23.ev (i := 20)) (hA23.ev (i := 23)) hz3 _ rfl) ?_
  intro a24 hA24; clear hA23
  refine sx_val hA24 rfl (ev_pickF (hA24.ev (i := 19) (v := .bool false)) (hA24.ev (i := 24) (v := .bool false)) _ rfl) ?_
  intro a25 hA25; clear hA24
  refine sx_nil ?_
  refine then_n ?_
  refine wp_cond_false (hA25.ev (i := 25) (v := .bool false)) ?_
  refine wp_skip ?_
  refine then_n ?_
  refine wp_seq ?_
  refine wp_region_lit ?_
  refine sx_val (v := .agg #[.slice A1 rs.length c1, .slice A2 bs.length c2]) hA25 rfl (ev_row (hA25.ev (i := 2) (v := .pointer (some ⟨B1, 0, none⟩))) hx1_21 Try.underlying25 rfl (n := 2) (by kernel_rfl) rfl _ rfl) ?_
  intro a26 hA26; clear hA25
  have hbel0_28 := Below.gN hbel0_8 hg6 hbel0_8.size
  have hok := (chs_ok (s := ⟨rs, bs⟩) (by omega)).2
  have hrl : rs.length ≤ 256 := hok.hi
  have hr1 : 1 ≤ rs.length := hok.lo
  have hbl : bs.length = rs.length := hok.len
  refine sx_call (f := 46) (args := #[.agg #[.slice A1 rs.length c1, .slice A2 bs.length c2]]) hA26 rfl (by decide) (.inl rfl) (ev_fn rfl (mp1 (hA26.ev (i := 27) (v := .agg #[.slice A1 rs.length c1, .slice A2 bs.length c2]))) (by kernel_rfl) _ rfl) (open_any A1 c1 A2 c2 rs bs _ ⟨(hs.r.below hbel0_28), (hs.b.below hbel0_28)⟩ hok.hi hok.len) ?_
  intro e27 w27 hR27
  obtain ⟨Mo27, rfl, hmp27, hle27, hb27⟩ := hR27
  refine ⟨_, rfl, ?_⟩
  intro a27 hA27
  clear hA26
  have hg27 := g0 hb27
  have hs27 := hg27.size
  clear hb27
  have hmMo27 := hmp27
  have hlMo27 := hmMo27.lt
  have hqMo27 := hle27
  have hx2_30 := hx2.gN hg6
  have hx2_31 := hx2_30.gN hg27
  refine sx_store hA27 rfl (.inl rfl) rfl (hA27.ev (i := 4) (v := .pointer (some ⟨B2, 0, none⟩))) (hA27.ev (i := 28) (v := .agg (bkr rs.length Mo27 (opm bs)))) hx2_31 (by kernel_rfl) rfl (bkr_one _ _ _) ?_
  intro w29 hx29 hg29
  have hs29 := hg29.size
  refine sx_val hA27 rfl (ev_assign (ec _ (.int .i64 0)) _ rfl) ?_
  intro a32 hA32; clear hA27
  refine sx_nil ?_
  refine then_n ?_
  refine wp_ret ?_
  refine bodyPost_ret (rs_ct (v := .int .i64 0) Try.results36 hA32 (by kernel_rfl) (by kernel_rfl) hx29 Try.underlying56 rfl (by kernel_rfl)) hA32.2.1 ?_
  have hmMo27_33 := hmMo27.gB hg29 (by omega)
  have hbel0_34 := Below.gN hbel0_28 hg27 hbel0_28.size
  have hbel0_35 := Below.gB hbel0_34 hg29 hbel0_34.size (by omega)
  exact ⟨Mo27, rfl, hmMo27_33, by omega, hbel0_35⟩
end Go.Proofs.Ytpoilgfblhacaaa
