/- role.Path: what it returns. -/
import Derived.Test.YtfacdnpgidnafaaDoorA3
import Derived.Test.YtfacdnpgidnafaaDoorP1
namespace Go.Proofs.YtfacdnpgidnafaaDoor
open Go.RowKit

/-- Block g is an array of integers of the call's own. -/
def Arr (w : World) (g : Nat) (t : TypeId) (xs : List Int) : Prop := w.heap[g]? = some (.cells (iv xs).toArray t (0, 0))
section
variable {w w' : World} {g : Nat} {t : TypeId} {xs : List Int}
theorem Arr.lt (h : Arr w g t xs) : g < w.heap.size := (Array.getElem?_eq_some_iff.1 h).1
theorem Arr.cell (h : Arr w g t xs) {j : Nat} (hj : j < xs.length) : w.cell? ⟨g, j, none⟩ = some (.int .i64 (xs[j]?.getD 0)) := by
  rw [cell_of_row w g j _ t (0, 0) h]
  simp [iv, hj]
theorem Arr.frozen (h : Arr w g t xs) (j : Nat) : w.frozen? ⟨g, j, none⟩ = false := by
  unfold Arr at h
  simp [World.frozen?, h]
theorem Arr.set (h : Arr w g t xs) (j : Nat) (u : Int) : Arr (w.setCell ⟨g, j, none⟩ (.int .i64 u)) g t (xs.set j u) := by
  unfold Arr at h ⊢
  simp [World.setCell, Array.getElem?_modify, h, ← iv_set]
theorem Arr.alloc (h : Arr w g t xs) (o : Obj) : Arr (w.alloc o) g t xs := (Below.heap_alloc w o g h.lt).trans h
theorem Arr.drew (h : Arr w g t xs) : Arr w.drew g t xs := h
theorem Arr.grown {row : Option Nat} (h : Arr w g t xs) (hb : w.grownBy w' row) (hg : some g ≠ row) : Arr w' g t xs := (hb.block g h.lt hg).trans h
theorem Arr.below (h : Arr w g t xs) (hb : Below w.heap.size w w') : Arr w' g t xs := (hb.block g h.lt).trans h
end

/-- Where the rest of a slice begins. -/
def cutA (c k : Nat) (A : Option Addr) : Option Addr := if c = k then A else A.map (·.add k)

theorem OwnI.tail {w : World} {base : Nat} {A : Option Addr} {n c : Nat} {x : Int} {xs : List Int} (h : OwnI w base A n c (x :: xs)) : OwnI w base (cutA c 1 A) (n - 1) (c - 1) xs := by
  have hn := h.len
  obtain ⟨g, off, rfl, _⟩ := h.at_ (by rw [hn]; simp)
  rw [List.length_cons] at hn
  refine ⟨by rw [iv_len, hn]; simp, .inr ?_⟩
  rcases h.2 with ⟨hv, h0⟩ | ⟨g', off', cap, cur, hv, hb, hgg, h1, h2, h3, ht⟩
  · injection hv with hv; cases hv
  · injection hv with hA _ hc
    injection hA with hA
    injection hA with hA hO _
    subst hA hO hc
    unfold cutA
    by_cases hc1 : c = 1
    · subst hc1
      have hxs : xs = [] := List.eq_nil_of_length_eq_zero (by omega)
      subst hxs
      have hn1 : n = 1 := by simpa using hn
      subst hn1
      exact ⟨g, off, 0, cur, by simp, hb, hgg, by omega, by simp [maxLen], by omega, by simp [iv]⟩
    · refine ⟨g, off + 1, c - 1, cur, by simp [hc1, mk_add], hb, hgg, by omega, by omega, by omega, ?_⟩
      have h5 : (List.drop off cur.toList).drop 1 = cur.toList.drop (off + 1) := by rw [List.drop_drop]
      rw [← h5]
      have h6 := congrArg (fun l => l.drop 1) ht
      simp only [List.drop_take] at h6
      rw [show (n - 1) * 1 = n * 1 - 1 from by omega, h6]
      simp [iv]

/-- What holds in the search of role.Path: the array of predecessors, the queue. -/
structure PathAt (w : World) (A : Option Addr) (n c : Nat) (s : List Int × List Int) (wr : World) : Prop where
  arr : Arr wr w.heap.size 57 s.1
  own : OwnI wr (w.heap.size + 1) A n c s.2
  old : Below w.heap.size w wr

def fill (j : Nat) : List Int := List.replicate j (-1) ++ List.replicate (8 - j) 0
theorem fill_step : ∀ j, j < 8 → (fill j).set j (-1) = fill (j + 1) := by decide
theorem fill_len (j : Nat) (h : j ≤ 8) : (fill j).length = 8 := by simp [fill]; omega

theorem Laid.below {w w' : World} (h : Laid w) (h0 : 0 < w.heap.size) (hb : Below w.heap.size w w') : Laid w' := fun j hj => (hb.cell (p := ⟨0, j, none⟩) h0).trans (h j hj)

theorem look_yes {r : Int} {s : List Int × List Int} {k : Nat} (h : mayI r k = true) (h' : s.1[k]?.getD 0 < 0) : lookI r s k = (s.1.set k r, s.2 ++ [(k : Int)]) := by simp [lookI, h, h']
theorem look_no {r : Int} {s : List Int × List Int} {k : Nat} (h : ¬ (mayI r k = true ∧ s.1[k]?.getD 0 < 0)) : lookI r s k = s := by
  unfold lookI
  rw [if_neg (by simpa using h)]
theorem look_len (r : Int) (s : List Int × List Int) (k : Nat) : (lookI r s k).1.length = s.1.length ∧ (lookI r s k).2.length ≤ s.2.length + 1 := by
  unfold lookI
  split <;> simp
theorem looks_len (r : Int) (s : List Int × List Int) (k : Nat) : (looks r s k).1.length = s.1.length ∧ (looks r s k).2.length ≤ s.2.length + k := by
  induction k with
  | zero => simp [looks]
  | succ k ih =>
    have := look_len r (looks r s k) k
    simp only [looks]
    omega

theorem goOn_iff {t : Nat} {s : List Int × List Int} : goOn t s = true ↔ s.2 ≠ [] ∧ s.1[t]?.getD 0 < 0 := by simp [goOn]
theorem srch_stay {f t j : Nat} (h : goOn t (srch f t j) = false) (m : Nat) : srch f t (j + m) = srch f t j := by
  induction m with
  | zero => rfl
  | succ m ih =>
    show (if goOn t (srch f t (j + m)) then rnd (srch f t (j + m)) else srch f t (j + m)) = _
    rw [ih, h]
    rfl
theorem back_stay {b : List Int} {f t j : Nat} (h : (back b f t j).1 = f) (m : Nat) : back b f t (j + m) = back b f t j := by
  induction m with
  | zero => rfl
  | succ m ih =>
    show (if (back b f t (j + m)).1 = f then back b f t (j + m) else _) = _
    rw [ih, if_pos h]

theorem cell_new1 (W : World) (x : Value) (t : TypeId) (B : Nat) (hB : B = W.heap.size) : (W.alloc (.cells #[x] t)).cell? ⟨B, 0, none⟩ = some x := by
  subst hB
  rw [World.cell?_alloc_at _ _ _ _ rfl]; rfl
theorem size_setCell (w : World) (p : Addr) (u : Value) : (w.setCell p u).heap.size = w.heap.size := by simp [World.setCell]

theorem run_tail (W : World) (A : Option Addr) (n c : Nat) (hn : 1 ≤ n) : (Instr.slice 25 (.slice A n c) (some (.int .i64 1)) none none).run Tryd.prog W = .ok (.slice (cutA c 1 A) (n - 1) (c - 1)) W := by
  obtain ⟨i0, hi, hz0, hz1, hz2⟩ := info_parts int_info
  have hb := run_sliceBound (P := Tryd.prog) (w := W) .i64 1 n .sliceB (by omega) (by omega)
  simp [Instr.slice, run_underlying Tryd.underlying25, Instr.sliceBounds, hb, sizeOf, typeInfo, hi, hz1, cutA]

theorem PathAt.far {w wr : World} {A : Option Addr} {n c : Nat} {s : List Int × List Int} (h : PathAt w A n c s wr) : Value.ownBlock (.slice A n c) ≠ some w.heap.size := fun e => by
  have := (h.own.lt _ e).1
  omega
theorem PathAt.step {w wr w1 : World} {A A' : Option Addr} {n c c' j : Nat} {r : Int} {s : List Int × List Int} (h : PathAt w A n c s wr)
    (h1 : OwnI w1 (w.heap.size + 1) A' (n + 1) c' (s.2 ++ [(j : Int)])) (hg : ((wr.setCell ⟨w.heap.size, j, none⟩ (.int .i64 r)).alloc (.cells #[.int .i64 (j : Int)] 3)).grownBy w1 (Value.ownBlock (.slice A n c))) :
    PathAt w A' (n + 1) c' (s.1.set j r, s.2 ++ [(j : Int)]) w1 := by
  have hlt := h.arr.lt
  have hfar := h.far
  refine ⟨((h.arr.set j r).alloc _).grown hg (fun e => hfar e.symm), h1, ?_⟩
  refine ((h.old.setCell (Nat.le_refl _) _).alloc (by rw [size_setCell]; omega) _).grown hg (by simp; omega) (fun k hk => ?_)
  have := (h.own.lt k hk).1
  omega
theorem PathAt.mid {w wr : World} {A : Option Addr} {n c : Nat} {s : List Int × List Int} (h : PathAt w A n c s wr) (j : Nat) (r x : Int) :
    OwnI ((wr.setCell ⟨w.heap.size, j, none⟩ (.int .i64 r)).alloc (.cells #[.int .i64 x] 3)) (w.heap.size + 1) A n c s.2 :=
  Own.alloc (Own.setCell_far h.own (p := ⟨w.heap.size, j, none⟩) h.far _) _

theorem PathAt.put {w wr w1 : World} {A A' : Option Addr} {n c c' : Nat} {r : Int} {s : List Int × List Int} (h : PathAt w A n c s wr)
    (h1 : OwnI w1 (w.heap.size + 1) A' (n + 1) c' (s.2 ++ [r])) (hg : (wr.alloc (.cells #[.int .i64 r] 3)).grownBy w1 (Value.ownBlock (.slice A n c))) :
    PathAt w A' (n + 1) c' (s.1, s.2 ++ [r]) w1 := by
  have hlt := h.arr.lt
  have hfar := h.far
  refine ⟨(h.arr.alloc _).grown hg (fun e => hfar e.symm), h1, ?_⟩
  refine (h.old.alloc (by omega) _).grown hg (by simp; omega) (fun k hk => ?_)
  have := (h.own.lt k hk).1
  omega

set_option maxHeartbeats 2000000 in
theorem Path_in (f t : Nat) (hf : f < 8) (ht : t < 8) (w : World) (hL : Laid w) (h0 : 0 < w.heap.size) :
    Calls Tryd.prog 14 #[.int .i64 f, .int .i64 t] w (RetI w (pathB f t).1 fun v => .returned (.tuple #[v, .int .i64 (pathB f t).2])) := by
  have h1 : isR f = true := isR_yes (by omega) (by omega)
  have h2 : isR t = true := isR_yes (by omega) (by omega)
  have hsl := run_tail
  go_enter Tryd.func14, Tryd.ntmps14
  go_wp2_with (first | (go_at_call 37; refine (isRole_any _ _).mono ?_; rintro e w' ⟨rfl, rfl⟩))
  clear h1 h2
  go_loopg [21] 8 (fun k i wr => ∃ j : Nat, k = 8 - j ∧ j ≤ 8 ∧ i = .int .i64 j ∧ Arr wr w.heap.size 57 (fill j) ∧ Below w.heap.size w wr ∧ wr.heap.size = w.heap.size + 1)
  case atStart => exact ⟨0, rfl, by omega, rfl, heap_alloc_new w _, (Below.refl _ _).alloc (Nat.le_refl _) _, by simp⟩
  case round =>
    obtain ⟨j, rfl, hj, rfl, ha, hb, hz⟩ := hrel
    have Hz := Lib.hid hz; clear hz
    by_cases hlt : j < 8
    · have hfz := ha.frozen j
      have hc := ha.cell (j := j) (by rw [fill_len j hj]; omega)
      go_wp2
      go_roundg (8 - (j + 1))
      case measure => omega
      case rel =>
        have hs := ha.set j (-1)
        rw [fill_step j hlt] at hs
        exact ⟨j + 1, rfl, by omega, by go_num, hs, hb.setCell (Nat.le_refl _) _, by simpa [World.setCell] using Hz.out⟩
    · have hj8 := Lib.hid (show j = 8 by omega)
      have hfz := ha.frozen f
      have hc := ha.cell (j := f) (by rw [fill_len j hj]; omega)
      have hjd : decide ((j : Int) < 8) = false := by simp; omega
      go_wp2
      clear hfz hc
      go_loopg [8] 8 (fun k v wx => ∃ (m : Nat) (A : Option Addr) (n c : Nat), k = 8 - m ∧ m ≤ 8 ∧ v = .slice A n c ∧ PathAt w A n c (srch f t m) wx)
      case atStart =>
        refine ⟨0, _, _, _, rfl, by omega, rfl, ?_, ?_, ?_⟩
        · have e := hj8.out
          subst e
          exact (ha.set f f).alloc _
        · exact ⟨rfl, .inr ⟨wr.heap.size, 0, 1, _, rfl, by rw [Hz.out]; omega, by rw [← size_setCell wr ⟨w.heap.size, f, none⟩ (.int .i64 f)]; exact heap_alloc_new _ _, Nat.le_refl _, by simp [maxLen], by simp, rfl⟩⟩
        · exact (hb.setCell (Nat.le_refl _) _).alloc (by rw [size_setCell, Hz.out]; omega) _
      case round =>
        obtain ⟨m, A, n, c, rfl, hm, rfl, hp⟩ := hrel
        clear ha hb Hz
        have hok := (srch_ok f hf t ht).1 m (by omega)
        have hend := (srch_ok f hf t ht).2
        simp only [okS, Bool.and_eq_true, beq_iff_eq, decide_eq_true_eq] at hok
        obtain ⟨⟨⟨hl1, hl2⟩, hq⟩, hbs⟩ := hok
        have hn := Lib.hid hp.own.len
        by_cases hgo : goOn t (srch f t m) = true
        · have hm8 : m < 8 := by
            rcases Nat.lt_or_ge m 8 with h | h
            · exact h
            · obtain rfl : m = 8 := by omega
              rw [hgo] at hend; cases hend
          have Hs := Lib.hid (show srch f t (m + 1) = rnd (srch f t m) by show (if goOn t (srch f t m) then _ else _) = _; rw [hgo]; rfl)
          obtain ⟨hne, hbt⟩ := goOn_iff.1 hgo
          clear hgo hend
          generalize srch f t m = s at *
          obtain ⟨b, q⟩ := s
          rcases q with _ | ⟨hd, tl⟩
          · exact absurd rfl hne
          clear hne
          have hhd : 0 ≤ hd ∧ hd < 8 := by simp at hq; exact hq.1
          have htl : n ≤ 8 := by rw [hn.out]; exact hl2
          have hn1 : 1 ≤ n := by rw [hn.out]; simp
          obtain ⟨hd0, hd8⟩ := hhd
          have htown := hp.own.tail
          obtain ⟨g, off, rfl, _, _, hcq, _⟩ := hp.own.at_ (by omega)
          have hc0 := hcq 0 (by omega)
          simp only [Nat.add_zero, List.getElem?_cons_zero, Option.getD_some] at hc0
          have hct := hp.arr.cell (j := t) (by simp only at hl1 ⊢; omega)
          have Hl1 := Lib.hid hl1
          clear hcq hq hbs hl1 hl2
          have hn0 : (0 : Int) < n := by omega
          go_wp2
          go_loopg [8, 46] 8 (fun k v i wx => ∃ (p : Nat) (A : Option Addr) (n c : Nat), k = 8 - p ∧ p ≤ 8 ∧ v = .slice A n c ∧ i = .int .i64 p ∧ PathAt w A n c (looks hd (b, tl) p) wx)
          case atStart => exact ⟨0, _, _, _, rfl, by omega, rfl, rfl, hp.arr, htown, hp.old⟩
          case round =>
            obtain ⟨p, A1, n1, c1, rfl, hp8, rfl, rfl, hp1⟩ := hrel
            have hl1 := (looks_len hd (b, tl) p).1
            have hl2 := (looks_len hd (b, tl) p).2
            have hn1' := hp1.own.len
            have htl1 : tl.length + 1 ≤ 8 := by have := hn.out; simp at this; omega
            have hn1 : n1 ≤ 16 := by simp at hl2; omega
            clear hl2 hn1' htl1
            by_cases hlt : p < 8
            · have Hs1 := Lib.hid (show looks hd (b, tl) (p + 1) = lookI hd (looks hd (b, tl) p) p from rfl)
              have hL1 := hL.below h0 hp1.old
              have hcp := hp1.arr.cell (j := p) (by rw [hl1]; simp only; rw [Hl1.out]; omega)
              have hfp := hp1.arr.frozen p
              generalize looks hd (b, tl) p = s1 at *
              have Hl := Lib.hid hl1; clear hl1
              clear hc0 hct hbt
              by_cases hmay : mayI hd p = true
              · by_cases hbp : s1.1[p]?.getD 0 < 0
                · have hmid := hp1.mid p hd p
                  have Hfin := Lib.hid (look_yes (s := s1) hmay hbp)
                  have hcn := cell_new1 (wr.setCell ⟨w.heap.size, p, none⟩ (.int .i64 hd)) (.int .i64 (p : Int)) 3 wr.heap.size (size_setCell _ _ _).symm
                  have hbs : w.heap.size + 1 ≤ wr.heap.size := hp1.arr.lt
                  go_wp2_with (first | (go_at_call 38; refine (rmay_any hd p hd0 hd8 (by omega) (by omega) _ hL1).mono ?_; rintro e w' ⟨rfl, rfl⟩) | (at_builtin; refine wpList_ap1 _ rfl _ _ rfl (w.heap.size + 1) A1 n1 c1 s1.2 rfl hmid ⟨wr.heap.size, 0, none⟩ 1 p rfl hcn (by omega) (by simp; omega) ?_; intro A2 c2 w2 hown2 hg2))
                  go_roundg (8 - (p + 1))
                  case measure => omega
                  case rel =>
                    refine ⟨p + 1, A2, n1 + 1, c2, rfl, by omega, rfl, by go_num, ?_⟩
                    rw [Hs1.out, Hfin.out]
                    exact hp1.step hown2 hg2
                · have Hfin := Lib.hid (look_no (s := s1) (r := hd) (k := p) (fun h => hbp h.2))
                  have hbp' : decide (s1.1[p]?.getD 0 < 0) = false := by simpa using hbp
                  go_wp2_with (first | (go_at_call 38; refine (rmay_any hd p hd0 hd8 (by omega) (by omega) _ hL1).mono ?_; rintro e w' ⟨rfl, rfl⟩))
                  go_roundg (8 - (p + 1))
                  case measure => omega
                  case rel =>
                    refine ⟨p + 1, A1, n1, c1, rfl, by omega, rfl, by go_num, ?_⟩
                    rw [Hs1.out, Hfin.out]
                    exact hp1
              · have Hfin := Lib.hid (look_no (s := s1) (r := hd) (k := p) (fun h => hmay h.1))
                have hmay' : mayI hd p = false := by simpa using hmay
                go_wp2_with (first | (go_at_call 38; refine (rmay_any hd p hd0 hd8 (by omega) (by omega) _ hL1).mono ?_; rintro e w' ⟨rfl, rfl⟩))
                go_roundg (8 - (p + 1))
                case measure => omega
                case rel =>
                  refine ⟨p + 1, A1, n1, c1, rfl, by omega, rfl, by go_num, ?_⟩
                  rw [Hs1.out, Hfin.out]
                  exact hp1
            · have hp8' := Lib.hid (show p = 8 by omega)
              clear hc0 hct hbt
              have hpd : decide ((p : Int) < 8) = false := by simp; omega
              go_wp2
              go_roundg (8 - (m + 1))
              case measure => omega
              case rel =>
                refine ⟨m + 1, A1, n1, c1, rfl, by omega, rfl, ?_⟩
                rw [Hs.out]
                have := hp8'.out
                subst this
                exact hp1
        · have hgo' : goOn t (srch f t m) = false := by simpa using hgo
          have Hst := Lib.hid (show bOf f t = (srch f t m).1 by
            have := srch_stay hgo' (8 - m)
            rw [show m + (8 - m) = 8 from by omega] at this
            unfold bOf
            rw [this])
          have hb8 : (bOf f t).length = 8 := by rw [Hst.out]; exact hl1
          have ha1 : Arr wr w.heap.size 57 (bOf f t) := by rw [Hst.out]; exact hp.arr
          have hct := ha1.cell (j := t) (by omega)
          have hlt8 := ha1.lt
          have hq1 : ¬ ((0 : Int) < n ∧ (bOf f t)[t]?.getD 0 < 0) := by
            intro h
            apply hgo
            rw [goOn_iff]
            refine ⟨fun e => ?_, by rw [← Hst.out]; exact h.2⟩
            have := hn.out
            rw [e] at this
            simp at this
            omega
          clear hgo hgo' hbs hq hl2 hl1 hend
          have hold := hp.old
          clear hp
          have Hn8 := Lib.hid hb8; clear hb8
          by_cases hbt : (bOf f t)[t]?.getD 0 < 0
          · have hn0 : n ≤ 0 := by omega
            have hn0' : decide ((0 : Int) < n) = false := by simp; omega
            have Hres := Lib.hid (show pathB f t = ([], 14) by unfold pathB; rw [if_pos hbt])
            clear hq1
            go_wp2
            go_ret2
            rw [Hres.out]
            exact ⟨none, 0, rfl, GI.nil _, hold⟩
          · have hbt' : decide ((bOf f t)[t]?.getD 0 < 0) = false := by simpa using hbt
            obtain ⟨hbk, hbe⟩ := back_ok f hf t ht hbt
            have Hbe := Lib.hid hbe
            have Hbk := Lib.hid hbk
            have Hres := Lib.hid (show pathB f t = ((back (bOf f t) f t 8).2.reverse, 0) by unfold pathB; rw [if_neg hbt])
            clear hq1 hbe hbk hbt
            generalize bOf f t = b at *
            by_cases hn0 : (0 : Int) < n
            all_goals
              go_wp2
              go_loopg [11, 12] 8 (fun k v i wx => ∃ (p : Nat) (A : Option Addr) (n c : Nat), k = 8 - p ∧ p ≤ 8 ∧ v = .slice A n c ∧ i = .int .i64 (back b f t p).1 ∧ PathAt w A n c (b, (back b f t p).2) wx)
              case atStart => exact ⟨0, _, _, _, rfl, by omega, rfl, rfl, ha1, OwnI.none _ _, hold⟩
              case round =>
                obtain ⟨p, A1, n1, c1, rfl, hp8, rfl, rfl, hp1⟩ := hrel
                obtain ⟨r0, r8, rl⟩ := Hbk.out p (by omega)
                have hn1 : n1 ≤ 16 := by have := hp1.own.len; simp at this; omega
                clear hct rl
                by_cases hre : (back b f t p).1 = f
                · have Hst2 := Lib.hid (show back b f t 8 = back b f t p by
                    have := back_stay hre (8 - p)
                    rwa [show p + (8 - p) = 8 from by omega] at this)
                  have hre' : ((back b f t p).1 != (f : Int)) = false := by simp [hre]
                  have Hre := Lib.hid hre; clear hre
                  generalize back b f t p = s1 at *
                  obtain ⟨r1, q1⟩ := s1
                  simp only at hre' r0 r8 Hre hp1
                  go_wp2_with (first | (go_at_call 41; refine (reverse_any (w.heap.size + 1) A1 n1 c1 q1 _ hp1.own (by omega)).mono ?_; rintro e w3 ⟨rfl, hown3, hg3⟩))
                  go_ret2
                  rw [Hres.out, Hst2.out]
                  have hl3 := hown3.len
                  subst hl3
                  refine ⟨A1, c1, rfl, hown3.gi, hp1.old.grown hg3 (Nat.le_of_lt hp1.arr.lt) (fun k hk => ?_)⟩
                  have := (hp1.own.lt k hk).1
                  omega
                · have hp7 : p < 8 := by
                    rcases Nat.lt_or_ge p 8 with h | h
                    · exact h
                    · obtain rfl : p = 8 := by omega
                      exact absurd Hbe.out hre
                  have Hs2 := Lib.hid (show back b f t (p + 1) = (b[(back b f t p).1.toNat]?.getD 0, (back b f t p).2 ++ [(back b f t p).1]) by
                    show (if (back b f t p).1 = f then _ else _) = _
                    rw [if_neg hre])
                  have hre' : ((back b f t p).1 != (f : Int)) = true := by simp [hre]
                  clear hre
                  generalize back b f t p = s1 at *
                  obtain ⟨r1, q1⟩ := s1
                  simp only at hre' r0 r8 hp1 Hs2
                  obtain ⟨r2, rfl⟩ := Int.eq_ofNat_of_zero_le r0
                  have hr2 : r2 < 8 := by omega
                  have hmid : OwnI (wr.alloc (.cells #[.int .i64 (r2 : Int)] 3)) (w.heap.size + 1) A1 n1 c1 q1 := Own.alloc hp1.own _
                  have hcn := cell_new1 wr (.int .i64 (r2 : Int)) 3 wr.heap.size rfl
                  have hbs : w.heap.size + 1 ≤ wr.heap.size := hp1.arr.lt
                  go_wp2_with (first | (at_builtin; refine wpList_ap1 _ rfl _ _ rfl (w.heap.size + 1) A1 n1 c1 q1 rfl hmid ⟨wr.heap.size, 0, none⟩ 1 r2 rfl hcn (by omega) (by simp; omega) ?_; intro A2 c2 w2 hown2 hg2; have hp2 := hp1.put hown2 hg2; have hcb := hp2.arr.cell (j := r2) (by simp only; rw [Hn8.out]; omega); simp only at hcb))
                  go_roundg (8 - (p + 1))
                  case measure => omega
                  case rel =>
                    refine ⟨p + 1, A2, n1 + 1, c2, rfl, by omega, rfl, by rw [Hs2.out]; rfl, ?_⟩
                    rw [Hs2.out]
                    exact hp2

def pathR (f t : Int) : List Int × Int := if isR f && isR t then pathB f.toNat t.toNat else ([], 14)

set_option maxHeartbeats 400000 in
theorem Path_any (f t : Int) (w : World) (hL : Laid w) (h0 : 0 < w.heap.size) :
    Calls Tryd.prog 14 #[.int .i64 f, .int .i64 t] w (RetI w (pathR f t).1 fun v => .returned (.tuple #[v, .int .i64 (pathR f t).2])) := by
  by_cases h1 : isR f = true
  · by_cases h2 : isR t = true
    · obtain ⟨a0, a1⟩ := isR_iff.1 h1
      obtain ⟨b0, b1⟩ := isR_iff.1 h2
      obtain ⟨f, rfl⟩ := Int.eq_ofNat_of_zero_le a0
      obtain ⟨t, rfl⟩ := Int.eq_ofNat_of_zero_le b0
      have e : pathR f t = pathB f t := by simp [pathR, h1, h2]
      rw [e]
      exact Path_in f t (by omega) (by omega) w hL h0
    · have h2' : isR t = false := by simpa using h2
      have e : pathR f t = ([], 14) := by simp [pathR, h2']
      rw [e]
      go_enter Tryd.func14, Tryd.ntmps14
      go_wp2_with (first | (go_at_call 37; refine (isRole_any _ _).mono ?_; rintro e w' ⟨rfl, rfl⟩))
      go_ret2
      exact ⟨none, 0, rfl, GI.nil _, Below.refl _ _⟩
  · have h1' : isR f = false := by simpa using h1
    have e : pathR f t = ([], 14) := by simp [pathR, h1']
    rw [e]
    go_enter Tryd.func14, Tryd.ntmps14
    go_wp2_with (first | (go_at_call 37; refine (isRole_any _ _).mono ?_; rintro e w' ⟨rfl, rfl⟩))
    go_ret2
    exact ⟨none, 0, rfl, GI.nil _, Below.refl _ _⟩
end Go.Proofs.YtfacdnpgidnafaaDoor
