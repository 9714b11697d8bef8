/- The reference's distances and Path: what they return. -/
import Derived.Test.YtfacdnpgidnafaaDoorP2
namespace Go.Proofs.YtfacdnpgidnafaaDoor
open Go.RowKit

theorem smay_q (f t : Int) (w : World) :
    Calls Tryd.prog 40 #[.int .i64 f, .int .i64 t] w fun e w' => e = .returned (.bool (mayI f t)) ∧ w' = w := (smay_any f t w).mono fun _ _ h => ⟨h.1, h.2.symm⟩

theorem dist1_len (r i : Nat) (d : List Int) (k : Nat) : (dist1 r i d k).length = d.length := by
  induction k with
  | zero => rfl
  | succ k ih => simp only [dist1, distI]; split <;> simp [ih]
theorem dist2_len (r : Nat) (d : List Int) (i : Nat) : (dist2 r d i).length = d.length := by
  induction i with
  | zero => rfl
  | succ i ih => simp only [dist2]; rw [dist1_len, ih]
theorem dist3_len (d : List Int) (r : Nat) : (dist3 d r).length = d.length := by
  induction r with
  | zero => rfl
  | succ r ih => simp only [dist3]; rw [dist2_len, ih]
theorem distI_yes {r i k : Nat} {d : List Int} (h1 : d[i]?.getD 0 < 0) (h2 : (d[k]?.getD 0 == (r : Int)) = true) (h3 : mayI i k = true) : distI r i k d = d.set i ((r : Int) + 1) := by
  unfold distI
  rw [if_pos (by simp only [Bool.and_eq_true, decide_eq_true_eq]; exact ⟨⟨h1, h2⟩, h3⟩)]
theorem distI_no {r i k : Nat} {d : List Int} (h : ¬ (d[i]?.getD 0 < 0 ∧ (d[k]?.getD 0 == (r : Int)) = true ∧ mayI i k = true)) : distI r i k d = d := by
  unfold distI
  rw [if_neg (by simp only [Bool.and_eq_true, decide_eq_true_eq]; exact fun h' => h ⟨h'.1.1, h'.1.2, h'.2⟩)]

/-- The distances lie in a block of the call's own. -/
structure DistAt (w : World) (d : List Int) (wr : World) : Prop where
  arr : Arr wr w.heap.size 3 d
  old : Below w.heap.size w wr
theorem DistAt.set {w wr : World} {d : List Int} (h : DistAt w d wr) (j : Nat) (u : Int) : DistAt w (d.set j u) (wr.setCell ⟨w.heap.size, j, none⟩ (.int .i64 u)) := ⟨h.arr.set j u, h.old.setCell (Nat.le_refl _) _⟩

set_option maxHeartbeats 2000000 in
set_option maxRecDepth 100000 in
theorem distances_in (t : Nat) (ht : t < 8) (w : World) :
    Calls Tryd.prog 42 #[.int .i64 t] w fun e w' => e = .returned (.slice (some ⟨w.heap.size, 0, none⟩) 8 8) ∧ DistAt w (dist t) w' := by
  have hmk : ∀ W : World, (Instr.makeSlice 25 (.int .i64 8) (.int .i64 8)).run Tryd.prog W = .ok (.slice (some ⟨W.heap.size, 0, none⟩) 8 8) (W.alloc (.cells (iv (fill 0)).toArray 3)) := fun _ => by kernel_rfl
  generalize hF : (iv (fill 0)).toArray = F0 at hmk
  have HF := Lib.hid hF; clear hF
  go_enter Tryd.func42, Tryd.ntmps42
  go_wp2
  clear hmk
  go_loopg [4] 8 (fun k i wx => ∃ j : Nat, k = 8 - j ∧ j ≤ 8 ∧ i = .int .i64 j ∧ DistAt w (fill j) wx)
  case atStart => exact ⟨0, rfl, by omega, rfl, by rw [← HF.out]; exact heap_alloc_new w _, (Below.refl _ _).alloc (Nat.le_refl _) _⟩
  case round =>
    obtain ⟨j, rfl, hj, rfl, ha⟩ := hrel
    by_cases hlt : j < 8
    · have hfz := ha.arr.frozen j
      have hc := ha.arr.cell (j := j) (by rw [fill_len j hj]; omega)
      go_wp2
      go_roundg (8 - (j + 1))
      case measure => omega
      case rel =>
        have hs := ha.set j (-1)
        rw [fill_step j hlt] at hs
        exact ⟨j + 1, rfl, by omega, by go_num, hs⟩
    · have hj8 := Lib.hid (show j = 8 by omega)
      have hfz := ha.arr.frozen t
      have hc := ha.arr.cell (j := t) (by rw [fill_len j hj]; omega)
      have hjd : decide ((j : Int) < 8) = false := by simp; omega
      go_wp2
      clear hfz hc
      go_loopg [5, 6, 7] 8 (fun k i _ _ wx => ∃ r : Nat, k = 8 - r ∧ r ≤ 8 ∧ i = .int .i64 r ∧ DistAt w (dist3 ((fill 8).set t 0) r) wx)
      case atStart => exact ⟨0, rfl, by omega, rfl, by have := ha.set t 0; rw [hj8.out] at this; exact this⟩
      case round =>
        obtain ⟨r, rfl, hr, rfl, hd⟩ := hrel
        clear ha
        by_cases hlt : r < 8
        · have Hs3 := Lib.hid (show ∀ e, e = 8 → dist3 ((fill 8).set t 0) (r + 1) = dist2 r (dist3 ((fill 8).set t 0) r) e from fun e he => by subst he; rfl)
          have Hl3 := Lib.hid (show (dist3 ((fill 8).set t 0) r).length = 8 by rw [dist3_len]; simp [fill])
          generalize dist3 ((fill 8).set t 0) r = d3 at *
          have hrd : decide ((r : Int) < 8) = true := by simp; omega
          go_wp2
          go_loopg [6, 7] 8 (fun k i _ wx => ∃ p : Nat, k = 8 - p ∧ p ≤ 8 ∧ i = .int .i64 p ∧ DistAt w (dist2 r d3 p) wx)
          case atStart => exact ⟨0, rfl, by omega, rfl, hd⟩
          case round =>
            obtain ⟨p, rfl, hp, rfl, hd2⟩ := hrel
            clear hd
            by_cases hlt : p < 8
            · have Hs2 := Lib.hid (show ∀ e, e = 8 → dist2 r d3 (p + 1) = dist1 r p (dist2 r d3 p) e from fun e he => by subst he; rfl)
              have Hl2 := Lib.hid (show (dist2 r d3 p).length = 8 by rw [dist2_len]; exact Hl3.out)
              generalize dist2 r d3 p = d2 at *
              have hpd : decide ((p : Int) < 8) = true := by simp; omega
              go_wp2
              go_loopg [7] 8 (fun k i wx => ∃ q : Nat, k = 8 - q ∧ q ≤ 8 ∧ i = .int .i64 q ∧ DistAt w (dist1 r p d2 q) wx)
              case atStart => exact ⟨0, rfl, by omega, rfl, hd2⟩
              case round =>
                obtain ⟨q, rfl, hq, rfl, hd1⟩ := hrel
                clear hd2
                by_cases hlt : q < 8
                · have Hs1 := Lib.hid (show dist1 r p d2 (q + 1) = distI r p q (dist1 r p d2 q) from rfl)
                  have hl1 : (dist1 r p d2 q).length = 8 := by rw [dist1_len]; exact Hl2.out
                  generalize dist1 r p d2 q = d1 at *
                  have hcp := hd1.arr.cell (j := p) (by omega)
                  have hcq := hd1.arr.cell (j := q) (by omega)
                  have hfp := hd1.arr.frozen p
                  have Hl1 := Lib.hid hl1; clear hl1
                  have hqd : decide ((q : Int) < 8) = true := by simp; omega
                  by_cases c1 : d1[p]?.getD 0 < 0
                  · by_cases c2 : (d1[q]?.getD 0 == (r : Int)) = true
                    · by_cases c3 : mayI p q = true
                      · have Hfin := Lib.hid (distI_yes c1 c2 c3)
                        go_wp2_with (first | (go_at_call 40; refine (smay_any _ _ _).mono ?_; rintro e w' ⟨rfl, rfl⟩))
                        go_roundg (8 - (q + 1))
                        case measure => omega
                        case rel => exact ⟨q + 1, rfl, by omega, by go_num, by rw [Hs1.out, Hfin.out]; exact hd1.set p _⟩
                      · have Hfin := Lib.hid (distI_no (r := r) (i := p) (k := q) (d := d1) (fun h => c3 h.2.2))
                        have c3' : mayI p q = false := by simpa using c3
                        go_wp2_with (first | (go_at_call 40; refine (smay_any _ _ _).mono ?_; rintro e w' ⟨rfl, rfl⟩))
                        go_roundg (8 - (q + 1))
                        case measure => omega
                        case rel => exact ⟨q + 1, rfl, by omega, by go_num, by rw [Hs1.out, Hfin.out]; exact hd1⟩
                    · have Hfin := Lib.hid (distI_no (r := r) (i := p) (k := q) (d := d1) (fun h => c2 h.2.1))
                      have c2' : (d1[q]?.getD 0 == (r : Int)) = false := by simpa using c2
                      clear c2
                      go_wp2
                      go_roundg (8 - (q + 1))
                      case measure => omega
                      case rel => exact ⟨q + 1, rfl, by omega, by go_num, by rw [Hs1.out, Hfin.out]; exact hd1⟩
                  · have Hfin := Lib.hid (distI_no (r := r) (i := p) (k := q) (d := d1) (fun h => c1 h.1))
                    have c1' : decide (d1[p]?.getD 0 < 0) = false := by simpa using c1
                    go_wp2
                    go_roundg (8 - (q + 1))
                    case measure => omega
                    case rel => exact ⟨q + 1, rfl, by omega, by go_num, by rw [Hs1.out, Hfin.out]; exact hd1⟩
                · have hq8 := Lib.hid (show q = 8 by omega)
                  have hqd : decide ((q : Int) < 8) = false := by simp; omega
                  go_wp2
                  go_roundg (8 - (p + 1))
                  case measure => omega
                  case rel => exact ⟨p + 1, rfl, by omega, by go_num, by rw [Hs2.out q hq8.out]; exact hd1⟩
            · have hp8 := Lib.hid (show p = 8 by omega)
              have hpd : decide ((p : Int) < 8) = false := by simp; omega
              go_wp2
              go_roundg (8 - (r + 1))
              case measure => omega
              case rel => exact ⟨r + 1, rfl, by omega, by go_num, by rw [Hs3.out p hp8.out]; exact hd2⟩
        · have hr8 := Lib.hid (show r = 8 by omega)
          have hrd : decide ((r : Int) < 8) = false := by simp; omega
          go_wp2
          go_ret
          have := hr8.out
          subst this
          exact ⟨rfl, hd⟩

theorem skip_may {d : List Int} {a n : Nat} (h : mayI a n = false) : skip d a n = true := by simp [skip, h]
theorem skip_eq {d : List Int} {a n : Nat} (h : mayI a n = true) : skip d a n = (d[n]?.getD 0 != d[a]?.getD 0 - 1) := by simp [skip, h]
theorem fwd_stay {d : List Int} {f t j : Nat} (h : (fwd d f t j).1 = t) (m : Nat) : fwd d f t (j + m) = fwd d f t j := by
  induction m with
  | zero => rfl
  | succ m ih =>
    show (if (fwd d f t (j + m)).1 = t then fwd d f t (j + m) else _) = _
    rw [ih, if_pos h]

/-- The list that is being made, beside the distances. -/
structure FwdAt (w w0 : World) (d : List Int) (A : Option Addr) (n c : Nat) (q : List Int) (wr : World) : Prop where
  arr : Arr wr w.heap.size 3 d
  own : OwnI wr w0.heap.size A n c q
  old : Below w.heap.size w wr
  size : w0.heap.size ≤ wr.heap.size
theorem FwdAt.drewN {w w0 wr : World} {d : List Int} {A : Option Addr} {n c : Nat} {q : List Int} (h : FwdAt w w0 d A n c q wr) (k : Nat) : FwdAt w w0 d A n c q (wr.drewN k) :=
  ⟨h.arr, h.own, below_drewN' h.old k, h.size⟩
theorem FwdAt.put {w w0 wr w1 : World} {d : List Int} {A A' : Option Addr} {n c c' : Nat} {r : Int} {q : List Int} (h0 : w.heap.size < w0.heap.size) (h : FwdAt w w0 d A n c q wr)
    (h1 : OwnI w1 w0.heap.size A' (n + 1) c' (q ++ [r])) (hg : (wr.alloc (.cells #[.int .i64 r] 3)).grownBy w1 (Value.ownBlock (.slice A n c))) :
    FwdAt w w0 d A' (n + 1) c' (q ++ [r]) w1 := by
  have hs := h.size
  refine ⟨(h.arr.alloc _).grown hg (fun e => ?_), h1, ?_, ?_⟩
  · have := (h.own.lt _ e.symm).1
    omega
  · refine (h.old.alloc (by omega) _).grown hg (by simp; omega) (fun k hk => ?_)
    have := (h.own.lt k hk).1
    omega
  · have := hg.size
    simp at this
    omega

set_option maxHeartbeats 2000000 in
set_option maxRecDepth 100000 in
theorem sPath_in (f t : Nat) (hf : f < 8) (ht : t < 8) (w : World) :
    Calls Tryd.prog 15 #[.int .i64 f, .int .i64 t] w (RetI w (pathS f t).1 fun v => .returned (.tuple #[v, .int .i64 (pathS f t).2])) := by
  have h1 : isR f = true := isR_yes (by omega) (by omega)
  have h2 : isR t = true := isR_yes (by omega) (by omega)
  have hdt := dist_tab t ht
  have hok : 0 ≤ (dist t)[f]?.getD 0 → (∀ k, k < 9 → okF (dist t) f t k = true) ∧ (∀ e, e = 8 → (fwd (dist t) f t e).1 = t) := by
    rw [hdt]; intro h; have h' := fwd_okT f hf t ht (by omega); exact ⟨h'.1, fun e he => by subst he; exact h'.2⟩
  have Hok := Lib.hid hok
  clear hok
  have hl := dist_len t ht
  rw [← hdt] at hl
  clear hdt
  have Hres := Lib.hid (show ((dist t)[f]?.getD 0 < 0 → pathS f t = ([], 14)) ∧ (0 ≤ (dist t)[f]?.getD 0 → ∀ e, e = 8 → pathS f t = ((fwd (dist t) f t e).2, 0)) from ⟨fun h => by unfold pathS; rw [if_pos h], fun h e he => by subst he; unfold pathS; rw [if_neg (by omega)]⟩)
  generalize pathS f t = res at *
  have hdd := fun (W : World) => distances_in t ht W
  generalize dist t = d at *
  have Hl := Lib.hid hl; clear hl
  have Hdd := Lib.hid hdd; clear hdd
  go_enter Tryd.func15, Tryd.ntmps15
  go_wp2_with (first | (go_at_call 39; refine (is_any _ _).mono ?_; rintro e w' ⟨rfl, rfl⟩))
  refine (Hdd.out w).mono ?_
  rintro e w0 ⟨rfl, hd0⟩
  have hcf := hd0.arr.cell (j := f) (by rw [Hl.out]; omega)
  have hlt0 := hd0.arr.lt
  by_cases hdf : d[f]?.getD 0 < 0
  · go_wp2
    go_ret2
    rw [Hres.out.1 hdf]
    exact ⟨none, 0, rfl, GI.nil _, hd0.old⟩
  · have hdf' : decide (d[f]?.getD 0 < 0) = false := by simpa using hdf
    have Hres' := Lib.hid (Hres.out.2 (Int.not_lt.1 hdf))
    clear Hres
    have hk := Hok.out (Int.not_lt.1 hdf)
    have Hk := Lib.hid (show (∀ k, k < 9 → okF d f t k = true) from hk.1)
    have He := Lib.hid hk.2
    clear hk Hok hdf
    go_wp2
    clear hcf hdf'
    go_loopg [7, 8, 9] 8 (fun k v i _ wx => ∃ (p : Nat) (A : Option Addr) (n c : Nat), k = 8 - p ∧ p ≤ 8 ∧ v = .slice A n c ∧ i = .int .i64 (fwd d f t p).1 ∧ FwdAt w w0 d A n c (fwd d f t p).2 wx)
    case atStart => exact ⟨0, _, _, _, rfl, by omega, rfl, rfl, hd0.arr, OwnI.none _ _, hd0.old, Nat.le_refl _⟩
    case round =>
      obtain ⟨p, A, n, c, rfl, hp, rfl, rfl, hw⟩ := hrel
      have hkp := Hk.out p (by omega)
      simp only [okF, Bool.and_eq_true, Bool.or_eq_true, Bool.not_eq_true', decide_eq_true_eq, List.all_eq_true, List.mem_range] at hkp
      obtain ⟨⟨⟨⟨q8, ql⟩, qa⟩, qb⟩, qc⟩ := hkp
      have hn : n ≤ 16 := by have := hw.own.len; omega
      by_cases hre : (fwd d f t p).1 = t
      · have Hst2 := Lib.hid (show ∀ e, e = 8 → fwd d f t e = fwd d f t p from fun e he => by
          have := fwd_stay hre (e - p)
          rwa [show p + (e - p) = e from by omega] at this)
        have hre' : (((fwd d f t p).1 : Int) != (t : Int)) = false := by simp [hre]
        clear hre qc
        generalize fwd d f t p = s1 at *
        obtain ⟨r1, q1⟩ := s1
        simp only at hre' q8 ql hw
        go_wp2
        go_ret2
        rw [Hres'.out _ rfl, Hst2.out _ rfl]
        have hl3 := hw.own.len
        subst hl3
        exact ⟨A, c, rfl, hw.own.gi, hw.old⟩
      · have hp7 : p < 8 := by
          rcases Nat.lt_or_ge p 8 with h | h
          · exact h
          · exact absurd (He.out p (by omega)) hre
        have Hs2 := Lib.hid (show fwd d f t (p + 1) = (nextR d (fwd d f t p).1, (fwd d f t p).2 ++ [(nextR d (fwd d f t p).1 : Int)]) by
          show (if (fwd d f t p).1 = t then _ else _) = _
          rw [if_neg hre])
        have hre' : (((fwd d f t p).1 : Int) != (t : Int)) = true := by simp; omega
        rcases qc with qc | ⟨⟨qn, qs⟩, qall⟩
        · exact absurd qc hre
        clear hre
        generalize fwd d f t p = s1 at *
        obtain ⟨a1, q1⟩ := s1
        simp only at hre' q8 ql hw Hs2 qn qs qall qa qb
        generalize nextR d a1 = nx at *
        have Hqs := Lib.hid qs
        have Hqall := Lib.hid qall
        clear qs qall
        have hca := hw.arr.cell (j := a1) (by rw [Hl.out]; omega)
        go_wp2
        go_loopg [9] nx (fun k i wx => ∃ m : Nat, k = nx - m ∧ m ≤ nx ∧ i = .int .i64 m ∧ FwdAt w w0 d A n c q1 wx)
        case atStart => exact ⟨0, rfl, by omega, rfl, hw⟩
        case round =>
          obtain ⟨m, rfl, hm, rfl, hw1⟩ := hrel
          clear hca hw
          have hca := hw1.arr.cell (j := a1) (by rw [Hl.out]; omega)
          have hcm := hw1.arr.cell (j := m) (by rw [Hl.out]; omega)
          have i1 : (0 : Int) ≤ m := by omega
          have i2 : (m : Int) < 8 := by omega
          have i3 : (0 : Int) ≤ a1 := by omega
          have i4 : (a1 : Int) < 8 := by omega
          by_cases hmay : mayI a1 m = true
          · have hsk := skip_eq (d := d) hmay
            by_cases hne : (d[m]?.getD 0 != d[a1]?.getD 0 - 1) = true
            · have hlt : m < nx := by
                rcases Nat.lt_or_ge m nx with h | h
                · exact h
                · obtain rfl : m = nx := by omega
                  have := Hqs.out
                  rw [hsk, hne] at this
                  cases this
              clear hsk
              go_wp2_with fail
              go_quiet ((go_at_call 40; exact Calls.quiet_of_same (smay_q _ _ _)))
              all_goals go_wp2
              go_roundg (nx - (m + 1))
              case measure => omega
              case rel => exact ⟨m + 1, rfl, by omega, by go_num, hw1.drewN _⟩
            · have hne' : (d[m]?.getD 0 != d[a1]?.getD 0 - 1) = false := by simpa using hne
              have hmx : m = nx := by
                rcases Nat.lt_or_ge m nx with h | h
                · have := Hqall.out m h
                  rw [hsk, hne'] at this
                  cases this
                · omega
              have Hmx := Lib.hid hmx
              clear hsk hne hmx
              have hsz := hw1.size
              go_wp2_with fail
              go_quiet ((go_at_call 40; exact Calls.quiet_of_same (smay_q _ _ _)))
              rename_i nq
              have hmid : OwnI ((wr.drewN nq).alloc (.cells #[.int .i64 (m : Int)] 3)) w0.heap.size A n c q1 := Own.alloc (Own.drewN hw1.own nq) _
              have hcn := cell_new1 (wr.drewN nq) (.int .i64 (m : Int)) 3 wr.heap.size rfl
              go_wp2_with (first | (at_builtin; refine wpList_ap1 _ rfl _ _ rfl w0.heap.size A n c q1 rfl hmid ⟨wr.heap.size, 0, none⟩ 1 m rfl hcn (by omega) (by simp; omega) ?_; intro A2 c2 w2 hown2 hg2))
              go_roundg (8 - (p + 1))
              case measure => omega
              case rel =>
                have hmx := Hmx.out
                subst hmx
                refine ⟨p + 1, A2, n + 1, c2, rfl, by omega, rfl, by rw [Hs2.out], ?_⟩
                rw [Hs2.out]
                exact (hw1.drewN nq).put hlt0 hown2 hg2
          · have hmay' : mayI a1 m = false := by simpa using hmay
            have hsk := skip_may (d := d) hmay'
            have hlt : m < nx := by
              rcases Nat.lt_or_ge m nx with h | h
              · exact h
              · obtain rfl : m = nx := by omega
                have := Hqs.out
                rw [hsk] at this
                cases this
            clear hsk
            go_wp2_with fail
            go_quiet ((go_at_call 40; exact Calls.quiet_of_same (smay_q _ _ _)))
            all_goals go_wp2
            go_roundg (nx - (m + 1))
            case measure => omega
            case rel => exact ⟨m + 1, rfl, by omega, by go_num, hw1.drewN _⟩

set_option maxHeartbeats 400000 in
theorem sPath_any (f t : Int) (w : World) :
    Calls Tryd.prog 15 #[.int .i64 f, .int .i64 t] w (RetI w (pathR f t).1 fun v => .returned (.tuple #[v, .int .i64 (pathR f t).2])) := by
  by_cases h1 : isR f = true
  · by_cases h2 : isR t = true
    · obtain ⟨a0, a1⟩ := isR_iff.1 h1
      obtain ⟨b0, b1⟩ := isR_iff.1 h2
      obtain ⟨f, rfl⟩ := Int.eq_ofNat_of_zero_le a0
      obtain ⟨t, rfl⟩ := Int.eq_ofNat_of_zero_le b0
      have e : pathR f t = pathB f t := by simp [pathR, h1, h2]
      rw [e, ← path_same f t (by omega) (by omega)]
      exact sPath_in f t (by omega) (by omega) w
    · have h2' : isR t = false := by simpa using h2
      have e : pathR f t = ([], 14) := by simp [pathR, h2']
      rw [e]
      go_enter Tryd.func15, Tryd.ntmps15
      go_wp2_with (first | (go_at_call 39; refine (is_any _ _).mono ?_; rintro e w' ⟨rfl, rfl⟩))
      go_ret2
      exact ⟨none, 0, rfl, GI.nil _, Below.refl _ _⟩
  · have h1' : isR f = false := by simpa using h1
    have e : pathR f t = ([], 14) := by simp [pathR, h1']
    rw [e]
    go_enter Tryd.func15, Tryd.ntmps15
    go_wp2_with (first | (go_at_call 39; refine (is_any _ _).mono ?_; rintro e w' ⟨rfl, rfl⟩))
    go_ret2
    exact ⟨none, 0, rfl, GI.nil _, Below.refl _ _⟩
end Go.Proofs.YtfacdnpgidnafaaDoor
