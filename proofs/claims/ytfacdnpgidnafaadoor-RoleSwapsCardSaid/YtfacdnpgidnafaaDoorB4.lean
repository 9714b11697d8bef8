/- Of and Counts, in the program and in the reference. -/
import Derived.Test.YtfacdnpgidnafaaDoorB3
import Derived.Test.YtfacdnpgidnafaaDoorP3
namespace Go.Proofs.YtfacdnpgidnafaaDoor
open Go.RowKit

/-- The places of r among the first k. -/
def ofTo (xs : List Int) (r : Int) : Nat → List Int
  | 0 => []
  | k + 1 => if xs[k]?.getD 0 == r then ofTo xs r k ++ [(k : Int)] else ofTo xs r k
def ofR (xs : List Int) (r : Int) : List Int × Int :=
  if (chk xs).1 = 0 then (if isR r then (ofTo xs r xs.length, 0) else ([], 14)) else ([], (chk xs).1)
theorem ofTo_len (xs : List Int) (r : Int) (k : Nat) : (ofTo xs r k).length ≤ k := by
  induction k with
  | zero => simp [ofTo]
  | succ k ih =>
    simp only [ofTo]
    split
    · rw [List.length_append]; simp; omega
    · omega
theorem ofTo_yes {xs : List Int} {r : Int} {k : Nat} (h : (xs[k]?.getD 0 == r) = true) : ofTo xs r (k + 1) = ofTo xs r k ++ [(k : Int)] := by
  show (if _ then _ else _) = _; rw [if_pos h]
theorem ofTo_no {xs : List Int} {r : Int} {k : Nat} (h : (xs[k]?.getD 0 == r) = false) : ofTo xs r (k + 1) = ofTo xs r k := by
  show (if _ then _ else _) = _; rw [if_neg (by rw [h]; decide)]
theorem of_bad {xs : List Int} {r : Int} (h : ¬ VL xs) : ofR xs r = ([], (chk xs).1) := by unfold ofR; rw [if_neg (chk_not h)]
theorem of_role {xs : List Int} {r : Int} (h : VL xs) (h' : isR r = false) : ofR xs r = ([], 14) := by unfold ofR; rw [chk_vl h]; simp [h']
theorem of_yes {xs : List Int} {r : Int} (h : VL xs) (h' : isR r = true) : ofR xs r = (ofTo xs r xs.length, 0) := by unfold ofR; rw [chk_vl h]; simp [h']

set_option maxHeartbeats 1000000 in
theorem Of_any (A : Option Addr) (c : Nat) (xs : List Int) (r : Int) (w : World) (ha : GI w A c xs) :
    Calls Tryd.prog 26 #[.slice A xs.length c, .int .i64 r] w (RetI w (ofR xs r).1 fun v => .returned (.tuple #[v, .int .i64 (ofR xs r).2])) := by
  by_cases hv : VL xs
  · have hl := hv.1
    by_cases hr : isR r = true
    · rw [of_yes hv hr]
      go_enter Tryd.func26, Tryd.ntmps26
      go_wp2_with fail
      refine (Check_yes A c xs w ha hv).mono ?_
      rintro e w' ⟨rfl, rfl⟩
      go_wp2_with (first | (go_at_call 37; refine (isRole_any _ _).mono ?_; rintro e w' ⟨rfl, rfl⟩))
      go_loopg [8, 24] xs.length (fun g v i wx => ∃ (k n : Nat) (A : Option Addr) (c : Nat), g = xs.length - k ∧ k ≤ xs.length ∧ v = .slice A n c ∧ i = .int .i64 k ∧ MadeAt w A n c (ofTo xs r k) wx)
      case atStart => exact ⟨0, _, _, _, rfl, by omega, rfl, rfl, OwnI.none _ _, Below.refl _ _⟩
      case round =>
        obtain ⟨k, n, A1, c1, rfl, hk, rfl, rfl, hm⟩ := hrel
        by_cases hlt : k < xs.length
        · obtain ⟨ad, rfl, _, hca⟩ := (ha.below hm.old).at_ hlt
          have hn : n ≤ k := by have := hm.own.len; have := ofTo_len xs r k; omega
          have hs := hm.old.size
          by_cases heq : (xs[k]?.getD 0 == r) = true
          · have Hst := Lib.hid (ofTo_yes heq)
            generalize xs[k]?.getD 0 = x at *
            generalize ofTo xs r k = ys at *
            have hmid : OwnI (wr.alloc (.cells #[.int .i64 (k : Int)] 3)) w.heap.size A1 n c1 ys := Own.alloc hm.own _
            have hcn := cell_new1 wr (.int .i64 (k : Int)) 3 wr.heap.size rfl
            go_wp2_with (first | (at_builtin; refine wpList_ap1 _ rfl _ _ rfl w.heap.size A1 n c1 ys rfl hmid ⟨wr.heap.size, 0, none⟩ 1 k rfl hcn (by omega) (by simp; omega) ?_; intro A2 c2 w2 hown2 hg2))
            go_roundg (xs.length - (k + 1))
            case measure => omega
            case rel => exact ⟨k + 1, n + 1, A2, c2, rfl, by omega, rfl, by go_num, by rw [Hst.out]; exact hm.put hown2 hg2⟩
          · have heq' : (xs[k]?.getD 0 == r) = false := by simpa using heq
            have Hst := Lib.hid (ofTo_no heq')
            clear heq
            generalize xs[k]?.getD 0 = x at *
            generalize ofTo xs r k = ys at *
            go_wp2
            go_roundg (xs.length - (k + 1))
            case measure => omega
            case rel => exact ⟨k + 1, n, A1, c1, rfl, by omega, rfl, by go_num, by rw [Hst.out]; exact hm⟩
        · have hke := Lib.hid (show k = xs.length by omega)
          go_wp2
          go_ret2
          rw [← hke.out]
          have hl3 := hm.own.len
          exact ⟨A1, c1, by rw [← hl3]; rfl, hm.own.gi, hm.old⟩
    · have hr' : isR r = false := by simpa using hr
      rw [of_role hv hr']
      go_enter Tryd.func26, Tryd.ntmps26
      go_wp2_with fail
      refine (Check_yes A c xs w ha hv).mono ?_
      rintro e w' ⟨rfl, rfl⟩
      go_wp2_with (first | (go_at_call 37; refine (isRole_any _ _).mono ?_; rintro e w' ⟨rfl, rfl⟩))
      go_ret2
      exact ⟨none, 0, rfl, GI.nil _, Below.refl _ _⟩
  · rw [of_bad hv]
    have Hck := Lib.hid (Check_any A c xs w ha)
    have hk : ((chk xs).1 != 0) = true := by simpa using chk_not hv
    generalize chk xs = q at *
    obtain ⟨q1, q2⟩ := q
    simp only at hk
    go_enter Tryd.func26, Tryd.ntmps26
    go_wp2_with fail
    refine Hck.out.mono ?_
    rintro e w' ⟨rfl, rfl⟩
    go_wp2
    go_ret2
    exact ⟨none, 0, rfl, GI.nil _, Below.refl _ _⟩

set_option maxHeartbeats 1000000 in
theorem sOf_any (A : Option Addr) (c : Nat) (xs : List Int) (r : Int) (w : World) (ha : GI w A c xs) :
    Calls Tryd.prog 27 #[.slice A xs.length c, .int .i64 r] w (RetI w (ofR xs r).1 fun v => .returned (.tuple #[v, .int .i64 (ofR xs r).2])) := by
  by_cases hv : VL xs
  · have hl := hv.1
    by_cases hr : isR r = true
    · rw [of_yes hv hr]
      go_enter Tryd.func27, Tryd.ntmps27
      go_wp2_with fail
      refine (sCheck_yes A c xs w ha hv).mono ?_
      rintro e w' ⟨rfl, rfl⟩
      go_wp2_with (first | (go_at_call 39; refine (is_any _ _).mono ?_; rintro e w' ⟨rfl, rfl⟩))
      go_loopg [8, 9] xs.length (fun g v i wx => ∃ (k n : Nat) (A : Option Addr) (c : Nat), g = xs.length - k ∧ k ≤ xs.length ∧ v = .slice A n c ∧ i = .int .i64 k ∧ MadeAt w A n c (ofTo xs r k) wx)
      case atStart => exact ⟨0, _, _, _, rfl, by omega, rfl, rfl, OwnI.none _ _, Below.refl _ _⟩
      case round =>
        obtain ⟨k, n, A1, c1, rfl, hk, rfl, rfl, hm⟩ := hrel
        by_cases hlt : k < xs.length
        · obtain ⟨ad, rfl, _, hca⟩ := (ha.below hm.old).at_ hlt
          have hn : n ≤ k := by have := hm.own.len; have := ofTo_len xs r k; omega
          have hs := hm.old.size
          by_cases heq : (xs[k]?.getD 0 == r) = true
          · have Hst := Lib.hid (ofTo_yes heq)
            generalize xs[k]?.getD 0 = x at *
            generalize ofTo xs r k = ys at *
            have hmid : OwnI (wr.alloc (.cells #[.int .i64 (k : Int)] 3)) w.heap.size A1 n c1 ys := Own.alloc hm.own _
            have hcn := cell_new1 wr (.int .i64 (k : Int)) 3 wr.heap.size rfl
            go_wp2_with (first | (at_builtin; refine wpList_ap1 _ rfl _ _ rfl w.heap.size A1 n c1 ys rfl hmid ⟨wr.heap.size, 0, none⟩ 1 k rfl hcn (by omega) (by simp; omega) ?_; intro A2 c2 w2 hown2 hg2))
            go_roundg (xs.length - (k + 1))
            case measure => omega
            case rel => exact ⟨k + 1, n + 1, A2, c2, rfl, by omega, rfl, by go_num, by rw [Hst.out]; exact hm.put hown2 hg2⟩
          · have heq' : (xs[k]?.getD 0 == r) = false := by simpa using heq
            have Hst := Lib.hid (ofTo_no heq')
            clear heq
            generalize xs[k]?.getD 0 = x at *
            generalize ofTo xs r k = ys at *
            go_wp2
            go_roundg (xs.length - (k + 1))
            case measure => omega
            case rel => exact ⟨k + 1, n, A1, c1, rfl, by omega, rfl, by go_num, by rw [Hst.out]; exact hm⟩
        · have hke := Lib.hid (show k = xs.length by omega)
          go_wp2
          go_ret2
          rw [← hke.out]
          have hl3 := hm.own.len
          exact ⟨A1, c1, by rw [← hl3]; rfl, hm.own.gi, hm.old⟩
    · have hr' : isR r = false := by simpa using hr
      rw [of_role hv hr']
      go_enter Tryd.func27, Tryd.ntmps27
      go_wp2_with fail
      refine (sCheck_yes A c xs w ha hv).mono ?_
      rintro e w' ⟨rfl, rfl⟩
      go_wp2_with (first | (go_at_call 39; refine (is_any _ _).mono ?_; rintro e w' ⟨rfl, rfl⟩))
      go_ret2
      exact ⟨none, 0, rfl, GI.nil _, Below.refl _ _⟩
  · rw [of_bad hv]
    have Hck := Lib.hid (sCheck_any A c xs w ha)
    have hk : ((chk xs).1 != 0) = true := by simpa using chk_not hv
    have hk' : ((chk xs).1 == 0) = false := by simpa using chk_not hv
    generalize chk xs = q at *
    obtain ⟨q1, q2⟩ := q
    simp only at hk hk'
    go_enter Tryd.func27, Tryd.ntmps27
    go_wp2_with fail
    refine Hck.out.mono ?_
    rintro e w' ⟨rfl, rfl⟩
    go_wp2
    go_ret2
    exact ⟨none, 0, rfl, GI.nil _, Below.refl _ _⟩

/-! Counts. -/
def cntTo (xs : List Int) : Nat → List Int
  | 0 => [0, 0, 0, 0, 0, 0, 0, 0]
  | k + 1 => (cntTo xs k).set (xs[k]?.getD 0).toNat ((cntTo xs k)[(xs[k]?.getD 0).toNat]?.getD 0 + 1)
theorem cntTo_len (xs : List Int) (k : Nat) : (cntTo xs k).length = 8 := by
  induction k with
  | zero => rfl
  | succ k ih => simp [cntTo, ih]
theorem cntTo_bd (xs : List Int) (k : Nat) (j : Nat) : 0 ≤ (cntTo xs k)[j]?.getD 0 ∧ (cntTo xs k)[j]?.getD 0 ≤ k := by
  induction k generalizing j with
  | zero =>
    simp only [cntTo]
    match j with
    | 0 | 1 | 2 | 3 | 4 | 5 | 6 | 7 => decide
    | j + 8 => simp
  | succ k ih =>
    simp only [cntTo]
    rw [List.getElem?_set]
    have h1 := ih (xs[k]?.getD 0).toNat
    have h2 := ih j
    split
    · split
      · simp; omega
      · simp; omega
    · omega
def countR (xs : List Int) : List Int × Int := if (chk xs).1 = 0 then (cntTo xs xs.length, 0) else ([], (chk xs).1)
theorem count_bad {xs : List Int} (h : ¬ VL xs) : countR xs = ([], (chk xs).1) := by unfold countR; rw [if_neg (chk_not h)]
theorem count_yes {xs : List Int} (h : VL xs) : countR xs = (cntTo xs xs.length, 0) := by unfold countR; rw [chk_vl h]; rfl

theorem Arr.gi {w : World} {g : Nat} {t : TypeId} {xs : List Int} (h : Arr w g t xs) (n : Nat) (hn : n = xs.length) (hx : xs.length ≤ 1000) : GI w (some ⟨g, 0, none⟩) n xs := by
  subst hn
  refine ⟨Nat.le_refl _, by simp only [maxLen]; omega, by simp [iv_len], fun _ => ⟨_, rfl, h.lt, fun j u hu => ?_⟩⟩
  rw [mk_add, cell_of_row w g _ _ t (0, 0) h, Nat.zero_add]
  simpa using hu

theorem make8 (W : World) : (Instr.makeSlice 25 (.int .i64 8) (.int .i64 8)).run Tryd.prog W = .ok (.slice (some ⟨W.heap.size, 0, none⟩) 8 8) (W.alloc (.cells (iv [0, 0, 0, 0, 0, 0, 0, 0]).toArray 3)) := by kernel_rfl

set_option maxHeartbeats 1000000 in
theorem Counts_any (A : Option Addr) (c : Nat) (xs : List Int) (w : World) (ha : GI w A c xs) :
    Calls Tryd.prog 28 #[.slice A xs.length c] w (RetI w (countR xs).1 fun v => .returned (.tuple #[v, .int .i64 (countR xs).2])) := by
  by_cases hv : VL xs
  · have hl := hv.1
    rw [count_yes hv]
    have hmk := make8
    generalize hF : (iv [0, 0, 0, 0, 0, 0, 0, 0]).toArray = F0 at hmk
    have HF := Lib.hid hF; clear hF
    go_enter Tryd.func28, Tryd.ntmps28
    go_wp2_with fail
    refine (Check_yes A c xs w ha hv).mono ?_
    rintro e w' ⟨rfl, rfl⟩
    go_wp2
    clear hmk
    go_loopg [20] xs.length (fun g i wx => ∃ k : Nat, g = xs.length - k ∧ k ≤ xs.length ∧ i = .int .i64 k ∧ DistAt w (cntTo xs k) wx)
    case atStart => exact ⟨0, rfl, by omega, rfl, by rw [← HF.out]; exact heap_alloc_new w _, (Below.refl _ _).alloc (Nat.le_refl _) _⟩
    case round =>
      obtain ⟨k, rfl, hk, rfl, hd⟩ := hrel
      by_cases hlt : k < xs.length
      · obtain ⟨ad, rfl, _, hca⟩ := (ha.below hd.old).at_ hlt
        obtain ⟨b0, b8⟩ := isR_getD hv.2 k
        have Hst := Lib.hid (show cntTo xs (k + 1) = (cntTo xs k).set (xs[k]?.getD 0).toNat ((cntTo xs k)[(xs[k]?.getD 0).toNat]?.getD 0 + 1) from rfl)
        have hlc := cntTo_len xs k
        generalize xs[k]?.getD 0 = x at *
        obtain ⟨x, rfl⟩ := Int.eq_ofNat_of_zero_le b0
        obtain ⟨q0, q1⟩ := cntTo_bd xs k x
        simp only [Int.toNat_natCast] at Hst
        generalize cntTo xs k = cs at *
        have hcx := hd.arr.cell (j := x) (by omega)
        have hfx := hd.arr.frozen x
        have Hlc := Lib.hid hlc; clear hlc
        generalize hy : cs[x]?.getD 0 = y at *
        have Hy := Lib.hid hy; clear hy
        go_wp2
        go_roundg (xs.length - (k + 1))
        case measure => omega
        case rel => exact ⟨k + 1, rfl, by omega, by go_num, by rw [Hst.out]; exact hd.set x _⟩
      · have hke := Lib.hid (show k = xs.length by omega)
        have hlc := cntTo_len xs k
        go_wp2
        go_ret2
        rw [← hke.out]
        exact ⟨_, 8, by rw [hlc]; rfl, hd.arr.gi 8 hlc.symm (by omega), hd.old⟩
  · rw [count_bad hv]
    have Hck := Lib.hid (Check_any A c xs w ha)
    have hk : ((chk xs).1 != 0) = true := by simpa using chk_not hv
    generalize chk xs = q at *
    obtain ⟨q1, q2⟩ := q
    simp only at hk
    go_enter Tryd.func28, Tryd.ntmps28
    go_wp2_with fail
    refine Hck.out.mono ?_
    rintro e w' ⟨rfl, rfl⟩
    go_wp2
    go_ret2
    exact ⟨none, 0, rfl, GI.nil _, Below.refl _ _⟩

set_option maxHeartbeats 1000000 in
theorem sCounts_any (A : Option Addr) (c : Nat) (xs : List Int) (w : World) (ha : GI w A c xs) :
    Calls Tryd.prog 29 #[.slice A xs.length c] w (RetI w (countR xs).1 fun v => .returned (.tuple #[v, .int .i64 (countR xs).2])) := by
  by_cases hv : VL xs
  · have hl := hv.1
    rw [count_yes hv]
    have hmk := make8
    generalize hF : (iv [0, 0, 0, 0, 0, 0, 0, 0]).toArray = F0 at hmk
    have HF := Lib.hid hF; clear hF
    go_enter Tryd.func29, Tryd.ntmps29
    go_wp2_with fail
    refine (sCheck_yes A c xs w ha hv).mono ?_
    rintro e w' ⟨rfl, rfl⟩
    go_wp2
    clear hmk
    go_loopg [7] xs.length (fun g i wx => ∃ k : Nat, g = xs.length - k ∧ k ≤ xs.length ∧ i = .int .i64 k ∧ DistAt w (cntTo xs k) wx)
    case atStart => exact ⟨0, rfl, by omega, rfl, by rw [← HF.out]; exact heap_alloc_new w _, (Below.refl _ _).alloc (Nat.le_refl _) _⟩
    case round =>
      obtain ⟨k, rfl, hk, rfl, hd⟩ := hrel
      by_cases hlt : k < xs.length
      · obtain ⟨ad, rfl, _, hca⟩ := (ha.below hd.old).at_ hlt
        obtain ⟨b0, b8⟩ := isR_getD hv.2 k
        have Hst := Lib.hid (show cntTo xs (k + 1) = (cntTo xs k).set (xs[k]?.getD 0).toNat ((cntTo xs k)[(xs[k]?.getD 0).toNat]?.getD 0 + 1) from rfl)
        have hlc := cntTo_len xs k
        generalize xs[k]?.getD 0 = x at *
        obtain ⟨x, rfl⟩ := Int.eq_ofNat_of_zero_le b0
        obtain ⟨q0, q1⟩ := cntTo_bd xs k x
        simp only [Int.toNat_natCast] at Hst
        generalize cntTo xs k = cs at *
        have hcx := hd.arr.cell (j := x) (by omega)
        have hfx := hd.arr.frozen x
        have Hlc := Lib.hid hlc; clear hlc
        generalize hy : cs[x]?.getD 0 = y at *
        have Hy := Lib.hid hy; clear hy
        go_wp2
        go_roundg (xs.length - (k + 1))
        case measure => omega
        case rel => exact ⟨k + 1, rfl, by omega, by go_num, by rw [Hst.out]; exact hd.set x _⟩
      · have hke := Lib.hid (show k = xs.length by omega)
        have hlc := cntTo_len xs k
        go_wp2
        go_ret2
        rw [← hke.out]
        exact ⟨_, 8, by rw [hlc]; rfl, hd.arr.gi 8 hlc.symm (by omega), hd.old⟩
  · rw [count_bad hv]
    have Hck := Lib.hid (sCheck_any A c xs w ha)
    have hk : ((chk xs).1 != 0) = true := by simpa using chk_not hv
    generalize chk xs = q at *
    obtain ⟨q1, q2⟩ := q
    simp only at hk
    go_enter Tryd.func29, Tryd.ntmps29
    go_wp2_with fail
    refine Hck.out.mono ?_
    rintro e w' ⟨rfl, rfl⟩
    go_wp2
    go_ret2
    exact ⟨none, 0, rfl, GI.nil _, Below.refl _ _⟩
end Go.Proofs.YtfacdnpgidnafaaDoor
