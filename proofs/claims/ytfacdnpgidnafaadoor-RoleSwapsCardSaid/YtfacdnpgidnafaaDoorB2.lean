/- set, Change, Run, in the program and in the reference. -/
import Derived.Test.YtfacdnpgidnafaaDoorB1
import Derived.Test.YtfacdnpgidnafaaDoorP2
namespace Go.Proofs.YtfacdnpgidnafaaDoor
open Go.RowKit

theorem mayI_role {f t : Int} (h : mayI f t = true) : isR t = true := by
  have hh : t = 0 ∨ t = 1 ∨ t = 2 ∨ t = 3 ∨ t = 4 ∨ t = 5 ∨ t = 6 ∨ t = 7 := by
    unfold mayI at h
    repeat' split at h
    all_goals simp at h
    all_goals omega
  rw [isR_iff]
  omega

/-- The error of a change in a valid list. -/
def setE (xs : List Int) (f r : Int) : Int :=
  if f < 0 ∨ (xs.length : Int) ≤ f then 2 else if mayI (xs[f.toNat]?.getD 0) r then 0 else 14
def setL (xs : List Int) (f r : Int) : List Int := if setE xs f r = 0 then xs.set f.toNat r else xs

theorem setE_range {xs : List Int} {f r : Int} (h : f < 0 ∨ (xs.length : Int) ≤ f) : setE xs f r = 2 := by unfold setE; rw [if_pos h]
theorem setE_yes {xs : List Int} {f : Nat} {r : Int} (h : f < xs.length) (h' : mayI (xs[f]?.getD 0) r = true) : setE xs f r = 0 := by
  unfold setE; rw [if_neg (by omega), if_pos (by simpa using h')]
theorem setE_no {xs : List Int} {f : Nat} {r : Int} (h : f < xs.length) (h' : mayI (xs[f]?.getD 0) r = false) : setE xs f r = 14 := by
  unfold setE; rw [if_neg (by omega), if_neg (by simp [h'])]
theorem setL_no {xs : List Int} {f r : Int} {e : Int} (h : setE xs f r = e) (he : e ≠ 0) : setL xs f r = xs := by unfold setL; rw [if_neg (by rw [h]; exact he)]
theorem setL_yes {xs : List Int} {f r : Int} (h : setE xs f r = 0) : setL xs f r = xs.set f.toNat r := by unfold setL; rw [if_pos h]
theorem setE_cases (xs : List Int) (f r : Int) : setE xs f r = 0 ∨ setE xs f r = 2 ∨ setE xs f r = 14 := by
  unfold setE
  split
  · simp
  · split <;> simp
theorem setL_len (xs : List Int) (f r : Int) : (setL xs f r).length = xs.length := by unfold setL; split <;> simp
theorem setL_ok {xs : List Int} {f r : Int} (h : ∀ x ∈ xs, isR x = true) : ∀ x ∈ setL xs f r, isR x = true := by
  intro x hx
  unfold setL at hx
  split at hx
  · rename_i he
    rcases List.mem_or_eq_of_mem_set hx with h' | rfl
    · exact h x h'
    · unfold setE at he
      split at he
      · omega
      · split at he
        · rename_i hm; exact mayI_role hm
        · omega
  · exact h x hx
theorem isR_getD {xs : List Int} (h : ∀ x ∈ xs, isR x = true) (k : Nat) : 0 ≤ xs[k]?.getD 0 ∧ xs[k]?.getD 0 < 8 := by
  by_cases hk : k < xs.length
  · rw [List.getElem?_eq_getElem hk]
    exact isR_iff.1 (h _ (List.getElem_mem hk))
  · rw [List.getElem?_eq_none (by omega)]; decide

theorem grown_refl (w : World) (row : Option Nat) : w.grownBy w row := ⟨rfl, rfl, rfl, Nat.le_refl _, fun _ _ _ => rfl⟩

/-- What 'set' leaves. -/
def SetPost (w : World) (base : Nat) (A : Option Addr) (n c : Nat) (xs : List Int) (f r : Int) (e : Ending) (w' : World) : Prop :=
  e = .returned (.int .i64 (setE xs f r)) ∧ OwnI w' base A n c (setL xs f r) ∧ w.grownBy w' (Value.ownBlock (.slice A n c))

set_option maxHeartbeats 1000000 in
theorem set_any (base : Nat) (A : Option Addr) (n c : Nat) (xs : List Int) (f r : Int) (w : World) (ho : OwnI w base A n c xs) (hr : ∀ x ∈ xs, isR x = true) (hn : n ≤ 256) (hL : Laid w) :
    Calls Tryd.prog 45 #[.slice A n c, .int .i64 f, .int .i64 r] w (SetPost w base A n c xs f r) := by
  have hlen := ho.len
  by_cases h1 : f < 0
  · have Hp : SetPost w base A n c xs f r (.returned (.int .i64 2)) w := by
      have he := setE_range (xs := xs) (f := f) (r := r) (.inl h1)
      exact ⟨by rw [he], by rw [setL_no he (by decide)]; exact ho, grown_refl _ _⟩
    clear ho hr hlen
    go_enter Tryd.func45, Tryd.ntmps45
    go_wp2
    go_ret
    exact Hp
  · by_cases h2 : (n : Int) ≤ f
    · have Hp : SetPost w base A n c xs f r (.returned (.int .i64 2)) w := by
        have he := setE_range (xs := xs) (f := f) (r := r) (.inr (by omega))
        exact ⟨by rw [he], by rw [setL_no he (by decide)]; exact ho, grown_refl _ _⟩
      clear ho hr hlen
      go_enter Tryd.func45, Tryd.ntmps45
      go_wp2
      go_ret
      exact Hp
    · obtain ⟨f, rfl⟩ := Int.eq_ofNat_of_zero_le (show 0 ≤ f by omega)
      have hf : f < n := by omega
      obtain ⟨b0, b8⟩ := isR_getD hr f
      obtain ⟨g, off, rfl, hbg, hgl, hc, hfz⟩ := ho.at_ (by omega)
      have hcf := hc f hf
      have hff := hfz (off + f)
      clear hc hfz
      have f0 : (0 : Int) ≤ f := by omega
      have f1 : (f : Int) < n := by omega
      have f2 : ¬ (n : Int) ≤ f := by omega
      by_cases hm : mayI (xs[f]?.getD 0) r = true
      · have hir := mayI_role hm
        obtain ⟨r0, r8⟩ := isR_iff.1 hir
        have Hp : SetPost w base (some ⟨g, off, none⟩) n c xs f r (.returned (.int .i64 0)) (w.setCell ⟨g, off + f, none⟩ (.int .i64 r)) := by
          have he := setE_yes (xs := xs) (f := f) (r := r) (by omega) hm
          refine ⟨by rw [he], ?_, grown_set (p := ⟨g, off + f, none⟩) (grown_refl _ _) rfl _⟩
          rw [setL_yes he]
          exact ho.set hf r
        clear ho hr hlen
        generalize xs[f]?.getD 0 = x at *
        go_enter Tryd.func45, Tryd.ntmps45
        go_wp2_with (first | (go_at_call 37; refine (isRole_any _ _).mono ?_; rintro e w' ⟨rfl, rfl⟩) | (go_at_call 38; refine (rmay_any x r b0 b8 r0 r8 _ hL).mono ?_; rintro e w' ⟨rfl, rfl⟩))
        go_ret
        exact Hp
      · have hm' : mayI (xs[f]?.getD 0) r = false := by simpa using hm
        have Hp : SetPost w base (some ⟨g, off, none⟩) n c xs f r (.returned (.int .i64 14)) w := by
          have he := setE_no (xs := xs) (f := f) (r := r) (by omega) hm'
          exact ⟨by rw [he], by rw [setL_no he (by decide)]; exact ho, grown_refl _ _⟩
        clear ho hr hlen hm
        generalize xs[f]?.getD 0 = x at *
        by_cases hir : isR r = true
        · obtain ⟨r0, r8⟩ := isR_iff.1 hir
          go_enter Tryd.func45, Tryd.ntmps45
          go_wp2_with (first | (go_at_call 37; refine (isRole_any _ _).mono ?_; rintro e w' ⟨rfl, rfl⟩) | (go_at_call 38; refine (rmay_any x r b0 b8 r0 r8 _ hL).mono ?_; rintro e w' ⟨rfl, rfl⟩))
          go_ret
          exact Hp
        · have hir' : isR r = false := by simpa using hir
          go_enter Tryd.func45, Tryd.ntmps45
          go_wp2_with (first | (go_at_call 37; refine (isRole_any _ _).mono ?_; rintro e w' ⟨rfl, rfl⟩))
          go_ret
          exact Hp

/-- What Change returns. -/
def changeR (xs : List Int) (f r : Int) : List Int × Int :=
  if (chk xs).1 = 0 then (if setE xs f r = 0 then (xs.set f.toNat r, 0) else ([], setE xs f r)) else ([], (chk xs).1)
theorem change_bad {xs : List Int} {f r : Int} (h : ¬ VL xs) : changeR xs f r = ([], (chk xs).1) := by unfold changeR; rw [if_neg (chk_not h)]
theorem change_err {xs : List Int} {f r : Int} (h : VL xs) (h' : setE xs f r ≠ 0) : changeR xs f r = ([], setE xs f r) := by unfold changeR; rw [if_pos (by rw [chk_vl h]), if_neg h']
theorem change_yes {xs : List Int} {f r : Int} (h : VL xs) (h' : setE xs f r = 0) : changeR xs f r = (setL xs f r, 0) := by unfold changeR; rw [if_pos (by rw [chk_vl h]), if_pos h', setL_yes h']

theorem GI.len {w : World} {A : Option Addr} {c : Nat} {xs : List Int} (h : GI w A c xs) : xs.length ≤ 9223372036854775807 := by have := h.1; have := h.2.1; unfold maxLen at this; omega

theorem own_below {w w1 w2 : World} {A : Option Addr} {n c : Nat} {xs : List Int} (hb : Below w.heap.size w w1) (ho : OwnI w1 w.heap.size A n c xs) (hg : w1.grownBy w2 (Value.ownBlock (.slice A n c))) : Below w.heap.size w w2 :=
  grown_below hb ho hg hb.size (Nat.le_refl _)

set_option maxHeartbeats 1000000 in
theorem Change_any (A : Option Addr) (c : Nat) (xs : List Int) (f r : Int) (w : World) (ha : GI w A c xs) (hL : Laid w) (h0 : 0 < w.heap.size) :
    Calls Tryd.prog 23 #[.slice A xs.length c, .int .i64 f, .int .i64 r] w (RetI w (changeR xs f r).1 fun v => .returned (.tuple #[v, .int .i64 (changeR xs f r).2])) := by
  by_cases hv : VL xs
  · have hl := hv.1
    go_enter Tryd.func23, Tryd.ntmps23
    go_wp2_with fail
    refine (Check_yes A c xs w ha hv).mono ?_
    rintro e w' ⟨rfl, rfl⟩
    go_wp2_with fail
    refine (clone_any A c xs w ha (by omega)).mono ?_
    rintro e w1 ⟨A1, c1, rfl, hown, hb1⟩
    go_wp2_with fail
    refine (set_any w.heap.size A1 xs.length c1 xs f r w1 hown hv.2 (by omega) (hL.below h0 hb1)).mono ?_
    rintro e w2 ⟨rfl, hown2, hg2⟩
    have hb2 := own_below hb1 hown hg2
    by_cases he : setE xs f r = 0
    · have Hc := Lib.hid (change_yes hv he)
      have he' : (setE xs f r != 0) = false := by simp [he]
      have Hlen := Lib.hid (setL_len xs f r)
      clear he hg2 hown hb1
      generalize setE xs f r = q at *
      go_wp2
      go_ret2
      rw [Hc.out]
      exact ⟨A1, c1, by rw [Hlen.out]; rfl, hown2.gi, hb2⟩
    · have Hc := Lib.hid (change_err hv he)
      have he' : (setE xs f r != 0) = true := by simp [he]
      clear he hg2 hown hb1
      generalize setE xs f r = q at *
      go_wp2
      go_ret2
      rw [Hc.out]
      exact ⟨none, 0, rfl, GI.nil _, hb2⟩
  · have Hck := Lib.hid (Check_any A c xs w ha)
    have Hc := Lib.hid (change_bad (f := f) (r := r) hv)
    have hk : ((chk xs).1 != 0) = true := by simpa using chk_not hv
    generalize chk xs = q at *
    obtain ⟨q1, q2⟩ := q
    simp only at hk
    go_enter Tryd.func23, Tryd.ntmps23
    go_wp2_with fail
    refine Hck.out.mono ?_
    rintro e w' ⟨rfl, rfl⟩
    go_wp2
    go_ret2
    rw [Hc.out]
    exact ⟨none, 0, rfl, GI.nil _, Below.refl _ _⟩

set_option maxHeartbeats 1000000 in
theorem sChange_any (A : Option Addr) (c : Nat) (xs : List Int) (f r : Int) (w : World) (ha : GI w A c xs) :
    Calls Tryd.prog 34 #[.slice A xs.length c, .int .i64 f, .int .i64 r] w (RetI w (changeR xs f r).1 fun v => .returned (.tuple #[v, .int .i64 (changeR xs f r).2])) := by
  by_cases hv : VL xs
  · have hl := hv.1
    by_cases h1 : f < 0
    · have Hc := Lib.hid (show changeR xs f r = ([], 2) by rw [change_err hv (by rw [setE_range (.inl h1)]; decide), setE_range (.inl h1)])
      go_enter Tryd.func34, Tryd.ntmps34
      go_wp2_with fail
      refine (sCheck_yes A c xs w ha hv).mono ?_
      rintro e w' ⟨rfl, rfl⟩
      go_wp2
      go_ret2
      rw [Hc.out]
      exact ⟨none, 0, rfl, GI.nil _, Below.refl _ _⟩
    · by_cases h2 : (xs.length : Int) ≤ f
      · have Hc := Lib.hid (show changeR xs f r = ([], 2) by rw [change_err hv (by rw [setE_range (.inr h2)]; decide), setE_range (.inr h2)])
        go_enter Tryd.func34, Tryd.ntmps34
        go_wp2_with fail
        refine (sCheck_yes A c xs w ha hv).mono ?_
        rintro e w' ⟨rfl, rfl⟩
        go_wp2
        go_ret2
        rw [Hc.out]
        exact ⟨none, 0, rfl, GI.nil _, Below.refl _ _⟩
      · obtain ⟨f, rfl⟩ := Int.eq_ofNat_of_zero_le (show 0 ≤ f by omega)
        have hf : f < xs.length := by omega
        obtain ⟨ad, rfl, hadl, hca⟩ := ha.at_ hf
        have f0 : (0 : Int) ≤ f := by omega
        have f1 : (f : Int) < xs.length := by omega
        have f2 : ¬ (xs.length : Int) ≤ f := by omega
        by_cases hm : mayI (xs[f]?.getD 0) r = true
        · have he := setE_yes (xs := xs) (f := f) (r := r) hf hm
          have Hc := Lib.hid (show changeR xs f r = (xs.set f r, 0) by rw [change_yes hv he, setL_yes he]; rfl)
          clear he
          generalize hx : xs[f]?.getD 0 = x at *
          have Hx := Lib.hid hx; clear hx
          go_enter Tryd.func34, Tryd.ntmps34
          go_wp2_with fail
          refine (sCheck_yes (some ad) c xs w ha hv).mono ?_
          rintro e w' ⟨rfl, rfl⟩
          go_wp2_with fail
          refine (smay_any x r w).mono ?_
          rintro e w' ⟨rfl, rfl⟩
          have hsl := ha.2.2.alloc (Nat.le_refl _) (.cells #[] 3)
          go_wp2_with (first | (at_builtin; refine wpList_apl _ rfl _ _ rfl w.heap.size (some ⟨w.heap.size, 0, none⟩) 0 0 [] rfl (OwnI.new w) w.heap.size _ xs.length c xs rfl hsl (by omega) (by simp) ?_; intro A' c' w1 hown hg; rw [Nat.zero_add, List.nil_append] at hown; obtain ⟨g, off, hA, _, _, hc9, hfz⟩ := hown.at_ (by omega); have hcf := hc9 f hf; have hff := hfz (off + f); clear hc9 hfz; subst hA; have hown9 := hown.set hf r; have hb9 := grown_below ((Below.refl _ _).alloc (Nat.le_refl _) _) (OwnI.new w) hg (by simp) (Nat.le_refl _)))
          go_ret2
          rw [Hc.out]
          exact ⟨_, c', by rw [List.length_set]; rfl, hown9.gi, hb9.setCell (by omega) _⟩
        · have hm' : mayI (xs[f]?.getD 0) r = false := by simpa using hm
          have he := setE_no (xs := xs) (f := f) (r := r) hf hm'
          have Hc := Lib.hid (show changeR xs f r = ([], 14) by rw [change_err hv (by rw [he]; decide), he])
          clear he hm
          generalize hx : xs[f]?.getD 0 = x at *
          have Hx := Lib.hid hx; clear hx
          go_enter Tryd.func34, Tryd.ntmps34
          go_wp2_with fail
          refine (sCheck_yes (some ad) c xs w ha hv).mono ?_
          rintro e w' ⟨rfl, rfl⟩
          go_wp2_with fail
          refine (smay_any x r w).mono ?_
          rintro e w' ⟨rfl, rfl⟩
          go_wp2
          go_ret2
          rw [Hc.out]
          exact ⟨none, 0, rfl, GI.nil _, Below.refl _ _⟩
  · have Hck := Lib.hid (sCheck_any A c xs w ha)
    have Hc := Lib.hid (change_bad (f := f) (r := r) hv)
    have hk : ((chk xs).1 != 0) = true := by simpa using chk_not hv
    generalize chk xs = q at *
    obtain ⟨q1, q2⟩ := q
    simp only at hk
    go_enter Tryd.func34, Tryd.ntmps34
    go_wp2_with fail
    refine Hck.out.mono ?_
    rintro e w' ⟨rfl, rfl⟩
    go_wp2
    go_ret2
    rw [Hc.out]
    exact ⟨none, 0, rfl, GI.nil _, Below.refl _ _⟩
end Go.Proofs.YtfacdnpgidnafaaDoor
