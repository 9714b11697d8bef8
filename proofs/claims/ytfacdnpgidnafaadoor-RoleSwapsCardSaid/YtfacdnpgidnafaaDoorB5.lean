/- Run, in the program and in the reference. -/
import Derived.Test.YtfacdnpgidnafaaDoorB2
namespace Go.Proofs.YtfacdnpgidnafaaDoor
open Go.RowKit

/-- Changes as cells. -/
def pv (cs : List (Int × Int)) : List Value := cs.flatMap fun p => [.int .i64 p.1, .int .i64 p.2]
theorem pv_len (cs : List (Int × Int)) : (pv cs).length = cs.length * 2 := by
  induction cs with
  | nil => rfl
  | cons p cs ih => simp only [pv, List.flatMap_cons, List.length_append, List.length_cons, List.length_nil] at ih ⊢; omega
theorem pv_at (cs : List (Int × Int)) (k : Nat) (h : k < cs.length) : (pv cs)[k * 2]? = some (.int .i64 (cs[k]?.getD (0, 0)).1) ∧ (pv cs)[k * 2 + 1]? = some (.int .i64 (cs[k]?.getD (0, 0)).2) := by
  induction cs generalizing k with
  | nil => simp at h
  | cons p cs ih =>
    cases k with
    | zero => exact ⟨rfl, rfl⟩
    | succ k =>
      have hh := ih k (by simpa using h)
      have e : pv (p :: cs) = .int .i64 p.1 :: .int .i64 p.2 :: pv cs := rfl
      rw [e, show (k + 1) * 2 = k * 2 + 1 + 1 by omega]
      simpa using hh

/-- The slice '.slice A (length of cs) c' reads as the changes cs. -/
def GC (w : World) (A : Option Addr) (c : Nat) (cs : List (Int × Int)) : Prop :=
  cs.length ≤ c ∧ c ≤ maxLen ∧ Sl w w.heap.size 2 A cs.length (pv cs)
section
variable {w w' : World} {A : Option Addr} {c : Nat} {cs : List (Int × Int)}
theorem GC.below (h : GC w A c cs) (hb : Below w.heap.size w w') : GC w' A c cs := ⟨h.1, h.2.1, (h.2.2.below hb).more hb.size⟩
theorem GC.alloc (h : GC w A c cs) (o : Obj) : GC (w.alloc o) A c cs := ⟨h.1, h.2.1, (h.2.2.alloc (Nat.le_refl _) o).more (by simp)⟩
theorem GC.at_ {k : Nat} (h : GC w A c cs) (hk : k < cs.length) : ∃ g off, A = some ⟨g, off, none⟩ ∧ g < w.heap.size ∧ w.cell? ⟨g, off + k * 2, none⟩ = some (.int .i64 (cs[k]?.getD (0, 0)).1) ∧ w.cell? ⟨g, off + k * 2 + 1, none⟩ = some (.int .i64 (cs[k]?.getD (0, 0)).2) := by
  obtain ⟨ad, e, hb, hc⟩ := h.2.2.2 (by omega)
  obtain ⟨g, off, sp⟩ := ad
  have h0 := hc 0 _ (by have := (pv_at cs 0 (by omega)).1; simpa using this)
  have hsp : sp = none := by simpa [Addr.add] using World.cell?_spot h0
  subst hsp
  have h1 := hc _ _ (pv_at cs k hk).1
  have h2 := hc _ _ (pv_at cs k hk).2
  rw [mk_add] at h1 h2
  exact ⟨g, off, e, hb, h1, by rw [Nat.add_assoc]; exact h2⟩
end

/-- What Run computes from change number i on. -/
def runL : List Int → List (Int × Int) → Nat → List Int × Int × Int
  | xs, [], _ => (xs, 0, 0)
  | xs, p :: cs, i => if setE xs p.1 p.2 = 0 then runL (setL xs p.1 p.2) cs (i + 1) else ([], setE xs p.1 p.2, (i : Int))
def runR (xs : List Int) (cs : List (Int × Int)) : List Int × Int × Int := if (chk xs).1 = 0 then runL xs cs 0 else ([], (chk xs).1, 0)
theorem run_bad {xs : List Int} {cs : List (Int × Int)} (h : ¬ VL xs) : runR xs cs = ([], (chk xs).1, 0) := by unfold runR; rw [if_neg (chk_not h)]
theorem run_vl {xs : List Int} {cs : List (Int × Int)} (h : VL xs) : runR xs cs = runL xs cs 0 := by unfold runR; rw [chk_vl h]; rfl

theorem drop_pair (cs : List (Int × Int)) (k : Nat) (h : k < cs.length) : cs.drop k = cs[k]?.getD (0, 0) :: cs.drop (k + 1) := by
  rw [List.drop_eq_getElem_cons h, List.getElem?_eq_getElem h]; rfl

/-- The list that Run changes. -/
structure RunAt (w : World) (A : Option Addr) (n c : Nat) (ys : List Int) (wr : World) : Prop where
  own : OwnI wr w.heap.size A n c ys
  old : Below w.heap.size w wr
  ok : ∀ x ∈ ys, isR x = true

set_option maxHeartbeats 1000000 in
theorem Run_in (A : Option Addr) (c : Nat) (xs : List Int) (D : Option Addr) (d : Nat) (cs : List (Int × Int)) (w : World) (ha : GI w A c xs) (hd : GC w D d cs) (hv : VL xs) (hcl : cs.length ≤ 1000000) (hL : Laid w) (h0 : 0 < w.heap.size) :
    Calls Tryd.prog 24 #[.slice A xs.length c, .slice D cs.length d] w (RetI w (runL xs cs 0).1 fun v => .returned (.tuple #[v, .int .i64 (runL xs cs 0).2.1, .int .i64 (runL xs cs 0).2.2])) := by
  have hl := hv.1
  go_enter Tryd.func24, Tryd.ntmps24
  go_wp2_with fail
  refine (Check_yes A c xs w ha hv).mono ?_
  rintro e w' ⟨rfl, rfl⟩
  go_wp2_with fail
  refine (clone_any A c xs w ha (by omega)).mono ?_
  rintro e w1 ⟨A1, c1, rfl, hown, hb1⟩
  go_wp2
  generalize hn : xs.length = n at *
  have Hn := Lib.hid hn; clear hn
  go_loopg [25] cs.length (fun g i wx => ∃ (k : Nat) (ys : List Int), g = cs.length - k ∧ k ≤ cs.length ∧ i = .int .i64 k ∧ RunAt w A1 n c1 ys wx ∧ Hid (runL ys (cs.drop k) k = runL xs cs 0))
  case atStart => exact ⟨0, xs, rfl, by omega, rfl, ⟨hown, hb1, hv.2⟩, rfl⟩
  case round =>
    obtain ⟨k, ys, rfl, hk, rfl, hr, HQ⟩ := hrel
    clear hown hb1
    by_cases hlt : k < cs.length
    · obtain ⟨dg, doff, rfl, hdg, hca, hcb⟩ := (hd.below hr.old).at_ hlt
      have Hd := Lib.hid (drop_pair cs k hlt)
      generalize cs[k]?.getD (0, 0) = p at *
      obtain ⟨p1, p2⟩ := p
      simp only at hca hcb
      have hmid : OwnI (wr.alloc (.cells #[.int .i64 p1, .int .i64 p2] 43)) w.heap.size A1 n c1 ys := Own.alloc hr.own _
      have hbm : Below w.heap.size w (wr.alloc (.cells #[.int .i64 p1, .int .i64 p2] 43)) := hr.old.alloc hr.old.size _
      have hLm := hL.below h0 hbm
      have Hlen := Lib.hid hr.own.len
      have Hok2 := Lib.hid (setL_ok (f := p1) (r := p2) hr.ok)
      go_wp2_with fail
      go_fit (set_any w.heap.size A1 n c1 ys p1 p2 _ hmid hr.ok hl hLm)
      rintro e w2 ⟨rfl, hown2, hg2⟩
      have hb2 : Below w.heap.size w w2 := grown_below hbm hmid hg2 hbm.size (Nat.le_refl _)
      clear hmid hbm hLm hg2
      by_cases he : setE ys p1 p2 = 0
      · have Hs := Lib.hid (show runL ys (cs.drop k) k = runL (setL ys p1 p2) (cs.drop (k + 1)) (k + 1) by
          rw [Hd.out]; show (if setE ys p1 p2 = 0 then _ else _) = _; rw [if_pos he])
        have he' : (setE ys p1 p2 != 0) = false := by simp [he]
        clear he
        generalize setE ys p1 p2 = q at *
        go_wp2
        go_roundg (cs.length - (k + 1))
        case measure => omega
        case rel => exact ⟨k + 1, _, rfl, by omega, by go_num, ⟨hown2, hb2, Hok2.out⟩, Hs.out.symm.trans HQ.out⟩
      · have Hs := Lib.hid (show runL xs cs 0 = ([], setE ys p1 p2, (k : Int)) by
          rw [← HQ.out, Hd.out]; show (if setE ys p1 p2 = 0 then _ else _) = _; rw [if_neg he])
        have he' : (setE ys p1 p2 != 0) = true := by simp [he]
        clear he
        generalize setE ys p1 p2 = q at *
        go_wp2
        go_ret3
        rw [Hs.out]
        exact ⟨none, 0, rfl, GI.nil _, hb2⟩
    · have Hs := Lib.hid (show runL xs cs 0 = (ys, 0, 0) by rw [← HQ.out, List.drop_eq_nil_of_le (by omega)]; rfl)
      go_wp2
      go_ret3
      rw [Hs.out]
      have hl3 := hr.own.len
      exact ⟨A1, c1, by rw [← hl3]; rfl, hr.own.gi, hr.old⟩

set_option maxHeartbeats 1000000 in
theorem Run_any (A : Option Addr) (c : Nat) (xs : List Int) (D : Option Addr) (d : Nat) (cs : List (Int × Int)) (w : World) (ha : GI w A c xs) (hd : GC w D d cs) (hcl : cs.length ≤ 1000000) (hL : Laid w) (h0 : 0 < w.heap.size) :
    Calls Tryd.prog 24 #[.slice A xs.length c, .slice D cs.length d] w (RetI w (runR xs cs).1 fun v => .returned (.tuple #[v, .int .i64 (runR xs cs).2.1, .int .i64 (runR xs cs).2.2])) := by
  by_cases hv : VL xs
  · rw [run_vl hv]
    exact Run_in A c xs D d cs w ha hd hv hcl hL h0
  · rw [run_bad hv]
    have Hck := Lib.hid (Check_any A c xs w ha)
    have hk : ((chk xs).1 != 0) = true := by simpa using chk_not hv
    generalize chk xs = q at *
    obtain ⟨q1, q2⟩ := q
    simp only at hk
    go_enter Tryd.func24, Tryd.ntmps24
    go_wp2_with fail
    refine Hck.out.mono ?_
    rintro e w' ⟨rfl, rfl⟩
    go_wp2
    go_ret3
    exact ⟨none, 0, rfl, GI.nil _, Below.refl _ _⟩

theorem setL_vl {xs : List Int} {f r : Int} (h : VL xs) : VL (setL xs f r) := ⟨by rw [setL_len]; exact h.1, setL_ok h.2⟩

set_option maxHeartbeats 1000000 in
theorem sRun_in (A : Option Addr) (c : Nat) (xs : List Int) (D : Option Addr) (d : Nat) (cs : List (Int × Int)) (w : World) (ha : GI w A c xs) (hd : GC w D d cs) (hv : VL xs) (hcl : cs.length ≤ 1000000) :
    Calls Tryd.prog 33 #[.slice A xs.length c, .slice D cs.length d] w (RetI w (runL xs cs 0).1 fun v => .returned (.tuple #[v, .int .i64 (runL xs cs 0).2.1, .int .i64 (runL xs cs 0).2.2])) := by
  have hl := hv.1
  have hsl := ha.2.2.alloc (Nat.le_refl _) (.cells #[] 3)
  go_enter Tryd.func33, Tryd.ntmps33
  go_wp2_with fail
  refine (sCheck_yes A c xs w ha hv).mono ?_
  rintro e w' ⟨rfl, rfl⟩
  go_wp2_with (first | (at_builtin; refine wpList_apl _ rfl _ _ rfl w.heap.size (some ⟨w.heap.size, 0, none⟩) 0 0 [] rfl (OwnI.new w) w.heap.size _ xs.length c xs rfl hsl (by omega) (by simp) ?_; intro A1 c1 w1 hown hg; rw [Nat.zero_add, List.nil_append] at hown; have hb1 := grown_below ((Below.refl _ _).alloc (Nat.le_refl _) _) (OwnI.new w) hg (by simp) (Nat.le_refl _)))
  clear hsl hg
  go_loopg [7, 9, 10] cs.length (fun g _ v i wx => ∃ (k : Nat) (ys : List Int) (A : Option Addr) (c : Nat), g = cs.length - k ∧ k ≤ cs.length ∧ i = .int .i64 k ∧ v = .slice A ys.length c ∧ GI wx A c ys ∧ VL ys ∧ Below w.heap.size w wx ∧ Hid (runL ys (cs.drop k) k = runL xs cs 0))
  case atStart => exact ⟨0, xs, _, _, rfl, by omega, rfl, rfl, hown.gi, hv, hb1, rfl⟩
  case round =>
    obtain ⟨k, ys, A2, c2, rfl, hk, rfl, rfl, hg2, hvy, hb2, HQ⟩ := hrel
    clear hown hb1
    by_cases hlt : k < cs.length
    · obtain ⟨dg, doff, rfl, hdg, hca, hcb⟩ := (hd.below hb2).at_ hlt
      have Hd := Lib.hid (drop_pair cs k hlt)
      generalize cs[k]?.getD (0, 0) = p at *
      obtain ⟨p1, p2⟩ := p
      simp only at hca hcb
      have i1 : (0 : Int) ≤ k := by omega
      have i2 : (k : Int) < cs.length := by omega
      by_cases he : setE ys p1 p2 = 0
      · have Hs := Lib.hid (show runL ys (cs.drop k) k = runL (setL ys p1 p2) (cs.drop (k + 1)) (k + 1) by
          rw [Hd.out]; show (if setE ys p1 p2 = 0 then _ else _) = _; rw [if_pos he])
        have hch : ∀ W : World, GI W A2 c2 ys → Calls Tryd.prog 34 #[.slice A2 ys.length c2, .int .i64 p1, .int .i64 p2] W (RetI W (setL ys p1 p2) fun v => .returned (.tuple #[v, .int .i64 0])) := fun W hW => by
          have := sChange_any A2 c2 ys p1 p2 W hW
          rwa [change_yes hvy he] at this
        have Hch := Lib.hid hch
        clear hch he
        go_wp2_with fail
        go_region_held3 (fun w' => w'.cell? ⟨dg, doff + k * 2, none⟩ = some (.int .i64 p1) ∧ w'.cell? ⟨dg, doff + k * 2 + 1, none⟩ = some (.int .i64 p2)) (first | go_keep | (go_split_ands; exact ⟨(hb3.cell (p := ⟨dg, doff + k * 2, none⟩) (by exact hdg)).trans (by assumption), (hb3.cell (p := ⟨dg, doff + k * 2 + 1, none⟩) (by exact hdg)).trans (by assumption)⟩)) (first | (go_at_call 34; refine (Hch.out _ (by exact hg2)).mono ?_; rintro e w3 ⟨A3, c3, rfl, hg3, hb3⟩))
        all_goals
          go_wp2
          go_roundg (cs.length - (k + 1))
          case measure => omega
          case rel => exact ⟨k + 1, _, A3, c3, rfl, by omega, by go_num, rfl, hg3, setL_vl hvy, hb2.drew.trans (hb3.mono (by exact hb2.size)), Hs.out.symm.trans HQ.out⟩
      · have Hs := Lib.hid (show runL xs cs 0 = ([], setE ys p1 p2, (k : Int)) by
          rw [← HQ.out, Hd.out]; show (if setE ys p1 p2 = 0 then _ else _) = _; rw [if_neg he])
        have he' : (setE ys p1 p2 != 0) = true := by simp [he]
        have hch : ∀ W : World, GI W A2 c2 ys → Calls Tryd.prog 34 #[.slice A2 ys.length c2, .int .i64 p1, .int .i64 p2] W (RetI W [] fun v => .returned (.tuple #[v, .int .i64 (setE ys p1 p2)])) := fun W hW => by
          have := sChange_any A2 c2 ys p1 p2 W hW
          rwa [change_err hvy he] at this
        have Hch := Lib.hid hch
        clear hch he
        generalize setE ys p1 p2 = q at *
        go_wp2_with fail
        go_region_held3 (fun w' => w'.cell? ⟨dg, doff + k * 2, none⟩ = some (.int .i64 p1) ∧ w'.cell? ⟨dg, doff + k * 2 + 1, none⟩ = some (.int .i64 p2)) (first | go_keep | (go_split_ands; exact ⟨(hb3.cell (p := ⟨dg, doff + k * 2, none⟩) (by exact hdg)).trans (by assumption), (hb3.cell (p := ⟨dg, doff + k * 2 + 1, none⟩) (by exact hdg)).trans (by assumption)⟩)) (first | (go_at_call 34; refine (Hch.out _ (by exact hg2)).mono ?_; rintro e w3 ⟨A3, c3, rfl, hg3, hb3⟩))
        all_goals
          go_wp2
          go_ret3
          rw [Hs.out]
          exact ⟨none, 0, rfl, GI.nil _, hb2.drew.trans (hb3.mono (by exact hb2.size))⟩
    · have Hs := Lib.hid (show runL xs cs 0 = (ys, 0, 0) by rw [← HQ.out, List.drop_eq_nil_of_le (by omega)]; rfl)
      go_wp2
      go_ret3
      rw [Hs.out]
      exact ⟨A2, c2, rfl, hg2, hb2⟩

set_option maxHeartbeats 1000000 in
theorem sRun_any (A : Option Addr) (c : Nat) (xs : List Int) (D : Option Addr) (d : Nat) (cs : List (Int × Int)) (w : World) (ha : GI w A c xs) (hd : GC w D d cs) (hcl : cs.length ≤ 1000000) :
    Calls Tryd.prog 33 #[.slice A xs.length c, .slice D cs.length d] w (RetI w (runR xs cs).1 fun v => .returned (.tuple #[v, .int .i64 (runR xs cs).2.1, .int .i64 (runR xs cs).2.2])) := by
  by_cases hv : VL xs
  · rw [run_vl hv]
    exact sRun_in A c xs D d cs w ha hd hv hcl
  · rw [run_bad hv]
    have Hck := Lib.hid (sCheck_any A c xs w ha)
    have hk : ((chk xs).1 != 0) = true := by simpa using chk_not hv
    generalize chk xs = q at *
    obtain ⟨q1, q2⟩ := q
    simp only at hk
    go_enter Tryd.func33, Tryd.ntmps33
    go_wp2_with fail
    refine Hck.out.mono ?_
    rintro e w' ⟨rfl, rfl⟩
    go_wp2
    go_ret3
    exact ⟨none, 0, rfl, GI.nil _, Below.refl _ _⟩
end Go.Proofs.YtfacdnpgidnafaaDoor
