/- The reference of pool: Check, free, asked. -/
import Derived.Test.YtoimmfcodflmkaaDoorT4
namespace Go.Proofs.YtoimmfcodflmkaaDoor
open Go.RowKit
set_option linter.unusedVariables false

theorem below_dN2 {B : Nat} {w w' : World} (h : Below B w w') (k : Nat) : Below B w (w'.drewN k) := ⟨h.os, h.tape, h.output, h.size, h.block⟩
set_option maxHeartbeats 2000000 in
theorem sCheck_any (s : Int) (A : Option Addr) (c : Nat) (xs : List Int) (w : World) (ha : GI w A c xs) :
    Calls Tryd.prog 17 #[.agg #[.int .i64 s, .slice A xs.length c]] w (RetB w (.returned (.tuple #[.int .i64 (chkP s xs).1, .int .i64 (chkP s xs).2]))) := by
  have hl := ha.len
  have hx := Bx.new w 24 #[.int .i64 s, .slice A xs.length c]
  have hw := al w (.cells #[.int .i64 s, .slice A xs.length c] 24)
  have hg := ha.below hw
  have c0 : (w.alloc (.cells #[.int .i64 s, .slice A xs.length c] 24)).cell? ⟨w.heap.size, 0, none⟩ = some (.int .i64 s) := hx.cell 0
  have c1 : (w.alloc (.cells #[.int .i64 s, .slice A xs.length c] 24)).cell? ⟨w.heap.size, 1, none⟩ = some (.slice A xs.length c) := hx.cell 1
  have HS := Lib.hid (sized_any s)
  by_cases hs : s < 1 ∨ 32 < s
  · have E := Lib.hid (show chkP s xs = (2, 0) by unfold chkP; rw [if_pos hs])
    generalize chkP s xs = ce at *
    rw [szB_no hs] at HS
    clear hs
    go_enter Tryd.func17, Tryd.ntmps17
    go_wp2_with fail
    refine (HS.out _).mono ?_
    rintro e w' ⟨rfl, rfl⟩
    go_wp2
    go_ret2
    exact ⟨by rw [E.out]; rfl, hw⟩
  · have E := Lib.hid (show chkP s xs = ckP s xs 0 xs.length by unfold chkP; rw [if_neg hs])
    generalize chkP s xs = ce at *
    rw [szB_yes (by omega) (by omega)] at HS
    clear hs hx
    generalize hW : w.alloc (.cells #[.int .i64 s, .slice A xs.length c] 24) = W at *
    have HW := Lib.hid hW
    clear hW ha
    generalize hn : xs.length = n at *
    have Hn := Lib.hid hn
    clear hn
    go_enter Tryd.func17, Tryd.ntmps17
    go_wp2_with fail
    rw [HW.out]
    refine (HS.out _).mono ?_
    rintro e w' ⟨rfl, rfl⟩
    go_wp2_with fail
    go_loopg [4] n (fun g i wx => (∃ m, wx = W.drewN m) ∧ ∃ k : Nat, g = n - k ∧ k ≤ n ∧ i = .int .i64 k ∧ Hid (ckP s xs 0 n = ckP s xs k (n - k)))
    case atStart => exact ⟨⟨0, rfl⟩, 0, rfl, by omega, rfl, rfl⟩
    case round =>
      obtain ⟨⟨m, rfl⟩, k, rfl, hk, rfl, HQ⟩ := hrel
      by_cases hlt : k < n
      · obtain ⟨ad, rfl, _, hca⟩ := hg.at_ (k := k) (by rw [Hn.out]; exact hlt)
        have Hst := Lib.hid (ckP_step s xs k n hlt)
        have kd : decide ((k : Int) < (n : Int)) = true := by simp; omega
        have hk0 : (0 : Int) ≤ k := by omega
        have hk1 : (k : Int) < n := by omega
        by_cases hr : xs[k]?.getD 0 < 0 ∨ s ≤ xs[k]?.getD 0
        · have E2 := Lib.hid (show ckP s xs 0 n = (2, (k : Int)) by rw [HQ.out, Hst.out, if_pos hr])
          have r2 : decide (xs[k]?.getD 0 < 0) = true ∨ (decide (xs[k]?.getD 0 < 0) = false ∧ decide (s ≤ xs[k]?.getD 0) = true) := by simp; omega
          clear hr Hst HQ
          generalize xs[k]?.getD 0 = x at *
          rcases r2 with r1 | ⟨r1, r2⟩
          all_goals
            go_wp2
            go_quiet (fail)
            all_goals go_wp2
            all_goals go_ret2
            all_goals exact ⟨by rw [E.out, E2.out]; rfl, by first | exact below_dN2 hw _ | exact below_dN2 (below_dN2 hw _) _ | exact below_dN2 (below_dN2 (below_dN2 hw _) _) _⟩
        · have r1 : decide (xs[k]?.getD 0 < 0) = false := by simp; omega
          have r2 : decide (s ≤ xs[k]?.getD 0) = false := by simp; omega
          rw [if_neg hr] at Hst
          clear hr
          by_cases h0 : 0 < k
          · obtain ⟨j, hj⟩ : ∃ j, j = k - 1 := ⟨_, rfl⟩
            obtain ⟨_, he, _, hcb⟩ := hg.at_ (k := j) (by rw [Hn.out]; omega)
            cases he
            rw [← hj] at Hst
            have j1 : (k : Int) - 1 = (j : Int) := by omega
            have j2 : j < n := by omega
            have j3 : decide (0 < (k : Int)) = true := by simp; omega
            have j4 : (0 < k) = True := by simp [h0]
            have j5 : (0 : Int) ≤ j := by omega
            have j6 : (j : Int) < n := by omega
            by_cases ho : xs[k]?.getD 0 ≤ xs[j]?.getD 0
            · have E2 := Lib.hid (show ckP s xs 0 n = (8, (k : Int)) by rw [HQ.out, Hst.out, if_pos ⟨h0, ho⟩])
              have r3 : decide (xs[k]?.getD 0 ≤ xs[j]?.getD 0) = true := by simpa using ho
              clear Hst HQ ho hj h0
              generalize xs[k]?.getD 0 = x at *
              generalize xs[j]?.getD 0 = y at *
              go_wp2
              go_quiet (fail)
              all_goals go_wp2
              all_goals go_quiet (fail)
              all_goals go_wp2
              all_goals go_ret2
              all_goals exact ⟨by rw [E.out, E2.out]; rfl, by first | exact below_dN2 hw _ | exact below_dN2 (below_dN2 hw _) _ | exact below_dN2 (below_dN2 (below_dN2 hw _) _) _⟩
            · have E2 := Lib.hid (show ckP s xs 0 n = ckP s xs (k + 1) (n - (k + 1)) by rw [HQ.out, Hst.out, if_neg (by omega)])
              have r3 : decide (xs[k]?.getD 0 ≤ xs[j]?.getD 0) = false := by simpa using ho
              clear Hst HQ ho hj h0
              generalize xs[k]?.getD 0 = x at *
              generalize xs[j]?.getD 0 = y at *
              go_wp2
              go_quiet (fail)
              all_goals go_wp2
              all_goals go_quiet (fail)
              all_goals go_wp2
              all_goals go_roundg (n - (k + 1))
              case measure => omega
              case rel => exact ⟨⟨_, rfl⟩, k + 1, rfl, by omega, by go_num, E2.out⟩
          · have E2 := Lib.hid (show ckP s xs 0 n = ckP s xs (k + 1) (n - (k + 1)) by rw [HQ.out, Hst.out, if_neg (by omega)])
            have j3 : decide (0 < (k : Int)) = false := by simp; omega
            have j4 : (0 < k) = False := by simp; omega
            clear Hst HQ h0
            generalize xs[k]?.getD 0 = x at *
            go_wp2
            go_quiet (fail)
            all_goals go_wp2
            all_goals go_quiet (fail)
            all_goals go_wp2
            all_goals go_roundg (n - (k + 1))
            case measure => omega
            case rel => exact ⟨⟨_, rfl⟩, k + 1, rfl, by omega, by go_num, E2.out⟩
      · have E2 := Lib.hid (show ckP s xs 0 n = (0, 0) by rw [HQ.out, show n - k = 0 by omega]; rfl)
        have kd : decide ((k : Int) < (n : Int)) = false := by simp; omega
        go_wp2
        go_ret2
        exact ⟨by rw [E.out, E2.out]; rfl, below_dN2 hw _⟩

set_option maxHeartbeats 1000000 in
theorem sFree_any (s : Int) (A : Option Addr) (c : Nat) (xs : List Int) (d : Int) (w : World) (ha : GI w A c xs) :
    Calls Tryd.prog 39 #[.agg #[.int .i64 s, .slice A xs.length c], .int .i64 d] w (RetB w (.returned (.bool (xs.contains d)))) := by
  have hl := ha.len
  have hx := Bx.new w 24 #[.int .i64 s, .slice A xs.length c]
  have hw := al w (.cells #[.int .i64 s, .slice A xs.length c] 24)
  have hg := ha.below hw
  have c1 : (w.alloc (.cells #[.int .i64 s, .slice A xs.length c] 24)).cell? ⟨w.heap.size, 1, none⟩ = some (.slice A xs.length c) := hx.cell 1
  have HX := Lib.hid (show xs.contains d = (xs.drop 0).contains d from rfl)
  have HD := Lib.hid (show ∀ k, k < xs.length → (xs.drop k).contains d = (d == xs[k]?.getD 0 || (xs.drop (k + 1)).contains d) from fun k hk => by
    rw [List.drop_eq_getElem_cons hk, List.contains_cons, List.getElem?_eq_getElem hk]; rfl)
  have HE := Lib.hid (show (xs.drop xs.length).contains d = false by simp)
  clear hx ha
  generalize hW : w.alloc (.cells #[.int .i64 s, .slice A xs.length c] 24) = W at *
  have HW := Lib.hid hW
  clear hW
  generalize xs.contains d = cb at *
  generalize hn : xs.length = n at *
  have Hn := Lib.hid hn
  clear hn
  go_enter Tryd.func39, Tryd.ntmps39
  go_wp2_with fail
  rw [HW.out]
  go_loopg [5] n (fun g i wx => W = wx ∧ ∃ k : Nat, g = n - k ∧ k ≤ n ∧ i = .int .i64 k ∧ Hid (cb = (xs.drop k).contains d))
  case atStart => exact ⟨rfl, 0, rfl, by omega, rfl, HX⟩
  case round =>
    obtain ⟨rfl, k, rfl, hk, rfl, HQ⟩ := hrel
    by_cases hlt : k < n
    · obtain ⟨ad, rfl, _, hca⟩ := hg.at_ (k := k) (by rw [Hn.out]; exact hlt)
      have Hst := Lib.hid (HD.out k hlt)
      have kd : decide ((k : Int) < (n : Int)) = true := by simp; omega
      by_cases he : xs[k]?.getD 0 = d
      · have E2 := Lib.hid (show cb = true by rw [HQ.out, Hst.out, he]; simp)
        have r1 : (xs[k]?.getD 0 == d) = true := by simp [he]
        clear he Hst HQ
        generalize xs[k]?.getD 0 = x at *
        go_wp2
        go_ret
        exact ⟨by rw [E2.out]; rfl, hw⟩
      · have E2 := Lib.hid (show cb = (xs.drop (k + 1)).contains d by
          rw [HQ.out, Hst.out, show (d == xs[k]?.getD 0) = false by simp; exact fun h => he h.symm, Bool.false_or])
        have r1 : (xs[k]?.getD 0 == d) = false := by simp [he]
        clear he Hst HQ
        generalize xs[k]?.getD 0 = x at *
        go_wp2
        go_roundg (n - (k + 1))
        case measure => omega
        case rel => exact ⟨rfl, k + 1, rfl, by omega, by go_num, E2⟩
    · obtain rfl : k = n := by omega
      have E2 := Lib.hid (show cb = false by rw [HQ.out, HE.out])
      have kd : decide ((k : Int) < (k : Int)) = false := by simp
      go_wp2
      go_ret
      exact ⟨by rw [E2.out]; rfl, hw⟩

/-- The error of a pool and a descriptor. -/
def akE (s : Int) (xs : List Int) (d : Int) : Int := if (chkP s xs).1 ≠ 0 then (chkP s xs).1 else if d < 0 ∨ s ≤ d then 2 else 0
set_option maxHeartbeats 1000000 in
theorem sAsked_any (s : Int) (A : Option Addr) (c : Nat) (xs : List Int) (d : Int) (w : World) (ha : GI w A c xs) :
    Calls Tryd.prog 38 #[.agg #[.int .i64 s, .slice A xs.length c], .int .i64 d] w (RetB w (.returned (.int .i64 (akE s xs d)))) := by
  have hx := Bx.new w 24 #[.int .i64 s, .slice A xs.length c]
  have hw := al w (.cells #[.int .i64 s, .slice A xs.length c] 24)
  have hg := ha.below hw
  have Hc := Lib.hid (fun W (hW : GI W A c xs) => sCheck_any s A c xs W hW)
  by_cases hc : (chkP s xs).1 = 0
  · rw [(chkP_ok hc).chk] at Hc
    have hd2 : (akE s xs d = 2 ∧ (decide (d < 0) = true ∨ (decide (d < 0) = false ∧ decide (s ≤ d) = true))) ∨ (akE s xs d = 0 ∧ decide (d < 0) = false ∧ decide (s ≤ d) = false) := by
      unfold akE
      rw [if_neg (by simpa using hc)]
      by_cases h : d < 0 ∨ s ≤ d
      · rw [if_pos h]; left; simp; omega
      · rw [if_neg h]; right; simp; omega
    clear hc ha
    generalize akE s xs d = ak at *
    rcases hd2 with ⟨rfl, d1 | ⟨d1, d2⟩⟩ | ⟨rfl, d1, d2⟩
    all_goals
      go_enter Tryd.func38, Tryd.ntmps38
      go_wp2_with (first | (refine wpList_load_row rfl 24 _ rfl (w.heap.size) rfl 24 _ _ _ hx Tryd.underlying24 rfl pool_size ?_))
      refine (Hc.out _ hg).mono ?_
      rintro e w1 ⟨rfl, hb1⟩
      obtain ⟨c0, c1⟩ := s2 (hx.below hb1)
      go_wp2
      go_ret
      exact ⟨rfl, below_step hw hb1⟩
  · have E := Lib.hid (show akE s xs d = (chkP s xs).1 by unfold akE; rw [if_pos hc])
    have hc' : ((chkP s xs).1 == 0) = false := by simp [hc]
    generalize akE s xs d = ak at *
    generalize chkP s xs = ce at *
    obtain ⟨ce, ci⟩ := ce
    simp only at hc' E
    clear hc ha
    go_enter Tryd.func38, Tryd.ntmps38
    go_wp2_with (first | (refine wpList_load_row rfl 24 _ rfl (w.heap.size) rfl 24 _ _ _ hx Tryd.underlying24 rfl pool_size ?_))
    refine (Hc.out _ hg).mono ?_
    rintro e w1 ⟨rfl, hb1⟩
    go_wp2
    go_ret
    exact ⟨by rw [E.out]; rfl, below_step hw hb1⟩
end Go.Proofs.YtoimmfcodflmkaaDoor
