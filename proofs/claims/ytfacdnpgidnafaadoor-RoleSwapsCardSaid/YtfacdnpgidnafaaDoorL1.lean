/- The laws RoleMays and RoleParses: each returns true, and nothing that was there has changed. -/
import Derived.Test.YtfacdnpgidnafaaDoorA6
namespace Go.Proofs.YtfacdnpgidnafaaDoor
open Go.RowKit

theorem Laid.drewN {w : World} (h : Laid w) (k : Nat) : Laid (w.drewN k) := h
theorem below_step {w w1 w2 : World} (h1 : Below w.heap.size w w1) (h2 : Below w1.heap.size w1 w2) : Below w.heap.size w w2 := h1.trans (h2.mono h1.size)

set_option maxHeartbeats 1000000 in
theorem roleMays_walk (f t : Int) (w : World) (hL : Laid w) (h0 : 0 < w.heap.size) (_ : (Lit.int .i64 f).wf = true) (_ : (Lit.int .i64 t).wf = true) :
    Calls Tryd.prog 3 #[.int .i64 f, .int .i64 t] w (RetB w (.returned (.bool true))) := by
  go_enter Tryd.func3, Tryd.ntmps3
  go_wp2_with fail
  refine (May_any f t _ hL).mono ?_
  rintro e w' ⟨rfl, rfl⟩
  go_wp2_with fail
  refine (sMay_any f t _).mono ?_
  rintro e w' ⟨rfl, rfl⟩
  go_wp2_with fail
  refine (Path_any f t _ hL h0).mono ?_
  rintro e w1 ⟨A1, c1, rfl, hg1, hb1⟩
  go_wp2_with fail
  refine (sPath_any f t _).mono ?_
  rintro e w2 ⟨A2, c2, rfl, hg2, hb2⟩
  have hbb := below_step hb1 hb2
  have hL2 := hL.below h0 hbb
  have hs2 := hbb.size
  generalize mayR f t = r at *
  generalize pathR f t = q at *
  obtain ⟨b, e1⟩ := r
  obtain ⟨xs, e2⟩ := q
  simp only at hg1 hg2
  have q1 : (b == b) = true := by cases b <;> rfl
  have q2 : (e1 == e1) = true := by simp
  have q3 : (e2 == e2) = true := by simp
  go_wp2_with fail
  refine (sameInts_yes A1 A2 c1 c2 xs _ (hg1.below hb2) hg2).mono ?_
  rintro e w3 ⟨rfl, k, rfl⟩
  go_wp2_with fail
  refine (awake_any _ (Laid.drewN hL2 k) (Nat.lt_of_lt_of_le h0 hs2)).mono ?_
  rintro e w4 ⟨rfl, hb4⟩
  go_wp2
  go_ret
  exact ⟨rfl, below_step (below_drewN' hbb k) hb4⟩

set_option maxHeartbeats 1000000 in
theorem roleParses_walk (s : ByteArray) (w : World) (hL : Laid w) (h0 : 0 < w.heap.size) (hs' : s.size ≤ maxLen) :
    Calls Tryd.prog 4 #[.string s] w (RetB w (.returned (.bool true))) := by
  have hs : s.size ≤ 9223372036854775807 := by simp only [maxLen] at hs'; omega
  by_cases h3 : 300 < s.size
  · go_enter Tryd.func4, Tryd.ntmps4
    go_wp2_with fail
    refine (awake_any _ hL h0).mono ?_
    rintro e w4 ⟨rfl, hb4⟩
    go_wp2
    go_ret
    exact ⟨rfl, hb4⟩
  · have h3' : s.size ≤ 300 := by omega
    go_enter Tryd.func4, Tryd.ntmps4
    go_wp2_with fail
    refine (Parse_any s hs _).mono ?_
    rintro e w1 ⟨A1, c1, rfl, hg1, hb1⟩
    go_wp2_with fail
    refine (sParse_any s hs _).mono ?_
    rintro e w2 ⟨A2, c2, rfl, hg2, hb2⟩
    generalize parseR s.data.toList = r at *
    obtain ⟨xs, e1, p1⟩ := r
    simp only at hg1 hg2
    generalize hF : Obj.cells #[.int .i64 e1, .int .i64 p1] 32 = F at hb2
    subst hF
    have hs1 := hb1.size
    have hs2 := hb2.size
    simp only [World.size_alloc] at hs2
    have hbb : Below w.heap.size w (w2.alloc (.cells #[.int .i64 e1, .int .i64 p1] 32)) := (below_step (hb1.alloc hs1 _) hb2).alloc (by omega) _
    have hL2 := hL.below h0 hbb
    have hg1' : GI (w2.alloc (.cells #[.int .i64 e1, .int .i64 p1] 32)) A1 c1 xs := ((hg1.alloc _).below hb2).alloc _
    have d0 : (w2.alloc (.cells #[.int .i64 e1, .int .i64 p1] 32)).cell? ⟨w1.heap.size, 0, none⟩ = some (.int .i64 e1) := by
      rw [World.cell?_alloc_past _ _ _ (by omega), hb2.cell (p := ⟨w1.heap.size, 0, none⟩) (by simp), World.cell?_alloc_at _ _ _ _ rfl]; rfl
    have d1 : (w2.alloc (.cells #[.int .i64 e1, .int .i64 p1] 32)).cell? ⟨w1.heap.size, 1, none⟩ = some (.int .i64 p1) := by
      rw [World.cell?_alloc_past _ _ _ (by omega), hb2.cell (p := ⟨w1.heap.size, 1, none⟩) (by simp), World.cell?_alloc_at _ _ _ _ rfl]; rfl
    have q2 : (e1 == e1) = true := by simp
    have q3 : (p1 == p1) = true := by simp
    go_wp2_with fail
    refine (sameInts_yes A1 A2 c1 c2 xs _ hg1' (hg2.alloc _)).mono ?_
    rintro e w3 ⟨rfl, k, rfl⟩
    go_wp2_with fail
    refine (awake_any _ (Laid.drewN hL2 k) (Nat.lt_of_lt_of_le h0 hbb.size)).mono ?_
    rintro e w4 ⟨rfl, hb4⟩
    go_wp2
    go_ret
    exact ⟨rfl, below_step (below_drewN' hbb k) hb4⟩
end Go.Proofs.YtfacdnpgidnafaaDoor
