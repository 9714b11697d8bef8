/- The laws RoleLooks and RoleChanges: each returns true, and nothing that was there has changed. -/
import Derived.Test.YtfacdnpgidnafaaDoorB4
import Derived.Test.YtfacdnpgidnafaaDoorB5
import Derived.Test.YtfacdnpgidnafaaDoorL1
namespace Go.Proofs.YtfacdnpgidnafaaDoor
open Go.RowKit

theorem bne_self (a : Int) : (a != a) = false := by simp
theorem beq_self' (a : Int) : (a == a) = true := by simp

set_option maxHeartbeats 1000000 in
theorem roleLooks_walk (A : Option Addr) (c : Nat) (xs : List Int) (r : Int) (w : World) (hL : Laid w) (h0 : 0 < w.heap.size) (ha : GI w A c xs) (_ : ∀ x ∈ xs, (Lit.int .i64 x).wf = true) (_ : (Lit.int .i64 r).wf = true) :
    Calls Tryd.prog 8 #[.slice A xs.length c, .int .i64 r] w (RetB w (.returned (.bool true))) := by
  have hl := ha.len
  by_cases c1 : (60 < xs.length ∧ xs.length ≤ 256) ∨ 260 < xs.length
  · rcases c1 with ⟨d1, d2⟩ | d3
    all_goals
      go_enter Tryd.func8, Tryd.ntmps8
      go_wp2_with fail
      refine (awake_any _ hL h0).mono ?_
      rintro e w5 ⟨rfl, hb5⟩
      go_wp2
      go_ret
      exact ⟨rfl, hb5⟩
  · have c2 : xs.length ≤ 60 ∨ (256 < xs.length ∧ xs.length ≤ 260) := by omega
    clear c1
    have HOf := Lib.hid (Of_any A c xs r w ha)
    have HsOf := Lib.hid (fun (W : World) (hW : GI W A c xs) => sOf_any A c xs r W hW)
    have HC := Lib.hid (fun (W : World) (hW : GI W A c xs) => Counts_any A c xs W hW)
    have HsC := Lib.hid (fun (W : World) (hW : GI W A c xs) => sCounts_any A c xs W hW)
    have HT := Lib.hid (fun (W : World) (hW : GI W A c xs) => Text_any A c xs W hW)
    have HsT := Lib.hid (fun (W : World) (hW : GI W A c xs) => sText_any A c xs W hW)
    generalize ofR xs r = q1 at *
    generalize countR xs = q2 at *
    generalize textR xs = q3 at *
    obtain ⟨ys, e1⟩ := q1
    obtain ⟨zs, e2⟩ := q2
    obtain ⟨bs, e3⟩ := q3
    simp only at HOf HsOf HC HsC HT HsT
    have t1 := bne_self e1
    have t2 := bne_self e2
    have t3 := beq_self' e3
    rcases c2 with d1 | ⟨d1, d2⟩
    all_goals
      go_enter Tryd.func8, Tryd.ntmps8
      go_wp2_with fail
      refine HOf.out.mono ?_
      rintro e w1 ⟨A1, c1, rfl, hg1, hb1⟩
      have ha1 := ha.below hb1
      go_wp2_with fail
      refine (HsOf.out w1 ha1).mono ?_
      rintro e w2 ⟨A2, c2, rfl, hg2, hb2⟩
      have ha2 := ha1.below hb2
      have hg1' := hg1.below hb2
      have hb12 := below_step hb1 hb2
      go_wp2_with fail
      refine (HC.out w2 ha2).mono ?_
      rintro e w3 ⟨A3, c3, rfl, hg3, hb3⟩
      have ha3 := ha2.below hb3
      have hg1'' := hg1'.below hb3
      have hg2'' := hg2.below hb3
      have hb13 := below_step hb12 hb3
      go_wp2_with fail
      refine (HsC.out w3 ha3).mono ?_
      rintro e w4 ⟨A4, c4, rfl, hg4, hb4⟩
      have ha4 := ha3.below hb4
      have g1 := hg1''.below hb4
      have g2 := hg2''.below hb4
      have g3 := hg3.below hb4
      have hb14 := below_step hb13 hb4
      clear hb1 hb2 hb3 hb4 hb12 hb13 ha1 ha2 ha3 hg1 hg1' hg1'' hg2 hg2'' hg3
      go_wp2_with fail
      refine (sameInts_yes A1 A2 c1 c2 ys w4 g1 g2).mono ?_
      rintro e w5 ⟨rfl, k1, rfl⟩
      go_wp2_with fail
      refine (sameInts_yes A3 A4 c3 c4 zs _ (g3.drewN k1) (hg4.drewN k1)).mono ?_
      rintro e w5 ⟨rfl, k2, rfl⟩
      go_wp2_with fail
      refine (HT.out _ (GI.drewN ha4 _)).mono ?_
      rintro e w6 ⟨rfl, hb6⟩
      have hb16 := below_step (below_drewN' hb14 _) hb6
      have ha6 := GI.below (GI.drewN ha4 _) hb6
      go_wp2_with fail
      refine (HsT.out w6 ha6).mono ?_
      rintro e w7 ⟨rfl, hb7⟩
      have hb17 := below_step hb16 hb7
      go_wp2_with fail
      refine (awake_any _ (hL.below h0 hb17) (Nat.lt_of_lt_of_le h0 hb17.size)).mono ?_
      rintro e w8 ⟨rfl, hb8⟩
      go_wp2
      go_ret
      exact ⟨rfl, below_step hb17 hb8⟩
end Go.Proofs.YtfacdnpgidnafaaDoor
