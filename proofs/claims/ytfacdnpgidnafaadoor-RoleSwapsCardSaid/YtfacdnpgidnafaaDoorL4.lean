/- The law RoleChanges: it returns true, and nothing that was there has changed. -/
import Derived.Test.YtfacdnpgidnafaaDoorL3
namespace Go.Proofs.YtfacdnpgidnafaaDoor
open Go.RowKit

set_option maxHeartbeats 2000000 in
theorem roleChanges_walk (A : Option Addr) (c : Nat) (xs : List Int) (D : Option Addr) (d : Nat) (cs : List (Int × Int)) (w : World) (hL : Laid w) (h0 : 0 < w.heap.size) (ha : GI w A c xs) (_ : ∀ x ∈ xs, (Lit.int .i64 x).wf = true) (hd : GC w D d cs) :
    Calls Tryd.prog 9 #[.slice A xs.length c, .slice D cs.length d] w (RetB w (.returned (.bool true))) := by
  have hl := ha.len
  have hdl : cs.length ≤ 9223372036854775807 := by have := hd.1; have := hd.2.1; unfold maxLen at this; omega
  by_cases c1 : ((60 < xs.length ∧ xs.length ≤ 256) ∨ 260 < xs.length) ∨ 40 < cs.length
  · have c2 : ((60 < xs.length ∧ xs.length ≤ 256) ∨ 260 < xs.length) ∨ ((xs.length ≤ 60 ∨ (256 < xs.length ∧ xs.length ≤ 260)) ∧ 40 < cs.length) := by omega
    clear c1
    rcases c2 with (⟨d1, d2⟩ | d3) | ⟨d1 | ⟨d1, d2⟩, d4⟩
    all_goals
      go_enter Tryd.func9, Tryd.ntmps9
      go_wp2_with fail
      refine (awake_any _ hL h0).mono ?_
      rintro e w5 ⟨rfl, hb5⟩
      go_wp2
      go_ret
      exact ⟨rfl, hb5⟩
  · have c2 : xs.length ≤ 60 ∨ (256 < xs.length ∧ xs.length ≤ 260) := by omega
    have d4 : cs.length ≤ 40 := by omega
    clear c1
    have HR := Lib.hid (fun (A : Option Addr) (c : Nat) (W : World) (hW : GI W A c xs) (hD : GC W D d cs) (hLW : Laid W) (h0W : 0 < W.heap.size) => Run_any A c xs D d cs W hW hD (by omega) hLW h0W)
    have HsR := Lib.hid (fun (W : World) (hW : GI W A c xs) (hD : GC W D d cs) => sRun_any A c xs D d cs W hW hD (by omega))
    have HK := Lib.hid (fun (A : Option Addr) (c : Nat) (W : World) (hW : GI W A c xs) => Check_any A c xs W hW)
    have HsK := Lib.hid (fun (A : Option Addr) (c : Nat) (W : World) (hW : GI W A c xs) => sCheck_any A c xs W hW)
    have hl2 : xs.length ≤ 2147483648 := by omega
    generalize runR xs cs = q1 at *
    generalize chk xs = q2 at *
    obtain ⟨ys, e1, p1⟩ := q1
    obtain ⟨e2, p2⟩ := q2
    simp only at HR HsR HK HsK
    have t1 := bne_self e1
    have t2 := bne_self e2
    have t3 := bne_self p1
    have t4 := bne_self p2
    have hfin : ∀ (n0 : Bool), decide (0 < cs.length) = n0 → Calls Tryd.prog 9 #[.slice A xs.length c, .slice D cs.length d] w (RetB w (.returned (.bool true))) := by
      intro n0 hn0
      rcases c2 with d1 | ⟨d1, d2⟩
      all_goals
        go_enter Tryd.func9, Tryd.ntmps9
        go_wp2_with fail
        refine (ownInts_any A c xs w ha hl2).mono ?_
        rintro e w1 ⟨A1, c1, rfl, hg1, hb1⟩
        have ha1 := ha.below hb1
        have hd1 := hd.below hb1
        have hL1 := hL.below h0 hb1
        have h01 := Nat.lt_of_lt_of_le h0 hb1.size
        go_wp2_with fail
        refine (HK.out A1 c1 w1 hg1).mono ?_
        rintro e w' ⟨rfl, rfl⟩
        go_wp2_with fail
        refine (HsK.out A c w1 ha1).mono ?_
        rintro e w' ⟨rfl, rfl⟩
        go_wp2_with fail
        refine (HR.out A1 c1 w1 hg1 hd1 hL1 h01).mono ?_
        rintro e w2 ⟨A2, c2, rfl, hg2, hb2⟩
        have hb12 := below_step hb1 hb2
        have ha2 := ha1.below hb2
        have hd2 := hd1.below hb2
        have g12 := hg1.below hb2
        go_wp2_with fail
        refine (HsR.out w2 ha2 hd2).mono ?_
        rintro e w3 ⟨A3, c3, rfl, hg3, hb3⟩
        have hb13 := below_step hb12 hb3
        have ha3 := ha2.below hb3
        have hd3 := hd2.below hb3
        have g13 := g12.below hb3
        have g23 := hg2.below hb3
        clear hb1 hb2 hb3 hb12 ha1 ha2 hd1 hd2 hg1 g12 hg2 hL1 h01
        go_wp2_with fail
        refine (sameInts_yes A2 A3 c2 c3 ys w3 g23 hg3).mono ?_
        rintro e w5 ⟨rfl, k1, rfl⟩
        have hb14 := below_drewN' hb13 k1
        have ha4 := ha3.drewN k1
        have g14 := g13.drewN k1
        have hL4 := hL.below h0 hb14
        have h04 := Nat.lt_of_lt_of_le h0 hb14.size
        have hd4 : GC (w3.drewN k1) D d cs := hd3
        clear hb13 ha3 hd3 g13 g23 hg3
        generalize w3.drewN k1 = w4 at *
        cases n0
        · go_wp2_with fail
          refine (sameInts_yes A1 A c1 c xs w4 g14 ha4).mono ?_
          rintro e w5 ⟨rfl, k2, rfl⟩
          go_wp2_with fail
          refine (awake_any _ (Laid.drewN hL4 k2) h04).mono ?_
          rintro e w8 ⟨rfl, hb8⟩
          go_wp2
          go_ret
          exact ⟨rfl, below_step (below_drewN' hb14 k2) hb8⟩
        · have hpos : 0 < cs.length := by simpa using hn0
          obtain ⟨dg, doff, rfl, hdg, hca, hcb⟩ := hd4.at_ hpos
          generalize cs[0]?.getD (0, 0) = p at *
          obtain ⟨f1, f2⟩ := p
          simp only [Nat.zero_mul, Nat.add_zero] at hca hcb
          have i2 : (0 : Int) < cs.length := by omega
          have HC1 := Lib.hid (fun (A : Option Addr) (c : Nat) (W : World) (hW : GI W A c xs) (hLW : Laid W) (h0W : 0 < W.heap.size) => Change_any A c xs f1 f2 W hW hLW h0W)
          have HC2 := Lib.hid (fun (A : Option Addr) (c : Nat) (W : World) (hW : GI W A c xs) => sChange_any A c xs f1 f2 W hW)
          generalize changeR xs f1 f2 = q at *
          obtain ⟨zs, e5⟩ := q
          simp only at HC1 HC2
          have t5 := bne_self e5
          go_wp2_with fail
          go_region_held3 (fun w' => w'.cell? ⟨dg, doff, none⟩ = some (.int .i64 f1) ∧ w'.cell? ⟨dg, doff + 1, none⟩ = some (.int .i64 f2)) (first | go_keep | (go_split_ands; exact ⟨(hb6.cell (p := ⟨dg, doff, none⟩) (by exact hdg)).trans (by assumption), (hb6.cell (p := ⟨dg, doff + 1, none⟩) (by exact hdg)).trans (by assumption)⟩)) (first | (go_at_call 23; refine (HC1.out A1 c1 _ (by exact g14) (by exact hL4) (by exact h04)).mono ?_; rintro e w6 ⟨A6, c6, rfl, hg6, hb6⟩))
          have hb16 : Below w.heap.size w w6 := hb14.drew.trans (hb6.mono (by exact hb14.size))
          have ha6 := GI.below ha4.drew hb6
          have g16 := GI.below g14.drew hb6
          have hca6 : w6.cell? ⟨dg, doff, none⟩ = some (.int .i64 f1) := (hb6.cell (p := ⟨dg, doff, none⟩) (by exact hdg)).trans hca
          have hcb6 : w6.cell? ⟨dg, doff + 1, none⟩ = some (.int .i64 f2) := (hb6.cell (p := ⟨dg, doff + 1, none⟩) (by exact hdg)).trans hcb
          have hdg6 : dg < w6.heap.size := Nat.lt_of_lt_of_le hdg hb6.size
          clear hca hcb hdg ha4 g14 hb14 hL4 h04 hd4 hb6
          go_wp2_with fail
          go_region_held3 (fun w' => w'.cell? ⟨dg, doff, none⟩ = some (.int .i64 f1) ∧ w'.cell? ⟨dg, doff + 1, none⟩ = some (.int .i64 f2)) (first | go_keep | (go_split_ands; exact ⟨(hb7.cell (p := ⟨dg, doff, none⟩) (by exact hdg6)).trans (by assumption), (hb7.cell (p := ⟨dg, doff + 1, none⟩) (by exact hdg6)).trans (by assumption)⟩)) (first | (go_at_call 34; refine (HC2.out A c _ (by exact ha6)).mono ?_; rintro e w7 ⟨A7, c7, rfl, hg7, hb7⟩))
          have hb17 : Below w.heap.size w w7 := hb16.drew.trans (hb7.mono (by exact hb16.size))
          have ha7 := GI.below ha6.drew hb7
          have g17 := GI.below g16.drew hb7
          have g67 := GI.below hg6.drew hb7
          have hL7 := hL.below h0 hb17
          have h07 := Nat.lt_of_lt_of_le h0 hb17.size
          clear hca6 hcb6 hdg6 ha6 g16 hb16 hb7
          go_wp2_with fail
          refine (sameInts_yes A6 A7 c6 c7 zs w7 g67 hg7).mono ?_
          rintro e w5 ⟨rfl, k3, rfl⟩
          go_wp2_with fail
          refine (sameInts_yes A1 A c1 c xs _ (g17.drewN k3) (ha7.drewN k3)).mono ?_
          rintro e w5 ⟨rfl, k2, rfl⟩
          go_wp2_with fail
          refine (awake_any _ (Laid.drewN hL7 (k3 + k2)) h07).mono ?_
          rintro e w8 ⟨rfl, hb8⟩
          go_wp2
          go_ret
          exact ⟨rfl, below_step (below_drewN' hb17 (k3 + k2)) hb8⟩
    exact hfin _ rfl
end Go.Proofs.YtfacdnpgidnafaaDoor
