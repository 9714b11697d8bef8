/- The law RoleCounts: it returns true, and nothing that was there has changed. -/
import Derived.Test.YtfacdnpgidnafaaDoorL5
import Derived.Test.YtfacdnpgidnafaaDoorL2
import Derived.Test.YtfacdnpgidnafaaDoorC1
namespace Go.Proofs.YtfacdnpgidnafaaDoor
open Go.RowKit

/-- What the counts of a valid list are. -/
def IsCnt (ys cs : List Int) : Prop := cs.length = 8 ∧ ∀ j : Nat, j < 8 → cs[j]?.getD 0 = (ys.count (j : Int) : Int)

theorem Counts_yes (A : Option Addr) (c : Nat) (ys : List Int) (w : World) (ha : GI w A c ys) (hv : VL ys) :
    Calls Tryd.prog 28 #[.slice A ys.length c] w fun e w' => ∃ A' c' cs, e = .returned (.tuple #[.slice A' cs.length c', .int .i64 0]) ∧ GI w' A' c' cs ∧ IsCnt ys cs ∧ Below w.heap.size w w' := by
  have h := Counts_any A c ys w ha
  rw [count_yes hv] at h
  refine h.mono ?_
  rintro e w' ⟨A', c', rfl, hg, hb⟩
  exact ⟨A', c', _, rfl, hg, ⟨cntTo_len _ _, fun j hj => cnt_all ys hv j hj⟩, hb⟩
theorem Of_yes (A : Option Addr) (c : Nat) (ys : List Int) (r : Int) (w : World) (ha : GI w A c ys) (hv : VL ys) (hr : isR r = true) :
    Calls Tryd.prog 26 #[.slice A ys.length c, .int .i64 r] w fun e w' => ∃ A' c' n, e = .returned (.tuple #[.slice A' n c', .int .i64 0]) ∧ n = ys.count r ∧ Below w.heap.size w w' := by
  have h := Of_any A c ys r w ha
  rw [of_yes hv hr] at h
  refine h.mono ?_
  rintro e w' ⟨A', c', rfl, hg, hb⟩
  exact ⟨A', c', _, rfl, of_all ys r, hb⟩

set_option maxHeartbeats 2000000 in
set_option maxRecDepth 100000 in
theorem roleCounts_walk (A : Option Addr) (c : Nat) (xs : List Int) (fr rr : Int) (w : World) (hL : Laid w) (h0 : 0 < w.heap.size) (ha : GI w A c xs) (_ : ∀ x ∈ xs, (Lit.int .i64 x).wf = true) (_ : (Lit.int .i64 fr).wf = true) (_ : (Lit.int .i64 rr).wf = true) :
    Calls Tryd.prog 10 #[.slice A xs.length c, .int .i64 fr, .int .i64 rr] w (RetB w (.returned (.bool true))) := by
  have hvl := made_vl xs
  have hml := made_len xs
  have hk0 : Wk w w := ⟨Below.refl _ _, hL, h0⟩
  go_enter Tryd.func10, Tryd.ntmps10
  go_wp2_with fail
  refine (made_any A c xs w ha).mono ?_
  rintro e w1 ⟨A1, c1, rfl, hg1, hb1⟩
  have hk1 := hk0.below hb1
  clear ha hb1 hk0
  generalize madeL xs = ys at *
  go_wp2_with fail
  refine (Counts_yes A1 c1 ys w1 hg1 hvl).mono ?_
  rintro e w2 ⟨A2, c2, cs, rfl, hg2, hcnt, hb2⟩
  have hk2 := hk1.below hb2
  have g12 := hg1.below hb2
  have hcl : ((cs.length : Int) != 8) = false := by rw [hcnt.1]; rfl
  have hcl2 : (cs.length != 8) = false := by rw [hcnt.1]; rfl
  clear hb2 hk1 hg1
  go_wp2
  go_loopg [10, 11] 8 (fun g s i wx => ∃ j : Nat, g = 8 - j ∧ j ≤ 8 ∧ i = .int .i64 j ∧ s = .int .i64 (sumC ys j) ∧ Wk w wx ∧ GI wx A1 c1 ys ∧ GI wx A2 c2 cs)
  case atStart => exact ⟨0, rfl, by omega, rfl, rfl, hk2, g12, hg2⟩
  case round =>
    obtain ⟨j, rfl, hj, rfl, rfl, hk, hg1, hg2'⟩ := hrel
    clear hk2 g12 hg2
    by_cases hlt : j < 8
    · have hjd : decide ((j : Int) < 8) = true := by simp; omega
      obtain ⟨s0, s1⟩ := sumC_bd ys j
      obtain ⟨t0, t1⟩ := sumC_bd ys (j + 1)
      have Hs := Lib.hid (show sumC ys (j + 1) = sumC ys j + cs[j]?.getD 0 by rw [hcnt.2 j hlt]; rfl)
      have hy := hcnt.2 j hlt
      obtain ⟨ad, rfl, _, hca⟩ := hg2'.at_ (k := j) (by rw [hcnt.1]; exact hlt)
      have j1 : (j : Int) < cs.length := by rw [hcnt.1]; omega
      have j1' : j < cs.length := by rw [hcnt.1]; omega
      have hsum : sumC ys j + cs[j]?.getD 0 ≤ 30 := by rw [← Hs.out]; omega
      have hsum0 : 0 ≤ sumC ys j + cs[j]?.getD 0 := by rw [← Hs.out]; omega
      have hy0 : 0 ≤ cs[j]?.getD 0 := by rw [hy]; omega
      have Hy := Lib.hid hy
      clear hy
      generalize cs[j]?.getD 0 = y at *
      generalize sumC ys j = sj at *
      go_wp2_with fail
      go_fit (Of_yes A1 c1 ys (j : Int) wr hg1 hvl (isR_yes (by omega) (by omega)))
      rintro e w3 ⟨A3, c3, n3, rfl, hn3, hb3⟩
      have hq : ((n3 : Int) != y) = false := by rw [hn3, Hy.out]; simp
      have hca3 : w3.cell? (ad.add j) = some (.int .i64 y) := by
        rw [hb3.cell (by rw [add_block]; assumption)]; exact hca
      have Hn3 := Lib.hid hn3
      clear hn3 hca
      go_wp2
      go_roundg (8 - (j + 1))
      case measure => omega
      case rel => exact ⟨j + 1, rfl, by omega, by go_num, by rw [Hs.out], hk.below hb3, hg1.below hb3, hg2'.below hb3⟩
    · have hj8 := Lib.hid (show j = 8 by omega)
      have hjd : decide ((j : Int) < 8) = false := by simp; omega
      have hsum : (sumC ys j != (ys.length : Int)) = false := by rw [hj8.out, sumC_all ys hvl.2]; simp
      have Hsum := Lib.hid (show sumC ys j = (ys.length : Int) by rw [hj8.out, sumC_all ys hvl.2])
      by_cases hz : ys.length = 0
      · have hz' : ((ys.length : Int) == 0) = true := by simp [hz]
        have hz2 : (ys.length == 0) = true := by simp [hz]
        have Hz := Lib.hid hz
        clear hz
        generalize sumC ys j = sj at *
        go_wp2_with fail
        refine (awake_any _ hk.laid hk.pos).mono ?_
        rintro e w9 ⟨rfl, hb9⟩
        go_wp2
        go_ret
        exact ⟨rfl, below_step hk.old hb9⟩
      · have hz' : ((ys.length : Int) == 0) = false := by rw [beq_eq_false_iff_ne]; omega
        have hz2 : (ys.length == 0) = false := by rw [beq_eq_false_iff_ne]; omega
        generalize sumC ys j = sj at *
        obtain ⟨k, hk1⟩ := Int.eq_ofNat_of_zero_le (show 0 ≤ fr % (ys.length : Int) from Int.emod_nonneg _ (by omega))
        obtain ⟨t, ht1⟩ := Int.eq_ofNat_of_zero_le (show 0 ≤ rr % 8 from Int.emod_nonneg _ (by decide))
        have hkl : k < ys.length := by have := Int.emod_lt_of_pos fr (show (0 : Int) < ys.length by omega); omega
        have t8 : t < 8 := by have := Int.emod_lt_of_pos rr (show (0 : Int) < 8 by decide); omega
        have Hmk := Lib.hid (show ∀ W : World, Calls Tryd.prog 22 #[.int .i64 fr, .int .i64 (ys.length : Int)] W fun e w' => e = .returned (.int .i64 k) ∧ W = w' from fun W => by
          have := mod_any fr (ys.length : Int) (by omega) (by omega) W; rwa [hk1] at this)
        have Hmt := Lib.hid (show ∀ W : World, Calls Tryd.prog 22 #[.int .i64 rr, .int .i64 8] W fun e w' => e = .returned (.int .i64 t) ∧ W = w' from fun W => by
          have := mod_any rr 8 (by decide) (by decide) W; rwa [ht1] at this)
        clear hk1 ht1
        obtain ⟨b0, b8⟩ := isR_getD hvl.2 k
        obtain ⟨ad, rfl, _, hca⟩ := hg1.at_ hkl
        have k1 : (k : Int) < ys.length := by omega
        have hmay : mayR (ys[k]?.getD 0) t = (mayI (ys[k]?.getD 0) t, 0) := mayR_yes (isR_yes b0 b8) (isR_yes (by omega) (by omega))
        have Hma := Lib.hid (show Calls Tryd.prog 12 #[.int .i64 (ys[k]?.getD 0), .int .i64 t] wr fun e w' => e = .returned (.tuple #[.bool (mayI (ys[k]?.getD 0) t), .int .i64 0]) ∧ wr = w' from by
          have := May_any (ys[k]?.getD 0) t wr hk.laid; rwa [hmay] at this)
        have Hset := Lib.hid (fun j : Int => count_set ys k hkl t j)
        clear hmay
        by_cases hm : mayI (ys[k]?.getD 0) t = true
        · have he := setE_yes (xs := ys) hkl hm
          have Hch := Lib.hid (show ∀ (A : Option Addr) (c : Nat) (W : World), GI W A c ys → Laid W → 0 < W.heap.size → Calls Tryd.prog 23 #[.slice A ys.length c, .int .i64 k, .int .i64 t] W (RetI W (ys.set k t) fun v => .returned (.tuple #[v, .int .i64 0])) from fun A c W hg hl hp => by
            have := Change_any A c ys k t W hg hl hp
            rwa [change_yes hvl he, setL_yes he, Int.toNat_natCast] at this)
          have hvl2 : VL (ys.set k t) := by have := setL_vl (f := k) (r := t) hvl; rwa [setL_yes he, Int.toNat_natCast] at this
          clear he
          generalize ys.set k t = zs at *
          generalize hyk : ys[k]?.getD 0 = yk at *
          have Hyk := Lib.hid hyk
          clear hyk
          go_wp2_with fail
          go_fit (Hmk.out wr)
          rintro e w' ⟨rfl, rfl⟩
          go_wp2_with fail
          go_fit (Hmt.out wr)
          rintro e w' ⟨rfl, rfl⟩
          go_wp2_with fail
          go_fit Hma.out
          rintro e w' ⟨rfl, rfl⟩
          go_wp2_with fail
          go_fit (ownInts_any (some ad) c1 ys wr hg1 (by omega))
          rintro e w3 ⟨A3, c3, rfl, hg3, hb3⟩
          have hk3 := hk.below hb3
          have g13 := hg1.below hb3
          have g23 := hg2'.below hb3
          go_wp2_with fail
          go_fit (Hch.out A3 c3 w3 hg3 hk3.laid hk3.pos)
          rintro e w4 ⟨A4, c4, rfl, hg4, hb4⟩
          have hk4 := hk3.below hb4
          have g14 := g13.below hb4
          have g24 := g23.below hb4
          go_wp2_with fail
          go_fit (Counts_yes A4 c4 zs w4 hg4 hvl2)
          rintro e w5 ⟨A5, c5, ds, rfl, hg5, hdn, hb5⟩
          have hk5 := hk4.below hb5
          have g15 := g14.below hb5
          have g25 := g24.below hb5
          have hdl : ((ds.length : Int) != 8) = false := by rw [hdn.1]; rfl
          have hdl2 : (ds.length != 8) = false := by rw [hdn.1]; rfl
          clear hca hg1 hg2' hg3 g13 g23 hg4 g14 g24 hk hk3 hk4 hb3 hb4 hb5
          obtain ⟨ad2, hA2, hlt2, hcc⟩ := g25.ad (by rw [hcnt.1]; omega)
          obtain ⟨ad5, hA5, hlt5, hcd⟩ := hg5.ad (by rw [hdn.1]; omega)
          obtain ⟨ad', hA1, _, hck⟩ := g15.at_ hkl
          obtain rfl : ad = ad' := by injection hA1
          rw [Hyk.out] at hck
          subst hA2 hA5
          have Hcc := Lib.hid hcc
          have Hcd := Lib.hid hcd
          clear hcc hcd hA1
          go_wp2
          go_loopg [20, 21] 8 (fun g i _ wx => ∃ j : Nat, g = 8 - j ∧ j ≤ 8 ∧ i = .int .i64 j ∧ w5 = wx)
          case atStart => exact ⟨0, rfl, by omega, rfl, rfl⟩
          case round =>
            obtain ⟨m, rfl, hm8, rfl, rfl⟩ := hrel
            by_cases hlt : m < 8
            · have hmd : decide ((m : Int) < 8) = true := by simp; omega
              have hcm := Hcc.out m (by rw [hcnt.1]; exact hlt)
              have hdm := Hcd.out m (by rw [hdn.1]; exact hlt)
              have m1 : (m : Int) < cs.length := by rw [hcnt.1]; omega
              have m2 : (m : Int) < ds.length := by rw [hdn.1]; omega
              have hz : ds[m]?.getD 0 = cs[m]?.getD 0 - (if (m : Int) = yk then 1 else 0) + (if (m : Int) = t then 1 else 0) := by rw [hdn.2 m hlt, hcnt.2 m hlt, Hset.out (m : Int)]
              have hy0 : 0 ≤ cs[m]?.getD 0 ∧ cs[m]?.getD 0 ≤ 30 := by
                rw [hcnt.2 m hlt]
                have := List.count_le_length (a := (m : Int)) (l := ys)
                omega
              obtain ⟨y0, y1⟩ := hy0
              generalize cs[m]?.getD 0 = y at *
              generalize ds[m]?.getD 0 = z at *
              by_cases ea : (m : Int) = yk
              · have ea' : ((m : Int) == yk) = true := by simp [ea]
                by_cases eb : (m : Int) = t
                · have eb' : ((m : Int) == (t : Int)) = true := by simp [eb]
                  have eb2 : (m == t) = true := by simp; omega
                  have hq : (z != y) = false := by rw [hz, if_pos ea, if_pos eb]; simp
                  have hq2 : (z != y - 1 + 1) = false := by rw [hz, if_pos ea, if_pos eb]; simp
                  clear hz ea eb
                  go_wp2
                  go_roundg (8 - (m + 1))
                  case measure => omega
                  case rel => exact ⟨m + 1, rfl, by omega, by go_num, rfl⟩
                · have eb' : ((m : Int) == (t : Int)) = false := by simp; omega
                  have eb2 : (m == t) = false := by simp; omega
                  have hq : (z != y - 1) = false := by rw [hz, if_pos ea, if_neg eb]; simp
                  clear hz ea eb
                  go_wp2
                  go_roundg (8 - (m + 1))
                  case measure => omega
                  case rel => exact ⟨m + 1, rfl, by omega, by go_num, rfl⟩
              · have ea' : ((m : Int) == yk) = false := by simp [ea]
                by_cases eb : (m : Int) = t
                · have eb' : ((m : Int) == (t : Int)) = true := by simp [eb]
                  have eb2 : (m == t) = true := by simp; omega
                  have hq : (z != y + 1) = false := by rw [hz, if_neg ea, if_pos eb]; simp
                  clear hz ea eb
                  go_wp2
                  go_roundg (8 - (m + 1))
                  case measure => omega
                  case rel => exact ⟨m + 1, rfl, by omega, by go_num, rfl⟩
                · have eb' : ((m : Int) == (t : Int)) = false := by simp; omega
                  have eb2 : (m == t) = false := by simp; omega
                  have hq : (z != y) = false := by rw [hz, if_neg ea, if_neg eb]; simp
                  clear hz ea eb
                  go_wp2
                  go_roundg (8 - (m + 1))
                  case measure => omega
                  case rel => exact ⟨m + 1, rfl, by omega, by go_num, rfl⟩
            · have hmd : decide ((m : Int) < 8) = false := by simp; omega
              go_wp2_with fail
              refine (awake_any _ hk5.laid hk5.pos).mono ?_
              rintro e w9 ⟨rfl, hb9⟩
              go_wp2
              go_ret
              exact ⟨rfl, below_step hk5.old hb9⟩
        · have hm' : mayI (ys[k]?.getD 0) t = false := by simpa using hm
          have he := setE_no (xs := ys) hkl hm'
          have Hch := Lib.hid (show ∀ (A : Option Addr) (c : Nat) (W : World), GI W A c ys → Laid W → 0 < W.heap.size → Calls Tryd.prog 23 #[.slice A ys.length c, .int .i64 k, .int .i64 t] W (RetI W [] fun v => .returned (.tuple #[v, .int .i64 14])) from fun A c W hg hl hp => by
            have := Change_any A c ys k t W hg hl hp
            rwa [change_err hvl (by rw [he]; decide), he] at this)
          clear he hm
          generalize hyk : ys[k]?.getD 0 = yk at *
          have Hyk := Lib.hid hyk
          clear hyk
          go_wp2_with fail
          go_fit (Hmk.out wr)
          rintro e w' ⟨rfl, rfl⟩
          go_wp2_with fail
          go_fit (Hmt.out wr)
          rintro e w' ⟨rfl, rfl⟩
          go_wp2_with fail
          go_fit Hma.out
          rintro e w' ⟨rfl, rfl⟩
          go_wp2_with fail
          go_fit (ownInts_any (some ad) c1 ys wr hg1 (by omega))
          rintro e w3 ⟨A3, c3, rfl, hg3, hb3⟩
          have hk3 := hk.below hb3
          go_wp2_with fail
          go_fit (Hch.out A3 c3 w3 hg3 hk3.laid hk3.pos)
          rintro e w4 ⟨A4, c4, rfl, hg4, hb4⟩
          have hk4 := hk3.below hb4
          go_wp2_with fail
          refine (awake_any _ hk4.laid hk4.pos).mono ?_
          rintro e w9 ⟨rfl, hb9⟩
          go_wp2
          go_ret
          exact ⟨rfl, below_step hk4.old hb9⟩
end Go.Proofs.YtfacdnpgidnafaaDoor
