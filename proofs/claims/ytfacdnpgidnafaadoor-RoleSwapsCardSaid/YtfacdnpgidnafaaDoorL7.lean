/- The law RoleSwaps: it returns true, and nothing that was there has changed. -/
import Derived.Test.YtfacdnpgidnafaaDoorL5
import Derived.Test.YtfacdnpgidnafaaDoorL2
import Derived.Test.YtfacdnpgidnafaaDoorC1
namespace Go.Proofs.YtfacdnpgidnafaaDoor
open Go.RowKit

theorem other_mod (i m n : Nat) (hi : i < n) (hm : m < n - 1) (_ : 2 ≤ n) : (i + 1 + m) % n < n ∧ i ≠ (i + 1 + m) % n := by
  refine ⟨Nat.mod_lt _ (by omega), fun e => ?_⟩
  by_cases h : i + 1 + m < n
  · rw [Nat.mod_eq_of_lt h] at e; omega
  · rw [Nat.mod_eq_sub_mod (by omega), Nat.mod_eq_of_lt (by omega)] at e
    omega

theorem Wk.drew {w W : World} (h : Wk w W) : Wk w W.drew := ⟨h.old.drew, h.laid, h.pos⟩
theorem undrew {B : Nat} {W V : World} (h : Below B W.drew V) : Below B W V := ⟨h.os, h.tape, h.output, h.size, h.block⟩

set_option maxHeartbeats 2000000 in
set_option maxRecDepth 100000 in
theorem roleSwaps_walk (A : Option Addr) (c : Nat) (xs : List Int) (x y : Int) (w : World) (hL : Laid w) (h0 : 0 < w.heap.size) (ha : GI w A c xs) (_ : ∀ x ∈ xs, (Lit.int .i64 x).wf = true) (_ : (Lit.int .i64 x).wf = true) (_ : (Lit.int .i64 y).wf = true) :
    Calls Tryd.prog 7 #[.slice A xs.length c, .int .i64 x, .int .i64 y] w (RetB w (.returned (.bool true))) := by
  have hvl := made_vl xs
  have hml := made_len xs
  have hk0 : Wk w w := ⟨Below.refl _ _, hL, h0⟩
  go_enter Tryd.func7, Tryd.ntmps7
  go_wp2_with fail
  refine (made_any A c xs w ha).mono ?_
  rintro e w1 ⟨A1, c1, rfl, hg1, hb1⟩
  have hk1 := hk0.below hb1
  clear ha hb1 hk0
  generalize madeL xs = ys at *
  by_cases h2 : ys.length < 2
  · go_wp2_with fail
    refine (awake_any _ hk1.laid hk1.pos).mono ?_
    rintro e w9 ⟨rfl, hb9⟩
    go_wp2
    go_ret
    exact ⟨rfl, below_step hk1.old hb9⟩
  · have h2' : 2 ≤ ys.length := by omega
    obtain ⟨i, hi1⟩ := Int.eq_ofNat_of_zero_le (show 0 ≤ x % (ys.length : Int) from Int.emod_nonneg _ (by omega))
    obtain ⟨m, hm1⟩ := Int.eq_ofNat_of_zero_le (show 0 ≤ y % ((ys.length : Int) - 1) from Int.emod_nonneg _ (by omega))
    have hi : i < ys.length := by have := Int.emod_lt_of_pos x (show (0 : Int) < ys.length by omega); omega
    have hm : m < ys.length - 1 := by have := Int.emod_lt_of_pos y (show (0 : Int) < (ys.length : Int) - 1 by omega); omega
    have Hmi := Lib.hid (show ∀ W : World, Calls Tryd.prog 22 #[.int .i64 x, .int .i64 (ys.length : Int)] W fun e w' => e = .returned (.int .i64 i) ∧ W = w' from fun W => by
      have := mod_any x (ys.length : Int) (by omega) (by omega) W; rwa [hi1] at this)
    have Hmm := Lib.hid (show ∀ W : World, Calls Tryd.prog 22 #[.int .i64 y, .int .i64 ((ys.length : Int) - 1)] W fun e w' => e = .returned (.int .i64 m) ∧ W = w' from fun W => by
      have := mod_any y ((ys.length : Int) - 1) (by omega) (by omega) W; rwa [hm1] at this)
    clear hi1 hm1
    have hkk := other_mod i m ys.length hi hm h2'
    go_wp2_with fail
    go_fit (Hmi.out w1)
    rintro e w' ⟨rfl, rfl⟩
    go_wp2_with fail
    go_fit (Hmm.out w1)
    rintro e w' ⟨rfl, rfl⟩
    go_wp2_with fail
    have ekk : ((i : Int) + 1 + (m : Int)) % (ys.length : Int) = (((i + 1 + m) % ys.length : Nat) : Int) := by simp
    rw [ekk]
    clear ekk
    obtain ⟨hkl, hne⟩ := hkk
    generalize (i + 1 + m) % ys.length = k at *
    generalize wrap64 (x.tdiv 64) = xd
    go_fit (mod_any xd 8 (by decide) (by decide) w1)
    rintro e w' ⟨rfl, rfl⟩
    generalize xd % 8 = r1
    go_wp2_with fail
    generalize wrap64 (y.tdiv 64) = yd
    go_fit (mod_any yd 8 (by decide) (by decide) w1)
    rintro e w' ⟨rfl, rfl⟩
    generalize yd % 8 = r2
    obtain ⟨zs, er, p1, p2, hr1, hr2⟩ := swap_run hvl hi hkl hne r1 r2
    have HR1 := Lib.hid (show ∀ (A : Option Addr) (c : Nat) (B : Nat) (W : World), GI W A c ys → GC W (some ⟨B, 0, none⟩) 2 [((i : Int), r1), ((k : Int), r2)] → Laid W → 0 < W.heap.size → Calls Tryd.prog 24 #[.slice A ys.length c, .slice (some ⟨B, 0, none⟩) 2 2] W (RetI W zs fun v => .returned (.tuple #[v, .int .i64 er, .int .i64 p1])) from fun A c B W h1 h2 h3 h4 => by
      have := Run_any A c ys (some ⟨B, 0, none⟩) 2 _ W h1 h2 (by simp) h3 h4; rwa [hr1] at this)
    have HR2 := Lib.hid (show ∀ (A : Option Addr) (c : Nat) (B : Nat) (W : World), GI W A c ys → GC W (some ⟨B, 0, none⟩) 2 [((k : Int), r2), ((i : Int), r1)] → Laid W → 0 < W.heap.size → Calls Tryd.prog 24 #[.slice A ys.length c, .slice (some ⟨B, 0, none⟩) 2 2] W (RetI W zs fun v => .returned (.tuple #[v, .int .i64 er, .int .i64 p2])) from fun A c B W h1 h2 h3 h4 => by
      have := Run_any A c ys (some ⟨B, 0, none⟩) 2 _ W h1 h2 (by simp) h3 h4; rwa [hr2] at this)
    clear hr1 hr2
    go_wp2_with fail
    have hkW := (hk1.alloc (.cells #[.int .i64 (i : Int), .int .i64 r1] 43)).alloc (.cells #[.int .i64 (k : Int), .int .i64 r2] 43)
    have hgW := (hg1.alloc (.cells #[.int .i64 (i : Int), .int .i64 r1] 43)).alloc (.cells #[.int .i64 (k : Int), .int .i64 r2] 43)
    have hW : ∀ j u, #[Value.int .i64 (i : Int), .int .i64 r1][j]? = some u → ((w1.alloc (.cells #[.int .i64 (i : Int), .int .i64 r1] 43)).alloc (.cells #[.int .i64 (k : Int), .int .i64 r2] 43)).cell? ⟨w1.heap.size, j, none⟩ = some u := fun j u hu => by
      rw [World.cell?_alloc_past _ _ _ (by simp), World.cell?_alloc_at _ _ _ _ rfl]; exact hu
    have hW2 : ∀ j u, #[Value.int .i64 (k : Int), .int .i64 r2][j]? = some u → ((w1.alloc (.cells #[.int .i64 (i : Int), .int .i64 r1] 43)).alloc (.cells #[.int .i64 (k : Int), .int .i64 r2] 43)).cell? ⟨w1.heap.size + 1, j, none⟩ = some u := fun j u hu => by
      rw [World.cell?_alloc_at _ _ _ _ (by simp)]; exact hu
    have d0 := hW 0 _ rfl
    have d1 := hW 1 _ rfl
    have d2 := hW2 0 _ rfl
    have d3 := hW2 1 _ rfl
    have hB : w1.heap.size + 1 < ((w1.alloc (.cells #[.int .i64 (i : Int), .int .i64 r1] 43)).alloc (.cells #[.int .i64 (k : Int), .int .i64 r2] 43)).heap.size := by simp
    clear hW hW2 hk1 hg1
    generalize (w1.alloc (.cells #[.int .i64 (i : Int), .int .i64 r1] 43)).alloc (.cells #[.int .i64 (k : Int), .int .i64 r2] 43) = W at *
    generalize w1.heap.size = B at *
    go_region_held3 (fun w' => w'.cell? ⟨B, 0, none⟩ = some (.int .i64 (i : Int)) ∧ w'.cell? ⟨B, 1, none⟩ = some (.int .i64 r1) ∧ w'.cell? ⟨B + 1, 0, none⟩ = some (.int .i64 (k : Int)) ∧ w'.cell? ⟨B + 1, 1, none⟩ = some (.int .i64 r2)) (first | go_keep | (exact ⟨(hfina.2.cell (p := ⟨B, 0, none⟩) (show B < W.heap.size by omega)).trans d0, (hfina.2.cell (p := ⟨B, 1, none⟩) (show B < W.heap.size by omega)).trans d1, (hfina.2.cell (p := ⟨B + 1, 0, none⟩) (show B + 1 < W.heap.size by omega)).trans d2, (hfina.2.cell (p := ⟨B + 1, 1, none⟩) (show B + 1 < W.heap.size by omega)).trans d3⟩) | (exact ⟨(hboa.cell (p := ⟨B, 0, none⟩) (show B < W.heap.size by omega)).trans d0, (hboa.cell (p := ⟨B, 1, none⟩) (show B < W.heap.size by omega)).trans d1, (hboa.cell (p := ⟨B + 1, 0, none⟩) (show B + 1 < W.heap.size by omega)).trans d2, (hboa.cell (p := ⟨B + 1, 1, none⟩) (show B + 1 < W.heap.size by omega)).trans d3⟩)) (first | (go_at_call 25; refine (ownInts_any A1 c1 ys _ (by first | exact hgW | exact hgW.alloc _) (by omega)).mono ?_; rintro e w3 ⟨A3, c3, rfl, hga, hba⟩; have hboa : Below W.heap.size W w3 := (by first | exact undrew hba | exact below_step (alloc_b _ _) (undrew hba))) | (go_at_call 24; (first | (refine (HR1.out A3 c3 w3.heap.size _ (hga.alloc (.cells #[.int .i64 (i : Int), .int .i64 r1, .int .i64 (k : Int), .int .i64 r2] 43)) (gc_new w3 [((i : Int), r1), ((k : Int), r2)] 43 2 w3.heap.size rfl (by simp) #[.int .i64 (i : Int), .int .i64 r1, .int .i64 (k : Int), .int .i64 r2] rfl rfl) ((hkW.drew.below hba).alloc _).laid ((hkW.drew.below hba).alloc _).pos).mono ?_; rintro e w4 ⟨A4, c4, rfl, hra, hbra⟩; have hfina : Wk w w4 ∧ Below W.heap.size W w4 := ⟨((hkW.drew.below hba).alloc _).below hbra, below_step (below_step (undrew hba) (alloc_b _ _)) hbra⟩) | (refine (HR1.out A3 c3 W.heap.size w3 hga (GC.below (gc_new W [((i : Int), r1), ((k : Int), r2)] 43 2 W.heap.size rfl (by simp) #[.int .i64 (i : Int), .int .i64 r1, .int .i64 (k : Int), .int .i64 r2] rfl rfl) (by exact undrew hba)) ((hkW.alloc _).drew.below hba).laid ((hkW.alloc _).drew.below hba).pos).mono ?_; rintro e w4 ⟨A4, c4, rfl, hra, hbra⟩; have hfina : Wk w w4 ∧ Below W.heap.size W w4 := ⟨((hkW.alloc _).drew.below hba).below hbra, below_step hboa hbra⟩))))
    all_goals
      obtain ⟨hk4, hb4⟩ := hfina
      have hg4 := hgW.below hb4
      have e0 := (hb4.cell (p := ⟨B, 0, none⟩) (show B < W.heap.size by omega)).trans d0
      have e1 := (hb4.cell (p := ⟨B, 1, none⟩) (show B < W.heap.size by omega)).trans d1
      have e2 := (hb4.cell (p := ⟨B + 1, 0, none⟩) (show B + 1 < W.heap.size by omega)).trans d2
      have e3 := (hb4.cell (p := ⟨B + 1, 1, none⟩) (show B + 1 < W.heap.size by omega)).trans d3
      have hB4 : B + 1 < w4.heap.size := Nat.lt_of_lt_of_le hB hb4.size
      clear hba hboa hbra hga hb4 d0 d1 d2 d3 hB hkW hgW
      go_wp2_with fail
      go_region_held3 (fun w' => w'.cell? ⟨B, 0, none⟩ = some (.int .i64 (i : Int)) ∧ w'.cell? ⟨B, 1, none⟩ = some (.int .i64 r1) ∧ w'.cell? ⟨B + 1, 0, none⟩ = some (.int .i64 (k : Int)) ∧ w'.cell? ⟨B + 1, 1, none⟩ = some (.int .i64 r2)) (first | go_keep | (exact ⟨(hfinb.2.cell (p := ⟨B, 0, none⟩) (show B < w4.heap.size by omega)).trans e0, (hfinb.2.cell (p := ⟨B, 1, none⟩) (show B < w4.heap.size by omega)).trans e1, (hfinb.2.cell (p := ⟨B + 1, 0, none⟩) (show B + 1 < w4.heap.size by omega)).trans e2, (hfinb.2.cell (p := ⟨B + 1, 1, none⟩) (show B + 1 < w4.heap.size by omega)).trans e3⟩) | (exact ⟨(hbob.cell (p := ⟨B, 0, none⟩) (show B < w4.heap.size by omega)).trans e0, (hbob.cell (p := ⟨B, 1, none⟩) (show B < w4.heap.size by omega)).trans e1, (hbob.cell (p := ⟨B + 1, 0, none⟩) (show B + 1 < w4.heap.size by omega)).trans e2, (hbob.cell (p := ⟨B + 1, 1, none⟩) (show B + 1 < w4.heap.size by omega)).trans e3⟩)) (first | (go_at_call 25; refine (ownInts_any A1 c1 ys _ (by first | exact hg4 | exact hg4.alloc _) (by omega)).mono ?_; rintro e w5 ⟨A5, c5, rfl, hgb, hbb⟩; have hbob : Below w4.heap.size w4 w5 := (by first | exact undrew hbb | exact below_step (alloc_b _ _) (undrew hbb))) | (go_at_call 24; (first | (refine (HR2.out A5 c5 w5.heap.size _ (hgb.alloc (.cells #[.int .i64 (k : Int), .int .i64 r2, .int .i64 (i : Int), .int .i64 r1] 43)) (gc_new w5 [((k : Int), r2), ((i : Int), r1)] 43 2 w5.heap.size rfl (by simp) #[.int .i64 (k : Int), .int .i64 r2, .int .i64 (i : Int), .int .i64 r1] rfl rfl) ((hk4.drew.below hbb).alloc _).laid ((hk4.drew.below hbb).alloc _).pos).mono ?_; rintro e w6 ⟨A6, c6, rfl, hrb, hbrb⟩; have hfinb : Wk w w6 ∧ Below w4.heap.size w4 w6 := ⟨((hk4.drew.below hbb).alloc _).below hbrb, below_step (below_step (undrew hbb) (alloc_b _ _)) hbrb⟩) | (refine (HR2.out A5 c5 w4.heap.size w5 hgb (GC.below (gc_new w4 [((k : Int), r2), ((i : Int), r1)] 43 2 w4.heap.size rfl (by simp) #[.int .i64 (k : Int), .int .i64 r2, .int .i64 (i : Int), .int .i64 r1] rfl rfl) (by exact undrew hbb)) ((hk4.alloc _).drew.below hbb).laid ((hk4.alloc _).drew.below hbb).pos).mono ?_; rintro e w6 ⟨A6, c6, rfl, hrb, hbrb⟩; have hfinb : Wk w w6 ∧ Below w4.heap.size w4 w6 := ⟨((hk4.alloc _).drew.below hbb).below hbrb, below_step hbob hbrb⟩))))
      all_goals
        obtain ⟨hk6, hb6⟩ := hfinb
        have g46 := hra.below hb6
        have q1 := beq_self' er
        clear hbb hbob hbrb hgb e0 e1 e2 e3 hB4 hk4 hg4
        go_wp2_with fail
        refine (sameInts_yes A4 A6 c4 c6 zs w6 g46 hrb).mono ?_
        rintro e w7 ⟨rfl, kk, rfl⟩
        go_wp2_with fail
        refine (awake_any _ (Laid.drewN hk6.laid kk) hk6.pos).mono ?_
        rintro e w8 ⟨rfl, hb8⟩
        go_wp2
        go_ret
        exact ⟨rfl, below_step (below_drewN' hk6.old kk) hb8⟩
end Go.Proofs.YtfacdnpgidnafaaDoor
