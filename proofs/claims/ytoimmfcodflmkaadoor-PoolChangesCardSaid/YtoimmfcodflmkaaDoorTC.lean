/- Package bitmap, for sets of one word: Put. -/
import Derived.Test.YtoimmfcodflmkaaDoorTB
namespace Go.Proofs.YtoimmfcodflmkaaDoor
open Go.RowKit
set_option linter.unusedVariables false

theorem own_ne {w : World} {base g off n c : Nat} {e t : TypeId} {size : Nat} {xs : List Value} {B : Nat} {cs : Array Value} (h : Own w base e size (.slice (some ⟨g, off, none⟩) n c) n xs) (hb : Bx w B t cs) (ht : t ≠ e) : g ≠ B := by
  rintro rfl
  rcases h.2 with ⟨h0, _⟩ | ⟨g', off', cap, cur, hv, _, hgg, _⟩
  · cases h0
  · cases hv
    have := hgg.symm.trans hb
    injection this with this
    injection this with _ h2 _
    exact ht h2.symm
structure PtL (w : World) (n : Nat) (B : Nat) (A : Option Addr) (c m : Nat) (wx : World) : Prop where
  res : Bx wx (w.heap.size + 1) 62 #[.int .i64 0, .slice none 0 0]
  box : Bx wx B 62 #[.int .i64 (n : Int), .slice A 1 c]
  own : OwW wx (w.heap.size + 2) A c m
  lo : Below w.heap.size w wx

set_option maxHeartbeats 2000000 in
theorem Put_any (n : Nat) (A : Option Addr) (c m d : Nat) (w : World) (h1 : 1 ≤ n) (h2 : n ≤ 32) (hm : m < 2 ^ n) (hd : d < n) (hg : GW w A m) :
    Calls Tryd.prog 41 #[.agg #[.int .i64 (n : Int), .slice A 1 c], .int .i64 (d : Int), .int .i64 ((d : Int) + 1), .bool true] w fun e w' => ∃ A' c', e = .returned (.tuple #[.agg #[.int .i64 (n : Int), .slice A' 1 c'], .int .i64 0]) ∧ OwW w' w.heap.size A' c' (m ||| 2 ^ d) ∧ Below w.heap.size w w' := by
  have hx := (Bx.new w 62 #[.int .i64 (n : Int), .slice A 1 c]).alloc (.cells #[.int .i64 0, .slice none 0 0] 62)
  have hy := Bx.new (w.alloc (.cells #[.int .i64 (n : Int), .slice A 1 c] 62)) 62 #[.int .i64 0, .slice none 0 0]
  rw [World.size_alloc] at hy
  have hw := below_step (al w (.cells #[.int .i64 (n : Int), .slice A 1 c] 62)) (al _ (.cells #[.int .i64 0, .slice none 0 0] 62))
  have hg1 := hg.below hw
  have HC := Lib.hid (fun W (hW : GW W A m) => bCheck_any n A c m W h1 h2 hm hW)
  have HMk := Lib.hid (fun W => mask_any d (d + 1) (by omega) (by omega) W)
  rw [show 2 ^ (d + 1) - 2 ^ d = 2 ^ d by rw [Nat.pow_succ]; omega] at HMk
  have hm64 : m < 18446744073709551616 := Nat.lt_of_lt_of_le hm (Nat.pow_le_pow_right (n := 2) (j := 64) (by omega) (by omega))
  have hd64 : 2 ^ d < 18446744073709551616 := Nat.pow_lt_pow_right (a := 2) (m := d) (n := 64) (by omega) (by omega)
  have hor : bits .or .u64 (m : Int) ((2 ^ d : Nat) : Int) = ((m ||| 2 ^ d : Nat) : Int) := bits_or_u64_nat _ _ hm64 hd64
  generalize m ||| 2 ^ d = m2 at *
  generalize 2 ^ d = dd at *
  have e1 : decide ((d : Int) < 0) = false := by simp
  have e2 : decide ((d : Int) + 1 < (d : Int)) = false := by simp; omega
  have e3 : decide ((n : Int) < (d : Int) + 1) = false := by simp; omega
  have e4 : (n < d + 1) = False := by simp; omega
  have e5 : (n ≤ d) = False := by simp; omega
  have hd32 : (d : Int) < 32 := by omega
  clear hg hm hm64 hd64
  go_enter Tryd.func41, Tryd.ntmps41
  go_wp2_with (first | (refine wpList_load_row rfl 62 _ rfl (w.heap.size) rfl 62 _ _ _ hx Tryd.underlying62 rfl bits_size ?_))
  refine (HC.out _ hg1).mono ?_
  rintro e w1 ⟨rfl, hb1⟩
  have hx1 := hx.below hb1
  have hy1 := hy.below hb1
  have hw1 := below_step hw hb1
  have hg2 := hg1.below hb1
  obtain ⟨c0, c1⟩ := s2 hx1
  have hlt1 := hy1.lt
  clear hx hy hb1 hw hg1 HC
  go_upto_region 6 with fail
  rename_i K hK
  refine pt6 (W := w1) n A c m w.heap.size rfl rfl hx1 hg2 ?_
  rintro a' w2 hF hb2 ⟨B11, A9, c9, f11, hB, hBl, hown⟩
  refine hK _ _ ?_
  obtain ⟨fv, hfv, hfr⟩ := hF.lit [33, 34, 35, 36, 37, 38, 11] (dsts_in (by kernel_rfl))
  have ev11 := hfv 11 _ f11
  subst hfr
  simp only [List.foldl_cons, List.foldl_nil, Act.put, List.setIfInBounds_toArray, List.set_cons_zero, List.set_cons_succ, ev11]
  clear hfv hF ev11 f11
  generalize fv 33 = u33
  generalize fv 34 = u34
  generalize fv 35 = u35
  generalize fv 36 = u36
  generalize fv 37 = u37
  generalize fv 38 = u38
  clear fv
  clear hK K
  have hy2 := hy1.below hb2
  have hw2 := below_step hw1 hb2
  clear hx1 hy1 hw1 hg2 c0 c1
  have ho := hown.mono (base' := w.heap.size + 2) (by omega)
  obtain ⟨d0, d1⟩ := s2 hB
  go_wp2_with fail
  go_loopg [42] 1 (fun g i wx => (g = 1 ∧ i = .int .i64 0 ∧ PtL w n B11 A9 c9 m wx) ∨ (g = 0 ∧ i = .int .i64 1 ∧ PtL w n B11 A9 c9 m2 wx))
  case atStart => exact .inl ⟨rfl, rfl, hy2, hB, ho, hw2⟩
  case round =>
    clear d0 d1 hb2 hown ho hy2 hw2 hB
    rcases hrel with ⟨rfl, rfl, hr⟩ | ⟨rfl, rfl, hr⟩
    · have hb := hr.box
      have hy := hr.res
      have hlo := hr.lo
      have ho := hr.own
      clear hr
      obtain ⟨g, off, rfl, hg1, hg2, hc, hz⟩ := ho.at_
      have hne := own_ne ho hb (by decide)
      have hne2 : g ≠ w.heap.size + 1 := by omega
      obtain ⟨d0, d1⟩ := s2 hb
      have hb3 := hb.setO (p := ⟨g, off, none⟩) (fun h => hne h.symm) (.int .u64 (m2 : Int))
      have hy3 := hy.setO (p := ⟨g, off, none⟩) (fun h => hne2 h.symm) (.int .u64 (m2 : Int))
      have ho3 := ho.put m2
      have hw3 := hlo.setCell (p := ⟨g, off, none⟩) (by show _ ≤ g; omega) (.int .u64 (m2 : Int))
      clear hb hy ho hlo
      go_wp2_with fail
      rename_i K hK
      go_region_with (first | (go_at_call 47; refine (HMk.out _).mono ?_; rintro e w' ⟨rfl, rfl⟩))
      all_goals
        refine (show K _ _ from hK _ _ ?_)
        go_wp2
        go_roundg 0
        case measure => omega
        case rel => exact .inr ⟨rfl, rfl, hy3, hb3, ho3, ⟨hw3.os, hw3.tape, hw3.output, hw3.size, hw3.block⟩⟩
    · have hb := hr.box
      have hy := hr.res
      have hlo := hr.lo
      have ho := hr.own
      have hlt := hb.lt
      clear hr
      go_wp2_with (first | (refine wpList_load_row rfl 62 _ rfl (B11) rfl 62 _ _ _ hb Tryd.underlying62 rfl bits_size ?_) | (refine wpList_store_row rfl 62 _ _ rfl (w.heap.size + 1) _ rfl rfl 62 _ hy bits_size rfl (pv_one _ _ _ _) ?_))
      refine bodyPost_ret (res_c rfl (v := .int .i64 0) rfl rfl (hy.row _) Tryd.underlying62 bits_size) rfl ⟨A9, c9, rfl, ?_, ?_⟩
      · exact (Own.rowLow ho (by omega) _).mono (by omega)
      · exact below_setRow hlo (by omega) _
end Go.Proofs.YtoimmfcodflmkaaDoor
