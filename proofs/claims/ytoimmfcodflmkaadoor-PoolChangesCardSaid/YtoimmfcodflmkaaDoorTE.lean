/- Package pool: Taken. -/
import Derived.Test.YtoimmfcodflmkaaDoorT4
import Derived.Test.YtoimmfcodflmkaaDoorTC
import Derived.Test.YtoimmfcodflmkaaDoorTD
namespace Go.Proofs.YtoimmfcodflmkaaDoor
open Go.RowKit
set_option linter.unusedVariables false

theorem least_of (p : Nat → Bool) (k n : Nat) (h : ∃ i, k ≤ i ∧ i < n ∧ p i = false) : ∃ i, k ≤ i ∧ i < n ∧ p i = false ∧ ∀ j, k ≤ j → j < i → p j = true := by
  obtain ⟨i, h1, h2, h3⟩ := h
  induction i using Nat.strongRecOn with
  | _ i ih =>
    by_cases hj : ∃ j, k ≤ j ∧ j < i ∧ p j = false
    · obtain ⟨j, h4, h5, h6⟩ := hj
      exact ih j h5 h4 (by omega) h6
    · refine ⟨i, h1, h2, h3, fun j h4 h5 => ?_⟩
      cases h6 : p j
      · exact absurd ⟨j, h4, h5, h6⟩ hj
      · rfl
theorem filt_skip (p : Int → Bool) (k : Nat) : ∀ d, (∀ j, k ≤ j → j < k + d → p (j : Int) = false) → (upto (k + d)).filter p = (upto k).filter p
  | 0, _ => rfl
  | d + 1, h => by
    rw [show k + (d + 1) = (k + d) + 1 by omega, filt_succ, filt_skip p k d (fun j h1 h2 => h j h1 (by omega)), h (k + d) (by omega) (by omega)]
    simp
theorem filt_hit (p : Int → Bool) (k i : Nat) (hk : k ≤ i) (h : ∀ j, k ≤ j → j < i → p (j : Int) = false) (hi : p (i : Int) = true) : (upto (i + 1)).filter p = (upto k).filter p ++ [(i : Int)] := by
  obtain ⟨d, rfl⟩ : ∃ d, i = k + d := ⟨i - k, by omega⟩
  rw [filt_succ, filt_skip p k d h, hi]
  rfl
theorem GW.row {w : World} {A : Option Addr} {c m base : Nat} (h : OwW w base A c m) {B : Nat} (hB : B < base) (ds : Array Value) : GW (w.setRow B ds) A m := OwW.gw (Own.rowLow h hB ds)

set_option maxHeartbeats 1000000 in
theorem Taken_bad (s : Int) (A : Option Addr) (c : Nat) (xs : List Int) (w : World) (ha : GI w A c xs) (he : (chkP s xs).1 ≠ 0) :
    Calls Tryd.prog 24 #[.agg #[.int .i64 s, .slice A xs.length c]] w (RetL w [] (chkP s xs).1) := by
  have hx := Bx.new w 24 #[.int .i64 s, .slice A xs.length c]
  have hw := al w (.cells #[.int .i64 s, .slice A xs.length c] 24)
  have hg := ha.below hw
  have Hc := Lib.hid (fun W (hW : GI W A c xs) => Check_any s A c xs W hW)
  have hc' : ((chkP s xs).1 != 0) = true := by simp [he]
  clear ha he
  generalize chkP s xs = ce at *
  obtain ⟨ce, ci⟩ := ce
  simp only at hc' ⊢
  go_enter Tryd.func24, Tryd.ntmps24
  go_wp2_with (first | (refine wpList_load_row rfl 24 _ rfl (w.heap.size) rfl 24 _ _ _ hx Tryd.underlying24 rfl pool_size ?_))
  refine (Hc.out _ hg).mono ?_
  rintro e w1 ⟨rfl, hb1⟩
  go_wp2
  go_ret2
  exact ⟨none, 0, rfl, OwnI.none _ _, below_step hw hb1⟩

structure TnL (w : World) (n : Nat) (A : Option Addr) (nx c : Nat) (B : Nat) (A' : Option Addr) (c' m : Nat) (wx : World) : Prop where
  par : Bx wx w.heap.size 24 #[.int .i64 (n : Int), .slice A nx c]
  box : Bx wx B 62 #[.int .i64 (n : Int), .slice A' 1 c']
  gw : GW wx A' m
  lo : Below w.heap.size w wx

set_option maxHeartbeats 4000000 in
theorem Taken_ok (s : Int) (A : Option Addr) (c : Nat) (xs : List Int) (w : World) (hL : Laid w) (h0 : 0 < w.heap.size) (ha : GI w A c xs) (hok : OkP s xs) :
    Calls Tryd.prog 24 #[.agg #[.int .i64 s, .slice A xs.length c]] w (RetL w (takenP s xs) 0) := by
  have h1 := hok.lo
  have h2 := hok.hi
  obtain ⟨n, rfl⟩ : ∃ n : Nat, s = (n : Int) := ⟨s.toNat, by omega⟩
  have hn1 : 1 ≤ n := by omega
  have hn2 : n ≤ 32 := by omega
  have Hc := Lib.hid (fun W (hW : GI W A c xs) => Check_any (n : Int) A c xs W hW)
  rw [hok.chk] at Hc
  have HN := Lib.hid (fun W => bNew_any n W hn1 hn2)
  have HR := Lib.hid hok.rng
  have HG := Lib.hid (show takenP (n : Int) xs = (upto n).filter (fun i => !xs.contains i) by unfold takenP; rw [Int.toNat_natCast])
  have HL := Lib.hid (show xs.take xs.length = xs from List.take_length)
  have HB := Lib.hid (show ∀ j : Nat, (mset xs).testBit j = xs.contains (j : Int) from fun j => by rw [← mset_has xs (fun y hy => (hok.rng y hy).1) (j : Int) (by omega), Int.toNat_natCast])
  have HM := Lib.hid (show ∀ k, mset (xs.take k) < 2 ^ n from fun k => mset_lt n _ fun y hy => by have := hok.rng y (List.mem_of_mem_take hy); omega)
  generalize takenP (n : Int) xs = tk at *
  have hx := Bx.new w 24 #[.int .i64 (n : Int), .slice A xs.length c]
  have hw := al w (.cells #[.int .i64 (n : Int), .slice A xs.length c] 24)
  have hg := ha.below hw
  have hlen := ha.len
  clear hok
  generalize hnx : xs.length = nx at *
  have Hnx := Lib.hid hnx
  clear hnx
  go_enter Tryd.func24, Tryd.ntmps24
  go_wp2_with (first | (refine wpList_load_row rfl 24 _ rfl (w.heap.size) rfl 24 _ _ _ hx Tryd.underlying24 rfl pool_size ?_))
  refine (Hc.out _ hg).mono ?_
  rintro e w1 ⟨rfl, hb1⟩
  have hx1 := hx.below hb1
  have hw1 := below_step hw hb1
  obtain ⟨c0, c1⟩ := s2 hx1
  clear hx hb1 hw hg Hc
  go_wp2_with fail
  refine (HN.out _).mono ?_
  rintro e w2 ⟨A2, c2, rfl, hgw, hb2⟩
  have hx2 := hx1.below hb2
  have hw2 := below_step hw1 hb2
  have hlt2 := hx2.lt
  clear hx1 hb2 hw1 c0 c1 HN
  have hn0 := Bx.new w2 62 #[.int .i64 0, .slice none 0 0]
  have hb0 := Bx.new w2 62 #[.int .i64 (n : Int), .slice A2 1 c2]
  have hx3 := hx2.alloc (.cells #[.int .i64 (n : Int), .slice A2 1 c2] 62)
  have hgw3 := hgw.below (al w2 (.cells #[.int .i64 (n : Int), .slice A2 1 c2] 62))
  have hw3 := below_step hw2 (al _ (.cells #[.int .i64 (n : Int), .slice A2 1 c2] 62))
  obtain ⟨c0, c1⟩ := s2 hx3
  clear hx2 hgw hw2
  go_wp2_with (first | (refine wpList_store_row rfl 62 _ _ rfl (w2.heap.size) _ rfl rfl 62 _ hn0 bits_size rfl (pv_one _ _ _ _) ?_; rw [World.setRow_alloc_new]; simp only [Act.put]))
  clear c0 c1 hn0
  generalize hB : w2.heap.size = B at *
  generalize w2.alloc (.cells #[.int .i64 (n : Int), .slice A2 1 c2] 62) = W3 at *
  clear hB
  go_loopg [34] nx (fun g i wx => ∃ (k : Nat) (A' : Option Addr) (c' : Nat), g = nx - k ∧ k ≤ nx ∧ i = .int .i64 k ∧ TnL w n A nx c B A' c' (mset (xs.take k)) wx)
  case atStart => exact ⟨0, A2, c2, rfl, by omega, rfl, hx3, hb0, hgw3, hw3⟩
  case round =>
    obtain ⟨k, A', c', rfl, hk, rfl, hr⟩ := hrel
    clear hx3 hb0 hgw3 hw3
    have hpar := hr.par
    have hbox := hr.box
    have hgw := hr.gw
    have hlo := hr.lo
    have hgi := ha.below hlo
    clear hr
    by_cases hlt : k < nx
    · have kd : decide ((k : Int) < (nx : Int)) = true := by simp; omega
      obtain ⟨ad, rfl, _, hca⟩ := hgi.at_ (k := k) (by rw [Hnx.out]; exact hlt)
      have hxr : 0 ≤ xs[k]?.getD 0 ∧ xs[k]?.getD 0 < (n : Int) := by
        rw [List.getElem?_eq_getElem (by rw [Hnx.out]; exact hlt)]
        exact HR.out _ (List.getElem_mem _)
      have HT := Lib.hid (show mset (xs.take (k + 1)) = mset (xs.take k) ||| 2 ^ (xs[k]?.getD 0).toNat by
        rw [← mset_snoc, List.take_add_one, List.getElem?_eq_getElem (by rw [Hnx.out]; exact hlt)]; rfl)
      obtain ⟨d, hd⟩ : ∃ d : Nat, xs[k]?.getD 0 = (d : Int) := ⟨(xs[k]?.getD 0).toNat, by omega⟩
      rw [hd] at hca HT hxr
      rw [Int.toNat_natCast] at HT
      have hdn : d < n := by omega
      have hd32 : (d : Int) < 32 := by omega
      have HP := Lib.hid (Put_any n A' c' (mset (xs.take k)) d wr hn1 hn2 (HM.out k) hdn hgw)
      clear hd hxr
      go_wp2_with (first | (refine wpList_load_row rfl 62 _ rfl (B) rfl 62 _ _ _ hbox Tryd.underlying62 rfl bits_size ?_))
      refine HP.out.mono ?_
      rintro e w4 ⟨A9, c9, rfl, how, hb4⟩
      have hpar4 := hpar.below hb4
      have hbox4 := hbox.below hb4
      have hlo4 := below_step hlo hb4
      have hltB := hbox.lt
      clear hpar hbox hgw hlo hgi hb4 HP
      go_wp2_with (first | (refine wpList_store_row rfl 62 _ _ rfl (B) _ rfl rfl 62 _ hbox4 bits_size rfl (pv_one _ _ _ _) ?_))
      go_roundg (nx - (k + 1))
      case measure => omega
      case rel =>
        refine ⟨k + 1, A9, c9, rfl, by omega, by go_num, hpar4.rowO (by omega) _, hbox4.row _, ?_, below_setRow hlo4 (by omega) _⟩
        rw [HT.out]
        exact GW.row how hltB _
    · have kd : decide ((k : Int) < (nx : Int)) = false := by simp; omega
      obtain rfl : k = nx := by omega
      rw [HL.out] at hgw
      have hmx : mset xs < 2 ^ n := by have := HM.out k; rw [HL.out] at this; exact this
      generalize mset xs = ms at *
      have h0r : 0 < wr.heap.size := Nat.lt_of_lt_of_le h0 hlo.size
      have hLr := hL.below hlo h0
      go_wp2_with fail
      generalize wr = W5 at *
      clear hgi hlen hk hlt kd wr
      go_loopg [10, 11] n (fun g l i wx => ∃ (f m : Nat) (ys : List Int) (Al : Option Addr) (cl : Nat), g = n - f ∧ f ≤ n ∧ m ≤ f ∧ l = .slice Al m cl ∧ i = .int .i64 f ∧ Hid (ys = (upto f).filter (fun i => !xs.contains i)) ∧ OwnI wx W5.heap.size Al m cl ys ∧ Below W5.heap.size W5 wx)
      case atStart => exact ⟨0, 0, [], none, 0, rfl, by omega, by omega, rfl, rfl, Lib.hid rfl, OwnI.none _ _, Below.refl _ _⟩
      case round =>
        obtain ⟨f, m, ys, Al, cl, rfl, hf, hmf, rfl, rfl, HY, ho, hlo2⟩ := hrel
        have hpar5 := hpar.below hlo2
        have hbox5 := hbox.below hlo2
        have hgw5 := hgw.below hlo2
        have hL5 := hLr.below hlo2 h0r
        have h05 : 0 < wr.heap.size := Nat.lt_of_lt_of_le h0r hlo2.size
        have hsz5 := hlo2.size
        have hlo5 := hlo.trans (hlo2.mono hlo.size)
        have hszw := hlo.size
        obtain ⟨c0, c1⟩ := s2 hpar5
        have hml := Lib.hid (OwnI.len ho)
        by_cases hfn : f < n
        · have fd : decide ((f : Int) < (n : Int)) = true := by simp; omega
          by_cases hex : ∃ i, f ≤ i ∧ i < n ∧ ms.testBit i = false
          · obtain ⟨i, i1, i2, i3, i4⟩ := least_of _ f n hex
            have HX := Lib.hid (Next_some n A' c' ms f i wr hL5 h05 hn1 hn2 hmx hfn hgw5 i1 i2 i3 i4)
            have HF := Lib.hid (filt_hit (fun i => !xs.contains i) f i i1 (fun j h1 h2 => by simp only [← HB.out, i4 j h1 h2]; rfl) (by simp only [← HB.out, i3]; rfl))
            rw [← HY.out] at HF
            have hi32 : (i : Int) < 32 := by omega
            clear hex i3 i4 HY hml
            go_wp2_with (first | (refine wpList_load_row rfl 62 _ rfl (B) rfl 62 _ _ _ hbox5 Tryd.underlying62 rfl bits_size ?_))
            refine HX.out.mono ?_
            rintro e w6 ⟨rfl, hb6⟩
            have ho6 := Own.below ho hb6
            have hlo6 := below_step hlo2 hb6
            have hsz6 := hb6.size
            clear hpar5 hbox5 hgw5 hL5 hlo5 hlo2 hb6 ho c0 c1 HX
            have ob : Bx (w6.alloc (.cells #[.int .i64 (i : Int)] 3)) w6.heap.size 3 #[.int .i64 (i : Int)] := Bx.new w6 _ _
            have hcn : (w6.alloc (.cells #[.int .i64 (i : Int)] 3)).cell? ⟨w6.heap.size, 0, none⟩ = some (.int .i64 (i : Int)) := ob.cell 0
            have ho7 := Own.alloc ho6 (.cells #[.int .i64 (i : Int)] 3)
            have hlo7 := below_step hlo6 (al _ (.cells #[.int .i64 (i : Int)] 3))
            go_wp2_with (first | (at_builtin; refine wpList_ap1 _ rfl _ _ rfl W5.heap.size Al m cl ys rfl ho7 ⟨w6.heap.size, 0, none⟩ 1 (i : Int) rfl hcn (by omega) (by simp only [World.size_alloc]; omega) ?_; intro A8 c8 w8 hown8 hg8; have hlo8 : Below W5.heap.size W5 w8 := grown_below hlo7 ho7 hg8 (by simp only [World.size_alloc]; omega) (Nat.le_refl _); clear ho7 hlo7 hcn ob hg8))
            go_roundg (n - (i + 1))
            case measure => omega
            case rel => exact ⟨i + 1, m + 1, ys ++ [(i : Int)], A8, c8, rfl, by omega, by omega, rfl, by go_num, Lib.hid HF.out.symm, hown8, hlo8⟩
          · have HX := Lib.hid (Next_none n A' c' ms f wr hn1 hn2 hmx hfn hgw5 (fun j j1 j2 => by
              cases hj : ms.testBit j
              · exact absurd ⟨j, j1, j2, hj⟩ hex
              · rfl))
            have HF := Lib.hid (show (upto n).filter (fun i => !xs.contains i) = ys by
              rw [HY.out, show n = f + (n - f) by omega]
              refine filt_skip _ f (n - f) fun j j1 j2 => ?_
              have : ms.testBit j = true := by
                cases hj : ms.testBit j
                · exact absurd ⟨j, j1, by omega, hj⟩ hex
                · rfl
              simp only [← HB.out, this]
              rfl)
            clear hex
            go_wp2_with (first | (refine wpList_load_row rfl 62 _ rfl (B) rfl 62 _ _ _ hbox5 Tryd.underlying62 rfl bits_size ?_))
            refine HX.out.mono ?_
            rintro e w6 ⟨rfl, hb6⟩
            have ho6 := (Own.below ho hb6).mono (base' := w.heap.size) (by omega)
            go_wp2
            go_ret2
            exact ⟨Al, cl, by rw [HG.out, HF.out, ← hml.out]; rfl, by rw [HG.out, HF.out, ← hml.out]; exact ho6, below_step hlo5 hb6⟩
        · have fd : decide ((f : Int) < (n : Int)) = false := by simp; omega
          obtain rfl : f = n := by omega
          have ho6 := Own.mono ho (base' := w.heap.size) (by omega)
          go_wp2
          go_ret2
          exact ⟨Al, cl, by rw [HG.out, ← HY.out, ← hml.out]; rfl, by rw [HG.out, ← HY.out, ← hml.out]; exact ho6, hlo5⟩
end Go.Proofs.YtoimmfcodflmkaaDoor
