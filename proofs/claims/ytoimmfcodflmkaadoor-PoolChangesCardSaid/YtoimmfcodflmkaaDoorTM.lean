/- The reference of pool: Left, Taken, Home; OwnPool. -/
import Derived.Test.YtoimmfcodflmkaaDoorTI
import Derived.Test.YtoimmfcodflmkaaDoorTK
namespace Go.Proofs.YtoimmfcodflmkaaDoor
open Go.RowKit
set_option linter.unusedVariables false

set_option maxHeartbeats 1000000 in
theorem sLeft_any (s : Int) (A : Option Addr) (c : Nat) (xs : List Int) (w : World) (ha : GI w A c xs) :
    Calls Tryd.prog 23 #[.agg #[.int .i64 s, .slice A xs.length c]] w (RetB w (.returned (.tuple #[.int .i64 (lfP s xs).1, .int .i64 (lfP s xs).2]))) := by
  have hx := Bx.new w 24 #[.int .i64 s, .slice A xs.length c]
  have hw := al w (.cells #[.int .i64 s, .slice A xs.length c] 24)
  have hg := ha.below hw
  have hl := ha.len
  have Hc := Lib.hid (fun W (hW : GI W A c xs) => sCheck_any s A c xs W hW)
  by_cases hc : (chkP s xs).1 = 0
  · have E := Lib.hid (show lfP s xs = ((xs.length : Int), 0) by unfold lfP; rw [if_neg (by simpa using hc)])
    rw [(chkP_ok hc).chk] at Hc
    generalize lfP s xs = lf at *
    clear hc ha
    go_enter Tryd.func23, Tryd.ntmps23
    go_wp2_with (first | (refine wpList_load_row rfl 24 _ rfl (w.heap.size) rfl 24 _ _ _ hx Tryd.underlying24 rfl pool_size ?_))
    refine (Hc.out _ hg).mono ?_
    rintro e w1 ⟨rfl, hb1⟩
    obtain ⟨c0, c1⟩ := s2 (hx.below hb1)
    go_wp2
    go_ret2
    exact ⟨by rw [E.out]; rfl, below_step hw hb1⟩
  · have E := Lib.hid (show lfP s xs = (0, (chkP s xs).1) by unfold lfP; rw [if_pos hc])
    have hc' : ((chkP s xs).1 != 0) = true := by simp [hc]
    generalize lfP s xs = lf at *
    generalize chkP s xs = ce at *
    obtain ⟨ce, ci⟩ := ce
    simp only at hc' E
    clear hc ha
    go_enter Tryd.func23, Tryd.ntmps23
    go_wp2_with (first | (refine wpList_load_row rfl 24 _ rfl (w.heap.size) rfl 24 _ _ _ hx Tryd.underlying24 rfl pool_size ?_))
    refine (Hc.out _ hg).mono ?_
    rintro e w1 ⟨rfl, hb1⟩
    go_wp2
    go_ret2
    exact ⟨by rw [E.out]; rfl, below_step hw hb1⟩

set_option maxHeartbeats 1000000 in
theorem sHome_bad (s : Int) (A : Option Addr) (c : Nat) (xs : List Int) (d : Int) (w : World) (ha : GI w A c xs) (he : hmE s xs d ≠ 0) :
    Calls Tryd.prog 27 #[.agg #[.int .i64 s, .slice A xs.length c], .int .i64 d] w (RetB w (.returned (.tuple #[.int .i64 0, .int .i64 0, .int .i64 (hmE s xs d)]))) := by
  have hx := Bx.new w 24 #[.int .i64 s, .slice A xs.length c]
  have hw := al w (.cells #[.int .i64 s, .slice A xs.length c] 24)
  have hg := ha.below hw
  have Hc := Lib.hid (fun W (hW : GI W A c xs) => sAsked_any s A c xs d W hW)
  rw [show akE s xs d = hmE s xs d from rfl] at Hc
  have hc' : (hmE s xs d != 0) = true := by simp [he]
  generalize hmE s xs d = ce at *
  clear ha he
  go_enter Tryd.func27, Tryd.ntmps27
  go_wp2_with (first | (refine wpList_load_row rfl 24 _ rfl (w.heap.size) rfl 24 _ _ _ hx Tryd.underlying24 rfl pool_size ?_))
  refine (Hc.out _ hg).mono ?_
  rintro e w1 ⟨rfl, hb1⟩
  go_wp2
  go_ret3
  exact ⟨rfl, below_step hw hb1⟩
set_option maxHeartbeats 1000000 in
theorem sHome_ok (s : Int) (A : Option Addr) (c : Nat) (xs : List Int) (d : Nat) (w : World) (ha : GI w A c xs) (hok : OkP s xs) (hd : (d : Int) < s) :
    Calls Tryd.prog 27 #[.agg #[.int .i64 s, .slice A xs.length c], .int .i64 (d : Int)] w (RetB w (.returned (.tuple #[.int .i64 ((d / 8 : Nat) : Int), .int .i64 ((d % 8 : Nat) : Int), .int .i64 0]))) := by
  have hx := Bx.new w 24 #[.int .i64 s, .slice A xs.length c]
  have hw := al w (.cells #[.int .i64 s, .slice A xs.length c] 24)
  have hg := ha.below hw
  have Hc := Lib.hid (fun W (hW : GI W A c xs) => sAsked_any s A c xs (d : Int) W hW)
  rw [show akE s xs (d : Int) = 0 by unfold akE; rw [hok.chk]; simp; omega] at Hc
  have h2 := hok.hi
  have hd32 : (d : Int) < 32 := by omega
  clear ha hok
  go_enter Tryd.func27, Tryd.ntmps27
  go_wp2_with (first | (refine wpList_load_row rfl 24 _ rfl (w.heap.size) rfl 24 _ _ _ hx Tryd.underlying24 rfl pool_size ?_))
  refine (Hc.out _ hg).mono ?_
  rintro e w1 ⟨rfl, hb1⟩
  go_wp2
  go_ret3
  refine ⟨?_, below_step hw hb1⟩
  simp [Array.getD]

set_option maxHeartbeats 1000000 in
theorem sTaken_bad (s : Int) (A : Option Addr) (c : Nat) (xs : List Int) (w : World) (ha : GI w A c xs) (he : (chkP s xs).1 ≠ 0) :
    Calls Tryd.prog 25 #[.agg #[.int .i64 s, .slice A xs.length c]] w (RetL w [] (chkP s xs).1) := by
  have hx := Bx.new w 24 #[.int .i64 s, .slice A xs.length c]
  have hw := al w (.cells #[.int .i64 s, .slice A xs.length c] 24)
  have hg := ha.below hw
  have Hc := Lib.hid (fun W (hW : GI W A c xs) => sCheck_any s A c xs W hW)
  have hc' : ((chkP s xs).1 != 0) = true := by simp [he]
  clear ha he
  generalize chkP s xs = ce at *
  obtain ⟨ce, ci⟩ := ce
  simp only at hc' ⊢
  go_enter Tryd.func25, Tryd.ntmps25
  go_wp2_with (first | (refine wpList_load_row rfl 24 _ rfl (w.heap.size) rfl 24 _ _ _ hx Tryd.underlying24 rfl pool_size ?_))
  refine (Hc.out _ hg).mono ?_
  rintro e w1 ⟨rfl, hb1⟩
  go_wp2
  go_ret2
  exact ⟨none, 0, rfl, OwnI.none _ _, below_step hw hb1⟩
set_option maxHeartbeats 2000000 in
theorem sTaken_ok (s : Int) (A : Option Addr) (c : Nat) (xs : List Int) (w : World) (ha : GI w A c xs) (hok : OkP s xs) :
    Calls Tryd.prog 25 #[.agg #[.int .i64 s, .slice A xs.length c]] w (RetL w (takenP s xs) 0) := by
  have h1 := hok.lo
  have h2 := hok.hi
  obtain ⟨n, rfl⟩ : ∃ n : Nat, s = (n : Int) := ⟨s.toNat, by omega⟩
  have hx := Bx.new w 24 #[.int .i64 (n : Int), .slice A xs.length c]
  have hw := al w (.cells #[.int .i64 (n : Int), .slice A xs.length c] 24)
  have hg := ha.below hw
  have Hc := Lib.hid (fun W (hW : GI W A c xs) => sCheck_any (n : Int) A c xs W hW)
  rw [hok.chk] at Hc
  have HFk := Lib.hid (fun k W (hW : GI W A c xs) => sFree_any (n : Int) A c xs k W hW)
  have HG := Lib.hid (show takenP (n : Int) xs = (upto n).filter (fun i => !xs.contains i) by unfold takenP; rw [Int.toNat_natCast])
  generalize takenP (n : Int) xs = tk at *
  have hn32 : n ≤ 32 := by omega
  clear hok
  go_enter Tryd.func25, Tryd.ntmps25
  go_wp2_with (first | (refine wpList_load_row rfl 24 _ rfl (w.heap.size) rfl 24 _ _ _ hx Tryd.underlying24 rfl pool_size ?_))
  refine (Hc.out _ hg).mono ?_
  rintro e w1 ⟨rfl, hb1⟩
  have hx1 := hx.below hb1
  have hw1 := below_step hw hb1
  have hlt1 := hx1.lt
  clear hx hb1 hw hg Hc
  go_wp2_with fail
  go_loopg [6, 7] n (fun g l i wx => ∃ (k m : Nat) (ys : List Int) (Al : Option Addr) (cl : Nat), g = n - k ∧ k ≤ n ∧ m ≤ k ∧ l = .slice Al m cl ∧ i = .int .i64 k ∧ Hid (ys = (upto k).filter (fun i => !xs.contains i)) ∧ OwnI wx w1.heap.size Al m cl ys ∧ Below w1.heap.size w1 wx)
  case atStart => exact ⟨0, 0, [], none, 0, rfl, by omega, by omega, rfl, rfl, Lib.hid rfl, OwnI.none _ _, Below.refl _ _⟩
  case round =>
    obtain ⟨k, m, ys, Al, cl, rfl, hk, hmk, rfl, rfl, HY, ho, hlo2⟩ := hrel
    have hp0 := hx1.below hlo2
    have hwr := below_step hw1 hlo2
    have hgi := ha.below hwr
    obtain ⟨c0, c1⟩ := s2 hp0
    have hszr := hlo2.size
    have hml := Lib.hid (OwnI.len ho)
    have HU := Lib.hid (show (upto (k + 1)).filter (fun i => !xs.contains i) = ys ++ (if (!xs.contains (k : Int)) = true then [(k : Int)] else []) by
      rw [filt_succ, ← HY.out])
    by_cases hlt' : k < n
    · have kd : decide ((k : Int) < (n : Int)) = true := by simp; omega
      have HK := Lib.hid (HFk.out (k : Int) wr hgi)
      cases hb' : xs.contains (k : Int)
      · rw [hb'] at HU HK
        clear hb'
        go_wp2_with (first | (refine wpList_load_row rfl 24 _ rfl (w.heap.size) rfl 24 _ _ _ hp0 Tryd.underlying24 rfl pool_size ?_))
        refine HK.out.mono ?_
        rintro e w6 ⟨rfl, hb6⟩
        have ho6 := Own.below ho hb6
        have hlo6 := below_step hlo2 hb6
        have hsz6 := hb6.size
        have ob : Bx (w6.alloc (.cells #[.int .i64 (k : Int)] 3)) w6.heap.size 3 #[.int .i64 (k : Int)] := Bx.new w6 _ _
        have hcn : (w6.alloc (.cells #[.int .i64 (k : Int)] 3)).cell? ⟨w6.heap.size, 0, none⟩ = some (.int .i64 (k : Int)) := ob.cell 0
        have ho7 := Own.alloc ho6 (.cells #[.int .i64 (k : Int)] 3)
        have hlo7 := below_step hlo6 (al _ (.cells #[.int .i64 (k : Int)] 3))
        clear hp0 hwr hgi c0 c1 ho hlo2 HK
        go_wp2_with (first | (at_builtin; refine wpList_ap1 _ rfl _ _ rfl w1.heap.size Al m cl ys rfl ho7 ⟨w6.heap.size, 0, none⟩ 1 (k : Int) rfl hcn (by omega) (by simp only [World.size_alloc]; omega) ?_; intro A8 c8 w8 hown8 hg8; have hlo8 : Below w1.heap.size w1 w8 := grown_below hlo7 ho7 hg8 (by simp only [World.size_alloc]; omega) (Nat.le_refl _); clear ho7 hlo7 hcn ob hg8))
        go_roundg (n - (k + 1))
        case measure => omega
        case rel => exact ⟨k + 1, m + 1, ys ++ [(k : Int)], A8, c8, rfl, by omega, by omega, rfl, by go_num, Lib.hid HU.out.symm, hown8, hlo8⟩
      · rw [hb'] at HU HK
        clear hb'
        go_wp2_with (first | (refine wpList_load_row rfl 24 _ rfl (w.heap.size) rfl 24 _ _ _ hp0 Tryd.underlying24 rfl pool_size ?_))
        refine HK.out.mono ?_
        rintro e w6 ⟨rfl, hb6⟩
        have ho6 := Own.below ho hb6
        have hlo6 := below_step hlo2 hb6
        go_wp2
        go_roundg (n - (k + 1))
        case measure => omega
        case rel => exact ⟨k + 1, m, ys, Al, cl, rfl, by omega, by omega, rfl, by go_num, Lib.hid (by rw [HU.out]; simp), ho6, hlo6⟩
    · have kd : decide ((k : Int) < (n : Int)) = false := by simp; omega
      obtain rfl : k = n := by omega
      have ho6 := Own.mono ho (base' := w.heap.size) (by omega)
      go_wp2
      go_ret2
      exact ⟨Al, cl, by rw [HG.out, ← HY.out, ← hml.out]; rfl, by rw [HG.out, ← HY.out, ← hml.out]; exact ho6, hwr⟩

set_option maxHeartbeats 1000000 in
theorem ownPool_any (s : Int) (A : Option Addr) (c : Nat) (xs : List Int) (w : World) (ha : GI w A c xs) (hl : xs.length ≤ 1000) :
    Calls Tryd.prog 15 #[.agg #[.int .i64 s, .slice A xs.length c]] w fun e w' => ∃ A' c', e = .returned (.agg #[.int .i64 s, .slice A' xs.length c']) ∧ OwnI w' w.heap.size A' xs.length c' xs ∧ Below w.heap.size w w' := by
  have hx := ((Bx.new w 24 #[.int .i64 s, .slice A xs.length c]).alloc (.cells #[.int .i64 0, .slice none 0 0] 24)).alloc (.cells #[] 3)
  have hy := (Bx.new (w.alloc (.cells #[.int .i64 s, .slice A xs.length c] 24)) 24 #[.int .i64 0, .slice none 0 0]).alloc (.cells #[] 3)
  have ho := OwnI.new ((w.alloc (.cells #[.int .i64 s, .slice A xs.length c] 24)).alloc (.cells #[.int .i64 0, .slice none 0 0] 24))
  simp only [World.size_alloc] at ho hy
  have hw := below_step (below_step (al w (.cells #[.int .i64 s, .slice A xs.length c] 24)) (al _ (.cells #[.int .i64 0, .slice none 0 0] 24))) (al _ (.cells #[] 3))
  have hg := (ha.below hw).2.2
  clear ha
  go_enter Tryd.func15, Tryd.ntmps15
  go_wp2_with (first | (at_builtin; refine wpList_apl _ rfl _ _ rfl (w.heap.size + 1 + 1) (some ⟨w.heap.size + 1 + 1, 0, none⟩) 0 0 [] rfl ho _ A xs.length c xs rfl hg (by omega) (by simp only [World.size_alloc]; omega) ?_; intro A' c' w2 hown hgr; rw [Nat.zero_add] at hown ⊢; rw [List.nil_append] at hown; have hx2 := hx.grown hgr (by intro h; simp [Value.ownBlock] at h <;> omega); have hy2 := hy.grown hgr (by intro h; simp [Value.ownBlock] at h <;> omega); have hw2 : Below w.heap.size w w2 := grown_below hw ho hgr (by simp only [World.size_alloc]; omega) (by omega); have c7 : w2.cell? ⟨w.heap.size, 1, none⟩ = some (.slice A xs.length c) := hx2.cell 1; have z7 := hx2.frozen 1; have hx3 : Bx (w2.setCell ⟨w.heap.size, 1, none⟩ (.slice A' xs.length c')) w.heap.size 24 #[.int .i64 s, .slice A' xs.length c'] := hx2.set 1 _; have hy3 := hy2.setO (p := ⟨w.heap.size, 1, none⟩) (by simp) (.slice A' xs.length c'); clear hx hy ho hgr hw hg) | (refine wpList_load_row rfl 24 _ rfl w.heap.size rfl 24 _ _ _ hx3 Tryd.underlying24 rfl pool_size ?_) | (refine wpList_store_row rfl 24 _ _ rfl (w.heap.size + 1) _ rfl rfl 24 _ hy3 pool_size rfl (pv_one _ _ _ _) ?_))
  refine bodyPost_ret (results_cell_row rfl _ _ (w.heap.size + 1) 24 _ (0, 0) _ rfl (hy3.row _) Tryd.underlying24 rfl pool_size) rfl ⟨A', c', rfl, ?_, ?_⟩
  · exact (Own.rowLow (Own.setLow hown (by show w.heap.size < _; omega) _) (by omega) _).mono (by omega)
  · exact below_setRow (hw2.setCell (Nat.le_refl _) _) (by omega) _
end Go.Proofs.YtoimmfcodflmkaaDoor
