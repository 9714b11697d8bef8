/- Package fault: wait, Claim, Read. -/
import Derived.Test.YtbcfnocefjolfaaF9
namespace Go.Proofs.Ytbcfnocefjolfaa
open Go.RowKit

/-- May the request wait? -/
def ableB (kind st stt : Int) : Bool := accB kind && ((st == 2) || ((st == 1) && (stt == 3)))
theorem able_no {kind st stt : Int} (h : ¬ ableB kind st stt = true) : accB kind = false ∨ (accB kind = true ∧ (st == 2) = false ∧ ((st == 1) = false ∨ ((st == 1) = true ∧ (stt == 3) = false))) := by
  unfold ableB at h
  revert h
  cases accB kind <;> cases (st == 2) <;> cases (st == 1) <;> cases (stt == 3) <;> simp
theorem able_yes {kind st stt : Int} (h : ableB kind st stt = true) : accB kind = true ∧ ((st == 2) = true ∨ ((st == 2) = false ∧ (st == 1) = true ∧ (stt == 3) = true)) := by
  unfold ableB at h
  revert h
  cases accB kind <;> cases (st == 2) <;> cases (st == 1) <;> cases (stt == 3) <;> simp
/-- The error of wait. -/
def waitE (tk kind proc a b val st : Int) (xs : List Int) (slot sl stt : Int) : Int := if chkE tk kind proc a b val st xs slot ≠ 0 then chkE tk kind proc a b val st xs slot else if ableB kind st stt = true then (if frB sl = true then 0 else 2) else 9

set_option maxHeartbeats 2000000 in
theorem wait_bad (tk kind proc a b val st : Int) (A : Option Addr) (c : Nat) (xs : List Int) (slot : Int) (sl stt : Int) (w : World) (ha : GI w A c xs) (he : waitE tk kind proc a b val st xs slot sl stt ≠ 0) :
    Calls Try.prog 32 #[.agg #[.int .u64 tk, .int .i64 kind, .int .i64 proc, .int .i64 a, .int .i64 b, .int .u64 val, .int .i64 st, .slice A xs.length c, .int .i64 slot], .int .i64 sl, .int .i64 stt] w (RetR w 0 0 0 0 0 0 0 [] 0 (waitE tk kind proc a b val st xs slot sl stt)) := by
  have hx := (Bx.new w 27 #[.int .u64 tk, .int .i64 kind, .int .i64 proc, .int .i64 a, .int .i64 b, .int .u64 val, .int .i64 st, .slice A xs.length c, .int .i64 slot]).alloc (.cells #[.int .u64 0, .int .i64 0, .int .i64 0, .int .i64 0, .int .i64 0, .int .u64 0, .int .i64 0, .slice none 0 0, .int .i64 0] 27)
  have hy := Bx.new (w.alloc (.cells #[.int .u64 tk, .int .i64 kind, .int .i64 proc, .int .i64 a, .int .i64 b, .int .u64 val, .int .i64 st, .slice A xs.length c, .int .i64 slot] 27)) 27 #[.int .u64 0, .int .i64 0, .int .i64 0, .int .i64 0, .int .i64 0, .int .u64 0, .int .i64 0, .slice none 0 0, .int .i64 0]
  rw [World.size_alloc] at hy
  have hw := below_step (al w (.cells #[.int .u64 tk, .int .i64 kind, .int .i64 proc, .int .i64 a, .int .i64 b, .int .u64 val, .int .i64 st, .slice A xs.length c, .int .i64 slot] 27)) (al _ (.cells #[.int .u64 0, .int .i64 0, .int .i64 0, .int .i64 0, .int .i64 0, .int .u64 0, .int .i64 0, .slice none 0 0, .int .i64 0] 27))
  have hg := ha.below hw
  have Hc := Lib.hid (fun W (hW : GI W A c xs) => Check_any tk kind proc a b val st A c xs slot W hW)
  clear ha
  unfold waitE at he ⊢
  by_cases hc : chkE tk kind proc a b val st xs slot = 0
  · rw [if_neg (by simpa using hc)] at he ⊢
    rw [hc] at Hc
    by_cases hab : ableB kind st stt = true
    · rw [if_pos hab] at he ⊢
      have hf : frB sl = false := by
        cases hf : frB sl
        · rfl
        · rw [if_pos hf] at he; exact absurd rfl he
      rw [if_neg (by simp [hf])]
      obtain ⟨hac, hst⟩ := able_yes hab
      have HA := Lib.hid hac
      have HF := Lib.hid hf
      clear hc he hab hac hf
      rcases hst with h2 | ⟨h2, h1, h3⟩
      all_goals
        go_enter Try.func32, Try.ntmps32
        go_wp2_with (first | (refine wpList_load_row rfl 27 _ rfl (w.heap.size) rfl 27 _ _ _ hx Try.underlying27 rfl req_size ?_))
        refine (Hc.out _ hg).mono ?_
        rintro e w1 ⟨rfl, hb1⟩
        have hx1 := hx.below hb1
        have hy1 := hy.below hb1
        have hw1 := below_step hw hb1
        have hg1 := hg.below hb1
        have q6 : w1.cell? ⟨w.heap.size, 6, none⟩ = some (.int .i64 st) := hx1.cell 6
        clear hx hy hb1 hw hg
        go_wp2_with (first | (refine wpList_load_row rfl 27 _ rfl (w.heap.size) rfl 27 _ _ _ hx1 Try.underlying27 rfl req_size ?_))
        refine (access_any tk kind proc a b val st A xs.length c slot _).mono ?_
        rintro e w2 ⟨rfl, hb2⟩
        have hx2 := hx1.below hb2
        have hy2 := hy1.below hb2
        have hw2 := below_step hw1 hb2
        have hg2 := hg1.below hb2
        clear hx1 hy1 hb2 hw1 hg1 q6
        rw [HA.out]
        go_wp2_with (first | (refine wpList_store_row rfl 27 _ _ rfl (w.heap.size + 1) _ rfl rfl 27 _ hy2 req_size rfl (rq_one 0 0 0 0 0 0 0 none 0 0 0) ?_) | (go_at_call 42; refine (isSlot_any _ _).mono ?_; rintro e w' ⟨rfl, rfl⟩; rw [HF.out]))
        refine bodyPost_ret (res_cell (v := .int .i64 2) rfl rfl rfl (hy2.row _) rfl) rfl ⟨none, 0, rfl, OwnI.none _ _, ?_⟩
        exact below_setRow hw2 (by omega) _
    · rw [if_neg hab]
      have hst := able_no hab
      clear hc he hab
      rcases hst with hac | ⟨hac, h2, h1 | ⟨h1, h3⟩⟩
      · have HA := Lib.hid hac
        clear hac
        cases h2 : (st == 2)
        · cases h1 : (st == 1)
          all_goals
            go_enter Try.func32, Try.ntmps32
            go_wp2_with (first | (refine wpList_load_row rfl 27 _ rfl (w.heap.size) rfl 27 _ _ _ hx Try.underlying27 rfl req_size ?_))
            refine (Hc.out _ hg).mono ?_
            rintro e w1 ⟨rfl, hb1⟩
            have hx1 := hx.below hb1
            have hy1 := hy.below hb1
            have hw1 := below_step hw hb1
            have hg1 := hg.below hb1
            have q6 : w1.cell? ⟨w.heap.size, 6, none⟩ = some (.int .i64 st) := hx1.cell 6
            clear hx hy hb1 hw hg
            go_wp2_with (first | (refine wpList_load_row rfl 27 _ rfl (w.heap.size) rfl 27 _ _ _ hx1 Try.underlying27 rfl req_size ?_))
            refine (access_any tk kind proc a b val st A xs.length c slot _).mono ?_
            rintro e w2 ⟨rfl, hb2⟩
            have hx2 := hx1.below hb2
            have hy2 := hy1.below hb2
            have hw2 := below_step hw1 hb2
            have hg2 := hg1.below hb2
            clear hx1 hy1 hb2 hw1 hg1 q6
            rw [HA.out]
            go_wp2_with (first | (refine wpList_store_row rfl 27 _ _ rfl (w.heap.size + 1) _ rfl rfl 27 _ hy2 req_size rfl (rq_one 0 0 0 0 0 0 0 none 0 0 0) ?_))
            refine bodyPost_ret (res_cell (v := .int .i64 9) rfl rfl rfl (hy2.row _) rfl) rfl ⟨none, 0, rfl, OwnI.none _ _, ?_⟩
            exact below_setRow hw2 (by omega) _
        · skip
          go_enter Try.func32, Try.ntmps32
          go_wp2_with (first | (refine wpList_load_row rfl 27 _ rfl (w.heap.size) rfl 27 _ _ _ hx Try.underlying27 rfl req_size ?_))
          refine (Hc.out _ hg).mono ?_
          rintro e w1 ⟨rfl, hb1⟩
          have hx1 := hx.below hb1
          have hy1 := hy.below hb1
          have hw1 := below_step hw hb1
          have hg1 := hg.below hb1
          have q6 : w1.cell? ⟨w.heap.size, 6, none⟩ = some (.int .i64 st) := hx1.cell 6
          clear hx hy hb1 hw hg
          go_wp2_with (first | (refine wpList_load_row rfl 27 _ rfl (w.heap.size) rfl 27 _ _ _ hx1 Try.underlying27 rfl req_size ?_))
          refine (access_any tk kind proc a b val st A xs.length c slot _).mono ?_
          rintro e w2 ⟨rfl, hb2⟩
          have hx2 := hx1.below hb2
          have hy2 := hy1.below hb2
          have hw2 := below_step hw1 hb2
          have hg2 := hg1.below hb2
          clear hx1 hy1 hb2 hw1 hg1 q6
          rw [HA.out]
          go_wp2_with (first | (refine wpList_store_row rfl 27 _ _ rfl (w.heap.size + 1) _ rfl rfl 27 _ hy2 req_size rfl (rq_one 0 0 0 0 0 0 0 none 0 0 0) ?_))
          refine bodyPost_ret (res_cell (v := .int .i64 9) rfl rfl rfl (hy2.row _) rfl) rfl ⟨none, 0, rfl, OwnI.none _ _, ?_⟩
          exact below_setRow hw2 (by omega) _
      all_goals
        have HA := Lib.hid hac
        clear hac
        go_enter Try.func32, Try.ntmps32
        go_wp2_with (first | (refine wpList_load_row rfl 27 _ rfl (w.heap.size) rfl 27 _ _ _ hx Try.underlying27 rfl req_size ?_))
        refine (Hc.out _ hg).mono ?_
        rintro e w1 ⟨rfl, hb1⟩
        have hx1 := hx.below hb1
        have hy1 := hy.below hb1
        have hw1 := below_step hw hb1
        have hg1 := hg.below hb1
        have q6 : w1.cell? ⟨w.heap.size, 6, none⟩ = some (.int .i64 st) := hx1.cell 6
        clear hx hy hb1 hw hg
        go_wp2_with (first | (refine wpList_load_row rfl 27 _ rfl (w.heap.size) rfl 27 _ _ _ hx1 Try.underlying27 rfl req_size ?_))
        refine (access_any tk kind proc a b val st A xs.length c slot _).mono ?_
        rintro e w2 ⟨rfl, hb2⟩
        have hx2 := hx1.below hb2
        have hy2 := hy1.below hb2
        have hw2 := below_step hw1 hb2
        have hg2 := hg1.below hb2
        clear hx1 hy1 hb2 hw1 hg1 q6
        rw [HA.out]
        go_wp2_with (first | (refine wpList_store_row rfl 27 _ _ rfl (w.heap.size + 1) _ rfl rfl 27 _ hy2 req_size rfl (rq_one 0 0 0 0 0 0 0 none 0 0 0) ?_))
        refine bodyPost_ret (res_cell (v := .int .i64 9) rfl rfl rfl (hy2.row _) rfl) rfl ⟨none, 0, rfl, OwnI.none _ _, ?_⟩
        exact below_setRow hw2 (by omega) _
  · rw [if_pos hc]
    have hc' : (chkE tk kind proc a b val st xs slot != 0) = true := by simp [hc]
    clear hc he
    generalize chkE tk kind proc a b val st xs slot = ce at *
    go_enter Try.func32, Try.ntmps32
    go_wp2_with (first | (refine wpList_load_row rfl 27 _ rfl (w.heap.size) rfl 27 _ _ _ hx Try.underlying27 rfl req_size ?_))
    refine (Hc.out _ hg).mono ?_
    rintro e w1 ⟨rfl, hb1⟩
    have hy1 := hy.below hb1
    have hw1 := below_step hw hb1
    clear hx hy hb1 hw hg
    go_wp2_with (first | (refine wpList_store_row rfl 27 _ _ rfl (w.heap.size + 1) _ rfl rfl 27 _ hy1 req_size rfl (rq_one 0 0 0 0 0 0 0 none 0 0 0) ?_))
    refine bodyPost_ret (res_cell rfl rfl rfl (hy1.row _) rfl) rfl ⟨none, 0, rfl, OwnI.none _ _, ?_⟩
    exact below_setRow hw1 (by omega) _

set_option maxHeartbeats 2000000 in
theorem wait_ok (tk kind proc a b val st : Int) (A : Option Addr) (c : Nat) (xs : List Int) (slot : Int) (sl stt : Int) (w : World) (ha : GI w A c xs) (he : waitE tk kind proc a b val st xs slot sl stt = 0) :
    Calls Try.prog 32 #[.agg #[.int .u64 tk, .int .i64 kind, .int .i64 proc, .int .i64 a, .int .i64 b, .int .u64 val, .int .i64 st, .slice A xs.length c, .int .i64 slot], .int .i64 sl, .int .i64 stt] w (RetR w tk kind proc a b val stt xs sl 0) := by
  have hx := (Bx.new w 27 #[.int .u64 tk, .int .i64 kind, .int .i64 proc, .int .i64 a, .int .i64 b, .int .u64 val, .int .i64 st, .slice A xs.length c, .int .i64 slot]).alloc (.cells #[.int .u64 0, .int .i64 0, .int .i64 0, .int .i64 0, .int .i64 0, .int .u64 0, .int .i64 0, .slice none 0 0, .int .i64 0] 27)
  have hy := Bx.new (w.alloc (.cells #[.int .u64 tk, .int .i64 kind, .int .i64 proc, .int .i64 a, .int .i64 b, .int .u64 val, .int .i64 st, .slice A xs.length c, .int .i64 slot] 27)) 27 #[.int .u64 0, .int .i64 0, .int .i64 0, .int .i64 0, .int .i64 0, .int .u64 0, .int .i64 0, .slice none 0 0, .int .i64 0]
  rw [World.size_alloc] at hy
  have hw := below_step (al w (.cells #[.int .u64 tk, .int .i64 kind, .int .i64 proc, .int .i64 a, .int .i64 b, .int .u64 val, .int .i64 st, .slice A xs.length c, .int .i64 slot] 27)) (al _ (.cells #[.int .u64 0, .int .i64 0, .int .i64 0, .int .i64 0, .int .i64 0, .int .u64 0, .int .i64 0, .slice none 0 0, .int .i64 0] 27))
  have hg := ha.below hw
  have Hc := Lib.hid (fun W (hW : GI W A c xs) => Check_any tk kind proc a b val st A c xs slot W hW)
  unfold waitE at he
  have hc : chkE tk kind proc a b val st xs slot = 0 := by
    refine Decidable.byContradiction fun h => ?_
    rw [if_pos h] at he
    exact h he
  rw [if_neg (by simpa using hc)] at he
  have hab : ableB kind st stt = true := by
    refine Decidable.byContradiction fun h => ?_
    rw [if_neg h] at he
    omega
  rw [if_pos hab] at he
  have hf : frB sl = true := by
    refine Decidable.byContradiction fun h => ?_
    rw [if_neg h] at he
    omega
  have hl := chk_len _ _ _ _ _ _ _ _ _ hc
  rw [hc] at Hc
  obtain ⟨hac, hst⟩ := able_yes hab
  have HA := Lib.hid hac
  have HF := Lib.hid hf
  have HC := Lib.hid (fun W (hW : GI W A c xs) => copied_any tk kind proc a b val st A c xs slot W hW (by omega))
  clear hc he hab hac hf ha
  rcases hst with h2 | ⟨h2, h1, h3⟩
  all_goals
    go_enter Try.func32, Try.ntmps32
    go_wp2_with (first | (refine wpList_load_row rfl 27 _ rfl (w.heap.size) rfl 27 _ _ _ hx Try.underlying27 rfl req_size ?_))
    refine (Hc.out _ hg).mono ?_
    rintro e w1 ⟨rfl, hb1⟩
    have hx1 := hx.below hb1
    have hy1 := hy.below hb1
    have hw1 := below_step hw hb1
    have hg1 := hg.below hb1
    have q6 : w1.cell? ⟨w.heap.size, 6, none⟩ = some (.int .i64 st) := hx1.cell 6
    clear hx hy hb1 hw hg
    go_wp2_with (first | (refine wpList_load_row rfl 27 _ rfl (w.heap.size) rfl 27 _ _ _ hx1 Try.underlying27 rfl req_size ?_))
    refine (access_any tk kind proc a b val st A xs.length c slot _).mono ?_
    rintro e w2 ⟨rfl, hb2⟩
    have hx2 := hx1.below hb2
    have hy2 := hy1.below hb2
    have hw2 := below_step hw1 hb2
    have hg2 := hg1.below hb2
    clear hx1 hy1 hb2 hw1 hg1 q6
    rw [HA.out]
    go_wp2_with (first | (refine wpList_load_row rfl 27 _ rfl (w.heap.size) rfl 27 _ _ _ hx2 Try.underlying27 rfl req_size ?_) | (go_at_call 42; refine (isSlot_any _ _).mono ?_; rintro e w' ⟨rfl, rfl⟩; rw [HF.out]))
    refine (HC.out _ hg2).mono ?_
    rintro e w3 ⟨A', c', rfl, hown, hb3⟩
    have hy3 := hy2.below hb3
    have hw3 := below_step hw2 hb3
    have hlt2 := hy2.lt
    have hlt := hy3.lt
    clear hx2 hy2 hb3 hw2 hg2 HC Hc
    have hn := Bx.new w3 54 #[.int .u64 0, .int .i64 0, .int .i64 0, .int .i64 0, .int .i64 0, .int .u64 0, .int .i64 0, .slice none 0 0, .int .i64 0]
    go_wp2_with (first | (refine wpList_store_row rfl 54 _ _ rfl w3.heap.size _ rfl rfl 54 _ hn frq_size rfl (rq_one tk kind proc a b val st A' xs.length c' slot) ?_; rw [World.setRow_alloc_new]) | (refine wpList_store_row rfl 27 _ _ rfl (w.heap.size + 1) _ rfl rfl 27 _ (hy3.alloc _) req_size rfl (by simp [Value.oneCell']) ?_))
    refine bodyPost_ret (res_cell (v := .int .i64 0) rfl rfl rfl ((hy3.alloc _).row _) rfl) rfl ⟨A', c', rfl, ?_, ?_⟩
    · exact ((hown.alloc _).rowLow (by omega) _).mono (by omega)
    · exact below_setRow (below_step hw3 (al _ _)) (by omega) _

set_option maxHeartbeats 1000000 in
theorem Claim_of (tk kind proc a b val st : Int) (A : Option Addr) (c : Nat) (xs : List Int) (slot : Int) (sl : Int) (w : World) (ha : GI w A c xs) (t0 t1 t2 t3 t4 t5 t6 : Int) (ys : List Int) (t7 t8 : Int)
    (hwt : ∀ W, GI W A c xs → Calls Try.prog 32 #[.agg #[.int .u64 tk, .int .i64 kind, .int .i64 proc, .int .i64 a, .int .i64 b, .int .u64 val, .int .i64 st, .slice A xs.length c, .int .i64 slot], .int .i64 sl, .int .i64 3] W (RetR W t0 t1 t2 t3 t4 t5 t6 ys t7 t8)) :
    Calls Try.prog 9 #[.agg #[.int .u64 tk, .int .i64 kind, .int .i64 proc, .int .i64 a, .int .i64 b, .int .u64 val, .int .i64 st, .slice A xs.length c, .int .i64 slot], .int .i64 sl] w (RetR w t0 t1 t2 t3 t4 t5 t6 ys t7 t8) := by
  have hx := (Bx.new w 27 #[.int .u64 tk, .int .i64 kind, .int .i64 proc, .int .i64 a, .int .i64 b, .int .u64 val, .int .i64 st, .slice A xs.length c, .int .i64 slot]).alloc (.cells #[.int .u64 0, .int .i64 0, .int .i64 0, .int .i64 0, .int .i64 0, .int .u64 0, .int .i64 0, .slice none 0 0, .int .i64 0] 27)
  have hy := Bx.new (w.alloc (.cells #[.int .u64 tk, .int .i64 kind, .int .i64 proc, .int .i64 a, .int .i64 b, .int .u64 val, .int .i64 st, .slice A xs.length c, .int .i64 slot] 27)) 27 #[.int .u64 0, .int .i64 0, .int .i64 0, .int .i64 0, .int .i64 0, .int .u64 0, .int .i64 0, .slice none 0 0, .int .i64 0]
  rw [World.size_alloc] at hy
  have hw := below_step (al w (.cells #[.int .u64 tk, .int .i64 kind, .int .i64 proc, .int .i64 a, .int .i64 b, .int .u64 val, .int .i64 st, .slice A xs.length c, .int .i64 slot] 27)) (al _ (.cells #[.int .u64 0, .int .i64 0, .int .i64 0, .int .i64 0, .int .i64 0, .int .u64 0, .int .i64 0, .slice none 0 0, .int .i64 0] 27))
  have hg := ha.below hw
  have Hc := Lib.hid (fun W (hW : GI W A c xs) => Check_any tk kind proc a b val st A c xs slot W hW)
  have HW := Lib.hid hwt
  clear ha Hc hwt
  go_enter Try.func9, Try.ntmps9
  go_wp2_with (first | (refine wpList_load_row rfl 27 _ rfl (w.heap.size) rfl 27 _ _ _ hx Try.underlying27 rfl req_size ?_))
  refine (HW.out _ hg).mono ?_
  rintro e w1 ⟨A', c', rfl, hown, hb1⟩
  have hy1 := hy.below hb1
  have hw1 := below_step hw hb1
  have hlt := hy1.lt
  simp only [World.size_alloc] at hown
  clear hx hy hb1 hw hg
  go_wp2_with (first | (refine wpList_store_row rfl 27 _ _ rfl (w.heap.size + 1) _ rfl rfl 27 _ hy1 req_size rfl (by simp [Value.oneCell']) ?_))
  refine bodyPost_ret (res_cell (v := .int .i64 t8) rfl rfl rfl (hy1.row _) rfl) rfl ⟨A', c', rfl, (hown.rowLow (by omega) _).mono (by omega), ?_⟩
  exact below_setRow hw1 (by omega) _
theorem Claim_bad (tk kind proc a b val st : Int) (A : Option Addr) (c : Nat) (xs : List Int) (slot : Int) (sl : Int) (w : World) (ha : GI w A c xs) (he : waitE tk kind proc a b val st xs slot sl 3 ≠ 0) :
    Calls Try.prog 9 #[.agg #[.int .u64 tk, .int .i64 kind, .int .i64 proc, .int .i64 a, .int .i64 b, .int .u64 val, .int .i64 st, .slice A xs.length c, .int .i64 slot], .int .i64 sl] w (RetR w 0 0 0 0 0 0 0 [] 0 (waitE tk kind proc a b val st xs slot sl 3)) :=
  Claim_of tk kind proc a b val st A c xs slot sl w ha _ _ _ _ _ _ _ _ _ _ fun W hW => wait_bad tk kind proc a b val st A c xs slot sl 3 W hW he
theorem Claim_ok (tk kind proc a b val st : Int) (A : Option Addr) (c : Nat) (xs : List Int) (slot : Int) (sl : Int) (w : World) (ha : GI w A c xs) (he : waitE tk kind proc a b val st xs slot sl 3 = 0) :
    Calls Try.prog 9 #[.agg #[.int .u64 tk, .int .i64 kind, .int .i64 proc, .int .i64 a, .int .i64 b, .int .u64 val, .int .i64 st, .slice A xs.length c, .int .i64 slot], .int .i64 sl] w (RetR w tk kind proc a b val 3 xs sl 0) :=
  Claim_of tk kind proc a b val st A c xs slot sl w ha _ _ _ _ _ _ _ _ _ _ fun W hW => wait_ok tk kind proc a b val st A c xs slot sl 3 W hW he

set_option maxHeartbeats 1000000 in
theorem Read_of (tk kind proc a b val st : Int) (A : Option Addr) (c : Nat) (xs : List Int) (slot : Int) (sl : Int) (w : World) (ha : GI w A c xs) (t0 t1 t2 t3 t4 t5 t6 : Int) (ys : List Int) (t7 t8 : Int)
    (hwt : ∀ W, GI W A c xs → Calls Try.prog 32 #[.agg #[.int .u64 tk, .int .i64 kind, .int .i64 proc, .int .i64 a, .int .i64 b, .int .u64 val, .int .i64 st, .slice A xs.length c, .int .i64 slot], .int .i64 sl, .int .i64 4] W (RetR W t0 t1 t2 t3 t4 t5 t6 ys t7 t8)) :
    Calls Try.prog 21 #[.agg #[.int .u64 tk, .int .i64 kind, .int .i64 proc, .int .i64 a, .int .i64 b, .int .u64 val, .int .i64 st, .slice A xs.length c, .int .i64 slot], .int .i64 sl] w (RetR w t0 t1 t2 t3 t4 t5 t6 ys t7 t8) := by
  have hx := (Bx.new w 27 #[.int .u64 tk, .int .i64 kind, .int .i64 proc, .int .i64 a, .int .i64 b, .int .u64 val, .int .i64 st, .slice A xs.length c, .int .i64 slot]).alloc (.cells #[.int .u64 0, .int .i64 0, .int .i64 0, .int .i64 0, .int .i64 0, .int .u64 0, .int .i64 0, .slice none 0 0, .int .i64 0] 27)
  have hy := Bx.new (w.alloc (.cells #[.int .u64 tk, .int .i64 kind, .int .i64 proc, .int .i64 a, .int .i64 b, .int .u64 val, .int .i64 st, .slice A xs.length c, .int .i64 slot] 27)) 27 #[.int .u64 0, .int .i64 0, .int .i64 0, .int .i64 0, .int .i64 0, .int .u64 0, .int .i64 0, .slice none 0 0, .int .i64 0]
  rw [World.size_alloc] at hy
  have hw := below_step (al w (.cells #[.int .u64 tk, .int .i64 kind, .int .i64 proc, .int .i64 a, .int .i64 b, .int .u64 val, .int .i64 st, .slice A xs.length c, .int .i64 slot] 27)) (al _ (.cells #[.int .u64 0, .int .i64 0, .int .i64 0, .int .i64 0, .int .i64 0, .int .u64 0, .int .i64 0, .slice none 0 0, .int .i64 0] 27))
  have hg := ha.below hw
  have Hc := Lib.hid (fun W (hW : GI W A c xs) => Check_any tk kind proc a b val st A c xs slot W hW)
  have HW := Lib.hid hwt
  clear ha Hc hwt
  go_enter Try.func21, Try.ntmps21
  go_wp2_with (first | (refine wpList_load_row rfl 27 _ rfl (w.heap.size) rfl 27 _ _ _ hx Try.underlying27 rfl req_size ?_))
  refine (HW.out _ hg).mono ?_
  rintro e w1 ⟨A', c', rfl, hown, hb1⟩
  have hy1 := hy.below hb1
  have hw1 := below_step hw hb1
  have hlt := hy1.lt
  simp only [World.size_alloc] at hown
  clear hx hy hb1 hw hg
  go_wp2_with (first | (refine wpList_store_row rfl 27 _ _ rfl (w.heap.size + 1) _ rfl rfl 27 _ hy1 req_size rfl (by simp [Value.oneCell']) ?_))
  refine bodyPost_ret (res_cell (v := .int .i64 t8) rfl rfl rfl (hy1.row _) rfl) rfl ⟨A', c', rfl, (hown.rowLow (by omega) _).mono (by omega), ?_⟩
  exact below_setRow hw1 (by omega) _
theorem Read_bad (tk kind proc a b val st : Int) (A : Option Addr) (c : Nat) (xs : List Int) (slot : Int) (sl : Int) (w : World) (ha : GI w A c xs) (he : waitE tk kind proc a b val st xs slot sl 4 ≠ 0) :
    Calls Try.prog 21 #[.agg #[.int .u64 tk, .int .i64 kind, .int .i64 proc, .int .i64 a, .int .i64 b, .int .u64 val, .int .i64 st, .slice A xs.length c, .int .i64 slot], .int .i64 sl] w (RetR w 0 0 0 0 0 0 0 [] 0 (waitE tk kind proc a b val st xs slot sl 4)) :=
  Read_of tk kind proc a b val st A c xs slot sl w ha _ _ _ _ _ _ _ _ _ _ fun W hW => wait_bad tk kind proc a b val st A c xs slot sl 4 W hW he
theorem Read_ok (tk kind proc a b val st : Int) (A : Option Addr) (c : Nat) (xs : List Int) (slot : Int) (sl : Int) (w : World) (ha : GI w A c xs) (he : waitE tk kind proc a b val st xs slot sl 4 = 0) :
    Calls Try.prog 21 #[.agg #[.int .u64 tk, .int .i64 kind, .int .i64 proc, .int .i64 a, .int .i64 b, .int .u64 val, .int .i64 st, .slice A xs.length c, .int .i64 slot], .int .i64 sl] w (RetR w tk kind proc a b val 4 xs sl 0) :=
  Read_of tk kind proc a b val st A c xs slot sl w ha _ _ _ _ _ _ _ _ _ _ fun W hW => wait_ok tk kind proc a b val st A c xs slot sl 4 W hW he

end Go.Proofs.Ytbcfnocefjolfaa
