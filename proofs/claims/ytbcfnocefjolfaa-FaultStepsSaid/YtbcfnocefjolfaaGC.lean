/- The reference of fault: waits, Claim, Read, Lose. -/
import Derived.Test.YtbcfnocefjolfaaGB
namespace Go.Proofs.Ytbcfnocefjolfaa
open Go.RowKit
set_option linter.unusedVariables false

theorem st_range {st kind : Int} {n : Nat} (h : stE st kind n = 0) : 1 ≤ st ∧ st ≤ 4 := by
  unfold stE at h
  refine Decidable.byContradiction fun hn => ?_
  rw [if_neg (by omega), if_neg (by omega), if_neg (by omega), if_neg (by omega)] at h
  omega
theorem fr_no {x : Int} (h : ¬ frB x = true) : decide (x < 0) = true ∨ (decide (x < 0) = false ∧ decide (256 ≤ x) = true) := by
  unfold frB at h
  simp at h ⊢
  omega
theorem fr_yes {x : Int} (h : frB x = true) : decide (x < 0) = false ∧ decide (256 ≤ x) = false := by
  unfold frB at h
  simp at h ⊢
  omega
theorem sable {kind st stt least : Int} (h1 : 1 ≤ st) (hle : (least = 1 ∧ stt = 3) ∨ (least = 2 ∧ stt = 4)) :
    (ableB kind st stt = true → accB kind = true ∧ decide (st < least) = false ∧ decide (2 < st) = false) ∧
    (¬ ableB kind st stt = true → accB kind = false ∨ (accB kind = true ∧ (decide (st < least) = true ∨ (decide (st < least) = false ∧ decide (2 < st) = true)))) := by
  unfold ableB
  cases accB kind
  · simp
  · rcases hle with ⟨rfl, rfl⟩ | ⟨rfl, rfl⟩ <;> simp <;> omega

set_option maxHeartbeats 2000000 in
theorem sWaits_bad (tk kind proc a b val st : Int) (A : Option Addr) (c : Nat) (xs : List Int) (slot : Int) (sl least stt : Int) (hle : (least = 1 ∧ stt = 3) ∨ (least = 2 ∧ stt = 4)) (w : World) (ha : GI w A c xs) (he : waitE tk kind proc a b val st xs slot sl stt ≠ 0) :
    Calls Try.prog 47 #[.agg #[.int .u64 tk, .int .i64 kind, .int .i64 proc, .int .i64 a, .int .i64 b, .int .u64 val, .int .i64 st, .slice A xs.length c, .int .i64 slot], .int .i64 sl, .int .i64 least, .int .i64 stt] w (RetR w 0 0 0 0 0 0 0 [] 0 (waitE tk kind proc a b val st xs slot sl stt)) := by
  have hx := (Bx.new w 27 #[.int .u64 tk, .int .i64 kind, .int .i64 proc, .int .i64 a, .int .i64 b, .int .u64 val, .int .i64 st, .slice A xs.length c, .int .i64 slot]).alloc (.cells #[.int .u64 0, .int .i64 0, .int .i64 0, .int .i64 0, .int .i64 0, .int .u64 0, .int .i64 0, .slice none 0 0, .int .i64 0] 27)
  have hy := Bx.new (w.alloc (.cells #[.int .u64 tk, .int .i64 kind, .int .i64 proc, .int .i64 a, .int .i64 b, .int .u64 val, .int .i64 st, .slice A xs.length c, .int .i64 slot] 27)) 27 #[.int .u64 0, .int .i64 0, .int .i64 0, .int .i64 0, .int .i64 0, .int .u64 0, .int .i64 0, .slice none 0 0, .int .i64 0]
  rw [World.size_alloc] at hy
  have hw := below_step (al w (.cells #[.int .u64 tk, .int .i64 kind, .int .i64 proc, .int .i64 a, .int .i64 b, .int .u64 val, .int .i64 st, .slice A xs.length c, .int .i64 slot] 27)) (al _ (.cells #[.int .u64 0, .int .i64 0, .int .i64 0, .int .i64 0, .int .i64 0, .int .u64 0, .int .i64 0, .slice none 0 0, .int .i64 0] 27))
  have hg := ha.below hw
  have Hc := Lib.hid (fun W (hW : GI W A c xs) => sCheck_any tk kind proc a b val st A c xs slot W hW)
  clear ha
  unfold waitE at he ⊢
  by_cases hc : chkE tk kind proc a b val st xs slot = 0
  · rw [if_neg (by simpa using hc)] at he ⊢
    have hst := st_range (chk_parts _ _ _ _ _ _ _ _ _ hc).2.2.1
    have hsa := sable (kind := kind) hst.1 hle
    rw [hc] at Hc
    clear hle hst hc
    by_cases hab : ableB kind st stt = true
    · rw [if_pos hab] at he ⊢
      have hf : ¬ frB sl = true := by
        intro h
        rw [if_pos h] at he; exact absurd rfl he
      rw [if_neg hf]
      obtain ⟨hac, u1, u2⟩ := hsa.1 hab
      have hf2 := fr_no hf
      have HA := Lib.hid hac
      clear he hab hac hf hsa
      rcases hf2 with f1 | ⟨f1, f2⟩
      all_goals
        go_enter Try.func47, Try.ntmps47
        go_wp2_with (first | (refine wpList_load_row rfl 27 _ rfl (w.heap.size) rfl 27 _ _ _ hx Try.underlying27 rfl req_size ?_))
        refine (Hc.out _ hg).mono ?_
        rintro e w1 ⟨rfl, hb1⟩
        have hx1 := hx.below hb1
        have hy1 := hy.below hb1
        have hw1 := below_step hw hb1
        have hg1 := hg.below hb1
        have q6 : w1.cell? ⟨w.heap.size, 6, none⟩ = some (.int .i64 st) := hx1.cell 6
        clear hx hy hb1 hw hg
        go_wp2_with (first | (refine wpList_load_row rfl 27 _ rfl (w.heap.size) rfl 27 _ _ _ hx1 Try.underlying27 rfl req_size ?_) | (go_at_call 53; go_must (refine (sAccess_any tk kind proc a b val st A xs.length c slot _).mono ?_; rintro e w2 ⟨rfl, hb2⟩; rw [HA.out]; have hx2 := hx1.below hb2; have hy2 := hy1.below hb2; have hw2 := below_step hw1 hb2; have hg2 := hg1.below hb2; have p6 : w2.cell? ⟨w.heap.size, 6, none⟩ = some (.int .i64 st) := hx2.cell 6; clear hx1 hy1 hb2 hw1 hg1 q6)) | (refine wpList_store_row rfl 27 _ _ rfl (w.heap.size + 1) _ rfl rfl 27 _ hy2 req_size rfl (rq_one 0 0 0 0 0 0 0 none 0 0 0) ?_))
        refine bodyPost_ret (res_cell (v := .int .i64 2) rfl rfl rfl (hy2.row _) rfl) rfl ⟨none, 0, rfl, OwnI.none _ _, ?_⟩
        exact below_setRow hw2 (by omega) _
    · rw [if_neg hab]
      have hsa := hsa.2 hab
      clear he hab
      rcases hsa with hac | ⟨hac, u1 | ⟨u1, u2⟩⟩
      all_goals
        have HA := Lib.hid hac
        clear hac
        go_enter Try.func47, Try.ntmps47
        go_wp2_with (first | (refine wpList_load_row rfl 27 _ rfl (w.heap.size) rfl 27 _ _ _ hx Try.underlying27 rfl req_size ?_))
        refine (Hc.out _ hg).mono ?_
        rintro e w1 ⟨rfl, hb1⟩
        have hx1 := hx.below hb1
        have hy1 := hy.below hb1
        have hw1 := below_step hw hb1
        have hg1 := hg.below hb1
        have q6 : w1.cell? ⟨w.heap.size, 6, none⟩ = some (.int .i64 st) := hx1.cell 6
        clear hx hy hb1 hw hg
        go_wp2_with (first | (refine wpList_load_row rfl 27 _ rfl (w.heap.size) rfl 27 _ _ _ hx1 Try.underlying27 rfl req_size ?_) | (go_at_call 53; go_must (refine (sAccess_any tk kind proc a b val st A xs.length c slot _).mono ?_; rintro e w2 ⟨rfl, hb2⟩; rw [HA.out]; have hx2 := hx1.below hb2; have hy2 := hy1.below hb2; have hw2 := below_step hw1 hb2; have hg2 := hg1.below hb2; have p6 : w2.cell? ⟨w.heap.size, 6, none⟩ = some (.int .i64 st) := hx2.cell 6; clear hx1 hy1 hb2 hw1 hg1 q6)) | (refine wpList_store_row rfl 27 _ _ rfl (w.heap.size + 1) _ rfl rfl 27 _ hy2 req_size rfl (rq_one 0 0 0 0 0 0 0 none 0 0 0) ?_))
        refine bodyPost_ret (res_cell (v := .int .i64 9) rfl rfl rfl (hy2.row _) rfl) rfl ⟨none, 0, rfl, OwnI.none _ _, ?_⟩
        exact below_setRow hw2 (by omega) _
  · rw [if_pos hc]
    have hc' : (chkE tk kind proc a b val st xs slot != 0) = true := by simp [hc]
    clear hc he hle
    generalize chkE tk kind proc a b val st xs slot = ce at *
    go_enter Try.func47, Try.ntmps47
    go_wp2_with (first | (refine wpList_load_row rfl 27 _ rfl (w.heap.size) rfl 27 _ _ _ hx Try.underlying27 rfl req_size ?_))
    refine (Hc.out _ hg).mono ?_
    rintro e w1 ⟨rfl, hb1⟩
    have hx1 := hx.below hb1
    have hy1 := hy.below hb1
    have hw1 := below_step hw hb1
    have hg1 := hg.below hb1
    have q6 : w1.cell? ⟨w.heap.size, 6, none⟩ = some (.int .i64 st) := hx1.cell 6
    clear hx hy hb1 hw hg
    go_wp2_with (first | (refine wpList_store_row rfl 27 _ _ rfl (w.heap.size + 1) _ rfl rfl 27 _ hy1 req_size rfl (rq_one 0 0 0 0 0 0 0 none 0 0 0) ?_))
    refine bodyPost_ret (res_cell (v := .int .i64 ce) rfl rfl rfl (hy1.row _) rfl) rfl ⟨none, 0, rfl, OwnI.none _ _, ?_⟩
    exact below_setRow hw1 (by omega) _

set_option maxHeartbeats 2000000 in
theorem sWaits_ok (tk kind proc a b val st : Int) (A : Option Addr) (c : Nat) (xs : List Int) (slot : Int) (sl least stt : Int) (hle : (least = 1 ∧ stt = 3) ∨ (least = 2 ∧ stt = 4)) (w : World) (ha : GI w A c xs) (he : waitE tk kind proc a b val st xs slot sl stt = 0) :
    Calls Try.prog 47 #[.agg #[.int .u64 tk, .int .i64 kind, .int .i64 proc, .int .i64 a, .int .i64 b, .int .u64 val, .int .i64 st, .slice A xs.length c, .int .i64 slot], .int .i64 sl, .int .i64 least, .int .i64 stt] w (RetR w tk kind proc a b val stt xs sl 0) := by
  have hx := (Bx.new w 27 #[.int .u64 tk, .int .i64 kind, .int .i64 proc, .int .i64 a, .int .i64 b, .int .u64 val, .int .i64 st, .slice A xs.length c, .int .i64 slot]).alloc (.cells #[.int .u64 0, .int .i64 0, .int .i64 0, .int .i64 0, .int .i64 0, .int .u64 0, .int .i64 0, .slice none 0 0, .int .i64 0] 27)
  have hy := Bx.new (w.alloc (.cells #[.int .u64 tk, .int .i64 kind, .int .i64 proc, .int .i64 a, .int .i64 b, .int .u64 val, .int .i64 st, .slice A xs.length c, .int .i64 slot] 27)) 27 #[.int .u64 0, .int .i64 0, .int .i64 0, .int .i64 0, .int .i64 0, .int .u64 0, .int .i64 0, .slice none 0 0, .int .i64 0]
  rw [World.size_alloc] at hy
  have hw := below_step (al w (.cells #[.int .u64 tk, .int .i64 kind, .int .i64 proc, .int .i64 a, .int .i64 b, .int .u64 val, .int .i64 st, .slice A xs.length c, .int .i64 slot] 27)) (al _ (.cells #[.int .u64 0, .int .i64 0, .int .i64 0, .int .i64 0, .int .i64 0, .int .u64 0, .int .i64 0, .slice none 0 0, .int .i64 0] 27))
  have hg := ha.below hw
  have Hc := Lib.hid (fun W (hW : GI W A c xs) => sCheck_any tk kind proc a b val st A c xs slot W hW)
  unfold waitE at he
  have hc : chkE tk kind proc a b val st xs slot = 0 := by
    refine Decidable.byContradiction fun h => ?_
    rw [if_pos h] at he
    exact h he
  rw [if_neg (by simpa using hc)] at he
  have hab : ableB kind st stt = true := by
    refine Decidable.byContradiction fun h => ?_
    rw [if_neg h] at he
    omega
  rw [if_pos hab] at he
  have hf : frB sl = true := by
    refine Decidable.byContradiction fun h => ?_
    rw [if_neg h] at he
    omega
  have hl := chk_len _ _ _ _ _ _ _ _ _ hc
  have hst := st_range (chk_parts _ _ _ _ _ _ _ _ _ hc).2.2.1
  rw [hc] at Hc
  obtain ⟨hac, u1, u2⟩ := (sable (kind := kind) hst.1 hle).1 hab
  obtain ⟨f1, f2⟩ := fr_yes hf
  have HA := Lib.hid hac
  have HC := Lib.hid (fun W (hW : GI W A c xs) => sOwn_any tk kind proc a b val st A c xs slot W hW (by omega))
  clear hc he hab hac hf ha hle hst
  go_enter Try.func47, Try.ntmps47
  go_wp2_with (first | (refine wpList_load_row rfl 27 _ rfl (w.heap.size) rfl 27 _ _ _ hx Try.underlying27 rfl req_size ?_))
  refine (Hc.out _ hg).mono ?_
  rintro e w1 ⟨rfl, hb1⟩
  have hx1 := hx.below hb1
  have hy1 := hy.below hb1
  have hw1 := below_step hw hb1
  have hg1 := hg.below hb1
  have q6 : w1.cell? ⟨w.heap.size, 6, none⟩ = some (.int .i64 st) := hx1.cell 6
  clear hx hy hb1 hw hg
  go_wp2_with (first | (refine wpList_load_row rfl 27 _ rfl (w.heap.size) rfl 27 _ _ _ hx2 Try.underlying27 rfl req_size ?_) | (refine wpList_load_row rfl 27 _ rfl (w.heap.size) rfl 27 _ _ _ hx1 Try.underlying27 rfl req_size ?_) | (go_at_call 53; go_must (refine (sAccess_any tk kind proc a b val st A xs.length c slot _).mono ?_; rintro e w2 ⟨rfl, hb2⟩; rw [HA.out]; have hx2 := hx1.below hb2; have hy2 := hy1.below hb2; have hw2 := below_step hw1 hb2; have hg2 := hg1.below hb2; have p6 : w2.cell? ⟨w.heap.size, 6, none⟩ = some (.int .i64 st) := hx2.cell 6; clear hx1 hy1 hb2 hw1 hg1 q6)))
  refine (HC.out _ hg2).mono ?_
  rintro e w3 ⟨A', c', rfl, hown, hb3⟩
  have hy3 := hy2.below hb3
  have hw3 := below_step hw2 hb3
  have hlt2 := hy2.lt
  have hlt := hy3.lt
  clear hx2 hy2 hb3 hw2 hg2 p6 HC Hc
  have hn := Bx.new w3 27 #[.int .u64 0, .int .i64 0, .int .i64 0, .int .i64 0, .int .i64 0, .int .u64 0, .int .i64 0, .slice none 0 0, .int .i64 0]
  go_wp2_with (first | (refine wpList_store_row rfl 27 _ _ rfl w3.heap.size _ rfl rfl 27 _ hn req_size rfl (rq_one tk kind proc a b val st A' xs.length c' slot) ?_; rw [World.setRow_alloc_new]) | (refine wpList_store_row rfl 27 _ _ rfl (w.heap.size + 1) _ rfl rfl 27 _ (hy3.alloc _) req_size rfl (by simp [Value.oneCell']) ?_))
  refine bodyPost_ret (res_cell (v := .int .i64 0) rfl rfl rfl ((hy3.alloc _).row _) rfl) rfl ⟨A', c', rfl, ?_, ?_⟩
  · exact ((hown.alloc _).rowLow (by omega) _).mono (by omega)
  · exact below_setRow (below_step hw3 (al _ _)) (by omega) _

set_option maxHeartbeats 1000000 in
theorem sClaim_of (tk kind proc a b val st : Int) (A : Option Addr) (c : Nat) (xs : List Int) (slot : Int) (sl : Int) (w : World) (ha : GI w A c xs) (t0 t1 t2 t3 t4 t5 t6 : Int) (ys : List Int) (t7 t8 : Int)
    (hwt : ∀ W, GI W A c xs → Calls Try.prog 47 #[.agg #[.int .u64 tk, .int .i64 kind, .int .i64 proc, .int .i64 a, .int .i64 b, .int .u64 val, .int .i64 st, .slice A xs.length c, .int .i64 slot], .int .i64 sl, .int .i64 1, .int .i64 3] W (RetR W t0 t1 t2 t3 t4 t5 t6 ys t7 t8)) :
    Calls Try.prog 25 #[.agg #[.int .u64 tk, .int .i64 kind, .int .i64 proc, .int .i64 a, .int .i64 b, .int .u64 val, .int .i64 st, .slice A xs.length c, .int .i64 slot], .int .i64 sl] w (RetR w t0 t1 t2 t3 t4 t5 t6 ys t7 t8) := by
  have hx := (Bx.new w 27 #[.int .u64 tk, .int .i64 kind, .int .i64 proc, .int .i64 a, .int .i64 b, .int .u64 val, .int .i64 st, .slice A xs.length c, .int .i64 slot]).alloc (.cells #[.int .u64 0, .int .i64 0, .int .i64 0, .int .i64 0, .int .i64 0, .int .u64 0, .int .i64 0, .slice none 0 0, .int .i64 0] 27)
  have hy := Bx.new (w.alloc (.cells #[.int .u64 tk, .int .i64 kind, .int .i64 proc, .int .i64 a, .int .i64 b, .int .u64 val, .int .i64 st, .slice A xs.length c, .int .i64 slot] 27)) 27 #[.int .u64 0, .int .i64 0, .int .i64 0, .int .i64 0, .int .i64 0, .int .u64 0, .int .i64 0, .slice none 0 0, .int .i64 0]
  rw [World.size_alloc] at hy
  have hw := below_step (al w (.cells #[.int .u64 tk, .int .i64 kind, .int .i64 proc, .int .i64 a, .int .i64 b, .int .u64 val, .int .i64 st, .slice A xs.length c, .int .i64 slot] 27)) (al _ (.cells #[.int .u64 0, .int .i64 0, .int .i64 0, .int .i64 0, .int .i64 0, .int .u64 0, .int .i64 0, .slice none 0 0, .int .i64 0] 27))
  have hg := ha.below hw
  have Hc := Lib.hid (fun W (hW : GI W A c xs) => sCheck_any tk kind proc a b val st A c xs slot W hW)
  have HW := Lib.hid hwt
  clear ha Hc hwt
  go_enter Try.func25, Try.ntmps25
  go_wp2_with (first | (refine wpList_load_row rfl 27 _ rfl (w.heap.size) rfl 27 _ _ _ hx Try.underlying27 rfl req_size ?_))
  refine (HW.out _ hg).mono ?_
  rintro e w1 ⟨A', c', rfl, hown, hb1⟩
  have hy1 := hy.below hb1
  have hw1 := below_step hw hb1
  have hlt := hy1.lt
  simp only [World.size_alloc] at hown
  clear hx hy hb1 hw hg
  go_wp2_with (first | (refine wpList_store_row rfl 27 _ _ rfl (w.heap.size + 1) _ rfl rfl 27 _ hy1 req_size rfl (by simp [Value.oneCell']) ?_))
  refine bodyPost_ret (res_cell (v := .int .i64 t8) rfl rfl rfl (hy1.row _) rfl) rfl ⟨A', c', rfl, (hown.rowLow (by omega) _).mono (by omega), ?_⟩
  exact below_setRow hw1 (by omega) _
theorem sClaim_bad (tk kind proc a b val st : Int) (A : Option Addr) (c : Nat) (xs : List Int) (slot : Int) (sl : Int) (w : World) (ha : GI w A c xs) (he : waitE tk kind proc a b val st xs slot sl 3 ≠ 0) :
    Calls Try.prog 25 #[.agg #[.int .u64 tk, .int .i64 kind, .int .i64 proc, .int .i64 a, .int .i64 b, .int .u64 val, .int .i64 st, .slice A xs.length c, .int .i64 slot], .int .i64 sl] w (RetR w 0 0 0 0 0 0 0 [] 0 (waitE tk kind proc a b val st xs slot sl 3)) :=
  sClaim_of tk kind proc a b val st A c xs slot sl w ha _ _ _ _ _ _ _ _ _ _ fun W hW => sWaits_bad tk kind proc a b val st A c xs slot sl 1 3 (by omega) W hW he
theorem sClaim_ok (tk kind proc a b val st : Int) (A : Option Addr) (c : Nat) (xs : List Int) (slot : Int) (sl : Int) (w : World) (ha : GI w A c xs) (he : waitE tk kind proc a b val st xs slot sl 3 = 0) :
    Calls Try.prog 25 #[.agg #[.int .u64 tk, .int .i64 kind, .int .i64 proc, .int .i64 a, .int .i64 b, .int .u64 val, .int .i64 st, .slice A xs.length c, .int .i64 slot], .int .i64 sl] w (RetR w tk kind proc a b val 3 xs sl 0) :=
  sClaim_of tk kind proc a b val st A c xs slot sl w ha _ _ _ _ _ _ _ _ _ _ fun W hW => sWaits_ok tk kind proc a b val st A c xs slot sl 1 3 (by omega) W hW he

set_option maxHeartbeats 1000000 in
theorem sRead_of (tk kind proc a b val st : Int) (A : Option Addr) (c : Nat) (xs : List Int) (slot : Int) (sl : Int) (w : World) (ha : GI w A c xs) (t0 t1 t2 t3 t4 t5 t6 : Int) (ys : List Int) (t7 t8 : Int)
    (hwt : ∀ W, GI W A c xs → Calls Try.prog 47 #[.agg #[.int .u64 tk, .int .i64 kind, .int .i64 proc, .int .i64 a, .int .i64 b, .int .u64 val, .int .i64 st, .slice A xs.length c, .int .i64 slot], .int .i64 sl, .int .i64 2, .int .i64 4] W (RetR W t0 t1 t2 t3 t4 t5 t6 ys t7 t8)) :
    Calls Try.prog 26 #[.agg #[.int .u64 tk, .int .i64 kind, .int .i64 proc, .int .i64 a, .int .i64 b, .int .u64 val, .int .i64 st, .slice A xs.length c, .int .i64 slot], .int .i64 sl] w (RetR w t0 t1 t2 t3 t4 t5 t6 ys t7 t8) := by
  have hx := (Bx.new w 27 #[.int .u64 tk, .int .i64 kind, .int .i64 proc, .int .i64 a, .int .i64 b, .int .u64 val, .int .i64 st, .slice A xs.length c, .int .i64 slot]).alloc (.cells #[.int .u64 0, .int .i64 0, .int .i64 0, .int .i64 0, .int .i64 0, .int .u64 0, .int .i64 0, .slice none 0 0, .int .i64 0] 27)
  have hy := Bx.new (w.alloc (.cells #[.int .u64 tk, .int .i64 kind, .int .i64 proc, .int .i64 a, .int .i64 b, .int .u64 val, .int .i64 st, .slice A xs.length c, .int .i64 slot] 27)) 27 #[.int .u64 0, .int .i64 0, .int .i64 0, .int .i64 0, .int .i64 0, .int .u64 0, .int .i64 0, .slice none 0 0, .int .i64 0]
  rw [World.size_alloc] at hy
  have hw := below_step (al w (.cells #[.int .u64 tk, .int .i64 kind, .int .i64 proc, .int .i64 a, .int .i64 b, .int .u64 val, .int .i64 st, .slice A xs.length c, .int .i64 slot] 27)) (al _ (.cells #[.int .u64 0, .int .i64 0, .int .i64 0, .int .i64 0, .int .i64 0, .int .u64 0, .int .i64 0, .slice none 0 0, .int .i64 0] 27))
  have hg := ha.below hw
  have Hc := Lib.hid (fun W (hW : GI W A c xs) => sCheck_any tk kind proc a b val st A c xs slot W hW)
  have HW := Lib.hid hwt
  clear ha Hc hwt
  go_enter Try.func26, Try.ntmps26
  go_wp2_with (first | (refine wpList_load_row rfl 27 _ rfl (w.heap.size) rfl 27 _ _ _ hx Try.underlying27 rfl req_size ?_))
  refine (HW.out _ hg).mono ?_
  rintro e w1 ⟨A', c', rfl, hown, hb1⟩
  have hy1 := hy.below hb1
  have hw1 := below_step hw hb1
  have hlt := hy1.lt
  simp only [World.size_alloc] at hown
  clear hx hy hb1 hw hg
  go_wp2_with (first | (refine wpList_store_row rfl 27 _ _ rfl (w.heap.size + 1) _ rfl rfl 27 _ hy1 req_size rfl (by simp [Value.oneCell']) ?_))
  refine bodyPost_ret (res_cell (v := .int .i64 t8) rfl rfl rfl (hy1.row _) rfl) rfl ⟨A', c', rfl, (hown.rowLow (by omega) _).mono (by omega), ?_⟩
  exact below_setRow hw1 (by omega) _
theorem sRead_bad (tk kind proc a b val st : Int) (A : Option Addr) (c : Nat) (xs : List Int) (slot : Int) (sl : Int) (w : World) (ha : GI w A c xs) (he : waitE tk kind proc a b val st xs slot sl 4 ≠ 0) :
    Calls Try.prog 26 #[.agg #[.int .u64 tk, .int .i64 kind, .int .i64 proc, .int .i64 a, .int .i64 b, .int .u64 val, .int .i64 st, .slice A xs.length c, .int .i64 slot], .int .i64 sl] w (RetR w 0 0 0 0 0 0 0 [] 0 (waitE tk kind proc a b val st xs slot sl 4)) :=
  sRead_of tk kind proc a b val st A c xs slot sl w ha _ _ _ _ _ _ _ _ _ _ fun W hW => sWaits_bad tk kind proc a b val st A c xs slot sl 2 4 (by omega) W hW he
theorem sRead_ok (tk kind proc a b val st : Int) (A : Option Addr) (c : Nat) (xs : List Int) (slot : Int) (sl : Int) (w : World) (ha : GI w A c xs) (he : waitE tk kind proc a b val st xs slot sl 4 = 0) :
    Calls Try.prog 26 #[.agg #[.int .u64 tk, .int .i64 kind, .int .i64 proc, .int .i64 a, .int .i64 b, .int .u64 val, .int .i64 st, .slice A xs.length c, .int .i64 slot], .int .i64 sl] w (RetR w tk kind proc a b val 4 xs sl 0) :=
  sRead_of tk kind proc a b val st A c xs slot sl w ha _ _ _ _ _ _ _ _ _ _ fun W hW => sWaits_ok tk kind proc a b val st A c xs slot sl 2 4 (by omega) W hW he

set_option maxHeartbeats 1000000 in
theorem sLose_bad (tk kind proc a b val st : Int) (A : Option Addr) (c : Nat) (xs : List Int) (slot : Int) (w : World) (ha : GI w A c xs) (he : loseE tk kind proc a b val st xs slot ≠ 0) :
    Calls Try.prog 27 #[.agg #[.int .u64 tk, .int .i64 kind, .int .i64 proc, .int .i64 a, .int .i64 b, .int .u64 val, .int .i64 st, .slice A xs.length c, .int .i64 slot]] w (RetR w 0 0 0 0 0 0 0 [] 0 (loseE tk kind proc a b val st xs slot)) := by
  have hx := (Bx.new w 27 #[.int .u64 tk, .int .i64 kind, .int .i64 proc, .int .i64 a, .int .i64 b, .int .u64 val, .int .i64 st, .slice A xs.length c, .int .i64 slot]).alloc (.cells #[.int .u64 0, .int .i64 0, .int .i64 0, .int .i64 0, .int .i64 0, .int .u64 0, .int .i64 0, .slice none 0 0, .int .i64 0] 27)
  have hy := Bx.new (w.alloc (.cells #[.int .u64 tk, .int .i64 kind, .int .i64 proc, .int .i64 a, .int .i64 b, .int .u64 val, .int .i64 st, .slice A xs.length c, .int .i64 slot] 27)) 27 #[.int .u64 0, .int .i64 0, .int .i64 0, .int .i64 0, .int .i64 0, .int .u64 0, .int .i64 0, .slice none 0 0, .int .i64 0]
  rw [World.size_alloc] at hy
  have hw := below_step (al w (.cells #[.int .u64 tk, .int .i64 kind, .int .i64 proc, .int .i64 a, .int .i64 b, .int .u64 val, .int .i64 st, .slice A xs.length c, .int .i64 slot] 27)) (al _ (.cells #[.int .u64 0, .int .i64 0, .int .i64 0, .int .i64 0, .int .i64 0, .int .u64 0, .int .i64 0, .slice none 0 0, .int .i64 0] 27))
  have hg := ha.below hw
  have Hc := Lib.hid (fun W (hW : GI W A c xs) => sCheck_any tk kind proc a b val st A c xs slot W hW)
  clear ha
  unfold loseE at he ⊢
  by_cases hc : chkE tk kind proc a b val st xs slot = 0
  · rw [if_neg (by simpa using hc)] at he ⊢
    have hs : st ≠ 3 := by intro h; rw [if_neg (by simpa using h)] at he; exact he rfl
    rw [if_pos hs]
    have hs' : (st != 3) = true := by simp [hs]
    rw [hc] at Hc
    clear hc he hs
    go_enter Try.func27, Try.ntmps27
    go_wp2_with (first | (refine wpList_load_row rfl 27 _ rfl (w.heap.size) rfl 27 _ _ _ hx Try.underlying27 rfl req_size ?_))
    refine (Hc.out _ hg).mono ?_
    rintro e w1 ⟨rfl, hb1⟩
    have hx1 := hx.below hb1
    have hy1 := hy.below hb1
    have hw1 := below_step hw hb1
    have hg1 := hg.below hb1
    have q6 : w1.cell? ⟨w.heap.size, 6, none⟩ = some (.int .i64 st) := hx1.cell 6
    clear hx hy hb1 hw hg
    go_wp2_with (first | (refine wpList_store_row rfl 27 _ _ rfl (w.heap.size + 1) _ rfl rfl 27 _ hy1 req_size rfl (rq_one 0 0 0 0 0 0 0 none 0 0 0) ?_))
    refine bodyPost_ret (res_cell (v := .int .i64 9) rfl rfl rfl (hy1.row _) rfl) rfl ⟨none, 0, rfl, OwnI.none _ _, ?_⟩
    exact below_setRow hw1 (by omega) _
  · rw [if_pos hc]
    have hc' : (chkE tk kind proc a b val st xs slot != 0) = true := by simp [hc]
    clear hc he
    generalize chkE tk kind proc a b val st xs slot = ce at *
    go_enter Try.func27, Try.ntmps27
    go_wp2_with (first | (refine wpList_load_row rfl 27 _ rfl (w.heap.size) rfl 27 _ _ _ hx Try.underlying27 rfl req_size ?_))
    refine (Hc.out _ hg).mono ?_
    rintro e w1 ⟨rfl, hb1⟩
    have hx1 := hx.below hb1
    have hy1 := hy.below hb1
    have hw1 := below_step hw hb1
    have hg1 := hg.below hb1
    have q6 : w1.cell? ⟨w.heap.size, 6, none⟩ = some (.int .i64 st) := hx1.cell 6
    clear hx hy hb1 hw hg
    go_wp2_with (first | (refine wpList_store_row rfl 27 _ _ rfl (w.heap.size + 1) _ rfl rfl 27 _ hy1 req_size rfl (rq_one 0 0 0 0 0 0 0 none 0 0 0) ?_))
    refine bodyPost_ret (res_cell (v := .int .i64 ce) rfl rfl rfl (hy1.row _) rfl) rfl ⟨none, 0, rfl, OwnI.none _ _, ?_⟩
    exact below_setRow hw1 (by omega) _

set_option maxHeartbeats 1000000 in
theorem sLose_ok (tk kind proc a b val st : Int) (A : Option Addr) (c : Nat) (xs : List Int) (slot : Int) (w : World) (ha : GI w A c xs) (he : loseE tk kind proc a b val st xs slot = 0) :
    Calls Try.prog 27 #[.agg #[.int .u64 tk, .int .i64 kind, .int .i64 proc, .int .i64 a, .int .i64 b, .int .u64 val, .int .i64 st, .slice A xs.length c, .int .i64 slot]] w (RetR w tk kind proc a b val (loseS xs.length) xs 0 0) := by
  have hx := (Bx.new w 27 #[.int .u64 tk, .int .i64 kind, .int .i64 proc, .int .i64 a, .int .i64 b, .int .u64 val, .int .i64 st, .slice A xs.length c, .int .i64 slot]).alloc (.cells #[.int .u64 0, .int .i64 0, .int .i64 0, .int .i64 0, .int .i64 0, .int .u64 0, .int .i64 0, .slice none 0 0, .int .i64 0] 27)
  have hy := Bx.new (w.alloc (.cells #[.int .u64 tk, .int .i64 kind, .int .i64 proc, .int .i64 a, .int .i64 b, .int .u64 val, .int .i64 st, .slice A xs.length c, .int .i64 slot] 27)) 27 #[.int .u64 0, .int .i64 0, .int .i64 0, .int .i64 0, .int .i64 0, .int .u64 0, .int .i64 0, .slice none 0 0, .int .i64 0]
  rw [World.size_alloc] at hy
  have hw := below_step (al w (.cells #[.int .u64 tk, .int .i64 kind, .int .i64 proc, .int .i64 a, .int .i64 b, .int .u64 val, .int .i64 st, .slice A xs.length c, .int .i64 slot] 27)) (al _ (.cells #[.int .u64 0, .int .i64 0, .int .i64 0, .int .i64 0, .int .i64 0, .int .u64 0, .int .i64 0, .slice none 0 0, .int .i64 0] 27))
  have hg := ha.below hw
  have Hc := Lib.hid (fun W (hW : GI W A c xs) => sCheck_any tk kind proc a b val st A c xs slot W hW)
  unfold loseE at he
  have hc : chkE tk kind proc a b val st xs slot = 0 := by
    refine Decidable.byContradiction fun h => ?_
    rw [if_pos h] at he
    exact h he
  rw [if_neg (by simpa using hc)] at he
  have hs : st = 3 := by
    refine Decidable.byContradiction fun h => ?_
    rw [if_pos h] at he
    omega
  have hl := chk_len _ _ _ _ _ _ _ _ _ hc
  rw [hc] at Hc
  have hs' : (st != 3) = false := by simp [hs]
  have HC := Lib.hid (fun W (hW : GI W A c xs) => sOwn_any tk kind proc a b val st A c xs slot W hW (by omega))
  clear hc hs he
  go_enter Try.func27, Try.ntmps27
  go_wp2_with (first | (refine wpList_load_row rfl 27 _ rfl (w.heap.size) rfl 27 _ _ _ hx Try.underlying27 rfl req_size ?_))
  refine (Hc.out _ hg).mono ?_
  rintro e w1 ⟨rfl, hb1⟩
  have hx1 := hx.below hb1
  have hy1 := hy.below hb1
  have hw1 := below_step hw hb1
  have hg1 := hg.below hb1
  have q6 : w1.cell? ⟨w.heap.size, 6, none⟩ = some (.int .i64 st) := hx1.cell 6
  clear hx hy hb1 hw hg
  go_wp2_with (first | (refine wpList_load_row rfl 27 _ rfl (w.heap.size) rfl 27 _ _ _ hx1 Try.underlying27 rfl req_size ?_))
  refine (HC.out _ hg1).mono ?_
  rintro e w2 ⟨A', c', rfl, hown, hb2⟩
  have hy2 := hy1.below hb2
  have hw2 := below_step hw1 hb2
  have hlt1 := hy1.lt
  have hlt := hy2.lt
  clear hx1 hy1 hb2 hw1 hg1 q6 Hc HC
  have hn := Bx.new w2 27 #[.int .u64 0, .int .i64 0, .int .i64 0, .int .i64 0, .int .i64 0, .int .u64 0, .int .i64 0, .slice none 0 0, .int .i64 0]
  by_cases hn0 : 0 < xs.length
  · have E := Lib.hid (show loseS xs.length = 2 from if_pos hn0)
    go_wp2_with (first | (refine wpList_store_row rfl 27 _ _ rfl w2.heap.size _ rfl rfl 27 _ hn req_size rfl (rq_one tk kind proc a b val st A' xs.length c' slot) ?_; rw [World.setRow_alloc_new]) | (refine wpList_store_row rfl 27 _ _ rfl (w.heap.size + 1) _ rfl rfl 27 _ (hy2.alloc _) req_size rfl (by simp [Value.oneCell']) ?_))
    refine bodyPost_ret (res_cell (v := .int .i64 0) rfl rfl rfl ((hy2.alloc _).row _) rfl) rfl ⟨A', c', by rw [E.out], ?_, ?_⟩
    · exact ((hown.alloc _).rowLow (by omega) _).mono (by omega)
    · exact below_setRow (below_step hw2 (al _ _)) (by omega) _
  · have E := Lib.hid (show loseS xs.length = 1 from if_neg hn0)
    go_wp2_with (first | (refine wpList_store_row rfl 27 _ _ rfl w2.heap.size _ rfl rfl 27 _ hn req_size rfl (rq_one tk kind proc a b val st A' xs.length c' slot) ?_; rw [World.setRow_alloc_new]) | (refine wpList_store_row rfl 27 _ _ rfl (w.heap.size + 1) _ rfl rfl 27 _ (hy2.alloc _) req_size rfl (by simp [Value.oneCell']) ?_))
    refine bodyPost_ret (res_cell (v := .int .i64 0) rfl rfl rfl ((hy2.alloc _).row _) rfl) rfl ⟨A', c', by rw [E.out], ?_, ?_⟩
    · exact ((hown.alloc _).rowLow (by omega) _).mono (by omega)
    · exact below_setRow (below_step hw2 (al _ _)) (by omega) _

end Go.Proofs.Ytbcfnocefjolfaa
