/- Package fault: Give. -/
import Derived.Test.YtbcfnocefjolfaaG1
namespace Go.Proofs.Ytbcfnocefjolfaa
open Go.RowKit

/-- The error of Give. -/
def giveE (tk kind proc a b val st : Int) (xs : List Int) (slot fr : Int) : Int :=
  if chkE tk kind proc a b val st xs slot ≠ 0 then chkE tk kind proc a b val st xs slot
  else if st = 3 ∨ st = 4 then 9 else if mostN kind ≤ xs.length then 5 else if frB fr = true then (if xs.contains fr = true then 7 else 0) else 2

set_option maxHeartbeats 2000000 in
theorem Give_bad (tk kind proc a b val st : Int) (A : Option Addr) (c : Nat) (xs : List Int) (slot : Int) (fr : Int) (w : World) (ha : GI w A c xs) (he : giveE tk kind proc a b val st xs slot fr ≠ 0) :
    Calls Try.prog 20 #[.agg #[.int .u64 tk, .int .i64 kind, .int .i64 proc, .int .i64 a, .int .i64 b, .int .u64 val, .int .i64 st, .slice A xs.length c, .int .i64 slot], .int .i64 fr] w (RetR w 0 0 0 0 0 0 0 [] 0 (giveE tk kind proc a b val st xs slot fr)) := by
  have hx := (Bx.new w 27 #[.int .u64 tk, .int .i64 kind, .int .i64 proc, .int .i64 a, .int .i64 b, .int .u64 val, .int .i64 st, .slice A xs.length c, .int .i64 slot]).alloc (.cells #[.int .u64 0, .int .i64 0, .int .i64 0, .int .i64 0, .int .i64 0, .int .u64 0, .int .i64 0, .slice none 0 0, .int .i64 0] 27)
  have hy := Bx.new (w.alloc (.cells #[.int .u64 tk, .int .i64 kind, .int .i64 proc, .int .i64 a, .int .i64 b, .int .u64 val, .int .i64 st, .slice A xs.length c, .int .i64 slot] 27)) 27 #[.int .u64 0, .int .i64 0, .int .i64 0, .int .i64 0, .int .i64 0, .int .u64 0, .int .i64 0, .slice none 0 0, .int .i64 0]
  rw [World.size_alloc] at hy
  have hw := below_step (al w (.cells #[.int .u64 tk, .int .i64 kind, .int .i64 proc, .int .i64 a, .int .i64 b, .int .u64 val, .int .i64 st, .slice A xs.length c, .int .i64 slot] 27)) (al _ (.cells #[.int .u64 0, .int .i64 0, .int .i64 0, .int .i64 0, .int .i64 0, .int .u64 0, .int .i64 0, .slice none 0 0, .int .i64 0] 27))
  have hg := ha.below hw
  have Hc := Lib.hid (fun W (hW : GI W A c xs) => Check_any tk kind proc a b val st A c xs slot W hW)
  clear ha
  unfold giveE at he ⊢
  by_cases hc : chkE tk kind proc a b val st xs slot = 0
  · rw [if_neg (by simpa using hc)] at he ⊢
    rw [hc] at Hc
    clear hc
    by_cases hs : st = 3 ∨ st = 4
    · rw [if_pos hs]
      clear he
      have hs2 : (st == 3) = true ∨ ((st == 3) = false ∧ (st == 4) = true) := by
        rcases hs with h | h
        · exact .inl (by simp [h])
        · exact .inr (by simp [h])
      clear hs
      rcases hs2 with h3 | ⟨h3, h4⟩
      all_goals
        go_enter Try.func20, Try.ntmps20
        go_wp2_with (first | (refine wpList_load_row rfl 27 _ rfl (w.heap.size) rfl 27 _ _ _ hx Try.underlying27 rfl req_size ?_))
        refine (Hc.out _ hg).mono ?_
        rintro e w1 ⟨rfl, hb1⟩
        have hx1 := hx.below hb1
        have hy1 := hy.below hb1
        have hw1 := below_step hw hb1
        have hg1 := hg.below hb1
        have hltx := hx1.lt
        have q0 : w1.cell? ⟨w.heap.size, 0, none⟩ = some (.int .u64 tk) := hx1.cell 0
        have q1 : w1.cell? ⟨w.heap.size, 1, none⟩ = some (.int .i64 kind) := hx1.cell 1
        have q2 : w1.cell? ⟨w.heap.size, 2, none⟩ = some (.int .i64 proc) := hx1.cell 2
        have q3 : w1.cell? ⟨w.heap.size, 3, none⟩ = some (.int .i64 a) := hx1.cell 3
        have q4 : w1.cell? ⟨w.heap.size, 4, none⟩ = some (.int .i64 b) := hx1.cell 4
        have q5 : w1.cell? ⟨w.heap.size, 5, none⟩ = some (.int .u64 val) := hx1.cell 5
        have q6 : w1.cell? ⟨w.heap.size, 6, none⟩ = some (.int .i64 st) := hx1.cell 6
        have q7 : w1.cell? ⟨w.heap.size, 7, none⟩ = some (.slice A xs.length c) := hx1.cell 7
        have q8 : w1.cell? ⟨w.heap.size, 8, none⟩ = some (.int .i64 slot) := hx1.cell 8
        clear hx hy hb1 hw hg
        go_wp2_with (first | (refine wpList_store_row rfl 27 _ _ rfl (w.heap.size + 1) _ rfl rfl 27 _ hy1 req_size rfl (rq_one 0 0 0 0 0 0 0 none 0 0 0) ?_))
        refine bodyPost_ret (res_cell (v := .int .i64 9) rfl rfl rfl (hy1.row _) rfl) rfl ⟨none, 0, rfl, OwnI.none _ _, ?_⟩
        exact below_setRow hw1 (by omega) _
    · rw [if_neg hs] at he ⊢
      have h3 : (st == 3) = false := by simp; omega
      have h4 : (st == 4) = false := by simp; omega
      clear hs
      have hl : xs.length ≤ 9223372036854775807 := hg.len
      obtain ⟨mo, hmo⟩ : ∃ mo, mostN kind = mo := ⟨_, rfl⟩
      rw [hmo] at he ⊢
      have Hm := Lib.hid hmo
      clear hmo
      by_cases hm : mo ≤ xs.length
      · rw [if_pos hm]
        clear he
        go_enter Try.func20, Try.ntmps20
        go_wp2_with (first | (refine wpList_load_row rfl 27 _ rfl (w.heap.size) rfl 27 _ _ _ hx Try.underlying27 rfl req_size ?_))
        refine (Hc.out _ hg).mono ?_
        rintro e w1 ⟨rfl, hb1⟩
        have hx1 := hx.below hb1
        have hy1 := hy.below hb1
        have hw1 := below_step hw hb1
        have hg1 := hg.below hb1
        have hltx := hx1.lt
        have q0 : w1.cell? ⟨w.heap.size, 0, none⟩ = some (.int .u64 tk) := hx1.cell 0
        have q1 : w1.cell? ⟨w.heap.size, 1, none⟩ = some (.int .i64 kind) := hx1.cell 1
        have q2 : w1.cell? ⟨w.heap.size, 2, none⟩ = some (.int .i64 proc) := hx1.cell 2
        have q3 : w1.cell? ⟨w.heap.size, 3, none⟩ = some (.int .i64 a) := hx1.cell 3
        have q4 : w1.cell? ⟨w.heap.size, 4, none⟩ = some (.int .i64 b) := hx1.cell 4
        have q5 : w1.cell? ⟨w.heap.size, 5, none⟩ = some (.int .u64 val) := hx1.cell 5
        have q6 : w1.cell? ⟨w.heap.size, 6, none⟩ = some (.int .i64 st) := hx1.cell 6
        have q7 : w1.cell? ⟨w.heap.size, 7, none⟩ = some (.slice A xs.length c) := hx1.cell 7
        have q8 : w1.cell? ⟨w.heap.size, 8, none⟩ = some (.int .i64 slot) := hx1.cell 8
        clear hx hy hb1 hw hg
        go_wp2_with fail
        go_region_held3 (fun w' => w'.cell? ⟨w.heap.size, 0, none⟩ = some (.int .u64 tk) ∧ w'.cell? ⟨w.heap.size, 1, none⟩ = some (.int .i64 kind) ∧ w'.cell? ⟨w.heap.size, 2, none⟩ = some (.int .i64 proc) ∧ w'.cell? ⟨w.heap.size, 3, none⟩ = some (.int .i64 a) ∧ w'.cell? ⟨w.heap.size, 4, none⟩ = some (.int .i64 b) ∧ w'.cell? ⟨w.heap.size, 5, none⟩ = some (.int .u64 val) ∧ w'.cell? ⟨w.heap.size, 6, none⟩ = some (.int .i64 st) ∧ w'.cell? ⟨w.heap.size, 7, none⟩ = some (.slice A xs.length c) ∧ w'.cell? ⟨w.heap.size, 8, none⟩ = some (.int .i64 slot)) (first | go_keep | (exact ⟨(hb2.cell (p := ⟨w.heap.size, 0, none⟩) (by exact hltx)).trans q0, (hb2.cell (p := ⟨w.heap.size, 1, none⟩) (by exact hltx)).trans q1, (hb2.cell (p := ⟨w.heap.size, 2, none⟩) (by exact hltx)).trans q2, (hb2.cell (p := ⟨w.heap.size, 3, none⟩) (by exact hltx)).trans q3, (hb2.cell (p := ⟨w.heap.size, 4, none⟩) (by exact hltx)).trans q4, (hb2.cell (p := ⟨w.heap.size, 5, none⟩) (by exact hltx)).trans q5, (hb2.cell (p := ⟨w.heap.size, 6, none⟩) (by exact hltx)).trans q6, (hb2.cell (p := ⟨w.heap.size, 7, none⟩) (by exact hltx)).trans q7, (hb2.cell (p := ⟨w.heap.size, 8, none⟩) (by exact hltx)).trans q8⟩)) (first | (go_at_call 37; refine (most_any tk kind proc a b val st A xs.length c slot _).mono ?_; rintro e w2 ⟨rfl, hb2⟩))
        have hx2 := hx1.below (undrew hb2)
        have hy2 := hy1.below (undrew hb2)
        have hw2 := below_step hw1 (undrew hb2)
        have hg2 := hg1.below (undrew hb2)
        have p7 : w2.cell? ⟨w.heap.size, 7, none⟩ = some (.slice A xs.length c) := hx2.cell 7
        clear hx1 hy1 hb2 hw1 hg1 hltx q0 q1 q2 q3 q4 q5 q6 q7 q8
        rw [Hm.out]
        go_wp2_with (first | (refine wpList_store_row rfl 27 _ _ rfl (w.heap.size + 1) _ rfl rfl 27 _ hy2 req_size rfl (rq_one 0 0 0 0 0 0 0 none 0 0 0) ?_))
        refine bodyPost_ret (res_cell (v := .int .i64 5) rfl rfl rfl (hy2.row _) rfl) rfl ⟨none, 0, rfl, OwnI.none _ _, ?_⟩
        exact below_setRow hw2 (by omega) _
      · rw [if_neg hm] at he ⊢
        have hm' : (xs.length : Int) < mo := by omega
        clear hm
        by_cases hf : frB fr = true
        · rw [if_pos hf] at he ⊢
          have hcx : xs.contains fr = true := by
            refine Decidable.byContradiction fun h => ?_
            rw [if_neg h] at he
            exact he rfl
          rw [if_pos hcx]
          have HF := Lib.hid hf
          have HX := Lib.hid hcx
          clear he hf hcx
          go_enter Try.func20, Try.ntmps20
          go_wp2_with (first | (refine wpList_load_row rfl 27 _ rfl (w.heap.size) rfl 27 _ _ _ hx Try.underlying27 rfl req_size ?_))
          refine (Hc.out _ hg).mono ?_
          rintro e w1 ⟨rfl, hb1⟩
          have hx1 := hx.below hb1
          have hy1 := hy.below hb1
          have hw1 := below_step hw hb1
          have hg1 := hg.below hb1
          have hltx := hx1.lt
          have q0 : w1.cell? ⟨w.heap.size, 0, none⟩ = some (.int .u64 tk) := hx1.cell 0
          have q1 : w1.cell? ⟨w.heap.size, 1, none⟩ = some (.int .i64 kind) := hx1.cell 1
          have q2 : w1.cell? ⟨w.heap.size, 2, none⟩ = some (.int .i64 proc) := hx1.cell 2
          have q3 : w1.cell? ⟨w.heap.size, 3, none⟩ = some (.int .i64 a) := hx1.cell 3
          have q4 : w1.cell? ⟨w.heap.size, 4, none⟩ = some (.int .i64 b) := hx1.cell 4
          have q5 : w1.cell? ⟨w.heap.size, 5, none⟩ = some (.int .u64 val) := hx1.cell 5
          have q6 : w1.cell? ⟨w.heap.size, 6, none⟩ = some (.int .i64 st) := hx1.cell 6
          have q7 : w1.cell? ⟨w.heap.size, 7, none⟩ = some (.slice A xs.length c) := hx1.cell 7
          have q8 : w1.cell? ⟨w.heap.size, 8, none⟩ = some (.int .i64 slot) := hx1.cell 8
          clear hx hy hb1 hw hg
          go_wp2_with fail
          go_region_held3 (fun w' => w'.cell? ⟨w.heap.size, 0, none⟩ = some (.int .u64 tk) ∧ w'.cell? ⟨w.heap.size, 1, none⟩ = some (.int .i64 kind) ∧ w'.cell? ⟨w.heap.size, 2, none⟩ = some (.int .i64 proc) ∧ w'.cell? ⟨w.heap.size, 3, none⟩ = some (.int .i64 a) ∧ w'.cell? ⟨w.heap.size, 4, none⟩ = some (.int .i64 b) ∧ w'.cell? ⟨w.heap.size, 5, none⟩ = some (.int .u64 val) ∧ w'.cell? ⟨w.heap.size, 6, none⟩ = some (.int .i64 st) ∧ w'.cell? ⟨w.heap.size, 7, none⟩ = some (.slice A xs.length c) ∧ w'.cell? ⟨w.heap.size, 8, none⟩ = some (.int .i64 slot)) (first | go_keep | (exact ⟨(hb2.cell (p := ⟨w.heap.size, 0, none⟩) (by exact hltx)).trans q0, (hb2.cell (p := ⟨w.heap.size, 1, none⟩) (by exact hltx)).trans q1, (hb2.cell (p := ⟨w.heap.size, 2, none⟩) (by exact hltx)).trans q2, (hb2.cell (p := ⟨w.heap.size, 3, none⟩) (by exact hltx)).trans q3, (hb2.cell (p := ⟨w.heap.size, 4, none⟩) (by exact hltx)).trans q4, (hb2.cell (p := ⟨w.heap.size, 5, none⟩) (by exact hltx)).trans q5, (hb2.cell (p := ⟨w.heap.size, 6, none⟩) (by exact hltx)).trans q6, (hb2.cell (p := ⟨w.heap.size, 7, none⟩) (by exact hltx)).trans q7, (hb2.cell (p := ⟨w.heap.size, 8, none⟩) (by exact hltx)).trans q8⟩)) (first | (go_at_call 37; refine (most_any tk kind proc a b val st A xs.length c slot _).mono ?_; rintro e w2 ⟨rfl, hb2⟩))
          have hx2 := hx1.below (undrew hb2)
          have hy2 := hy1.below (undrew hb2)
          have hw2 := below_step hw1 (undrew hb2)
          have hg2 := hg1.below (undrew hb2)
          have p7 : w2.cell? ⟨w.heap.size, 7, none⟩ = some (.slice A xs.length c) := hx2.cell 7
          clear hx1 hy1 hb2 hw1 hg1 hltx q0 q1 q2 q3 q4 q5 q6 q7 q8
          rw [Hm.out]
          go_wp2_with (first | (refine wpList_store_row rfl 27 _ _ rfl (w.heap.size + 1) _ rfl rfl 27 _ hy2 req_size rfl (rq_one 0 0 0 0 0 0 0 none 0 0 0) ?_) | (go_at_call 38; refine (isFrame_any _ _).mono ?_; rintro e w' ⟨rfl, rfl⟩; rw [HF.out]) | (go_at_call 39; refine (contains_any A c xs fr _ (by exact hg2)).mono ?_; rintro e w' ⟨rfl, rfl⟩; rw [HX.out]))
          refine bodyPost_ret (res_cell (v := .int .i64 7) rfl rfl rfl (hy2.row _) rfl) rfl ⟨none, 0, rfl, OwnI.none _ _, ?_⟩
          exact below_setRow hw2 (by omega) _
        · rw [if_neg hf]
          have HF := Lib.hid (show frB fr = false by simpa using hf)
          clear he hf
          go_enter Try.func20, Try.ntmps20
          go_wp2_with (first | (refine wpList_load_row rfl 27 _ rfl (w.heap.size) rfl 27 _ _ _ hx Try.underlying27 rfl req_size ?_))
          refine (Hc.out _ hg).mono ?_
          rintro e w1 ⟨rfl, hb1⟩
          have hx1 := hx.below hb1
          have hy1 := hy.below hb1
          have hw1 := below_step hw hb1
          have hg1 := hg.below hb1
          have hltx := hx1.lt
          have q0 : w1.cell? ⟨w.heap.size, 0, none⟩ = some (.int .u64 tk) := hx1.cell 0
          have q1 : w1.cell? ⟨w.heap.size, 1, none⟩ = some (.int .i64 kind) := hx1.cell 1
          have q2 : w1.cell? ⟨w.heap.size, 2, none⟩ = some (.int .i64 proc) := hx1.cell 2
          have q3 : w1.cell? ⟨w.heap.size, 3, none⟩ = some (.int .i64 a) := hx1.cell 3
          have q4 : w1.cell? ⟨w.heap.size, 4, none⟩ = some (.int .i64 b) := hx1.cell 4
          have q5 : w1.cell? ⟨w.heap.size, 5, none⟩ = some (.int .u64 val) := hx1.cell 5
          have q6 : w1.cell? ⟨w.heap.size, 6, none⟩ = some (.int .i64 st) := hx1.cell 6
          have q7 : w1.cell? ⟨w.heap.size, 7, none⟩ = some (.slice A xs.length c) := hx1.cell 7
          have q8 : w1.cell? ⟨w.heap.size, 8, none⟩ = some (.int .i64 slot) := hx1.cell 8
          clear hx hy hb1 hw hg
          go_wp2_with fail
          go_region_held3 (fun w' => w'.cell? ⟨w.heap.size, 0, none⟩ = some (.int .u64 tk) ∧ w'.cell? ⟨w.heap.size, 1, none⟩ = some (.int .i64 kind) ∧ w'.cell? ⟨w.heap.size, 2, none⟩ = some (.int .i64 proc) ∧ w'.cell? ⟨w.heap.size, 3, none⟩ = some (.int .i64 a) ∧ w'.cell? ⟨w.heap.size, 4, none⟩ = some (.int .i64 b) ∧ w'.cell? ⟨w.heap.size, 5, none⟩ = some (.int .u64 val) ∧ w'.cell? ⟨w.heap.size, 6, none⟩ = some (.int .i64 st) ∧ w'.cell? ⟨w.heap.size, 7, none⟩ = some (.slice A xs.length c) ∧ w'.cell? ⟨w.heap.size, 8, none⟩ = some (.int .i64 slot)) (first | go_keep | (exact ⟨(hb2.cell (p := ⟨w.heap.size, 0, none⟩) (by exact hltx)).trans q0, (hb2.cell (p := ⟨w.heap.size, 1, none⟩) (by exact hltx)).trans q1, (hb2.cell (p := ⟨w.heap.size, 2, none⟩) (by exact hltx)).trans q2, (hb2.cell (p := ⟨w.heap.size, 3, none⟩) (by exact hltx)).trans q3, (hb2.cell (p := ⟨w.heap.size, 4, none⟩) (by exact hltx)).trans q4, (hb2.cell (p := ⟨w.heap.size, 5, none⟩) (by exact hltx)).trans q5, (hb2.cell (p := ⟨w.heap.size, 6, none⟩) (by exact hltx)).trans q6, (hb2.cell (p := ⟨w.heap.size, 7, none⟩) (by exact hltx)).trans q7, (hb2.cell (p := ⟨w.heap.size, 8, none⟩) (by exact hltx)).trans q8⟩)) (first | (go_at_call 37; refine (most_any tk kind proc a b val st A xs.length c slot _).mono ?_; rintro e w2 ⟨rfl, hb2⟩))
          have hx2 := hx1.below (undrew hb2)
          have hy2 := hy1.below (undrew hb2)
          have hw2 := below_step hw1 (undrew hb2)
          have hg2 := hg1.below (undrew hb2)
          have p7 : w2.cell? ⟨w.heap.size, 7, none⟩ = some (.slice A xs.length c) := hx2.cell 7
          clear hx1 hy1 hb2 hw1 hg1 hltx q0 q1 q2 q3 q4 q5 q6 q7 q8
          rw [Hm.out]
          go_wp2_with (first | (refine wpList_store_row rfl 27 _ _ rfl (w.heap.size + 1) _ rfl rfl 27 _ hy2 req_size rfl (rq_one 0 0 0 0 0 0 0 none 0 0 0) ?_) | (go_at_call 38; refine (isFrame_any _ _).mono ?_; rintro e w' ⟨rfl, rfl⟩; rw [HF.out]))
          refine bodyPost_ret (res_cell (v := .int .i64 2) rfl rfl rfl (hy2.row _) rfl) rfl ⟨none, 0, rfl, OwnI.none _ _, ?_⟩
          exact below_setRow hw2 (by omega) _
  · rw [if_pos hc]
    have hc' : (chkE tk kind proc a b val st xs slot != 0) = true := by simp [hc]
    clear hc he
    generalize chkE tk kind proc a b val st xs slot = ce at *
    go_enter Try.func20, Try.ntmps20
    go_wp2_with (first | (refine wpList_load_row rfl 27 _ rfl (w.heap.size) rfl 27 _ _ _ hx Try.underlying27 rfl req_size ?_))
    refine (Hc.out _ hg).mono ?_
    rintro e w1 ⟨rfl, hb1⟩
    have hx1 := hx.below hb1
    have hy1 := hy.below hb1
    have hw1 := below_step hw hb1
    have hg1 := hg.below hb1
    have hltx := hx1.lt
    have q0 : w1.cell? ⟨w.heap.size, 0, none⟩ = some (.int .u64 tk) := hx1.cell 0
    have q1 : w1.cell? ⟨w.heap.size, 1, none⟩ = some (.int .i64 kind) := hx1.cell 1
    have q2 : w1.cell? ⟨w.heap.size, 2, none⟩ = some (.int .i64 proc) := hx1.cell 2
    have q3 : w1.cell? ⟨w.heap.size, 3, none⟩ = some (.int .i64 a) := hx1.cell 3
    have q4 : w1.cell? ⟨w.heap.size, 4, none⟩ = some (.int .i64 b) := hx1.cell 4
    have q5 : w1.cell? ⟨w.heap.size, 5, none⟩ = some (.int .u64 val) := hx1.cell 5
    have q6 : w1.cell? ⟨w.heap.size, 6, none⟩ = some (.int .i64 st) := hx1.cell 6
    have q7 : w1.cell? ⟨w.heap.size, 7, none⟩ = some (.slice A xs.length c) := hx1.cell 7
    have q8 : w1.cell? ⟨w.heap.size, 8, none⟩ = some (.int .i64 slot) := hx1.cell 8
    clear hx hy hb1 hw hg
    go_wp2_with (first | (refine wpList_store_row rfl 27 _ _ rfl (w.heap.size + 1) _ rfl rfl 27 _ hy1 req_size rfl (rq_one 0 0 0 0 0 0 0 none 0 0 0) ?_))
    refine bodyPost_ret (res_cell (v := .int .i64 ce) rfl rfl rfl (hy1.row _) rfl) rfl ⟨none, 0, rfl, OwnI.none _ _, ?_⟩
    exact below_setRow hw1 (by omega) _


set_option maxHeartbeats 2000000 in
theorem Give_ok (tk kind proc a b val st : Int) (A : Option Addr) (c : Nat) (xs : List Int) (slot : Int) (fr : Int) (w : World) (ha : GI w A c xs) (he : giveE tk kind proc a b val st xs slot fr = 0) :
    Calls Try.prog 20 #[.agg #[.int .u64 tk, .int .i64 kind, .int .i64 proc, .int .i64 a, .int .i64 b, .int .u64 val, .int .i64 st, .slice A xs.length c, .int .i64 slot], .int .i64 fr] w (RetR w tk kind proc a b val 2 (xs ++ [fr]) slot 0) := by
  have hx := (Bx.new w 27 #[.int .u64 tk, .int .i64 kind, .int .i64 proc, .int .i64 a, .int .i64 b, .int .u64 val, .int .i64 st, .slice A xs.length c, .int .i64 slot]).alloc (.cells #[.int .u64 0, .int .i64 0, .int .i64 0, .int .i64 0, .int .i64 0, .int .u64 0, .int .i64 0, .slice none 0 0, .int .i64 0] 27)
  have hy := Bx.new (w.alloc (.cells #[.int .u64 tk, .int .i64 kind, .int .i64 proc, .int .i64 a, .int .i64 b, .int .u64 val, .int .i64 st, .slice A xs.length c, .int .i64 slot] 27)) 27 #[.int .u64 0, .int .i64 0, .int .i64 0, .int .i64 0, .int .i64 0, .int .u64 0, .int .i64 0, .slice none 0 0, .int .i64 0]
  rw [World.size_alloc] at hy
  have hw := below_step (al w (.cells #[.int .u64 tk, .int .i64 kind, .int .i64 proc, .int .i64 a, .int .i64 b, .int .u64 val, .int .i64 st, .slice A xs.length c, .int .i64 slot] 27)) (al _ (.cells #[.int .u64 0, .int .i64 0, .int .i64 0, .int .i64 0, .int .i64 0, .int .u64 0, .int .i64 0, .slice none 0 0, .int .i64 0] 27))
  have hg := ha.below hw
  have Hc := Lib.hid (fun W (hW : GI W A c xs) => Check_any tk kind proc a b val st A c xs slot W hW)
  unfold giveE at he
  have hc : chkE tk kind proc a b val st xs slot = 0 := by
    refine Decidable.byContradiction fun h => ?_
    rw [if_pos h] at he
    exact h he
  rw [if_neg (by simpa using hc)] at he
  have hs : ¬ (st = 3 ∨ st = 4) := by intro h; rw [if_pos h] at he; omega
  rw [if_neg hs] at he
  have hm : ¬ mostN kind ≤ xs.length := by intro h; rw [if_pos h] at he; omega
  rw [if_neg hm] at he
  have hf : frB fr = true := by
    refine Decidable.byContradiction fun h => ?_
    rw [if_neg h] at he
    omega
  rw [if_pos hf] at he
  have hcx : xs.contains fr = false := by
    cases h : xs.contains fr
    · rfl
    · rw [if_pos h] at he; omega
  have hl := chk_len _ _ _ _ _ _ _ _ _ hc
  rw [hc] at Hc
  have h3 : (st == 3) = false := by simp; omega
  have h4 : (st == 4) = false := by simp; omega
  obtain ⟨mo, hmo⟩ : ∃ mo, mostN kind = mo := ⟨_, rfl⟩
  have hm' : (xs.length : Int) < mo := by omega
  have Hm := Lib.hid hmo
  have HF := Lib.hid hf
  have HX := Lib.hid hcx
  have HC := Lib.hid (fun W (hW : GI W A c xs) => copied_any tk kind proc a b val st A c xs slot W hW (by omega))
  clear hc hs he hm hf hcx hmo ha
  go_enter Try.func20, Try.ntmps20
  go_wp2_with (first | (refine wpList_load_row rfl 27 _ rfl (w.heap.size) rfl 27 _ _ _ hx Try.underlying27 rfl req_size ?_))
  refine (Hc.out _ hg).mono ?_
  rintro e w1 ⟨rfl, hb1⟩
  have hx1 := hx.below hb1
  have hy1 := hy.below hb1
  have hw1 := below_step hw hb1
  have hg1 := hg.below hb1
  have hltx := hx1.lt
  have q0 : w1.cell? ⟨w.heap.size, 0, none⟩ = some (.int .u64 tk) := hx1.cell 0
  have q1 : w1.cell? ⟨w.heap.size, 1, none⟩ = some (.int .i64 kind) := hx1.cell 1
  have q2 : w1.cell? ⟨w.heap.size, 2, none⟩ = some (.int .i64 proc) := hx1.cell 2
  have q3 : w1.cell? ⟨w.heap.size, 3, none⟩ = some (.int .i64 a) := hx1.cell 3
  have q4 : w1.cell? ⟨w.heap.size, 4, none⟩ = some (.int .i64 b) := hx1.cell 4
  have q5 : w1.cell? ⟨w.heap.size, 5, none⟩ = some (.int .u64 val) := hx1.cell 5
  have q6 : w1.cell? ⟨w.heap.size, 6, none⟩ = some (.int .i64 st) := hx1.cell 6
  have q7 : w1.cell? ⟨w.heap.size, 7, none⟩ = some (.slice A xs.length c) := hx1.cell 7
  have q8 : w1.cell? ⟨w.heap.size, 8, none⟩ = some (.int .i64 slot) := hx1.cell 8
  clear hx hy hb1 hw hg
  go_wp2_with fail
  go_region_held3 (fun w' => w'.cell? ⟨w.heap.size, 0, none⟩ = some (.int .u64 tk) ∧ w'.cell? ⟨w.heap.size, 1, none⟩ = some (.int .i64 kind) ∧ w'.cell? ⟨w.heap.size, 2, none⟩ = some (.int .i64 proc) ∧ w'.cell? ⟨w.heap.size, 3, none⟩ = some (.int .i64 a) ∧ w'.cell? ⟨w.heap.size, 4, none⟩ = some (.int .i64 b) ∧ w'.cell? ⟨w.heap.size, 5, none⟩ = some (.int .u64 val) ∧ w'.cell? ⟨w.heap.size, 6, none⟩ = some (.int .i64 st) ∧ w'.cell? ⟨w.heap.size, 7, none⟩ = some (.slice A xs.length c) ∧ w'.cell? ⟨w.heap.size, 8, none⟩ = some (.int .i64 slot)) (first | go_keep | (exact ⟨(hb2.cell (p := ⟨w.heap.size, 0, none⟩) (by exact hltx)).trans q0, (hb2.cell (p := ⟨w.heap.size, 1, none⟩) (by exact hltx)).trans q1, (hb2.cell (p := ⟨w.heap.size, 2, none⟩) (by exact hltx)).trans q2, (hb2.cell (p := ⟨w.heap.size, 3, none⟩) (by exact hltx)).trans q3, (hb2.cell (p := ⟨w.heap.size, 4, none⟩) (by exact hltx)).trans q4, (hb2.cell (p := ⟨w.heap.size, 5, none⟩) (by exact hltx)).trans q5, (hb2.cell (p := ⟨w.heap.size, 6, none⟩) (by exact hltx)).trans q6, (hb2.cell (p := ⟨w.heap.size, 7, none⟩) (by exact hltx)).trans q7, (hb2.cell (p := ⟨w.heap.size, 8, none⟩) (by exact hltx)).trans q8⟩)) (first | (go_at_call 37; refine (most_any tk kind proc a b val st A xs.length c slot _).mono ?_; rintro e w2 ⟨rfl, hb2⟩))
  have hx2 := hx1.below (undrew hb2)
  have hy2 := hy1.below (undrew hb2)
  have hw2 := below_step hw1 (undrew hb2)
  have hg2 := hg1.below (undrew hb2)
  have p7 : w2.cell? ⟨w.heap.size, 7, none⟩ = some (.slice A xs.length c) := hx2.cell 7
  clear hx1 hy1 hb2 hw1 hg1 hltx q0 q1 q2 q3 q4 q5 q6 q7 q8
  rw [Hm.out]
  go_wp2_with (first | (refine wpList_load_row rfl 27 _ rfl (w.heap.size) rfl 27 _ _ _ hx2 Try.underlying27 rfl req_size ?_) | (go_at_call 38; refine (isFrame_any _ _).mono ?_; rintro e w' ⟨rfl, rfl⟩; rw [HF.out]) | (go_at_call 39; refine (contains_any A c xs fr _ (by exact hg2)).mono ?_; rintro e w' ⟨rfl, rfl⟩; rw [HX.out]))
  refine (HC.out _ hg2).mono ?_
  rintro e w3 ⟨A', c', rfl, hown, hb3⟩
  have hy3 := hy2.below hb3
  have hw3 := below_step hw2 hb3
  have hlt2 := hy2.lt
  have hlt := hy3.lt
  have hsz := hb3.size
  clear hx2 hy2 hb3 hg2 p7 HC Hc
  have hr : (Value.slice A' xs.length c').ownBlock ≠ some w3.heap.size := fun h => by have := (hown.lt _ h).2; omega
  have hr2 : (Value.slice A' xs.length c').ownBlock ≠ some (w.heap.size + 1) := fun h => by have := (hown.lt _ h).1; omega
  have hn := Bx.new w3 54 #[.int .u64 0, .int .i64 0, .int .i64 0, .int .i64 0, .int .i64 0, .int .u64 0, .int .i64 0, .slice none 0 0, .int .i64 0]
  have hn3 := (Bx.new w3 54 #[.int .u64 tk, .int .i64 kind, .int .i64 proc, .int .i64 a, .int .i64 b, .int .u64 val, .int .i64 2, .slice A' xs.length c', .int .i64 slot]).alloc (.cells #[.int .i64 fr] 3)
  have ho3 := (hown.alloc (.cells #[.int .u64 tk, .int .i64 kind, .int .i64 proc, .int .i64 a, .int .i64 b, .int .u64 val, .int .i64 2, .slice A' xs.length c', .int .i64 slot] 54)).alloc (.cells #[.int .i64 fr] 3)
  have hcn := (Bx.new (w3.alloc (.cells #[.int .u64 tk, .int .i64 kind, .int .i64 proc, .int .i64 a, .int .i64 b, .int .u64 val, .int .i64 2, .slice A' xs.length c', .int .i64 slot] 54)) 3 #[.int .i64 fr]).cell 0
  rw [World.size_alloc] at hcn
  have hy4 := (hy3.alloc (.cells #[.int .u64 tk, .int .i64 kind, .int .i64 proc, .int .i64 a, .int .i64 b, .int .u64 val, .int .i64 2, .slice A' xs.length c', .int .i64 slot] 54)).alloc (.cells #[.int .i64 fr] 3)
  have hw4 := below_step (below_step hw3 (al _ (.cells #[.int .u64 tk, .int .i64 kind, .int .i64 proc, .int .i64 a, .int .i64 b, .int .u64 val, .int .i64 2, .slice A' xs.length c', .int .i64 slot] 54))) (al _ (.cells #[.int .i64 fr] 3))
  go_wp2_with (first | (refine wpList_store_row rfl 54 _ _ rfl w3.heap.size _ rfl rfl 54 _ hn frq_size rfl (rq_one tk kind proc a b val st A' xs.length c' slot) ?_; rw [World.setRow_alloc_new]) | (at_builtin; refine wpList_ap1b _ rfl _ _ rfl w2.heap.size A' xs.length c' xs rfl ho3 ⟨w3.heap.size + 1, 0, none⟩ 1 fr rfl hcn (by omega) (by simp; omega) ?_; intro A5 c5 w5 hown5 hg5 hl5; rw [World.size_alloc, World.size_alloc] at hl5; have hn5 := hn3.grown hg5 (fun h => hr h.symm); have hy5 := hy4.grown hg5 (fun h => hr2 h.symm); have hw5 : Below w.heap.size w w5 := grown_below hw4 ho3 hg5 (by simp; omega) (by omega); have hr5 : (Value.slice A5 (xs.length + 1) c5).ownBlock ≠ some w3.heap.size := (fun h => hl5.elim (fun h' => hr (h'.symm.trans h)) (fun h' => by have := Option.some.inj (h'.symm.trans h); omega)); have c7 : w5.cell? ⟨w3.heap.size, 7, none⟩ = some (.slice A' xs.length c') := hn5.cell 7; have z7 := hn5.frozen 7; have hn6 : Bx (w5.setCell ⟨w3.heap.size, 7, none⟩ (.slice A5 (xs.length + 1) c5)) w3.heap.size 54 #[.int .u64 tk, .int .i64 kind, .int .i64 proc, .int .i64 a, .int .i64 b, .int .u64 val, .int .i64 2, .slice A5 (xs.length + 1) c5, .int .i64 slot] := hn5.set 7 _; have hy6 := hy5.setO (p := ⟨w3.heap.size, 7, none⟩) (by show _ ≠ w3.heap.size; omega) (.slice A5 (xs.length + 1) c5); have ho6 := hown5.setCell_far (p := ⟨w3.heap.size, 7, none⟩) hr5 (.slice A5 (xs.length + 1) c5); clear hn3 ho3 hcn hy4 hw4 hn hg5 hn5 hy5 hl5 hr5) | (refine wpList_load_row rfl 54 _ rfl w3.heap.size rfl 54 _ _ _ hn6 Try.underlying54 rfl frq_size ?_) | (refine wpList_store_row rfl 27 _ _ rfl (w.heap.size + 1) _ rfl rfl 27 _ hy6 req_size rfl (by simp [Value.oneCell']) ?_))
  refine bodyPost_ret (res_cell (v := .int .i64 0) rfl rfl rfl (hy6.row _) rfl) rfl ⟨A5, c5, by simp, ?_, ?_⟩
  · have := (Own.rowLow ho6 (g := w.heap.size + 1) (by omega) #[.int .u64 tk, .int .i64 kind, .int .i64 proc, .int .i64 a, .int .i64 b, .int .u64 val, .int .i64 2, .slice A5 (xs.length + 1) c5, .int .i64 slot]).mono (base' := w.heap.size) (by omega)
    rw [List.length_append]
    exact this
  · exact below_setRow (hw5.setCell (by show _ ≤ w3.heap.size; omega) _) (by omega) _

end Go.Proofs.Ytbcfnocefjolfaa
