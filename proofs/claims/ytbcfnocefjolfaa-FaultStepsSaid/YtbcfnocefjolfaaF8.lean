/- Package fault: CheckFacts, Next, Needs. -/
import Derived.Test.YtbcfnocefjolfaaF7
namespace Go.Proofs.Ytbcfnocefjolfaa
open Go.RowKit

/-- The error of facts. -/
def fcE (kind acc lv : Int) : Int :=
  if accB kind = true then (if acc < 1 ∨ 8 < acc ∨ lv < 0 ∨ 8 < lv then 2 else 0) else (if acc < 0 ∨ 0 < acc ∨ lv < 0 ∨ 8 < lv then 2 else 0)

/-- The error of a request and its facts. -/
def cfE (tk kind proc a b val st : Int) (xs : List Int) (slot acc lv : Int) : Int := if chkE tk kind proc a b val st xs slot = 0 then fcE kind acc lv else chkE tk kind proc a b val st xs slot
/-- What stands where there is no error. -/
def okE (ce x : Int) : Int := if ce = 0 then x else 0

theorem lenE_le (lo hi n : Int) (h : lenE lo hi n = 0) : n ≤ hi := by
  unfold lenE at h
  split at h <;> omega
theorem mostN_le (kind : Int) : mostN kind ≤ 9 := by unfold mostN; split <;> omega
theorem stE_le (st kind n : Int) (h : stE st kind n = 0) : n ≤ 9 := by
  unfold stE at h
  have := mostN_le kind
  repeat' split at h
  all_goals first | omega | (have := lenE_le _ _ _ h; omega)
theorem chk_parts (tk kind proc a b val st : Int) (xs : List Int) (slot : Int) (h : chkE tk kind proc a b val st xs slot = 0) :
    (1 ≤ tk ∧ tk ≤ 1099511627776) ∧ cmdE kind proc a b val = 0 ∧ stE st kind xs.length = 0 ∧ frE xs 0 xs.length = 0 ∧ slE st slot = 0 := by
  unfold chkE at h
  split at h
  · omega
  rename_i h1
  split at h
  · rename_i h2; exact absurd h h2
  rename_i h2
  split at h
  · rename_i h3; exact absurd h h3
  rename_i h3
  split at h
  · rename_i h4; exact absurd h h4
  rename_i h4
  exact ⟨by omega, by simpa using h2, by simpa using h3, by simpa using h4, h⟩
theorem chk_len (tk kind proc a b val st : Int) (xs : List Int) (slot : Int) (h : chkE tk kind proc a b val st xs slot = 0) : xs.length ≤ 9 := by
  have := stE_le _ _ _ (chk_parts _ _ _ _ _ _ _ _ _ h).2.2.1
  omega

set_option maxHeartbeats 1000000 in
theorem CheckFacts_any (tk kind proc a b val st : Int) (A : Option Addr) (c : Nat) (xs : List Int) (slot : Int) (acc : Int) (wr rm : Bool) (lv : Int) (fr : Bool) (w : World) (ha : GI w A c xs) :
    Calls Try.prog 18 #[.agg #[.int .u64 tk, .int .i64 kind, .int .i64 proc, .int .i64 a, .int .i64 b, .int .u64 val, .int .i64 st, .slice A xs.length c, .int .i64 slot], .agg #[.int .i64 acc, .bool wr, .bool rm, .int .i64 lv, .bool fr]] w (RetB w (.returned (.int .i64 (cfE tk kind proc a b val st xs slot acc lv)))) := by
  have hx := (Bx.new w 27 #[.int .u64 tk, .int .i64 kind, .int .i64 proc, .int .i64 a, .int .i64 b, .int .u64 val, .int .i64 st, .slice A xs.length c, .int .i64 slot]).alloc (.cells #[.int .i64 acc, .bool wr, .bool rm, .int .i64 lv, .bool fr] 38)
  have hy := Bx.new (w.alloc (.cells #[.int .u64 tk, .int .i64 kind, .int .i64 proc, .int .i64 a, .int .i64 b, .int .u64 val, .int .i64 st, .slice A xs.length c, .int .i64 slot] 27)) 38 #[.int .i64 acc, .bool wr, .bool rm, .int .i64 lv, .bool fr]
  rw [World.size_alloc] at hy
  have hw := below_step (al w (.cells #[.int .u64 tk, .int .i64 kind, .int .i64 proc, .int .i64 a, .int .i64 b, .int .u64 val, .int .i64 st, .slice A xs.length c, .int .i64 slot] 27)) (al _ (.cells #[.int .i64 acc, .bool wr, .bool rm, .int .i64 lv, .bool fr] 38))
  have Hc := Lib.hid (fun W (hW : GI W A c xs) => Check_any tk kind proc a b val st A c xs slot W hW)
  have hg := ha.below hw
  by_cases hc : chkE tk kind proc a b val st xs slot = 0
  · have E := Lib.hid (show cfE tk kind proc a b val st xs slot acc lv = fcE kind acc lv from if_pos hc)
    rw [hc] at Hc
    clear hc ha
    go_enter Try.func18, Try.ntmps18
    go_wp2_with fail
    refine (Hc.out _ hg).mono ?_
    rintro e w1 ⟨rfl, hb1⟩
    have hx1 := hx.below hb1
    have hy1 := hy.below hb1
    have hw1 := below_step hw hb1
    have q0 : w1.cell? ⟨w.heap.size, 0, none⟩ = some (.int .u64 tk) := hx1.cell 0
    have q1 : w1.cell? ⟨w.heap.size, 1, none⟩ = some (.int .i64 kind) := hx1.cell 1
    have q2 : w1.cell? ⟨w.heap.size, 2, none⟩ = some (.int .i64 proc) := hx1.cell 2
    have q3 : w1.cell? ⟨w.heap.size, 3, none⟩ = some (.int .i64 a) := hx1.cell 3
    have q4 : w1.cell? ⟨w.heap.size, 4, none⟩ = some (.int .i64 b) := hx1.cell 4
    have q5 : w1.cell? ⟨w.heap.size, 5, none⟩ = some (.int .u64 val) := hx1.cell 5
    have q6 : w1.cell? ⟨w.heap.size, 6, none⟩ = some (.int .i64 st) := hx1.cell 6
    have q7 : w1.cell? ⟨w.heap.size, 7, none⟩ = some (.slice A xs.length c) := hx1.cell 7
    have q8 : w1.cell? ⟨w.heap.size, 8, none⟩ = some (.int .i64 slot) := hx1.cell 8
    have p0 : w1.cell? ⟨w.heap.size + 1, 0, none⟩ = some (.int .i64 acc) := hy1.cell 0
    have p1 : w1.cell? ⟨w.heap.size + 1, 1, none⟩ = some (.bool wr) := hy1.cell 1
    have p2 : w1.cell? ⟨w.heap.size + 1, 2, none⟩ = some (.bool rm) := hy1.cell 2
    have p3 : w1.cell? ⟨w.heap.size + 1, 3, none⟩ = some (.int .i64 lv) := hy1.cell 3
    have p4 : w1.cell? ⟨w.heap.size + 1, 4, none⟩ = some (.bool fr) := hy1.cell 4
    clear hx hy hb1 hw hg
    go_wp2_with fail
    refine (access_any tk kind proc a b val st A xs.length c slot _).mono ?_
    rintro e w2 ⟨rfl, hb2⟩
    have hy2 := hy1.below hb2
    have hw2 := below_step hw1 hb2
    have r0 : w2.cell? ⟨w.heap.size + 1, 0, none⟩ = some (.int .i64 acc) := hy2.cell 0
    have r1 : w2.cell? ⟨w.heap.size + 1, 1, none⟩ = some (.bool wr) := hy2.cell 1
    have r2 : w2.cell? ⟨w.heap.size + 1, 2, none⟩ = some (.bool rm) := hy2.cell 2
    have r3 : w2.cell? ⟨w.heap.size + 1, 3, none⟩ = some (.int .i64 lv) := hy2.cell 3
    have r4 : w2.cell? ⟨w.heap.size + 1, 4, none⟩ = some (.bool fr) := hy2.cell 4
    clear hx1 hy1 hb2 hw1
    have E2 := Lib.hid (show fcE kind acc lv = (if accB kind = true then (if acc < 1 ∨ 8 < acc ∨ lv < 0 ∨ 8 < lv then 2 else 0) else (if acc < 0 ∨ 0 < acc ∨ lv < 0 ∨ 8 < lv then 2 else 0)) from rfl)
    generalize accB kind = ac at *
    cases ac
    · skip
      by_cases t0 : acc < 0
      · have d0 : decide (acc < 0) = true := by simp; omega
        have E3 := Lib.hid (show fcE kind acc lv = 2 by rw [E2.out]; simp; omega)
        clear E2 t0
        go_wp2
        go_ret
        exact ⟨by rw [E.out, E3.out]; rfl, hw2⟩
      · skip
        by_cases t1 : 0 < acc
        · have d0 : decide (acc < 0) = false := by simp; omega
          have d1 : decide (0 < acc) = true := by simp; omega
          have E3 := Lib.hid (show fcE kind acc lv = 2 by rw [E2.out]; simp; omega)
          clear E2 t0 t1
          go_wp2
          go_ret
          exact ⟨by rw [E.out, E3.out]; rfl, hw2⟩
        · skip
          by_cases t2 : lv < 0
          · have d0 : decide (acc < 0) = false := by simp; omega
            have d1 : decide (0 < acc) = false := by simp; omega
            have d2 : decide (lv < 0) = true := by simp; omega
            have E3 := Lib.hid (show fcE kind acc lv = 2 by rw [E2.out]; simp; omega)
            clear E2 t0 t1 t2
            go_wp2
            go_ret
            exact ⟨by rw [E.out, E3.out]; rfl, hw2⟩
          · skip
            by_cases t3 : 8 < lv
            · have d0 : decide (acc < 0) = false := by simp; omega
              have d1 : decide (0 < acc) = false := by simp; omega
              have d2 : decide (lv < 0) = false := by simp; omega
              have d3 : decide (8 < lv) = true := by simp; omega
              have E3 := Lib.hid (show fcE kind acc lv = 2 by rw [E2.out]; simp; omega)
              clear E2 t0 t1 t2 t3
              go_wp2
              go_ret
              exact ⟨by rw [E.out, E3.out]; rfl, hw2⟩
            · skip
              have d0 : decide (acc < 0) = false := by simp; omega
              have d1 : decide (0 < acc) = false := by simp; omega
              have d2 : decide (lv < 0) = false := by simp; omega
              have d3 : decide (8 < lv) = false := by simp; omega
              have E3 := Lib.hid (show fcE kind acc lv = 0 by rw [E2.out]; simp; omega)
              clear E2 t0 t1 t2 t3
              go_wp2
              go_ret
              exact ⟨by rw [E.out, E3.out]; rfl, hw2⟩
    · skip
      by_cases t0 : acc < 1
      · have d0 : decide (acc < 1) = true := by simp; omega
        have E3 := Lib.hid (show fcE kind acc lv = 2 by rw [E2.out]; simp; omega)
        clear E2 t0
        go_wp2
        go_ret
        exact ⟨by rw [E.out, E3.out]; rfl, hw2⟩
      · skip
        by_cases t1 : 8 < acc
        · have d0 : decide (acc < 1) = false := by simp; omega
          have d1 : decide (8 < acc) = true := by simp; omega
          have E3 := Lib.hid (show fcE kind acc lv = 2 by rw [E2.out]; simp; omega)
          clear E2 t0 t1
          go_wp2
          go_ret
          exact ⟨by rw [E.out, E3.out]; rfl, hw2⟩
        · skip
          by_cases t2 : lv < 0
          · have d0 : decide (acc < 1) = false := by simp; omega
            have d1 : decide (8 < acc) = false := by simp; omega
            have d2 : decide (lv < 0) = true := by simp; omega
            have E3 := Lib.hid (show fcE kind acc lv = 2 by rw [E2.out]; simp; omega)
            clear E2 t0 t1 t2
            go_wp2
            go_ret
            exact ⟨by rw [E.out, E3.out]; rfl, hw2⟩
          · skip
            by_cases t3 : 8 < lv
            · have d0 : decide (acc < 1) = false := by simp; omega
              have d1 : decide (8 < acc) = false := by simp; omega
              have d2 : decide (lv < 0) = false := by simp; omega
              have d3 : decide (8 < lv) = true := by simp; omega
              have E3 := Lib.hid (show fcE kind acc lv = 2 by rw [E2.out]; simp; omega)
              clear E2 t0 t1 t2 t3
              go_wp2
              go_ret
              exact ⟨by rw [E.out, E3.out]; rfl, hw2⟩
            · skip
              have d0 : decide (acc < 1) = false := by simp; omega
              have d1 : decide (8 < acc) = false := by simp; omega
              have d2 : decide (lv < 0) = false := by simp; omega
              have d3 : decide (8 < lv) = false := by simp; omega
              have E3 := Lib.hid (show fcE kind acc lv = 0 by rw [E2.out]; simp; omega)
              clear E2 t0 t1 t2 t3
              go_wp2
              go_ret
              exact ⟨by rw [E.out, E3.out]; rfl, hw2⟩
  · have E := Lib.hid (show cfE tk kind proc a b val st xs slot acc lv = chkE tk kind proc a b val st xs slot from if_neg hc)
    have hc' : (chkE tk kind proc a b val st xs slot != 0) = true := by simp [hc]
    clear hc ha
    generalize chkE tk kind proc a b val st xs slot = ce at *
    go_enter Try.func18, Try.ntmps18
    go_wp2_with fail
    refine (Hc.out _ hg).mono ?_
    rintro e w1 ⟨rfl, hb1⟩
    go_wp2
    go_ret
    exact ⟨by rw [E.out]; rfl, below_step hw hb1⟩

theorem run_fld1 (W : World) (b : Bool) (m n : Int) : (Instr.field 58 (.agg #[.bool b, .int .i64 m, .int .i64 n]) 1).run Try.prog W = .ok (.int .i64 m) W := by kernel_rfl
theorem run_fld2 (W : World) (b : Bool) (m n : Int) : (Instr.field 58 (.agg #[.bool b, .int .i64 m, .int .i64 n]) 2).run Try.prog W = .ok (.int .i64 n) W := by kernel_rfl

set_option maxHeartbeats 1000000 in
theorem Next_any (tk kind proc a b val st : Int) (A : Option Addr) (c : Nat) (xs : List Int) (slot : Int) (acc : Int) (wr rm : Bool) (lv : Int) (fr : Bool) (w : World) (ha : GI w A c xs) (ce : Int) (hce : ce = cfE tk kind proc a b val st xs slot acc lv) :
    Calls Try.prog 15 #[.agg #[.int .u64 tk, .int .i64 kind, .int .i64 proc, .int .i64 a, .int .i64 b, .int .u64 val, .int .i64 st, .slice A xs.length c, .int .i64 slot], .agg #[.int .i64 acc, .bool wr, .bool rm, .int .i64 lv, .bool fr]] w (RetB w (.returned (.tuple #[.int .i64 (okE ce (lookF kind st xs.length acc wr rm lv fr).2.1), .int .i64 ce]))) := by
  have hx := (Bx.new w 27 #[.int .u64 tk, .int .i64 kind, .int .i64 proc, .int .i64 a, .int .i64 b, .int .u64 val, .int .i64 st, .slice A xs.length c, .int .i64 slot]).alloc (.cells #[.int .i64 acc, .bool wr, .bool rm, .int .i64 lv, .bool fr] 38)
  have hy := Bx.new (w.alloc (.cells #[.int .u64 tk, .int .i64 kind, .int .i64 proc, .int .i64 a, .int .i64 b, .int .u64 val, .int .i64 st, .slice A xs.length c, .int .i64 slot] 27)) 38 #[.int .i64 acc, .bool wr, .bool rm, .int .i64 lv, .bool fr]
  rw [World.size_alloc] at hy
  have hw := below_step (al w (.cells #[.int .u64 tk, .int .i64 kind, .int .i64 proc, .int .i64 a, .int .i64 b, .int .u64 val, .int .i64 st, .slice A xs.length c, .int .i64 slot] 27)) (al _ (.cells #[.int .i64 acc, .bool wr, .bool rm, .int .i64 lv, .bool fr] 38))
  have Hc := Lib.hid (fun W (hW : GI W A c xs) => CheckFacts_any tk kind proc a b val st A c xs slot acc wr rm lv fr W hW)
  rw [← hce] at Hc
  have hg := ha.below hw
  by_cases hc : ce = 0
  · have hlv : 0 ≤ lv ∧ lv ≤ 8 ∧ xs.length ≤ 9 := by
      rw [hc] at hce
      unfold cfE at hce
      by_cases h1 : chkE tk kind proc a b val st xs slot = 0
      · rw [if_pos h1] at hce
        have h2 := chk_len _ _ _ _ _ _ _ _ _ h1
        unfold fcE at hce
        repeat' split at hce
        all_goals omega
      · rw [if_neg h1] at hce
        omega
    obtain ⟨hl1, hl2, hl3⟩ := hlv
    subst hc
    rw [show okE 0 (lookF kind st xs.length acc wr rm lv fr).2.1 = (lookF kind st xs.length acc wr rm lv fr).2.1 from if_pos rfl]
    have Hk := Lib.hid (look_any tk kind proc a b val st A xs.length c slot acc wr rm lv fr (by omega) hl1 hl2)
    clear hce ha
    generalize hL : lookF kind st xs.length acc wr rm lv fr = L at *
    clear hL
    obtain ⟨L1, L2, L3⟩ := L
    simp only at Hk
    have hfd := run_fld1
    go_enter Try.func15, Try.ntmps15
    go_wp2_with fail
    refine (Hc.out _ hg).mono ?_
    rintro e w1 ⟨rfl, hb1⟩
    have hx1 := hx.below hb1
    have hy1 := hy.below hb1
    have hw1 := below_step hw hb1
    have q0 : w1.cell? ⟨w.heap.size, 0, none⟩ = some (.int .u64 tk) := hx1.cell 0
    have q1 : w1.cell? ⟨w.heap.size, 1, none⟩ = some (.int .i64 kind) := hx1.cell 1
    have q2 : w1.cell? ⟨w.heap.size, 2, none⟩ = some (.int .i64 proc) := hx1.cell 2
    have q3 : w1.cell? ⟨w.heap.size, 3, none⟩ = some (.int .i64 a) := hx1.cell 3
    have q4 : w1.cell? ⟨w.heap.size, 4, none⟩ = some (.int .i64 b) := hx1.cell 4
    have q5 : w1.cell? ⟨w.heap.size, 5, none⟩ = some (.int .u64 val) := hx1.cell 5
    have q6 : w1.cell? ⟨w.heap.size, 6, none⟩ = some (.int .i64 st) := hx1.cell 6
    have q7 : w1.cell? ⟨w.heap.size, 7, none⟩ = some (.slice A xs.length c) := hx1.cell 7
    have q8 : w1.cell? ⟨w.heap.size, 8, none⟩ = some (.int .i64 slot) := hx1.cell 8
    have p0 : w1.cell? ⟨w.heap.size + 1, 0, none⟩ = some (.int .i64 acc) := hy1.cell 0
    have p1 : w1.cell? ⟨w.heap.size + 1, 1, none⟩ = some (.bool wr) := hy1.cell 1
    have p2 : w1.cell? ⟨w.heap.size + 1, 2, none⟩ = some (.bool rm) := hy1.cell 2
    have p3 : w1.cell? ⟨w.heap.size + 1, 3, none⟩ = some (.int .i64 lv) := hy1.cell 3
    have p4 : w1.cell? ⟨w.heap.size + 1, 4, none⟩ = some (.bool fr) := hy1.cell 4
    clear hx hy hb1 hw hg
    go_wp2_with fail
    refine (Hk.out _).mono ?_
    rintro e w2 ⟨rfl, hb2⟩
    go_wp2
    go_ret2
    exact ⟨rfl, below_step hw1 hb2⟩
  · have hc' : (ce != 0) = true := by simp [hc]
    have E := Lib.hid (show okE ce (lookF kind st xs.length acc wr rm lv fr).2.1 = 0 from if_neg hc)
    rw [E.out]
    clear hc hce ha
    go_enter Try.func15, Try.ntmps15
    go_wp2_with fail
    refine (Hc.out _ hg).mono ?_
    rintro e w1 ⟨rfl, hb1⟩
    go_wp2
    go_ret2
    exact ⟨rfl, below_step hw hb1⟩

set_option maxHeartbeats 1000000 in
theorem Needs_any (tk kind proc a b val st : Int) (A : Option Addr) (c : Nat) (xs : List Int) (slot : Int) (acc : Int) (wr rm : Bool) (lv : Int) (fr : Bool) (w : World) (ha : GI w A c xs) (ce : Int) (hce : ce = cfE tk kind proc a b val st xs slot acc lv) :
    Calls Try.prog 16 #[.agg #[.int .u64 tk, .int .i64 kind, .int .i64 proc, .int .i64 a, .int .i64 b, .int .u64 val, .int .i64 st, .slice A xs.length c, .int .i64 slot], .agg #[.int .i64 acc, .bool wr, .bool rm, .int .i64 lv, .bool fr]] w (RetB w (.returned (.tuple #[.int .i64 (okE ce (lookF kind st xs.length acc wr rm lv fr).2.2), .int .i64 ce]))) := by
  have hx := (Bx.new w 27 #[.int .u64 tk, .int .i64 kind, .int .i64 proc, .int .i64 a, .int .i64 b, .int .u64 val, .int .i64 st, .slice A xs.length c, .int .i64 slot]).alloc (.cells #[.int .i64 acc, .bool wr, .bool rm, .int .i64 lv, .bool fr] 38)
  have hy := Bx.new (w.alloc (.cells #[.int .u64 tk, .int .i64 kind, .int .i64 proc, .int .i64 a, .int .i64 b, .int .u64 val, .int .i64 st, .slice A xs.length c, .int .i64 slot] 27)) 38 #[.int .i64 acc, .bool wr, .bool rm, .int .i64 lv, .bool fr]
  rw [World.size_alloc] at hy
  have hw := below_step (al w (.cells #[.int .u64 tk, .int .i64 kind, .int .i64 proc, .int .i64 a, .int .i64 b, .int .u64 val, .int .i64 st, .slice A xs.length c, .int .i64 slot] 27)) (al _ (.cells #[.int .i64 acc, .bool wr, .bool rm, .int .i64 lv, .bool fr] 38))
  have Hc := Lib.hid (fun W (hW : GI W A c xs) => CheckFacts_any tk kind proc a b val st A c xs slot acc wr rm lv fr W hW)
  rw [← hce] at Hc
  have hg := ha.below hw
  by_cases hc : ce = 0
  · have hlv : 0 ≤ lv ∧ lv ≤ 8 ∧ xs.length ≤ 9 := by
      rw [hc] at hce
      unfold cfE at hce
      by_cases h1 : chkE tk kind proc a b val st xs slot = 0
      · rw [if_pos h1] at hce
        have h2 := chk_len _ _ _ _ _ _ _ _ _ h1
        unfold fcE at hce
        repeat' split at hce
        all_goals omega
      · rw [if_neg h1] at hce
        omega
    obtain ⟨hl1, hl2, hl3⟩ := hlv
    subst hc
    rw [show okE 0 (lookF kind st xs.length acc wr rm lv fr).2.2 = (lookF kind st xs.length acc wr rm lv fr).2.2 from if_pos rfl]
    have Hk := Lib.hid (look_any tk kind proc a b val st A xs.length c slot acc wr rm lv fr (by omega) hl1 hl2)
    clear hce ha
    generalize hL : lookF kind st xs.length acc wr rm lv fr = L at *
    clear hL
    obtain ⟨L1, L2, L3⟩ := L
    simp only at Hk
    have hfd := run_fld2
    go_enter Try.func16, Try.ntmps16
    go_wp2_with fail
    refine (Hc.out _ hg).mono ?_
    rintro e w1 ⟨rfl, hb1⟩
    have hx1 := hx.below hb1
    have hy1 := hy.below hb1
    have hw1 := below_step hw hb1
    have q0 : w1.cell? ⟨w.heap.size, 0, none⟩ = some (.int .u64 tk) := hx1.cell 0
    have q1 : w1.cell? ⟨w.heap.size, 1, none⟩ = some (.int .i64 kind) := hx1.cell 1
    have q2 : w1.cell? ⟨w.heap.size, 2, none⟩ = some (.int .i64 proc) := hx1.cell 2
    have q3 : w1.cell? ⟨w.heap.size, 3, none⟩ = some (.int .i64 a) := hx1.cell 3
    have q4 : w1.cell? ⟨w.heap.size, 4, none⟩ = some (.int .i64 b) := hx1.cell 4
    have q5 : w1.cell? ⟨w.heap.size, 5, none⟩ = some (.int .u64 val) := hx1.cell 5
    have q6 : w1.cell? ⟨w.heap.size, 6, none⟩ = some (.int .i64 st) := hx1.cell 6
    have q7 : w1.cell? ⟨w.heap.size, 7, none⟩ = some (.slice A xs.length c) := hx1.cell 7
    have q8 : w1.cell? ⟨w.heap.size, 8, none⟩ = some (.int .i64 slot) := hx1.cell 8
    have p0 : w1.cell? ⟨w.heap.size + 1, 0, none⟩ = some (.int .i64 acc) := hy1.cell 0
    have p1 : w1.cell? ⟨w.heap.size + 1, 1, none⟩ = some (.bool wr) := hy1.cell 1
    have p2 : w1.cell? ⟨w.heap.size + 1, 2, none⟩ = some (.bool rm) := hy1.cell 2
    have p3 : w1.cell? ⟨w.heap.size + 1, 3, none⟩ = some (.int .i64 lv) := hy1.cell 3
    have p4 : w1.cell? ⟨w.heap.size + 1, 4, none⟩ = some (.bool fr) := hy1.cell 4
    clear hx hy hb1 hw hg
    go_wp2_with fail
    refine (Hk.out _).mono ?_
    rintro e w2 ⟨rfl, hb2⟩
    go_wp2
    go_ret2
    exact ⟨rfl, below_step hw1 hb2⟩
  · have hc' : (ce != 0) = true := by simp [hc]
    have E := Lib.hid (show okE ce (lookF kind st xs.length acc wr rm lv fr).2.2 = 0 from if_neg hc)
    rw [E.out]
    clear hc hce ha
    go_enter Try.func16, Try.ntmps16
    go_wp2_with fail
    refine (Hc.out _ hg).mono ?_
    rintro e w1 ⟨rfl, hb1⟩
    go_wp2
    go_ret2
    exact ⟨rfl, below_step hw hb1⟩

end Go.Proofs.Ytbcfnocefjolfaa
