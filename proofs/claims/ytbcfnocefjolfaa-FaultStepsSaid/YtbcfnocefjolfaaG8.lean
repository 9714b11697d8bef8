/- The reference of fault: command. -/
import Derived.Test.YtbcfnocefjolfaaG7
namespace Go.Proofs.Ytbcfnocefjolfaa
open Go.RowKit

set_option maxHeartbeats 2000000 in
theorem sCmd_4 (proc a b val : Int) (w : World) :
    Calls Try.prog 52 #[.agg #[.int .i64 4, .int .i64 proc, .int .i64 a, .int .i64 b, .int .u64 val]] w (RetB w (.returned (.int .i64 (cmdE 4 proc a b val)))) := by
  have hx := Bx.new w 24 #[.int .i64 4, .int .i64 proc, .int .i64 a, .int .i64 b, .int .u64 val]
  have hw := al w (.cells #[.int .i64 4, .int .i64 proc, .int .i64 a, .int .i64 b, .int .u64 val] 24)
  go_enter Try.func52, Try.ntmps52
  go_wp2_with fail
  refine (used_4 proc a b val _).mono ?_
  rintro e w1 ⟨rfl, hb1⟩
  have hx1 := (hx.below hb1).alloc (.cells #[.int .i64 4, .int .i64 proc, .int .i64 a, .int .i64 b, .int .u64 0] 24)
  have hw1 := below_step hw hb1
  have q0 : (w1.alloc (.cells #[.int .i64 4, .int .i64 proc, .int .i64 a, .int .i64 b, .int .u64 0] 24)).cell? ⟨w.heap.size, 0, none⟩ = some (.int .i64 4) := hx1.cell 0
  have q1 : (w1.alloc (.cells #[.int .i64 4, .int .i64 proc, .int .i64 a, .int .i64 b, .int .u64 0] 24)).cell? ⟨w.heap.size, 1, none⟩ = some (.int .i64 proc) := hx1.cell 1
  have q2 : (w1.alloc (.cells #[.int .i64 4, .int .i64 proc, .int .i64 a, .int .i64 b, .int .u64 0] 24)).cell? ⟨w.heap.size, 2, none⟩ = some (.int .i64 a) := hx1.cell 2
  have q3 : (w1.alloc (.cells #[.int .i64 4, .int .i64 proc, .int .i64 a, .int .i64 b, .int .u64 0] 24)).cell? ⟨w.heap.size, 3, none⟩ = some (.int .i64 b) := hx1.cell 3
  have q4 : (w1.alloc (.cells #[.int .i64 4, .int .i64 proc, .int .i64 a, .int .i64 b, .int .u64 0] 24)).cell? ⟨w.heap.size, 4, none⟩ = some (.int .u64 val) := hx1.cell 4
  clear hx hw hb1 hx1
  go_wp2
  all_goals go_ret
  all_goals exact ⟨ret_int (by first | (simp_all [cmdE, procB]; done) | (simp [cmdE, procB]; omega) | (simp_all [cmdE, procB]; omega)), below_step hw1 (al _ _)⟩
set_option maxHeartbeats 2000000 in
theorem sCmd_5 (proc a b val : Int) (w : World) :
    Calls Try.prog 52 #[.agg #[.int .i64 5, .int .i64 proc, .int .i64 a, .int .i64 b, .int .u64 val]] w (RetB w (.returned (.int .i64 (cmdE 5 proc a b val)))) := by
  have hx := Bx.new w 24 #[.int .i64 5, .int .i64 proc, .int .i64 a, .int .i64 b, .int .u64 val]
  have hw := al w (.cells #[.int .i64 5, .int .i64 proc, .int .i64 a, .int .i64 b, .int .u64 val] 24)
  go_enter Try.func52, Try.ntmps52
  go_wp2_with fail
  refine (used_5 proc a b val _).mono ?_
  rintro e w1 ⟨rfl, hb1⟩
  have hx1 := (hx.below hb1).alloc (.cells #[.int .i64 5, .int .i64 proc, .int .i64 a, .int .i64 b, .int .u64 val] 24)
  have hw1 := below_step hw hb1
  have q0 : (w1.alloc (.cells #[.int .i64 5, .int .i64 proc, .int .i64 a, .int .i64 b, .int .u64 val] 24)).cell? ⟨w.heap.size, 0, none⟩ = some (.int .i64 5) := hx1.cell 0
  have q1 : (w1.alloc (.cells #[.int .i64 5, .int .i64 proc, .int .i64 a, .int .i64 b, .int .u64 val] 24)).cell? ⟨w.heap.size, 1, none⟩ = some (.int .i64 proc) := hx1.cell 1
  have q2 : (w1.alloc (.cells #[.int .i64 5, .int .i64 proc, .int .i64 a, .int .i64 b, .int .u64 val] 24)).cell? ⟨w.heap.size, 2, none⟩ = some (.int .i64 a) := hx1.cell 2
  have q3 : (w1.alloc (.cells #[.int .i64 5, .int .i64 proc, .int .i64 a, .int .i64 b, .int .u64 val] 24)).cell? ⟨w.heap.size, 3, none⟩ = some (.int .i64 b) := hx1.cell 3
  have q4 : (w1.alloc (.cells #[.int .i64 5, .int .i64 proc, .int .i64 a, .int .i64 b, .int .u64 val] 24)).cell? ⟨w.heap.size, 4, none⟩ = some (.int .u64 val) := hx1.cell 4
  clear hx hw hb1 hx1
  go_wp2
  all_goals go_ret
  all_goals exact ⟨ret_int (by first | (simp_all [cmdE, procB]; done) | (simp [cmdE, procB]; omega) | (simp_all [cmdE, procB]; omega)), below_step hw1 (al _ _)⟩
set_option maxHeartbeats 2000000 in
theorem sCmd_6 (proc a b val : Int) (w : World) :
    Calls Try.prog 52 #[.agg #[.int .i64 6, .int .i64 proc, .int .i64 a, .int .i64 b, .int .u64 val]] w (RetB w (.returned (.int .i64 (cmdE 6 proc a b val)))) := by
  have hx := Bx.new w 24 #[.int .i64 6, .int .i64 proc, .int .i64 a, .int .i64 b, .int .u64 val]
  have hw := al w (.cells #[.int .i64 6, .int .i64 proc, .int .i64 a, .int .i64 b, .int .u64 val] 24)
  go_enter Try.func52, Try.ntmps52
  go_wp2_with fail
  refine (used_6 proc a b val _).mono ?_
  rintro e w1 ⟨rfl, hb1⟩
  have hx1 := (hx.below hb1).alloc (.cells #[.int .i64 6, .int .i64 proc, .int .i64 a, .int .i64 0, .int .u64 0] 24)
  have hw1 := below_step hw hb1
  have q0 : (w1.alloc (.cells #[.int .i64 6, .int .i64 proc, .int .i64 a, .int .i64 0, .int .u64 0] 24)).cell? ⟨w.heap.size, 0, none⟩ = some (.int .i64 6) := hx1.cell 0
  have q1 : (w1.alloc (.cells #[.int .i64 6, .int .i64 proc, .int .i64 a, .int .i64 0, .int .u64 0] 24)).cell? ⟨w.heap.size, 1, none⟩ = some (.int .i64 proc) := hx1.cell 1
  have q2 : (w1.alloc (.cells #[.int .i64 6, .int .i64 proc, .int .i64 a, .int .i64 0, .int .u64 0] 24)).cell? ⟨w.heap.size, 2, none⟩ = some (.int .i64 a) := hx1.cell 2
  have q3 : (w1.alloc (.cells #[.int .i64 6, .int .i64 proc, .int .i64 a, .int .i64 0, .int .u64 0] 24)).cell? ⟨w.heap.size, 3, none⟩ = some (.int .i64 b) := hx1.cell 3
  have q4 : (w1.alloc (.cells #[.int .i64 6, .int .i64 proc, .int .i64 a, .int .i64 0, .int .u64 0] 24)).cell? ⟨w.heap.size, 4, none⟩ = some (.int .u64 val) := hx1.cell 4
  clear hx hw hb1 hx1
  go_wp2
  all_goals go_ret
  all_goals exact ⟨ret_int (by first | (simp_all [cmdE, procB]; done) | (simp [cmdE, procB]; omega) | (simp_all [cmdE, procB]; omega)), below_step hw1 (al _ _)⟩
set_option maxHeartbeats 2000000 in
theorem sCmd_1 (proc a b val : Int) (w : World) :
    Calls Try.prog 52 #[.agg #[.int .i64 1, .int .i64 proc, .int .i64 a, .int .i64 b, .int .u64 val]] w (RetB w (.returned (.int .i64 (cmdE 1 proc a b val)))) := by
  have hx := Bx.new w 24 #[.int .i64 1, .int .i64 proc, .int .i64 a, .int .i64 b, .int .u64 val]
  have hw := al w (.cells #[.int .i64 1, .int .i64 proc, .int .i64 a, .int .i64 b, .int .u64 val] 24)
  go_enter Try.func52, Try.ntmps52
  go_wp2_with fail
  refine (used_x 1 proc a b val rfl rfl rfl _).mono ?_
  rintro e w1 ⟨rfl, hb1⟩
  have hx1 := (hx.below hb1).alloc (.cells #[.int .i64 1, .int .i64 proc, .int .i64 0, .int .i64 0, .int .u64 0] 24)
  have hw1 := below_step hw hb1
  have q0 : (w1.alloc (.cells #[.int .i64 1, .int .i64 proc, .int .i64 0, .int .i64 0, .int .u64 0] 24)).cell? ⟨w.heap.size, 0, none⟩ = some (.int .i64 1) := hx1.cell 0
  have q1 : (w1.alloc (.cells #[.int .i64 1, .int .i64 proc, .int .i64 0, .int .i64 0, .int .u64 0] 24)).cell? ⟨w.heap.size, 1, none⟩ = some (.int .i64 proc) := hx1.cell 1
  have q2 : (w1.alloc (.cells #[.int .i64 1, .int .i64 proc, .int .i64 0, .int .i64 0, .int .u64 0] 24)).cell? ⟨w.heap.size, 2, none⟩ = some (.int .i64 a) := hx1.cell 2
  have q3 : (w1.alloc (.cells #[.int .i64 1, .int .i64 proc, .int .i64 0, .int .i64 0, .int .u64 0] 24)).cell? ⟨w.heap.size, 3, none⟩ = some (.int .i64 b) := hx1.cell 3
  have q4 : (w1.alloc (.cells #[.int .i64 1, .int .i64 proc, .int .i64 0, .int .i64 0, .int .u64 0] 24)).cell? ⟨w.heap.size, 4, none⟩ = some (.int .u64 val) := hx1.cell 4
  clear hx hw hb1 hx1
  go_wp2
  all_goals go_ret
  all_goals exact ⟨ret_int (by first | (simp_all [cmdE, procB]; done) | (simp [cmdE, procB]; omega) | (simp_all [cmdE, procB]; omega)), below_step hw1 (al _ _)⟩
set_option maxHeartbeats 2000000 in
theorem sCmd_x (kind proc a b val : Int) (h1 : (kind == 1) = false) (h4 : (kind == 4) = false) (h5 : (kind == 5) = false) (h6 : (kind == 6) = false) (w : World) :
    Calls Try.prog 52 #[.agg #[.int .i64 kind, .int .i64 proc, .int .i64 a, .int .i64 b, .int .u64 val]] w (RetB w (.returned (.int .i64 (cmdE kind proc a b val)))) := by
  have hx := Bx.new w 24 #[.int .i64 kind, .int .i64 proc, .int .i64 a, .int .i64 b, .int .u64 val]
  have hw := al w (.cells #[.int .i64 kind, .int .i64 proc, .int .i64 a, .int .i64 b, .int .u64 val] 24)
  go_enter Try.func52, Try.ntmps52
  go_wp2_with fail
  refine (used_x kind proc a b val h4 h5 h6 _).mono ?_
  rintro e w1 ⟨rfl, hb1⟩
  have hx1 := (hx.below hb1).alloc (.cells #[.int .i64 kind, .int .i64 proc, .int .i64 0, .int .i64 0, .int .u64 0] 24)
  have hw1 := below_step hw hb1
  have q0 : (w1.alloc (.cells #[.int .i64 kind, .int .i64 proc, .int .i64 0, .int .i64 0, .int .u64 0] 24)).cell? ⟨w.heap.size, 0, none⟩ = some (.int .i64 kind) := hx1.cell 0
  have q1 : (w1.alloc (.cells #[.int .i64 kind, .int .i64 proc, .int .i64 0, .int .i64 0, .int .u64 0] 24)).cell? ⟨w.heap.size, 1, none⟩ = some (.int .i64 proc) := hx1.cell 1
  have q2 : (w1.alloc (.cells #[.int .i64 kind, .int .i64 proc, .int .i64 0, .int .i64 0, .int .u64 0] 24)).cell? ⟨w.heap.size, 2, none⟩ = some (.int .i64 a) := hx1.cell 2
  have q3 : (w1.alloc (.cells #[.int .i64 kind, .int .i64 proc, .int .i64 0, .int .i64 0, .int .u64 0] 24)).cell? ⟨w.heap.size, 3, none⟩ = some (.int .i64 b) := hx1.cell 3
  have q4 : (w1.alloc (.cells #[.int .i64 kind, .int .i64 proc, .int .i64 0, .int .i64 0, .int .u64 0] 24)).cell? ⟨w.heap.size, 4, none⟩ = some (.int .u64 val) := hx1.cell 4
  clear hx hw hb1 hx1
  have n1 : (kind != 1) = true := by simp at h1 ⊢; exact h1
  have n4 : (kind != 4) = true := by simp at h4 ⊢; exact h4
  have n5 : (kind != 5) = true := by simp at h5 ⊢; exact h5
  have n6 : (kind != 6) = true := by simp at h6 ⊢; exact h6
  go_wp2
  all_goals go_ret
  all_goals exact ⟨ret_int (by first | (simp_all [cmdE, procB]; done) | (simp [cmdE, procB]; omega) | (simp_all [cmdE, procB]; omega)), below_step hw1 (al _ _)⟩
theorem sCmd_any (kind proc a b val : Int) (w : World) :
    Calls Try.prog 52 #[.agg #[.int .i64 kind, .int .i64 proc, .int .i64 a, .int .i64 b, .int .u64 val]] w (RetB w (.returned (.int .i64 (cmdE kind proc a b val)))) := by
  by_cases h1 : kind = 1
  · subst h1; exact sCmd_1 proc a b val w
  by_cases h4 : kind = 4
  · subst h4; exact sCmd_4 proc a b val w
  by_cases h5 : kind = 5
  · subst h5; exact sCmd_5 proc a b val w
  by_cases h6 : kind = 6
  · subst h6; exact sCmd_6 proc a b val w
  exact sCmd_x kind proc a b val (by simp [h1]) (by simp [h4]) (by simp [h5]) (by simp [h6]) w
end Go.Proofs.Ytbcfnocefjolfaa
