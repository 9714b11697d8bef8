/- Package fault: checkState, slices.Contains, Check. -/
import Derived.Test.YtbcfnocefjolfaaF1
namespace Go.Proofs.Ytbcfnocefjolfaa
open Go.RowKit

def lenE (lo hi n : Int) : Int := if n < lo ∨ hi < n then 5 else 0
/-- The error of a state. -/
def stE (st kind n : Int) : Int :=
  if st = 4 then (if accB kind = true then lenE 1 (mostN kind) n else 9)
  else if st = 3 then (if accB kind = true then lenE 0 (mostN kind) n else 9)
  else if st = 2 then lenE 1 (mostN kind) n
  else if st = 1 then lenE 0 0 n
  else 9

set_option maxHeartbeats 1000000 in
theorem checkState_any (tk kind proc a b val st : Int) (A : Option Addr) (n c : Nat) (slot : Int) (hn : n ≤ 9223372036854775807) (w : World) :
    Calls Try.prog 41 #[.agg #[.int .u64 tk, .int .i64 kind, .int .i64 proc, .int .i64 a, .int .i64 b, .int .u64 val, .int .i64 st, .slice A n c, .int .i64 slot]] w (RetB w (.returned (.int .i64 (stE st kind n)))) := by
  have hx := Bx.new w 54 #[.int .u64 tk, .int .i64 kind, .int .i64 proc, .int .i64 a, .int .i64 b, .int .u64 val, .int .i64 st, .slice A n c, .int .i64 slot]
  go_enter Try.func41, Try.ntmps41
  go_wp2_with fail
  refine (most_any tk kind proc a b val st A n c slot _).mono ?_
  rintro e w1 ⟨rfl, hb1⟩
  have hx1 := hx.below hb1
  have hbw := below_step (al w _) hb1
  clear hx hb1
  have q0 : w1.cell? ⟨w.heap.size, 0, none⟩ = some (.int .u64 tk) := hx1.cell 0
  have q1 : w1.cell? ⟨w.heap.size, 1, none⟩ = some (.int .i64 kind) := hx1.cell 1
  have q2 : w1.cell? ⟨w.heap.size, 2, none⟩ = some (.int .i64 proc) := hx1.cell 2
  have q3 : w1.cell? ⟨w.heap.size, 3, none⟩ = some (.int .i64 a) := hx1.cell 3
  have q4 : w1.cell? ⟨w.heap.size, 4, none⟩ = some (.int .i64 b) := hx1.cell 4
  have q5 : w1.cell? ⟨w.heap.size, 5, none⟩ = some (.int .u64 val) := hx1.cell 5
  have q6 : w1.cell? ⟨w.heap.size, 6, none⟩ = some (.int .i64 st) := hx1.cell 6
  have q7 : w1.cell? ⟨w.heap.size, 7, none⟩ = some (.slice A n c) := hx1.cell 7
  have q8 : w1.cell? ⟨w.heap.size, 8, none⟩ = some (.int .i64 slot) := hx1.cell 8
  generalize hm : mostN kind = mo
  have Hm := Lib.hid hm
  clear hm
  by_cases h4 : st = 4
  · have h4' : (st == 4) = true := by simp [h4]
    have H4 := Lib.hid h4
    clear h4
    go_wp2_with fail
    refine (access_any tk kind proc a b val st A n c slot _).mono ?_
    rintro e w2 ⟨rfl, hb2⟩
    have hx2 := hx1.below hb2
    have hbw2 := below_step hbw hb2
    have p7 : w2.cell? ⟨w.heap.size, 7, none⟩ = some (.slice A n c) := hx2.cell 7
    clear q0 q1 q2 q3 q4 q5 q6 q7 q8
    go_wp2
    all_goals go_ret
    all_goals exact ⟨ret_int (by have em := Hm.out; have e4 := H4.out; subst em; first | (simp_all [stE, lenE]; done) | (simp_all [stE, lenE]; omega)), hbw2⟩
  by_cases h4 : st = 3
  · have h4' : (st == 3) = true := by simp [h4]
    have n4 : (st == 4) = false := by simp [h4]
    have H4 := Lib.hid h4
    clear h4
    go_wp2_with fail
    refine (access_any tk kind proc a b val st A n c slot _).mono ?_
    rintro e w2 ⟨rfl, hb2⟩
    have hx2 := hx1.below hb2
    have hbw2 := below_step hbw hb2
    have p7 : w2.cell? ⟨w.heap.size, 7, none⟩ = some (.slice A n c) := hx2.cell 7
    clear q0 q1 q2 q3 q4 q5 q6 q7 q8
    go_wp2
    all_goals go_ret
    all_goals exact ⟨ret_int (by have em := Hm.out; have e4 := H4.out; subst em; first | (simp_all [stE, lenE]; done) | (simp_all [stE, lenE]; omega)), hbw2⟩
  by_cases h4 : st = 2
  · have h4' : (st == 2) = true := by simp [h4]
    have n4 : (st == 4) = false := by simp [h4]
    have n3 : (st == 3) = false := by simp [h4]
    have H4 := Lib.hid h4
    clear h4
    go_wp2
    all_goals go_ret
    all_goals exact ⟨ret_int (by have em := Hm.out; have e4 := H4.out; subst em; first | (simp_all [stE, lenE]; done) | (simp_all [stE, lenE]; omega)), hbw⟩
  by_cases h4 : st = 1
  · have h4' : (st == 1) = true := by simp [h4]
    have n4 : (st == 4) = false := by simp [h4]
    have n3 : (st == 3) = false := by simp [h4]
    have n2 : (st == 2) = false := by simp [h4]
    have H4 := Lib.hid h4
    clear h4
    go_wp2
    all_goals go_ret
    all_goals exact ⟨ret_int (by have em := Hm.out; have e4 := H4.out; subst em; first | (simp_all [stE, lenE]; done) | (simp_all [stE, lenE]; omega)), hbw⟩
  have n4 : (st == 4) = false := by simp; omega
  have n3 : (st == 3) = false := by simp; omega
  have n2 : (st == 2) = false := by simp; omega
  have n1 : (st == 1) = false := by simp; omega
  have E := Lib.hid (show stE st kind n = 9 by unfold stE; rw [if_neg (by omega), if_neg (by omega), if_neg (by omega), if_neg (by omega)])
  go_wp2
  go_ret
  exact ⟨by rw [E.out]; rfl, hbw⟩

/-- The place of x among the first k. -/
def idxTo (xs : List Int) (x : Int) (k : Nat) : Bool := (xs.take k).contains x
theorem cont_step (xs : List Int) (x : Int) (k : Nat) (h : k < xs.length) : (xs.take (k + 1)).contains x = ((xs.take k).contains x || (x == xs[k]?.getD 0)) := by
  rw [Bool.eq_iff_iff, List.contains_iff_mem, List.take_succ_eq_append_getElem h, List.mem_append, Bool.or_eq_true, List.contains_iff_mem, List.getElem?_eq_getElem h]
  simp

set_option maxHeartbeats 400000 in
theorem index_any (A : Option Addr) (c : Nat) (xs : List Int) (x : Int) (w : World) (ha : GI w A c xs) :
    Calls Try.prog 50 #[.slice A xs.length c, .int .i64 x] w fun e w' => (∃ i : Int, e = .returned (.int .i64 i) ∧ decide (0 ≤ i) = xs.contains x) ∧ w = w' := by
  have hl : xs.length ≤ 9223372036854775807 := by have := ha.1; have := ha.2.1; unfold maxLen at this; omega
  go_enter Try.func50, Try.ntmps50
  go_wp2
  go_loopg [8] xs.length (fun g i wx => w = wx ∧ ∃ k : Nat, g = xs.length - k ∧ k ≤ xs.length ∧ i = .int .i64 k ∧ Hid ((xs.take k).contains x = false))
  case atStart => exact ⟨rfl, 0, rfl, by omega, rfl, by show _ = _; simp⟩
  case round =>
    obtain ⟨rfl, k, rfl, hk, rfl, HQ⟩ := hrel
    by_cases hlt : k < xs.length
    · obtain ⟨ad, rfl, _, hca⟩ := ha.at_ hlt
      have Hs := Lib.hid (cont_step xs x k hlt)
      clear ha
      by_cases he : (x == xs[k]?.getD 0) = true
      · have Hf := Lib.hid (show xs.contains x = true by
          have h1 : (xs.take (k + 1)).contains x = true := by rw [Hs.out, he]; simp
          rw [List.contains_iff_mem] at h1 ⊢
          exact List.mem_of_mem_take h1)
        generalize xs[k]?.getD 0 = y at *
        go_wp2
        go_ret
        exact ⟨⟨(k : Int), rfl, by rw [Hf.out]; simp⟩, rfl⟩
      · have he' : (x == xs[k]?.getD 0) = false := by simpa using he
        have Hn := Lib.hid (show (xs.take (k + 1)).contains x = false by rw [Hs.out, HQ.out, he']; rfl)
        clear he
        generalize xs[k]?.getD 0 = y at *
        go_wp2
        go_roundg (xs.length - (k + 1))
        case measure => omega
        case rel => exact ⟨rfl, k + 1, rfl, by omega, by go_num, Hn.out⟩
    · have Hf := Lib.hid (show xs.contains x = false by have := HQ.out; rwa [List.take_of_length_le (by omega)] at this)
      go_wp2
      go_ret
      exact ⟨⟨-1, rfl, by rw [Hf.out]; rfl⟩, rfl⟩

set_option maxHeartbeats 400000 in
theorem contains_any (A : Option Addr) (c : Nat) (xs : List Int) (x : Int) (w : World) (ha : GI w A c xs) :
    Calls Try.prog 39 #[.slice A xs.length c, .int .i64 x] w fun e w' => e = .returned (.bool (xs.contains x)) ∧ w = w' := by
  have Hi := Lib.hid (index_any A c xs x w ha)
  clear ha
  generalize xs.contains x = q at *
  go_enter Try.func39, Try.ntmps39
  go_wp2_with fail
  refine Hi.out.mono ?_
  rintro e w' ⟨⟨i, rfl, hi⟩, rfl⟩
  have Hii := Lib.hid hi
  clear hi
  go_wp2
  go_ret
  exact ⟨ret_bool Hii.out, rfl⟩
end Go.Proofs.Ytbcfnocefjolfaa
