/- The reference of fault: small functions. -/
import Derived.Test.YtbcfnocefjolfaaG6
import Derived.Test.YtbcfnocefjolfaaZ
import Derived.RegionTactic
import Derived.ChangeAlike
import Derived.BigRegion
namespace Go.Proofs.Ytbcfnocefjolfaa
open Go.RowKit

set_option maxHeartbeats 400000 in
theorem sAccess_any (tk kind proc a b val st : Int) (A : Option Addr) (n c : Nat) (slot : Int) (w : World) :
    Calls Try.prog 53 #[.agg #[.int .u64 tk, .int .i64 kind, .int .i64 proc, .int .i64 a, .int .i64 b, .int .u64 val, .int .i64 st, .slice A n c, .int .i64 slot]] w (RetB w (.returned (.bool (accB kind)))) := by
  go_enter Try.func53, Try.ntmps53
  go_wp2
  all_goals go_ret
  all_goals exact ⟨ret_bool (by simp_all [accB]), al _ _⟩

set_option maxHeartbeats 400000 in
theorem sRoom_any (tk kind proc a b val st : Int) (A : Option Addr) (n c : Nat) (slot : Int) (w : World) :
    Calls Try.prog 44 #[.agg #[.int .u64 tk, .int .i64 kind, .int .i64 proc, .int .i64 a, .int .i64 b, .int .u64 val, .int .i64 st, .slice A n c, .int .i64 slot]] w (RetB w (.returned (.int .i64 (mostN kind)))) := by
  go_enter Try.func44, Try.ntmps44
  go_wp2
  all_goals go_ret
  all_goals exact ⟨ret_int (by simp_all [mostN]), al _ _⟩

set_option maxHeartbeats 400000 in
theorem sHas_any (A : Option Addr) (c : Nat) (xs : List Int) (x : Int) (w : World) (ha : GI w A c xs) :
    Calls Try.prog 45 #[.slice A xs.length c, .int .i64 x] w fun e w' => e = .returned (.bool (xs.contains x)) ∧ w = w' := by
  have hl := ha.len
  go_enter Try.func45, Try.ntmps45
  go_wp2
  go_loopg [5] xs.length (fun g i wx => w = wx ∧ ∃ k : Nat, g = xs.length - k ∧ k ≤ xs.length ∧ i = .int .i64 k ∧ Hid ((xs.take k).contains x = false))
  case atStart => exact ⟨rfl, 0, rfl, by omega, rfl, by show _ = _; simp⟩
  case round =>
    obtain ⟨rfl, k, rfl, hk, rfl, HQ⟩ := hrel
    by_cases hlt : k < xs.length
    · obtain ⟨ad, rfl, _, hca⟩ := ha.at_ hlt
      have Hs := Lib.hid (cont_step xs x k hlt)
      have hsym : (x == xs[k]?.getD 0) = (xs[k]?.getD 0 == x) := by rw [Bool.eq_iff_iff, beq_iff_eq, beq_iff_eq]; exact ⟨Eq.symm, Eq.symm⟩
      have hlt' : decide ((k : Int) < (xs.length : Int)) = true := by simp; omega
      clear ha
      by_cases he : (x == xs[k]?.getD 0) = true
      · have Hf := Lib.hid (show xs.contains x = true by
          have h1 : (xs.take (k + 1)).contains x = true := by rw [Hs.out, he]; simp
          rw [List.contains_iff_mem] at h1 ⊢
          exact List.mem_of_mem_take h1)
        rw [hsym] at he
        clear hsym Hs
        generalize xs[k]?.getD 0 = y at *
        go_wp2
        go_ret
        exact ⟨by rw [Hf.out]; rfl, rfl⟩
      · have he' : (x == xs[k]?.getD 0) = false := by simpa using he
        have Hn := Lib.hid (show (xs.take (k + 1)).contains x = false by rw [Hs.out, HQ.out, he']; rfl)
        rw [hsym] at he'
        clear he hsym Hs
        generalize xs[k]?.getD 0 = y at *
        go_wp2
        go_roundg (xs.length - (k + 1))
        case measure => omega
        case rel => exact ⟨rfl, k + 1, rfl, by omega, by go_num, Hn.out⟩
    · have Hf := Lib.hid (show xs.contains x = false by have := HQ.out; rwa [List.take_of_length_le (by omega)] at this)
      have hlt' : decide ((k : Int) < (xs.length : Int)) = false := by simp; omega
      go_wp2
      go_ret
      exact ⟨by rw [Hf.out]; rfl, rfl⟩
set_option maxHeartbeats 1000000 in
theorem used_4 (proc a b val : Int) (w : World) :
    Calls Try.prog 54 #[.agg #[.int .i64 4, .int .i64 proc, .int .i64 a, .int .i64 b, .int .u64 val]] w (RetB w (.returned (.agg #[.int .i64 4, .int .i64 proc, .int .i64 a, .int .i64 b, .int .u64 0]))) := by
  go_enter Try.func54, Try.ntmps54
  go_wp2
  go_region
  go_wp2
  refine bodyPost_ret (v := .agg #[.int .i64 4, .int .i64 proc, .int .i64 a, .int .i64 b, .int .u64 0]) (by simp [results, Try.results54, go_sem]) rfl ⟨rfl, ?_⟩
  (repeat (first | exact Below.refl _ _ | refine Below.drew ?_ | refine Below.setCell ?_ (by simp) _ | refine Below.alloc ?_ (by simp; try omega) _))
set_option maxHeartbeats 1000000 in
theorem used_5 (proc a b val : Int) (w : World) :
    Calls Try.prog 54 #[.agg #[.int .i64 5, .int .i64 proc, .int .i64 a, .int .i64 b, .int .u64 val]] w (RetB w (.returned (.agg #[.int .i64 5, .int .i64 proc, .int .i64 a, .int .i64 b, .int .u64 val]))) := by
  go_enter Try.func54, Try.ntmps54
  go_wp2
  go_region
  go_wp2
  refine bodyPost_ret (v := .agg #[.int .i64 5, .int .i64 proc, .int .i64 a, .int .i64 b, .int .u64 val]) (by simp [results, Try.results54, go_sem]) rfl ⟨rfl, ?_⟩
  (repeat (first | exact Below.refl _ _ | refine Below.drew ?_ | refine Below.setCell ?_ (by simp) _ | refine Below.alloc ?_ (by simp; try omega) _))
set_option maxHeartbeats 1000000 in
theorem used_6 (proc a b val : Int) (w : World) :
    Calls Try.prog 54 #[.agg #[.int .i64 6, .int .i64 proc, .int .i64 a, .int .i64 b, .int .u64 val]] w (RetB w (.returned (.agg #[.int .i64 6, .int .i64 proc, .int .i64 a, .int .i64 0, .int .u64 0]))) := by
  go_enter Try.func54, Try.ntmps54
  go_wp2
  refine bodyPost_ret (v := .agg #[.int .i64 6, .int .i64 proc, .int .i64 a, .int .i64 0, .int .u64 0]) (by simp [results, Try.results54, go_sem]) rfl ⟨rfl, ?_⟩
  (repeat (first | exact Below.refl _ _ | refine Below.drew ?_ | refine Below.setCell ?_ (by simp) _ | refine Below.alloc ?_ (by simp; try omega) _))
set_option maxHeartbeats 1000000 in
theorem used_x (kind proc a b val : Int) (h4 : (kind == 4) = false) (h5 : (kind == 5) = false) (h6 : (kind == 6) = false) (w : World) :
    Calls Try.prog 54 #[.agg #[.int .i64 kind, .int .i64 proc, .int .i64 a, .int .i64 b, .int .u64 val]] w (RetB w (.returned (.agg #[.int .i64 kind, .int .i64 proc, .int .i64 0, .int .i64 0, .int .u64 0]))) := by
  go_enter Try.func54, Try.ntmps54
  go_wp2
  refine bodyPost_ret (v := .agg #[.int .i64 kind, .int .i64 proc, .int .i64 0, .int .i64 0, .int .u64 0]) (by simp [results, Try.results54, go_sem]) rfl ⟨rfl, ?_⟩
  (repeat (first | exact Below.refl _ _ | refine Below.drew ?_ | refine Below.setCell ?_ (by simp) _ | refine Below.alloc ?_ (by simp; try omega) _))
end Go.Proofs.Ytbcfnocefjolfaa
