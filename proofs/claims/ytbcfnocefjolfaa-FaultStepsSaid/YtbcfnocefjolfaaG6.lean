/- Package fault: Most. -/
import Derived.Test.YtbcfnocefjolfaaG5
namespace Go.Proofs.Ytbcfnocefjolfaa
open Go.RowKit

/-- The steps that a request needs with such facts. -/
def ndA (kind st : Int) (n : Nat) (acc : Int) (wr : Bool) : Int := (lookF kind st n acc wr false 0 false).2.2
def mxI (kind st : Int) (n : Nat) (acc m : Int) : Nat → Int
  | 0 => m
  | 1 => max m (ndA kind st n acc false)
  | _ => max (max m (ndA kind st n acc false)) (ndA kind st n acc true)
/-- The most over the accesses up to k. -/
def mxA (kind st : Int) (n : Nat) : Nat → Int
  | 0 => 0
  | k + 1 => mxI kind st n (k + 1) (mxA kind st n k) 2
def mostV (kind st : Int) (n : Nat) : Int := if accB kind = true then mxA kind st n 8 else (lookF kind st n 0 false false 8 true).2.2

structure MoL (w : World) (B : Nat) (fs : Array Value) (wx : World) : Prop where
  box : Bx wx B 54 fs
  lo : Below w.heap.size w wx

set_option maxRecDepth 100000 in
set_option maxHeartbeats 4000000 in
theorem Most_ok (tk kind proc a b val st : Int) (A : Option Addr) (c : Nat) (xs : List Int) (slot : Int) (w : World) (ha : GI w A c xs) (hc : chkE tk kind proc a b val st xs slot = 0) :
    Calls Try.prog 17 #[.agg #[.int .u64 tk, .int .i64 kind, .int .i64 proc, .int .i64 a, .int .i64 b, .int .u64 val, .int .i64 st, .slice A xs.length c, .int .i64 slot]] w (RetB w (.returned (.tuple #[.int .i64 (mostV kind st xs.length), .int .i64 0]))) := by
  have hl := chk_len _ _ _ _ _ _ _ _ _ hc
  have hx := Bx.new w 27 #[.int .u64 tk, .int .i64 kind, .int .i64 proc, .int .i64 a, .int .i64 b, .int .u64 val, .int .i64 st, .slice A xs.length c, .int .i64 slot]
  have hw := al w (.cells #[.int .u64 tk, .int .i64 kind, .int .i64 proc, .int .i64 a, .int .i64 b, .int .u64 val, .int .i64 st, .slice A xs.length c, .int .i64 slot] 27)
  have hg := ha.below hw
  have Hc := Lib.hid (fun W (hW : GI W A c xs) => Check_any tk kind proc a b val st A c xs slot W hW)
  rw [hc] at Hc
  have hfd := run_fld2
  clear hc ha
  cases hac : accB kind
  · have E := Lib.hid (show mostV kind st xs.length = (lookF kind st xs.length 0 false false 8 true).2.2 by unfold mostV; rw [hac]; rfl)
    have Hk := Lib.hid (look_any tk kind proc a b val st A xs.length c slot 0 false false 8 true (by omega) (by omega) (by omega))
    have HA := Lib.hid hac
    clear hac
    generalize lookF kind st xs.length 0 false false 8 true = L at *
    obtain ⟨L1, L2, L3⟩ := L
    simp only at Hk E
    go_enter Try.func17, Try.ntmps17
    go_wp2_with (first | (refine wpList_load_row rfl 27 _ rfl (w.heap.size) rfl 27 _ _ _ hx Try.underlying27 rfl req_size ?_))
    refine (Hc.out _ hg).mono ?_
    rintro e w1 ⟨rfl, hb1⟩
    have hx1 := hx.below hb1
    have hw1 := below_step hw hb1
    have hn1 := Bx.new w1 54 #[.int .u64 0, .int .i64 0, .int .i64 0, .int .i64 0, .int .i64 0, .int .u64 0, .int .i64 0, .slice none 0 0, .int .i64 0]
    have hr1 := Bx.new w1 54 #[.int .u64 tk, .int .i64 kind, .int .i64 proc, .int .i64 a, .int .i64 b, .int .u64 val, .int .i64 st, .slice A xs.length c, .int .i64 slot]
    clear hx hw hg hb1
    go_wp2_with (first | (refine wpList_load_row rfl 27 _ rfl (w.heap.size) rfl 27 _ _ _ hx1 Try.underlying27 rfl req_size ?_) | (refine wpList_store_row rfl 54 _ _ rfl w1.heap.size _ rfl rfl 54 _ hn1 frq_size rfl (rq_one tk kind proc a b val st A xs.length c slot) ?_; rw [World.setRow_alloc_new]) | (refine wpList_load_row rfl 54 _ rfl (w1.heap.size) rfl 54 _ _ _ hr1 Try.underlying54 rfl frq_size ?_))
    refine (access_any tk kind proc a b val st A xs.length c slot _).mono ?_
    rintro e w2 ⟨rfl, hb2⟩
    rw [HA.out]
    have hr2 := hr1.below hb2
    go_wp2_with (first | (refine wpList_load_row rfl 54 _ rfl (w1.heap.size) rfl 54 _ _ _ hr2 Try.underlying54 rfl frq_size ?_))
    refine (Hk.out _).mono ?_
    rintro e w3 ⟨rfl, hb3⟩
    go_wp2
    go_ret2
    exact ⟨by rw [E.out]; rfl, below_step (below_step (below_step hw1 (al _ _)) hb2) hb3⟩
  · have E := Lib.hid (show mostV kind st xs.length = mxA kind st xs.length 8 by unfold mostV; rw [hac]; rfl)
    have HA := Lib.hid hac
    clear hac
    go_enter Try.func17, Try.ntmps17
    go_wp2_with (first | (refine wpList_load_row rfl 27 _ rfl (w.heap.size) rfl 27 _ _ _ hx Try.underlying27 rfl req_size ?_))
    refine (Hc.out _ hg).mono ?_
    rintro e w1 ⟨rfl, hb1⟩
    have hx1 := hx.below hb1
    have hw1 := below_step hw hb1
    have hn1 := Bx.new w1 54 #[.int .u64 0, .int .i64 0, .int .i64 0, .int .i64 0, .int .i64 0, .int .u64 0, .int .i64 0, .slice none 0 0, .int .i64 0]
    have hr1 := Bx.new w1 54 #[.int .u64 tk, .int .i64 kind, .int .i64 proc, .int .i64 a, .int .i64 b, .int .u64 val, .int .i64 st, .slice A xs.length c, .int .i64 slot]
    clear hx hw hg hb1
    go_wp2_with (first | (refine wpList_load_row rfl 27 _ rfl (w.heap.size) rfl 27 _ _ _ hx1 Try.underlying27 rfl req_size ?_) | (refine wpList_store_row rfl 54 _ _ rfl w1.heap.size _ rfl rfl 54 _ hn1 frq_size rfl (rq_one tk kind proc a b val st A xs.length c slot) ?_; rw [World.setRow_alloc_new]) | (refine wpList_load_row rfl 54 _ rfl (w1.heap.size) rfl 54 _ _ _ hr1 Try.underlying54 rfl frq_size ?_))
    refine (access_any tk kind proc a b val st A xs.length c slot _).mono ?_
    rintro e w2 ⟨rfl, hb2⟩
    rw [HA.out]
    have hr2 := hr1.below hb2
    have hw2 := below_step (below_step hw1 (al _ _)) hb2
    clear hx1 hw1 hn1 hr1 hb2 Hc HA
    generalize w1.heap.size = B5 at *
    go_wp2_with (first | (refine wpList_load_row rfl 54 _ rfl (B5) rfl 54 _ _ _ hr2 Try.underlying54 rfl frq_size ?_))
    have ix0 : ∀ W, (Instr.index 60 (.agg #[.bool false, .bool true]) (.int .i64 0)).run Try.prog W = .ok (.bool false) W := fun _ => by kernel_rfl
    have ix1 : ∀ W, (Instr.index 60 (.agg #[.bool false, .bool true]) (.int .i64 1)).run Try.prog W = .ok (.bool true) W := fun _ => by kernel_rfl
    go_loopg [6, 7] 8 (fun g m i wx => ∃ k : Nat, g = 8 - k ∧ k ≤ 8 ∧ i = .int .i64 ((k : Int) + 1) ∧ m = .int .i64 (mxA kind st xs.length k) ∧ MoL w B5 #[.int .u64 tk, .int .i64 kind, .int .i64 proc, .int .i64 a, .int .i64 b, .int .u64 val, .int .i64 st, .slice A xs.length c, .int .i64 slot] wx)
    case atStart => exact ⟨0, rfl, by omega, rfl, rfl, hr2, hw2⟩
    case round =>
      obtain ⟨k, rfl, hk, rfl, rfl, hr⟩ := hrel
      by_cases hlt : k < 8
      · have hle : decide ((k : Int) + 1 ≤ 8) = true := by simp; omega
        have HS := Lib.hid (show mxA kind st xs.length (k + 1) = mxI kind st xs.length ((k : Int) + 1) (mxA kind st xs.length k) 2 from rfl)
        generalize mxA kind st xs.length k = M at *
        obtain ⟨wo, hwo⟩ : ∃ wo : World, wo = wr := ⟨_, rfl⟩
        subst hwo
        go_wp2_with fail
        go_loopg [6, 28] 2 (fun g m i wx => ∃ j : Nat, g = 2 - j ∧ j ≤ 2 ∧ i = .int .i64 (j : Int) ∧ m = .int .i64 (mxI kind st xs.length ((k : Int) + 1) M j) ∧ MoL w B5 #[.int .u64 tk, .int .i64 kind, .int .i64 proc, .int .i64 a, .int .i64 b, .int .u64 val, .int .i64 st, .slice A xs.length c, .int .i64 slot] wx)
        case atStart => exact ⟨0, rfl, by omega, rfl, rfl, hr⟩
        case round =>
          obtain ⟨j, rfl, hj, rfl, rfl, hr⟩ := hrel
          have hbx := hr.box
          have hlo := hr.lo
          clear hr
          have hj3 : j = 0 ∨ j = 1 ∨ j = 2 := by omega
          rcases hj3 with rfl | rfl | rfl
          · have HK := Lib.hid (fun W => look_any tk kind proc a b val st A xs.length c slot ((k : Int) + 1) false false 0 false (by omega) (by omega) (by omega) W)
            have HE := Lib.hid (show mxI kind st xs.length ((k : Int) + 1) M 1 = max (mxI kind st xs.length ((k : Int) + 1) M 0) (lookF kind st xs.length ((k : Int) + 1) false false 0 false).2.2 from rfl)
            generalize lookF kind st xs.length ((k : Int) + 1) false false 0 false = L at *
            generalize mxI kind st xs.length ((k : Int) + 1) M 0 = M0 at *
            obtain ⟨L1, L2, L3⟩ := L
            simp only at HK HE
            go_wp2_with (first | (refine wpList_load_row rfl 54 _ rfl (B5) rfl 54 _ _ _ hbx Try.underlying54 rfl frq_size ?_))
            refine (HK.out _).mono ?_
            rintro e w3 ⟨rfl, hb3⟩
            go_wp2_with fail
            all_goals
              go_roundg (2 - 1)
              case measure => omega
              case rel => exact ⟨1, rfl, by omega, rfl, congrArg (Value.int .i64) (by rw [HE.out]; omega), hbx.below hb3, below_step hlo hb3⟩
          · have HK := Lib.hid (fun W => look_any tk kind proc a b val st A xs.length c slot ((k : Int) + 1) true false 0 false (by omega) (by omega) (by omega) W)
            have HE := Lib.hid (show mxI kind st xs.length ((k : Int) + 1) M 2 = max (mxI kind st xs.length ((k : Int) + 1) M 1) (lookF kind st xs.length ((k : Int) + 1) true false 0 false).2.2 from rfl)
            generalize lookF kind st xs.length ((k : Int) + 1) true false 0 false = L at *
            generalize mxI kind st xs.length ((k : Int) + 1) M 1 = M0 at *
            obtain ⟨L1, L2, L3⟩ := L
            simp only at HK HE
            go_wp2_with (first | (refine wpList_load_row rfl 54 _ rfl (B5) rfl 54 _ _ _ hbx Try.underlying54 rfl frq_size ?_))
            refine (HK.out _).mono ?_
            rintro e w3 ⟨rfl, hb3⟩
            go_wp2_with fail
            all_goals
              go_roundg (2 - 2)
              case measure => omega
              case rel => exact ⟨2, rfl, by omega, rfl, congrArg (Value.int .i64) (by rw [HE.out]; omega), hbx.below hb3, below_step hlo hb3⟩
          · rw [← HS.out]
            go_wp2_with fail
            go_roundg (8 - (k + 1))
            case measure => omega
            case rel => exact ⟨k + 1, rfl, by omega, by go_num, rfl, hbx, hlo⟩
      · have hk8 : k = 8 := by omega
        subst hk8
        have hlo := hr.lo
        go_wp2
        go_ret2
        exact ⟨by rw [E.out]; rfl, hlo⟩
end Go.Proofs.Ytbcfnocefjolfaa
