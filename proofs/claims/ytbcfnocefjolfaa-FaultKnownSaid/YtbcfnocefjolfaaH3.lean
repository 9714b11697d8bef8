/- The statement FaultLowers. -/
import Derived.Test.YtbcfnocefjolfaaE2
import Derived.Test.YtbcfnocefjolfaaH2
namespace Go.Proofs.Ytbcfnocefjolfaa
open Go.RowKit
set_option linter.unusedVariables false

set_option maxHeartbeats 400000 in
theorem has_any (A : Option Addr) (c : Nat) (xs : List Int) (x : Int) (w : World) (ha : GI w A c xs) :
    Calls Try.prog 19 #[.slice A xs.length c, .int .i64 x] w fun e w' => e = .returned (.bool (xs.contains x)) ∧ w = w' := by
  have hl := ha.len
  go_enter Try.func19, Try.ntmps19
  go_wp2
  go_loopg [5] xs.length (fun g i wx => w = wx ∧ ∃ k : Nat, g = xs.length - k ∧ k ≤ xs.length ∧ i = .int .i64 k ∧ Hid ((xs.take k).contains x = false))
  case atStart => exact ⟨rfl, 0, rfl, by omega, rfl, by show _ = _; simp⟩
  case round =>
    obtain ⟨rfl, k, rfl, hk, rfl, HQ⟩ := hrel
    by_cases hlt : k < xs.length
    · obtain ⟨ad, rfl, _, hca⟩ := ha.at_ hlt
      have Hs := Lib.hid (cont_step xs x k hlt)
      have hsym : (x == xs[k]?.getD 0) = (xs[k]?.getD 0 == x) := by rw [Bool.eq_iff_iff, beq_iff_eq, beq_iff_eq]; exact ⟨Eq.symm, Eq.symm⟩
      have hlt' : decide ((k : Int) < (xs.length : Int)) = true := by simp; omega
      clear ha
      by_cases he : (x == xs[k]?.getD 0) = true
      · have Hf := Lib.hid (show xs.contains x = true by
          have h1 : (xs.take (k + 1)).contains x = true := by rw [Hs.out, he]; simp
          rw [List.contains_iff_mem] at h1 ⊢
          exact List.mem_of_mem_take h1)
        rw [hsym] at he
        clear hsym Hs
        generalize xs[k]?.getD 0 = y at *
        go_wp2
        go_ret
        exact ⟨by rw [Hf.out]; rfl, rfl⟩
      · have he' : (x == xs[k]?.getD 0) = false := by simpa using he
        have Hn := Lib.hid (show (xs.take (k + 1)).contains x = false by rw [Hs.out, HQ.out, he']; rfl)
        rw [hsym] at he'
        clear he hsym Hs
        generalize xs[k]?.getD 0 = y at *
        go_wp2
        go_roundg (xs.length - (k + 1))
        case measure => omega
        case rel => exact ⟨rfl, k + 1, rfl, by omega, by go_num, Hn.out⟩
    · have Hf := Lib.hid (show xs.contains x = false by have := HQ.out; rwa [List.take_of_length_le (by omega)] at this)
      have hlt' : decide ((k : Int) < (xs.length : Int)) = false := by simp; omega
      go_wp2
      go_ret
      exact ⟨by rw [Hf.out]; rfl, rfl⟩

noncomputable def lw7_l : List Oper := (Try.f5.body.bind (regIn · 7)).getD []
theorem lw7_o0 : lw7_l[0]?.map (fun o => (o.dst, o.op, o.guard)) = some (some 42, .load 27 (.tmp 9), none) := by kernel_rfl
theorem lw7_o1 : lw7_l[1]?.map (fun o => (o.dst, o.op, o.guard)) = some (some 43, .move (.tmp 3), none) := by kernel_rfl
theorem lw7_o2 : lw7_l[2]?.map (fun o => (o.dst, o.op, o.guard)) = some (some 44, .call { callee := .value (.func 10), args := #[(.tmp 43), (.const (.int .i64 256))], argTypes := #[3, 3] }, none) := by kernel_rfl
theorem lw7_o3 : lw7_l[3]?.map (fun o => (o.dst, o.op, o.guard)) = some (some 15, .alloc 27, none) := by kernel_rfl
theorem lw7_o4 : lw7_l[4]?.map (fun o => (o.dst, o.op, o.guard)) = some (none, .store 27 (.tmp 15) (.tmp 42), none) := by kernel_rfl
theorem lw7_o5 : lw7_l[5]?.map (fun o => (o.dst, o.op, o.guard)) = some (some 16, .assign (.tmp 44), none) := by kernel_rfl
def lw7_sp (tk kind proc a b val st : Int) (A : Option Addr) (c : Nat) (xs : List Int) (sl slot : Int) (B9 : Nat) (W : World) : Nat → Spec
  | 0 => ⟨Unit, [42], fun _ => [(42, .agg #[.int .u64 tk, .int .i64 kind, .int .i64 proc, .int .i64 a, .int .i64 b, .int .u64 val, .int .i64 st, .slice A xs.length c, .int .i64 0])], fun _ _ => True⟩
  | 1 => ⟨Unit, [43], fun _ => [(43, .int .i64 slot)], fun _ _ => True⟩
  | 2 => ⟨Unit, [44], fun _ => [(44, .int .i64 sl)], fun _ _ => True⟩
  | 3 => ⟨Nat, [15], fun Bn => [(15, .pointer (some ⟨Bn, 0, none⟩))], fun Bn w => (∃ cs, Bx w Bn 27 cs ∧ cs.size = 9) ∧ W.heap.size ≤ Bn⟩
  | 4 => ⟨Nat, [15], fun Bn => [(15, .pointer (some ⟨Bn, 0, none⟩))], fun Bn w => Bx w Bn 27 #[.int .u64 tk, .int .i64 kind, .int .i64 proc, .int .i64 a, .int .i64 b, .int .u64 val, .int .i64 st, .slice A xs.length c, .int .i64 0] ∧ W.heap.size ≤ Bn⟩
  | 5 => ⟨Unit, [16], fun _ => [(16, .int .i64 sl)], fun _ _ => True⟩
  | _ => ⟨Unit, [], fun _ => [], fun _ _ => True⟩
theorem lw7_fb (tk kind proc a b val st : Int) (A : Option Addr) (c : Nat) (xs : List Int) (sl slot : Int) (B9 : Nat) (W : World) : slB lw7_l (fun j => (lw7_sp tk kind proc a b val st A c xs sl slot B9 W j).ss) = true := by kernel_rfl
set_option maxHeartbeats 2000000 in
theorem lw7 {Q : Exit → Act → World → Prop} {a0 : Act} {W : World} (tk kind proc a b val st : Int) (A : Option Addr) (c : Nat) (xs : List Int) (sl slot : Int) (B9 : Nat)  (z0 : a0.tmps.size = 116) (p3 : Sv a0 3 (.int .i64 slot)) (p9 : Sv a0 9 (.pointer (some ⟨B9, 0, none⟩))) (hx : Bx W B9 27 #[.int .u64 tk, .int .i64 kind, .int .i64 proc, .int .i64 a, .int .i64 b, .int .u64 val, .int .i64 st, .slice A xs.length c, .int .i64 0]) (Hsl : Hid (slot % 256 = sl))
    (fin : ∀ ac w, Fr a0 lw7_l ac → Below W.heap.size W w → (∃ Bn : Nat, Sv ac 15 (.pointer (some ⟨Bn, 0, none⟩)) ∧ Bx w Bn 27 #[.int .u64 tk, .int .i64 kind, .int .i64 proc, .int .i64 a, .int .i64 b, .int .u64 val, .int .i64 st, .slice A xs.length c, .int .i64 0] ∧ W.heap.size ≤ Bn) → (Sv ac 16 (.int .i64 sl)) → Q .normal ac w) : (Code.region 7 lw7_l.toArray true).wp Try.prog Q a0 W := by
  refine region_of (n := 6) (by kernel_rfl) (by kernel_rfl) (by kernel_rfl) (lw7_sp tk kind proc a b val st A c xs sl slot B9 W) (lw7_fb tk kind proc a b val st A c xs sl slot B9 W) (fun w => Below W.heap.size W w) (stpN 27 [4]) (bel0 W) ?_ ?_ ?_
  · intro i hi ac w hF hI hk
    have z := hF.1.trans z0
    have f3 := hF.sv (s := 3) (by kernel_rfl) p3
    have f9 := hF.sv (s := 9) (by kernel_rfl) p9
    match i, hi with
    | 0, _ =>
      exact ob_val (v := .agg #[.int .u64 tk, .int .i64 kind, .int .i64 proc, .int .i64 a, .int .i64 b, .int .u64 val, .int .i64 st, .slice A xs.length c, .int .i64 0]) lw7_o0 (.inl rfl) (ev_row f9.eval (hx.below hI) Try.underlying27 rfl (n := 9) (by kernel_rfl) rfl) ⟨⟨_, rfl⟩, hI, Below.refl _ _, ⟨(), rfl, sv1 (Sv.dst (by kernel_rfl) (by rw [z]; decide) _), trivial⟩⟩
    | 1, _ =>
      exact ob_val (v := .int .i64 slot) lw7_o1 (.inl rfl) (ev_move f3.eval) ⟨⟨_, rfl⟩, hI, Below.refl _ _, ⟨(), rfl, sv1 (Sv.dst (by kernel_rfl) (by rw [z]; decide) _), trivial⟩⟩
    | 2, _ =>
      obtain ⟨⟨⟩, -, hs1, hw1⟩ := hk 1 (mem_reach (by kernel_rfl))
      have f43 : Sv ac 43 (.int .i64 slot) := hs1 _ (List.Mem.head _)
      refine ob_call (f := 10) (args := #[.int .i64 slot, .int .i64 256]) (w' := w) (R := fun v w'' => v = .int .i64 sl ∧ True ∧ Below w.heap.size w w'') lw7_o2 (.inl rfl) (fun o ho => ?_) ((mod_any slot 256 (by omega) (by omega) w).mono ?_) ?_
      · have e : execOp ac.eval o = (do let d ← resolve ac.eval { callee := .value (.func 10), args := #[(.tmp 43), (.const (.int .i64 256))], argTypes := #[3, 3] } o.type; invoke d.target d.args) := by simp only [execOp, ho]
        have e43 := f43.eval
        have ef : ac.eval (.func 10) = .func (.func 10) #[] #[] := rfl
        have ec : ac.eval (.const (.int .i64 256)) = .int .i64 256 := rfl
        rw [e]
        generalize ac.eval = ρ at *
        simp [ef, e43, ec, go_sem]
      · rintro e w' ⟨rfl, rfl⟩; exact ⟨_, rfl, by rw [Hsl.out], trivial, Below.refl _ _⟩
      · rintro v w2 ⟨rfl, hwd, hb⟩
        exact ⟨⟨_, rfl⟩, below_step hI hb, hb, ⟨(), rfl, sv1 (Sv.dst (by kernel_rfl) (by rw [z]; decide) _), hwd⟩⟩
    | 3, _ =>
      refine ob_val (v := .pointer (some ⟨w.heap.size, 0, none⟩)) (w' := w.alloc (.cells #[.int .u64 0, .int .i64 0, .int .i64 0, .int .i64 0, .int .i64 0, .int .u64 0, .int .i64 0, .slice none 0 0, .int .i64 0] 27)) lw7_o3 (.inl rfl) (fun o ho => by simp [execOp, ho, go_sem]) ⟨⟨_, rfl⟩, below_step hI (al _ _), al _ _, ?_⟩
      exact ⟨w.heap.size, rfl, sv1 (Sv.dst (by kernel_rfl) (by rw [z]; decide) _), ⟨⟨_, Bx.new w _ _, rfl⟩, hI.size⟩⟩
    | 4, _ =>
      obtain ⟨Bn, -, hs3, hw3⟩ := hk 3 (mem_reach (by kernel_rfl))
      have f15 : Sv ac 15 (.pointer (some ⟨Bn, 0, none⟩)) := hs3 _ (List.Mem.head _)
      obtain ⟨⟨⟩, -, hs0, hw0⟩ := hk 0 (mem_reach (by kernel_rfl))
      have f42 : Sv ac 42 (.agg #[.int .u64 tk, .int .i64 kind, .int .i64 proc, .int .i64 a, .int .i64 b, .int .u64 val, .int .i64 st, .slice A xs.length c, .int .i64 0]) := hs0 _ (List.Mem.head _)
      obtain ⟨⟨cs0, hb0, hz0⟩, hlow⟩ := hw3
      refine ob_skip (w' := w.setRow Bn #[.int .u64 tk, .int .i64 kind, .int .i64 proc, .int .i64 a, .int .i64 b, .int .u64 val, .int .i64 st, .slice A xs.length c, .int .i64 0]) lw7_o4 (.inl rfl) (ev_srow f15.eval f42.eval hb0 (n := 9) (by kernel_rfl) rfl hz0 (by simp [Value.oneCell'])) ⟨⟨_, rfl⟩, below_setRow hI ?_ _, ⟨Bn, cs0, _, hb0, by rw [hz0]; rfl, rfl⟩, ?_⟩
      · exact hlow
      · exact ⟨Bn, rfl, sv1 f15, ⟨hb0.row _, hlow⟩⟩
    | 5, _ =>
      obtain ⟨⟨⟩, -, hs2, hw2⟩ := hk 2 (mem_reach (by kernel_rfl))
      have f44 : Sv ac 44 (.int .i64 sl) := hs2 _ (List.Mem.head _)
      exact ob_val (v := .int .i64 sl) lw7_o5 (.inl rfl) (ev_assign f44.eval) ⟨⟨_, rfl⟩, hI, Below.refl _ _, ⟨(), rfl, sv1 (Sv.dst (by kernel_rfl) (by rw [z]; decide) _), trivial⟩⟩
    | k + 6, h => exact absurd h (by omega)
  · intro i j hi hj hij x w w' hI hst hw
    match j, hj, x, hw with
    | 0, _, _, _ => exact trivial
    | 1, _, _, _ => exact trivial
    | 2, _, _, _ => exact trivial
    | 3, _, Bn, hw => exact ⟨hst.box hw.1, hw.2⟩
    | 4, _, Bn, hw => exact ⟨hw.1.below (hst.low (by simp; omega)), hw.2⟩
    | 5, _, _, _ => exact trivial
    | k + 6, h, _, _ => exact absurd h (by omega)
  · intro ac w hF hI hall
    obtain ⟨Bn, -, hs4, hw4⟩ := hall 4 (by omega)
    have g4 : (∃ Bn : Nat, Sv ac 15 (.pointer (some ⟨Bn, 0, none⟩)) ∧ Bx w Bn 27 #[.int .u64 tk, .int .i64 kind, .int .i64 proc, .int .i64 a, .int .i64 b, .int .u64 val, .int .i64 st, .slice A xs.length c, .int .i64 0] ∧ W.heap.size ≤ Bn) := ⟨Bn, hs4 _ (List.Mem.head _), hw4⟩
    obtain ⟨⟨⟩, -, hs5, hw5⟩ := hall 5 (by omega)
    have g5 : (Sv ac 16 (.int .i64 sl)) := hs5 _ (List.Mem.head _)
    exact fin ac w hF hI g4 g5

set_option maxRecDepth 100000 in
set_option maxHeartbeats 8000000 in
theorem FaultLowers_walk (n fs kk slot : Int) (w : World) : Calls Try.prog 5 #[.int .i64 n, .int .i64 fs, .int .i64 kk, .int .i64 slot] w (RetB w (.returned (.bool true))) := by
  obtain ⟨sl, hsl⟩ : ∃ sl, slot % 256 = sl := ⟨_, rfl⟩
  have hs0 : 0 ≤ sl := by omega
  have hs1 : sl < 256 := by omega
  have Hsl := Lib.hid hsl
  have HAW := Lib.hid awake_any
  clear hsl
  go_enter Try.func5, Try.ntmps5
  go_wp2_with fail
  refine (made_f n fs w).mono ?_
  rintro e w1 ⟨tk, kind, proc, a, b, val, xs, st, A, c, rfl, hown, hb1, hM⟩
  have hn := Bx.new w1 27 #[.int .u64 0, .int .i64 0, .int .i64 0, .int .i64 0, .int .i64 0, .int .u64 0, .int .i64 0, .slice none 0 0, .int .i64 0]
  have hx := Bx.new w1 27 #[.int .u64 tk, .int .i64 kind, .int .i64 proc, .int .i64 a, .int .i64 b, .int .u64 val, .int .i64 st, .slice A xs.length c, .int .i64 0]
  have hg := hown.gi.alloc (.cells #[.int .u64 tk, .int .i64 kind, .int .i64 proc, .int .i64 a, .int .i64 b, .int .u64 val, .int .i64 st, .slice A xs.length c, .int .i64 0] 27)
  have hw := below_step hb1 (al w1 (.cells #[.int .u64 tk, .int .i64 kind, .int .i64 proc, .int .i64 a, .int .i64 b, .int .u64 val, .int .i64 st, .slice A xs.length c, .int .i64 0] 27))
  have hB9 := hb1.size
  have hownW := hown.alloc (.cells #[.int .u64 tk, .int .i64 kind, .int .i64 proc, .int .i64 a, .int .i64 b, .int .u64 val, .int .i64 st, .slice A xs.length c, .int .i64 0] 27)
  clear hown hb1
  go_wp2_with (first | (refine wpList_load_row rfl 27 _ rfl (w1.heap.size) rfl 27 _ _ _ hx Try.underlying27 rfl req_size ?_) | (refine wpList_store_row rfl 27 _ _ rfl w1.heap.size _ rfl rfl 27 _ hn req_size rfl (by simp [Value.oneCell']) ?_; rw [World.setRow_alloc_new]; simp only [Act.put]))
  refine (facts_f tk kind proc a b val st A c xs 0 kk _).mono ?_
  rintro e w2 ⟨acc, wr, rm, lv, fr, rfl, hfc, hb2⟩
  have hx2 := (hx.below hb2).alloc (.cells #[.int .i64 acc, .bool wr, .bool rm, .int .i64 lv, .bool fr] 38)
  have hown2 := (hownW.below hb2).alloc (.cells #[.int .i64 acc, .bool wr, .bool rm, .int .i64 lv, .bool fr] 38)
  have hg2 := (hg.below hb2).alloc (.cells #[.int .i64 acc, .bool wr, .bool rm, .int .i64 lv, .bool fr] 38)
  have hw2 := below_step (below_step hw hb2) (al w2 (.cells #[.int .i64 acc, .bool wr, .bool rm, .int .i64 lv, .bool fr] 38))
  have hy2 := Bx.new w2 38 #[.int .i64 acc, .bool wr, .bool rm, .int .i64 lv, .bool fr]
  have hn2 := Bx.new w2 38 #[.int .i64 0, .bool false, .bool false, .int .i64 0, .bool false]
  have hce : (0 : Int) = cfE tk kind proc a b val st xs 0 acc lv := by unfold cfE; rw [if_pos hM.ok, hfc]
  have HN := Lib.hid (fun W (hW : GI W A c xs) => Next_any tk kind proc a b val st A c xs 0 acc wr rm lv fr W hW 0 hce)
  have HD := Lib.hid (fun W (hW : GI W A c xs) => Needs_any tk kind proc a b val st A c xs 0 acc wr rm lv fr W hW 0 hce)
  have hlow := low_of (wr := wr) (rm := rm) (fr := fr) hM.kd hM.l9 hM.l1 hM.st_ hfc
  have hen := ends_of (wr := wr) (rm := rm) (fr := fr) (st := st) hM.kd hM.l9 hfc
  rw [show okE 0 (lookF kind st xs.length acc wr rm lv fr).2.1 = (lookF kind st xs.length acc wr rm lv fr).2.1 from if_pos rfl] at HN
  rw [show okE 0 (lookF kind st xs.length acc wr rm lv fr).2.2 = (lookF kind st xs.length acc wr rm lv fr).2.2 from if_pos rfl] at HD
  generalize (lookF kind st xs.length acc wr rm lv fr).2.1 = nx at *
  generalize (lookF kind st xs.length acc wr rm lv fr).2.2 = nd at *
  have hnd1 : 1 ≤ nd := hen.lo
  have hnd2 : nd ≤ 10 := by have := hen.hi; have := hen.m10; omega
  have hB10 : w.heap.size ≤ w2.heap.size := by have := hb2.size; rw [World.size_alloc] at this; omega
  clear hn hx hg hw hb2 hce hen hB9
  go_wp2_with (first | (refine wpList_load_row rfl 27 _ rfl (w1.heap.size) rfl 27 _ _ _ hx2 Try.underlying27 rfl req_size ?_) | (refine wpList_load_row rfl 38 _ rfl (w2.heap.size) rfl 38 _ _ _ hy2 Try.underlying38 rfl fac_size ?_) | (refine wpList_store_row rfl 38 _ _ rfl w2.heap.size _ rfl rfl 38 _ hn2 fac_size rfl (by simp [Value.oneCell']) ?_; rw [World.setRow_alloc_new]; simp only [Act.put]))
  refine (HN.out _ hg2).mono ?_
  rintro e w11 ⟨rfl, hb11⟩
  have hx11 := hx2.below hb11
  have hy11 := hy2.below hb11
  have hg11 := hg2.below hb11
  have hown11 := hown2.below hb11
  have hw11 := below_step hw2 hb11
  generalize w2.heap.size = B10 at *
  generalize w1.heap.size = B9 at *
  clear hx2 hy2 hg2 hw2 hb11 hn2 hown2 hownW
  go_wp2_with (first | (refine wpList_load_row rfl 27 _ rfl (B9) rfl 27 _ _ _ hx11 Try.underlying27 rfl req_size ?_) | (refine wpList_load_row rfl 38 _ rfl (B10) rfl 38 _ _ _ hy11 Try.underlying38 rfl fac_size ?_))
  refine (HD.out _ hg11).mono ?_
  rintro e w12 ⟨rfl, hb12⟩
  have hx12 := hx11.below hb12
  have hy12 := hy11.below hb12
  have hg12 := hg11.below hb12
  have hown12 := hown11.below hb12
  have hw12 := below_step hw11 hb12
  clear hx11 hy11 hg11 hw11 hb12 HN HD hown11
  go_upto_region 7 with fail
  rename_i K hK
  refine lw7 (W := w12) tk kind proc a b val st A c xs sl slot B9 rfl rfl rfl hx12 Hsl ?_
  rintro a' w3 hF hb3 ⟨B15, f15, hb15, hlow15⟩ f16
  refine hK _ _ ?_
  obtain ⟨fv, hfv, hfr⟩ := hF.lit [42, 43, 44, 15, 16] (dsts_in (by kernel_rfl))
  have ev15 := hfv 15 _ f15
  have ev16 := hfv 16 _ f16
  subst hfr
  simp only [List.foldl_cons, List.foldl_nil, Act.put, List.setIfInBounds_toArray, List.set_cons_zero, List.set_cons_succ, ev15, ev16]
  clear hfv hF ev15 ev16 f15 f16
  generalize fv 42 = u42
  generalize fv 43 = u43
  generalize fv 44 = u44
  clear fv
  clear hK K
  have hx3 := hx12.below hb3
  have hy3 := hy12.below hb3
  have hg3 := hg12.below hb3
  have hown3 := hown12.below hb3
  have hw3 := below_step hw12 hb3
  have h1015 : B10 ≠ B15 := by have := hy12.lt; omega
  have hB15 : w.heap.size ≤ B15 := by have := hw12.size; omega
  have hl9 := hM.l9
  have hl1 := hM.l1
  have hst := hM.st_
  have hMok := hM.ok
  clear hx12 hy12 hg12 hown12 hw12 hb3 hlow15
  obtain ⟨N, hN, hc0, hc1⟩ := free_at sl xs hs0 hs1 hl9
  have c7 : w3.cell? ⟨B9, 7, none⟩ = some (.slice A xs.length c) := hx3.cell 7
  have HC0 := Lib.hid hc0
  have HC1 := Lib.hid hc1
  have Hst := Lib.hid hst
  have HMok := Lib.hid hMok
  have Hfc := Lib.hid hfc
  have HM := Lib.hid hM
  have Hlow := Lib.hid hlow
  have Hl1 := Lib.hid hl1
  clear hc0 hc1 Hsl hst hMok hfc hM hlow hl1
  go_wp2_with fail
  go_loopg [16] N (fun g i wx => ∃ j : Nat, g = N - j ∧ j ≤ N ∧ i = .int .i64 ((sl + j) % 256) ∧ w3 = wx)
  case atStart => exact ⟨0, rfl, by omega, congrArg (Value.int .i64) (by omega), rfl⟩
  case round =>
    obtain ⟨j, rfl, hj, rfl, rfl⟩ := hrel
    by_cases hlt : j < N
    · have HH := Lib.hid (HC1.out j hlt)
      have hp0 : 0 ≤ (sl + j) % 256 := by omega
      have hp1 : (sl + j) % 256 < 256 := by omega
      have HP := Lib.hid (show ((sl + j) % 256 + 1) % 256 = (sl + ((j + 1 : Nat) : Int)) % 256 by omega)
      generalize (sl + (j : Int)) % 256 = p at *
      go_wp2_with (first | (go_at_call 19; refine (has_any A c xs _ _ hg3).mono ?_; rintro e w' ⟨rfl, rfl⟩; rw [HH.out]))
      go_roundg (N - (j + 1))
      case measure => omega
      case rel => exact ⟨j + 1, rfl, by omega, by rw [HP.out], rfl⟩
    · have hjN : j = N := by omega
      subst hjN
      have hp0 : 0 ≤ (sl + j) % 256 := by omega
      have hp1 : (sl + j) % 256 < 256 := by omega
      generalize (sl + (j : Int)) % 256 = p at *
      have hfp : frB p = true := by simp [frB]; omega
      have Hfp := Lib.hid hfp
      clear hfp
      go_wp2_with fail
      refine (has_any A c xs p _ hg3).mono ?_
      rintro e w' ⟨rfl, rfl⟩
      rw [HC0.out]
      cases Hlow.out
      case page h ha hn0 hd =>
        subst h
        have hmo : mostN kind = 1 := by unfold mostN; rw [if_neg (by intro e; subst e; simp [accB] at ha)]
        have hge : giveE tk kind proc a b val st xs 0 p = 0 := by
          unfold giveE
          rw [if_neg (by simp [HMok.out]), if_neg (by have := loseS_12 xs.length; rw [← Hst.out] at this; omega), if_neg (by rw [hmo]; omega), if_pos Hfp.out, if_neg (by rw [HC0.out]; simp)]
        have hgo := give_ok HMok.out (p := p) (by rw [hmo]; omega) Hfp.out HC0.out
        have hfc := Hfc.out
        have HK1 := Lib.hid hd
        clear ha hn0 hd hmo
        obtain ⟨st', sl', ys, est, esl, eys⟩ : ∃ st' sl' ys, st' = (2 : Int) ∧ sl' = (0 : Int) ∧ ys = xs ++ [p] := ⟨_, _, _, rfl, rfl, rfl⟩
        obtain ⟨acc', eacc⟩ : ∃ acc', acc' = acc := ⟨_, rfl⟩
        have HG : Hid (∀ W, GI W A c xs → Calls Try.prog 20 #[.agg #[.int .u64 tk, .int .i64 kind, .int .i64 proc, .int .i64 a, .int .i64 b, .int .u64 val, .int .i64 st, .slice A xs.length c, .int .i64 0], .int .i64 p] W (RetR W tk kind proc a b val st' ys sl' 0)) := Lib.hid (by
          intro W hW
          rw [est, esl, eys]
          exact Give_ok tk kind proc a b val st A c xs 0 p W hW hge)
        have hok2 : chkE tk kind proc a b val st' ys sl' = 0 := by rw [est, esl, eys]; exact hgo
        have hce2 : (0 : Int) = cfE tk kind proc a b val st' ys sl' acc' lv := by unfold cfE; rw [if_pos hok2, eacc, hfc]
        have hd : (lookF kind st' ys.length acc' wr rm lv fr).2.2 = nd - 1 := by rw [est, eys, eacc]; exact (by rw [List.length_append]; exact HK1.out)
        have hy3' : Bx w3 B10 38 #[.int .i64 acc', .bool wr, .bool rm, .int .i64 lv, .bool fr] := by rw [eacc]; exact hy3
        have Hok2 := Lib.hid hok2
        have Hce2 := Lib.hid hce2
        have Hd := Lib.hid hd
        clear est esl eys eacc hfc hok2 hce2 hd hgo
        try clear hge
        try clear hwe
        go_wp2_with (first | (refine wpList_load_row rfl 27 _ rfl (B9) rfl 27 _ _ _ hx3 Try.underlying27 rfl req_size ?_))
        refine (HG.out _ hg3).mono ?_
        rintro e w20 ⟨A', c', rfl, hownT, hb20⟩
        have hx20 := hb15.below hb20
        have hxT : Bx (w20.setRow B15 #[.int .u64 tk, .int .i64 kind, .int .i64 proc, .int .i64 a, .int .i64 b, .int .u64 val, .int .i64 st', .slice A' ys.length c', .int .i64 sl']) B15 27 #[.int .u64 tk, .int .i64 kind, .int .i64 proc, .int .i64 a, .int .i64 b, .int .u64 val, .int .i64 st', .slice A' ys.length c', .int .i64 sl'] := hx20.row _
        have hyT : Bx (w20.setRow B15 #[.int .u64 tk, .int .i64 kind, .int .i64 proc, .int .i64 a, .int .i64 b, .int .u64 val, .int .i64 st', .slice A' ys.length c', .int .i64 sl']) B10 38 #[.int .i64 acc', .bool wr, .bool rm, .int .i64 lv, .bool fr] := (hy3'.below hb20).rowO h1015 _
        have hgT : GI (w20.setRow B15 #[.int .u64 tk, .int .i64 kind, .int .i64 proc, .int .i64 a, .int .i64 b, .int .u64 val, .int .i64 st', .slice A' ys.length c', .int .i64 sl']) A' c' ys := OwnI.gi (show OwnI _ w3.heap.size A' ys.length c' ys from hownT.rowT hx20 (by decide) _)
        have hwT := below_setRow (below_step hw3 hb20) hB15 #[.int .u64 tk, .int .i64 kind, .int .i64 proc, .int .i64 a, .int .i64 b, .int .u64 val, .int .i64 st', .slice A' ys.length c', .int .i64 sl']
        go_upto_region 22 with (first | (refine wpList_store_row rfl 27 _ _ rfl B15 _ rfl rfl 27 _ hx20 req_size rfl (by simp [Value.oneCell']) ?_; simp only [Act.put]))
        generalize w20.setRow B15 #[.int .u64 tk, .int .i64 kind, .int .i64 proc, .int .i64 a, .int .i64 b, .int .u64 val, .int .i64 st', .slice A' ys.length c', .int .i64 sl'] = w4 at *
        clear hx20 hownT hb20

        have HD2 := Lib.hid (fun W (hW : GI W A' c' ys) => Needs_any tk kind proc a b val st' A' c' ys sl' acc' wr rm lv fr W hW 0 Hce2.out)
        rw [show okE 0 (lookF kind st' ys.length acc' wr rm lv fr).2.2 = nd - 1 from (if_pos rfl).trans Hd.out] at HD2
        have HCK := Lib.hid (fun W (hW : GI W A' c' ys) => Check_any tk kind proc a b val st' A' c' ys sl' W hW)
        rw [Hok2.out] at HCK
        have hnd : (nd - 1 == nd - 1) = true := by simp
        clear Hce2 Hok2 Hd
        go_wp2_with (first | (refine wpList_load_row rfl 27 _ rfl (B15) rfl 27 _ _ _ hxT Try.underlying27 rfl req_size ?_) | (refine wpList_load_row rfl 38 _ rfl (B10) rfl 38 _ _ _ hyT Try.underlying38 rfl fac_size ?_))
        refine (HD2.out _ hgT).mono ?_
        rintro e w21 ⟨rfl, hb21⟩
        have hx21 := hxT.below hb21
        have hg21 := hgT.below hb21
        have hw21 := below_step hwT hb21
        clear hxT hyT hgT hwT hb21
        have q0 : w21.cell? ⟨B15, 0, none⟩ = some (.int .u64 tk) := hx21.cell 0
        have q1 : w21.cell? ⟨B15, 1, none⟩ = some (.int .i64 kind) := hx21.cell 1
        have q2 : w21.cell? ⟨B15, 2, none⟩ = some (.int .i64 proc) := hx21.cell 2
        have q3 : w21.cell? ⟨B15, 3, none⟩ = some (.int .i64 a) := hx21.cell 3
        have q4 : w21.cell? ⟨B15, 4, none⟩ = some (.int .i64 b) := hx21.cell 4
        have q5 : w21.cell? ⟨B15, 5, none⟩ = some (.int .u64 val) := hx21.cell 5
        have q6 : w21.cell? ⟨B15, 6, none⟩ = some (.int .i64 st') := hx21.cell 6
        have q7 : w21.cell? ⟨B15, 7, none⟩ = some (.slice A' ys.length c') := hx21.cell 7
        have q8 : w21.cell? ⟨B15, 8, none⟩ = some (.int .i64 sl') := hx21.cell 8
        go_wp2_with (first | (refine wpList_load_row rfl 27 _ rfl (B15) rfl 27 _ _ _ hx21 Try.underlying27 rfl req_size ?_))
        refine (HCK.out _ hg21).mono ?_
        rintro e w22 ⟨rfl, hb22⟩
        go_wp2_with (first | (go_at_call 11; refine (HAW.out _).mono ?_; rintro e w23 ⟨rfl, hb23⟩))
        go_ret
        exact ⟨rfl, below_step (below_step hw21 hb22) hb23⟩
      case table h h5 hm hd =>
        subst h
        have hge : giveE tk kind proc a b val st xs 0 p = 0 := by
          unfold giveE
          rw [if_neg (by simp [HMok.out]), if_neg (by have := loseS_12 xs.length; rw [← Hst.out] at this; omega), if_neg (by omega), if_pos Hfp.out, if_neg (by rw [HC0.out]; simp)]
        have hgo := give_ok HMok.out (p := p) hm Hfp.out HC0.out
        have hfc := Hfc.out
        have HK1 := Lib.hid hd
        have h5' : (acc == 5) = false := by simp [h5]
        have cA : w3.cell? ⟨B10, 0, none⟩ = some (.int .i64 acc) := hy3.cell 0
        clear h5 hm hd
        obtain ⟨st', sl', ys, est, esl, eys⟩ : ∃ st' sl' ys, st' = (2 : Int) ∧ sl' = (0 : Int) ∧ ys = xs ++ [p] := ⟨_, _, _, rfl, rfl, rfl⟩
        obtain ⟨acc', eacc⟩ : ∃ acc', acc' = acc := ⟨_, rfl⟩
        have HG : Hid (∀ W, GI W A c xs → Calls Try.prog 20 #[.agg #[.int .u64 tk, .int .i64 kind, .int .i64 proc, .int .i64 a, .int .i64 b, .int .u64 val, .int .i64 st, .slice A xs.length c, .int .i64 0], .int .i64 p] W (RetR W tk kind proc a b val st' ys sl' 0)) := Lib.hid (by
          intro W hW
          rw [est, esl, eys]
          exact Give_ok tk kind proc a b val st A c xs 0 p W hW hge)
        have hok2 : chkE tk kind proc a b val st' ys sl' = 0 := by rw [est, esl, eys]; exact hgo
        have hce2 : (0 : Int) = cfE tk kind proc a b val st' ys sl' acc' lv := by unfold cfE; rw [if_pos hok2, eacc, hfc]
        have hd : (lookF kind st' ys.length acc' wr rm lv fr).2.2 = nd - 1 := by rw [est, eys, eacc]; exact (by rw [List.length_append]; exact HK1.out)
        have hy3' : Bx w3 B10 38 #[.int .i64 acc', .bool wr, .bool rm, .int .i64 lv, .bool fr] := by rw [eacc]; exact hy3
        have Hok2 := Lib.hid hok2
        have Hce2 := Lib.hid hce2
        have Hd := Lib.hid hd
        clear est esl eys eacc hfc hok2 hce2 hd hgo
        try clear hge
        try clear hwe
        go_wp2_with (first | (refine wpList_load_row rfl 27 _ rfl (B9) rfl 27 _ _ _ hx3 Try.underlying27 rfl req_size ?_))
        refine (HG.out _ hg3).mono ?_
        rintro e w20 ⟨A', c', rfl, hownT, hb20⟩
        have hx20 := hb15.below hb20
        have hxT : Bx (w20.setRow B15 #[.int .u64 tk, .int .i64 kind, .int .i64 proc, .int .i64 a, .int .i64 b, .int .u64 val, .int .i64 st', .slice A' ys.length c', .int .i64 sl']) B15 27 #[.int .u64 tk, .int .i64 kind, .int .i64 proc, .int .i64 a, .int .i64 b, .int .u64 val, .int .i64 st', .slice A' ys.length c', .int .i64 sl'] := hx20.row _
        have hyT : Bx (w20.setRow B15 #[.int .u64 tk, .int .i64 kind, .int .i64 proc, .int .i64 a, .int .i64 b, .int .u64 val, .int .i64 st', .slice A' ys.length c', .int .i64 sl']) B10 38 #[.int .i64 acc', .bool wr, .bool rm, .int .i64 lv, .bool fr] := (hy3'.below hb20).rowO h1015 _
        have hgT : GI (w20.setRow B15 #[.int .u64 tk, .int .i64 kind, .int .i64 proc, .int .i64 a, .int .i64 b, .int .u64 val, .int .i64 st', .slice A' ys.length c', .int .i64 sl']) A' c' ys := OwnI.gi (show OwnI _ w3.heap.size A' ys.length c' ys from hownT.rowT hx20 (by decide) _)
        have hwT := below_setRow (below_step hw3 hb20) hB15 #[.int .u64 tk, .int .i64 kind, .int .i64 proc, .int .i64 a, .int .i64 b, .int .u64 val, .int .i64 st', .slice A' ys.length c', .int .i64 sl']
        go_upto_region 22 with (first | (refine wpList_store_row rfl 27 _ _ rfl B15 _ rfl rfl 27 _ hx20 req_size rfl (by simp [Value.oneCell']) ?_; simp only [Act.put]))
        generalize w20.setRow B15 #[.int .u64 tk, .int .i64 kind, .int .i64 proc, .int .i64 a, .int .i64 b, .int .u64 val, .int .i64 st', .slice A' ys.length c', .int .i64 sl'] = w4 at *
        clear hx20 hownT hb20

        have HD2 := Lib.hid (fun W (hW : GI W A' c' ys) => Needs_any tk kind proc a b val st' A' c' ys sl' acc' wr rm lv fr W hW 0 Hce2.out)
        rw [show okE 0 (lookF kind st' ys.length acc' wr rm lv fr).2.2 = nd - 1 from (if_pos rfl).trans Hd.out] at HD2
        have HCK := Lib.hid (fun W (hW : GI W A' c' ys) => Check_any tk kind proc a b val st' A' c' ys sl' W hW)
        rw [Hok2.out] at HCK
        have hnd : (nd - 1 == nd - 1) = true := by simp
        clear Hce2 Hok2 Hd
        go_wp2_with (first | (refine wpList_load_row rfl 27 _ rfl (B15) rfl 27 _ _ _ hxT Try.underlying27 rfl req_size ?_) | (refine wpList_load_row rfl 38 _ rfl (B10) rfl 38 _ _ _ hyT Try.underlying38 rfl fac_size ?_))
        refine (HD2.out _ hgT).mono ?_
        rintro e w21 ⟨rfl, hb21⟩
        have hx21 := hxT.below hb21
        have hg21 := hgT.below hb21
        have hw21 := below_step hwT hb21
        clear hxT hyT hgT hwT hb21
        have q0 : w21.cell? ⟨B15, 0, none⟩ = some (.int .u64 tk) := hx21.cell 0
        have q1 : w21.cell? ⟨B15, 1, none⟩ = some (.int .i64 kind) := hx21.cell 1
        have q2 : w21.cell? ⟨B15, 2, none⟩ = some (.int .i64 proc) := hx21.cell 2
        have q3 : w21.cell? ⟨B15, 3, none⟩ = some (.int .i64 a) := hx21.cell 3
        have q4 : w21.cell? ⟨B15, 4, none⟩ = some (.int .i64 b) := hx21.cell 4
        have q5 : w21.cell? ⟨B15, 5, none⟩ = some (.int .u64 val) := hx21.cell 5
        have q6 : w21.cell? ⟨B15, 6, none⟩ = some (.int .i64 st') := hx21.cell 6
        have q7 : w21.cell? ⟨B15, 7, none⟩ = some (.slice A' ys.length c') := hx21.cell 7
        have q8 : w21.cell? ⟨B15, 8, none⟩ = some (.int .i64 sl') := hx21.cell 8
        go_wp2_with (first | (refine wpList_load_row rfl 27 _ rfl (B15) rfl 27 _ _ _ hx21 Try.underlying27 rfl req_size ?_))
        refine (HCK.out _ hg21).mono ?_
        rintro e w22 ⟨rfl, hb22⟩
        go_wp2_with (first | (go_at_call 11; refine (HAW.out _).mono ?_; rintro e w23 ⟨rfl, hb23⟩))
        go_ret
        exact ⟨rfl, below_step (below_step hw21 hb22) hb23⟩
      case claim h ha hd =>
        subst h
        have hwe : waitE tk kind proc a b val st xs 0 p 3 = 0 := by
          unfold waitE
          rw [if_neg (by simp [HMok.out]), HM.out.able, if_pos ha, if_pos Hfp.out]
        have hgo := HM.out.ok3 ha p hp0 hp1
        have hfc := Hfc.out
        have HK1 := Lib.hid hd
        clear ha hd
        obtain ⟨st', sl', ys, est, esl, eys⟩ : ∃ st' sl' ys, st' = (3 : Int) ∧ sl' = p ∧ ys = xs := ⟨_, _, _, rfl, rfl, rfl⟩
        obtain ⟨acc', eacc⟩ : ∃ acc', acc' = acc := ⟨_, rfl⟩
        have HG : Hid (∀ W, GI W A c xs → Calls Try.prog 9 #[.agg #[.int .u64 tk, .int .i64 kind, .int .i64 proc, .int .i64 a, .int .i64 b, .int .u64 val, .int .i64 st, .slice A xs.length c, .int .i64 0], .int .i64 p] W (RetR W tk kind proc a b val st' ys sl' 0)) := Lib.hid (by
          intro W hW
          rw [est, esl, eys]
          exact Claim_ok tk kind proc a b val st A c xs 0 p W hW hwe)
        have hok2 : chkE tk kind proc a b val st' ys sl' = 0 := by rw [est, esl, eys]; exact hgo
        have hce2 : (0 : Int) = cfE tk kind proc a b val st' ys sl' acc' lv := by unfold cfE; rw [if_pos hok2, eacc, hfc]
        have hd : (lookF kind st' ys.length acc' wr rm lv fr).2.2 = nd - 1 := by rw [est, eys, eacc]; exact HK1.out
        have hy3' : Bx w3 B10 38 #[.int .i64 acc', .bool wr, .bool rm, .int .i64 lv, .bool fr] := by rw [eacc]; exact hy3
        have Hok2 := Lib.hid hok2
        have Hce2 := Lib.hid hce2
        have Hd := Lib.hid hd
        clear est esl eys eacc hfc hok2 hce2 hd hgo
        try clear hge
        try clear hwe
        go_wp2_with (first | (refine wpList_load_row rfl 27 _ rfl (B9) rfl 27 _ _ _ hx3 Try.underlying27 rfl req_size ?_))
        refine (HG.out _ hg3).mono ?_
        rintro e w20 ⟨A', c', rfl, hownT, hb20⟩
        have hx20 := hb15.below hb20
        have hxT : Bx (w20.setRow B15 #[.int .u64 tk, .int .i64 kind, .int .i64 proc, .int .i64 a, .int .i64 b, .int .u64 val, .int .i64 st', .slice A' ys.length c', .int .i64 sl']) B15 27 #[.int .u64 tk, .int .i64 kind, .int .i64 proc, .int .i64 a, .int .i64 b, .int .u64 val, .int .i64 st', .slice A' ys.length c', .int .i64 sl'] := hx20.row _
        have hyT : Bx (w20.setRow B15 #[.int .u64 tk, .int .i64 kind, .int .i64 proc, .int .i64 a, .int .i64 b, .int .u64 val, .int .i64 st', .slice A' ys.length c', .int .i64 sl']) B10 38 #[.int .i64 acc', .bool wr, .bool rm, .int .i64 lv, .bool fr] := (hy3'.below hb20).rowO h1015 _
        have hgT : GI (w20.setRow B15 #[.int .u64 tk, .int .i64 kind, .int .i64 proc, .int .i64 a, .int .i64 b, .int .u64 val, .int .i64 st', .slice A' ys.length c', .int .i64 sl']) A' c' ys := OwnI.gi (show OwnI _ w3.heap.size A' ys.length c' ys from hownT.rowT hx20 (by decide) _)
        have hwT := below_setRow (below_step hw3 hb20) hB15 #[.int .u64 tk, .int .i64 kind, .int .i64 proc, .int .i64 a, .int .i64 b, .int .u64 val, .int .i64 st', .slice A' ys.length c', .int .i64 sl']
        go_upto_region 22 with (first | (refine wpList_store_row rfl 27 _ _ rfl B15 _ rfl rfl 27 _ hx20 req_size rfl (by simp [Value.oneCell']) ?_; simp only [Act.put]))
        generalize w20.setRow B15 #[.int .u64 tk, .int .i64 kind, .int .i64 proc, .int .i64 a, .int .i64 b, .int .u64 val, .int .i64 st', .slice A' ys.length c', .int .i64 sl'] = w4 at *
        clear hx20 hownT hb20

        have HD2 := Lib.hid (fun W (hW : GI W A' c' ys) => Needs_any tk kind proc a b val st' A' c' ys sl' acc' wr rm lv fr W hW 0 Hce2.out)
        rw [show okE 0 (lookF kind st' ys.length acc' wr rm lv fr).2.2 = nd - 1 from (if_pos rfl).trans Hd.out] at HD2
        have HCK := Lib.hid (fun W (hW : GI W A' c' ys) => Check_any tk kind proc a b val st' A' c' ys sl' W hW)
        rw [Hok2.out] at HCK
        have hnd : (nd - 1 == nd - 1) = true := by simp
        clear Hce2 Hok2 Hd
        go_wp2_with (first | (refine wpList_load_row rfl 27 _ rfl (B15) rfl 27 _ _ _ hxT Try.underlying27 rfl req_size ?_) | (refine wpList_load_row rfl 38 _ rfl (B10) rfl 38 _ _ _ hyT Try.underlying38 rfl fac_size ?_))
        refine (HD2.out _ hgT).mono ?_
        rintro e w21 ⟨rfl, hb21⟩
        have hx21 := hxT.below hb21
        have hg21 := hgT.below hb21
        have hw21 := below_step hwT hb21
        clear hxT hyT hgT hwT hb21
        have q0 : w21.cell? ⟨B15, 0, none⟩ = some (.int .u64 tk) := hx21.cell 0
        have q1 : w21.cell? ⟨B15, 1, none⟩ = some (.int .i64 kind) := hx21.cell 1
        have q2 : w21.cell? ⟨B15, 2, none⟩ = some (.int .i64 proc) := hx21.cell 2
        have q3 : w21.cell? ⟨B15, 3, none⟩ = some (.int .i64 a) := hx21.cell 3
        have q4 : w21.cell? ⟨B15, 4, none⟩ = some (.int .i64 b) := hx21.cell 4
        have q5 : w21.cell? ⟨B15, 5, none⟩ = some (.int .u64 val) := hx21.cell 5
        have q6 : w21.cell? ⟨B15, 6, none⟩ = some (.int .i64 st') := hx21.cell 6
        have q7 : w21.cell? ⟨B15, 7, none⟩ = some (.slice A' ys.length c') := hx21.cell 7
        have q8 : w21.cell? ⟨B15, 8, none⟩ = some (.int .i64 sl') := hx21.cell 8
        go_wp2_with (first | (refine wpList_load_row rfl 27 _ rfl (B15) rfl 27 _ _ _ hx21 Try.underlying27 rfl req_size ?_))
        refine (HCK.out _ hg21).mono ?_
        rintro e w22 ⟨rfl, hb22⟩
        go_wp2_with (first | (go_at_call 11; refine (HAW.out _).mono ?_; rintro e w23 ⟨rfl, hb23⟩))
        go_ret
        exact ⟨rfl, below_step (below_step hw21 hb22) hb23⟩
      case start h ha hn1 hd =>
        subst h
        have hs2 : st = 2 := by rw [Hst.out, hn1]; rfl
        have hwe : waitE tk kind proc a b val st xs 0 p 4 = 0 := by
          unfold waitE
          rw [if_neg (by simp [HMok.out]), if_pos (by subst hs2; unfold ableB; rw [ha]; rfl), if_pos Hfp.out]
        have hgo := read_ok HMok.out (p := p) ha hn1 Hfp.out
        have hfc := Hfc.out
        have HK1 := Lib.hid hd
        clear ha hn1 hd hs2
        obtain ⟨st', sl', ys, est, esl, eys⟩ : ∃ st' sl' ys, st' = (4 : Int) ∧ sl' = p ∧ ys = xs := ⟨_, _, _, rfl, rfl, rfl⟩
        obtain ⟨acc', eacc⟩ : ∃ acc', acc' = acc := ⟨_, rfl⟩
        have HG : Hid (∀ W, GI W A c xs → Calls Try.prog 21 #[.agg #[.int .u64 tk, .int .i64 kind, .int .i64 proc, .int .i64 a, .int .i64 b, .int .u64 val, .int .i64 st, .slice A xs.length c, .int .i64 0], .int .i64 p] W (RetR W tk kind proc a b val st' ys sl' 0)) := Lib.hid (by
          intro W hW
          rw [est, esl, eys]
          exact Read_ok tk kind proc a b val st A c xs 0 p W hW hwe)
        have hok2 : chkE tk kind proc a b val st' ys sl' = 0 := by rw [est, esl, eys]; exact hgo
        have hce2 : (0 : Int) = cfE tk kind proc a b val st' ys sl' acc' lv := by unfold cfE; rw [if_pos hok2, eacc, hfc]
        have hd : (lookF kind st' ys.length acc' wr rm lv fr).2.2 = nd - 1 := by rw [est, eys, eacc]; exact HK1.out
        have hy3' : Bx w3 B10 38 #[.int .i64 acc', .bool wr, .bool rm, .int .i64 lv, .bool fr] := by rw [eacc]; exact hy3
        have Hok2 := Lib.hid hok2
        have Hce2 := Lib.hid hce2
        have Hd := Lib.hid hd
        clear est esl eys eacc hfc hok2 hce2 hd hgo
        try clear hge
        try clear hwe
        go_wp2_with (first | (refine wpList_load_row rfl 27 _ rfl (B9) rfl 27 _ _ _ hx3 Try.underlying27 rfl req_size ?_))
        refine (HG.out _ hg3).mono ?_
        rintro e w20 ⟨A', c', rfl, hownT, hb20⟩
        have hx20 := hb15.below hb20
        have hxT : Bx (w20.setRow B15 #[.int .u64 tk, .int .i64 kind, .int .i64 proc, .int .i64 a, .int .i64 b, .int .u64 val, .int .i64 st', .slice A' ys.length c', .int .i64 sl']) B15 27 #[.int .u64 tk, .int .i64 kind, .int .i64 proc, .int .i64 a, .int .i64 b, .int .u64 val, .int .i64 st', .slice A' ys.length c', .int .i64 sl'] := hx20.row _
        have hyT : Bx (w20.setRow B15 #[.int .u64 tk, .int .i64 kind, .int .i64 proc, .int .i64 a, .int .i64 b, .int .u64 val, .int .i64 st', .slice A' ys.length c', .int .i64 sl']) B10 38 #[.int .i64 acc', .bool wr, .bool rm, .int .i64 lv, .bool fr] := (hy3'.below hb20).rowO h1015 _
        have hgT : GI (w20.setRow B15 #[.int .u64 tk, .int .i64 kind, .int .i64 proc, .int .i64 a, .int .i64 b, .int .u64 val, .int .i64 st', .slice A' ys.length c', .int .i64 sl']) A' c' ys := OwnI.gi (show OwnI _ w3.heap.size A' ys.length c' ys from hownT.rowT hx20 (by decide) _)
        have hwT := below_setRow (below_step hw3 hb20) hB15 #[.int .u64 tk, .int .i64 kind, .int .i64 proc, .int .i64 a, .int .i64 b, .int .u64 val, .int .i64 st', .slice A' ys.length c', .int .i64 sl']
        go_upto_region 22 with (first | (refine wpList_store_row rfl 27 _ _ rfl B15 _ rfl rfl 27 _ hx20 req_size rfl (by simp [Value.oneCell']) ?_; simp only [Act.put]))
        generalize w20.setRow B15 #[.int .u64 tk, .int .i64 kind, .int .i64 proc, .int .i64 a, .int .i64 b, .int .u64 val, .int .i64 st', .slice A' ys.length c', .int .i64 sl'] = w4 at *
        clear hx20 hownT hb20

        have HD2 := Lib.hid (fun W (hW : GI W A' c' ys) => Needs_any tk kind proc a b val st' A' c' ys sl' acc' wr rm lv fr W hW 0 Hce2.out)
        rw [show okE 0 (lookF kind st' ys.length acc' wr rm lv fr).2.2 = nd - 1 from (if_pos rfl).trans Hd.out] at HD2
        have HCK := Lib.hid (fun W (hW : GI W A' c' ys) => Check_any tk kind proc a b val st' A' c' ys sl' W hW)
        rw [Hok2.out] at HCK
        have hnd : (nd - 1 == nd - 1) = true := by simp
        clear Hce2 Hok2 Hd
        go_wp2_with (first | (refine wpList_load_row rfl 27 _ rfl (B15) rfl 27 _ _ _ hxT Try.underlying27 rfl req_size ?_) | (refine wpList_load_row rfl 38 _ rfl (B10) rfl 38 _ _ _ hyT Try.underlying38 rfl fac_size ?_))
        refine (HD2.out _ hgT).mono ?_
        rintro e w21 ⟨rfl, hb21⟩
        have hx21 := hxT.below hb21
        have hg21 := hgT.below hb21
        have hw21 := below_step hwT hb21
        clear hxT hyT hgT hwT hb21
        have q0 : w21.cell? ⟨B15, 0, none⟩ = some (.int .u64 tk) := hx21.cell 0
        have q1 : w21.cell? ⟨B15, 1, none⟩ = some (.int .i64 kind) := hx21.cell 1
        have q2 : w21.cell? ⟨B15, 2, none⟩ = some (.int .i64 proc) := hx21.cell 2
        have q3 : w21.cell? ⟨B15, 3, none⟩ = some (.int .i64 a) := hx21.cell 3
        have q4 : w21.cell? ⟨B15, 4, none⟩ = some (.int .i64 b) := hx21.cell 4
        have q5 : w21.cell? ⟨B15, 5, none⟩ = some (.int .u64 val) := hx21.cell 5
        have q6 : w21.cell? ⟨B15, 6, none⟩ = some (.int .i64 st') := hx21.cell 6
        have q7 : w21.cell? ⟨B15, 7, none⟩ = some (.slice A' ys.length c') := hx21.cell 7
        have q8 : w21.cell? ⟨B15, 8, none⟩ = some (.int .i64 sl') := hx21.cell 8
        go_wp2_with (first | (refine wpList_load_row rfl 27 _ rfl (B15) rfl 27 _ _ _ hx21 Try.underlying27 rfl req_size ?_))
        refine (HCK.out _ hg21).mono ?_
        rintro e w22 ⟨rfl, hb22⟩
        go_wp2_with (first | (go_at_call 11; refine (HAW.out _).mono ?_; rintro e w23 ⟨rfl, hb23⟩))
        go_ret
        exact ⟨rfl, below_step (below_step hw21 hb22) hb23⟩
      case leaf h ha h5 hd =>
        subst h
        subst h5
        have cA : w3.cell? ⟨B10, 0, none⟩ = some (.int .i64 5) := hy3.cell 0
        have zA := hy3.frozen 0
        have hfc := Hfc.out
        have hne : (Value.slice A xs.length c).ownBlock ≠ some B10 := by
          intro e
          rcases hown3.2 with ⟨hv, _⟩ | ⟨g', off, cap, cur, hv, hbb, hgg, _⟩
          · rw [hv] at e; cases e
          · rw [hv] at e
            have e' : g' = B10 := Option.some.inj e
            subst e'
            have := hgg.symm.trans hy3
            injection this with this
            injection this with _ h2 _
            cases h2
        obtain ⟨st', sl', ys, A', c', est, esl, eys, eA, ec⟩ : ∃ st' sl' ys A' c', st' = st ∧ sl' = (0 : Int) ∧ ys = xs ∧ A' = A ∧ c' = c := ⟨_, _, _, _, _, rfl, rfl, rfl, rfl, rfl⟩
        obtain ⟨acc', eacc⟩ : ∃ acc', acc' = (6 : Int) := ⟨_, rfl⟩
        have hok2 : chkE tk kind proc a b val st' ys sl' = 0 := by rw [est, esl, eys]; exact HMok.out
        have hce2 : (0 : Int) = cfE tk kind proc a b val st' ys sl' acc' lv := by
          unfold cfE
          rw [if_pos hok2, eacc]
          unfold fcE at hfc ⊢
          rw [if_pos ha] at hfc ⊢
          split at hfc
          · omega
          · rw [if_neg (by omega)]
        have hd : (lookF kind st' ys.length acc' wr rm lv fr).2.2 = nd - 1 := by rw [est, eys, eacc]; exact hd
        have hxT : Bx (w3.setCell ⟨B10, 0, none⟩ (.int .i64 acc')) B15 27 #[.int .u64 tk, .int .i64 kind, .int .i64 proc, .int .i64 a, .int .i64 b, .int .u64 val, .int .i64 st', .slice A' ys.length c', .int .i64 sl'] := by rw [est, esl, eys, eA, ec]; exact hb15.setO (p := ⟨B10, 0, none⟩) (fun e => h1015 e.symm) _
        have hyT : Bx (w3.setCell ⟨B10, 0, none⟩ (.int .i64 acc')) B10 38 #[.int .i64 acc', .bool wr, .bool rm, .int .i64 lv, .bool fr] := hy3.set 0 _
        have hgT : GI (w3.setCell ⟨B10, 0, none⟩ (.int .i64 acc')) A' c' ys := by
          rw [eys, eA, ec]
          exact OwnI.gi (show OwnI _ w.heap.size A xs.length c xs from hown3.setCell_far (p := ⟨B10, 0, none⟩) hne _)
        have hwT := hw3.setCell (p := ⟨B10, 0, none⟩) hB10 (.int .i64 acc')
        rw [eacc] at hxT hyT hgT hwT
        have Hok2 := Lib.hid hok2
        have Hce2 := Lib.hid hce2
        have Hd := Lib.hid hd
        have HE6 := Lib.hid eacc
        clear est esl eys eA ec hfc ha hok2 hce2 hd eacc hne
        go_upto_region 22 with fail
        generalize w3.setCell ⟨B10, 0, none⟩ (.int .i64 6) = w4 at *
        have eacc := HE6.out
        rw [← eacc] at hyT
        clear eacc
        have HD2 := Lib.hid (fun W (hW : GI W A' c' ys) => Needs_any tk kind proc a b val st' A' c' ys sl' acc' wr rm lv fr W hW 0 Hce2.out)
        rw [show okE 0 (lookF kind st' ys.length acc' wr rm lv fr).2.2 = nd - 1 from (if_pos rfl).trans Hd.out] at HD2
        have HCK := Lib.hid (fun W (hW : GI W A' c' ys) => Check_any tk kind proc a b val st' A' c' ys sl' W hW)
        rw [Hok2.out] at HCK
        have hnd : (nd - 1 == nd - 1) = true := by simp
        clear Hce2 Hok2 Hd
        go_wp2_with (first | (refine wpList_load_row rfl 27 _ rfl (B15) rfl 27 _ _ _ hxT Try.underlying27 rfl req_size ?_) | (refine wpList_load_row rfl 38 _ rfl (B10) rfl 38 _ _ _ hyT Try.underlying38 rfl fac_size ?_))
        refine (HD2.out _ hgT).mono ?_
        rintro e w21 ⟨rfl, hb21⟩
        have hx21 := hxT.below hb21
        have hg21 := hgT.below hb21
        have hw21 := below_step hwT hb21
        clear hxT hyT hgT hwT hb21
        have q0 : w21.cell? ⟨B15, 0, none⟩ = some (.int .u64 tk) := hx21.cell 0
        have q1 : w21.cell? ⟨B15, 1, none⟩ = some (.int .i64 kind) := hx21.cell 1
        have q2 : w21.cell? ⟨B15, 2, none⟩ = some (.int .i64 proc) := hx21.cell 2
        have q3 : w21.cell? ⟨B15, 3, none⟩ = some (.int .i64 a) := hx21.cell 3
        have q4 : w21.cell? ⟨B15, 4, none⟩ = some (.int .i64 b) := hx21.cell 4
        have q5 : w21.cell? ⟨B15, 5, none⟩ = some (.int .u64 val) := hx21.cell 5
        have q6 : w21.cell? ⟨B15, 6, none⟩ = some (.int .i64 st') := hx21.cell 6
        have q7 : w21.cell? ⟨B15, 7, none⟩ = some (.slice A' ys.length c') := hx21.cell 7
        have q8 : w21.cell? ⟨B15, 8, none⟩ = some (.int .i64 sl') := hx21.cell 8
        go_wp2_with (first | (refine wpList_load_row rfl 27 _ rfl (B15) rfl 27 _ _ _ hx21 Try.underlying27 rfl req_size ?_))
        refine (HCK.out _ hg21).mono ?_
        rintro e w22 ⟨rfl, hb22⟩
        go_wp2_with (first | (go_at_call 11; refine (HAW.out _).mono ?_; rintro e w23 ⟨rfl, hb23⟩))
        go_ret
        exact ⟨rfl, below_step (below_step hw21 hb22) hb23⟩
      case rest h =>
        have hr : ((nx == 4) = false ∧ (nx == 3) = false) ∧ ((nx == 5) = false ∧ (nx == 6) = false) := by
          rcases h with h | h | h <;> subst h <;> exact ⟨⟨rfl, rfl⟩, rfl, rfl⟩
        obtain ⟨⟨r4, r3⟩, r5, r6⟩ := hr
        clear h
        go_wp2_with (first | (go_at_call 11; refine (HAW.out _).mono ?_; rintro e w23 ⟨rfl, hb23⟩))
        go_ret
        exact ⟨rfl, below_step hw3 hb23⟩
end Go.Proofs.Ytbcfnocefjolfaa
