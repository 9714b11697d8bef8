/- Package pool: a channel filled and emptied by one goroutine. -/
import Derived.Test.YtoimmfcodflmkaaDoorT1
import Derived.Test.YtoimmfcodflmkaaDoorCN
namespace Go.Proofs.YtoimmfcodflmkaaDoor
open Go.RowKit Go.Conc
set_option linter.unusedVariables false

theorem mk32 (w : World) : (Instr.makeChan 52 (.int .i64 32)).run Tryd.prog w = .ok (.chan (some w.heap.size)) (w.alloc (.chan 32 #[] false 0 0 false)) := by
  have h : (Tryd.prog.info? 3).map (·.bytes) = some 8 := by kernel_rfl
  obtain ⟨i, hi, hb⟩ := Option.map_eq_some_iff.1 h
  simpa using run_makeChan (P := Tryd.prog) (w := w) Tryd.underlying52 hi .i64 32 (by omega) (by rw [hb]; omega)
structure ChL (w : World) (B k : Nat) (ys : List Int) (s r : Nat) (wx : World) : Prop where
  ch : wx.heap[B]? = some (.chan 32 (iv ys).toArray false s r false)
  lt : B < wx.heap.size
  lo : Below w.heap.size w wx

set_option maxHeartbeats 1000000 in
theorem ready_any (s : Int) (A : Option Addr) (c : Nat) (xs : List Int) (w : World) (ha : GI w A c xs) (hl : xs.length ≤ 32) :
    Calls Tryd.prog 34 #[.agg #[.int .i64 s, .slice A xs.length c]] w fun e w' => ∃ B, e = .returned (.chan (some B)) ∧ w'.heap[B]? = some (.chan 32 (iv xs).toArray false xs.length 0 false) ∧ w.heap.size ≤ B ∧ B < w'.heap.size ∧ Below w.heap.size w w' := by
  have hmk := mk32
  have HX := Lib.hid (show iv xs = iv (xs.take xs.length) by rw [List.take_length])
  have HI := Lib.hid (show ∀ k, k < xs.length → iv (xs.take (k + 1)) = iv (xs.take k) ++ [.int .i64 (xs[k]?.getD 0)] from fun k hk => by
    rw [show xs.take (k + 1) = xs.take k ++ [xs[k]?.getD 0] by rw [List.take_add_one, List.getElem?_eq_getElem hk]; rfl, iv_snoc])
  generalize hn : xs.length = n at *
  have Hn := Lib.hid hn
  clear hn
  refine CN.calls Tryd.func34 (by simp only [Tryd.f34]; rfl) ?_
  show CN _ _ _ ⟨#[.agg #[.int .i64 s, .slice A n c], undef, undef, undef, undef, undef, undef, undef, undef, undef, undef, undef, undef, undef, undef, undef, undef, undef], []⟩ w
  refine CN.seq fun K hK => CN.of_wp ?_
  go_wp2
  refine CN.seq fun K hK => CN.of_wp ?_
  go_wp2
  have hx := (Bx.new w 24 #[.int .i64 s, .slice A n c]).alloc (.chan 32 #[] false 0 0 false)
  obtain ⟨c0, c1⟩ := s2 hx
  have hch := heap_alloc_new (w.alloc (.cells #[.int .i64 s, .slice A n c] 24)) (.chan 32 #[] false 0 0 false)
  rw [World.size_alloc] at hch
  have hw := below_step (al w (.cells #[.int .i64 s, .slice A n c] 24)) (al _ (.chan 32 #[] false 0 0 false))
  refine CN.seq fun K hK => CN.seq fun K' hK' => CN.of_wp ?_
  go_wp2
  refine CN.block ?_
  refine CN.loop (fun g a wx => ∃ (k : Nat) (u5 u11 u12 u13 u14 u15 u16 : Value), g = n - k ∧ k ≤ n ∧ a = ⟨#[.agg #[.int .i64 s, .slice A n c], .pointer (some ⟨w.heap.size, 0, none⟩), .chan none, .chan (some (w.heap.size + 1)), undef, u5, .chan (some (w.heap.size + 1)), .pointer (some ⟨w.heap.size, 1, none⟩), .slice A n c, .int .i64 (n : Int), .int .i64 (k : Int), u11, u12, u13, u14, u15, u16, undef], []⟩ ∧ ChL w (w.heap.size + 1) k (xs.take k) k 0 wx) (g := n) ?_ ?_
  · exact ⟨0, undef, undef, undef, undef, undef, undef, undef, rfl, by omega, rfl, hch, by simp only [World.size_alloc]; omega, hw⟩
  · rintro g a wx ⟨k, u5, u11, u12, u13, u14, u15, u16, rfl, hk, rfl, hr⟩
    have hc1 := hr.ch
    have hlo := hr.lo
    have hlt' := hr.lt
    have hg := ha.below hlo
    clear hr hch hw c0 c1 hx
    by_cases hlt : k < n
    · have kd : decide ((k : Int) < (n : Int)) = true := by simp; omega
      obtain ⟨ad, rfl, _, hca⟩ := hg.at_ (k := k) (by rw [Hn.out]; exact hlt)
      have HI2 := Lib.hid (HI.out k hlt)
      have hsz : (iv (xs.take k)).length = k := by rw [iv_len, List.length_take, Hn.out]; omega
      generalize xs[k]?.getD 0 = x at *
      refine CN.seq fun K1 hK1 => CN.of_wp ?_
      go_wp2
      refine CN.seq fun K1 hK1 => CN.of_wp ?_
      go_wp2
      refine CN.seq fun K1 hK1 => CN.block (CN.seq fun K2 hK2 => CN.of_wp ?_)
      go_wp2
      refine CN.region ?_
      show SN _ _ _ [0, 1, 2] _ _
      refine SN.value (v := .chan (some (w.heap.size + 1))) (w' := wx) rfl (by rfl) (by simp [execOp, go_sem, Act.eval]) ?_
      refine SN.value (v := .int .i64 x) (w' := wx) rfl (by rfl) (by simp [execOp, go_sem, Act.eval, Act.put]) ?_
      refine SN.send (c := w.heap.size + 1) (cap := 32) (s := k) (r := 0) (tm := false) (buf := (iv (xs.take k)).toArray) (v := .int .i64 x) (z := .tuple #[]) rfl (by rfl) (by simp [execOp, scase, Act.eval, Act.put]) hc1 (by rw [List.size_toArray, hsz]; omega) ?_
      refine SN.of_ops (show K1 _ _ from hK1 _ _ ?_)
      simp only [Act.put, List.setIfInBounds_toArray, List.set_cons_zero, List.set_cons_succ]
      refine CN.of_wp ?_
      go_wp2
      refine ⟨n - (k + 1), ⟨k + 1, _, _, _, _, _, _, _, rfl, by omega, rfl, ?_, ?_, ?_⟩, by omega⟩
      · rw [heap_setChan _ _ _ _ _ _ _ _ hlt', HI2.out]
      · rw [size_setChan]; exact hlt'
      · exact below_setChan hlo (by omega) _ _ _ _ _ _
    · have kd : decide ((k : Int) < (n : Int)) = false := by simp; omega
      obtain rfl : k = n := by omega
      refine CN.seq fun K1 hK1 => CN.of_wp ?_
      go_wp2
      refine CN.seq fun K1 hK1 => CN.of_wp ?_
      go_wp2
      refine CN.seq fun K1 hK1 => CN.of_wp ?_
      go_wp2
      refine CN.of_wp ?_
      go_wp2
      go_ret
      refine ⟨w.heap.size + 1, rfl, ?_, by omega, hlt', hlo⟩
      rw [HX.out]
      exact hc1
end Go.Proofs.YtoimmfcodflmkaaDoor
