/- Package pool: rest: a channel emptied by one goroutine. -/
import Derived.Test.YtoimmfcodflmkaaDoorT6
namespace Go.Proofs.YtoimmfcodflmkaaDoor
open Go.RowKit Go.Conc
set_option linter.unusedVariables false

theorem Own.chanLow {w : World} {base : Nat} {e : TypeId} {size : Nat} {v : Value} {n : Nat} {xs : List Value} (h : Own w base e size v n xs) {g : Nat} (hg : g < base) (cap : Nat) (buf : Array Value) (cl : Bool) (s r : Nat) (tm : Bool) : Own (w.setChan g cap buf cl s r tm) base e size v n xs := by
  refine ⟨h.1, ?_⟩
  rcases h.2 with hn | ⟨g', off, cap', cur, hv, hb, hgg, q⟩
  · exact .inl hn
  · refine .inr ⟨g', off, cap', cur, hv, hb, ?_, q⟩
    simp only [World.setChan]
    rw [Array.getElem?_setIfInBounds_ne (by omega)]
    exact hgg
theorem ext1 (x : Int) (tl : List Int) : (iv (x :: tl)).toArray.extract 1 (iv (x :: tl)).toArray.size = (iv tl).toArray := by
  simp [iv]
  exact List.take_of_length_le (by simp)
structure RsL (w : World) (B k : Nat) (ys zs : List Int) (A : Option Addr) (c s r : Nat) (wx : World) : Prop where
  ch : wx.heap[B]? = some (.chan 32 (iv zs).toArray false s r false)
  own : OwnI wx w.heap.size A k c ys
  sz : w.heap.size ≤ wx.heap.size
  lo : Below B w wx

set_option maxHeartbeats 1000000 in
theorem rest_any (B : Nat) (ys : List Int) (sn rn : Nat) (w : World) (hB : B < w.heap.size) (hch : w.heap[B]? = some (.chan 32 (iv ys).toArray false sn rn false)) (hl : ys.length ≤ 32) :
    Calls Tryd.prog 35 #[.chan (some B)] w fun e w' => ∃ A c, e = .returned (.slice A ys.length c) ∧ OwnI w' w.heap.size A ys.length c ys ∧ Below B w w' := by
  have HD := Lib.hid (show ∀ k, k < ys.length → ys.drop k = (ys[k]?.getD 0) :: ys.drop (k + 1) ∧ ys.take (k + 1) = ys.take k ++ [ys[k]?.getD 0] from fun k hk => by
    refine ⟨?_, ?_⟩
    · rw [List.drop_eq_getElem_cons hk, List.getElem?_eq_getElem hk]; rfl
    · rw [List.take_add_one, List.getElem?_eq_getElem hk]; rfl)
  have HL := Lib.hid (show ys.take ys.length = ys ∧ ys.drop ys.length = [] from ⟨List.take_length, List.drop_length⟩)
  generalize hn : ys.length = n at *
  have Hn := Lib.hid hn
  clear hn
  refine CN.calls Tryd.func35 (by simp only [Tryd.f35]; rfl) ?_
  show CN _ _ _ ⟨#[.chan (some B), undef, undef, undef, undef, undef, undef, undef, undef, undef, undef, undef, undef, undef, undef], []⟩ w
  refine CN.seq fun K hK => CN.of_wp ?_
  go_wp2
  refine CN.seq fun K hK => CN.of_wp ?_
  go_wp2
  refine CN.block ?_
  refine CN.loop (fun g a wx => ∃ (k c r : Nat) (A : Option Addr) (u4 u5 u6 u7 u8 u10 u11 u12 u13 u14 : Value), g = n - k ∧ k ≤ n ∧ a = ⟨#[.chan (some B), undef, .slice none 0 0, .slice A k c, u4, u5, u6, u7, u8, undef, u10, u11, u12, u13, u14], []⟩ ∧ RsL w B k (ys.take k) (ys.drop k) A c sn r wx) (g := n) ?_ ?_
  · exact ⟨0, 0, rn, none, undef, undef, undef, undef, undef, undef, undef, undef, undef, undef, rfl, by omega, rfl, hch, OwnI.none _ _, Nat.le_refl _, Below.refl _ _⟩
  · rintro g a wx ⟨k, c, r, A, u4, u5, u6, u7, u8, u10, u11, u12, u13, u14, rfl, hk, rfl, hr⟩
    have hc1 := hr.ch
    have hlo := hr.lo
    have hsz := hr.sz
    have ho := hr.own
    clear hr hch
    have hBx : B < wx.heap.size := by omega
    by_cases hlt : k < n
    · obtain ⟨h1, h2⟩ := HD.out k hlt
      have H2 := Lib.hid h2
      rw [h1] at hc1
      clear h1 h2
      generalize ys[k]?.getD 0 = x at *
      generalize ys.take k = ts at *
      refine CN.block (CN.seq fun K1 hK1 => CN.of_wp ?_)
      go_wp2
      refine CN.seq fun K1 hK1 => CN.region ?_
      show SN _ _ _ [0, 1, 2] _ _
      refine SN.pick (c := B) (cap := 32) (s := sn) (r := r) (tm := false) (closed := false) (buf := (iv (x :: ys.drop (k + 1))).toArray) (z := .int .i64 0) rfl (by rfl) (by simp [go_sem, rcase]) hc1 (by simp [iv]) ?_
      have e0 : (iv (x :: ys.drop (k + 1))).toArray.getD 0 undef = .int .i64 x := rfl
      have e1 : (iv (x :: ys.drop (k + 1))).toArray.extract 1 (iv (x :: ys.drop (k + 1))).toArray.size = (iv (ys.drop (k + 1))).toArray := ext1 _ _
      rw [e0, e1]
      have hc2 := heap_setChan wx B 32 (iv (ys.drop (k + 1))).toArray false sn (r + 1) false hBx
      have hlo2 := below_setChan hlo (Nat.le_refl B) 32 (iv (ys.drop (k + 1))).toArray false sn (r + 1) false
      have ho2 := Own.chanLow ho hB 32 (iv (ys.drop (k + 1))).toArray false sn (r + 1) false
      have hsz2 : w.heap.size ≤ (wx.setChan B 32 (iv (ys.drop (k + 1))).toArray false sn (r + 1) false).heap.size := by rw [size_setChan]; exact hsz
      generalize wx.setChan B 32 (iv (ys.drop (k + 1))).toArray false sn (r + 1) false = W2 at *
      clear e0 e1 hc1 hlo ho hsz hBx
      refine SN.value (v := .int .i64 0) (w' := W2) rfl (by rfl) (by simp [execOp, go_sem, Act.eval, Act.put]) ?_
      refine SN.value (v := .bool true) (w' := W2) rfl (by rfl) (by simp [execOp, go_sem, Act.eval, Act.put]) ?_
      refine SN.of_ops (show K1 _ _ from hK1 _ _ ?_)
      simp only [Act.put, List.setIfInBounds_toArray, List.set_cons_zero, List.set_cons_succ]
      have ob : Bx (W2.alloc (.cells #[.int .i64 x] 3)) W2.heap.size 3 #[.int .i64 x] := Bx.new W2 _ _
      have hcn : (W2.alloc (.cells #[.int .i64 x] 3)).cell? ⟨W2.heap.size, 0, none⟩ = some (.int .i64 x) := ob.cell 0
      have ho3 := Own.alloc ho2 (.cells #[.int .i64 x] 3)
      have hlo3 := hlo2.trans ((al W2 (.cells #[.int .i64 x] 3)).mono (by omega))
      have hc3 := (Below.heap_alloc W2 (.cells #[.int .i64 x] 3) B (by omega)).trans hc2
      refine CN.of_wp ?_
      go_wp2_with (first | (at_builtin; refine wpList_ap1 _ rfl _ _ rfl w.heap.size A k c ts rfl ho3 ⟨W2.heap.size, 0, none⟩ 1 x rfl hcn (by omega) (by simp only [World.size_alloc]; omega) ?_; intro A5 c5 w5 hown5 hg5; have hc5 := (hg5.block B (by simp only [World.size_alloc]; omega) (fun h => by have := (Own.lt ho3 _ h.symm).1; omega)).trans hc3; have hlo5 : Below B w w5 := grown_below hlo3 ho3 hg5 (by simp only [World.size_alloc]; omega) (by omega); have hsz5 := hg5.size; rw [World.size_alloc] at hsz5; clear ho3 hc3 hlo3 hcn ob))
      refine ⟨n - (k + 1), ⟨k + 1, c5, r + 1, A5, _, _, _, _, _, _, _, _, _, _, rfl, by omega, rfl, hc5, ?_, by omega, hlo5⟩, by omega⟩
      rw [H2.out]
      exact hown5
    · obtain rfl : k = n := by omega
      obtain ⟨h1, h2⟩ := HL.out
      rw [h2] at hc1
      rw [h1] at ho
      refine CN.block (CN.seq fun K1 hK1 => CN.of_wp ?_)
      go_wp2
      refine CN.seq fun K1 hK1 => CN.region ?_
      show SN _ _ _ [0, 1, 2] _ _
      refine SN.none (c := B) (cap := 32) (s := sn) (r := r) (tm := false) (z := .int .i64 0) rfl (by rfl) (by simp [go_sem, rcase]) hc1 ?_
      refine SN.value (v := .int .i64 (-1)) (w' := wx) rfl (by rfl) (by simp [execOp, go_sem, Act.eval, Act.put]) ?_
      refine SN.value (v := .bool false) (w' := wx) rfl (by rfl) (by simp [execOp, go_sem, Act.eval, Act.put]) ?_
      refine SN.of_ops (show K1 _ _ from hK1 _ _ ?_)
      simp only [Act.put, List.setIfInBounds_toArray, List.set_cons_zero, List.set_cons_succ]
      refine CN.of_wp ?_
      go_wp2
      go_ret
      exact ⟨A, c, rfl, ho, hlo⟩
end Go.Proofs.YtoimmfcodflmkaaDoor
