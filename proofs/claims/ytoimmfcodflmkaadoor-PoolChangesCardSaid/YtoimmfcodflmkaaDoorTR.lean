/- The reference of pool: Take. -/
import Derived.Test.YtoimmfcodflmkaaDoorTK
import Derived.Test.YtoimmfcodflmkaaDoorT8
import Derived.RegionTactic
namespace Go.Proofs.YtoimmfcodflmkaaDoor
open Go.RowKit
set_option linter.unusedVariables false
set_option linter.unusedSimpArgs false

/-- 'append([]T{}, l...)': onto a slice without room: nothing that was there changes. -/
theorem run_append_fresh {P : Program} (w : World) (base : Nat) (t e : TypeId) (i : TypeInfo) (z : Value) (size bytes : Nat) (ht : P.underlying t = some (.slice e)) (hi : P.info? e = some i) (hz : i.zero = some z)
    (hsize : i.size = size) (hby : i.bytes = bytes) (hzs : z.cells.size = size) (hsz : 0 < size)
    (g : Nat) (hown : Own w base e size (.slice (some ⟨g, 0, none⟩) 0 0) 0 [])
    (B : Nat) (A : Option Addr) (m c : Nat) (news : List Value) (hr : Sl w B size A m news)
    (h63 : m ≤ maxLen) (hbytes : m * bytes ≤ 140737488355328) (hbase : base ≤ w.heap.size) :
    ∃ A' c' w', (∀ ty, (Builtin.append_ #[t, t] ty #[.slice (some ⟨g, 0, none⟩) 0 0, .slice A m c]).run P w = .ok (.slice A' m c') w') ∧ Own w' base e size (.slice A' m c') m news ∧ Below w.heap.size w w' := by
  by_cases hm : m = 0
  · subst hm
    have hn : news = [] := List.eq_nil_of_length_eq_zero (by simpa using hr.1)
    subst hn
    refine ⟨some ⟨g, 0, none⟩, 0, w, ?_, hown, Below.refl _ _⟩
    intro ty
    cases A <;> simp [Builtin.append_, run_underlying ht, sizeOf, typeInfo, hi, Builtin.lenOf, Builtin.firstCells, loadCells, loadCellsFrom, storeCells]
  · obtain ⟨ad, rfl, _, hnews⟩ := hr.2 (by omega)
    have hl := hr.1
    subst hsize
    subst hby
    have hsmall : m ≤ 9223372036854775807 := by simp only [maxLen] at h63; omega
    have hr' := fun ty => run_append_grow (P := P) w t ty e i z ht hi hz ⟨g, 0, none⟩ 0 0 [] (by simp) (by simp) ad m c news hl hnews (by omega) (by omega) (growslice_fits (by omega) (by simpa using hbytes))
    simp only [Nat.zero_add, List.nil_append, Array.empty_append] at hr'
    refine ⟨_, _, _, hr', ⟨hl, .inr ⟨w.heap.size, 0, _, _, rfl, hbase, heap_alloc_new w.drew _, grownCap_ge w m 0 e, grownCap_le_maxLen w m 0 e h63, ?_, ?_⟩⟩, ⟨rfl, rfl, rfl, by simp, fun k hk => Below.heap_alloc w.drew _ k hk⟩⟩
    · have hge := grownCap_ge w m 0 e
      simp only [Array.size_append, List.size_toArray, size_zeroCells, hzs, hl, ← Nat.add_mul]
      refine Nat.le_of_eq ?_
      rw [Nat.zero_add]
      congr 1
      omega
    · rw [List.drop_zero]
      simp only [Array.toList_append]
      rw [← hl]
      exact List.take_left
theorem ap_new (w : World) (base g : Nat) (A : Option Addr) (m c : Nat) (ys : List Int) (hown : OwnI w base (some ⟨g, 0, none⟩) 0 0 []) (hr : Sl w w.heap.size 1 A m (iv ys)) (hm : m ≤ 2147483648) (hbase : base ≤ w.heap.size) :
    ∃ A' c' w', (∀ ty, (Builtin.append_ #[22, 22] ty #[.slice (some ⟨g, 0, none⟩) 0 0, .slice A m c]).run Tryd.prog w = .ok (.slice A' m c') w') ∧ OwnI w' base A' m c' ys ∧ Below w.heap.size w w' := by
  obtain ⟨i0, hi, hz0, hz1, hz2⟩ := info_parts int_info
  exact run_append_fresh w base 22 3 i0 (.int .i64 0) 1 8 Tryd.underlying22 hi hz0 hz1 hz2 rfl (by omega) g hown w.heap.size A m c (iv ys) hr (by simp only [maxLen]; omega) (by omega) hbase
/-- A slice without its first element. -/
theorem cut_sl {w : World} {ad : Addr} {c : Nat} {x : Int} {ys : List Int} (h : GI w (some ad) c (x :: ys)) : Sl w w.heap.size 1 (if c = 1 then some ad else some (ad.add 1)) ys.length (iv ys) := by
  refine ⟨by rw [iv_len]; omega, fun hn => ?_⟩
  have h1 := h.1
  simp only [List.length_cons] at h1
  rw [if_neg (by omega)]
  obtain ⟨ad', e, hb, hc⟩ := h.2.2.2 (by simp)
  obtain rfl : ad = ad' := by injection e
  refine ⟨_, rfl, by rw [add_block]; exact hb, fun j u hu => ?_⟩
  rw [add_twice]
  exact hc (1 + j) u (by rw [Nat.add_comm]; simpa [iv] using hu)
theorem cons_cell {w : World} {ad : Addr} {c : Nat} {x : Int} {ys : List Int} (h : GI w (some ad) c (x :: ys)) : w.cell? ad = some (.int .i64 x) := by
  obtain ⟨ad', e, hb, hc⟩ := h.2.2.2 (by simp)
  obtain rfl : ad = ad' := by injection e
  have := hc 0 (.int .i64 x) (by simp [iv])
  simpa [Addr.add] using this

noncomputable def tk6_l : List Oper := (Tryd.f19.body.bind (regIn · 6)).getD []
theorem tk6_o0 : tk6_l[0]?.map (fun o => (o.dst, o.op, o.guard)) = some (some 21, .fieldAddr 24 (.tmp 1) 0, none) := by kernel_rfl
theorem tk6_o1 : tk6_l[1]?.map (fun o => (o.dst, o.op, o.guard)) = some (some 22, .load 3 (.tmp 21), none) := by kernel_rfl
theorem tk6_o2 : tk6_l[2]?.map (fun o => (o.dst, o.op, o.guard)) = some (some 23, .buildSlice 22 0 #[], none) := by kernel_rfl
theorem tk6_o3 : tk6_l[3]?.map (fun o => (o.dst, o.op, o.guard)) = some (some 24, .fieldAddr 24 (.tmp 1) 1, none) := by kernel_rfl
theorem tk6_o4 : tk6_l[4]?.map (fun o => (o.dst, o.op, o.guard)) = some (some 25, .load 22 (.tmp 24), none) := by kernel_rfl
theorem tk6_o5 : tk6_l[5]?.map (fun o => (o.dst, o.op, o.guard)) = some (some 26, .slice 22 (.tmp 25) (some (.const (.int .i64 1))) none none, none) := by kernel_rfl
theorem tk6_o6 : tk6_l[6]?.map (fun o => (o.dst, o.op, o.guard)) = some (some 27, .call { callee := .builtin .append, args := #[(.tmp 23), (.tmp 26)], argTypes := #[22, 22] }, none) := by kernel_rfl
theorem tk6_o7 : tk6_l[7]?.map (fun o => (o.dst, o.op, o.guard)) = some (some 28, .build 24 #[(0, .tmp 22), (1, .tmp 27)], none) := by kernel_rfl
theorem tk6_o8 : tk6_l[8]?.map (fun o => (o.dst, o.op, o.guard)) = some (some 29, .fieldAddr 24 (.tmp 1) 1, none) := by kernel_rfl
theorem tk6_o9 : tk6_l[9]?.map (fun o => (o.dst, o.op, o.guard)) = some (some 30, .load 22 (.tmp 29), none) := by kernel_rfl
theorem tk6_o10 : tk6_l[10]?.map (fun o => (o.dst, o.op, o.guard)) = some (some 31, .indexAddr 22 (.tmp 30) (.const (.int .i64 0)), none) := by kernel_rfl
theorem tk6_o11 : tk6_l[11]?.map (fun o => (o.dst, o.op, o.guard)) = some (some 32, .load 3 (.tmp 31), none) := by kernel_rfl
theorem tk6_o12 : tk6_l[12]?.map (fun o => (o.dst, o.op, o.guard)) = some (none, .store 24 (.tmp 2) (.tmp 28), none) := by kernel_rfl
theorem tk6_o13 : tk6_l[13]?.map (fun o => (o.dst, o.op, o.guard)) = some (some 3, .assign (.tmp 32), none) := by kernel_rfl
theorem tk6_o14 : tk6_l[14]?.map (fun o => (o.dst, o.op, o.guard)) = some (some 4, .assign (.const (.int .i64 0)), none) := by kernel_rfl
def tk6_sp (s x : Int) (ad : Addr) (c B R L : Nat) (ys : List Int) (W : World) : Nat → Spec
  | 0 => ⟨Unit, [21], fun _ => [(21, .pointer (some ⟨B, 0, none⟩))], fun _ _ => True⟩
  | 1 => ⟨Unit, [22], fun _ => [(22, .int .i64 s)], fun _ _ => True⟩
  | 2 => ⟨Nat, [23], fun Gn => [(23, .slice (some ⟨Gn, 0, none⟩) 0 0)], fun Gn w => OwnI w L (some ⟨Gn, 0, none⟩) 0 0 []⟩
  | 3 => ⟨Unit, [24], fun _ => [(24, .pointer (some ⟨B, 1, none⟩))], fun _ _ => True⟩
  | 4 => ⟨Unit, [25], fun _ => [(25, .slice (some ad) (ys.length + 1) c)], fun _ _ => True⟩
  | 5 => ⟨Unit, [26], fun _ => [(26, .slice (if c = 1 then some ad else some (ad.add 1)) ys.length (c - 1))], fun _ _ => True⟩
  | 6 => ⟨Option Addr × Nat, [27], fun ⟨A7, c7⟩ => [(27, .slice A7 ys.length c7)], fun ⟨A7, c7⟩ w => OwnI w L A7 ys.length c7 ys⟩
  | 7 => ⟨Option Addr × Nat, [28], fun ⟨A7, c7⟩ => [(28, .agg #[.int .i64 s, .slice A7 ys.length c7])], fun ⟨A7, c7⟩ w => OwnI w L A7 ys.length c7 ys⟩
  | 8 => ⟨Unit, [29], fun _ => [(29, .pointer (some ⟨B, 1, none⟩))], fun _ _ => True⟩
  | 9 => ⟨Unit, [30], fun _ => [(30, .slice (some ad) (ys.length + 1) c)], fun _ _ => True⟩
  | 10 => ⟨Unit, [31], fun _ => [(31, .pointer (some ad))], fun _ _ => True⟩
  | 11 => ⟨Unit, [32], fun _ => [(32, .int .i64 x)], fun _ _ => True⟩
  | 12 => ⟨Option Addr × Nat, [], fun ⟨A7, c7⟩ => [], fun ⟨A7, c7⟩ w => Bx w R 24 #[.int .i64 s, .slice A7 ys.length c7] ∧ OwnI w L A7 ys.length c7 ys⟩
  | 13 => ⟨Unit, [3], fun _ => [(3, .int .i64 x)], fun _ _ => True⟩
  | 14 => ⟨Unit, [4], fun _ => [(4, .int .i64 0)], fun _ _ => True⟩
  | _ => ⟨Unit, [], fun _ => [], fun _ _ => True⟩
theorem tk6_fb (s x : Int) (ad : Addr) (c B R L : Nat) (ys : List Int) (W : World) : slB tk6_l (fun j => (tk6_sp s x ad c B R L ys W j).ss) = true := by kernel_rfl
set_option maxRecDepth 100000 in
set_option maxHeartbeats 2000000 in
theorem tk6 {Q : Exit → Act → World → Prop} {a0 : Act} {W : World} (s x : Int) (ad : Addr) (c B R L : Nat) (ys : List Int)  (z0 : a0.tmps.size = 33) (p1 : Sv a0 1 (.pointer (some ⟨B, 0, none⟩))) (p2 : Sv a0 2 (.pointer (some ⟨R, 0, none⟩))) (hB : Bx W B 24 #[.int .i64 s, .slice (some ad) (ys.length + 1) c]) (hR : Bx W R 24 #[.int .i64 0, .slice none 0 0]) (hLW : L ≤ W.heap.size) (hLR : L ≤ R) (hne : B ≠ R) (hlen : ys.length + 1 ≤ 1000) (hgi : ∀ w', Below L W w' → GI w' (some ad) c (x :: ys))
    (fin : ∀ ac w, Fr a0 tk6_l ac → Below L W w → (∃ A7 : Option Addr, ∃ c7 : Nat, Bx w R 24 #[.int .i64 s, .slice A7 ys.length c7] ∧ OwnI w L A7 ys.length c7 ys) → (Sv ac 3 (.int .i64 x)) → (Sv ac 4 (.int .i64 0)) → Q .normal ac w) : (Code.region 6 tk6_l.toArray true).wp Tryd.prog Q a0 W := by
  refine region_of (n := 15) (by kernel_rfl) (by kernel_rfl) (by kernel_rfl) (tk6_sp s x ad c B R L ys W) (tk6_fb s x ad c B R L ys W) (fun w => Below L W w ∧ (∃ cs, Bx w R 24 cs ∧ cs.size = 2) ∧ Bx w B 24 #[.int .i64 s, .slice (some ad) (ys.length + 1) c]) (stpN 24 [12]) ⟨⟨rfl, rfl, rfl, Nat.le_refl _, fun _ _ => rfl⟩, ⟨_, hR, rfl⟩, hB⟩ ?_ ?_ ?_
  · intro i hi ac w hF hI hk
    have z := hF.1.trans z0
    have f1 := hF.sv (s := 1) (by kernel_rfl) p1
    have f2 := hF.sv (s := 2) (by kernel_rfl) p2
    match i, hi with
    | 0, _ =>
      exact ob_val (v := .pointer (some ⟨B, 0, none⟩)) tk6_o0 (.inl rfl) (fun o ho => by have e1 := f1.eval; generalize ac.eval = ρ at *; simp [execOp, ho, e1, go_sem]) ⟨⟨_, rfl⟩, hI, Below.refl _ _, ⟨(), rfl, sv1 (Sv.dst (by kernel_rfl) (by rw [z]; decide) _), trivial⟩⟩
    | 1, _ =>
      obtain ⟨⟨⟩, -, hs0, hw0⟩ := hk 0 (mem_reach (by kernel_rfl))
      have f21 : Sv ac 21 (.pointer (some ⟨B, 0, none⟩)) := hs0 _ (List.Mem.head _)
      exact ob_val (v := .int .i64 s) tk6_o1 (.inl rfl) (fun o ho => by have e1 := f21.eval; have hc : w.cell? ⟨B, 0, none⟩ = some (.int .i64 s) := hI.2.2.cell 0; generalize ac.eval = ρ at *; simp [execOp, ho, e1, hc, go_sem]) ⟨⟨_, rfl⟩, hI, Below.refl _ _, ⟨(), rfl, sv1 (Sv.dst (by kernel_rfl) (by rw [z]; decide) _), trivial⟩⟩
    | 2, _ =>
      obtain ⟨Gn, w2, hrun, hwd, hb⟩ := (⟨w.heap.size, w.alloc (.cells #[] 3), ⟨rfl, rfl⟩, (OwnI.new w).mono (Nat.le_trans hLW hI.1.size), al _ _⟩ : ∃ (Gn : Nat) (w2 : World), (Gn = w.heap.size ∧ w2 = w.alloc (.cells #[] 3)) ∧ OwnI w2 L (some ⟨Gn, 0, none⟩) 0 0 [] ∧ Below w.heap.size w w2)
      refine ob_val (v := .slice (some ⟨Gn, 0, none⟩) 0 0) (w' := w2) tk6_o2 (.inl rfl) (fun o ho => ?_) ⟨⟨_, rfl⟩, ⟨hI.1.trans (hb.mono (Nat.le_trans hLW hI.1.size)), ⟨_, hI.2.1.choose_spec.1.below hb, hI.2.1.choose_spec.2⟩, hI.2.2.below hb⟩, hb, ⟨Gn, rfl, sv1 (Sv.dst (by kernel_rfl) (by rw [z]; decide) _), hwd⟩⟩
      obtain ⟨rfl, rfl⟩ := hrun; simp [execOp, ho, go_sem]
    | 3, _ =>
      exact ob_val (v := .pointer (some ⟨B, 1, none⟩)) tk6_o3 (.inl rfl) (fun o ho => by have e1 := f1.eval; generalize ac.eval = ρ at *; simp [execOp, ho, e1, go_sem]) ⟨⟨_, rfl⟩, hI, Below.refl _ _, ⟨(), rfl, sv1 (Sv.dst (by kernel_rfl) (by rw [z]; decide) _), trivial⟩⟩
    | 4, _ =>
      obtain ⟨⟨⟩, -, hs3, hw3⟩ := hk 3 (mem_reach (by kernel_rfl))
      have f24 : Sv ac 24 (.pointer (some ⟨B, 1, none⟩)) := hs3 _ (List.Mem.head _)
      exact ob_val (v := .slice (some ad) (ys.length + 1) c) tk6_o4 (.inl rfl) (fun o ho => by have e1 := f24.eval; have hc : w.cell? ⟨B, 1, none⟩ = some (.slice (some ad) (ys.length + 1) c) := hI.2.2.cell 1; generalize ac.eval = ρ at *; simp [execOp, ho, e1, hc, go_sem]) ⟨⟨_, rfl⟩, hI, Below.refl _ _, ⟨(), rfl, sv1 (Sv.dst (by kernel_rfl) (by rw [z]; decide) _), trivial⟩⟩
    | 5, _ =>
      obtain ⟨⟨⟩, -, hs4, hw4⟩ := hk 4 (mem_reach (by kernel_rfl))
      have f25 : Sv ac 25 (.slice (some ad) (ys.length + 1) c) := hs4 _ (List.Mem.head _)
      exact ob_val (v := .slice (if c = 1 then some ad else some (ad.add 1)) ys.length (c - 1)) tk6_o5 (.inl rfl) (fun o ho => by have e25 := f25.eval; have ec1 : ac.eval (.const (.int .i64 1)) = .int .i64 1 := rfl; generalize ac.eval = ρ at *; simp [execOp, ho, e25, ec1, go_sem]; intro h; omega) ⟨⟨_, rfl⟩, hI, Below.refl _ _, ⟨(), rfl, sv1 (Sv.dst (by kernel_rfl) (by rw [z]; decide) _), trivial⟩⟩
    | 6, _ =>
      obtain ⟨Gn, -, hs2, hw2⟩ := hk 2 (mem_reach (by kernel_rfl))
      have f23 : Sv ac 23 (.slice (some ⟨Gn, 0, none⟩) 0 0) := hs2 _ (List.Mem.head _)
      obtain ⟨⟨⟩, -, hs5, hw5⟩ := hk 5 (mem_reach (by kernel_rfl))
      have f26 : Sv ac 26 (.slice (if c = 1 then some ad else some (ad.add 1)) ys.length (c - 1)) := hs5 _ (List.Mem.head _)
      obtain ⟨A7, c7, w2, hrun, hwd, hb⟩ := ap_new w L Gn (if c = 1 then some ad else some (ad.add 1)) ys.length (c - 1) ys hw2 (cut_sl (hgi w hI.1)) (by omega) (Nat.le_trans hLW hI.1.size)
      refine ob_val (v := .slice A7 ys.length c7) (w' := w2) tk6_o6 (.inl rfl) (fun o ho => ?_) ⟨⟨_, rfl⟩, ⟨hI.1.trans (hb.mono (Nat.le_trans hLW hI.1.size)), ⟨_, hI.2.1.choose_spec.1.below hb, hI.2.1.choose_spec.2⟩, hI.2.2.below hb⟩, hb, ⟨(A7, c7), rfl, sv1 (Sv.dst (by kernel_rfl) (by rw [z]; decide) _), hwd⟩⟩
      have e23 := f23.eval; have e26 := f26.eval; simp only [execOp, ho, resolve, invoke, builtin, Sem.run_bind, Sem.run_pure, Result.andThen_ok, List.map_toArray, List.map_cons, List.map_nil, e23, e26, hrun]
    | 7, _ =>
      obtain ⟨⟨⟩, -, hs1, hw1⟩ := hk 1 (mem_reach (by kernel_rfl))
      have f22 : Sv ac 22 (.int .i64 s) := hs1 _ (List.Mem.head _)
      obtain ⟨⟨A7, c7⟩, -, hs6, hw6⟩ := hk 6 (mem_reach (by kernel_rfl))
      have f27 : Sv ac 27 (.slice A7 ys.length c7) := hs6 _ (List.Mem.head _)
      exact ob_val (v := .agg #[.int .i64 s, .slice A7 ys.length c7]) tk6_o7 (.inl rfl) (fun o ho => by have e22 := f22.eval; have e27 := f27.eval; generalize ac.eval = ρ at *; simp [execOp, ho, e22, e27, go_sem]) ⟨⟨_, rfl⟩, hI, Below.refl _ _, ⟨(A7, c7), rfl, sv1 (Sv.dst (by kernel_rfl) (by rw [z]; decide) _), hw6⟩⟩
    | 8, _ =>
      exact ob_val (v := .pointer (some ⟨B, 1, none⟩)) tk6_o8 (.inl rfl) (fun o ho => by have e1 := f1.eval; generalize ac.eval = ρ at *; simp [execOp, ho, e1, go_sem]) ⟨⟨_, rfl⟩, hI, Below.refl _ _, ⟨(), rfl, sv1 (Sv.dst (by kernel_rfl) (by rw [z]; decide) _), trivial⟩⟩
    | 9, _ =>
      obtain ⟨⟨⟩, -, hs8, hw8⟩ := hk 8 (mem_reach (by kernel_rfl))
      have f29 : Sv ac 29 (.pointer (some ⟨B, 1, none⟩)) := hs8 _ (List.Mem.head _)
      exact ob_val (v := .slice (some ad) (ys.length + 1) c) tk6_o9 (.inl rfl) (fun o ho => by have e1 := f29.eval; have hc : w.cell? ⟨B, 1, none⟩ = some (.slice (some ad) (ys.length + 1) c) := hI.2.2.cell 1; generalize ac.eval = ρ at *; simp [execOp, ho, e1, hc, go_sem]) ⟨⟨_, rfl⟩, hI, Below.refl _ _, ⟨(), rfl, sv1 (Sv.dst (by kernel_rfl) (by rw [z]; decide) _), trivial⟩⟩
    | 10, _ =>
      obtain ⟨⟨⟩, -, hs9, hw9⟩ := hk 9 (mem_reach (by kernel_rfl))
      have f30 : Sv ac 30 (.slice (some ad) (ys.length + 1) c) := hs9 _ (List.Mem.head _)
      exact ob_val (v := .pointer (some ad)) tk6_o10 (.inl rfl) (fun o ho => by have e30 := f30.eval; have ec1 : ac.eval (.const (.int .i64 0)) = .int .i64 0 := rfl; generalize ac.eval = ρ at *; simp [execOp, ho, e30, ec1, go_sem]) ⟨⟨_, rfl⟩, hI, Below.refl _ _, ⟨(), rfl, sv1 (Sv.dst (by kernel_rfl) (by rw [z]; decide) _), trivial⟩⟩
    | 11, _ =>
      obtain ⟨⟨⟩, -, hs10, hw10⟩ := hk 10 (mem_reach (by kernel_rfl))
      have f31 : Sv ac 31 (.pointer (some ad)) := hs10 _ (List.Mem.head _)
      exact ob_val (v := .int .i64 x) tk6_o11 (.inl rfl) (fun o ho => by have e31 := f31.eval; generalize ac.eval = ρ at *; have hc := cons_cell (hgi w hI.1); simp [execOp, ho, e31, hc, go_sem]) ⟨⟨_, rfl⟩, hI, Below.refl _ _, ⟨(), rfl, sv1 (Sv.dst (by kernel_rfl) (by rw [z]; decide) _), trivial⟩⟩
    | 12, _ =>
      obtain ⟨⟨A7, c7⟩, -, hs7, hw7⟩ := hk 7 (mem_reach (by kernel_rfl))
      have f28 : Sv ac 28 (.agg #[.int .i64 s, .slice A7 ys.length c7]) := hs7 _ (List.Mem.head _)
      obtain ⟨cs0, hb0, hz0⟩ := hI.2.1
      refine ob_skip (w' := w.setRow R #[.int .i64 s, .slice A7 ys.length c7]) tk6_o12 (.inl rfl) (ev_srow f2.eval f28.eval hb0 (n := 2) (by kernel_rfl) rfl hz0 (by simp [Value.oneCell'])) ⟨⟨_, rfl⟩, ⟨below_setRow hI.1 hLR _, ⟨_, hb0.row _, rfl⟩, hI.2.2.rowO hne _⟩, ⟨R, cs0, _, hb0, by rw [hz0]; rfl, rfl⟩, ?_⟩
      exact ⟨(A7, c7), rfl, (fun _ h => by cases h), ⟨hb0.row _, (hw7.rowT hb0 (by decide) _)⟩⟩
    | 13, _ =>
      obtain ⟨⟨⟩, -, hs11, hw11⟩ := hk 11 (mem_reach (by kernel_rfl))
      have f32 : Sv ac 32 (.int .i64 x) := hs11 _ (List.Mem.head _)
      exact ob_val (v := .int .i64 x) tk6_o13 (.inl rfl) (ev_assign f32.eval) ⟨⟨_, rfl⟩, hI, Below.refl _ _, ⟨(), rfl, sv1 (Sv.dst (by kernel_rfl) (by rw [z]; decide) _), trivial⟩⟩
    | 14, _ =>
      exact ob_val (v := .int .i64 0) tk6_o14 (.inl rfl) (ev_assign rfl) ⟨⟨_, rfl⟩, hI, Below.refl _ _, ⟨(), rfl, sv1 (Sv.dst (by kernel_rfl) (by rw [z]; decide) _), trivial⟩⟩
    | k + 15, h => exact absurd h (by omega)
  · intro i j hi hj hij x w w' hI hst hw
    match j, hj, x, hw with
    | 0, _, _, _ => exact trivial
    | 1, _, _, _ => exact trivial
    | 2, _, Gn, hw => exact hst.own (by decide) hw
    | 3, _, _, _ => exact trivial
    | 4, _, _, _ => exact trivial
    | 5, _, _, _ => exact trivial
    | 6, _, ⟨A7, c7⟩, hw => exact hst.own (by decide) hw
    | 7, _, ⟨A7, c7⟩, hw => exact hst.own (by decide) hw
    | 8, _, _, _ => exact trivial
    | 9, _, _, _ => exact trivial
    | 10, _, _, _ => exact trivial
    | 11, _, _, _ => exact trivial
    | 12, _, ⟨A7, c7⟩, hw => exact ⟨hw.1.below (hst.low (by simp; omega)), hst.own (by decide) hw.2⟩
    | 13, _, _, _ => exact trivial
    | 14, _, _, _ => exact trivial
    | k + 15, h, _, _ => exact absurd h (by omega)
  · intro ac w hF hI hall
    obtain ⟨⟨A7, c7⟩, -, hs12, hw12⟩ := hall 12 (by omega)
    have g12 : (∃ A7 : Option Addr, ∃ c7 : Nat, Bx w R 24 #[.int .i64 s, .slice A7 ys.length c7] ∧ OwnI w L A7 ys.length c7 ys) := ⟨A7, c7, hw12⟩
    obtain ⟨⟨⟩, -, hs13, hw13⟩ := hall 13 (by omega)
    have g13 : (Sv ac 3 (.int .i64 x)) := hs13 _ (List.Mem.head _)
    obtain ⟨⟨⟩, -, hs14, hw14⟩ := hall 14 (by omega)
    have g14 : (Sv ac 4 (.int .i64 0)) := hs14 _ (List.Mem.head _)
    exact fin ac w hF hI.1  g12 g13 g14

set_option maxHeartbeats 2000000 in
theorem sTake_bad (s : Int) (A : Option Addr) (c : Nat) (xs : List Int) (w : World) (ha : GI w A c xs) (he : tkE s xs ≠ 0) :
    Calls Tryd.prog 19 #[.agg #[.int .i64 s, .slice A xs.length c]] w (RetP3 w 0 [] 0 (tkE s xs)) := by
  have hx := (Bx.new w 24 #[.int .i64 s, .slice A xs.length c]).alloc (.cells #[.int .i64 0, .slice none 0 0] 24)
  have hy := Bx.new (w.alloc (.cells #[.int .i64 s, .slice A xs.length c] 24)) 24 #[.int .i64 0, .slice none 0 0]
  rw [World.size_alloc] at hy
  have hw := below_step (al w (.cells #[.int .i64 s, .slice A xs.length c] 24)) (al _ (.cells #[.int .i64 0, .slice none 0 0] 24))
  have hg := ha.below hw
  have Hc := Lib.hid (fun W (hW : GI W A c xs) => sCheck_any s A c xs W hW)
  clear ha
  unfold tkE at he ⊢
  by_cases hc : (chkP s xs).1 = 0
  · rw [if_neg (by simpa using hc)] at he ⊢
    have hok := chkP_ok hc
    rw [hok.chk] at Hc
    have hl0 : xs = [] := by
      refine Decidable.byContradiction fun h => ?_
      rw [if_neg (by simpa using h)] at he
      exact he rfl
    subst hl0
    rw [show (if ([] : List Int).length = 0 then (5 : Int) else 0) = 5 from rfl]
    clear hc he hok
    go_enter Tryd.func19, Tryd.ntmps19
    go_wp2_with (first | (refine wpList_load_row rfl 24 _ rfl (w.heap.size) rfl 24 _ _ _ hx Tryd.underlying24 rfl pool_size ?_))
    refine (Hc.out _ hg).mono ?_
    rintro e w1 ⟨rfl, hb1⟩
    have hx1 := hx.below hb1
    have hy1 := hy.below hb1
    have hw1 := below_step hw hb1
    clear hx hy hb1 hw hg
    obtain ⟨e0, e1⟩ := s2 hx1
    go_wp2_with (first | (refine wpList_store_row rfl 24 _ _ rfl (w.heap.size + 1) _ rfl rfl 24 _ hy1 pool_size rfl (pv_one _ _ _ _) ?_))
    refine bodyPost_ret (res_c2 rfl (v := .int .i64 0) (v2 := .int .i64 5) rfl rfl rfl (hy1.row _) Tryd.underlying24 pool_size) rfl ⟨none, 0, rfl, OwnI.none _ _, ?_⟩
    exact below_setRow hw1 (by omega) _
  · rw [if_pos hc]
    have hc' : ((chkP s xs).1 != 0) = true := by simp [hc]
    generalize chkP s xs = ce at *
    obtain ⟨ce, ci⟩ := ce
    simp only at hc' ⊢
    clear hc he
    go_enter Tryd.func19, Tryd.ntmps19
    go_wp2_with (first | (refine wpList_load_row rfl 24 _ rfl (w.heap.size) rfl 24 _ _ _ hx Tryd.underlying24 rfl pool_size ?_))
    refine (Hc.out _ hg).mono ?_
    rintro e w1 ⟨rfl, hb1⟩
    have hx1 := hx.below hb1
    have hy1 := hy.below hb1
    have hw1 := below_step hw hb1
    clear hx hy hb1 hw hg
    go_wp2_with (first | (refine wpList_store_row rfl 24 _ _ rfl (w.heap.size + 1) _ rfl rfl 24 _ hy1 pool_size rfl (pv_one _ _ _ _) ?_))
    refine bodyPost_ret (res_c2 rfl (v := .int .i64 0) (v2 := .int .i64 ce) rfl rfl rfl (hy1.row _) Tryd.underlying24 pool_size) rfl ⟨none, 0, rfl, OwnI.none _ _, ?_⟩
    exact below_setRow hw1 (by omega) _

set_option maxHeartbeats 2000000 in
theorem sTake_ok (s : Int) (A : Option Addr) (c : Nat) (x : Int) (ys : List Int) (w : World) (ha : GI w A c (x :: ys)) (hok : OkP s (x :: ys)) :
    Calls Tryd.prog 19 #[.agg #[.int .i64 s, .slice A (x :: ys).length c]] w (RetP3 w s ys x 0) := by
  have hlen := hok.len
  have hhi := hok.hi
  simp only [List.length_cons] at hlen
  obtain ⟨ad, rfl, _, _⟩ := ha.at_ (k := 0) (by simp)
  have Hc := Lib.hid (fun W (hW : GI W (some ad) c (x :: ys)) => sCheck_any s (some ad) c (x :: ys) W hW)
  rw [hok.chk] at Hc
  simp only [List.length_cons] at Hc ⊢
  have hx := (Bx.new w 24 #[.int .i64 s, .slice (some ad) (ys.length + 1) c]).alloc (.cells #[.int .i64 0, .slice none 0 0] 24)
  have hy := Bx.new (w.alloc (.cells #[.int .i64 s, .slice (some ad) (ys.length + 1) c] 24)) 24 #[.int .i64 0, .slice none 0 0]
  rw [World.size_alloc] at hy
  have hw := below_step (al w (.cells #[.int .i64 s, .slice (some ad) (ys.length + 1) c] 24)) (al _ (.cells #[.int .i64 0, .slice none 0 0] 24))
  have hg := ha.below hw
  clear hok
  go_enter Tryd.func19, Tryd.ntmps19
  go_wp2_with (first | (refine wpList_load_row rfl 24 _ rfl (w.heap.size) rfl 24 _ _ _ hx Tryd.underlying24 rfl pool_size ?_))
  refine (Hc.out _ hg).mono ?_
  rintro e w1 ⟨rfl, hb1⟩
  have hx1 := hx.below hb1
  have hy1 := hy.below hb1
  have hw1 := below_step hw hb1
  clear hx hy hb1 hw hg
  obtain ⟨e0, e1⟩ := s2 hx1
  have hnz : ((ys.length : Int) + 1 == 0) = false := by simp; omega
  have hnz2 : (ys.length + 1 = 0) = False := by simp
  go_upto_region 6 with fail
  rename_i K hK
  refine tk6 s x ad c w.heap.size (w.heap.size + 1) w.heap.size ys rfl rfl rfl hx1 hy1 hw1.size (by omega) (by omega) (by omega) (fun w' h => ha.below (hw1.trans h)) ?_
  intro a' w' hF hb g12 g13 g14
  obtain ⟨A7, c7, g12, go⟩ := g12
  refine hK _ _ ?_
  obtain ⟨fv, hfv, hfr⟩ := hF.lit [21, 22, 23, 24, 25, 26, 27, 28, 29, 30, 31, 32, 3, 4] (dsts_in (by kernel_rfl))
  have ev3 := hfv 3 _ g13
  have ev4 := hfv 4 _ g14
  subst hfr
  simp only [List.foldl_cons, List.foldl_nil, Act.put, List.setIfInBounds_toArray, List.set_cons_zero, List.set_cons_succ, ev3, ev4]
  clear hfv hF ev3 ev4 g13 g14
  generalize fv 21 = u21
  generalize fv 22 = u22
  generalize fv 23 = u23
  generalize fv 24 = u24
  generalize fv 25 = u25
  generalize fv 26 = u26
  generalize fv 27 = u27
  generalize fv 28 = u28
  generalize fv 29 = u29
  generalize fv 30 = u30
  generalize fv 31 = u31
  generalize fv 32 = u32
  clear fv
  clear hK K
  go_wp2
  refine bodyPost_ret (res_c2 rfl (v := .int .i64 x) (v2 := .int .i64 0) rfl rfl rfl g12 Tryd.underlying24 pool_size) rfl ⟨A7, c7, rfl, go, hw1.trans hb⟩
end Go.Proofs.YtoimmfcodflmkaaDoor
