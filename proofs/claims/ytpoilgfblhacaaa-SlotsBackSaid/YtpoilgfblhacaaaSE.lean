/- Slices cut, closed up in place, cleared. No function of the program is walked here. -/
import Derived.Test.YtpoilgfblhacaaaSD
namespace Go.Proofs.Ytpoilgfblhacaaa
open Go.RowKit
set_option linter.unusedVariables false
set_option linter.unusedSimpArgs false
set_option linter.unusedSectionVars false

section
variable {P : Program} {ρ : Operand → Value} {w : World} {x y z y2 : Operand} {t e : TypeId} {A A' : Option Addr} {n c l h m size : Nat} {lv hv mv : Int}
theorem ev_sl_h (hx : ρ x = .slice A n c) (hy : ρ y = .int .i64 hv) (eh : hv = (h : Int)) (hh : h ≤ c) (hu : P.underlying t = some (.slice e)) (hs : (P.info? e).map (·.size) = some size) (o : Oper) (ho : o.op = .slice t x none (some y) none) : (execOp ρ o).run P w = .ok (.value (.slice A h c)) w := by
  obtain ⟨i, hi1, hi2⟩ := Option.map_eq_some_iff.1 hs
  subst eh
  have h1 : (h : Int) ≤ (c : Int) := by omega
  have e0 : (if c = 0 then A else A.map fun a => a.add (0 * size)) = A := by
    cases A <;> simp [Addr.add]
  simp [execOp, ho, hx, hy, Instr.sliceAt, Instr.slice, Instr.sliceBounds, Instr.sliceBound, run_underlying hu, sizeOf, typeInfo, hi1, hi2, h1, go_sem, hh]
theorem ev_sl_l (hx : ρ x = .slice A n c) (hy : ρ y = .int .i64 lv) (el : lv = (l : Int)) (hl : l ≤ n) (hA : (if c = l then A else A.map fun a => a.add (l * size)) = A') (hu : P.underlying t = some (.slice e)) (hs : (P.info? e).map (·.size) = some size) (o : Oper) (ho : o.op = .slice t x (some y) none none) : (execOp ρ o).run P w = .ok (.value (.slice A' (n - l) (c - l))) w := by
  obtain ⟨i, hi1, hi2⟩ := Option.map_eq_some_iff.1 hs
  subst el hA
  have h1 : (l : Int) ≤ (n : Int) := by omega
  simp [execOp, ho, hx, hy, Instr.sliceAt, Instr.slice, Instr.sliceBounds, Instr.sliceBound, run_underlying hu, sizeOf, typeInfo, hi1, hi2, h1, go_sem, hl]
theorem ev_sl_lh (hx : ρ x = .slice A n c) (hy : ρ y = .int .i64 lv) (hz : ρ z = .int .i64 hv) (el : lv = (l : Int)) (eh : hv = (h : Int)) (hl : l ≤ h) (hh : h ≤ c) (hA : (if c = l then A else A.map fun a => a.add (l * size)) = A') (hu : P.underlying t = some (.slice e)) (hs : (P.info? e).map (·.size) = some size) (o : Oper) (ho : o.op = .slice t x (some y) (some z) none) : (execOp ρ o).run P w = .ok (.value (.slice A' (h - l) (c - l))) w := by
  obtain ⟨i, hi1, hi2⟩ := Option.map_eq_some_iff.1 hs
  subst el eh hA
  have h1 : (l : Int) ≤ (h : Int) := by omega
  have h2 : (h : Int) ≤ (c : Int) := by omega
  simp [execOp, ho, hx, hy, hz, Instr.sliceAt, Instr.slice, Instr.sliceBounds, Instr.sliceBound, run_underlying hu, sizeOf, typeInfo, hi1, hi2, h1, h2, go_sem, hl, hh]
theorem ev_sl_lhm (hx : ρ x = .slice A n c) (hy : ρ y = .int .i64 lv) (hz : ρ z = .int .i64 hv) (hy2 : ρ y2 = .int .i64 mv) (el : lv = (l : Int)) (eh : hv = (h : Int)) (em : mv = (m : Int)) (hl : l ≤ h) (hh : h ≤ m) (hm : m ≤ c) (hA : (if m = l then A else A.map fun a => a.add (l * size)) = A') (hu : P.underlying t = some (.slice e)) (hs : (P.info? e).map (·.size) = some size) (o : Oper) (ho : o.op = .slice t x (some y) (some z) (some y2)) : (execOp ρ o).run P w = .ok (.value (.slice A' (h - l) (m - l))) w := by
  obtain ⟨i, hi1, hi2⟩ := Option.map_eq_some_iff.1 hs
  subst el eh em hA
  have h1 : (l : Int) ≤ (h : Int) := by omega
  have h2 : (h : Int) ≤ (m : Int) := by omega
  have h3 : (m : Int) ≤ (c : Int) := by omega
  simp [execOp, ho, hx, hy, hz, hy2, Instr.sliceAt, Instr.slice, Instr.sliceBounds, Instr.sliceBound, run_underlying hu, sizeOf, typeInfo, hi1, hi2, h1, h2, h3, go_sem, hl, hh, hm]
end

section
variable {α : Type} {va : α → Array Value} {size : Nat} {P : Program} {w : World} {base g off n c : Nat} {e t ty : TypeId} {xs : List α}
theorem Own.grow (h : Own w base e size (.slice (some ⟨g, off, none⟩) n c) n (flat va xs)) : ∃ cur : Array Value, base ≤ g ∧ w.heap[g]? = some (.cells cur e (0, 0)) ∧ n ≤ c ∧ c ≤ maxLen ∧ off + c * size ≤ cur.size ∧ (cur.toList.drop off).take (n * size) = flat va xs := by
  rcases h.2 with ⟨hv, _⟩ | ⟨g', off', cap, cur, hv, r⟩
  · injection hv with hv; cases hv
  · injection hv with hA _ hc
    injection hA with hA
    injection hA with h1 h2 _
    subst h1 h2 hc
    exact ⟨cur, r⟩
theorem Own.take (h : Own w base e size (.slice (some ⟨g, off, none⟩) n c) n (flat va xs)) (hs : ∀ x, (va x).size = size) (hn : n = xs.length) {i : Nat} (hi : i ≤ n) : Own w base e size (.slice (some ⟨g, off, none⟩) i c) i (flat va (xs.take i)) := by
  obtain ⟨cur, h1, h2, h3, h4, h5, h6⟩ := h.grow
  refine ⟨by rw [flat_len hs, List.length_take]; congr 1; omega, .inr ⟨g, off, c, cur, rfl, h1, h2, by omega, h4, h5, ?_⟩⟩
  rw [← flat_take hs, ← h6, List.take_take]
  congr 1
  have : i * size ≤ n * size := Nat.mul_le_mul_right _ hi
  omega
/-- 'append(s[:i], s[j:]...)': in place. -/
theorem run_close (h : Own w base e size (.slice (some ⟨g, off, none⟩) n c) n (flat va xs)) (hs : ∀ x, (va x).size = size) (h1 : ∀ x, (va x).all (·.oneCell') = true) (hn : n = xs.length) {i j : Nat} (hij : i ≤ j) (hj : j ≤ n) {A' : Option Addr} (hA : (if c = j then some ⟨g, off, none⟩ else (some (⟨g, off, none⟩ : Addr)).map fun a => a.add (j * size)) = A')
    (hu : P.underlying t = some (.slice e)) (hi : (P.info? e).map (·.size) = some size) :
    ∃ w', (Builtin.append_ #[t, t] ty #[.slice (some ⟨g, off, none⟩) i c, .slice A' (n - j) (c - j)]).run P w = .ok (.slice (some ⟨g, off, none⟩) (xs.take i ++ xs.drop j).length c) w' ∧
      Own w' base e size (.slice (some ⟨g, off, none⟩) (xs.take i ++ xs.drop j).length c) (xs.take i ++ xs.drop j).length (flat va (xs.take i ++ xs.drop j)) ∧ w.grownBy w' (some g) := by
  obtain ⟨ii, hi1, hi2⟩ := Option.map_eq_some_iff.1 hi
  have hti := h.take hs hn (i := i) (by omega)
  obtain ⟨cur, q1, q2, q3, q4, q5, q6⟩ := h.grow
  have hlen : (xs.take i ++ xs.drop j).length = i + (n - j) := by rw [List.length_append, List.length_take, List.length_drop]; omega
  rw [hlen]
  by_cases hm : n - j = 0
  · have hd : xs.drop j = [] := List.drop_eq_nil_of_le (by omega)
    rw [hm, hd, List.append_nil, Nat.add_zero]
    refine ⟨w, ?_, hti, ⟨rfl, rfl, rfl, Nat.le_refl _, fun _ _ _ => rfl⟩⟩
    have hic : i ≤ c := by omega
    subst hi2
    cases A' <;> simp [Builtin.append_, run_underlying hu, sizeOf, typeInfo, hi1, Builtin.lenOf, Builtin.firstCells, loadCells, loadCellsFrom, storeCells, hic]
  · have hc : ¬ c = j := by omega
    rw [if_neg hc, Option.map_some, mk_add] at hA
    subst hA
    have hl : (flat va (xs.drop j)).length = (n - j) * ii.size := by rw [flat_len hs, List.length_drop, hi2, hn]
    have hcells := (Own.cells h (by omega))
    obtain ⟨g', off', hAe, _, _, hcell⟩ := hcells
    injection hAe with hAe
    injection hAe with e1 e2 _
    subst e1 e2
    have hnews : ∀ q u, (flat va (xs.drop j))[q]? = some u → w.cell? ((⟨g, off + j * size, none⟩ : Addr).add q) = some u := by
      intro q u hq
      rw [mk_add]
      rw [← flat_drop hs, List.getElem?_drop] at hq
      have := hcell _ _ hq
      rw [show off + j * size + q = off + (j * size + q) by omega]
      exact this
    have hfit : off + i * ii.size + (flat va (xs.drop j)).length ≤ cur.size := by
      rw [hl, hi2]
      have : (i + (n - j)) * size ≤ c * size := Nat.mul_le_mul_right _ (by omega)
      rw [Nat.add_mul] at this
      omega
    have hr := run_append_in (P := P) w t ty e ii hu hi1 g off i c cur q2 ⟨g, off + j * size, none⟩ (n - j) (c - j) (flat va (xs.drop j)) hl hnews (flat_one h1 _) (by omega) hfit
    refine ⟨_, hr, ⟨by rw [flat_len hs, List.length_append, List.length_take, List.length_drop]; congr 1; omega, .inr ⟨g, off, c, _, rfl, q1, setRow_heap w g cur _ e _ q2, by omega, q4, ?_, ?_⟩⟩, ⟨rfl, rfl, rfl, by simp, fun k _ hk => setRow_other w g k _ (fun e => hk (by rw [e]))⟩⟩
    · simp only [List.size_toArray, List.length_append, List.length_take, List.length_drop, Array.length_toList]
      omega
    · have e1 : cur.toList.take (off + i * ii.size) = cur.toList.take off ++ flat va (xs.take i) := by
        have := hti.grow
        obtain ⟨cur', _, q2', _, _, _, q6'⟩ := this
        have := q2.symm.trans q2'
        injection this with this
        injection this with this _ _
        subst this
        rw [List.take_add, hi2, q6']
      have hoff : (cur.toList.take off).length = off := by
        rw [List.length_take, Array.length_toList]
        have : 0 ≤ c * size := Nat.zero_le _
        omega
      rw [List.toList_toArray, e1, List.append_assoc, List.append_assoc, List.drop_left' hoff, ← List.append_assoc, ← flat_append]
      have hfl : (flat va (xs.take i ++ xs.drop j)).length = (i + (n - j)) * size := by rw [flat_len hs, hlen]
      rw [← hfl]
      exact List.take_left
/-- 'clear(s[m:m+k])' behind the slice's end. -/
theorem run_clear {m k c2 : Nat} (h : Own w base e size (.slice (some ⟨g, off, none⟩) m c) m (flat va xs)) (hk : m + k ≤ c) (hk0 : 0 < k) (hu : P.underlying t = some (.slice e)) {z : Value} (hz : (zeroValue e).run P w = .ok z w) (hzs : z.cells.size = size) (hz1 : z.cells.all (·.oneCell') = true) :
    ∃ w', (Builtin.clear_ #[t] ty #[.slice (some ⟨g, off + m * size, none⟩) k c2]).run P w = .ok (.tuple #[]) w' ∧ Own w' base e size (.slice (some ⟨g, off, none⟩) m c) m (flat va xs) ∧ w.grownBy w' (some g) := by
  obtain ⟨cur, q1, q2, q3, q4, q5, q6⟩ := h.grow
  have hzl : (Builtin.zeroCells z.cells k).toList.length = k * size := by rw [Array.length_toList, size_zeroCells, hzs]
  have hfit : off + m * size + (Builtin.zeroCells z.cells k).toList.length ≤ cur.size := by
    rw [hzl]
    have : (m + k) * size ≤ c * size := Nat.mul_le_mul_right _ hk
    rw [Nat.add_mul] at this
    omega
  have hone : ∀ u ∈ (Builtin.zeroCells z.cells k).toList, u.oneCell' = true := by
    intro u hu2
    have : u ∈ z.cells := by
      simp [Builtin.zeroCells] at hu2
      obtain ⟨l, hl, rfl⟩ := hu2
      have hp : 0 < z.cells.size := by
        rcases Nat.eq_zero_or_pos z.cells.size with h0 | h0
        · rw [h0] at hl; simp at hl
        · exact h0
      rw [getElem!_pos z.cells _ (Nat.mod_lt _ hp)]
      exact Array.getElem_mem _
    rw [Array.all_eq_true_iff_forall_mem] at hz1
    exact hz1 u this
  have hst := run_storeCells_at P g (off + m * size) e (Builtin.zeroCells z.cells k).toList 0 cur w q2 (by simpa using hfit) hone
  simp only [Nat.add_zero] at hst
  have hrun : (Builtin.clear_ #[t] ty #[.slice (some ⟨g, off + m * size, none⟩) k c2]).run P w = .ok (.tuple #[]) (w.setRow g (cur.toList.take (off + m * size) ++ (Builtin.zeroCells z.cells k).toList ++ cur.toList.drop (off + m * size + (Builtin.zeroCells z.cells k).toList.length)).toArray) := by
    obtain ⟨k', rfl⟩ : ∃ k', k = k' + 1 := ⟨k - 1, by omega⟩
    simp [Builtin.clear_, run_underlying hu, hz, hst]
  refine ⟨_, hrun, ⟨h.1, .inr ⟨g, off, c, _, rfl, q1, setRow_heap w g cur _ e _ q2, q3, q4, ?_, ?_⟩⟩, ⟨rfl, rfl, rfl, by simp, fun k _ hk => setRow_other w g k _ (fun e => hk (by rw [e]))⟩⟩
  · simp only [List.size_toArray, List.length_append, List.length_take, List.length_drop, Array.length_toList]
    omega
  · rw [List.toList_toArray, ← q6, List.append_assoc, List.drop_append_of_le_length (by rw [List.length_take, Array.length_toList]; have : m * size ≤ c * size := Nat.mul_le_mul_right _ q3; omega), List.take_append_of_le_length (by rw [List.length_drop, List.length_take, Array.length_toList]; have : m * size ≤ c * size := Nat.mul_le_mul_right _ q3; omega)]
    rw [List.drop_take, List.take_take]
    congr 1
    omega
end
theorem GR.cel {α : Type} {va : α → Array Value} {n : Nat} {w : World} {A : Option Addr} {ad : Addr} {c : Nat} {xs : List α} (h : GR n va w A c xs) (hA : A = some ad) (hn : ∀ x, (va x).size = n) {k : Nat} {x : α} (hx : xs[k]? = some x) : ∀ i u, (va x)[i]? = some u → w.cell? ((ad.add (k * n)).add i) = some u := by
  obtain ⟨ad', e, _, hc⟩ := h.at_ hn hx
  rw [hA] at e
  injection e with e
  subst e
  exact hc
theorem GR.adr {α : Type} {va : α → Array Value} {n : Nat} {w : World} {A : Option Addr} {c : Nat} {xs : List α} (h : GR n va w A c xs) (hn : ∀ x, (va x).size = n) {k : Nat} {x : α} (hx : xs[k]? = some x) : ∃ ad, A = some ad := by
  obtain ⟨ad', e, _, hc⟩ := h.at_ hn hx
  exact ⟨ad', e⟩
/-- Nothing that was there has changed, but for a block and a slice's block. -/
structure G2 (w w' : World) (B : Nat) (v : Value) : Prop where
  os : w'.os = w.os
  tape : w'.tape = w.tape
  output : w'.output = w.output
  size : w.heap.size ≤ w'.heap.size
  block : ∀ k, k < w.heap.size → k ≠ B → v.ownBlock ≠ some k → w'.heap[k]? = w.heap[k]?
section
variable {w0 w w' : World} {B g : Nat} {v v2 : Value} {t e : TypeId} {cs : Array Value} {base size n : Nat} {xs : List Value}
theorem G2.refl (w : World) (B : Nat) (v : Value) : G2 w w B v := ⟨rfl, rfl, rfl, Nat.le_refl _, fun _ _ _ _ => rfl⟩
theorem G2.gN (h : G2 w0 w B v) (hg : w.grownBy w' none) : G2 w0 w' B v :=
  ⟨hg.os.trans h.os, hg.tape.trans h.tape, hg.output.trans h.output, Nat.le_trans h.size hg.size, fun k hk h1 h2 => (hg.block k (Nat.lt_of_lt_of_le hk h.size) (by simp)).trans (h.block k hk h1 h2)⟩
theorem G2.gB (h : G2 w0 w B v) (hg : w.grownBy w' (some g)) (hB : g = B ∨ w0.heap.size ≤ g ∨ v.ownBlock = some g) : G2 w0 w' B v := by
  refine ⟨hg.os.trans h.os, hg.tape.trans h.tape, hg.output.trans h.output, Nat.le_trans h.size hg.size, fun k hk h1 h2 => (hg.block k (Nat.lt_of_lt_of_le hk h.size) ?_).trans (h.block k hk h1 h2)⟩
  intro e
  injection e with e
  subst e
  rcases hB with rfl | hB | hB
  · exact h1 rfl
  · omega
  · exact h2 hB
theorem G2.gO (h : G2 w0 w B v) (hg : w.grownBy w' v2.ownBlock) (ho : Own w base e size v2 n xs) (hb : w0.heap.size ≤ base) : G2 w0 w' B v := by
  refine ⟨hg.os.trans h.os, hg.tape.trans h.tape, hg.output.trans h.output, Nat.le_trans h.size hg.size, fun k hk h1 h2 => (hg.block k (Nat.lt_of_lt_of_le hk h.size) ?_).trans (h.block k hk h1 h2)⟩
  intro e
  have := (ho.lt k e.symm).1
  omega
theorem Below.g2 {C : Nat} {a : World} (h : Below C a w) (hg : G2 w w' B v) (hC : C ≤ w.heap.size) (ho : Own w base e size v n xs) (h1 : C ≤ B) (h2 : C ≤ base) : Below C a w' :=
  h.trans ⟨hg.os, hg.tape, hg.output, hg.size, fun k hk => hg.block k (by omega) (by omega) (fun e => by have := (ho.lt k e).1; omega)⟩
theorem Bx.g2 {b : Nat} (h : Bx w b t cs) (hg : G2 w w' B v) (hne : b ≠ B) (ho : Own w base e size v n xs) (ht : t ≠ e) : Bx w' b t cs := by
  refine (hg.block b h.lt hne ?_).trans h
  rcases ho.2 with ⟨rfl, _⟩ | ⟨g2, off2, cap2, cur2, rfl, _, hgg2, _⟩
  · simp [Value.ownBlock]
  · simp only [Value.ownBlock]
    intro e'
    injection e' with e'
    subst e'
    have := h.symm.trans hgg2
    injection this with this
    injection this with _ h2 _
    exact ht h2
theorem Own.g2 {base2 size2 n2 : Nat} {e2 : TypeId} {xs2 : List Value} (h : Own w base2 e2 size2 v2 n2 xs2) (hg : G2 w w' B v) (hb : Bx w B t cs) (ht : t ≠ e2) (ho : Own w base e size v n xs) (ht2 : e2 ≠ e) : Own w' base2 e2 size2 v2 n2 xs2 := by
  refine ⟨h.1, ?_⟩
  rcases h.2 with hn | ⟨g1, off, cap, cur, hv, hb1, hgg, r⟩
  · exact .inl hn
  · refine .inr ⟨g1, off, cap, cur, hv, hb1, (hg.block g1 (Array.getElem?_eq_some_iff.1 hgg).1 ?_ ?_).trans hgg, r⟩
    · intro e'
      subst e'
      have := hgg.symm.trans hb
      injection this with this
      injection this with _ h2 _
      exact ht h2.symm
    · rcases ho.2 with ⟨rfl, _⟩ | ⟨g2, off2, cap2, cur2, rfl, _, hgg2, _⟩
      · simp [Value.ownBlock]
      · simp only [Value.ownBlock]
        intro e'
        injection e' with e'
        subst e'
        have := hgg.symm.trans hgg2
        injection this with this
        injection this with _ h2 _
        exact ht2 h2
theorem gtr {g : Nat} {w1 : World} (h : w.grownBy w1 (some g)) (hg : w1.grownBy w' (some g)) : w.grownBy w' (some g) :=
  ⟨hg.os.trans h.os, hg.tape.trans h.tape, hg.output.trans h.output, Nat.le_trans h.size hg.size, fun k hk hne => (hg.block k (Nat.lt_of_lt_of_le hk h.size) hne).trans (h.block k hk hne)⟩
theorem gtrN {g : Nat} {w1 : World} (h : w.grownBy w1 (some g)) (hg : w1.grownBy w' none) : w.grownBy w' (some g) :=
  ⟨hg.os.trans h.os, hg.tape.trans h.tape, hg.output.trans h.output, Nat.le_trans h.size hg.size, fun k hk hne => (hg.block k (Nat.lt_of_lt_of_le hk h.size) (by simp)).trans (h.block k hk hne)⟩
theorem grefl (w : World) (g : Nat) : w.grownBy w (some g) := ⟨rfl, rfl, rfl, Nat.le_refl _, fun _ _ _ => rfl⟩
end

/-- A store of a whole element into a slice of the call's own. -/
theorem run_store_el {α : Type} {va : α → Array Value} {size : Nat} {P : Program} {w : World} {base g off n c : Nat} {e : TypeId} {xs : List α} (h : Own w base e size (.slice (some ⟨g, off, none⟩) n c) n (flat va xs)) (hs : ∀ x, (va x).size = size) (h1 : ∀ x, (va x).all (·.oneCell') = true) (hn : n = xs.length) {k : Nat} (hk : k < n) (y : α) (hi : (P.info? e).map (·.size) = some size) :
    ∃ w', (Instr.storeAt e (.pointer (some ⟨g, off + k * size, none⟩)) (.agg (va y))).run P w = .ok () w' ∧ Own w' base e size (.slice (some ⟨g, off, none⟩) n c) n (flat va (xs.set k y)) ∧ w.grownBy w' (some g) := by
  obtain ⟨ii, hi1, hi2⟩ := Option.map_eq_some_iff.1 hi
  obtain ⟨cur, q1, q2, q3, q4, q5, q6⟩ := h.grow
  have hsz := hs y
  have hks : (k + 1) * size ≤ n * size := Nat.mul_le_mul_right _ hk
  rw [Nat.add_mul, Nat.one_mul] at hks
  have hnc : n * size ≤ c * size := Nat.mul_le_mul_right _ q3
  have hst := run_storeCells_at P g (off + k * size) e (va y).toList 0 cur w q2 (by rw [Array.length_toList, hsz]; omega) (by intro u hu; have := h1 y; rw [Array.all_eq_true_iff_forall_mem] at this; exact this u (by simpa using hu))
  simp only [Nat.add_zero, Array.length_toList, hsz] at hst
  have hrun : (Instr.storeAt e (.pointer (some ⟨g, off + k * size, none⟩)) (.agg (va y))).run P w = .ok () (w.setRow g (cur.toList.take (off + k * size) ++ (va y).toList ++ cur.toList.drop (off + k * size + size)).toArray) := by
    have hcz : (Value.agg (va y)).cells = va y := rfl
    simp [Instr.storeAt, Instr.sureAddr, storeVar, sizeOf, typeInfo, hi1, hi2, hcz, hsz, hst]
  refine ⟨_, hrun, ⟨by rw [flat_len hs, List.length_set, hn], .inr ⟨g, off, c, _, rfl, q1, setRow_heap w g cur _ e _ q2, q3, q4, ?_, ?_⟩⟩, ⟨rfl, rfl, rfl, by simp, fun k _ hk => setRow_other w g k _ (fun e => hk (by rw [e]))⟩⟩
  · simp only [List.size_toArray, List.length_append, List.length_take, List.length_drop, Array.length_toList, hsz]
    omega
  · rw [List.toList_toArray, flat_set hs (by omega) y, ← q6]
    have hcl : off + n * size ≤ cur.toList.length := by rw [Array.length_toList]; omega
    apply List.ext_getElem?
    intro p
    have hl1 : (cur.toList.take (off + k * size)).length = off + k * size := by rw [List.length_take]; omega
    have hl2 : ((cur.toList.drop off).take (n * size)).length = n * size := by rw [List.length_take, List.length_drop]; omega
    have hl3 : (((cur.toList.drop off).take (n * size)).take (k * size)).length = k * size := by rw [List.length_take]; omega
    rw [List.getElem?_take, List.getElem?_drop]
    by_cases hp : p < n * size
    · rw [if_pos hp]
      by_cases h2 : p < k * size
      · rw [List.getElem?_append_left (by rw [List.length_append, hl1]; omega), List.getElem?_append_left (by rw [hl1]; omega), List.getElem?_append_left (by rw [List.length_append, hl3]; omega), List.getElem?_append_left (by rw [hl3]; omega), List.getElem?_take, List.getElem?_take, List.getElem?_take, List.getElem?_drop]
        rw [if_pos (by omega), if_pos h2, if_pos hp]
      · by_cases h3 : p < k * size + size
        · rw [List.getElem?_append_left (by rw [List.length_append, hl1, Array.length_toList, hsz]; omega), List.getElem?_append_right (by rw [hl1]; omega), List.getElem?_append_left (by rw [List.length_append, hl3, Array.length_toList, hsz]; omega), List.getElem?_append_right (by rw [hl3]; omega), hl1, hl3]
          congr 1
          omega
        · rw [List.getElem?_append_right (by rw [List.length_append, hl1, Array.length_toList, hsz]; omega), List.getElem?_append_right (by rw [List.length_append, hl3, Array.length_toList, hsz]; omega), List.length_append, List.length_append, hl1, hl3, Array.length_toList, hsz, List.getElem?_drop, List.getElem?_drop, List.getElem?_take, List.getElem?_drop, if_pos (by omega)]
          congr 1
          omega
    · rw [if_neg hp, List.getElem?_eq_none]
      rw [List.length_append, List.length_append, hl3, List.length_drop, hl2, Array.length_toList, hsz]
      omega
end Go.Proofs.Ytpoilgfblhacaaa
