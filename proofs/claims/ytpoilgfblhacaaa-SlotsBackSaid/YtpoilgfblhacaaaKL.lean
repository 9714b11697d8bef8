/- Steps for sets of bits: words, an array in a variable, maps with integer keys, rows of one cell. No function of the program is walked here. -/
import Derived.Test.YtpoilgfblhacaaaSI
import Derived.Test.YtpoilgfblhacaaaKP
import Derived.Laws.Bits64b
import Derived.Scope
namespace Go.Proofs.Ytpoilgfblhacaaa
open Go.RowKit
set_option linter.unusedVariables false
set_option linter.unusedSimpArgs false

section
variable {P : Program} {ρ : Operand → Value} {w : World} {x y : Operand} {k : IntKind} {t t' : TypeId}
theorem ev_shrN {m n r : Nat} (hx : ρ x = .int .u64 (m : Int)) (hy : ρ y = .int k (n : Int)) (hn : n ≤ 64) (hr : m / 2 ^ n = r) (o : Oper) (ho : o.op = .binOp .shr t x y t') : (execOp ρ o).run P w = .ok (.value (.int .u64 (r : Int))) w := by
  have e : execOp ρ o = (do let v ← (do eqGuard .shr t x y (ρ x) (ρ y); binOp .shr t (ρ x) (ρ y)); pure (.value v)) := by simp only [execOp, ho]
  have h1 := shift_shr .u64 k (m : Int) (n : Int) (by omega) (by simp [IntKind.bits]; omega)
  rw [e, hx, hy, binOp_shr, h1]
  subst hr
  simp [eqGuard]
theorem ev_shlN {m n r : Nat} (hx : ρ x = .int .u64 (m : Int)) (hy : ρ y = .int k (n : Int)) (hn : n ≤ 64) (hr : m * 2 ^ n % 18446744073709551616 = r) (o : Oper) (ho : o.op = .binOp .shl t x y t') : (execOp ρ o).run P w = .ok (.value (.int .u64 (r : Int))) w := by
  have e : execOp ρ o = (do let v ← (do eqGuard .shl t x y (ρ x) (ρ y); binOp .shl t (ρ x) (ρ y)); pure (.value v)) := by simp only [execOp, ho]
  have h1 := shift_shl .u64 k (m : Int) (n : Int) (by omega) (by simp [IntKind.bits]; omega)
  rw [e, hx, hy, binOp_shl, h1]
  subst hr
  have h2 : IntKind.u64.wrap ((m : Int) * 2 ^ (n : Int).toNat) = ((m * 2 ^ n % 18446744073709551616 : Nat) : Int) := by
    rw [IntKind.wrap_u64]; simp
  rw [h2]
  simp [eqGuard]
theorem ev_bitN {op : BinOp} {m n r : Nat} (hx : ρ x = .int .u64 (m : Int)) (hy : ρ y = .int .u64 (n : Int)) (hb : ∀ w, (binOp op t (.int .u64 (m : Int)) (.int .u64 (n : Int))).run P w = .ok (.int .u64 (r : Int)) w) (hg : ∀ w, (eqGuard op t x y (.int .u64 (m : Int)) (.int .u64 (n : Int))).run P w = .ok () w) (o : Oper) (ho : o.op = .binOp op t x y t') : (execOp ρ o).run P w = .ok (.value (.int .u64 (r : Int))) w := by
  have e : execOp ρ o = (do let v ← (do eqGuard op t x y (ρ x) (ρ y); binOp op t (ρ x) (ρ y)); pure (.value v)) := by simp only [execOp, ho]
  rw [e, hx, hy]
  simp only [Sem.run_bind, hg, Result.andThen_ok, hb, Sem.run_pure]
theorem ev_andN {m n r : Nat} (hx : ρ x = .int .u64 (m : Int)) (hy : ρ y = .int .u64 (n : Int)) (hm : m < 18446744073709551616) (hn : n < 18446744073709551616) (hr : m &&& n = r) (o : Oper) (ho : o.op = .binOp .and t x y t') : (execOp ρ o).run P w = .ok (.value (.int .u64 (r : Int))) w := by
  subst hr
  refine ev_bitN hx hy (fun w => ?_) (fun w => by simp [eqGuard]) o ho
  have h := bits_and_u64_nat m n hm hn
  rw [← h]
  rfl
theorem ev_orN {m n r : Nat} (hx : ρ x = .int .u64 (m : Int)) (hy : ρ y = .int .u64 (n : Int)) (hm : m < 18446744073709551616) (hn : n < 18446744073709551616) (hr : m ||| n = r) (o : Oper) (ho : o.op = .binOp .or t x y t') : (execOp ρ o).run P w = .ok (.value (.int .u64 (r : Int))) w := by
  subst hr
  refine ev_bitN hx hy (fun w => ?_) (fun w => by simp [eqGuard]) o ho
  have h := bits_or_u64_nat m n hm hn
  rw [← h]
  rfl
theorem bits_andnN (a b : Nat) (ha : a < 18446744073709551616) (hb : b < 18446744073709551616) : bits .andNot .u64 (a : Int) (b : Int) = ((a &&& (18446744073709551616 - (b + 1)) : Nat) : Int) := by
  have hx : a &&& (18446744073709551616 - (b + 1)) < 2 ^ 64 := Nat.lt_of_le_of_lt Nat.and_le_left ha
  have h1 : (BitVec.ofInt 64 (a : Int)).toNat = a := by
    rw [BitVec.ofInt_natCast, BitVec.toNat_ofNat]; exact Nat.mod_eq_of_lt (by omega)
  have h2 : (BitVec.ofInt 64 (b : Int)).toNat = b := by
    rw [BitVec.ofInt_natCast, BitVec.toNat_ofNat]; exact Nat.mod_eq_of_lt (by omega)
  show IntKind.u64.wrap ((BitVec.ofInt 64 (a : Int) &&& ~~~ BitVec.ofInt 64 (b : Int)).toNat : Int) = _
  rw [BitVec.toNat_and, BitVec.toNat_not, h1, h2, IntKind.wrap_u64, show 2 ^ 64 - 1 - b = 18446744073709551616 - (b + 1) by omega]
  omega
theorem ev_andnN {m n r : Nat} (hx : ρ x = .int .u64 (m : Int)) (hy : ρ y = .int .u64 (n : Int)) (hm : m < 18446744073709551616) (hn : n < 18446744073709551616) (hr : m &&& (18446744073709551616 - (n + 1)) = r) (o : Oper) (ho : o.op = .binOp .andNot t x y t') : (execOp ρ o).run P w = .ok (.value (.int .u64 (r : Int))) w := by
  subst hr
  refine ev_bitN hx hy (fun w => ?_) (fun w => by simp [eqGuard]) o ho
  have h := bits_andnN m n hm hn
  rw [← h]
  rfl
theorem ev_addN {m n r : Nat} (hx : ρ x = .int .u64 (m : Int)) (hy : ρ y = .int .u64 (n : Int)) (hs : m + n < 18446744073709551616) (hr : m + n = r) (o : Oper) (ho : o.op = .binOp .add t x y t') : (execOp ρ o).run P w = .ok (.value (.int .u64 (r : Int))) w := by
  refine ev_addR hx hy ?_ o ho
  rw [IntKind.wrap_u64]
  omega
theorem ev_convN {m : Nat} (hx : ρ x = .int .i64 (m : Int)) (h1 : m < 18446744073709551616) (o : Oper) (ho : o.op = .convert 3 72 x) : (execOp ρ o).run Try.prog w = .ok (.value (.int .u64 (m : Int))) w := by
  have e : IntKind.u64.wrap (m : Int) = (m : Int) := by rw [IntKind.wrap_u64]; omega
  simp [execOp, ho, hx, go_sem, e]
theorem ev_convI {m : Nat} (hx : ρ x = .int .u64 (m : Int)) (h1 : m < 9223372036854775808) (o : Oper) (ho : o.op = .convert 52 3 x) : (execOp ρ o).run Try.prog w = .ok (.value (.int .i64 (m : Int))) w := by
  have e : IntKind.i64.wrap (m : Int) = (m : Int) := wr rfl (by omega) (by omega)
  simp [execOp, ho, hx, go_sem, e]
theorem ev_quoN {m n r : Nat} (hx : ρ x = .int .i64 (m : Int)) (hy : ρ y = .int .i64 (n : Int)) (h0 : 0 < n) (hm : m ≤ 9223372036854775807) (hr : m / n = r) (o : Oper) (ho : o.op = .binOp .quo t x y t') : (execOp ρ o).run P w = .ok (.value (.int .i64 (r : Int))) w :=
  ev_quoR hx hy (by omega) (by rw [qd (by omega) (by omega) (by omega), ← hr]; simp) o ho
theorem ev_remN {m n r : Nat} (hx : ρ x = .int k (m : Int)) (hy : ρ y = .int k (n : Int)) (h0 : 0 < n) (hr : m % n = r) (o : Oper) (ho : o.op = .binOp .rem t x y t') : (execOp ρ o).run P w = .ok (.value (.int k (r : Int))) w :=
  ev_remR hx hy (by omega) (by rw [rm (by omega), ← hr]; simp) o ho
theorem ev_addI {m n r : Nat} (hx : ρ x = .int .i64 (m : Int)) (hy : ρ y = .int .i64 (n : Int)) (hs : m + n = r) (hr : r ≤ 9223372036854775807) (o : Oper) (ho : o.op = .binOp .add t x y t') : (execOp ρ o).run P w = .ok (.value (.int .i64 (r : Int))) w :=
  ev_addR hx hy (wr (by omega) (by omega) (by omega)) o ho
theorem ev_neqBB {a b c : Bool} (hx : ρ x = .bool a) (hy : ρ y = .bool b) (hu : P.underlying t = some .bool) (hb : (a != b) = c) (o : Oper) (ho : o.op = .binOp .neq t x y t') : (execOp ρ o).run P w = .ok (.value (.bool c)) w := by
  subst hb
  have h : (binOp .neq t (.bool a) (.bool b)).run P w = .ok (.bool (a != b)) w := by
    show ((do pure (.bool (!(← Op.equal t (.bool a) (.bool b)))) : Sem Value)).run P w = _
    simp [run_equal_bool w t a b hu, bne]
  simp [execOp, ho, hx, hy, h, go_sem]
theorem ev_eqlBB {a b c : Bool} (hx : ρ x = .bool a) (hy : ρ y = .bool b) (hu : P.underlying t = some .bool) (hb : (a == b) = c) (o : Oper) (ho : o.op = .binOp .eql t x y t') : (execOp ρ o).run P w = .ok (.value (.bool c)) w := by
  subst hb
  simp [execOp, ho, hx, hy, run_eql_bool w t a b hu, go_sem]
/-- 'a[:h]' of an array that is a variable. -/
theorem ev_sliceA {a : Addr} {n h : Nat} {e : TypeId} (hx : ρ x = .pointer (some a)) (hh : ρ y = .int .i64 (h : Int)) (hl : h ≤ n) (hn : 0 < n) (hp : P.underlying t = some (.array n e)) (hi : (P.info? e).isSome = true) (o : Oper) (ho : o.op = .slice t x none (some y) none) : (execOp ρ o).run P w = .ok (.value (.slice (some a) h n)) w := by
  obtain ⟨i, hi⟩ := Option.isSome_iff_exists.1 hi
  have h1 : (h : Int) ≤ (n : Int) := by omega
  have h2 : ¬ n = 0 := by omega
  simp [execOp, ho, hx, hh, Instr.sliceAt, run_underlying hp, Instr.sureAddr, Instr.sliceBounds, Instr.sliceBound, asIntOf, sizeOf, typeInfo, hi, h1, hl, h2, go_sem]
/-- An element of an array. -/
theorem ev_ixA {cs : Array Value} {n j : Nat} {e : TypeId} {v : Value} {d : TypeDesc} (hx : ρ x = .agg cs) (hy : ρ y = .int .i64 (j : Int)) (hj : j < n) (hu : P.underlying t = some (.array n e)) (hs : (P.info? e).map (·.size) = some 1) (hd : P.underlying e = some d) (hp : (match d with | .struct _ | .array _ _ => true | _ => false) = false) (hv : cs[j]? = some v) (o : Oper) (ho : o.op = .index t x y) : (execOp ρ o).run P w = .ok (.value v) w := by
  obtain ⟨i, hi1, hi2⟩ := Option.map_eq_some_iff.1 hs
  have h1 : (j : Int) < (n : Int) := by omega
  cases d <;> simp at hp <;> simp [execOp, ho, hx, hy, Instr.index, run_underlying hu, sizeOf, typeInfo, hi1, hi2, h1, hj, part, isAgg, run_underlying hd, hv, go_sem]
end

/-! Rows of one cell. -/
def bva (b : Bool) : Array Value := #[.bool b]
theorem bva_sz (b : Bool) : (bva b).size = 1 := rfl
theorem bva_one (b : Bool) : ((bva b).all fun v => v.oneCell') = true := by simp [bva, Value.oneCell']
def uva (m : Nat) : Array Value := #[.int .u64 (m : Int)]
theorem uva_sz (m : Nat) : (uva m).size = 1 := rfl
theorem uva_one (m : Nat) : ((uva m).all fun v => v.oneCell') = true := by simp [uva, Value.oneCell']
section
variable {α : Type} {va : α → Array Value} {f : α → Value}
theorem flat1 (hv : ∀ x, va x = #[f x]) : ∀ xs : List α, flat va xs = xs.map f
  | [] => rfl
  | x :: xs => by rw [flat_cons, flat1 hv xs, hv]; rfl
/-- A store of a plain value into a slice of the call's own. -/
theorem run_store_v {P : Program} {w : World} {base g off n c : Nat} {e : TypeId} {xs : List α} (h : Own w base e 1 (.slice (some ⟨g, off, none⟩) n c) n (flat va xs)) (hv : ∀ x, va x = #[f x]) (h1 : ∀ x, (f x).oneCell' = true) (hn : n = xs.length) {k : Nat} (hk : k < n) (y : α) (hi : (P.info? e).map (·.size) = some 1) :
    ∃ w', (Instr.storeAt e (.pointer (some ⟨g, off + k * 1, none⟩)) (f y)).run P w = .ok () w' ∧ Own w' base e 1 (.slice (some ⟨g, off, none⟩) n c) n (flat va (xs.set k y)) ∧ w.grownBy w' (some g) := by
  obtain ⟨ii, hi1, hi2⟩ := Option.map_eq_some_iff.1 hi
  have h0 := h
  rw [flat1 hv] at h0
  have hkl : k < xs.length := by omega
  obtain ⟨g', off', hA, _, hlt, hc⟩ := h0.cells (by omega)
  cases hA
  have hc0 := hc k (f xs[k]) (by simp [hkl])
  have hfz : w.frozen? ⟨g, off + k, none⟩ = false := h0.frozen rfl (off + k)
  have hs := run_store P w ⟨g, off + k, none⟩ (f y) .plain (h1 y)
  rw [hc0] at hs
  simp only [hfz, Bool.false_eq_true, if_false] at hs
  refine ⟨w.setCell ⟨g, off + k, none⟩ (f y), ?_, ?_, ⟨rfl, rfl, rfl, by simp [World.setCell], fun j _ hj => Below.heap_setCell w _ (f y) j (fun e => hj (by rw [e]))⟩⟩
  · have := h1 y
    generalize hfy : f y = v at *
    cases v <;> simp [Value.oneCell'] at this <;> simp [Instr.storeAt, Instr.sureAddr, storeVar, sizeOf, typeInfo, hi1, hi2, hs, hc0, hfz, go_sem]
  · have h2 := h0.set (j := k) (by omega) (f y)
    rw [flat1 hv, List.map_set]
    exact h2
end

section
variable {α : Type} {va : α → Array Value} {size bytes : Nat} {P : Program} {t e : TypeId} {ops : Array Oper} {rest : List Oper} {o : Oper} {a : Act} {w : World} {Q : Exit → Act → World → Prop} {N : Nat} {L : List (Nat × Value)} {d : Nat} {x y : Operand}
/-- 'make([]T, n)'; the length is printed as n. -/
theorem sx_mk {n : Nat} {z : Value} {x0 : α} {m m2 : Int} (hA : Ag a N L) (hd : o.dst = some d) (hN : d < N) (hg : Wn ops L o) (ho : o.op = .makeSlice t x y) (hx : a.eval x = .int .i64 m) (hy : a.eval y = .int .i64 m2) (hm : m = (n : Int)) (hm2 : m2 = (n : Int))
    (hu : P.underlying t = some (.slice e)) (hi : (P.info? e).map (fun i => (i.zero, i.size, i.bytes)) = some (some z, size, bytes)) (hz : z.cells = va x0) (hs : ∀ x, (va x).size = size) (h0 : 0 < size) (hb : bytes * n ≤ 281474976710656) (h63 : n ≤ 2147483648)
    (h : ∀ A w' a', Own w' w.heap.size e size (.slice A n n) n (flat va (List.replicate n x0)) → w.grownBy w' none → Ag a' N ((d, .slice A n n) :: L) → wpList P ops Q rest a' w') : wpList P ops Q (o :: rest) a w := by
  refine sx_make (va := va) (x0 := x0) hA hd hN hg ho hx hy hm hm2 hu hi hz hs h0 hb h63 ?_
  intro A w' a' h1 h2 h3
  rw [List.length_replicate] at h1 h3
  exact h A w' a' h1 h2 h3
theorem run_mk {w : World} {n : Nat} {z : Value} {x0 : α} {m m2 : Int} (hm : m = (n : Int)) (hm2 : m2 = (n : Int)) (hu : P.underlying t = some (.slice e)) (hi : (P.info? e).map (fun i => (i.zero, i.size, i.bytes)) = some (some z, size, bytes)) (hz : z.cells = va x0) (hs : ∀ x, (va x).size = size) (h0 : 0 < size) (hb : bytes * n ≤ 281474976710656) (h63 : n ≤ 2147483648) :
    ∃ A w', (Instr.makeSlice t (.int .i64 m) (.int .i64 m2)).run P w = .ok (.slice A n n) w' ∧ Own w' w.heap.size e size (.slice A n n) n (flat va (List.replicate n x0)) ∧ w.grownBy w' none := by
  obtain ⟨i0, hi1, hz0, hz1, hz2⟩ := info_parts hi
  subst hm hm2
  obtain ⟨w', hr, h1, h2⟩ := run_make_full (P := P) w w.heap.size t e i0 z size hu hi1 hz0 hz1 .i64 .i64 n (by rw [hz2]; exact hb) (by unfold maxLen; omega) (Nat.le_refl _)
  rw [made_flat hz hs h0 n] at h1
  exact ⟨_, w', hr, Own.of_row h1, h2⟩
end
theorem Own.bxn {α : Type} {va : α → Array Value} {w : World} {B n : Nat} {e : TypeId} {xs : List α} (h : Bx w B e (flat va xs).toArray) (hs : ∀ x, (va x).size = 1) (hn : xs.length = n) (hm : n ≤ 1000) : Own w B e 1 (.slice (some ⟨B, 0, none⟩) n n) n (flat va xs) :=
  ⟨by rw [flat_len hs]; omega, .inr ⟨B, 0, n, _, rfl, Nat.le_refl _, h, Nat.le_refl _, by unfold maxLen; omega, by have := flat_len hs xs; simp; omega, by have := flat_len hs xs; simp only [List.drop_zero, List.toList_toArray]; rw [List.take_of_length_le (by omega)]⟩⟩

/-! Maps from integers. -/
theorem find_int (k : Int) : ∀ (ks : List Int) (es : List MapEntry) (i0 : Nat), es.map (·.key) = ks.map (Value.int .i64) →
    Instr.findNow (.int .i64) (.int .i64 k) es i0 = some ((ks.findIdx? (fun x => decide (k = x))).bind fun i => es[i]?.map fun e => (i0 + i, e.val))
  | [], [], i0, _ => by simp [Instr.findNow]
  | [], e :: es, i0, h => by simp at h
  | x :: ks, [], i0, h => by simp at h
  | x :: ks, e :: es, i0, h => by
    simp only [List.map_cons, List.cons.injEq] at h
    have ih := find_int k ks es (i0 + 1) h.2
    unfold Instr.findNow
    rw [h.1]
    by_cases hk : k = x
    · simp [Instr.sameNow, List.findIdx?_cons, hk]
    · simp only [Instr.sameNow, if_true, beq_iff_eq, hk, List.findIdx?_cons, decide_false, Bool.false_eq_true, if_false]
      have hb : (k == x) = false := by simp [hk]
      rw [hb]
      simp only [ih]
      cases hq : ks.findIdx? (fun x => decide (k = x)) with
      | none => simp
      | some i =>
        simp only [Option.bind_some, Option.map_some, List.getElem?_cons_succ]
        cases es[i]? <;> simp
        omega
theorem mk_int : MK Int Try.prog 3 (Value.int .i64) where
  check := fun w e k => by
    unfold Instr.checkKey
    simp [run_underlying Try.underlying3]
  find := by
    intro w k es ks h
    unfold Instr.findKey
    simp only [Sem.run_bind, run_underlying Try.underlying3, Result.andThen_ok, find_int k ks es 0 h]
    simp
  stays := by
    intro w k
    simp [Instr.keyThatStays, Instr.sameBits]
section
variable {κ ν : Type} [DecidableEq κ] {kv : κ → Value} {vv : ν → Value} {P : Program} {kt : TypeId} {w : World} {b : Nat} {f : κ → Option ν}
theorem find_erase {k : κ} : ∀ (ks : List (κ × ν)) (i : Nat) (p : κ × ν), ks[i]? = some p → p.1 = k → (ks.map (·.1)).Nodup → ∀ x, ((ks.eraseIdx i).find? fun q => decide (x = q.1)).map (·.2) = if x = k then none else (ks.find? fun q => decide (x = q.1)).map (·.2)
  | [], i, p, h, _, _, x => by simp at h
  | q :: ks, 0, p, h, hk, hn, x => by
    simp at h
    subst h
    by_cases hx : x = k
    · subst hx hk
      simp only [List.map_cons, List.nodup_cons] at hn
      have : ks.find? (fun p => decide (q.1 = p.1)) = none := by
        rw [List.find?_eq_none]
        intro p hp
        simp
        intro e
        exact hn.1 (List.mem_map.2 ⟨p, hp, e.symm⟩)
      simp [this]
    · have : ¬ x = q.1 := by rw [hk]; exact hx
      simp [hx, this]
  | q :: ks, i + 1, p, h, hk, hn, x => by
    simp only [List.map_cons, List.nodup_cons] at hn
    have ih := find_erase ks i p (by simpa using h) hk hn.2 x
    have hq : q.1 ≠ k := fun e => hn.1 (by rw [e, ← hk]; exact List.mem_map.2 ⟨p, List.mem_of_getElem? (by simpa using h), rfl⟩)
    simp only [List.eraseIdx_cons_succ, List.find?_cons]
    by_cases hx : x = q.1
    · subst hx
      simp [hq]
    · simp only [hx, decide_false]
      exact ih
theorem Mp.del (K : MK κ P kt kv) (h : Mp w b kv vv f) {t e : TypeId} (ht : P.underlying t = some (.map kt e)) (k : κ) (ty : TypeId) :
    ∃ w', (Builtin.delete_ #[t, kt] ty #[.map (some b), kv k]).run P w = .ok (.tuple #[]) w' ∧ Mp w' b kv vv (fun x => if x = k then none else f x) ∧ w.grownBy w' (some b) := by
  obtain ⟨es, cl, ks, hb, he, hn, hf⟩ := h
  have h1 := K.find w k es.toList (ks.map (·.1)) (Mp.keys he)
  have hgr : ∀ o, w.grownBy (ChangeMaps.setBlock w b o) (some b) := fun o => ⟨rfl, rfl, rfl, by simp [ChangeMaps.setBlock], fun i _ hi => ChangeMaps.heap_setBlock_other hb _ (fun e => hi (by rw [e]))⟩
  cases hq : (ks.map (·.1)).findIdx? (fun x => decide (k = x)) with
  | none =>
    rw [hq] at h1
    have hno : ∀ p ∈ ks, p.1 ≠ k := by
      intro p hp e
      rw [List.findIdx?_eq_none_iff] at hq
      have := hq p.1 (List.mem_map.2 ⟨p, hp, rfl⟩)
      simp [e] at this
    refine ⟨ChangeMaps.setBlock w b (.map es cl), ?_, ⟨es, cl, ks, ChangeMaps.heap_setBlock_same hb _, he, hn, ?_⟩, hgr _⟩
    · simp [Builtin.delete_, run_underlying ht, MapKept.run_getObj_map hb, K.check w, h1, MapKept.run_setObj_map _ hb, Result.andThen, ChangeMaps.setBlock]
    · intro x
      by_cases hx : x = k
      · subst hx
        have : ks.find? (fun p => decide (x = p.1)) = none := by
          rw [List.find?_eq_none]
          intro p hp
          have := hno p hp
          simp
          exact fun e => this e.symm
        simp [this]
      · simp only [hx, if_false, hf x]
  | some i =>
    rw [hq] at h1
    obtain ⟨p, hp, hpk, hj⟩ := idx_some ks hq
    have hil : i < ks.length := (List.getElem?_eq_some_iff.1 hp).1
    have hel : es.toList.length = ks.length := by have := congrArg List.length he; simpa using this
    obtain ⟨e0, he0⟩ : ∃ e0, es.toList[i]? = some e0 := ⟨_, List.getElem?_eq_getElem (by omega)⟩
    simp only [Option.bind_some, he0, Option.map_some] at h1
    refine ⟨ChangeMaps.setBlock w b (.map (es.eraseIdxIfInBounds i) cl), ?_, ⟨_, _, ks.eraseIdx i, ChangeMaps.heap_setBlock_same hb _, ?_, ?_, ?_⟩, hgr _⟩
    · simp [Builtin.delete_, run_underlying ht, MapKept.run_getObj_map hb, K.check w, h1, MapKept.run_setObj_map _ hb, Result.andThen, ChangeMaps.setBlock]
    · rw [List.eraseIdx_eq_take_drop_succ, List.map_append, List.map_take, List.map_drop, ← he, ← List.map_take, ← List.map_drop, ← List.map_append, ← List.eraseIdx_eq_take_drop_succ]
      congr 1
      have : i < es.size := by simpa using (by omega : i < es.toList.length)
      simp [Array.eraseIdxIfInBounds, this]
    · rw [List.eraseIdx_eq_take_drop_succ, List.map_append, List.map_take, List.map_drop, ← List.eraseIdx_eq_take_drop_succ]
      exact hn.sublist (List.eraseIdx_sublist _ _)
    · intro x
      show (if x = k then none else f x) = _
      rw [find_erase ks i p hp hpk hn x, hf x]
variable {ops : Array Oper} {rest : List Oper} {o : Oper} {a : Act} {Q : Exit → Act → World → Prop} {N : Nat} {L : List (Nat × Value)} {t e : TypeId} {m x : Operand}
/-- 'delete(m, k)'. -/
theorem sx_del (K : MK κ P kt kv) (hA : Ag a N L) (hd : o.dst = none) (hg : Wn ops L o) (ho : o.op = .call { callee := .builtin .delete, args := #[m, x], argTypes := #[t, kt] }) (ht : P.underlying t = some (.map kt e)) (hp : Mp w b kv vv f) {k : κ} (hm : a.eval m = .map (some b)) (hx : a.eval x = kv k)
    (h : ∀ w', Mp w' b kv vv (fun x => if x = k then none else f x) → w.grownBy w' (some b) → wpList P ops Q rest a w') : wpList P ops Q (o :: rest) a w := by
  obtain ⟨w', hr, h1, h2⟩ := hp.del K ht k o.type
  exact sx_valN (v := .tuple #[]) hA hd hg (by simp only [execOp, ho, resolve, invoke, builtin, Sem.run_bind, Sem.run_pure, Result.andThen_ok, List.map_toArray, List.map_cons, List.map_nil, hm, hx, hr]) (h w' h1 h2)
end
theorem Mp.congr' {κ ν : Type} [DecidableEq κ] {kv : κ → Value} {vv : ν → Value} {w : World} {b : Nat} {f g : κ → Option ν} (h : Mp w b kv vv f) (he : ∀ k, f k = g k) : Mp w b kv vv g := by
  obtain ⟨es, cl, ks, hb, h1, h2, h3⟩ := h
  exact ⟨es, cl, ks, hb, h1, h2, fun k => (he k).symm.trans (h3 k)⟩

/-! Results, scopes, labels. -/
section
variable {P : Program} {fn : Func} {a : Act} {N : Nat} {L : List (Nat × Value)} {w : World} {Q : Exit → Act → World → Prop}
theorem rs_ (h : fn.results = #[]) (hA : Ag a N L) : (results fn a.tmps).run P w = .ok (.tuple #[]) w := by
  simp [results, h]
theorem sc_n (h : Q .normal a w) : Exit.noGoto Q .normal a w := h
theorem sc_x {i : Nat} (h : Q (.exit i) a w) : Exit.noGoto Q (.exit i) a w := h
theorem sc_r (h : Q .ret a w) : Exit.noGoto Q .ret a w := h
end
end Go.Proofs.Ytpoilgfblhacaaa
