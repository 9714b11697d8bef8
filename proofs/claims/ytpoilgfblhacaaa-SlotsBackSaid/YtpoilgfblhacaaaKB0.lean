/- Steps: min and max of integers; sums of words' bits. No function of the program is walked here. -/
import Derived.Test.YtpoilgfblhacaaaKY
namespace Go.Proofs.Ytpoilgfblhacaaa
open Go.RowKit
set_option linter.unusedVariables false
set_option linter.unusedSimpArgs false

section
variable {P : Program} {ρ : Operand → Value} {w : World} {x y : Operand} {k : IntKind} {a b : Int} {t t' : TypeId}
theorem ev_maxY (hx : ρ x = .int .i64 a) (hy : ρ y = .int .i64 b) (h : a ≤ b) (o : Oper) (ho : o.op = .call { callee := .builtin .max, args := #[x, y], argTypes := #[t, t'] }) : (execOp ρ o).run P w = .ok (.value (.int .i64 b)) w := by
  by_cases he : b < a
  · omega
  · simp [execOp, ho, hx, hy, resolve, invoke, builtin, Builtin.max_, Builtin.max2, go_sem, he]
    intro h2
    omega
theorem ev_minX (hx : ρ x = .int .i64 a) (hy : ρ y = .int .i64 b) (h : a ≤ b) (o : Oper) (ho : o.op = .call { callee := .builtin .min, args := #[x, y], argTypes := #[t, t'] }) : (execOp ρ o).run P w = .ok (.value (.int .i64 a)) w := by
  simp [execOp, ho, hx, hy, resolve, invoke, builtin, Builtin.min_, Builtin.min2, go_sem, h]
  omega
theorem ev_minY (hx : ρ x = .int .i64 a) (hy : ρ y = .int .i64 b) (h : b ≤ a) (o : Oper) (ho : o.op = .call { callee := .builtin .min, args := #[x, y], argTypes := #[t, t'] }) : (execOp ρ o).run P w = .ok (.value (.int .i64 b)) w := by
  simp [execOp, ho, hx, hy, resolve, invoke, builtin, Builtin.min_, Builtin.min2, go_sem]
  omega
end
def hgh (i n : Nat) : Nat := if n - 64 * i ≤ 64 then n - 64 * i else 64
theorem mask_fin : ∀ t : Fin 65, (18446744073709551615 * 2 ^ 0 % 18446744073709551616) &&& (18446744073709551615 / 2 ^ (64 - t.1)) = 2 ^ t.1 - 1 := by decide +kernel
theorem mask_nat (h : Nat) (hh : h ≤ 64) : (18446744073709551615 * 2 ^ 0 % 18446744073709551616) &&& (18446744073709551615 / 2 ^ (64 - h)) = 2 ^ h - 1 := mask_fin ⟨h, by omega⟩
theorem mask_lt (h : Nat) (hh : h ≤ 64) : 2 ^ h - 1 < 18446744073709551616 := by
  have : 2 ^ h ≤ 2 ^ 64 := Nat.pow_le_pow_right (by decide) hh
  omega
theorem hgh_le (i n : Nat) : hgh i n ≤ 64 := by unfold hgh; split <;> omega
theorem wdn_mask (S : Nat → Bool) (i n : Nat) (hS : ∀ j, n ≤ j → S j = false) : wdn S (64 * i) 64 &&& (2 ^ hgh i n - 1) = wdn S (64 * i) 64 := by
  refine Nat.eq_of_testBit_eq fun j => ?_
  rw [Nat.testBit_and, wdn_bit, Nat.testBit_two_pow_sub_one]
  by_cases hj : j < 64
  · by_cases h2 : j < hgh i n
    · simp [h2]
    · have h3 : n ≤ 64 * i + j := by unfold hgh at h2; split at h2 <;> omega
      simp [hS _ h3]
  · simp [hj]
theorem wdn_top (S : Nat → Bool) (n : Nat) (hn : n % 64 ≠ 0) (hS : ∀ j, n ≤ j → S j = false) : wdn S (64 * ((n + 64 - 1) / 64 - 1)) 64 / 2 ^ (n % 64) = 0 := by
  rw [Nat.div_eq_zero_iff_lt (Nat.two_pow_pos _)]
  refine Nat.lt_pow_two_of_testBit _ fun j hj => ?_
  rw [wdn_bit, hS _ (by omega)]
  simp
theorem cnt_tail (S : Nat → Bool) (n : Nat) (hS : ∀ j, n ≤ j → S j = false) : ∀ d, cntS S 0 (n + d) = cntS S 0 n
  | 0 => rfl
  | d + 1 => by
    show cntS S 0 (n + d) + (bif S (0 + (n + d)) then 1 else 0) = _
    rw [cnt_tail S n hS d, hS _ (by omega)]; rfl
theorem cnt_word (S : Nat → Bool) (k : Nat) : cntS S 0 (64 * k) + cntS S (64 * k) 64 = cntS S 0 (64 * (k + 1)) := by
  rw [show 64 * (k + 1) = 64 * k + 64 by omega, cntS_add, Nat.zero_add]
/-- The words of a set. -/
def wls (S : Nat → Bool) (m : Nat) : List Nat := (List.range m).map fun j => wdn S (64 * j) 64
theorem wls_len (S : Nat → Bool) (m : Nat) : (wls S m).length = m := by simp [wls]
theorem wls_at (S : Nat → Bool) {m k : Nat} (hk : k < m) : (wls S m)[k]? = some (wdn S (64 * k) 64) := by simp [wls, hk]
theorem flat_wl (S : Nat → Bool) (m : Nat) (j : Nat) (u : Value) (h : (flat uva (wls S m))[j]? = some u) : j < m ∧ u = mw S j := by
  have hj : j < m := by
    have := (List.getElem?_eq_some_iff.1 h).1
    rw [flat_len uva_sz, wls_len] at this
    omega
  have h1 := flat_at (va := uva) uva_sz (wls_at S hj) (i := 0) (by decide)
  rw [Nat.mul_one, Nat.add_zero, h] at h1
  refine ⟨hj, ?_⟩
  injection h1 with h1
theorem GR.marks {w : World} {B : Nat} {t : TypeId} {S : Nat → Bool} {m : Nat} (h : Bx w B t (mrow S)) (hm : m ≤ 4) : GR 1 uva w (some ⟨B, 0, none⟩) 4 (wls S m) := by
  refine ⟨by rw [wls_len]; exact hm, by simp [maxLen], by rw [flat_len uva_sz], fun _ => ⟨_, rfl, h.lt, fun j u hu => ?_⟩⟩
  obtain ⟨hj, rfl⟩ := flat_wl S m j u hu
  rw [mk_add, Nat.zero_add, h.cell]
  have : j = 0 ∨ j = 1 ∨ j = 2 ∨ j = 3 := by omega
  rcases this with rfl | rfl | rfl | rfl <;> rfl
theorem Bx.gBT {w w' : World} {B g : Nat} {t t2 : TypeId} {cs ds : Array Value} (h : Bx w B t cs) (hg : w.grownBy w' (some g)) (hb : Bx w g t2 ds) (ht : t2 ≠ t) : Bx w' B t cs := by
  refine h.gB hg ?_
  rintro rfl
  have := h.symm.trans hb
  injection this with this
  injection this with _ h2 _
  exact ht h2.symm
theorem Mp.gOT {κ ν : Type} [DecidableEq κ] {kv : κ → Value} {vv : ν → Value} {w w' : World} {b : Nat} {f : κ → Option ν} {v2 : Value} {base2 n2 size2 : Nat} {xs2 : List Value} {e2 : TypeId} (h : Mp w b kv vv f) (hg : w.grownBy w' v2.ownBlock) (ho : Own w base2 e2 size2 v2 n2 xs2) : Mp w' b kv vv f := by
  refine h.grown hg ?_
  rcases ho.2 with ⟨rfl, _⟩ | ⟨g2, off2, cap2, cur2, rfl, _, hgg2, _⟩
  · simp [Value.ownBlock]
  · simp only [Value.ownBlock]
    intro e'
    injection e' with e'
    subst e'
    obtain ⟨es, cl, ks, hb, _⟩ := h
    rw [hgg2] at hb
    cases hb
/-- An operation whose guard's operation was left out itself is not wanted. -/
theorem dj_nu {P : Program} {l : List Oper} {Q : Exit → Act → World → Prop} {i : Nat} {K : Act → World → Prop} {a : Act} {w : World} {o : Oper} {j s : Nat} {want : Bool} (ho : l[i]? = some o) (hg : o.guard = some (j, want)) (hj : dstOf l j = some s) (hs : Sv a s undef) (h : K (a.put o.dst undef) w) : wpOp P l.toArray Q i K a w := by
  have h1 : l.toArray[i]? = some o := by simpa using ho
  have hj2 : (l.toArray[j]?).bind (·.dst) = some s := by unfold dstOf at hj; simpa using hj
  have hy : yielded l.toArray a.tmps j = none := by
    unfold yielded
    rw [hj2]
    show (match a.tmps[s]? with | some (.bool b) => some b | _ => none) = none
    rw [hs]
    rfl
  have hw : Region.wanted o (yielded l.toArray a.tmps) = false := by
    simp only [Region.wanted, hg, hy]
    cases want <;> rfl
  unfold wpOp
  rw [h1]
  simp only []
  rw [hw, if_neg (by simp)]
  exact h
theorem sx_nu {P : Program} {ops : Array Oper} {rest : List Oper} {o : Oper} {a : Act} {w : World} {Q : Exit → Act → World → Prop} {N : Nat} {L : List (Nat × Value)} {d j s : Nat} {want : Bool} (hA : Ag a N L) (hd : o.dst = some d)
    (h : ∀ a', Ag a' N ((d, undef) :: L) → wpList P ops Q rest a' w) (hN : d < N := by decide) (hg : o.guard = some (j, want) := by rfl) (hj : (ops[j]?).bind (·.dst) = some s := by rfl) (hs : lk s L = some undef := by kernel_rfl) : wpList P ops Q (o :: rest) a w := by
  refine wpList_step fun K hK => ?_
  have hy : yielded ops a.tmps j = none := by
    unfold yielded
    rw [hj]
    show (match a.tmps[s]? with | some (.bool b) => some b | _ => none) = none
    rw [hA.get hs]
    rfl
  have hw : Region.wanted o (yielded ops a.tmps) = false := by
    simp only [Region.wanted, hg, hy]
    cases want <;> rfl
  rw [hw, hd]
  exact hK _ _ (h _ (hA.put hN _))
/-! The ones of a word. -/
theorem and2 {a b K : Nat} (h : K + K < 18446744073709551616) : (a &&& K) + (b &&& K) < 18446744073709551616 := by
  have h1 := @Nat.and_le_right a K
  have h2 := @Nat.and_le_right b K
  omega
theorem and2' {a b K : Nat} : (a &&& K) + (b &&& K) ≤ K + K := by
  have h1 := @Nat.and_le_right a K
  have h2 := @Nat.and_le_right b K
  omega
theorem and127 : ∀ t : Fin 128, t.1 &&& 127 = t.1 := by decide +kernel
theorem and_127 (a : Nat) : a &&& 127 = a % 128 := by
  have h := Nat.and_mod_two_pow (a := a) (b := 127) (n := 7)
  rw [show (2 : Nat) ^ 7 = 128 from rfl] at h
  have h1 : a &&& 127 < 128 := Nat.lt_of_le_of_lt Nat.and_le_right (by decide)
  rw [Nat.mod_eq_of_lt h1] at h
  rw [h]
  exact and127 ⟨a % 128, Nat.mod_lt _ (by decide)⟩
theorem ev_andI {P : Program} {ρ : Operand → Value} {w : World} {x y : Operand} {t t' : TypeId} {m r : Nat} (hx : ρ x = .int .i64 (m : Int)) (hy : ρ y = .int .i64 127) (hm : m < 9223372036854775808) (hr : m % 128 = r) (o : Oper) (ho : o.op = .binOp .and t x y t') : (execOp ρ o).run P w = .ok (.value (.int .i64 (r : Int))) w := by
  have e : execOp ρ o = (do let v ← (do eqGuard .and t x y (ρ x) (ρ y); binOp .and t (ρ x) (ρ y)); pure (.value v)) := by simp only [execOp, ho]
  have hb : ∀ w, (binOp .and t (.int .i64 (m : Int)) (.int .i64 127)).run P w = .ok (.int .i64 (r : Int)) w := by
    intro w
    have h1 : (BitVec.ofInt 64 (m : Int)).toNat = m := by
      rw [BitVec.ofInt_natCast, BitVec.toNat_ofNat]; exact Nat.mod_eq_of_lt (by omega)
    have h2 : (BitVec.ofInt 64 (127 : Int)).toNat = 127 := by decide
    have h3 : IntKind.i64.wrap ((BitVec.ofInt 64 (m : Int) &&& BitVec.ofInt 64 (127 : Int)).toNat : Int) = (r : Int) := by
      rw [BitVec.toNat_and, h1, h2, and_127, hr]
      exact wr rfl (by omega) (by omega)
    rw [← h3]
    rfl
  rw [e, hx, hy]
  have hg : ∀ w, (eqGuard .and t x y (.int .i64 (m : Int)) (.int .i64 127)).run P w = .ok () w := fun w => by simp [eqGuard]
  simp only [Sem.run_bind, hg, Result.andThen_ok, hb, Sem.run_pure]
end Go.Proofs.Ytpoilgfblhacaaa
