/- Steps: quotients, remainders, conversions; lists of integers. No function of the program is walked here. -/
import Derived.Test.YtpoilgfblhacaaaSE
namespace Go.Proofs.Ytpoilgfblhacaaa
open Go.RowKit
set_option linter.unusedVariables false
set_option linter.unusedSimpArgs false

section
variable {P : Program} {ρ : Operand → Value} {w : World} {x y : Operand} {k : IntKind} {m n r : Int} {t t' : TypeId}
theorem ev_quoR (hx : ρ x = .int k m) (hy : ρ y = .int k n) (h0 : n ≠ 0) (hv : k.wrap (m.tdiv n) = r) (o : Oper) (ho : o.op = .binOp .quo t x y t') : (execOp ρ o).run P w = .ok (.value (.int k r)) w := by
  subst hv; simp [execOp, ho, hx, hy, go_sem, h0]
theorem ev_remR (hx : ρ x = .int k m) (hy : ρ y = .int k n) (h0 : n ≠ 0) (hv : m.tmod n = r) (o : Oper) (ho : o.op = .binOp .rem t x y t') : (execOp ρ o).run P w = .ok (.value (.int k r)) w := by
  subst hv; simp [execOp, ho, hx, hy, go_sem, h0]
theorem qd (h : 0 ≤ m) (hn : 0 < n) (hb : m ≤ 9223372036854775807) : IntKind.i64.wrap (m.tdiv n) = m / n := by
  rw [Int.tdiv_eq_ediv_of_nonneg h]
  have h1 : 0 ≤ m / n := Int.ediv_nonneg h (by omega)
  have h2 : m / n ≤ m := Int.ediv_le_self n h
  exact wr rfl (by omega) (by omega)
theorem rm (h : 0 ≤ m) : m.tmod n = m % n := Int.tmod_eq_emod_of_nonneg h
theorem ev_convU (hx : ρ x = .int .i64 m) (h0 : 0 ≤ m) (h1 : m ≤ 9223372036854775807) (o : Oper) (ho : o.op = .convert 3 52 x) : (execOp ρ o).run Try.prog w = .ok (.value (.int .u64 m)) w := by
  have e : IntKind.u64.wrap m = m := by
    simp [IntKind.wrap, IntKind.signed, IntKind.bits]
    omega
  simp [execOp, ho, hx, go_sem, e]
end
theorem tmod_bd (n m : Int) (h : 1 ≤ m) : -m < n.tmod m ∧ n.tmod m < m := by
  have h1 := Int.tmod_lt_of_pos n (show 0 < m by omega)
  have h2 := Int.tmod_lt_of_pos (-n) (show 0 < m by omega)
  rw [Int.neg_tmod] at h2
  exact ⟨by omega, h1⟩
theorem mod_of_pos (n m : Int) (h : 1 ≤ m) (h0 : 0 ≤ n.tmod m) : n.tmod m = n % m := by
  have hb := tmod_bd n m h
  have he := Int.tmod_add_mul_tdiv n m
  have : (n.tmod m + m * n.tdiv m) % m = n.tmod m := by rw [Int.add_mul_emod_self_left]; exact Int.emod_eq_of_lt h0 hb.2
  rw [he] at this
  exact this.symm
theorem mod_of_neg (n m : Int) (h : 1 ≤ m) (h0 : n.tmod m < 0) : n.tmod m + m = n % m := by
  have hb := tmod_bd n m h
  have he := Int.tmod_add_mul_tdiv n m
  have : (n.tmod m + m + m * (n.tdiv m - 1)) % m = n.tmod m + m := by rw [Int.add_mul_emod_self_left]; exact Int.emod_eq_of_lt (by omega) (by omega)
  have e2 : n.tmod m + m + m * (n.tdiv m - 1) = n.tmod m + m * n.tdiv m := by rw [Int.mul_sub]; omega
  rw [e2, he] at this
  exact this.symm
/-- Integers as rows of one cell. -/
def iva (x : Int) : Array Value := #[.int .i64 x]
theorem iva_sz (x : Int) : (iva x).size = 1 := rfl
theorem iva_one (x : Int) : ((iva x).all fun v => v.oneCell') = true := by simp [iva, Value.oneCell']
end Go.Proofs.Ytpoilgfblhacaaa
