/- The disk's structs, operation by operation; results. No function of the program is walked here. -/
import Derived.Test.YtbkdimildnahaaaSX
import Derived.Test.YtbkdimildnahaaaD0
namespace Go.Proofs.Ytbkdimildnahaaa
open Go.RowKit
set_option linter.unusedVariables false
set_option linter.unusedSimpArgs false

section
variable {ρ : Operand → Value} {w : World} {x x0 x1 x2 x3 : Operand} {ad : Addr} {B i : Nat}
theorem fa_Disk_0 (hx : ρ x = .pointer (some ad)) (o : Oper) (ho : o.op = .fieldAddr 25 x 0) : (execOp ρ o).run Try.prog w = .ok (.value (.pointer (some (ad.add 0)))) w := by
  simp [execOp, ho, hx, go_sem]
theorem fb_Disk_0 (hx : ρ x = .pointer (some ⟨B, i, none⟩)) (o : Oper) (ho : o.op = .fieldAddr 25 x 0) : (execOp ρ o).run Try.prog w = .ok (.value (.pointer (some ⟨B, i + 0, none⟩))) w := by
  rw [fa_Disk_0 hx o ho, mk_add]
theorem fa_Disk_1 (hx : ρ x = .pointer (some ad)) (o : Oper) (ho : o.op = .fieldAddr 25 x 1) : (execOp ρ o).run Try.prog w = .ok (.value (.pointer (some (ad.add 1)))) w := by
  simp [execOp, ho, hx, go_sem]
theorem fb_Disk_1 (hx : ρ x = .pointer (some ⟨B, i, none⟩)) (o : Oper) (ho : o.op = .fieldAddr 25 x 1) : (execOp ρ o).run Try.prog w = .ok (.value (.pointer (some ⟨B, i + 1, none⟩))) w := by
  rw [fa_Disk_1 hx o ho, mk_add]
theorem fa_Disk_2 (hx : ρ x = .pointer (some ad)) (o : Oper) (ho : o.op = .fieldAddr 25 x 2) : (execOp ρ o).run Try.prog w = .ok (.value (.pointer (some (ad.add 2)))) w := by
  simp [execOp, ho, hx, go_sem]
theorem fb_Disk_2 (hx : ρ x = .pointer (some ⟨B, i, none⟩)) (o : Oper) (ho : o.op = .fieldAddr 25 x 2) : (execOp ρ o).run Try.prog w = .ok (.value (.pointer (some ⟨B, i + 2, none⟩))) w := by
  rw [fa_Disk_2 hx o ho, mk_add]
theorem fa_Job_0 (hx : ρ x = .pointer (some ad)) (o : Oper) (ho : o.op = .fieldAddr 38 x 0) : (execOp ρ o).run Try.prog w = .ok (.value (.pointer (some (ad.add 0)))) w := by
  simp [execOp, ho, hx, go_sem]
theorem fb_Job_0 (hx : ρ x = .pointer (some ⟨B, i, none⟩)) (o : Oper) (ho : o.op = .fieldAddr 38 x 0) : (execOp ρ o).run Try.prog w = .ok (.value (.pointer (some ⟨B, i + 0, none⟩))) w := by
  rw [fa_Job_0 hx o ho, mk_add]
theorem fa_Job_1 (hx : ρ x = .pointer (some ad)) (o : Oper) (ho : o.op = .fieldAddr 38 x 1) : (execOp ρ o).run Try.prog w = .ok (.value (.pointer (some (ad.add 1)))) w := by
  simp [execOp, ho, hx, go_sem]
theorem fb_Job_1 (hx : ρ x = .pointer (some ⟨B, i, none⟩)) (o : Oper) (ho : o.op = .fieldAddr 38 x 1) : (execOp ρ o).run Try.prog w = .ok (.value (.pointer (some ⟨B, i + 1, none⟩))) w := by
  rw [fa_Job_1 hx o ho, mk_add]
theorem fa_Job_2 (hx : ρ x = .pointer (some ad)) (o : Oper) (ho : o.op = .fieldAddr 38 x 2) : (execOp ρ o).run Try.prog w = .ok (.value (.pointer (some (ad.add 2)))) w := by
  simp [execOp, ho, hx, go_sem]
theorem fb_Job_2 (hx : ρ x = .pointer (some ⟨B, i, none⟩)) (o : Oper) (ho : o.op = .fieldAddr 38 x 2) : (execOp ρ o).run Try.prog w = .ok (.value (.pointer (some ⟨B, i + 2, none⟩))) w := by
  rw [fa_Job_2 hx o ho, mk_add]
theorem fa_Job_3 (hx : ρ x = .pointer (some ad)) (o : Oper) (ho : o.op = .fieldAddr 38 x 3) : (execOp ρ o).run Try.prog w = .ok (.value (.pointer (some (ad.add 3)))) w := by
  simp [execOp, ho, hx, go_sem]
theorem fb_Job_3 (hx : ρ x = .pointer (some ⟨B, i, none⟩)) (o : Oper) (ho : o.op = .fieldAddr 38 x 3) : (execOp ρ o).run Try.prog w = .ok (.value (.pointer (some ⟨B, i + 3, none⟩))) w := by
  rw [fa_Job_3 hx o ho, mk_add]
theorem fa_key_0 (hx : ρ x = .pointer (some ad)) (o : Oper) (ho : o.op = .fieldAddr 70 x 0) : (execOp ρ o).run Try.prog w = .ok (.value (.pointer (some (ad.add 0)))) w := by
  simp [execOp, ho, hx, go_sem]
theorem fb_key_0 (hx : ρ x = .pointer (some ⟨B, i, none⟩)) (o : Oper) (ho : o.op = .fieldAddr 70 x 0) : (execOp ρ o).run Try.prog w = .ok (.value (.pointer (some ⟨B, i + 0, none⟩))) w := by
  rw [fa_key_0 hx o ho, mk_add]
theorem fa_key_1 (hx : ρ x = .pointer (some ad)) (o : Oper) (ho : o.op = .fieldAddr 70 x 1) : (execOp ρ o).run Try.prog w = .ok (.value (.pointer (some (ad.add 1)))) w := by
  simp [execOp, ho, hx, go_sem]
theorem fb_key_1 (hx : ρ x = .pointer (some ⟨B, i, none⟩)) (o : Oper) (ho : o.op = .fieldAddr 70 x 1) : (execOp ρ o).run Try.prog w = .ok (.value (.pointer (some ⟨B, i + 1, none⟩))) w := by
  rw [fa_key_1 hx o ho, mk_add]
theorem bd0_Disk (o : Oper) (ho : o.op = .build 25 #[]) : (execOp ρ o).run Try.prog w = .ok (.value (.agg #[.slice none 0 0, .slice none 0 0, .int .i64 0])) w := by
  simp [execOp, ho, go_sem]
theorem bd_Disk_0_2 {A : Option Addr} {n c : Nat} {r : Int} (h0 : ρ x0 = .slice A n c) (h2 : ρ x2 = .int .i64 r) (o : Oper) (ho : o.op = .build 25 #[(0, x0), (2, x2)]) : (execOp ρ o).run Try.prog w = .ok (.value (.agg #[.slice A n c, .slice none 0 0, .int .i64 r])) w := by
  simp [execOp, ho, h0, h2, go_sem]
theorem bd_Disk_0_1_2 {A A1 : Option Addr} {n c n1 c1 : Nat} {r : Int} (h0 : ρ x0 = .slice A n c) (h1 : ρ x1 = .slice A1 n1 c1) (h2 : ρ x2 = .int .i64 r) (o : Oper) (ho : o.op = .build 25 #[(0, x0), (1, x1), (2, x2)]) : (execOp ρ o).run Try.prog w = .ok (.value (.agg #[.slice A n c, .slice A1 n1 c1, .int .i64 r])) w := by
  simp [execOp, ho, h0, h1, h2, go_sem]
theorem bd_key_1 {n : Int} (h1 : ρ x1 = .int .i64 n) (o : Oper) (ho : o.op = .build 70 #[(1, x1)]) : (execOp ρ o).run Try.prog w = .ok (.value (.agg #[.bool false, .int .i64 n])) w := by
  simp [execOp, ho, h1, go_sem]
theorem bd_key_0_1 {b : Bool} {n : Int} (h0 : ρ x0 = .bool b) (h1 : ρ x1 = .int .i64 n) (o : Oper) (ho : o.op = .build 70 #[(0, x0), (1, x1)]) : (execOp ρ o).run Try.prog w = .ok (.value (.agg #[.bool b, .int .i64 n])) w := by
  simp [execOp, ho, h0, h1, go_sem]
theorem bd0_Content (o : Oper) (ho : o.op = .build 28 #[]) : (execOp ρ o).run Try.prog w = .ok (.value (.agg Ct.zero.va)) w := by
  simp [execOp, ho, go_sem, Ct.va, Ct.zero]
theorem bd0_Job (o : Oper) (ho : o.op = .build 38 #[]) : (execOp ρ o).run Try.prog w = .ok (.value (.agg Jb.zero.va)) w := by
  simp [execOp, ho, go_sem, Jb.va, Jb.zero, Ct.zero]
theorem bd_Job_1_2 {s f : Int} (h0 : ρ x0 = .int .i64 s) (h1 : ρ x1 = .int .i64 f) (o : Oper) (ho : o.op = .build 38 #[(1, x0), (2, x1)]) : (execOp ρ o).run Try.prog w = .ok (.value (.agg (Jb.va ⟨false, s, f, Ct.zero⟩))) w := by
  simp [execOp, ho, h0, h1, go_sem, Jb.va, Ct.zero]
theorem bd_Job_1_2_3 {s f : Int} {c : Ct} (h0 : ρ x0 = .int .i64 s) (h1 : ρ x1 = .int .i64 f) (h3 : ρ x3 = .agg c.va) (o : Oper) (ho : o.op = .build 38 #[(1, x0), (2, x1), (3, x3)]) : (execOp ρ o).run Try.prog w = .ok (.value (.agg (Jb.va ⟨false, s, f, c⟩))) w := by
  simp [execOp, ho, h0, h1, h3, go_sem, Jb.va, Ct.va]
theorem bd_Job_0_1_2_3 {b : Bool} {s f : Int} {c : Ct} (h : ρ x = .bool b) (h0 : ρ x0 = .int .i64 s) (h1 : ρ x1 = .int .i64 f) (h3 : ρ x3 = .agg c.va) (o : Oper) (ho : o.op = .build 38 #[(0, x), (1, x0), (2, x1), (3, x3)]) : (execOp ρ o).run Try.prog w = .ok (.value (.agg (Jb.va ⟨b, s, f, c⟩))) w := by
  simp [execOp, ho, h, h0, h1, h3, go_sem, Jb.va, Ct.va]
end
theorem ct_sz (c : Ct) : c.va.size = 8 := rfl
theorem jb_sz (j : Jb) : j.va.size = 11 := rfl
theorem ct_one (c : Ct) : (c.va.all fun v => v.oneCell') = true := by simp [Ct.va, Value.oneCell']
theorem jb_one (j : Jb) : (j.va.all fun v => v.oneCell') = true := by simp [Jb.va, Value.oneCell']
theorem dk_one (A A1 : Option Addr) (n c n1 c1 : Nat) (r : Int) : ((#[.slice A n c, .slice A1 n1 c1, .int .i64 r] : Array Value).all fun v => v.oneCell') = true := by simp [Value.oneCell']
theorem ky_one (b : Bool) (r : Int) : ((#[.bool b, .int .i64 r] : Array Value).all fun v => v.oneCell') = true := by simp [Value.oneCell']
/-- The data of a job, whole. -/
theorem jb_part {w : World} {B : Nat} {t : TypeId} {j : Jb} (h : Bx w B t j.va) : ∀ i u, j.data.va[i]? = some u → w.cell? ((⟨B, 3, none⟩ : Addr).add i) = some u := by
  intro i u hu
  rw [mk_add, h.cell]
  have : j.va = #[.bool j.wr, .int .i64 j.slot, .int .i64 j.frame] ++ j.data.va := by simp [Jb.va, Ct.va]
  rw [this, Array.getElem?_append_right (by simp)]
  simpa using hu
theorem jb_epart {w : World} {ad : Addr} {j : Jb} (h : ∀ i u, j.va[i]? = some u → w.cell? (ad.add i) = some u) : ∀ i u, j.data.va[i]? = some u → w.cell? ((ad.add 3).add i) = some u := by
  intro i u hu
  rw [add_twice]
  refine h _ _ ?_
  have : j.va = #[.bool j.wr, .int .i64 j.slot, .int .i64 j.frame] ++ j.data.va := by simp [Jb.va, Ct.va]
  rw [this, Array.getElem?_append_right (by simp)]
  simpa using hu
/-- Contents, jobs: own slices. -/
def OwC (w : World) (base : Nat) (A : Option Addr) (n c : Nat) (xs : List Ct) : Prop := n = xs.length ∧ Own w base 28 8 (.slice A n c) n (flat Ct.va xs)
def OwJ (w : World) (base : Nat) (A : Option Addr) (n c : Nat) (xs : List Jb) : Prop := n = xs.length ∧ Own w base 38 11 (.slice A n c) n (flat Jb.va xs)
/-- A device's slices can be read. -/
structure GD (w : World) (A1 : Option Addr) (c1 : Nat) (A2 : Option Addr) (c2 : Nat) (cs : List Ct) (js : List Jb) : Prop where
  s : GR 8 Ct.va w A1 c1 cs
  j : GR 11 Jb.va w A2 c2 js
theorem GD.below {w w' : World} {A1 A2 : Option Addr} {c1 c2 : Nat} {cs : List Ct} {js : List Jb} (h : GD w A1 c1 A2 c2 cs js) (hb : Below w.heap.size w w') : GD w' A1 c1 A2 c2 cs js := ⟨h.s.below hb, h.j.below hb⟩
end Go.Proofs.Ytbkdimildnahaaa
