/- Package pool: small words: lists cut, pools in variables, results. -/
import Derived.Test.YtoimmfcodflmkaaDoorZ
import Derived.Test.YtoimmfcodflmkaaDoorPL
import Derived.Deep.WholeRow
import Derived.Laws.CopyOwn
import Derived.Laws.ResultCell
namespace Go.Proofs.YtoimmfcodflmkaaDoor
open Go.RowKit

theorem GI.len {w : World} {A : Option Addr} {c : Nat} {xs : List Int} (h : GI w A c xs) : xs.length ≤ 9223372036854775807 := by have := h.1; have := h.2.1; unfold maxLen at this; omega
theorem pool_size : (Tryd.prog.info? 24).map (·.size) = some 2 := by kernel_rfl
theorem pv_one (s : Int) (A : Option Addr) (n c : Nat) : ((#[.int .i64 s, .slice A n c] : Array Value).all fun v => v.oneCell') = true := by simp [Value.oneCell']
theorem s2 {w : World} {B : Nat} {t : TypeId} {f0 f1 : Value} (h : Bx w B t #[f0, f1]) : w.cell? ⟨B, 0, none⟩ = some f0 ∧ w.cell? ⟨B, 1, none⟩ = some f1 := ⟨h.cell 0, h.cell 1⟩

/-- A call returned a pool and an error; nothing that was there has changed. -/
def RetP (w : World) (s : Int) (xs : List Int) (err : Int) (e : Ending) (w' : World) : Prop :=
  ∃ A c, e = .returned (.tuple #[.agg #[.int .i64 s, .slice A xs.length c], .int .i64 err]) ∧ OwnI w' w.heap.size A xs.length c xs ∧ Below w.heap.size w w'
/-- A call returned a pool, a number and an error. -/
def RetP3 (w : World) (s : Int) (xs : List Int) (d err : Int) (e : Ending) (w' : World) : Prop :=
  ∃ A c, e = .returned (.tuple #[.agg #[.int .i64 s, .slice A xs.length c], .int .i64 d, .int .i64 err]) ∧ OwnI w' w.heap.size A xs.length c xs ∧ Below w.heap.size w w'
/-- A call returned a list and an error. -/
def RetL (w : World) (xs : List Int) (err : Int) (e : Ending) (w' : World) : Prop :=
  ∃ A c, e = .returned (.tuple #[.slice A xs.length c, .int .i64 err]) ∧ OwnI w' w.heap.size A xs.length c xs ∧ Below w.heap.size w w'

/-- A frame that returns a struct out of a variable and an error out of a slot. -/
theorem res_c {fn : Func} {p u : Tmp} {T : TypeId} {fs : Array Field} (h : fn.results = #[.cell p T, .tmp u]) {tmps : Array Value} {w : World} {g : Nat} {cs : Array Value} {v : Value} (hp : tmps.getD p undef = .pointer (some ⟨g, 0, none⟩)) (hu : tmps.getD u undef = v) (hg : Bx w g T cs) (hT : Tryd.prog.underlying T = some (.struct fs)) (hs : (Tryd.prog.info? T).map (·.size) = some cs.size) :
    (results fn tmps).run Tryd.prog w = .ok (.tuple #[.agg cs, v]) w := by
  rw [results_cell_tmp h, hp, hu]
  simp [asAddr, run_loadVar_row w g _ T cs _ _ hg hT rfl hs]
theorem results_cell_tmp2 {fn : Func} {p u v : Tmp} {ty : TypeId} (h : fn.results = #[.cell p ty, .tmp u, .tmp v]) (tmps : Array Value) (P : Program) (w : World) :
    (results fn tmps).run P w =
      ((asAddr (tmps.getD p undef)).run P w).andThen fun a w₁ => ((loadVar ty a).run P w₁).andThen fun x w₂ => .ok (.tuple #[x, tmps.getD u undef, tmps.getD v undef]) w₂ := by
  simp only [results, h]
  simp [Sem.run_bind, Result.andThen]
theorem res_c2 {fn : Func} {p u u2 : Tmp} {T : TypeId} {fs : Array Field} (h : fn.results = #[.cell p T, .tmp u, .tmp u2]) {tmps : Array Value} {w : World} {g : Nat} {cs : Array Value} {v v2 : Value} (hp : tmps.getD p undef = .pointer (some ⟨g, 0, none⟩)) (hu : tmps.getD u undef = v) (hu2 : tmps.getD u2 undef = v2) (hg : Bx w g T cs) (hT : Tryd.prog.underlying T = some (.struct fs)) (hs : (Tryd.prog.info? T).map (·.size) = some cs.size) :
    (results fn tmps).run Tryd.prog w = .ok (.tuple #[.agg cs, v, v2]) w := by
  rw [results_cell_tmp2 h, hp, hu, hu2]
  simp [asAddr, run_loadVar_row w g _ T cs _ _ hg hT rfl hs]
end Go.Proofs.YtoimmfcodflmkaaDoor
