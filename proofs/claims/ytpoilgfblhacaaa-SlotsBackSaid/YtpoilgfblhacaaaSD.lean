/- Regions that draw their order, walked step by step. No function of the program is walked here. -/
import Derived.Test.YtpoilgfblhacaaaSM
import Derived.Test.YtpoilgfblhacaaaMP
namespace Go.Proofs.Ytpoilgfblhacaaa
open Go.RowKit
set_option linter.unusedVariables false
set_option linter.unusedSimpArgs false

section
variable {P : Program} {Q : Exit → Act → World → Prop} {l : List Oper} {i : Nat} {o : Oper} {a : Act} {w w' : World} {K : Act → World → Prop} {v : Value} {d : Nat}
theorem dj_val (ho : l[i]? = some o) (hg : Runs l a o.guard) (hr : (execOp a.eval o).run P w = .ok (.value v) w') (h : K (a.put o.dst v) w') : wpOp P l.toArray Q i K a w := by
  have h1 : l.toArray[i]? = some o := by simpa using ho
  unfold wpOp
  rw [h1]
  simp only [hg.wanted rfl, if_true]
  left
  show o.upon P a K Q ((execOp a.eval o).run P w)
  rw [hr, Oper.upon_value]
  exact h
theorem dj_skip (ho : l[i]? = some o) (hd : o.dst = none) (hg : Runs l a o.guard) (hr : (execOp a.eval o).run P w = .ok .skip w') (h : K a w') : wpOp P l.toArray Q i K a w := by
  have h1 : l.toArray[i]? = some o := by simpa using ho
  unfold wpOp
  rw [h1]
  simp only [hg.wanted rfl, if_true]
  left
  show o.upon P a K Q ((execOp a.eval o).run P w)
  rw [hr, Oper.upon_skip, hd]
  exact h
theorem dj_call {f : FuncId} {args : Array Value} {R : Ending → World → Prop} (ho : l[i]? = some o) (hg : Runs l a o.guard) (hr : (execOp a.eval o).run P w = .ok (.enter f args) w) (hc : Calls P f args w R)
    (h : ∀ e w', R e w' → ∃ v, e = .returned v ∧ K (a.put o.dst v) w') : wpOp P l.toArray Q i K a w := by
  have h1 : l.toArray[i]? = some o := by simpa using ho
  unfold wpOp
  rw [h1]
  simp only [hg.wanted rfl, if_true]
  left
  show o.upon P a K Q ((execOp a.eval o).run P w)
  rw [hr, Oper.upon_enter]
  refine hc.mono ?_
  intro e w2 hR
  obtain ⟨v, rfl, h2⟩ := h e w2 hR
  exact h2
theorem dj_no {j s : Nat} {want b : Bool} (ho : l[i]? = some o) (hg : o.guard = some (j, want)) (hj : dstOf l j = some s) (hs : Sv a s (.bool b)) (hb : (b == want) = false) (h : K (a.put o.dst undef) w) : wpOp P l.toArray Q i K a w := by
  have h1 : l.toArray[i]? = some o := by simpa using ho
  unfold wpOp
  rw [h1]
  simp only []
  rw [wanted_of hg (by unfold dstOf at hj; simpa using hj) hs, if_neg (by simp [hb])]
  exact h
theorem so {p : Prop} {i : Nat} {u : Value} (h : p → Sv a i v) (hd : i ≠ d := by decide) : p → Sv (a.put (some d) u) i v := fun q => (h q).other hd u
theorem dep_in {k : Nat} (h : (depsOf o).contains k = true) : k ∈ depsOf o := List.contains_iff_mem.1 h
theorem dp {L : Nat → Bool} (h : ∀ k ∈ depsOf o, L k = true) (k : Nat) (hk : (depsOf o).contains k = true := by kernel_rfl) : L k = true := h k (dep_in hk)
/-- A region that draws its order, operation by operation. -/
theorem region_D {id n : Nat} {a0 : Act} {w0 : World} (hm : P.follows .mixedOrders = true) (hac : acyB l = true) (hn : l.length = n) (J : (Nat → Bool) → Act → World → Prop) (h0 : J (fun _ => false) a0 w0.drew)
    (step : ∀ i, i < n → ∀ o, l[i]? = some o → ∀ L : Nat → Bool, L i = false → (∀ k ∈ depsOf o, L k = true) → ∀ a w, Fr a0 l a → J L a w → wpOp P l.toArray Q i (fun a' w' => (∃ v, a' = a.put o.dst v) ∧ J (fun j => if j = i then true else L j) a' w') a w)
    (fin : ∀ L : Nat → Bool, (∀ i, i < n → L i = true) → ∀ a w, Fr a0 l a → J L a w → Q .normal a w) : (Code.region id l.toArray true).wp P Q a0 w0 := by
  subst hn
  refine region_J hm hac (fun L a w => Fr a0 l a ∧ J L a w) ⟨Fr.refl _ _, h0⟩ ?_ (fun L hL a w h => fin L hL a w h.1 h.2)
  intro i o ho L hL hd a w h
  refine wpOp_mono ?_ (step i (List.getElem?_eq_some_iff.1 ho).1 o ho L hL hd a w h.1 h.2)
  rintro a' w' ⟨⟨v, rfl⟩, hJ⟩
  exact ⟨h.1.put ho v, hJ⟩
end
theorem gdr (w : World) : w.grownBy w.drew none := ⟨rfl, rfl, rfl, Nat.le_refl _, fun _ _ _ => rfl⟩
theorem grw {w : World} {B : Nat} {t : TypeId} {old : Array Value} (hb : Bx w B t old) (cs : Array Value) : w.grownBy (w.setRow B cs) (some B) := ⟨rfl, rfl, rfl, by simp, fun k _ hk => setRow_other w B k cs (fun e => hk (by rw [e]))⟩
theorem gsc {w : World} {B i : Nat} {t : TypeId} {old : Array Value} (hb : Bx w B t old) (v : Value) : w.grownBy (w.setCell ⟨B, i, none⟩ v) (some B) := ⟨rfl, rfl, rfl, by simp [World.setCell], fun k _ hk => Below.heap_setCell w _ v k (fun e => hk (by rw [e]))⟩
theorem Mp.congr {κ ν : Type} [DecidableEq κ] {kv : κ → Value} {vv : ν → Value} {w : World} {b : Nat} {f g : κ → Option ν} (h : Mp w b kv vv f) (hfg : ∀ q, f q = g q) : Mp w b kv vv g := by
  have : f = g := funext hfg
  rw [← this]; exact h
end Go.Proofs.Ytpoilgfblhacaaa
