/- Maps of the call's own, by what they hold at each key. No function of the program is walked here. -/
import Derived.Test.YtpoilgfblhacaaaSX
import Derived.Maps.OwnSet
namespace Go.Proofs.Ytpoilgfblhacaaa
open Go.RowKit
open Go.ChangeMaps (setBlock)
set_option linter.unusedVariables false
set_option linter.unusedSimpArgs false
set_option linter.unusedSectionVars false

/-- How keys of a type are found. -/
structure MK (κ : Type) [DecidableEq κ] (P : Program) (kt : TypeId) (kv : κ → Value) : Prop where
  check : ∀ w e k, (Instr.checkKey e 10000 kt (kv k)).run P w = .ok () w
  find : ∀ w k (es : List MapEntry) (ks : List κ), es.map (·.key) = ks.map kv → (Instr.findKey kt (kv k) es).run P w = .ok ((ks.findIdx? (fun x => decide (k = x))).bind fun i => es[i]?.map fun e => (i, e.val)) w
  stays : ∀ w k, (Instr.keyThatStays (kv k) (kv k)).run P w = .ok (kv k) w

variable {κ ν : Type} [DecidableEq κ] {kv : κ → Value} {vv : ν → Value} {P : Program} {kt : TypeId}
/-- Block b is a map that holds f. -/
def Mp (w : World) (b : Nat) (kv : κ → Value) (vv : ν → Value) (f : κ → Option ν) : Prop :=
  ∃ es clock, ∃ ks : List (κ × ν), w.heap[b]? = some (.map es clock) ∧ es.toList.map (fun e => (e.key, e.val)) = ks.map (fun p => (kv p.1, vv p.2)) ∧ (ks.map (·.1)).Nodup ∧ ∀ k, f k = (ks.find? fun p => decide (k = p.1)).map (·.2)

section
variable {w w' : World} {b g : Nat} {f : κ → Option ν}
theorem Mp.lt (h : Mp w b kv vv f) : b < w.heap.size := by
  obtain ⟨es, cl, ks, hb, _⟩ := h
  exact (Array.getElem?_eq_some_iff.1 hb).1
theorem Mp.grown {row : Option Nat} (h : Mp w b kv vv f) (hg : w.grownBy w' row) (hne : some b ≠ row) : Mp w' b kv vv f := by
  have hl := h.lt
  obtain ⟨es, cl, ks, hb, r⟩ := h
  exact ⟨es, cl, ks, (hg.block b hl hne).trans hb, r⟩
theorem Mp.gN (h : Mp w b kv vv f) (hg : w.grownBy w' none) : Mp w' b kv vv f := h.grown hg (by simp)
theorem Mp.gB (h : Mp w b kv vv f) (hg : w.grownBy w' (some g)) (hne : b ≠ g) : Mp w' b kv vv f := h.grown hg (by simpa using hne)
theorem Mp.made (w : World) : Mp (w.alloc (.map #[] 0)) w.heap.size kv vv (fun _ => none) :=
  ⟨#[], 0, [], (MapKept.heap_alloc w _).1, by simp, by simp, by simp⟩
theorem find_idx {k : κ} : ∀ (ks : List (κ × ν)) (es : List MapEntry), es.map (fun e => (e.key, e.val)) = ks.map (fun p => (kv p.1, vv p.2)) →
    (((ks.map (·.1)).findIdx? (fun x => decide (k = x))).bind fun i => es[i]?.map fun e => (i, e.val)).map (·.2) = (ks.find? fun p => decide (k = p.1)).map fun p => vv p.2
  | [], es, h => by simp
  | p :: ks, [], h => by simp at h
  | p :: ks, e :: es, h => by
    simp only [List.map_cons, List.cons.injEq, Prod.mk.injEq] at h
    have ih := find_idx (k := k) ks es h.2
    by_cases hk : k = p.1
    · simp [List.findIdx?_cons, hk, h.1.2]
    · simp only [List.map_cons, List.findIdx?_cons, hk, decide_false, Bool.false_eq_true, if_false, List.find?_cons]
      rw [← ih]
      cases hq : (ks.map (·.1)).findIdx? (fun x => decide (k = x)) with
      | none => simp
      | some i =>
        simp only [Option.map_some, Option.bind_some, List.getElem?_cons_succ]
        cases hi : es[i]? <;> simp
theorem Mp.keys {es : Array MapEntry} {ks : List (κ × ν)} (h : es.toList.map (fun e => (e.key, e.val)) = ks.map (fun p => (kv p.1, vv p.2))) : es.toList.map (·.key) = (ks.map (·.1)).map kv := by
  have := congrArg (List.map Prod.fst) h
  simpa [List.map_map, Function.comp_def] using this
theorem Mp.look (K : MK κ P kt kv) (h : Mp w b kv vv f) {t e : TypeId} (ht : P.underlying t = some (.map kt e)) {z : Value} (hz : (zeroValue e).run P w = .ok z w) (k : κ) (ok : Bool) :
    (Instr.lookup t (.map (some b)) (kv k) ok).run P w = .ok (if ok then .tuple #[((f k).map vv).getD z, .bool (f k).isSome] else ((f k).map vv).getD z) w := by
  obtain ⟨es, cl, ks, hb, he, hn, hf⟩ := h
  have h1 := K.find w k es.toList (ks.map (·.1)) (Mp.keys he)
  have h2 := find_idx (k := k) ks es.toList he
  have h3 : (f k).map vv = (ks.find? fun p => decide (k = p.1)).map fun p => vv p.2 := by rw [hf]; cases ks.find? (fun p => decide (k = p.1)) <;> rfl
  have h4 : (f k).isSome = ((ks.find? fun p => decide (k = p.1)).map fun p => vv p.2).isSome := by rw [hf]; cases ks.find? (fun p => decide (k = p.1)) <;> rfl
  rw [h3, h4, ← h2]
  generalize (((ks.map (·.1)).findIdx? (fun x => decide (k = x))).bind fun i => es.toList[i]?.map fun e => (i, e.val)) = r at *
  cases r with
  | none => simp [Instr.lookup, run_underlying ht, MapKept.run_getObj_map hb, K.check w, h1, hz, Result.andThen]
  | some p => simp [Instr.lookup, run_underlying ht, MapKept.run_getObj_map hb, K.check w, h1, hz, Result.andThen]
theorem idx_some {k : κ} {i : Nat} : ∀ (ks : List (κ × ν)), (ks.map (·.1)).findIdx? (fun x => decide (k = x)) = some i → ∃ p, ks[i]? = some p ∧ p.1 = k ∧ ∀ j q, j < i → ks[j]? = some q → q.1 ≠ k
  | [], h => by simp at h
  | p :: ks, h => by
    simp only [List.map_cons, List.findIdx?_cons] at h
    by_cases hk : k = p.1
    · simp [hk] at h
      subst h
      exact ⟨p, rfl, hk.symm, fun j q hj => absurd hj (by omega)⟩
    · simp only [hk, decide_false, Bool.false_eq_true, if_false, Option.map_eq_some_iff] at h
      obtain ⟨i', h1, rfl⟩ := h
      obtain ⟨q, hq, hqk, hj⟩ := idx_some ks h1
      refine ⟨q, by simpa using hq, hqk, fun j r hj' hr => ?_⟩
      match j, hr with
      | 0, hr => simp at hr; subst hr; exact fun e => hk e.symm
      | j + 1, hr => exact hj j r (by omega) (by simpa using hr)
theorem find_set {k : κ} {v : ν} : ∀ (ks : List (κ × ν)) (i : Nat) (p : κ × ν), ks[i]? = some p → p.1 = k → (∀ j q, j < i → ks[j]? = some q → q.1 ≠ k) → ∀ x, ((ks.set i (k, v)).find? fun q => decide (x = q.1)).map (·.2) = if x = k then some v else (ks.find? fun q => decide (x = q.1)).map (·.2)
  | [], i, p, h, _, _, x => by simp at h
  | q :: ks, 0, p, h, hk, _, x => by
    simp at h
    subst h
    by_cases hx : x = k
    · subst hx; simp
    · simp [hx, hk]
  | q :: ks, i + 1, p, h, hk, hj, x => by
    have hq : q.1 ≠ k := hj 0 q (by omega) rfl
    have ih := find_set (v := v) ks i p (by simpa using h) hk (fun j r hj' hr => hj (j + 1) r (by omega) (by simpa using hr)) x
    simp only [List.set_cons_succ, List.find?_cons]
    by_cases hx : x = q.1
    · subst hx
      simp [hq]
    · simp only [hx, decide_false]
      exact ih
theorem Mp.upd (K : MK κ P kt kv) (h : Mp w b kv vv f) {t e : TypeId} (ht : P.underlying t = some (.map kt e)) (k : κ) (v : ν) :
    ∃ w', (Instr.mapUpdate t (.map (some b)) (kv k) (vv v)).run P w = .ok () w' ∧ Mp w' b kv vv (fun x => if x = k then some v else f x) ∧ w.grownBy w' (some b) := by
  obtain ⟨es, cl, ks, hb, he, hn, hf⟩ := h
  have h1 := K.find w k es.toList (ks.map (·.1)) (Mp.keys he)
  have hgr : ∀ o, w.grownBy (setBlock w b o) (some b) := fun o => ⟨rfl, rfl, rfl, by simp [setBlock], fun i _ hi => ChangeMaps.heap_setBlock_other hb _ (fun e => hi (by rw [e]))⟩
  cases hq : (ks.map (·.1)).findIdx? (fun x => decide (k = x)) with
  | none =>
    rw [hq] at h1
    have hno : ∀ p ∈ ks, p.1 ≠ k := by
      intro p hp e
      rw [List.findIdx?_eq_none_iff] at hq
      have := hq p.1 (List.mem_map.2 ⟨p, hp, rfl⟩)
      simp [e] at this
    refine ⟨setBlock w b (.map (es.push ⟨kv k, vv v, cl⟩) (cl + 1)), ?_, ⟨_, _, ks ++ [(k, v)], ChangeMaps.heap_setBlock_same hb _, ?_, ?_, ?_⟩, hgr _⟩
    · simp [Instr.mapUpdate, run_underlying ht, MapKept.run_getObj_map hb, K.check w, h1, MapKept.run_setObj_map _ hb, Result.andThen, setBlock]
    · simp [he]
    · rw [List.map_append, List.nodup_append]
      refine ⟨hn, by simp, ?_⟩
      intro a ha c hc
      simp at hc
      subst hc
      obtain ⟨p, hp, rfl⟩ := List.mem_map.1 ha
      exact hno p hp
    · intro x
      rw [List.find?_append]
      by_cases hx : x = k
      · subst hx
        have : ks.find? (fun p => decide (x = p.1)) = none := by
          rw [List.find?_eq_none]
          intro p hp
          have := hno p hp
          simp
          exact fun e => this e.symm
        simp [this]
      · simp only [hx, if_false, hf x]
        have : ([(k, v)] : List (κ × ν)).find? (fun p => decide (x = p.1)) = none := by simp [hx]
        rw [this]
        cases ks.find? (fun p => decide (x = p.1)) <;> rfl
  | some i =>
    rw [hq] at h1
    obtain ⟨p, hp, hpk, hj⟩ := idx_some ks hq
    have hil : i < ks.length := (List.getElem?_eq_some_iff.1 hp).1
    have hel : es.toList.length = ks.length := by have := congrArg List.length he; simpa using this
    obtain ⟨e0, he0⟩ : ∃ e0, es.toList[i]? = some e0 := ⟨_, List.getElem?_eq_getElem (by omega)⟩
    have hk0 : e0.key = kv k := by
      have := congrArg (fun l => l[i]?) he
      simp only [List.getElem?_map, he0, hp, Option.map_some] at this
      injection this with this
      injection this with h1 h2
      rw [h1, hpk]
    have he1 : es[i]? = some e0 := by simpa using he0
    simp only [Option.bind_some, he0, Option.map_some] at h1
    refine ⟨setBlock w b (.map (es.modify i fun e => { e with key := kv k, val := vv v }) cl), ?_, ⟨_, _, ks.set i (k, v), ChangeMaps.heap_setBlock_same hb _, ?_, ?_, ?_⟩, hgr _⟩
    · simp [Instr.mapUpdate, run_underlying ht, MapKept.run_getObj_map hb, K.check w, h1, he1, hk0, K.stays w, MapKept.run_setObj_map _ hb, Result.andThen, setBlock]
    · apply List.ext_getElem?
      intro j
      have hj2 := congrArg (fun l => l[j]?) he
      simp only [List.getElem?_map] at hj2
      simp only [Array.toList_modify, List.getElem?_map, List.getElem?_modify, List.getElem?_set]
      by_cases hji : i = j
      · subst hji
        simp [he0, hil]
      · simp only [hji, if_false, id_map', Option.map_id_fun', id_eq]
        cases hc : es.toList[j]? <;> rw [hc] at hj2 <;> simpa [hji] using hj2
    · rw [List.map_set]
      have : (ks.map (·.1)).set i k = ks.map (·.1) := by
        apply List.ext_getElem?
        intro j
        rw [List.getElem?_set]
        by_cases hji : i = j
        · subst hji
          simp [hil]
          rw [(List.getElem?_eq_some_iff.1 hp).2]
          exact hpk.symm
        · simp [hji]
      rw [this]
      exact hn
    · intro x
      show (if x = k then some v else f x) = _
      rw [find_set ks i p hp hpk hj x, hf x]
end

section
variable {ops : Array Oper} {rest : List Oper} {o : Oper} {a : Act} {w : World} {Q : Exit → Act → World → Prop} {N : Nat} {L : List (Nat × Value)} {d : Nat} {t e : TypeId} {b : Nat} {f : κ → Option ν} {m x y : Operand}
/-- A new map. -/
theorem sx_map (hA : Ag a N L) (hd : o.dst = some d) (hN : d < N) (hg : Wn ops L o) (ho : o.op = .makeMap t none)
    (h : ∀ (B : Nat) w' a', B = w.heap.size → Mp w' B kv vv (fun _ : κ => none) → w.grownBy w' none → Ag a' N ((d, .map (some B)) :: L) → wpList P ops Q rest a' w') : wpList P ops Q (o :: rest) a w :=
  sx_val (w' := w.alloc (.map #[] 0)) hA hd (by simp [execOp, ho, Instr.makeMap, go_sem]) (h _ _ · rfl (Mp.made w) (World.grownBy_alloc w _ none)) hN hg
theorem ev_look (K : MK κ P kt kv) (h : Mp w b kv vv f) (ht : P.underlying t = some (.map kt e)) {z : Value} (hz : (zeroValue e).run P w = .ok z w) {ρ : Operand → Value} {k : κ} {r : Value} (hm : ρ m = .map (some b)) (hx : ρ x = kv k) (hr : ((f k).map vv).getD z = r) (o : Oper) (ho : o.op = .lookup t m x false) : (execOp ρ o).run P w = .ok (.value r) w := by
  have := h.look K ht hz k false
  subst hr
  simp only [Bool.false_eq_true, if_false] at this
  simp [execOp, ho, hm, hx, this, Result.andThen]
theorem ev_look2 (K : MK κ P kt kv) (h : Mp w b kv vv f) (ht : P.underlying t = some (.map kt e)) {z : Value} (hz : (zeroValue e).run P w = .ok z w) {ρ : Operand → Value} {k : κ} {r : Value} {ok : Bool} (hm : ρ m = .map (some b)) (hx : ρ x = kv k) (hr : ((f k).map vv).getD z = r) (hk : (f k).isSome = ok) (o : Oper) (ho : o.op = .lookup t m x true) : (execOp ρ o).run P w = .ok (.value (.tuple #[r, .bool ok])) w := by
  have := h.look K ht hz k true
  subst hr hk
  simp only [if_true] at this
  simp [execOp, ho, hm, hx, this, Result.andThen]
/-- A store into a map. -/
theorem sx_upd (K : MK κ P kt kv) (hA : Ag a N L) (hd : o.dst = none) (hg : Wn ops L o) (ho : o.op = .mapUpdate t m x y) (ht : P.underlying t = some (.map kt e)) (hp : Mp w b kv vv f) {k : κ} {v : ν} (hm : a.eval m = .map (some b)) (hx : a.eval x = kv k) (hy : a.eval y = vv v)
    (h : ∀ w', Mp w' b kv vv (fun x => if x = k then some v else f x) → w.grownBy w' (some b) → wpList P ops Q rest a w') : wpList P ops Q (o :: rest) a w := by
  obtain ⟨w', hr, h1, h2⟩ := hp.upd K ht k v
  exact sx_skip hA hd hg (by simp [execOp, ho, hm, hx, hy, hr, Result.andThen]) (h w' h1 h2)
end
end Go.Proofs.Ytpoilgfblhacaaa
