/- Regions that draw their order: what holds behind each operation, in whatever order. No function of the program is walked here. -/
import Derived.Test.YtpoilgfblhacaaaV
import Derived.Test.YtpoilgfblhacaaaW
import Derived.Orders
namespace Go.Proofs.Ytpoilgfblhacaaa
open Go.RowKit

/-- What an operation waits for. -/
def depsOf (o : Oper) : List Nat := (o.after.toList.filter (Region.binds .any ·)).map (·.on)
def acyB (l : List Oper) : Bool := (List.range l.length).all fun i => ((l[i]?.map depsOf).getD []).all (decide <| · < i)

theorem acy_lt {l : List Oper} (h : acyB l = true) {i : Nat} {o : Oper} (ho : l[i]? = some o) {k : Nat} (hk : k ∈ depsOf o) : k < i := by
  unfold acyB at h
  rw [List.all_eq_true] at h
  have hi : i < l.length := (List.getElem?_eq_some_iff.1 ho).1
  have h1 := h i (List.mem_range.2 hi)
  rw [ho] at h1
  simp only [Option.map_some, Option.getD_some, List.all_eq_true, decide_eq_true_eq] at h1
  exact h1 k hk

theorem filter_less {α : Type} (p q : α → Bool) : ∀ (l : List α), (∀ x ∈ l, q x = true → p x = true) → (∃ x ∈ l, p x = true ∧ q x = false) → (l.filter q).length < (l.filter p).length
  | [], _, ⟨x, hx, _⟩ => absurd hx (by simp)
  | y :: l, h, ⟨x, hx, hp, hq⟩ => by
    have hle : (l.filter q).length ≤ (l.filter p).length := by
      clear hx hp hq x
      induction l with
      | nil => simp
      | cons z l ih =>
        have ih' := ih (fun a ha => h a (by simp only [List.mem_cons] at ha ⊢; rcases ha with h | h <;> simp [h]))
        have hz := h z (by simp)
        simp only [List.filter_cons]
        cases hqz : q z
        · cases p z <;> simp <;> omega
        · rw [hz hqz]; simp; omega
    have hy := h y (by simp)
    simp only [List.filter_cons]
    rcases List.mem_cons.1 hx with rfl | hx
    · rw [hp, hq]; simp; omega
    · have := filter_less p q l (fun a ha => h a (by simp [ha])) ⟨x, hx, hp, hq⟩
      cases hqy : q y
      · cases p y <;> simp <;> omega
      · rw [hy hqy]; simp; omega

section
variable {P : Program} {Q : Exit → Act → World → Prop} {l : List Oper}

theorem ready_iff {ops : Array Oper} {listed : Array Bool} {i : Nat} : i ∈ Region.ready .any ops listed ↔ i < ops.size ∧ listed.getD i true = false ∧ ∀ o, ops[i]? = some o → ∀ k ∈ depsOf o, listed.getD k false = true := by
  unfold Region.ready depsOf
  rw [List.mem_filter, List.mem_range]
  constructor
  · rintro ⟨h1, h2⟩
    rw [Bool.and_eq_true] at h2
    refine ⟨h1, by simpa using h2.1, fun o ho k hk => ?_⟩
    have h3 := h2.2
    rw [ho] at h3
    simp only [Option.map_some, Option.getD_some, Array.all_eq_true_iff_forall_mem] at h3
    simp only [List.mem_map, List.mem_filter, Array.mem_toList_iff] at hk
    obtain ⟨e, ⟨he, hb⟩, rfl⟩ := hk
    have := h3 e he
    rw [hb] at this
    simpa using this
  · rintro ⟨h1, h2, h3⟩
    refine ⟨h1, ?_⟩
    rw [Bool.and_eq_true]
    refine ⟨by rw [h2]; rfl, ?_⟩
    rw [Array.getElem?_eq_getElem h1]
    simp only [Option.map_some, Option.getD_some, Array.all_eq_true_iff_forall_mem]
    intro e he
    cases hb : Region.binds .any e
    · rfl
    · have := h3 ops[i] (Array.getElem?_eq_getElem h1) e.on (by
        simp only [List.mem_map, List.mem_filter, Array.mem_toList_iff]
        exact ⟨e, ⟨he, hb⟩, rfl⟩)
      rw [this]
      rfl

/-- A region that draws its order: a predicate on what is done, carried over each operation in whatever order. -/
theorem region_J {id : Nat} {a : Act} {w : World} (hm : P.follows .mixedOrders = true) (hac : acyB l = true) (J : (Nat → Bool) → Act → World → Prop) (h0 : J (fun _ => false) a w.drew)
    (step : ∀ i o, l[i]? = some o → ∀ L : Nat → Bool, L i = false → (∀ k ∈ depsOf o, L k = true) → ∀ a w, J L a w → wpOp P l.toArray Q i (J fun j => if j = i then true else L j) a w)
    (fin : ∀ L : Nat → Bool, (∀ i, i < l.length → L i = true) → ∀ a w, J L a w → Q .normal a w) : (Code.region id l.toArray true).wp P Q a w := by
  refine wp_region_any hm ?_
  have key : ∀ fuel (listed : Array Bool) (a : Act) (w : World), listed.size = l.length → ((List.range l.length).filter fun i => !listed.getD i false).length ≤ fuel → J (fun i => listed.getD i false) a w → wpAny P .any l.toArray Q fuel listed a w := by
    intro fuel
    induction fuel with
    | zero =>
      intro listed a w hs hf hJ
      have hall : ∀ i, i < l.length → listed.getD i false = true := by
        intro i hi
        cases hc : listed.getD i false
        · have : i ∈ (List.range l.length).filter fun i => !listed.getD i false := by
            rw [List.mem_filter, List.mem_range]
            exact ⟨hi, by rw [hc]; rfl⟩
          have := List.length_pos_of_mem this
          omega
        · rfl
      refine ⟨?_, fin _ hall a w hJ⟩
      rw [List.eq_nil_iff_forall_not_mem]
      intro i hi
      obtain ⟨h1, h2, _⟩ := ready_iff.1 hi
      have h3 := hall i (by simpa using h1)
      rw [Array.getD_eq_getD_getElem?] at h2 h3
      cases hc : listed[i]? <;> rw [hc] at h2 h3 <;> simp_all
    | succ fuel ih =>
      intro listed a w hs hf hJ
      refine ⟨fun hr => ?_, fun i hi => ?_⟩
      · refine fin _ ?_ a w hJ
        intro i hi
        induction i using Nat.strongRecOn with
        | _ i ihi =>
          cases hc : listed.getD i false
          · have hmem : i ∈ Region.ready .any l.toArray listed := by
              refine ready_iff.2 ⟨by simpa using hi, ?_, ?_⟩
              · rw [Array.getD_eq_getD_getElem?, Array.getElem?_eq_getElem (by omega)] at hc ⊢
                simpa using hc
              · intro o ho k hk
                have ho' : l[i]? = some o := by simpa using ho
                have hlt := acy_lt hac ho' hk
                exact ihi k hlt (by omega)
            rw [hr] at hmem
            cases hmem
          · rfl
      · obtain ⟨h1, h2, h3⟩ := ready_iff.1 hi
        have h1' : i < l.length := by simpa using h1
        have hi' : i < listed.size := by omega
        have hLi : listed.getD i false = false := by
          rw [Array.getD_eq_getD_getElem?, Array.getElem?_eq_getElem hi'] at h2 ⊢
          simpa using h2
        have ho : l[i]? = some l[i] := List.getElem?_eq_getElem h1'
        refine wpOp_mono ?_ (step i l[i] ho (fun j => listed.getD j false) hLi (h3 l[i] (by simp)) a w hJ)
        intro a' w' hJ'
        refine ih _ a' w' (by simp [hs]) ?_ ?_
        · have := filter_less (fun j => !listed.getD j false) (fun j => !(listed.setIfInBounds i true).getD j false) (List.range l.length) ?_ ?_
          · omega
          · intro j hj hq
            by_cases hji : j = i
            · subst hji; rw [hLi]; rfl
            · rw [Array.getD_eq_getD_getElem?, Array.getElem?_setIfInBounds, if_neg (fun e => hji e.symm)] at hq
              rw [Array.getD_eq_getD_getElem?]
              exact hq
          · refine ⟨i, List.mem_range.2 h1', by rw [hLi]; rfl, ?_⟩
            rw [Array.getD_eq_getD_getElem?, Array.getElem?_setIfInBounds]
            simp [hi']
        · have e : (fun j => (listed.setIfInBounds i true).getD j false) = fun j => if j = i then true else listed.getD j false := by
            funext j
            rw [Array.getD_eq_getD_getElem?, Array.getElem?_setIfInBounds]
            by_cases hji : j = i
            · subst hji; simp [hi']
            · rw [if_neg (fun e => hji e.symm), if_neg hji, Array.getD_eq_getD_getElem?]
          rw [e]
          exact hJ'
  refine key _ _ _ _ (by simp) (by have := List.length_filter_le (fun i => !(Array.replicate l.toArray.size false).getD i false) (List.range l.length); rw [List.length_range] at this; simpa using this) ?_
  have e : (fun i => (Array.replicate l.toArray.size false).getD i false) = fun _ => false := by
    funext i
    rw [Array.getD_eq_getD_getElem?, Array.getElem?_replicate]
    split <;> rfl
  rw [e]
  exact h0
end

/-! What each operation leaves, said by slots and of the world. -/
structure Spec where
  X : Type
  ss : List Nat
  sl : X → List (Nat × Value)
  wd : X → World → Prop
def Spec.holds (s : Spec) (a : Act) (w : World) : Prop := ∃ x, (s.sl x).map (·.1) = s.ss ∧ (∀ p ∈ s.sl x, Sv a p.1 p.2) ∧ s.wd x w

/-- All that operation i waits for, directly and through others. -/
def reachS (l : List Oper) (i : Nat) : List Nat :=
  (List.range i).reverse.foldl (fun acc k => if (i :: acc).any (fun j => ((l[j]?.map depsOf).getD []).contains k) then k :: acc else acc) []
def dstOf (l : List Oper) (i : Nat) : Option Nat := (l[i]?).bind (·.dst)
def dstsOf (l : List Oper) : List Nat := l.filterMap (·.dst)
/-- The frame is a0 but for the region's own slots. -/
def Fr (a0 : Act) (l : List Oper) (a : Act) : Prop := a.tmps.size = a0.tmps.size ∧ a.defers = a0.defers ∧ ∀ s, s ∉ dstsOf l → a.tmps[s]? = a0.tmps[s]?
/-- No operation writes a slot that another one's words speak of, unless that one waits for it. -/
def slB (l : List Oper) (ss : Nat → List Nat) : Bool :=
  (List.range l.length).all fun i => (List.range l.length).all fun j => i == j || (reachS l j).contains i || (match dstOf l i with | some d => !(ss j).contains d | none => true)
/-- The region's slots lie in the frame. -/
def inB (l : List Oper) (n : Nat) : Bool := (dstsOf l).all (decide <| · < n)

theorem Fr.refl (a0 : Act) (l : List Oper) : Fr a0 l a0 := ⟨rfl, rfl, fun _ _ => rfl⟩
theorem Fr.put {a0 a : Act} {l : List Oper} (h : Fr a0 l a) {i : Nat} {o : Oper} (ho : l[i]? = some o) (v : Value) : Fr a0 l (a.put o.dst v) := by
  cases hd : o.dst with
  | none => exact h
  | some d =>
    refine ⟨by simpa [Act.put] using h.1, h.2.1, fun s hs => ?_⟩
    have hmem : d ∈ dstsOf l := by
      unfold dstsOf
      rw [List.mem_filterMap]
      exact ⟨o, List.mem_of_getElem? ho, hd⟩
    show (a.tmps.setIfInBounds d v)[s]? = _
    rw [Array.getElem?_setIfInBounds, if_neg (by rintro rfl; exact hs hmem)]
    exact h.2.2 s hs
theorem Fr.sv {a0 a : Act} {l : List Oper} (h : Fr a0 l a) {s : Nat} {v : Value} (hs : (dstsOf l).contains s = false) (hv : Sv a0 s v) : Sv a s v :=
  (h.2.2 s (fun hm => by rw [List.contains_iff_mem.2 hm] at hs; cases hs)).trans hv
theorem Sv.other {a : Act} {i d : Nat} {v : Value} (h : Sv a i v) (hd : i ≠ d) (u : Value) : Sv (a.put (some d) u) i v := by
  show (a.tmps.setIfInBounds d u)[i]? = some v
  rw [Array.getElem?_setIfInBounds, if_neg (fun e => hd e.symm)]
  exact h

theorem reach_fold (l : List Oper) (i : Nat) (L : Nat → Prop) (hcl : ∀ j, L j → ∀ k ∈ (l[j]?.map depsOf).getD [], L k) (hi : ∀ k ∈ (l[i]?.map depsOf).getD [], L k) :
    ∀ (ks acc : List Nat), (∀ k ∈ acc, L k) → ∀ k ∈ ks.foldl (fun acc k => if (i :: acc).any (fun j => ((l[j]?.map depsOf).getD []).contains k) then k :: acc else acc) acc, L k
  | [], acc, h => h
  | k :: ks, acc, h => by
    refine reach_fold l i L hcl hi ks _ ?_
    dsimp only
    split
    · rename_i hk
      intro m hm
      rcases List.mem_cons.1 hm with rfl | hm
      · rw [List.any_eq_true] at hk
        obtain ⟨j, hj, hc⟩ := hk
        rw [List.contains_iff_mem] at hc
        rcases List.mem_cons.1 hj with rfl | hj
        · exact hi _ hc
        · exact hcl j (h j hj) _ hc
      · exact h m hm
    · exact h
theorem reach_in (l : List Oper) (i : Nat) (L : Nat → Prop) (hcl : ∀ j, L j → ∀ k ∈ (l[j]?.map depsOf).getD [], L k) (hi : ∀ k ∈ (l[i]?.map depsOf).getD [], L k) : ∀ k ∈ reachS l i, L k :=
  reach_fold l i L hcl hi _ _ (by simp)

/-- A region that draws its order, by what each operation leaves. -/
theorem region_spec {P : Program} {Q : Exit → Act → World → Prop} {l : List Oper} {id : Nat} {a0 : Act} {w0 : World} (hm : P.follows .mixedOrders = true) (hac : acyB l = true)
    (sp : Nat → Spec) (hsl : slB l (fun j => (sp j).ss) = true) (I : World → Prop) (Stp : Nat → World → World → Prop) (h0 : I w0.drew)
    (ob : ∀ i o, l[i]? = some o → ∀ a w, Fr a0 l a → I w → (∀ k ∈ reachS l i, (sp k).holds a w) →
      wpOp P l.toArray Q i (fun a' w' => (∃ v, a' = a.put o.dst v) ∧ I w' ∧ Stp i w w' ∧ (sp i).holds a' w') a w)
    (stab : ∀ i j, i < l.length → j < l.length → i ≠ j → (reachS l j).contains i = false → ∀ x w w', I w → Stp i w w' → (sp j).wd x w → (sp j).wd x w')
    (fin : ∀ a w, Fr a0 l a → I w → (∀ i, i < l.length → (sp i).holds a w) → Q .normal a w) : (Code.region id l.toArray true).wp P Q a0 w0 := by
  refine region_J hm hac (fun L a w => Fr a0 l a ∧ I w ∧ (∀ j, L j = true → j < l.length) ∧ (∀ j, L j = true → ∀ k ∈ (l[j]?.map depsOf).getD [], L k = true) ∧ ∀ j, L j = true → (sp j).holds a w) ?_ ?_ ?_
  · exact ⟨Fr.refl _ _, h0, fun _ h => Bool.noConfusion h, fun _ h => Bool.noConfusion h, fun _ h => Bool.noConfusion h⟩
  · rintro i o ho L hLi hdep a w ⟨hF, hI, hln, hcl, hsp⟩
    have hi : i < l.length := (List.getElem?_eq_some_iff.1 ho).1
    have hdep' : ∀ k ∈ (l[i]?.map depsOf).getD [], L k = true := by rw [ho]; exact hdep
    have hre := reach_in l i (fun k => L k = true) hcl hdep'
    refine wpOp_mono ?_ (ob i o ho a w hF hI (fun k hk => hsp k (hre k hk)))
    rintro a' w' ⟨⟨v, rfl⟩, hI', hst, hspi⟩
    refine ⟨hF.put ho v, hI', ?_, ?_, ?_⟩
    · intro j hj
      by_cases hji : j = i
      · subst hji; exact hi
      · exact hln j (by simpa [hji] using hj)
    · intro j hj k hk
      show (if k = i then true else L k) = true
      by_cases hki : k = i
      · rw [if_pos hki]
      · rw [if_neg hki]
        by_cases hji : j = i
        · subst hji; exact hdep' k hk
        · exact hcl j (by simpa [hji] using hj) k hk
    · intro j hj
      by_cases hji : j = i
      · subst hji; exact hspi
      · have hj : L j = true := by simpa [hji] using hj
        have hjl := hln j hj
        · have hnr : (reachS l j).contains i = false := by
            cases hc : (reachS l j).contains i
            · rfl
            · have := reach_in l j (fun k => L k = true) hcl (hcl j hj) i (List.contains_iff_mem.1 hc)
              rw [hLi] at this
              cases this
          obtain ⟨x, hx, hs, hw⟩ := hsp j hj
          refine ⟨x, hx, fun p hp => ?_, stab i j hi hjl (fun e => hji e.symm) hnr x w w' hI hst hw⟩
          cases hd : o.dst with
          | none => exact hs p hp
          | some d =>
            refine (hs p hp).other ?_ v
            intro e
            unfold slB at hsl
            rw [List.all_eq_true] at hsl
            have h1 := hsl i (List.mem_range.2 hi)
            rw [List.all_eq_true] at h1
            have h2 := h1 j (List.mem_range.2 hjl)
            have hdo : dstOf l i = some d := by unfold dstOf; rw [ho]; exact hd
            rw [hdo] at h2
            have hne : (i == j) = false := by simp; exact fun e => hji e.symm
            rw [hne, hnr] at h2
            simp only [Bool.false_or, Bool.not_eq_true'] at h2
            have hmem : d ∈ (sp j).ss := by
              rw [← hx, List.mem_map]
              exact ⟨p, hp, e⟩
            rw [List.contains_iff_mem.2 hmem] at h2
            cases h2
  · rintro L hall a w ⟨hF, hI, _, _, hsp⟩
    exact fin a w hF hI (fun i hi => hsp i (hall i hi))

/-- The same, the operations counted. -/
theorem region_of {P : Program} {Q : Exit → Act → World → Prop} {l : List Oper} {id n : Nat} {a0 : Act} {w0 : World} (hm : P.follows .mixedOrders = true) (hac : acyB l = true) (hn : l.length = n)
    (sp : Nat → Spec) (hsl : slB l (fun j => (sp j).ss) = true) (I : World → Prop) (Stp : Nat → World → World → Prop) (h0 : I w0.drew)
    (ob : ∀ i, i < n → ∀ a w, Fr a0 l a → I w → (∀ k ∈ reachS l i, (sp k).holds a w) →
      wpOp P l.toArray Q i (fun a' w' => (∃ v, a' = a.put (dstOf l i) v) ∧ I w' ∧ Stp i w w' ∧ (sp i).holds a' w') a w)
    (stab : ∀ i j, i < n → j < n → i ≠ j → ∀ x w w', I w → Stp i w w' → (sp j).wd x w → (sp j).wd x w')
    (fin : ∀ a w, Fr a0 l a → I w → (∀ i, i < n → (sp i).holds a w) → Q .normal a w) : (Code.region id l.toArray true).wp P Q a0 w0 := by
  subst hn
  refine region_spec hm hac sp hsl I Stp h0 ?_ (fun i j hi hj hij _ => stab i j hi hj hij) fin
  intro i o ho a w hF hI hk
  have hd : dstOf l i = o.dst := by unfold dstOf; rw [ho]; rfl
  have := ob i (List.getElem?_eq_some_iff.1 ho).1 a w hF hI hk
  rw [hd] at this
  exact this

section
variable {P : Program} {Q : Exit → Act → World → Prop} {l : List Oper} {i : Nat} {d : Option Nat} {op : Op} {a : Act} {w w' : World} {K : Act → World → Prop} {v : Value}
theorem ob_parts {g : Option (Nat × Bool)} (ho : l[i]?.map (fun o => (o.dst, o.op, o.guard)) = some (d, op, g)) : ∃ o, l.toArray[i]? = some o ∧ o.dst = d ∧ o.op = op ∧ o.guard = g ∧ dstOf l i = d := by
  obtain ⟨o, h1, h2⟩ := Option.map_eq_some_iff.1 ho
  simp only [Prod.mk.injEq] at h2
  exact ⟨o, by simpa using h1, h2.1, h2.2.1, h2.2.2, by unfold dstOf; rw [h1]; exact h2.1⟩
/-- The operation runs: it has no guard, or its guard says so. -/
def Runs (l : List Oper) (a : Act) (g : Option (Nat × Bool)) : Prop := g = none ∨ ∃ j want s, g = some (j, want) ∧ dstOf l j = some s ∧ Sv a s (.bool want)
theorem Runs.wanted {g : Option (Nat × Bool)} (h : Runs l a g) {o : Oper} (ho : o.guard = g) : Region.wanted o (yielded l.toArray a.tmps) = true := by
  rcases h with rfl | ⟨j, want, s, rfl, hs, hv⟩
  · simp [Region.wanted, ho]
  · rw [wanted_of (b := want) ho (by unfold dstOf at hs; simpa using hs) hv]
    cases want <;> rfl
theorem ob_val {g : Option (Nat × Bool)} (ho : l[i]?.map (fun o => (o.dst, o.op, o.guard)) = some (d, op, g)) (hg : Runs l a g)
    (hr : ∀ o : Oper, o.op = op → (execOp a.eval o).run P w = .ok (.value v) w') (h : K (a.put (dstOf l i) v) w') : wpOp P l.toArray Q i K a w := by
  obtain ⟨o, h1, h2, h3, h4, h5⟩ := ob_parts ho
  unfold wpOp
  rw [h1]
  simp only [hg.wanted h4, if_true]
  left
  show o.upon P a K Q ((execOp a.eval o).run P w)
  rw [hr o h3, Oper.upon_value, h2, ← h5]
  exact h
theorem ob_skip {g : Option (Nat × Bool)} (ho : l[i]?.map (fun o => (o.dst, o.op, o.guard)) = some (d, op, g)) (hg : Runs l a g)
    (hr : ∀ o : Oper, o.op = op → (execOp a.eval o).run P w = .ok .skip w') (h : K (a.put (dstOf l i) undef) w') : wpOp P l.toArray Q i K a w := by
  obtain ⟨o, h1, h2, h3, h4, h5⟩ := ob_parts ho
  unfold wpOp
  rw [h1]
  simp only [hg.wanted h4, if_true]
  left
  show o.upon P a K Q ((execOp a.eval o).run P w)
  rw [hr o h3, Oper.upon_skip, h2, ← h5]
  exact h
theorem ob_call {g : Option (Nat × Bool)} {f : FuncId} {args : Array Value} {R : Value → World → Prop} (ho : l[i]?.map (fun o => (o.dst, o.op, o.guard)) = some (d, op, g)) (hg : Runs l a g)
    (hr : ∀ o : Oper, o.op = op → (execOp a.eval o).run P w = .ok (.enter f args) w')
    (hc : Calls P f args w' fun e w'' => ∃ v, e = .returned v ∧ R v w'') (h : ∀ v w'', R v w'' → K (a.put (dstOf l i) v) w'') : wpOp P l.toArray Q i K a w := by
  obtain ⟨o, h1, h2, h3, h4, h5⟩ := ob_parts ho
  unfold wpOp
  rw [h1]
  simp only [hg.wanted h4, if_true]
  left
  show o.upon P a K Q ((execOp a.eval o).run P w)
  rw [hr o h3, Oper.upon_enter, h2, ← h5]
  refine hc.mono ?_
  rintro e w'' ⟨v, rfl, hv⟩
  exact h v w'' hv
end

section
variable {P : Program} {ρ : Operand → Value} {w : World} {x y : Operand} {t : TypeId}
theorem ev_pickT {c z : Operand} {v : Value} (hc : ρ c = .bool true) (hx : ρ x = v) (o : Oper) (ho : o.op = .pick c x z) : (execOp ρ o).run P w = .ok (.value v) w := by
  simp [execOp, ho, hc, hx, go_sem]
theorem ev_pickF {c z : Operand} {v : Value} (hc : ρ c = .bool false) (hz : ρ z = v) (o : Oper) (ho : o.op = .pick c x z) : (execOp ρ o).run P w = .ok (.value v) w := by
  simp [execOp, ho, hc, hz, go_sem]
theorem ev_ext {vs : Array Value} {k : Nat} {v : Value} (hx : ρ x = .tuple vs) (hk : vs[k]? = some v) (o : Oper) (ho : o.op = .extract x k) : (execOp ρ o).run P w = .ok (.value v) w := by
  have e : execOp ρ o = (do pure (.value (← Instr.extract (ρ x) k))) := by simp only [execOp, ho]
  rw [e, hx]
  simp [Instr.extract, hk]
theorem ev_row {g : Nat} {t' : TypeId} {cs : Array Value} {d : TypeDesc} {n : Nat} (hx : ρ x = .pointer (some ⟨g, 0, none⟩)) (hg : Bx w g t' cs) (hu : P.underlying t = some d) (hd : (match d with | .struct _ | .array _ _ => true | _ => false) = true) (hi : (P.info? t).map (·.size) = some n) (hn : cs.size = n) (o : Oper) (ho : o.op = .load t x) : (execOp ρ o).run P w = .ok (.value (.agg cs)) w := by
  have e : execOp ρ o = (do pure (.value (← Instr.loadAt t (ρ x)))) := by simp only [execOp, ho]
  subst hn
  rw [e, hx]
  simp [Instr.loadAt, Instr.sureAddr, run_loadVar_row w g t' t cs (0, 0) d hg hu hd hi]
theorem ev_srow {g : Nat} {t' : TypeId} {old cs : Array Value} {n : Nat} (hx : ρ x = .pointer (some ⟨g, 0, none⟩)) (hy : ρ y = .agg cs) (hg : Bx w g t' old) (hi : (P.info? t).map (·.size) = some n) (hn : cs.size = n) (ho' : old.size = n) (h1 : cs.all (·.oneCell') = true) (o : Oper) (ho : o.op = .store t x y) : (execOp ρ o).run P w = .ok .skip (w.setRow g cs) := by
  have e : execOp ρ o = (do Instr.storeAt t (ρ x) (ρ y); pure .skip) := by simp only [execOp, ho]
  subst hn
  rw [e, hx, hy]
  simp [Instr.storeAt, Instr.sureAddr, run_storeVar_row w g t' t old cs hg hi (by omega) h1]
end

/-! Words for the texts that a program prints. -/
def regIn : Code → Nat → Option (List Oper)
  | .region id ops _, n => if id = n then some ops.toList else none
  | .seq a b, n => match regIn a n with
    | some l => some l
    | none => regIn b n
  | .cond _ a b, n => match regIn a n with
    | some l => some l
    | none => regIn b n
  | .block _ c, n => regIn c n
  | .loop c, n => regIn c n
  | .scope c, n => regIn c n
  | _, _ => none
theorem mem_reach {l : List Oper} {i k : Nat} (h : (reachS l i).contains k = true) : k ∈ reachS l i := List.contains_iff_mem.1 h
theorem Sv.dst {a : Act} {l : List Oper} {i s : Nat} (hd : dstOf l i = some s) (hs : s < a.tmps.size) (v : Value) : Sv (a.put (dstOf l i) v) s v := by
  rw [hd]
  exact Sv.self hs v
theorem sv1 {a : Act} {s : Nat} {v : Value} (h : Sv a s v) : ∀ p ∈ [(s, v)], Sv a p.1 p.2 := by
  intro p hp
  cases List.mem_singleton.1 hp
  exact h
/-- A step of an operation: a store into a variable of type T; else nothing that was there changes. -/
def stpN (T : TypeId) (stores : List Nat) (i : Nat) (w w' : World) : Prop :=
  match stores.contains i with
  | true => ∃ B cs ds, Bx w B T cs ∧ ds.size = cs.size ∧ w' = w.setRow B ds
  | false => Below w.heap.size w w'
theorem stpN.own {T : TypeId} {stores : List Nat} {i : Nat} {w w' : World} (h : stpN T stores i w w') {base : Nat} {e : TypeId} {size : Nat} {v : Value} {n : Nat} {xs : List Value} (hT : T ≠ e) (ho : Own w base e size v n xs) : Own w' base e size v n xs := by
  unfold stpN at h
  split at h
  · obtain ⟨B, cs, ds, hb, _, rfl⟩ := h
    exact ho.rowT hb hT ds
  · exact ho.below h
theorem stpN.box {T : TypeId} {stores : List Nat} {i : Nat} {w w' : World} (h : stpN T stores i w w') {B n : Nat} (hb : ∃ cs, Bx w B T cs ∧ cs.size = n) : ∃ cs, Bx w' B T cs ∧ cs.size = n := by
  obtain ⟨cs, h1, h2⟩ := hb
  unfold stpN at h
  split at h
  · obtain ⟨B', cs', ds, hb', hs, rfl⟩ := h
    by_cases e : B = B'
    · subst e
      have := h1.symm.trans hb'
      injection this with this
      injection this with e1 _ _
      subst e1
      exact ⟨ds, hb'.row ds, by omega⟩
    · exact ⟨cs, h1.rowO e ds, h2⟩
  · exact ⟨cs, h1.below h, h2⟩
theorem stpN.low {T : TypeId} {stores : List Nat} {i : Nat} {w w' : World} (h : stpN T stores i w w') (hi : stores.contains i = false) : Below w.heap.size w w' := by
  unfold stpN at h
  rw [hi] at h
  exact h
theorem bel0 (w : World) : Below w.heap.size w w.drew := ⟨rfl, rfl, rfl, Nat.le_refl _, fun _ _ => rfl⟩
/-- The frame written out: the region's slots hold whatever they hold. -/
theorem Fr.lit {a0 a : Act} {l : List Oper} (h : Fr a0 l a) (ds : List Nat) (hds : ∀ s, s ∈ dstsOf l → ds.contains s = true) : ∃ f : Nat → Value, (∀ s v, Sv a s v → f s = v) ∧ a = ds.foldl (fun b d => b.put (some d) (f d)) a0 := by
  refine ⟨fun s => a.tmps.getD s undef, fun s v hv => (by show a.tmps.getD s undef = v; rw [Array.getD_eq_getD_getElem?, hv]; rfl), ?_⟩
  have hsz : ∀ (ds : List Nat) (b : Act), (ds.foldl (fun b d => b.put (some d) (a.tmps.getD d undef)) b).tmps.size = b.tmps.size := by
    intro ds
    induction ds with
    | nil => intro b; rfl
    | cons d ds ih => intro b; rw [List.foldl_cons, ih]; simp [Act.put]
  have hdf : ∀ (ds : List Nat) (b : Act), (ds.foldl (fun b d => b.put (some d) (a.tmps.getD d undef)) b).defers = b.defers := by
    intro ds
    induction ds with
    | nil => intro b; rfl
    | cons d ds ih => intro b; rw [List.foldl_cons, ih]; rfl
  have hat : ∀ (ds : List Nat) (b : Act) (s : Nat), s < b.tmps.size → (ds.foldl (fun b d => b.put (some d) (a.tmps.getD d undef)) b).tmps[s]? = if ds.contains s = true then some (a.tmps.getD s undef) else b.tmps[s]? := by
    intro ds
    induction ds with
    | nil => intro b s _; rfl
    | cons d ds ih =>
      intro b s hs
      rw [List.foldl_cons, ih _ s (by simpa [Act.put] using hs)]
      by_cases h1 : ds.contains s = true
      · rw [if_pos h1, if_pos (by rw [List.contains_cons, h1]; simp)]
      · rw [if_neg h1]
        show (b.tmps.setIfInBounds d (a.tmps.getD d undef))[s]? = _
        rw [Array.getElem?_setIfInBounds]
        by_cases h2 : d = s
        · subst h2
          rw [if_pos rfl, if_pos hs, if_pos (by simp)]
        · rw [if_neg h2, if_neg]
          rw [List.contains_cons]
          have : (s == d) = false := by simp; exact fun e => h2 e.symm
          rw [this]
          simpa using h1
  obtain ⟨ta, da⟩ := a
  have e1 := hsz ds a0
  have e2 := hdf ds a0
  have e3 := hat ds a0
  generalize ds.foldl (fun b d => b.put (some d) (ta.getD d undef)) a0 = b at *
  obtain ⟨tb, db⟩ := b
  have hd : da = db := by
    have h2 := h.2.1
    simp only at h2 e2
    rw [h2, e2]
  subst hd
  congr 1
  have h1 := h.1
  simp only at h1 e1 e3
  apply Array.ext_getElem?
  intro s
  by_cases hs : s < a0.tmps.size
  · rw [e3 s hs]
    by_cases hc : ds.contains s = true
    · rw [if_pos hc, Array.getD_eq_getD_getElem?, Array.getElem?_eq_getElem (by omega)]
      rfl
    · rw [if_neg hc]
      exact h.2.2 s (fun hm => hc (hds s hm))
  · rw [Array.getElem?_eq_none (by omega), Array.getElem?_eq_none (by omega)]
theorem dsts_in {l : List Oper} {ds : List Nat} (h : (dstsOf l).all (ds.contains ·) = true) : ∀ s, s ∈ dstsOf l → ds.contains s = true := by
  intro s hs
  rw [List.all_eq_true] at h
  exact h s hs
end Go.Proofs.Ytpoilgfblhacaaa
