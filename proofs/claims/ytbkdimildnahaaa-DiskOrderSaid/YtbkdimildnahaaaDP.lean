/- The disk in plain Lean. No function of the program is walked here. -/
import Derived.Test.YtbkdimildnahaaaDY
namespace Go.Proofs.Ytbkdimildnahaaa
open Go.RowKit
set_option linter.unusedVariables false
set_option linter.unusedSimpArgs false

/-- A device. -/
structure Dk where
  cs : List Ct
  js : List Jb
  room : Int
deriving DecidableEq
def Dk.nil : Dk := ⟨[], [], 0⟩
/-- Is there this slot, and may a frame have this number? -/
def inR (n : Nat) (s f : Int) : Bool := decide (0 ≤ s) && (decide (s < n) && (decide (0 ≤ f) && decide (f < 256)))
def inS (n : Nat) (s : Int) : Bool := decide (0 ≤ s) && decide (s < n)
def inF (f : Int) : Bool := decide (0 ≤ f) && decide (f < 256)
theorem inR_eq (n : Nat) (s f : Int) : inR n s f = (inS n s && inF f) := by simp [inR, inS, inF, Bool.and_assoc]
/-- Is a slot or a frame taken by a job before the k-th? -/
def hits (x i : Jb) : Bool := i.slot == x.slot || i.frame == x.frame
def clash (js : List Jb) (k : Nat) (x : Jb) : Bool := (js.take k).any (hits x)
def clean (x : Jb) : Bool := x.wr || x.data == Ct.zero
def ckJ (n : Nat) (js : List Jb) (k : Nat) : Nat → Int × Int
  | 0 => (0, 0)
  | m + 1 => match js[k]? with
    | none => (0, 0)
    | some x => if inR n x.slot x.frame = false then (2, (k : Int)) else if clash js k x = true then (10, (k : Int)) else if clean x = false then (3, (k : Int)) else ckJ n js (k + 1) m
theorem ckJ_step {n : Nat} {js : List Jb} {k l : Nat} {x : Jb} (h : js[k]? = some x) (hk : k < l) : ckJ n js k (l - k) = if inR n x.slot x.frame = false then (2, (k : Int)) else if clash js k x = true then (10, (k : Int)) else if clean x = false then (3, (k : Int)) else ckJ n js (k + 1) (l - (k + 1)) := by
  rw [show l - k = (l - (k + 1)) + 1 by omega]
  show (match js[k]? with | none => _ | some x => _) = _
  rw [h]
def chk (d : Dk) : Int × Int :=
  if d.cs.length < 1 ∨ 256 < d.cs.length ∨ d.room < 1 ∨ 32 < d.room then (2, 0) else if d.room < d.js.length then (5, 0) else ckJ d.cs.length d.js 0 d.js.length
/-- A device without an error. -/
structure OkD (d : Dk) : Prop where
  lo : 1 ≤ d.cs.length
  hi : d.cs.length ≤ 256
  rlo : 1 ≤ d.room
  rhi : d.room ≤ 32
  fit : (d.js.length : Int) ≤ d.room
  inr : ∀ (k : Nat) (x : Jb), d.js[k]? = some x → inR d.cs.length x.slot x.frame = true
  apart : ∀ (k : Nat) (x : Jb), d.js[k]? = some x → clash d.js k x = false
  cln : ∀ (k : Nat) (x : Jb), d.js[k]? = some x → clean x = true
theorem ckJ_ok {n : Nat} {js : List Jb} : ∀ (m k : Nat), k + m = js.length → (ckJ n js k m).1 = 0 → ∀ i x, k ≤ i → js[i]? = some x → inR n x.slot x.frame = true ∧ clash js i x = false ∧ clean x = true
  | 0, k, hk, _, i, x, hi, hx => by have := (List.getElem?_eq_some_iff.1 hx).1; omega
  | m + 1, k, hk, h, i, x, hi, hx => by
    have hkl : k < js.length := by omega
    obtain ⟨y, hy⟩ : ∃ y, js[k]? = some y := ⟨_, List.getElem?_eq_getElem hkl⟩
    have e := ckJ_step (n := n) (l := js.length) hy hkl
    rw [show js.length - k = m + 1 by omega, show js.length - (k + 1) = m by omega] at e
    rw [e] at h
    cases h1 : inR n y.slot y.frame
    · rw [h1] at h; simp at h
    · cases h2 : clash js k y
      · cases h3 : clean y
        · rw [h1, h2, h3] at h; simp at h
        · rw [h1, h2, h3] at h
          simp only [Bool.true_eq_false, Bool.false_eq_true, if_false] at h
          by_cases he : i = k
          · subst he
            rw [hy] at hx
            injection hx with hx
            subst hx
            exact ⟨h1, h2, h3⟩
          · exact ckJ_ok m (k + 1) (by omega) h i x (by omega) hx
      · rw [h1, h2] at h; simp at h
theorem chk_ok {d : Dk} (h : (chk d).1 = 0) : OkD d := by
  unfold chk at h
  split at h
  · simp at h
  · rename_i h1
    split at h
    · simp at h
    · rename_i h2
      have := ckJ_ok d.js.length 0 (by omega) h
      exact ⟨by omega, by omega, by omega, by omega, by omega, fun k x hx => (this k x (by omega) hx).1, fun k x hx => (this k x (by omega) hx).2.1, fun k x hx => (this k x (by omega) hx).2.2⟩
theorem ckJ_of {n : Nat} {js : List Jb} (hi : ∀ (k : Nat) (x : Jb), js[k]? = some x → inR n x.slot x.frame = true ∧ clash js k x = false ∧ clean x = true) : ∀ (m k : Nat), ckJ n js k m = (0, 0)
  | 0, k => rfl
  | m + 1, k => by
    show (match js[k]? with | none => _ | some x => _) = _
    cases h : js[k]? with
    | none => rfl
    | some x =>
      obtain ⟨h1, h2, h3⟩ := hi k x h
      simp only [h1, h2, h3, Bool.true_eq_false, Bool.false_eq_true, if_false]
      exact ckJ_of hi m (k + 1)
theorem chk_of {d : Dk} (h : OkD d) : chk d = (0, 0) := by
  unfold chk
  have h1 := h.lo
  have h2 := h.hi
  have h3 := h.rlo
  have h4 := h.rhi
  have h5 := h.fit
  rw [if_neg (by omega), if_neg (by omega)]
  exact ckJ_of (fun k x hx => ⟨h.inr k x hx, h.apart k x hx, h.cln k x hx⟩) _ _

def lft (d : Dk) : Int × Int := if (chk d).1 = 0 then (d.room - d.js.length, 0) else (0, (chk d).1)
def nw (s r : Int) : Dk × Int := if s < 1 ∨ 256 < s ∨ r < 1 ∨ 32 < r then (Dk.nil, 2) else (⟨List.replicate s.toNat Ct.zero, [], r⟩, 0)
/-- A device with a job more. -/
def sub (d : Dk) (x : Jb) : Dk × Int :=
  if (chk d).1 = 0 then
    if inR d.cs.length x.slot x.frame = false then (Dk.nil, 2)
    else if d.js.any (hits x) = true then (Dk.nil, 10)
    else if d.room ≤ d.js.length then (Dk.nil, 5)
    else (⟨d.cs, d.js ++ [x], d.room⟩, 0)
  else (Dk.nil, (chk d).1)
/-- The device and the job after the k-th job completes. -/
def com (d : Dk) (k : Nat) : Dk × Jb :=
  match d.js[k]? with
  | none => (d, Jb.zero)
  | some x => if x.wr = true then (⟨d.cs.set x.slot.toNat x.data, d.js.eraseIdx k, d.room⟩, x) else (⟨d.cs, d.js.eraseIdx k, d.room⟩, ⟨false, x.slot, x.frame, d.cs[x.slot.toNat]?.getD Ct.zero⟩)
def cmp (d : Dk) (i : Int) : Dk × Jb × Int :=
  if (chk d).1 = 0 then (if i < 0 ∨ d.js.length ≤ i then (Dk.nil, Jb.zero, 6) else ((com d i.toNat).1, (com d i.toNat).2, 0)) else (Dk.nil, Jb.zero, (chk d).1)
def allJ : Nat → Dk → List Jb → Dk × List Jb
  | 0, d, l => (d, l)
  | n + 1, d, l => match d.js with
    | [] => (d, l)
    | _ :: _ => allJ n (com d 0).1 (l ++ [(com d 0).2])
def all (d : Dk) : Dk × List Jb × Int := if (chk d).1 = 0 then ((allJ d.js.length d []).1, (allJ d.js.length d []).2, 0) else (Dk.nil, [], (chk d).1)
/-- The number of the job of a slot. -/
def fdJ (js : List Jb) (s : Int) : Option Nat := js.findIdx? fun x => x.slot == s
def fnd (d : Dk) (s : Int) : Int × Int :=
  if (chk d).1 = 0 then (if inS d.cs.length s = false then (0, 2) else match fdJ d.js s with | some k => ((k : Int), 0) | none => (0, 6)) else (0, (chk d).1)
def ltc (d : Dk) (s : Int) : Ct :=
  match fdJ d.js s with
  | some k => match d.js[k]? with
    | some x => if x.wr = true then x.data else d.cs[s.toNat]?.getD Ct.zero
    | none => d.cs[s.toNat]?.getD Ct.zero
  | none => d.cs[s.toNat]?.getD Ct.zero
def lat (d : Dk) (s : Int) : Ct × Int :=
  if (chk d).1 = 0 then (if inS d.cs.length s = false then (Ct.zero, 2) else (ltc d s, 0)) else (Ct.zero, (chk d).1)

/-! What calls return. -/
/-- A device and an error. -/
def RetD (w : World) (r : Dk × Int) (e : Ending) (w' : World) : Prop :=
  ∃ A1 c1 A2 c2, e = .returned (.tuple #[.agg #[.slice A1 r.1.cs.length c1, .slice A2 r.1.js.length c2, .int .i64 r.1.room], .int .i64 r.2]) ∧ OwC w' w.heap.size A1 r.1.cs.length c1 r.1.cs ∧ OwJ w' w.heap.size A2 r.1.js.length c2 r.1.js ∧ Below w.heap.size w w'
/-- A device. -/
def RetD0 (w : World) (d : Dk) (e : Ending) (w' : World) : Prop :=
  ∃ A1 c1 A2 c2, e = .returned (.agg #[.slice A1 d.cs.length c1, .slice A2 d.js.length c2, .int .i64 d.room]) ∧ OwC w' w.heap.size A1 d.cs.length c1 d.cs ∧ OwJ w' w.heap.size A2 d.js.length c2 d.js ∧ Below w.heap.size w w'
/-- A device, a job and an error. -/
def RetDJ (w : World) (r : Dk × Jb × Int) (e : Ending) (w' : World) : Prop :=
  ∃ A1 c1 A2 c2, e = .returned (.tuple #[.agg #[.slice A1 r.1.cs.length c1, .slice A2 r.1.js.length c2, .int .i64 r.1.room], .agg r.2.1.va, .int .i64 r.2.2]) ∧ OwC w' w.heap.size A1 r.1.cs.length c1 r.1.cs ∧ OwJ w' w.heap.size A2 r.1.js.length c2 r.1.js ∧ Below w.heap.size w w'
/-- A device, a list of jobs and an error. -/
def RetDL (w : World) (r : Dk × List Jb × Int) (e : Ending) (w' : World) : Prop :=
  ∃ A1 c1 A2 c2 A3 c3, e = .returned (.tuple #[.agg #[.slice A1 r.1.cs.length c1, .slice A2 r.1.js.length c2, .int .i64 r.1.room], .slice A3 r.2.1.length c3, .int .i64 r.2.2]) ∧ OwC w' w.heap.size A1 r.1.cs.length c1 r.1.cs ∧ OwJ w' w.heap.size A2 r.1.js.length c2 r.1.js ∧ OwJ w' w.heap.size A3 r.2.1.length c3 r.2.1 ∧ Below w.heap.size w w'
theorem OwC.nil (w : World) (base : Nat) : OwC w base none 0 0 [] := ⟨rfl, Own.nil w base _ 8⟩
theorem OwJ.nil (w : World) (base : Nat) : OwJ w base none 0 0 [] := ⟨rfl, Own.nil w base _ 11⟩
theorem OwC.gr {w : World} {base : Nat} {A : Option Addr} {n c : Nat} {xs : List Ct} (h : OwC w base A n c xs) : GR 8 Ct.va w A c xs := OwnR.gr (e := 28) (m := n) h
theorem OwJ.gr {w : World} {base : Nat} {A : Option Addr} {n c : Nat} {xs : List Jb} (h : OwJ w base A n c xs) : GR 11 Jb.va w A c xs := OwnR.gr (e := 38) (m := n) h
theorem ret2 {a b c d : Int} (h : (a, b) = (c, d)) : Ending.returned (.tuple #[.int .i64 a, .int .i64 b]) = .returned (.tuple #[.int .i64 c, .int .i64 d]) := by
  injection h with h1 h2; rw [h1, h2]
end Go.Proofs.Ytbkdimildnahaaa
