/- The laws of pool: SamePool, OwnPool, free, frames; the program's Left and Home. -/
import Derived.Test.YtoimmfcodflmkaaDoorT8
import Derived.Test.YtoimmfcodflmkaaDoorTE
import Derived.Test.YtoimmfcodflmkaaDoorS1
namespace Go.Proofs.YtoimmfcodflmkaaDoor
open Go.RowKit
set_option linter.unusedVariables false

theorem below_dN {B : Nat} {w w' : World} (h : Below B w w') (k : Nat) : Below B w (w'.drewN k) := ⟨h.os, h.tape, h.output, h.size, h.block⟩
theorem gi_bx {w : World} {B : Nat} {t : TypeId} {cs : Array Value} {xs : List Int} (h : Bx w B t cs) (hc : cs = (iv xs).toArray) (hl : xs.length ≤ maxLen) : GI w (some ⟨B, 0, none⟩) xs.length xs := by
  subst hc
  refine ⟨Nat.le_refl _, hl, by rw [iv_len]; omega, fun _ => ⟨_, rfl, h.lt, fun j u hu => ?_⟩⟩
  rw [mk_add, Nat.zero_add, h.cell j]
  simpa using hu

set_option maxHeartbeats 1000000 in
theorem SamePool_yes (s : Int) (A : Option Addr) (c : Nat) (xs : List Int) (A2 : Option Addr) (c2 : Nat) (w : World) (ha : GI w A c xs) (hb : GI w A2 c2 xs) :
    Calls Tryd.prog 13 #[.agg #[.int .i64 s, .slice A xs.length c], .agg #[.int .i64 s, .slice A2 xs.length c2]] w (RetB w (.returned (.bool true))) := by
  have hw := below_step (al w (.cells #[.int .i64 s, .slice A xs.length c] 24)) (al _ (.cells #[.int .i64 s, .slice A2 xs.length c2] 24))
  have ha1 := ha.below hw
  have hb1 := hb.below hw
  have HS := Lib.hid (fun W (h1 : GI W A c xs) (h2 : GI W A2 c2 xs) => sameInts_yes A A2 c c2 xs W h1 h2)
  have e1 : (s == s) = true := by simp
  clear ha hb
  go_enter Tryd.func13, Tryd.ntmps13
  go_wp2_with (first | (go_at_call 28; refine (HS.out _ ha1 hb1).mono ?_; rintro e w' ⟨rfl, kk, rfl⟩))
  go_ret
  exact ⟨rfl, below_dN hw kk⟩

theorem freeL_any (A : Option Addr) (n c : Nat) (w : World) :
    Calls Tryd.prog 29 #[.slice A n c] w (RetB w (.returned (.agg #[.int .i64 3, .slice A n c]))) := by
  have hz := Bx.new w 24 #[.int .i64 0, .slice none 0 0]
  have hw := al w (.cells #[.int .i64 0, .slice none 0 0] 24)
  go_enter Tryd.func29, Tryd.ntmps29
  go_wp2_with (first | (refine wpList_store_row rfl 24 _ _ rfl w.heap.size _ rfl rfl 24 _ hz pool_size rfl (pv_one _ _ _ _) ?_))
  refine bodyPost_ret (results_cell_row rfl _ _ w.heap.size 24 _ (0, 0) _ rfl (hz.row _) Tryd.underlying24 rfl pool_size) rfl ⟨rfl, ?_⟩
  exact below_setRow hw (Nat.le_refl _) _
end Go.Proofs.YtoimmfcodflmkaaDoor
