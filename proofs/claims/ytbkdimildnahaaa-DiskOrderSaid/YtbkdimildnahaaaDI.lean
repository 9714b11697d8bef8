/- Package disk: complete. -/
import Derived.Test.YtbkdimildnahaaaDH
namespace Go.Proofs.Ytbkdimildnahaaa
open Go.RowKit
set_option linter.unusedVariables false
set_option maxRecDepth 100000

/-- A store of a job's data. -/
theorem ev_spart {ρ : Operand → Value} {w : World} {x y : Operand} {B : Nat} {t' : TypeId} {j : Jb} {c : Ct} (hx : ρ x = .pointer (some ⟨B, 3, none⟩)) (hy : ρ y = .agg c.va) (hb : Bx w B t' j.va) :
    ∃ w', (∀ o : Oper, o.op = .store 28 x y → (execOp ρ o).run Try.prog w = .ok .skip w') ∧ Bx w' B t' (Jb.va ⟨j.wr, j.slot, j.frame, c⟩) ∧ w.grownBy w' (some B) := by
  have hst := run_storeCells_at Try.prog B 3 t' c.va.toList 0 j.va w hb (by simp [Jb.va, Ct.va]) (by intro u hu; have := ct_one c; rw [Array.all_eq_true_iff_forall_mem] at this; exact this u (by simpa using hu))
  have hsz : (Try.prog.info? 28).map (·.size) = some 8 := by kernel_rfl
  obtain ⟨ii, hi1, hi2⟩ := Option.map_eq_some_iff.1 hsz
  have hcz : (Value.agg c.va).cells = c.va := rfl
  have h8 : c.va.size = 8 := rfl
  refine ⟨w.setRow B (Jb.va ⟨j.wr, j.slot, j.frame, c⟩), fun o ho => ?_, hb.row _, grw hb _⟩
  have e : (j.va.toList.take (3 + 0) ++ c.va.toList ++ j.va.toList.drop (3 + 0 + c.va.toList.length)).toArray = Jb.va ⟨j.wr, j.slot, j.frame, c⟩ := by simp [Jb.va, Ct.va]
  rw [e] at hst
  simp [execOp, ho, hx, hy, Instr.storeAt, Instr.sureAddr, storeVar, sizeOf, typeInfo, hi1, hi2, hcz, h8, hst]
def RetCp (w : World) (Bd base : Nat) (A1 : Option Addr) (c1 n1 : Nat) (d : Dk × Jb) (e : Ending) (w' : World) : Prop :=
  ∃ A2 c2, e = .returned (.agg d.2.va) ∧ Bx w' Bd 25 #[.slice A1 n1 c1, .slice A2 d.1.js.length c2, .int .i64 d.1.room] ∧ Own w' base 28 8 (.slice A1 n1 c1) n1 (flat Ct.va d.1.cs) ∧ Own w' w.heap.size 38 11 (.slice A2 d.1.js.length c2) d.1.js.length (flat Jb.va d.1.js) ∧ G2 w w' Bd (.slice A1 n1 c1)

set_option maxHeartbeats 8000000 in
theorem complete_at (g1 off1 : Nat) (Bd : Nat) (c1 : Nat) (A2 : Option Addr) (c2 : Nat) (cs : List Ct) (js : List Jb) (room : Int) (i base base2 : Nat) (x : Jb) (w : World) (hx : Bx w Bd 25 #[.slice (some ⟨g1, off1, none⟩) cs.length c1, .slice A2 js.length c2, .int .i64 room]) (h1 : Own w base 28 8 (.slice (some ⟨g1, off1, none⟩) cs.length c1) cs.length (flat Ct.va cs)) (h2 : Own w base2 38 11 (.slice A2 js.length c2) js.length (flat Jb.va js)) (hxi : js[i]? = some x) (hs0 : 0 ≤ x.slot) (hs1 : x.slot < cs.length) (hl : cs.length ≤ 900000) (hj : js.length ≤ 900000) : Calls Try.prog 41 #[.pointer (some ⟨Bd, 0, none⟩), .int .i64 (i : Int)] w (RetCp w Bd base (some ⟨g1, off1, none⟩) c1 cs.length (com ⟨cs, js, room⟩ i)) := by
  have hh1 := Own.hi h1
  have hh2 := Own.hi h2
  have hi : i < js.length := (List.getElem?_eq_some_iff.1 hxi).1
  have hlB := hx.lt
  obtain ⟨ad2, hAd2⟩ := GR.adr (OwnR.gr (e := 38) ⟨rfl, h2⟩) jb_sz hxi
  have hbel0 := G2.refl w Bd (.slice (some ⟨g1, off1, none⟩) cs.length c1)
  refine sx_enter (N := 46) [(0, .pointer (some ⟨Bd, 0, none⟩)), (1, .int .i64 (i : Int))] Try.func41 rfl Try.ntmps41 (by simp) (fun a z d s => (((Ag.nil z d).cons (s 1 _ rfl)).cons (s 0 _ rfl))) ?_
  intro a0 hA0
  refine wp_seq ?_
  refine wp_region_lit ?_
  refine sx_new (cs := Jb.zero.va) (t := 38) hA0 rfl (by decide) (.inl rfl) (ev_alloc (z := .agg Jb.zero.va) (by kernel_rfl) (by kernel_rfl) _ rfl) ?_
  intro B1 w1 a1 hB1 hx1 hg1 hA1
  clear hA0
  have hs1 := hg1.size
  have hl1 := hx1.lt
  refine sx_nil ?_
  refine then_n ?_
  refine wp_seq ?_
  refine wp_region_lit ?_
  refine sx_new (cs := Jb.zero.va) (t := 38) hA1 rfl (by decide) (.inl rfl) (ev_alloc (z := .agg Jb.zero.va) (by kernel_rfl) (by kernel_rfl) _ rfl) ?_
  intro B2 w2 a2 hB2 hx2 hg2 hA2
  clear hA1
  have hs2 := hg2.size
  have hl2 := hx2.lt
  refine sx_nil ?_
  refine then_n ?_
  refine wp_seq ?_
  have hx_3 := hx.gN hg1
  have hx_4 := hx_3.gN hg2
  have hx1_5 := hx1.gN hg2
  have h1_6 := Own.gN h1 hg1
  have h1_7 := Own.gN h1_6 hg2
  have h2_8 := Own.gN h2 hg1
  have h2_9 := Own.gN h2_8 hg2
  have hbel0_10 := hbel0.gN hg1
  have hbel0_11 := hbel0_10.gN hg2
  refine region_D (n := 21) (by kernel_rfl) (by kernel_rfl) rfl (fun L ac wc => ∃ Aq12r2 : Option Addr, ∃ cq12r2 : Nat, ∃ Ax16r2 : Option Addr, ∃ cx16r2 : Nat, G2 w wc Bd (.slice (some ⟨g1, off1, none⟩) cs.length c1) ∧ w2.heap.size ≤ wc.heap.size ∧ Bx wc Bd 25 (bif L 20 then (#[.slice (some ⟨g1, off1, none⟩) cs.length c1, .slice Ax16r2 (js.eraseIdx i).length cx16r2, .int .i64 room]) else (#[.slice (some ⟨g1, off1, none⟩) cs.length c1, .slice A2 js.length c2, .int .i64 room])) ∧ Bx wc B1 38 Jb.zero.va ∧ Bx wc B2 38 (bif L 17 then x.va else Jb.zero.va) ∧ Own wc (base) 28 8 (.slice (some ⟨g1, off1, none⟩) cs.length c1) cs.length (flat Ct.va cs) ∧ Own wc (base2) 38 11 (.slice A2 js.length c2) js.length (flat Jb.va js) ∧ (L 12 = true → L 16 = false → Own wc w2.heap.size 38 11 (.slice Aq12r2 js.length cq12r2) js.length (flat Jb.va js)) ∧ (L 16 = true → Own wc w2.heap.size 38 11 (.slice Ax16r2 (js.eraseIdx i).length cx16r2) (js.eraseIdx i).length (flat Jb.va (js.eraseIdx i))) ∧ (L 20 = true → L 4 = true) ∧ (L 20 = true → L 11 = true) ∧ (L 12 = true → L 11 = true) ∧ (L 16 = true → L 11 = true) ∧ (L 20 = true → L 16 = true) ∧ (L 0 = true → Sv ac 6 (.pointer (some ⟨Bd, 0, none⟩))) ∧ (L 1 = true → Sv ac 7 (.pointer (some ⟨Bd, 0, none⟩))) ∧ (L 2 = true → Sv ac 8 (.pointer (some ⟨Bd, 0, none⟩))) ∧ (L 3 = true → Sv ac 9 (.pointer (some ⟨Bd, 1, none⟩))) ∧ (L 4 = true → Sv ac 10 (.slice A2 js.length c2)) ∧ (L 5 = true → Sv ac 11 (.int .i64 (i : Int))) ∧ (L 6 = true → Sv ac 12 (.pointer (some (ad2.add (i * 11))))) ∧ (L 7 = true → Sv ac 13 (.agg x.va)) ∧ (L 8 = true → Sv ac 14 (.pointer (some ⟨Bd, 0, none⟩))) ∧ (L 9 = true → Sv ac 15 (.pointer (some ⟨Bd, 0, none⟩))) ∧ (L 10 = true → Sv ac 16 (.pointer (some ⟨Bd, 1, none⟩))) ∧ (L 11 = true → Sv ac 17 (.slice A2 js.length c2)) ∧ (L 12 = true → Sv ac 18 (.slice Aq12r2 js.length cq12r2)) ∧ (L 13 = true → Sv ac 19 (.int .i64 (i : Int))) ∧ (L 14 = true → Sv ac 20 (.int .i64 (i : Int))) ∧ (L 15 = true → Sv ac 21 (.int .i64 ((i + 1 : Nat) : Int))) ∧ (L 16 = true → Sv ac 22 (.slice Ax16r2 (js.eraseIdx i).length cx16r2)) ∧ (L 18 = true → Sv ac 23 (.pointer (some ⟨Bd, 0, none⟩))) ∧ (L 19 = true → Sv ac 24 (.pointer (some ⟨Bd, 1, none⟩)))) ⟨none, 0, none, 0, (hbel0_11.gN (gdr _)), (Nat.le_refl _), (hx_4.gN (gdr _)), (hx1_5.gN (gdr _)), (hx2.gN (gdr _)), (Own.gN h1_7 (gdr _)), (Own.gN h2_9 (gdr _)), (fun h => by cases h), (fun h => by cases h), (fun h => by cases h), (fun h => by cases h), (fun h => by cases h), (fun h => by cases h), (fun h => by cases h), (fun h => by cases h), (fun h => by cases h), (fun h => by cases h), (fun h => by cases h), (fun h => by cases h), (fun h => by cases h), (fun h => by cases h), (fun h => by cases h), (fun h => by cases h), (fun h => by cases h), (fun h => by cases h), (fun h => by cases h), (fun h => by cases h), (fun h => by cases h), (fun h => by cases h), (fun h => by cases h), (fun h => by cases h), (fun h => by cases h), (fun h => by cases h)⟩ ?_ ?_
  · intro iq hiq o ho L hL hdep ac wc hF hJ
    obtain ⟨Aq12r2, cq12r2, Ax16r2, cx16r2, bl, sz, b_Bd, b_B1, b_B2, p_0, p_1, o_12_0, o_16_0, cl_20_4, cl_20_11, cl_12_11, cl_16_11, cl_20_16, s_6, s_7, s_8, s_9, s_10, s_11, s_12, s_13, s_14, s_15, s_16, s_17, s_18, s_19, s_20, s_21, s_22, s_23, s_24⟩ := hJ
    have z := hF.1.trans hA2.1
    match iq, hiq with
    | 0, _ =>
      obtain rfl := Option.some.inj (show some _ = some o from ho); clear ho
      have v0 := hF.sv (s := 0) (by kernel_rfl) (hA2.get (i := 0) (v := .pointer (some ⟨Bd, 0, none⟩)))
      refine dj_val (i := 0) (v := .pointer (some ⟨Bd, 0, none⟩)) rfl (.inl rfl) (ev_move v0.eval _ rfl) ?_
      exact ⟨⟨_, rfl⟩, Aq12r2, cq12r2, Ax16r2, cx16r2, bl, sz, b_Bd, b_B1, b_B2, p_0, p_1, o_12_0, o_16_0, cl_20_4, cl_20_11, cl_12_11, cl_16_11, cl_20_16, (fun _ => Sv.self (by rw [z]; decide) _), (so s_7), (so s_8), (so s_9), (so s_10), (so s_11), (so s_12), (so s_13), (so s_14), (so s_15), (so s_16), (so s_17), (so s_18), (so s_19), (so s_20), (so s_21), (so s_22), (so s_23), (so s_24)⟩
    | 1, _ =>
      obtain rfl := Option.some.inj (show some _ = some o from ho); clear ho
      have v0 := hF.sv (s := 0) (by kernel_rfl) (hA2.get (i := 0) (v := .pointer (some ⟨Bd, 0, none⟩)))
      refine dj_val (i := 1) (v := .pointer (some ⟨Bd, 0, none⟩)) rfl (.inl rfl) (ev_move v0.eval _ rfl) ?_
      exact ⟨⟨_, rfl⟩, Aq12r2, cq12r2, Ax16r2, cx16r2, bl, sz, b_Bd, b_B1, b_B2, p_0, p_1, o_12_0, o_16_0, cl_20_4, cl_20_11, cl_12_11, cl_16_11, cl_20_16, (so s_6), (fun _ => Sv.self (by rw [z]; decide) _), (so s_8), (so s_9), (so s_10), (so s_11), (so s_12), (so s_13), (so s_14), (so s_15), (so s_16), (so s_17), (so s_18), (so s_19), (so s_20), (so s_21), (so s_22), (so s_23), (so s_24)⟩
    | 2, _ =>
      obtain rfl := Option.some.inj (show some _ = some o from ho); clear ho
      have v7 := s_7 (dp hdep 1)
      refine dj_val (i := 2) (v := .pointer (some ⟨Bd, 0, none⟩)) rfl (.inl rfl) (ev_nilCheck v7.eval _ rfl) ?_
      exact ⟨⟨_, rfl⟩, Aq12r2, cq12r2, Ax16r2, cx16r2, bl, sz, b_Bd, b_B1, b_B2, p_0, p_1, o_12_0, o_16_0, cl_20_4, cl_20_11, cl_12_11, cl_16_11, cl_20_16, (so s_6), (so s_7), (fun _ => Sv.self (by rw [z]; decide) _), (so s_9), (so s_10), (so s_11), (so s_12), (so s_13), (so s_14), (so s_15), (so s_16), (so s_17), (so s_18), (so s_19), (so s_20), (so s_21), (so s_22), (so s_23), (so s_24)⟩
    | 3, _ =>
      obtain rfl := Option.some.inj (show some _ = some o from ho); clear ho
      have v8 := s_8 (dp hdep 2)
      refine dj_val (i := 3) (v := .pointer (some ⟨Bd, 1, none⟩)) rfl (.inl rfl) (fb_Disk_1 v8.eval _ rfl) ?_
      exact ⟨⟨_, rfl⟩, Aq12r2, cq12r2, Ax16r2, cx16r2, bl, sz, b_Bd, b_B1, b_B2, p_0, p_1, o_12_0, o_16_0, cl_20_4, cl_20_11, cl_12_11, cl_16_11, cl_20_16, (so s_6), (so s_7), (so s_8), (fun _ => Sv.self (by rw [z]; decide) _), (so s_10), (so s_11), (so s_12), (so s_13), (so s_14), (so s_15), (so s_16), (so s_17), (so s_18), (so s_19), (so s_20), (so s_21), (so s_22), (so s_23), (so s_24)⟩
    | 4, _ =>
      obtain rfl := Option.some.inj (show some _ = some o from ho); clear ho
      have v9 := s_9 (dp hdep 3)
      have eBd : L 20 = false := by
          cases hc : L 20
          · rfl
          · exact absurd (cl_20_4 hc) (by rw [hL]; decide)
      have yBd := b_Bd
      rw [eBd] at yBd
      refine dj_val (i := 4) (v := .slice A2 js.length c2) rfl (.inl rfl) (ev_cell (v := .slice A2 js.length c2) v9.eval ((yBd.cell 1).trans rfl) Try.underlying23 rfl _ rfl) ?_
      exact ⟨⟨_, rfl⟩, Aq12r2, cq12r2, Ax16r2, cx16r2, bl, sz, b_Bd, b_B1, b_B2, p_0, p_1, o_12_0, o_16_0, (fun _ => rfl), cl_20_11, cl_12_11, cl_16_11, cl_20_16, (so s_6), (so s_7), (so s_8), (so s_9), (fun _ => Sv.self (by rw [z]; decide) _), (so s_11), (so s_12), (so s_13), (so s_14), (so s_15), (so s_16), (so s_17), (so s_18), (so s_19), (so s_20), (so s_21), (so s_22), (so s_23), (so s_24)⟩
    | 5, _ =>
      obtain rfl := Option.some.inj (show some _ = some o from ho); clear ho
      have v1 := hF.sv (s := 1) (by kernel_rfl) (hA2.get (i := 1) (v := .int .i64 (i : Int)))
      refine dj_val (i := 5) (v := .int .i64 (i : Int)) rfl (.inl rfl) (ev_move v1.eval _ rfl) ?_
      exact ⟨⟨_, rfl⟩, Aq12r2, cq12r2, Ax16r2, cx16r2, bl, sz, b_Bd, b_B1, b_B2, p_0, p_1, o_12_0, o_16_0, cl_20_4, cl_20_11, cl_12_11, cl_16_11, cl_20_16, (so s_6), (so s_7), (so s_8), (so s_9), (so s_10), (fun _ => Sv.self (by rw [z]; decide) _), (so s_12), (so s_13), (so s_14), (so s_15), (so s_16), (so s_17), (so s_18), (so s_19), (so s_20), (so s_21), (so s_22), (so s_23), (so s_24)⟩
    | 6, _ =>
      obtain rfl := Option.some.inj (show some _ = some o from ho); clear ho
      have v10 := s_10 (dp hdep 4)
      have v11 := s_11 (dp hdep 5)
      refine dj_val (i := 6) (v := .pointer (some (ad2.add (i * 11)))) rfl (.inl rfl) (ev_idx (k := i) v10.eval hAd2 v11.eval rfl hi Try.underlying23 (by kernel_rfl) _ rfl) ?_
      exact ⟨⟨_, rfl⟩, Aq12r2, cq12r2, Ax16r2, cx16r2, bl, sz, b_Bd, b_B1, b_B2, p_0, p_1, o_12_0, o_16_0, cl_20_4, cl_20_11, cl_12_11, cl_16_11, cl_20_16, (so s_6), (so s_7), (so s_8), (so s_9), (so s_10), (so s_11), (fun _ => Sv.self (by rw [z]; decide) _), (so s_13), (so s_14), (so s_15), (so s_16), (so s_17), (so s_18), (so s_19), (so s_20), (so s_21), (so s_22), (so s_23), (so s_24)⟩
    | 7, _ =>
      obtain rfl := Option.some.inj (show some _ = some o from ho); clear ho
      have v12 := s_12 (dp hdep 6)
      refine dj_val (i := 7) (v := .agg x.va) rfl (.inl rfl) (ev_loadR (cs := x.va) (n := 11) v12.eval (GR.cel (OwnR.gr (e := 38) ⟨rfl, p_1⟩) hAd2 jb_sz hxi) Try.underlying38 rfl (by kernel_rfl) rfl _ rfl) ?_
      exact ⟨⟨_, rfl⟩, Aq12r2, cq12r2, Ax16r2, cx16r2, bl, sz, b_Bd, b_B1, b_B2, p_0, p_1, o_12_0, o_16_0, cl_20_4, cl_20_11, cl_12_11, cl_16_11, cl_20_16, (so s_6), (so s_7), (so s_8), (so s_9), (so s_10), (so s_11), (so s_12), (fun _ => Sv.self (by rw [z]; decide) _), (so s_14), (so s_15), (so s_16), (so s_17), (so s_18), (so s_19), (so s_20), (so s_21), (so s_22), (so s_23), (so s_24)⟩
    | 8, _ =>
      obtain rfl := Option.some.inj (show some _ = some o from ho); clear ho
      have v0 := hF.sv (s := 0) (by kernel_rfl) (hA2.get (i := 0) (v := .pointer (some ⟨Bd, 0, none⟩)))
      refine dj_val (i := 8) (v := .pointer (some ⟨Bd, 0, none⟩)) rfl (.inl rfl) (ev_move v0.eval _ rfl) ?_
      exact ⟨⟨_, rfl⟩, Aq12r2, cq12r2, Ax16r2, cx16r2, bl, sz, b_Bd, b_B1, b_B2, p_0, p_1, o_12_0, o_16_0, cl_20_4, cl_20_11, cl_12_11, cl_16_11, cl_20_16, (so s_6), (so s_7), (so s_8), (so s_9), (so s_10), (so s_11), (so s_12), (so s_13), (fun _ => Sv.self (by rw [z]; decide) _), (so s_15), (so s_16), (so s_17), (so s_18), (so s_19), (so s_20), (so s_21), (so s_22), (so s_23), (so s_24)⟩
    | 9, _ =>
      obtain rfl := Option.some.inj (show some _ = some o from ho); clear ho
      have v14 := s_14 (dp hdep 8)
      refine dj_val (i := 9) (v := .pointer (some ⟨Bd, 0, none⟩)) rfl (.inl rfl) (ev_nilCheck v14.eval _ rfl) ?_
      exact ⟨⟨_, rfl⟩, Aq12r2, cq12r2, Ax16r2, cx16r2, bl, sz, b_Bd, b_B1, b_B2, p_0, p_1, o_12_0, o_16_0, cl_20_4, cl_20_11, cl_12_11, cl_16_11, cl_20_16, (so s_6), (so s_7), (so s_8), (so s_9), (so s_10), (so s_11), (so s_12), (so s_13), (so s_14), (fun _ => Sv.self (by rw [z]; decide) _), (so s_16), (so s_17), (so s_18), (so s_19), (so s_20), (so s_21), (so s_22), (so s_23), (so s_24)⟩
    | 10, _ =>
      obtain rfl := Option.some.inj (show some _ = some o from ho); clear ho
      have v15 := s_15 (dp hdep 9)
      refine dj_val (i := 10) (v := .pointer (some ⟨Bd, 1, none⟩)) rfl (.inl rfl) (fb_Disk_1 v15.eval _ rfl) ?_
      exact ⟨⟨_, rfl⟩, Aq12r2, cq12r2, Ax16r2, cx16r2, bl, sz, b_Bd, b_B1, b_B2, p_0, p_1, o_12_0, o_16_0, cl_20_4, cl_20_11, cl_12_11, cl_16_11, cl_20_16, (so s_6), (so s_7), (so s_8), (so s_9), (so s_10), (so s_11), (so s_12), (so s_13), (so s_14), (so s_15), (fun _ => Sv.self (by rw [z]; decide) _), (so s_17), (so s_18), (so s_19), (so s_20), (so s_21), (so s_22), (so s_23), (so s_24)⟩
    | 11, _ =>
      obtain rfl := Option.some.inj (show some _ = some o from ho); clear ho
      have v16 := s_16 (dp hdep 10)
      have eBd : L 20 = false := by
          cases hc : L 20
          · rfl
          · exact absurd (cl_20_11 hc) (by rw [hL]; decide)
      have yBd := b_Bd
      rw [eBd] at yBd
      refine dj_val (i := 11) (v := .slice A2 js.length c2) rfl (.inl rfl) (ev_cell (v := .slice A2 js.length c2) v16.eval ((yBd.cell 1).trans rfl) Try.underlying23 rfl _ rfl) ?_
      exact ⟨⟨_, rfl⟩, Aq12r2, cq12r2, Ax16r2, cx16r2, bl, sz, b_Bd, b_B1, b_B2, p_0, p_1, o_12_0, o_16_0, cl_20_4, (fun _ => rfl), (fun _ => rfl), (fun _ => rfl), cl_20_16, (so s_6), (so s_7), (so s_8), (so s_9), (so s_10), (so s_11), (so s_12), (so s_13), (so s_14), (so s_15), (so s_16), (fun _ => Sv.self (by rw [z]; decide) _), (so s_18), (so s_19), (so s_20), (so s_21), (so s_22), (so s_23), (so s_24)⟩
    | 12, _ =>
      obtain rfl := Option.some.inj (show some _ = some o from ho); clear ho
      have v17 := s_17 (dp hdep 11)
      refine dj_call (i := 12) (f := 48) (args := #[.slice A2 js.length c2]) rfl (.inl rfl) (ev_fn rfl (mp1 v17.eval) (by kernel_rfl) _ rfl) (cloneJ_any A2 c2 js _ (OwnR.gr (e := 38) ⟨rfl, p_1⟩) (by omega)) ?_
      intro e wk12 hR
      obtain ⟨Aq12r2, cq12r2, rfl, hoq12, hb12⟩ := hR
      refine ⟨_, rfl, ?_⟩
      have hg := g0 hb12
      have hown0 := Own.mono (hoq12) sz
      exact ⟨⟨_, rfl⟩, Aq12r2, cq12r2, Ax16r2, cx16r2, (bl.gN hg), (Nat.le_trans sz hg.size), (b_Bd.gN hg), (b_B1.gN hg), (b_B2.gN hg), (Own.gN p_0 hg), (Own.gN p_1 hg), (fun _ _ => hown0), (fun h => Own.gN (o_16_0 h) hg), cl_20_4, cl_20_11, (fun _ => dp hdep 11), cl_16_11, cl_20_16, (so s_6), (so s_7), (so s_8), (so s_9), (so s_10), (so s_11), (so s_12), (so s_13), (so s_14), (so s_15), (so s_16), (so s_17), (fun _ => Sv.self (by rw [z]; decide) _), (so s_19), (so s_20), (so s_21), (so s_22), (so s_23), (so s_24)⟩
    | 13, _ =>
      obtain rfl := Option.some.inj (show some _ = some o from ho); clear ho
      have v1 := hF.sv (s := 1) (by kernel_rfl) (hA2.get (i := 1) (v := .int .i64 (i : Int)))
      refine dj_val (i := 13) (v := .int .i64 (i : Int)) rfl (.inl rfl) (ev_move v1.eval _ rfl) ?_
      exact ⟨⟨_, rfl⟩, Aq12r2, cq12r2, Ax16r2, cx16r2, bl, sz, b_Bd, b_B1, b_B2, p_0, p_1, o_12_0, o_16_0, cl_20_4, cl_20_11, cl_12_11, cl_16_11, cl_20_16, (so s_6), (so s_7), (so s_8), (so s_9), (so s_10), (so s_11), (so s_12), (so s_13), (so s_14), (so s_15), (so s_16), (so s_17), (so s_18), (fun _ => Sv.self (by rw [z]; decide) _), (so s_20), (so s_21), (so s_22), (so s_23), (so s_24)⟩
    | 14, _ =>
      obtain rfl := Option.some.inj (show some _ = some o from ho); clear ho
      have v1 := hF.sv (s := 1) (by kernel_rfl) (hA2.get (i := 1) (v := .int .i64 (i : Int)))
      refine dj_val (i := 14) (v := .int .i64 (i : Int)) rfl (.inl rfl) (ev_move v1.eval _ rfl) ?_
      exact ⟨⟨_, rfl⟩, Aq12r2, cq12r2, Ax16r2, cx16r2, bl, sz, b_Bd, b_B1, b_B2, p_0, p_1, o_12_0, o_16_0, cl_20_4, cl_20_11, cl_12_11, cl_16_11, cl_20_16, (so s_6), (so s_7), (so s_8), (so s_9), (so s_10), (so s_11), (so s_12), (so s_13), (so s_14), (so s_15), (so s_16), (so s_17), (so s_18), (so s_19), (fun _ => Sv.self (by rw [z]; decide) _), (so s_21), (so s_22), (so s_23), (so s_24)⟩
    | 15, _ =>
      obtain rfl := Option.some.inj (show some _ = some o from ho); clear ho
      have v20 := s_20 (dp hdep 14)
      refine dj_val (i := 15) (v := .int .i64 ((i + 1 : Nat) : Int)) rfl (.inl rfl) (ev_addR (k := .i64) (m := (i : Int)) (n := 1) (r := ((i + 1 : Nat) : Int)) v20.eval (ec ac (.int .i64 1)) (wr (by omega) (by omega) (by omega)) _ rfl) ?_
      exact ⟨⟨_, rfl⟩, Aq12r2, cq12r2, Ax16r2, cx16r2, bl, sz, b_Bd, b_B1, b_B2, p_0, p_1, o_12_0, o_16_0, cl_20_4, cl_20_11, cl_12_11, cl_16_11, cl_20_16, (so s_6), (so s_7), (so s_8), (so s_9), (so s_10), (so s_11), (so s_12), (so s_13), (so s_14), (so s_15), (so s_16), (so s_17), (so s_18), (so s_19), (so s_20), (fun _ => Sv.self (by rw [z]; decide) _), (so s_22), (so s_23), (so s_24)⟩
    | 16, _ =>
      obtain rfl := Option.some.inj (show some _ = some o from ho); clear ho
      have v18 := s_18 (dp hdep 12)
      have v19 := s_19 (dp hdep 13)
      have v21 := s_21 (dp hdep 15)
      refine dj_call (i := 16) (f := 49) (args := #[.slice Aq12r2 js.length cq12r2, .int .i64 (i : Int), .int .i64 ((i + 1 : Nat) : Int)]) rfl (.inl rfl) (ev_fn rfl (mp3 v18.eval v19.eval v21.eval) (by kernel_rfl) _ rfl) (Delete_any Aq12r2 cq12r2 js i w2.heap.size _ (o_12_0 (dp hdep 12) hL) hi (by omega)) ?_
      intro e wk16 hR
      obtain ⟨Ax16r2, cx16r2, rfl, hod16, hgd16⟩ := hR
      refine ⟨_, rfl, ?_⟩
      have hg := hgd16
      have hown0 := hod16
      exact ⟨⟨_, rfl⟩, Aq12r2, cq12r2, Ax16r2, cx16r2, (G2.gO bl hg (o_12_0 (dp hdep 12) hL) (by omega)), (Nat.le_trans sz hg.size), (by
          have e0 : L 20 = false := by
            cases hc : L 20
            · rfl
            · exact absurd (cl_20_16 hc) (by rw [hL]; decide)
          have h0 := b_Bd.gOT hg (o_12_0 (dp hdep 12) hL) (by decide)
          rw [e0] at h0
          show Bx _ _ _ (bif L 20 then _ else _)
          rw [e0]
          exact h0), (b_B1.gO hg (o_12_0 (dp hdep 12) hL) (Own.hi (o_12_0 (dp hdep 12) hL)) (by omega)), (b_B2.gO hg (o_12_0 (dp hdep 12) hL) (Own.hi (o_12_0 (dp hdep 12) hL)) (by omega)), (Own.gOT p_0 hg (o_12_0 (dp hdep 12) hL) (by decide)), (Own.gO p_1 hg (o_12_0 (dp hdep 12) hL) hh2 (Own.hi (o_12_0 (dp hdep 12) hL)) (by omega)), (fun _ h2 => by cases h2), (fun _ => hown0), cl_20_4, cl_20_11, cl_12_11, (fun _ => cl_12_11 (dp hdep 12)), (fun _ => rfl), (so s_6), (so s_7), (so s_8), (so s_9), (so s_10), (so s_11), (so s_12), (so s_13), (so s_14), (so s_15), (so s_16), (so s_17), (so s_18), (so s_19), (so s_20), (so s_21), (fun _ => Sv.self (by rw [z]; decide) _), (so s_23), (so s_24)⟩
    | 17, _ =>
      obtain rfl := Option.some.inj (show some _ = some o from ho); clear ho
      have v5 := hF.sv (s := 5) (by kernel_rfl) (hA2.get (i := 5) (v := .pointer (some ⟨B2, 0, none⟩)))
      have v13 := s_13 (dp hdep 7)
      have eB2 : L 17 = false := hL
      have yB2 := b_B2
      rw [eB2] at yB2
      refine dj_skip (i := 17) rfl rfl (.inl rfl) (w' := wc.setRow B2 x.va) (ev_srow v5.eval v13.eval yB2 (n := 11) (by kernel_rfl) rfl rfl (jb_one _) _ rfl) ?_
      have hg := grw yB2 x.va
      have hx := yB2.row x.va
      exact ⟨⟨undef, rfl⟩, Aq12r2, cq12r2, Ax16r2, cx16r2, (bl.gB hg (.inr (.inl (by omega)))), (Nat.le_trans sz hg.size), (b_Bd.gB hg (by omega)), (b_B1.gB hg (by omega)), hx, (Own.gBT p_0 hg yB2 (by decide)), (Own.gB p_1 hg hh2 (by omega)), (fun h h2 => Own.gB (o_12_0 h h2) hg (Own.hi (o_12_0 h h2)) (by omega)), (fun h => Own.gB (o_16_0 h) hg (Own.hi (o_16_0 h)) (by omega)), cl_20_4, cl_20_11, cl_12_11, cl_16_11, cl_20_16, s_6, s_7, s_8, s_9, s_10, s_11, s_12, s_13, s_14, s_15, s_16, s_17, s_18, s_19, s_20, s_21, s_22, s_23, s_24⟩
    | 18, _ =>
      obtain rfl := Option.some.inj (show some _ = some o from ho); clear ho
      have v6 := s_6 (dp hdep 0)
      refine dj_val (i := 18) (v := .pointer (some ⟨Bd, 0, none⟩)) rfl (.inl rfl) (ev_nilCheck v6.eval _ rfl) ?_
      exact ⟨⟨_, rfl⟩, Aq12r2, cq12r2, Ax16r2, cx16r2, bl, sz, b_Bd, b_B1, b_B2, p_0, p_1, o_12_0, o_16_0, cl_20_4, cl_20_11, cl_12_11, cl_16_11, cl_20_16, (so s_6), (so s_7), (so s_8), (so s_9), (so s_10), (so s_11), (so s_12), (so s_13), (so s_14), (so s_15), (so s_16), (so s_17), (so s_18), (so s_19), (so s_20), (so s_21), (so s_22), (fun _ => Sv.self (by rw [z]; decide) _), (so s_24)⟩
    | 19, _ =>
      obtain rfl := Option.some.inj (show some _ = some o from ho); clear ho
      have v23 := s_23 (dp hdep 18)
      refine dj_val (i := 19) (v := .pointer (some ⟨Bd, 1, none⟩)) rfl (.inl rfl) (fb_Disk_1 v23.eval _ rfl) ?_
      exact ⟨⟨_, rfl⟩, Aq12r2, cq12r2, Ax16r2, cx16r2, bl, sz, b_Bd, b_B1, b_B2, p_0, p_1, o_12_0, o_16_0, cl_20_4, cl_20_11, cl_12_11, cl_16_11, cl_20_16, (so s_6), (so s_7), (so s_8), (so s_9), (so s_10), (so s_11), (so s_12), (so s_13), (so s_14), (so s_15), (so s_16), (so s_17), (so s_18), (so s_19), (so s_20), (so s_21), (so s_22), (so s_23), (fun _ => Sv.self (by rw [z]; decide) _)⟩
    | 20, _ =>
      obtain rfl := Option.some.inj (show some _ = some o from ho); clear ho
      have v24 := s_24 (dp hdep 19)
      have v22 := s_22 (dp hdep 16)
      have eBd : L 20 = false := hL
      have yBd := b_Bd
      rw [eBd] at yBd
      refine dj_skip (i := 20) rfl rfl (.inl rfl) (w' := wc.setCell ⟨Bd, 1, none⟩ (.slice Ax16r2 (js.eraseIdx i).length cx16r2)) (ev_scell (v := .slice Ax16r2 (js.eraseIdx i).length cx16r2) v24.eval v22.eval ((yBd.cell 1).trans rfl) (yBd.frozen 1) (by kernel_rfl) rfl _ rfl) ?_
      have hg := gsc (i := 1) yBd (.slice Ax16r2 (js.eraseIdx i).length cx16r2)
      have hx := (yBd.set 1 (.slice Ax16r2 (js.eraseIdx i).length cx16r2))
      exact ⟨⟨undef, rfl⟩, Aq12r2, cq12r2, Ax16r2, cx16r2, (bl.gB hg (.inl rfl)), (Nat.le_trans sz hg.size), hx, (b_B1.gB hg (by omega)), (b_B2.gB hg (by omega)), (Own.gBT p_0 hg yBd (by decide)), (Own.gBT p_1 hg yBd (by decide)), (fun h h2 => Own.gBT (o_12_0 h h2) hg yBd (by decide)), (fun h => Own.gBT (o_16_0 h) hg yBd (by decide)), (fun _ => dp hdep 4), (fun _ => cl_16_11 (dp hdep 16)), cl_12_11, cl_16_11, (fun _ => dp hdep 16), s_6, s_7, s_8, s_9, s_10, s_11, s_12, s_13, s_14, s_15, s_16, s_17, s_18, s_19, s_20, s_21, s_22, s_23, s_24⟩
    | k + 21, h => exact absurd h (by omega)
  · intro L hall ac12 wc12 hF hJ
    obtain ⟨Aq12r2, cq12r2, Ax16r2, cx16r2, bl, sz, b_Bd, b_B1, b_B2, p_0, p_1, o_12_0, o_16_0, cl_20_4, cl_20_11, cl_12_11, cl_16_11, cl_20_16, s_6, s_7, s_8, s_9, s_10, s_11, s_12, s_13, s_14, s_15, s_16, s_17, s_18, s_19, s_20, s_21, s_22, s_23, s_24⟩ := hJ
    have hA12 : Ag ac12 46 [(0, .pointer (some ⟨Bd, 0, none⟩)), (4, .pointer (some ⟨B1, 0, none⟩)), (5, .pointer (some ⟨B2, 0, none⟩))] := ((((Ag.nil (hF.1.trans hA2.1) (hF.2.1.trans hA2.2.1)).cons (hF.sv (s := 5) (by kernel_rfl) (hA2.get (i := 5) (v := .pointer (some ⟨B2, 0, none⟩))))).cons (hF.sv (s := 4) (by kernel_rfl) (hA2.get (i := 4) (v := .pointer (some ⟨B1, 0, none⟩))))).cons (hF.sv (s := 0) (by kernel_rfl) (hA2.get (i := 0) (v := .pointer (some ⟨Bd, 0, none⟩)))))
    have bl12 := bl
    have sz12 := sz
    have b12_Bd : Bx wc12 Bd 25 (#[.slice (some ⟨g1, off1, none⟩) cs.length c1, .slice Ax16r2 (js.eraseIdx i).length cx16r2, .int .i64 room]) := by
      have h := b_Bd
      rw [hall 20 (by decide)] at h
      exact h
    have b12_B1 := b_B1
    have b12_B2 : Bx wc12 B2 38 x.va := by
      have h := b_B2
      rw [hall 17 (by decide)] at h
      exact h
    have p12_0 := p_0
    have p12_1 := p_1
    have o12_16_0 := o_16_0 (hall 16 (by decide))
    have hh12_16_0 := Own.hi o12_16_0
    clear hF bl sz b_Bd b_B1 b_B2 p_0 p_1 o_12_0 o_16_0 cl_20_4 cl_20_11 cl_12_11 cl_16_11 cl_20_16 s_6 s_7 s_8 s_9 s_10 s_11 s_12 s_13 s_14 s_15 s_16 s_17 s_18 s_19 s_20 s_21 s_22 s_23 s_24 hall hA2
    refine then_n ?_
    refine wp_seq ?_
    refine wp_seq ?_
    refine wp_region_lit ?_
    refine sx_val (v := .pointer (some ⟨B2, 0, none⟩)) hA12 rfl (fb_Job_0 (hA12.ev (i := 5) (v := .pointer (some ⟨B2, 0, none⟩))) _ rfl) ?_
    intro a13 hA13; clear hA12
    refine sx_val (v := .bool x.wr) hA13 rfl (ev_cell (v := .bool x.wr) (hA13.ev (i := 25) (v := .pointer (some ⟨B2, 0, none⟩))) ((b12_B2.cell 0).trans rfl) Try.underlying4 rfl _ rfl) ?_
    intro a14 hA14; clear hA13
    refine sx_nil ?_
    refine then_n ?_
    cases hd15 : x.wr
    rotate_left
    · rw [hd15] at hA14
      refine wp_cond_true (hA14.ev (i := 26) (v := .bool true)) ?_
      refine region_D (n := 10) (by kernel_rfl) (by kernel_rfl) rfl (fun L ac wc => G2 w wc Bd (.slice (some ⟨g1, off1, none⟩) cs.length c1) ∧ wc12.heap.size ≤ wc.heap.size ∧ Bx wc Bd 25 (#[.slice (some ⟨g1, off1, none⟩) cs.length c1, .slice Ax16r2 (js.eraseIdx i).length cx16r2, .int .i64 room]) ∧ Bx wc B1 38 Jb.zero.va ∧ Bx wc B2 38 x.va ∧ (L 9 = false → Own wc (base) 28 8 (.slice (some ⟨g1, off1, none⟩) cs.length c1) cs.length (flat Ct.va cs)) ∧ Own wc (w2.heap.size) 38 11 (.slice Ax16r2 (js.eraseIdx i).length cx16r2) (js.eraseIdx i).length (flat Jb.va (js.eraseIdx i)) ∧ (L 9 = true → Own wc base 28 8 (.slice (some ⟨g1, off1, none⟩) cs.length c1) cs.length (flat Ct.va (cs.set x.slot.toNat x.data))) ∧ (L 0 = true → Sv ac 27 (.pointer (some ⟨Bd, 0, none⟩))) ∧ (L 1 = true → Sv ac 28 (.pointer (some ⟨Bd, 0, none⟩))) ∧ (L 2 = true → Sv ac 29 (.pointer (some ⟨Bd, 0, none⟩))) ∧ (L 3 = true → Sv ac 30 (.slice (some ⟨g1, off1, none⟩) cs.length c1)) ∧ (L 4 = true → Sv ac 31 (.pointer (some ⟨B2, 1, none⟩))) ∧ (L 5 = true → Sv ac 32 (.int .i64 x.slot)) ∧ (L 6 = true → Sv ac 33 (.pointer (some ⟨B2, 3, none⟩))) ∧ (L 7 = true → Sv ac 34 (.agg x.data.va)) ∧ (L 8 = true → Sv ac 35 (.pointer (some ((⟨g1, off1, none⟩ : Addr).add (x.slot.toNat * 8)))))) ⟨(bl12.gN (gdr _)), (Nat.le_refl _), (b12_Bd.gN (gdr _)), (b12_B1.gN (gdr _)), (b12_B2.gN (gdr _)), (fun _ => Own.gN p12_0 (gdr _)), (Own.gN o12_16_0 (gdr _)), (fun h => by cases h), (fun h => by cases h), (fun h => by cases h), (fun h => by cases h), (fun h => by cases h), (fun h => by cases h), (fun h => by cases h), (fun h => by cases h), (fun h => by cases h), (fun h => by cases h)⟩ ?_ ?_
      · intro iq hiq o ho L hL hdep ac wc hF hJ
        obtain ⟨bl, sz, b_Bd, b_B1, b_B2, p_0, p_1, oo, s_27, s_28, s_29, s_30, s_31, s_32, s_33, s_34, s_35⟩ := hJ
        have z := hF.1.trans hA14.1
        match iq, hiq with
        | 0, _ =>
          obtain rfl := Option.some.inj (show some _ = some o from ho); clear ho
          have v0 := hF.sv (s := 0) (by kernel_rfl) (hA14.get (i := 0) (v := .pointer (some ⟨Bd, 0, none⟩)))
          refine dj_val (i := 0) (v := .pointer (some ⟨Bd, 0, none⟩)) rfl (.inl rfl) (ev_move v0.eval _ rfl) ?_
          exact ⟨⟨_, rfl⟩, bl, sz, b_Bd, b_B1, b_B2, p_0, p_1, oo, (fun _ => Sv.self (by rw [z]; decide) _), (so s_28), (so s_29), (so s_30), (so s_31), (so s_32), (so s_33), (so s_34), (so s_35)⟩
        | 1, _ =>
          obtain rfl := Option.some.inj (show some _ = some o from ho); clear ho
          have v27 := s_27 (dp hdep 0)
          refine dj_val (i := 1) (v := .pointer (some ⟨Bd, 0, none⟩)) rfl (.inl rfl) (ev_nilCheck v27.eval _ rfl) ?_
          exact ⟨⟨_, rfl⟩, bl, sz, b_Bd, b_B1, b_B2, p_0, p_1, oo, (so s_27), (fun _ => Sv.self (by rw [z]; decide) _), (so s_29), (so s_30), (so s_31), (so s_32), (so s_33), (so s_34), (so s_35)⟩
        | 2, _ =>
          obtain rfl := Option.some.inj (show some _ = some o from ho); clear ho
          have v28 := s_28 (dp hdep 1)
          refine dj_val (i := 2) (v := .pointer (some ⟨Bd, 0, none⟩)) rfl (.inl rfl) (fb_Disk_0 v28.eval _ rfl) ?_
          exact ⟨⟨_, rfl⟩, bl, sz, b_Bd, b_B1, b_B2, p_0, p_1, oo, (so s_27), (so s_28), (fun _ => Sv.self (by rw [z]; decide) _), (so s_30), (so s_31), (so s_32), (so s_33), (so s_34), (so s_35)⟩
        | 3, _ =>
          obtain rfl := Option.some.inj (show some _ = some o from ho); clear ho
          have v29 := s_29 (dp hdep 2)
          refine dj_val (i := 3) (v := .slice (some ⟨g1, off1, none⟩) cs.length c1) rfl (.inl rfl) (ev_cell (v := .slice (some ⟨g1, off1, none⟩) cs.length c1) v29.eval ((b_Bd.cell 0).trans rfl) Try.underlying22 rfl _ rfl) ?_
          exact ⟨⟨_, rfl⟩, bl, sz, b_Bd, b_B1, b_B2, p_0, p_1, oo, (so s_27), (so s_28), (so s_29), (fun _ => Sv.self (by rw [z]; decide) _), (so s_31), (so s_32), (so s_33), (so s_34), (so s_35)⟩
        | 4, _ =>
          obtain rfl := Option.some.inj (show some _ = some o from ho); clear ho
          have v5 := hF.sv (s := 5) (by kernel_rfl) (hA14.get (i := 5) (v := .pointer (some ⟨B2, 0, none⟩)))
          refine dj_val (i := 4) (v := .pointer (some ⟨B2, 1, none⟩)) rfl (.inl rfl) (fb_Job_1 v5.eval _ rfl) ?_
          exact ⟨⟨_, rfl⟩, bl, sz, b_Bd, b_B1, b_B2, p_0, p_1, oo, (so s_27), (so s_28), (so s_29), (so s_30), (fun _ => Sv.self (by rw [z]; decide) _), (so s_32), (so s_33), (so s_34), (so s_35)⟩
        | 5, _ =>
          obtain rfl := Option.some.inj (show some _ = some o from ho); clear ho
          have v31 := s_31 (dp hdep 4)
          refine dj_val (i := 5) (v := .int .i64 x.slot) rfl (.inl rfl) (ev_cell (v := .int .i64 x.slot) v31.eval ((b_B2.cell 1).trans rfl) Try.underlying3 rfl _ rfl) ?_
          exact ⟨⟨_, rfl⟩, bl, sz, b_Bd, b_B1, b_B2, p_0, p_1, oo, (so s_27), (so s_28), (so s_29), (so s_30), (so s_31), (fun _ => Sv.self (by rw [z]; decide) _), (so s_33), (so s_34), (so s_35)⟩
        | 6, _ =>
          obtain rfl := Option.some.inj (show some _ = some o from ho); clear ho
          have v5 := hF.sv (s := 5) (by kernel_rfl) (hA14.get (i := 5) (v := .pointer (some ⟨B2, 0, none⟩)))
          refine dj_val (i := 6) (v := .pointer (some ⟨B2, 3, none⟩)) rfl (.inl rfl) (fb_Job_3 v5.eval _ rfl) ?_
          exact ⟨⟨_, rfl⟩, bl, sz, b_Bd, b_B1, b_B2, p_0, p_1, oo, (so s_27), (so s_28), (so s_29), (so s_30), (so s_31), (so s_32), (fun _ => Sv.self (by rw [z]; decide) _), (so s_34), (so s_35)⟩
        | 7, _ =>
          obtain rfl := Option.some.inj (show some _ = some o from ho); clear ho
          have v33 := s_33 (dp hdep 6)
          refine dj_val (i := 7) (v := .agg x.data.va) rfl (.inl rfl) (ev_loadR (cs := x.data.va) (n := 8) v33.eval (jb_part b_B2) Try.underlying28 rfl (by kernel_rfl) rfl _ rfl) ?_
          exact ⟨⟨_, rfl⟩, bl, sz, b_Bd, b_B1, b_B2, p_0, p_1, oo, (so s_27), (so s_28), (so s_29), (so s_30), (so s_31), (so s_32), (so s_33), (fun _ => Sv.self (by rw [z]; decide) _), (so s_35)⟩
        | 8, _ =>
          obtain rfl := Option.some.inj (show some _ = some o from ho); clear ho
          have v30 := s_30 (dp hdep 3)
          have v32 := s_32 (dp hdep 5)
          refine dj_val (i := 8) (v := .pointer (some ((⟨g1, off1, none⟩ : Addr).add (x.slot.toNat * 8)))) rfl (.inl rfl) (ev_idx (k := x.slot.toNat) v30.eval rfl v32.eval (by omega) (by omega) Try.underlying22 (by kernel_rfl) _ rfl) ?_
          exact ⟨⟨_, rfl⟩, bl, sz, b_Bd, b_B1, b_B2, p_0, p_1, oo, (so s_27), (so s_28), (so s_29), (so s_30), (so s_31), (so s_32), (so s_33), (so s_34), (fun _ => Sv.self (by rw [z]; decide) _)⟩
        | 9, _ =>
          obtain rfl := Option.some.inj (show some _ = some o from ho); clear ho
          have v35 := s_35 (dp hdep 8)
          have v34 := s_34 (dp hdep 7)
          obtain ⟨w2, hr, hown, hg⟩ := run_store_el (P := Try.prog) (p_0 hL) ct_sz ct_one rfl (k := x.slot.toNat) (by omega) x.data (by kernel_rfl)
          replace hg : World.grownBy wc w2 (Value.ownBlock (.slice (some ⟨g1, off1, none⟩) cs.length c1)) := hg
          have e1 := v35.eval
          rw [mk_add] at e1
          have e2 := v34.eval
          refine dj_skip (i := 9) rfl rfl (.inl rfl) (w' := w2) (by simp only [execOp, e1, e2, Sem.run_bind, hr, Result.andThen_ok, Sem.run_pure]) ?_
          exact ⟨⟨undef, rfl⟩, (bl.gB hg (.inr (.inr rfl))), (Nat.le_trans sz hg.size), (b_Bd.gOT hg (p_0 hL) (by decide)), (b_B1.gOT hg (p_0 hL) (by decide)), (b_B2.gOT hg (p_0 hL) (by decide)), (fun h => by cases h), (Own.gOT p_1 hg (p_0 hL) (by decide)), (fun _ => hown), s_27, s_28, s_29, s_30, s_31, s_32, s_33, s_34, s_35⟩
        | k + 10, h => exact absurd h (by omega)
      · intro L hall ac23 wc23 hF hJ
        obtain ⟨bl, sz, b_Bd, b_B1, b_B2, p_0, p_1, oo, s_27, s_28, s_29, s_30, s_31, s_32, s_33, s_34, s_35⟩ := hJ
        have hA23 : Ag ac23 46 [(4, .pointer (some ⟨B1, 0, none⟩)), (5, .pointer (some ⟨B2, 0, none⟩))] := (((Ag.nil (hF.1.trans hA14.1) (hF.2.1.trans hA14.2.1)).cons (hF.sv (s := 5) (by kernel_rfl) (hA14.get (i := 5) (v := .pointer (some ⟨B2, 0, none⟩))))).cons (hF.sv (s := 4) (by kernel_rfl) (hA14.get (i := 4) (v := .pointer (some ⟨B1, 0, none⟩)))))
        have bl23 := bl
        have sz23 := sz
        have b23_Bd := b_Bd
        have b23_B1 := b_B1
        have b23_B2 := b_B2
        have p23_1 := p_1
        have oo23 := oo (hall 9 (by decide))
        have hhh23 := Own.hi oo23
        clear hF bl sz b_Bd b_B1 b_B2 p_0 p_1 oo s_27 s_28 s_29 s_30 s_31 s_32 s_33 s_34 s_35 hall hA14
        refine then_n ?_
        refine wp_seq ?_
        refine wp_region_lit ?_
        refine sx_val (v := .agg x.va) hA23 rfl (ev_row (hA23.ev (i := 5) (v := .pointer (some ⟨B2, 0, none⟩))) b23_B2 Try.underlying38 rfl (n := 11) (by kernel_rfl) rfl _ rfl) ?_
        intro a24 hA24; clear hA23
        refine sx_store hA24 rfl (.inl rfl) rfl (hA24.ev (i := 4) (v := .pointer (some ⟨B1, 0, none⟩))) (hA24.ev (i := 45) (v := .agg x.va)) b23_B1 (by kernel_rfl) rfl (jb_one _) ?_
        intro w25 hx25 hg25
        have hs25 := hg25.size
        refine sx_nil ?_
        refine then_n ?_
        refine wp_ret ?_
        refine bodyPost_ret (rs_c  Try.results41 hA24 (by kernel_rfl) hx25 Try.underlying38 rfl (by kernel_rfl)) hA24.2.1 ?_
        have bl23_26 := bl23.gB hg25 (.inr (.inl (by omega)))
        have b23_Bd_27 := b23_Bd.gB hg25 (by omega)
        have oo23_28 := Own.gBT oo23 hg25 b23_B1 (by decide)
        have p23_29 := Own.gB p23_1 hg25 hh12_16_0 (by omega)
        have E : com ⟨cs, js, room⟩ i = (⟨cs.set x.slot.toNat x.data, js.eraseIdx i, room⟩, x) := by
          unfold com
          simp only [hxi, hd15, if_true]
        rw [E]
        exact ⟨_, _, rfl, b23_Bd_27, oo23_28, Own.mono p23_29 (by omega), bl23_26⟩
    rw [hd15] at hA14
    refine wp_cond_false (hA14.ev (i := 26) (v := .bool false)) ?_
    obtain ⟨c, hcc⟩ : ∃ c, cs[x.slot.toNat]? = some c := ⟨_, List.getElem?_eq_getElem (by omega)⟩
    refine region_D (n := 10) (by kernel_rfl) (by kernel_rfl) rfl (fun L ac wc => G2 w wc Bd (.slice (some ⟨g1, off1, none⟩) cs.length c1) ∧ wc12.heap.size ≤ wc.heap.size ∧ Bx wc Bd 25 (#[.slice (some ⟨g1, off1, none⟩) cs.length c1, .slice Ax16r2 (js.eraseIdx i).length cx16r2, .int .i64 room]) ∧ Bx wc B1 38 Jb.zero.va ∧ Bx wc B2 38 (bif L 9 then (Jb.va ⟨x.wr, x.slot, x.frame, c⟩) else x.va) ∧ Own wc (base) 28 8 (.slice (some ⟨g1, off1, none⟩) cs.length c1) cs.length (flat Ct.va cs) ∧ Own wc (w2.heap.size) 38 11 (.slice Ax16r2 (js.eraseIdx i).length cx16r2) (js.eraseIdx i).length (flat Jb.va (js.eraseIdx i)) ∧ (L 9 = true → L 5 = true) ∧ (L 6 = true → L 5 = true) ∧ (L 7 = true → L 5 = true) ∧ (L 0 = true → Sv ac 36 (.pointer (some ⟨Bd, 0, none⟩))) ∧ (L 1 = true → Sv ac 37 (.pointer (some ⟨Bd, 0, none⟩))) ∧ (L 2 = true → Sv ac 38 (.pointer (some ⟨Bd, 0, none⟩))) ∧ (L 3 = true → Sv ac 39 (.slice (some ⟨g1, off1, none⟩) cs.length c1)) ∧ (L 4 = true → Sv ac 40 (.pointer (some ⟨B2, 1, none⟩))) ∧ (L 5 = true → Sv ac 41 (.int .i64 x.slot)) ∧ (L 6 = true → Sv ac 42 (.pointer (some ((⟨g1, off1, none⟩ : Addr).add (x.slot.toNat * 8))))) ∧ (L 7 = true → Sv ac 43 (.agg c.va)) ∧ (L 8 = true → Sv ac 44 (.pointer (some ⟨B2, 3, none⟩)))) ⟨(bl12.gN (gdr _)), (Nat.le_refl _), (b12_Bd.gN (gdr _)), (b12_B1.gN (gdr _)), (b12_B2.gN (gdr _)), (Own.gN p12_0 (gdr _)), (Own.gN o12_16_0 (gdr _)), (fun h => by cases h), (fun h => by cases h), (fun h => by cases h), (fun h => by cases h), (fun h => by cases h), (fun h => by cases h), (fun h => by cases h), (fun h => by cases h), (fun h => by cases h), (fun h => by cases h), (fun h => by cases h), (fun h => by cases h)⟩ ?_ ?_
    · intro iq hiq o ho L hL hdep ac wc hF hJ
      obtain ⟨bl, sz, b_Bd, b_B1, b_B2, p_0, p_1, cl_9_5, cl_6_5, cl_7_5, s_36, s_37, s_38, s_39, s_40, s_41, s_42, s_43, s_44⟩ := hJ
      have z := hF.1.trans hA14.1
      match iq, hiq with
      | 0, _ =>
        obtain rfl := Option.some.inj (show some _ = some o from ho); clear ho
        have v0 := hF.sv (s := 0) (by kernel_rfl) (hA14.get (i := 0) (v := .pointer (some ⟨Bd, 0, none⟩)))
        refine dj_val (i := 0) (v := .pointer (some ⟨Bd, 0, none⟩)) rfl (.inl rfl) (ev_move v0.eval _ rfl) ?_
        exact ⟨⟨_, rfl⟩, bl, sz, b_Bd, b_B1, b_B2, p_0, p_1, cl_9_5, cl_6_5, cl_7_5, (fun _ => Sv.self (by rw [z]; decide) _), (so s_37), (so s_38), (so s_39), (so s_40), (so s_41), (so s_42), (so s_43), (so s_44)⟩
      | 1, _ =>
        obtain rfl := Option.some.inj (show some _ = some o from ho); clear ho
        have v36 := s_36 (dp hdep 0)
        refine dj_val (i := 1) (v := .pointer (some ⟨Bd, 0, none⟩)) rfl (.inl rfl) (ev_nilCheck v36.eval _ rfl) ?_
        exact ⟨⟨_, rfl⟩, bl, sz, b_Bd, b_B1, b_B2, p_0, p_1, cl_9_5, cl_6_5, cl_7_5, (so s_36), (fun _ => Sv.self (by rw [z]; decide) _), (so s_38), (so s_39), (so s_40), (so s_41), (so s_42), (so s_43), (so s_44)⟩
      | 2, _ =>
        obtain rfl := Option.some.inj (show some _ = some o from ho); clear ho
        have v37 := s_37 (dp hdep 1)
        refine dj_val (i := 2) (v := .pointer (some ⟨Bd, 0, none⟩)) rfl (.inl rfl) (fb_Disk_0 v37.eval _ rfl) ?_
        exact ⟨⟨_, rfl⟩, bl, sz, b_Bd, b_B1, b_B2, p_0, p_1, cl_9_5, cl_6_5, cl_7_5, (so s_36), (so s_37), (fun _ => Sv.self (by rw [z]; decide) _), (so s_39), (so s_40), (so s_41), (so s_42), (so s_43), (so s_44)⟩
      | 3, _ =>
        obtain rfl := Option.some.inj (show some _ = some o from ho); clear ho
        have v38 := s_38 (dp hdep 2)
        refine dj_val (i := 3) (v := .slice (some ⟨g1, off1, none⟩) cs.length c1) rfl (.inl rfl) (ev_cell (v := .slice (some ⟨g1, off1, none⟩) cs.length c1) v38.eval ((b_Bd.cell 0).trans rfl) Try.underlying22 rfl _ rfl) ?_
        exact ⟨⟨_, rfl⟩, bl, sz, b_Bd, b_B1, b_B2, p_0, p_1, cl_9_5, cl_6_5, cl_7_5, (so s_36), (so s_37), (so s_38), (fun _ => Sv.self (by rw [z]; decide) _), (so s_40), (so s_41), (so s_42), (so s_43), (so s_44)⟩
      | 4, _ =>
        obtain rfl := Option.some.inj (show some _ = some o from ho); clear ho
        have v5 := hF.sv (s := 5) (by kernel_rfl) (hA14.get (i := 5) (v := .pointer (some ⟨B2, 0, none⟩)))
        refine dj_val (i := 4) (v := .pointer (some ⟨B2, 1, none⟩)) rfl (.inl rfl) (fb_Job_1 v5.eval _ rfl) ?_
        exact ⟨⟨_, rfl⟩, bl, sz, b_Bd, b_B1, b_B2, p_0, p_1, cl_9_5, cl_6_5, cl_7_5, (so s_36), (so s_37), (so s_38), (so s_39), (fun _ => Sv.self (by rw [z]; decide) _), (so s_41), (so s_42), (so s_43), (so s_44)⟩
      | 5, _ =>
        obtain rfl := Option.some.inj (show some _ = some o from ho); clear ho
        have v40 := s_40 (dp hdep 4)
        have eB2 : L 9 = false := by
            cases hc : L 9
            · rfl
            · exact absurd (cl_9_5 hc) (by rw [hL]; decide)
        have yB2 := b_B2
        rw [eB2] at yB2
        refine dj_val (i := 5) (v := .int .i64 x.slot) rfl (.inl rfl) (ev_cell (v := .int .i64 x.slot) v40.eval ((yB2.cell 1).trans rfl) Try.underlying3 rfl _ rfl) ?_
        exact ⟨⟨_, rfl⟩, bl, sz, b_Bd, b_B1, b_B2, p_0, p_1, (fun _ => rfl), (fun _ => rfl), (fun _ => rfl), (so s_36), (so s_37), (so s_38), (so s_39), (so s_40), (fun _ => Sv.self (by rw [z]; decide) _), (so s_42), (so s_43), (so s_44)⟩
      | 6, _ =>
        obtain rfl := Option.some.inj (show some _ = some o from ho); clear ho
        have v39 := s_39 (dp hdep 3)
        have v41 := s_41 (dp hdep 5)
        refine dj_val (i := 6) (v := .pointer (some ((⟨g1, off1, none⟩ : Addr).add (x.slot.toNat * 8)))) rfl (.inl rfl) (ev_idx (k := x.slot.toNat) v39.eval rfl v41.eval (by omega) (by omega) Try.underlying22 (by kernel_rfl) _ rfl) ?_
        exact ⟨⟨_, rfl⟩, bl, sz, b_Bd, b_B1, b_B2, p_0, p_1, cl_9_5, (fun _ => dp hdep 5), cl_7_5, (so s_36), (so s_37), (so s_38), (so s_39), (so s_40), (so s_41), (fun _ => Sv.self (by rw [z]; decide) _), (so s_43), (so s_44)⟩
      | 7, _ =>
        obtain rfl := Option.some.inj (show some _ = some o from ho); clear ho
        have v42 := s_42 (dp hdep 6)
        refine dj_val (i := 7) (v := .agg c.va) rfl (.inl rfl) (ev_loadR (cs := c.va) (n := 8) v42.eval (GR.cel (OwnR.gr (e := 28) ⟨rfl, p_0⟩) rfl ct_sz hcc) Try.underlying28 rfl (by kernel_rfl) rfl _ rfl) ?_
        exact ⟨⟨_, rfl⟩, bl, sz, b_Bd, b_B1, b_B2, p_0, p_1, cl_9_5, cl_6_5, (fun _ => cl_6_5 (dp hdep 6)), (so s_36), (so s_37), (so s_38), (so s_39), (so s_40), (so s_41), (so s_42), (fun _ => Sv.self (by rw [z]; decide) _), (so s_44)⟩
      | 8, _ =>
        obtain rfl := Option.some.inj (show some _ = some o from ho); clear ho
        have v5 := hF.sv (s := 5) (by kernel_rfl) (hA14.get (i := 5) (v := .pointer (some ⟨B2, 0, none⟩)))
        refine dj_val (i := 8) (v := .pointer (some ⟨B2, 3, none⟩)) rfl (.inl rfl) (fb_Job_3 v5.eval _ rfl) ?_
        exact ⟨⟨_, rfl⟩, bl, sz, b_Bd, b_B1, b_B2, p_0, p_1, cl_9_5, cl_6_5, cl_7_5, (so s_36), (so s_37), (so s_38), (so s_39), (so s_40), (so s_41), (so s_42), (so s_43), (fun _ => Sv.self (by rw [z]; decide) _)⟩
      | 9, _ =>
        obtain rfl := Option.some.inj (show some _ = some o from ho); clear ho
        have v44 := s_44 (dp hdep 8)
        have v43 := s_43 (dp hdep 7)
        have eB2 : L 9 = false := hL
        have yB2 := b_B2
        rw [eB2] at yB2
        obtain ⟨wq2, hr, hx, hg⟩ := ev_spart (x := .tmp 44) (y := .tmp 43) (c := c) v44.eval v43.eval yB2
        refine dj_skip (i := 9) rfl rfl (.inl rfl) (w' := wq2) (hr _ rfl) ?_
        exact ⟨⟨undef, rfl⟩, (bl.gB hg (.inr (.inl (by omega)))), (Nat.le_trans sz hg.size), (b_Bd.gB hg (by omega)), (b_B1.gB hg (by omega)), hx, (Own.gBT p_0 hg yB2 (by decide)), (Own.gB p_1 hg hh12_16_0 (by omega)), (fun _ => cl_7_5 (dp hdep 7)), cl_6_5, cl_7_5, s_36, s_37, s_38, s_39, s_40, s_41, s_42, s_43, s_44⟩
      | k + 10, h => exact absurd h (by omega)
    · intro L hall ac16 wc16 hF hJ
      obtain ⟨bl, sz, b_Bd, b_B1, b_B2, p_0, p_1, cl_9_5, cl_6_5, cl_7_5, s_36, s_37, s_38, s_39, s_40, s_41, s_42, s_43, s_44⟩ := hJ
      have hA16 : Ag ac16 46 [(4, .pointer (some ⟨B1, 0, none⟩)), (5, .pointer (some ⟨B2, 0, none⟩))] := (((Ag.nil (hF.1.trans hA14.1) (hF.2.1.trans hA14.2.1)).cons (hF.sv (s := 5) (by kernel_rfl) (hA14.get (i := 5) (v := .pointer (some ⟨B2, 0, none⟩))))).cons (hF.sv (s := 4) (by kernel_rfl) (hA14.get (i := 4) (v := .pointer (some ⟨B1, 0, none⟩)))))
      have bl16 := bl
      have sz16 := sz
      have b16_Bd := b_Bd
      have b16_B1 := b_B1
      have b16_B2 : Bx wc16 B2 38 (Jb.va ⟨x.wr, x.slot, x.frame, c⟩) := by
        have h := b_B2
        rw [hall 9 (by decide)] at h
        exact h
      have p16_0 := p_0
      have p16_1 := p_1
      clear hF bl sz b_Bd b_B1 b_B2 p_0 p_1 cl_9_5 cl_6_5 cl_7_5 s_36 s_37 s_38 s_39 s_40 s_41 s_42 s_43 s_44 hall hA14
      refine then_n ?_
      refine wp_seq ?_
      refine wp_region_lit ?_
      refine sx_val (v := .agg (Jb.va ⟨x.wr, x.slot, x.frame, c⟩)) hA16 rfl (ev_row (hA16.ev (i := 5) (v := .pointer (some ⟨B2, 0, none⟩))) b16_B2 Try.underlying38 rfl (n := 11) (by kernel_rfl) rfl _ rfl) ?_
      intro a17 hA17; clear hA16
      refine sx_store hA17 rfl (.inl rfl) rfl (hA17.ev (i := 4) (v := .pointer (some ⟨B1, 0, none⟩))) (hA17.ev (i := 45) (v := .agg (Jb.va ⟨x.wr, x.slot, x.frame, c⟩))) b16_B1 (by kernel_rfl) rfl (jb_one _) ?_
      intro w18 hx18 hg18
      have hs18 := hg18.size
      refine sx_nil ?_
      refine then_n ?_
      refine wp_ret ?_
      refine bodyPost_ret (rs_c  Try.results41 hA17 (by kernel_rfl) hx18 Try.underlying38 rfl (by kernel_rfl)) hA17.2.1 ?_
      have bl16_19 := bl16.gB hg18 (.inr (.inl (by omega)))
      have b16_Bd_20 := b16_Bd.gB hg18 (by omega)
      have p16_21 := Own.gBT p16_0 hg18 b16_B1 (by decide)
      have p16_22 := Own.gB p16_1 hg18 hh12_16_0 (by omega)
      have E : com ⟨cs, js, room⟩ i = (⟨cs, js.eraseIdx i, room⟩, ⟨x.wr, x.slot, x.frame, c⟩) := by
        unfold com
        simp only [hxi, hd15, Bool.false_eq_true, if_false, hcc, Option.getD_some]
      rw [E]
      exact ⟨_, _, rfl, b16_Bd_20, p16_21, Own.mono p16_22 (by omega), bl16_19⟩

theorem complete_any (Bd : Nat) (A1x : Option Addr) (c1 : Nat) (A2 : Option Addr) (c2 : Nat) (cs : List Ct) (js : List Jb) (room : Int) (i base base2 : Nat) (x : Jb) (w : World) (hx : Bx w Bd 25 #[.slice A1x cs.length c1, .slice A2 js.length c2, .int .i64 room]) (h1 : Own w base 28 8 (.slice A1x cs.length c1) cs.length (flat Ct.va cs)) (h2 : Own w base2 38 11 (.slice A2 js.length c2) js.length (flat Jb.va js)) (hxi : js[i]? = some x) (hs0 : 0 ≤ x.slot) (hs1 : x.slot < cs.length) (hl : cs.length ≤ 900000) (hj : js.length ≤ 900000) : Calls Try.prog 41 #[.pointer (some ⟨Bd, 0, none⟩), .int .i64 (i : Int)] w (RetCp w Bd base A1x c1 cs.length (com ⟨cs, js, room⟩ i)) := by
  obtain ⟨g, off, rfl, _⟩ := Own.cells h1 (by omega)
  exact complete_at g off Bd c1 A2 c2 cs js room i base base2 x w hx h1 h2 hxi hs0 hs1 hl hj
end Go.Proofs.Ytbkdimildnahaaa
