/- Package fault: the table of look, line by line. -/
import Derived.Test.YtbcfnocefjolfaaF4
import Derived.Test.YtbcfnocefjolfaaV
namespace Go.Proofs.Ytbcfnocefjolfaa
open Go.RowKit

/-- The operations of a region. -/
def regOps : Code → Nat → Option (List Oper)
  | .region id ops _, n => if id = n then some ops.toList else none
  | .seq a b, n => match regOps a n with
    | some l => some l
    | none => regOps b n
  | _, _ => none
noncomputable def ops6 : List Oper := (Try.f35.body.bind (regOps · 6)).getD []

theorem o6_0 : ops6[0]?.map (fun o => (o.dst, o.op, o.guard)) = some (some 37, .move (.tmp 5), none) := by kernel_rfl
theorem o6_1 : ops6[1]?.map (fun o => (o.dst, o.op, o.guard)) = some (some 38, .binOp .eql 3 (.tmp 37) (.const (.int .i64 1)) 3, none) := by kernel_rfl
theorem o6_2 : ops6[2]?.map (fun o => (o.dst, o.op, o.guard)) = some (some 39, .move (.tmp 38), none) := by kernel_rfl
theorem o6_3 : ops6[3]?.map (fun o => (o.dst, o.op, o.guard)) = some (some 40, .move (.tmp 6), some (2, true)) := by kernel_rfl
theorem o6_4 : ops6[4]?.map (fun o => (o.dst, o.op, o.guard)) = some (some 41, .pick (.tmp 39) (.tmp 40) (.const (.bool false)), none) := by kernel_rfl
theorem o6_5 : ops6[5]?.map (fun o => (o.dst, o.op, o.guard)) = some (some 42, .build 58 #[(0, (.tmp 41)), (1, (.const (.int .i64 3))), (2, (.const (.int .i64 2)))], none) := by kernel_rfl
theorem o6_6 : ops6[6]?.map (fun o => (o.dst, o.op, o.guard)) = some (some 43, .move (.tmp 5), none) := by kernel_rfl
theorem o6_7 : ops6[7]?.map (fun o => (o.dst, o.op, o.guard)) = some (some 44, .binOp .eql 3 (.tmp 43) (.const (.int .i64 1)) 3, none) := by kernel_rfl
theorem o6_8 : ops6[8]?.map (fun o => (o.dst, o.op, o.guard)) = some (some 45, .build 58 #[(0, (.tmp 44)), (1, (.const (.int .i64 1))), (2, (.const (.int .i64 1)))], none) := by kernel_rfl
theorem o6_9 : ops6[9]?.map (fun o => (o.dst, o.op, o.guard)) = some (some 46, .move (.tmp 5), none) := by kernel_rfl
theorem o6_10 : ops6[10]?.map (fun o => (o.dst, o.op, o.guard)) = some (some 47, .binOp .eql 3 (.tmp 46) (.const (.int .i64 6)) 3, none) := by kernel_rfl
theorem o6_11 : ops6[11]?.map (fun o => (o.dst, o.op, o.guard)) = some (some 48, .move (.tmp 47), none) := by kernel_rfl
theorem o6_12 : ops6[12]?.map (fun o => (o.dst, o.op, o.guard)) = some (some 49, .fieldAddr 38 (.tmp 3) 4, some (11, true)) := by kernel_rfl
theorem o6_13 : ops6[13]?.map (fun o => (o.dst, o.op, o.guard)) = some (some 50, .load 4 (.tmp 49), some (11, true)) := by kernel_rfl
theorem o6_14 : ops6[14]?.map (fun o => (o.dst, o.op, o.guard)) = some (some 51, .unOp .not 4 (.tmp 50), some (11, true)) := by kernel_rfl
theorem o6_15 : ops6[15]?.map (fun o => (o.dst, o.op, o.guard)) = some (some 52, .pick (.tmp 48) (.tmp 51) (.const (.bool false)), none) := by kernel_rfl
theorem o6_16 : ops6[16]?.map (fun o => (o.dst, o.op, o.guard)) = some (some 53, .build 58 #[(0, (.tmp 52)), (1, (.const (.int .i64 2))), (2, (.const (.int .i64 1)))], none) := by kernel_rfl
theorem o6_17 : ops6[17]?.map (fun o => (o.dst, o.op, o.guard)) = some (some 54, .move (.tmp 5), none) := by kernel_rfl
theorem o6_18 : ops6[18]?.map (fun o => (o.dst, o.op, o.guard)) = some (some 55, .binOp .eql 3 (.tmp 54) (.const (.int .i64 6)) 3, none) := by kernel_rfl
theorem o6_19 : ops6[19]?.map (fun o => (o.dst, o.op, o.guard)) = some (some 56, .move (.tmp 55), none) := by kernel_rfl
theorem o6_20 : ops6[20]?.map (fun o => (o.dst, o.op, o.guard)) = some (some 57, .move (.tmp 7), some (19, true)) := by kernel_rfl
theorem o6_21 : ops6[21]?.map (fun o => (o.dst, o.op, o.guard)) = some (some 58, .binOp .gtr 3 (.tmp 57) (.const (.int .i64 0)) 3, some (19, true)) := by kernel_rfl
theorem o6_22 : ops6[22]?.map (fun o => (o.dst, o.op, o.guard)) = some (some 59, .pick (.tmp 56) (.tmp 58) (.const (.bool false)), none) := by kernel_rfl
theorem o6_23 : ops6[23]?.map (fun o => (o.dst, o.op, o.guard)) = some (some 60, .move (.tmp 7), none) := by kernel_rfl
theorem o6_24 : ops6[24]?.map (fun o => (o.dst, o.op, o.guard)) = some (some 61, .binOp .add 3 (.tmp 60) (.const (.int .i64 1)) 3, none) := by kernel_rfl
theorem o6_25 : ops6[25]?.map (fun o => (o.dst, o.op, o.guard)) = some (some 62, .build 58 #[(0, (.tmp 59)), (1, (.const (.int .i64 3))), (2, (.tmp 61))], none) := by kernel_rfl
theorem o6_26 : ops6[26]?.map (fun o => (o.dst, o.op, o.guard)) = some (some 63, .move (.tmp 5), none) := by kernel_rfl
theorem o6_27 : ops6[27]?.map (fun o => (o.dst, o.op, o.guard)) = some (some 64, .binOp .eql 3 (.tmp 63) (.const (.int .i64 6)) 3, none) := by kernel_rfl
theorem o6_28 : ops6[28]?.map (fun o => (o.dst, o.op, o.guard)) = some (some 65, .build 58 #[(0, (.tmp 64)), (1, (.const (.int .i64 1))), (2, (.const (.int .i64 1)))], none) := by kernel_rfl
theorem o6_29 : ops6[29]?.map (fun o => (o.dst, o.op, o.guard)) = some (some 66, .fieldAddr 54 (.tmp 2) 2, none) := by kernel_rfl
theorem o6_30 : ops6[30]?.map (fun o => (o.dst, o.op, o.guard)) = some (some 67, .load 3 (.tmp 66), none) := by kernel_rfl
theorem o6_31 : ops6[31]?.map (fun o => (o.dst, o.op, o.guard)) = some (some 68, .binOp .eql 3 (.tmp 67) (.const (.int .i64 3)) 3, none) := by kernel_rfl
theorem o6_32 : ops6[32]?.map (fun o => (o.dst, o.op, o.guard)) = some (some 69, .move (.tmp 68), none) := by kernel_rfl
theorem o6_33 : ops6[33]?.map (fun o => (o.dst, o.op, o.guard)) = some (some 70, .fieldAddr 54 (.tmp 2) 2, some (32, false)) := by kernel_rfl
theorem o6_34 : ops6[34]?.map (fun o => (o.dst, o.op, o.guard)) = some (some 71, .load 3 (.tmp 70), some (32, false)) := by kernel_rfl
theorem o6_35 : ops6[35]?.map (fun o => (o.dst, o.op, o.guard)) = some (some 72, .binOp .eql 3 (.tmp 71) (.const (.int .i64 4)) 3, some (32, false)) := by kernel_rfl
theorem o6_36 : ops6[36]?.map (fun o => (o.dst, o.op, o.guard)) = some (some 73, .pick (.tmp 69) (.const (.bool true)) (.tmp 72), none) := by kernel_rfl
theorem o6_37 : ops6[37]?.map (fun o => (o.dst, o.op, o.guard)) = some (some 74, .build 58 #[(0, (.tmp 73)), (1, (.const (.int .i64 7))), (2, (.const (.int .i64 1)))], none) := by kernel_rfl
theorem o6_38 : ops6[38]?.map (fun o => (o.dst, o.op, o.guard)) = some (some 75, .fieldAddr 38 (.tmp 3) 0, none) := by kernel_rfl
theorem o6_39 : ops6[39]?.map (fun o => (o.dst, o.op, o.guard)) = some (some 76, .load 3 (.tmp 75), none) := by kernel_rfl
theorem o6_40 : ops6[40]?.map (fun o => (o.dst, o.op, o.guard)) = some (some 77, .binOp .eql 3 (.tmp 76) (.const (.int .i64 1)) 3, none) := by kernel_rfl
theorem o6_41 : ops6[41]?.map (fun o => (o.dst, o.op, o.guard)) = some (some 78, .build 58 #[(0, (.tmp 77)), (1, (.const (.int .i64 2))), (2, (.const (.int .i64 1)))], none) := by kernel_rfl
theorem o6_42 : ops6[42]?.map (fun o => (o.dst, o.op, o.guard)) = some (some 79, .fieldAddr 38 (.tmp 3) 0, none) := by kernel_rfl
theorem o6_43 : ops6[43]?.map (fun o => (o.dst, o.op, o.guard)) = some (some 80, .load 3 (.tmp 79), none) := by kernel_rfl
theorem o6_44 : ops6[44]?.map (fun o => (o.dst, o.op, o.guard)) = some (some 81, .binOp .eql 3 (.tmp 80) (.const (.int .i64 2)) 3, none) := by kernel_rfl
theorem o6_45 : ops6[45]?.map (fun o => (o.dst, o.op, o.guard)) = some (some 82, .move (.tmp 81), none) := by kernel_rfl
theorem o6_46 : ops6[46]?.map (fun o => (o.dst, o.op, o.guard)) = some (some 83, .fieldAddr 38 (.tmp 3) 0, some (45, false)) := by kernel_rfl
theorem o6_47 : ops6[47]?.map (fun o => (o.dst, o.op, o.guard)) = some (some 84, .load 3 (.tmp 83), some (45, false)) := by kernel_rfl
theorem o6_48 : ops6[48]?.map (fun o => (o.dst, o.op, o.guard)) = some (some 85, .binOp .eql 3 (.tmp 84) (.const (.int .i64 3)) 3, some (45, false)) := by kernel_rfl
theorem o6_49 : ops6[49]?.map (fun o => (o.dst, o.op, o.guard)) = some (some 86, .pick (.tmp 82) (.const (.bool true)) (.tmp 85), none) := by kernel_rfl
theorem o6_50 : ops6[50]?.map (fun o => (o.dst, o.op, o.guard)) = some (some 87, .move (.tmp 86), none) := by kernel_rfl
theorem o6_51 : ops6[51]?.map (fun o => (o.dst, o.op, o.guard)) = some (some 88, .fieldAddr 38 (.tmp 3) 0, some (50, false)) := by kernel_rfl
theorem o6_52 : ops6[52]?.map (fun o => (o.dst, o.op, o.guard)) = some (some 89, .load 3 (.tmp 88), some (50, false)) := by kernel_rfl
theorem o6_53 : ops6[53]?.map (fun o => (o.dst, o.op, o.guard)) = some (some 90, .binOp .eql 3 (.tmp 89) (.const (.int .i64 4)) 3, some (50, false)) := by kernel_rfl
theorem o6_54 : ops6[54]?.map (fun o => (o.dst, o.op, o.guard)) = some (some 91, .pick (.tmp 87) (.const (.bool true)) (.tmp 90), none) := by kernel_rfl
theorem o6_55 : ops6[55]?.map (fun o => (o.dst, o.op, o.guard)) = some (some 92, .build 58 #[(0, (.tmp 91)), (1, (.const (.int .i64 1))), (2, (.const (.int .i64 1)))], none) := by kernel_rfl
theorem o6_56 : ops6[56]?.map (fun o => (o.dst, o.op, o.guard)) = some (some 93, .fieldAddr 38 (.tmp 3) 0, none) := by kernel_rfl
theorem o6_57 : ops6[57]?.map (fun o => (o.dst, o.op, o.guard)) = some (some 94, .load 3 (.tmp 93), none) := by kernel_rfl
theorem o6_58 : ops6[58]?.map (fun o => (o.dst, o.op, o.guard)) = some (some 95, .binOp .eql 3 (.tmp 94) (.const (.int .i64 5)) 3, none) := by kernel_rfl
theorem o6_59 : ops6[59]?.map (fun o => (o.dst, o.op, o.guard)) = some (some 96, .move (.tmp 95), none) := by kernel_rfl
theorem o6_60 : ops6[60]?.map (fun o => (o.dst, o.op, o.guard)) = some (some 97, .move (.tmp 6), some (59, true)) := by kernel_rfl
theorem o6_61 : ops6[61]?.map (fun o => (o.dst, o.op, o.guard)) = some (some 98, .pick (.tmp 96) (.tmp 97) (.const (.bool false)), none) := by kernel_rfl
theorem o6_62 : ops6[62]?.map (fun o => (o.dst, o.op, o.guard)) = some (some 99, .build 58 #[(0, (.tmp 98)), (1, (.const (.int .i64 3))), (2, (.const (.int .i64 3)))], none) := by kernel_rfl
theorem o6_63 : ops6[63]?.map (fun o => (o.dst, o.op, o.guard)) = some (some 100, .fieldAddr 38 (.tmp 3) 0, none) := by kernel_rfl
theorem o6_64 : ops6[64]?.map (fun o => (o.dst, o.op, o.guard)) = some (some 101, .load 3 (.tmp 100), none) := by kernel_rfl
theorem o6_65 : ops6[65]?.map (fun o => (o.dst, o.op, o.guard)) = some (some 102, .binOp .eql 3 (.tmp 101) (.const (.int .i64 5)) 3, none) := by kernel_rfl
theorem o6_66 : ops6[66]?.map (fun o => (o.dst, o.op, o.guard)) = some (some 103, .build 58 #[(0, (.tmp 102)), (1, (.const (.int .i64 3))), (2, (.const (.int .i64 2)))], none) := by kernel_rfl
theorem o6_67 : ops6[67]?.map (fun o => (o.dst, o.op, o.guard)) = some (some 104, .move (.tmp 8), none) := by kernel_rfl
theorem o6_68 : ops6[68]?.map (fun o => (o.dst, o.op, o.guard)) = some (some 105, .move (.tmp 104), none) := by kernel_rfl
theorem o6_69 : ops6[69]?.map (fun o => (o.dst, o.op, o.guard)) = some (some 106, .move (.tmp 6), some (68, true)) := by kernel_rfl
theorem o6_70 : ops6[70]?.map (fun o => (o.dst, o.op, o.guard)) = some (some 107, .pick (.tmp 105) (.tmp 106) (.const (.bool false)), none) := by kernel_rfl
theorem o6_71 : ops6[71]?.map (fun o => (o.dst, o.op, o.guard)) = some (some 108, .build 58 #[(0, (.tmp 107)), (1, (.const (.int .i64 4))), (2, (.const (.int .i64 2)))], none) := by kernel_rfl
theorem o6_72 : ops6[72]?.map (fun o => (o.dst, o.op, o.guard)) = some (some 109, .move (.tmp 8), none) := by kernel_rfl
theorem o6_73 : ops6[73]?.map (fun o => (o.dst, o.op, o.guard)) = some (some 110, .build 58 #[(0, (.tmp 109)), (1, (.const (.int .i64 1))), (2, (.const (.int .i64 1)))], none) := by kernel_rfl
theorem o6_74 : ops6[74]?.map (fun o => (o.dst, o.op, o.guard)) = some (some 111, .move (.tmp 9), none) := by kernel_rfl
theorem o6_75 : ops6[75]?.map (fun o => (o.dst, o.op, o.guard)) = some (some 112, .move (.tmp 111), none) := by kernel_rfl
theorem o6_76 : ops6[76]?.map (fun o => (o.dst, o.op, o.guard)) = some (some 113, .fieldAddr 38 (.tmp 3) 1, some (75, true)) := by kernel_rfl
theorem o6_77 : ops6[77]?.map (fun o => (o.dst, o.op, o.guard)) = some (some 114, .load 4 (.tmp 113), some (75, true)) := by kernel_rfl
theorem o6_78 : ops6[78]?.map (fun o => (o.dst, o.op, o.guard)) = some (some 115, .pick (.tmp 112) (.tmp 114) (.const (.bool false)), none) := by kernel_rfl
theorem o6_79 : ops6[79]?.map (fun o => (o.dst, o.op, o.guard)) = some (some 116, .build 58 #[(0, (.tmp 115)), (1, (.const (.int .i64 5))), (2, (.const (.int .i64 2)))], none) := by kernel_rfl
theorem o6_80 : ops6[80]?.map (fun o => (o.dst, o.op, o.guard)) = some (some 117, .move (.tmp 9), none) := by kernel_rfl
theorem o6_81 : ops6[81]?.map (fun o => (o.dst, o.op, o.guard)) = some (some 118, .move (.tmp 117), none) := by kernel_rfl
theorem o6_82 : ops6[82]?.map (fun o => (o.dst, o.op, o.guard)) = some (some 119, .move (.tmp 6), some (81, true)) := by kernel_rfl
theorem o6_83 : ops6[83]?.map (fun o => (o.dst, o.op, o.guard)) = some (some 120, .pick (.tmp 118) (.tmp 119) (.const (.bool false)), none) := by kernel_rfl
theorem o6_84 : ops6[84]?.map (fun o => (o.dst, o.op, o.guard)) = some (some 121, .build 58 #[(0, (.tmp 120)), (1, (.const (.int .i64 4))), (2, (.const (.int .i64 3)))], none) := by kernel_rfl
theorem o6_85 : ops6[85]?.map (fun o => (o.dst, o.op, o.guard)) = some (some 122, .move (.tmp 9), none) := by kernel_rfl
theorem o6_86 : ops6[86]?.map (fun o => (o.dst, o.op, o.guard)) = some (some 123, .move (.tmp 122), none) := by kernel_rfl
theorem o6_87 : ops6[87]?.map (fun o => (o.dst, o.op, o.guard)) = some (some 124, .fieldAddr 38 (.tmp 3) 2, some (86, true)) := by kernel_rfl
theorem o6_88 : ops6[88]?.map (fun o => (o.dst, o.op, o.guard)) = some (some 125, .load 4 (.tmp 124), some (86, true)) := by kernel_rfl
theorem o6_89 : ops6[89]?.map (fun o => (o.dst, o.op, o.guard)) = some (some 126, .pick (.tmp 123) (.tmp 125) (.const (.bool false)), none) := by kernel_rfl
theorem o6_90 : ops6[90]?.map (fun o => (o.dst, o.op, o.guard)) = some (some 127, .build 58 #[(0, (.tmp 126)), (1, (.const (.int .i64 6))), (2, (.const (.int .i64 2)))], none) := by kernel_rfl
theorem o6_91 : ops6[91]?.map (fun o => (o.dst, o.op, o.guard)) = some (some 128, .move (.tmp 9), none) := by kernel_rfl
theorem o6_92 : ops6[92]?.map (fun o => (o.dst, o.op, o.guard)) = some (some 129, .build 58 #[(0, (.tmp 128)), (1, (.const (.int .i64 7))), (2, (.const (.int .i64 2)))], none) := by kernel_rfl
theorem j6_2 : (ops6.toArray[2]?).bind (·.dst) = some 39 := by kernel_rfl
theorem j6_11 : (ops6.toArray[11]?).bind (·.dst) = some 48 := by kernel_rfl
theorem j6_19 : (ops6.toArray[19]?).bind (·.dst) = some 56 := by kernel_rfl
theorem j6_32 : (ops6.toArray[32]?).bind (·.dst) = some 69 := by kernel_rfl
theorem j6_45 : (ops6.toArray[45]?).bind (·.dst) = some 82 := by kernel_rfl
theorem j6_50 : (ops6.toArray[50]?).bind (·.dst) = some 87 := by kernel_rfl
theorem j6_59 : (ops6.toArray[59]?).bind (·.dst) = some 96 := by kernel_rfl
theorem j6_68 : (ops6.toArray[68]?).bind (·.dst) = some 105 := by kernel_rfl
theorem j6_75 : (ops6.toArray[75]?).bind (·.dst) = some 112 := by kernel_rfl
theorem j6_81 : (ops6.toArray[81]?).bind (·.dst) = some 118 := by kernel_rfl
theorem j6_86 : (ops6.toArray[86]?).bind (·.dst) = some 123 := by kernel_rfl

section
variable {ρ : Operand → Value} {w : World} {x : Operand} {B : Nat}
theorem ev_fa {t : TypeId} {f off : Nat} (hx : ρ x = .pointer (some ⟨B, 0, none⟩)) (hr : ∀ W, (Instr.fieldAt t (.pointer (some ⟨B, 0, none⟩)) f).run Try.prog W = .ok (.pointer (some ⟨B, off, none⟩)) W) (o : Oper) (ho : o.op = .fieldAddr t x f) : (execOp ρ o).run Try.prog w = .ok (.value (.pointer (some ⟨B, off, none⟩))) w := by
  have e : execOp ρ o = (do pure (.value (← Instr.fieldAt t (ρ x) f))) := by simp only [execOp, ho]
  rw [e, hx, Sem.run_bind, hr]
  rfl
theorem ev_ldi {off : Nat} {n : Int} (hx : ρ x = .pointer (some ⟨B, off, none⟩)) (hc : w.cell? ⟨B, off, none⟩ = some (.int .i64 n)) (o : Oper) (ho : o.op = .load 3 x) : (execOp ρ o).run Try.prog w = .ok (.value (.int .i64 n)) w := by
  simp [execOp, ho, hx, hc, go_sem]
theorem ev_ldb {off : Nat} {n : Bool} (hx : ρ x = .pointer (some ⟨B, off, none⟩)) (hc : w.cell? ⟨B, off, none⟩ = some (.bool n)) (o : Oper) (ho : o.op = .load 4 x) : (execOp ρ o).run Try.prog w = .ok (.value (.bool n)) w := by
  simp [execOp, ho, hx, hc, go_sem]
theorem ev_line {x0 x1 x2 : Operand} {b : Bool} {m n : Int} (h0 : ρ x0 = .bool b) (h1 : ρ x1 = .int .i64 m) (h2 : ρ x2 = .int .i64 n) (o : Oper) (ho : o.op = .build 58 #[(0, x0), (1, x1), (2, x2)]) : (execOp ρ o).run Try.prog w = .ok (.value (.agg #[.bool b, .int .i64 m, .int .i64 n])) w := by
  simp [execOp, ho, h0, h1, h2, go_sem]

theorem fa_38_0 (W : World) : (Instr.fieldAt 38 (.pointer (some ⟨B, 0, none⟩)) 0).run Try.prog W = .ok (.pointer (some ⟨B, 0, none⟩)) W := by simp [go_sem]
theorem fa_38_1 (W : World) : (Instr.fieldAt 38 (.pointer (some ⟨B, 0, none⟩)) 1).run Try.prog W = .ok (.pointer (some ⟨B, 1, none⟩)) W := by simp [go_sem]
theorem fa_38_2 (W : World) : (Instr.fieldAt 38 (.pointer (some ⟨B, 0, none⟩)) 2).run Try.prog W = .ok (.pointer (some ⟨B, 2, none⟩)) W := by simp [go_sem]
theorem fa_38_4 (W : World) : (Instr.fieldAt 38 (.pointer (some ⟨B, 0, none⟩)) 4).run Try.prog W = .ok (.pointer (some ⟨B, 4, none⟩)) W := by simp [go_sem]
theorem fa_54_2 (W : World) : (Instr.fieldAt 54 (.pointer (some ⟨B, 0, none⟩)) 2).run Try.prog W = .ok (.pointer (some ⟨B, 6, none⟩)) W := by simp [go_sem]
end

section
variable {Q : Exit → Act → World → Prop} {a : Act} {W : World} {kind lack st acc : Int} {wo em sto wr rm fr : Bool} {B2 B3 : Nat}
set_option maxHeartbeats 400000 in
theorem lk_0 (z : a.tmps.size = 134) (f5 : Sv a 5 (.int .i64 kind)) (f6 : Sv a 6 (.bool wo))  (h : ∀ a', Nx 37 a a' → Sv a' 42 (.agg #[.bool ((kind == 1) && wo), .int .i64 3, .int .i64 2]) → wpList Try.prog ops6.toArray Q (ops6.drop 6) a' W) : wpList Try.prog ops6.toArray Q (ops6.drop 0) a W := by
  have m : Nx 37 a a := Nx.refl _ _
  refine wk_val (k := 0) o6_0 (by rw [z]; decide) (ev_move f5.eval) fun a1 n f37 => ?_
  have z := n.1.trans z
  have m := m.trans (n.mono (lo' := 37) (by decide))
  have f6 := n.keep f6 (by decide)
  refine wk_val (k := 1) o6_1 (by rw [z]; decide) (ev_eql f37.eval rfl) fun a2 n f38 => ?_
  have z := n.1.trans z
  have m := m.trans (n.mono (lo' := 37) (by decide))
  have f6 := n.keep f6 (by decide)
  refine wk_val (k := 2) o6_2 (by rw [z]; decide) (ev_move f38.eval) fun a3 n f39 => ?_
  have z := n.1.trans z
  have m := m.trans (n.mono (lo' := 37) (by decide))
  have f6 := n.keep f6 (by decide)
  generalize hb39 : (kind == 1) = b39 at *
  cases b39
  · skip
    refine wk_no (k := 3) o6_3 j6_2 f39 rfl fun a4 n => ?_
    have z := n.1.trans z
    have m := m.trans (n.mono (lo' := 37) (by decide))
    have f39 := n.keep f39 (by decide)
    refine wk_val (k := 4) (v := .bool (false && wo)) o6_4 (by rw [z]; decide) (fun o ho => ev_and (c := wo) f39.eval (fun h => by cases h) o ho rfl) fun a5 n f41 => ?_
    have z := n.1.trans z
    have m := m.trans (n.mono (lo' := 37) (by decide))
    refine wk_val (k := 5) o6_5 (by rw [z]; decide) (ev_line f41.eval rfl rfl) fun a6 n f42 => ?_
    have z := n.1.trans z
    have m := m.trans (n.mono (lo' := 37) (by decide))
    exact h a6 m f42
  · skip
    refine wk_yes (k := 3) o6_3 j6_2 f39 (by rw [z]; decide) (ev_move f6.eval) fun a7 n f40 => ?_
    have z := n.1.trans z
    have m := m.trans (n.mono (lo' := 37) (by decide))
    have f39 := n.keep f39 (by decide)
    refine wk_val (k := 4) (v := .bool (true && wo)) o6_4 (by rw [z]; decide) (fun o ho => ev_and (c := wo) f39.eval (fun _ => f40.eval) o ho rfl) fun a8 n f41 => ?_
    have z := n.1.trans z
    have m := m.trans (n.mono (lo' := 37) (by decide))
    refine wk_val (k := 5) o6_5 (by rw [z]; decide) (ev_line f41.eval rfl rfl) fun a9 n f42 => ?_
    have z := n.1.trans z
    have m := m.trans (n.mono (lo' := 37) (by decide))
    exact h a9 m f42
set_option maxHeartbeats 400000 in
theorem lk_1 (z : a.tmps.size = 134) (f5 : Sv a 5 (.int .i64 kind))  (h : ∀ a', Nx 43 a a' → Sv a' 45 (.agg #[.bool (kind == 1), .int .i64 1, .int .i64 1]) → wpList Try.prog ops6.toArray Q (ops6.drop 9) a' W) : wpList Try.prog ops6.toArray Q (ops6.drop 6) a W := by
  have m : Nx 43 a a := Nx.refl _ _
  refine wk_val (k := 6) o6_6 (by rw [z]; decide) (ev_move f5.eval) fun a1 n f43 => ?_
  have z := n.1.trans z
  have m := m.trans (n.mono (lo' := 43) (by decide))
  refine wk_val (k := 7) o6_7 (by rw [z]; decide) (ev_eql f43.eval rfl) fun a2 n f44 => ?_
  have z := n.1.trans z
  have m := m.trans (n.mono (lo' := 43) (by decide))
  refine wk_val (k := 8) o6_8 (by rw [z]; decide) (ev_line f44.eval rfl rfl) fun a3 n f45 => ?_
  have z := n.1.trans z
  have m := m.trans (n.mono (lo' := 43) (by decide))
  exact h a3 m f45
set_option maxHeartbeats 400000 in
theorem lk_2 (z : a.tmps.size = 134) (f3 : Sv a 3 (.pointer (some ⟨B3, 0, none⟩))) (f5 : Sv a 5 (.int .i64 kind)) (q34 : W.cell? ⟨B3, 4, none⟩ = some (.bool fr)) (h : ∀ a', Nx 46 a a' → Sv a' 53 (.agg #[.bool ((kind == 6) && (!fr)), .int .i64 2, .int .i64 1]) → wpList Try.prog ops6.toArray Q (ops6.drop 17) a' W) : wpList Try.prog ops6.toArray Q (ops6.drop 9) a W := by
  have m : Nx 46 a a := Nx.refl _ _
  refine wk_val (k := 9) o6_9 (by rw [z]; decide) (ev_move f5.eval) fun a1 n f46 => ?_
  have z := n.1.trans z
  have m := m.trans (n.mono (lo' := 46) (by decide))
  have f3 := n.keep f3 (by decide)
  refine wk_val (k := 10) o6_10 (by rw [z]; decide) (ev_eql f46.eval rfl) fun a2 n f47 => ?_
  have z := n.1.trans z
  have m := m.trans (n.mono (lo' := 46) (by decide))
  have f3 := n.keep f3 (by decide)
  refine wk_val (k := 11) o6_11 (by rw [z]; decide) (ev_move f47.eval) fun a3 n f48 => ?_
  have z := n.1.trans z
  have m := m.trans (n.mono (lo' := 46) (by decide))
  have f3 := n.keep f3 (by decide)
  generalize hb48 : (kind == 6) = b48 at *
  cases b48
  · skip
    refine wk_no (k := 12) o6_12 j6_11 f48 rfl fun a4 n => ?_
    have z := n.1.trans z
    have m := m.trans (n.mono (lo' := 46) (by decide))
    have f48 := n.keep f48 (by decide)
    refine wk_no (k := 13) o6_13 j6_11 f48 rfl fun a5 n => ?_
    have z := n.1.trans z
    have m := m.trans (n.mono (lo' := 46) (by decide))
    have f48 := n.keep f48 (by decide)
    refine wk_no (k := 14) o6_14 j6_11 f48 rfl fun a6 n => ?_
    have z := n.1.trans z
    have m := m.trans (n.mono (lo' := 46) (by decide))
    have f48 := n.keep f48 (by decide)
    refine wk_val (k := 15) (v := .bool (false && (!fr))) o6_15 (by rw [z]; decide) (fun o ho => ev_and (c := (!fr)) f48.eval (fun h => by cases h) o ho rfl) fun a7 n f52 => ?_
    have z := n.1.trans z
    have m := m.trans (n.mono (lo' := 46) (by decide))
    refine wk_val (k := 16) o6_16 (by rw [z]; decide) (ev_line f52.eval rfl rfl) fun a8 n f53 => ?_
    have z := n.1.trans z
    have m := m.trans (n.mono (lo' := 46) (by decide))
    exact h a8 m f53
  · skip
    refine wk_yes (k := 12) o6_12 j6_11 f48 (by rw [z]; decide) (ev_fa f3.eval fa_38_4) fun a9 n f49 => ?_
    have z := n.1.trans z
    have m := m.trans (n.mono (lo' := 46) (by decide))
    have f48 := n.keep f48 (by decide)
    refine wk_yes (k := 13) o6_13 j6_11 f48 (by rw [z]; decide) (ev_ldb f49.eval q34) fun a10 n f50 => ?_
    have z := n.1.trans z
    have m := m.trans (n.mono (lo' := 46) (by decide))
    have f48 := n.keep f48 (by decide)
    refine wk_yes (k := 14) o6_14 j6_11 f48 (by rw [z]; decide) (ev_not f50.eval) fun a11 n f51 => ?_
    have z := n.1.trans z
    have m := m.trans (n.mono (lo' := 46) (by decide))
    have f48 := n.keep f48 (by decide)
    refine wk_val (k := 15) (v := .bool (true && (!fr))) o6_15 (by rw [z]; decide) (fun o ho => ev_and (c := (!fr)) f48.eval (fun _ => f51.eval) o ho rfl) fun a12 n f52 => ?_
    have z := n.1.trans z
    have m := m.trans (n.mono (lo' := 46) (by decide))
    refine wk_val (k := 16) o6_16 (by rw [z]; decide) (ev_line f52.eval rfl rfl) fun a13 n f53 => ?_
    have z := n.1.trans z
    have m := m.trans (n.mono (lo' := 46) (by decide))
    exact h a13 m f53
set_option maxHeartbeats 400000 in
theorem lk_3 (z : a.tmps.size = 134) (f5 : Sv a 5 (.int .i64 kind)) (f7 : Sv a 7 (.int .i64 lack))  (h : ∀ a', Nx 54 a a' → Sv a' 62 (.agg #[.bool ((kind == 6) && (decide (0 < lack))), .int .i64 3, .int .i64 (IntKind.i64.wrap (lack + 1))]) → wpList Try.prog ops6.toArray Q (ops6.drop 26) a' W) : wpList Try.prog ops6.toArray Q (ops6.drop 17) a W := by
  have m : Nx 54 a a := Nx.refl _ _
  refine wk_val (k := 17) o6_17 (by rw [z]; decide) (ev_move f5.eval) fun a1 n f54 => ?_
  have z := n.1.trans z
  have m := m.trans (n.mono (lo' := 54) (by decide))
  have f7 := n.keep f7 (by decide)
  refine wk_val (k := 18) o6_18 (by rw [z]; decide) (ev_eql f54.eval rfl) fun a2 n f55 => ?_
  have z := n.1.trans z
  have m := m.trans (n.mono (lo' := 54) (by decide))
  have f7 := n.keep f7 (by decide)
  refine wk_val (k := 19) o6_19 (by rw [z]; decide) (ev_move f55.eval) fun a3 n f56 => ?_
  have z := n.1.trans z
  have m := m.trans (n.mono (lo' := 54) (by decide))
  have f7 := n.keep f7 (by decide)
  generalize hb56 : (kind == 6) = b56 at *
  cases b56
  · skip
    refine wk_no (k := 20) o6_20 j6_19 f56 rfl fun a4 n => ?_
    have z := n.1.trans z
    have m := m.trans (n.mono (lo' := 54) (by decide))
    have f7 := n.keep f7 (by decide)
    have f56 := n.keep f56 (by decide)
    refine wk_no (k := 21) o6_21 j6_19 f56 rfl fun a5 n => ?_
    have z := n.1.trans z
    have m := m.trans (n.mono (lo' := 54) (by decide))
    have f7 := n.keep f7 (by decide)
    have f56 := n.keep f56 (by decide)
    refine wk_val (k := 22) (v := .bool (false && (decide (0 < lack)))) o6_22 (by rw [z]; decide) (fun o ho => ev_and (c := (decide (0 < lack))) f56.eval (fun h => by cases h) o ho rfl) fun a6 n f59 => ?_
    have z := n.1.trans z
    have m := m.trans (n.mono (lo' := 54) (by decide))
    have f7 := n.keep f7 (by decide)
    refine wk_val (k := 23) o6_23 (by rw [z]; decide) (ev_move f7.eval) fun a7 n f60 => ?_
    have z := n.1.trans z
    have m := m.trans (n.mono (lo' := 54) (by decide))
    have f59 := n.keep f59 (by decide)
    refine wk_val (k := 24) o6_24 (by rw [z]; decide) (ev_add f60.eval rfl) fun a8 n f61 => ?_
    have z := n.1.trans z
    have m := m.trans (n.mono (lo' := 54) (by decide))
    have f59 := n.keep f59 (by decide)
    refine wk_val (k := 25) o6_25 (by rw [z]; decide) (ev_line f59.eval rfl f61.eval) fun a9 n f62 => ?_
    have z := n.1.trans z
    have m := m.trans (n.mono (lo' := 54) (by decide))
    exact h a9 m f62
  · skip
    refine wk_yes (k := 20) o6_20 j6_19 f56 (by rw [z]; decide) (ev_move f7.eval) fun a10 n f57 => ?_
    have z := n.1.trans z
    have m := m.trans (n.mono (lo' := 54) (by decide))
    have f7 := n.keep f7 (by decide)
    have f56 := n.keep f56 (by decide)
    refine wk_yes (k := 21) o6_21 j6_19 f56 (by rw [z]; decide) (ev_gtr f57.eval rfl) fun a11 n f58 => ?_
    have z := n.1.trans z
    have m := m.trans (n.mono (lo' := 54) (by decide))
    have f7 := n.keep f7 (by decide)
    have f56 := n.keep f56 (by decide)
    refine wk_val (k := 22) (v := .bool (true && (decide (0 < lack)))) o6_22 (by rw [z]; decide) (fun o ho => ev_and (c := (decide (0 < lack))) f56.eval (fun _ => f58.eval) o ho rfl) fun a12 n f59 => ?_
    have z := n.1.trans z
    have m := m.trans (n.mono (lo' := 54) (by decide))
    have f7 := n.keep f7 (by decide)
    refine wk_val (k := 23) o6_23 (by rw [z]; decide) (ev_move f7.eval) fun a13 n f60 => ?_
    have z := n.1.trans z
    have m := m.trans (n.mono (lo' := 54) (by decide))
    have f59 := n.keep f59 (by decide)
    refine wk_val (k := 24) o6_24 (by rw [z]; decide) (ev_add f60.eval rfl) fun a14 n f61 => ?_
    have z := n.1.trans z
    have m := m.trans (n.mono (lo' := 54) (by decide))
    have f59 := n.keep f59 (by decide)
    refine wk_val (k := 25) o6_25 (by rw [z]; decide) (ev_line f59.eval rfl f61.eval) fun a15 n f62 => ?_
    have z := n.1.trans z
    have m := m.trans (n.mono (lo' := 54) (by decide))
    exact h a15 m f62
set_option maxHeartbeats 400000 in
theorem lk_4 (z : a.tmps.size = 134) (f5 : Sv a 5 (.int .i64 kind))  (h : ∀ a', Nx 63 a a' → Sv a' 65 (.agg #[.bool (kind == 6), .int .i64 1, .int .i64 1]) → wpList Try.prog ops6.toArray Q (ops6.drop 29) a' W) : wpList Try.prog ops6.toArray Q (ops6.drop 26) a W := by
  have m : Nx 63 a a := Nx.refl _ _
  refine wk_val (k := 26) o6_26 (by rw [z]; decide) (ev_move f5.eval) fun a1 n f63 => ?_
  have z := n.1.trans z
  have m := m.trans (n.mono (lo' := 63) (by decide))
  refine wk_val (k := 27) o6_27 (by rw [z]; decide) (ev_eql f63.eval rfl) fun a2 n f64 => ?_
  have z := n.1.trans z
  have m := m.trans (n.mono (lo' := 63) (by decide))
  refine wk_val (k := 28) o6_28 (by rw [z]; decide) (ev_line f64.eval rfl rfl) fun a3 n f65 => ?_
  have z := n.1.trans z
  have m := m.trans (n.mono (lo' := 63) (by decide))
  exact h a3 m f65
set_option maxHeartbeats 400000 in
theorem lk_5 (z : a.tmps.size = 134) (f2 : Sv a 2 (.pointer (some ⟨B2, 0, none⟩))) (q2 : W.cell? ⟨B2, 6, none⟩ = some (.int .i64 st)) (h : ∀ a', Nx 66 a a' → Sv a' 74 (.agg #[.bool ((st == 3) || (st == 4)), .int .i64 7, .int .i64 1]) → wpList Try.prog ops6.toArray Q (ops6.drop 38) a' W) : wpList Try.prog ops6.toArray Q (ops6.drop 29) a W := by
  have m : Nx 66 a a := Nx.refl _ _
  refine wk_val (k := 29) o6_29 (by rw [z]; decide) (ev_fa f2.eval fa_54_2) fun a1 n f66 => ?_
  have z := n.1.trans z
  have m := m.trans (n.mono (lo' := 66) (by decide))
  have f2 := n.keep f2 (by decide)
  refine wk_val (k := 30) o6_30 (by rw [z]; decide) (ev_ldi f66.eval q2) fun a2 n f67 => ?_
  have z := n.1.trans z
  have m := m.trans (n.mono (lo' := 66) (by decide))
  have f2 := n.keep f2 (by decide)
  refine wk_val (k := 31) o6_31 (by rw [z]; decide) (ev_eql f67.eval rfl) fun a3 n f68 => ?_
  have z := n.1.trans z
  have m := m.trans (n.mono (lo' := 66) (by decide))
  have f2 := n.keep f2 (by decide)
  refine wk_val (k := 32) o6_32 (by rw [z]; decide) (ev_move f68.eval) fun a4 n f69 => ?_
  have z := n.1.trans z
  have m := m.trans (n.mono (lo' := 66) (by decide))
  have f2 := n.keep f2 (by decide)
  generalize hb69 : (st == 3) = b69 at *
  cases b69
  · skip
    refine wk_yes (k := 33) o6_33 j6_32 f69 (by rw [z]; decide) (ev_fa f2.eval fa_54_2) fun a5 n f70 => ?_
    have z := n.1.trans z
    have m := m.trans (n.mono (lo' := 66) (by decide))
    have f69 := n.keep f69 (by decide)
    refine wk_yes (k := 34) o6_34 j6_32 f69 (by rw [z]; decide) (ev_ldi f70.eval q2) fun a6 n f71 => ?_
    have z := n.1.trans z
    have m := m.trans (n.mono (lo' := 66) (by decide))
    have f69 := n.keep f69 (by decide)
    refine wk_yes (k := 35) o6_35 j6_32 f69 (by rw [z]; decide) (ev_eql f71.eval rfl) fun a7 n f72 => ?_
    have z := n.1.trans z
    have m := m.trans (n.mono (lo' := 66) (by decide))
    have f69 := n.keep f69 (by decide)
    refine wk_val (k := 36) (v := .bool (false || (st == 4))) o6_36 (by rw [z]; decide) (fun o ho => ev_or (c := (st == 4)) f69.eval (fun _ => f72.eval) o ho rfl) fun a8 n f73 => ?_
    have z := n.1.trans z
    have m := m.trans (n.mono (lo' := 66) (by decide))
    refine wk_val (k := 37) o6_37 (by rw [z]; decide) (ev_line f73.eval rfl rfl) fun a9 n f74 => ?_
    have z := n.1.trans z
    have m := m.trans (n.mono (lo' := 66) (by decide))
    exact h a9 m f74
  · skip
    refine wk_no (k := 33) o6_33 j6_32 f69 rfl fun a10 n => ?_
    have z := n.1.trans z
    have m := m.trans (n.mono (lo' := 66) (by decide))
    have f69 := n.keep f69 (by decide)
    refine wk_no (k := 34) o6_34 j6_32 f69 rfl fun a11 n => ?_
    have z := n.1.trans z
    have m := m.trans (n.mono (lo' := 66) (by decide))
    have f69 := n.keep f69 (by decide)
    refine wk_no (k := 35) o6_35 j6_32 f69 rfl fun a12 n => ?_
    have z := n.1.trans z
    have m := m.trans (n.mono (lo' := 66) (by decide))
    have f69 := n.keep f69 (by decide)
    refine wk_val (k := 36) (v := .bool (true || (st == 4))) o6_36 (by rw [z]; decide) (fun o ho => ev_or (c := (st == 4)) f69.eval (fun h => by cases h) o ho rfl) fun a13 n f73 => ?_
    have z := n.1.trans z
    have m := m.trans (n.mono (lo' := 66) (by decide))
    refine wk_val (k := 37) o6_37 (by rw [z]; decide) (ev_line f73.eval rfl rfl) fun a14 n f74 => ?_
    have z := n.1.trans z
    have m := m.trans (n.mono (lo' := 66) (by decide))
    exact h a14 m f74
set_option maxHeartbeats 400000 in
theorem lk_6 (z : a.tmps.size = 134) (f3 : Sv a 3 (.pointer (some ⟨B3, 0, none⟩))) (q30 : W.cell? ⟨B3, 0, none⟩ = some (.int .i64 acc)) (h : ∀ a', Nx 75 a a' → Sv a' 78 (.agg #[.bool (acc == 1), .int .i64 2, .int .i64 1]) → wpList Try.prog ops6.toArray Q (ops6.drop 42) a' W) : wpList Try.prog ops6.toArray Q (ops6.drop 38) a W := by
  have m : Nx 75 a a := Nx.refl _ _
  refine wk_val (k := 38) o6_38 (by rw [z]; decide) (ev_fa f3.eval fa_38_0) fun a1 n f75 => ?_
  have z := n.1.trans z
  have m := m.trans (n.mono (lo' := 75) (by decide))
  refine wk_val (k := 39) o6_39 (by rw [z]; decide) (ev_ldi f75.eval q30) fun a2 n f76 => ?_
  have z := n.1.trans z
  have m := m.trans (n.mono (lo' := 75) (by decide))
  refine wk_val (k := 40) o6_40 (by rw [z]; decide) (ev_eql f76.eval rfl) fun a3 n f77 => ?_
  have z := n.1.trans z
  have m := m.trans (n.mono (lo' := 75) (by decide))
  refine wk_val (k := 41) o6_41 (by rw [z]; decide) (ev_line f77.eval rfl rfl) fun a4 n f78 => ?_
  have z := n.1.trans z
  have m := m.trans (n.mono (lo' := 75) (by decide))
  exact h a4 m f78
set_option maxHeartbeats 400000 in
theorem lk_7 (z : a.tmps.size = 134) (f3 : Sv a 3 (.pointer (some ⟨B3, 0, none⟩))) (q30 : W.cell? ⟨B3, 0, none⟩ = some (.int .i64 acc)) (h : ∀ a', Nx 79 a a' → Sv a' 92 (.agg #[.bool (((acc == 2) || (acc == 3)) || (acc == 4)), .int .i64 1, .int .i64 1]) → wpList Try.prog ops6.toArray Q (ops6.drop 56) a' W) : wpList Try.prog ops6.toArray Q (ops6.drop 42) a W := by
  have m : Nx 79 a a := Nx.refl _ _
  refine wk_val (k := 42) o6_42 (by rw [z]; decide) (ev_fa f3.eval fa_38_0) fun a1 n f79 => ?_
  have z := n.1.trans z
  have m := m.trans (n.mono (lo' := 79) (by decide))
  have f3 := n.keep f3 (by decide)
  refine wk_val (k := 43) o6_43 (by rw [z]; decide) (ev_ldi f79.eval q30) fun a2 n f80 => ?_
  have z := n.1.trans z
  have m := m.trans (n.mono (lo' := 79) (by decide))
  have f3 := n.keep f3 (by decide)
  refine wk_val (k := 44) o6_44 (by rw [z]; decide) (ev_eql f80.eval rfl) fun a3 n f81 => ?_
  have z := n.1.trans z
  have m := m.trans (n.mono (lo' := 79) (by decide))
  have f3 := n.keep f3 (by decide)
  refine wk_val (k := 45) o6_45 (by rw [z]; decide) (ev_move f81.eval) fun a4 n f82 => ?_
  have z := n.1.trans z
  have m := m.trans (n.mono (lo' := 79) (by decide))
  have f3 := n.keep f3 (by decide)
  generalize hb82 : (acc == 2) = b82 at *
  cases b82
  · skip
    refine wk_yes (k := 46) o6_46 j6_45 f82 (by rw [z]; decide) (ev_fa f3.eval fa_38_0) fun a5 n f83 => ?_
    have z := n.1.trans z
    have m := m.trans (n.mono (lo' := 79) (by decide))
    have f3 := n.keep f3 (by decide)
    have f82 := n.keep f82 (by decide)
    refine wk_yes (k := 47) o6_47 j6_45 f82 (by rw [z]; decide) (ev_ldi f83.eval q30) fun a6 n f84 => ?_
    have z := n.1.trans z
    have m := m.trans (n.mono (lo' := 79) (by decide))
    have f3 := n.keep f3 (by decide)
    have f82 := n.keep f82 (by decide)
    refine wk_yes (k := 48) o6_48 j6_45 f82 (by rw [z]; decide) (ev_eql f84.eval rfl) fun a7 n f85 => ?_
    have z := n.1.trans z
    have m := m.trans (n.mono (lo' := 79) (by decide))
    have f3 := n.keep f3 (by decide)
    have f82 := n.keep f82 (by decide)
    refine wk_val (k := 49) (v := .bool (false || (acc == 3))) o6_49 (by rw [z]; decide) (fun o ho => ev_or (c := (acc == 3)) f82.eval (fun _ => f85.eval) o ho rfl) fun a8 n f86 => ?_
    have z := n.1.trans z
    have m := m.trans (n.mono (lo' := 79) (by decide))
    have f3 := n.keep f3 (by decide)
    refine wk_val (k := 50) o6_50 (by rw [z]; decide) (ev_move f86.eval) fun a9 n f87 => ?_
    have z := n.1.trans z
    have m := m.trans (n.mono (lo' := 79) (by decide))
    have f3 := n.keep f3 (by decide)
    generalize hb87 : (false || (acc == 3)) = b87 at *
    cases b87
    · skip
      refine wk_yes (k := 51) o6_51 j6_50 f87 (by rw [z]; decide) (ev_fa f3.eval fa_38_0) fun a10 n f88 => ?_
      have z := n.1.trans z
      have m := m.trans (n.mono (lo' := 79) (by decide))
      have f87 := n.keep f87 (by decide)
      refine wk_yes (k := 52) o6_52 j6_50 f87 (by rw [z]; decide) (ev_ldi f88.eval q30) fun a11 n f89 => ?_
      have z := n.1.trans z
      have m := m.trans (n.mono (lo' := 79) (by decide))
      have f87 := n.keep f87 (by decide)
      refine wk_yes (k := 53) o6_53 j6_50 f87 (by rw [z]; decide) (ev_eql f89.eval rfl) fun a12 n f90 => ?_
      have z := n.1.trans z
      have m := m.trans (n.mono (lo' := 79) (by decide))
      have f87 := n.keep f87 (by decide)
      refine wk_val (k := 54) (v := .bool (false || (acc == 4))) o6_54 (by rw [z]; decide) (fun o ho => ev_or (c := (acc == 4)) f87.eval (fun _ => f90.eval) o ho rfl) fun a13 n f91 => ?_
      have z := n.1.trans z
      have m := m.trans (n.mono (lo' := 79) (by decide))
      refine wk_val (k := 55) o6_55 (by rw [z]; decide) (ev_line f91.eval rfl rfl) fun a14 n f92 => ?_
      have z := n.1.trans z
      have m := m.trans (n.mono (lo' := 79) (by decide))
      exact h a14 m f92
    · skip
      refine wk_no (k := 51) o6_51 j6_50 f87 rfl fun a15 n => ?_
      have z := n.1.trans z
      have m := m.trans (n.mono (lo' := 79) (by decide))
      have f87 := n.keep f87 (by decide)
      refine wk_no (k := 52) o6_52 j6_50 f87 rfl fun a16 n => ?_
      have z := n.1.trans z
      have m := m.trans (n.mono (lo' := 79) (by decide))
      have f87 := n.keep f87 (by decide)
      refine wk_no (k := 53) o6_53 j6_50 f87 rfl fun a17 n => ?_
      have z := n.1.trans z
      have m := m.trans (n.mono (lo' := 79) (by decide))
      have f87 := n.keep f87 (by decide)
      refine wk_val (k := 54) (v := .bool (true || (acc == 4))) o6_54 (by rw [z]; decide) (fun o ho => ev_or (c := (acc == 4)) f87.eval (fun h => by cases h) o ho rfl) fun a18 n f91 => ?_
      have z := n.1.trans z
      have m := m.trans (n.mono (lo' := 79) (by decide))
      refine wk_val (k := 55) o6_55 (by rw [z]; decide) (ev_line f91.eval rfl rfl) fun a19 n f92 => ?_
      have z := n.1.trans z
      have m := m.trans (n.mono (lo' := 79) (by decide))
      exact h a19 m f92
  · skip
    refine wk_no (k := 46) o6_46 j6_45 f82 rfl fun a20 n => ?_
    have z := n.1.trans z
    have m := m.trans (n.mono (lo' := 79) (by decide))
    have f3 := n.keep f3 (by decide)
    have f82 := n.keep f82 (by decide)
    refine wk_no (k := 47) o6_47 j6_45 f82 rfl fun a21 n => ?_
    have z := n.1.trans z
    have m := m.trans (n.mono (lo' := 79) (by decide))
    have f3 := n.keep f3 (by decide)
    have f82 := n.keep f82 (by decide)
    refine wk_no (k := 48) o6_48 j6_45 f82 rfl fun a22 n => ?_
    have z := n.1.trans z
    have m := m.trans (n.mono (lo' := 79) (by decide))
    have f3 := n.keep f3 (by decide)
    have f82 := n.keep f82 (by decide)
    refine wk_val (k := 49) (v := .bool (true || (acc == 3))) o6_49 (by rw [z]; decide) (fun o ho => ev_or (c := (acc == 3)) f82.eval (fun h => by cases h) o ho rfl) fun a23 n f86 => ?_
    have z := n.1.trans z
    have m := m.trans (n.mono (lo' := 79) (by decide))
    have f3 := n.keep f3 (by decide)
    refine wk_val (k := 50) o6_50 (by rw [z]; decide) (ev_move f86.eval) fun a24 n f87 => ?_
    have z := n.1.trans z
    have m := m.trans (n.mono (lo' := 79) (by decide))
    have f3 := n.keep f3 (by decide)
    generalize hb87 : (true || (acc == 3)) = b87 at *
    cases b87
    · skip
      refine wk_yes (k := 51) o6_51 j6_50 f87 (by rw [z]; decide) (ev_fa f3.eval fa_38_0) fun a25 n f88 => ?_
      have z := n.1.trans z
      have m := m.trans (n.mono (lo' := 79) (by decide))
      have f87 := n.keep f87 (by decide)
      refine wk_yes (k := 52) o6_52 j6_50 f87 (by rw [z]; decide) (ev_ldi f88.eval q30) fun a26 n f89 => ?_
      have z := n.1.trans z
      have m := m.trans (n.mono (lo' := 79) (by decide))
      have f87 := n.keep f87 (by decide)
      refine wk_yes (k := 53) o6_53 j6_50 f87 (by rw [z]; decide) (ev_eql f89.eval rfl) fun a27 n f90 => ?_
      have z := n.1.trans z
      have m := m.trans (n.mono (lo' := 79) (by decide))
      have f87 := n.keep f87 (by decide)
      refine wk_val (k := 54) (v := .bool (false || (acc == 4))) o6_54 (by rw [z]; decide) (fun o ho => ev_or (c := (acc == 4)) f87.eval (fun _ => f90.eval) o ho rfl) fun a28 n f91 => ?_
      have z := n.1.trans z
      have m := m.trans (n.mono (lo' := 79) (by decide))
      refine wk_val (k := 55) o6_55 (by rw [z]; decide) (ev_line f91.eval rfl rfl) fun a29 n f92 => ?_
      have z := n.1.trans z
      have m := m.trans (n.mono (lo' := 79) (by decide))
      exact h a29 m f92
    · skip
      refine wk_no (k := 51) o6_51 j6_50 f87 rfl fun a30 n => ?_
      have z := n.1.trans z
      have m := m.trans (n.mono (lo' := 79) (by decide))
      have f87 := n.keep f87 (by decide)
      refine wk_no (k := 52) o6_52 j6_50 f87 rfl fun a31 n => ?_
      have z := n.1.trans z
      have m := m.trans (n.mono (lo' := 79) (by decide))
      have f87 := n.keep f87 (by decide)
      refine wk_no (k := 53) o6_53 j6_50 f87 rfl fun a32 n => ?_
      have z := n.1.trans z
      have m := m.trans (n.mono (lo' := 79) (by decide))
      have f87 := n.keep f87 (by decide)
      refine wk_val (k := 54) (v := .bool (true || (acc == 4))) o6_54 (by rw [z]; decide) (fun o ho => ev_or (c := (acc == 4)) f87.eval (fun h => by cases h) o ho rfl) fun a33 n f91 => ?_
      have z := n.1.trans z
      have m := m.trans (n.mono (lo' := 79) (by decide))
      refine wk_val (k := 55) o6_55 (by rw [z]; decide) (ev_line f91.eval rfl rfl) fun a34 n f92 => ?_
      have z := n.1.trans z
      have m := m.trans (n.mono (lo' := 79) (by decide))
      exact h a34 m f92
set_option maxHeartbeats 400000 in
theorem lk_8 (z : a.tmps.size = 134) (f3 : Sv a 3 (.pointer (some ⟨B3, 0, none⟩))) (f6 : Sv a 6 (.bool wo)) (q30 : W.cell? ⟨B3, 0, none⟩ = some (.int .i64 acc)) (h : ∀ a', Nx 93 a a' → Sv a' 99 (.agg #[.bool ((acc == 5) && wo), .int .i64 3, .int .i64 3]) → wpList Try.prog ops6.toArray Q (ops6.drop 63) a' W) : wpList Try.prog ops6.toArray Q (ops6.drop 56) a W := by
  have m : Nx 93 a a := Nx.refl _ _
  refine wk_val (k := 56) o6_56 (by rw [z]; decide) (ev_fa f3.eval fa_38_0) fun a1 n f93 => ?_
  have z := n.1.trans z
  have m := m.trans (n.mono (lo' := 93) (by decide))
  have f6 := n.keep f6 (by decide)
  refine wk_val (k := 57) o6_57 (by rw [z]; decide) (ev_ldi f93.eval q30) fun a2 n f94 => ?_
  have z := n.1.trans z
  have m := m.trans (n.mono (lo' := 93) (by decide))
  have f6 := n.keep f6 (by decide)
  refine wk_val (k := 58) o6_58 (by rw [z]; decide) (ev_eql f94.eval rfl) fun a3 n f95 => ?_
  have z := n.1.trans z
  have m := m.trans (n.mono (lo' := 93) (by decide))
  have f6 := n.keep f6 (by decide)
  refine wk_val (k := 59) o6_59 (by rw [z]; decide) (ev_move f95.eval) fun a4 n f96 => ?_
  have z := n.1.trans z
  have m := m.trans (n.mono (lo' := 93) (by decide))
  have f6 := n.keep f6 (by decide)
  generalize hb96 : (acc == 5) = b96 at *
  cases b96
  · skip
    refine wk_no (k := 60) o6_60 j6_59 f96 rfl fun a5 n => ?_
    have z := n.1.trans z
    have m := m.trans (n.mono (lo' := 93) (by decide))
    have f96 := n.keep f96 (by decide)
    refine wk_val (k := 61) (v := .bool (false && wo)) o6_61 (by rw [z]; decide) (fun o ho => ev_and (c := wo) f96.eval (fun h => by cases h) o ho rfl) fun a6 n f98 => ?_
    have z := n.1.trans z
    have m := m.trans (n.mono (lo' := 93) (by decide))
    refine wk_val (k := 62) o6_62 (by rw [z]; decide) (ev_line f98.eval rfl rfl) fun a7 n f99 => ?_
    have z := n.1.trans z
    have m := m.trans (n.mono (lo' := 93) (by decide))
    exact h a7 m f99
  · skip
    refine wk_yes (k := 60) o6_60 j6_59 f96 (by rw [z]; decide) (ev_move f6.eval) fun a8 n f97 => ?_
    have z := n.1.trans z
    have m := m.trans (n.mono (lo' := 93) (by decide))
    have f96 := n.keep f96 (by decide)
    refine wk_val (k := 61) (v := .bool (true && wo)) o6_61 (by rw [z]; decide) (fun o ho => ev_and (c := wo) f96.eval (fun _ => f97.eval) o ho rfl) fun a9 n f98 => ?_
    have z := n.1.trans z
    have m := m.trans (n.mono (lo' := 93) (by decide))
    refine wk_val (k := 62) o6_62 (by rw [z]; decide) (ev_line f98.eval rfl rfl) fun a10 n f99 => ?_
    have z := n.1.trans z
    have m := m.trans (n.mono (lo' := 93) (by decide))
    exact h a10 m f99
set_option maxHeartbeats 400000 in
theorem lk_9 (z : a.tmps.size = 134) (f3 : Sv a 3 (.pointer (some ⟨B3, 0, none⟩))) (q30 : W.cell? ⟨B3, 0, none⟩ = some (.int .i64 acc)) (h : ∀ a', Nx 100 a a' → Sv a' 103 (.agg #[.bool (acc == 5), .int .i64 3, .int .i64 2]) → wpList Try.prog ops6.toArray Q (ops6.drop 67) a' W) : wpList Try.prog ops6.toArray Q (ops6.drop 63) a W := by
  have m : Nx 100 a a := Nx.refl _ _
  refine wk_val (k := 63) o6_63 (by rw [z]; decide) (ev_fa f3.eval fa_38_0) fun a1 n f100 => ?_
  have z := n.1.trans z
  have m := m.trans (n.mono (lo' := 100) (by decide))
  refine wk_val (k := 64) o6_64 (by rw [z]; decide) (ev_ldi f100.eval q30) fun a2 n f101 => ?_
  have z := n.1.trans z
  have m := m.trans (n.mono (lo' := 100) (by decide))
  refine wk_val (k := 65) o6_65 (by rw [z]; decide) (ev_eql f101.eval rfl) fun a3 n f102 => ?_
  have z := n.1.trans z
  have m := m.trans (n.mono (lo' := 100) (by decide))
  refine wk_val (k := 66) o6_66 (by rw [z]; decide) (ev_line f102.eval rfl rfl) fun a4 n f103 => ?_
  have z := n.1.trans z
  have m := m.trans (n.mono (lo' := 100) (by decide))
  exact h a4 m f103
set_option maxHeartbeats 400000 in
theorem lk_10 (z : a.tmps.size = 134) (f6 : Sv a 6 (.bool wo)) (f8 : Sv a 8 (.bool em))  (h : ∀ a', Nx 104 a a' → Sv a' 108 (.agg #[.bool (em && wo), .int .i64 4, .int .i64 2]) → wpList Try.prog ops6.toArray Q (ops6.drop 72) a' W) : wpList Try.prog ops6.toArray Q (ops6.drop 67) a W := by
  have m : Nx 104 a a := Nx.refl _ _
  refine wk_val (k := 67) o6_67 (by rw [z]; decide) (ev_move f8.eval) fun a1 n f104 => ?_
  have z := n.1.trans z
  have m := m.trans (n.mono (lo' := 104) (by decide))
  have f6 := n.keep f6 (by decide)
  refine wk_val (k := 68) o6_68 (by rw [z]; decide) (ev_move f104.eval) fun a2 n f105 => ?_
  have z := n.1.trans z
  have m := m.trans (n.mono (lo' := 104) (by decide))
  have f6 := n.keep f6 (by decide)
  cases em
  · skip
    refine wk_no (k := 69) o6_69 j6_68 f105 rfl fun a3 n => ?_
    have z := n.1.trans z
    have m := m.trans (n.mono (lo' := 104) (by decide))
    have f105 := n.keep f105 (by decide)
    refine wk_val (k := 70) (v := .bool (false && wo)) o6_70 (by rw [z]; decide) (fun o ho => ev_and (c := wo) f105.eval (fun h => by cases h) o ho rfl) fun a4 n f107 => ?_
    have z := n.1.trans z
    have m := m.trans (n.mono (lo' := 104) (by decide))
    refine wk_val (k := 71) o6_71 (by rw [z]; decide) (ev_line f107.eval rfl rfl) fun a5 n f108 => ?_
    have z := n.1.trans z
    have m := m.trans (n.mono (lo' := 104) (by decide))
    exact h a5 m f108
  · skip
    refine wk_yes (k := 69) o6_69 j6_68 f105 (by rw [z]; decide) (ev_move f6.eval) fun a6 n f106 => ?_
    have z := n.1.trans z
    have m := m.trans (n.mono (lo' := 104) (by decide))
    have f105 := n.keep f105 (by decide)
    refine wk_val (k := 70) (v := .bool (true && wo)) o6_70 (by rw [z]; decide) (fun o ho => ev_and (c := wo) f105.eval (fun _ => f106.eval) o ho rfl) fun a7 n f107 => ?_
    have z := n.1.trans z
    have m := m.trans (n.mono (lo' := 104) (by decide))
    refine wk_val (k := 71) o6_71 (by rw [z]; decide) (ev_line f107.eval rfl rfl) fun a8 n f108 => ?_
    have z := n.1.trans z
    have m := m.trans (n.mono (lo' := 104) (by decide))
    exact h a8 m f108
set_option maxHeartbeats 400000 in
theorem lk_11 (z : a.tmps.size = 134) (f8 : Sv a 8 (.bool em))  (h : ∀ a', Nx 109 a a' → Sv a' 110 (.agg #[.bool em, .int .i64 1, .int .i64 1]) → wpList Try.prog ops6.toArray Q (ops6.drop 74) a' W) : wpList Try.prog ops6.toArray Q (ops6.drop 72) a W := by
  have m : Nx 109 a a := Nx.refl _ _
  refine wk_val (k := 72) o6_72 (by rw [z]; decide) (ev_move f8.eval) fun a1 n f109 => ?_
  have z := n.1.trans z
  have m := m.trans (n.mono (lo' := 109) (by decide))
  refine wk_val (k := 73) o6_73 (by rw [z]; decide) (ev_line f109.eval rfl rfl) fun a2 n f110 => ?_
  have z := n.1.trans z
  have m := m.trans (n.mono (lo' := 109) (by decide))
  exact h a2 m f110
set_option maxHeartbeats 400000 in
theorem lk_12 (z : a.tmps.size = 134) (f3 : Sv a 3 (.pointer (some ⟨B3, 0, none⟩))) (f9 : Sv a 9 (.bool sto)) (q31 : W.cell? ⟨B3, 1, none⟩ = some (.bool wr)) (h : ∀ a', Nx 111 a a' → Sv a' 116 (.agg #[.bool (sto && wr), .int .i64 5, .int .i64 2]) → wpList Try.prog ops6.toArray Q (ops6.drop 80) a' W) : wpList Try.prog ops6.toArray Q (ops6.drop 74) a W := by
  have m : Nx 111 a a := Nx.refl _ _
  refine wk_val (k := 74) o6_74 (by rw [z]; decide) (ev_move f9.eval) fun a1 n f111 => ?_
  have z := n.1.trans z
  have m := m.trans (n.mono (lo' := 111) (by decide))
  have f3 := n.keep f3 (by decide)
  refine wk_val (k := 75) o6_75 (by rw [z]; decide) (ev_move f111.eval) fun a2 n f112 => ?_
  have z := n.1.trans z
  have m := m.trans (n.mono (lo' := 111) (by decide))
  have f3 := n.keep f3 (by decide)
  cases sto
  · skip
    refine wk_no (k := 76) o6_76 j6_75 f112 rfl fun a3 n => ?_
    have z := n.1.trans z
    have m := m.trans (n.mono (lo' := 111) (by decide))
    have f112 := n.keep f112 (by decide)
    refine wk_no (k := 77) o6_77 j6_75 f112 rfl fun a4 n => ?_
    have z := n.1.trans z
    have m := m.trans (n.mono (lo' := 111) (by decide))
    have f112 := n.keep f112 (by decide)
    refine wk_val (k := 78) (v := .bool (false && wr)) o6_78 (by rw [z]; decide) (fun o ho => ev_and (c := wr) f112.eval (fun h => by cases h) o ho rfl) fun a5 n f115 => ?_
    have z := n.1.trans z
    have m := m.trans (n.mono (lo' := 111) (by decide))
    refine wk_val (k := 79) o6_79 (by rw [z]; decide) (ev_line f115.eval rfl rfl) fun a6 n f116 => ?_
    have z := n.1.trans z
    have m := m.trans (n.mono (lo' := 111) (by decide))
    exact h a6 m f116
  · skip
    refine wk_yes (k := 76) o6_76 j6_75 f112 (by rw [z]; decide) (ev_fa f3.eval fa_38_1) fun a7 n f113 => ?_
    have z := n.1.trans z
    have m := m.trans (n.mono (lo' := 111) (by decide))
    have f112 := n.keep f112 (by decide)
    refine wk_yes (k := 77) o6_77 j6_75 f112 (by rw [z]; decide) (ev_ldb f113.eval q31) fun a8 n f114 => ?_
    have z := n.1.trans z
    have m := m.trans (n.mono (lo' := 111) (by decide))
    have f112 := n.keep f112 (by decide)
    refine wk_val (k := 78) (v := .bool (true && wr)) o6_78 (by rw [z]; decide) (fun o ho => ev_and (c := wr) f112.eval (fun _ => f114.eval) o ho rfl) fun a9 n f115 => ?_
    have z := n.1.trans z
    have m := m.trans (n.mono (lo' := 111) (by decide))
    refine wk_val (k := 79) o6_79 (by rw [z]; decide) (ev_line f115.eval rfl rfl) fun a10 n f116 => ?_
    have z := n.1.trans z
    have m := m.trans (n.mono (lo' := 111) (by decide))
    exact h a10 m f116
set_option maxHeartbeats 400000 in
theorem lk_13 (z : a.tmps.size = 134) (f6 : Sv a 6 (.bool wo)) (f9 : Sv a 9 (.bool sto))  (h : ∀ a', Nx 117 a a' → Sv a' 121 (.agg #[.bool (sto && wo), .int .i64 4, .int .i64 3]) → wpList Try.prog ops6.toArray Q (ops6.drop 85) a' W) : wpList Try.prog ops6.toArray Q (ops6.drop 80) a W := by
  have m : Nx 117 a a := Nx.refl _ _
  refine wk_val (k := 80) o6_80 (by rw [z]; decide) (ev_move f9.eval) fun a1 n f117 => ?_
  have z := n.1.trans z
  have m := m.trans (n.mono (lo' := 117) (by decide))
  have f6 := n.keep f6 (by decide)
  refine wk_val (k := 81) o6_81 (by rw [z]; decide) (ev_move f117.eval) fun a2 n f118 => ?_
  have z := n.1.trans z
  have m := m.trans (n.mono (lo' := 117) (by decide))
  have f6 := n.keep f6 (by decide)
  cases sto
  · skip
    refine wk_no (k := 82) o6_82 j6_81 f118 rfl fun a3 n => ?_
    have z := n.1.trans z
    have m := m.trans (n.mono (lo' := 117) (by decide))
    have f118 := n.keep f118 (by decide)
    refine wk_val (k := 83) (v := .bool (false && wo)) o6_83 (by rw [z]; decide) (fun o ho => ev_and (c := wo) f118.eval (fun h => by cases h) o ho rfl) fun a4 n f120 => ?_
    have z := n.1.trans z
    have m := m.trans (n.mono (lo' := 117) (by decide))
    refine wk_val (k := 84) o6_84 (by rw [z]; decide) (ev_line f120.eval rfl rfl) fun a5 n f121 => ?_
    have z := n.1.trans z
    have m := m.trans (n.mono (lo' := 117) (by decide))
    exact h a5 m f121
  · skip
    refine wk_yes (k := 82) o6_82 j6_81 f118 (by rw [z]; decide) (ev_move f6.eval) fun a6 n f119 => ?_
    have z := n.1.trans z
    have m := m.trans (n.mono (lo' := 117) (by decide))
    have f118 := n.keep f118 (by decide)
    refine wk_val (k := 83) (v := .bool (true && wo)) o6_83 (by rw [z]; decide) (fun o ho => ev_and (c := wo) f118.eval (fun _ => f119.eval) o ho rfl) fun a7 n f120 => ?_
    have z := n.1.trans z
    have m := m.trans (n.mono (lo' := 117) (by decide))
    refine wk_val (k := 84) o6_84 (by rw [z]; decide) (ev_line f120.eval rfl rfl) fun a8 n f121 => ?_
    have z := n.1.trans z
    have m := m.trans (n.mono (lo' := 117) (by decide))
    exact h a8 m f121
set_option maxHeartbeats 400000 in
theorem lk_14 (z : a.tmps.size = 134) (f3 : Sv a 3 (.pointer (some ⟨B3, 0, none⟩))) (f9 : Sv a 9 (.bool sto)) (q32 : W.cell? ⟨B3, 2, none⟩ = some (.bool rm)) (h : ∀ a', Nx 122 a a' → Sv a' 127 (.agg #[.bool (sto && rm), .int .i64 6, .int .i64 2]) → wpList Try.prog ops6.toArray Q (ops6.drop 91) a' W) : wpList Try.prog ops6.toArray Q (ops6.drop 85) a W := by
  have m : Nx 122 a a := Nx.refl _ _
  refine wk_val (k := 85) o6_85 (by rw [z]; decide) (ev_move f9.eval) fun a1 n f122 => ?_
  have z := n.1.trans z
  have m := m.trans (n.mono (lo' := 122) (by decide))
  have f3 := n.keep f3 (by decide)
  refine wk_val (k := 86) o6_86 (by rw [z]; decide) (ev_move f122.eval) fun a2 n f123 => ?_
  have z := n.1.trans z
  have m := m.trans (n.mono (lo' := 122) (by decide))
  have f3 := n.keep f3 (by decide)
  cases sto
  · skip
    refine wk_no (k := 87) o6_87 j6_86 f123 rfl fun a3 n => ?_
    have z := n.1.trans z
    have m := m.trans (n.mono (lo' := 122) (by decide))
    have f123 := n.keep f123 (by decide)
    refine wk_no (k := 88) o6_88 j6_86 f123 rfl fun a4 n => ?_
    have z := n.1.trans z
    have m := m.trans (n.mono (lo' := 122) (by decide))
    have f123 := n.keep f123 (by decide)
    refine wk_val (k := 89) (v := .bool (false && rm)) o6_89 (by rw [z]; decide) (fun o ho => ev_and (c := rm) f123.eval (fun h => by cases h) o ho rfl) fun a5 n f126 => ?_
    have z := n.1.trans z
    have m := m.trans (n.mono (lo' := 122) (by decide))
    refine wk_val (k := 90) o6_90 (by rw [z]; decide) (ev_line f126.eval rfl rfl) fun a6 n f127 => ?_
    have z := n.1.trans z
    have m := m.trans (n.mono (lo' := 122) (by decide))
    exact h a6 m f127
  · skip
    refine wk_yes (k := 87) o6_87 j6_86 f123 (by rw [z]; decide) (ev_fa f3.eval fa_38_2) fun a7 n f124 => ?_
    have z := n.1.trans z
    have m := m.trans (n.mono (lo' := 122) (by decide))
    have f123 := n.keep f123 (by decide)
    refine wk_yes (k := 88) o6_88 j6_86 f123 (by rw [z]; decide) (ev_ldb f124.eval q32) fun a8 n f125 => ?_
    have z := n.1.trans z
    have m := m.trans (n.mono (lo' := 122) (by decide))
    have f123 := n.keep f123 (by decide)
    refine wk_val (k := 89) (v := .bool (true && rm)) o6_89 (by rw [z]; decide) (fun o ho => ev_and (c := rm) f123.eval (fun _ => f125.eval) o ho rfl) fun a9 n f126 => ?_
    have z := n.1.trans z
    have m := m.trans (n.mono (lo' := 122) (by decide))
    refine wk_val (k := 90) o6_90 (by rw [z]; decide) (ev_line f126.eval rfl rfl) fun a10 n f127 => ?_
    have z := n.1.trans z
    have m := m.trans (n.mono (lo' := 122) (by decide))
    exact h a10 m f127
set_option maxHeartbeats 400000 in
theorem lk_15 (z : a.tmps.size = 134) (f9 : Sv a 9 (.bool sto))  (h : ∀ a', Nx 128 a a' → Sv a' 129 (.agg #[.bool sto, .int .i64 7, .int .i64 2]) → wpList Try.prog ops6.toArray Q (ops6.drop 93) a' W) : wpList Try.prog ops6.toArray Q (ops6.drop 91) a W := by
  have m : Nx 128 a a := Nx.refl _ _
  refine wk_val (k := 91) o6_91 (by rw [z]; decide) (ev_move f9.eval) fun a1 n f128 => ?_
  have z := n.1.trans z
  have m := m.trans (n.mono (lo' := 128) (by decide))
  refine wk_val (k := 92) o6_92 (by rw [z]; decide) (ev_line f128.eval rfl rfl) fun a2 n f129 => ?_
  have z := n.1.trans z
  have m := m.trans (n.mono (lo' := 128) (by decide))
  exact h a2 m f129
end
end Go.Proofs.Ytbcfnocefjolfaa
