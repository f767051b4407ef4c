/- The small language's text of functions of the given program, and the check that it stands for them. Printed by a program. -/
import Derived.Test.YtfhhfanapgjcgaaDoorFwC
import Derived.Test.YtfhhfanapgjcgaaDoorChecked
import Derived.KernelRfl
namespace Go.Proofs.YtfhhfanapgjcgaaDoor
open Go Fw

/-! ### script_must -/
def F_script_mustr0b : List IStmt := [
 ⟨some 2, .mv (.t 0), none⟩,
 ⟨some 3, .un .not (.t 2), none⟩]
def F_script_mustr0 : List IStmt := F_script_mustr0b
theorem F_script_mustr0_W {T : Tab} {env : Env} {H : Heap} {Q : Post} : W T (.reg F_script_mustr0) env H Q ↔ WR T F_script_mustr0 F_script_mustr0b env H none [] Q := w_reg
def F_script_mustr1b : List IStmt := [
 ⟨some 4, .bld [] [], none⟩,
 ⟨some 5, .mki 89 (.t 4), none⟩,
 ⟨none, .xop .pnc (.t 5) (.t 5), none⟩]
def F_script_mustr1 : List IStmt := F_script_mustr1b
theorem F_script_mustr1_W {T : Tab} {env : Env} {H : Heap} {Q : Post} : W T (.reg F_script_mustr1) env H Q ↔ WR T F_script_mustr1 F_script_mustr1b env H none [] Q := w_reg
def F_script_mustcb : ICode := (.seq (.reg F_script_mustr0) (.cond (.t 3) (.reg F_script_mustr1) .skip))
def F_script_mustc : ICode := F_script_mustcb
theorem F_script_mustc_W {T : Tab} {env : Env} {H : Heap} {Q : Post} : W T F_script_mustc env H Q ↔ W T F_script_mustcb env H Q := Iff.rfl
def F_script_must : IFn := ⟨6, [], F_script_mustc⟩
set_option linter.defProp false in
set_option maxRecDepth 100000 in
def N_script_mustP := And.intro F_script_mustr0b.eq_1 (And.intro @F_script_mustr0_W (And.intro F_script_mustr1b.eq_1 (And.intro @F_script_mustr1_W (And.intro @F_script_mustc_W (F_script_mustcb.eq_1)))))
theorem N_script_must : type_of% N_script_mustP := N_script_mustP
set_option maxRecDepth 1000000 in
theorem F_script_must_chk : chkF Tryd.prog 89 F_script_must = true := by kernel_rfl

/-! ### script_reader_next -/
def F_script_reader_nextr0b : List IStmt := [
 ⟨some 2, .mv (.c (.string ⟨#[]⟩)), none⟩]
def F_script_reader_nextr0 : List IStmt := F_script_reader_nextr0b
theorem F_script_reader_nextr0_W {T : Tab} {env : Env} {H : Heap} {Q : Post} : W T (.reg F_script_reader_nextr0) env H Q ↔ WR T F_script_reader_nextr0 F_script_reader_nextr0b env H none [] Q := w_reg
def F_script_reader_nextr1b : List IStmt := [
 ⟨some 4, .mv (.t 0), none⟩,
 ⟨some 5, .nilc (.t 4), none⟩,
 ⟨some 6, .fa 0 (.t 5), none⟩,
 ⟨some 7, .load (.t 6), none⟩,
 ⟨some 8, .len 1 (.t 7), none⟩,
 ⟨some 9, .bin .gtr (.t 8) (.c (.int .i64 0)), none⟩,
 ⟨some 10, .call 89 [(.t 9)], none⟩]
def F_script_reader_nextr1 : List IStmt := F_script_reader_nextr1b
theorem F_script_reader_nextr1_W {T : Tab} {env : Env} {H : Heap} {Q : Post} : W T (.reg F_script_reader_nextr1) env H Q ↔ WR T F_script_reader_nextr1 F_script_reader_nextr1b env H none [] Q := w_reg
def F_script_reader_nextr2b : List IStmt := [
 ⟨some 11, .mv (.t 0), none⟩,
 ⟨some 12, .nilc (.t 11), none⟩,
 ⟨some 13, .fa 0 (.t 12), none⟩,
 ⟨some 14, .load (.t 13), none⟩,
 ⟨some 15, .ixa 1 (.t 14) (.c (.int .i64 0)), none⟩,
 ⟨some 16, .load (.t 15), none⟩,
 ⟨some 3, .mv (.t 16), none⟩]
def F_script_reader_nextr2 : List IStmt := F_script_reader_nextr2b
theorem F_script_reader_nextr2_W {T : Tab} {env : Env} {H : Heap} {Q : Post} : W T (.reg F_script_reader_nextr2) env H Q ↔ WR T F_script_reader_nextr2 F_script_reader_nextr2b env H none [] Q := w_reg
def F_script_reader_nextr3b : List IStmt := [
 ⟨some 17, .mv (.t 0), none⟩,
 ⟨some 18, .mv (.t 0), none⟩,
 ⟨some 19, .nilc (.t 18), none⟩,
 ⟨some 20, .fa 0 (.t 19), none⟩,
 ⟨some 21, .load (.t 20), none⟩,
 ⟨some 22, .sle 1 (.t 21) (some (.c (.int .i64 1))) none none, none⟩,
 ⟨some 23, .nilc (.t 17), none⟩,
 ⟨some 24, .fa 0 (.t 23), none⟩,
 ⟨none, .store 1 (.t 24) (.t 22), none⟩]
def F_script_reader_nextr3 : List IStmt := F_script_reader_nextr3b
theorem F_script_reader_nextr3_W {T : Tab} {env : Env} {H : Heap} {Q : Post} : W T (.reg F_script_reader_nextr3) env H Q ↔ WR T F_script_reader_nextr3 F_script_reader_nextr3b env H none [] Q := w_reg
def F_script_reader_nextr4b : List IStmt := [
 ⟨some 25, .mv (.t 3), none⟩,
 ⟨some 2, .mv (.t 25), none⟩]
def F_script_reader_nextr4 : List IStmt := F_script_reader_nextr4b
theorem F_script_reader_nextr4_W {T : Tab} {env : Env} {H : Heap} {Q : Post} : W T (.reg F_script_reader_nextr4) env H Q ↔ WR T F_script_reader_nextr4 F_script_reader_nextr4b env H none [] Q := w_reg
def F_script_reader_nextcb : ICode := (.seq (.reg F_script_reader_nextr0) (.seq (.reg F_script_reader_nextr1) (.seq (.reg F_script_reader_nextr2) (.seq (.reg F_script_reader_nextr3) (.seq (.reg F_script_reader_nextr4) .ret)))))
def F_script_reader_nextc : ICode := F_script_reader_nextcb
theorem F_script_reader_nextc_W {T : Tab} {env : Env} {H : Heap} {Q : Post} : W T F_script_reader_nextc env H Q ↔ W T F_script_reader_nextcb env H Q := Iff.rfl
def F_script_reader_next : IFn := ⟨26, [.tmp 2], F_script_reader_nextc⟩
set_option linter.defProp false in
set_option maxRecDepth 100000 in
def N_script_reader_nextP := And.intro F_script_reader_nextr0b.eq_1 (And.intro @F_script_reader_nextr0_W (And.intro F_script_reader_nextr1b.eq_1 (And.intro @F_script_reader_nextr1_W (And.intro F_script_reader_nextr2b.eq_1 (And.intro @F_script_reader_nextr2_W (And.intro F_script_reader_nextr3b.eq_1 (And.intro @F_script_reader_nextr3_W (And.intro F_script_reader_nextr4b.eq_1 (And.intro @F_script_reader_nextr4_W (And.intro @F_script_reader_nextc_W (F_script_reader_nextcb.eq_1)))))))))))
theorem N_script_reader_next : type_of% N_script_reader_nextP := N_script_reader_nextP
set_option maxRecDepth 1000000 in
theorem F_script_reader_next_chk : chkF Tryd.prog 71 F_script_reader_next = true := by kernel_rfl

/-! ### num_digit -/
def F_num_digitr0b : List IStmt := [
 ⟨some 2, .mv (.c (.int .u64 0)), none⟩]
def F_num_digitr0 : List IStmt := F_num_digitr0b
theorem F_num_digitr0_W {T : Tab} {env : Env} {H : Heap} {Q : Post} : W T (.reg F_num_digitr0) env H Q ↔ WR T F_num_digitr0 F_num_digitr0b env H none [] Q := w_reg
def F_num_digitr1b : List IStmt := [
 ⟨some 4, .mv (.t 0), none⟩,
 ⟨some 5, .bin .geq (.t 4) (.c (.int .u8 48)), none⟩,
 ⟨some 6, .mv (.t 5), none⟩,
 ⟨some 7, .mv (.t 0), some (2, true)⟩,
 ⟨some 8, .bin .leq (.t 7) (.c (.int .u8 57)), some (2, true)⟩,
 ⟨some 9, .pick (.t 6) (.t 8) (.c (.bool false)), none⟩,
 ⟨some 3, .mv (.t 9), none⟩]
def F_num_digitr1 : List IStmt := F_num_digitr1b
theorem F_num_digitr1_W {T : Tab} {env : Env} {H : Heap} {Q : Post} : W T (.reg F_num_digitr1) env H Q ↔ WR T F_num_digitr1 F_num_digitr1b env H none [] Q := w_reg
theorem F_num_digitr1_g2 {env : Env} : yieldI F_num_digitr1 env 2 = bOf (env 6) := rfl
def F_num_digitr2b : List IStmt := [
 ⟨some 10, .mv (.t 0), none⟩,
 ⟨some 11, .bin .sub (.t 10) (.c (.int .u8 48)), none⟩,
 ⟨some 12, .conv .u64 (.t 11), none⟩,
 ⟨some 2, .mv (.t 12), none⟩]
def F_num_digitr2 : List IStmt := F_num_digitr2b
theorem F_num_digitr2_W {T : Tab} {env : Env} {H : Heap} {Q : Post} : W T (.reg F_num_digitr2) env H Q ↔ WR T F_num_digitr2 F_num_digitr2b env H none [] Q := w_reg
def F_num_digitr3b : List IStmt := [
 ⟨some 14, .mv (.t 0), none⟩,
 ⟨some 15, .bin .geq (.t 14) (.c (.int .u8 97)), none⟩,
 ⟨some 16, .mv (.t 15), none⟩,
 ⟨some 17, .mv (.t 0), some (2, true)⟩,
 ⟨some 18, .bin .leq (.t 17) (.c (.int .u8 102)), some (2, true)⟩,
 ⟨some 19, .pick (.t 16) (.t 18) (.c (.bool false)), none⟩,
 ⟨some 13, .mv (.t 19), none⟩]
def F_num_digitr3 : List IStmt := F_num_digitr3b
theorem F_num_digitr3_W {T : Tab} {env : Env} {H : Heap} {Q : Post} : W T (.reg F_num_digitr3) env H Q ↔ WR T F_num_digitr3 F_num_digitr3b env H none [] Q := w_reg
theorem F_num_digitr3_g2 {env : Env} : yieldI F_num_digitr3 env 2 = bOf (env 16) := rfl
def F_num_digitr4b : List IStmt := [
 ⟨some 20, .mv (.t 0), none⟩,
 ⟨some 21, .bin .sub (.t 20) (.c (.int .u8 97)), none⟩,
 ⟨some 22, .conv .u64 (.t 21), none⟩,
 ⟨some 23, .bin .add (.t 22) (.c (.int .u64 10)), none⟩,
 ⟨some 2, .mv (.t 23), none⟩]
def F_num_digitr4 : List IStmt := F_num_digitr4b
theorem F_num_digitr4_W {T : Tab} {env : Env} {H : Heap} {Q : Post} : W T (.reg F_num_digitr4) env H Q ↔ WR T F_num_digitr4 F_num_digitr4b env H none [] Q := w_reg
def F_num_digitr5b : List IStmt := [
 ⟨some 2, .mv (.c (.int .u64 16)), none⟩]
def F_num_digitr5 : List IStmt := F_num_digitr5b
theorem F_num_digitr5_W {T : Tab} {env : Env} {H : Heap} {Q : Post} : W T (.reg F_num_digitr5) env H Q ↔ WR T F_num_digitr5 F_num_digitr5b env H none [] Q := w_reg
def F_num_digitcb : ICode := (.seq (.reg F_num_digitr0) (.seq (.block 0 (.seq (.reg F_num_digitr1) (.cond (.t 3) (.seq (.reg F_num_digitr2) .ret) (.seq (.reg F_num_digitr3) (.cond (.t 13) (.seq (.reg F_num_digitr4) .ret) .skip))))) (.seq (.reg F_num_digitr5) .ret)))
def F_num_digitc : ICode := F_num_digitcb
theorem F_num_digitc_W {T : Tab} {env : Env} {H : Heap} {Q : Post} : W T F_num_digitc env H Q ↔ W T F_num_digitcb env H Q := Iff.rfl
def F_num_digit : IFn := ⟨24, [.tmp 2], F_num_digitc⟩
set_option linter.defProp false in
set_option maxRecDepth 100000 in
def N_num_digitP := And.intro F_num_digitr0b.eq_1 (And.intro @F_num_digitr0_W (And.intro F_num_digitr1b.eq_1 (And.intro @F_num_digitr1_W (And.intro @F_num_digitr1_g2 (And.intro F_num_digitr2b.eq_1 (And.intro @F_num_digitr2_W (And.intro F_num_digitr3b.eq_1 (And.intro @F_num_digitr3_W (And.intro @F_num_digitr3_g2 (And.intro F_num_digitr4b.eq_1 (And.intro @F_num_digitr4_W (And.intro F_num_digitr5b.eq_1 (And.intro @F_num_digitr5_W (And.intro @F_num_digitc_W (F_num_digitcb.eq_1)))))))))))))))
theorem N_num_digit : type_of% N_num_digitP := N_num_digitP
set_option maxRecDepth 1000000 in
theorem F_num_digit_chk : chkF Tryd.prog 104 F_num_digit = true := by kernel_rfl

/-! ### num_ParseHex -/
def F_num_ParseHexr0b : List IStmt := [
 ⟨some 2, .mv (.c (.int .u64 0)), none⟩,
 ⟨some 3, .mv (.c (.int .i64 0)), none⟩]
def F_num_ParseHexr0 : List IStmt := F_num_ParseHexr0b
theorem F_num_ParseHexr0_W {T : Tab} {env : Env} {H : Heap} {Q : Post} : W T (.reg F_num_ParseHexr0) env H Q ↔ WR T F_num_ParseHexr0 F_num_ParseHexr0b env H none [] Q := w_reg
def F_num_ParseHexr1b : List IStmt := [
 ⟨some 7, .mv (.t 0), none⟩,
 ⟨some 8, .len 0 (.t 7), none⟩,
 ⟨some 9, .bin .lss (.t 8) (.c (.int .i64 3)), none⟩,
 ⟨some 10, .mv (.t 9), none⟩,
 ⟨some 11, .mv (.t 0), some (3, false)⟩,
 ⟨some 12, .len 0 (.t 11), some (3, false)⟩,
 ⟨some 13, .bin .gtr (.t 12) (.c (.int .i64 18)), some (3, false)⟩,
 ⟨some 14, .pick (.t 10) (.c (.bool true)) (.t 13), none⟩,
 ⟨some 15, .mv (.t 14), none⟩,
 ⟨some 16, .mv (.t 0), some (8, false)⟩,
 ⟨some 17, .sls (.t 16) none (some (.c (.int .i64 2))), some (8, false)⟩,
 ⟨some 18, .bin .neq (.t 17) (.c (.string ⟨#[48, 120]⟩)), some (8, false)⟩,
 ⟨some 19, .pick (.t 15) (.c (.bool true)) (.t 18), none⟩,
 ⟨some 20, .mv (.t 19), none⟩,
 ⟨some 21, .mv (.t 0), some (13, false)⟩,
 ⟨some 22, .ixs (.t 21) (.c (.int .i64 2)), some (13, false)⟩,
 ⟨some 23, .bin .eql (.t 22) (.c (.int .u8 48)), some (13, false)⟩,
 ⟨some 24, .mv (.t 23), some (13, false)⟩,
 ⟨some 25, .mv (.t 0), some (17, true)⟩,
 ⟨some 26, .len 0 (.t 25), some (17, true)⟩,
 ⟨some 27, .bin .gtr (.t 26) (.c (.int .i64 3)), some (17, true)⟩,
 ⟨some 28, .pick (.t 24) (.t 27) (.c (.bool false)), some (13, false)⟩,
 ⟨some 29, .pick (.t 20) (.c (.bool true)) (.t 28), none⟩]
def F_num_ParseHexr1 : List IStmt := F_num_ParseHexr1b
theorem F_num_ParseHexr1_W {T : Tab} {env : Env} {H : Heap} {Q : Post} : W T (.reg F_num_ParseHexr1) env H Q ↔ WR T F_num_ParseHexr1 F_num_ParseHexr1b env H none [] Q := w_reg
theorem F_num_ParseHexr1_g3 {env : Env} : yieldI F_num_ParseHexr1 env 3 = bOf (env 10) := rfl
theorem F_num_ParseHexr1_g8 {env : Env} : yieldI F_num_ParseHexr1 env 8 = bOf (env 15) := rfl
theorem F_num_ParseHexr1_g13 {env : Env} : yieldI F_num_ParseHexr1 env 13 = bOf (env 20) := rfl
theorem F_num_ParseHexr1_g17 {env : Env} : yieldI F_num_ParseHexr1 env 17 = bOf (env 24) := rfl
def F_num_ParseHexr2b : List IStmt := [
 ⟨some 2, .mv (.c (.int .u64 0)), none⟩,
 ⟨some 3, .mv (.c (.int .i64 12)), none⟩]
def F_num_ParseHexr2 : List IStmt := F_num_ParseHexr2b
theorem F_num_ParseHexr2_W {T : Tab} {env : Env} {H : Heap} {Q : Post} : W T (.reg F_num_ParseHexr2) env H Q ↔ WR T F_num_ParseHexr2 F_num_ParseHexr2b env H none [] Q := w_reg
def F_num_ParseHexr3b : List IStmt := [
 ⟨some 4, .mv (.c (.int .u64 0)), none⟩]
def F_num_ParseHexr3 : List IStmt := F_num_ParseHexr3b
theorem F_num_ParseHexr3_W {T : Tab} {env : Env} {H : Heap} {Q : Post} : W T (.reg F_num_ParseHexr3) env H Q ↔ WR T F_num_ParseHexr3 F_num_ParseHexr3b env H none [] Q := w_reg
def F_num_ParseHexr4b : List IStmt := [
 ⟨some 5, .mv (.c (.int .i64 2)), none⟩]
def F_num_ParseHexr4 : List IStmt := F_num_ParseHexr4b
theorem F_num_ParseHexr4_W {T : Tab} {env : Env} {H : Heap} {Q : Post} : W T (.reg F_num_ParseHexr4) env H Q ↔ WR T F_num_ParseHexr4 F_num_ParseHexr4b env H none [] Q := w_reg
def F_num_ParseHexr5b : List IStmt := [
 ⟨some 30, .mv (.t 5), none⟩,
 ⟨some 31, .mv (.t 0), none⟩,
 ⟨some 32, .len 0 (.t 31), none⟩,
 ⟨some 33, .bin .lss (.t 30) (.t 32), none⟩]
def F_num_ParseHexr5 : List IStmt := F_num_ParseHexr5b
theorem F_num_ParseHexr5_W {T : Tab} {env : Env} {H : Heap} {Q : Post} : W T (.reg F_num_ParseHexr5) env H Q ↔ WR T F_num_ParseHexr5 F_num_ParseHexr5b env H none [] Q := w_reg
def F_num_ParseHexr7b : List IStmt := [
 ⟨some 36, .mv (.t 0), none⟩,
 ⟨some 37, .mv (.t 5), none⟩,
 ⟨some 38, .ixs (.t 36) (.t 37), none⟩,
 ⟨some 39, .callc 104 [(.t 38)], none⟩,
 ⟨some 6, .mv (.t 39), none⟩]
def F_num_ParseHexr7 : List IStmt := F_num_ParseHexr7b
theorem F_num_ParseHexr7_W {T : Tab} {env : Env} {H : Heap} {Q : Post} : W T (.reg F_num_ParseHexr7) env H Q ↔ WR T F_num_ParseHexr7 F_num_ParseHexr7b env H none [] Q := w_reg
def F_num_ParseHexr8b : List IStmt := [
 ⟨some 40, .mv (.t 6), none⟩,
 ⟨some 41, .bin .eql (.t 40) (.c (.int .u64 16)), none⟩]
def F_num_ParseHexr8 : List IStmt := F_num_ParseHexr8b
theorem F_num_ParseHexr8_W {T : Tab} {env : Env} {H : Heap} {Q : Post} : W T (.reg F_num_ParseHexr8) env H Q ↔ WR T F_num_ParseHexr8 F_num_ParseHexr8b env H none [] Q := w_reg
def F_num_ParseHexr9b : List IStmt := [
 ⟨some 2, .mv (.c (.int .u64 0)), none⟩,
 ⟨some 3, .mv (.c (.int .i64 12)), none⟩]
def F_num_ParseHexr9 : List IStmt := F_num_ParseHexr9b
theorem F_num_ParseHexr9_W {T : Tab} {env : Env} {H : Heap} {Q : Post} : W T (.reg F_num_ParseHexr9) env H Q ↔ WR T F_num_ParseHexr9 F_num_ParseHexr9b env H none [] Q := w_reg
def F_num_ParseHexr10b : List IStmt := [
 ⟨some 42, .mv (.t 4), none⟩,
 ⟨some 43, .bin .shl (.t 42) (.c (.int .u64 4)), none⟩,
 ⟨some 44, .mv (.t 6), none⟩,
 ⟨some 45, .bin .or (.t 43) (.t 44), none⟩,
 ⟨some 4, .mv (.t 45), none⟩]
def F_num_ParseHexr10 : List IStmt := F_num_ParseHexr10b
theorem F_num_ParseHexr10_W {T : Tab} {env : Env} {H : Heap} {Q : Post} : W T (.reg F_num_ParseHexr10) env H Q ↔ WR T F_num_ParseHexr10 F_num_ParseHexr10b env H none [] Q := w_reg
def F_num_ParseHexr6b : List IStmt := [
 ⟨some 34, .mv (.t 5), none⟩,
 ⟨some 35, .bin .add (.t 34) (.c (.int .i64 1)), none⟩,
 ⟨some 5, .mv (.t 35), none⟩]
def F_num_ParseHexr6 : List IStmt := F_num_ParseHexr6b
theorem F_num_ParseHexr6_W {T : Tab} {env : Env} {H : Heap} {Q : Post} : W T (.reg F_num_ParseHexr6) env H Q ↔ WR T F_num_ParseHexr6 F_num_ParseHexr6b env H none [] Q := w_reg
def F_num_ParseHexl0b : ICode := (.seq (.seq (.reg F_num_ParseHexr5) (.cond (.t 33) .skip (.exit 0))) (.seq (.block 1 (.seq (.reg F_num_ParseHexr7) (.seq (.seq (.reg F_num_ParseHexr8) (.cond (.t 41) (.seq (.reg F_num_ParseHexr9) .ret) .skip)) (.reg F_num_ParseHexr10)))) (.reg F_num_ParseHexr6)))
def F_num_ParseHexl0 : ICode := F_num_ParseHexl0b
theorem F_num_ParseHexl0_W {T : Tab} {env : Env} {H : Heap} {Q : Post} : W T F_num_ParseHexl0 env H Q ↔ W T F_num_ParseHexl0b env H Q := Iff.rfl
def F_num_ParseHexr11b : List IStmt := [
 ⟨some 46, .mv (.t 4), none⟩,
 ⟨some 2, .mv (.t 46), none⟩,
 ⟨some 3, .mv (.c (.int .i64 0)), none⟩]
def F_num_ParseHexr11 : List IStmt := F_num_ParseHexr11b
theorem F_num_ParseHexr11_W {T : Tab} {env : Env} {H : Heap} {Q : Post} : W T (.reg F_num_ParseHexr11) env H Q ↔ WR T F_num_ParseHexr11 F_num_ParseHexr11b env H none [] Q := w_reg
def F_num_ParseHexcb : ICode := (.seq (.reg F_num_ParseHexr0) (.seq (.seq (.reg F_num_ParseHexr1) (.cond (.t 29) (.seq (.reg F_num_ParseHexr2) .ret) .skip)) (.seq (.reg F_num_ParseHexr3) (.seq (.seq (.reg F_num_ParseHexr4) (.block 0 (.loop F_num_ParseHexl0))) (.seq (.reg F_num_ParseHexr11) .ret)))))
def F_num_ParseHexc : ICode := F_num_ParseHexcb
theorem F_num_ParseHexc_W {T : Tab} {env : Env} {H : Heap} {Q : Post} : W T F_num_ParseHexc env H Q ↔ W T F_num_ParseHexcb env H Q := Iff.rfl
def F_num_ParseHex : IFn := ⟨47, [.tmp 2, .tmp 3], F_num_ParseHexc⟩
set_option linter.defProp false in
set_option maxRecDepth 100000 in
def N_num_ParseHexP := And.intro F_num_ParseHexr0b.eq_1 (And.intro @F_num_ParseHexr0_W (And.intro F_num_ParseHexr1b.eq_1 (And.intro @F_num_ParseHexr1_W (And.intro @F_num_ParseHexr1_g3 (And.intro @F_num_ParseHexr1_g8 (And.intro @F_num_ParseHexr1_g13 (And.intro @F_num_ParseHexr1_g17 (And.intro F_num_ParseHexr2b.eq_1 (And.intro @F_num_ParseHexr2_W (And.intro F_num_ParseHexr3b.eq_1 (And.intro @F_num_ParseHexr3_W (And.intro F_num_ParseHexr4b.eq_1 (And.intro @F_num_ParseHexr4_W (And.intro F_num_ParseHexr5b.eq_1 (And.intro @F_num_ParseHexr5_W (And.intro F_num_ParseHexr7b.eq_1 (And.intro @F_num_ParseHexr7_W (And.intro F_num_ParseHexr8b.eq_1 (And.intro @F_num_ParseHexr8_W (And.intro F_num_ParseHexr9b.eq_1 (And.intro @F_num_ParseHexr9_W (And.intro F_num_ParseHexr10b.eq_1 (And.intro @F_num_ParseHexr10_W (And.intro F_num_ParseHexr6b.eq_1 (And.intro @F_num_ParseHexr6_W (And.intro @F_num_ParseHexl0_W (And.intro F_num_ParseHexl0b.eq_1 (And.intro F_num_ParseHexr11b.eq_1 (And.intro @F_num_ParseHexr11_W (And.intro @F_num_ParseHexc_W (F_num_ParseHexcb.eq_1)))))))))))))))))))))))))))))))
theorem N_num_ParseHex : type_of% N_num_ParseHexP := N_num_ParseHexP
set_option maxRecDepth 1000000 in
theorem F_num_ParseHex_chk : chkF Tryd.prog 92 F_num_ParseHex = true := by kernel_rfl

/-! ### script_reader_hex -/
def F_script_reader_hexr0b : List IStmt := [
 ⟨some 2, .mv (.c (.int .u64 0)), none⟩]
def F_script_reader_hexr0 : List IStmt := F_script_reader_hexr0b
theorem F_script_reader_hexr0_W {T : Tab} {env : Env} {H : Heap} {Q : Post} : W T (.reg F_script_reader_hexr0) env H Q ↔ WR T F_script_reader_hexr0 F_script_reader_hexr0b env H none [] Q := w_reg
def F_script_reader_hexr1b : List IStmt := [
 ⟨some 6, .mv (.t 0), none⟩,
 ⟨some 7, .call 71 [(.t 6)], none⟩,
 ⟨some 8, .callc 92 [(.t 7)], none⟩,
 ⟨some 5, .mv (.t 8), none⟩,
 ⟨some 9, .ext (.t 5) 0, none⟩,
 ⟨some 10, .ext (.t 5) 1, none⟩,
 ⟨some 3, .mv (.t 9), none⟩,
 ⟨some 4, .mv (.t 10), none⟩]
def F_script_reader_hexr1 : List IStmt := F_script_reader_hexr1b
theorem F_script_reader_hexr1_W {T : Tab} {env : Env} {H : Heap} {Q : Post} : W T (.reg F_script_reader_hexr1) env H Q ↔ WR T F_script_reader_hexr1 F_script_reader_hexr1b env H none [] Q := w_reg
def F_script_reader_hexr2b : List IStmt := [
 ⟨some 11, .mv (.t 4), none⟩,
 ⟨some 12, .bin .eql (.t 11) (.c (.int .i64 0)), none⟩,
 ⟨some 13, .call 89 [(.t 12)], none⟩]
def F_script_reader_hexr2 : List IStmt := F_script_reader_hexr2b
theorem F_script_reader_hexr2_W {T : Tab} {env : Env} {H : Heap} {Q : Post} : W T (.reg F_script_reader_hexr2) env H Q ↔ WR T F_script_reader_hexr2 F_script_reader_hexr2b env H none [] Q := w_reg
def F_script_reader_hexr3b : List IStmt := [
 ⟨some 14, .mv (.t 3), none⟩,
 ⟨some 2, .mv (.t 14), none⟩]
def F_script_reader_hexr3 : List IStmt := F_script_reader_hexr3b
theorem F_script_reader_hexr3_W {T : Tab} {env : Env} {H : Heap} {Q : Post} : W T (.reg F_script_reader_hexr3) env H Q ↔ WR T F_script_reader_hexr3 F_script_reader_hexr3b env H none [] Q := w_reg
def F_script_reader_hexcb : ICode := (.seq (.reg F_script_reader_hexr0) (.seq (.reg F_script_reader_hexr1) (.seq (.reg F_script_reader_hexr2) (.seq (.reg F_script_reader_hexr3) .ret))))
def F_script_reader_hexc : ICode := F_script_reader_hexcb
theorem F_script_reader_hexc_W {T : Tab} {env : Env} {H : Heap} {Q : Post} : W T F_script_reader_hexc env H Q ↔ W T F_script_reader_hexcb env H Q := Iff.rfl
def F_script_reader_hex : IFn := ⟨15, [.tmp 2], F_script_reader_hexc⟩
set_option linter.defProp false in
set_option maxRecDepth 100000 in
def N_script_reader_hexP := And.intro F_script_reader_hexr0b.eq_1 (And.intro @F_script_reader_hexr0_W (And.intro F_script_reader_hexr1b.eq_1 (And.intro @F_script_reader_hexr1_W (And.intro F_script_reader_hexr2b.eq_1 (And.intro @F_script_reader_hexr2_W (And.intro F_script_reader_hexr3b.eq_1 (And.intro @F_script_reader_hexr3_W (And.intro @F_script_reader_hexc_W (F_script_reader_hexcb.eq_1)))))))))
theorem N_script_reader_hex : type_of% N_script_reader_hexP := N_script_reader_hexP
set_option maxRecDepth 1000000 in
theorem F_script_reader_hex_chk : chkF Tryd.prog 74 F_script_reader_hex = true := by kernel_rfl

/-! ### script_reader_took -/
def F_script_reader_tookr0b : List IStmt := [
 ⟨some 4, .mv (.c (.bool false)), none⟩]
def F_script_reader_tookr0 : List IStmt := F_script_reader_tookr0b
theorem F_script_reader_tookr0_W {T : Tab} {env : Env} {H : Heap} {Q : Post} : W T (.reg F_script_reader_tookr0) env H Q ↔ WR T F_script_reader_tookr0 F_script_reader_tookr0b env H none [] Q := w_reg
def F_script_reader_tookr1b : List IStmt := [
 ⟨some 5, .mv (.t 0), none⟩,
 ⟨some 6, .nilc (.t 5), none⟩,
 ⟨some 7, .fa 0 (.t 6), none⟩,
 ⟨some 8, .load (.t 7), none⟩,
 ⟨some 9, .len 1 (.t 8), none⟩,
 ⟨some 10, .bin .eql (.t 9) (.c (.int .i64 0)), none⟩,
 ⟨some 11, .mv (.t 10), none⟩,
 ⟨some 12, .mv (.t 0), some (6, false)⟩,
 ⟨some 13, .nilc (.t 12), some (6, false)⟩,
 ⟨some 14, .fa 0 (.t 13), some (6, false)⟩,
 ⟨some 15, .load (.t 14), some (6, false)⟩,
 ⟨some 16, .ixa 1 (.t 15) (.c (.int .i64 0)), some (6, false)⟩,
 ⟨some 17, .load (.t 16), some (6, false)⟩,
 ⟨some 18, .mv (.t 1), some (6, false)⟩,
 ⟨some 19, .bin .neq (.t 17) (.t 18), some (6, false)⟩,
 ⟨some 20, .pick (.t 11) (.c (.bool true)) (.t 19), none⟩]
def F_script_reader_tookr1 : List IStmt := F_script_reader_tookr1b
theorem F_script_reader_tookr1_W {T : Tab} {env : Env} {H : Heap} {Q : Post} : W T (.reg F_script_reader_tookr1) env H Q ↔ WR T F_script_reader_tookr1 F_script_reader_tookr1b env H none [] Q := w_reg
theorem F_script_reader_tookr1_g6 {env : Env} : yieldI F_script_reader_tookr1 env 6 = bOf (env 11) := rfl
def F_script_reader_tookr2b : List IStmt := [
 ⟨some 4, .mv (.c (.bool false)), none⟩]
def F_script_reader_tookr2 : List IStmt := F_script_reader_tookr2b
theorem F_script_reader_tookr2_W {T : Tab} {env : Env} {H : Heap} {Q : Post} : W T (.reg F_script_reader_tookr2) env H Q ↔ WR T F_script_reader_tookr2 F_script_reader_tookr2b env H none [] Q := w_reg
def F_script_reader_tookr3b : List IStmt := [
 ⟨some 21, .mv (.t 0), none⟩,
 ⟨some 22, .mv (.t 0), none⟩,
 ⟨some 23, .nilc (.t 22), none⟩,
 ⟨some 24, .fa 0 (.t 23), none⟩,
 ⟨some 25, .load (.t 24), none⟩,
 ⟨some 26, .sle 1 (.t 25) (some (.c (.int .i64 1))) none none, none⟩,
 ⟨some 27, .nilc (.t 21), none⟩,
 ⟨some 28, .fa 0 (.t 27), none⟩,
 ⟨none, .store 1 (.t 28) (.t 26), none⟩]
def F_script_reader_tookr3 : List IStmt := F_script_reader_tookr3b
theorem F_script_reader_tookr3_W {T : Tab} {env : Env} {H : Heap} {Q : Post} : W T (.reg F_script_reader_tookr3) env H Q ↔ WR T F_script_reader_tookr3 F_script_reader_tookr3b env H none [] Q := w_reg
def F_script_reader_tookr4b : List IStmt := [
 ⟨some 4, .mv (.c (.bool true)), none⟩]
def F_script_reader_tookr4 : List IStmt := F_script_reader_tookr4b
theorem F_script_reader_tookr4_W {T : Tab} {env : Env} {H : Heap} {Q : Post} : W T (.reg F_script_reader_tookr4) env H Q ↔ WR T F_script_reader_tookr4 F_script_reader_tookr4b env H none [] Q := w_reg
def F_script_reader_tookcb : ICode := (.seq (.reg F_script_reader_tookr0) (.seq (.seq (.reg F_script_reader_tookr1) (.cond (.t 20) (.seq (.reg F_script_reader_tookr2) .ret) .skip)) (.seq (.reg F_script_reader_tookr3) (.seq (.reg F_script_reader_tookr4) .ret))))
def F_script_reader_tookc : ICode := F_script_reader_tookcb
theorem F_script_reader_tookc_W {T : Tab} {env : Env} {H : Heap} {Q : Post} : W T F_script_reader_tookc env H Q ↔ W T F_script_reader_tookcb env H Q := Iff.rfl
def F_script_reader_took : IFn := ⟨29, [.tmp 4], F_script_reader_tookc⟩
set_option linter.defProp false in
set_option maxRecDepth 100000 in
def N_script_reader_tookP := And.intro F_script_reader_tookr0b.eq_1 (And.intro @F_script_reader_tookr0_W (And.intro F_script_reader_tookr1b.eq_1 (And.intro @F_script_reader_tookr1_W (And.intro @F_script_reader_tookr1_g6 (And.intro F_script_reader_tookr2b.eq_1 (And.intro @F_script_reader_tookr2_W (And.intro F_script_reader_tookr3b.eq_1 (And.intro @F_script_reader_tookr3_W (And.intro F_script_reader_tookr4b.eq_1 (And.intro @F_script_reader_tookr4_W (And.intro @F_script_reader_tookc_W (F_script_reader_tookcb.eq_1))))))))))))
theorem N_script_reader_took : type_of% N_script_reader_tookP := N_script_reader_tookP
set_option maxRecDepth 1000000 in
theorem F_script_reader_took_chk : chkF Tryd.prog 90 F_script_reader_took = true := by kernel_rfl

/-! ### script_reader_open -/
def F_script_reader_openr0b : List IStmt := [
 ⟨some 2, .alloc 18 [.int .i64 0, .string ⟨#[]⟩, .string ⟨#[]⟩, .string ⟨#[]⟩, .int .i64 0, .slice none 0 0, .int .i64 0, .int .u64 0, .string ⟨#[]⟩, .bool false, .bool false, .slice none 0 0, .slice none 0 0, .slice none 0 0, .slice none 0 0, .string ⟨#[]⟩, .slice none 0 0, .bool false], none⟩]
def F_script_reader_openr0 : List IStmt := F_script_reader_openr0b
theorem F_script_reader_openr0_W {T : Tab} {env : Env} {H : Heap} {Q : Post} : W T (.reg F_script_reader_openr0) env H Q ↔ WR T F_script_reader_openr0 F_script_reader_openr0b env H none [] Q := w_reg
def F_script_reader_openr1b : List IStmt := [
 ⟨some 7, .mv (.t 0), none⟩,
 ⟨some 8, .call 71 [(.t 7)], none⟩,
 ⟨some 9, .mv (.t 0), none⟩,
 ⟨some 10, .call 71 [(.t 9)], none⟩,
 ⟨some 11, .bld [.int .i64 0, .string ⟨#[]⟩, .string ⟨#[]⟩, .string ⟨#[]⟩, .int .i64 0, .slice none 0 0, .int .i64 0, .int .u64 0, .string ⟨#[]⟩, .bool false, .bool false, .slice none 0 0, .slice none 0 0, .slice none 0 0, .slice none 0 0, .string ⟨#[]⟩, .slice none 0 0, .bool false] [(0, 1, (.c (.int .i64 1))), (1, 1, (.t 8)), (2, 1, (.t 10))], none⟩,
 ⟨some 3, .alloc 18 [.int .i64 0, .string ⟨#[]⟩, .string ⟨#[]⟩, .string ⟨#[]⟩, .int .i64 0, .slice none 0 0, .int .i64 0, .int .u64 0, .string ⟨#[]⟩, .bool false, .bool false, .slice none 0 0, .slice none 0 0, .slice none 0 0, .slice none 0 0, .string ⟨#[]⟩, .slice none 0 0, .bool false], none⟩,
 ⟨none, .store 18 (.t 3) (.t 11), none⟩]
def F_script_reader_openr1 : List IStmt := F_script_reader_openr1b
theorem F_script_reader_openr1_W {T : Tab} {env : Env} {H : Heap} {Q : Post} : W T (.reg F_script_reader_openr1) env H Q ↔ WR T F_script_reader_openr1 F_script_reader_openr1b env H none [] Q := w_reg
def F_script_reader_openr2b : List IStmt := [
 ⟨some 12, .bld [.string ⟨#[]⟩, .int .i64 0] [(0, 1, (.c (.string ⟨#[103, 108, 111, 98, 97, 108]⟩))), (1, 1, (.c (.int .i64 1)))], none⟩,
 ⟨some 13, .bld [.string ⟨#[]⟩, .int .i64 0] [(0, 1, (.c (.string ⟨#[110, 111, 100, 101, 108, 101, 116, 101]⟩))), (1, 1, (.c (.int .i64 2)))], none⟩,
 ⟨some 14, .bld [.string ⟨#[]⟩, .int .i64 0] [(0, 1, (.c (.string ⟨#[110, 111, 108, 111, 97, 100]⟩))), (1, 1, (.c (.int .i64 4)))], none⟩,
 ⟨some 15, .bsli 2 3 [.string ⟨#[]⟩, .int .i64 0] [(0, (.t 12)), (1, (.t 13)), (2, (.t 14))], none⟩,
 ⟨some 16, .len 1 (.t 15), none⟩,
 ⟨some 17, .mv (.c (.int .i64 0)), none⟩]
def F_script_reader_openr2 : List IStmt := F_script_reader_openr2b
theorem F_script_reader_openr2_W {T : Tab} {env : Env} {H : Heap} {Q : Post} : W T (.reg F_script_reader_openr2) env H Q ↔ WR T F_script_reader_openr2 F_script_reader_openr2b env H none [] Q := w_reg
def F_script_reader_openr3b : List IStmt := [
 ⟨some 18, .bin .lss (.t 17) (.t 16), none⟩]
def F_script_reader_openr3 : List IStmt := F_script_reader_openr3b
theorem F_script_reader_openr3_W {T : Tab} {env : Env} {H : Heap} {Q : Post} : W T (.reg F_script_reader_openr3) env H Q ↔ WR T F_script_reader_openr3 F_script_reader_openr3b env H none [] Q := w_reg
def F_script_reader_openr4b : List IStmt := [
 ⟨some 19, .ixa 2 (.t 15) (.t 17), none⟩,
 ⟨some 20, .loadN 2 (.t 19), none⟩,
 ⟨some 5, .alloc 2 [.string ⟨#[]⟩, .int .i64 0], none⟩,
 ⟨none, .store 2 (.t 5) (.t 20), none⟩]
def F_script_reader_openr4 : List IStmt := F_script_reader_openr4b
theorem F_script_reader_openr4_W {T : Tab} {env : Env} {H : Heap} {Q : Post} : W T (.reg F_script_reader_openr4) env H Q ↔ WR T F_script_reader_openr4 F_script_reader_openr4b env H none [] Q := w_reg
def F_script_reader_openr5b : List IStmt := [
 ⟨some 21, .mv (.t 0), none⟩,
 ⟨some 22, .fa 0 (.t 5), none⟩,
 ⟨some 23, .load (.t 22), none⟩,
 ⟨some 24, .call 90 [(.t 21), (.t 23)], none⟩]
def F_script_reader_openr5 : List IStmt := F_script_reader_openr5b
theorem F_script_reader_openr5_W {T : Tab} {env : Env} {H : Heap} {Q : Post} : W T (.reg F_script_reader_openr5) env H Q ↔ WR T F_script_reader_openr5 F_script_reader_openr5b env H none [] Q := w_reg
def F_script_reader_openr6b : List IStmt := [
 ⟨some 25, .fa 4 (.t 3), none⟩,
 ⟨some 26, .load (.t 25), none⟩,
 ⟨some 27, .fa 1 (.t 5), none⟩,
 ⟨some 28, .load (.t 27), none⟩,
 ⟨some 29, .bin .or (.t 26) (.t 28), none⟩,
 ⟨some 30, .fa 4 (.t 3), none⟩,
 ⟨none, .store 1 (.t 30) (.t 29), none⟩]
def F_script_reader_openr6 : List IStmt := F_script_reader_openr6b
theorem F_script_reader_openr6_W {T : Tab} {env : Env} {H : Heap} {Q : Post} : W T (.reg F_script_reader_openr6) env H Q ↔ WR T F_script_reader_openr6 F_script_reader_openr6b env H none [] Q := w_reg
def F_script_reader_openr7b : List IStmt := [
 ⟨some 31, .bin .add (.t 17) (.c (.int .i64 1)), none⟩,
 ⟨some 17, .mv (.t 31), none⟩]
def F_script_reader_openr7 : List IStmt := F_script_reader_openr7b
theorem F_script_reader_openr7_W {T : Tab} {env : Env} {H : Heap} {Q : Post} : W T (.reg F_script_reader_openr7) env H Q ↔ WR T F_script_reader_openr7 F_script_reader_openr7b env H none [] Q := w_reg
def F_script_reader_openl0b : ICode := (.seq (.reg F_script_reader_openr3) (.seq (.cond (.t 18) .skip (.exit 0)) (.seq (.block 1 (.seq (.reg F_script_reader_openr4) (.seq (.reg F_script_reader_openr5) (.cond (.t 24) (.reg F_script_reader_openr6) .skip)))) (.reg F_script_reader_openr7))))
def F_script_reader_openl0 : ICode := F_script_reader_openl0b
theorem F_script_reader_openl0_W {T : Tab} {env : Env} {H : Heap} {Q : Post} : W T F_script_reader_openl0 env H Q ↔ W T F_script_reader_openl0b env H Q := Iff.rfl
def F_script_reader_openr8b : List IStmt := [
 ⟨some 32, .mv (.t 0), none⟩,
 ⟨some 33, .call 90 [(.t 32), (.c (.string ⟨#[97, 116]⟩))], none⟩]
def F_script_reader_openr8 : List IStmt := F_script_reader_openr8b
theorem F_script_reader_openr8_W {T : Tab} {env : Env} {H : Heap} {Q : Post} : W T (.reg F_script_reader_openr8) env H Q ↔ WR T F_script_reader_openr8 F_script_reader_openr8b env H none [] Q := w_reg
def F_script_reader_openr9b : List IStmt := [
 ⟨some 6, .mv (.c (.bool true)), none⟩]
def F_script_reader_openr9 : List IStmt := F_script_reader_openr9b
theorem F_script_reader_openr9_W {T : Tab} {env : Env} {H : Heap} {Q : Post} : W T (.reg F_script_reader_openr9) env H Q ↔ WR T F_script_reader_openr9 F_script_reader_openr9b env H none [] Q := w_reg
def F_script_reader_openr10b : List IStmt := [
 ⟨some 34, .mv (.t 6), none⟩]
def F_script_reader_openr10 : List IStmt := F_script_reader_openr10b
theorem F_script_reader_openr10_W {T : Tab} {env : Env} {H : Heap} {Q : Post} : W T (.reg F_script_reader_openr10) env H Q ↔ WR T F_script_reader_openr10 F_script_reader_openr10b env H none [] Q := w_reg
def F_script_reader_openr12b : List IStmt := [
 ⟨some 41, .fa 5 (.t 3), none⟩,
 ⟨some 42, .load (.t 41), none⟩,
 ⟨some 43, .mv (.t 0), none⟩,
 ⟨some 44, .call 74 [(.t 43)], none⟩,
 ⟨some 45, .bsli 1 1 [.int .u64 0] [(0, (.t 44))], none⟩,
 ⟨some 46, .app 1 8 (.t 42) (.t 45), none⟩,
 ⟨some 47, .fa 5 (.t 3), none⟩,
 ⟨none, .store 1 (.t 47) (.t 46), none⟩]
def F_script_reader_openr12 : List IStmt := F_script_reader_openr12b
theorem F_script_reader_openr12_W {T : Tab} {env : Env} {H : Heap} {Q : Post} : W T (.dreg F_script_reader_openr12 [(1, 4)]) env H Q ↔ WR T F_script_reader_openr12 F_script_reader_openr12b env H (some []) [(1, 4)] Q := w_dreg
theorem F_script_reader_openr12_len : F_script_reader_openr12.length = 8 := rfl
theorem F_script_reader_openr12_i1 : F_script_reader_openr12[1]? = some ⟨some 42, .load (.t 41), none⟩ := rfl
def F_script_reader_openr11b : List IStmt := [
 ⟨some 35, .mv (.t 0), none⟩,
 ⟨some 36, .nilc (.t 35), none⟩,
 ⟨some 37, .fa 0 (.t 36), none⟩,
 ⟨some 38, .load (.t 37), none⟩,
 ⟨some 39, .len 1 (.t 38), none⟩,
 ⟨some 40, .bin .gtr (.t 39) (.c (.int .i64 0)), none⟩,
 ⟨some 6, .mv (.t 40), none⟩]
def F_script_reader_openr11 : List IStmt := F_script_reader_openr11b
theorem F_script_reader_openr11_W {T : Tab} {env : Env} {H : Heap} {Q : Post} : W T (.reg F_script_reader_openr11) env H Q ↔ WR T F_script_reader_openr11 F_script_reader_openr11b env H none [] Q := w_reg
def F_script_reader_openl1b : ICode := (.seq (.seq (.reg F_script_reader_openr10) (.cond (.t 34) .skip (.exit 2))) (.seq (.block 3 (.dreg F_script_reader_openr12 [(1, 4)])) (.reg F_script_reader_openr11)))
def F_script_reader_openl1 : ICode := F_script_reader_openl1b
theorem F_script_reader_openl1_W {T : Tab} {env : Env} {H : Heap} {Q : Post} : W T F_script_reader_openl1 env H Q ↔ W T F_script_reader_openl1b env H Q := Iff.rfl
def F_script_reader_openr13b : List IStmt := [
 ⟨some 48, .loadN 18 (.t 3), none⟩,
 ⟨none, .store 18 (.t 2) (.t 48), none⟩]
def F_script_reader_openr13 : List IStmt := F_script_reader_openr13b
theorem F_script_reader_openr13_W {T : Tab} {env : Env} {H : Heap} {Q : Post} : W T (.reg F_script_reader_openr13) env H Q ↔ WR T F_script_reader_openr13 F_script_reader_openr13b env H none [] Q := w_reg
def F_script_reader_opencb : ICode := (.seq (.reg F_script_reader_openr0) (.seq (.reg F_script_reader_openr1) (.seq (.seq (.reg F_script_reader_openr2) (.block 0 (.loop F_script_reader_openl0))) (.seq (.seq (.reg F_script_reader_openr8) (.cond (.t 33) (.seq (.reg F_script_reader_openr9) (.block 2 (.loop F_script_reader_openl1))) .skip)) (.seq (.reg F_script_reader_openr13) .ret)))))
def F_script_reader_openc : ICode := F_script_reader_opencb
theorem F_script_reader_openc_W {T : Tab} {env : Env} {H : Heap} {Q : Post} : W T F_script_reader_openc env H Q ↔ W T F_script_reader_opencb env H Q := Iff.rfl
def F_script_reader_open : IFn := ⟨49, [.cell 2 (some 18)], F_script_reader_openc⟩
set_option linter.defProp false in
set_option maxRecDepth 100000 in
def N_script_reader_openP := And.intro F_script_reader_openr0b.eq_1 (And.intro @F_script_reader_openr0_W (And.intro F_script_reader_openr1b.eq_1 (And.intro @F_script_reader_openr1_W (And.intro F_script_reader_openr2b.eq_1 (And.intro @F_script_reader_openr2_W (And.intro F_script_reader_openr3b.eq_1 (And.intro @F_script_reader_openr3_W (And.intro F_script_reader_openr4b.eq_1 (And.intro @F_script_reader_openr4_W (And.intro F_script_reader_openr5b.eq_1 (And.intro @F_script_reader_openr5_W (And.intro F_script_reader_openr6b.eq_1 (And.intro @F_script_reader_openr6_W (And.intro F_script_reader_openr7b.eq_1 (And.intro @F_script_reader_openr7_W (And.intro @F_script_reader_openl0_W (And.intro F_script_reader_openl0b.eq_1 (And.intro F_script_reader_openr8b.eq_1 (And.intro @F_script_reader_openr8_W (And.intro F_script_reader_openr9b.eq_1 (And.intro @F_script_reader_openr9_W (And.intro F_script_reader_openr10b.eq_1 (And.intro @F_script_reader_openr10_W (And.intro F_script_reader_openr12b.eq_1 (And.intro @F_script_reader_openr12_W (And.intro @F_script_reader_openr12_len (And.intro @F_script_reader_openr12_i1 (And.intro F_script_reader_openr11b.eq_1 (And.intro @F_script_reader_openr11_W (And.intro @F_script_reader_openl1_W (And.intro F_script_reader_openl1b.eq_1 (And.intro F_script_reader_openr13b.eq_1 (And.intro @F_script_reader_openr13_W (And.intro @F_script_reader_openc_W (F_script_reader_opencb.eq_1)))))))))))))))))))))))))))))))))))
theorem N_script_reader_open : type_of% N_script_reader_openP := N_script_reader_openP
set_option maxRecDepth 1000000 in
theorem F_script_reader_open_chk : chkF Tryd.prog 72 F_script_reader_open = true := by kernel_rfl

/-! ### num_Parse -/
def F_num_Parser0b : List IStmt := [
 ⟨some 2, .mv (.c (.int .i64 0)), none⟩,
 ⟨some 3, .mv (.c (.int .i64 0)), none⟩]
def F_num_Parser0 : List IStmt := F_num_Parser0b
theorem F_num_Parser0_W {T : Tab} {env : Env} {H : Heap} {Q : Post} : W T (.reg F_num_Parser0) env H Q ↔ WR T F_num_Parser0 F_num_Parser0b env H none [] Q := w_reg
def F_num_Parser1b : List IStmt := [
 ⟨some 6, .mv (.t 0), none⟩,
 ⟨some 7, .bin .eql (.t 6) (.c (.string ⟨#[]⟩)), none⟩,
 ⟨some 8, .mv (.t 7), none⟩,
 ⟨some 9, .mv (.t 0), some (2, false)⟩,
 ⟨some 10, .len 0 (.t 9), some (2, false)⟩,
 ⟨some 11, .bin .gtr (.t 10) (.c (.int .i64 10)), some (2, false)⟩,
 ⟨some 12, .pick (.t 8) (.c (.bool true)) (.t 11), none⟩,
 ⟨some 13, .mv (.t 12), none⟩,
 ⟨some 14, .mv (.t 0), some (7, false)⟩,
 ⟨some 15, .ixs (.t 14) (.c (.int .i64 0)), some (7, false)⟩,
 ⟨some 16, .bin .eql (.t 15) (.c (.int .u8 48)), some (7, false)⟩,
 ⟨some 17, .mv (.t 16), some (7, false)⟩,
 ⟨some 18, .mv (.t 0), some (11, true)⟩,
 ⟨some 19, .len 0 (.t 18), some (11, true)⟩,
 ⟨some 20, .bin .gtr (.t 19) (.c (.int .i64 1)), some (11, true)⟩,
 ⟨some 21, .pick (.t 17) (.t 20) (.c (.bool false)), some (7, false)⟩,
 ⟨some 22, .pick (.t 13) (.c (.bool true)) (.t 21), none⟩]
def F_num_Parser1 : List IStmt := F_num_Parser1b
theorem F_num_Parser1_W {T : Tab} {env : Env} {H : Heap} {Q : Post} : W T (.reg F_num_Parser1) env H Q ↔ WR T F_num_Parser1 F_num_Parser1b env H none [] Q := w_reg
theorem F_num_Parser1_g2 {env : Env} : yieldI F_num_Parser1 env 2 = bOf (env 8) := rfl
theorem F_num_Parser1_g7 {env : Env} : yieldI F_num_Parser1 env 7 = bOf (env 13) := rfl
theorem F_num_Parser1_g11 {env : Env} : yieldI F_num_Parser1 env 11 = bOf (env 17) := rfl
def F_num_Parser2b : List IStmt := [
 ⟨some 2, .mv (.c (.int .i64 0)), none⟩,
 ⟨some 3, .mv (.c (.int .i64 12)), none⟩]
def F_num_Parser2 : List IStmt := F_num_Parser2b
theorem F_num_Parser2_W {T : Tab} {env : Env} {H : Heap} {Q : Post} : W T (.reg F_num_Parser2) env H Q ↔ WR T F_num_Parser2 F_num_Parser2b env H none [] Q := w_reg
def F_num_Parser3b : List IStmt := [
 ⟨some 4, .mv (.c (.int .i64 0)), none⟩]
def F_num_Parser3 : List IStmt := F_num_Parser3b
theorem F_num_Parser3_W {T : Tab} {env : Env} {H : Heap} {Q : Post} : W T (.reg F_num_Parser3) env H Q ↔ WR T F_num_Parser3 F_num_Parser3b env H none [] Q := w_reg
def F_num_Parser4b : List IStmt := [
 ⟨some 23, .mv (.t 0), none⟩,
 ⟨some 24, .len 0 (.t 23), none⟩,
 ⟨some 25, .mv (.c (.int .i64 0)), none⟩]
def F_num_Parser4 : List IStmt := F_num_Parser4b
theorem F_num_Parser4_W {T : Tab} {env : Env} {H : Heap} {Q : Post} : W T (.reg F_num_Parser4) env H Q ↔ WR T F_num_Parser4 F_num_Parser4b env H none [] Q := w_reg
def F_num_Parser5b : List IStmt := [
 ⟨some 26, .bin .lss (.t 25) (.t 24), none⟩]
def F_num_Parser5 : List IStmt := F_num_Parser5b
theorem F_num_Parser5_W {T : Tab} {env : Env} {H : Heap} {Q : Post} : W T (.reg F_num_Parser5) env H Q ↔ WR T F_num_Parser5 F_num_Parser5b env H none [] Q := w_reg
def F_num_Parser6b : List IStmt := [
 ⟨some 27, .mv (.t 25), none⟩,
 ⟨some 5, .mv (.t 27), none⟩]
def F_num_Parser6 : List IStmt := F_num_Parser6b
theorem F_num_Parser6_W {T : Tab} {env : Env} {H : Heap} {Q : Post} : W T (.reg F_num_Parser6) env H Q ↔ WR T F_num_Parser6 F_num_Parser6b env H none [] Q := w_reg
def F_num_Parser7b : List IStmt := [
 ⟨some 28, .mv (.t 0), none⟩,
 ⟨some 29, .mv (.t 5), none⟩,
 ⟨some 30, .ixs (.t 28) (.t 29), none⟩,
 ⟨some 31, .bin .lss (.t 30) (.c (.int .u8 48)), none⟩,
 ⟨some 32, .mv (.t 31), none⟩,
 ⟨some 33, .mv (.t 0), some (4, false)⟩,
 ⟨some 34, .mv (.t 5), some (4, false)⟩,
 ⟨some 35, .ixs (.t 33) (.t 34), some (4, false)⟩,
 ⟨some 36, .bin .gtr (.t 35) (.c (.int .u8 57)), some (4, false)⟩,
 ⟨some 37, .pick (.t 32) (.c (.bool true)) (.t 36), none⟩]
def F_num_Parser7 : List IStmt := F_num_Parser7b
theorem F_num_Parser7_W {T : Tab} {env : Env} {H : Heap} {Q : Post} : W T (.reg F_num_Parser7) env H Q ↔ WR T F_num_Parser7 F_num_Parser7b env H none [] Q := w_reg
theorem F_num_Parser7_g4 {env : Env} : yieldI F_num_Parser7 env 4 = bOf (env 32) := rfl
def F_num_Parser8b : List IStmt := [
 ⟨some 2, .mv (.c (.int .i64 0)), none⟩,
 ⟨some 3, .mv (.c (.int .i64 12)), none⟩]
def F_num_Parser8 : List IStmt := F_num_Parser8b
theorem F_num_Parser8_W {T : Tab} {env : Env} {H : Heap} {Q : Post} : W T (.reg F_num_Parser8) env H Q ↔ WR T F_num_Parser8 F_num_Parser8b env H none [] Q := w_reg
def F_num_Parser9b : List IStmt := [
 ⟨some 38, .mv (.t 4), none⟩,
 ⟨some 39, .bin .mul (.t 38) (.c (.int .i64 10)), none⟩,
 ⟨some 40, .mv (.t 0), none⟩,
 ⟨some 41, .mv (.t 5), none⟩,
 ⟨some 42, .ixs (.t 40) (.t 41), none⟩,
 ⟨some 43, .bin .sub (.t 42) (.c (.int .u8 48)), none⟩,
 ⟨some 44, .conv .i64 (.t 43), none⟩,
 ⟨some 45, .bin .add (.t 39) (.t 44), none⟩,
 ⟨some 4, .mv (.t 45), none⟩]
def F_num_Parser9 : List IStmt := F_num_Parser9b
theorem F_num_Parser9_W {T : Tab} {env : Env} {H : Heap} {Q : Post} : W T (.reg F_num_Parser9) env H Q ↔ WR T F_num_Parser9 F_num_Parser9b env H none [] Q := w_reg
def F_num_Parser10b : List IStmt := [
 ⟨some 46, .bin .add (.t 25) (.c (.int .i64 1)), none⟩,
 ⟨some 25, .mv (.t 46), none⟩]
def F_num_Parser10 : List IStmt := F_num_Parser10b
theorem F_num_Parser10_W {T : Tab} {env : Env} {H : Heap} {Q : Post} : W T (.reg F_num_Parser10) env H Q ↔ WR T F_num_Parser10 F_num_Parser10b env H none [] Q := w_reg
def F_num_Parsel0b : ICode := (.seq (.reg F_num_Parser5) (.seq (.cond (.t 26) .skip (.exit 0)) (.seq (.block 1 (.seq (.reg F_num_Parser6) (.seq (.seq (.reg F_num_Parser7) (.cond (.t 37) (.seq (.reg F_num_Parser8) .ret) .skip)) (.reg F_num_Parser9)))) (.reg F_num_Parser10))))
def F_num_Parsel0 : ICode := F_num_Parsel0b
theorem F_num_Parsel0_W {T : Tab} {env : Env} {H : Heap} {Q : Post} : W T F_num_Parsel0 env H Q ↔ W T F_num_Parsel0b env H Q := Iff.rfl
def F_num_Parser11b : List IStmt := [
 ⟨some 47, .mv (.t 4), none⟩,
 ⟨some 48, .bin .geq (.t 47) (.c (.int .i64 2147483648)), none⟩]
def F_num_Parser11 : List IStmt := F_num_Parser11b
theorem F_num_Parser11_W {T : Tab} {env : Env} {H : Heap} {Q : Post} : W T (.reg F_num_Parser11) env H Q ↔ WR T F_num_Parser11 F_num_Parser11b env H none [] Q := w_reg
def F_num_Parser12b : List IStmt := [
 ⟨some 2, .mv (.c (.int .i64 0)), none⟩,
 ⟨some 3, .mv (.c (.int .i64 12)), none⟩]
def F_num_Parser12 : List IStmt := F_num_Parser12b
theorem F_num_Parser12_W {T : Tab} {env : Env} {H : Heap} {Q : Post} : W T (.reg F_num_Parser12) env H Q ↔ WR T F_num_Parser12 F_num_Parser12b env H none [] Q := w_reg
def F_num_Parser13b : List IStmt := [
 ⟨some 49, .mv (.t 4), none⟩,
 ⟨some 2, .mv (.t 49), none⟩,
 ⟨some 3, .mv (.c (.int .i64 0)), none⟩]
def F_num_Parser13 : List IStmt := F_num_Parser13b
theorem F_num_Parser13_W {T : Tab} {env : Env} {H : Heap} {Q : Post} : W T (.reg F_num_Parser13) env H Q ↔ WR T F_num_Parser13 F_num_Parser13b env H none [] Q := w_reg
def F_num_Parsecb : ICode := (.seq (.reg F_num_Parser0) (.seq (.seq (.reg F_num_Parser1) (.cond (.t 22) (.seq (.reg F_num_Parser2) .ret) .skip)) (.seq (.reg F_num_Parser3) (.seq (.seq (.reg F_num_Parser4) (.block 0 (.loop F_num_Parsel0))) (.seq (.seq (.reg F_num_Parser11) (.cond (.t 48) (.seq (.reg F_num_Parser12) .ret) .skip)) (.seq (.reg F_num_Parser13) .ret))))))
def F_num_Parsec : ICode := F_num_Parsecb
theorem F_num_Parsec_W {T : Tab} {env : Env} {H : Heap} {Q : Post} : W T F_num_Parsec env H Q ↔ W T F_num_Parsecb env H Q := Iff.rfl
def F_num_Parse : IFn := ⟨50, [.tmp 2, .tmp 3], F_num_Parsec⟩
set_option linter.defProp false in
set_option maxRecDepth 100000 in
def N_num_ParseP := And.intro F_num_Parser0b.eq_1 (And.intro @F_num_Parser0_W (And.intro F_num_Parser1b.eq_1 (And.intro @F_num_Parser1_W (And.intro @F_num_Parser1_g2 (And.intro @F_num_Parser1_g7 (And.intro @F_num_Parser1_g11 (And.intro F_num_Parser2b.eq_1 (And.intro @F_num_Parser2_W (And.intro F_num_Parser3b.eq_1 (And.intro @F_num_Parser3_W (And.intro F_num_Parser4b.eq_1 (And.intro @F_num_Parser4_W (And.intro F_num_Parser5b.eq_1 (And.intro @F_num_Parser5_W (And.intro F_num_Parser6b.eq_1 (And.intro @F_num_Parser6_W (And.intro F_num_Parser7b.eq_1 (And.intro @F_num_Parser7_W (And.intro @F_num_Parser7_g4 (And.intro F_num_Parser8b.eq_1 (And.intro @F_num_Parser8_W (And.intro F_num_Parser9b.eq_1 (And.intro @F_num_Parser9_W (And.intro F_num_Parser10b.eq_1 (And.intro @F_num_Parser10_W (And.intro @F_num_Parsel0_W (And.intro F_num_Parsel0b.eq_1 (And.intro F_num_Parser11b.eq_1 (And.intro @F_num_Parser11_W (And.intro F_num_Parser12b.eq_1 (And.intro @F_num_Parser12_W (And.intro F_num_Parser13b.eq_1 (And.intro @F_num_Parser13_W (And.intro @F_num_Parsec_W (F_num_Parsecb.eq_1)))))))))))))))))))))))))))))))))))
theorem N_num_Parse : type_of% N_num_ParseP := N_num_ParseP
set_option maxRecDepth 1000000 in
theorem F_num_Parse_chk : chkF Tryd.prog 91 F_num_Parse = true := by kernel_rfl

/-! ### script_reader_number -/
def F_script_reader_numberr0b : List IStmt := [
 ⟨some 2, .mv (.c (.int .i64 0)), none⟩]
def F_script_reader_numberr0 : List IStmt := F_script_reader_numberr0b
theorem F_script_reader_numberr0_W {T : Tab} {env : Env} {H : Heap} {Q : Post} : W T (.reg F_script_reader_numberr0) env H Q ↔ WR T F_script_reader_numberr0 F_script_reader_numberr0b env H none [] Q := w_reg
def F_script_reader_numberr1b : List IStmt := [
 ⟨some 6, .mv (.t 0), none⟩,
 ⟨some 7, .call 71 [(.t 6)], none⟩,
 ⟨some 8, .callc 91 [(.t 7)], none⟩,
 ⟨some 5, .mv (.t 8), none⟩,
 ⟨some 9, .ext (.t 5) 0, none⟩,
 ⟨some 10, .ext (.t 5) 1, none⟩,
 ⟨some 3, .mv (.t 9), none⟩,
 ⟨some 4, .mv (.t 10), none⟩]
def F_script_reader_numberr1 : List IStmt := F_script_reader_numberr1b
theorem F_script_reader_numberr1_W {T : Tab} {env : Env} {H : Heap} {Q : Post} : W T (.reg F_script_reader_numberr1) env H Q ↔ WR T F_script_reader_numberr1 F_script_reader_numberr1b env H none [] Q := w_reg
def F_script_reader_numberr2b : List IStmt := [
 ⟨some 11, .mv (.t 4), none⟩,
 ⟨some 12, .bin .eql (.t 11) (.c (.int .i64 0)), none⟩,
 ⟨some 13, .call 89 [(.t 12)], none⟩]
def F_script_reader_numberr2 : List IStmt := F_script_reader_numberr2b
theorem F_script_reader_numberr2_W {T : Tab} {env : Env} {H : Heap} {Q : Post} : W T (.reg F_script_reader_numberr2) env H Q ↔ WR T F_script_reader_numberr2 F_script_reader_numberr2b env H none [] Q := w_reg
def F_script_reader_numberr3b : List IStmt := [
 ⟨some 14, .mv (.t 3), none⟩,
 ⟨some 2, .mv (.t 14), none⟩]
def F_script_reader_numberr3 : List IStmt := F_script_reader_numberr3b
theorem F_script_reader_numberr3_W {T : Tab} {env : Env} {H : Heap} {Q : Post} : W T (.reg F_script_reader_numberr3) env H Q ↔ WR T F_script_reader_numberr3 F_script_reader_numberr3b env H none [] Q := w_reg
def F_script_reader_numbercb : ICode := (.seq (.reg F_script_reader_numberr0) (.seq (.reg F_script_reader_numberr1) (.seq (.reg F_script_reader_numberr2) (.seq (.reg F_script_reader_numberr3) .ret))))
def F_script_reader_numberc : ICode := F_script_reader_numbercb
theorem F_script_reader_numberc_W {T : Tab} {env : Env} {H : Heap} {Q : Post} : W T F_script_reader_numberc env H Q ↔ W T F_script_reader_numbercb env H Q := Iff.rfl
def F_script_reader_number : IFn := ⟨15, [.tmp 2], F_script_reader_numberc⟩
set_option linter.defProp false in
set_option maxRecDepth 100000 in
def N_script_reader_numberP := And.intro F_script_reader_numberr0b.eq_1 (And.intro @F_script_reader_numberr0_W (And.intro F_script_reader_numberr1b.eq_1 (And.intro @F_script_reader_numberr1_W (And.intro F_script_reader_numberr2b.eq_1 (And.intro @F_script_reader_numberr2_W (And.intro F_script_reader_numberr3b.eq_1 (And.intro @F_script_reader_numberr3_W (And.intro @F_script_reader_numberc_W (F_script_reader_numbercb.eq_1)))))))))
theorem N_script_reader_number : type_of% N_script_reader_numberP := N_script_reader_numberP
set_option maxRecDepth 1000000 in
theorem F_script_reader_number_chk : chkF Tryd.prog 73 F_script_reader_number = true := by kernel_rfl

/-! ### script_reader_request -/
def F_script_reader_requestr0b : List IStmt := [
 ⟨some 2, .alloc 18 [.int .i64 0, .string ⟨#[]⟩, .string ⟨#[]⟩, .string ⟨#[]⟩, .int .i64 0, .slice none 0 0, .int .i64 0, .int .u64 0, .string ⟨#[]⟩, .bool false, .bool false, .slice none 0 0, .slice none 0 0, .slice none 0 0, .slice none 0 0, .string ⟨#[]⟩, .slice none 0 0, .bool false], none⟩]
def F_script_reader_requestr0 : List IStmt := F_script_reader_requestr0b
theorem F_script_reader_requestr0_W {T : Tab} {env : Env} {H : Heap} {Q : Post} : W T (.reg F_script_reader_requestr0) env H Q ↔ WR T F_script_reader_requestr0 F_script_reader_requestr0b env H none [] Q := w_reg
def F_script_reader_requestr1b : List IStmt := [
 ⟨some 4, .mv (.t 0), none⟩,
 ⟨some 5, .call 71 [(.t 4)], none⟩]
def F_script_reader_requestr1 : List IStmt := F_script_reader_requestr1b
theorem F_script_reader_requestr1_W {T : Tab} {env : Env} {H : Heap} {Q : Post} : W T (.reg F_script_reader_requestr1) env H Q ↔ WR T F_script_reader_requestr1 F_script_reader_requestr1b env H none [] Q := w_reg
def F_script_reader_requestr2b : List IStmt := [
 ⟨some 7, .bin .eql (.t 5) (.c (.string ⟨#[111, 112, 101, 110]⟩)), none⟩,
 ⟨some 6, .mv (.t 7), none⟩]
def F_script_reader_requestr2 : List IStmt := F_script_reader_requestr2b
theorem F_script_reader_requestr2_W {T : Tab} {env : Env} {H : Heap} {Q : Post} : W T (.reg F_script_reader_requestr2) env H Q ↔ WR T F_script_reader_requestr2 F_script_reader_requestr2b env H none [] Q := w_reg
def F_script_reader_requestr3b : List IStmt := [
 ⟨some 8, .mv (.t 0), none⟩,
 ⟨some 9, .call 72 [(.t 8)], none⟩,
 ⟨none, .store 18 (.t 2) (.t 9), none⟩]
def F_script_reader_requestr3 : List IStmt := F_script_reader_requestr3b
theorem F_script_reader_requestr3_W {T : Tab} {env : Env} {H : Heap} {Q : Post} : W T (.reg F_script_reader_requestr3) env H Q ↔ WR T F_script_reader_requestr3 F_script_reader_requestr3b env H none [] Q := w_reg
def F_script_reader_requestr4b : List IStmt := [
 ⟨some 11, .bin .eql (.t 5) (.c (.string ⟨#[115, 121, 109]⟩)), none⟩,
 ⟨some 10, .mv (.t 11), none⟩]
def F_script_reader_requestr4 : List IStmt := F_script_reader_requestr4b
theorem F_script_reader_requestr4_W {T : Tab} {env : Env} {H : Heap} {Q : Post} : W T (.reg F_script_reader_requestr4) env H Q ↔ WR T F_script_reader_requestr4 F_script_reader_requestr4b env H none [] Q := w_reg
def F_script_reader_requestr5b : List IStmt := [
 ⟨some 12, .mv (.t 0), none⟩,
 ⟨some 13, .call 73 [(.t 12)], none⟩,
 ⟨some 14, .mv (.t 0), none⟩,
 ⟨some 15, .call 71 [(.t 14)], none⟩,
 ⟨some 16, .bld [.int .i64 0, .string ⟨#[]⟩, .string ⟨#[]⟩, .string ⟨#[]⟩, .int .i64 0, .slice none 0 0, .int .i64 0, .int .u64 0, .string ⟨#[]⟩, .bool false, .bool false, .slice none 0 0, .slice none 0 0, .slice none 0 0, .slice none 0 0, .string ⟨#[]⟩, .slice none 0 0, .bool false] [(0, 1, (.c (.int .i64 2))), (6, 1, (.t 13)), (2, 1, (.t 15))], none⟩,
 ⟨some 3, .alloc 18 [.int .i64 0, .string ⟨#[]⟩, .string ⟨#[]⟩, .string ⟨#[]⟩, .int .i64 0, .slice none 0 0, .int .i64 0, .int .u64 0, .string ⟨#[]⟩, .bool false, .bool false, .slice none 0 0, .slice none 0 0, .slice none 0 0, .slice none 0 0, .string ⟨#[]⟩, .slice none 0 0, .bool false], none⟩,
 ⟨none, .store 18 (.t 3) (.t 16), none⟩]
def F_script_reader_requestr5 : List IStmt := F_script_reader_requestr5b
theorem F_script_reader_requestr5_W {T : Tab} {env : Env} {H : Heap} {Q : Post} : W T (.reg F_script_reader_requestr5) env H Q ↔ WR T F_script_reader_requestr5 F_script_reader_requestr5b env H none [] Q := w_reg
def F_script_reader_requestr6b : List IStmt := [
 ⟨some 17, .mv (.t 0), none⟩,
 ⟨some 18, .nilc (.t 17), none⟩,
 ⟨some 19, .fa 0 (.t 18), none⟩,
 ⟨some 20, .load (.t 19), none⟩,
 ⟨some 21, .len 1 (.t 20), none⟩,
 ⟨some 22, .bin .gtr (.t 21) (.c (.int .i64 0)), none⟩]
def F_script_reader_requestr6 : List IStmt := F_script_reader_requestr6b
theorem F_script_reader_requestr6_W {T : Tab} {env : Env} {H : Heap} {Q : Post} : W T (.reg F_script_reader_requestr6) env H Q ↔ WR T F_script_reader_requestr6 F_script_reader_requestr6b env H none [] Q := w_reg
def F_script_reader_requestr7b : List IStmt := [
 ⟨some 23, .mv (.t 0), none⟩,
 ⟨some 24, .call 71 [(.t 23)], none⟩,
 ⟨some 25, .fa 3 (.t 3), none⟩,
 ⟨none, .store 1 (.t 25) (.t 24), none⟩]
def F_script_reader_requestr7 : List IStmt := F_script_reader_requestr7b
theorem F_script_reader_requestr7_W {T : Tab} {env : Env} {H : Heap} {Q : Post} : W T (.reg F_script_reader_requestr7) env H Q ↔ WR T F_script_reader_requestr7 F_script_reader_requestr7b env H none [] Q := w_reg
def F_script_reader_requestr8b : List IStmt := [
 ⟨some 26, .loadN 18 (.t 3), none⟩,
 ⟨none, .store 18 (.t 2) (.t 26), none⟩]
def F_script_reader_requestr8 : List IStmt := F_script_reader_requestr8b
theorem F_script_reader_requestr8_W {T : Tab} {env : Env} {H : Heap} {Q : Post} : W T (.reg F_script_reader_requestr8) env H Q ↔ WR T F_script_reader_requestr8 F_script_reader_requestr8b env H none [] Q := w_reg
def F_script_reader_requestr9b : List IStmt := [
 ⟨some 28, .bin .eql (.t 5) (.c (.string ⟨#[97, 100, 100, 114]⟩)), none⟩,
 ⟨some 27, .mv (.t 28), none⟩]
def F_script_reader_requestr9 : List IStmt := F_script_reader_requestr9b
theorem F_script_reader_requestr9_W {T : Tab} {env : Env} {H : Heap} {Q : Post} : W T (.reg F_script_reader_requestr9) env H Q ↔ WR T F_script_reader_requestr9 F_script_reader_requestr9b env H none [] Q := w_reg
def F_script_reader_requestr10b : List IStmt := [
 ⟨some 29, .mv (.t 0), none⟩,
 ⟨some 30, .call 73 [(.t 29)], none⟩,
 ⟨some 31, .mv (.t 0), none⟩,
 ⟨some 32, .call 74 [(.t 31)], none⟩,
 ⟨some 33, .bld [.int .i64 0, .string ⟨#[]⟩, .string ⟨#[]⟩, .string ⟨#[]⟩, .int .i64 0, .slice none 0 0, .int .i64 0, .int .u64 0, .string ⟨#[]⟩, .bool false, .bool false, .slice none 0 0, .slice none 0 0, .slice none 0 0, .slice none 0 0, .string ⟨#[]⟩, .slice none 0 0, .bool false] [(0, 1, (.c (.int .i64 3))), (6, 1, (.t 30)), (7, 1, (.t 32))], none⟩,
 ⟨none, .store 18 (.t 2) (.t 33), none⟩]
def F_script_reader_requestr10 : List IStmt := F_script_reader_requestr10b
theorem F_script_reader_requestr10_W {T : Tab} {env : Env} {H : Heap} {Q : Post} : W T (.reg F_script_reader_requestr10) env H Q ↔ WR T F_script_reader_requestr10 F_script_reader_requestr10b env H none [] Q := w_reg
def F_script_reader_requestr11b : List IStmt := [
 ⟨some 35, .bin .eql (.t 5) (.c (.string ⟨#[99, 108, 111, 115, 101]⟩)), none⟩,
 ⟨some 34, .mv (.t 35), none⟩]
def F_script_reader_requestr11 : List IStmt := F_script_reader_requestr11b
theorem F_script_reader_requestr11_W {T : Tab} {env : Env} {H : Heap} {Q : Post} : W T (.reg F_script_reader_requestr11) env H Q ↔ WR T F_script_reader_requestr11 F_script_reader_requestr11b env H none [] Q := w_reg
def F_script_reader_requestr12b : List IStmt := [
 ⟨some 36, .mv (.t 0), none⟩,
 ⟨some 37, .call 73 [(.t 36)], none⟩,
 ⟨some 38, .bld [.int .i64 0, .string ⟨#[]⟩, .string ⟨#[]⟩, .string ⟨#[]⟩, .int .i64 0, .slice none 0 0, .int .i64 0, .int .u64 0, .string ⟨#[]⟩, .bool false, .bool false, .slice none 0 0, .slice none 0 0, .slice none 0 0, .slice none 0 0, .string ⟨#[]⟩, .slice none 0 0, .bool false] [(0, 1, (.c (.int .i64 4))), (6, 1, (.t 37))], none⟩,
 ⟨none, .store 18 (.t 2) (.t 38), none⟩]
def F_script_reader_requestr12 : List IStmt := F_script_reader_requestr12b
theorem F_script_reader_requestr12_W {T : Tab} {env : Env} {H : Heap} {Q : Post} : W T (.reg F_script_reader_requestr12) env H Q ↔ WR T F_script_reader_requestr12 F_script_reader_requestr12b env H none [] Q := w_reg
def F_script_reader_requestr13b : List IStmt := [
 ⟨some 40, .bin .eql (.t 5) (.c (.string ⟨#[115, 112, 97, 99, 101]⟩)), none⟩,
 ⟨some 39, .mv (.t 40), none⟩]
def F_script_reader_requestr13 : List IStmt := F_script_reader_requestr13b
theorem F_script_reader_requestr13_W {T : Tab} {env : Env} {H : Heap} {Q : Post} : W T (.reg F_script_reader_requestr13) env H Q ↔ WR T F_script_reader_requestr13 F_script_reader_requestr13b env H none [] Q := w_reg
def F_script_reader_requestr14b : List IStmt := [
 ⟨some 41, .mv (.t 0), none⟩,
 ⟨some 42, .call 75 [(.t 41)], none⟩,
 ⟨some 43, .bld [.int .i64 0, .string ⟨#[]⟩, .string ⟨#[]⟩, .string ⟨#[]⟩, .int .i64 0, .slice none 0 0, .int .i64 0, .int .u64 0, .string ⟨#[]⟩, .bool false, .bool false, .slice none 0 0, .slice none 0 0, .slice none 0 0, .slice none 0 0, .string ⟨#[]⟩, .slice none 0 0, .bool false] [(0, 1, (.c (.int .i64 5))), (8, 7, (.t 42))], none⟩,
 ⟨none, .store 18 (.t 2) (.t 43), none⟩]
def F_script_reader_requestr14 : List IStmt := F_script_reader_requestr14b
theorem F_script_reader_requestr14_W {T : Tab} {env : Env} {H : Heap} {Q : Post} : W T (.reg F_script_reader_requestr14) env H Q ↔ WR T F_script_reader_requestr14 F_script_reader_requestr14b env H none [] Q := w_reg
def F_script_reader_requestr15b : List IStmt := [
 ⟨some 45, .bin .eql (.t 5) (.c (.string ⟨#[108, 105, 110, 107]⟩)), none⟩,
 ⟨some 44, .mv (.t 45), none⟩]
def F_script_reader_requestr15 : List IStmt := F_script_reader_requestr15b
theorem F_script_reader_requestr15_W {T : Tab} {env : Env} {H : Heap} {Q : Post} : W T (.reg F_script_reader_requestr15) env H Q ↔ WR T F_script_reader_requestr15 F_script_reader_requestr15b env H none [] Q := w_reg
def F_script_reader_requestr16b : List IStmt := [
 ⟨some 46, .mv (.t 0), none⟩,
 ⟨some 47, .call 71 [(.t 46)], none⟩,
 ⟨some 48, .mv (.t 0), none⟩,
 ⟨some 49, .call 76 [(.t 48)], none⟩,
 ⟨some 50, .bld [.int .i64 0, .string ⟨#[]⟩, .string ⟨#[]⟩, .string ⟨#[]⟩, .int .i64 0, .slice none 0 0, .int .i64 0, .int .u64 0, .string ⟨#[]⟩, .bool false, .bool false, .slice none 0 0, .slice none 0 0, .slice none 0 0, .slice none 0 0, .string ⟨#[]⟩, .slice none 0 0, .bool false] [(0, 1, (.c (.int .i64 6))), (1, 1, (.t 47)), (15, 3, (.t 49))], none⟩,
 ⟨none, .store 18 (.t 2) (.t 50), none⟩]
def F_script_reader_requestr16 : List IStmt := F_script_reader_requestr16b
theorem F_script_reader_requestr16_W {T : Tab} {env : Env} {H : Heap} {Q : Post} : W T (.reg F_script_reader_requestr16) env H Q ↔ WR T F_script_reader_requestr16 F_script_reader_requestr16b env H none [] Q := w_reg
def F_script_reader_requestr17b : List IStmt := [
 ⟨some 51, .bld [] [], none⟩,
 ⟨some 52, .mki 89 (.t 51), none⟩,
 ⟨none, .xop .pnc (.t 52) (.t 52), none⟩]
def F_script_reader_requestr17 : List IStmt := F_script_reader_requestr17b
theorem F_script_reader_requestr17_W {T : Tab} {env : Env} {H : Heap} {Q : Post} : W T (.reg F_script_reader_requestr17) env H Q ↔ WR T F_script_reader_requestr17 F_script_reader_requestr17b env H none [] Q := w_reg
def F_script_reader_requestcb : ICode := (.seq (.reg F_script_reader_requestr0) (.seq (.seq (.reg F_script_reader_requestr1) (.block 0 (.seq (.reg F_script_reader_requestr2) (.cond (.t 6) (.seq (.reg F_script_reader_requestr3) .ret) (.seq (.reg F_script_reader_requestr4) (.cond (.t 10) (.seq (.reg F_script_reader_requestr5) (.seq (.seq (.reg F_script_reader_requestr6) (.cond (.t 22) (.reg F_script_reader_requestr7) .skip)) (.seq (.reg F_script_reader_requestr8) .ret))) (.seq (.reg F_script_reader_requestr9) (.cond (.t 27) (.seq (.reg F_script_reader_requestr10) .ret) (.seq (.reg F_script_reader_requestr11) (.cond (.t 34) (.seq (.reg F_script_reader_requestr12) .ret) (.seq (.reg F_script_reader_requestr13) (.cond (.t 39) (.seq (.reg F_script_reader_requestr14) .ret) (.seq (.reg F_script_reader_requestr15) (.cond (.t 44) (.seq (.reg F_script_reader_requestr16) .ret) .skip)))))))))))))) (.reg F_script_reader_requestr17)))
def F_script_reader_requestc : ICode := F_script_reader_requestcb
theorem F_script_reader_requestc_W {T : Tab} {env : Env} {H : Heap} {Q : Post} : W T F_script_reader_requestc env H Q ↔ W T F_script_reader_requestcb env H Q := Iff.rfl
def F_script_reader_request : IFn := ⟨53, [.cell 2 (some 18)], F_script_reader_requestc⟩
set_option linter.defProp false in
set_option maxRecDepth 100000 in
def N_script_reader_requestP := And.intro F_script_reader_requestr0b.eq_1 (And.intro @F_script_reader_requestr0_W (And.intro F_script_reader_requestr1b.eq_1 (And.intro @F_script_reader_requestr1_W (And.intro F_script_reader_requestr2b.eq_1 (And.intro @F_script_reader_requestr2_W (And.intro F_script_reader_requestr3b.eq_1 (And.intro @F_script_reader_requestr3_W (And.intro F_script_reader_requestr4b.eq_1 (And.intro @F_script_reader_requestr4_W (And.intro F_script_reader_requestr5b.eq_1 (And.intro @F_script_reader_requestr5_W (And.intro F_script_reader_requestr6b.eq_1 (And.intro @F_script_reader_requestr6_W (And.intro F_script_reader_requestr7b.eq_1 (And.intro @F_script_reader_requestr7_W (And.intro F_script_reader_requestr8b.eq_1 (And.intro @F_script_reader_requestr8_W (And.intro F_script_reader_requestr9b.eq_1 (And.intro @F_script_reader_requestr9_W (And.intro F_script_reader_requestr10b.eq_1 (And.intro @F_script_reader_requestr10_W (And.intro F_script_reader_requestr11b.eq_1 (And.intro @F_script_reader_requestr11_W (And.intro F_script_reader_requestr12b.eq_1 (And.intro @F_script_reader_requestr12_W (And.intro F_script_reader_requestr13b.eq_1 (And.intro @F_script_reader_requestr13_W (And.intro F_script_reader_requestr14b.eq_1 (And.intro @F_script_reader_requestr14_W (And.intro F_script_reader_requestr15b.eq_1 (And.intro @F_script_reader_requestr15_W (And.intro F_script_reader_requestr16b.eq_1 (And.intro @F_script_reader_requestr16_W (And.intro F_script_reader_requestr17b.eq_1 (And.intro @F_script_reader_requestr17_W (And.intro @F_script_reader_requestc_W (F_script_reader_requestcb.eq_1)))))))))))))))))))))))))))))))))))))
theorem N_script_reader_request : type_of% N_script_reader_requestP := N_script_reader_requestP
set_option maxRecDepth 1000000 in
theorem F_script_reader_request_chk : chkF Tryd.prog 54 F_script_reader_request = true := by kernel_rfl

/-- The functions, by number. -/
def TSw_l : List (Nat × IFn) := [(89, F_script_must), (71, F_script_reader_next), (104, F_num_digit), (92, F_num_ParseHex), (74, F_script_reader_hex), (90, F_script_reader_took), (72, F_script_reader_open), (91, F_num_Parse), (73, F_script_reader_number), (54, F_script_reader_request)]
def TSw : Tab := tabOf TSw_l
theorem TSw_chk : ∀ p ∈ TSw_l, chkF Tryd.prog p.1 p.2 = true := by
  intro p hp
  simp only [TSw_l, List.mem_cons, List.not_mem_nil, or_false] at hp
  rcases hp with rfl | rfl | rfl | rfl | rfl | rfl | rfl | rfl | rfl | rfl
  · exact F_script_must_chk
  · exact F_script_reader_next_chk
  · exact F_num_digit_chk
  · exact F_num_ParseHex_chk
  · exact F_script_reader_hex_chk
  · exact F_script_reader_took_chk
  · exact F_script_reader_open_chk
  · exact F_num_Parse_chk
  · exact F_script_reader_number_chk
  · exact F_script_reader_request_chk
theorem TSw_good : Good Tryd.prog TSw := good_tab (by kernel_rfl) TSw_chk

end Go.Proofs.YtfhhfanapgjcgaaDoor
