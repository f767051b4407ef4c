/- The small language's text of functions of the given program, and the check that it stands for them. Printed by a program. -/
import Derived.Test.YtfhhfanapgjcgaaDoorFwC
import Derived.Test.YtfhhfanapgjcgaaDoorChecked
import Derived.KernelRfl
namespace Go.Proofs.YtfhhfanapgjcgaaDoor
open Go Fw

/-! ### num_Text -/
def F_num_Textr0b : List IStmt := [
 ⟨some 2, .mv (.c (.string ⟨#[]⟩)), none⟩]
def F_num_Textr0 : List IStmt := F_num_Textr0b
theorem F_num_Textr0_W {T : Tab} {env : Env} {H : Heap} {Q : Post} : W T (.reg F_num_Textr0) env H Q ↔ WR T F_num_Textr0 F_num_Textr0b env H none [] Q := w_reg
def F_num_Textr1b : List IStmt := [
 ⟨some 3, .mv (.c (.string ⟨#[]⟩)), none⟩]
def F_num_Textr1 : List IStmt := F_num_Textr1b
theorem F_num_Textr1_W {T : Tab} {env : Env} {H : Heap} {Q : Post} : W T (.reg F_num_Textr1) env H Q ↔ WR T F_num_Textr1 F_num_Textr1b env H none [] Q := w_reg
def F_num_Textr2b : List IStmt := [
 ⟨some 4, .mv (.t 0), none⟩,
 ⟨some 5, .mx (.t 4) (.c (.int .i64 0)), none⟩,
 ⟨some 0, .mv (.t 5), none⟩]
def F_num_Textr2 : List IStmt := F_num_Textr2b
theorem F_num_Textr2_W {T : Tab} {env : Env} {H : Heap} {Q : Post} : W T (.reg F_num_Textr2) env H Q ↔ WR T F_num_Textr2 F_num_Textr2b env H none [] Q := w_reg
def F_num_Textr3b : List IStmt := [
 ⟨some 6, .mv (.t 0), none⟩,
 ⟨some 7, .bin .gtr (.t 6) (.c (.int .i64 0)), none⟩,
 ⟨some 8, .mv (.t 7), none⟩,
 ⟨some 9, .mv (.t 3), some (2, false)⟩,
 ⟨some 10, .bin .eql (.t 9) (.c (.string ⟨#[]⟩)), some (2, false)⟩,
 ⟨some 11, .pick (.t 8) (.c (.bool true)) (.t 10), none⟩]
def F_num_Textr3 : List IStmt := F_num_Textr3b
theorem F_num_Textr3_W {T : Tab} {env : Env} {H : Heap} {Q : Post} : W T (.reg F_num_Textr3) env H Q ↔ WR T F_num_Textr3 F_num_Textr3b env H none [] Q := w_reg
theorem F_num_Textr3_g2 {env : Env} : yieldI F_num_Textr3 env 2 = bOf (env 8) := rfl
def F_num_Textr5b : List IStmt := [
 ⟨some 14, .mv (.t 0), none⟩,
 ⟨some 15, .bin .rem (.t 14) (.c (.int .i64 10)), none⟩,
 ⟨some 16, .bin .add (.c (.int .i64 48)) (.t 15), none⟩,
 ⟨some 17, .conv .u8 (.t 16), none⟩,
 ⟨some 18, .bsli 1 1 [.int .u8 0] [(0, (.t 17))], none⟩,
 ⟨some 19, .b2s (.t 18), none⟩,
 ⟨some 20, .mv (.t 3), none⟩,
 ⟨some 21, .bin .add (.t 19) (.t 20), none⟩,
 ⟨some 3, .mv (.t 21), none⟩]
def F_num_Textr5 : List IStmt := F_num_Textr5b
theorem F_num_Textr5_W {T : Tab} {env : Env} {H : Heap} {Q : Post} : W T (.reg F_num_Textr5) env H Q ↔ WR T F_num_Textr5 F_num_Textr5b env H none [] Q := w_reg
def F_num_Textr4b : List IStmt := [
 ⟨some 12, .mv (.t 0), none⟩,
 ⟨some 13, .bin .quo (.t 12) (.c (.int .i64 10)), none⟩,
 ⟨some 0, .mv (.t 13), none⟩]
def F_num_Textr4 : List IStmt := F_num_Textr4b
theorem F_num_Textr4_W {T : Tab} {env : Env} {H : Heap} {Q : Post} : W T (.reg F_num_Textr4) env H Q ↔ WR T F_num_Textr4 F_num_Textr4b env H none [] Q := w_reg
def F_num_Textl0b : ICode := (.seq (.seq (.reg F_num_Textr3) (.cond (.t 11) .skip (.exit 0))) (.seq (.block 1 (.reg F_num_Textr5)) (.reg F_num_Textr4)))
def F_num_Textl0 : ICode := F_num_Textl0b
theorem F_num_Textl0_W {T : Tab} {env : Env} {H : Heap} {Q : Post} : W T F_num_Textl0 env H Q ↔ W T F_num_Textl0b env H Q := Iff.rfl
def F_num_Textr6b : List IStmt := [
 ⟨some 22, .mv (.t 3), none⟩,
 ⟨some 2, .mv (.t 22), none⟩]
def F_num_Textr6 : List IStmt := F_num_Textr6b
theorem F_num_Textr6_W {T : Tab} {env : Env} {H : Heap} {Q : Post} : W T (.reg F_num_Textr6) env H Q ↔ WR T F_num_Textr6 F_num_Textr6b env H none [] Q := w_reg
def F_num_Textcb : ICode := (.seq (.reg F_num_Textr0) (.seq (.reg F_num_Textr1) (.seq (.seq (.reg F_num_Textr2) (.block 0 (.loop F_num_Textl0))) (.seq (.reg F_num_Textr6) .ret))))
def F_num_Textc : ICode := F_num_Textcb
theorem F_num_Textc_W {T : Tab} {env : Env} {H : Heap} {Q : Post} : W T F_num_Textc env H Q ↔ W T F_num_Textcb env H Q := Iff.rfl
def F_num_Text : IFn := ⟨23, [.tmp 2], F_num_Textc⟩
set_option linter.defProp false in
set_option maxRecDepth 100000 in
def N_num_TextP := And.intro F_num_Textr0b.eq_1 (And.intro @F_num_Textr0_W (And.intro F_num_Textr1b.eq_1 (And.intro @F_num_Textr1_W (And.intro F_num_Textr2b.eq_1 (And.intro @F_num_Textr2_W (And.intro F_num_Textr3b.eq_1 (And.intro @F_num_Textr3_W (And.intro @F_num_Textr3_g2 (And.intro F_num_Textr5b.eq_1 (And.intro @F_num_Textr5_W (And.intro F_num_Textr4b.eq_1 (And.intro @F_num_Textr4_W (And.intro @F_num_Textl0_W (And.intro F_num_Textl0b.eq_1 (And.intro F_num_Textr6b.eq_1 (And.intro @F_num_Textr6_W (And.intro @F_num_Textc_W (F_num_Textcb.eq_1))))))))))))))))))
theorem N_num_Text : type_of% N_num_TextP := N_num_TextP
set_option maxRecDepth 1000000 in
theorem F_num_Text_chk : chkF Tryd.prog 21 F_num_Text = true := by kernel_rfl

/-! ### num_Hex -/
def F_num_Hexr0b : List IStmt := [
 ⟨some 2, .mv (.c (.string ⟨#[]⟩)), none⟩]
def F_num_Hexr0 : List IStmt := F_num_Hexr0b
theorem F_num_Hexr0_W {T : Tab} {env : Env} {H : Heap} {Q : Post} : W T (.reg F_num_Hexr0) env H Q ↔ WR T F_num_Hexr0 F_num_Hexr0b env H none [] Q := w_reg
def F_num_Hexr1b : List IStmt := [
 ⟨some 3, .alloc 1 [.int .u8 0, .int .u8 0, .int .u8 0, .int .u8 0, .int .u8 0, .int .u8 0, .int .u8 0, .int .u8 0, .int .u8 0, .int .u8 0, .int .u8 0, .int .u8 0, .int .u8 0, .int .u8 0, .int .u8 0, .int .u8 0, .int .u8 0, .int .u8 0], none⟩]
def F_num_Hexr1 : List IStmt := F_num_Hexr1b
theorem F_num_Hexr1_W {T : Tab} {env : Env} {H : Heap} {Q : Post} : W T (.reg F_num_Hexr1) env H Q ↔ WR T F_num_Hexr1 F_num_Hexr1b env H none [] Q := w_reg
def F_num_Hexr2b : List IStmt := [
 ⟨some 4, .mv (.c (.int .i64 18)), none⟩]
def F_num_Hexr2 : List IStmt := F_num_Hexr2b
theorem F_num_Hexr2_W {T : Tab} {env : Env} {H : Heap} {Q : Post} : W T (.reg F_num_Hexr2) env H Q ↔ WR T F_num_Hexr2 F_num_Hexr2b env H none [] Q := w_reg
def F_num_Hexr3b : List IStmt := [
 ⟨some 5, .mv (.t 4), none⟩,
 ⟨some 6, .bin .sub (.t 5) (.c (.int .i64 1)), none⟩,
 ⟨some 4, .mv (.t 6), none⟩]
def F_num_Hexr3 : List IStmt := F_num_Hexr3b
theorem F_num_Hexr3_W {T : Tab} {env : Env} {H : Heap} {Q : Post} : W T (.reg F_num_Hexr3) env H Q ↔ WR T F_num_Hexr3 F_num_Hexr3b env H none [] Q := w_reg
def F_num_Hexr4b : List IStmt := [
 ⟨some 7, .mv (.t 4), none⟩,
 ⟨some 8, .mv (.t 0), none⟩,
 ⟨some 9, .bin .and (.t 8) (.c (.int .u64 15)), none⟩,
 ⟨some 10, .ixs (.c (.string ⟨#[48, 49, 50, 51, 52, 53, 54, 55, 56, 57, 97, 98, 99, 100, 101, 102]⟩)) (.t 9), none⟩,
 ⟨some 11, .ixr 18 1 (.t 3) (.t 7), none⟩,
 ⟨none, .store 1 (.t 11) (.t 10), none⟩]
def F_num_Hexr4 : List IStmt := F_num_Hexr4b
theorem F_num_Hexr4_W {T : Tab} {env : Env} {H : Heap} {Q : Post} : W T (.reg F_num_Hexr4) env H Q ↔ WR T F_num_Hexr4 F_num_Hexr4b env H none [] Q := w_reg
def F_num_Hexr5b : List IStmt := [
 ⟨some 12, .mv (.t 0), none⟩,
 ⟨some 13, .bin .shr (.t 12) (.c (.int .u64 4)), none⟩,
 ⟨some 0, .mv (.t 13), none⟩]
def F_num_Hexr5 : List IStmt := F_num_Hexr5b
theorem F_num_Hexr5_W {T : Tab} {env : Env} {H : Heap} {Q : Post} : W T (.reg F_num_Hexr5) env H Q ↔ WR T F_num_Hexr5 F_num_Hexr5b env H none [] Q := w_reg
def F_num_Hexr6b : List IStmt := [
 ⟨some 14, .mv (.t 0), none⟩,
 ⟨some 15, .bin .eql (.t 14) (.c (.int .u64 0)), none⟩]
def F_num_Hexr6 : List IStmt := F_num_Hexr6b
theorem F_num_Hexr6_W {T : Tab} {env : Env} {H : Heap} {Q : Post} : W T (.reg F_num_Hexr6) env H Q ↔ WR T F_num_Hexr6 F_num_Hexr6b env H none [] Q := w_reg
def F_num_Hexl0b : ICode := (.block 1 (.seq (.reg F_num_Hexr3) (.seq (.reg F_num_Hexr4) (.seq (.reg F_num_Hexr5) (.seq (.reg F_num_Hexr6) (.cond (.t 15) (.exit 0) .skip))))))
def F_num_Hexl0 : ICode := F_num_Hexl0b
theorem F_num_Hexl0_W {T : Tab} {env : Env} {H : Heap} {Q : Post} : W T F_num_Hexl0 env H Q ↔ W T F_num_Hexl0b env H Q := Iff.rfl
def F_num_Hexr7b : List IStmt := [
 ⟨some 16, .mv (.t 4), none⟩,
 ⟨some 17, .slr 18 1 (.t 3) (some (.t 16)) none, none⟩,
 ⟨some 18, .b2s (.t 17), none⟩,
 ⟨some 19, .bin .add (.c (.string ⟨#[48, 120]⟩)) (.t 18), none⟩,
 ⟨some 2, .mv (.t 19), none⟩]
def F_num_Hexr7 : List IStmt := F_num_Hexr7b
theorem F_num_Hexr7_W {T : Tab} {env : Env} {H : Heap} {Q : Post} : W T (.reg F_num_Hexr7) env H Q ↔ WR T F_num_Hexr7 F_num_Hexr7b env H none [] Q := w_reg
def F_num_Hexcb : ICode := (.seq (.reg F_num_Hexr0) (.seq (.reg F_num_Hexr1) (.seq (.reg F_num_Hexr2) (.seq (.block 0 (.loop F_num_Hexl0)) (.seq (.reg F_num_Hexr7) .ret)))))
def F_num_Hexc : ICode := F_num_Hexcb
theorem F_num_Hexc_W {T : Tab} {env : Env} {H : Heap} {Q : Post} : W T F_num_Hexc env H Q ↔ W T F_num_Hexcb env H Q := Iff.rfl
def F_num_Hex : IFn := ⟨20, [.tmp 2], F_num_Hexc⟩
set_option linter.defProp false in
set_option maxRecDepth 100000 in
def N_num_HexP := And.intro F_num_Hexr0b.eq_1 (And.intro @F_num_Hexr0_W (And.intro F_num_Hexr1b.eq_1 (And.intro @F_num_Hexr1_W (And.intro F_num_Hexr2b.eq_1 (And.intro @F_num_Hexr2_W (And.intro F_num_Hexr3b.eq_1 (And.intro @F_num_Hexr3_W (And.intro F_num_Hexr4b.eq_1 (And.intro @F_num_Hexr4_W (And.intro F_num_Hexr5b.eq_1 (And.intro @F_num_Hexr5_W (And.intro F_num_Hexr6b.eq_1 (And.intro @F_num_Hexr6_W (And.intro @F_num_Hexl0_W (And.intro F_num_Hexl0b.eq_1 (And.intro F_num_Hexr7b.eq_1 (And.intro @F_num_Hexr7_W (And.intro @F_num_Hexc_W (F_num_Hexcb.eq_1)))))))))))))))))))
theorem N_num_Hex : type_of% N_num_HexP := N_num_HexP
set_option maxRecDepth 1000000 in
theorem F_num_Hex_chk : chkF Tryd.prog 22 F_num_Hex = true := by kernel_rfl

/-! ### script_Answer -/
def F_script_Answerr0b : List IStmt := [
 ⟨some 2, .box 18 (.t 0), none⟩,
 ⟨some 3, .box 5 (.t 1), none⟩,
 ⟨some 4, .mv (.c (.string ⟨#[]⟩)), none⟩]
def F_script_Answerr0 : List IStmt := F_script_Answerr0b
theorem F_script_Answerr0_W {T : Tab} {env : Env} {H : Heap} {Q : Post} : W T (.reg F_script_Answerr0) env H Q ↔ WR T F_script_Answerr0 F_script_Answerr0b env H none [] Q := w_reg
def F_script_Answerr1b : List IStmt := [
 ⟨some 6, .fa 0 (.t 3), none⟩,
 ⟨some 7, .load (.t 6), none⟩,
 ⟨some 8, .bin .neq (.t 7) (.c (.int .i64 0)), none⟩]
def F_script_Answerr1 : List IStmt := F_script_Answerr1b
theorem F_script_Answerr1_W {T : Tab} {env : Env} {H : Heap} {Q : Post} : W T (.reg F_script_Answerr1) env H Q ↔ WR T F_script_Answerr1 F_script_Answerr1b env H none [] Q := w_reg
def F_script_Answerr2b : List IStmt := [
 ⟨some 9, .fa 0 (.t 3), none⟩,
 ⟨some 10, .load (.t 9), none⟩,
 ⟨some 11, .callc 21 [(.t 10)], none⟩,
 ⟨some 12, .bin .add (.c (.string ⟨#[101, 114, 114, 111, 114, 32]⟩)) (.t 11), none⟩,
 ⟨some 4, .mv (.t 12), none⟩]
def F_script_Answerr2 : List IStmt := F_script_Answerr2b
theorem F_script_Answerr2_W {T : Tab} {env : Env} {H : Heap} {Q : Post} : W T (.reg F_script_Answerr2) env H Q ↔ WR T F_script_Answerr2 F_script_Answerr2b env H none [] Q := w_reg
def F_script_Answerr3b : List IStmt := [
 ⟨some 13, .fa 0 (.t 2), none⟩,
 ⟨some 14, .load (.t 13), none⟩]
def F_script_Answerr3 : List IStmt := F_script_Answerr3b
theorem F_script_Answerr3_W {T : Tab} {env : Env} {H : Heap} {Q : Post} : W T (.reg F_script_Answerr3) env H Q ↔ WR T F_script_Answerr3 F_script_Answerr3b env H none [] Q := w_reg
def F_script_Answerr4b : List IStmt := [
 ⟨some 16, .bin .eql (.t 14) (.c (.int .i64 1)), none⟩,
 ⟨some 15, .mv (.t 16), none⟩]
def F_script_Answerr4 : List IStmt := F_script_Answerr4b
theorem F_script_Answerr4_W {T : Tab} {env : Env} {H : Heap} {Q : Post} : W T (.reg F_script_Answerr4) env H Q ↔ WR T F_script_Answerr4 F_script_Answerr4b env H none [] Q := w_reg
def F_script_Answerr5b : List IStmt := [
 ⟨some 17, .fa 1 (.t 3), none⟩,
 ⟨some 18, .load (.t 17), none⟩,
 ⟨some 19, .callc 21 [(.t 18)], none⟩,
 ⟨some 20, .bin .add (.c (.string ⟨#[104, 97, 110, 100, 108, 101, 32]⟩)) (.t 19), none⟩,
 ⟨some 4, .mv (.t 20), none⟩]
def F_script_Answerr5 : List IStmt := F_script_Answerr5b
theorem F_script_Answerr5_W {T : Tab} {env : Env} {H : Heap} {Q : Post} : W T (.reg F_script_Answerr5) env H Q ↔ WR T F_script_Answerr5 F_script_Answerr5b env H none [] Q := w_reg
def F_script_Answerr6b : List IStmt := [
 ⟨some 22, .bin .eql (.t 14) (.c (.int .i64 2)), none⟩,
 ⟨some 21, .mv (.t 22), none⟩]
def F_script_Answerr6 : List IStmt := F_script_Answerr6b
theorem F_script_Answerr6_W {T : Tab} {env : Env} {H : Heap} {Q : Post} : W T (.reg F_script_Answerr6) env H Q ↔ WR T F_script_Answerr6 F_script_Answerr6b env H none [] Q := w_reg
def F_script_Answerr7b : List IStmt := [
 ⟨some 23, .fa 2 (.t 3), none⟩,
 ⟨some 24, .load (.t 23), none⟩,
 ⟨some 25, .callc 21 [(.t 24)], none⟩,
 ⟨some 26, .bin .add (.c (.string ⟨#[97, 116, 32]⟩)) (.t 25), none⟩,
 ⟨some 27, .bin .add (.t 26) (.c (.string ⟨#[32]⟩)), none⟩,
 ⟨some 28, .fa 3 (.t 3), none⟩,
 ⟨some 29, .load (.t 28), none⟩,
 ⟨some 30, .callc 22 [(.t 29)], none⟩,
 ⟨some 31, .bin .add (.t 27) (.t 30), none⟩,
 ⟨some 4, .mv (.t 31), none⟩]
def F_script_Answerr7 : List IStmt := F_script_Answerr7b
theorem F_script_Answerr7_W {T : Tab} {env : Env} {H : Heap} {Q : Post} : W T (.dreg F_script_Answerr7 []) env H Q ↔ WR T F_script_Answerr7 F_script_Answerr7b env H none [] Q := w_dreg0
def F_script_Answerr8b : List IStmt := [
 ⟨some 33, .bin .eql (.t 14) (.c (.int .i64 3)), none⟩,
 ⟨some 32, .mv (.t 33), none⟩]
def F_script_Answerr8 : List IStmt := F_script_Answerr8b
theorem F_script_Answerr8_W {T : Tab} {env : Env} {H : Heap} {Q : Post} : W T (.reg F_script_Answerr8) env H Q ↔ WR T F_script_Answerr8 F_script_Answerr8b env H none [] Q := w_reg
def F_script_Answerr9b : List IStmt := [
 ⟨some 34, .fa 2 (.t 3), none⟩,
 ⟨some 35, .load (.t 34), none⟩,
 ⟨some 36, .callc 21 [(.t 35)], none⟩,
 ⟨some 37, .bin .add (.c (.string ⟨#[97, 116, 32]⟩)) (.t 36), none⟩,
 ⟨some 38, .bin .add (.t 37) (.c (.string ⟨#[32]⟩)), none⟩,
 ⟨some 39, .fa 3 (.t 3), none⟩,
 ⟨some 40, .load (.t 39), none⟩,
 ⟨some 41, .callc 22 [(.t 40)], none⟩,
 ⟨some 42, .bin .add (.t 38) (.t 41), none⟩,
 ⟨some 5, .mv (.t 42), none⟩]
def F_script_Answerr9 : List IStmt := F_script_Answerr9b
theorem F_script_Answerr9_W {T : Tab} {env : Env} {H : Heap} {Q : Post} : W T (.dreg F_script_Answerr9 []) env H Q ↔ WR T F_script_Answerr9 F_script_Answerr9b env H none [] Q := w_dreg0
def F_script_Answerr10b : List IStmt := [
 ⟨some 43, .fa 4 (.t 3), none⟩,
 ⟨some 44, .load (.t 43), none⟩,
 ⟨some 45, .bin .neq (.t 44) (.c (.string ⟨#[]⟩)), none⟩]
def F_script_Answerr10 : List IStmt := F_script_Answerr10b
theorem F_script_Answerr10_W {T : Tab} {env : Env} {H : Heap} {Q : Post} : W T (.reg F_script_Answerr10) env H Q ↔ WR T F_script_Answerr10 F_script_Answerr10b env H none [] Q := w_reg
def F_script_Answerr11b : List IStmt := [
 ⟨some 46, .mv (.t 5), none⟩,
 ⟨some 47, .fa 4 (.t 3), none⟩,
 ⟨some 48, .load (.t 47), none⟩,
 ⟨some 49, .bin .add (.c (.string ⟨#[32]⟩)) (.t 48), none⟩,
 ⟨some 50, .bin .add (.t 46) (.t 49), none⟩,
 ⟨some 5, .mv (.t 50), none⟩]
def F_script_Answerr11 : List IStmt := F_script_Answerr11b
theorem F_script_Answerr11_W {T : Tab} {env : Env} {H : Heap} {Q : Post} : W T (.reg F_script_Answerr11) env H Q ↔ WR T F_script_Answerr11 F_script_Answerr11b env H none [] Q := w_reg
def F_script_Answerr12b : List IStmt := [
 ⟨some 51, .mv (.t 5), none⟩,
 ⟨some 4, .mv (.t 51), none⟩]
def F_script_Answerr12 : List IStmt := F_script_Answerr12b
theorem F_script_Answerr12_W {T : Tab} {env : Env} {H : Heap} {Q : Post} : W T (.reg F_script_Answerr12) env H Q ↔ WR T F_script_Answerr12 F_script_Answerr12b env H none [] Q := w_reg
def F_script_Answerr13b : List IStmt := [
 ⟨some 4, .mv (.c (.string ⟨#[111, 107]⟩)), none⟩]
def F_script_Answerr13 : List IStmt := F_script_Answerr13b
theorem F_script_Answerr13_W {T : Tab} {env : Env} {H : Heap} {Q : Post} : W T (.reg F_script_Answerr13) env H Q ↔ WR T F_script_Answerr13 F_script_Answerr13b env H none [] Q := w_reg
def F_script_Answercb : ICode := (.seq (.reg F_script_Answerr0) (.seq (.seq (.reg F_script_Answerr1) (.cond (.t 8) (.seq (.reg F_script_Answerr2) .ret) .skip)) (.seq (.seq (.reg F_script_Answerr3) (.block 0 (.seq (.reg F_script_Answerr4) (.cond (.t 15) (.seq (.reg F_script_Answerr5) .ret) (.seq (.reg F_script_Answerr6) (.cond (.t 21) (.seq (.dreg F_script_Answerr7 []) .ret) (.seq (.reg F_script_Answerr8) (.cond (.t 32) (.seq (.dreg F_script_Answerr9 []) (.seq (.seq (.reg F_script_Answerr10) (.cond (.t 45) (.reg F_script_Answerr11) .skip)) (.seq (.reg F_script_Answerr12) .ret))) .skip)))))))) (.seq (.reg F_script_Answerr13) .ret))))
def F_script_Answerc : ICode := F_script_Answercb
theorem F_script_Answerc_W {T : Tab} {env : Env} {H : Heap} {Q : Post} : W T F_script_Answerc env H Q ↔ W T F_script_Answercb env H Q := Iff.rfl
def F_script_Answer : IFn := ⟨52, [.tmp 4], F_script_Answerc⟩
set_option linter.defProp false in
set_option maxRecDepth 100000 in
def N_script_AnswerP := And.intro F_script_Answerr0b.eq_1 (And.intro @F_script_Answerr0_W (And.intro F_script_Answerr1b.eq_1 (And.intro @F_script_Answerr1_W (And.intro F_script_Answerr2b.eq_1 (And.intro @F_script_Answerr2_W (And.intro F_script_Answerr3b.eq_1 (And.intro @F_script_Answerr3_W (And.intro F_script_Answerr4b.eq_1 (And.intro @F_script_Answerr4_W (And.intro F_script_Answerr5b.eq_1 (And.intro @F_script_Answerr5_W (And.intro F_script_Answerr6b.eq_1 (And.intro @F_script_Answerr6_W (And.intro F_script_Answerr7b.eq_1 (And.intro @F_script_Answerr7_W (And.intro F_script_Answerr8b.eq_1 (And.intro @F_script_Answerr8_W (And.intro F_script_Answerr9b.eq_1 (And.intro @F_script_Answerr9_W (And.intro F_script_Answerr10b.eq_1 (And.intro @F_script_Answerr10_W (And.intro F_script_Answerr11b.eq_1 (And.intro @F_script_Answerr11_W (And.intro F_script_Answerr12b.eq_1 (And.intro @F_script_Answerr12_W (And.intro F_script_Answerr13b.eq_1 (And.intro @F_script_Answerr13_W (And.intro @F_script_Answerc_W (F_script_Answercb.eq_1)))))))))))))))))))))))))))))
theorem N_script_Answer : type_of% N_script_AnswerP := N_script_AnswerP
set_option maxRecDepth 1000000 in
theorem F_script_Answer_chk : chkF Tryd.prog 7 F_script_Answer = true := by kernel_rfl

/-! ### ref01_Text -/
def F_ref01_Textr0b : List IStmt := [
 ⟨some 2, .mv (.c (.string ⟨#[]⟩)), none⟩]
def F_ref01_Textr0 : List IStmt := F_ref01_Textr0b
theorem F_ref01_Textr0_W {T : Tab} {env : Env} {H : Heap} {Q : Post} : W T (.reg F_ref01_Textr0) env H Q ↔ WR T F_ref01_Textr0 F_ref01_Textr0b env H none [] Q := w_reg
def F_ref01_Textr1b : List IStmt := [
 ⟨some 4, .mv (.t 0), none⟩,
 ⟨some 5, .bin .leq (.t 4) (.c (.int .i64 0)), none⟩]
def F_ref01_Textr1 : List IStmt := F_ref01_Textr1b
theorem F_ref01_Textr1_W {T : Tab} {env : Env} {H : Heap} {Q : Post} : W T (.reg F_ref01_Textr1) env H Q ↔ WR T F_ref01_Textr1 F_ref01_Textr1b env H none [] Q := w_reg
def F_ref01_Textr2b : List IStmt := [
 ⟨some 2, .mv (.c (.string ⟨#[48]⟩)), none⟩]
def F_ref01_Textr2 : List IStmt := F_ref01_Textr2b
theorem F_ref01_Textr2_W {T : Tab} {env : Env} {H : Heap} {Q : Post} : W T (.reg F_ref01_Textr2) env H Q ↔ WR T F_ref01_Textr2 F_ref01_Textr2b env H none [] Q := w_reg
def F_ref01_Textr3b : List IStmt := [
 ⟨some 3, .mv (.c (.string ⟨#[]⟩)), none⟩]
def F_ref01_Textr3 : List IStmt := F_ref01_Textr3b
theorem F_ref01_Textr3_W {T : Tab} {env : Env} {H : Heap} {Q : Post} : W T (.reg F_ref01_Textr3) env H Q ↔ WR T F_ref01_Textr3 F_ref01_Textr3b env H none [] Q := w_reg
def F_ref01_Textr4b : List IStmt := [
 ⟨some 6, .mv (.t 0), none⟩,
 ⟨some 7, .bin .gtr (.t 6) (.c (.int .i64 0)), none⟩]
def F_ref01_Textr4 : List IStmt := F_ref01_Textr4b
theorem F_ref01_Textr4_W {T : Tab} {env : Env} {H : Heap} {Q : Post} : W T (.reg F_ref01_Textr4) env H Q ↔ WR T F_ref01_Textr4 F_ref01_Textr4b env H none [] Q := w_reg
def F_ref01_Textr5b : List IStmt := [
 ⟨some 8, .mv (.t 0), none⟩,
 ⟨some 9, .bin .rem (.t 8) (.c (.int .i64 10)), none⟩,
 ⟨some 10, .bin .add (.c (.int .i64 48)) (.t 9), none⟩,
 ⟨some 11, .conv .u8 (.t 10), none⟩,
 ⟨some 12, .bsli 1 1 [.int .u8 0] [(0, (.t 11))], none⟩,
 ⟨some 13, .b2s (.t 12), none⟩,
 ⟨some 14, .mv (.t 3), none⟩,
 ⟨some 15, .bin .add (.t 13) (.t 14), none⟩,
 ⟨some 3, .mv (.t 15), none⟩]
def F_ref01_Textr5 : List IStmt := F_ref01_Textr5b
theorem F_ref01_Textr5_W {T : Tab} {env : Env} {H : Heap} {Q : Post} : W T (.reg F_ref01_Textr5) env H Q ↔ WR T F_ref01_Textr5 F_ref01_Textr5b env H none [] Q := w_reg
def F_ref01_Textr6b : List IStmt := [
 ⟨some 16, .mv (.t 0), none⟩,
 ⟨some 17, .bin .quo (.t 16) (.c (.int .i64 10)), none⟩,
 ⟨some 0, .mv (.t 17), none⟩]
def F_ref01_Textr6 : List IStmt := F_ref01_Textr6b
theorem F_ref01_Textr6_W {T : Tab} {env : Env} {H : Heap} {Q : Post} : W T (.reg F_ref01_Textr6) env H Q ↔ WR T F_ref01_Textr6 F_ref01_Textr6b env H none [] Q := w_reg
def F_ref01_Textl0b : ICode := (.seq (.seq (.reg F_ref01_Textr4) (.cond (.t 7) .skip (.exit 0))) (.block 1 (.seq (.reg F_ref01_Textr5) (.reg F_ref01_Textr6))))
def F_ref01_Textl0 : ICode := F_ref01_Textl0b
theorem F_ref01_Textl0_W {T : Tab} {env : Env} {H : Heap} {Q : Post} : W T F_ref01_Textl0 env H Q ↔ W T F_ref01_Textl0b env H Q := Iff.rfl
def F_ref01_Textr7b : List IStmt := [
 ⟨some 18, .mv (.t 3), none⟩,
 ⟨some 2, .mv (.t 18), none⟩]
def F_ref01_Textr7 : List IStmt := F_ref01_Textr7b
theorem F_ref01_Textr7_W {T : Tab} {env : Env} {H : Heap} {Q : Post} : W T (.reg F_ref01_Textr7) env H Q ↔ WR T F_ref01_Textr7 F_ref01_Textr7b env H none [] Q := w_reg
def F_ref01_Textcb : ICode := (.seq (.reg F_ref01_Textr0) (.seq (.seq (.reg F_ref01_Textr1) (.cond (.t 5) (.seq (.reg F_ref01_Textr2) .ret) .skip)) (.seq (.reg F_ref01_Textr3) (.seq (.block 0 (.loop F_ref01_Textl0)) (.seq (.reg F_ref01_Textr7) .ret)))))
def F_ref01_Textc : ICode := F_ref01_Textcb
theorem F_ref01_Textc_W {T : Tab} {env : Env} {H : Heap} {Q : Post} : W T F_ref01_Textc env H Q ↔ W T F_ref01_Textcb env H Q := Iff.rfl
def F_ref01_Text : IFn := ⟨19, [.tmp 2], F_ref01_Textc⟩
set_option linter.defProp false in
set_option maxRecDepth 100000 in
def N_ref01_TextP := And.intro F_ref01_Textr0b.eq_1 (And.intro @F_ref01_Textr0_W (And.intro F_ref01_Textr1b.eq_1 (And.intro @F_ref01_Textr1_W (And.intro F_ref01_Textr2b.eq_1 (And.intro @F_ref01_Textr2_W (And.intro F_ref01_Textr3b.eq_1 (And.intro @F_ref01_Textr3_W (And.intro F_ref01_Textr4b.eq_1 (And.intro @F_ref01_Textr4_W (And.intro F_ref01_Textr5b.eq_1 (And.intro @F_ref01_Textr5_W (And.intro F_ref01_Textr6b.eq_1 (And.intro @F_ref01_Textr6_W (And.intro @F_ref01_Textl0_W (And.intro F_ref01_Textl0b.eq_1 (And.intro F_ref01_Textr7b.eq_1 (And.intro @F_ref01_Textr7_W (And.intro @F_ref01_Textc_W (F_ref01_Textcb.eq_1)))))))))))))))))))
theorem N_ref01_Text : type_of% N_ref01_TextP := N_ref01_TextP
set_option maxRecDepth 1000000 in
theorem F_ref01_Text_chk : chkF Tryd.prog 23 F_ref01_Text = true := by kernel_rfl

/-! ### ref01_Hex -/
def F_ref01_Hexr0b : List IStmt := [
 ⟨some 2, .mv (.c (.string ⟨#[]⟩)), none⟩]
def F_ref01_Hexr0 : List IStmt := F_ref01_Hexr0b
theorem F_ref01_Hexr0_W {T : Tab} {env : Env} {H : Heap} {Q : Post} : W T (.reg F_ref01_Hexr0) env H Q ↔ WR T F_ref01_Hexr0 F_ref01_Hexr0b env H none [] Q := w_reg
def F_ref01_Hexr1b : List IStmt := [
 ⟨some 3, .mv (.c (.string ⟨#[48, 49, 50, 51, 52, 53, 54, 55, 56, 57, 97, 98, 99, 100, 101, 102]⟩)), none⟩]
def F_ref01_Hexr1 : List IStmt := F_ref01_Hexr1b
theorem F_ref01_Hexr1_W {T : Tab} {env : Env} {H : Heap} {Q : Post} : W T (.reg F_ref01_Hexr1) env H Q ↔ WR T F_ref01_Hexr1 F_ref01_Hexr1b env H none [] Q := w_reg
def F_ref01_Hexr2b : List IStmt := [
 ⟨some 4, .mv (.c (.string ⟨#[]⟩)), none⟩]
def F_ref01_Hexr2 : List IStmt := F_ref01_Hexr2b
theorem F_ref01_Hexr2_W {T : Tab} {env : Env} {H : Heap} {Q : Post} : W T (.reg F_ref01_Hexr2) env H Q ↔ WR T F_ref01_Hexr2 F_ref01_Hexr2b env H none [] Q := w_reg
def F_ref01_Hexr3b : List IStmt := [
 ⟨some 5, .mv (.t 0), none⟩,
 ⟨some 6, .bin .gtr (.t 5) (.c (.int .u64 0)), none⟩,
 ⟨some 7, .mv (.t 6), none⟩,
 ⟨some 8, .mv (.t 4), some (2, false)⟩,
 ⟨some 9, .bin .eql (.t 8) (.c (.string ⟨#[]⟩)), some (2, false)⟩,
 ⟨some 10, .pick (.t 7) (.c (.bool true)) (.t 9), none⟩]
def F_ref01_Hexr3 : List IStmt := F_ref01_Hexr3b
theorem F_ref01_Hexr3_W {T : Tab} {env : Env} {H : Heap} {Q : Post} : W T (.reg F_ref01_Hexr3) env H Q ↔ WR T F_ref01_Hexr3 F_ref01_Hexr3b env H none [] Q := w_reg
theorem F_ref01_Hexr3_g2 {env : Env} : yieldI F_ref01_Hexr3 env 2 = bOf (env 7) := rfl
def F_ref01_Hexr4b : List IStmt := [
 ⟨some 11, .mv (.t 3), none⟩,
 ⟨some 12, .mv (.t 0), none⟩,
 ⟨some 13, .bin .rem (.t 12) (.c (.int .u64 16)), none⟩,
 ⟨some 14, .mv (.t 0), none⟩,
 ⟨some 15, .bin .rem (.t 14) (.c (.int .u64 16)), none⟩,
 ⟨some 16, .bin .add (.t 15) (.c (.int .u64 1)), none⟩,
 ⟨some 17, .sls (.t 11) (some (.t 13)) (some (.t 16)), none⟩,
 ⟨some 18, .mv (.t 4), none⟩,
 ⟨some 19, .bin .add (.t 17) (.t 18), none⟩,
 ⟨some 4, .mv (.t 19), none⟩]
def F_ref01_Hexr4 : List IStmt := F_ref01_Hexr4b
theorem F_ref01_Hexr4_W {T : Tab} {env : Env} {H : Heap} {Q : Post} : W T (.reg F_ref01_Hexr4) env H Q ↔ WR T F_ref01_Hexr4 F_ref01_Hexr4b env H none [] Q := w_reg
def F_ref01_Hexr5b : List IStmt := [
 ⟨some 20, .mv (.t 0), none⟩,
 ⟨some 21, .bin .quo (.t 20) (.c (.int .u64 16)), none⟩,
 ⟨some 0, .mv (.t 21), none⟩]
def F_ref01_Hexr5 : List IStmt := F_ref01_Hexr5b
theorem F_ref01_Hexr5_W {T : Tab} {env : Env} {H : Heap} {Q : Post} : W T (.reg F_ref01_Hexr5) env H Q ↔ WR T F_ref01_Hexr5 F_ref01_Hexr5b env H none [] Q := w_reg
def F_ref01_Hexl0b : ICode := (.seq (.seq (.reg F_ref01_Hexr3) (.cond (.t 10) .skip (.exit 0))) (.block 1 (.seq (.reg F_ref01_Hexr4) (.reg F_ref01_Hexr5))))
def F_ref01_Hexl0 : ICode := F_ref01_Hexl0b
theorem F_ref01_Hexl0_W {T : Tab} {env : Env} {H : Heap} {Q : Post} : W T F_ref01_Hexl0 env H Q ↔ W T F_ref01_Hexl0b env H Q := Iff.rfl
def F_ref01_Hexr6b : List IStmt := [
 ⟨some 22, .mv (.t 4), none⟩,
 ⟨some 23, .bin .add (.c (.string ⟨#[48, 120]⟩)) (.t 22), none⟩,
 ⟨some 2, .mv (.t 23), none⟩]
def F_ref01_Hexr6 : List IStmt := F_ref01_Hexr6b
theorem F_ref01_Hexr6_W {T : Tab} {env : Env} {H : Heap} {Q : Post} : W T (.reg F_ref01_Hexr6) env H Q ↔ WR T F_ref01_Hexr6 F_ref01_Hexr6b env H none [] Q := w_reg
def F_ref01_Hexcb : ICode := (.seq (.reg F_ref01_Hexr0) (.seq (.reg F_ref01_Hexr1) (.seq (.reg F_ref01_Hexr2) (.seq (.block 0 (.loop F_ref01_Hexl0)) (.seq (.reg F_ref01_Hexr6) .ret)))))
def F_ref01_Hexc : ICode := F_ref01_Hexcb
theorem F_ref01_Hexc_W {T : Tab} {env : Env} {H : Heap} {Q : Post} : W T F_ref01_Hexc env H Q ↔ W T F_ref01_Hexcb env H Q := Iff.rfl
def F_ref01_Hex : IFn := ⟨24, [.tmp 2], F_ref01_Hexc⟩
set_option linter.defProp false in
set_option maxRecDepth 100000 in
def N_ref01_HexP := And.intro F_ref01_Hexr0b.eq_1 (And.intro @F_ref01_Hexr0_W (And.intro F_ref01_Hexr1b.eq_1 (And.intro @F_ref01_Hexr1_W (And.intro F_ref01_Hexr2b.eq_1 (And.intro @F_ref01_Hexr2_W (And.intro F_ref01_Hexr3b.eq_1 (And.intro @F_ref01_Hexr3_W (And.intro @F_ref01_Hexr3_g2 (And.intro F_ref01_Hexr4b.eq_1 (And.intro @F_ref01_Hexr4_W (And.intro F_ref01_Hexr5b.eq_1 (And.intro @F_ref01_Hexr5_W (And.intro @F_ref01_Hexl0_W (And.intro F_ref01_Hexl0b.eq_1 (And.intro F_ref01_Hexr6b.eq_1 (And.intro @F_ref01_Hexr6_W (And.intro @F_ref01_Hexc_W (F_ref01_Hexcb.eq_1))))))))))))))))))
theorem N_ref01_Hex : type_of% N_ref01_HexP := N_ref01_HexP
set_option maxRecDepth 1000000 in
theorem F_ref01_Hex_chk : chkF Tryd.prog 24 F_ref01_Hex = true := by kernel_rfl

/-! ### ref28_Answer -/
def F_ref28_Answerr0b : List IStmt := [
 ⟨some 2, .box 18 (.t 0), none⟩,
 ⟨some 3, .box 5 (.t 1), none⟩,
 ⟨some 4, .mv (.c (.string ⟨#[]⟩)), none⟩]
def F_ref28_Answerr0 : List IStmt := F_ref28_Answerr0b
theorem F_ref28_Answerr0_W {T : Tab} {env : Env} {H : Heap} {Q : Post} : W T (.reg F_ref28_Answerr0) env H Q ↔ WR T F_ref28_Answerr0 F_ref28_Answerr0b env H none [] Q := w_reg
def F_ref28_Answerr1b : List IStmt := [
 ⟨some 6, .fa 0 (.t 3), none⟩,
 ⟨some 7, .load (.t 6), none⟩,
 ⟨some 8, .bin .neq (.t 7) (.c (.int .i64 0)), none⟩]
def F_ref28_Answerr1 : List IStmt := F_ref28_Answerr1b
theorem F_ref28_Answerr1_W {T : Tab} {env : Env} {H : Heap} {Q : Post} : W T (.reg F_ref28_Answerr1) env H Q ↔ WR T F_ref28_Answerr1 F_ref28_Answerr1b env H none [] Q := w_reg
def F_ref28_Answerr2b : List IStmt := [
 ⟨some 9, .fa 0 (.t 3), none⟩,
 ⟨some 10, .load (.t 9), none⟩,
 ⟨some 11, .callc 23 [(.t 10)], none⟩,
 ⟨some 12, .bin .add (.c (.string ⟨#[101, 114, 114, 111, 114, 32]⟩)) (.t 11), none⟩,
 ⟨some 4, .mv (.t 12), none⟩]
def F_ref28_Answerr2 : List IStmt := F_ref28_Answerr2b
theorem F_ref28_Answerr2_W {T : Tab} {env : Env} {H : Heap} {Q : Post} : W T (.reg F_ref28_Answerr2) env H Q ↔ WR T F_ref28_Answerr2 F_ref28_Answerr2b env H none [] Q := w_reg
def F_ref28_Answerr3b : List IStmt := [
 ⟨some 13, .fa 2 (.t 3), none⟩,
 ⟨some 14, .load (.t 13), none⟩,
 ⟨some 15, .callc 23 [(.t 14)], none⟩,
 ⟨some 16, .bin .add (.c (.string ⟨#[97, 116, 32]⟩)) (.t 15), none⟩,
 ⟨some 17, .bin .add (.t 16) (.c (.string ⟨#[32]⟩)), none⟩,
 ⟨some 18, .fa 3 (.t 3), none⟩,
 ⟨some 19, .load (.t 18), none⟩,
 ⟨some 20, .callc 24 [(.t 19)], none⟩,
 ⟨some 21, .bin .add (.t 17) (.t 20), none⟩,
 ⟨some 5, .mv (.t 21), none⟩]
def F_ref28_Answerr3 : List IStmt := F_ref28_Answerr3b
theorem F_ref28_Answerr3_W {T : Tab} {env : Env} {H : Heap} {Q : Post} : W T (.dreg F_ref28_Answerr3 []) env H Q ↔ WR T F_ref28_Answerr3 F_ref28_Answerr3b env H none [] Q := w_dreg0
def F_ref28_Answerr4b : List IStmt := [
 ⟨some 22, .fa 0 (.t 2), none⟩,
 ⟨some 23, .load (.t 22), none⟩]
def F_ref28_Answerr4 : List IStmt := F_ref28_Answerr4b
theorem F_ref28_Answerr4_W {T : Tab} {env : Env} {H : Heap} {Q : Post} : W T (.reg F_ref28_Answerr4) env H Q ↔ WR T F_ref28_Answerr4 F_ref28_Answerr4b env H none [] Q := w_reg
def F_ref28_Answerr5b : List IStmt := [
 ⟨some 25, .bin .eql (.t 23) (.c (.int .i64 1)), none⟩,
 ⟨some 24, .mv (.t 25), none⟩]
def F_ref28_Answerr5 : List IStmt := F_ref28_Answerr5b
theorem F_ref28_Answerr5_W {T : Tab} {env : Env} {H : Heap} {Q : Post} : W T (.reg F_ref28_Answerr5) env H Q ↔ WR T F_ref28_Answerr5 F_ref28_Answerr5b env H none [] Q := w_reg
def F_ref28_Answerr6b : List IStmt := [
 ⟨some 26, .fa 1 (.t 3), none⟩,
 ⟨some 27, .load (.t 26), none⟩,
 ⟨some 28, .callc 23 [(.t 27)], none⟩,
 ⟨some 29, .bin .add (.c (.string ⟨#[104, 97, 110, 100, 108, 101, 32]⟩)) (.t 28), none⟩,
 ⟨some 4, .mv (.t 29), none⟩]
def F_ref28_Answerr6 : List IStmt := F_ref28_Answerr6b
theorem F_ref28_Answerr6_W {T : Tab} {env : Env} {H : Heap} {Q : Post} : W T (.reg F_ref28_Answerr6) env H Q ↔ WR T F_ref28_Answerr6 F_ref28_Answerr6b env H none [] Q := w_reg
def F_ref28_Answerr7b : List IStmt := [
 ⟨some 31, .bin .eql (.t 23) (.c (.int .i64 2)), none⟩,
 ⟨some 30, .mv (.t 31), none⟩]
def F_ref28_Answerr7 : List IStmt := F_ref28_Answerr7b
theorem F_ref28_Answerr7_W {T : Tab} {env : Env} {H : Heap} {Q : Post} : W T (.reg F_ref28_Answerr7) env H Q ↔ WR T F_ref28_Answerr7 F_ref28_Answerr7b env H none [] Q := w_reg
def F_ref28_Answerr8b : List IStmt := [
 ⟨some 32, .mv (.t 5), none⟩,
 ⟨some 4, .mv (.t 32), none⟩]
def F_ref28_Answerr8 : List IStmt := F_ref28_Answerr8b
theorem F_ref28_Answerr8_W {T : Tab} {env : Env} {H : Heap} {Q : Post} : W T (.reg F_ref28_Answerr8) env H Q ↔ WR T F_ref28_Answerr8 F_ref28_Answerr8b env H none [] Q := w_reg
def F_ref28_Answerr9b : List IStmt := [
 ⟨some 34, .bin .eql (.t 23) (.c (.int .i64 3)), none⟩,
 ⟨some 33, .mv (.t 34), none⟩]
def F_ref28_Answerr9 : List IStmt := F_ref28_Answerr9b
theorem F_ref28_Answerr9_W {T : Tab} {env : Env} {H : Heap} {Q : Post} : W T (.reg F_ref28_Answerr9) env H Q ↔ WR T F_ref28_Answerr9 F_ref28_Answerr9b env H none [] Q := w_reg
def F_ref28_Answerr10b : List IStmt := [
 ⟨some 35, .fa 4 (.t 3), none⟩,
 ⟨some 36, .load (.t 35), none⟩,
 ⟨some 37, .bin .neq (.t 36) (.c (.string ⟨#[]⟩)), none⟩]
def F_ref28_Answerr10 : List IStmt := F_ref28_Answerr10b
theorem F_ref28_Answerr10_W {T : Tab} {env : Env} {H : Heap} {Q : Post} : W T (.reg F_ref28_Answerr10) env H Q ↔ WR T F_ref28_Answerr10 F_ref28_Answerr10b env H none [] Q := w_reg
def F_ref28_Answerr11b : List IStmt := [
 ⟨some 38, .mv (.t 5), none⟩,
 ⟨some 39, .fa 4 (.t 3), none⟩,
 ⟨some 40, .load (.t 39), none⟩,
 ⟨some 41, .bin .add (.c (.string ⟨#[32]⟩)) (.t 40), none⟩,
 ⟨some 42, .bin .add (.t 38) (.t 41), none⟩,
 ⟨some 5, .mv (.t 42), none⟩]
def F_ref28_Answerr11 : List IStmt := F_ref28_Answerr11b
theorem F_ref28_Answerr11_W {T : Tab} {env : Env} {H : Heap} {Q : Post} : W T (.reg F_ref28_Answerr11) env H Q ↔ WR T F_ref28_Answerr11 F_ref28_Answerr11b env H none [] Q := w_reg
def F_ref28_Answerr12b : List IStmt := [
 ⟨some 43, .mv (.t 5), none⟩,
 ⟨some 4, .mv (.t 43), none⟩]
def F_ref28_Answerr12 : List IStmt := F_ref28_Answerr12b
theorem F_ref28_Answerr12_W {T : Tab} {env : Env} {H : Heap} {Q : Post} : W T (.reg F_ref28_Answerr12) env H Q ↔ WR T F_ref28_Answerr12 F_ref28_Answerr12b env H none [] Q := w_reg
def F_ref28_Answerr13b : List IStmt := [
 ⟨some 4, .mv (.c (.string ⟨#[111, 107]⟩)), none⟩]
def F_ref28_Answerr13 : List IStmt := F_ref28_Answerr13b
theorem F_ref28_Answerr13_W {T : Tab} {env : Env} {H : Heap} {Q : Post} : W T (.reg F_ref28_Answerr13) env H Q ↔ WR T F_ref28_Answerr13 F_ref28_Answerr13b env H none [] Q := w_reg
def F_ref28_Answercb : ICode := (.seq (.reg F_ref28_Answerr0) (.seq (.seq (.reg F_ref28_Answerr1) (.cond (.t 8) (.seq (.reg F_ref28_Answerr2) .ret) .skip)) (.seq (.dreg F_ref28_Answerr3 []) (.seq (.seq (.reg F_ref28_Answerr4) (.block 0 (.seq (.reg F_ref28_Answerr5) (.cond (.t 24) (.seq (.reg F_ref28_Answerr6) .ret) (.seq (.reg F_ref28_Answerr7) (.cond (.t 30) (.seq (.reg F_ref28_Answerr8) .ret) (.seq (.reg F_ref28_Answerr9) (.cond (.t 33) (.seq (.seq (.reg F_ref28_Answerr10) (.cond (.t 37) (.reg F_ref28_Answerr11) .skip)) (.seq (.reg F_ref28_Answerr12) .ret)) .skip)))))))) (.seq (.reg F_ref28_Answerr13) .ret)))))
def F_ref28_Answerc : ICode := F_ref28_Answercb
theorem F_ref28_Answerc_W {T : Tab} {env : Env} {H : Heap} {Q : Post} : W T F_ref28_Answerc env H Q ↔ W T F_ref28_Answercb env H Q := Iff.rfl
def F_ref28_Answer : IFn := ⟨44, [.tmp 4], F_ref28_Answerc⟩
set_option linter.defProp false in
set_option maxRecDepth 100000 in
def N_ref28_AnswerP := And.intro F_ref28_Answerr0b.eq_1 (And.intro @F_ref28_Answerr0_W (And.intro F_ref28_Answerr1b.eq_1 (And.intro @F_ref28_Answerr1_W (And.intro F_ref28_Answerr2b.eq_1 (And.intro @F_ref28_Answerr2_W (And.intro F_ref28_Answerr3b.eq_1 (And.intro @F_ref28_Answerr3_W (And.intro F_ref28_Answerr4b.eq_1 (And.intro @F_ref28_Answerr4_W (And.intro F_ref28_Answerr5b.eq_1 (And.intro @F_ref28_Answerr5_W (And.intro F_ref28_Answerr6b.eq_1 (And.intro @F_ref28_Answerr6_W (And.intro F_ref28_Answerr7b.eq_1 (And.intro @F_ref28_Answerr7_W (And.intro F_ref28_Answerr8b.eq_1 (And.intro @F_ref28_Answerr8_W (And.intro F_ref28_Answerr9b.eq_1 (And.intro @F_ref28_Answerr9_W (And.intro F_ref28_Answerr10b.eq_1 (And.intro @F_ref28_Answerr10_W (And.intro F_ref28_Answerr11b.eq_1 (And.intro @F_ref28_Answerr11_W (And.intro F_ref28_Answerr12b.eq_1 (And.intro @F_ref28_Answerr12_W (And.intro F_ref28_Answerr13b.eq_1 (And.intro @F_ref28_Answerr13_W (And.intro @F_ref28_Answerc_W (F_ref28_Answercb.eq_1)))))))))))))))))))))))))))))
theorem N_ref28_Answer : type_of% N_ref28_AnswerP := N_ref28_AnswerP
set_option maxRecDepth 1000000 in
theorem F_ref28_Answer_chk : chkF Tryd.prog 8 F_ref28_Answer = true := by kernel_rfl

/-! ### law28_ScriptAnswers -/
def F_law28_ScriptAnswersr0b : List IStmt := [
 ⟨some 2, .box 18 (.t 0), none⟩,
 ⟨some 3, .box 5 (.t 1), none⟩,
 ⟨some 4, .mv (.c (.bool false)), none⟩]
def F_law28_ScriptAnswersr0 : List IStmt := F_law28_ScriptAnswersr0b
theorem F_law28_ScriptAnswersr0_W {T : Tab} {env : Env} {H : Heap} {Q : Post} : W T (.reg F_law28_ScriptAnswersr0) env H Q ↔ WR T F_law28_ScriptAnswersr0 F_law28_ScriptAnswersr0b env H none [] Q := w_reg
def F_law28_ScriptAnswersr1b : List IStmt := [
 ⟨some 5, .fa 4 (.t 3), none⟩,
 ⟨some 6, .load (.t 5), none⟩,
 ⟨some 7, .len 0 (.t 6), none⟩,
 ⟨some 8, .bin .gtr (.t 7) (.c (.int .i64 4096)), none⟩,
 ⟨some 9, .mv (.t 8), none⟩,
 ⟨some 10, .loadN 18 (.t 2), some (4, false)⟩,
 ⟨some 11, .loadN 5 (.t 3), some (4, false)⟩,
 ⟨some 12, .callc 7 [(.t 10), (.t 11)], some (4, false)⟩,
 ⟨some 13, .loadN 18 (.t 2), some (4, false)⟩,
 ⟨some 14, .loadN 5 (.t 3), some (4, false)⟩,
 ⟨some 15, .callc 8 [(.t 13), (.t 14)], some (4, false)⟩,
 ⟨some 16, .bin .eql (.t 12) (.t 15), some (4, false)⟩,
 ⟨some 17, .mv (.t 16), some (4, false)⟩,
 ⟨some 18, .callc 9 [], some (12, true)⟩,
 ⟨some 19, .pick (.t 17) (.t 18) (.c (.bool false)), some (4, false)⟩,
 ⟨some 20, .pick (.t 9) (.c (.bool true)) (.t 19), none⟩,
 ⟨some 4, .mv (.t 20), none⟩]
def F_law28_ScriptAnswersr1 : List IStmt := F_law28_ScriptAnswersr1b
theorem F_law28_ScriptAnswersr1_g4 {env : Env} : yieldI F_law28_ScriptAnswersr1 env 4 = bOf (env 9) := rfl
theorem F_law28_ScriptAnswersr1_g12 {env : Env} : yieldI F_law28_ScriptAnswersr1 env 12 = bOf (env 17) := rfl
theorem F_law28_ScriptAnswersr1_W {T : Tab} {env : Env} {H : Heap} {Q : Post} : W T (.dreg F_law28_ScriptAnswersr1 []) env H Q ↔ WR T F_law28_ScriptAnswersr1 F_law28_ScriptAnswersr1b env H none [] Q := w_dreg0
def F_law28_ScriptAnswerscb : ICode := (.seq (.reg F_law28_ScriptAnswersr0) (.seq (.dreg F_law28_ScriptAnswersr1 []) .ret))
def F_law28_ScriptAnswersc : ICode := F_law28_ScriptAnswerscb
theorem F_law28_ScriptAnswersc_W {T : Tab} {env : Env} {H : Heap} {Q : Post} : W T F_law28_ScriptAnswersc env H Q ↔ W T F_law28_ScriptAnswerscb env H Q := Iff.rfl
def F_law28_ScriptAnswers : IFn := ⟨21, [.tmp 4], F_law28_ScriptAnswersc⟩
set_option linter.defProp false in
set_option maxRecDepth 100000 in
def N_law28_ScriptAnswersP := And.intro F_law28_ScriptAnswersr0b.eq_1 (And.intro @F_law28_ScriptAnswersr0_W (And.intro F_law28_ScriptAnswersr1b.eq_1 (And.intro @F_law28_ScriptAnswersr1_g4 (And.intro @F_law28_ScriptAnswersr1_g12 (And.intro @F_law28_ScriptAnswersr1_W (And.intro @F_law28_ScriptAnswersc_W (F_law28_ScriptAnswerscb.eq_1)))))))
theorem N_law28_ScriptAnswers : type_of% N_law28_ScriptAnswersP := N_law28_ScriptAnswersP
set_option maxRecDepth 1000000 in
theorem F_law28_ScriptAnswers_chk : chkF Tryd.prog 3 F_law28_ScriptAnswers = true := by kernel_rfl

/-- The functions, by number. -/
def TSa_l : List (Nat × IFn) := [(21, F_num_Text), (22, F_num_Hex), (7, F_script_Answer), (23, F_ref01_Text), (24, F_ref01_Hex), (8, F_ref28_Answer), (3, F_law28_ScriptAnswers)]
def TSa : Tab := tabOf TSa_l
theorem TSa_chk : ∀ p ∈ TSa_l, chkF Tryd.prog p.1 p.2 = true := by
  intro p hp
  simp only [TSa_l, List.mem_cons, List.not_mem_nil, or_false] at hp
  rcases hp with rfl | rfl | rfl | rfl | rfl | rfl | rfl
  · exact F_num_Text_chk
  · exact F_num_Hex_chk
  · exact F_script_Answer_chk
  · exact F_ref01_Text_chk
  · exact F_ref01_Hex_chk
  · exact F_ref28_Answer_chk
  · exact F_law28_ScriptAnswers_chk
theorem TSa_good : Good Tryd.prog TSa := good_tab (by kernel_rfl) TSa_chk

end Go.Proofs.YtfhhfanapgjcgaaDoor
