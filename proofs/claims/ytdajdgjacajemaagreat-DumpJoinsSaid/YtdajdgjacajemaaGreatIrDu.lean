/- The small language's text of functions of the given program, and the check that it stands for them. Printed by a program. -/
import Derived.Test.YtdajdgjacajemaaGreatFwC
import Derived.Test.YtdajdgjacajemaaGreatChecked
import Derived.Test.YtdajdgjacajemaaGreatIrIm
import Derived.Test.YtdajdgjacajemaaGreatIrBld
import Derived.KernelRfl
namespace Go.Proofs.YtdajdgjacajemaaGreat
open Go Fw

/-! ### num_Hex -/
def F_num_Hexr0b : List IStmt := [
 ⟨some 2, .mv (.c (.string ⟨#[]⟩)), none⟩]
def F_num_Hexr0 : List IStmt := F_num_Hexr0b
theorem F_num_Hexr0_W {T : Tab} {env : Env} {H : Heap} {Q : Post} : W T (.reg F_num_Hexr0) env H Q ↔ WR T F_num_Hexr0 F_num_Hexr0b env H none [] Q := w_reg
def F_num_Hexr1b : List IStmt := [
 ⟨some 3, .alloc 1 [.int .u8 0, .int .u8 0, .int .u8 0, .int .u8 0, .int .u8 0, .int .u8 0, .int .u8 0, .int .u8 0, .int .u8 0, .int .u8 0, .int .u8 0, .int .u8 0, .int .u8 0, .int .u8 0, .int .u8 0, .int .u8 0, .int .u8 0, .int .u8 0], none⟩]
def F_num_Hexr1 : List IStmt := F_num_Hexr1b
theorem F_num_Hexr1_W {T : Tab} {env : Env} {H : Heap} {Q : Post} : W T (.reg F_num_Hexr1) env H Q ↔ WR T F_num_Hexr1 F_num_Hexr1b env H none [] Q := w_reg
def F_num_Hexr2b : List IStmt := [
 ⟨some 4, .mv (.c (.int .i64 18)), none⟩]
def F_num_Hexr2 : List IStmt := F_num_Hexr2b
theorem F_num_Hexr2_W {T : Tab} {env : Env} {H : Heap} {Q : Post} : W T (.reg F_num_Hexr2) env H Q ↔ WR T F_num_Hexr2 F_num_Hexr2b env H none [] Q := w_reg
def F_num_Hexr3b : List IStmt := [
 ⟨some 5, .mv (.t 4), none⟩,
 ⟨some 6, .bin .sub (.t 5) (.c (.int .i64 1)), none⟩,
 ⟨some 4, .mv (.t 6), none⟩]
def F_num_Hexr3 : List IStmt := F_num_Hexr3b
theorem F_num_Hexr3_W {T : Tab} {env : Env} {H : Heap} {Q : Post} : W T (.reg F_num_Hexr3) env H Q ↔ WR T F_num_Hexr3 F_num_Hexr3b env H none [] Q := w_reg
def F_num_Hexr4b : List IStmt := [
 ⟨some 7, .mv (.t 4), none⟩,
 ⟨some 8, .mv (.t 0), none⟩,
 ⟨some 9, .bin .and (.t 8) (.c (.int .u64 15)), none⟩,
 ⟨some 10, .ixs (.c (.string ⟨#[48, 49, 50, 51, 52, 53, 54, 55, 56, 57, 97, 98, 99, 100, 101, 102]⟩)) (.t 9), none⟩,
 ⟨some 11, .ixr 18 1 (.t 3) (.t 7), none⟩,
 ⟨none, .store 1 (.t 11) (.t 10), none⟩]
def F_num_Hexr4 : List IStmt := F_num_Hexr4b
theorem F_num_Hexr4_W {T : Tab} {env : Env} {H : Heap} {Q : Post} : W T (.reg F_num_Hexr4) env H Q ↔ WR T F_num_Hexr4 F_num_Hexr4b env H none [] Q := w_reg
def F_num_Hexr5b : List IStmt := [
 ⟨some 12, .mv (.t 0), none⟩,
 ⟨some 13, .bin .shr (.t 12) (.c (.int .u64 4)), none⟩,
 ⟨some 0, .mv (.t 13), none⟩]
def F_num_Hexr5 : List IStmt := F_num_Hexr5b
theorem F_num_Hexr5_W {T : Tab} {env : Env} {H : Heap} {Q : Post} : W T (.reg F_num_Hexr5) env H Q ↔ WR T F_num_Hexr5 F_num_Hexr5b env H none [] Q := w_reg
def F_num_Hexr6b : List IStmt := [
 ⟨some 14, .mv (.t 0), none⟩,
 ⟨some 15, .bin .eql (.t 14) (.c (.int .u64 0)), none⟩]
def F_num_Hexr6 : List IStmt := F_num_Hexr6b
theorem F_num_Hexr6_W {T : Tab} {env : Env} {H : Heap} {Q : Post} : W T (.reg F_num_Hexr6) env H Q ↔ WR T F_num_Hexr6 F_num_Hexr6b env H none [] Q := w_reg
def F_num_Hexl0b : ICode := (.block 1 (.seq (.reg F_num_Hexr3) (.seq (.reg F_num_Hexr4) (.seq (.reg F_num_Hexr5) (.seq (.reg F_num_Hexr6) (.cond (.t 15) (.exit 0) .skip))))))
def F_num_Hexl0 : ICode := F_num_Hexl0b
theorem F_num_Hexl0_W {T : Tab} {env : Env} {H : Heap} {Q : Post} : W T F_num_Hexl0 env H Q ↔ W T F_num_Hexl0b env H Q := Iff.rfl
def F_num_Hexr7b : List IStmt := [
 ⟨some 16, .mv (.t 4), none⟩,
 ⟨some 17, .slr 18 1 (.t 3) (some (.t 16)) none, none⟩,
 ⟨some 18, .b2s (.t 17), none⟩,
 ⟨some 19, .bin .add (.c (.string ⟨#[48, 120]⟩)) (.t 18), none⟩,
 ⟨some 2, .mv (.t 19), none⟩]
def F_num_Hexr7 : List IStmt := F_num_Hexr7b
theorem F_num_Hexr7_W {T : Tab} {env : Env} {H : Heap} {Q : Post} : W T (.reg F_num_Hexr7) env H Q ↔ WR T F_num_Hexr7 F_num_Hexr7b env H none [] Q := w_reg
def F_num_Hexcb : ICode := (.seq (.reg F_num_Hexr0) (.seq (.reg F_num_Hexr1) (.seq (.reg F_num_Hexr2) (.seq (.block 0 (.loop F_num_Hexl0)) (.seq (.reg F_num_Hexr7) .ret)))))
def F_num_Hexc : ICode := F_num_Hexcb
theorem F_num_Hexc_W {T : Tab} {env : Env} {H : Heap} {Q : Post} : W T F_num_Hexc env H Q ↔ W T F_num_Hexcb env H Q := Iff.rfl
def F_num_Hex : IFn := ⟨20, [.tmp 2], F_num_Hexc⟩
set_option linter.defProp false in
set_option maxRecDepth 100000 in
def N_num_HexP := And.intro F_num_Hexr0b.eq_1 (And.intro @F_num_Hexr0_W (And.intro F_num_Hexr1b.eq_1 (And.intro @F_num_Hexr1_W (And.intro F_num_Hexr2b.eq_1 (And.intro @F_num_Hexr2_W (And.intro F_num_Hexr3b.eq_1 (And.intro @F_num_Hexr3_W (And.intro F_num_Hexr4b.eq_1 (And.intro @F_num_Hexr4_W (And.intro F_num_Hexr5b.eq_1 (And.intro @F_num_Hexr5_W (And.intro F_num_Hexr6b.eq_1 (And.intro @F_num_Hexr6_W (And.intro @F_num_Hexl0_W (And.intro F_num_Hexl0b.eq_1 (And.intro F_num_Hexr7b.eq_1 (And.intro @F_num_Hexr7_W (And.intro @F_num_Hexc_W (F_num_Hexcb.eq_1)))))))))))))))))))
theorem N_num_Hex : type_of% N_num_HexP := N_num_HexP
set_option maxRecDepth 1000000 in
theorem F_num_Hex_chk : chkF Tryz.prog 46 F_num_Hex = true := by kernel_rfl

/-! ### num_Text -/
def F_num_Textr0b : List IStmt := [
 ⟨some 2, .mv (.c (.string ⟨#[]⟩)), none⟩]
def F_num_Textr0 : List IStmt := F_num_Textr0b
theorem F_num_Textr0_W {T : Tab} {env : Env} {H : Heap} {Q : Post} : W T (.reg F_num_Textr0) env H Q ↔ WR T F_num_Textr0 F_num_Textr0b env H none [] Q := w_reg
def F_num_Textr1b : List IStmt := [
 ⟨some 3, .mv (.c (.string ⟨#[]⟩)), none⟩]
def F_num_Textr1 : List IStmt := F_num_Textr1b
theorem F_num_Textr1_W {T : Tab} {env : Env} {H : Heap} {Q : Post} : W T (.reg F_num_Textr1) env H Q ↔ WR T F_num_Textr1 F_num_Textr1b env H none [] Q := w_reg
def F_num_Textr2b : List IStmt := [
 ⟨some 4, .mv (.t 0), none⟩,
 ⟨some 5, .mx (.t 4) (.c (.int .i64 0)), none⟩,
 ⟨some 0, .mv (.t 5), none⟩]
def F_num_Textr2 : List IStmt := F_num_Textr2b
theorem F_num_Textr2_W {T : Tab} {env : Env} {H : Heap} {Q : Post} : W T (.reg F_num_Textr2) env H Q ↔ WR T F_num_Textr2 F_num_Textr2b env H none [] Q := w_reg
def F_num_Textr3b : List IStmt := [
 ⟨some 6, .mv (.t 0), none⟩,
 ⟨some 7, .bin .gtr (.t 6) (.c (.int .i64 0)), none⟩,
 ⟨some 8, .mv (.t 7), none⟩,
 ⟨some 9, .mv (.t 3), some (2, false)⟩,
 ⟨some 10, .bin .eql (.t 9) (.c (.string ⟨#[]⟩)), some (2, false)⟩,
 ⟨some 11, .pick (.t 8) (.c (.bool true)) (.t 10), none⟩]
def F_num_Textr3 : List IStmt := F_num_Textr3b
theorem F_num_Textr3_W {T : Tab} {env : Env} {H : Heap} {Q : Post} : W T (.reg F_num_Textr3) env H Q ↔ WR T F_num_Textr3 F_num_Textr3b env H none [] Q := w_reg
theorem F_num_Textr3_g2 {env : Env} : yieldI F_num_Textr3 env 2 = bOf (env 8) := rfl
def F_num_Textr5b : List IStmt := [
 ⟨some 14, .mv (.t 0), none⟩,
 ⟨some 15, .bin .rem (.t 14) (.c (.int .i64 10)), none⟩,
 ⟨some 16, .bin .add (.c (.int .i64 48)) (.t 15), none⟩,
 ⟨some 17, .conv .u8 (.t 16), none⟩,
 ⟨some 18, .bsli 1 1 [.int .u8 0] [(0, (.t 17))], none⟩,
 ⟨some 19, .b2s (.t 18), none⟩,
 ⟨some 20, .mv (.t 3), none⟩,
 ⟨some 21, .bin .add (.t 19) (.t 20), none⟩,
 ⟨some 3, .mv (.t 21), none⟩]
def F_num_Textr5 : List IStmt := F_num_Textr5b
theorem F_num_Textr5_W {T : Tab} {env : Env} {H : Heap} {Q : Post} : W T (.reg F_num_Textr5) env H Q ↔ WR T F_num_Textr5 F_num_Textr5b env H none [] Q := w_reg
def F_num_Textr4b : List IStmt := [
 ⟨some 12, .mv (.t 0), none⟩,
 ⟨some 13, .bin .quo (.t 12) (.c (.int .i64 10)), none⟩,
 ⟨some 0, .mv (.t 13), none⟩]
def F_num_Textr4 : List IStmt := F_num_Textr4b
theorem F_num_Textr4_W {T : Tab} {env : Env} {H : Heap} {Q : Post} : W T (.reg F_num_Textr4) env H Q ↔ WR T F_num_Textr4 F_num_Textr4b env H none [] Q := w_reg
def F_num_Textl0b : ICode := (.seq (.seq (.reg F_num_Textr3) (.cond (.t 11) .skip (.exit 0))) (.seq (.block 1 (.reg F_num_Textr5)) (.reg F_num_Textr4)))
def F_num_Textl0 : ICode := F_num_Textl0b
theorem F_num_Textl0_W {T : Tab} {env : Env} {H : Heap} {Q : Post} : W T F_num_Textl0 env H Q ↔ W T F_num_Textl0b env H Q := Iff.rfl
def F_num_Textr6b : List IStmt := [
 ⟨some 22, .mv (.t 3), none⟩,
 ⟨some 2, .mv (.t 22), none⟩]
def F_num_Textr6 : List IStmt := F_num_Textr6b
theorem F_num_Textr6_W {T : Tab} {env : Env} {H : Heap} {Q : Post} : W T (.reg F_num_Textr6) env H Q ↔ WR T F_num_Textr6 F_num_Textr6b env H none [] Q := w_reg
def F_num_Textcb : ICode := (.seq (.reg F_num_Textr0) (.seq (.reg F_num_Textr1) (.seq (.seq (.reg F_num_Textr2) (.block 0 (.loop F_num_Textl0))) (.seq (.reg F_num_Textr6) .ret))))
def F_num_Textc : ICode := F_num_Textcb
theorem F_num_Textc_W {T : Tab} {env : Env} {H : Heap} {Q : Post} : W T F_num_Textc env H Q ↔ W T F_num_Textcb env H Q := Iff.rfl
def F_num_Text : IFn := ⟨23, [.tmp 2], F_num_Textc⟩
set_option linter.defProp false in
set_option maxRecDepth 100000 in
def N_num_TextP := And.intro F_num_Textr0b.eq_1 (And.intro @F_num_Textr0_W (And.intro F_num_Textr1b.eq_1 (And.intro @F_num_Textr1_W (And.intro F_num_Textr2b.eq_1 (And.intro @F_num_Textr2_W (And.intro F_num_Textr3b.eq_1 (And.intro @F_num_Textr3_W (And.intro @F_num_Textr3_g2 (And.intro F_num_Textr5b.eq_1 (And.intro @F_num_Textr5_W (And.intro F_num_Textr4b.eq_1 (And.intro @F_num_Textr4_W (And.intro @F_num_Textl0_W (And.intro F_num_Textl0b.eq_1 (And.intro F_num_Textr6b.eq_1 (And.intro @F_num_Textr6_W (And.intro @F_num_Textc_W (F_num_Textcb.eq_1))))))))))))))))))
theorem N_num_Text : type_of% N_num_TextP := N_num_TextP
set_option maxRecDepth 1000000 in
theorem F_num_Text_chk : chkF Tryz.prog 49 F_num_Text = true := by kernel_rfl

/-! ### ref01_Hex -/
def F_ref01_Hexr0b : List IStmt := [
 ⟨some 2, .mv (.c (.string ⟨#[]⟩)), none⟩]
def F_ref01_Hexr0 : List IStmt := F_ref01_Hexr0b
theorem F_ref01_Hexr0_W {T : Tab} {env : Env} {H : Heap} {Q : Post} : W T (.reg F_ref01_Hexr0) env H Q ↔ WR T F_ref01_Hexr0 F_ref01_Hexr0b env H none [] Q := w_reg
def F_ref01_Hexr1b : List IStmt := [
 ⟨some 3, .mv (.c (.string ⟨#[48, 49, 50, 51, 52, 53, 54, 55, 56, 57, 97, 98, 99, 100, 101, 102]⟩)), none⟩]
def F_ref01_Hexr1 : List IStmt := F_ref01_Hexr1b
theorem F_ref01_Hexr1_W {T : Tab} {env : Env} {H : Heap} {Q : Post} : W T (.reg F_ref01_Hexr1) env H Q ↔ WR T F_ref01_Hexr1 F_ref01_Hexr1b env H none [] Q := w_reg
def F_ref01_Hexr2b : List IStmt := [
 ⟨some 4, .mv (.c (.string ⟨#[]⟩)), none⟩]
def F_ref01_Hexr2 : List IStmt := F_ref01_Hexr2b
theorem F_ref01_Hexr2_W {T : Tab} {env : Env} {H : Heap} {Q : Post} : W T (.reg F_ref01_Hexr2) env H Q ↔ WR T F_ref01_Hexr2 F_ref01_Hexr2b env H none [] Q := w_reg
def F_ref01_Hexr3b : List IStmt := [
 ⟨some 5, .mv (.t 0), none⟩,
 ⟨some 6, .bin .gtr (.t 5) (.c (.int .u64 0)), none⟩,
 ⟨some 7, .mv (.t 6), none⟩,
 ⟨some 8, .mv (.t 4), some (2, false)⟩,
 ⟨some 9, .bin .eql (.t 8) (.c (.string ⟨#[]⟩)), some (2, false)⟩,
 ⟨some 10, .pick (.t 7) (.c (.bool true)) (.t 9), none⟩]
def F_ref01_Hexr3 : List IStmt := F_ref01_Hexr3b
theorem F_ref01_Hexr3_W {T : Tab} {env : Env} {H : Heap} {Q : Post} : W T (.reg F_ref01_Hexr3) env H Q ↔ WR T F_ref01_Hexr3 F_ref01_Hexr3b env H none [] Q := w_reg
theorem F_ref01_Hexr3_g2 {env : Env} : yieldI F_ref01_Hexr3 env 2 = bOf (env 7) := rfl
def F_ref01_Hexr4b : List IStmt := [
 ⟨some 11, .mv (.t 3), none⟩,
 ⟨some 12, .mv (.t 0), none⟩,
 ⟨some 13, .bin .rem (.t 12) (.c (.int .u64 16)), none⟩,
 ⟨some 14, .mv (.t 0), none⟩,
 ⟨some 15, .bin .rem (.t 14) (.c (.int .u64 16)), none⟩,
 ⟨some 16, .bin .add (.t 15) (.c (.int .u64 1)), none⟩,
 ⟨some 17, .sls (.t 11) (some (.t 13)) (some (.t 16)), none⟩,
 ⟨some 18, .mv (.t 4), none⟩,
 ⟨some 19, .bin .add (.t 17) (.t 18), none⟩,
 ⟨some 4, .mv (.t 19), none⟩]
def F_ref01_Hexr4 : List IStmt := F_ref01_Hexr4b
theorem F_ref01_Hexr4_W {T : Tab} {env : Env} {H : Heap} {Q : Post} : W T (.reg F_ref01_Hexr4) env H Q ↔ WR T F_ref01_Hexr4 F_ref01_Hexr4b env H none [] Q := w_reg
def F_ref01_Hexr5b : List IStmt := [
 ⟨some 20, .mv (.t 0), none⟩,
 ⟨some 21, .bin .quo (.t 20) (.c (.int .u64 16)), none⟩,
 ⟨some 0, .mv (.t 21), none⟩]
def F_ref01_Hexr5 : List IStmt := F_ref01_Hexr5b
theorem F_ref01_Hexr5_W {T : Tab} {env : Env} {H : Heap} {Q : Post} : W T (.reg F_ref01_Hexr5) env H Q ↔ WR T F_ref01_Hexr5 F_ref01_Hexr5b env H none [] Q := w_reg
def F_ref01_Hexl0b : ICode := (.seq (.seq (.reg F_ref01_Hexr3) (.cond (.t 10) .skip (.exit 0))) (.block 1 (.seq (.reg F_ref01_Hexr4) (.reg F_ref01_Hexr5))))
def F_ref01_Hexl0 : ICode := F_ref01_Hexl0b
theorem F_ref01_Hexl0_W {T : Tab} {env : Env} {H : Heap} {Q : Post} : W T F_ref01_Hexl0 env H Q ↔ W T F_ref01_Hexl0b env H Q := Iff.rfl
def F_ref01_Hexr6b : List IStmt := [
 ⟨some 22, .mv (.t 4), none⟩,
 ⟨some 23, .bin .add (.c (.string ⟨#[48, 120]⟩)) (.t 22), none⟩,
 ⟨some 2, .mv (.t 23), none⟩]
def F_ref01_Hexr6 : List IStmt := F_ref01_Hexr6b
theorem F_ref01_Hexr6_W {T : Tab} {env : Env} {H : Heap} {Q : Post} : W T (.reg F_ref01_Hexr6) env H Q ↔ WR T F_ref01_Hexr6 F_ref01_Hexr6b env H none [] Q := w_reg
def F_ref01_Hexcb : ICode := (.seq (.reg F_ref01_Hexr0) (.seq (.reg F_ref01_Hexr1) (.seq (.reg F_ref01_Hexr2) (.seq (.block 0 (.loop F_ref01_Hexl0)) (.seq (.reg F_ref01_Hexr6) .ret)))))
def F_ref01_Hexc : ICode := F_ref01_Hexcb
theorem F_ref01_Hexc_W {T : Tab} {env : Env} {H : Heap} {Q : Post} : W T F_ref01_Hexc env H Q ↔ W T F_ref01_Hexcb env H Q := Iff.rfl
def F_ref01_Hex : IFn := ⟨24, [.tmp 2], F_ref01_Hexc⟩
set_option linter.defProp false in
set_option maxRecDepth 100000 in
def N_ref01_HexP := And.intro F_ref01_Hexr0b.eq_1 (And.intro @F_ref01_Hexr0_W (And.intro F_ref01_Hexr1b.eq_1 (And.intro @F_ref01_Hexr1_W (And.intro F_ref01_Hexr2b.eq_1 (And.intro @F_ref01_Hexr2_W (And.intro F_ref01_Hexr3b.eq_1 (And.intro @F_ref01_Hexr3_W (And.intro @F_ref01_Hexr3_g2 (And.intro F_ref01_Hexr4b.eq_1 (And.intro @F_ref01_Hexr4_W (And.intro F_ref01_Hexr5b.eq_1 (And.intro @F_ref01_Hexr5_W (And.intro @F_ref01_Hexl0_W (And.intro F_ref01_Hexl0b.eq_1 (And.intro F_ref01_Hexr6b.eq_1 (And.intro @F_ref01_Hexr6_W (And.intro @F_ref01_Hexc_W (F_ref01_Hexcb.eq_1))))))))))))))))))
theorem N_ref01_Hex : type_of% N_ref01_HexP := N_ref01_HexP
set_option maxRecDepth 1000000 in
theorem F_ref01_Hex_chk : chkF Tryz.prog 69 F_ref01_Hex = true := by kernel_rfl

/-! ### ref01_Text -/
def F_ref01_Textr0b : List IStmt := [
 ⟨some 2, .mv (.c (.string ⟨#[]⟩)), none⟩]
def F_ref01_Textr0 : List IStmt := F_ref01_Textr0b
theorem F_ref01_Textr0_W {T : Tab} {env : Env} {H : Heap} {Q : Post} : W T (.reg F_ref01_Textr0) env H Q ↔ WR T F_ref01_Textr0 F_ref01_Textr0b env H none [] Q := w_reg
def F_ref01_Textr1b : List IStmt := [
 ⟨some 4, .mv (.t 0), none⟩,
 ⟨some 5, .bin .leq (.t 4) (.c (.int .i64 0)), none⟩]
def F_ref01_Textr1 : List IStmt := F_ref01_Textr1b
theorem F_ref01_Textr1_W {T : Tab} {env : Env} {H : Heap} {Q : Post} : W T (.reg F_ref01_Textr1) env H Q ↔ WR T F_ref01_Textr1 F_ref01_Textr1b env H none [] Q := w_reg
def F_ref01_Textr2b : List IStmt := [
 ⟨some 2, .mv (.c (.string ⟨#[48]⟩)), none⟩]
def F_ref01_Textr2 : List IStmt := F_ref01_Textr2b
theorem F_ref01_Textr2_W {T : Tab} {env : Env} {H : Heap} {Q : Post} : W T (.reg F_ref01_Textr2) env H Q ↔ WR T F_ref01_Textr2 F_ref01_Textr2b env H none [] Q := w_reg
def F_ref01_Textr3b : List IStmt := [
 ⟨some 3, .mv (.c (.string ⟨#[]⟩)), none⟩]
def F_ref01_Textr3 : List IStmt := F_ref01_Textr3b
theorem F_ref01_Textr3_W {T : Tab} {env : Env} {H : Heap} {Q : Post} : W T (.reg F_ref01_Textr3) env H Q ↔ WR T F_ref01_Textr3 F_ref01_Textr3b env H none [] Q := w_reg
def F_ref01_Textr4b : List IStmt := [
 ⟨some 6, .mv (.t 0), none⟩,
 ⟨some 7, .bin .gtr (.t 6) (.c (.int .i64 0)), none⟩]
def F_ref01_Textr4 : List IStmt := F_ref01_Textr4b
theorem F_ref01_Textr4_W {T : Tab} {env : Env} {H : Heap} {Q : Post} : W T (.reg F_ref01_Textr4) env H Q ↔ WR T F_ref01_Textr4 F_ref01_Textr4b env H none [] Q := w_reg
def F_ref01_Textr5b : List IStmt := [
 ⟨some 8, .mv (.t 0), none⟩,
 ⟨some 9, .bin .rem (.t 8) (.c (.int .i64 10)), none⟩,
 ⟨some 10, .bin .add (.c (.int .i64 48)) (.t 9), none⟩,
 ⟨some 11, .conv .u8 (.t 10), none⟩,
 ⟨some 12, .bsli 1 1 [.int .u8 0] [(0, (.t 11))], none⟩,
 ⟨some 13, .b2s (.t 12), none⟩,
 ⟨some 14, .mv (.t 3), none⟩,
 ⟨some 15, .bin .add (.t 13) (.t 14), none⟩,
 ⟨some 3, .mv (.t 15), none⟩]
def F_ref01_Textr5 : List IStmt := F_ref01_Textr5b
theorem F_ref01_Textr5_W {T : Tab} {env : Env} {H : Heap} {Q : Post} : W T (.reg F_ref01_Textr5) env H Q ↔ WR T F_ref01_Textr5 F_ref01_Textr5b env H none [] Q := w_reg
def F_ref01_Textr6b : List IStmt := [
 ⟨some 16, .mv (.t 0), none⟩,
 ⟨some 17, .bin .quo (.t 16) (.c (.int .i64 10)), none⟩,
 ⟨some 0, .mv (.t 17), none⟩]
def F_ref01_Textr6 : List IStmt := F_ref01_Textr6b
theorem F_ref01_Textr6_W {T : Tab} {env : Env} {H : Heap} {Q : Post} : W T (.reg F_ref01_Textr6) env H Q ↔ WR T F_ref01_Textr6 F_ref01_Textr6b env H none [] Q := w_reg
def F_ref01_Textl0b : ICode := (.seq (.seq (.reg F_ref01_Textr4) (.cond (.t 7) .skip (.exit 0))) (.block 1 (.seq (.reg F_ref01_Textr5) (.reg F_ref01_Textr6))))
def F_ref01_Textl0 : ICode := F_ref01_Textl0b
theorem F_ref01_Textl0_W {T : Tab} {env : Env} {H : Heap} {Q : Post} : W T F_ref01_Textl0 env H Q ↔ W T F_ref01_Textl0b env H Q := Iff.rfl
def F_ref01_Textr7b : List IStmt := [
 ⟨some 18, .mv (.t 3), none⟩,
 ⟨some 2, .mv (.t 18), none⟩]
def F_ref01_Textr7 : List IStmt := F_ref01_Textr7b
theorem F_ref01_Textr7_W {T : Tab} {env : Env} {H : Heap} {Q : Post} : W T (.reg F_ref01_Textr7) env H Q ↔ WR T F_ref01_Textr7 F_ref01_Textr7b env H none [] Q := w_reg
def F_ref01_Textcb : ICode := (.seq (.reg F_ref01_Textr0) (.seq (.seq (.reg F_ref01_Textr1) (.cond (.t 5) (.seq (.reg F_ref01_Textr2) .ret) .skip)) (.seq (.reg F_ref01_Textr3) (.seq (.block 0 (.loop F_ref01_Textl0)) (.seq (.reg F_ref01_Textr7) .ret)))))
def F_ref01_Textc : ICode := F_ref01_Textcb
theorem F_ref01_Textc_W {T : Tab} {env : Env} {H : Heap} {Q : Post} : W T F_ref01_Textc env H Q ↔ W T F_ref01_Textcb env H Q := Iff.rfl
def F_ref01_Text : IFn := ⟨19, [.tmp 2], F_ref01_Textc⟩
set_option linter.defProp false in
set_option maxRecDepth 100000 in
def N_ref01_TextP := And.intro F_ref01_Textr0b.eq_1 (And.intro @F_ref01_Textr0_W (And.intro F_ref01_Textr1b.eq_1 (And.intro @F_ref01_Textr1_W (And.intro F_ref01_Textr2b.eq_1 (And.intro @F_ref01_Textr2_W (And.intro F_ref01_Textr3b.eq_1 (And.intro @F_ref01_Textr3_W (And.intro F_ref01_Textr4b.eq_1 (And.intro @F_ref01_Textr4_W (And.intro F_ref01_Textr5b.eq_1 (And.intro @F_ref01_Textr5_W (And.intro F_ref01_Textr6b.eq_1 (And.intro @F_ref01_Textr6_W (And.intro @F_ref01_Textl0_W (And.intro F_ref01_Textl0b.eq_1 (And.intro F_ref01_Textr7b.eq_1 (And.intro @F_ref01_Textr7_W (And.intro @F_ref01_Textc_W (F_ref01_Textcb.eq_1)))))))))))))))))))
theorem N_ref01_Text : type_of% N_ref01_TextP := N_ref01_TextP
set_option maxRecDepth 1000000 in
theorem F_ref01_Text_chk : chkF Tryz.prog 43 F_ref01_Text = true := by kernel_rfl

/-! ### apply_intel -/
def F_apply_intelr0b : List IStmt := [
 ⟨some 2, .mv (.c (.int .i64 0)), none⟩,
 ⟨some 3, .mv (.c (.bool false)), none⟩]
def F_apply_intelr0 : List IStmt := F_apply_intelr0b
theorem F_apply_intelr0_W {T : Tab} {env : Env} {H : Heap} {Q : Post} : W T (.reg F_apply_intelr0) env H Q ↔ WR T F_apply_intelr0 F_apply_intelr0b env H none [] Q := w_reg
def F_apply_intelr1b : List IStmt := [
 ⟨some 4, .mv (.t 0), none⟩]
def F_apply_intelr1 : List IStmt := F_apply_intelr1b
theorem F_apply_intelr1_W {T : Tab} {env : Env} {H : Heap} {Q : Post} : W T (.reg F_apply_intelr1) env H Q ↔ WR T F_apply_intelr1 F_apply_intelr1b env H none [] Q := w_reg
def F_apply_intelr2b : List IStmt := [
 ⟨some 6, .bin .eql (.t 4) (.c (.int .u32 1)), none⟩,
 ⟨some 5, .mv (.t 6), none⟩]
def F_apply_intelr2 : List IStmt := F_apply_intelr2b
theorem F_apply_intelr2_W {T : Tab} {env : Env} {H : Heap} {Q : Post} : W T (.reg F_apply_intelr2) env H Q ↔ WR T F_apply_intelr2 F_apply_intelr2b env H none [] Q := w_reg
def F_apply_intelr3b : List IStmt := [
 ⟨some 2, .mv (.c (.int .i64 1)), none⟩,
 ⟨some 3, .mv (.c (.bool true)), none⟩]
def F_apply_intelr3 : List IStmt := F_apply_intelr3b
theorem F_apply_intelr3_W {T : Tab} {env : Env} {H : Heap} {Q : Post} : W T (.reg F_apply_intelr3) env H Q ↔ WR T F_apply_intelr3 F_apply_intelr3b env H none [] Q := w_reg
def F_apply_intelr4b : List IStmt := [
 ⟨some 8, .bin .eql (.t 4) (.c (.int .u32 6)), none⟩,
 ⟨some 7, .mv (.t 8), none⟩]
def F_apply_intelr4 : List IStmt := F_apply_intelr4b
theorem F_apply_intelr4_W {T : Tab} {env : Env} {H : Heap} {Q : Post} : W T (.reg F_apply_intelr4) env H Q ↔ WR T F_apply_intelr4 F_apply_intelr4b env H none [] Q := w_reg
def F_apply_intelr5b : List IStmt := [
 ⟨some 9, .bin .eql (.t 4) (.c (.int .u32 7)), none⟩,
 ⟨some 7, .mv (.t 9), none⟩]
def F_apply_intelr5 : List IStmt := F_apply_intelr5b
theorem F_apply_intelr5_W {T : Tab} {env : Env} {H : Heap} {Q : Post} : W T (.reg F_apply_intelr5) env H Q ↔ WR T F_apply_intelr5 F_apply_intelr5b env H none [] Q := w_reg
def F_apply_intelr6b : List IStmt := [
 ⟨some 2, .mv (.c (.int .i64 3)), none⟩,
 ⟨some 3, .mv (.c (.bool true)), none⟩]
def F_apply_intelr6 : List IStmt := F_apply_intelr6b
theorem F_apply_intelr6_W {T : Tab} {env : Env} {H : Heap} {Q : Post} : W T (.reg F_apply_intelr6) env H Q ↔ WR T F_apply_intelr6 F_apply_intelr6b env H none [] Q := w_reg
def F_apply_intelr7b : List IStmt := [
 ⟨some 11, .bin .eql (.t 4) (.c (.int .u32 8)), none⟩,
 ⟨some 10, .mv (.t 11), none⟩]
def F_apply_intelr7 : List IStmt := F_apply_intelr7b
theorem F_apply_intelr7_W {T : Tab} {env : Env} {H : Heap} {Q : Post} : W T (.reg F_apply_intelr7) env H Q ↔ WR T F_apply_intelr7 F_apply_intelr7b env H none [] Q := w_reg
def F_apply_intelr8b : List IStmt := [
 ⟨some 2, .mv (.c (.int .i64 2)), none⟩,
 ⟨some 3, .mv (.c (.bool true)), none⟩]
def F_apply_intelr8 : List IStmt := F_apply_intelr8b
theorem F_apply_intelr8_W {T : Tab} {env : Env} {H : Heap} {Q : Post} : W T (.reg F_apply_intelr8) env H Q ↔ WR T F_apply_intelr8 F_apply_intelr8b env H none [] Q := w_reg
def F_apply_intelr9b : List IStmt := [
 ⟨some 2, .mv (.c (.int .i64 0)), none⟩,
 ⟨some 3, .mv (.c (.bool false)), none⟩]
def F_apply_intelr9 : List IStmt := F_apply_intelr9b
theorem F_apply_intelr9_W {T : Tab} {env : Env} {H : Heap} {Q : Post} : W T (.reg F_apply_intelr9) env H Q ↔ WR T F_apply_intelr9 F_apply_intelr9b env H none [] Q := w_reg
def F_apply_intelcb : ICode := (.seq (.reg F_apply_intelr0) (.seq (.seq (.reg F_apply_intelr1) (.block 0 (.seq (.reg F_apply_intelr2) (.cond (.t 5) (.seq (.reg F_apply_intelr3) .ret) (.seq (.seq (.reg F_apply_intelr4) (.cond (.t 7) .skip (.reg F_apply_intelr5))) (.cond (.t 7) (.seq (.reg F_apply_intelr6) .ret) (.seq (.reg F_apply_intelr7) (.cond (.t 10) (.seq (.reg F_apply_intelr8) .ret) .skip)))))))) (.seq (.reg F_apply_intelr9) .ret)))
def F_apply_intelc : ICode := F_apply_intelcb
theorem F_apply_intelc_W {T : Tab} {env : Env} {H : Heap} {Q : Post} : W T F_apply_intelc env H Q ↔ W T F_apply_intelcb env H Q := Iff.rfl
def F_apply_intel : IFn := ⟨12, [.tmp 2, .tmp 3], F_apply_intelc⟩
set_option linter.defProp false in
set_option maxRecDepth 100000 in
def N_apply_intelP := And.intro F_apply_intelr0b.eq_1 (And.intro @F_apply_intelr0_W (And.intro F_apply_intelr1b.eq_1 (And.intro @F_apply_intelr1_W (And.intro F_apply_intelr2b.eq_1 (And.intro @F_apply_intelr2_W (And.intro F_apply_intelr3b.eq_1 (And.intro @F_apply_intelr3_W (And.intro F_apply_intelr4b.eq_1 (And.intro @F_apply_intelr4_W (And.intro F_apply_intelr5b.eq_1 (And.intro @F_apply_intelr5_W (And.intro F_apply_intelr6b.eq_1 (And.intro @F_apply_intelr6_W (And.intro F_apply_intelr7b.eq_1 (And.intro @F_apply_intelr7_W (And.intro F_apply_intelr8b.eq_1 (And.intro @F_apply_intelr8_W (And.intro F_apply_intelr9b.eq_1 (And.intro @F_apply_intelr9_W (And.intro @F_apply_intelc_W (F_apply_intelcb.eq_1)))))))))))))))))))))
theorem N_apply_intel : type_of% N_apply_intelP := N_apply_intelP
set_option maxRecDepth 1000000 in
theorem F_apply_intel_chk : chkF Tryz.prog 98 F_apply_intel = true := by kernel_rfl

/-! ### apply_arm -/
def F_apply_armr0b : List IStmt := [
 ⟨some 2, .mv (.c (.int .i64 0)), none⟩,
 ⟨some 3, .mv (.c (.bool false)), none⟩]
def F_apply_armr0 : List IStmt := F_apply_armr0b
theorem F_apply_armr0_W {T : Tab} {env : Env} {H : Heap} {Q : Post} : W T (.reg F_apply_armr0) env H Q ↔ WR T F_apply_armr0 F_apply_armr0b env H none [] Q := w_reg
def F_apply_armr1b : List IStmt := [
 ⟨some 4, .mv (.t 0), none⟩]
def F_apply_armr1 : List IStmt := F_apply_armr1b
theorem F_apply_armr1_W {T : Tab} {env : Env} {H : Heap} {Q : Post} : W T (.reg F_apply_armr1) env H Q ↔ WR T F_apply_armr1 F_apply_armr1b env H none [] Q := w_reg
def F_apply_armr2b : List IStmt := [
 ⟨some 6, .bin .eql (.t 4) (.c (.int .u32 257)), none⟩,
 ⟨some 5, .mv (.t 6), none⟩]
def F_apply_armr2 : List IStmt := F_apply_armr2b
theorem F_apply_armr2_W {T : Tab} {env : Env} {H : Heap} {Q : Post} : W T (.reg F_apply_armr2) env H Q ↔ WR T F_apply_armr2 F_apply_armr2b env H none [] Q := w_reg
def F_apply_armr3b : List IStmt := [
 ⟨some 7, .bin .eql (.t 4) (.c (.int .u32 1025)), none⟩,
 ⟨some 5, .mv (.t 7), none⟩]
def F_apply_armr3 : List IStmt := F_apply_armr3b
theorem F_apply_armr3_W {T : Tab} {env : Env} {H : Heap} {Q : Post} : W T (.reg F_apply_armr3) env H Q ↔ WR T F_apply_armr3 F_apply_armr3b env H none [] Q := w_reg
def F_apply_armr4b : List IStmt := [
 ⟨some 8, .bin .eql (.t 4) (.c (.int .u32 1026)), none⟩,
 ⟨some 5, .mv (.t 8), none⟩]
def F_apply_armr4 : List IStmt := F_apply_armr4b
theorem F_apply_armr4_W {T : Tab} {env : Env} {H : Heap} {Q : Post} : W T (.reg F_apply_armr4) env H Q ↔ WR T F_apply_armr4 F_apply_armr4b env H none [] Q := w_reg
def F_apply_armr5b : List IStmt := [
 ⟨some 2, .mv (.c (.int .i64 1)), none⟩,
 ⟨some 3, .mv (.c (.bool true)), none⟩]
def F_apply_armr5 : List IStmt := F_apply_armr5b
theorem F_apply_armr5_W {T : Tab} {env : Env} {H : Heap} {Q : Post} : W T (.reg F_apply_armr5) env H Q ↔ WR T F_apply_armr5 F_apply_armr5b env H none [] Q := w_reg
def F_apply_armr6b : List IStmt := [
 ⟨some 10, .bin .eql (.t 4) (.c (.int .u32 1027)), none⟩,
 ⟨some 9, .mv (.t 10), none⟩]
def F_apply_armr6 : List IStmt := F_apply_armr6b
theorem F_apply_armr6_W {T : Tab} {env : Env} {H : Heap} {Q : Post} : W T (.reg F_apply_armr6) env H Q ↔ WR T F_apply_armr6 F_apply_armr6b env H none [] Q := w_reg
def F_apply_armr7b : List IStmt := [
 ⟨some 2, .mv (.c (.int .i64 2)), none⟩,
 ⟨some 3, .mv (.c (.bool true)), none⟩]
def F_apply_armr7 : List IStmt := F_apply_armr7b
theorem F_apply_armr7_W {T : Tab} {env : Env} {H : Heap} {Q : Post} : W T (.reg F_apply_armr7) env H Q ↔ WR T F_apply_armr7 F_apply_armr7b env H none [] Q := w_reg
def F_apply_armr8b : List IStmt := [
 ⟨some 2, .mv (.c (.int .i64 0)), none⟩,
 ⟨some 3, .mv (.c (.bool false)), none⟩]
def F_apply_armr8 : List IStmt := F_apply_armr8b
theorem F_apply_armr8_W {T : Tab} {env : Env} {H : Heap} {Q : Post} : W T (.reg F_apply_armr8) env H Q ↔ WR T F_apply_armr8 F_apply_armr8b env H none [] Q := w_reg
def F_apply_armcb : ICode := (.seq (.reg F_apply_armr0) (.seq (.seq (.reg F_apply_armr1) (.block 0 (.seq (.seq (.reg F_apply_armr2) (.cond (.t 5) .skip (.seq (.reg F_apply_armr3) (.cond (.t 5) .skip (.reg F_apply_armr4))))) (.cond (.t 5) (.seq (.reg F_apply_armr5) .ret) (.seq (.reg F_apply_armr6) (.cond (.t 9) (.seq (.reg F_apply_armr7) .ret) .skip)))))) (.seq (.reg F_apply_armr8) .ret)))
def F_apply_armc : ICode := F_apply_armcb
theorem F_apply_armc_W {T : Tab} {env : Env} {H : Heap} {Q : Post} : W T F_apply_armc env H Q ↔ W T F_apply_armcb env H Q := Iff.rfl
def F_apply_arm : IFn := ⟨11, [.tmp 2, .tmp 3], F_apply_armc⟩
set_option linter.defProp false in
set_option maxRecDepth 100000 in
def N_apply_armP := And.intro F_apply_armr0b.eq_1 (And.intro @F_apply_armr0_W (And.intro F_apply_armr1b.eq_1 (And.intro @F_apply_armr1_W (And.intro F_apply_armr2b.eq_1 (And.intro @F_apply_armr2_W (And.intro F_apply_armr3b.eq_1 (And.intro @F_apply_armr3_W (And.intro F_apply_armr4b.eq_1 (And.intro @F_apply_armr4_W (And.intro F_apply_armr5b.eq_1 (And.intro @F_apply_armr5_W (And.intro F_apply_armr6b.eq_1 (And.intro @F_apply_armr6_W (And.intro F_apply_armr7b.eq_1 (And.intro @F_apply_armr7_W (And.intro F_apply_armr8b.eq_1 (And.intro @F_apply_armr8_W (And.intro @F_apply_armc_W (F_apply_armcb.eq_1)))))))))))))))))))
theorem N_apply_arm : type_of% N_apply_armP := N_apply_armP
set_option maxRecDepth 1000000 in
theorem F_apply_arm_chk : chkF Tryz.prog 99 F_apply_arm = true := by kernel_rfl

/-! ### apply_Of -/
def F_apply_Ofr0b : List IStmt := [
 ⟨some 4, .mv (.c (.int .i64 0)), none⟩,
 ⟨some 5, .mv (.c (.bool false)), none⟩]
def F_apply_Ofr0 : List IStmt := F_apply_Ofr0b
theorem F_apply_Ofr0_W {T : Tab} {env : Env} {H : Heap} {Q : Post} : W T (.reg F_apply_Ofr0) env H Q ↔ WR T F_apply_Ofr0 F_apply_Ofr0b env H none [] Q := w_reg
def F_apply_Ofr1b : List IStmt := [
 ⟨some 6, .mv (.t 1), none⟩,
 ⟨some 7, .bin .eql (.t 6) (.c (.int .u32 0)), none⟩]
def F_apply_Ofr1 : List IStmt := F_apply_Ofr1b
theorem F_apply_Ofr1_W {T : Tab} {env : Env} {H : Heap} {Q : Post} : W T (.reg F_apply_Ofr1) env H Q ↔ WR T F_apply_Ofr1 F_apply_Ofr1b env H none [] Q := w_reg
def F_apply_Ofr2b : List IStmt := [
 ⟨some 8, .mv (.t 0), none⟩,
 ⟨some 9, .bin .eql (.t 8) (.c (.int .u16 62)), none⟩,
 ⟨some 10, .mv (.t 9), none⟩,
 ⟨some 11, .mv (.t 0), some (2, false)⟩,
 ⟨some 12, .bin .eql (.t 11) (.c (.int .u16 183)), some (2, false)⟩,
 ⟨some 13, .pick (.t 10) (.c (.bool true)) (.t 12), none⟩,
 ⟨some 4, .mv (.c (.int .i64 0)), none⟩,
 ⟨some 5, .mv (.t 13), none⟩]
def F_apply_Ofr2 : List IStmt := F_apply_Ofr2b
theorem F_apply_Ofr2_W {T : Tab} {env : Env} {H : Heap} {Q : Post} : W T (.reg F_apply_Ofr2) env H Q ↔ WR T F_apply_Ofr2 F_apply_Ofr2b env H none [] Q := w_reg
theorem F_apply_Ofr2_g2 {env : Env} : yieldI F_apply_Ofr2 env 2 = bOf (env 10) := rfl
def F_apply_Ofr3b : List IStmt := [
 ⟨some 14, .mv (.t 0), none⟩]
def F_apply_Ofr3 : List IStmt := F_apply_Ofr3b
theorem F_apply_Ofr3_W {T : Tab} {env : Env} {H : Heap} {Q : Post} : W T (.reg F_apply_Ofr3) env H Q ↔ WR T F_apply_Ofr3 F_apply_Ofr3b env H none [] Q := w_reg
def F_apply_Ofr4b : List IStmt := [
 ⟨some 16, .bin .eql (.t 14) (.c (.int .u16 62)), none⟩,
 ⟨some 15, .mv (.t 16), none⟩]
def F_apply_Ofr4 : List IStmt := F_apply_Ofr4b
theorem F_apply_Ofr4_W {T : Tab} {env : Env} {H : Heap} {Q : Post} : W T (.reg F_apply_Ofr4) env H Q ↔ WR T F_apply_Ofr4 F_apply_Ofr4b env H none [] Q := w_reg
def F_apply_Ofr5b : List IStmt := [
 ⟨some 17, .mv (.t 1), none⟩,
 ⟨some 18, .callc 98 [(.t 17)], none⟩,
 ⟨some 19, .ext (.t 18) 0, none⟩,
 ⟨some 20, .ext (.t 18) 1, none⟩,
 ⟨some 4, .mv (.t 19), none⟩,
 ⟨some 5, .mv (.t 20), none⟩]
def F_apply_Ofr5 : List IStmt := F_apply_Ofr5b
theorem F_apply_Ofr5_W {T : Tab} {env : Env} {H : Heap} {Q : Post} : W T (.reg F_apply_Ofr5) env H Q ↔ WR T F_apply_Ofr5 F_apply_Ofr5b env H none [] Q := w_reg
def F_apply_Ofr6b : List IStmt := [
 ⟨some 22, .bin .eql (.t 14) (.c (.int .u16 183)), none⟩,
 ⟨some 21, .mv (.t 22), none⟩]
def F_apply_Ofr6 : List IStmt := F_apply_Ofr6b
theorem F_apply_Ofr6_W {T : Tab} {env : Env} {H : Heap} {Q : Post} : W T (.reg F_apply_Ofr6) env H Q ↔ WR T F_apply_Ofr6 F_apply_Ofr6b env H none [] Q := w_reg
def F_apply_Ofr7b : List IStmt := [
 ⟨some 23, .mv (.t 1), none⟩,
 ⟨some 24, .callc 99 [(.t 23)], none⟩,
 ⟨some 25, .ext (.t 24) 0, none⟩,
 ⟨some 26, .ext (.t 24) 1, none⟩,
 ⟨some 4, .mv (.t 25), none⟩,
 ⟨some 5, .mv (.t 26), none⟩]
def F_apply_Ofr7 : List IStmt := F_apply_Ofr7b
theorem F_apply_Ofr7_W {T : Tab} {env : Env} {H : Heap} {Q : Post} : W T (.reg F_apply_Ofr7) env H Q ↔ WR T F_apply_Ofr7 F_apply_Ofr7b env H none [] Q := w_reg
def F_apply_Ofr8b : List IStmt := [
 ⟨some 4, .mv (.c (.int .i64 0)), none⟩,
 ⟨some 5, .mv (.c (.bool false)), none⟩]
def F_apply_Ofr8 : List IStmt := F_apply_Ofr8b
theorem F_apply_Ofr8_W {T : Tab} {env : Env} {H : Heap} {Q : Post} : W T (.reg F_apply_Ofr8) env H Q ↔ WR T F_apply_Ofr8 F_apply_Ofr8b env H none [] Q := w_reg
def F_apply_Ofcb : ICode := (.seq (.reg F_apply_Ofr0) (.seq (.seq (.reg F_apply_Ofr1) (.cond (.t 7) (.seq (.reg F_apply_Ofr2) .ret) .skip)) (.seq (.seq (.reg F_apply_Ofr3) (.block 0 (.seq (.reg F_apply_Ofr4) (.cond (.t 15) (.seq (.reg F_apply_Ofr5) .ret) (.seq (.reg F_apply_Ofr6) (.cond (.t 21) (.seq (.reg F_apply_Ofr7) .ret) .skip)))))) (.seq (.reg F_apply_Ofr8) .ret))))
def F_apply_Ofc : ICode := F_apply_Ofcb
theorem F_apply_Ofc_W {T : Tab} {env : Env} {H : Heap} {Q : Post} : W T F_apply_Ofc env H Q ↔ W T F_apply_Ofcb env H Q := Iff.rfl
def F_apply_Of : IFn := ⟨27, [.tmp 4, .tmp 5], F_apply_Ofc⟩
set_option linter.defProp false in
set_option maxRecDepth 100000 in
def N_apply_OfP := And.intro F_apply_Ofr0b.eq_1 (And.intro @F_apply_Ofr0_W (And.intro F_apply_Ofr1b.eq_1 (And.intro @F_apply_Ofr1_W (And.intro F_apply_Ofr2b.eq_1 (And.intro @F_apply_Ofr2_W (And.intro @F_apply_Ofr2_g2 (And.intro F_apply_Ofr3b.eq_1 (And.intro @F_apply_Ofr3_W (And.intro F_apply_Ofr4b.eq_1 (And.intro @F_apply_Ofr4_W (And.intro F_apply_Ofr5b.eq_1 (And.intro @F_apply_Ofr5_W (And.intro F_apply_Ofr6b.eq_1 (And.intro @F_apply_Ofr6_W (And.intro F_apply_Ofr7b.eq_1 (And.intro @F_apply_Ofr7_W (And.intro F_apply_Ofr8b.eq_1 (And.intro @F_apply_Ofr8_W (And.intro @F_apply_Ofc_W (F_apply_Ofcb.eq_1))))))))))))))))))))
theorem N_apply_Of : type_of% N_apply_OfP := N_apply_OfP
set_option maxRecDepth 1000000 in
theorem F_apply_Of_chk : chkF Tryz.prog 70 F_apply_Of = true := by kernel_rfl

/-! ### ref15_Of -/
def F_ref15_Ofr0b : List IStmt := [
 ⟨some 4, .mv (.c (.int .i64 0)), none⟩]
def F_ref15_Ofr0 : List IStmt := F_ref15_Ofr0b
theorem F_ref15_Ofr0_W {T : Tab} {env : Env} {H : Heap} {Q : Post} : W T (.reg F_ref15_Ofr0) env H Q ↔ WR T F_ref15_Ofr0 F_ref15_Ofr0b env H none [] Q := w_reg
def F_ref15_Ofr1b : List IStmt := [
 ⟨some 7, .bsli 1 3 [.int .u64 0] [(0, (.c (.int .u64 62))), (1, (.c (.int .u64 0))), (2, (.c (.int .u64 0)))], none⟩,
 ⟨some 8, .bsli 1 3 [.int .u64 0] [(0, (.c (.int .u64 183))), (1, (.c (.int .u64 0))), (2, (.c (.int .u64 0)))], none⟩,
 ⟨some 9, .bsli 1 3 [.int .u64 0] [(0, (.c (.int .u64 62))), (1, (.c (.int .u64 1))), (2, (.c (.int .u64 1)))], none⟩,
 ⟨some 10, .bsli 1 3 [.int .u64 0] [(0, (.c (.int .u64 62))), (1, (.c (.int .u64 6))), (2, (.c (.int .u64 3)))], none⟩,
 ⟨some 11, .bsli 1 3 [.int .u64 0] [(0, (.c (.int .u64 62))), (1, (.c (.int .u64 7))), (2, (.c (.int .u64 3)))], none⟩,
 ⟨some 12, .bsli 1 3 [.int .u64 0] [(0, (.c (.int .u64 62))), (1, (.c (.int .u64 8))), (2, (.c (.int .u64 2)))], none⟩,
 ⟨some 13, .bsli 1 3 [.int .u64 0] [(0, (.c (.int .u64 183))), (1, (.c (.int .u64 257))), (2, (.c (.int .u64 1)))], none⟩,
 ⟨some 14, .bsli 1 3 [.int .u64 0] [(0, (.c (.int .u64 183))), (1, (.c (.int .u64 1025))), (2, (.c (.int .u64 1)))], none⟩,
 ⟨some 15, .bsli 1 3 [.int .u64 0] [(0, (.c (.int .u64 183))), (1, (.c (.int .u64 1026))), (2, (.c (.int .u64 1)))], none⟩,
 ⟨some 16, .bsli 1 3 [.int .u64 0] [(0, (.c (.int .u64 183))), (1, (.c (.int .u64 1027))), (2, (.c (.int .u64 2)))], none⟩,
 ⟨some 17, .bsli 1 10 [.slice none 0 0] [(0, (.t 7)), (1, (.t 8)), (2, (.t 9)), (3, (.t 10)), (4, (.t 11)), (5, (.t 12)), (6, (.t 13)), (7, (.t 14)), (8, (.t 15)), (9, (.t 16))], none⟩,
 ⟨some 5, .mv (.t 17), none⟩]
def F_ref15_Ofr1 : List IStmt := F_ref15_Ofr1b
theorem F_ref15_Ofr1_W {T : Tab} {env : Env} {H : Heap} {Q : Post} : W T (.reg F_ref15_Ofr1) env H Q ↔ WR T F_ref15_Ofr1 F_ref15_Ofr1b env H none [] Q := w_reg
def F_ref15_Ofr2b : List IStmt := [
 ⟨some 6, .mv (.c (.int .i64 0)), none⟩]
def F_ref15_Ofr2 : List IStmt := F_ref15_Ofr2b
theorem F_ref15_Ofr2_W {T : Tab} {env : Env} {H : Heap} {Q : Post} : W T (.reg F_ref15_Ofr2) env H Q ↔ WR T F_ref15_Ofr2 F_ref15_Ofr2b env H none [] Q := w_reg
def F_ref15_Ofr3b : List IStmt := [
 ⟨some 18, .mv (.t 6), none⟩,
 ⟨some 19, .mv (.t 5), none⟩,
 ⟨some 20, .len 1 (.t 19), none⟩,
 ⟨some 21, .bin .lss (.t 18) (.t 20), none⟩]
def F_ref15_Ofr3 : List IStmt := F_ref15_Ofr3b
theorem F_ref15_Ofr3_W {T : Tab} {env : Env} {H : Heap} {Q : Post} : W T (.reg F_ref15_Ofr3) env H Q ↔ WR T F_ref15_Ofr3 F_ref15_Ofr3b env H none [] Q := w_reg
def F_ref15_Ofr5b : List IStmt := [
 ⟨some 24, .mv (.t 5), none⟩,
 ⟨some 25, .mv (.t 6), none⟩,
 ⟨some 26, .ixa 1 (.t 24) (.t 25), none⟩,
 ⟨some 27, .load (.t 26), none⟩,
 ⟨some 28, .ixa 1 (.t 27) (.c (.int .i64 0)), none⟩,
 ⟨some 29, .load (.t 28), none⟩,
 ⟨some 30, .mv (.t 0), none⟩,
 ⟨some 31, .bin .eql (.t 29) (.t 30), none⟩,
 ⟨some 32, .mv (.t 31), none⟩,
 ⟨some 33, .mv (.t 5), some (8, true)⟩,
 ⟨some 34, .mv (.t 6), some (8, true)⟩,
 ⟨some 35, .ixa 1 (.t 33) (.t 34), some (8, true)⟩,
 ⟨some 36, .load (.t 35), some (8, true)⟩,
 ⟨some 37, .ixa 1 (.t 36) (.c (.int .i64 1)), some (8, true)⟩,
 ⟨some 38, .load (.t 37), some (8, true)⟩,
 ⟨some 39, .mv (.t 1), some (8, true)⟩,
 ⟨some 40, .bin .eql (.t 38) (.t 39), some (8, true)⟩,
 ⟨some 41, .pick (.t 32) (.t 40) (.c (.bool false)), none⟩]
def F_ref15_Ofr5 : List IStmt := F_ref15_Ofr5b
theorem F_ref15_Ofr5_W {T : Tab} {env : Env} {H : Heap} {Q : Post} : W T (.reg F_ref15_Ofr5) env H Q ↔ WR T F_ref15_Ofr5 F_ref15_Ofr5b env H none [] Q := w_reg
theorem F_ref15_Ofr5_g8 {env : Env} : yieldI F_ref15_Ofr5 env 8 = bOf (env 32) := rfl
def F_ref15_Ofr6b : List IStmt := [
 ⟨some 42, .mv (.t 5), none⟩,
 ⟨some 43, .mv (.t 6), none⟩,
 ⟨some 44, .ixa 1 (.t 42) (.t 43), none⟩,
 ⟨some 45, .load (.t 44), none⟩,
 ⟨some 46, .ixa 1 (.t 45) (.c (.int .i64 2)), none⟩,
 ⟨some 47, .load (.t 46), none⟩,
 ⟨some 48, .conv .i64 (.t 47), none⟩,
 ⟨some 4, .mv (.t 48), none⟩]
def F_ref15_Ofr6 : List IStmt := F_ref15_Ofr6b
theorem F_ref15_Ofr6_W {T : Tab} {env : Env} {H : Heap} {Q : Post} : W T (.reg F_ref15_Ofr6) env H Q ↔ WR T F_ref15_Ofr6 F_ref15_Ofr6b env H none [] Q := w_reg
def F_ref15_Ofr4b : List IStmt := [
 ⟨some 22, .mv (.t 6), none⟩,
 ⟨some 23, .bin .add (.t 22) (.c (.int .i64 1)), none⟩,
 ⟨some 6, .mv (.t 23), none⟩]
def F_ref15_Ofr4 : List IStmt := F_ref15_Ofr4b
theorem F_ref15_Ofr4_W {T : Tab} {env : Env} {H : Heap} {Q : Post} : W T (.reg F_ref15_Ofr4) env H Q ↔ WR T F_ref15_Ofr4 F_ref15_Ofr4b env H none [] Q := w_reg
def F_ref15_Ofl0b : ICode := (.seq (.seq (.reg F_ref15_Ofr3) (.cond (.t 21) .skip (.exit 0))) (.seq (.block 1 (.seq (.reg F_ref15_Ofr5) (.cond (.t 41) (.seq (.reg F_ref15_Ofr6) .ret) .skip))) (.reg F_ref15_Ofr4)))
def F_ref15_Ofl0 : ICode := F_ref15_Ofl0b
theorem F_ref15_Ofl0_W {T : Tab} {env : Env} {H : Heap} {Q : Post} : W T F_ref15_Ofl0 env H Q ↔ W T F_ref15_Ofl0b env H Q := Iff.rfl
def F_ref15_Ofr7b : List IStmt := [
 ⟨some 4, .mv (.c (.int .i64 (-1))), none⟩]
def F_ref15_Ofr7 : List IStmt := F_ref15_Ofr7b
theorem F_ref15_Ofr7_W {T : Tab} {env : Env} {H : Heap} {Q : Post} : W T (.reg F_ref15_Ofr7) env H Q ↔ WR T F_ref15_Ofr7 F_ref15_Ofr7b env H none [] Q := w_reg
def F_ref15_Ofcb : ICode := (.seq (.reg F_ref15_Ofr0) (.seq (.reg F_ref15_Ofr1) (.seq (.seq (.reg F_ref15_Ofr2) (.block 0 (.loop F_ref15_Ofl0))) (.seq (.reg F_ref15_Ofr7) .ret))))
def F_ref15_Ofc : ICode := F_ref15_Ofcb
theorem F_ref15_Ofc_W {T : Tab} {env : Env} {H : Heap} {Q : Post} : W T F_ref15_Ofc env H Q ↔ W T F_ref15_Ofcb env H Q := Iff.rfl
def F_ref15_Of : IFn := ⟨49, [.tmp 4], F_ref15_Ofc⟩
set_option linter.defProp false in
set_option maxRecDepth 100000 in
def N_ref15_OfP := And.intro F_ref15_Ofr0b.eq_1 (And.intro @F_ref15_Ofr0_W (And.intro F_ref15_Ofr1b.eq_1 (And.intro @F_ref15_Ofr1_W (And.intro F_ref15_Ofr2b.eq_1 (And.intro @F_ref15_Ofr2_W (And.intro F_ref15_Ofr3b.eq_1 (And.intro @F_ref15_Ofr3_W (And.intro F_ref15_Ofr5b.eq_1 (And.intro @F_ref15_Ofr5_W (And.intro @F_ref15_Ofr5_g8 (And.intro F_ref15_Ofr6b.eq_1 (And.intro @F_ref15_Ofr6_W (And.intro F_ref15_Ofr4b.eq_1 (And.intro @F_ref15_Ofr4_W (And.intro @F_ref15_Ofl0_W (And.intro F_ref15_Ofl0b.eq_1 (And.intro F_ref15_Ofr7b.eq_1 (And.intro @F_ref15_Ofr7_W (And.intro @F_ref15_Ofc_W (F_ref15_Ofcb.eq_1))))))))))))))))))))
theorem N_ref15_Of : type_of% N_ref15_OfP := N_ref15_OfP
set_option maxRecDepth 1000000 in
theorem F_ref15_Of_chk : chkF Tryz.prog 54 F_ref15_Of = true := by kernel_rfl

/-! ### dump_writer_line -/
def F_dump_writer_liner0b : List IStmt := [
 ⟨some 4, .mv (.c (.bool true)), none⟩]
def F_dump_writer_liner0 : List IStmt := F_dump_writer_liner0b
theorem F_dump_writer_liner0_W {T : Tab} {env : Env} {H : Heap} {Q : Post} : W T (.reg F_dump_writer_liner0) env H Q ↔ WR T F_dump_writer_liner0 F_dump_writer_liner0b env H none [] Q := w_reg
def F_dump_writer_liner1b : List IStmt := [
 ⟨some 7, .mv (.t 1), none⟩,
 ⟨some 8, .len 1 (.t 7), none⟩,
 ⟨some 9, .mv (.c (.int .i64 0)), none⟩]
def F_dump_writer_liner1 : List IStmt := F_dump_writer_liner1b
theorem F_dump_writer_liner1_W {T : Tab} {env : Env} {H : Heap} {Q : Post} : W T (.reg F_dump_writer_liner1) env H Q ↔ WR T F_dump_writer_liner1 F_dump_writer_liner1b env H none [] Q := w_reg
def F_dump_writer_liner2b : List IStmt := [
 ⟨some 10, .bin .lss (.t 9) (.t 8), none⟩]
def F_dump_writer_liner2 : List IStmt := F_dump_writer_liner2b
theorem F_dump_writer_liner2_W {T : Tab} {env : Env} {H : Heap} {Q : Post} : W T (.reg F_dump_writer_liner2) env H Q ↔ WR T F_dump_writer_liner2 F_dump_writer_liner2b env H none [] Q := w_reg
def F_dump_writer_liner3b : List IStmt := [
 ⟨some 11, .ixa 1 (.t 7) (.t 9), none⟩,
 ⟨some 12, .load (.t 11), none⟩,
 ⟨some 6, .mv (.t 12), none⟩]
def F_dump_writer_liner3 : List IStmt := F_dump_writer_liner3b
theorem F_dump_writer_liner3_W {T : Tab} {env : Env} {H : Heap} {Q : Post} : W T (.reg F_dump_writer_liner3) env H Q ↔ WR T F_dump_writer_liner3 F_dump_writer_liner3b env H none [] Q := w_reg
def F_dump_writer_liner4b : List IStmt := [
 ⟨some 13, .mv (.t 6), none⟩,
 ⟨some 14, .bin .eql (.t 13) (.c (.string ⟨#[]⟩)), none⟩]
def F_dump_writer_liner4 : List IStmt := F_dump_writer_liner4b
theorem F_dump_writer_liner4_W {T : Tab} {env : Env} {H : Heap} {Q : Post} : W T (.reg F_dump_writer_liner4) env H Q ↔ WR T F_dump_writer_liner4 F_dump_writer_liner4b env H none [] Q := w_reg
def F_dump_writer_liner5b : List IStmt := [
 ⟨some 15, .mv (.t 4), none⟩,
 ⟨some 16, .un .not (.t 15), none⟩]
def F_dump_writer_liner5 : List IStmt := F_dump_writer_liner5b
theorem F_dump_writer_liner5_W {T : Tab} {env : Env} {H : Heap} {Q : Post} : W T (.reg F_dump_writer_liner5) env H Q ↔ WR T F_dump_writer_liner5 F_dump_writer_liner5b env H none [] Q := w_reg
def F_dump_writer_liner6b : List IStmt := [
 ⟨some 17, .mv (.t 0), none⟩,
 ⟨some 18, .nilc (.t 17), none⟩,
 ⟨some 19, .fa 0 (.t 18), none⟩,
 ⟨some 20, .call 66 [(.t 19), (.c (.int .u8 32))], none⟩]
def F_dump_writer_liner6 : List IStmt := F_dump_writer_liner6b
theorem F_dump_writer_liner6_W {T : Tab} {env : Env} {H : Heap} {Q : Post} : W T (.reg F_dump_writer_liner6) env H Q ↔ WR T F_dump_writer_liner6 F_dump_writer_liner6b env H none [] Q := w_reg
def F_dump_writer_liner7b : List IStmt := [
 ⟨some 21, .mv (.t 0), none⟩,
 ⟨some 22, .nilc (.t 21), none⟩,
 ⟨some 23, .fa 0 (.t 22), none⟩,
 ⟨some 24, .mv (.t 6), none⟩,
 ⟨some 25, .call 67 [(.t 23), (.t 24)], none⟩]
def F_dump_writer_liner7 : List IStmt := F_dump_writer_liner7b
theorem F_dump_writer_liner7_W {T : Tab} {env : Env} {H : Heap} {Q : Post} : W T (.reg F_dump_writer_liner7) env H Q ↔ WR T F_dump_writer_liner7 F_dump_writer_liner7b env H none [] Q := w_reg
def F_dump_writer_liner8b : List IStmt := [
 ⟨some 4, .mv (.c (.bool false)), none⟩]
def F_dump_writer_liner8 : List IStmt := F_dump_writer_liner8b
theorem F_dump_writer_liner8_W {T : Tab} {env : Env} {H : Heap} {Q : Post} : W T (.reg F_dump_writer_liner8) env H Q ↔ WR T F_dump_writer_liner8 F_dump_writer_liner8b env H none [] Q := w_reg
def F_dump_writer_liner9b : List IStmt := [
 ⟨some 26, .bin .add (.t 9) (.c (.int .i64 1)), none⟩,
 ⟨some 9, .mv (.t 26), none⟩]
def F_dump_writer_liner9 : List IStmt := F_dump_writer_liner9b
theorem F_dump_writer_liner9_W {T : Tab} {env : Env} {H : Heap} {Q : Post} : W T (.reg F_dump_writer_liner9) env H Q ↔ WR T F_dump_writer_liner9 F_dump_writer_liner9b env H none [] Q := w_reg
def F_dump_writer_linel0b : ICode := (.seq (.reg F_dump_writer_liner2) (.seq (.cond (.t 10) .skip (.exit 0)) (.seq (.block 1 (.seq (.reg F_dump_writer_liner3) (.seq (.seq (.reg F_dump_writer_liner4) (.cond (.t 14) (.exit 1) .skip)) (.seq (.seq (.reg F_dump_writer_liner5) (.cond (.t 16) (.reg F_dump_writer_liner6) .skip)) (.seq (.reg F_dump_writer_liner7) (.reg F_dump_writer_liner8)))))) (.reg F_dump_writer_liner9))))
def F_dump_writer_linel0 : ICode := F_dump_writer_linel0b
theorem F_dump_writer_linel0_W {T : Tab} {env : Env} {H : Heap} {Q : Post} : W T F_dump_writer_linel0 env H Q ↔ W T F_dump_writer_linel0b env H Q := Iff.rfl
def F_dump_writer_liner10b : List IStmt := [
 ⟨some 27, .mv (.t 0), none⟩,
 ⟨some 28, .nilc (.t 27), none⟩,
 ⟨some 29, .fa 0 (.t 28), none⟩,
 ⟨some 30, .call 66 [(.t 29), (.c (.int .u8 10))], none⟩]
def F_dump_writer_liner10 : List IStmt := F_dump_writer_liner10b
theorem F_dump_writer_liner10_W {T : Tab} {env : Env} {H : Heap} {Q : Post} : W T (.reg F_dump_writer_liner10) env H Q ↔ WR T F_dump_writer_liner10 F_dump_writer_liner10b env H none [] Q := w_reg
def F_dump_writer_linecb : ICode := (.seq (.reg F_dump_writer_liner0) (.seq (.seq (.reg F_dump_writer_liner1) (.block 0 (.loop F_dump_writer_linel0))) (.reg F_dump_writer_liner10)))
def F_dump_writer_linec : ICode := F_dump_writer_linecb
theorem F_dump_writer_linec_W {T : Tab} {env : Env} {H : Heap} {Q : Post} : W T F_dump_writer_linec env H Q ↔ W T F_dump_writer_linecb env H Q := Iff.rfl
def F_dump_writer_line : IFn := ⟨31, [], F_dump_writer_linec⟩
set_option linter.defProp false in
set_option maxRecDepth 100000 in
def N_dump_writer_lineP := And.intro F_dump_writer_liner0b.eq_1 (And.intro @F_dump_writer_liner0_W (And.intro F_dump_writer_liner1b.eq_1 (And.intro @F_dump_writer_liner1_W (And.intro F_dump_writer_liner2b.eq_1 (And.intro @F_dump_writer_liner2_W (And.intro F_dump_writer_liner3b.eq_1 (And.intro @F_dump_writer_liner3_W (And.intro F_dump_writer_liner4b.eq_1 (And.intro @F_dump_writer_liner4_W (And.intro F_dump_writer_liner5b.eq_1 (And.intro @F_dump_writer_liner5_W (And.intro F_dump_writer_liner6b.eq_1 (And.intro @F_dump_writer_liner6_W (And.intro F_dump_writer_liner7b.eq_1 (And.intro @F_dump_writer_liner7_W (And.intro F_dump_writer_liner8b.eq_1 (And.intro @F_dump_writer_liner8_W (And.intro F_dump_writer_liner9b.eq_1 (And.intro @F_dump_writer_liner9_W (And.intro @F_dump_writer_linel0_W (And.intro F_dump_writer_linel0b.eq_1 (And.intro F_dump_writer_liner10b.eq_1 (And.intro @F_dump_writer_liner10_W (And.intro @F_dump_writer_linec_W (F_dump_writer_linecb.eq_1)))))))))))))))))))))))))
theorem N_dump_writer_line : type_of% N_dump_writer_lineP := N_dump_writer_lineP
set_option maxRecDepth 1000000 in
theorem F_dump_writer_line_chk : chkF Tryz.prog 39 F_dump_writer_line = true := by kernel_rfl

/-! ### dump_kind -/
def F_dump_kindr0b : List IStmt := [
 ⟨some 4, .mv (.c (.string ⟨#[]⟩)), none⟩]
def F_dump_kindr0 : List IStmt := F_dump_kindr0b
theorem F_dump_kindr0_W {T : Tab} {env : Env} {H : Heap} {Q : Post} : W T (.reg F_dump_kindr0) env H Q ↔ WR T F_dump_kindr0 F_dump_kindr0b env H none [] Q := w_reg
def F_dump_kindr1b : List IStmt := [
 ⟨some 9, .mv (.t 0), none⟩,
 ⟨some 10, .mv (.t 1), none⟩,
 ⟨some 11, .callc 70 [(.t 9), (.t 10)], none⟩,
 ⟨some 8, .mv (.t 11), none⟩,
 ⟨some 12, .ext (.t 8) 0, none⟩,
 ⟨some 13, .ext (.t 8) 1, none⟩,
 ⟨some 5, .mv (.t 12), none⟩,
 ⟨some 6, .mv (.t 13), none⟩]
def F_dump_kindr1 : List IStmt := F_dump_kindr1b
theorem F_dump_kindr1_W {T : Tab} {env : Env} {H : Heap} {Q : Post} : W T (.reg F_dump_kindr1) env H Q ↔ WR T F_dump_kindr1 F_dump_kindr1b env H none [] Q := w_reg
def F_dump_kindr2b : List IStmt := [
 ⟨some 14, .mv (.t 6), none⟩,
 ⟨some 15, .un .not (.t 14), none⟩]
def F_dump_kindr2 : List IStmt := F_dump_kindr2b
theorem F_dump_kindr2_W {T : Tab} {env : Env} {H : Heap} {Q : Post} : W T (.reg F_dump_kindr2) env H Q ↔ WR T F_dump_kindr2 F_dump_kindr2b env H none [] Q := w_reg
def F_dump_kindr3b : List IStmt := [
 ⟨some 4, .mv (.c (.string ⟨#[116, 121, 112, 101]⟩)), none⟩]
def F_dump_kindr3 : List IStmt := F_dump_kindr3b
theorem F_dump_kindr3_W {T : Tab} {env : Env} {H : Heap} {Q : Post} : W T (.reg F_dump_kindr3) env H Q ↔ WR T F_dump_kindr3 F_dump_kindr3b env H none [] Q := w_reg
def F_dump_kindr4b : List IStmt := [
 ⟨some 16, .bld [.string ⟨#[]⟩, .string ⟨#[]⟩, .string ⟨#[]⟩, .string ⟨#[]⟩] [(0, 1, (.c (.string ⟨#[110, 111, 110, 101]⟩))), (1, 1, (.c (.string ⟨#[97, 98, 115, 111, 108, 117, 116, 101]⟩))), (2, 1, (.c (.string ⟨#[114, 101, 108, 97, 116, 105, 118, 101]⟩))), (3, 1, (.c (.string ⟨#[115, 108, 111, 116]⟩)))], none⟩,
 ⟨some 7, .alloc 1 [.string ⟨#[]⟩, .string ⟨#[]⟩, .string ⟨#[]⟩, .string ⟨#[]⟩], none⟩,
 ⟨none, .store 4 (.t 7) (.t 16), none⟩]
def F_dump_kindr4 : List IStmt := F_dump_kindr4b
theorem F_dump_kindr4_W {T : Tab} {env : Env} {H : Heap} {Q : Post} : W T (.reg F_dump_kindr4) env H Q ↔ WR T F_dump_kindr4 F_dump_kindr4b env H none [] Q := w_reg
def F_dump_kindr5b : List IStmt := [
 ⟨some 17, .mv (.t 5), none⟩,
 ⟨some 18, .ixr 4 1 (.t 7) (.t 17), none⟩,
 ⟨some 19, .load (.t 18), none⟩,
 ⟨some 4, .mv (.t 19), none⟩]
def F_dump_kindr5 : List IStmt := F_dump_kindr5b
theorem F_dump_kindr5_W {T : Tab} {env : Env} {H : Heap} {Q : Post} : W T (.reg F_dump_kindr5) env H Q ↔ WR T F_dump_kindr5 F_dump_kindr5b env H none [] Q := w_reg
def F_dump_kindcb : ICode := (.seq (.reg F_dump_kindr0) (.seq (.reg F_dump_kindr1) (.seq (.seq (.reg F_dump_kindr2) (.cond (.t 15) (.seq (.reg F_dump_kindr3) .ret) .skip)) (.seq (.reg F_dump_kindr4) (.seq (.reg F_dump_kindr5) .ret)))))
def F_dump_kindc : ICode := F_dump_kindcb
theorem F_dump_kindc_W {T : Tab} {env : Env} {H : Heap} {Q : Post} : W T F_dump_kindc env H Q ↔ W T F_dump_kindcb env H Q := Iff.rfl
def F_dump_kind : IFn := ⟨20, [.tmp 4], F_dump_kindc⟩
set_option linter.defProp false in
set_option maxRecDepth 100000 in
def N_dump_kindP := And.intro F_dump_kindr0b.eq_1 (And.intro @F_dump_kindr0_W (And.intro F_dump_kindr1b.eq_1 (And.intro @F_dump_kindr1_W (And.intro F_dump_kindr2b.eq_1 (And.intro @F_dump_kindr2_W (And.intro F_dump_kindr3b.eq_1 (And.intro @F_dump_kindr3_W (And.intro F_dump_kindr4b.eq_1 (And.intro @F_dump_kindr4_W (And.intro F_dump_kindr5b.eq_1 (And.intro @F_dump_kindr5_W (And.intro @F_dump_kindc_W (F_dump_kindcb.eq_1)))))))))))))
theorem N_dump_kind : type_of% N_dump_kindP := N_dump_kindP
set_option maxRecDepth 1000000 in
theorem F_dump_kind_chk : chkF Tryz.prog 52 F_dump_kind = true := by kernel_rfl

/-! ### dump_add -/
def F_dump_addr0b : List IStmt := [
 ⟨some 1, .box 5 (.t 0), none⟩,
 ⟨some 2, .mv (.c (.string ⟨#[]⟩)), none⟩]
def F_dump_addr0 : List IStmt := F_dump_addr0b
theorem F_dump_addr0_W {T : Tab} {env : Env} {H : Heap} {Q : Post} : W T (.reg F_dump_addr0) env H Q ↔ WR T F_dump_addr0 F_dump_addr0b env H none [] Q := w_reg
def F_dump_addr1b : List IStmt := [
 ⟨some 4, .fa 4 (.t 1), none⟩,
 ⟨some 5, .load (.t 4), none⟩,
 ⟨some 6, .un .not (.t 5), none⟩,
 ⟨some 3, .mv (.t 6), none⟩]
def F_dump_addr1 : List IStmt := F_dump_addr1b
theorem F_dump_addr1_W {T : Tab} {env : Env} {H : Heap} {Q : Post} : W T (.reg F_dump_addr1) env H Q ↔ WR T F_dump_addr1 F_dump_addr1b env H none [] Q := w_reg
def F_dump_addr2b : List IStmt := [
 ⟨some 2, .mv (.c (.string ⟨#[105, 109, 112, 108, 105, 99, 105, 116]⟩)), none⟩]
def F_dump_addr2 : List IStmt := F_dump_addr2b
theorem F_dump_addr2_W {T : Tab} {env : Env} {H : Heap} {Q : Post} : W T (.reg F_dump_addr2) env H Q ↔ WR T F_dump_addr2 F_dump_addr2b env H none [] Q := w_reg
def F_dump_addr3b : List IStmt := [
 ⟨some 8, .fa 3 (.t 1), none⟩,
 ⟨some 9, .load (.t 8), none⟩,
 ⟨some 10, .bin .lss (.t 9) (.c (.int .i64 0)), none⟩,
 ⟨some 7, .mv (.t 10), none⟩]
def F_dump_addr3 : List IStmt := F_dump_addr3b
theorem F_dump_addr3_W {T : Tab} {env : Env} {H : Heap} {Q : Post} : W T (.reg F_dump_addr3) env H Q ↔ WR T F_dump_addr3 F_dump_addr3b env H none [] Q := w_reg
def F_dump_addr4b : List IStmt := [
 ⟨some 11, .fa 3 (.t 1), none⟩,
 ⟨some 12, .load (.t 11), none⟩,
 ⟨some 13, .conv .u64 (.t 12), none⟩,
 ⟨some 14, .un .neg (.t 13), none⟩,
 ⟨some 15, .callc 46 [(.t 14)], none⟩,
 ⟨some 16, .bin .add (.c (.string ⟨#[45]⟩)) (.t 15), none⟩,
 ⟨some 2, .mv (.t 16), none⟩]
def F_dump_addr4 : List IStmt := F_dump_addr4b
theorem F_dump_addr4_W {T : Tab} {env : Env} {H : Heap} {Q : Post} : W T (.reg F_dump_addr4) env H Q ↔ WR T F_dump_addr4 F_dump_addr4b env H none [] Q := w_reg
def F_dump_addr5b : List IStmt := [
 ⟨some 17, .fa 3 (.t 1), none⟩,
 ⟨some 18, .load (.t 17), none⟩,
 ⟨some 19, .conv .u64 (.t 18), none⟩,
 ⟨some 20, .callc 46 [(.t 19)], none⟩,
 ⟨some 2, .mv (.t 20), none⟩]
def F_dump_addr5 : List IStmt := F_dump_addr5b
theorem F_dump_addr5_W {T : Tab} {env : Env} {H : Heap} {Q : Post} : W T (.reg F_dump_addr5) env H Q ↔ WR T F_dump_addr5 F_dump_addr5b env H none [] Q := w_reg
def F_dump_addcb : ICode := (.seq (.reg F_dump_addr0) (.seq (.block 0 (.seq (.reg F_dump_addr1) (.cond (.t 3) (.seq (.reg F_dump_addr2) .ret) (.seq (.reg F_dump_addr3) (.cond (.t 7) (.seq (.reg F_dump_addr4) .ret) .skip))))) (.seq (.reg F_dump_addr5) .ret)))
def F_dump_addc : ICode := F_dump_addcb
theorem F_dump_addc_W {T : Tab} {env : Env} {H : Heap} {Q : Post} : W T F_dump_addc env H Q ↔ W T F_dump_addcb env H Q := Iff.rfl
def F_dump_add : IFn := ⟨21, [.tmp 2], F_dump_addc⟩
set_option linter.defProp false in
set_option maxRecDepth 100000 in
def N_dump_addP := And.intro F_dump_addr0b.eq_1 (And.intro @F_dump_addr0_W (And.intro F_dump_addr1b.eq_1 (And.intro @F_dump_addr1_W (And.intro F_dump_addr2b.eq_1 (And.intro @F_dump_addr2_W (And.intro F_dump_addr3b.eq_1 (And.intro @F_dump_addr3_W (And.intro F_dump_addr4b.eq_1 (And.intro @F_dump_addr4_W (And.intro F_dump_addr5b.eq_1 (And.intro @F_dump_addr5_W (And.intro @F_dump_addc_W (F_dump_addcb.eq_1)))))))))))))
theorem N_dump_add : type_of% N_dump_addP := N_dump_addP
set_option maxRecDepth 1000000 in
theorem F_dump_add_chk : chkF Tryz.prog 53 F_dump_add = true := by kernel_rfl

/-! ### dump_Rels -/
def F_dump_Relsr0b : List IStmt := [
 ⟨some 4, .mv (.c (.string ⟨#[]⟩)), none⟩]
def F_dump_Relsr0 : List IStmt := F_dump_Relsr0b
theorem F_dump_Relsr0_W {T : Tab} {env : Env} {H : Heap} {Q : Post} : W T (.reg F_dump_Relsr0) env H Q ↔ WR T F_dump_Relsr0 F_dump_Relsr0b env H none [] Q := w_reg
def F_dump_Relsr1b : List IStmt := [
 ⟨some 8, .bld [.pointer none, .slice none 0 0] [], none⟩,
 ⟨some 9, .box 1000000084 (.t 8), none⟩,
 ⟨some 5, .mv (.t 9), none⟩]
def F_dump_Relsr1 : List IStmt := F_dump_Relsr1b
theorem F_dump_Relsr1_W {T : Tab} {env : Env} {H : Heap} {Q : Post} : W T (.reg F_dump_Relsr1) env H Q ↔ WR T F_dump_Relsr1 F_dump_Relsr1b env H none [] Q := w_reg
def F_dump_Relsr2b : List IStmt := [
 ⟨some 10, .mv (.t 1), none⟩,
 ⟨some 11, .len 1 (.t 10), none⟩,
 ⟨some 12, .mv (.c (.int .i64 0)), none⟩]
def F_dump_Relsr2 : List IStmt := F_dump_Relsr2b
theorem F_dump_Relsr2_W {T : Tab} {env : Env} {H : Heap} {Q : Post} : W T (.reg F_dump_Relsr2) env H Q ↔ WR T F_dump_Relsr2 F_dump_Relsr2b env H none [] Q := w_reg
def F_dump_Relsr3b : List IStmt := [
 ⟨some 13, .bin .lss (.t 12) (.t 11), none⟩]
def F_dump_Relsr3 : List IStmt := F_dump_Relsr3b
theorem F_dump_Relsr3_W {T : Tab} {env : Env} {H : Heap} {Q : Post} : W T (.reg F_dump_Relsr3) env H Q ↔ WR T F_dump_Relsr3 F_dump_Relsr3b env H none [] Q := w_reg
def F_dump_Relsr4b : List IStmt := [
 ⟨some 14, .ixa 5 (.t 10) (.t 12), none⟩,
 ⟨some 15, .loadN 5 (.t 14), none⟩,
 ⟨some 7, .alloc 5 [.int .u64 0, .int .u32 0, .int .u32 0, .int .i64 0, .bool false], none⟩,
 ⟨none, .store 5 (.t 7) (.t 15), none⟩]
def F_dump_Relsr4 : List IStmt := F_dump_Relsr4b
theorem F_dump_Relsr4_W {T : Tab} {env : Env} {H : Heap} {Q : Post} : W T (.reg F_dump_Relsr4) env H Q ↔ WR T F_dump_Relsr4 F_dump_Relsr4b env H none [] Q := w_reg
def F_dump_Relsr5b : List IStmt := [
 ⟨some 16, .mv (.t 5), none⟩,
 ⟨some 17, .fa 0 (.t 7), none⟩,
 ⟨some 18, .load (.t 17), none⟩,
 ⟨some 19, .callc 46 [(.t 18)], none⟩,
 ⟨some 20, .mv (.t 0), none⟩,
 ⟨some 21, .fa 1 (.t 7), none⟩,
 ⟨some 22, .load (.t 21), none⟩,
 ⟨some 23, .callc 52 [(.t 20), (.t 22)], none⟩,
 ⟨some 24, .fa 1 (.t 7), none⟩,
 ⟨some 25, .load (.t 24), none⟩,
 ⟨some 26, .conv .u64 (.t 25), none⟩,
 ⟨some 27, .callc 46 [(.t 26)], none⟩,
 ⟨some 28, .fa 2 (.t 7), none⟩,
 ⟨some 29, .load (.t 28), none⟩,
 ⟨some 30, .conv .u64 (.t 29), none⟩,
 ⟨some 31, .callc 46 [(.t 30)], none⟩,
 ⟨some 32, .loadN 5 (.t 7), none⟩,
 ⟨some 33, .callc 53 [(.t 32)], none⟩,
 ⟨some 34, .bsli 1 6 [.string ⟨#[]⟩] [(0, (.c (.string ⟨#[114, 101, 108]⟩))), (1, (.t 19)), (2, (.t 23)), (3, (.t 27)), (4, (.t 31)), (5, (.t 33))], none⟩,
 ⟨some 35, .call 39 [(.t 16), (.t 34)], none⟩]
def F_dump_Relsr5 : List IStmt := F_dump_Relsr5b
theorem F_dump_Relsr5_W {T : Tab} {env : Env} {H : Heap} {Q : Post} : W T (.dreg F_dump_Relsr5 []) env H Q ↔ WR T F_dump_Relsr5 F_dump_Relsr5b env H none [] Q := w_dreg0
def F_dump_Relsr6b : List IStmt := [
 ⟨some 36, .bin .add (.t 12) (.c (.int .i64 1)), none⟩,
 ⟨some 12, .mv (.t 36), none⟩]
def F_dump_Relsr6 : List IStmt := F_dump_Relsr6b
theorem F_dump_Relsr6_W {T : Tab} {env : Env} {H : Heap} {Q : Post} : W T (.reg F_dump_Relsr6) env H Q ↔ WR T F_dump_Relsr6 F_dump_Relsr6b env H none [] Q := w_reg
def F_dump_Relsl0b : ICode := (.seq (.reg F_dump_Relsr3) (.seq (.cond (.t 13) .skip (.exit 0)) (.seq (.block 1 (.seq (.reg F_dump_Relsr4) (.dreg F_dump_Relsr5 []))) (.reg F_dump_Relsr6))))
def F_dump_Relsl0 : ICode := F_dump_Relsl0b
theorem F_dump_Relsl0_W {T : Tab} {env : Env} {H : Heap} {Q : Post} : W T F_dump_Relsl0 env H Q ↔ W T F_dump_Relsl0b env H Q := Iff.rfl
def F_dump_Relsr7b : List IStmt := [
 ⟨some 37, .mv (.t 5), none⟩,
 ⟨some 38, .nilc (.t 37), none⟩,
 ⟨some 39, .fa 0 (.t 38), none⟩,
 ⟨some 40, .call 42 [(.t 39)], none⟩,
 ⟨some 4, .mv (.t 40), none⟩]
def F_dump_Relsr7 : List IStmt := F_dump_Relsr7b
theorem F_dump_Relsr7_W {T : Tab} {env : Env} {H : Heap} {Q : Post} : W T (.reg F_dump_Relsr7) env H Q ↔ WR T F_dump_Relsr7 F_dump_Relsr7b env H none [] Q := w_reg
def F_dump_Relscb : ICode := (.seq (.reg F_dump_Relsr0) (.seq (.reg F_dump_Relsr1) (.seq (.seq (.reg F_dump_Relsr2) (.block 0 (.loop F_dump_Relsl0))) (.seq (.reg F_dump_Relsr7) .ret))))
def F_dump_Relsc : ICode := F_dump_Relscb
theorem F_dump_Relsc_W {T : Tab} {env : Env} {H : Heap} {Q : Post} : W T F_dump_Relsc env H Q ↔ W T F_dump_Relscb env H Q := Iff.rfl
def F_dump_Rels : IFn := ⟨41, [.tmp 4], F_dump_Relsc⟩
set_option linter.defProp false in
set_option maxRecDepth 100000 in
def N_dump_RelsP := And.intro F_dump_Relsr0b.eq_1 (And.intro @F_dump_Relsr0_W (And.intro F_dump_Relsr1b.eq_1 (And.intro @F_dump_Relsr1_W (And.intro F_dump_Relsr2b.eq_1 (And.intro @F_dump_Relsr2_W (And.intro F_dump_Relsr3b.eq_1 (And.intro @F_dump_Relsr3_W (And.intro F_dump_Relsr4b.eq_1 (And.intro @F_dump_Relsr4_W (And.intro F_dump_Relsr5b.eq_1 (And.intro @F_dump_Relsr5_W (And.intro F_dump_Relsr6b.eq_1 (And.intro @F_dump_Relsr6_W (And.intro @F_dump_Relsl0_W (And.intro F_dump_Relsl0b.eq_1 (And.intro F_dump_Relsr7b.eq_1 (And.intro @F_dump_Relsr7_W (And.intro @F_dump_Relsc_W (F_dump_Relscb.eq_1)))))))))))))))))))
theorem N_dump_Rels : type_of% N_dump_RelsP := N_dump_RelsP
set_option maxRecDepth 1000000 in
theorem F_dump_Rels_chk : chkF Tryz.prog 21 F_dump_Rels = true := by kernel_rfl

/-! ### dump_machine -/
def F_dump_machiner0b : List IStmt := [
 ⟨some 2, .mv (.c (.string ⟨#[]⟩)), none⟩]
def F_dump_machiner0 : List IStmt := F_dump_machiner0b
theorem F_dump_machiner0_W {T : Tab} {env : Env} {H : Heap} {Q : Post} : W T (.reg F_dump_machiner0) env H Q ↔ WR T F_dump_machiner0 F_dump_machiner0b env H none [] Q := w_reg
def F_dump_machiner1b : List IStmt := [
 ⟨some 3, .mv (.t 0), none⟩]
def F_dump_machiner1 : List IStmt := F_dump_machiner1b
theorem F_dump_machiner1_W {T : Tab} {env : Env} {H : Heap} {Q : Post} : W T (.reg F_dump_machiner1) env H Q ↔ WR T F_dump_machiner1 F_dump_machiner1b env H none [] Q := w_reg
def F_dump_machiner2b : List IStmt := [
 ⟨some 5, .bin .eql (.t 3) (.c (.int .u16 62)), none⟩,
 ⟨some 4, .mv (.t 5), none⟩]
def F_dump_machiner2 : List IStmt := F_dump_machiner2b
theorem F_dump_machiner2_W {T : Tab} {env : Env} {H : Heap} {Q : Post} : W T (.reg F_dump_machiner2) env H Q ↔ WR T F_dump_machiner2 F_dump_machiner2b env H none [] Q := w_reg
def F_dump_machiner3b : List IStmt := [
 ⟨some 2, .mv (.c (.string ⟨#[120, 56, 54, 45, 54, 52]⟩)), none⟩]
def F_dump_machiner3 : List IStmt := F_dump_machiner3b
theorem F_dump_machiner3_W {T : Tab} {env : Env} {H : Heap} {Q : Post} : W T (.reg F_dump_machiner3) env H Q ↔ WR T F_dump_machiner3 F_dump_machiner3b env H none [] Q := w_reg
def F_dump_machiner4b : List IStmt := [
 ⟨some 7, .bin .eql (.t 3) (.c (.int .u16 183)), none⟩,
 ⟨some 6, .mv (.t 7), none⟩]
def F_dump_machiner4 : List IStmt := F_dump_machiner4b
theorem F_dump_machiner4_W {T : Tab} {env : Env} {H : Heap} {Q : Post} : W T (.reg F_dump_machiner4) env H Q ↔ WR T F_dump_machiner4 F_dump_machiner4b env H none [] Q := w_reg
def F_dump_machiner5b : List IStmt := [
 ⟨some 2, .mv (.c (.string ⟨#[97, 97, 114, 99, 104, 54, 52]⟩)), none⟩]
def F_dump_machiner5 : List IStmt := F_dump_machiner5b
theorem F_dump_machiner5_W {T : Tab} {env : Env} {H : Heap} {Q : Post} : W T (.reg F_dump_machiner5) env H Q ↔ WR T F_dump_machiner5 F_dump_machiner5b env H none [] Q := w_reg
def F_dump_machiner6b : List IStmt := [
 ⟨some 8, .mv (.t 0), none⟩,
 ⟨some 9, .conv .i64 (.t 8), none⟩,
 ⟨some 10, .callc 49 [(.t 9)], none⟩,
 ⟨some 2, .mv (.t 10), none⟩]
def F_dump_machiner6 : List IStmt := F_dump_machiner6b
theorem F_dump_machiner6_W {T : Tab} {env : Env} {H : Heap} {Q : Post} : W T (.reg F_dump_machiner6) env H Q ↔ WR T F_dump_machiner6 F_dump_machiner6b env H none [] Q := w_reg
def F_dump_machinecb : ICode := (.seq (.reg F_dump_machiner0) (.seq (.seq (.reg F_dump_machiner1) (.block 0 (.seq (.reg F_dump_machiner2) (.cond (.t 4) (.seq (.reg F_dump_machiner3) .ret) (.seq (.reg F_dump_machiner4) (.cond (.t 6) (.seq (.reg F_dump_machiner5) .ret) .skip)))))) (.seq (.reg F_dump_machiner6) .ret)))
def F_dump_machinec : ICode := F_dump_machinecb
theorem F_dump_machinec_W {T : Tab} {env : Env} {H : Heap} {Q : Post} : W T F_dump_machinec env H Q ↔ W T F_dump_machinecb env H Q := Iff.rfl
def F_dump_machine : IFn := ⟨11, [.tmp 2], F_dump_machinec⟩
set_option linter.defProp false in
set_option maxRecDepth 100000 in
def N_dump_machineP := And.intro F_dump_machiner0b.eq_1 (And.intro @F_dump_machiner0_W (And.intro F_dump_machiner1b.eq_1 (And.intro @F_dump_machiner1_W (And.intro F_dump_machiner2b.eq_1 (And.intro @F_dump_machiner2_W (And.intro F_dump_machiner3b.eq_1 (And.intro @F_dump_machiner3_W (And.intro F_dump_machiner4b.eq_1 (And.intro @F_dump_machiner4_W (And.intro F_dump_machiner5b.eq_1 (And.intro @F_dump_machiner5_W (And.intro F_dump_machiner6b.eq_1 (And.intro @F_dump_machiner6_W (And.intro @F_dump_machinec_W (F_dump_machinecb.eq_1)))))))))))))))
theorem N_dump_machine : type_of% N_dump_machineP := N_dump_machineP
set_option maxRecDepth 1000000 in
theorem F_dump_machine_chk : chkF Tryz.prog 40 F_dump_machine = true := by kernel_rfl

/-! ### dump_letters -/
def F_dump_lettersr0b : List IStmt := [
 ⟨some 2, .mv (.c (.string ⟨#[]⟩)), none⟩]
def F_dump_lettersr0 : List IStmt := F_dump_lettersr0b
theorem F_dump_lettersr0_W {T : Tab} {env : Env} {H : Heap} {Q : Post} : W T (.reg F_dump_lettersr0) env H Q ↔ WR T F_dump_lettersr0 F_dump_lettersr0b env H none [] Q := w_reg
def F_dump_lettersr1b : List IStmt := [
 ⟨some 3, .mv (.c (.string ⟨#[]⟩)), none⟩]
def F_dump_lettersr1 : List IStmt := F_dump_lettersr1b
theorem F_dump_lettersr1_W {T : Tab} {env : Env} {H : Heap} {Q : Post} : W T (.reg F_dump_lettersr1) env H Q ↔ WR T F_dump_lettersr1 F_dump_lettersr1b env H none [] Q := w_reg
def F_dump_lettersr2b : List IStmt := [
 ⟨some 7, .bld [.string ⟨#[]⟩, .string ⟨#[]⟩, .string ⟨#[]⟩] [(0, 1, (.c (.string ⟨#[114]⟩))), (1, 1, (.c (.string ⟨#[119]⟩))), (2, 1, (.c (.string ⟨#[120]⟩)))], none⟩,
 ⟨some 4, .alloc 1 [.string ⟨#[]⟩, .string ⟨#[]⟩, .string ⟨#[]⟩], none⟩,
 ⟨none, .store 3 (.t 4) (.t 7), none⟩]
def F_dump_lettersr2 : List IStmt := F_dump_lettersr2b
theorem F_dump_lettersr2_W {T : Tab} {env : Env} {H : Heap} {Q : Post} : W T (.reg F_dump_lettersr2) env H Q ↔ WR T F_dump_lettersr2 F_dump_lettersr2b env H none [] Q := w_reg
def F_dump_lettersr3b : List IStmt := [
 ⟨some 8, .loadN 3 (.t 4), none⟩,
 ⟨some 9, .mv (.c (.int .i64 0)), none⟩]
def F_dump_lettersr3 : List IStmt := F_dump_lettersr3b
theorem F_dump_lettersr3_W {T : Tab} {env : Env} {H : Heap} {Q : Post} : W T (.reg F_dump_lettersr3) env H Q ↔ WR T F_dump_lettersr3 F_dump_lettersr3b env H none [] Q := w_reg
def F_dump_lettersr4b : List IStmt := [
 ⟨some 10, .bin .lss (.t 9) (.c (.int .i64 3)), none⟩]
def F_dump_lettersr4 : List IStmt := F_dump_lettersr4b
theorem F_dump_lettersr4_W {T : Tab} {env : Env} {H : Heap} {Q : Post} : W T (.reg F_dump_lettersr4) env H Q ↔ WR T F_dump_lettersr4 F_dump_lettersr4b env H none [] Q := w_reg
def F_dump_lettersr5b : List IStmt := [
 ⟨some 11, .mv (.t 9), none⟩,
 ⟨some 12, .xop (.ixv 3) (.t 8) (.t 9), none⟩,
 ⟨some 5, .mv (.t 11), none⟩,
 ⟨some 6, .mv (.t 12), none⟩]
def F_dump_lettersr5 : List IStmt := F_dump_lettersr5b
theorem F_dump_lettersr5_W {T : Tab} {env : Env} {H : Heap} {Q : Post} : W T (.reg F_dump_lettersr5) env H Q ↔ WR T F_dump_lettersr5 F_dump_lettersr5b env H none [] Q := w_reg
def F_dump_lettersr6b : List IStmt := [
 ⟨some 13, .mv (.t 0), none⟩,
 ⟨some 14, .mv (.t 5), none⟩,
 ⟨some 15, .bin .shr (.c (.int .u32 4)) (.t 14), none⟩,
 ⟨some 16, .bin .and (.t 13) (.t 15), none⟩,
 ⟨some 17, .bin .neq (.t 16) (.c (.int .u32 0)), none⟩]
def F_dump_lettersr6 : List IStmt := F_dump_lettersr6b
theorem F_dump_lettersr6_W {T : Tab} {env : Env} {H : Heap} {Q : Post} : W T (.reg F_dump_lettersr6) env H Q ↔ WR T F_dump_lettersr6 F_dump_lettersr6b env H none [] Q := w_reg
def F_dump_lettersr7b : List IStmt := [
 ⟨some 18, .mv (.t 3), none⟩,
 ⟨some 19, .mv (.t 6), none⟩,
 ⟨some 20, .bin .add (.t 18) (.t 19), none⟩,
 ⟨some 3, .mv (.t 20), none⟩]
def F_dump_lettersr7 : List IStmt := F_dump_lettersr7b
theorem F_dump_lettersr7_W {T : Tab} {env : Env} {H : Heap} {Q : Post} : W T (.reg F_dump_lettersr7) env H Q ↔ WR T F_dump_lettersr7 F_dump_lettersr7b env H none [] Q := w_reg
def F_dump_lettersr8b : List IStmt := [
 ⟨some 21, .mv (.t 3), none⟩,
 ⟨some 22, .bin .add (.t 21) (.c (.string ⟨#[45]⟩)), none⟩,
 ⟨some 3, .mv (.t 22), none⟩]
def F_dump_lettersr8 : List IStmt := F_dump_lettersr8b
theorem F_dump_lettersr8_W {T : Tab} {env : Env} {H : Heap} {Q : Post} : W T (.reg F_dump_lettersr8) env H Q ↔ WR T F_dump_lettersr8 F_dump_lettersr8b env H none [] Q := w_reg
def F_dump_lettersr9b : List IStmt := [
 ⟨some 23, .bin .add (.t 9) (.c (.int .i64 1)), none⟩,
 ⟨some 9, .mv (.t 23), none⟩]
def F_dump_lettersr9 : List IStmt := F_dump_lettersr9b
theorem F_dump_lettersr9_W {T : Tab} {env : Env} {H : Heap} {Q : Post} : W T (.reg F_dump_lettersr9) env H Q ↔ WR T F_dump_lettersr9 F_dump_lettersr9b env H none [] Q := w_reg
def F_dump_lettersl0b : ICode := (.seq (.reg F_dump_lettersr4) (.seq (.cond (.t 10) .skip (.exit 0)) (.seq (.block 1 (.seq (.reg F_dump_lettersr5) (.seq (.reg F_dump_lettersr6) (.cond (.t 17) (.reg F_dump_lettersr7) (.reg F_dump_lettersr8))))) (.reg F_dump_lettersr9))))
def F_dump_lettersl0 : ICode := F_dump_lettersl0b
theorem F_dump_lettersl0_W {T : Tab} {env : Env} {H : Heap} {Q : Post} : W T F_dump_lettersl0 env H Q ↔ W T F_dump_lettersl0b env H Q := Iff.rfl
def F_dump_lettersr10b : List IStmt := [
 ⟨some 24, .mv (.t 3), none⟩,
 ⟨some 2, .mv (.t 24), none⟩]
def F_dump_lettersr10 : List IStmt := F_dump_lettersr10b
theorem F_dump_lettersr10_W {T : Tab} {env : Env} {H : Heap} {Q : Post} : W T (.reg F_dump_lettersr10) env H Q ↔ WR T F_dump_lettersr10 F_dump_lettersr10b env H none [] Q := w_reg
def F_dump_letterscb : ICode := (.seq (.reg F_dump_lettersr0) (.seq (.reg F_dump_lettersr1) (.seq (.reg F_dump_lettersr2) (.seq (.seq (.reg F_dump_lettersr3) (.block 0 (.loop F_dump_lettersl0))) (.seq (.reg F_dump_lettersr10) .ret)))))
def F_dump_lettersc : ICode := F_dump_letterscb
theorem F_dump_lettersc_W {T : Tab} {env : Env} {H : Heap} {Q : Post} : W T F_dump_lettersc env H Q ↔ W T F_dump_letterscb env H Q := Iff.rfl
def F_dump_letters : IFn := ⟨25, [.tmp 2], F_dump_lettersc⟩
set_option linter.defProp false in
set_option maxRecDepth 100000 in
def N_dump_lettersP := And.intro F_dump_lettersr0b.eq_1 (And.intro @F_dump_lettersr0_W (And.intro F_dump_lettersr1b.eq_1 (And.intro @F_dump_lettersr1_W (And.intro F_dump_lettersr2b.eq_1 (And.intro @F_dump_lettersr2_W (And.intro F_dump_lettersr3b.eq_1 (And.intro @F_dump_lettersr3_W (And.intro F_dump_lettersr4b.eq_1 (And.intro @F_dump_lettersr4_W (And.intro F_dump_lettersr5b.eq_1 (And.intro @F_dump_lettersr5_W (And.intro F_dump_lettersr6b.eq_1 (And.intro @F_dump_lettersr6_W (And.intro F_dump_lettersr7b.eq_1 (And.intro @F_dump_lettersr7_W (And.intro F_dump_lettersr8b.eq_1 (And.intro @F_dump_lettersr8_W (And.intro F_dump_lettersr9b.eq_1 (And.intro @F_dump_lettersr9_W (And.intro @F_dump_lettersl0_W (And.intro F_dump_lettersl0b.eq_1 (And.intro F_dump_lettersr10b.eq_1 (And.intro @F_dump_lettersr10_W (And.intro @F_dump_lettersc_W (F_dump_letterscb.eq_1)))))))))))))))))))))))))
theorem N_dump_letters : type_of% N_dump_lettersP := N_dump_lettersP
set_option maxRecDepth 1000000 in
theorem F_dump_letters_chk : chkF Tryz.prog 68 F_dump_letters = true := by kernel_rfl

/-! ### dump_writer_part -/
def F_dump_writer_partr0b : List IStmt := [
 ⟨some 5, .box 7 (.t 2), none⟩]
def F_dump_writer_partr0 : List IStmt := F_dump_writer_partr0b
theorem F_dump_writer_partr0_W {T : Tab} {env : Env} {H : Heap} {Q : Post} : W T (.reg F_dump_writer_partr0) env H Q ↔ WR T F_dump_writer_partr0 F_dump_writer_partr0b env H none [] Q := w_reg
def F_dump_writer_partr1b : List IStmt := [
 ⟨some 6, .mv (.t 0), none⟩,
 ⟨some 7, .mv (.t 1), none⟩,
 ⟨some 8, .fa 3 (.t 5), none⟩,
 ⟨some 9, .load (.t 8), none⟩,
 ⟨some 10, .callc 46 [(.t 9)], none⟩,
 ⟨some 11, .fa 5 (.t 5), none⟩,
 ⟨some 12, .load (.t 11), none⟩,
 ⟨some 13, .callc 46 [(.t 12)], none⟩,
 ⟨some 14, .fa 1 (.t 5), none⟩,
 ⟨some 15, .load (.t 14), none⟩,
 ⟨some 16, .callc 68 [(.t 15)], none⟩,
 ⟨some 17, .fa 2 (.t 5), none⟩,
 ⟨some 18, .load (.t 17), none⟩,
 ⟨some 19, .callc 46 [(.t 18)], none⟩,
 ⟨some 20, .fa 4 (.t 5), none⟩,
 ⟨some 21, .load (.t 20), none⟩,
 ⟨some 22, .callc 46 [(.t 21)], none⟩,
 ⟨some 23, .bsli 1 6 [.string ⟨#[]⟩] [(0, (.t 7)), (1, (.t 10)), (2, (.t 13)), (3, (.t 16)), (4, (.t 19)), (5, (.t 22))], none⟩,
 ⟨some 24, .call 39 [(.t 6), (.t 23)], none⟩]
def F_dump_writer_partr1 : List IStmt := F_dump_writer_partr1b
theorem F_dump_writer_partr1_W {T : Tab} {env : Env} {H : Heap} {Q : Post} : W T (.dreg F_dump_writer_partr1 []) env H Q ↔ WR T F_dump_writer_partr1 F_dump_writer_partr1b env H none [] Q := w_dreg0
def F_dump_writer_partcb : ICode := (.seq (.reg F_dump_writer_partr0) (.dreg F_dump_writer_partr1 []))
def F_dump_writer_partc : ICode := F_dump_writer_partcb
theorem F_dump_writer_partc_W {T : Tab} {env : Env} {H : Heap} {Q : Post} : W T F_dump_writer_partc env H Q ↔ W T F_dump_writer_partcb env H Q := Iff.rfl
def F_dump_writer_part : IFn := ⟨25, [], F_dump_writer_partc⟩
set_option linter.defProp false in
set_option maxRecDepth 100000 in
def N_dump_writer_partP := And.intro F_dump_writer_partr0b.eq_1 (And.intro @F_dump_writer_partr0_W (And.intro F_dump_writer_partr1b.eq_1 (And.intro @F_dump_writer_partr1_W (And.intro @F_dump_writer_partc_W (F_dump_writer_partcb.eq_1)))))
theorem N_dump_writer_part : type_of% N_dump_writer_partP := N_dump_writer_partP
set_option maxRecDepth 1000000 in
theorem F_dump_writer_part_chk : chkF Tryz.prog 41 F_dump_writer_part = true := by kernel_rfl

/-! ### dump_Heads -/
def F_dump_Headsr0b : List IStmt := [
 ⟨some 1, .box 16 (.t 0), none⟩,
 ⟨some 2, .mv (.c (.string ⟨#[]⟩)), none⟩]
def F_dump_Headsr0 : List IStmt := F_dump_Headsr0b
theorem F_dump_Headsr0_W {T : Tab} {env : Env} {H : Heap} {Q : Post} : W T (.reg F_dump_Headsr0) env H Q ↔ WR T F_dump_Headsr0 F_dump_Headsr0b env H none [] Q := w_reg
def F_dump_Headsr1b : List IStmt := [
 ⟨some 6, .bld [.pointer none, .slice none 0 0] [], none⟩,
 ⟨some 7, .box 1000000084 (.t 6), none⟩,
 ⟨some 3, .mv (.t 7), none⟩]
def F_dump_Headsr1 : List IStmt := F_dump_Headsr1b
theorem F_dump_Headsr1_W {T : Tab} {env : Env} {H : Heap} {Q : Post} : W T (.reg F_dump_Headsr1) env H Q ↔ WR T F_dump_Headsr1 F_dump_Headsr1b env H none [] Q := w_reg
def F_dump_Headsr2b : List IStmt := [
 ⟨some 8, .mv (.t 3), none⟩,
 ⟨some 9, .fa 0 (.t 1), none⟩,
 ⟨some 10, .load (.t 9), none⟩,
 ⟨some 11, .callc 40 [(.t 10)], none⟩,
 ⟨some 12, .bsli 1 2 [.string ⟨#[]⟩] [(0, (.c (.string ⟨#[109, 97, 99, 104, 105, 110, 101]⟩))), (1, (.t 11))], none⟩,
 ⟨some 13, .call 39 [(.t 8), (.t 12)], none⟩]
def F_dump_Headsr2 : List IStmt := F_dump_Headsr2b
theorem F_dump_Headsr2_W {T : Tab} {env : Env} {H : Heap} {Q : Post} : W T (.reg F_dump_Headsr2) env H Q ↔ WR T F_dump_Headsr2 F_dump_Headsr2b env H none [] Q := w_reg
def F_dump_Headsr3b : List IStmt := [
 ⟨some 14, .fa 1 (.t 1), none⟩,
 ⟨some 15, .load (.t 14), none⟩,
 ⟨some 16, .len 1 (.t 15), none⟩,
 ⟨some 17, .mv (.c (.int .i64 0)), none⟩]
def F_dump_Headsr3 : List IStmt := F_dump_Headsr3b
theorem F_dump_Headsr3_W {T : Tab} {env : Env} {H : Heap} {Q : Post} : W T (.reg F_dump_Headsr3) env H Q ↔ WR T F_dump_Headsr3 F_dump_Headsr3b env H none [] Q := w_reg
def F_dump_Headsr4b : List IStmt := [
 ⟨some 18, .bin .lss (.t 17) (.t 16), none⟩]
def F_dump_Headsr4 : List IStmt := F_dump_Headsr4b
theorem F_dump_Headsr4_W {T : Tab} {env : Env} {H : Heap} {Q : Post} : W T (.reg F_dump_Headsr4) env H Q ↔ WR T F_dump_Headsr4 F_dump_Headsr4b env H none [] Q := w_reg
def F_dump_Headsr5b : List IStmt := [
 ⟨some 19, .ixa 7 (.t 15) (.t 17), none⟩,
 ⟨some 20, .loadN 7 (.t 19), none⟩,
 ⟨some 5, .alloc 7 [.int .u32 0, .int .u32 0, .int .u64 0, .int .u64 0, .int .u64 0, .int .u64 0, .int .u64 0], none⟩,
 ⟨none, .store 7 (.t 5) (.t 20), none⟩]
def F_dump_Headsr5 : List IStmt := F_dump_Headsr5b
theorem F_dump_Headsr5_W {T : Tab} {env : Env} {H : Heap} {Q : Post} : W T (.reg F_dump_Headsr5) env H Q ↔ WR T F_dump_Headsr5 F_dump_Headsr5b env H none [] Q := w_reg
def F_dump_Headsr6b : List IStmt := [
 ⟨some 21, .mv (.t 3), none⟩,
 ⟨some 22, .loadN 7 (.t 5), none⟩,
 ⟨some 23, .call 41 [(.t 21), (.c (.string ⟨#[108, 111, 97, 100]⟩)), (.t 22)], none⟩]
def F_dump_Headsr6 : List IStmt := F_dump_Headsr6b
theorem F_dump_Headsr6_W {T : Tab} {env : Env} {H : Heap} {Q : Post} : W T (.reg F_dump_Headsr6) env H Q ↔ WR T F_dump_Headsr6 F_dump_Headsr6b env H none [] Q := w_reg
def F_dump_Headsr7b : List IStmt := [
 ⟨some 24, .bin .add (.t 17) (.c (.int .i64 1)), none⟩,
 ⟨some 17, .mv (.t 24), none⟩]
def F_dump_Headsr7 : List IStmt := F_dump_Headsr7b
theorem F_dump_Headsr7_W {T : Tab} {env : Env} {H : Heap} {Q : Post} : W T (.reg F_dump_Headsr7) env H Q ↔ WR T F_dump_Headsr7 F_dump_Headsr7b env H none [] Q := w_reg
def F_dump_Headsl0b : ICode := (.seq (.reg F_dump_Headsr4) (.seq (.cond (.t 18) .skip (.exit 0)) (.seq (.block 1 (.seq (.reg F_dump_Headsr5) (.reg F_dump_Headsr6))) (.reg F_dump_Headsr7))))
def F_dump_Headsl0 : ICode := F_dump_Headsl0b
theorem F_dump_Headsl0_W {T : Tab} {env : Env} {H : Heap} {Q : Post} : W T F_dump_Headsl0 env H Q ↔ W T F_dump_Headsl0b env H Q := Iff.rfl
def F_dump_Headsr8b : List IStmt := [
 ⟨some 25, .mv (.t 3), none⟩,
 ⟨some 26, .fa 2 (.t 1), none⟩,
 ⟨some 27, .loadN 7 (.t 26), none⟩,
 ⟨some 28, .call 41 [(.t 25), (.c (.string ⟨#[100, 121, 110, 97, 109, 105, 99]⟩)), (.t 27)], none⟩]
def F_dump_Headsr8 : List IStmt := F_dump_Headsr8b
theorem F_dump_Headsr8_W {T : Tab} {env : Env} {H : Heap} {Q : Post} : W T (.reg F_dump_Headsr8) env H Q ↔ WR T F_dump_Headsr8 F_dump_Headsr8b env H none [] Q := w_reg
def F_dump_Headsr9b : List IStmt := [
 ⟨some 29, .fa 9 (.t 1), none⟩,
 ⟨some 30, .fa 5 (.t 29), none⟩,
 ⟨some 31, .load (.t 30), none⟩,
 ⟨some 32, .bin .gtr (.t 31) (.c (.int .u64 0)), none⟩]
def F_dump_Headsr9 : List IStmt := F_dump_Headsr9b
theorem F_dump_Headsr9_W {T : Tab} {env : Env} {H : Heap} {Q : Post} : W T (.reg F_dump_Headsr9) env H Q ↔ WR T F_dump_Headsr9 F_dump_Headsr9b env H none [] Q := w_reg
def F_dump_Headsr10b : List IStmt := [
 ⟨some 33, .mv (.t 3), none⟩,
 ⟨some 34, .fa 9 (.t 1), none⟩,
 ⟨some 35, .loadN 7 (.t 34), none⟩,
 ⟨some 36, .call 41 [(.t 33), (.c (.string ⟨#[114, 101, 108, 114, 111]⟩)), (.t 35)], none⟩]
def F_dump_Headsr10 : List IStmt := F_dump_Headsr10b
theorem F_dump_Headsr10_W {T : Tab} {env : Env} {H : Heap} {Q : Post} : W T (.reg F_dump_Headsr10) env H Q ↔ WR T F_dump_Headsr10 F_dump_Headsr10b env H none [] Q := w_reg
def F_dump_Headsr11b : List IStmt := [
 ⟨some 37, .mv (.t 3), none⟩,
 ⟨some 38, .nilc (.t 37), none⟩,
 ⟨some 39, .fa 0 (.t 38), none⟩,
 ⟨some 40, .call 42 [(.t 39)], none⟩,
 ⟨some 2, .mv (.t 40), none⟩]
def F_dump_Headsr11 : List IStmt := F_dump_Headsr11b
theorem F_dump_Headsr11_W {T : Tab} {env : Env} {H : Heap} {Q : Post} : W T (.reg F_dump_Headsr11) env H Q ↔ WR T F_dump_Headsr11 F_dump_Headsr11b env H none [] Q := w_reg
def F_dump_Headscb : ICode := (.seq (.reg F_dump_Headsr0) (.seq (.reg F_dump_Headsr1) (.seq (.reg F_dump_Headsr2) (.seq (.seq (.reg F_dump_Headsr3) (.block 0 (.loop F_dump_Headsl0))) (.seq (.reg F_dump_Headsr8) (.seq (.seq (.reg F_dump_Headsr9) (.cond (.t 32) (.reg F_dump_Headsr10) .skip)) (.seq (.reg F_dump_Headsr11) .ret)))))))
def F_dump_Headsc : ICode := F_dump_Headscb
theorem F_dump_Headsc_W {T : Tab} {env : Env} {H : Heap} {Q : Post} : W T F_dump_Headsc env H Q ↔ W T F_dump_Headscb env H Q := Iff.rfl
def F_dump_Heads : IFn := ⟨41, [.tmp 2], F_dump_Headsc⟩
set_option linter.defProp false in
set_option maxRecDepth 100000 in
def N_dump_HeadsP := And.intro F_dump_Headsr0b.eq_1 (And.intro @F_dump_Headsr0_W (And.intro F_dump_Headsr1b.eq_1 (And.intro @F_dump_Headsr1_W (And.intro F_dump_Headsr2b.eq_1 (And.intro @F_dump_Headsr2_W (And.intro F_dump_Headsr3b.eq_1 (And.intro @F_dump_Headsr3_W (And.intro F_dump_Headsr4b.eq_1 (And.intro @F_dump_Headsr4_W (And.intro F_dump_Headsr5b.eq_1 (And.intro @F_dump_Headsr5_W (And.intro F_dump_Headsr6b.eq_1 (And.intro @F_dump_Headsr6_W (And.intro F_dump_Headsr7b.eq_1 (And.intro @F_dump_Headsr7_W (And.intro @F_dump_Headsl0_W (And.intro F_dump_Headsl0b.eq_1 (And.intro F_dump_Headsr8b.eq_1 (And.intro @F_dump_Headsr8_W (And.intro F_dump_Headsr9b.eq_1 (And.intro @F_dump_Headsr9_W (And.intro F_dump_Headsr10b.eq_1 (And.intro @F_dump_Headsr10_W (And.intro F_dump_Headsr11b.eq_1 (And.intro @F_dump_Headsr11_W (And.intro @F_dump_Headsc_W (F_dump_Headscb.eq_1)))))))))))))))))))))))))))
theorem N_dump_Heads : type_of% N_dump_HeadsP := N_dump_HeadsP
set_option maxRecDepth 1000000 in
theorem F_dump_Heads_chk : chkF Tryz.prog 15 F_dump_Heads = true := by kernel_rfl

/-! ### dump_when -/
def F_dump_whenr0b : List IStmt := [
 ⟨some 4, .mv (.c (.string ⟨#[]⟩)), none⟩]
def F_dump_whenr0 : List IStmt := F_dump_whenr0b
theorem F_dump_whenr0_W {T : Tab} {env : Env} {H : Heap} {Q : Post} : W T (.reg F_dump_whenr0) env H Q ↔ WR T F_dump_whenr0 F_dump_whenr0b env H none [] Q := w_reg
def F_dump_whenr1b : List IStmt := [
 ⟨some 5, .mv (.t 0), none⟩]
def F_dump_whenr1 : List IStmt := F_dump_whenr1b
theorem F_dump_whenr1_W {T : Tab} {env : Env} {H : Heap} {Q : Post} : W T (.reg F_dump_whenr1) env H Q ↔ WR T F_dump_whenr1 F_dump_whenr1b env H none [] Q := w_reg
def F_dump_whenr2b : List IStmt := [
 ⟨some 6, .mv (.t 1), none⟩,
 ⟨some 4, .mv (.t 6), none⟩]
def F_dump_whenr2 : List IStmt := F_dump_whenr2b
theorem F_dump_whenr2_W {T : Tab} {env : Env} {H : Heap} {Q : Post} : W T (.reg F_dump_whenr2) env H Q ↔ WR T F_dump_whenr2 F_dump_whenr2b env H none [] Q := w_reg
def F_dump_whenr3b : List IStmt := [
 ⟨some 4, .mv (.c (.string ⟨#[]⟩)), none⟩]
def F_dump_whenr3 : List IStmt := F_dump_whenr3b
theorem F_dump_whenr3_W {T : Tab} {env : Env} {H : Heap} {Q : Post} : W T (.reg F_dump_whenr3) env H Q ↔ WR T F_dump_whenr3 F_dump_whenr3b env H none [] Q := w_reg
def F_dump_whencb : ICode := (.seq (.reg F_dump_whenr0) (.seq (.seq (.reg F_dump_whenr1) (.cond (.t 5) (.seq (.reg F_dump_whenr2) .ret) .skip)) (.seq (.reg F_dump_whenr3) .ret)))
def F_dump_whenc : ICode := F_dump_whencb
theorem F_dump_whenc_W {T : Tab} {env : Env} {H : Heap} {Q : Post} : W T F_dump_whenc env H Q ↔ W T F_dump_whencb env H Q := Iff.rfl
def F_dump_when : IFn := ⟨7, [.tmp 4], F_dump_whenc⟩
set_option linter.defProp false in
set_option maxRecDepth 100000 in
def N_dump_whenP := And.intro F_dump_whenr0b.eq_1 (And.intro @F_dump_whenr0_W (And.intro F_dump_whenr1b.eq_1 (And.intro @F_dump_whenr1_W (And.intro F_dump_whenr2b.eq_1 (And.intro @F_dump_whenr2_W (And.intro F_dump_whenr3b.eq_1 (And.intro @F_dump_whenr3_W (And.intro @F_dump_whenc_W (F_dump_whencb.eq_1)))))))))
theorem N_dump_when : type_of% N_dump_whenP := N_dump_whenP
set_option maxRecDepth 1000000 in
theorem F_dump_when_chk : chkF Tryz.prog 45 F_dump_when = true := by kernel_rfl

/-! ### dump_Dyn -/
def F_dump_Dynr0b : List IStmt := [
 ⟨some 1, .box 40 (.t 0), none⟩,
 ⟨some 2, .mv (.c (.string ⟨#[]⟩)), none⟩]
def F_dump_Dynr0 : List IStmt := F_dump_Dynr0b
theorem F_dump_Dynr0_W {T : Tab} {env : Env} {H : Heap} {Q : Post} : W T (.reg F_dump_Dynr0) env H Q ↔ WR T F_dump_Dynr0 F_dump_Dynr0b env H none [] Q := w_reg
def F_dump_Dynr1b : List IStmt := [
 ⟨some 8, .bld [.pointer none, .slice none 0 0] [], none⟩,
 ⟨some 9, .box 1000000084 (.t 8), none⟩,
 ⟨some 3, .mv (.t 9), none⟩]
def F_dump_Dynr1 : List IStmt := F_dump_Dynr1b
theorem F_dump_Dynr1_W {T : Tab} {env : Env} {H : Heap} {Q : Post} : W T (.reg F_dump_Dynr1) env H Q ↔ WR T F_dump_Dynr1 F_dump_Dynr1b env H none [] Q := w_reg
def F_dump_Dynr2b : List IStmt := [
 ⟨some 10, .fa 0 (.t 1), none⟩,
 ⟨some 11, .load (.t 10), none⟩,
 ⟨some 12, .bin .neq (.t 11) (.c (.string ⟨#[]⟩)), none⟩]
def F_dump_Dynr2 : List IStmt := F_dump_Dynr2b
theorem F_dump_Dynr2_W {T : Tab} {env : Env} {H : Heap} {Q : Post} : W T (.reg F_dump_Dynr2) env H Q ↔ WR T F_dump_Dynr2 F_dump_Dynr2b env H none [] Q := w_reg
def F_dump_Dynr3b : List IStmt := [
 ⟨some 13, .mv (.t 3), none⟩,
 ⟨some 14, .fa 0 (.t 1), none⟩,
 ⟨some 15, .load (.t 14), none⟩,
 ⟨some 16, .bsli 1 2 [.string ⟨#[]⟩] [(0, (.c (.string ⟨#[115, 111, 110, 97, 109, 101]⟩))), (1, (.t 15))], none⟩,
 ⟨some 17, .call 39 [(.t 13), (.t 16)], none⟩]
def F_dump_Dynr3 : List IStmt := F_dump_Dynr3b
theorem F_dump_Dynr3_W {T : Tab} {env : Env} {H : Heap} {Q : Post} : W T (.reg F_dump_Dynr3) env H Q ↔ WR T F_dump_Dynr3 F_dump_Dynr3b env H none [] Q := w_reg
def F_dump_Dynr4b : List IStmt := [
 ⟨some 18, .fa 1 (.t 1), none⟩,
 ⟨some 19, .load (.t 18), none⟩,
 ⟨some 20, .bin .neq (.t 19) (.c (.string ⟨#[]⟩)), none⟩]
def F_dump_Dynr4 : List IStmt := F_dump_Dynr4b
theorem F_dump_Dynr4_W {T : Tab} {env : Env} {H : Heap} {Q : Post} : W T (.reg F_dump_Dynr4) env H Q ↔ WR T F_dump_Dynr4 F_dump_Dynr4b env H none [] Q := w_reg
def F_dump_Dynr5b : List IStmt := [
 ⟨some 21, .mv (.t 3), none⟩,
 ⟨some 22, .fa 1 (.t 1), none⟩,
 ⟨some 23, .load (.t 22), none⟩,
 ⟨some 24, .bsli 1 2 [.string ⟨#[]⟩] [(0, (.c (.string ⟨#[114, 117, 110, 112, 97, 116, 104]⟩))), (1, (.t 23))], none⟩,
 ⟨some 25, .call 39 [(.t 21), (.t 24)], none⟩]
def F_dump_Dynr5 : List IStmt := F_dump_Dynr5b
theorem F_dump_Dynr5_W {T : Tab} {env : Env} {H : Heap} {Q : Post} : W T (.reg F_dump_Dynr5) env H Q ↔ WR T F_dump_Dynr5 F_dump_Dynr5b env H none [] Q := w_reg
def F_dump_Dynr6b : List IStmt := [
 ⟨some 26, .fa 2 (.t 1), none⟩,
 ⟨some 27, .load (.t 26), none⟩,
 ⟨some 28, .len 1 (.t 27), none⟩,
 ⟨some 29, .mv (.c (.int .i64 0)), none⟩]
def F_dump_Dynr6 : List IStmt := F_dump_Dynr6b
theorem F_dump_Dynr6_W {T : Tab} {env : Env} {H : Heap} {Q : Post} : W T (.reg F_dump_Dynr6) env H Q ↔ WR T F_dump_Dynr6 F_dump_Dynr6b env H none [] Q := w_reg
def F_dump_Dynr7b : List IStmt := [
 ⟨some 30, .bin .lss (.t 29) (.t 28), none⟩]
def F_dump_Dynr7 : List IStmt := F_dump_Dynr7b
theorem F_dump_Dynr7_W {T : Tab} {env : Env} {H : Heap} {Q : Post} : W T (.reg F_dump_Dynr7) env H Q ↔ WR T F_dump_Dynr7 F_dump_Dynr7b env H none [] Q := w_reg
def F_dump_Dynr8b : List IStmt := [
 ⟨some 31, .ixa 1 (.t 27) (.t 29), none⟩,
 ⟨some 32, .load (.t 31), none⟩,
 ⟨some 5, .mv (.t 32), none⟩]
def F_dump_Dynr8 : List IStmt := F_dump_Dynr8b
theorem F_dump_Dynr8_W {T : Tab} {env : Env} {H : Heap} {Q : Post} : W T (.reg F_dump_Dynr8) env H Q ↔ WR T F_dump_Dynr8 F_dump_Dynr8b env H none [] Q := w_reg
def F_dump_Dynr9b : List IStmt := [
 ⟨some 33, .mv (.t 3), none⟩,
 ⟨some 34, .mv (.t 5), none⟩,
 ⟨some 35, .bsli 1 2 [.string ⟨#[]⟩] [(0, (.c (.string ⟨#[110, 101, 101, 100, 101, 100]⟩))), (1, (.t 34))], none⟩,
 ⟨some 36, .call 39 [(.t 33), (.t 35)], none⟩]
def F_dump_Dynr9 : List IStmt := F_dump_Dynr9b
theorem F_dump_Dynr9_W {T : Tab} {env : Env} {H : Heap} {Q : Post} : W T (.reg F_dump_Dynr9) env H Q ↔ WR T F_dump_Dynr9 F_dump_Dynr9b env H none [] Q := w_reg
def F_dump_Dynr10b : List IStmt := [
 ⟨some 37, .bin .add (.t 29) (.c (.int .i64 1)), none⟩,
 ⟨some 29, .mv (.t 37), none⟩]
def F_dump_Dynr10 : List IStmt := F_dump_Dynr10b
theorem F_dump_Dynr10_W {T : Tab} {env : Env} {H : Heap} {Q : Post} : W T (.reg F_dump_Dynr10) env H Q ↔ WR T F_dump_Dynr10 F_dump_Dynr10b env H none [] Q := w_reg
def F_dump_Dynl0b : ICode := (.seq (.reg F_dump_Dynr7) (.seq (.cond (.t 30) .skip (.exit 0)) (.seq (.block 1 (.seq (.reg F_dump_Dynr8) (.reg F_dump_Dynr9))) (.reg F_dump_Dynr10))))
def F_dump_Dynl0 : ICode := F_dump_Dynl0b
theorem F_dump_Dynl0_W {T : Tab} {env : Env} {H : Heap} {Q : Post} : W T F_dump_Dynl0 env H Q ↔ W T F_dump_Dynl0b env H Q := Iff.rfl
def F_dump_Dynr11b : List IStmt := [
 ⟨some 38, .fa 3 (.t 1), none⟩,
 ⟨some 39, .load (.t 38), none⟩,
 ⟨some 40, .mv (.t 39), none⟩,
 ⟨some 41, .fa 4 (.t 1), some (2, false)⟩,
 ⟨some 42, .load (.t 41), some (2, false)⟩,
 ⟨some 43, .pick (.t 40) (.c (.bool true)) (.t 42), none⟩,
 ⟨some 44, .mv (.t 43), none⟩,
 ⟨some 45, .fa 5 (.t 1), some (6, false)⟩,
 ⟨some 46, .load (.t 45), some (6, false)⟩,
 ⟨some 47, .pick (.t 44) (.c (.bool true)) (.t 46), none⟩]
def F_dump_Dynr11 : List IStmt := F_dump_Dynr11b
theorem F_dump_Dynr11_W {T : Tab} {env : Env} {H : Heap} {Q : Post} : W T (.reg F_dump_Dynr11) env H Q ↔ WR T F_dump_Dynr11 F_dump_Dynr11b env H none [] Q := w_reg
theorem F_dump_Dynr11_g2 {env : Env} : yieldI F_dump_Dynr11 env 2 = bOf (env 40) := rfl
theorem F_dump_Dynr11_g6 {env : Env} : yieldI F_dump_Dynr11 env 6 = bOf (env 44) := rfl
def F_dump_Dynr12b : List IStmt := [
 ⟨some 48, .mv (.t 3), none⟩,
 ⟨some 49, .fa 3 (.t 1), none⟩,
 ⟨some 50, .load (.t 49), none⟩,
 ⟨some 51, .callc 45 [(.t 50), (.c (.string ⟨#[115, 121, 109, 98, 111, 108, 105, 99]⟩))], none⟩,
 ⟨some 52, .fa 4 (.t 1), none⟩,
 ⟨some 53, .load (.t 52), none⟩,
 ⟨some 54, .callc 45 [(.t 53), (.c (.string ⟨#[103, 108, 111, 98, 97, 108]⟩))], none⟩,
 ⟨some 55, .fa 5 (.t 1), none⟩,
 ⟨some 56, .load (.t 55), none⟩,
 ⟨some 57, .callc 45 [(.t 56), (.c (.string ⟨#[110, 111, 100, 101, 108, 101, 116, 101]⟩))], none⟩,
 ⟨some 58, .bsli 1 4 [.string ⟨#[]⟩] [(0, (.c (.string ⟨#[102, 108, 97, 103, 115]⟩))), (1, (.t 51)), (2, (.t 54)), (3, (.t 57))], none⟩,
 ⟨some 59, .call 39 [(.t 48), (.t 58)], none⟩]
def F_dump_Dynr12 : List IStmt := F_dump_Dynr12b
theorem F_dump_Dynr12_W {T : Tab} {env : Env} {H : Heap} {Q : Post} : W T (.dreg F_dump_Dynr12 []) env H Q ↔ WR T F_dump_Dynr12 F_dump_Dynr12b env H none [] Q := w_dreg0
def F_dump_Dynr13b : List IStmt := [
 ⟨some 60, .fa 17 (.t 1), none⟩,
 ⟨some 61, .loadN 3 (.t 60), none⟩,
 ⟨some 62, .bld [.string ⟨#[]⟩, .bool false, .int .u64 0, .int .u64 0] [(0, 1, (.c (.string ⟨#[114, 101, 108]⟩))), (1, 3, (.t 61))], none⟩,
 ⟨some 63, .fa 20 (.t 1), none⟩,
 ⟨some 64, .loadN 3 (.t 63), none⟩,
 ⟨some 65, .bld [.string ⟨#[]⟩, .bool false, .int .u64 0, .int .u64 0] [(0, 1, (.c (.string ⟨#[114, 101, 108, 97]⟩))), (1, 3, (.t 64))], none⟩,
 ⟨some 66, .fa 23 (.t 1), none⟩,
 ⟨some 67, .loadN 3 (.t 66), none⟩,
 ⟨some 68, .bld [.string ⟨#[]⟩, .bool false, .int .u64 0, .int .u64 0] [(0, 1, (.c (.string ⟨#[112, 108, 116]⟩))), (1, 3, (.t 67))], none⟩,
 ⟨some 69, .fa 26 (.t 1), none⟩,
 ⟨some 70, .loadN 3 (.t 69), none⟩,
 ⟨some 71, .bld [.string ⟨#[]⟩, .bool false, .int .u64 0, .int .u64 0] [(0, 1, (.c (.string ⟨#[114, 101, 108, 114]⟩))), (1, 3, (.t 70))], none⟩,
 ⟨some 72, .fa 29 (.t 1), none⟩,
 ⟨some 73, .loadN 3 (.t 72), none⟩,
 ⟨some 74, .bld [.string ⟨#[]⟩, .bool false, .int .u64 0, .int .u64 0] [(0, 1, (.c (.string ⟨#[112, 97, 99, 107, 101, 100]⟩))), (1, 3, (.t 73))], none⟩,
 ⟨some 75, .fa 34 (.t 1), none⟩,
 ⟨some 76, .loadN 3 (.t 75), none⟩,
 ⟨some 77, .bld [.string ⟨#[]⟩, .bool false, .int .u64 0, .int .u64 0] [(0, 1, (.c (.string ⟨#[105, 110, 105, 116]⟩))), (1, 3, (.t 76))], none⟩,
 ⟨some 78, .fa 37 (.t 1), none⟩,
 ⟨some 79, .loadN 3 (.t 78), none⟩,
 ⟨some 80, .bld [.string ⟨#[]⟩, .bool false, .int .u64 0, .int .u64 0] [(0, 1, (.c (.string ⟨#[102, 105, 110, 105]⟩))), (1, 3, (.t 79))], none⟩,
 ⟨some 81, .bsli 4 7 [.string ⟨#[]⟩, .bool false, .int .u64 0, .int .u64 0] [(0, (.t 62)), (1, (.t 65)), (2, (.t 68)), (3, (.t 71)), (4, (.t 74)), (5, (.t 77)), (6, (.t 80))], none⟩,
 ⟨some 82, .len 1 (.t 81), none⟩,
 ⟨some 83, .mv (.c (.int .i64 0)), none⟩]
def F_dump_Dynr13 : List IStmt := F_dump_Dynr13b
theorem F_dump_Dynr13_W {T : Tab} {env : Env} {H : Heap} {Q : Post} : W T (.reg F_dump_Dynr13) env H Q ↔ WR T F_dump_Dynr13 F_dump_Dynr13b env H none [] Q := w_reg
def F_dump_Dynr14b : List IStmt := [
 ⟨some 84, .bin .lss (.t 83) (.t 82), none⟩]
def F_dump_Dynr14 : List IStmt := F_dump_Dynr14b
theorem F_dump_Dynr14_W {T : Tab} {env : Env} {H : Heap} {Q : Post} : W T (.reg F_dump_Dynr14) env H Q ↔ WR T F_dump_Dynr14 F_dump_Dynr14b env H none [] Q := w_reg
def F_dump_Dynr15b : List IStmt := [
 ⟨some 85, .ixa 4 (.t 81) (.t 83), none⟩,
 ⟨some 86, .loadN 4 (.t 85), none⟩,
 ⟨some 7, .alloc 4 [.string ⟨#[]⟩, .bool false, .int .u64 0, .int .u64 0], none⟩,
 ⟨none, .store 4 (.t 7) (.t 86), none⟩]
def F_dump_Dynr15 : List IStmt := F_dump_Dynr15b
theorem F_dump_Dynr15_W {T : Tab} {env : Env} {H : Heap} {Q : Post} : W T (.reg F_dump_Dynr15) env H Q ↔ WR T F_dump_Dynr15 F_dump_Dynr15b env H none [] Q := w_reg
def F_dump_Dynr16b : List IStmt := [
 ⟨some 87, .fa 1 (.t 7), none⟩,
 ⟨some 88, .fa 0 (.t 87), none⟩,
 ⟨some 89, .load (.t 88), none⟩]
def F_dump_Dynr16 : List IStmt := F_dump_Dynr16b
theorem F_dump_Dynr16_W {T : Tab} {env : Env} {H : Heap} {Q : Post} : W T (.reg F_dump_Dynr16) env H Q ↔ WR T F_dump_Dynr16 F_dump_Dynr16b env H none [] Q := w_reg
def F_dump_Dynr17b : List IStmt := [
 ⟨some 90, .mv (.t 3), none⟩,
 ⟨some 91, .fa 0 (.t 7), none⟩,
 ⟨some 92, .load (.t 91), none⟩,
 ⟨some 93, .fa 1 (.t 7), none⟩,
 ⟨some 94, .fa 1 (.t 93), none⟩,
 ⟨some 95, .load (.t 94), none⟩,
 ⟨some 96, .callc 46 [(.t 95)], none⟩,
 ⟨some 97, .fa 1 (.t 7), none⟩,
 ⟨some 98, .fa 2 (.t 97), none⟩,
 ⟨some 99, .load (.t 98), none⟩,
 ⟨some 100, .callc 46 [(.t 99)], none⟩,
 ⟨some 101, .bsli 1 3 [.string ⟨#[]⟩] [(0, (.t 92)), (1, (.t 96)), (2, (.t 100))], none⟩,
 ⟨some 102, .call 39 [(.t 90), (.t 101)], none⟩]
def F_dump_Dynr17 : List IStmt := F_dump_Dynr17b
theorem F_dump_Dynr17_W {T : Tab} {env : Env} {H : Heap} {Q : Post} : W T (.dreg F_dump_Dynr17 []) env H Q ↔ WR T F_dump_Dynr17 F_dump_Dynr17b env H none [] Q := w_dreg0
def F_dump_Dynr18b : List IStmt := [
 ⟨some 103, .bin .add (.t 83) (.c (.int .i64 1)), none⟩,
 ⟨some 83, .mv (.t 103), none⟩]
def F_dump_Dynr18 : List IStmt := F_dump_Dynr18b
theorem F_dump_Dynr18_W {T : Tab} {env : Env} {H : Heap} {Q : Post} : W T (.reg F_dump_Dynr18) env H Q ↔ WR T F_dump_Dynr18 F_dump_Dynr18b env H none [] Q := w_reg
def F_dump_Dynl1b : ICode := (.seq (.reg F_dump_Dynr14) (.seq (.cond (.t 84) .skip (.exit 2)) (.seq (.block 3 (.seq (.reg F_dump_Dynr15) (.seq (.reg F_dump_Dynr16) (.cond (.t 89) (.dreg F_dump_Dynr17 []) .skip)))) (.reg F_dump_Dynr18))))
def F_dump_Dynl1 : ICode := F_dump_Dynl1b
theorem F_dump_Dynl1_W {T : Tab} {env : Env} {H : Heap} {Q : Post} : W T F_dump_Dynl1 env H Q ↔ W T F_dump_Dynl1b env H Q := Iff.rfl
def F_dump_Dynr19b : List IStmt := [
 ⟨some 104, .mv (.t 3), none⟩,
 ⟨some 105, .nilc (.t 104), none⟩,
 ⟨some 106, .fa 0 (.t 105), none⟩,
 ⟨some 107, .call 42 [(.t 106)], none⟩,
 ⟨some 2, .mv (.t 107), none⟩]
def F_dump_Dynr19 : List IStmt := F_dump_Dynr19b
theorem F_dump_Dynr19_W {T : Tab} {env : Env} {H : Heap} {Q : Post} : W T (.reg F_dump_Dynr19) env H Q ↔ WR T F_dump_Dynr19 F_dump_Dynr19b env H none [] Q := w_reg
def F_dump_Dyncb : ICode := (.seq (.reg F_dump_Dynr0) (.seq (.reg F_dump_Dynr1) (.seq (.seq (.reg F_dump_Dynr2) (.cond (.t 12) (.reg F_dump_Dynr3) .skip)) (.seq (.seq (.reg F_dump_Dynr4) (.cond (.t 20) (.reg F_dump_Dynr5) .skip)) (.seq (.seq (.reg F_dump_Dynr6) (.block 0 (.loop F_dump_Dynl0))) (.seq (.seq (.reg F_dump_Dynr11) (.cond (.t 47) (.dreg F_dump_Dynr12 []) .skip)) (.seq (.seq (.reg F_dump_Dynr13) (.block 2 (.loop F_dump_Dynl1))) (.seq (.reg F_dump_Dynr19) .ret))))))))
def F_dump_Dync : ICode := F_dump_Dyncb
theorem F_dump_Dync_W {T : Tab} {env : Env} {H : Heap} {Q : Post} : W T F_dump_Dync env H Q ↔ W T F_dump_Dyncb env H Q := Iff.rfl
def F_dump_Dyn : IFn := ⟨108, [.tmp 2], F_dump_Dync⟩
set_option linter.defProp false in
set_option maxRecDepth 100000 in
def N_dump_DynP := And.intro F_dump_Dynr0b.eq_1 (And.intro @F_dump_Dynr0_W (And.intro F_dump_Dynr1b.eq_1 (And.intro @F_dump_Dynr1_W (And.intro F_dump_Dynr2b.eq_1 (And.intro @F_dump_Dynr2_W (And.intro F_dump_Dynr3b.eq_1 (And.intro @F_dump_Dynr3_W (And.intro F_dump_Dynr4b.eq_1 (And.intro @F_dump_Dynr4_W (And.intro F_dump_Dynr5b.eq_1 (And.intro @F_dump_Dynr5_W (And.intro F_dump_Dynr6b.eq_1 (And.intro @F_dump_Dynr6_W (And.intro F_dump_Dynr7b.eq_1 (And.intro @F_dump_Dynr7_W (And.intro F_dump_Dynr8b.eq_1 (And.intro @F_dump_Dynr8_W (And.intro F_dump_Dynr9b.eq_1 (And.intro @F_dump_Dynr9_W (And.intro F_dump_Dynr10b.eq_1 (And.intro @F_dump_Dynr10_W (And.intro @F_dump_Dynl0_W (And.intro F_dump_Dynl0b.eq_1 (And.intro F_dump_Dynr11b.eq_1 (And.intro @F_dump_Dynr11_W (And.intro @F_dump_Dynr11_g2 (And.intro @F_dump_Dynr11_g6 (And.intro F_dump_Dynr12b.eq_1 (And.intro @F_dump_Dynr12_W (And.intro F_dump_Dynr13b.eq_1 (And.intro @F_dump_Dynr13_W (And.intro F_dump_Dynr14b.eq_1 (And.intro @F_dump_Dynr14_W (And.intro F_dump_Dynr15b.eq_1 (And.intro @F_dump_Dynr15_W (And.intro F_dump_Dynr16b.eq_1 (And.intro @F_dump_Dynr16_W (And.intro F_dump_Dynr17b.eq_1 (And.intro @F_dump_Dynr17_W (And.intro F_dump_Dynr18b.eq_1 (And.intro @F_dump_Dynr18_W (And.intro @F_dump_Dynl1_W (And.intro F_dump_Dynl1b.eq_1 (And.intro F_dump_Dynr19b.eq_1 (And.intro @F_dump_Dynr19_W (And.intro @F_dump_Dync_W (F_dump_Dyncb.eq_1)))))))))))))))))))))))))))))))))))))))))))))))
theorem N_dump_Dyn : type_of% N_dump_DynP := N_dump_DynP
set_option maxRecDepth 1000000 in
theorem F_dump_Dyn_chk : chkF Tryz.prog 17 F_dump_Dyn = true := by kernel_rfl

/-! ### dump_bind -/
def F_dump_bindr0b : List IStmt := [
 ⟨some 2, .mv (.c (.string ⟨#[]⟩)), none⟩]
def F_dump_bindr0 : List IStmt := F_dump_bindr0b
theorem F_dump_bindr0_W {T : Tab} {env : Env} {H : Heap} {Q : Post} : W T (.reg F_dump_bindr0) env H Q ↔ WR T F_dump_bindr0 F_dump_bindr0b env H none [] Q := w_reg
def F_dump_bindr1b : List IStmt := [
 ⟨some 4, .bld [.string ⟨#[]⟩, .string ⟨#[]⟩, .string ⟨#[]⟩] [(0, 1, (.c (.string ⟨#[108, 111, 99, 97, 108]⟩))), (1, 1, (.c (.string ⟨#[103, 108, 111, 98, 97, 108]⟩))), (2, 1, (.c (.string ⟨#[119, 101, 97, 107]⟩)))], none⟩,
 ⟨some 3, .alloc 1 [.string ⟨#[]⟩, .string ⟨#[]⟩, .string ⟨#[]⟩], none⟩,
 ⟨none, .store 3 (.t 3) (.t 4), none⟩]
def F_dump_bindr1 : List IStmt := F_dump_bindr1b
theorem F_dump_bindr1_W {T : Tab} {env : Env} {H : Heap} {Q : Post} : W T (.reg F_dump_bindr1) env H Q ↔ WR T F_dump_bindr1 F_dump_bindr1b env H none [] Q := w_reg
def F_dump_bindr2b : List IStmt := [
 ⟨some 5, .mv (.t 0), none⟩,
 ⟨some 6, .bin .lss (.t 5) (.c (.int .i64 0)), none⟩,
 ⟨some 7, .mv (.t 6), none⟩,
 ⟨some 8, .mv (.t 0), some (2, false)⟩,
 ⟨some 9, .bin .geq (.t 8) (.c (.int .i64 3)), some (2, false)⟩,
 ⟨some 10, .pick (.t 7) (.c (.bool true)) (.t 9), none⟩]
def F_dump_bindr2 : List IStmt := F_dump_bindr2b
theorem F_dump_bindr2_W {T : Tab} {env : Env} {H : Heap} {Q : Post} : W T (.reg F_dump_bindr2) env H Q ↔ WR T F_dump_bindr2 F_dump_bindr2b env H none [] Q := w_reg
theorem F_dump_bindr2_g2 {env : Env} : yieldI F_dump_bindr2 env 2 = bOf (env 7) := rfl
def F_dump_bindr3b : List IStmt := [
 ⟨some 11, .mv (.t 0), none⟩,
 ⟨some 12, .callc 49 [(.t 11)], none⟩,
 ⟨some 13, .bin .add (.c (.string ⟨#[98, 105, 110, 100, 32]⟩)) (.t 12), none⟩,
 ⟨some 2, .mv (.t 13), none⟩]
def F_dump_bindr3 : List IStmt := F_dump_bindr3b
theorem F_dump_bindr3_W {T : Tab} {env : Env} {H : Heap} {Q : Post} : W T (.reg F_dump_bindr3) env H Q ↔ WR T F_dump_bindr3 F_dump_bindr3b env H none [] Q := w_reg
def F_dump_bindr4b : List IStmt := [
 ⟨some 14, .mv (.t 0), none⟩,
 ⟨some 15, .ixr 3 1 (.t 3) (.t 14), none⟩,
 ⟨some 16, .load (.t 15), none⟩,
 ⟨some 2, .mv (.t 16), none⟩]
def F_dump_bindr4 : List IStmt := F_dump_bindr4b
theorem F_dump_bindr4_W {T : Tab} {env : Env} {H : Heap} {Q : Post} : W T (.reg F_dump_bindr4) env H Q ↔ WR T F_dump_bindr4 F_dump_bindr4b env H none [] Q := w_reg
def F_dump_bindcb : ICode := (.seq (.reg F_dump_bindr0) (.seq (.reg F_dump_bindr1) (.seq (.seq (.reg F_dump_bindr2) (.cond (.t 10) (.seq (.reg F_dump_bindr3) .ret) .skip)) (.seq (.reg F_dump_bindr4) .ret))))
def F_dump_bindc : ICode := F_dump_bindcb
theorem F_dump_bindc_W {T : Tab} {env : Env} {H : Heap} {Q : Post} : W T F_dump_bindc env H Q ↔ W T F_dump_bindcb env H Q := Iff.rfl
def F_dump_bind : IFn := ⟨17, [.tmp 2], F_dump_bindc⟩
set_option linter.defProp false in
set_option maxRecDepth 100000 in
def N_dump_bindP := And.intro F_dump_bindr0b.eq_1 (And.intro @F_dump_bindr0_W (And.intro F_dump_bindr1b.eq_1 (And.intro @F_dump_bindr1_W (And.intro F_dump_bindr2b.eq_1 (And.intro @F_dump_bindr2_W (And.intro @F_dump_bindr2_g2 (And.intro F_dump_bindr3b.eq_1 (And.intro @F_dump_bindr3_W (And.intro F_dump_bindr4b.eq_1 (And.intro @F_dump_bindr4_W (And.intro @F_dump_bindc_W (F_dump_bindcb.eq_1))))))))))))
theorem N_dump_bind : type_of% N_dump_bindP := N_dump_bindP
set_option maxRecDepth 1000000 in
theorem F_dump_bind_chk : chkF Tryz.prog 50 F_dump_bind = true := by kernel_rfl

/-! ### dump_with -/
def F_dump_withr0b : List IStmt := [
 ⟨some 4, .mv (.c (.string ⟨#[]⟩)), none⟩]
def F_dump_withr0 : List IStmt := F_dump_withr0b
theorem F_dump_withr0_W {T : Tab} {env : Env} {H : Heap} {Q : Post} : W T (.reg F_dump_withr0) env H Q ↔ WR T F_dump_withr0 F_dump_withr0b env H none [] Q := w_reg
def F_dump_withr1b : List IStmt := [
 ⟨some 5, .mv (.t 1), none⟩,
 ⟨some 6, .bin .eql (.t 5) (.c (.string ⟨#[]⟩)), none⟩]
def F_dump_withr1 : List IStmt := F_dump_withr1b
theorem F_dump_withr1_W {T : Tab} {env : Env} {H : Heap} {Q : Post} : W T (.reg F_dump_withr1) env H Q ↔ WR T F_dump_withr1 F_dump_withr1b env H none [] Q := w_reg
def F_dump_withr2b : List IStmt := [
 ⟨some 4, .mv (.c (.string ⟨#[]⟩)), none⟩]
def F_dump_withr2 : List IStmt := F_dump_withr2b
theorem F_dump_withr2_W {T : Tab} {env : Env} {H : Heap} {Q : Post} : W T (.reg F_dump_withr2) env H Q ↔ WR T F_dump_withr2 F_dump_withr2b env H none [] Q := w_reg
def F_dump_withr3b : List IStmt := [
 ⟨some 7, .mv (.t 0), none⟩,
 ⟨some 8, .bin .add (.t 7) (.c (.string ⟨#[32]⟩)), none⟩,
 ⟨some 9, .mv (.t 1), none⟩,
 ⟨some 10, .bin .add (.t 8) (.t 9), none⟩,
 ⟨some 4, .mv (.t 10), none⟩]
def F_dump_withr3 : List IStmt := F_dump_withr3b
theorem F_dump_withr3_W {T : Tab} {env : Env} {H : Heap} {Q : Post} : W T (.reg F_dump_withr3) env H Q ↔ WR T F_dump_withr3 F_dump_withr3b env H none [] Q := w_reg
def F_dump_withcb : ICode := (.seq (.reg F_dump_withr0) (.seq (.seq (.reg F_dump_withr1) (.cond (.t 6) (.seq (.reg F_dump_withr2) .ret) .skip)) (.seq (.reg F_dump_withr3) .ret)))
def F_dump_withc : ICode := F_dump_withcb
theorem F_dump_withc_W {T : Tab} {env : Env} {H : Heap} {Q : Post} : W T F_dump_withc env H Q ↔ W T F_dump_withcb env H Q := Iff.rfl
def F_dump_with : IFn := ⟨11, [.tmp 4], F_dump_withc⟩
set_option linter.defProp false in
set_option maxRecDepth 100000 in
def N_dump_withP := And.intro F_dump_withr0b.eq_1 (And.intro @F_dump_withr0_W (And.intro F_dump_withr1b.eq_1 (And.intro @F_dump_withr1_W (And.intro F_dump_withr2b.eq_1 (And.intro @F_dump_withr2_W (And.intro F_dump_withr3b.eq_1 (And.intro @F_dump_withr3_W (And.intro @F_dump_withc_W (F_dump_withcb.eq_1)))))))))
theorem N_dump_with : type_of% N_dump_withP := N_dump_withP
set_option maxRecDepth 1000000 in
theorem F_dump_with_chk : chkF Tryz.prog 51 F_dump_with = true := by kernel_rfl

/-! ### dump_Syms -/
def F_dump_Symsr0b : List IStmt := [
 ⟨some 2, .mv (.c (.string ⟨#[]⟩)), none⟩]
def F_dump_Symsr0 : List IStmt := F_dump_Symsr0b
theorem F_dump_Symsr0_W {T : Tab} {env : Env} {H : Heap} {Q : Post} : W T (.reg F_dump_Symsr0) env H Q ↔ WR T F_dump_Symsr0 F_dump_Symsr0b env H none [] Q := w_reg
def F_dump_Symsr1b : List IStmt := [
 ⟨some 7, .bld [.pointer none, .slice none 0 0] [], none⟩,
 ⟨some 8, .box 1000000084 (.t 7), none⟩,
 ⟨some 3, .mv (.t 8), none⟩]
def F_dump_Symsr1 : List IStmt := F_dump_Symsr1b
theorem F_dump_Symsr1_W {T : Tab} {env : Env} {H : Heap} {Q : Post} : W T (.reg F_dump_Symsr1) env H Q ↔ WR T F_dump_Symsr1 F_dump_Symsr1b env H none [] Q := w_reg
def F_dump_Symsr2b : List IStmt := [
 ⟨some 9, .mv (.t 0), none⟩,
 ⟨some 10, .len 1 (.t 9), none⟩,
 ⟨some 11, .mv (.c (.int .i64 0)), none⟩]
def F_dump_Symsr2 : List IStmt := F_dump_Symsr2b
theorem F_dump_Symsr2_W {T : Tab} {env : Env} {H : Heap} {Q : Post} : W T (.reg F_dump_Symsr2) env H Q ↔ WR T F_dump_Symsr2 F_dump_Symsr2b env H none [] Q := w_reg
def F_dump_Symsr3b : List IStmt := [
 ⟨some 12, .bin .lss (.t 11) (.t 10), none⟩]
def F_dump_Symsr3 : List IStmt := F_dump_Symsr3b
theorem F_dump_Symsr3_W {T : Tab} {env : Env} {H : Heap} {Q : Post} : W T (.reg F_dump_Symsr3) env H Q ↔ WR T F_dump_Symsr3 F_dump_Symsr3b env H none [] Q := w_reg
def F_dump_Symsr4b : List IStmt := [
 ⟨some 13, .mv (.t 11), none⟩,
 ⟨some 14, .ixa 7 (.t 9) (.t 11), none⟩,
 ⟨some 15, .loadN 7 (.t 14), none⟩,
 ⟨some 5, .alloc 7 [.string ⟨#[]⟩, .string ⟨#[]⟩, .bool false, .int .i64 0, .bool false, .int .u64 0, .int .u64 0], none⟩,
 ⟨some 4, .mv (.t 13), none⟩,
 ⟨none, .store 7 (.t 5) (.t 15), none⟩]
def F_dump_Symsr4 : List IStmt := F_dump_Symsr4b
theorem F_dump_Symsr4_W {T : Tab} {env : Env} {H : Heap} {Q : Post} : W T (.reg F_dump_Symsr4) env H Q ↔ WR T F_dump_Symsr4 F_dump_Symsr4b env H none [] Q := w_reg
def F_dump_Symsr5b : List IStmt := [
 ⟨some 16, .mv (.t 4), none⟩,
 ⟨some 17, .bin .eql (.t 16) (.c (.int .i64 0)), none⟩]
def F_dump_Symsr5 : List IStmt := F_dump_Symsr5b
theorem F_dump_Symsr5_W {T : Tab} {env : Env} {H : Heap} {Q : Post} : W T (.reg F_dump_Symsr5) env H Q ↔ WR T F_dump_Symsr5 F_dump_Symsr5b env H none [] Q := w_reg
def F_dump_Symsr6b : List IStmt := [
 ⟨some 6, .mv (.c (.string ⟨#[117, 110, 100, 101, 102, 105, 110, 101, 100]⟩)), none⟩]
def F_dump_Symsr6 : List IStmt := F_dump_Symsr6b
theorem F_dump_Symsr6_W {T : Tab} {env : Env} {H : Heap} {Q : Post} : W T (.reg F_dump_Symsr6) env H Q ↔ WR T F_dump_Symsr6 F_dump_Symsr6b env H none [] Q := w_reg
def F_dump_Symsr7b : List IStmt := [
 ⟨some 18, .fa 4 (.t 5), none⟩,
 ⟨some 19, .load (.t 18), none⟩]
def F_dump_Symsr7 : List IStmt := F_dump_Symsr7b
theorem F_dump_Symsr7_W {T : Tab} {env : Env} {H : Heap} {Q : Post} : W T (.reg F_dump_Symsr7) env H Q ↔ WR T F_dump_Symsr7 F_dump_Symsr7b env H none [] Q := w_reg
def F_dump_Symsr8b : List IStmt := [
 ⟨some 20, .fa 5 (.t 5), none⟩,
 ⟨some 21, .load (.t 20), none⟩,
 ⟨some 22, .callc 46 [(.t 21)], none⟩,
 ⟨some 6, .mv (.t 22), none⟩]
def F_dump_Symsr8 : List IStmt := F_dump_Symsr8b
theorem F_dump_Symsr8_W {T : Tab} {env : Env} {H : Heap} {Q : Post} : W T (.reg F_dump_Symsr8) env H Q ↔ WR T F_dump_Symsr8 F_dump_Symsr8b env H none [] Q := w_reg
def F_dump_Symsr9b : List IStmt := [
 ⟨some 23, .mv (.t 3), none⟩,
 ⟨some 24, .mv (.t 4), none⟩,
 ⟨some 25, .callc 49 [(.t 24)], none⟩,
 ⟨some 26, .fa 3 (.t 5), none⟩,
 ⟨some 27, .load (.t 26), none⟩,
 ⟨some 28, .callc 50 [(.t 27)], none⟩,
 ⟨some 29, .mv (.t 6), none⟩,
 ⟨some 30, .fa 6 (.t 5), none⟩,
 ⟨some 31, .load (.t 30), none⟩,
 ⟨some 32, .callc 46 [(.t 31)], none⟩,
 ⟨some 33, .fa 2 (.t 5), none⟩,
 ⟨some 34, .load (.t 33), none⟩,
 ⟨some 35, .callc 45 [(.t 34), (.c (.string ⟨#[104, 105, 100, 100, 101, 110]⟩))], none⟩,
 ⟨some 36, .fa 0 (.t 5), none⟩,
 ⟨some 37, .load (.t 36), none⟩,
 ⟨some 38, .fa 1 (.t 5), none⟩,
 ⟨some 39, .load (.t 38), none⟩,
 ⟨some 40, .callc 51 [(.c (.string ⟨#[118, 101, 114, 115, 105, 111, 110]⟩)), (.t 39)], none⟩,
 ⟨some 41, .bsli 1 8 [.string ⟨#[]⟩] [(0, (.c (.string ⟨#[115, 121, 109]⟩))), (1, (.t 25)), (2, (.t 28)), (3, (.t 29)), (4, (.t 32)), (5, (.t 35)), (6, (.t 37)), (7, (.t 40))], none⟩,
 ⟨some 42, .call 39 [(.t 23), (.t 41)], none⟩]
def F_dump_Symsr9 : List IStmt := F_dump_Symsr9b
theorem F_dump_Symsr9_W {T : Tab} {env : Env} {H : Heap} {Q : Post} : W T (.dreg F_dump_Symsr9 []) env H Q ↔ WR T F_dump_Symsr9 F_dump_Symsr9b env H none [] Q := w_dreg0
def F_dump_Symsr10b : List IStmt := [
 ⟨some 43, .bin .add (.t 11) (.c (.int .i64 1)), none⟩,
 ⟨some 11, .mv (.t 43), none⟩]
def F_dump_Symsr10 : List IStmt := F_dump_Symsr10b
theorem F_dump_Symsr10_W {T : Tab} {env : Env} {H : Heap} {Q : Post} : W T (.reg F_dump_Symsr10) env H Q ↔ WR T F_dump_Symsr10 F_dump_Symsr10b env H none [] Q := w_reg
def F_dump_Symsl0b : ICode := (.seq (.reg F_dump_Symsr3) (.seq (.cond (.t 12) .skip (.exit 0)) (.seq (.block 1 (.seq (.reg F_dump_Symsr4) (.seq (.seq (.reg F_dump_Symsr5) (.cond (.t 17) (.exit 1) .skip)) (.seq (.reg F_dump_Symsr6) (.seq (.seq (.reg F_dump_Symsr7) (.cond (.t 19) (.reg F_dump_Symsr8) .skip)) (.dreg F_dump_Symsr9 [])))))) (.reg F_dump_Symsr10))))
def F_dump_Symsl0 : ICode := F_dump_Symsl0b
theorem F_dump_Symsl0_W {T : Tab} {env : Env} {H : Heap} {Q : Post} : W T F_dump_Symsl0 env H Q ↔ W T F_dump_Symsl0b env H Q := Iff.rfl
def F_dump_Symsr11b : List IStmt := [
 ⟨some 44, .mv (.t 3), none⟩,
 ⟨some 45, .nilc (.t 44), none⟩,
 ⟨some 46, .fa 0 (.t 45), none⟩,
 ⟨some 47, .call 42 [(.t 46)], none⟩,
 ⟨some 2, .mv (.t 47), none⟩]
def F_dump_Symsr11 : List IStmt := F_dump_Symsr11b
theorem F_dump_Symsr11_W {T : Tab} {env : Env} {H : Heap} {Q : Post} : W T (.reg F_dump_Symsr11) env H Q ↔ WR T F_dump_Symsr11 F_dump_Symsr11b env H none [] Q := w_reg
def F_dump_Symscb : ICode := (.seq (.reg F_dump_Symsr0) (.seq (.reg F_dump_Symsr1) (.seq (.seq (.reg F_dump_Symsr2) (.block 0 (.loop F_dump_Symsl0))) (.seq (.reg F_dump_Symsr11) .ret))))
def F_dump_Symsc : ICode := F_dump_Symscb
theorem F_dump_Symsc_W {T : Tab} {env : Env} {H : Heap} {Q : Post} : W T F_dump_Symsc env H Q ↔ W T F_dump_Symscb env H Q := Iff.rfl
def F_dump_Syms : IFn := ⟨48, [.tmp 2], F_dump_Symsc⟩
set_option linter.defProp false in
set_option maxRecDepth 100000 in
def N_dump_SymsP := And.intro F_dump_Symsr0b.eq_1 (And.intro @F_dump_Symsr0_W (And.intro F_dump_Symsr1b.eq_1 (And.intro @F_dump_Symsr1_W (And.intro F_dump_Symsr2b.eq_1 (And.intro @F_dump_Symsr2_W (And.intro F_dump_Symsr3b.eq_1 (And.intro @F_dump_Symsr3_W (And.intro F_dump_Symsr4b.eq_1 (And.intro @F_dump_Symsr4_W (And.intro F_dump_Symsr5b.eq_1 (And.intro @F_dump_Symsr5_W (And.intro F_dump_Symsr6b.eq_1 (And.intro @F_dump_Symsr6_W (And.intro F_dump_Symsr7b.eq_1 (And.intro @F_dump_Symsr7_W (And.intro F_dump_Symsr8b.eq_1 (And.intro @F_dump_Symsr8_W (And.intro F_dump_Symsr9b.eq_1 (And.intro @F_dump_Symsr9_W (And.intro F_dump_Symsr10b.eq_1 (And.intro @F_dump_Symsr10_W (And.intro @F_dump_Symsl0_W (And.intro F_dump_Symsl0b.eq_1 (And.intro F_dump_Symsr11b.eq_1 (And.intro @F_dump_Symsr11_W (And.intro @F_dump_Symsc_W (F_dump_Symscb.eq_1)))))))))))))))))))))))))))
theorem N_dump_Syms : type_of% N_dump_SymsP := N_dump_SymsP
set_option maxRecDepth 1000000 in
theorem F_dump_Syms_chk : chkF Tryz.prog 19 F_dump_Syms = true := by kernel_rfl

/-! ### dump_Lib -/
def F_dump_Libr0b : List IStmt := [
 ⟨some 1, .box 60 (.t 0), none⟩,
 ⟨some 2, .mv (.c (.string ⟨#[]⟩)), none⟩]
def F_dump_Libr0 : List IStmt := F_dump_Libr0b
theorem F_dump_Libr0_W {T : Tab} {env : Env} {H : Heap} {Q : Post} : W T (.reg F_dump_Libr0) env H Q ↔ WR T F_dump_Libr0 F_dump_Libr0b env H none [] Q := w_reg
def F_dump_Libr1b : List IStmt := [
 ⟨some 3, .fa 0 (.t 1), none⟩,
 ⟨some 4, .loadN 16 (.t 3), none⟩,
 ⟨some 5, .callc 15 [(.t 4)], none⟩,
 ⟨some 6, .fa 16 (.t 1), none⟩,
 ⟨some 7, .loadN 40 (.t 6), none⟩,
 ⟨some 8, .callc 17 [(.t 7)], none⟩,
 ⟨some 9, .bin .add (.t 5) (.t 8), none⟩,
 ⟨some 10, .fa 56 (.t 1), none⟩,
 ⟨some 11, .load (.t 10), none⟩,
 ⟨some 12, .calll 19 [(.t 11)], none⟩,
 ⟨some 13, .bin .add (.t 9) (.t 12), none⟩,
 ⟨some 14, .fa 0 (.t 1), none⟩,
 ⟨some 15, .fa 0 (.t 14), none⟩,
 ⟨some 16, .load (.t 15), none⟩,
 ⟨some 17, .fa 57 (.t 1), none⟩,
 ⟨some 18, .load (.t 17), none⟩,
 ⟨some 19, .calll 21 [(.t 16), (.t 18)], none⟩,
 ⟨some 20, .bin .add (.t 13) (.t 19), none⟩,
 ⟨some 2, .mv (.t 20), none⟩]
def F_dump_Libr1 : List IStmt := F_dump_Libr1b
theorem F_dump_Libr1_W {T : Tab} {env : Env} {H : Heap} {Q : Post} : W T (.dreg F_dump_Libr1 [(13, 0), (15, 0)]) env H Q ↔ WR T F_dump_Libr1 F_dump_Libr1b env H (some []) [(13, 0), (15, 0)] Q := w_dreg
theorem F_dump_Libr1_len : F_dump_Libr1.length = 19 := rfl
theorem F_dump_Libr1_i13 : F_dump_Libr1[13]? = some ⟨some 16, .load (.t 15), none⟩ := rfl
theorem F_dump_Libr1_i15 : F_dump_Libr1[15]? = some ⟨some 18, .load (.t 17), none⟩ := rfl
def F_dump_Libcb : ICode := (.seq (.reg F_dump_Libr0) (.seq (.dreg F_dump_Libr1 [(13, 0), (15, 0)]) .ret))
def F_dump_Libc : ICode := F_dump_Libcb
theorem F_dump_Libc_W {T : Tab} {env : Env} {H : Heap} {Q : Post} : W T F_dump_Libc env H Q ↔ W T F_dump_Libcb env H Q := Iff.rfl
def F_dump_Lib : IFn := ⟨21, [.tmp 2], F_dump_Libc⟩
set_option linter.defProp false in
set_option maxRecDepth 100000 in
def N_dump_LibP := And.intro F_dump_Libr0b.eq_1 (And.intro @F_dump_Libr0_W (And.intro F_dump_Libr1b.eq_1 (And.intro @F_dump_Libr1_W (And.intro @F_dump_Libr1_len (And.intro @F_dump_Libr1_i13 (And.intro @F_dump_Libr1_i15 (And.intro @F_dump_Libc_W (F_dump_Libcb.eq_1))))))))
theorem N_dump_Lib : type_of% N_dump_LibP := N_dump_LibP
set_option maxRecDepth 1000000 in
theorem F_dump_Lib_chk : chkF Tryz.prog 23 F_dump_Lib = true := by kernel_rfl

/-! ### ref32_line -/
def F_ref32_liner0b : List IStmt := [
 ⟨some 2, .mv (.c (.string ⟨#[]⟩)), none⟩]
def F_ref32_liner0 : List IStmt := F_ref32_liner0b
theorem F_ref32_liner0_W {T : Tab} {env : Env} {H : Heap} {Q : Post} : W T (.reg F_ref32_liner0) env H Q ↔ WR T F_ref32_liner0 F_ref32_liner0b env H none [] Q := w_reg
def F_ref32_liner1b : List IStmt := [
 ⟨some 3, .mv (.c (.string ⟨#[]⟩)), none⟩]
def F_ref32_liner1 : List IStmt := F_ref32_liner1b
theorem F_ref32_liner1_W {T : Tab} {env : Env} {H : Heap} {Q : Post} : W T (.reg F_ref32_liner1) env H Q ↔ WR T F_ref32_liner1 F_ref32_liner1b env H none [] Q := w_reg
def F_ref32_liner2b : List IStmt := [
 ⟨some 4, .mv (.c (.int .i64 0)), none⟩]
def F_ref32_liner2 : List IStmt := F_ref32_liner2b
theorem F_ref32_liner2_W {T : Tab} {env : Env} {H : Heap} {Q : Post} : W T (.reg F_ref32_liner2) env H Q ↔ WR T F_ref32_liner2 F_ref32_liner2b env H none [] Q := w_reg
def F_ref32_liner3b : List IStmt := [
 ⟨some 5, .mv (.t 4), none⟩,
 ⟨some 6, .mv (.t 0), none⟩,
 ⟨some 7, .len 1 (.t 6), none⟩,
 ⟨some 8, .bin .lss (.t 5) (.t 7), none⟩]
def F_ref32_liner3 : List IStmt := F_ref32_liner3b
theorem F_ref32_liner3_W {T : Tab} {env : Env} {H : Heap} {Q : Post} : W T (.reg F_ref32_liner3) env H Q ↔ WR T F_ref32_liner3 F_ref32_liner3b env H none [] Q := w_reg
def F_ref32_liner5b : List IStmt := [
 ⟨some 11, .mv (.t 0), none⟩,
 ⟨some 12, .mv (.t 4), none⟩,
 ⟨some 13, .ixa 1 (.t 11) (.t 12), none⟩,
 ⟨some 14, .load (.t 13), none⟩,
 ⟨some 15, .bin .neq (.t 14) (.c (.string ⟨#[]⟩)), none⟩,
 ⟨some 16, .mv (.t 15), none⟩,
 ⟨some 17, .mv (.t 3), some (5, true)⟩,
 ⟨some 18, .bin .neq (.t 17) (.c (.string ⟨#[]⟩)), some (5, true)⟩,
 ⟨some 19, .pick (.t 16) (.t 18) (.c (.bool false)), none⟩]
def F_ref32_liner5 : List IStmt := F_ref32_liner5b
theorem F_ref32_liner5_W {T : Tab} {env : Env} {H : Heap} {Q : Post} : W T (.reg F_ref32_liner5) env H Q ↔ WR T F_ref32_liner5 F_ref32_liner5b env H none [] Q := w_reg
theorem F_ref32_liner5_g5 {env : Env} : yieldI F_ref32_liner5 env 5 = bOf (env 16) := rfl
def F_ref32_liner6b : List IStmt := [
 ⟨some 20, .mv (.t 3), none⟩,
 ⟨some 21, .bin .add (.t 20) (.c (.string ⟨#[32]⟩)), none⟩,
 ⟨some 3, .mv (.t 21), none⟩]
def F_ref32_liner6 : List IStmt := F_ref32_liner6b
theorem F_ref32_liner6_W {T : Tab} {env : Env} {H : Heap} {Q : Post} : W T (.reg F_ref32_liner6) env H Q ↔ WR T F_ref32_liner6 F_ref32_liner6b env H none [] Q := w_reg
def F_ref32_liner7b : List IStmt := [
 ⟨some 22, .mv (.t 3), none⟩,
 ⟨some 23, .mv (.t 0), none⟩,
 ⟨some 24, .mv (.t 4), none⟩,
 ⟨some 25, .ixa 1 (.t 23) (.t 24), none⟩,
 ⟨some 26, .load (.t 25), none⟩,
 ⟨some 27, .bin .add (.t 22) (.t 26), none⟩,
 ⟨some 3, .mv (.t 27), none⟩]
def F_ref32_liner7 : List IStmt := F_ref32_liner7b
theorem F_ref32_liner7_W {T : Tab} {env : Env} {H : Heap} {Q : Post} : W T (.reg F_ref32_liner7) env H Q ↔ WR T F_ref32_liner7 F_ref32_liner7b env H none [] Q := w_reg
def F_ref32_liner4b : List IStmt := [
 ⟨some 9, .mv (.t 4), none⟩,
 ⟨some 10, .bin .add (.t 9) (.c (.int .i64 1)), none⟩,
 ⟨some 4, .mv (.t 10), none⟩]
def F_ref32_liner4 : List IStmt := F_ref32_liner4b
theorem F_ref32_liner4_W {T : Tab} {env : Env} {H : Heap} {Q : Post} : W T (.reg F_ref32_liner4) env H Q ↔ WR T F_ref32_liner4 F_ref32_liner4b env H none [] Q := w_reg
def F_ref32_linel0b : ICode := (.seq (.seq (.reg F_ref32_liner3) (.cond (.t 8) .skip (.exit 0))) (.seq (.block 1 (.seq (.seq (.reg F_ref32_liner5) (.cond (.t 19) (.reg F_ref32_liner6) .skip)) (.reg F_ref32_liner7))) (.reg F_ref32_liner4)))
def F_ref32_linel0 : ICode := F_ref32_linel0b
theorem F_ref32_linel0_W {T : Tab} {env : Env} {H : Heap} {Q : Post} : W T F_ref32_linel0 env H Q ↔ W T F_ref32_linel0b env H Q := Iff.rfl
def F_ref32_liner8b : List IStmt := [
 ⟨some 28, .mv (.t 3), none⟩,
 ⟨some 29, .bin .add (.t 28) (.c (.string ⟨#[10]⟩)), none⟩,
 ⟨some 2, .mv (.t 29), none⟩]
def F_ref32_liner8 : List IStmt := F_ref32_liner8b
theorem F_ref32_liner8_W {T : Tab} {env : Env} {H : Heap} {Q : Post} : W T (.reg F_ref32_liner8) env H Q ↔ WR T F_ref32_liner8 F_ref32_liner8b env H none [] Q := w_reg
def F_ref32_linecb : ICode := (.seq (.reg F_ref32_liner0) (.seq (.reg F_ref32_liner1) (.seq (.seq (.reg F_ref32_liner2) (.block 0 (.loop F_ref32_linel0))) (.seq (.reg F_ref32_liner8) .ret))))
def F_ref32_linec : ICode := F_ref32_linecb
theorem F_ref32_linec_W {T : Tab} {env : Env} {H : Heap} {Q : Post} : W T F_ref32_linec env H Q ↔ W T F_ref32_linecb env H Q := Iff.rfl
def F_ref32_line : IFn := ⟨30, [.tmp 2], F_ref32_linec⟩
set_option linter.defProp false in
set_option maxRecDepth 100000 in
def N_ref32_lineP := And.intro F_ref32_liner0b.eq_1 (And.intro @F_ref32_liner0_W (And.intro F_ref32_liner1b.eq_1 (And.intro @F_ref32_liner1_W (And.intro F_ref32_liner2b.eq_1 (And.intro @F_ref32_liner2_W (And.intro F_ref32_liner3b.eq_1 (And.intro @F_ref32_liner3_W (And.intro F_ref32_liner5b.eq_1 (And.intro @F_ref32_liner5_W (And.intro @F_ref32_liner5_g5 (And.intro F_ref32_liner6b.eq_1 (And.intro @F_ref32_liner6_W (And.intro F_ref32_liner7b.eq_1 (And.intro @F_ref32_liner7_W (And.intro F_ref32_liner4b.eq_1 (And.intro @F_ref32_liner4_W (And.intro @F_ref32_linel0_W (And.intro F_ref32_linel0b.eq_1 (And.intro F_ref32_liner8b.eq_1 (And.intro @F_ref32_liner8_W (And.intro @F_ref32_linec_W (F_ref32_linecb.eq_1))))))))))))))))))))))
theorem N_ref32_line : type_of% N_ref32_lineP := N_ref32_lineP
set_option maxRecDepth 1000000 in
theorem F_ref32_line_chk : chkF Tryz.prog 47 F_ref32_line = true := by kernel_rfl

/-! ### ref32_hex -/
def F_ref32_hexr0b : List IStmt := [
 ⟨some 2, .mv (.c (.string ⟨#[]⟩)), none⟩]
def F_ref32_hexr0 : List IStmt := F_ref32_hexr0b
theorem F_ref32_hexr0_W {T : Tab} {env : Env} {H : Heap} {Q : Post} : W T (.reg F_ref32_hexr0) env H Q ↔ WR T F_ref32_hexr0 F_ref32_hexr0b env H none [] Q := w_reg
def F_ref32_hexr1b : List IStmt := [
 ⟨some 3, .mv (.t 0), none⟩,
 ⟨some 4, .callc 69 [(.t 3)], none⟩,
 ⟨some 2, .mv (.t 4), none⟩]
def F_ref32_hexr1 : List IStmt := F_ref32_hexr1b
theorem F_ref32_hexr1_W {T : Tab} {env : Env} {H : Heap} {Q : Post} : W T (.reg F_ref32_hexr1) env H Q ↔ WR T F_ref32_hexr1 F_ref32_hexr1b env H none [] Q := w_reg
def F_ref32_hexcb : ICode := (.seq (.reg F_ref32_hexr0) (.seq (.reg F_ref32_hexr1) .ret))
def F_ref32_hexc : ICode := F_ref32_hexcb
theorem F_ref32_hexc_W {T : Tab} {env : Env} {H : Heap} {Q : Post} : W T F_ref32_hexc env H Q ↔ W T F_ref32_hexcb env H Q := Iff.rfl
def F_ref32_hex : IFn := ⟨5, [.tmp 2], F_ref32_hexc⟩
set_option linter.defProp false in
set_option maxRecDepth 100000 in
def N_ref32_hexP := And.intro F_ref32_hexr0b.eq_1 (And.intro @F_ref32_hexr0_W (And.intro F_ref32_hexr1b.eq_1 (And.intro @F_ref32_hexr1_W (And.intro @F_ref32_hexc_W (F_ref32_hexcb.eq_1)))))
theorem N_ref32_hex : type_of% N_ref32_hexP := N_ref32_hexP
set_option maxRecDepth 1000000 in
theorem F_ref32_hex_chk : chkF Tryz.prog 48 F_ref32_hex = true := by kernel_rfl

/-! ### ref32_part -/
def F_ref32_partr0b : List IStmt := [
 ⟨some 3, .box 7 (.t 1), none⟩,
 ⟨some 4, .mv (.c (.string ⟨#[]⟩)), none⟩]
def F_ref32_partr0 : List IStmt := F_ref32_partr0b
theorem F_ref32_partr0_W {T : Tab} {env : Env} {H : Heap} {Q : Post} : W T (.reg F_ref32_partr0) env H Q ↔ WR T F_ref32_partr0 F_ref32_partr0b env H none [] Q := w_reg
def F_ref32_partr1b : List IStmt := [
 ⟨some 5, .mv (.c (.string ⟨#[]⟩)), none⟩]
def F_ref32_partr1 : List IStmt := F_ref32_partr1b
theorem F_ref32_partr1_W {T : Tab} {env : Env} {H : Heap} {Q : Post} : W T (.reg F_ref32_partr1) env H Q ↔ WR T F_ref32_partr1 F_ref32_partr1b env H none [] Q := w_reg
def F_ref32_partr2b : List IStmt := [
 ⟨some 6, .fa 1 (.t 3), none⟩,
 ⟨some 7, .load (.t 6), none⟩,
 ⟨some 8, .bin .quo (.t 7) (.c (.int .u32 4)), none⟩,
 ⟨some 9, .bin .rem (.t 8) (.c (.int .u32 2)), none⟩,
 ⟨some 10, .bin .eql (.t 9) (.c (.int .u32 1)), none⟩]
def F_ref32_partr2 : List IStmt := F_ref32_partr2b
theorem F_ref32_partr2_W {T : Tab} {env : Env} {H : Heap} {Q : Post} : W T (.reg F_ref32_partr2) env H Q ↔ WR T F_ref32_partr2 F_ref32_partr2b env H none [] Q := w_reg
def F_ref32_partr3b : List IStmt := [
 ⟨some 11, .mv (.t 5), none⟩,
 ⟨some 12, .bin .add (.t 11) (.c (.string ⟨#[114]⟩)), none⟩,
 ⟨some 5, .mv (.t 12), none⟩]
def F_ref32_partr3 : List IStmt := F_ref32_partr3b
theorem F_ref32_partr3_W {T : Tab} {env : Env} {H : Heap} {Q : Post} : W T (.reg F_ref32_partr3) env H Q ↔ WR T F_ref32_partr3 F_ref32_partr3b env H none [] Q := w_reg
def F_ref32_partr4b : List IStmt := [
 ⟨some 13, .mv (.t 5), none⟩,
 ⟨some 14, .bin .add (.t 13) (.c (.string ⟨#[45]⟩)), none⟩,
 ⟨some 5, .mv (.t 14), none⟩]
def F_ref32_partr4 : List IStmt := F_ref32_partr4b
theorem F_ref32_partr4_W {T : Tab} {env : Env} {H : Heap} {Q : Post} : W T (.reg F_ref32_partr4) env H Q ↔ WR T F_ref32_partr4 F_ref32_partr4b env H none [] Q := w_reg
def F_ref32_partr5b : List IStmt := [
 ⟨some 15, .fa 1 (.t 3), none⟩,
 ⟨some 16, .load (.t 15), none⟩,
 ⟨some 17, .bin .quo (.t 16) (.c (.int .u32 2)), none⟩,
 ⟨some 18, .bin .rem (.t 17) (.c (.int .u32 2)), none⟩,
 ⟨some 19, .bin .eql (.t 18) (.c (.int .u32 1)), none⟩]
def F_ref32_partr5 : List IStmt := F_ref32_partr5b
theorem F_ref32_partr5_W {T : Tab} {env : Env} {H : Heap} {Q : Post} : W T (.reg F_ref32_partr5) env H Q ↔ WR T F_ref32_partr5 F_ref32_partr5b env H none [] Q := w_reg
def F_ref32_partr6b : List IStmt := [
 ⟨some 20, .mv (.t 5), none⟩,
 ⟨some 21, .bin .add (.t 20) (.c (.string ⟨#[119]⟩)), none⟩,
 ⟨some 5, .mv (.t 21), none⟩]
def F_ref32_partr6 : List IStmt := F_ref32_partr6b
theorem F_ref32_partr6_W {T : Tab} {env : Env} {H : Heap} {Q : Post} : W T (.reg F_ref32_partr6) env H Q ↔ WR T F_ref32_partr6 F_ref32_partr6b env H none [] Q := w_reg
def F_ref32_partr7b : List IStmt := [
 ⟨some 22, .mv (.t 5), none⟩,
 ⟨some 23, .bin .add (.t 22) (.c (.string ⟨#[45]⟩)), none⟩,
 ⟨some 5, .mv (.t 23), none⟩]
def F_ref32_partr7 : List IStmt := F_ref32_partr7b
theorem F_ref32_partr7_W {T : Tab} {env : Env} {H : Heap} {Q : Post} : W T (.reg F_ref32_partr7) env H Q ↔ WR T F_ref32_partr7 F_ref32_partr7b env H none [] Q := w_reg
def F_ref32_partr8b : List IStmt := [
 ⟨some 24, .fa 1 (.t 3), none⟩,
 ⟨some 25, .load (.t 24), none⟩,
 ⟨some 26, .bin .rem (.t 25) (.c (.int .u32 2)), none⟩,
 ⟨some 27, .bin .eql (.t 26) (.c (.int .u32 1)), none⟩]
def F_ref32_partr8 : List IStmt := F_ref32_partr8b
theorem F_ref32_partr8_W {T : Tab} {env : Env} {H : Heap} {Q : Post} : W T (.reg F_ref32_partr8) env H Q ↔ WR T F_ref32_partr8 F_ref32_partr8b env H none [] Q := w_reg
def F_ref32_partr9b : List IStmt := [
 ⟨some 28, .mv (.t 5), none⟩,
 ⟨some 29, .bin .add (.t 28) (.c (.string ⟨#[120]⟩)), none⟩,
 ⟨some 5, .mv (.t 29), none⟩]
def F_ref32_partr9 : List IStmt := F_ref32_partr9b
theorem F_ref32_partr9_W {T : Tab} {env : Env} {H : Heap} {Q : Post} : W T (.reg F_ref32_partr9) env H Q ↔ WR T F_ref32_partr9 F_ref32_partr9b env H none [] Q := w_reg
def F_ref32_partr10b : List IStmt := [
 ⟨some 30, .mv (.t 5), none⟩,
 ⟨some 31, .bin .add (.t 30) (.c (.string ⟨#[45]⟩)), none⟩,
 ⟨some 5, .mv (.t 31), none⟩]
def F_ref32_partr10 : List IStmt := F_ref32_partr10b
theorem F_ref32_partr10_W {T : Tab} {env : Env} {H : Heap} {Q : Post} : W T (.reg F_ref32_partr10) env H Q ↔ WR T F_ref32_partr10 F_ref32_partr10b env H none [] Q := w_reg
def F_ref32_partr11b : List IStmt := [
 ⟨some 32, .mv (.t 0), none⟩,
 ⟨some 33, .fa 3 (.t 3), none⟩,
 ⟨some 34, .load (.t 33), none⟩,
 ⟨some 35, .callc 48 [(.t 34)], none⟩,
 ⟨some 36, .fa 5 (.t 3), none⟩,
 ⟨some 37, .load (.t 36), none⟩,
 ⟨some 38, .callc 48 [(.t 37)], none⟩,
 ⟨some 39, .mv (.t 5), none⟩,
 ⟨some 40, .fa 2 (.t 3), none⟩,
 ⟨some 41, .load (.t 40), none⟩,
 ⟨some 42, .callc 48 [(.t 41)], none⟩,
 ⟨some 43, .fa 4 (.t 3), none⟩,
 ⟨some 44, .load (.t 43), none⟩,
 ⟨some 45, .callc 48 [(.t 44)], none⟩,
 ⟨some 46, .bsli 1 6 [.string ⟨#[]⟩] [(0, (.t 32)), (1, (.t 35)), (2, (.t 38)), (3, (.t 39)), (4, (.t 42)), (5, (.t 45))], none⟩,
 ⟨some 47, .callc 47 [(.t 46)], none⟩,
 ⟨some 4, .mv (.t 47), none⟩]
def F_ref32_partr11 : List IStmt := F_ref32_partr11b
theorem F_ref32_partr11_W {T : Tab} {env : Env} {H : Heap} {Q : Post} : W T (.dreg F_ref32_partr11 []) env H Q ↔ WR T F_ref32_partr11 F_ref32_partr11b env H none [] Q := w_dreg0
def F_ref32_partcb : ICode := (.seq (.reg F_ref32_partr0) (.seq (.reg F_ref32_partr1) (.seq (.seq (.reg F_ref32_partr2) (.cond (.t 10) (.reg F_ref32_partr3) (.reg F_ref32_partr4))) (.seq (.seq (.reg F_ref32_partr5) (.cond (.t 19) (.reg F_ref32_partr6) (.reg F_ref32_partr7))) (.seq (.seq (.reg F_ref32_partr8) (.cond (.t 27) (.reg F_ref32_partr9) (.reg F_ref32_partr10))) (.seq (.dreg F_ref32_partr11 []) .ret))))))
def F_ref32_partc : ICode := F_ref32_partcb
theorem F_ref32_partc_W {T : Tab} {env : Env} {H : Heap} {Q : Post} : W T F_ref32_partc env H Q ↔ W T F_ref32_partcb env H Q := Iff.rfl
def F_ref32_part : IFn := ⟨48, [.tmp 4], F_ref32_partc⟩
set_option linter.defProp false in
set_option maxRecDepth 100000 in
def N_ref32_partP := And.intro F_ref32_partr0b.eq_1 (And.intro @F_ref32_partr0_W (And.intro F_ref32_partr1b.eq_1 (And.intro @F_ref32_partr1_W (And.intro F_ref32_partr2b.eq_1 (And.intro @F_ref32_partr2_W (And.intro F_ref32_partr3b.eq_1 (And.intro @F_ref32_partr3_W (And.intro F_ref32_partr4b.eq_1 (And.intro @F_ref32_partr4_W (And.intro F_ref32_partr5b.eq_1 (And.intro @F_ref32_partr5_W (And.intro F_ref32_partr6b.eq_1 (And.intro @F_ref32_partr6_W (And.intro F_ref32_partr7b.eq_1 (And.intro @F_ref32_partr7_W (And.intro F_ref32_partr8b.eq_1 (And.intro @F_ref32_partr8_W (And.intro F_ref32_partr9b.eq_1 (And.intro @F_ref32_partr9_W (And.intro F_ref32_partr10b.eq_1 (And.intro @F_ref32_partr10_W (And.intro F_ref32_partr11b.eq_1 (And.intro @F_ref32_partr11_W (And.intro @F_ref32_partc_W (F_ref32_partcb.eq_1)))))))))))))))))))))))))
theorem N_ref32_part : type_of% N_ref32_partP := N_ref32_partP
set_option maxRecDepth 1000000 in
theorem F_ref32_part_chk : chkF Tryz.prog 44 F_ref32_part = true := by kernel_rfl

/-! ### ref32_Heads -/
def F_ref32_Headsr0b : List IStmt := [
 ⟨some 1, .box 16 (.t 0), none⟩,
 ⟨some 2, .mv (.c (.string ⟨#[]⟩)), none⟩]
def F_ref32_Headsr0 : List IStmt := F_ref32_Headsr0b
theorem F_ref32_Headsr0_W {T : Tab} {env : Env} {H : Heap} {Q : Post} : W T (.reg F_ref32_Headsr0) env H Q ↔ WR T F_ref32_Headsr0 F_ref32_Headsr0b env H none [] Q := w_reg
def F_ref32_Headsr1b : List IStmt := [
 ⟨some 6, .fa 0 (.t 1), none⟩,
 ⟨some 7, .load (.t 6), none⟩,
 ⟨some 8, .conv .i64 (.t 7), none⟩,
 ⟨some 9, .callc 43 [(.t 8)], none⟩,
 ⟨some 3, .mv (.t 9), none⟩]
def F_ref32_Headsr1 : List IStmt := F_ref32_Headsr1b
theorem F_ref32_Headsr1_W {T : Tab} {env : Env} {H : Heap} {Q : Post} : W T (.reg F_ref32_Headsr1) env H Q ↔ WR T F_ref32_Headsr1 F_ref32_Headsr1b env H none [] Q := w_reg
def F_ref32_Headsr2b : List IStmt := [
 ⟨some 10, .fa 0 (.t 1), none⟩,
 ⟨some 11, .load (.t 10), none⟩,
 ⟨some 12, .bin .eql (.t 11) (.c (.int .u16 62)), none⟩]
def F_ref32_Headsr2 : List IStmt := F_ref32_Headsr2b
theorem F_ref32_Headsr2_W {T : Tab} {env : Env} {H : Heap} {Q : Post} : W T (.reg F_ref32_Headsr2) env H Q ↔ WR T F_ref32_Headsr2 F_ref32_Headsr2b env H none [] Q := w_reg
def F_ref32_Headsr3b : List IStmt := [
 ⟨some 3, .mv (.c (.string ⟨#[120, 56, 54, 45, 54, 52]⟩)), none⟩]
def F_ref32_Headsr3 : List IStmt := F_ref32_Headsr3b
theorem F_ref32_Headsr3_W {T : Tab} {env : Env} {H : Heap} {Q : Post} : W T (.reg F_ref32_Headsr3) env H Q ↔ WR T F_ref32_Headsr3 F_ref32_Headsr3b env H none [] Q := w_reg
def F_ref32_Headsr4b : List IStmt := [
 ⟨some 13, .fa 0 (.t 1), none⟩,
 ⟨some 14, .load (.t 13), none⟩,
 ⟨some 15, .bin .eql (.t 14) (.c (.int .u16 183)), none⟩]
def F_ref32_Headsr4 : List IStmt := F_ref32_Headsr4b
theorem F_ref32_Headsr4_W {T : Tab} {env : Env} {H : Heap} {Q : Post} : W T (.reg F_ref32_Headsr4) env H Q ↔ WR T F_ref32_Headsr4 F_ref32_Headsr4b env H none [] Q := w_reg
def F_ref32_Headsr5b : List IStmt := [
 ⟨some 3, .mv (.c (.string ⟨#[97, 97, 114, 99, 104, 54, 52]⟩)), none⟩]
def F_ref32_Headsr5 : List IStmt := F_ref32_Headsr5b
theorem F_ref32_Headsr5_W {T : Tab} {env : Env} {H : Heap} {Q : Post} : W T (.reg F_ref32_Headsr5) env H Q ↔ WR T F_ref32_Headsr5 F_ref32_Headsr5b env H none [] Q := w_reg
def F_ref32_Headsr6b : List IStmt := [
 ⟨some 16, .mv (.t 3), none⟩,
 ⟨some 17, .bin .add (.c (.string ⟨#[109, 97, 99, 104, 105, 110, 101, 32]⟩)) (.t 16), none⟩,
 ⟨some 18, .bin .add (.t 17) (.c (.string ⟨#[10]⟩)), none⟩,
 ⟨some 4, .mv (.t 18), none⟩]
def F_ref32_Headsr6 : List IStmt := F_ref32_Headsr6b
theorem F_ref32_Headsr6_W {T : Tab} {env : Env} {H : Heap} {Q : Post} : W T (.reg F_ref32_Headsr6) env H Q ↔ WR T F_ref32_Headsr6 F_ref32_Headsr6b env H none [] Q := w_reg
def F_ref32_Headsr7b : List IStmt := [
 ⟨some 5, .mv (.c (.int .i64 0)), none⟩]
def F_ref32_Headsr7 : List IStmt := F_ref32_Headsr7b
theorem F_ref32_Headsr7_W {T : Tab} {env : Env} {H : Heap} {Q : Post} : W T (.reg F_ref32_Headsr7) env H Q ↔ WR T F_ref32_Headsr7 F_ref32_Headsr7b env H none [] Q := w_reg
def F_ref32_Headsr8b : List IStmt := [
 ⟨some 19, .mv (.t 5), none⟩,
 ⟨some 20, .fa 1 (.t 1), none⟩,
 ⟨some 21, .load (.t 20), none⟩,
 ⟨some 22, .len 1 (.t 21), none⟩,
 ⟨some 23, .bin .lss (.t 19) (.t 22), none⟩]
def F_ref32_Headsr8 : List IStmt := F_ref32_Headsr8b
theorem F_ref32_Headsr8_W {T : Tab} {env : Env} {H : Heap} {Q : Post} : W T (.reg F_ref32_Headsr8) env H Q ↔ WR T F_ref32_Headsr8 F_ref32_Headsr8b env H none [] Q := w_reg
def F_ref32_Headsr10b : List IStmt := [
 ⟨some 26, .mv (.t 4), none⟩,
 ⟨some 27, .fa 1 (.t 1), none⟩,
 ⟨some 28, .load (.t 27), none⟩,
 ⟨some 29, .mv (.t 5), none⟩,
 ⟨some 30, .ixa 7 (.t 28) (.t 29), none⟩,
 ⟨some 31, .loadN 7 (.t 30), none⟩,
 ⟨some 32, .callc 44 [(.c (.string ⟨#[108, 111, 97, 100]⟩)), (.t 31)], none⟩,
 ⟨some 33, .bin .add (.t 26) (.t 32), none⟩,
 ⟨some 4, .mv (.t 33), none⟩]
def F_ref32_Headsr10 : List IStmt := F_ref32_Headsr10b
theorem F_ref32_Headsr10_W {T : Tab} {env : Env} {H : Heap} {Q : Post} : W T (.reg F_ref32_Headsr10) env H Q ↔ WR T F_ref32_Headsr10 F_ref32_Headsr10b env H none [] Q := w_reg
def F_ref32_Headsr9b : List IStmt := [
 ⟨some 24, .mv (.t 5), none⟩,
 ⟨some 25, .bin .add (.t 24) (.c (.int .i64 1)), none⟩,
 ⟨some 5, .mv (.t 25), none⟩]
def F_ref32_Headsr9 : List IStmt := F_ref32_Headsr9b
theorem F_ref32_Headsr9_W {T : Tab} {env : Env} {H : Heap} {Q : Post} : W T (.reg F_ref32_Headsr9) env H Q ↔ WR T F_ref32_Headsr9 F_ref32_Headsr9b env H none [] Q := w_reg
def F_ref32_Headsl0b : ICode := (.seq (.seq (.reg F_ref32_Headsr8) (.cond (.t 23) .skip (.exit 0))) (.seq (.block 1 (.reg F_ref32_Headsr10)) (.reg F_ref32_Headsr9)))
def F_ref32_Headsl0 : ICode := F_ref32_Headsl0b
theorem F_ref32_Headsl0_W {T : Tab} {env : Env} {H : Heap} {Q : Post} : W T F_ref32_Headsl0 env H Q ↔ W T F_ref32_Headsl0b env H Q := Iff.rfl
def F_ref32_Headsr11b : List IStmt := [
 ⟨some 34, .mv (.t 4), none⟩,
 ⟨some 35, .fa 2 (.t 1), none⟩,
 ⟨some 36, .loadN 7 (.t 35), none⟩,
 ⟨some 37, .callc 44 [(.c (.string ⟨#[100, 121, 110, 97, 109, 105, 99]⟩)), (.t 36)], none⟩,
 ⟨some 38, .bin .add (.t 34) (.t 37), none⟩,
 ⟨some 4, .mv (.t 38), none⟩]
def F_ref32_Headsr11 : List IStmt := F_ref32_Headsr11b
theorem F_ref32_Headsr11_W {T : Tab} {env : Env} {H : Heap} {Q : Post} : W T (.reg F_ref32_Headsr11) env H Q ↔ WR T F_ref32_Headsr11 F_ref32_Headsr11b env H none [] Q := w_reg
def F_ref32_Headsr12b : List IStmt := [
 ⟨some 39, .fa 9 (.t 1), none⟩,
 ⟨some 40, .fa 5 (.t 39), none⟩,
 ⟨some 41, .load (.t 40), none⟩,
 ⟨some 42, .bin .neq (.t 41) (.c (.int .u64 0)), none⟩]
def F_ref32_Headsr12 : List IStmt := F_ref32_Headsr12b
theorem F_ref32_Headsr12_W {T : Tab} {env : Env} {H : Heap} {Q : Post} : W T (.reg F_ref32_Headsr12) env H Q ↔ WR T F_ref32_Headsr12 F_ref32_Headsr12b env H none [] Q := w_reg
def F_ref32_Headsr13b : List IStmt := [
 ⟨some 43, .mv (.t 4), none⟩,
 ⟨some 44, .fa 9 (.t 1), none⟩,
 ⟨some 45, .loadN 7 (.t 44), none⟩,
 ⟨some 46, .callc 44 [(.c (.string ⟨#[114, 101, 108, 114, 111]⟩)), (.t 45)], none⟩,
 ⟨some 47, .bin .add (.t 43) (.t 46), none⟩,
 ⟨some 4, .mv (.t 47), none⟩]
def F_ref32_Headsr13 : List IStmt := F_ref32_Headsr13b
theorem F_ref32_Headsr13_W {T : Tab} {env : Env} {H : Heap} {Q : Post} : W T (.reg F_ref32_Headsr13) env H Q ↔ WR T F_ref32_Headsr13 F_ref32_Headsr13b env H none [] Q := w_reg
def F_ref32_Headsr14b : List IStmt := [
 ⟨some 48, .mv (.t 4), none⟩,
 ⟨some 2, .mv (.t 48), none⟩]
def F_ref32_Headsr14 : List IStmt := F_ref32_Headsr14b
theorem F_ref32_Headsr14_W {T : Tab} {env : Env} {H : Heap} {Q : Post} : W T (.reg F_ref32_Headsr14) env H Q ↔ WR T F_ref32_Headsr14 F_ref32_Headsr14b env H none [] Q := w_reg
def F_ref32_Headscb : ICode := (.seq (.reg F_ref32_Headsr0) (.seq (.reg F_ref32_Headsr1) (.seq (.seq (.reg F_ref32_Headsr2) (.cond (.t 12) (.reg F_ref32_Headsr3) .skip)) (.seq (.seq (.reg F_ref32_Headsr4) (.cond (.t 15) (.reg F_ref32_Headsr5) .skip)) (.seq (.reg F_ref32_Headsr6) (.seq (.seq (.reg F_ref32_Headsr7) (.block 0 (.loop F_ref32_Headsl0))) (.seq (.reg F_ref32_Headsr11) (.seq (.seq (.reg F_ref32_Headsr12) (.cond (.t 42) (.reg F_ref32_Headsr13) .skip)) (.seq (.reg F_ref32_Headsr14) .ret)))))))))
def F_ref32_Headsc : ICode := F_ref32_Headscb
theorem F_ref32_Headsc_W {T : Tab} {env : Env} {H : Heap} {Q : Post} : W T F_ref32_Headsc env H Q ↔ W T F_ref32_Headscb env H Q := Iff.rfl
def F_ref32_Heads : IFn := ⟨49, [.tmp 2], F_ref32_Headsc⟩
set_option linter.defProp false in
set_option maxRecDepth 100000 in
def N_ref32_HeadsP := And.intro F_ref32_Headsr0b.eq_1 (And.intro @F_ref32_Headsr0_W (And.intro F_ref32_Headsr1b.eq_1 (And.intro @F_ref32_Headsr1_W (And.intro F_ref32_Headsr2b.eq_1 (And.intro @F_ref32_Headsr2_W (And.intro F_ref32_Headsr3b.eq_1 (And.intro @F_ref32_Headsr3_W (And.intro F_ref32_Headsr4b.eq_1 (And.intro @F_ref32_Headsr4_W (And.intro F_ref32_Headsr5b.eq_1 (And.intro @F_ref32_Headsr5_W (And.intro F_ref32_Headsr6b.eq_1 (And.intro @F_ref32_Headsr6_W (And.intro F_ref32_Headsr7b.eq_1 (And.intro @F_ref32_Headsr7_W (And.intro F_ref32_Headsr8b.eq_1 (And.intro @F_ref32_Headsr8_W (And.intro F_ref32_Headsr10b.eq_1 (And.intro @F_ref32_Headsr10_W (And.intro F_ref32_Headsr9b.eq_1 (And.intro @F_ref32_Headsr9_W (And.intro @F_ref32_Headsl0_W (And.intro F_ref32_Headsl0b.eq_1 (And.intro F_ref32_Headsr11b.eq_1 (And.intro @F_ref32_Headsr11_W (And.intro F_ref32_Headsr12b.eq_1 (And.intro @F_ref32_Headsr12_W (And.intro F_ref32_Headsr13b.eq_1 (And.intro @F_ref32_Headsr13_W (And.intro F_ref32_Headsr14b.eq_1 (And.intro @F_ref32_Headsr14_W (And.intro @F_ref32_Headsc_W (F_ref32_Headscb.eq_1)))))))))))))))))))))))))))))))))
theorem N_ref32_Heads : type_of% N_ref32_HeadsP := N_ref32_HeadsP
set_option maxRecDepth 1000000 in
theorem F_ref32_Heads_chk : chkF Tryz.prog 16 F_ref32_Heads = true := by kernel_rfl

/-! ### ref32_Dyn -/
def F_ref32_Dynr0b : List IStmt := [
 ⟨some 1, .box 40 (.t 0), none⟩,
 ⟨some 2, .mv (.c (.string ⟨#[]⟩)), none⟩]
def F_ref32_Dynr0 : List IStmt := F_ref32_Dynr0b
theorem F_ref32_Dynr0_W {T : Tab} {env : Env} {H : Heap} {Q : Post} : W T (.reg F_ref32_Dynr0) env H Q ↔ WR T F_ref32_Dynr0 F_ref32_Dynr0b env H none [] Q := w_reg
def F_ref32_Dynr1b : List IStmt := [
 ⟨some 3, .mv (.c (.string ⟨#[]⟩)), none⟩]
def F_ref32_Dynr1 : List IStmt := F_ref32_Dynr1b
theorem F_ref32_Dynr1_W {T : Tab} {env : Env} {H : Heap} {Q : Post} : W T (.reg F_ref32_Dynr1) env H Q ↔ WR T F_ref32_Dynr1 F_ref32_Dynr1b env H none [] Q := w_reg
def F_ref32_Dynr2b : List IStmt := [
 ⟨some 9, .fa 0 (.t 1), none⟩,
 ⟨some 10, .load (.t 9), none⟩,
 ⟨some 11, .bin .neq (.t 10) (.c (.string ⟨#[]⟩)), none⟩]
def F_ref32_Dynr2 : List IStmt := F_ref32_Dynr2b
theorem F_ref32_Dynr2_W {T : Tab} {env : Env} {H : Heap} {Q : Post} : W T (.reg F_ref32_Dynr2) env H Q ↔ WR T F_ref32_Dynr2 F_ref32_Dynr2b env H none [] Q := w_reg
def F_ref32_Dynr3b : List IStmt := [
 ⟨some 12, .mv (.t 3), none⟩,
 ⟨some 13, .fa 0 (.t 1), none⟩,
 ⟨some 14, .load (.t 13), none⟩,
 ⟨some 15, .bin .add (.c (.string ⟨#[115, 111, 110, 97, 109, 101, 32]⟩)) (.t 14), none⟩,
 ⟨some 16, .bin .add (.t 15) (.c (.string ⟨#[10]⟩)), none⟩,
 ⟨some 17, .bin .add (.t 12) (.t 16), none⟩,
 ⟨some 3, .mv (.t 17), none⟩]
def F_ref32_Dynr3 : List IStmt := F_ref32_Dynr3b
theorem F_ref32_Dynr3_W {T : Tab} {env : Env} {H : Heap} {Q : Post} : W T (.reg F_ref32_Dynr3) env H Q ↔ WR T F_ref32_Dynr3 F_ref32_Dynr3b env H none [] Q := w_reg
def F_ref32_Dynr4b : List IStmt := [
 ⟨some 18, .fa 1 (.t 1), none⟩,
 ⟨some 19, .load (.t 18), none⟩,
 ⟨some 20, .bin .neq (.t 19) (.c (.string ⟨#[]⟩)), none⟩]
def F_ref32_Dynr4 : List IStmt := F_ref32_Dynr4b
theorem F_ref32_Dynr4_W {T : Tab} {env : Env} {H : Heap} {Q : Post} : W T (.reg F_ref32_Dynr4) env H Q ↔ WR T F_ref32_Dynr4 F_ref32_Dynr4b env H none [] Q := w_reg
def F_ref32_Dynr5b : List IStmt := [
 ⟨some 21, .mv (.t 3), none⟩,
 ⟨some 22, .fa 1 (.t 1), none⟩,
 ⟨some 23, .load (.t 22), none⟩,
 ⟨some 24, .bin .add (.c (.string ⟨#[114, 117, 110, 112, 97, 116, 104, 32]⟩)) (.t 23), none⟩,
 ⟨some 25, .bin .add (.t 24) (.c (.string ⟨#[10]⟩)), none⟩,
 ⟨some 26, .bin .add (.t 21) (.t 25), none⟩,
 ⟨some 3, .mv (.t 26), none⟩]
def F_ref32_Dynr5 : List IStmt := F_ref32_Dynr5b
theorem F_ref32_Dynr5_W {T : Tab} {env : Env} {H : Heap} {Q : Post} : W T (.reg F_ref32_Dynr5) env H Q ↔ WR T F_ref32_Dynr5 F_ref32_Dynr5b env H none [] Q := w_reg
def F_ref32_Dynr6b : List IStmt := [
 ⟨some 4, .mv (.c (.int .i64 0)), none⟩]
def F_ref32_Dynr6 : List IStmt := F_ref32_Dynr6b
theorem F_ref32_Dynr6_W {T : Tab} {env : Env} {H : Heap} {Q : Post} : W T (.reg F_ref32_Dynr6) env H Q ↔ WR T F_ref32_Dynr6 F_ref32_Dynr6b env H none [] Q := w_reg
def F_ref32_Dynr7b : List IStmt := [
 ⟨some 27, .mv (.t 4), none⟩,
 ⟨some 28, .fa 2 (.t 1), none⟩,
 ⟨some 29, .load (.t 28), none⟩,
 ⟨some 30, .len 1 (.t 29), none⟩,
 ⟨some 31, .bin .lss (.t 27) (.t 30), none⟩]
def F_ref32_Dynr7 : List IStmt := F_ref32_Dynr7b
theorem F_ref32_Dynr7_W {T : Tab} {env : Env} {H : Heap} {Q : Post} : W T (.reg F_ref32_Dynr7) env H Q ↔ WR T F_ref32_Dynr7 F_ref32_Dynr7b env H none [] Q := w_reg
def F_ref32_Dynr9b : List IStmt := [
 ⟨some 34, .mv (.t 3), none⟩,
 ⟨some 35, .fa 2 (.t 1), none⟩,
 ⟨some 36, .load (.t 35), none⟩,
 ⟨some 37, .mv (.t 4), none⟩,
 ⟨some 38, .ixa 1 (.t 36) (.t 37), none⟩,
 ⟨some 39, .load (.t 38), none⟩,
 ⟨some 40, .bsli 1 2 [.string ⟨#[]⟩] [(0, (.c (.string ⟨#[110, 101, 101, 100, 101, 100]⟩))), (1, (.t 39))], none⟩,
 ⟨some 41, .callc 47 [(.t 40)], none⟩,
 ⟨some 42, .bin .add (.t 34) (.t 41), none⟩,
 ⟨some 3, .mv (.t 42), none⟩]
def F_ref32_Dynr9 : List IStmt := F_ref32_Dynr9b
theorem F_ref32_Dynr9_W {T : Tab} {env : Env} {H : Heap} {Q : Post} : W T (.reg F_ref32_Dynr9) env H Q ↔ WR T F_ref32_Dynr9 F_ref32_Dynr9b env H none [] Q := w_reg
def F_ref32_Dynr8b : List IStmt := [
 ⟨some 32, .mv (.t 4), none⟩,
 ⟨some 33, .bin .add (.t 32) (.c (.int .i64 1)), none⟩,
 ⟨some 4, .mv (.t 33), none⟩]
def F_ref32_Dynr8 : List IStmt := F_ref32_Dynr8b
theorem F_ref32_Dynr8_W {T : Tab} {env : Env} {H : Heap} {Q : Post} : W T (.reg F_ref32_Dynr8) env H Q ↔ WR T F_ref32_Dynr8 F_ref32_Dynr8b env H none [] Q := w_reg
def F_ref32_Dynl0b : ICode := (.seq (.seq (.reg F_ref32_Dynr7) (.cond (.t 31) .skip (.exit 0))) (.seq (.block 1 (.reg F_ref32_Dynr9)) (.reg F_ref32_Dynr8)))
def F_ref32_Dynl0 : ICode := F_ref32_Dynl0b
theorem F_ref32_Dynl0_W {T : Tab} {env : Env} {H : Heap} {Q : Post} : W T F_ref32_Dynl0 env H Q ↔ W T F_ref32_Dynl0b env H Q := Iff.rfl
def F_ref32_Dynr10b : List IStmt := [
 ⟨some 5, .mv (.c (.string ⟨#[]⟩)), none⟩]
def F_ref32_Dynr10 : List IStmt := F_ref32_Dynr10b
theorem F_ref32_Dynr10_W {T : Tab} {env : Env} {H : Heap} {Q : Post} : W T (.reg F_ref32_Dynr10) env H Q ↔ WR T F_ref32_Dynr10 F_ref32_Dynr10b env H none [] Q := w_reg
def F_ref32_Dynr11b : List IStmt := [
 ⟨some 43, .fa 3 (.t 1), none⟩,
 ⟨some 44, .load (.t 43), none⟩]
def F_ref32_Dynr11 : List IStmt := F_ref32_Dynr11b
theorem F_ref32_Dynr11_W {T : Tab} {env : Env} {H : Heap} {Q : Post} : W T (.reg F_ref32_Dynr11) env H Q ↔ WR T F_ref32_Dynr11 F_ref32_Dynr11b env H none [] Q := w_reg
def F_ref32_Dynr12b : List IStmt := [
 ⟨some 45, .mv (.t 5), none⟩,
 ⟨some 46, .bin .add (.t 45) (.c (.string ⟨#[32, 115, 121, 109, 98, 111, 108, 105, 99]⟩)), none⟩,
 ⟨some 5, .mv (.t 46), none⟩]
def F_ref32_Dynr12 : List IStmt := F_ref32_Dynr12b
theorem F_ref32_Dynr12_W {T : Tab} {env : Env} {H : Heap} {Q : Post} : W T (.reg F_ref32_Dynr12) env H Q ↔ WR T F_ref32_Dynr12 F_ref32_Dynr12b env H none [] Q := w_reg
def F_ref32_Dynr13b : List IStmt := [
 ⟨some 47, .fa 4 (.t 1), none⟩,
 ⟨some 48, .load (.t 47), none⟩]
def F_ref32_Dynr13 : List IStmt := F_ref32_Dynr13b
theorem F_ref32_Dynr13_W {T : Tab} {env : Env} {H : Heap} {Q : Post} : W T (.reg F_ref32_Dynr13) env H Q ↔ WR T F_ref32_Dynr13 F_ref32_Dynr13b env H none [] Q := w_reg
def F_ref32_Dynr14b : List IStmt := [
 ⟨some 49, .mv (.t 5), none⟩,
 ⟨some 50, .bin .add (.t 49) (.c (.string ⟨#[32, 103, 108, 111, 98, 97, 108]⟩)), none⟩,
 ⟨some 5, .mv (.t 50), none⟩]
def F_ref32_Dynr14 : List IStmt := F_ref32_Dynr14b
theorem F_ref32_Dynr14_W {T : Tab} {env : Env} {H : Heap} {Q : Post} : W T (.reg F_ref32_Dynr14) env H Q ↔ WR T F_ref32_Dynr14 F_ref32_Dynr14b env H none [] Q := w_reg
def F_ref32_Dynr15b : List IStmt := [
 ⟨some 51, .fa 5 (.t 1), none⟩,
 ⟨some 52, .load (.t 51), none⟩]
def F_ref32_Dynr15 : List IStmt := F_ref32_Dynr15b
theorem F_ref32_Dynr15_W {T : Tab} {env : Env} {H : Heap} {Q : Post} : W T (.reg F_ref32_Dynr15) env H Q ↔ WR T F_ref32_Dynr15 F_ref32_Dynr15b env H none [] Q := w_reg
def F_ref32_Dynr16b : List IStmt := [
 ⟨some 53, .mv (.t 5), none⟩,
 ⟨some 54, .bin .add (.t 53) (.c (.string ⟨#[32, 110, 111, 100, 101, 108, 101, 116, 101]⟩)), none⟩,
 ⟨some 5, .mv (.t 54), none⟩]
def F_ref32_Dynr16 : List IStmt := F_ref32_Dynr16b
theorem F_ref32_Dynr16_W {T : Tab} {env : Env} {H : Heap} {Q : Post} : W T (.reg F_ref32_Dynr16) env H Q ↔ WR T F_ref32_Dynr16 F_ref32_Dynr16b env H none [] Q := w_reg
def F_ref32_Dynr17b : List IStmt := [
 ⟨some 55, .mv (.t 5), none⟩,
 ⟨some 56, .bin .neq (.t 55) (.c (.string ⟨#[]⟩)), none⟩]
def F_ref32_Dynr17 : List IStmt := F_ref32_Dynr17b
theorem F_ref32_Dynr17_W {T : Tab} {env : Env} {H : Heap} {Q : Post} : W T (.reg F_ref32_Dynr17) env H Q ↔ WR T F_ref32_Dynr17 F_ref32_Dynr17b env H none [] Q := w_reg
def F_ref32_Dynr18b : List IStmt := [
 ⟨some 57, .mv (.t 3), none⟩,
 ⟨some 58, .mv (.t 5), none⟩,
 ⟨some 59, .bin .add (.c (.string ⟨#[102, 108, 97, 103, 115]⟩)) (.t 58), none⟩,
 ⟨some 60, .bin .add (.t 59) (.c (.string ⟨#[10]⟩)), none⟩,
 ⟨some 61, .bin .add (.t 57) (.t 60), none⟩,
 ⟨some 3, .mv (.t 61), none⟩]
def F_ref32_Dynr18 : List IStmt := F_ref32_Dynr18b
theorem F_ref32_Dynr18_W {T : Tab} {env : Env} {H : Heap} {Q : Post} : W T (.reg F_ref32_Dynr18) env H Q ↔ WR T F_ref32_Dynr18 F_ref32_Dynr18b env H none [] Q := w_reg
def F_ref32_Dynr19b : List IStmt := [
 ⟨some 62, .bsli 1 7 [.string ⟨#[]⟩] [(0, (.c (.string ⟨#[114, 101, 108]⟩))), (1, (.c (.string ⟨#[114, 101, 108, 97]⟩))), (2, (.c (.string ⟨#[112, 108, 116]⟩))), (3, (.c (.string ⟨#[114, 101, 108, 114]⟩))), (4, (.c (.string ⟨#[112, 97, 99, 107, 101, 100]⟩))), (5, (.c (.string ⟨#[105, 110, 105, 116]⟩))), (6, (.c (.string ⟨#[102, 105, 110, 105]⟩)))], none⟩,
 ⟨some 6, .mv (.t 62), none⟩]
def F_ref32_Dynr19 : List IStmt := F_ref32_Dynr19b
theorem F_ref32_Dynr19_W {T : Tab} {env : Env} {H : Heap} {Q : Post} : W T (.reg F_ref32_Dynr19) env H Q ↔ WR T F_ref32_Dynr19 F_ref32_Dynr19b env H none [] Q := w_reg
def F_ref32_Dynr20b : List IStmt := [
 ⟨some 63, .fa 17 (.t 1), none⟩,
 ⟨some 64, .loadN 3 (.t 63), none⟩,
 ⟨some 65, .fa 20 (.t 1), none⟩,
 ⟨some 66, .loadN 3 (.t 65), none⟩,
 ⟨some 67, .fa 23 (.t 1), none⟩,
 ⟨some 68, .loadN 3 (.t 67), none⟩,
 ⟨some 69, .fa 26 (.t 1), none⟩,
 ⟨some 70, .loadN 3 (.t 69), none⟩,
 ⟨some 71, .fa 29 (.t 1), none⟩,
 ⟨some 72, .loadN 3 (.t 71), none⟩,
 ⟨some 73, .fa 34 (.t 1), none⟩,
 ⟨some 74, .loadN 3 (.t 73), none⟩,
 ⟨some 75, .fa 37 (.t 1), none⟩,
 ⟨some 76, .loadN 3 (.t 75), none⟩,
 ⟨some 77, .bsli 3 7 [.bool false, .int .u64 0, .int .u64 0] [(0, (.t 64)), (1, (.t 66)), (2, (.t 68)), (3, (.t 70)), (4, (.t 72)), (5, (.t 74)), (6, (.t 76))], none⟩,
 ⟨some 7, .mv (.t 77), none⟩]
def F_ref32_Dynr20 : List IStmt := F_ref32_Dynr20b
theorem F_ref32_Dynr20_W {T : Tab} {env : Env} {H : Heap} {Q : Post} : W T (.reg F_ref32_Dynr20) env H Q ↔ WR T F_ref32_Dynr20 F_ref32_Dynr20b env H none [] Q := w_reg
def F_ref32_Dynr21b : List IStmt := [
 ⟨some 8, .mv (.c (.int .i64 0)), none⟩]
def F_ref32_Dynr21 : List IStmt := F_ref32_Dynr21b
theorem F_ref32_Dynr21_W {T : Tab} {env : Env} {H : Heap} {Q : Post} : W T (.reg F_ref32_Dynr21) env H Q ↔ WR T F_ref32_Dynr21 F_ref32_Dynr21b env H none [] Q := w_reg
def F_ref32_Dynr22b : List IStmt := [
 ⟨some 78, .mv (.t 8), none⟩,
 ⟨some 79, .bin .lss (.t 78) (.c (.int .i64 7)), none⟩]
def F_ref32_Dynr22 : List IStmt := F_ref32_Dynr22b
theorem F_ref32_Dynr22_W {T : Tab} {env : Env} {H : Heap} {Q : Post} : W T (.reg F_ref32_Dynr22) env H Q ↔ WR T F_ref32_Dynr22 F_ref32_Dynr22b env H none [] Q := w_reg
def F_ref32_Dynr24b : List IStmt := [
 ⟨some 82, .mv (.t 7), none⟩,
 ⟨some 83, .mv (.t 8), none⟩,
 ⟨some 84, .ixa 3 (.t 82) (.t 83), none⟩,
 ⟨some 85, .fa 0 (.t 84), none⟩,
 ⟨some 86, .load (.t 85), none⟩]
def F_ref32_Dynr24 : List IStmt := F_ref32_Dynr24b
theorem F_ref32_Dynr24_W {T : Tab} {env : Env} {H : Heap} {Q : Post} : W T (.reg F_ref32_Dynr24) env H Q ↔ WR T F_ref32_Dynr24 F_ref32_Dynr24b env H none [] Q := w_reg
def F_ref32_Dynr25b : List IStmt := [
 ⟨some 87, .mv (.t 3), none⟩,
 ⟨some 88, .mv (.t 6), none⟩,
 ⟨some 89, .mv (.t 8), none⟩,
 ⟨some 90, .ixa 1 (.t 88) (.t 89), none⟩,
 ⟨some 91, .load (.t 90), none⟩,
 ⟨some 92, .mv (.t 7), none⟩,
 ⟨some 93, .mv (.t 8), none⟩,
 ⟨some 94, .ixa 3 (.t 92) (.t 93), none⟩,
 ⟨some 95, .fa 1 (.t 94), none⟩,
 ⟨some 96, .load (.t 95), none⟩,
 ⟨some 97, .callc 48 [(.t 96)], none⟩,
 ⟨some 98, .mv (.t 7), none⟩,
 ⟨some 99, .mv (.t 8), none⟩,
 ⟨some 100, .ixa 3 (.t 98) (.t 99), none⟩,
 ⟨some 101, .fa 2 (.t 100), none⟩,
 ⟨some 102, .load (.t 101), none⟩,
 ⟨some 103, .callc 48 [(.t 102)], none⟩,
 ⟨some 104, .bsli 1 3 [.string ⟨#[]⟩] [(0, (.t 91)), (1, (.t 97)), (2, (.t 103))], none⟩,
 ⟨some 105, .callc 47 [(.t 104)], none⟩,
 ⟨some 106, .bin .add (.t 87) (.t 105), none⟩,
 ⟨some 3, .mv (.t 106), none⟩]
def F_ref32_Dynr25 : List IStmt := F_ref32_Dynr25b
theorem F_ref32_Dynr25_W {T : Tab} {env : Env} {H : Heap} {Q : Post} : W T (.dreg F_ref32_Dynr25 []) env H Q ↔ WR T F_ref32_Dynr25 F_ref32_Dynr25b env H none [] Q := w_dreg0
def F_ref32_Dynr23b : List IStmt := [
 ⟨some 80, .mv (.t 8), none⟩,
 ⟨some 81, .bin .add (.t 80) (.c (.int .i64 1)), none⟩,
 ⟨some 8, .mv (.t 81), none⟩]
def F_ref32_Dynr23 : List IStmt := F_ref32_Dynr23b
theorem F_ref32_Dynr23_W {T : Tab} {env : Env} {H : Heap} {Q : Post} : W T (.reg F_ref32_Dynr23) env H Q ↔ WR T F_ref32_Dynr23 F_ref32_Dynr23b env H none [] Q := w_reg
def F_ref32_Dynl1b : ICode := (.seq (.seq (.reg F_ref32_Dynr22) (.cond (.t 79) .skip (.exit 2))) (.seq (.block 3 (.seq (.reg F_ref32_Dynr24) (.cond (.t 86) (.dreg F_ref32_Dynr25 []) .skip))) (.reg F_ref32_Dynr23)))
def F_ref32_Dynl1 : ICode := F_ref32_Dynl1b
theorem F_ref32_Dynl1_W {T : Tab} {env : Env} {H : Heap} {Q : Post} : W T F_ref32_Dynl1 env H Q ↔ W T F_ref32_Dynl1b env H Q := Iff.rfl
def F_ref32_Dynr26b : List IStmt := [
 ⟨some 107, .mv (.t 3), none⟩,
 ⟨some 2, .mv (.t 107), none⟩]
def F_ref32_Dynr26 : List IStmt := F_ref32_Dynr26b
theorem F_ref32_Dynr26_W {T : Tab} {env : Env} {H : Heap} {Q : Post} : W T (.reg F_ref32_Dynr26) env H Q ↔ WR T F_ref32_Dynr26 F_ref32_Dynr26b env H none [] Q := w_reg
def F_ref32_Dyncb : ICode := (.seq (.reg F_ref32_Dynr0) (.seq (.reg F_ref32_Dynr1) (.seq (.seq (.reg F_ref32_Dynr2) (.cond (.t 11) (.reg F_ref32_Dynr3) .skip)) (.seq (.seq (.reg F_ref32_Dynr4) (.cond (.t 20) (.reg F_ref32_Dynr5) .skip)) (.seq (.seq (.reg F_ref32_Dynr6) (.block 0 (.loop F_ref32_Dynl0))) (.seq (.reg F_ref32_Dynr10) (.seq (.seq (.reg F_ref32_Dynr11) (.cond (.t 44) (.reg F_ref32_Dynr12) .skip)) (.seq (.seq (.reg F_ref32_Dynr13) (.cond (.t 48) (.reg F_ref32_Dynr14) .skip)) (.seq (.seq (.reg F_ref32_Dynr15) (.cond (.t 52) (.reg F_ref32_Dynr16) .skip)) (.seq (.seq (.reg F_ref32_Dynr17) (.cond (.t 56) (.reg F_ref32_Dynr18) .skip)) (.seq (.reg F_ref32_Dynr19) (.seq (.reg F_ref32_Dynr20) (.seq (.seq (.reg F_ref32_Dynr21) (.block 2 (.loop F_ref32_Dynl1))) (.seq (.reg F_ref32_Dynr26) .ret))))))))))))))
def F_ref32_Dync : ICode := F_ref32_Dyncb
theorem F_ref32_Dync_W {T : Tab} {env : Env} {H : Heap} {Q : Post} : W T F_ref32_Dync env H Q ↔ W T F_ref32_Dyncb env H Q := Iff.rfl
def F_ref32_Dyn : IFn := ⟨108, [.tmp 2], F_ref32_Dync⟩
set_option linter.defProp false in
set_option maxRecDepth 100000 in
def N_ref32_DynP := And.intro F_ref32_Dynr0b.eq_1 (And.intro @F_ref32_Dynr0_W (And.intro F_ref32_Dynr1b.eq_1 (And.intro @F_ref32_Dynr1_W (And.intro F_ref32_Dynr2b.eq_1 (And.intro @F_ref32_Dynr2_W (And.intro F_ref32_Dynr3b.eq_1 (And.intro @F_ref32_Dynr3_W (And.intro F_ref32_Dynr4b.eq_1 (And.intro @F_ref32_Dynr4_W (And.intro F_ref32_Dynr5b.eq_1 (And.intro @F_ref32_Dynr5_W (And.intro F_ref32_Dynr6b.eq_1 (And.intro @F_ref32_Dynr6_W (And.intro F_ref32_Dynr7b.eq_1 (And.intro @F_ref32_Dynr7_W (And.intro F_ref32_Dynr9b.eq_1 (And.intro @F_ref32_Dynr9_W (And.intro F_ref32_Dynr8b.eq_1 (And.intro @F_ref32_Dynr8_W (And.intro @F_ref32_Dynl0_W (And.intro F_ref32_Dynl0b.eq_1 (And.intro F_ref32_Dynr10b.eq_1 (And.intro @F_ref32_Dynr10_W (And.intro F_ref32_Dynr11b.eq_1 (And.intro @F_ref32_Dynr11_W (And.intro F_ref32_Dynr12b.eq_1 (And.intro @F_ref32_Dynr12_W (And.intro F_ref32_Dynr13b.eq_1 (And.intro @F_ref32_Dynr13_W (And.intro F_ref32_Dynr14b.eq_1 (And.intro @F_ref32_Dynr14_W (And.intro F_ref32_Dynr15b.eq_1 (And.intro @F_ref32_Dynr15_W (And.intro F_ref32_Dynr16b.eq_1 (And.intro @F_ref32_Dynr16_W (And.intro F_ref32_Dynr17b.eq_1 (And.intro @F_ref32_Dynr17_W (And.intro F_ref32_Dynr18b.eq_1 (And.intro @F_ref32_Dynr18_W (And.intro F_ref32_Dynr19b.eq_1 (And.intro @F_ref32_Dynr19_W (And.intro F_ref32_Dynr20b.eq_1 (And.intro @F_ref32_Dynr20_W (And.intro F_ref32_Dynr21b.eq_1 (And.intro @F_ref32_Dynr21_W (And.intro F_ref32_Dynr22b.eq_1 (And.intro @F_ref32_Dynr22_W (And.intro F_ref32_Dynr24b.eq_1 (And.intro @F_ref32_Dynr24_W (And.intro F_ref32_Dynr25b.eq_1 (And.intro @F_ref32_Dynr25_W (And.intro F_ref32_Dynr23b.eq_1 (And.intro @F_ref32_Dynr23_W (And.intro @F_ref32_Dynl1_W (And.intro F_ref32_Dynl1b.eq_1 (And.intro F_ref32_Dynr26b.eq_1 (And.intro @F_ref32_Dynr26_W (And.intro @F_ref32_Dync_W (F_ref32_Dyncb.eq_1)))))))))))))))))))))))))))))))))))))))))))))))))))))))))))
theorem N_ref32_Dyn : type_of% N_ref32_DynP := N_ref32_DynP
set_option maxRecDepth 1000000 in
theorem F_ref32_Dyn_chk : chkF Tryz.prog 18 F_ref32_Dyn = true := by kernel_rfl

/-! ### ref32_Syms -/
def F_ref32_Symsr0b : List IStmt := [
 ⟨some 2, .mv (.c (.string ⟨#[]⟩)), none⟩]
def F_ref32_Symsr0 : List IStmt := F_ref32_Symsr0b
theorem F_ref32_Symsr0_W {T : Tab} {env : Env} {H : Heap} {Q : Post} : W T (.reg F_ref32_Symsr0) env H Q ↔ WR T F_ref32_Symsr0 F_ref32_Symsr0b env H none [] Q := w_reg
def F_ref32_Symsr1b : List IStmt := [
 ⟨some 3, .mv (.c (.string ⟨#[]⟩)), none⟩]
def F_ref32_Symsr1 : List IStmt := F_ref32_Symsr1b
theorem F_ref32_Symsr1_W {T : Tab} {env : Env} {H : Heap} {Q : Post} : W T (.reg F_ref32_Symsr1) env H Q ↔ WR T F_ref32_Symsr1 F_ref32_Symsr1b env H none [] Q := w_reg
def F_ref32_Symsr2b : List IStmt := [
 ⟨some 4, .mv (.c (.int .i64 1)), none⟩]
def F_ref32_Symsr2 : List IStmt := F_ref32_Symsr2b
theorem F_ref32_Symsr2_W {T : Tab} {env : Env} {H : Heap} {Q : Post} : W T (.reg F_ref32_Symsr2) env H Q ↔ WR T F_ref32_Symsr2 F_ref32_Symsr2b env H none [] Q := w_reg
def F_ref32_Symsr3b : List IStmt := [
 ⟨some 8, .mv (.t 4), none⟩,
 ⟨some 9, .mv (.t 0), none⟩,
 ⟨some 10, .len 1 (.t 9), none⟩,
 ⟨some 11, .bin .lss (.t 8) (.t 10), none⟩]
def F_ref32_Symsr3 : List IStmt := F_ref32_Symsr3b
theorem F_ref32_Symsr3_W {T : Tab} {env : Env} {H : Heap} {Q : Post} : W T (.reg F_ref32_Symsr3) env H Q ↔ WR T F_ref32_Symsr3 F_ref32_Symsr3b env H none [] Q := w_reg
def F_ref32_Symsr5b : List IStmt := [
 ⟨some 14, .mv (.t 0), none⟩,
 ⟨some 15, .mv (.t 4), none⟩,
 ⟨some 16, .ixa 7 (.t 14) (.t 15), none⟩,
 ⟨some 17, .loadN 7 (.t 16), none⟩,
 ⟨some 5, .alloc 7 [.string ⟨#[]⟩, .string ⟨#[]⟩, .bool false, .int .i64 0, .bool false, .int .u64 0, .int .u64 0], none⟩,
 ⟨none, .store 7 (.t 5) (.t 17), none⟩]
def F_ref32_Symsr5 : List IStmt := F_ref32_Symsr5b
theorem F_ref32_Symsr5_W {T : Tab} {env : Env} {H : Heap} {Q : Post} : W T (.reg F_ref32_Symsr5) env H Q ↔ WR T F_ref32_Symsr5 F_ref32_Symsr5b env H none [] Q := w_reg
def F_ref32_Symsr6b : List IStmt := [
 ⟨some 18, .fa 3 (.t 5), none⟩,
 ⟨some 19, .load (.t 18), none⟩,
 ⟨some 20, .callc 43 [(.t 19)], none⟩,
 ⟨some 21, .bin .add (.c (.string ⟨#[98, 105, 110, 100, 32]⟩)) (.t 20), none⟩,
 ⟨some 6, .mv (.t 21), none⟩]
def F_ref32_Symsr6 : List IStmt := F_ref32_Symsr6b
theorem F_ref32_Symsr6_W {T : Tab} {env : Env} {H : Heap} {Q : Post} : W T (.reg F_ref32_Symsr6) env H Q ↔ WR T F_ref32_Symsr6 F_ref32_Symsr6b env H none [] Q := w_reg
def F_ref32_Symsr7b : List IStmt := [
 ⟨some 22, .fa 3 (.t 5), none⟩,
 ⟨some 23, .load (.t 22), none⟩]
def F_ref32_Symsr7 : List IStmt := F_ref32_Symsr7b
theorem F_ref32_Symsr7_W {T : Tab} {env : Env} {H : Heap} {Q : Post} : W T (.reg F_ref32_Symsr7) env H Q ↔ WR T F_ref32_Symsr7 F_ref32_Symsr7b env H none [] Q := w_reg
def F_ref32_Symsr8b : List IStmt := [
 ⟨some 25, .bin .eql (.t 23) (.c (.int .i64 0)), none⟩,
 ⟨some 24, .mv (.t 25), none⟩]
def F_ref32_Symsr8 : List IStmt := F_ref32_Symsr8b
theorem F_ref32_Symsr8_W {T : Tab} {env : Env} {H : Heap} {Q : Post} : W T (.reg F_ref32_Symsr8) env H Q ↔ WR T F_ref32_Symsr8 F_ref32_Symsr8b env H none [] Q := w_reg
def F_ref32_Symsr9b : List IStmt := [
 ⟨some 6, .mv (.c (.string ⟨#[108, 111, 99, 97, 108]⟩)), none⟩]
def F_ref32_Symsr9 : List IStmt := F_ref32_Symsr9b
theorem F_ref32_Symsr9_W {T : Tab} {env : Env} {H : Heap} {Q : Post} : W T (.reg F_ref32_Symsr9) env H Q ↔ WR T F_ref32_Symsr9 F_ref32_Symsr9b env H none [] Q := w_reg
def F_ref32_Symsr10b : List IStmt := [
 ⟨some 27, .bin .eql (.t 23) (.c (.int .i64 1)), none⟩,
 ⟨some 26, .mv (.t 27), none⟩]
def F_ref32_Symsr10 : List IStmt := F_ref32_Symsr10b
theorem F_ref32_Symsr10_W {T : Tab} {env : Env} {H : Heap} {Q : Post} : W T (.reg F_ref32_Symsr10) env H Q ↔ WR T F_ref32_Symsr10 F_ref32_Symsr10b env H none [] Q := w_reg
def F_ref32_Symsr11b : List IStmt := [
 ⟨some 6, .mv (.c (.string ⟨#[103, 108, 111, 98, 97, 108]⟩)), none⟩]
def F_ref32_Symsr11 : List IStmt := F_ref32_Symsr11b
theorem F_ref32_Symsr11_W {T : Tab} {env : Env} {H : Heap} {Q : Post} : W T (.reg F_ref32_Symsr11) env H Q ↔ WR T F_ref32_Symsr11 F_ref32_Symsr11b env H none [] Q := w_reg
def F_ref32_Symsr12b : List IStmt := [
 ⟨some 29, .bin .eql (.t 23) (.c (.int .i64 2)), none⟩,
 ⟨some 28, .mv (.t 29), none⟩]
def F_ref32_Symsr12 : List IStmt := F_ref32_Symsr12b
theorem F_ref32_Symsr12_W {T : Tab} {env : Env} {H : Heap} {Q : Post} : W T (.reg F_ref32_Symsr12) env H Q ↔ WR T F_ref32_Symsr12 F_ref32_Symsr12b env H none [] Q := w_reg
def F_ref32_Symsr13b : List IStmt := [
 ⟨some 6, .mv (.c (.string ⟨#[119, 101, 97, 107]⟩)), none⟩]
def F_ref32_Symsr13 : List IStmt := F_ref32_Symsr13b
theorem F_ref32_Symsr13_W {T : Tab} {env : Env} {H : Heap} {Q : Post} : W T (.reg F_ref32_Symsr13) env H Q ↔ WR T F_ref32_Symsr13 F_ref32_Symsr13b env H none [] Q := w_reg
def F_ref32_Symsr14b : List IStmt := [
 ⟨some 30, .mv (.t 4), none⟩,
 ⟨some 31, .callc 43 [(.t 30)], none⟩,
 ⟨some 32, .mv (.t 6), none⟩,
 ⟨some 33, .fa 6 (.t 5), none⟩,
 ⟨some 34, .load (.t 33), none⟩,
 ⟨some 35, .callc 48 [(.t 34)], none⟩,
 ⟨some 36, .bsl 1 5 [.string ⟨#[]⟩] [(0, (.c (.string ⟨#[115, 121, 109]⟩))), (1, (.t 31)), (2, (.t 32)), (3, (.c (.string ⟨#[117, 110, 100, 101, 102, 105, 110, 101, 100]⟩))), (4, (.t 35))], none⟩,
 ⟨some 7, .mv (.t 36), none⟩]
def F_ref32_Symsr14 : List IStmt := F_ref32_Symsr14b
theorem F_ref32_Symsr14_W {T : Tab} {env : Env} {H : Heap} {Q : Post} : W T (.dreg F_ref32_Symsr14 []) env H Q ↔ WR T F_ref32_Symsr14 F_ref32_Symsr14b env H none [] Q := w_dreg0
def F_ref32_Symsr15b : List IStmt := [
 ⟨some 37, .fa 4 (.t 5), none⟩,
 ⟨some 38, .load (.t 37), none⟩]
def F_ref32_Symsr15 : List IStmt := F_ref32_Symsr15b
theorem F_ref32_Symsr15_W {T : Tab} {env : Env} {H : Heap} {Q : Post} : W T (.reg F_ref32_Symsr15) env H Q ↔ WR T F_ref32_Symsr15 F_ref32_Symsr15b env H none [] Q := w_reg
def F_ref32_Symsr16b : List IStmt := [
 ⟨some 39, .mv (.t 7), none⟩,
 ⟨some 40, .fa 5 (.t 5), none⟩,
 ⟨some 41, .load (.t 40), none⟩,
 ⟨some 42, .callc 48 [(.t 41)], none⟩,
 ⟨some 43, .ixa 1 (.t 39) (.c (.int .i64 3)), none⟩,
 ⟨none, .store 1 (.t 43) (.t 42), none⟩]
def F_ref32_Symsr16 : List IStmt := F_ref32_Symsr16b
theorem F_ref32_Symsr16_W {T : Tab} {env : Env} {H : Heap} {Q : Post} : W T (.reg F_ref32_Symsr16) env H Q ↔ WR T F_ref32_Symsr16 F_ref32_Symsr16b env H none [] Q := w_reg
def F_ref32_Symsr17b : List IStmt := [
 ⟨some 44, .fa 2 (.t 5), none⟩,
 ⟨some 45, .load (.t 44), none⟩]
def F_ref32_Symsr17 : List IStmt := F_ref32_Symsr17b
theorem F_ref32_Symsr17_W {T : Tab} {env : Env} {H : Heap} {Q : Post} : W T (.reg F_ref32_Symsr17) env H Q ↔ WR T F_ref32_Symsr17 F_ref32_Symsr17b env H none [] Q := w_reg
def F_ref32_Symsr18b : List IStmt := [
 ⟨some 46, .mv (.t 7), none⟩,
 ⟨some 47, .bsli 1 1 [.string ⟨#[]⟩] [(0, (.c (.string ⟨#[104, 105, 100, 100, 101, 110]⟩)))], none⟩,
 ⟨some 48, .app 1 16 (.t 46) (.t 47), none⟩,
 ⟨some 7, .mv (.t 48), none⟩]
def F_ref32_Symsr18 : List IStmt := F_ref32_Symsr18b
theorem F_ref32_Symsr18_W {T : Tab} {env : Env} {H : Heap} {Q : Post} : W T (.reg F_ref32_Symsr18) env H Q ↔ WR T F_ref32_Symsr18 F_ref32_Symsr18b env H none [] Q := w_reg
def F_ref32_Symsr19b : List IStmt := [
 ⟨some 49, .mv (.t 7), none⟩,
 ⟨some 50, .fa 0 (.t 5), none⟩,
 ⟨some 51, .load (.t 50), none⟩,
 ⟨some 52, .bsli 1 1 [.string ⟨#[]⟩] [(0, (.t 51))], none⟩,
 ⟨some 53, .app 1 16 (.t 49) (.t 52), none⟩,
 ⟨some 7, .mv (.t 53), none⟩]
def F_ref32_Symsr19 : List IStmt := F_ref32_Symsr19b
theorem F_ref32_Symsr19_W {T : Tab} {env : Env} {H : Heap} {Q : Post} : W T (.reg F_ref32_Symsr19) env H Q ↔ WR T F_ref32_Symsr19 F_ref32_Symsr19b env H none [] Q := w_reg
def F_ref32_Symsr20b : List IStmt := [
 ⟨some 54, .fa 1 (.t 5), none⟩,
 ⟨some 55, .load (.t 54), none⟩,
 ⟨some 56, .bin .neq (.t 55) (.c (.string ⟨#[]⟩)), none⟩]
def F_ref32_Symsr20 : List IStmt := F_ref32_Symsr20b
theorem F_ref32_Symsr20_W {T : Tab} {env : Env} {H : Heap} {Q : Post} : W T (.reg F_ref32_Symsr20) env H Q ↔ WR T F_ref32_Symsr20 F_ref32_Symsr20b env H none [] Q := w_reg
def F_ref32_Symsr21b : List IStmt := [
 ⟨some 57, .mv (.t 7), none⟩,
 ⟨some 58, .fa 1 (.t 5), none⟩,
 ⟨some 59, .load (.t 58), none⟩,
 ⟨some 60, .bsli 1 2 [.string ⟨#[]⟩] [(0, (.c (.string ⟨#[118, 101, 114, 115, 105, 111, 110]⟩))), (1, (.t 59))], none⟩,
 ⟨some 61, .app 1 16 (.t 57) (.t 60), none⟩,
 ⟨some 7, .mv (.t 61), none⟩]
def F_ref32_Symsr21 : List IStmt := F_ref32_Symsr21b
theorem F_ref32_Symsr21_W {T : Tab} {env : Env} {H : Heap} {Q : Post} : W T (.reg F_ref32_Symsr21) env H Q ↔ WR T F_ref32_Symsr21 F_ref32_Symsr21b env H none [] Q := w_reg
def F_ref32_Symsr22b : List IStmt := [
 ⟨some 62, .mv (.t 3), none⟩,
 ⟨some 63, .mv (.t 7), none⟩,
 ⟨some 64, .calll 47 [(.t 63)], none⟩,
 ⟨some 65, .bin .add (.t 62) (.t 64), none⟩,
 ⟨some 3, .mv (.t 65), none⟩]
def F_ref32_Symsr22 : List IStmt := F_ref32_Symsr22b
theorem F_ref32_Symsr22_W {T : Tab} {env : Env} {H : Heap} {Q : Post} : W T (.reg F_ref32_Symsr22) env H Q ↔ WR T F_ref32_Symsr22 F_ref32_Symsr22b env H none [] Q := w_reg
def F_ref32_Symsr4b : List IStmt := [
 ⟨some 12, .mv (.t 4), none⟩,
 ⟨some 13, .bin .add (.t 12) (.c (.int .i64 1)), none⟩,
 ⟨some 4, .mv (.t 13), none⟩]
def F_ref32_Symsr4 : List IStmt := F_ref32_Symsr4b
theorem F_ref32_Symsr4_W {T : Tab} {env : Env} {H : Heap} {Q : Post} : W T (.reg F_ref32_Symsr4) env H Q ↔ WR T F_ref32_Symsr4 F_ref32_Symsr4b env H none [] Q := w_reg
def F_ref32_Symsl0b : ICode := (.seq (.seq (.reg F_ref32_Symsr3) (.cond (.t 11) .skip (.exit 0))) (.seq (.block 1 (.seq (.reg F_ref32_Symsr5) (.seq (.reg F_ref32_Symsr6) (.seq (.seq (.reg F_ref32_Symsr7) (.block 2 (.seq (.reg F_ref32_Symsr8) (.cond (.t 24) (.reg F_ref32_Symsr9) (.seq (.reg F_ref32_Symsr10) (.cond (.t 26) (.reg F_ref32_Symsr11) (.seq (.reg F_ref32_Symsr12) (.cond (.t 28) (.reg F_ref32_Symsr13) .skip)))))))) (.seq (.dreg F_ref32_Symsr14 []) (.seq (.seq (.reg F_ref32_Symsr15) (.cond (.t 38) (.reg F_ref32_Symsr16) .skip)) (.seq (.seq (.reg F_ref32_Symsr17) (.cond (.t 45) (.reg F_ref32_Symsr18) .skip)) (.seq (.reg F_ref32_Symsr19) (.seq (.seq (.reg F_ref32_Symsr20) (.cond (.t 56) (.reg F_ref32_Symsr21) .skip)) (.reg F_ref32_Symsr22)))))))))) (.reg F_ref32_Symsr4)))
def F_ref32_Symsl0 : ICode := F_ref32_Symsl0b
theorem F_ref32_Symsl0_W {T : Tab} {env : Env} {H : Heap} {Q : Post} : W T F_ref32_Symsl0 env H Q ↔ W T F_ref32_Symsl0b env H Q := Iff.rfl
def F_ref32_Symsr23b : List IStmt := [
 ⟨some 66, .mv (.t 3), none⟩,
 ⟨some 2, .mv (.t 66), none⟩]
def F_ref32_Symsr23 : List IStmt := F_ref32_Symsr23b
theorem F_ref32_Symsr23_W {T : Tab} {env : Env} {H : Heap} {Q : Post} : W T (.reg F_ref32_Symsr23) env H Q ↔ WR T F_ref32_Symsr23 F_ref32_Symsr23b env H none [] Q := w_reg
def F_ref32_Symscb : ICode := (.seq (.reg F_ref32_Symsr0) (.seq (.reg F_ref32_Symsr1) (.seq (.seq (.reg F_ref32_Symsr2) (.block 0 (.loop F_ref32_Symsl0))) (.seq (.reg F_ref32_Symsr23) .ret))))
def F_ref32_Symsc : ICode := F_ref32_Symscb
theorem F_ref32_Symsc_W {T : Tab} {env : Env} {H : Heap} {Q : Post} : W T F_ref32_Symsc env H Q ↔ W T F_ref32_Symscb env H Q := Iff.rfl
def F_ref32_Syms : IFn := ⟨67, [.tmp 2], F_ref32_Symsc⟩
set_option linter.defProp false in
set_option maxRecDepth 100000 in
def N_ref32_SymsP := And.intro F_ref32_Symsr0b.eq_1 (And.intro @F_ref32_Symsr0_W (And.intro F_ref32_Symsr1b.eq_1 (And.intro @F_ref32_Symsr1_W (And.intro F_ref32_Symsr2b.eq_1 (And.intro @F_ref32_Symsr2_W (And.intro F_ref32_Symsr3b.eq_1 (And.intro @F_ref32_Symsr3_W (And.intro F_ref32_Symsr5b.eq_1 (And.intro @F_ref32_Symsr5_W (And.intro F_ref32_Symsr6b.eq_1 (And.intro @F_ref32_Symsr6_W (And.intro F_ref32_Symsr7b.eq_1 (And.intro @F_ref32_Symsr7_W (And.intro F_ref32_Symsr8b.eq_1 (And.intro @F_ref32_Symsr8_W (And.intro F_ref32_Symsr9b.eq_1 (And.intro @F_ref32_Symsr9_W (And.intro F_ref32_Symsr10b.eq_1 (And.intro @F_ref32_Symsr10_W (And.intro F_ref32_Symsr11b.eq_1 (And.intro @F_ref32_Symsr11_W (And.intro F_ref32_Symsr12b.eq_1 (And.intro @F_ref32_Symsr12_W (And.intro F_ref32_Symsr13b.eq_1 (And.intro @F_ref32_Symsr13_W (And.intro F_ref32_Symsr14b.eq_1 (And.intro @F_ref32_Symsr14_W (And.intro F_ref32_Symsr15b.eq_1 (And.intro @F_ref32_Symsr15_W (And.intro F_ref32_Symsr16b.eq_1 (And.intro @F_ref32_Symsr16_W (And.intro F_ref32_Symsr17b.eq_1 (And.intro @F_ref32_Symsr17_W (And.intro F_ref32_Symsr18b.eq_1 (And.intro @F_ref32_Symsr18_W (And.intro F_ref32_Symsr19b.eq_1 (And.intro @F_ref32_Symsr19_W (And.intro F_ref32_Symsr20b.eq_1 (And.intro @F_ref32_Symsr20_W (And.intro F_ref32_Symsr21b.eq_1 (And.intro @F_ref32_Symsr21_W (And.intro F_ref32_Symsr22b.eq_1 (And.intro @F_ref32_Symsr22_W (And.intro F_ref32_Symsr4b.eq_1 (And.intro @F_ref32_Symsr4_W (And.intro @F_ref32_Symsl0_W (And.intro F_ref32_Symsl0b.eq_1 (And.intro F_ref32_Symsr23b.eq_1 (And.intro @F_ref32_Symsr23_W (And.intro @F_ref32_Symsc_W (F_ref32_Symscb.eq_1)))))))))))))))))))))))))))))))))))))))))))))))))))
theorem N_ref32_Syms : type_of% N_ref32_SymsP := N_ref32_SymsP
set_option maxRecDepth 1000000 in
theorem F_ref32_Syms_chk : chkF Tryz.prog 20 F_ref32_Syms = true := by kernel_rfl

/-! ### ref32_Rels -/
def F_ref32_Relsr0b : List IStmt := [
 ⟨some 4, .mv (.c (.string ⟨#[]⟩)), none⟩]
def F_ref32_Relsr0 : List IStmt := F_ref32_Relsr0b
theorem F_ref32_Relsr0_W {T : Tab} {env : Env} {H : Heap} {Q : Post} : W T (.reg F_ref32_Relsr0) env H Q ↔ WR T F_ref32_Relsr0 F_ref32_Relsr0b env H none [] Q := w_reg
def F_ref32_Relsr1b : List IStmt := [
 ⟨some 5, .mv (.c (.string ⟨#[]⟩)), none⟩]
def F_ref32_Relsr1 : List IStmt := F_ref32_Relsr1b
theorem F_ref32_Relsr1_W {T : Tab} {env : Env} {H : Heap} {Q : Post} : W T (.reg F_ref32_Relsr1) env H Q ↔ WR T F_ref32_Relsr1 F_ref32_Relsr1b env H none [] Q := w_reg
def F_ref32_Relsr2b : List IStmt := [
 ⟨some 6, .mv (.c (.int .i64 0)), none⟩]
def F_ref32_Relsr2 : List IStmt := F_ref32_Relsr2b
theorem F_ref32_Relsr2_W {T : Tab} {env : Env} {H : Heap} {Q : Post} : W T (.reg F_ref32_Relsr2) env H Q ↔ WR T F_ref32_Relsr2 F_ref32_Relsr2b env H none [] Q := w_reg
def F_ref32_Relsr3b : List IStmt := [
 ⟨some 10, .mv (.t 6), none⟩,
 ⟨some 11, .mv (.t 1), none⟩,
 ⟨some 12, .len 1 (.t 11), none⟩,
 ⟨some 13, .bin .lss (.t 10) (.t 12), none⟩]
def F_ref32_Relsr3 : List IStmt := F_ref32_Relsr3b
theorem F_ref32_Relsr3_W {T : Tab} {env : Env} {H : Heap} {Q : Post} : W T (.reg F_ref32_Relsr3) env H Q ↔ WR T F_ref32_Relsr3 F_ref32_Relsr3b env H none [] Q := w_reg
def F_ref32_Relsr5b : List IStmt := [
 ⟨some 16, .mv (.t 1), none⟩,
 ⟨some 17, .mv (.t 6), none⟩,
 ⟨some 18, .ixa 5 (.t 16) (.t 17), none⟩,
 ⟨some 19, .loadN 5 (.t 18), none⟩,
 ⟨some 7, .alloc 5 [.int .u64 0, .int .u32 0, .int .u32 0, .int .i64 0, .bool false], none⟩,
 ⟨none, .store 5 (.t 7) (.t 19), none⟩]
def F_ref32_Relsr5 : List IStmt := F_ref32_Relsr5b
theorem F_ref32_Relsr5_W {T : Tab} {env : Env} {H : Heap} {Q : Post} : W T (.reg F_ref32_Relsr5) env H Q ↔ WR T F_ref32_Relsr5 F_ref32_Relsr5b env H none [] Q := w_reg
def F_ref32_Relsr6b : List IStmt := [
 ⟨some 20, .bsli 1 5 [.string ⟨#[]⟩] [(0, (.c (.string ⟨#[116, 121, 112, 101]⟩))), (1, (.c (.string ⟨#[110, 111, 110, 101]⟩))), (2, (.c (.string ⟨#[97, 98, 115, 111, 108, 117, 116, 101]⟩))), (3, (.c (.string ⟨#[114, 101, 108, 97, 116, 105, 118, 101]⟩))), (4, (.c (.string ⟨#[115, 108, 111, 116]⟩)))], none⟩,
 ⟨some 8, .mv (.t 20), none⟩]
def F_ref32_Relsr6 : List IStmt := F_ref32_Relsr6b
theorem F_ref32_Relsr6_W {T : Tab} {env : Env} {H : Heap} {Q : Post} : W T (.reg F_ref32_Relsr6) env H Q ↔ WR T F_ref32_Relsr6 F_ref32_Relsr6b env H none [] Q := w_reg
def F_ref32_Relsr7b : List IStmt := [
 ⟨some 9, .mv (.c (.string ⟨#[105, 109, 112, 108, 105, 99, 105, 116]⟩)), none⟩]
def F_ref32_Relsr7 : List IStmt := F_ref32_Relsr7b
theorem F_ref32_Relsr7_W {T : Tab} {env : Env} {H : Heap} {Q : Post} : W T (.reg F_ref32_Relsr7) env H Q ↔ WR T F_ref32_Relsr7 F_ref32_Relsr7b env H none [] Q := w_reg
def F_ref32_Relsr8b : List IStmt := [
 ⟨some 21, .fa 4 (.t 7), none⟩,
 ⟨some 22, .load (.t 21), none⟩,
 ⟨some 23, .mv (.t 22), none⟩,
 ⟨some 24, .fa 3 (.t 7), some (2, true)⟩,
 ⟨some 25, .load (.t 24), some (2, true)⟩,
 ⟨some 26, .bin .geq (.t 25) (.c (.int .i64 0)), some (2, true)⟩,
 ⟨some 27, .pick (.t 23) (.t 26) (.c (.bool false)), none⟩]
def F_ref32_Relsr8 : List IStmt := F_ref32_Relsr8b
theorem F_ref32_Relsr8_W {T : Tab} {env : Env} {H : Heap} {Q : Post} : W T (.reg F_ref32_Relsr8) env H Q ↔ WR T F_ref32_Relsr8 F_ref32_Relsr8b env H none [] Q := w_reg
theorem F_ref32_Relsr8_g2 {env : Env} : yieldI F_ref32_Relsr8 env 2 = bOf (env 23) := rfl
def F_ref32_Relsr9b : List IStmt := [
 ⟨some 28, .fa 3 (.t 7), none⟩,
 ⟨some 29, .load (.t 28), none⟩,
 ⟨some 30, .conv .u64 (.t 29), none⟩,
 ⟨some 31, .callc 48 [(.t 30)], none⟩,
 ⟨some 9, .mv (.t 31), none⟩]
def F_ref32_Relsr9 : List IStmt := F_ref32_Relsr9b
theorem F_ref32_Relsr9_W {T : Tab} {env : Env} {H : Heap} {Q : Post} : W T (.reg F_ref32_Relsr9) env H Q ↔ WR T F_ref32_Relsr9 F_ref32_Relsr9b env H none [] Q := w_reg
def F_ref32_Relsr10b : List IStmt := [
 ⟨some 32, .fa 4 (.t 7), none⟩,
 ⟨some 33, .load (.t 32), none⟩,
 ⟨some 34, .mv (.t 33), none⟩,
 ⟨some 35, .fa 3 (.t 7), some (2, true)⟩,
 ⟨some 36, .load (.t 35), some (2, true)⟩,
 ⟨some 37, .bin .lss (.t 36) (.c (.int .i64 0)), some (2, true)⟩,
 ⟨some 38, .pick (.t 34) (.t 37) (.c (.bool false)), none⟩]
def F_ref32_Relsr10 : List IStmt := F_ref32_Relsr10b
theorem F_ref32_Relsr10_W {T : Tab} {env : Env} {H : Heap} {Q : Post} : W T (.reg F_ref32_Relsr10) env H Q ↔ WR T F_ref32_Relsr10 F_ref32_Relsr10b env H none [] Q := w_reg
theorem F_ref32_Relsr10_g2 {env : Env} : yieldI F_ref32_Relsr10 env 2 = bOf (env 34) := rfl
def F_ref32_Relsr11b : List IStmt := [
 ⟨some 39, .fa 3 (.t 7), none⟩,
 ⟨some 40, .load (.t 39), none⟩,
 ⟨some 41, .bin .add (.t 40) (.c (.int .i64 1)), none⟩,
 ⟨some 42, .un .neg (.t 41), none⟩,
 ⟨some 43, .conv .u64 (.t 42), none⟩,
 ⟨some 44, .bin .add (.t 43) (.c (.int .u64 1)), none⟩,
 ⟨some 45, .callc 48 [(.t 44)], none⟩,
 ⟨some 46, .bin .add (.c (.string ⟨#[45]⟩)) (.t 45), none⟩,
 ⟨some 9, .mv (.t 46), none⟩]
def F_ref32_Relsr11 : List IStmt := F_ref32_Relsr11b
theorem F_ref32_Relsr11_W {T : Tab} {env : Env} {H : Heap} {Q : Post} : W T (.reg F_ref32_Relsr11) env H Q ↔ WR T F_ref32_Relsr11 F_ref32_Relsr11b env H none [] Q := w_reg
def F_ref32_Relsr12b : List IStmt := [
 ⟨some 47, .mv (.t 5), none⟩,
 ⟨some 48, .fa 0 (.t 7), none⟩,
 ⟨some 49, .load (.t 48), none⟩,
 ⟨some 50, .callc 48 [(.t 49)], none⟩,
 ⟨some 51, .mv (.t 8), none⟩,
 ⟨some 52, .mv (.t 0), none⟩,
 ⟨some 53, .conv .u64 (.t 52), none⟩,
 ⟨some 54, .fa 1 (.t 7), none⟩,
 ⟨some 55, .load (.t 54), none⟩,
 ⟨some 56, .conv .u64 (.t 55), none⟩,
 ⟨some 57, .callc 54 [(.t 53), (.t 56)], none⟩,
 ⟨some 58, .bin .add (.t 57) (.c (.int .i64 1)), none⟩,
 ⟨some 59, .ixa 1 (.t 51) (.t 58), none⟩,
 ⟨some 60, .load (.t 59), none⟩,
 ⟨some 61, .fa 1 (.t 7), none⟩,
 ⟨some 62, .load (.t 61), none⟩,
 ⟨some 63, .conv .u64 (.t 62), none⟩,
 ⟨some 64, .callc 48 [(.t 63)], none⟩,
 ⟨some 65, .fa 2 (.t 7), none⟩,
 ⟨some 66, .load (.t 65), none⟩,
 ⟨some 67, .conv .u64 (.t 66), none⟩,
 ⟨some 68, .callc 48 [(.t 67)], none⟩,
 ⟨some 69, .mv (.t 9), none⟩,
 ⟨some 70, .bsli 1 6 [.string ⟨#[]⟩] [(0, (.c (.string ⟨#[114, 101, 108]⟩))), (1, (.t 50)), (2, (.t 60)), (3, (.t 64)), (4, (.t 68)), (5, (.t 69))], none⟩,
 ⟨some 71, .callc 47 [(.t 70)], none⟩,
 ⟨some 72, .bin .add (.t 47) (.t 71), none⟩,
 ⟨some 5, .mv (.t 72), none⟩]
def F_ref32_Relsr12 : List IStmt := F_ref32_Relsr12b
theorem F_ref32_Relsr12_W {T : Tab} {env : Env} {H : Heap} {Q : Post} : W T (.dreg F_ref32_Relsr12 []) env H Q ↔ WR T F_ref32_Relsr12 F_ref32_Relsr12b env H none [] Q := w_dreg0
def F_ref32_Relsr4b : List IStmt := [
 ⟨some 14, .mv (.t 6), none⟩,
 ⟨some 15, .bin .add (.t 14) (.c (.int .i64 1)), none⟩,
 ⟨some 6, .mv (.t 15), none⟩]
def F_ref32_Relsr4 : List IStmt := F_ref32_Relsr4b
theorem F_ref32_Relsr4_W {T : Tab} {env : Env} {H : Heap} {Q : Post} : W T (.reg F_ref32_Relsr4) env H Q ↔ WR T F_ref32_Relsr4 F_ref32_Relsr4b env H none [] Q := w_reg
def F_ref32_Relsl0b : ICode := (.seq (.seq (.reg F_ref32_Relsr3) (.cond (.t 13) .skip (.exit 0))) (.seq (.block 1 (.seq (.reg F_ref32_Relsr5) (.seq (.reg F_ref32_Relsr6) (.seq (.reg F_ref32_Relsr7) (.seq (.seq (.reg F_ref32_Relsr8) (.cond (.t 27) (.reg F_ref32_Relsr9) .skip)) (.seq (.seq (.reg F_ref32_Relsr10) (.cond (.t 38) (.reg F_ref32_Relsr11) .skip)) (.dreg F_ref32_Relsr12 []))))))) (.reg F_ref32_Relsr4)))
def F_ref32_Relsl0 : ICode := F_ref32_Relsl0b
theorem F_ref32_Relsl0_W {T : Tab} {env : Env} {H : Heap} {Q : Post} : W T F_ref32_Relsl0 env H Q ↔ W T F_ref32_Relsl0b env H Q := Iff.rfl
def F_ref32_Relsr13b : List IStmt := [
 ⟨some 73, .mv (.t 5), none⟩,
 ⟨some 4, .mv (.t 73), none⟩]
def F_ref32_Relsr13 : List IStmt := F_ref32_Relsr13b
theorem F_ref32_Relsr13_W {T : Tab} {env : Env} {H : Heap} {Q : Post} : W T (.reg F_ref32_Relsr13) env H Q ↔ WR T F_ref32_Relsr13 F_ref32_Relsr13b env H none [] Q := w_reg
def F_ref32_Relscb : ICode := (.seq (.reg F_ref32_Relsr0) (.seq (.reg F_ref32_Relsr1) (.seq (.seq (.reg F_ref32_Relsr2) (.block 0 (.loop F_ref32_Relsl0))) (.seq (.reg F_ref32_Relsr13) .ret))))
def F_ref32_Relsc : ICode := F_ref32_Relscb
theorem F_ref32_Relsc_W {T : Tab} {env : Env} {H : Heap} {Q : Post} : W T F_ref32_Relsc env H Q ↔ W T F_ref32_Relscb env H Q := Iff.rfl
def F_ref32_Rels : IFn := ⟨74, [.tmp 4], F_ref32_Relsc⟩
set_option linter.defProp false in
set_option maxRecDepth 100000 in
def N_ref32_RelsP := And.intro F_ref32_Relsr0b.eq_1 (And.intro @F_ref32_Relsr0_W (And.intro F_ref32_Relsr1b.eq_1 (And.intro @F_ref32_Relsr1_W (And.intro F_ref32_Relsr2b.eq_1 (And.intro @F_ref32_Relsr2_W (And.intro F_ref32_Relsr3b.eq_1 (And.intro @F_ref32_Relsr3_W (And.intro F_ref32_Relsr5b.eq_1 (And.intro @F_ref32_Relsr5_W (And.intro F_ref32_Relsr6b.eq_1 (And.intro @F_ref32_Relsr6_W (And.intro F_ref32_Relsr7b.eq_1 (And.intro @F_ref32_Relsr7_W (And.intro F_ref32_Relsr8b.eq_1 (And.intro @F_ref32_Relsr8_W (And.intro @F_ref32_Relsr8_g2 (And.intro F_ref32_Relsr9b.eq_1 (And.intro @F_ref32_Relsr9_W (And.intro F_ref32_Relsr10b.eq_1 (And.intro @F_ref32_Relsr10_W (And.intro @F_ref32_Relsr10_g2 (And.intro F_ref32_Relsr11b.eq_1 (And.intro @F_ref32_Relsr11_W (And.intro F_ref32_Relsr12b.eq_1 (And.intro @F_ref32_Relsr12_W (And.intro F_ref32_Relsr4b.eq_1 (And.intro @F_ref32_Relsr4_W (And.intro @F_ref32_Relsl0_W (And.intro F_ref32_Relsl0b.eq_1 (And.intro F_ref32_Relsr13b.eq_1 (And.intro @F_ref32_Relsr13_W (And.intro @F_ref32_Relsc_W (F_ref32_Relscb.eq_1)))))))))))))))))))))))))))))))))
theorem N_ref32_Rels : type_of% N_ref32_RelsP := N_ref32_RelsP
set_option maxRecDepth 1000000 in
theorem F_ref32_Rels_chk : chkF Tryz.prog 22 F_ref32_Rels = true := by kernel_rfl

/-! ### law32_great -/
def F_law32_greatr0b : List IStmt := [
 ⟨some 1, .box 60 (.t 0), none⟩,
 ⟨some 2, .mv (.c (.bool false)), none⟩]
def F_law32_greatr0 : List IStmt := F_law32_greatr0b
theorem F_law32_greatr0_W {T : Tab} {env : Env} {H : Heap} {Q : Post} : W T (.reg F_law32_greatr0) env H Q ↔ WR T F_law32_greatr0 F_law32_greatr0b env H none [] Q := w_reg
def F_law32_greatr1b : List IStmt := [
 ⟨some 5, .fa 0 (.t 1), none⟩,
 ⟨some 6, .fa 1 (.t 5), none⟩,
 ⟨some 7, .load (.t 6), none⟩,
 ⟨some 8, .len 1 (.t 7), none⟩,
 ⟨some 9, .bin .gtr (.t 8) (.c (.int .i64 50)), none⟩,
 ⟨some 10, .mv (.t 9), none⟩,
 ⟨some 11, .fa 16 (.t 1), some (5, false)⟩,
 ⟨some 12, .fa 2 (.t 11), some (5, false)⟩,
 ⟨some 13, .load (.t 12), some (5, false)⟩,
 ⟨some 14, .len 1 (.t 13), some (5, false)⟩,
 ⟨some 15, .bin .gtr (.t 14) (.c (.int .i64 50)), some (5, false)⟩,
 ⟨some 16, .pick (.t 10) (.c (.bool true)) (.t 15), none⟩,
 ⟨some 17, .mv (.t 16), none⟩,
 ⟨some 18, .fa 56 (.t 1), some (12, false)⟩,
 ⟨some 19, .load (.t 18), some (12, false)⟩,
 ⟨some 20, .len 1 (.t 19), some (12, false)⟩,
 ⟨some 21, .bin .gtr (.t 20) (.c (.int .i64 300)), some (12, false)⟩,
 ⟨some 22, .pick (.t 17) (.c (.bool true)) (.t 21), none⟩,
 ⟨some 23, .mv (.t 22), none⟩,
 ⟨some 24, .fa 57 (.t 1), some (18, false)⟩,
 ⟨some 25, .load (.t 24), some (18, false)⟩,
 ⟨some 26, .len 1 (.t 25), some (18, false)⟩,
 ⟨some 27, .bin .gtr (.t 26) (.c (.int .i64 600)), some (18, false)⟩,
 ⟨some 28, .pick (.t 23) (.c (.bool true)) (.t 27), none⟩,
 ⟨some 29, .mv (.t 28), none⟩,
 ⟨some 30, .fa 16 (.t 1), some (24, false)⟩,
 ⟨some 31, .fa 0 (.t 30), some (24, false)⟩,
 ⟨some 32, .load (.t 31), some (24, false)⟩,
 ⟨some 33, .len 0 (.t 32), some (24, false)⟩,
 ⟨some 34, .bin .gtr (.t 33) (.c (.int .i64 1000)), some (24, false)⟩,
 ⟨some 35, .pick (.t 29) (.c (.bool true)) (.t 34), none⟩,
 ⟨some 36, .mv (.t 35), none⟩,
 ⟨some 37, .fa 16 (.t 1), some (31, false)⟩,
 ⟨some 38, .fa 1 (.t 37), some (31, false)⟩,
 ⟨some 39, .load (.t 38), some (31, false)⟩,
 ⟨some 40, .len 0 (.t 39), some (31, false)⟩,
 ⟨some 41, .bin .gtr (.t 40) (.c (.int .i64 1000)), some (31, false)⟩,
 ⟨some 42, .pick (.t 36) (.c (.bool true)) (.t 41), none⟩]
def F_law32_greatr1 : List IStmt := F_law32_greatr1b
theorem F_law32_greatr1_W {T : Tab} {env : Env} {H : Heap} {Q : Post} : W T (.reg F_law32_greatr1) env H Q ↔ WR T F_law32_greatr1 F_law32_greatr1b env H none [] Q := w_reg
theorem F_law32_greatr1_g5 {env : Env} : yieldI F_law32_greatr1 env 5 = bOf (env 10) := rfl
theorem F_law32_greatr1_g12 {env : Env} : yieldI F_law32_greatr1 env 12 = bOf (env 17) := rfl
theorem F_law32_greatr1_g18 {env : Env} : yieldI F_law32_greatr1 env 18 = bOf (env 23) := rfl
theorem F_law32_greatr1_g24 {env : Env} : yieldI F_law32_greatr1 env 24 = bOf (env 29) := rfl
theorem F_law32_greatr1_g31 {env : Env} : yieldI F_law32_greatr1 env 31 = bOf (env 36) := rfl
def F_law32_greatr2b : List IStmt := [
 ⟨some 2, .mv (.c (.bool true)), none⟩]
def F_law32_greatr2 : List IStmt := F_law32_greatr2b
theorem F_law32_greatr2_W {T : Tab} {env : Env} {H : Heap} {Q : Post} : W T (.reg F_law32_greatr2) env H Q ↔ WR T F_law32_greatr2 F_law32_greatr2b env H none [] Q := w_reg
def F_law32_greatr3b : List IStmt := [
 ⟨some 3, .mv (.c (.int .i64 0)), none⟩]
def F_law32_greatr3 : List IStmt := F_law32_greatr3b
theorem F_law32_greatr3_W {T : Tab} {env : Env} {H : Heap} {Q : Post} : W T (.reg F_law32_greatr3) env H Q ↔ WR T F_law32_greatr3 F_law32_greatr3b env H none [] Q := w_reg
def F_law32_greatr4b : List IStmt := [
 ⟨some 43, .mv (.t 3), none⟩,
 ⟨some 44, .fa 56 (.t 1), none⟩,
 ⟨some 45, .load (.t 44), none⟩,
 ⟨some 46, .len 1 (.t 45), none⟩,
 ⟨some 47, .bin .lss (.t 43) (.t 46), none⟩]
def F_law32_greatr4 : List IStmt := F_law32_greatr4b
theorem F_law32_greatr4_W {T : Tab} {env : Env} {H : Heap} {Q : Post} : W T (.reg F_law32_greatr4) env H Q ↔ WR T F_law32_greatr4 F_law32_greatr4b env H none [] Q := w_reg
def F_law32_greatr6b : List IStmt := [
 ⟨some 50, .fa 56 (.t 1), none⟩,
 ⟨some 51, .load (.t 50), none⟩,
 ⟨some 52, .mv (.t 3), none⟩,
 ⟨some 53, .ixa 7 (.t 51) (.t 52), none⟩,
 ⟨some 54, .fa 0 (.t 53), none⟩,
 ⟨some 55, .load (.t 54), none⟩,
 ⟨some 56, .len 0 (.t 55), none⟩,
 ⟨some 57, .bin .gtr (.t 56) (.c (.int .i64 1000)), none⟩,
 ⟨some 58, .mv (.t 57), none⟩,
 ⟨some 59, .fa 56 (.t 1), some (8, false)⟩,
 ⟨some 60, .load (.t 59), some (8, false)⟩,
 ⟨some 61, .mv (.t 3), some (8, false)⟩,
 ⟨some 62, .ixa 7 (.t 60) (.t 61), some (8, false)⟩,
 ⟨some 63, .fa 1 (.t 62), some (8, false)⟩,
 ⟨some 64, .load (.t 63), some (8, false)⟩,
 ⟨some 65, .len 0 (.t 64), some (8, false)⟩,
 ⟨some 66, .bin .gtr (.t 65) (.c (.int .i64 1000)), some (8, false)⟩,
 ⟨some 67, .pick (.t 58) (.c (.bool true)) (.t 66), none⟩]
def F_law32_greatr6 : List IStmt := F_law32_greatr6b
theorem F_law32_greatr6_W {T : Tab} {env : Env} {H : Heap} {Q : Post} : W T (.reg F_law32_greatr6) env H Q ↔ WR T F_law32_greatr6 F_law32_greatr6b env H none [] Q := w_reg
theorem F_law32_greatr6_g8 {env : Env} : yieldI F_law32_greatr6 env 8 = bOf (env 58) := rfl
def F_law32_greatr7b : List IStmt := [
 ⟨some 2, .mv (.c (.bool true)), none⟩]
def F_law32_greatr7 : List IStmt := F_law32_greatr7b
theorem F_law32_greatr7_W {T : Tab} {env : Env} {H : Heap} {Q : Post} : W T (.reg F_law32_greatr7) env H Q ↔ WR T F_law32_greatr7 F_law32_greatr7b env H none [] Q := w_reg
def F_law32_greatr5b : List IStmt := [
 ⟨some 48, .mv (.t 3), none⟩,
 ⟨some 49, .bin .add (.t 48) (.c (.int .i64 1)), none⟩,
 ⟨some 3, .mv (.t 49), none⟩]
def F_law32_greatr5 : List IStmt := F_law32_greatr5b
theorem F_law32_greatr5_W {T : Tab} {env : Env} {H : Heap} {Q : Post} : W T (.reg F_law32_greatr5) env H Q ↔ WR T F_law32_greatr5 F_law32_greatr5b env H none [] Q := w_reg
def F_law32_greatl0b : ICode := (.seq (.seq (.reg F_law32_greatr4) (.cond (.t 47) .skip (.exit 0))) (.seq (.block 1 (.seq (.reg F_law32_greatr6) (.cond (.t 67) (.seq (.reg F_law32_greatr7) .ret) .skip))) (.reg F_law32_greatr5)))
def F_law32_greatl0 : ICode := F_law32_greatl0b
theorem F_law32_greatl0_W {T : Tab} {env : Env} {H : Heap} {Q : Post} : W T F_law32_greatl0 env H Q ↔ W T F_law32_greatl0b env H Q := Iff.rfl
def F_law32_greatr8b : List IStmt := [
 ⟨some 4, .mv (.c (.int .i64 0)), none⟩]
def F_law32_greatr8 : List IStmt := F_law32_greatr8b
theorem F_law32_greatr8_W {T : Tab} {env : Env} {H : Heap} {Q : Post} : W T (.reg F_law32_greatr8) env H Q ↔ WR T F_law32_greatr8 F_law32_greatr8b env H none [] Q := w_reg
def F_law32_greatr9b : List IStmt := [
 ⟨some 68, .mv (.t 4), none⟩,
 ⟨some 69, .fa 16 (.t 1), none⟩,
 ⟨some 70, .fa 2 (.t 69), none⟩,
 ⟨some 71, .load (.t 70), none⟩,
 ⟨some 72, .len 1 (.t 71), none⟩,
 ⟨some 73, .bin .lss (.t 68) (.t 72), none⟩]
def F_law32_greatr9 : List IStmt := F_law32_greatr9b
theorem F_law32_greatr9_W {T : Tab} {env : Env} {H : Heap} {Q : Post} : W T (.reg F_law32_greatr9) env H Q ↔ WR T F_law32_greatr9 F_law32_greatr9b env H none [] Q := w_reg
def F_law32_greatr11b : List IStmt := [
 ⟨some 76, .fa 16 (.t 1), none⟩,
 ⟨some 77, .fa 2 (.t 76), none⟩,
 ⟨some 78, .load (.t 77), none⟩,
 ⟨some 79, .mv (.t 4), none⟩,
 ⟨some 80, .ixa 1 (.t 78) (.t 79), none⟩,
 ⟨some 81, .load (.t 80), none⟩,
 ⟨some 82, .len 0 (.t 81), none⟩,
 ⟨some 83, .bin .gtr (.t 82) (.c (.int .i64 1000)), none⟩]
def F_law32_greatr11 : List IStmt := F_law32_greatr11b
theorem F_law32_greatr11_W {T : Tab} {env : Env} {H : Heap} {Q : Post} : W T (.reg F_law32_greatr11) env H Q ↔ WR T F_law32_greatr11 F_law32_greatr11b env H none [] Q := w_reg
def F_law32_greatr12b : List IStmt := [
 ⟨some 2, .mv (.c (.bool true)), none⟩]
def F_law32_greatr12 : List IStmt := F_law32_greatr12b
theorem F_law32_greatr12_W {T : Tab} {env : Env} {H : Heap} {Q : Post} : W T (.reg F_law32_greatr12) env H Q ↔ WR T F_law32_greatr12 F_law32_greatr12b env H none [] Q := w_reg
def F_law32_greatr10b : List IStmt := [
 ⟨some 74, .mv (.t 4), none⟩,
 ⟨some 75, .bin .add (.t 74) (.c (.int .i64 1)), none⟩,
 ⟨some 4, .mv (.t 75), none⟩]
def F_law32_greatr10 : List IStmt := F_law32_greatr10b
theorem F_law32_greatr10_W {T : Tab} {env : Env} {H : Heap} {Q : Post} : W T (.reg F_law32_greatr10) env H Q ↔ WR T F_law32_greatr10 F_law32_greatr10b env H none [] Q := w_reg
def F_law32_greatl1b : ICode := (.seq (.seq (.reg F_law32_greatr9) (.cond (.t 73) .skip (.exit 2))) (.seq (.block 3 (.seq (.reg F_law32_greatr11) (.cond (.t 83) (.seq (.reg F_law32_greatr12) .ret) .skip))) (.reg F_law32_greatr10)))
def F_law32_greatl1 : ICode := F_law32_greatl1b
theorem F_law32_greatl1_W {T : Tab} {env : Env} {H : Heap} {Q : Post} : W T F_law32_greatl1 env H Q ↔ W T F_law32_greatl1b env H Q := Iff.rfl
def F_law32_greatr13b : List IStmt := [
 ⟨some 2, .mv (.c (.bool false)), none⟩]
def F_law32_greatr13 : List IStmt := F_law32_greatr13b
theorem F_law32_greatr13_W {T : Tab} {env : Env} {H : Heap} {Q : Post} : W T (.reg F_law32_greatr13) env H Q ↔ WR T F_law32_greatr13 F_law32_greatr13b env H none [] Q := w_reg
def F_law32_greatcb : ICode := (.seq (.reg F_law32_greatr0) (.seq (.seq (.reg F_law32_greatr1) (.cond (.t 42) (.seq (.reg F_law32_greatr2) .ret) .skip)) (.seq (.seq (.reg F_law32_greatr3) (.block 0 (.loop F_law32_greatl0))) (.seq (.seq (.reg F_law32_greatr8) (.block 2 (.loop F_law32_greatl1))) (.seq (.reg F_law32_greatr13) .ret)))))
def F_law32_greatc : ICode := F_law32_greatcb
theorem F_law32_greatc_W {T : Tab} {env : Env} {H : Heap} {Q : Post} : W T F_law32_greatc env H Q ↔ W T F_law32_greatcb env H Q := Iff.rfl
def F_law32_great : IFn := ⟨84, [.tmp 2], F_law32_greatc⟩
set_option linter.defProp false in
set_option maxRecDepth 100000 in
def N_law32_greatP := And.intro F_law32_greatr0b.eq_1 (And.intro @F_law32_greatr0_W (And.intro F_law32_greatr1b.eq_1 (And.intro @F_law32_greatr1_W (And.intro @F_law32_greatr1_g5 (And.intro @F_law32_greatr1_g12 (And.intro @F_law32_greatr1_g18 (And.intro @F_law32_greatr1_g24 (And.intro @F_law32_greatr1_g31 (And.intro F_law32_greatr2b.eq_1 (And.intro @F_law32_greatr2_W (And.intro F_law32_greatr3b.eq_1 (And.intro @F_law32_greatr3_W (And.intro F_law32_greatr4b.eq_1 (And.intro @F_law32_greatr4_W (And.intro F_law32_greatr6b.eq_1 (And.intro @F_law32_greatr6_W (And.intro @F_law32_greatr6_g8 (And.intro F_law32_greatr7b.eq_1 (And.intro @F_law32_greatr7_W (And.intro F_law32_greatr5b.eq_1 (And.intro @F_law32_greatr5_W (And.intro @F_law32_greatl0_W (And.intro F_law32_greatl0b.eq_1 (And.intro F_law32_greatr8b.eq_1 (And.intro @F_law32_greatr8_W (And.intro F_law32_greatr9b.eq_1 (And.intro @F_law32_greatr9_W (And.intro F_law32_greatr11b.eq_1 (And.intro @F_law32_greatr11_W (And.intro F_law32_greatr12b.eq_1 (And.intro @F_law32_greatr12_W (And.intro F_law32_greatr10b.eq_1 (And.intro @F_law32_greatr10_W (And.intro @F_law32_greatl1_W (And.intro F_law32_greatl1b.eq_1 (And.intro F_law32_greatr13b.eq_1 (And.intro @F_law32_greatr13_W (And.intro @F_law32_greatc_W (F_law32_greatcb.eq_1)))))))))))))))))))))))))))))))))))))))
theorem N_law32_great : type_of% N_law32_greatP := N_law32_greatP
set_option maxRecDepth 1000000 in
theorem F_law32_great_chk : chkF Tryz.prog 14 F_law32_great = true := by kernel_rfl

/-! ### law32_DumpWrites -/
def F_law32_DumpWritesr0b : List IStmt := [
 ⟨some 2, .box 60 (.t 0), none⟩,
 ⟨some 4, .mv (.c (.bool false)), none⟩]
def F_law32_DumpWritesr0 : List IStmt := F_law32_DumpWritesr0b
theorem F_law32_DumpWritesr0_W {T : Tab} {env : Env} {H : Heap} {Q : Post} : W T (.reg F_law32_DumpWritesr0) env H Q ↔ WR T F_law32_DumpWritesr0 F_law32_DumpWritesr0b env H none [] Q := w_reg
def F_law32_DumpWritesr1b : List IStmt := [
 ⟨some 5, .loadN 60 (.t 2), none⟩,
 ⟨some 6, .callc 14 [(.t 5)], none⟩]
def F_law32_DumpWritesr1 : List IStmt := F_law32_DumpWritesr1b
theorem F_law32_DumpWritesr1_W {T : Tab} {env : Env} {H : Heap} {Q : Post} : W T (.reg F_law32_DumpWritesr1) env H Q ↔ WR T F_law32_DumpWritesr1 F_law32_DumpWritesr1b env H none [] Q := w_reg
def F_law32_DumpWritesr2b : List IStmt := [
 ⟨some 4, .mv (.c (.bool true)), none⟩]
def F_law32_DumpWritesr2 : List IStmt := F_law32_DumpWritesr2b
theorem F_law32_DumpWritesr2_W {T : Tab} {env : Env} {H : Heap} {Q : Post} : W T (.reg F_law32_DumpWritesr2) env H Q ↔ WR T F_law32_DumpWritesr2 F_law32_DumpWritesr2b env H none [] Q := w_reg
def F_law32_DumpWritesr3b : List IStmt := [
 ⟨some 7, .fa 0 (.t 2), none⟩,
 ⟨some 8, .loadN 16 (.t 7), none⟩,
 ⟨some 9, .callc 15 [(.t 8)], none⟩,
 ⟨some 10, .fa 0 (.t 2), none⟩,
 ⟨some 11, .loadN 16 (.t 10), none⟩,
 ⟨some 12, .callc 16 [(.t 11)], none⟩,
 ⟨some 13, .bin .neq (.t 9) (.t 12), none⟩,
 ⟨some 14, .mv (.t 13), none⟩,
 ⟨some 15, .fa 16 (.t 2), some (7, false)⟩,
 ⟨some 16, .loadN 40 (.t 15), some (7, false)⟩,
 ⟨some 17, .callc 17 [(.t 16)], some (7, false)⟩,
 ⟨some 18, .fa 16 (.t 2), some (7, false)⟩,
 ⟨some 19, .loadN 40 (.t 18), some (7, false)⟩,
 ⟨some 20, .callc 18 [(.t 19)], some (7, false)⟩,
 ⟨some 21, .bin .neq (.t 17) (.t 20), some (7, false)⟩,
 ⟨some 22, .pick (.t 14) (.c (.bool true)) (.t 21), none⟩,
 ⟨some 23, .mv (.t 22), none⟩,
 ⟨some 24, .fa 56 (.t 2), some (16, false)⟩,
 ⟨some 25, .load (.t 24), some (16, false)⟩,
 ⟨some 26, .calll 19 [(.t 25)], some (16, false)⟩,
 ⟨some 27, .fa 56 (.t 2), some (16, false)⟩,
 ⟨some 28, .load (.t 27), some (16, false)⟩,
 ⟨some 29, .calll 20 [(.t 28)], some (16, false)⟩,
 ⟨some 30, .bin .neq (.t 26) (.t 29), some (16, false)⟩,
 ⟨some 31, .pick (.t 23) (.c (.bool true)) (.t 30), none⟩,
 ⟨some 32, .mv (.t 31), none⟩,
 ⟨some 33, .mv (.t 1), some (25, false)⟩,
 ⟨some 34, .fa 57 (.t 2), some (25, false)⟩,
 ⟨some 35, .load (.t 34), some (25, false)⟩,
 ⟨some 36, .calll 21 [(.t 33), (.t 35)], some (25, false)⟩,
 ⟨some 37, .mv (.t 1), some (25, false)⟩,
 ⟨some 38, .fa 57 (.t 2), some (25, false)⟩,
 ⟨some 39, .load (.t 38), some (25, false)⟩,
 ⟨some 40, .calll 22 [(.t 37), (.t 39)], some (25, false)⟩,
 ⟨some 41, .bin .neq (.t 36) (.t 40), some (25, false)⟩,
 ⟨some 42, .pick (.t 32) (.c (.bool true)) (.t 41), none⟩]
def F_law32_DumpWritesr3 : List IStmt := F_law32_DumpWritesr3b
theorem F_law32_DumpWritesr3_g7 {env : Env} : yieldI F_law32_DumpWritesr3 env 7 = bOf (env 14) := rfl
theorem F_law32_DumpWritesr3_g16 {env : Env} : yieldI F_law32_DumpWritesr3 env 16 = bOf (env 23) := rfl
theorem F_law32_DumpWritesr3_g25 {env : Env} : yieldI F_law32_DumpWritesr3 env 25 = bOf (env 32) := rfl
theorem F_law32_DumpWritesr3_W {T : Tab} {env : Env} {H : Heap} {Q : Post} : W T (.dreg F_law32_DumpWritesr3 [(21, 0), (32, 23)]) env H Q ↔ WR T F_law32_DumpWritesr3 F_law32_DumpWritesr3b env H (some []) [(21, 0), (32, 23)] Q := w_dreg
theorem F_law32_DumpWritesr3_len : F_law32_DumpWritesr3.length = 36 := rfl
theorem F_law32_DumpWritesr3_i21 : F_law32_DumpWritesr3[21]? = some ⟨some 28, .load (.t 27), some (16, false)⟩ := rfl
theorem F_law32_DumpWritesr3_i32 : F_law32_DumpWritesr3[32]? = some ⟨some 39, .load (.t 38), some (25, false)⟩ := rfl
def F_law32_DumpWritesr4b : List IStmt := [
 ⟨some 4, .mv (.c (.bool false)), none⟩]
def F_law32_DumpWritesr4 : List IStmt := F_law32_DumpWritesr4b
theorem F_law32_DumpWritesr4_W {T : Tab} {env : Env} {H : Heap} {Q : Post} : W T (.reg F_law32_DumpWritesr4) env H Q ↔ WR T F_law32_DumpWritesr4 F_law32_DumpWritesr4b env H none [] Q := w_reg
def F_law32_DumpWritesr5b : List IStmt := [
 ⟨some 43, .loadN 60 (.t 2), none⟩,
 ⟨some 44, .callc 23 [(.t 43)], none⟩,
 ⟨some 45, .fa 0 (.t 2), none⟩,
 ⟨some 46, .loadN 16 (.t 45), none⟩,
 ⟨some 47, .callc 16 [(.t 46)], none⟩,
 ⟨some 48, .fa 16 (.t 2), none⟩,
 ⟨some 49, .loadN 40 (.t 48), none⟩,
 ⟨some 50, .callc 18 [(.t 49)], none⟩,
 ⟨some 51, .bin .add (.t 47) (.t 50), none⟩,
 ⟨some 52, .fa 56 (.t 2), none⟩,
 ⟨some 53, .load (.t 52), none⟩,
 ⟨some 54, .calll 20 [(.t 53)], none⟩,
 ⟨some 55, .bin .add (.t 51) (.t 54), none⟩,
 ⟨some 56, .fa 0 (.t 2), none⟩,
 ⟨some 57, .fa 0 (.t 56), none⟩,
 ⟨some 58, .load (.t 57), none⟩,
 ⟨some 59, .fa 57 (.t 2), none⟩,
 ⟨some 60, .load (.t 59), none⟩,
 ⟨some 61, .calll 22 [(.t 58), (.t 60)], none⟩,
 ⟨some 62, .bin .add (.t 55) (.t 61), none⟩,
 ⟨some 63, .bin .eql (.t 44) (.t 62), none⟩,
 ⟨some 64, .mv (.t 63), none⟩,
 ⟨some 65, .callc 24 [], some (21, true)⟩,
 ⟨some 66, .pick (.t 64) (.t 65) (.c (.bool false)), none⟩,
 ⟨some 4, .mv (.t 66), none⟩]
def F_law32_DumpWritesr5 : List IStmt := F_law32_DumpWritesr5b
theorem F_law32_DumpWritesr5_g21 {env : Env} : yieldI F_law32_DumpWritesr5 env 21 = bOf (env 64) := rfl
theorem F_law32_DumpWritesr5_W {T : Tab} {env : Env} {H : Heap} {Q : Post} : W T (.dreg F_law32_DumpWritesr5 [(15, 0), (17, 0)]) env H Q ↔ WR T F_law32_DumpWritesr5 F_law32_DumpWritesr5b env H (some []) [(15, 0), (17, 0)] Q := w_dreg
theorem F_law32_DumpWritesr5_len : F_law32_DumpWritesr5.length = 25 := rfl
theorem F_law32_DumpWritesr5_i15 : F_law32_DumpWritesr5[15]? = some ⟨some 58, .load (.t 57), none⟩ := rfl
theorem F_law32_DumpWritesr5_i17 : F_law32_DumpWritesr5[17]? = some ⟨some 60, .load (.t 59), none⟩ := rfl
def F_law32_DumpWritescb : ICode := (.seq (.reg F_law32_DumpWritesr0) (.seq (.seq (.reg F_law32_DumpWritesr1) (.cond (.t 6) (.seq (.reg F_law32_DumpWritesr2) .ret) .skip)) (.seq (.seq (.dreg F_law32_DumpWritesr3 [(21, 0), (32, 23)]) (.cond (.t 42) (.seq (.reg F_law32_DumpWritesr4) .ret) .skip)) (.seq (.dreg F_law32_DumpWritesr5 [(15, 0), (17, 0)]) .ret))))
def F_law32_DumpWritesc : ICode := F_law32_DumpWritescb
theorem F_law32_DumpWritesc_W {T : Tab} {env : Env} {H : Heap} {Q : Post} : W T F_law32_DumpWritesc env H Q ↔ W T F_law32_DumpWritescb env H Q := Iff.rfl
def F_law32_DumpWrites : IFn := ⟨67, [.tmp 4], F_law32_DumpWritesc⟩
set_option linter.defProp false in
set_option maxRecDepth 100000 in
def N_law32_DumpWritesP := And.intro F_law32_DumpWritesr0b.eq_1 (And.intro @F_law32_DumpWritesr0_W (And.intro F_law32_DumpWritesr1b.eq_1 (And.intro @F_law32_DumpWritesr1_W (And.intro F_law32_DumpWritesr2b.eq_1 (And.intro @F_law32_DumpWritesr2_W (And.intro F_law32_DumpWritesr3b.eq_1 (And.intro @F_law32_DumpWritesr3_g7 (And.intro @F_law32_DumpWritesr3_g16 (And.intro @F_law32_DumpWritesr3_g25 (And.intro @F_law32_DumpWritesr3_W (And.intro @F_law32_DumpWritesr3_len (And.intro @F_law32_DumpWritesr3_i21 (And.intro @F_law32_DumpWritesr3_i32 (And.intro F_law32_DumpWritesr4b.eq_1 (And.intro @F_law32_DumpWritesr4_W (And.intro F_law32_DumpWritesr5b.eq_1 (And.intro @F_law32_DumpWritesr5_g21 (And.intro @F_law32_DumpWritesr5_W (And.intro @F_law32_DumpWritesr5_len (And.intro @F_law32_DumpWritesr5_i15 (And.intro @F_law32_DumpWritesr5_i17 (And.intro @F_law32_DumpWritesc_W (F_law32_DumpWritescb.eq_1)))))))))))))))))))))))
theorem N_law32_DumpWrites : type_of% N_law32_DumpWritesP := N_law32_DumpWritesP
set_option maxRecDepth 1000000 in
theorem F_law32_DumpWrites_chk : chkF Tryz.prog 5 F_law32_DumpWrites = true := by kernel_rfl

/-! ### law32_DumpJoins -/
def F_law32_DumpJoinsr0b : List IStmt := [
 ⟨some 3, .box 60 (.t 0), none⟩,
 ⟨some 4, .box 60 (.t 1), none⟩,
 ⟨some 6, .mv (.c (.bool false)), none⟩]
def F_law32_DumpJoinsr0 : List IStmt := F_law32_DumpJoinsr0b
theorem F_law32_DumpJoinsr0_W {T : Tab} {env : Env} {H : Heap} {Q : Post} : W T (.reg F_law32_DumpJoinsr0) env H Q ↔ WR T F_law32_DumpJoinsr0 F_law32_DumpJoinsr0b env H none [] Q := w_reg
def F_law32_DumpJoinsr1b : List IStmt := [
 ⟨some 11, .loadN 60 (.t 3), none⟩,
 ⟨some 12, .callc 14 [(.t 11)], none⟩,
 ⟨some 13, .mv (.t 12), none⟩,
 ⟨some 14, .loadN 60 (.t 4), some (2, false)⟩,
 ⟨some 15, .callc 14 [(.t 14)], some (2, false)⟩,
 ⟨some 16, .pick (.t 13) (.c (.bool true)) (.t 15), none⟩]
def F_law32_DumpJoinsr1 : List IStmt := F_law32_DumpJoinsr1b
theorem F_law32_DumpJoinsr1_W {T : Tab} {env : Env} {H : Heap} {Q : Post} : W T (.reg F_law32_DumpJoinsr1) env H Q ↔ WR T F_law32_DumpJoinsr1 F_law32_DumpJoinsr1b env H none [] Q := w_reg
theorem F_law32_DumpJoinsr1_g2 {env : Env} : yieldI F_law32_DumpJoinsr1 env 2 = bOf (env 13) := rfl
def F_law32_DumpJoinsr2b : List IStmt := [
 ⟨some 6, .mv (.c (.bool true)), none⟩]
def F_law32_DumpJoinsr2 : List IStmt := F_law32_DumpJoinsr2b
theorem F_law32_DumpJoinsr2_W {T : Tab} {env : Env} {H : Heap} {Q : Post} : W T (.reg F_law32_DumpJoinsr2) env H Q ↔ WR T F_law32_DumpJoinsr2 F_law32_DumpJoinsr2b env H none [] Q := w_reg
def F_law32_DumpJoinsr3b : List IStmt := [
 ⟨some 17, .bslz 5, none⟩,
 ⟨some 18, .fa 57 (.t 3), none⟩,
 ⟨some 19, .load (.t 18), none⟩,
 ⟨some 20, .app 5 32 (.t 17) (.t 19), none⟩,
 ⟨some 21, .fa 57 (.t 4), none⟩,
 ⟨some 22, .load (.t 21), none⟩,
 ⟨some 23, .app 5 32 (.t 20) (.t 22), none⟩,
 ⟨some 7, .mv (.t 23), none⟩]
def F_law32_DumpJoinsr3 : List IStmt := F_law32_DumpJoinsr3b
theorem F_law32_DumpJoinsr3_W {T : Tab} {env : Env} {H : Heap} {Q : Post} : W T (.dreg F_law32_DumpJoinsr3 [(2, 0), (5, 0), (5, 1)]) env H Q ↔ WR T F_law32_DumpJoinsr3 F_law32_DumpJoinsr3b env H (some []) [(2, 0), (5, 0), (5, 1)] Q := w_dreg
theorem F_law32_DumpJoinsr3_len : F_law32_DumpJoinsr3.length = 8 := rfl
theorem F_law32_DumpJoinsr3_i2 : F_law32_DumpJoinsr3[2]? = some ⟨some 19, .load (.t 18), none⟩ := rfl
theorem F_law32_DumpJoinsr3_i5 : F_law32_DumpJoinsr3[5]? = some ⟨some 22, .load (.t 21), none⟩ := rfl
def F_law32_DumpJoinsr4b : List IStmt := [
 ⟨some 24, .mv (.t 2), none⟩,
 ⟨some 25, .mv (.t 7), none⟩,
 ⟨some 26, .calll 21 [(.t 24), (.t 25)], none⟩,
 ⟨some 27, .mv (.t 2), none⟩,
 ⟨some 28, .fa 57 (.t 3), none⟩,
 ⟨some 29, .load (.t 28), none⟩,
 ⟨some 30, .calll 21 [(.t 27), (.t 29)], none⟩,
 ⟨some 31, .mv (.t 2), none⟩,
 ⟨some 32, .fa 57 (.t 4), none⟩,
 ⟨some 33, .load (.t 32), none⟩,
 ⟨some 34, .calll 21 [(.t 31), (.t 33)], none⟩,
 ⟨some 35, .bin .add (.t 30) (.t 34), none⟩,
 ⟨some 36, .bin .neq (.t 26) (.t 35), none⟩]
def F_law32_DumpJoinsr4 : List IStmt := F_law32_DumpJoinsr4b
theorem F_law32_DumpJoinsr4_W {T : Tab} {env : Env} {H : Heap} {Q : Post} : W T (.dreg F_law32_DumpJoinsr4 [(5, 0), (9, 0), (9, 3)]) env H Q ↔ WR T F_law32_DumpJoinsr4 F_law32_DumpJoinsr4b env H (some []) [(5, 0), (9, 0), (9, 3)] Q := w_dreg
theorem F_law32_DumpJoinsr4_len : F_law32_DumpJoinsr4.length = 13 := rfl
theorem F_law32_DumpJoinsr4_i5 : F_law32_DumpJoinsr4[5]? = some ⟨some 29, .load (.t 28), none⟩ := rfl
theorem F_law32_DumpJoinsr4_i9 : F_law32_DumpJoinsr4[9]? = some ⟨some 33, .load (.t 32), none⟩ := rfl
def F_law32_DumpJoinsr5b : List IStmt := [
 ⟨some 6, .mv (.c (.bool false)), none⟩]
def F_law32_DumpJoinsr5 : List IStmt := F_law32_DumpJoinsr5b
theorem F_law32_DumpJoinsr5_W {T : Tab} {env : Env} {H : Heap} {Q : Post} : W T (.reg F_law32_DumpJoinsr5) env H Q ↔ WR T F_law32_DumpJoinsr5 F_law32_DumpJoinsr5b env H none [] Q := w_reg
def F_law32_DumpJoinsr6b : List IStmt := [
 ⟨some 37, .bslz 7, none⟩,
 ⟨some 38, .fa 56 (.t 3), none⟩,
 ⟨some 39, .load (.t 38), none⟩,
 ⟨some 40, .app 7 72 (.t 37) (.t 39), none⟩,
 ⟨some 41, .fa 56 (.t 4), none⟩,
 ⟨some 42, .load (.t 41), none⟩,
 ⟨some 43, .app 7 72 (.t 40) (.t 42), none⟩,
 ⟨some 8, .mv (.t 43), none⟩]
def F_law32_DumpJoinsr6 : List IStmt := F_law32_DumpJoinsr6b
theorem F_law32_DumpJoinsr6_W {T : Tab} {env : Env} {H : Heap} {Q : Post} : W T (.dreg F_law32_DumpJoinsr6 [(2, 0), (5, 0), (5, 1)]) env H Q ↔ WR T F_law32_DumpJoinsr6 F_law32_DumpJoinsr6b env H (some []) [(2, 0), (5, 0), (5, 1)] Q := w_dreg
theorem F_law32_DumpJoinsr6_len : F_law32_DumpJoinsr6.length = 8 := rfl
theorem F_law32_DumpJoinsr6_i2 : F_law32_DumpJoinsr6[2]? = some ⟨some 39, .load (.t 38), none⟩ := rfl
theorem F_law32_DumpJoinsr6_i5 : F_law32_DumpJoinsr6[5]? = some ⟨some 42, .load (.t 41), none⟩ := rfl
def F_law32_DumpJoinsr7b : List IStmt := [
 ⟨some 44, .fa 56 (.t 3), none⟩,
 ⟨some 45, .load (.t 44), none⟩,
 ⟨some 46, .calll 19 [(.t 45)], none⟩,
 ⟨some 47, .mv (.t 8), none⟩,
 ⟨some 48, .calll 19 [(.t 47)], none⟩,
 ⟨some 9, .mv (.t 46), none⟩,
 ⟨some 10, .mv (.t 48), none⟩]
def F_law32_DumpJoinsr7 : List IStmt := F_law32_DumpJoinsr7b
theorem F_law32_DumpJoinsr7_W {T : Tab} {env : Env} {H : Heap} {Q : Post} : W T (.reg F_law32_DumpJoinsr7) env H Q ↔ WR T F_law32_DumpJoinsr7 F_law32_DumpJoinsr7b env H none [] Q := w_reg
def F_law32_DumpJoinsr8b : List IStmt := [
 ⟨some 49, .mv (.t 10), none⟩,
 ⟨some 50, .len 0 (.t 49), none⟩,
 ⟨some 51, .mv (.t 9), none⟩,
 ⟨some 52, .len 0 (.t 51), none⟩,
 ⟨some 53, .bin .geq (.t 50) (.t 52), none⟩,
 ⟨some 54, .mv (.t 53), none⟩,
 ⟨some 55, .mv (.t 10), some (5, true)⟩,
 ⟨some 56, .mv (.t 9), some (5, true)⟩,
 ⟨some 57, .len 0 (.t 56), some (5, true)⟩,
 ⟨some 58, .sls (.t 55) none (some (.t 57)), some (5, true)⟩,
 ⟨some 59, .mv (.t 9), some (5, true)⟩,
 ⟨some 60, .bin .eql (.t 58) (.t 59), some (5, true)⟩,
 ⟨some 61, .pick (.t 54) (.t 60) (.c (.bool false)), none⟩,
 ⟨some 62, .mv (.t 61), none⟩,
 ⟨some 63, .callc 24 [], some (13, true)⟩,
 ⟨some 64, .pick (.t 62) (.t 63) (.c (.bool false)), none⟩,
 ⟨some 6, .mv (.t 64), none⟩]
def F_law32_DumpJoinsr8 : List IStmt := F_law32_DumpJoinsr8b
theorem F_law32_DumpJoinsr8_W {T : Tab} {env : Env} {H : Heap} {Q : Post} : W T (.reg F_law32_DumpJoinsr8) env H Q ↔ WR T F_law32_DumpJoinsr8 F_law32_DumpJoinsr8b env H none [] Q := w_reg
theorem F_law32_DumpJoinsr8_g5 {env : Env} : yieldI F_law32_DumpJoinsr8 env 5 = bOf (env 54) := rfl
theorem F_law32_DumpJoinsr8_g13 {env : Env} : yieldI F_law32_DumpJoinsr8 env 13 = bOf (env 62) := rfl
def F_law32_DumpJoinscb : ICode := (.seq (.reg F_law32_DumpJoinsr0) (.seq (.seq (.reg F_law32_DumpJoinsr1) (.cond (.t 16) (.seq (.reg F_law32_DumpJoinsr2) .ret) .skip)) (.seq (.dreg F_law32_DumpJoinsr3 [(2, 0), (5, 0), (5, 1)]) (.seq (.seq (.dreg F_law32_DumpJoinsr4 [(5, 0), (9, 0), (9, 3)]) (.cond (.t 36) (.seq (.reg F_law32_DumpJoinsr5) .ret) .skip)) (.seq (.dreg F_law32_DumpJoinsr6 [(2, 0), (5, 0), (5, 1)]) (.seq (.reg F_law32_DumpJoinsr7) (.seq (.reg F_law32_DumpJoinsr8) .ret)))))))
def F_law32_DumpJoinsc : ICode := F_law32_DumpJoinscb
theorem F_law32_DumpJoinsc_W {T : Tab} {env : Env} {H : Heap} {Q : Post} : W T F_law32_DumpJoinsc env H Q ↔ W T F_law32_DumpJoinscb env H Q := Iff.rfl
def F_law32_DumpJoins : IFn := ⟨65, [.tmp 6], F_law32_DumpJoinsc⟩
set_option linter.defProp false in
set_option maxRecDepth 100000 in
def N_law32_DumpJoinsP := And.intro F_law32_DumpJoinsr0b.eq_1 (And.intro @F_law32_DumpJoinsr0_W (And.intro F_law32_DumpJoinsr1b.eq_1 (And.intro @F_law32_DumpJoinsr1_W (And.intro @F_law32_DumpJoinsr1_g2 (And.intro F_law32_DumpJoinsr2b.eq_1 (And.intro @F_law32_DumpJoinsr2_W (And.intro F_law32_DumpJoinsr3b.eq_1 (And.intro @F_law32_DumpJoinsr3_W (And.intro @F_law32_DumpJoinsr3_len (And.intro @F_law32_DumpJoinsr3_i2 (And.intro @F_law32_DumpJoinsr3_i5 (And.intro F_law32_DumpJoinsr4b.eq_1 (And.intro @F_law32_DumpJoinsr4_W (And.intro @F_law32_DumpJoinsr4_len (And.intro @F_law32_DumpJoinsr4_i5 (And.intro @F_law32_DumpJoinsr4_i9 (And.intro F_law32_DumpJoinsr5b.eq_1 (And.intro @F_law32_DumpJoinsr5_W (And.intro F_law32_DumpJoinsr6b.eq_1 (And.intro @F_law32_DumpJoinsr6_W (And.intro @F_law32_DumpJoinsr6_len (And.intro @F_law32_DumpJoinsr6_i2 (And.intro @F_law32_DumpJoinsr6_i5 (And.intro F_law32_DumpJoinsr7b.eq_1 (And.intro @F_law32_DumpJoinsr7_W (And.intro F_law32_DumpJoinsr8b.eq_1 (And.intro @F_law32_DumpJoinsr8_W (And.intro @F_law32_DumpJoinsr8_g5 (And.intro @F_law32_DumpJoinsr8_g13 (And.intro @F_law32_DumpJoinsc_W (F_law32_DumpJoinscb.eq_1)))))))))))))))))))))))))))))))
theorem N_law32_DumpJoins : type_of% N_law32_DumpJoinsP := N_law32_DumpJoinsP
set_option maxRecDepth 1000000 in
theorem F_law32_DumpJoins_chk : chkF Tryz.prog 6 F_law32_DumpJoins = true := by kernel_rfl

/-- The functions, by number. -/
def TDu_l : List (Nat × IFn) := TIm_l ++ TBld_l ++ [(46, F_num_Hex), (49, F_num_Text), (69, F_ref01_Hex), (43, F_ref01_Text), (98, F_apply_intel), (99, F_apply_arm), (70, F_apply_Of), (54, F_ref15_Of), (39, F_dump_writer_line), (52, F_dump_kind), (53, F_dump_add), (21, F_dump_Rels), (40, F_dump_machine), (68, F_dump_letters), (41, F_dump_writer_part), (15, F_dump_Heads), (45, F_dump_when), (17, F_dump_Dyn), (50, F_dump_bind), (51, F_dump_with), (19, F_dump_Syms), (23, F_dump_Lib), (47, F_ref32_line), (48, F_ref32_hex), (44, F_ref32_part), (16, F_ref32_Heads), (18, F_ref32_Dyn), (20, F_ref32_Syms), (22, F_ref32_Rels), (14, F_law32_great), (5, F_law32_DumpWrites), (6, F_law32_DumpJoins)]
def TDu : Tab := tabOf TDu_l
theorem TDu_chk : ∀ p ∈ TDu_l, chkF Tryz.prog p.1 p.2 = true := by
  intro p hp
  simp only [TDu_l, List.mem_append, List.mem_cons, List.not_mem_nil, or_false] at hp
  rcases hp with ((hp) | hp) | rfl | rfl | rfl | rfl | rfl | rfl | rfl | rfl | rfl | rfl | rfl | rfl | rfl | rfl | rfl | rfl | rfl | rfl | rfl | rfl | rfl | rfl | rfl | rfl | rfl | rfl | rfl | rfl | rfl | rfl | rfl | rfl
  · exact TIm_chk p hp
  · exact TBld_chk p hp
  · exact F_num_Hex_chk
  · exact F_num_Text_chk
  · exact F_ref01_Hex_chk
  · exact F_ref01_Text_chk
  · exact F_apply_intel_chk
  · exact F_apply_arm_chk
  · exact F_apply_Of_chk
  · exact F_ref15_Of_chk
  · exact F_dump_writer_line_chk
  · exact F_dump_kind_chk
  · exact F_dump_add_chk
  · exact F_dump_Rels_chk
  · exact F_dump_machine_chk
  · exact F_dump_letters_chk
  · exact F_dump_writer_part_chk
  · exact F_dump_Heads_chk
  · exact F_dump_when_chk
  · exact F_dump_Dyn_chk
  · exact F_dump_bind_chk
  · exact F_dump_with_chk
  · exact F_dump_Syms_chk
  · exact F_dump_Lib_chk
  · exact F_ref32_line_chk
  · exact F_ref32_hex_chk
  · exact F_ref32_part_chk
  · exact F_ref32_Heads_chk
  · exact F_ref32_Dyn_chk
  · exact F_ref32_Syms_chk
  · exact F_ref32_Rels_chk
  · exact F_law32_great_chk
  · exact F_law32_DumpWrites_chk
  · exact F_law32_DumpJoins_chk
theorem TDu_good : Good Tryz.prog TDu := good_tab (by kernel_rfl) TDu_chk

end Go.Proofs.YtdajdgjacajemaaGreat
