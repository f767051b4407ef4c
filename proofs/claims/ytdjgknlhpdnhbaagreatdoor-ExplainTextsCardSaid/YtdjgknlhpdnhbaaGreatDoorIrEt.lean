/- The small language's text of functions of the given program, and the check that it stands for them. Printed by a program. -/
import Derived.Test.YtdjgknlhpdnhbaaGreatDoorFwC
import Derived.Test.YtdjgknlhpdnhbaaGreatDoorChecked
import Derived.Test.YtdjgknlhpdnhbaaGreatDoorEtNat
import Derived.KernelRfl
namespace Go.Proofs.YtdjgknlhpdnhbaaGreatDoor
open Go Fw

/-! ### explain_Tried -/
def F_explain_Triedr0b : List IStmt := [
 ⟨some 2, .mv (.c (.int .i64 0)), none⟩,
 ⟨some 3, .mv (.c (.int .i64 0)), none⟩]
def F_explain_Triedr0 : List IStmt := F_explain_Triedr0b
theorem F_explain_Triedr0_W {T : Tab} {env : Env} {H : Heap} {Q : Post} : W T (.reg F_explain_Triedr0) env H Q ↔ WR T F_explain_Triedr0 F_explain_Triedr0b env H none [] Q := w_reg
def F_explain_Triedr1b : List IStmt := [
 ⟨some 4, .mv (.c (.int .i64 0)), none⟩,
 ⟨some 5, .mv (.c (.int .i64 0)), none⟩]
def F_explain_Triedr1 : List IStmt := F_explain_Triedr1b
theorem F_explain_Triedr1_W {T : Tab} {env : Env} {H : Heap} {Q : Post} : W T (.reg F_explain_Triedr1) env H Q ↔ WR T F_explain_Triedr1 F_explain_Triedr1b env H none [] Q := w_reg
def F_explain_Triedr2b : List IStmt := [
 ⟨some 8, .mv (.t 0), none⟩,
 ⟨some 9, .len 1 (.t 8), none⟩,
 ⟨some 10, .mv (.c (.int .i64 0)), none⟩]
def F_explain_Triedr2 : List IStmt := F_explain_Triedr2b
theorem F_explain_Triedr2_W {T : Tab} {env : Env} {H : Heap} {Q : Post} : W T (.reg F_explain_Triedr2) env H Q ↔ WR T F_explain_Triedr2 F_explain_Triedr2b env H none [] Q := w_reg
def F_explain_Triedr3b : List IStmt := [
 ⟨some 11, .bin .lss (.t 10) (.t 9), none⟩]
def F_explain_Triedr3 : List IStmt := F_explain_Triedr3b
theorem F_explain_Triedr3_W {T : Tab} {env : Env} {H : Heap} {Q : Post} : W T (.reg F_explain_Triedr3) env H Q ↔ WR T F_explain_Triedr3 F_explain_Triedr3b env H none [] Q := w_reg
def F_explain_Triedr4b : List IStmt := [
 ⟨some 12, .ixa 6 (.t 8) (.t 10), none⟩,
 ⟨some 13, .loadN 6 (.t 12), none⟩,
 ⟨some 7, .alloc 6 [.string ⟨#[]⟩, .string ⟨#[]⟩, .int .i64 0, .string ⟨#[]⟩, .int .i64 0, .int .i64 0], none⟩,
 ⟨none, .store 6 (.t 7) (.t 13), none⟩]
def F_explain_Triedr4 : List IStmt := F_explain_Triedr4b
theorem F_explain_Triedr4_W {T : Tab} {env : Env} {H : Heap} {Q : Post} : W T (.reg F_explain_Triedr4) env H Q ↔ WR T F_explain_Triedr4 F_explain_Triedr4b env H none [] Q := w_reg
def F_explain_Triedr5b : List IStmt := [
 ⟨some 14, .fa 4 (.t 7), none⟩,
 ⟨some 15, .load (.t 14), none⟩]
def F_explain_Triedr5 : List IStmt := F_explain_Triedr5b
theorem F_explain_Triedr5_W {T : Tab} {env : Env} {H : Heap} {Q : Post} : W T (.reg F_explain_Triedr5) env H Q ↔ WR T F_explain_Triedr5 F_explain_Triedr5b env H none [] Q := w_reg
def F_explain_Triedr6b : List IStmt := [
 ⟨some 17, .bin .eql (.t 15) (.c (.int .i64 3)), none⟩,
 ⟨some 16, .mv (.t 17), none⟩]
def F_explain_Triedr6 : List IStmt := F_explain_Triedr6b
theorem F_explain_Triedr6_W {T : Tab} {env : Env} {H : Heap} {Q : Post} : W T (.reg F_explain_Triedr6) env H Q ↔ WR T F_explain_Triedr6 F_explain_Triedr6b env H none [] Q := w_reg
def F_explain_Triedr7b : List IStmt := [
 ⟨some 18, .mv (.t 5), none⟩,
 ⟨some 19, .bin .add (.t 18) (.c (.int .i64 1)), none⟩,
 ⟨some 5, .mv (.t 19), none⟩]
def F_explain_Triedr7 : List IStmt := F_explain_Triedr7b
theorem F_explain_Triedr7_W {T : Tab} {env : Env} {H : Heap} {Q : Post} : W T (.reg F_explain_Triedr7) env H Q ↔ WR T F_explain_Triedr7 F_explain_Triedr7b env H none [] Q := w_reg
def F_explain_Triedr8b : List IStmt := [
 ⟨some 20, .mv (.t 4), none⟩,
 ⟨some 21, .bin .add (.t 20) (.c (.int .i64 1)), none⟩,
 ⟨some 4, .mv (.t 21), none⟩]
def F_explain_Triedr8 : List IStmt := F_explain_Triedr8b
theorem F_explain_Triedr8_W {T : Tab} {env : Env} {H : Heap} {Q : Post} : W T (.reg F_explain_Triedr8) env H Q ↔ WR T F_explain_Triedr8 F_explain_Triedr8b env H none [] Q := w_reg
def F_explain_Triedr9b : List IStmt := [
 ⟨some 23, .bin .eql (.t 15) (.c (.int .i64 4)), none⟩,
 ⟨some 22, .mv (.t 23), none⟩]
def F_explain_Triedr9 : List IStmt := F_explain_Triedr9b
theorem F_explain_Triedr9_W {T : Tab} {env : Env} {H : Heap} {Q : Post} : W T (.reg F_explain_Triedr9) env H Q ↔ WR T F_explain_Triedr9 F_explain_Triedr9b env H none [] Q := w_reg
def F_explain_Triedr10b : List IStmt := [
 ⟨some 24, .bin .eql (.t 15) (.c (.int .i64 5)), none⟩,
 ⟨some 22, .mv (.t 24), none⟩]
def F_explain_Triedr10 : List IStmt := F_explain_Triedr10b
theorem F_explain_Triedr10_W {T : Tab} {env : Env} {H : Heap} {Q : Post} : W T (.reg F_explain_Triedr10) env H Q ↔ WR T F_explain_Triedr10 F_explain_Triedr10b env H none [] Q := w_reg
def F_explain_Triedr11b : List IStmt := [
 ⟨some 25, .bin .eql (.t 15) (.c (.int .i64 6)), none⟩,
 ⟨some 22, .mv (.t 25), none⟩]
def F_explain_Triedr11 : List IStmt := F_explain_Triedr11b
theorem F_explain_Triedr11_W {T : Tab} {env : Env} {H : Heap} {Q : Post} : W T (.reg F_explain_Triedr11) env H Q ↔ WR T F_explain_Triedr11 F_explain_Triedr11b env H none [] Q := w_reg
def F_explain_Triedr12b : List IStmt := [
 ⟨some 26, .bin .eql (.t 15) (.c (.int .i64 7)), none⟩,
 ⟨some 22, .mv (.t 26), none⟩]
def F_explain_Triedr12 : List IStmt := F_explain_Triedr12b
theorem F_explain_Triedr12_W {T : Tab} {env : Env} {H : Heap} {Q : Post} : W T (.reg F_explain_Triedr12) env H Q ↔ WR T F_explain_Triedr12 F_explain_Triedr12b env H none [] Q := w_reg
def F_explain_Triedr13b : List IStmt := [
 ⟨some 27, .mv (.t 4), none⟩,
 ⟨some 28, .bin .add (.t 27) (.c (.int .i64 1)), none⟩,
 ⟨some 4, .mv (.t 28), none⟩]
def F_explain_Triedr13 : List IStmt := F_explain_Triedr13b
theorem F_explain_Triedr13_W {T : Tab} {env : Env} {H : Heap} {Q : Post} : W T (.reg F_explain_Triedr13) env H Q ↔ WR T F_explain_Triedr13 F_explain_Triedr13b env H none [] Q := w_reg
def F_explain_Triedr14b : List IStmt := [
 ⟨some 29, .bin .add (.t 10) (.c (.int .i64 1)), none⟩,
 ⟨some 10, .mv (.t 29), none⟩]
def F_explain_Triedr14 : List IStmt := F_explain_Triedr14b
theorem F_explain_Triedr14_W {T : Tab} {env : Env} {H : Heap} {Q : Post} : W T (.reg F_explain_Triedr14) env H Q ↔ WR T F_explain_Triedr14 F_explain_Triedr14b env H none [] Q := w_reg
def F_explain_Triedl0b : ICode := (.seq (.reg F_explain_Triedr3) (.seq (.cond (.t 11) .skip (.exit 0)) (.seq (.block 1 (.seq (.reg F_explain_Triedr4) (.seq (.reg F_explain_Triedr5) (.block 2 (.seq (.reg F_explain_Triedr6) (.cond (.t 16) (.seq (.reg F_explain_Triedr7) (.reg F_explain_Triedr8)) (.seq (.seq (.reg F_explain_Triedr9) (.cond (.t 22) .skip (.seq (.reg F_explain_Triedr10) (.cond (.t 22) .skip (.seq (.reg F_explain_Triedr11) (.cond (.t 22) .skip (.reg F_explain_Triedr12))))))) (.cond (.t 22) (.reg F_explain_Triedr13) .skip)))))))) (.reg F_explain_Triedr14))))
def F_explain_Triedl0 : ICode := F_explain_Triedl0b
theorem F_explain_Triedl0_W {T : Tab} {env : Env} {H : Heap} {Q : Post} : W T F_explain_Triedl0 env H Q ↔ W T F_explain_Triedl0b env H Q := Iff.rfl
def F_explain_Triedr15b : List IStmt := [
 ⟨some 30, .mv (.t 4), none⟩,
 ⟨some 31, .mv (.t 5), none⟩,
 ⟨some 2, .mv (.t 30), none⟩,
 ⟨some 3, .mv (.t 31), none⟩]
def F_explain_Triedr15 : List IStmt := F_explain_Triedr15b
theorem F_explain_Triedr15_W {T : Tab} {env : Env} {H : Heap} {Q : Post} : W T (.reg F_explain_Triedr15) env H Q ↔ WR T F_explain_Triedr15 F_explain_Triedr15b env H none [] Q := w_reg
def F_explain_Triedcb : ICode := (.seq (.reg F_explain_Triedr0) (.seq (.reg F_explain_Triedr1) (.seq (.seq (.reg F_explain_Triedr2) (.block 0 (.loop F_explain_Triedl0))) (.seq (.reg F_explain_Triedr15) .ret))))
def F_explain_Triedc : ICode := F_explain_Triedcb
theorem F_explain_Triedc_W {T : Tab} {env : Env} {H : Heap} {Q : Post} : W T F_explain_Triedc env H Q ↔ W T F_explain_Triedcb env H Q := Iff.rfl
def F_explain_Tried : IFn := ⟨32, [.tmp 2, .tmp 3], F_explain_Triedc⟩
set_option linter.defProp false in
set_option maxRecDepth 100000 in
def N_explain_TriedP := And.intro F_explain_Triedr0b.eq_1 (And.intro @F_explain_Triedr0_W (And.intro F_explain_Triedr1b.eq_1 (And.intro @F_explain_Triedr1_W (And.intro F_explain_Triedr2b.eq_1 (And.intro @F_explain_Triedr2_W (And.intro F_explain_Triedr3b.eq_1 (And.intro @F_explain_Triedr3_W (And.intro F_explain_Triedr4b.eq_1 (And.intro @F_explain_Triedr4_W (And.intro F_explain_Triedr5b.eq_1 (And.intro @F_explain_Triedr5_W (And.intro F_explain_Triedr6b.eq_1 (And.intro @F_explain_Triedr6_W (And.intro F_explain_Triedr7b.eq_1 (And.intro @F_explain_Triedr7_W (And.intro F_explain_Triedr8b.eq_1 (And.intro @F_explain_Triedr8_W (And.intro F_explain_Triedr9b.eq_1 (And.intro @F_explain_Triedr9_W (And.intro F_explain_Triedr10b.eq_1 (And.intro @F_explain_Triedr10_W (And.intro F_explain_Triedr11b.eq_1 (And.intro @F_explain_Triedr11_W (And.intro F_explain_Triedr12b.eq_1 (And.intro @F_explain_Triedr12_W (And.intro F_explain_Triedr13b.eq_1 (And.intro @F_explain_Triedr13_W (And.intro F_explain_Triedr14b.eq_1 (And.intro @F_explain_Triedr14_W (And.intro @F_explain_Triedl0_W (And.intro F_explain_Triedl0b.eq_1 (And.intro F_explain_Triedr15b.eq_1 (And.intro @F_explain_Triedr15_W (And.intro @F_explain_Triedc_W (F_explain_Triedcb.eq_1)))))))))))))))))))))))))))))))))))
theorem N_explain_Tried : type_of% N_explain_TriedP := N_explain_TriedP
set_option maxRecDepth 1000000 in
theorem F_explain_Tried_chk : chkF Tryz.prog 4 F_explain_Tried = true := by kernel_rfl

/-! ### num_Text -/
def F_num_Textr0b : List IStmt := [
 ⟨some 2, .mv (.c (.string ⟨#[]⟩)), none⟩]
def F_num_Textr0 : List IStmt := F_num_Textr0b
theorem F_num_Textr0_W {T : Tab} {env : Env} {H : Heap} {Q : Post} : W T (.reg F_num_Textr0) env H Q ↔ WR T F_num_Textr0 F_num_Textr0b env H none [] Q := w_reg
def F_num_Textr1b : List IStmt := [
 ⟨some 3, .mv (.c (.string ⟨#[]⟩)), none⟩]
def F_num_Textr1 : List IStmt := F_num_Textr1b
theorem F_num_Textr1_W {T : Tab} {env : Env} {H : Heap} {Q : Post} : W T (.reg F_num_Textr1) env H Q ↔ WR T F_num_Textr1 F_num_Textr1b env H none [] Q := w_reg
def F_num_Textr2b : List IStmt := [
 ⟨some 4, .mv (.t 0), none⟩,
 ⟨some 5, .mx (.t 4) (.c (.int .i64 0)), none⟩,
 ⟨some 0, .mv (.t 5), none⟩]
def F_num_Textr2 : List IStmt := F_num_Textr2b
theorem F_num_Textr2_W {T : Tab} {env : Env} {H : Heap} {Q : Post} : W T (.reg F_num_Textr2) env H Q ↔ WR T F_num_Textr2 F_num_Textr2b env H none [] Q := w_reg
def F_num_Textr3b : List IStmt := [
 ⟨some 6, .mv (.t 0), none⟩,
 ⟨some 7, .bin .gtr (.t 6) (.c (.int .i64 0)), none⟩,
 ⟨some 8, .mv (.t 7), none⟩,
 ⟨some 9, .mv (.t 3), some (2, false)⟩,
 ⟨some 10, .bin .eql (.t 9) (.c (.string ⟨#[]⟩)), some (2, false)⟩,
 ⟨some 11, .pick (.t 8) (.c (.bool true)) (.t 10), none⟩]
def F_num_Textr3 : List IStmt := F_num_Textr3b
theorem F_num_Textr3_W {T : Tab} {env : Env} {H : Heap} {Q : Post} : W T (.reg F_num_Textr3) env H Q ↔ WR T F_num_Textr3 F_num_Textr3b env H none [] Q := w_reg
theorem F_num_Textr3_g2 {env : Env} : yieldI F_num_Textr3 env 2 = bOf (env 8) := rfl
def F_num_Textr5b : List IStmt := [
 ⟨some 14, .mv (.t 0), none⟩,
 ⟨some 15, .bin .rem (.t 14) (.c (.int .i64 10)), none⟩,
 ⟨some 16, .bin .add (.c (.int .i64 48)) (.t 15), none⟩,
 ⟨some 17, .conv .u8 (.t 16), none⟩,
 ⟨some 18, .bsli 1 1 [.int .u8 0] [(0, (.t 17))], none⟩,
 ⟨some 19, .b2s (.t 18), none⟩,
 ⟨some 20, .mv (.t 3), none⟩,
 ⟨some 21, .bin .add (.t 19) (.t 20), none⟩,
 ⟨some 3, .mv (.t 21), none⟩]
def F_num_Textr5 : List IStmt := F_num_Textr5b
theorem F_num_Textr5_W {T : Tab} {env : Env} {H : Heap} {Q : Post} : W T (.reg F_num_Textr5) env H Q ↔ WR T F_num_Textr5 F_num_Textr5b env H none [] Q := w_reg
def F_num_Textr4b : List IStmt := [
 ⟨some 12, .mv (.t 0), none⟩,
 ⟨some 13, .bin .quo (.t 12) (.c (.int .i64 10)), none⟩,
 ⟨some 0, .mv (.t 13), none⟩]
def F_num_Textr4 : List IStmt := F_num_Textr4b
theorem F_num_Textr4_W {T : Tab} {env : Env} {H : Heap} {Q : Post} : W T (.reg F_num_Textr4) env H Q ↔ WR T F_num_Textr4 F_num_Textr4b env H none [] Q := w_reg
def F_num_Textl0b : ICode := (.seq (.seq (.reg F_num_Textr3) (.cond (.t 11) .skip (.exit 0))) (.seq (.block 1 (.reg F_num_Textr5)) (.reg F_num_Textr4)))
def F_num_Textl0 : ICode := F_num_Textl0b
theorem F_num_Textl0_W {T : Tab} {env : Env} {H : Heap} {Q : Post} : W T F_num_Textl0 env H Q ↔ W T F_num_Textl0b env H Q := Iff.rfl
def F_num_Textr6b : List IStmt := [
 ⟨some 22, .mv (.t 3), none⟩,
 ⟨some 2, .mv (.t 22), none⟩]
def F_num_Textr6 : List IStmt := F_num_Textr6b
theorem F_num_Textr6_W {T : Tab} {env : Env} {H : Heap} {Q : Post} : W T (.reg F_num_Textr6) env H Q ↔ WR T F_num_Textr6 F_num_Textr6b env H none [] Q := w_reg
def F_num_Textcb : ICode := (.seq (.reg F_num_Textr0) (.seq (.reg F_num_Textr1) (.seq (.seq (.reg F_num_Textr2) (.block 0 (.loop F_num_Textl0))) (.seq (.reg F_num_Textr6) .ret))))
def F_num_Textc : ICode := F_num_Textcb
theorem F_num_Textc_W {T : Tab} {env : Env} {H : Heap} {Q : Post} : W T F_num_Textc env H Q ↔ W T F_num_Textcb env H Q := Iff.rfl
def F_num_Text : IFn := ⟨23, [.tmp 2], F_num_Textc⟩
set_option linter.defProp false in
set_option maxRecDepth 100000 in
def N_num_TextP := And.intro F_num_Textr0b.eq_1 (And.intro @F_num_Textr0_W (And.intro F_num_Textr1b.eq_1 (And.intro @F_num_Textr1_W (And.intro F_num_Textr2b.eq_1 (And.intro @F_num_Textr2_W (And.intro F_num_Textr3b.eq_1 (And.intro @F_num_Textr3_W (And.intro @F_num_Textr3_g2 (And.intro F_num_Textr5b.eq_1 (And.intro @F_num_Textr5_W (And.intro F_num_Textr4b.eq_1 (And.intro @F_num_Textr4_W (And.intro @F_num_Textl0_W (And.intro F_num_Textl0b.eq_1 (And.intro F_num_Textr6b.eq_1 (And.intro @F_num_Textr6_W (And.intro @F_num_Textc_W (F_num_Textcb.eq_1))))))))))))))))))
theorem N_num_Text : type_of% N_num_TextP := N_num_TextP
set_option maxRecDepth 1000000 in
theorem F_num_Text_chk : chkF Tryz.prog 9 F_num_Text = true := by kernel_rfl

/-! ### explain_word -/
def F_explain_wordr0b : List IStmt := [
 ⟨some 2, .mv (.c (.string ⟨#[]⟩)), none⟩]
def F_explain_wordr0 : List IStmt := F_explain_wordr0b
theorem F_explain_wordr0_W {T : Tab} {env : Env} {H : Heap} {Q : Post} : W T (.reg F_explain_wordr0) env H Q ↔ WR T F_explain_wordr0 F_explain_wordr0b env H none [] Q := w_reg
def F_explain_wordr1b : List IStmt := [
 ⟨some 4, .bld [.string ⟨#[]⟩, .string ⟨#[]⟩, .string ⟨#[]⟩, .string ⟨#[]⟩, .string ⟨#[]⟩, .string ⟨#[]⟩, .string ⟨#[]⟩, .string ⟨#[]⟩, .string ⟨#[]⟩] [(0, 1, (.c (.string ⟨#[]⟩))), (1, 1, (.c (.string ⟨#[116, 104, 101, 114, 101]⟩))), (2, 1, (.c (.string ⟨#[98, 97, 114, 114, 101, 100]⟩))), (3, 1, (.c (.string ⟨#[97, 98, 115, 101, 110, 116]⟩))), (4, 1, (.c (.string ⟨#[100, 101, 110, 105, 101, 100]⟩))), (5, 1, (.c (.string ⟨#[107, 110, 111, 119, 110]⟩))), (6, 1, (.c (.string ⟨#[110, 101, 119]⟩))), (7, 1, (.c (.string ⟨#[119, 114, 111, 110, 103]⟩))), (8, 1, (.c (.string ⟨#[108, 105, 110, 107]⟩)))], none⟩,
 ⟨some 3, .alloc 1 [.string ⟨#[]⟩, .string ⟨#[]⟩, .string ⟨#[]⟩, .string ⟨#[]⟩, .string ⟨#[]⟩, .string ⟨#[]⟩, .string ⟨#[]⟩, .string ⟨#[]⟩, .string ⟨#[]⟩], none⟩,
 ⟨none, .store 9 (.t 3) (.t 4), none⟩]
def F_explain_wordr1 : List IStmt := F_explain_wordr1b
theorem F_explain_wordr1_W {T : Tab} {env : Env} {H : Heap} {Q : Post} : W T (.reg F_explain_wordr1) env H Q ↔ WR T F_explain_wordr1 F_explain_wordr1b env H none [] Q := w_reg
def F_explain_wordr2b : List IStmt := [
 ⟨some 5, .mv (.t 0), none⟩,
 ⟨some 6, .bin .lss (.t 5) (.c (.int .i64 1)), none⟩,
 ⟨some 7, .mv (.t 6), none⟩,
 ⟨some 8, .mv (.t 0), some (2, false)⟩,
 ⟨some 9, .bin .gtr (.t 8) (.c (.int .i64 8)), some (2, false)⟩,
 ⟨some 10, .pick (.t 7) (.c (.bool true)) (.t 9), none⟩]
def F_explain_wordr2 : List IStmt := F_explain_wordr2b
theorem F_explain_wordr2_W {T : Tab} {env : Env} {H : Heap} {Q : Post} : W T (.reg F_explain_wordr2) env H Q ↔ WR T F_explain_wordr2 F_explain_wordr2b env H none [] Q := w_reg
theorem F_explain_wordr2_g2 {env : Env} : yieldI F_explain_wordr2 env 2 = bOf (env 7) := rfl
def F_explain_wordr3b : List IStmt := [
 ⟨some 2, .mv (.c (.string ⟨#[110, 111, 110, 101]⟩)), none⟩]
def F_explain_wordr3 : List IStmt := F_explain_wordr3b
theorem F_explain_wordr3_W {T : Tab} {env : Env} {H : Heap} {Q : Post} : W T (.reg F_explain_wordr3) env H Q ↔ WR T F_explain_wordr3 F_explain_wordr3b env H none [] Q := w_reg
def F_explain_wordr4b : List IStmt := [
 ⟨some 11, .mv (.t 0), none⟩,
 ⟨some 12, .ixr 9 1 (.t 3) (.t 11), none⟩,
 ⟨some 13, .load (.t 12), none⟩,
 ⟨some 2, .mv (.t 13), none⟩]
def F_explain_wordr4 : List IStmt := F_explain_wordr4b
theorem F_explain_wordr4_W {T : Tab} {env : Env} {H : Heap} {Q : Post} : W T (.reg F_explain_wordr4) env H Q ↔ WR T F_explain_wordr4 F_explain_wordr4b env H none [] Q := w_reg
def F_explain_wordcb : ICode := (.seq (.reg F_explain_wordr0) (.seq (.reg F_explain_wordr1) (.seq (.seq (.reg F_explain_wordr2) (.cond (.t 10) (.seq (.reg F_explain_wordr3) .ret) .skip)) (.seq (.reg F_explain_wordr4) .ret))))
def F_explain_wordc : ICode := F_explain_wordcb
theorem F_explain_wordc_W {T : Tab} {env : Env} {H : Heap} {Q : Post} : W T F_explain_wordc env H Q ↔ W T F_explain_wordcb env H Q := Iff.rfl
def F_explain_word : IFn := ⟨14, [.tmp 2], F_explain_wordc⟩
set_option linter.defProp false in
set_option maxRecDepth 100000 in
def N_explain_wordP := And.intro F_explain_wordr0b.eq_1 (And.intro @F_explain_wordr0_W (And.intro F_explain_wordr1b.eq_1 (And.intro @F_explain_wordr1_W (And.intro F_explain_wordr2b.eq_1 (And.intro @F_explain_wordr2_W (And.intro @F_explain_wordr2_g2 (And.intro F_explain_wordr3b.eq_1 (And.intro @F_explain_wordr3_W (And.intro F_explain_wordr4b.eq_1 (And.intro @F_explain_wordr4_W (And.intro @F_explain_wordc_W (F_explain_wordcb.eq_1))))))))))))
theorem N_explain_word : type_of% N_explain_wordP := N_explain_wordP
set_option maxRecDepth 1000000 in
theorem F_explain_word_chk : chkF Tryz.prog 10 F_explain_word = true := by kernel_rfl

/-! ### explain_Text -/
def F_explain_Textr0b : List IStmt := [
 ⟨some 2, .mv (.c (.string ⟨#[]⟩)), none⟩]
def F_explain_Textr0 : List IStmt := F_explain_Textr0b
theorem F_explain_Textr0_W {T : Tab} {env : Env} {H : Heap} {Q : Post} : W T (.reg F_explain_Textr0) env H Q ↔ WR T F_explain_Textr0 F_explain_Textr0b env H none [] Q := w_reg
def F_explain_Textr1b : List IStmt := [
 ⟨some 3, .mv (.c (.string ⟨#[]⟩)), none⟩]
def F_explain_Textr1 : List IStmt := F_explain_Textr1b
theorem F_explain_Textr1_W {T : Tab} {env : Env} {H : Heap} {Q : Post} : W T (.reg F_explain_Textr1) env H Q ↔ WR T F_explain_Textr1 F_explain_Textr1b env H none [] Q := w_reg
def F_explain_Textr2b : List IStmt := [
 ⟨some 6, .mv (.t 0), none⟩,
 ⟨some 7, .len 1 (.t 6), none⟩,
 ⟨some 8, .mv (.c (.int .i64 0)), none⟩]
def F_explain_Textr2 : List IStmt := F_explain_Textr2b
theorem F_explain_Textr2_W {T : Tab} {env : Env} {H : Heap} {Q : Post} : W T (.reg F_explain_Textr2) env H Q ↔ WR T F_explain_Textr2 F_explain_Textr2b env H none [] Q := w_reg
def F_explain_Textr3b : List IStmt := [
 ⟨some 9, .bin .lss (.t 8) (.t 7), none⟩]
def F_explain_Textr3 : List IStmt := F_explain_Textr3b
theorem F_explain_Textr3_W {T : Tab} {env : Env} {H : Heap} {Q : Post} : W T (.reg F_explain_Textr3) env H Q ↔ WR T F_explain_Textr3 F_explain_Textr3b env H none [] Q := w_reg
def F_explain_Textr4b : List IStmt := [
 ⟨some 10, .ixa 6 (.t 6) (.t 8), none⟩,
 ⟨some 11, .loadN 6 (.t 10), none⟩,
 ⟨some 5, .alloc 6 [.string ⟨#[]⟩, .string ⟨#[]⟩, .int .i64 0, .string ⟨#[]⟩, .int .i64 0, .int .i64 0], none⟩,
 ⟨none, .store 6 (.t 5) (.t 11), none⟩]
def F_explain_Textr4 : List IStmt := F_explain_Textr4b
theorem F_explain_Textr4_W {T : Tab} {env : Env} {H : Heap} {Q : Post} : W T (.reg F_explain_Textr4) env H Q ↔ WR T F_explain_Textr4 F_explain_Textr4b env H none [] Q := w_reg
def F_explain_Textr5b : List IStmt := [
 ⟨some 12, .mv (.t 3), none⟩,
 ⟨some 13, .fa 0 (.t 5), none⟩,
 ⟨some 14, .load (.t 13), none⟩,
 ⟨some 15, .bin .add (.t 14) (.c (.string ⟨#[32]⟩)), none⟩,
 ⟨some 16, .fa 1 (.t 5), none⟩,
 ⟨some 17, .load (.t 16), none⟩,
 ⟨some 18, .bin .add (.t 15) (.t 17), none⟩,
 ⟨some 19, .bin .add (.t 18) (.c (.string ⟨#[32]⟩)), none⟩,
 ⟨some 20, .fa 2 (.t 5), none⟩,
 ⟨some 21, .load (.t 20), none⟩,
 ⟨some 22, .callc 9 [(.t 21)], none⟩,
 ⟨some 23, .bin .add (.t 19) (.t 22), none⟩,
 ⟨some 24, .bin .add (.t 23) (.c (.string ⟨#[32]⟩)), none⟩,
 ⟨some 25, .fa 4 (.t 5), none⟩,
 ⟨some 26, .load (.t 25), none⟩,
 ⟨some 27, .callc 10 [(.t 26)], none⟩,
 ⟨some 28, .bin .add (.t 24) (.t 27), none⟩,
 ⟨some 29, .bin .add (.t 12) (.t 28), none⟩,
 ⟨some 3, .mv (.t 29), none⟩]
def F_explain_Textr5 : List IStmt := F_explain_Textr5b
theorem F_explain_Textr5_W {T : Tab} {env : Env} {H : Heap} {Q : Post} : W T (.dreg F_explain_Textr5 []) env H Q ↔ WR T F_explain_Textr5 F_explain_Textr5b env H none [] Q := w_dreg0
def F_explain_Textr6b : List IStmt := [
 ⟨some 30, .fa 5 (.t 5), none⟩,
 ⟨some 31, .load (.t 30), none⟩,
 ⟨some 32, .bin .neq (.t 31) (.c (.int .i64 0)), none⟩]
def F_explain_Textr6 : List IStmt := F_explain_Textr6b
theorem F_explain_Textr6_W {T : Tab} {env : Env} {H : Heap} {Q : Post} : W T (.reg F_explain_Textr6) env H Q ↔ WR T F_explain_Textr6 F_explain_Textr6b env H none [] Q := w_reg
def F_explain_Textr7b : List IStmt := [
 ⟨some 33, .mv (.t 3), none⟩,
 ⟨some 34, .fa 5 (.t 5), none⟩,
 ⟨some 35, .load (.t 34), none⟩,
 ⟨some 36, .callc 9 [(.t 35)], none⟩,
 ⟨some 37, .bin .add (.c (.string ⟨#[32]⟩)) (.t 36), none⟩,
 ⟨some 38, .bin .add (.t 33) (.t 37), none⟩,
 ⟨some 3, .mv (.t 38), none⟩]
def F_explain_Textr7 : List IStmt := F_explain_Textr7b
theorem F_explain_Textr7_W {T : Tab} {env : Env} {H : Heap} {Q : Post} : W T (.reg F_explain_Textr7) env H Q ↔ WR T F_explain_Textr7 F_explain_Textr7b env H none [] Q := w_reg
def F_explain_Textr8b : List IStmt := [
 ⟨some 39, .fa 3 (.t 5), none⟩,
 ⟨some 40, .load (.t 39), none⟩,
 ⟨some 41, .bin .neq (.t 40) (.c (.string ⟨#[]⟩)), none⟩]
def F_explain_Textr8 : List IStmt := F_explain_Textr8b
theorem F_explain_Textr8_W {T : Tab} {env : Env} {H : Heap} {Q : Post} : W T (.reg F_explain_Textr8) env H Q ↔ WR T F_explain_Textr8 F_explain_Textr8b env H none [] Q := w_reg
def F_explain_Textr9b : List IStmt := [
 ⟨some 42, .mv (.t 3), none⟩,
 ⟨some 43, .fa 3 (.t 5), none⟩,
 ⟨some 44, .load (.t 43), none⟩,
 ⟨some 45, .bin .add (.c (.string ⟨#[32]⟩)) (.t 44), none⟩,
 ⟨some 46, .bin .add (.t 42) (.t 45), none⟩,
 ⟨some 3, .mv (.t 46), none⟩]
def F_explain_Textr9 : List IStmt := F_explain_Textr9b
theorem F_explain_Textr9_W {T : Tab} {env : Env} {H : Heap} {Q : Post} : W T (.reg F_explain_Textr9) env H Q ↔ WR T F_explain_Textr9 F_explain_Textr9b env H none [] Q := w_reg
def F_explain_Textr10b : List IStmt := [
 ⟨some 47, .mv (.t 3), none⟩,
 ⟨some 48, .bin .add (.t 47) (.c (.string ⟨#[10]⟩)), none⟩,
 ⟨some 3, .mv (.t 48), none⟩]
def F_explain_Textr10 : List IStmt := F_explain_Textr10b
theorem F_explain_Textr10_W {T : Tab} {env : Env} {H : Heap} {Q : Post} : W T (.reg F_explain_Textr10) env H Q ↔ WR T F_explain_Textr10 F_explain_Textr10b env H none [] Q := w_reg
def F_explain_Textr11b : List IStmt := [
 ⟨some 49, .bin .add (.t 8) (.c (.int .i64 1)), none⟩,
 ⟨some 8, .mv (.t 49), none⟩]
def F_explain_Textr11 : List IStmt := F_explain_Textr11b
theorem F_explain_Textr11_W {T : Tab} {env : Env} {H : Heap} {Q : Post} : W T (.reg F_explain_Textr11) env H Q ↔ WR T F_explain_Textr11 F_explain_Textr11b env H none [] Q := w_reg
def F_explain_Textl0b : ICode := (.seq (.reg F_explain_Textr3) (.seq (.cond (.t 9) .skip (.exit 0)) (.seq (.block 1 (.seq (.reg F_explain_Textr4) (.seq (.dreg F_explain_Textr5 []) (.seq (.seq (.reg F_explain_Textr6) (.cond (.t 32) (.reg F_explain_Textr7) .skip)) (.seq (.seq (.reg F_explain_Textr8) (.cond (.t 41) (.reg F_explain_Textr9) .skip)) (.reg F_explain_Textr10)))))) (.reg F_explain_Textr11))))
def F_explain_Textl0 : ICode := F_explain_Textl0b
theorem F_explain_Textl0_W {T : Tab} {env : Env} {H : Heap} {Q : Post} : W T F_explain_Textl0 env H Q ↔ W T F_explain_Textl0b env H Q := Iff.rfl
def F_explain_Textr12b : List IStmt := [
 ⟨some 50, .mv (.t 3), none⟩,
 ⟨some 2, .mv (.t 50), none⟩]
def F_explain_Textr12 : List IStmt := F_explain_Textr12b
theorem F_explain_Textr12_W {T : Tab} {env : Env} {H : Heap} {Q : Post} : W T (.reg F_explain_Textr12) env H Q ↔ WR T F_explain_Textr12 F_explain_Textr12b env H none [] Q := w_reg
def F_explain_Textcb : ICode := (.seq (.reg F_explain_Textr0) (.seq (.reg F_explain_Textr1) (.seq (.seq (.reg F_explain_Textr2) (.block 0 (.loop F_explain_Textl0))) (.seq (.reg F_explain_Textr12) .ret))))
def F_explain_Textc : ICode := F_explain_Textcb
theorem F_explain_Textc_W {T : Tab} {env : Env} {H : Heap} {Q : Post} : W T F_explain_Textc env H Q ↔ W T F_explain_Textcb env H Q := Iff.rfl
def F_explain_Text : IFn := ⟨51, [.tmp 2], F_explain_Textc⟩
set_option linter.defProp false in
set_option maxRecDepth 100000 in
def N_explain_TextP := And.intro F_explain_Textr0b.eq_1 (And.intro @F_explain_Textr0_W (And.intro F_explain_Textr1b.eq_1 (And.intro @F_explain_Textr1_W (And.intro F_explain_Textr2b.eq_1 (And.intro @F_explain_Textr2_W (And.intro F_explain_Textr3b.eq_1 (And.intro @F_explain_Textr3_W (And.intro F_explain_Textr4b.eq_1 (And.intro @F_explain_Textr4_W (And.intro F_explain_Textr5b.eq_1 (And.intro @F_explain_Textr5_W (And.intro F_explain_Textr6b.eq_1 (And.intro @F_explain_Textr6_W (And.intro F_explain_Textr7b.eq_1 (And.intro @F_explain_Textr7_W (And.intro F_explain_Textr8b.eq_1 (And.intro @F_explain_Textr8_W (And.intro F_explain_Textr9b.eq_1 (And.intro @F_explain_Textr9_W (And.intro F_explain_Textr10b.eq_1 (And.intro @F_explain_Textr10_W (And.intro F_explain_Textr11b.eq_1 (And.intro @F_explain_Textr11_W (And.intro @F_explain_Textl0_W (And.intro F_explain_Textl0b.eq_1 (And.intro F_explain_Textr12b.eq_1 (And.intro @F_explain_Textr12_W (And.intro @F_explain_Textc_W (F_explain_Textcb.eq_1)))))))))))))))))))))))))))))
theorem N_explain_Text : type_of% N_explain_TextP := N_explain_TextP
set_option maxRecDepth 1000000 in
theorem F_explain_Text_chk : chkF Tryz.prog 5 F_explain_Text = true := by kernel_rfl

/-! ### ref01_Text -/
def F_ref01_Textr0b : List IStmt := [
 ⟨some 2, .mv (.c (.string ⟨#[]⟩)), none⟩]
def F_ref01_Textr0 : List IStmt := F_ref01_Textr0b
theorem F_ref01_Textr0_W {T : Tab} {env : Env} {H : Heap} {Q : Post} : W T (.reg F_ref01_Textr0) env H Q ↔ WR T F_ref01_Textr0 F_ref01_Textr0b env H none [] Q := w_reg
def F_ref01_Textr1b : List IStmt := [
 ⟨some 4, .mv (.t 0), none⟩,
 ⟨some 5, .bin .leq (.t 4) (.c (.int .i64 0)), none⟩]
def F_ref01_Textr1 : List IStmt := F_ref01_Textr1b
theorem F_ref01_Textr1_W {T : Tab} {env : Env} {H : Heap} {Q : Post} : W T (.reg F_ref01_Textr1) env H Q ↔ WR T F_ref01_Textr1 F_ref01_Textr1b env H none [] Q := w_reg
def F_ref01_Textr2b : List IStmt := [
 ⟨some 2, .mv (.c (.string ⟨#[48]⟩)), none⟩]
def F_ref01_Textr2 : List IStmt := F_ref01_Textr2b
theorem F_ref01_Textr2_W {T : Tab} {env : Env} {H : Heap} {Q : Post} : W T (.reg F_ref01_Textr2) env H Q ↔ WR T F_ref01_Textr2 F_ref01_Textr2b env H none [] Q := w_reg
def F_ref01_Textr3b : List IStmt := [
 ⟨some 3, .mv (.c (.string ⟨#[]⟩)), none⟩]
def F_ref01_Textr3 : List IStmt := F_ref01_Textr3b
theorem F_ref01_Textr3_W {T : Tab} {env : Env} {H : Heap} {Q : Post} : W T (.reg F_ref01_Textr3) env H Q ↔ WR T F_ref01_Textr3 F_ref01_Textr3b env H none [] Q := w_reg
def F_ref01_Textr4b : List IStmt := [
 ⟨some 6, .mv (.t 0), none⟩,
 ⟨some 7, .bin .gtr (.t 6) (.c (.int .i64 0)), none⟩]
def F_ref01_Textr4 : List IStmt := F_ref01_Textr4b
theorem F_ref01_Textr4_W {T : Tab} {env : Env} {H : Heap} {Q : Post} : W T (.reg F_ref01_Textr4) env H Q ↔ WR T F_ref01_Textr4 F_ref01_Textr4b env H none [] Q := w_reg
def F_ref01_Textr5b : List IStmt := [
 ⟨some 8, .mv (.t 0), none⟩,
 ⟨some 9, .bin .rem (.t 8) (.c (.int .i64 10)), none⟩,
 ⟨some 10, .bin .add (.c (.int .i64 48)) (.t 9), none⟩,
 ⟨some 11, .conv .u8 (.t 10), none⟩,
 ⟨some 12, .bsli 1 1 [.int .u8 0] [(0, (.t 11))], none⟩,
 ⟨some 13, .b2s (.t 12), none⟩,
 ⟨some 14, .mv (.t 3), none⟩,
 ⟨some 15, .bin .add (.t 13) (.t 14), none⟩,
 ⟨some 3, .mv (.t 15), none⟩]
def F_ref01_Textr5 : List IStmt := F_ref01_Textr5b
theorem F_ref01_Textr5_W {T : Tab} {env : Env} {H : Heap} {Q : Post} : W T (.reg F_ref01_Textr5) env H Q ↔ WR T F_ref01_Textr5 F_ref01_Textr5b env H none [] Q := w_reg
def F_ref01_Textr6b : List IStmt := [
 ⟨some 16, .mv (.t 0), none⟩,
 ⟨some 17, .bin .quo (.t 16) (.c (.int .i64 10)), none⟩,
 ⟨some 0, .mv (.t 17), none⟩]
def F_ref01_Textr6 : List IStmt := F_ref01_Textr6b
theorem F_ref01_Textr6_W {T : Tab} {env : Env} {H : Heap} {Q : Post} : W T (.reg F_ref01_Textr6) env H Q ↔ WR T F_ref01_Textr6 F_ref01_Textr6b env H none [] Q := w_reg
def F_ref01_Textl0b : ICode := (.seq (.seq (.reg F_ref01_Textr4) (.cond (.t 7) .skip (.exit 0))) (.block 1 (.seq (.reg F_ref01_Textr5) (.reg F_ref01_Textr6))))
def F_ref01_Textl0 : ICode := F_ref01_Textl0b
theorem F_ref01_Textl0_W {T : Tab} {env : Env} {H : Heap} {Q : Post} : W T F_ref01_Textl0 env H Q ↔ W T F_ref01_Textl0b env H Q := Iff.rfl
def F_ref01_Textr7b : List IStmt := [
 ⟨some 18, .mv (.t 3), none⟩,
 ⟨some 2, .mv (.t 18), none⟩]
def F_ref01_Textr7 : List IStmt := F_ref01_Textr7b
theorem F_ref01_Textr7_W {T : Tab} {env : Env} {H : Heap} {Q : Post} : W T (.reg F_ref01_Textr7) env H Q ↔ WR T F_ref01_Textr7 F_ref01_Textr7b env H none [] Q := w_reg
def F_ref01_Textcb : ICode := (.seq (.reg F_ref01_Textr0) (.seq (.seq (.reg F_ref01_Textr1) (.cond (.t 5) (.seq (.reg F_ref01_Textr2) .ret) .skip)) (.seq (.reg F_ref01_Textr3) (.seq (.block 0 (.loop F_ref01_Textl0)) (.seq (.reg F_ref01_Textr7) .ret)))))
def F_ref01_Textc : ICode := F_ref01_Textcb
theorem F_ref01_Textc_W {T : Tab} {env : Env} {H : Heap} {Q : Post} : W T F_ref01_Textc env H Q ↔ W T F_ref01_Textcb env H Q := Iff.rfl
def F_ref01_Text : IFn := ⟨19, [.tmp 2], F_ref01_Textc⟩
set_option linter.defProp false in
set_option maxRecDepth 100000 in
def N_ref01_TextP := And.intro F_ref01_Textr0b.eq_1 (And.intro @F_ref01_Textr0_W (And.intro F_ref01_Textr1b.eq_1 (And.intro @F_ref01_Textr1_W (And.intro F_ref01_Textr2b.eq_1 (And.intro @F_ref01_Textr2_W (And.intro F_ref01_Textr3b.eq_1 (And.intro @F_ref01_Textr3_W (And.intro F_ref01_Textr4b.eq_1 (And.intro @F_ref01_Textr4_W (And.intro F_ref01_Textr5b.eq_1 (And.intro @F_ref01_Textr5_W (And.intro F_ref01_Textr6b.eq_1 (And.intro @F_ref01_Textr6_W (And.intro @F_ref01_Textl0_W (And.intro F_ref01_Textl0b.eq_1 (And.intro F_ref01_Textr7b.eq_1 (And.intro @F_ref01_Textr7_W (And.intro @F_ref01_Textc_W (F_ref01_Textcb.eq_1)))))))))))))))))))
theorem N_ref01_Text : type_of% N_ref01_TextP := N_ref01_TextP
set_option maxRecDepth 1000000 in
theorem F_ref01_Text_chk : chkF Tryz.prog 11 F_ref01_Text = true := by kernel_rfl

/-! ### ref31_Text -/
def F_ref31_Textr0b : List IStmt := [
 ⟨some 2, .mv (.c (.string ⟨#[]⟩)), none⟩]
def F_ref31_Textr0 : List IStmt := F_ref31_Textr0b
theorem F_ref31_Textr0_W {T : Tab} {env : Env} {H : Heap} {Q : Post} : W T (.reg F_ref31_Textr0) env H Q ↔ WR T F_ref31_Textr0 F_ref31_Textr0b env H none [] Q := w_reg
def F_ref31_Textr1b : List IStmt := [
 ⟨some 8, .bsli 1 9 [.string ⟨#[]⟩] [(0, (.c (.string ⟨#[110, 111, 110, 101]⟩))), (1, (.c (.string ⟨#[116, 104, 101, 114, 101]⟩))), (2, (.c (.string ⟨#[98, 97, 114, 114, 101, 100]⟩))), (3, (.c (.string ⟨#[97, 98, 115, 101, 110, 116]⟩))), (4, (.c (.string ⟨#[100, 101, 110, 105, 101, 100]⟩))), (5, (.c (.string ⟨#[107, 110, 111, 119, 110]⟩))), (6, (.c (.string ⟨#[110, 101, 119]⟩))), (7, (.c (.string ⟨#[119, 114, 111, 110, 103]⟩))), (8, (.c (.string ⟨#[108, 105, 110, 107]⟩)))], none⟩,
 ⟨some 3, .mv (.t 8), none⟩]
def F_ref31_Textr1 : List IStmt := F_ref31_Textr1b
theorem F_ref31_Textr1_W {T : Tab} {env : Env} {H : Heap} {Q : Post} : W T (.reg F_ref31_Textr1) env H Q ↔ WR T F_ref31_Textr1 F_ref31_Textr1b env H none [] Q := w_reg
def F_ref31_Textr2b : List IStmt := [
 ⟨some 4, .mv (.c (.string ⟨#[]⟩)), none⟩]
def F_ref31_Textr2 : List IStmt := F_ref31_Textr2b
theorem F_ref31_Textr2_W {T : Tab} {env : Env} {H : Heap} {Q : Post} : W T (.reg F_ref31_Textr2) env H Q ↔ WR T F_ref31_Textr2 F_ref31_Textr2b env H none [] Q := w_reg
def F_ref31_Textr3b : List IStmt := [
 ⟨some 5, .mv (.c (.int .i64 0)), none⟩]
def F_ref31_Textr3 : List IStmt := F_ref31_Textr3b
theorem F_ref31_Textr3_W {T : Tab} {env : Env} {H : Heap} {Q : Post} : W T (.reg F_ref31_Textr3) env H Q ↔ WR T F_ref31_Textr3 F_ref31_Textr3b env H none [] Q := w_reg
def F_ref31_Textr4b : List IStmt := [
 ⟨some 9, .mv (.t 5), none⟩,
 ⟨some 10, .mv (.t 0), none⟩,
 ⟨some 11, .len 1 (.t 10), none⟩,
 ⟨some 12, .bin .lss (.t 9) (.t 11), none⟩]
def F_ref31_Textr4 : List IStmt := F_ref31_Textr4b
theorem F_ref31_Textr4_W {T : Tab} {env : Env} {H : Heap} {Q : Post} : W T (.reg F_ref31_Textr4) env H Q ↔ WR T F_ref31_Textr4 F_ref31_Textr4b env H none [] Q := w_reg
def F_ref31_Textr6b : List IStmt := [
 ⟨some 15, .mv (.t 0), none⟩,
 ⟨some 16, .mv (.t 5), none⟩,
 ⟨some 17, .ixa 6 (.t 15) (.t 16), none⟩,
 ⟨some 18, .loadN 6 (.t 17), none⟩,
 ⟨some 6, .alloc 6 [.string ⟨#[]⟩, .string ⟨#[]⟩, .int .i64 0, .string ⟨#[]⟩, .int .i64 0, .int .i64 0], none⟩,
 ⟨none, .store 6 (.t 6) (.t 18), none⟩]
def F_ref31_Textr6 : List IStmt := F_ref31_Textr6b
theorem F_ref31_Textr6_W {T : Tab} {env : Env} {H : Heap} {Q : Post} : W T (.reg F_ref31_Textr6) env H Q ↔ WR T F_ref31_Textr6 F_ref31_Textr6b env H none [] Q := w_reg
def F_ref31_Textr7b : List IStmt := [
 ⟨some 19, .fa 4 (.t 6), none⟩,
 ⟨some 20, .load (.t 19), none⟩,
 ⟨some 7, .mv (.t 20), none⟩]
def F_ref31_Textr7 : List IStmt := F_ref31_Textr7b
theorem F_ref31_Textr7_W {T : Tab} {env : Env} {H : Heap} {Q : Post} : W T (.reg F_ref31_Textr7) env H Q ↔ WR T F_ref31_Textr7 F_ref31_Textr7b env H none [] Q := w_reg
def F_ref31_Textr8b : List IStmt := [
 ⟨some 21, .mv (.t 7), none⟩,
 ⟨some 22, .bin .lss (.t 21) (.c (.int .i64 1)), none⟩,
 ⟨some 23, .mv (.t 22), none⟩,
 ⟨some 24, .mv (.t 7), some (2, false)⟩,
 ⟨some 25, .bin .gtr (.t 24) (.c (.int .i64 8)), some (2, false)⟩,
 ⟨some 26, .pick (.t 23) (.c (.bool true)) (.t 25), none⟩]
def F_ref31_Textr8 : List IStmt := F_ref31_Textr8b
theorem F_ref31_Textr8_W {T : Tab} {env : Env} {H : Heap} {Q : Post} : W T (.reg F_ref31_Textr8) env H Q ↔ WR T F_ref31_Textr8 F_ref31_Textr8b env H none [] Q := w_reg
theorem F_ref31_Textr8_g2 {env : Env} : yieldI F_ref31_Textr8 env 2 = bOf (env 23) := rfl
def F_ref31_Textr9b : List IStmt := [
 ⟨some 7, .mv (.c (.int .i64 0)), none⟩]
def F_ref31_Textr9 : List IStmt := F_ref31_Textr9b
theorem F_ref31_Textr9_W {T : Tab} {env : Env} {H : Heap} {Q : Post} : W T (.reg F_ref31_Textr9) env H Q ↔ WR T F_ref31_Textr9 F_ref31_Textr9b env H none [] Q := w_reg
def F_ref31_Textr10b : List IStmt := [
 ⟨some 27, .mv (.t 4), none⟩,
 ⟨some 28, .fa 0 (.t 6), none⟩,
 ⟨some 29, .load (.t 28), none⟩,
 ⟨some 30, .bin .add (.t 29) (.c (.string ⟨#[32]⟩)), none⟩,
 ⟨some 31, .fa 1 (.t 6), none⟩,
 ⟨some 32, .load (.t 31), none⟩,
 ⟨some 33, .bin .add (.t 30) (.t 32), none⟩,
 ⟨some 34, .bin .add (.t 33) (.c (.string ⟨#[32]⟩)), none⟩,
 ⟨some 35, .fa 2 (.t 6), none⟩,
 ⟨some 36, .load (.t 35), none⟩,
 ⟨some 37, .callc 11 [(.t 36)], none⟩,
 ⟨some 38, .bin .add (.t 34) (.t 37), none⟩,
 ⟨some 39, .bin .add (.t 38) (.c (.string ⟨#[32]⟩)), none⟩,
 ⟨some 40, .mv (.t 3), none⟩,
 ⟨some 41, .mv (.t 7), none⟩,
 ⟨some 42, .ixa 1 (.t 40) (.t 41), none⟩,
 ⟨some 43, .load (.t 42), none⟩,
 ⟨some 44, .bin .add (.t 39) (.t 43), none⟩,
 ⟨some 45, .bin .add (.t 27) (.t 44), none⟩,
 ⟨some 4, .mv (.t 45), none⟩]
def F_ref31_Textr10 : List IStmt := F_ref31_Textr10b
theorem F_ref31_Textr10_W {T : Tab} {env : Env} {H : Heap} {Q : Post} : W T (.dreg F_ref31_Textr10 []) env H Q ↔ WR T F_ref31_Textr10 F_ref31_Textr10b env H none [] Q := w_dreg0
def F_ref31_Textr11b : List IStmt := [
 ⟨some 46, .fa 5 (.t 6), none⟩,
 ⟨some 47, .load (.t 46), none⟩,
 ⟨some 48, .bin .neq (.t 47) (.c (.int .i64 0)), none⟩]
def F_ref31_Textr11 : List IStmt := F_ref31_Textr11b
theorem F_ref31_Textr11_W {T : Tab} {env : Env} {H : Heap} {Q : Post} : W T (.reg F_ref31_Textr11) env H Q ↔ WR T F_ref31_Textr11 F_ref31_Textr11b env H none [] Q := w_reg
def F_ref31_Textr12b : List IStmt := [
 ⟨some 49, .mv (.t 4), none⟩,
 ⟨some 50, .fa 5 (.t 6), none⟩,
 ⟨some 51, .load (.t 50), none⟩,
 ⟨some 52, .callc 11 [(.t 51)], none⟩,
 ⟨some 53, .bin .add (.c (.string ⟨#[32]⟩)) (.t 52), none⟩,
 ⟨some 54, .bin .add (.t 49) (.t 53), none⟩,
 ⟨some 4, .mv (.t 54), none⟩]
def F_ref31_Textr12 : List IStmt := F_ref31_Textr12b
theorem F_ref31_Textr12_W {T : Tab} {env : Env} {H : Heap} {Q : Post} : W T (.reg F_ref31_Textr12) env H Q ↔ WR T F_ref31_Textr12 F_ref31_Textr12b env H none [] Q := w_reg
def F_ref31_Textr13b : List IStmt := [
 ⟨some 55, .fa 3 (.t 6), none⟩,
 ⟨some 56, .load (.t 55), none⟩,
 ⟨some 57, .bin .neq (.t 56) (.c (.string ⟨#[]⟩)), none⟩]
def F_ref31_Textr13 : List IStmt := F_ref31_Textr13b
theorem F_ref31_Textr13_W {T : Tab} {env : Env} {H : Heap} {Q : Post} : W T (.reg F_ref31_Textr13) env H Q ↔ WR T F_ref31_Textr13 F_ref31_Textr13b env H none [] Q := w_reg
def F_ref31_Textr14b : List IStmt := [
 ⟨some 58, .mv (.t 4), none⟩,
 ⟨some 59, .fa 3 (.t 6), none⟩,
 ⟨some 60, .load (.t 59), none⟩,
 ⟨some 61, .bin .add (.c (.string ⟨#[32]⟩)) (.t 60), none⟩,
 ⟨some 62, .bin .add (.t 58) (.t 61), none⟩,
 ⟨some 4, .mv (.t 62), none⟩]
def F_ref31_Textr14 : List IStmt := F_ref31_Textr14b
theorem F_ref31_Textr14_W {T : Tab} {env : Env} {H : Heap} {Q : Post} : W T (.reg F_ref31_Textr14) env H Q ↔ WR T F_ref31_Textr14 F_ref31_Textr14b env H none [] Q := w_reg
def F_ref31_Textr15b : List IStmt := [
 ⟨some 63, .mv (.t 4), none⟩,
 ⟨some 64, .bin .add (.t 63) (.c (.string ⟨#[10]⟩)), none⟩,
 ⟨some 4, .mv (.t 64), none⟩]
def F_ref31_Textr15 : List IStmt := F_ref31_Textr15b
theorem F_ref31_Textr15_W {T : Tab} {env : Env} {H : Heap} {Q : Post} : W T (.reg F_ref31_Textr15) env H Q ↔ WR T F_ref31_Textr15 F_ref31_Textr15b env H none [] Q := w_reg
def F_ref31_Textr5b : List IStmt := [
 ⟨some 13, .mv (.t 5), none⟩,
 ⟨some 14, .bin .add (.t 13) (.c (.int .i64 1)), none⟩,
 ⟨some 5, .mv (.t 14), none⟩]
def F_ref31_Textr5 : List IStmt := F_ref31_Textr5b
theorem F_ref31_Textr5_W {T : Tab} {env : Env} {H : Heap} {Q : Post} : W T (.reg F_ref31_Textr5) env H Q ↔ WR T F_ref31_Textr5 F_ref31_Textr5b env H none [] Q := w_reg
def F_ref31_Textl0b : ICode := (.seq (.seq (.reg F_ref31_Textr4) (.cond (.t 12) .skip (.exit 0))) (.seq (.block 1 (.seq (.reg F_ref31_Textr6) (.seq (.reg F_ref31_Textr7) (.seq (.seq (.reg F_ref31_Textr8) (.cond (.t 26) (.reg F_ref31_Textr9) .skip)) (.seq (.dreg F_ref31_Textr10 []) (.seq (.seq (.reg F_ref31_Textr11) (.cond (.t 48) (.reg F_ref31_Textr12) .skip)) (.seq (.seq (.reg F_ref31_Textr13) (.cond (.t 57) (.reg F_ref31_Textr14) .skip)) (.reg F_ref31_Textr15)))))))) (.reg F_ref31_Textr5)))
def F_ref31_Textl0 : ICode := F_ref31_Textl0b
theorem F_ref31_Textl0_W {T : Tab} {env : Env} {H : Heap} {Q : Post} : W T F_ref31_Textl0 env H Q ↔ W T F_ref31_Textl0b env H Q := Iff.rfl
def F_ref31_Textr16b : List IStmt := [
 ⟨some 65, .mv (.t 4), none⟩,
 ⟨some 2, .mv (.t 65), none⟩]
def F_ref31_Textr16 : List IStmt := F_ref31_Textr16b
theorem F_ref31_Textr16_W {T : Tab} {env : Env} {H : Heap} {Q : Post} : W T (.reg F_ref31_Textr16) env H Q ↔ WR T F_ref31_Textr16 F_ref31_Textr16b env H none [] Q := w_reg
def F_ref31_Textcb : ICode := (.seq (.reg F_ref31_Textr0) (.seq (.reg F_ref31_Textr1) (.seq (.reg F_ref31_Textr2) (.seq (.seq (.reg F_ref31_Textr3) (.block 0 (.loop F_ref31_Textl0))) (.seq (.reg F_ref31_Textr16) .ret)))))
def F_ref31_Textc : ICode := F_ref31_Textcb
theorem F_ref31_Textc_W {T : Tab} {env : Env} {H : Heap} {Q : Post} : W T F_ref31_Textc env H Q ↔ W T F_ref31_Textcb env H Q := Iff.rfl
def F_ref31_Text : IFn := ⟨66, [.tmp 2], F_ref31_Textc⟩
set_option linter.defProp false in
set_option maxRecDepth 100000 in
def N_ref31_TextP := And.intro F_ref31_Textr0b.eq_1 (And.intro @F_ref31_Textr0_W (And.intro F_ref31_Textr1b.eq_1 (And.intro @F_ref31_Textr1_W (And.intro F_ref31_Textr2b.eq_1 (And.intro @F_ref31_Textr2_W (And.intro F_ref31_Textr3b.eq_1 (And.intro @F_ref31_Textr3_W (And.intro F_ref31_Textr4b.eq_1 (And.intro @F_ref31_Textr4_W (And.intro F_ref31_Textr6b.eq_1 (And.intro @F_ref31_Textr6_W (And.intro F_ref31_Textr7b.eq_1 (And.intro @F_ref31_Textr7_W (And.intro F_ref31_Textr8b.eq_1 (And.intro @F_ref31_Textr8_W (And.intro @F_ref31_Textr8_g2 (And.intro F_ref31_Textr9b.eq_1 (And.intro @F_ref31_Textr9_W (And.intro F_ref31_Textr10b.eq_1 (And.intro @F_ref31_Textr10_W (And.intro F_ref31_Textr11b.eq_1 (And.intro @F_ref31_Textr11_W (And.intro F_ref31_Textr12b.eq_1 (And.intro @F_ref31_Textr12_W (And.intro F_ref31_Textr13b.eq_1 (And.intro @F_ref31_Textr13_W (And.intro F_ref31_Textr14b.eq_1 (And.intro @F_ref31_Textr14_W (And.intro F_ref31_Textr15b.eq_1 (And.intro @F_ref31_Textr15_W (And.intro F_ref31_Textr5b.eq_1 (And.intro @F_ref31_Textr5_W (And.intro @F_ref31_Textl0_W (And.intro F_ref31_Textl0b.eq_1 (And.intro F_ref31_Textr16b.eq_1 (And.intro @F_ref31_Textr16_W (And.intro @F_ref31_Textc_W (F_ref31_Textcb.eq_1))))))))))))))))))))))))))))))))))))))
theorem N_ref31_Text : type_of% N_ref31_TextP := N_ref31_TextP
set_option maxRecDepth 1000000 in
theorem F_ref31_Text_chk : chkF Tryz.prog 6 F_ref31_Text = true := by kernel_rfl

/-! ### law31_steps -/
def F_law31_stepsr0b : List IStmt := [
 ⟨some 2, .mv (.c (.slice none 0 0)), none⟩]
def F_law31_stepsr0 : List IStmt := F_law31_stepsr0b
theorem F_law31_stepsr0_W {T : Tab} {env : Env} {H : Heap} {Q : Post} : W T (.reg F_law31_stepsr0) env H Q ↔ WR T F_law31_stepsr0 F_law31_stepsr0b env H none [] Q := w_reg
def F_law31_stepsr1b : List IStmt := [
 ⟨some 3, .mv (.c (.slice none 0 0)), none⟩]
def F_law31_stepsr1 : List IStmt := F_law31_stepsr1b
theorem F_law31_stepsr1_W {T : Tab} {env : Env} {H : Heap} {Q : Post} : W T (.reg F_law31_stepsr1) env H Q ↔ WR T F_law31_stepsr1 F_law31_stepsr1b env H none [] Q := w_reg
def F_law31_stepsr2b : List IStmt := [
 ⟨some 4, .mv (.c (.int .i64 0)), none⟩]
def F_law31_stepsr2 : List IStmt := F_law31_stepsr2b
theorem F_law31_stepsr2_W {T : Tab} {env : Env} {H : Heap} {Q : Post} : W T (.reg F_law31_stepsr2) env H Q ↔ WR T F_law31_stepsr2 F_law31_stepsr2b env H none [] Q := w_reg
def F_law31_stepsr3b : List IStmt := [
 ⟨some 5, .mv (.t 4), none⟩,
 ⟨some 6, .mv (.t 0), none⟩,
 ⟨some 7, .len 1 (.t 6), none⟩,
 ⟨some 8, .bin .lss (.t 5) (.t 7), none⟩]
def F_law31_stepsr3 : List IStmt := F_law31_stepsr3b
theorem F_law31_stepsr3_W {T : Tab} {env : Env} {H : Heap} {Q : Post} : W T (.reg F_law31_stepsr3) env H Q ↔ WR T F_law31_stepsr3 F_law31_stepsr3b env H none [] Q := w_reg
def F_law31_stepsr5b : List IStmt := [
 ⟨some 11, .mv (.t 3), none⟩,
 ⟨some 12, .mv (.t 0), none⟩,
 ⟨some 13, .mv (.t 4), none⟩,
 ⟨some 14, .ixa 6 (.t 12) (.t 13), none⟩,
 ⟨some 15, .fa 0 (.t 14), none⟩,
 ⟨some 16, .load (.t 15), none⟩,
 ⟨some 17, .mv (.t 0), none⟩,
 ⟨some 18, .mv (.t 4), none⟩,
 ⟨some 19, .ixa 6 (.t 17) (.t 18), none⟩,
 ⟨some 20, .fa 1 (.t 19), none⟩,
 ⟨some 21, .load (.t 20), none⟩,
 ⟨some 22, .mv (.t 0), none⟩,
 ⟨some 23, .mv (.t 4), none⟩,
 ⟨some 24, .ixa 6 (.t 22) (.t 23), none⟩,
 ⟨some 25, .fa 2 (.t 24), none⟩,
 ⟨some 26, .load (.t 25), none⟩,
 ⟨some 27, .mv (.t 0), none⟩,
 ⟨some 28, .mv (.t 4), none⟩,
 ⟨some 29, .ixa 6 (.t 27) (.t 28), none⟩,
 ⟨some 30, .fa 3 (.t 29), none⟩,
 ⟨some 31, .load (.t 30), none⟩,
 ⟨some 32, .mv (.t 0), none⟩,
 ⟨some 33, .mv (.t 4), none⟩,
 ⟨some 34, .ixa 6 (.t 32) (.t 33), none⟩,
 ⟨some 35, .fa 4 (.t 34), none⟩,
 ⟨some 36, .load (.t 35), none⟩,
 ⟨some 37, .mv (.t 0), none⟩,
 ⟨some 38, .mv (.t 4), none⟩,
 ⟨some 39, .ixa 6 (.t 37) (.t 38), none⟩,
 ⟨some 40, .fa 5 (.t 39), none⟩,
 ⟨some 41, .load (.t 40), none⟩,
 ⟨some 42, .bld [.string ⟨#[]⟩, .string ⟨#[]⟩, .int .i64 0, .string ⟨#[]⟩, .int .i64 0, .int .i64 0] [(0, 1, (.t 16)), (1, 1, (.t 21)), (2, 1, (.t 26)), (3, 1, (.t 31)), (4, 1, (.t 36)), (5, 1, (.t 41))], none⟩,
 ⟨some 43, .bsli 6 1 [.string ⟨#[]⟩, .string ⟨#[]⟩, .int .i64 0, .string ⟨#[]⟩, .int .i64 0, .int .i64 0] [(0, (.t 42))], none⟩,
 ⟨some 44, .app 6 72 (.t 11) (.t 43), none⟩,
 ⟨some 3, .mv (.t 44), none⟩]
def F_law31_stepsr5 : List IStmt := F_law31_stepsr5b
theorem F_law31_stepsr5_W {T : Tab} {env : Env} {H : Heap} {Q : Post} : W T (.dreg F_law31_stepsr5 []) env H Q ↔ WR T F_law31_stepsr5 F_law31_stepsr5b env H none [] Q := w_dreg0
def F_law31_stepsr4b : List IStmt := [
 ⟨some 9, .mv (.t 4), none⟩,
 ⟨some 10, .bin .add (.t 9) (.c (.int .i64 1)), none⟩,
 ⟨some 4, .mv (.t 10), none⟩]
def F_law31_stepsr4 : List IStmt := F_law31_stepsr4b
theorem F_law31_stepsr4_W {T : Tab} {env : Env} {H : Heap} {Q : Post} : W T (.reg F_law31_stepsr4) env H Q ↔ WR T F_law31_stepsr4 F_law31_stepsr4b env H none [] Q := w_reg
def F_law31_stepsl0b : ICode := (.seq (.seq (.reg F_law31_stepsr3) (.cond (.t 8) .skip (.exit 0))) (.seq (.block 1 (.dreg F_law31_stepsr5 [])) (.reg F_law31_stepsr4)))
def F_law31_stepsl0 : ICode := F_law31_stepsl0b
theorem F_law31_stepsl0_W {T : Tab} {env : Env} {H : Heap} {Q : Post} : W T F_law31_stepsl0 env H Q ↔ W T F_law31_stepsl0b env H Q := Iff.rfl
def F_law31_stepsr6b : List IStmt := [
 ⟨some 45, .mv (.t 3), none⟩,
 ⟨some 2, .mv (.t 45), none⟩]
def F_law31_stepsr6 : List IStmt := F_law31_stepsr6b
theorem F_law31_stepsr6_W {T : Tab} {env : Env} {H : Heap} {Q : Post} : W T (.reg F_law31_stepsr6) env H Q ↔ WR T F_law31_stepsr6 F_law31_stepsr6b env H none [] Q := w_reg
def F_law31_stepscb : ICode := (.seq (.reg F_law31_stepsr0) (.seq (.reg F_law31_stepsr1) (.seq (.seq (.reg F_law31_stepsr2) (.block 0 (.loop F_law31_stepsl0))) (.seq (.reg F_law31_stepsr6) .ret))))
def F_law31_stepsc : ICode := F_law31_stepscb
theorem F_law31_stepsc_W {T : Tab} {env : Env} {H : Heap} {Q : Post} : W T F_law31_stepsc env H Q ↔ W T F_law31_stepscb env H Q := Iff.rfl
def F_law31_steps : IFn := ⟨46, [.tmp 2], F_law31_stepsc⟩
set_option linter.defProp false in
set_option maxRecDepth 100000 in
def N_law31_stepsP := And.intro F_law31_stepsr0b.eq_1 (And.intro @F_law31_stepsr0_W (And.intro F_law31_stepsr1b.eq_1 (And.intro @F_law31_stepsr1_W (And.intro F_law31_stepsr2b.eq_1 (And.intro @F_law31_stepsr2_W (And.intro F_law31_stepsr3b.eq_1 (And.intro @F_law31_stepsr3_W (And.intro F_law31_stepsr5b.eq_1 (And.intro @F_law31_stepsr5_W (And.intro F_law31_stepsr4b.eq_1 (And.intro @F_law31_stepsr4_W (And.intro @F_law31_stepsl0_W (And.intro F_law31_stepsl0b.eq_1 (And.intro F_law31_stepsr6b.eq_1 (And.intro @F_law31_stepsr6_W (And.intro @F_law31_stepsc_W (F_law31_stepscb.eq_1)))))))))))))))))
theorem N_law31_steps : type_of% N_law31_stepsP := N_law31_stepsP
set_option maxRecDepth 1000000 in
theorem F_law31_steps_chk : chkF Tryz.prog 7 F_law31_steps = true := by kernel_rfl

/-! ### law31_ExplainTexts -/
def F_law31_ExplainTextsr0b : List IStmt := [
 ⟨some 2, .mv (.c (.bool false)), none⟩]
def F_law31_ExplainTextsr0 : List IStmt := F_law31_ExplainTextsr0b
theorem F_law31_ExplainTextsr0_W {T : Tab} {env : Env} {H : Heap} {Q : Post} : W T (.reg F_law31_ExplainTextsr0) env H Q ↔ WR T F_law31_ExplainTextsr0 F_law31_ExplainTextsr0b env H none [] Q := w_reg
def F_law31_ExplainTextsr1b : List IStmt := [
 ⟨some 8, .mv (.t 0), none⟩,
 ⟨some 9, .len 1 (.t 8), none⟩,
 ⟨some 10, .bin .gtr (.t 9) (.c (.int .i64 200)), none⟩]
def F_law31_ExplainTextsr1 : List IStmt := F_law31_ExplainTextsr1b
theorem F_law31_ExplainTextsr1_W {T : Tab} {env : Env} {H : Heap} {Q : Post} : W T (.reg F_law31_ExplainTextsr1) env H Q ↔ WR T F_law31_ExplainTextsr1 F_law31_ExplainTextsr1b env H none [] Q := w_reg
def F_law31_ExplainTextsr2b : List IStmt := [
 ⟨some 2, .mv (.c (.bool true)), none⟩]
def F_law31_ExplainTextsr2 : List IStmt := F_law31_ExplainTextsr2b
theorem F_law31_ExplainTextsr2_W {T : Tab} {env : Env} {H : Heap} {Q : Post} : W T (.reg F_law31_ExplainTextsr2) env H Q ↔ WR T F_law31_ExplainTextsr2 F_law31_ExplainTextsr2b env H none [] Q := w_reg
def F_law31_ExplainTextsr3b : List IStmt := [
 ⟨some 3, .mv (.c (.int .i64 0)), none⟩,
 ⟨some 4, .mv (.c (.int .i64 0)), none⟩]
def F_law31_ExplainTextsr3 : List IStmt := F_law31_ExplainTextsr3b
theorem F_law31_ExplainTextsr3_W {T : Tab} {env : Env} {H : Heap} {Q : Post} : W T (.reg F_law31_ExplainTextsr3) env H Q ↔ WR T F_law31_ExplainTextsr3 F_law31_ExplainTextsr3b env H none [] Q := w_reg
def F_law31_ExplainTextsr4b : List IStmt := [
 ⟨some 5, .mv (.c (.int .i64 0)), none⟩]
def F_law31_ExplainTextsr4 : List IStmt := F_law31_ExplainTextsr4b
theorem F_law31_ExplainTextsr4_W {T : Tab} {env : Env} {H : Heap} {Q : Post} : W T (.reg F_law31_ExplainTextsr4) env H Q ↔ WR T F_law31_ExplainTextsr4 F_law31_ExplainTextsr4b env H none [] Q := w_reg
def F_law31_ExplainTextsr5b : List IStmt := [
 ⟨some 11, .mv (.t 5), none⟩,
 ⟨some 12, .mv (.t 0), none⟩,
 ⟨some 13, .len 1 (.t 12), none⟩,
 ⟨some 14, .bin .lss (.t 11) (.t 13), none⟩]
def F_law31_ExplainTextsr5 : List IStmt := F_law31_ExplainTextsr5b
theorem F_law31_ExplainTextsr5_W {T : Tab} {env : Env} {H : Heap} {Q : Post} : W T (.reg F_law31_ExplainTextsr5) env H Q ↔ WR T F_law31_ExplainTextsr5 F_law31_ExplainTextsr5b env H none [] Q := w_reg
def F_law31_ExplainTextsr7b : List IStmt := [
 ⟨some 17, .mv (.t 0), none⟩,
 ⟨some 18, .mv (.t 5), none⟩,
 ⟨some 19, .ixa 6 (.t 17) (.t 18), none⟩,
 ⟨some 20, .fa 1 (.t 19), none⟩,
 ⟨some 21, .load (.t 20), none⟩,
 ⟨some 22, .len 0 (.t 21), none⟩,
 ⟨some 23, .bin .gtr (.t 22) (.c (.int .i64 1000)), none⟩,
 ⟨some 24, .mv (.t 23), none⟩,
 ⟨some 25, .mv (.t 0), some (7, false)⟩,
 ⟨some 26, .mv (.t 5), some (7, false)⟩,
 ⟨some 27, .ixa 6 (.t 25) (.t 26), some (7, false)⟩,
 ⟨some 28, .fa 0 (.t 27), some (7, false)⟩,
 ⟨some 29, .load (.t 28), some (7, false)⟩,
 ⟨some 30, .len 0 (.t 29), some (7, false)⟩,
 ⟨some 31, .bin .gtr (.t 30) (.c (.int .i64 1000)), some (7, false)⟩,
 ⟨some 32, .pick (.t 24) (.c (.bool true)) (.t 31), none⟩,
 ⟨some 33, .mv (.t 32), none⟩,
 ⟨some 34, .mv (.t 0), some (16, false)⟩,
 ⟨some 35, .mv (.t 5), some (16, false)⟩,
 ⟨some 36, .ixa 6 (.t 34) (.t 35), some (16, false)⟩,
 ⟨some 37, .fa 3 (.t 36), some (16, false)⟩,
 ⟨some 38, .load (.t 37), some (16, false)⟩,
 ⟨some 39, .len 0 (.t 38), some (16, false)⟩,
 ⟨some 40, .bin .gtr (.t 39) (.c (.int .i64 1000)), some (16, false)⟩,
 ⟨some 41, .pick (.t 33) (.c (.bool true)) (.t 40), none⟩]
def F_law31_ExplainTextsr7 : List IStmt := F_law31_ExplainTextsr7b
theorem F_law31_ExplainTextsr7_W {T : Tab} {env : Env} {H : Heap} {Q : Post} : W T (.reg F_law31_ExplainTextsr7) env H Q ↔ WR T F_law31_ExplainTextsr7 F_law31_ExplainTextsr7b env H none [] Q := w_reg
theorem F_law31_ExplainTextsr7_g7 {env : Env} : yieldI F_law31_ExplainTextsr7 env 7 = bOf (env 24) := rfl
theorem F_law31_ExplainTextsr7_g16 {env : Env} : yieldI F_law31_ExplainTextsr7 env 16 = bOf (env 33) := rfl
def F_law31_ExplainTextsr8b : List IStmt := [
 ⟨some 2, .mv (.c (.bool true)), none⟩]
def F_law31_ExplainTextsr8 : List IStmt := F_law31_ExplainTextsr8b
theorem F_law31_ExplainTextsr8_W {T : Tab} {env : Env} {H : Heap} {Q : Post} : W T (.reg F_law31_ExplainTextsr8) env H Q ↔ WR T F_law31_ExplainTextsr8 F_law31_ExplainTextsr8b env H none [] Q := w_reg
def F_law31_ExplainTextsr9b : List IStmt := [
 ⟨some 42, .mv (.t 0), none⟩,
 ⟨some 43, .mv (.t 5), none⟩,
 ⟨some 44, .ixa 6 (.t 42) (.t 43), none⟩,
 ⟨some 45, .fa 4 (.t 44), none⟩,
 ⟨some 46, .load (.t 45), none⟩,
 ⟨some 47, .bin .geq (.t 46) (.c (.int .i64 3)), none⟩,
 ⟨some 48, .mv (.t 47), none⟩,
 ⟨some 49, .mv (.t 0), some (6, true)⟩,
 ⟨some 50, .mv (.t 5), some (6, true)⟩,
 ⟨some 51, .ixa 6 (.t 49) (.t 50), some (6, true)⟩,
 ⟨some 52, .fa 4 (.t 51), some (6, true)⟩,
 ⟨some 53, .load (.t 52), some (6, true)⟩,
 ⟨some 54, .bin .leq (.t 53) (.c (.int .i64 7)), some (6, true)⟩,
 ⟨some 55, .pick (.t 48) (.t 54) (.c (.bool false)), none⟩]
def F_law31_ExplainTextsr9 : List IStmt := F_law31_ExplainTextsr9b
theorem F_law31_ExplainTextsr9_W {T : Tab} {env : Env} {H : Heap} {Q : Post} : W T (.reg F_law31_ExplainTextsr9) env H Q ↔ WR T F_law31_ExplainTextsr9 F_law31_ExplainTextsr9b env H none [] Q := w_reg
theorem F_law31_ExplainTextsr9_g6 {env : Env} : yieldI F_law31_ExplainTextsr9 env 6 = bOf (env 48) := rfl
def F_law31_ExplainTextsr10b : List IStmt := [
 ⟨some 56, .mv (.t 3), none⟩,
 ⟨some 57, .bin .add (.t 56) (.c (.int .i64 1)), none⟩,
 ⟨some 3, .mv (.t 57), none⟩]
def F_law31_ExplainTextsr10 : List IStmt := F_law31_ExplainTextsr10b
theorem F_law31_ExplainTextsr10_W {T : Tab} {env : Env} {H : Heap} {Q : Post} : W T (.reg F_law31_ExplainTextsr10) env H Q ↔ WR T F_law31_ExplainTextsr10 F_law31_ExplainTextsr10b env H none [] Q := w_reg
def F_law31_ExplainTextsr11b : List IStmt := [
 ⟨some 58, .mv (.t 0), none⟩,
 ⟨some 59, .mv (.t 5), none⟩,
 ⟨some 60, .ixa 6 (.t 58) (.t 59), none⟩,
 ⟨some 61, .fa 4 (.t 60), none⟩,
 ⟨some 62, .load (.t 61), none⟩,
 ⟨some 63, .bin .eql (.t 62) (.c (.int .i64 3)), none⟩]
def F_law31_ExplainTextsr11 : List IStmt := F_law31_ExplainTextsr11b
theorem F_law31_ExplainTextsr11_W {T : Tab} {env : Env} {H : Heap} {Q : Post} : W T (.reg F_law31_ExplainTextsr11) env H Q ↔ WR T F_law31_ExplainTextsr11 F_law31_ExplainTextsr11b env H none [] Q := w_reg
def F_law31_ExplainTextsr12b : List IStmt := [
 ⟨some 64, .mv (.t 4), none⟩,
 ⟨some 65, .bin .add (.t 64) (.c (.int .i64 1)), none⟩,
 ⟨some 4, .mv (.t 65), none⟩]
def F_law31_ExplainTextsr12 : List IStmt := F_law31_ExplainTextsr12b
theorem F_law31_ExplainTextsr12_W {T : Tab} {env : Env} {H : Heap} {Q : Post} : W T (.reg F_law31_ExplainTextsr12) env H Q ↔ WR T F_law31_ExplainTextsr12 F_law31_ExplainTextsr12b env H none [] Q := w_reg
def F_law31_ExplainTextsr6b : List IStmt := [
 ⟨some 15, .mv (.t 5), none⟩,
 ⟨some 16, .bin .add (.t 15) (.c (.int .i64 1)), none⟩,
 ⟨some 5, .mv (.t 16), none⟩]
def F_law31_ExplainTextsr6 : List IStmt := F_law31_ExplainTextsr6b
theorem F_law31_ExplainTextsr6_W {T : Tab} {env : Env} {H : Heap} {Q : Post} : W T (.reg F_law31_ExplainTextsr6) env H Q ↔ WR T F_law31_ExplainTextsr6 F_law31_ExplainTextsr6b env H none [] Q := w_reg
def F_law31_ExplainTextsl0b : ICode := (.seq (.seq (.reg F_law31_ExplainTextsr5) (.cond (.t 14) .skip (.exit 0))) (.seq (.block 1 (.seq (.seq (.reg F_law31_ExplainTextsr7) (.cond (.t 41) (.seq (.reg F_law31_ExplainTextsr8) .ret) .skip)) (.seq (.seq (.reg F_law31_ExplainTextsr9) (.cond (.t 55) (.reg F_law31_ExplainTextsr10) .skip)) (.seq (.reg F_law31_ExplainTextsr11) (.cond (.t 63) (.reg F_law31_ExplainTextsr12) .skip))))) (.reg F_law31_ExplainTextsr6)))
def F_law31_ExplainTextsl0 : ICode := F_law31_ExplainTextsl0b
theorem F_law31_ExplainTextsl0_W {T : Tab} {env : Env} {H : Heap} {Q : Post} : W T F_law31_ExplainTextsl0 env H Q ↔ W T F_law31_ExplainTextsl0b env H Q := Iff.rfl
def F_law31_ExplainTextsr13b : List IStmt := [
 ⟨some 67, .mv (.t 0), none⟩,
 ⟨some 68, .callc 4 [(.t 67)], none⟩,
 ⟨some 66, .mv (.t 68), none⟩,
 ⟨some 69, .ext (.t 66) 0, none⟩,
 ⟨some 70, .ext (.t 66) 1, none⟩,
 ⟨some 6, .mv (.t 69), none⟩,
 ⟨some 7, .mv (.t 70), none⟩]
def F_law31_ExplainTextsr13 : List IStmt := F_law31_ExplainTextsr13b
theorem F_law31_ExplainTextsr13_W {T : Tab} {env : Env} {H : Heap} {Q : Post} : W T (.reg F_law31_ExplainTextsr13) env H Q ↔ WR T F_law31_ExplainTextsr13 F_law31_ExplainTextsr13b env H none [] Q := w_reg
def F_law31_ExplainTextsr14b : List IStmt := [
 ⟨some 71, .mv (.t 6), none⟩,
 ⟨some 72, .mv (.t 3), none⟩,
 ⟨some 73, .bin .eql (.t 71) (.t 72), none⟩,
 ⟨some 74, .mv (.t 73), none⟩,
 ⟨some 75, .mv (.t 7), some (3, true)⟩,
 ⟨some 76, .mv (.t 4), some (3, true)⟩,
 ⟨some 77, .bin .eql (.t 75) (.t 76), some (3, true)⟩,
 ⟨some 78, .pick (.t 74) (.t 77) (.c (.bool false)), none⟩,
 ⟨some 79, .mv (.t 78), none⟩,
 ⟨some 80, .mv (.t 0), some (8, true)⟩,
 ⟨some 81, .callc 5 [(.t 80)], some (8, true)⟩,
 ⟨some 82, .mv (.t 0), some (8, true)⟩,
 ⟨some 83, .callc 7 [(.t 82)], some (8, true)⟩,
 ⟨some 84, .callc 6 [(.t 83)], some (8, true)⟩,
 ⟨some 85, .bin .eql (.t 81) (.t 84), some (8, true)⟩,
 ⟨some 86, .pick (.t 79) (.t 85) (.c (.bool false)), none⟩,
 ⟨some 87, .mv (.t 86), none⟩,
 ⟨some 88, .callc 8 [], some (16, true)⟩,
 ⟨some 89, .pick (.t 87) (.t 88) (.c (.bool false)), none⟩,
 ⟨some 2, .mv (.t 89), none⟩]
def F_law31_ExplainTextsr14 : List IStmt := F_law31_ExplainTextsr14b
theorem F_law31_ExplainTextsr14_W {T : Tab} {env : Env} {H : Heap} {Q : Post} : W T (.reg F_law31_ExplainTextsr14) env H Q ↔ WR T F_law31_ExplainTextsr14 F_law31_ExplainTextsr14b env H none [] Q := w_reg
theorem F_law31_ExplainTextsr14_g3 {env : Env} : yieldI F_law31_ExplainTextsr14 env 3 = bOf (env 74) := rfl
theorem F_law31_ExplainTextsr14_g8 {env : Env} : yieldI F_law31_ExplainTextsr14 env 8 = bOf (env 79) := rfl
theorem F_law31_ExplainTextsr14_g16 {env : Env} : yieldI F_law31_ExplainTextsr14 env 16 = bOf (env 87) := rfl
def F_law31_ExplainTextscb : ICode := (.seq (.reg F_law31_ExplainTextsr0) (.seq (.seq (.reg F_law31_ExplainTextsr1) (.cond (.t 10) (.seq (.reg F_law31_ExplainTextsr2) .ret) .skip)) (.seq (.reg F_law31_ExplainTextsr3) (.seq (.seq (.reg F_law31_ExplainTextsr4) (.block 0 (.loop F_law31_ExplainTextsl0))) (.seq (.reg F_law31_ExplainTextsr13) (.seq (.reg F_law31_ExplainTextsr14) .ret))))))
def F_law31_ExplainTextsc : ICode := F_law31_ExplainTextscb
theorem F_law31_ExplainTextsc_W {T : Tab} {env : Env} {H : Heap} {Q : Post} : W T F_law31_ExplainTextsc env H Q ↔ W T F_law31_ExplainTextscb env H Q := Iff.rfl
def F_law31_ExplainTexts : IFn := ⟨90, [.tmp 2], F_law31_ExplainTextsc⟩
set_option linter.defProp false in
set_option maxRecDepth 100000 in
def N_law31_ExplainTextsP := And.intro F_law31_ExplainTextsr0b.eq_1 (And.intro @F_law31_ExplainTextsr0_W (And.intro F_law31_ExplainTextsr1b.eq_1 (And.intro @F_law31_ExplainTextsr1_W (And.intro F_law31_ExplainTextsr2b.eq_1 (And.intro @F_law31_ExplainTextsr2_W (And.intro F_law31_ExplainTextsr3b.eq_1 (And.intro @F_law31_ExplainTextsr3_W (And.intro F_law31_ExplainTextsr4b.eq_1 (And.intro @F_law31_ExplainTextsr4_W (And.intro F_law31_ExplainTextsr5b.eq_1 (And.intro @F_law31_ExplainTextsr5_W (And.intro F_law31_ExplainTextsr7b.eq_1 (And.intro @F_law31_ExplainTextsr7_W (And.intro @F_law31_ExplainTextsr7_g7 (And.intro @F_law31_ExplainTextsr7_g16 (And.intro F_law31_ExplainTextsr8b.eq_1 (And.intro @F_law31_ExplainTextsr8_W (And.intro F_law31_ExplainTextsr9b.eq_1 (And.intro @F_law31_ExplainTextsr9_W (And.intro @F_law31_ExplainTextsr9_g6 (And.intro F_law31_ExplainTextsr10b.eq_1 (And.intro @F_law31_ExplainTextsr10_W (And.intro F_law31_ExplainTextsr11b.eq_1 (And.intro @F_law31_ExplainTextsr11_W (And.intro F_law31_ExplainTextsr12b.eq_1 (And.intro @F_law31_ExplainTextsr12_W (And.intro F_law31_ExplainTextsr6b.eq_1 (And.intro @F_law31_ExplainTextsr6_W (And.intro @F_law31_ExplainTextsl0_W (And.intro F_law31_ExplainTextsl0b.eq_1 (And.intro F_law31_ExplainTextsr13b.eq_1 (And.intro @F_law31_ExplainTextsr13_W (And.intro F_law31_ExplainTextsr14b.eq_1 (And.intro @F_law31_ExplainTextsr14_W (And.intro @F_law31_ExplainTextsr14_g3 (And.intro @F_law31_ExplainTextsr14_g8 (And.intro @F_law31_ExplainTextsr14_g16 (And.intro @F_law31_ExplainTextsc_W (F_law31_ExplainTextscb.eq_1)))))))))))))))))))))))))))))))))))))))
theorem N_law31_ExplainTexts : type_of% N_law31_ExplainTextsP := N_law31_ExplainTextsP
set_option maxRecDepth 1000000 in
theorem F_law31_ExplainTexts_chk : chkF Tryz.prog 3 F_law31_ExplainTexts = true := by kernel_rfl

/-- The functions, by number. -/
def TEt_l : List (Nat × IFn) := [(4, F_explain_Tried), (9, F_num_Text), (10, F_explain_word), (5, F_explain_Text), (11, F_ref01_Text), (6, F_ref31_Text), (7, F_law31_steps), (3, F_law31_ExplainTexts)]
def TEt : Tab := tabN TEt_l natEt
theorem TEt_chk : ∀ p ∈ TEt_l, chkF Tryz.prog p.1 p.2 = true := by
  intro p hp
  simp only [TEt_l, List.mem_cons, List.not_mem_nil, or_false] at hp
  rcases hp with rfl | rfl | rfl | rfl | rfl | rfl | rfl | rfl
  · exact F_explain_Tried_chk
  · exact F_num_Text_chk
  · exact F_explain_word_chk
  · exact F_explain_Text_chk
  · exact F_ref01_Text_chk
  · exact F_ref31_Text_chk
  · exact F_law31_steps_chk
  · exact F_law31_ExplainTexts_chk
theorem TEt_good : Fw.Good Tryz.prog TEt := good_tabN (by kernel_rfl) TEt_chk natEt_ok

end Go.Proofs.YtdjgknlhpdnhbaaGreatDoor
