/- The small language's text of functions of the given program, and the check that it stands for them. Printed by a program. -/
import Derived.Test.YtdjgknlhpdnhbaaGreatFwC
import Derived.Test.YtdjgknlhpdnhbaaGreatChecked
import Derived.KernelRfl
namespace Go.Proofs.YtdjgknlhpdnhbaaGreat
open Go Fw

/-! ### law17_great -/
def F_law17_greatr0b : List IStmt := [
 ⟨some 1, .box 18 (.t 0), none⟩,
 ⟨some 2, .mv (.c (.bool false)), none⟩]
def F_law17_greatr0 : List IStmt := F_law17_greatr0b
theorem F_law17_greatr0_W {T : Tab} {env : Env} {H : Heap} {Q : Post} : W T (.reg F_law17_greatr0) env H Q ↔ WR T F_law17_greatr0 F_law17_greatr0b env H none [] Q := w_reg
def F_law17_greatr1b : List IStmt := [
 ⟨some 3, .fa 10 (.t 1), none⟩,
 ⟨some 4, .load (.t 3), none⟩,
 ⟨some 5, .len 1 (.t 4), none⟩,
 ⟨some 6, .bin .gtr (.t 5) (.c (.int .i64 5000)), none⟩,
 ⟨some 7, .mv (.t 6), none⟩,
 ⟨some 8, .fa 7 (.t 1), some (4, false)⟩,
 ⟨some 9, .load (.t 8), some (4, false)⟩,
 ⟨some 10, .len 1 (.t 9), some (4, false)⟩,
 ⟨some 11, .bin .gtr (.t 10) (.c (.int .i64 300)), some (4, false)⟩,
 ⟨some 12, .pick (.t 7) (.c (.bool true)) (.t 11), none⟩,
 ⟨some 13, .mv (.t 12), none⟩,
 ⟨some 14, .fa 8 (.t 1), some (10, false)⟩,
 ⟨some 15, .load (.t 14), some (10, false)⟩,
 ⟨some 16, .len 1 (.t 15), some (10, false)⟩,
 ⟨some 17, .bin .gtr (.t 16) (.c (.int .i64 600)), some (10, false)⟩,
 ⟨some 18, .pick (.t 13) (.c (.bool true)) (.t 17), none⟩,
 ⟨some 19, .mv (.t 18), none⟩,
 ⟨some 20, .fa 9 (.t 1), some (16, false)⟩,
 ⟨some 21, .load (.t 20), some (16, false)⟩,
 ⟨some 22, .len 1 (.t 21), some (16, false)⟩,
 ⟨some 23, .bin .gtr (.t 22) (.c (.int .i64 600)), some (16, false)⟩,
 ⟨some 24, .pick (.t 19) (.c (.bool true)) (.t 23), none⟩,
 ⟨some 25, .mv (.t 24), none⟩,
 ⟨some 26, .fa 3 (.t 1), some (22, false)⟩,
 ⟨some 27, .load (.t 26), some (22, false)⟩,
 ⟨some 28, .len 1 (.t 27), some (22, false)⟩,
 ⟨some 29, .bin .gtr (.t 28) (.c (.int .i64 100)), some (22, false)⟩,
 ⟨some 30, .pick (.t 25) (.c (.bool true)) (.t 29), none⟩,
 ⟨some 2, .mv (.t 30), none⟩]
def F_law17_greatr1 : List IStmt := F_law17_greatr1b
theorem F_law17_greatr1_W {T : Tab} {env : Env} {H : Heap} {Q : Post} : W T (.reg F_law17_greatr1) env H Q ↔ WR T F_law17_greatr1 F_law17_greatr1b env H none [] Q := w_reg
theorem F_law17_greatr1_g4 {env : Env} : yieldI F_law17_greatr1 env 4 = bOf (env 7) := rfl
theorem F_law17_greatr1_g10 {env : Env} : yieldI F_law17_greatr1 env 10 = bOf (env 13) := rfl
theorem F_law17_greatr1_g16 {env : Env} : yieldI F_law17_greatr1 env 16 = bOf (env 19) := rfl
theorem F_law17_greatr1_g22 {env : Env} : yieldI F_law17_greatr1 env 22 = bOf (env 25) := rfl
def F_law17_greatcb : ICode := (.seq (.reg F_law17_greatr0) (.seq (.reg F_law17_greatr1) .ret))
def F_law17_greatc : ICode := F_law17_greatcb
theorem F_law17_greatc_W {T : Tab} {env : Env} {H : Heap} {Q : Post} : W T F_law17_greatc env H Q ↔ W T F_law17_greatcb env H Q := Iff.rfl
def F_law17_great : IFn := ⟨31, [.tmp 2], F_law17_greatc⟩
set_option linter.defProp false in
set_option maxRecDepth 100000 in
def N_law17_greatP := And.intro F_law17_greatr0b.eq_1 (And.intro @F_law17_greatr0_W (And.intro F_law17_greatr1b.eq_1 (And.intro @F_law17_greatr1_W (And.intro @F_law17_greatr1_g4 (And.intro @F_law17_greatr1_g10 (And.intro @F_law17_greatr1_g16 (And.intro @F_law17_greatr1_g22 (And.intro @F_law17_greatc_W (F_law17_greatcb.eq_1)))))))))
theorem N_law17_great : type_of% N_law17_greatP := N_law17_greatP
set_option maxRecDepth 1000000 in
theorem F_law17_great_chk : chkF Tryz.prog 7 F_law17_great = true := by kernel_rfl

/-! ### le_Plain -/
def F_le_Plainr0b : List IStmt := [
 ⟨some 2, .mv (.c (.bool false)), none⟩]
def F_le_Plainr0 : List IStmt := F_le_Plainr0b
theorem F_le_Plainr0_W {T : Tab} {env : Env} {H : Heap} {Q : Post} : W T (.reg F_le_Plainr0) env H Q ↔ WR T F_le_Plainr0 F_le_Plainr0b env H none [] Q := w_reg
def F_le_Plainr1b : List IStmt := [
 ⟨some 5, .mv (.t 0), none⟩,
 ⟨some 6, .len 0 (.t 5), none⟩,
 ⟨some 7, .bin .gtr (.t 6) (.c (.int .i64 64)), none⟩]
def F_le_Plainr1 : List IStmt := F_le_Plainr1b
theorem F_le_Plainr1_W {T : Tab} {env : Env} {H : Heap} {Q : Post} : W T (.reg F_le_Plainr1) env H Q ↔ WR T F_le_Plainr1 F_le_Plainr1b env H none [] Q := w_reg
def F_le_Plainr2b : List IStmt := [
 ⟨some 2, .mv (.c (.bool false)), none⟩]
def F_le_Plainr2 : List IStmt := F_le_Plainr2b
theorem F_le_Plainr2_W {T : Tab} {env : Env} {H : Heap} {Q : Post} : W T (.reg F_le_Plainr2) env H Q ↔ WR T F_le_Plainr2 F_le_Plainr2b env H none [] Q := w_reg
def F_le_Plainr3b : List IStmt := [
 ⟨some 8, .mv (.t 0), none⟩,
 ⟨some 9, .rng (.t 8), none⟩]
def F_le_Plainr3 : List IStmt := F_le_Plainr3b
theorem F_le_Plainr3_W {T : Tab} {env : Env} {H : Heap} {Q : Post} : W T (.reg F_le_Plainr3) env H Q ↔ WR T F_le_Plainr3 F_le_Plainr3b env H none [] Q := w_reg
def F_le_Plainr4b : List IStmt := [
 ⟨some 10, .nxt (.t 9), none⟩,
 ⟨some 11, .ext (.t 10) 0, none⟩]
def F_le_Plainr4 : List IStmt := F_le_Plainr4b
theorem F_le_Plainr4_W {T : Tab} {env : Env} {H : Heap} {Q : Post} : W T (.reg F_le_Plainr4) env H Q ↔ WR T F_le_Plainr4 F_le_Plainr4b env H none [] Q := w_reg
def F_le_Plainr5b : List IStmt := [
 ⟨some 12, .ext (.t 10) 2, none⟩,
 ⟨some 4, .mv (.t 12), none⟩]
def F_le_Plainr5 : List IStmt := F_le_Plainr5b
theorem F_le_Plainr5_W {T : Tab} {env : Env} {H : Heap} {Q : Post} : W T (.reg F_le_Plainr5) env H Q ↔ WR T F_le_Plainr5 F_le_Plainr5b env H none [] Q := w_reg
def F_le_Plainr6b : List IStmt := [
 ⟨some 13, .mv (.t 4), none⟩,
 ⟨some 14, .bin .lss (.t 13) (.c (.int .i32 33)), none⟩,
 ⟨some 15, .mv (.t 14), none⟩,
 ⟨some 16, .mv (.t 4), some (2, false)⟩,
 ⟨some 17, .bin .gtr (.t 16) (.c (.int .i32 126)), some (2, false)⟩,
 ⟨some 18, .pick (.t 15) (.c (.bool true)) (.t 17), none⟩]
def F_le_Plainr6 : List IStmt := F_le_Plainr6b
theorem F_le_Plainr6_W {T : Tab} {env : Env} {H : Heap} {Q : Post} : W T (.reg F_le_Plainr6) env H Q ↔ WR T F_le_Plainr6 F_le_Plainr6b env H none [] Q := w_reg
theorem F_le_Plainr6_g2 {env : Env} : yieldI F_le_Plainr6 env 2 = bOf (env 15) := rfl
def F_le_Plainr7b : List IStmt := [
 ⟨some 2, .mv (.c (.bool false)), none⟩]
def F_le_Plainr7 : List IStmt := F_le_Plainr7b
theorem F_le_Plainr7_W {T : Tab} {env : Env} {H : Heap} {Q : Post} : W T (.reg F_le_Plainr7) env H Q ↔ WR T F_le_Plainr7 F_le_Plainr7b env H none [] Q := w_reg
def F_le_Plainl0b : ICode := (.seq (.reg F_le_Plainr4) (.seq (.cond (.t 11) .skip (.exit 0)) (.block 1 (.seq (.reg F_le_Plainr5) (.seq (.reg F_le_Plainr6) (.cond (.t 18) (.seq (.reg F_le_Plainr7) .ret) .skip))))))
def F_le_Plainl0 : ICode := F_le_Plainl0b
theorem F_le_Plainl0_W {T : Tab} {env : Env} {H : Heap} {Q : Post} : W T F_le_Plainl0 env H Q ↔ W T F_le_Plainl0b env H Q := Iff.rfl
def F_le_Plainr8b : List IStmt := [
 ⟨some 2, .mv (.c (.bool true)), none⟩]
def F_le_Plainr8 : List IStmt := F_le_Plainr8b
theorem F_le_Plainr8_W {T : Tab} {env : Env} {H : Heap} {Q : Post} : W T (.reg F_le_Plainr8) env H Q ↔ WR T F_le_Plainr8 F_le_Plainr8b env H none [] Q := w_reg
def F_le_Plaincb : ICode := (.seq (.reg F_le_Plainr0) (.seq (.seq (.reg F_le_Plainr1) (.cond (.t 7) (.seq (.reg F_le_Plainr2) .ret) .skip)) (.seq (.seq (.reg F_le_Plainr3) (.block 0 (.loop F_le_Plainl0))) (.seq (.reg F_le_Plainr8) .ret))))
def F_le_Plainc : ICode := F_le_Plaincb
theorem F_le_Plainc_W {T : Tab} {env : Env} {H : Heap} {Q : Post} : W T F_le_Plainc env H Q ↔ W T F_le_Plaincb env H Q := Iff.rfl
def F_le_Plain : IFn := ⟨19, [.tmp 2], F_le_Plainc⟩
set_option linter.defProp false in
set_option maxRecDepth 100000 in
def N_le_PlainP := And.intro F_le_Plainr0b.eq_1 (And.intro @F_le_Plainr0_W (And.intro F_le_Plainr1b.eq_1 (And.intro @F_le_Plainr1_W (And.intro F_le_Plainr2b.eq_1 (And.intro @F_le_Plainr2_W (And.intro F_le_Plainr3b.eq_1 (And.intro @F_le_Plainr3_W (And.intro F_le_Plainr4b.eq_1 (And.intro @F_le_Plainr4_W (And.intro F_le_Plainr5b.eq_1 (And.intro @F_le_Plainr5_W (And.intro F_le_Plainr6b.eq_1 (And.intro @F_le_Plainr6_W (And.intro @F_le_Plainr6_g2 (And.intro F_le_Plainr7b.eq_1 (And.intro @F_le_Plainr7_W (And.intro @F_le_Plainl0_W (And.intro F_le_Plainl0b.eq_1 (And.intro F_le_Plainr8b.eq_1 (And.intro @F_le_Plainr8_W (And.intro @F_le_Plainc_W (F_le_Plaincb.eq_1))))))))))))))))))))))
theorem N_le_Plain : type_of% N_le_PlainP := N_le_PlainP
set_option maxRecDepth 1000000 in
theorem F_le_Plain_chk : chkF Tryz.prog 50 F_le_Plain = true := by kernel_rfl

/-! ### maker_text -/
def F_maker_textr0b : List IStmt := [
 ⟨some 4, .mv (.c (.bool false)), none⟩]
def F_maker_textr0 : List IStmt := F_maker_textr0b
theorem F_maker_textr0_W {T : Tab} {env : Env} {H : Heap} {Q : Post} : W T (.reg F_maker_textr0) env H Q ↔ WR T F_maker_textr0 F_maker_textr0b env H none [] Q := w_reg
def F_maker_textr1b : List IStmt := [
 ⟨some 5, .mv (.t 0), none⟩,
 ⟨some 6, .callc 50 [(.t 5)], none⟩,
 ⟨some 7, .mv (.t 6), none⟩,
 ⟨some 8, .mv (.t 0), some (2, true)⟩,
 ⟨some 9, .bin .neq (.t 8) (.c (.string ⟨#[]⟩)), some (2, true)⟩,
 ⟨some 10, .mv (.t 9), some (2, true)⟩,
 ⟨some 11, .mv (.t 1), some (5, false)⟩,
 ⟨some 12, .pick (.t 10) (.c (.bool true)) (.t 11), some (2, true)⟩,
 ⟨some 13, .pick (.t 7) (.t 12) (.c (.bool false)), none⟩,
 ⟨some 4, .mv (.t 13), none⟩]
def F_maker_textr1 : List IStmt := F_maker_textr1b
theorem F_maker_textr1_W {T : Tab} {env : Env} {H : Heap} {Q : Post} : W T (.reg F_maker_textr1) env H Q ↔ WR T F_maker_textr1 F_maker_textr1b env H none [] Q := w_reg
theorem F_maker_textr1_g2 {env : Env} : yieldI F_maker_textr1 env 2 = bOf (env 7) := rfl
theorem F_maker_textr1_g5 {env : Env} : yieldI F_maker_textr1 env 5 = bOf (env 10) := rfl
def F_maker_textcb : ICode := (.seq (.reg F_maker_textr0) (.seq (.reg F_maker_textr1) .ret))
def F_maker_textc : ICode := F_maker_textcb
theorem F_maker_textc_W {T : Tab} {env : Env} {H : Heap} {Q : Post} : W T F_maker_textc env H Q ↔ W T F_maker_textcb env H Q := Iff.rfl
def F_maker_text : IFn := ⟨14, [.tmp 4], F_maker_textc⟩
set_option linter.defProp false in
set_option maxRecDepth 100000 in
def N_maker_textP := And.intro F_maker_textr0b.eq_1 (And.intro @F_maker_textr0_W (And.intro F_maker_textr1b.eq_1 (And.intro @F_maker_textr1_W (And.intro @F_maker_textr1_g2 (And.intro @F_maker_textr1_g5 (And.intro @F_maker_textc_W (F_maker_textcb.eq_1)))))))
theorem N_maker_text : type_of% N_maker_textP := N_maker_textP
set_option maxRecDepth 1000000 in
theorem F_maker_text_chk : chkF Tryz.prog 21 F_maker_text = true := by kernel_rfl

/-! ### maker_find_maker_version -/
def F_maker_find_maker_versionr0b : List IStmt := [
 ⟨some 3, .box 2 (.t 1), none⟩,
 ⟨some 4, .mv (.c (.int .i64 0)), none⟩]
def F_maker_find_maker_versionr0 : List IStmt := F_maker_find_maker_versionr0b
theorem F_maker_find_maker_versionr0_W {T : Tab} {env : Env} {H : Heap} {Q : Post} : W T (.reg F_maker_find_maker_versionr0) env H Q ↔ WR T F_maker_find_maker_versionr0 F_maker_find_maker_versionr0b env H none [] Q := w_reg
def F_maker_find_maker_versionr1b : List IStmt := [
 ⟨some 7, .mv (.t 0), none⟩,
 ⟨some 8, .len 1 (.t 7), none⟩,
 ⟨some 9, .mv (.c (.int .i64 0)), none⟩]
def F_maker_find_maker_versionr1 : List IStmt := F_maker_find_maker_versionr1b
theorem F_maker_find_maker_versionr1_W {T : Tab} {env : Env} {H : Heap} {Q : Post} : W T (.reg F_maker_find_maker_versionr1) env H Q ↔ WR T F_maker_find_maker_versionr1 F_maker_find_maker_versionr1b env H none [] Q := w_reg
def F_maker_find_maker_versionr2b : List IStmt := [
 ⟨some 10, .bin .lss (.t 9) (.t 8), none⟩]
def F_maker_find_maker_versionr2 : List IStmt := F_maker_find_maker_versionr2b
theorem F_maker_find_maker_versionr2_W {T : Tab} {env : Env} {H : Heap} {Q : Post} : W T (.reg F_maker_find_maker_versionr2) env H Q ↔ WR T F_maker_find_maker_versionr2 F_maker_find_maker_versionr2b env H none [] Q := w_reg
def F_maker_find_maker_versionr3b : List IStmt := [
 ⟨some 11, .mv (.t 9), none⟩,
 ⟨some 12, .ixa 2 (.t 7) (.t 9), none⟩,
 ⟨some 13, .loadN 2 (.t 12), none⟩,
 ⟨some 6, .alloc 2 [.string ⟨#[]⟩, .bool false], none⟩,
 ⟨some 5, .mv (.t 11), none⟩,
 ⟨none, .store 2 (.t 6) (.t 13), none⟩]
def F_maker_find_maker_versionr3 : List IStmt := F_maker_find_maker_versionr3b
theorem F_maker_find_maker_versionr3_W {T : Tab} {env : Env} {H : Heap} {Q : Post} : W T (.reg F_maker_find_maker_versionr3) env H Q ↔ WR T F_maker_find_maker_versionr3 F_maker_find_maker_versionr3b env H none [] Q := w_reg
def F_maker_find_maker_versionr4b : List IStmt := [
 ⟨some 14, .loadN 2 (.t 3), none⟩,
 ⟨some 15, .loadN 2 (.t 6), none⟩,
 ⟨some 16, .eqs [2, 1] false (.t 14) (.t 15), none⟩]
def F_maker_find_maker_versionr4 : List IStmt := F_maker_find_maker_versionr4b
theorem F_maker_find_maker_versionr4_W {T : Tab} {env : Env} {H : Heap} {Q : Post} : W T (.reg F_maker_find_maker_versionr4) env H Q ↔ WR T F_maker_find_maker_versionr4 F_maker_find_maker_versionr4b env H none [] Q := w_reg
def F_maker_find_maker_versionr5b : List IStmt := [
 ⟨some 17, .mv (.t 5), none⟩,
 ⟨some 4, .mv (.t 17), none⟩]
def F_maker_find_maker_versionr5 : List IStmt := F_maker_find_maker_versionr5b
theorem F_maker_find_maker_versionr5_W {T : Tab} {env : Env} {H : Heap} {Q : Post} : W T (.reg F_maker_find_maker_versionr5) env H Q ↔ WR T F_maker_find_maker_versionr5 F_maker_find_maker_versionr5b env H none [] Q := w_reg
def F_maker_find_maker_versionr6b : List IStmt := [
 ⟨some 18, .bin .add (.t 9) (.c (.int .i64 1)), none⟩,
 ⟨some 9, .mv (.t 18), none⟩]
def F_maker_find_maker_versionr6 : List IStmt := F_maker_find_maker_versionr6b
theorem F_maker_find_maker_versionr6_W {T : Tab} {env : Env} {H : Heap} {Q : Post} : W T (.reg F_maker_find_maker_versionr6) env H Q ↔ WR T F_maker_find_maker_versionr6 F_maker_find_maker_versionr6b env H none [] Q := w_reg
def F_maker_find_maker_versionl0b : ICode := (.seq (.reg F_maker_find_maker_versionr2) (.seq (.cond (.t 10) .skip (.exit 0)) (.seq (.block 1 (.seq (.reg F_maker_find_maker_versionr3) (.seq (.reg F_maker_find_maker_versionr4) (.cond (.t 16) (.seq (.reg F_maker_find_maker_versionr5) .ret) .skip)))) (.reg F_maker_find_maker_versionr6))))
def F_maker_find_maker_versionl0 : ICode := F_maker_find_maker_versionl0b
theorem F_maker_find_maker_versionl0_W {T : Tab} {env : Env} {H : Heap} {Q : Post} : W T F_maker_find_maker_versionl0 env H Q ↔ W T F_maker_find_maker_versionl0b env H Q := Iff.rfl
def F_maker_find_maker_versionr7b : List IStmt := [
 ⟨some 4, .mv (.c (.int .i64 (-1))), none⟩]
def F_maker_find_maker_versionr7 : List IStmt := F_maker_find_maker_versionr7b
theorem F_maker_find_maker_versionr7_W {T : Tab} {env : Env} {H : Heap} {Q : Post} : W T (.reg F_maker_find_maker_versionr7) env H Q ↔ WR T F_maker_find_maker_versionr7 F_maker_find_maker_versionr7b env H none [] Q := w_reg
def F_maker_find_maker_versioncb : ICode := (.seq (.reg F_maker_find_maker_versionr0) (.seq (.seq (.reg F_maker_find_maker_versionr1) (.block 0 (.loop F_maker_find_maker_versionl0))) (.seq (.reg F_maker_find_maker_versionr7) .ret)))
def F_maker_find_maker_versionc : ICode := F_maker_find_maker_versioncb
theorem F_maker_find_maker_versionc_W {T : Tab} {env : Env} {H : Heap} {Q : Post} : W T F_maker_find_maker_versionc env H Q ↔ W T F_maker_find_maker_versioncb env H Q := Iff.rfl
def F_maker_find_maker_version : IFn := ⟨19, [.tmp 4], F_maker_find_maker_versionc⟩
set_option linter.defProp false in
set_option maxRecDepth 100000 in
def N_maker_find_maker_versionP := And.intro F_maker_find_maker_versionr0b.eq_1 (And.intro @F_maker_find_maker_versionr0_W (And.intro F_maker_find_maker_versionr1b.eq_1 (And.intro @F_maker_find_maker_versionr1_W (And.intro F_maker_find_maker_versionr2b.eq_1 (And.intro @F_maker_find_maker_versionr2_W (And.intro F_maker_find_maker_versionr3b.eq_1 (And.intro @F_maker_find_maker_versionr3_W (And.intro F_maker_find_maker_versionr4b.eq_1 (And.intro @F_maker_find_maker_versionr4_W (And.intro F_maker_find_maker_versionr5b.eq_1 (And.intro @F_maker_find_maker_versionr5_W (And.intro F_maker_find_maker_versionr6b.eq_1 (And.intro @F_maker_find_maker_versionr6_W (And.intro @F_maker_find_maker_versionl0_W (And.intro F_maker_find_maker_versionl0b.eq_1 (And.intro F_maker_find_maker_versionr7b.eq_1 (And.intro @F_maker_find_maker_versionr7_W (And.intro @F_maker_find_maker_versionc_W (F_maker_find_maker_versioncb.eq_1)))))))))))))))))))
theorem N_maker_find_maker_version : type_of% N_maker_find_maker_versionP := N_maker_find_maker_versionP
set_option maxRecDepth 1000000 in
theorem F_maker_find_maker_version_chk : chkF Tryz.prog 110 F_maker_find_maker_version = true := by kernel_rfl

/-! ### maker_versions -/
def F_maker_versionsr0b : List IStmt := [
 ⟨some 1, .box 18 (.t 0), none⟩,
 ⟨some 2, .mv (.c (.slice none 0 0)), none⟩]
def F_maker_versionsr0 : List IStmt := F_maker_versionsr0b
theorem F_maker_versionsr0_W {T : Tab} {env : Env} {H : Heap} {Q : Post} : W T (.reg F_maker_versionsr0) env H Q ↔ WR T F_maker_versionsr0 F_maker_versionsr0b env H none [] Q := w_reg
def F_maker_versionsr1b : List IStmt := [
 ⟨some 3, .mv (.c (.slice none 0 0)), none⟩]
def F_maker_versionsr1 : List IStmt := F_maker_versionsr1b
theorem F_maker_versionsr1_W {T : Tab} {env : Env} {H : Heap} {Q : Post} : W T (.reg F_maker_versionsr1) env H Q ↔ WR T F_maker_versionsr1 F_maker_versionsr1b env H none [] Q := w_reg
def F_maker_versionsr2b : List IStmt := [
 ⟨some 6, .fa 7 (.t 1), none⟩,
 ⟨some 7, .load (.t 6), none⟩,
 ⟨some 8, .len 1 (.t 7), none⟩,
 ⟨some 9, .mv (.c (.int .i64 0)), none⟩]
def F_maker_versionsr2 : List IStmt := F_maker_versionsr2b
theorem F_maker_versionsr2_W {T : Tab} {env : Env} {H : Heap} {Q : Post} : W T (.reg F_maker_versionsr2) env H Q ↔ WR T F_maker_versionsr2 F_maker_versionsr2b env H none [] Q := w_reg
def F_maker_versionsr3b : List IStmt := [
 ⟨some 10, .bin .lss (.t 9) (.t 8), none⟩]
def F_maker_versionsr3 : List IStmt := F_maker_versionsr3b
theorem F_maker_versionsr3_W {T : Tab} {env : Env} {H : Heap} {Q : Post} : W T (.reg F_maker_versionsr3) env H Q ↔ WR T F_maker_versionsr3 F_maker_versionsr3b env H none [] Q := w_reg
def F_maker_versionsr4b : List IStmt := [
 ⟨some 11, .ixa 7 (.t 7) (.t 9), none⟩,
 ⟨some 12, .loadN 7 (.t 11), none⟩,
 ⟨some 5, .alloc 7 [.string ⟨#[]⟩, .string ⟨#[]⟩, .bool false, .int .i64 0, .bool false, .int .u64 0, .int .u64 0], none⟩,
 ⟨none, .store 7 (.t 5) (.t 12), none⟩]
def F_maker_versionsr4 : List IStmt := F_maker_versionsr4b
theorem F_maker_versionsr4_W {T : Tab} {env : Env} {H : Heap} {Q : Post} : W T (.reg F_maker_versionsr4) env H Q ↔ WR T F_maker_versionsr4 F_maker_versionsr4b env H none [] Q := w_reg
def F_maker_versionsr5b : List IStmt := [
 ⟨some 13, .fa 1 (.t 5), none⟩,
 ⟨some 14, .load (.t 13), none⟩,
 ⟨some 15, .bin .neq (.t 14) (.c (.string ⟨#[]⟩)), none⟩,
 ⟨some 16, .mv (.t 15), none⟩,
 ⟨some 17, .mv (.t 3), some (3, true)⟩,
 ⟨some 18, .fa 1 (.t 5), some (3, true)⟩,
 ⟨some 19, .load (.t 18), some (3, true)⟩,
 ⟨some 20, .fa 4 (.t 5), some (3, true)⟩,
 ⟨some 21, .load (.t 20), some (3, true)⟩,
 ⟨some 22, .bld [.string ⟨#[]⟩, .bool false] [(0, 1, (.t 19)), (1, 1, (.t 21))], some (3, true)⟩,
 ⟨some 23, .calll 110 [(.t 17), (.t 22)], some (3, true)⟩,
 ⟨some 24, .bin .lss (.t 23) (.c (.int .i64 0)), some (3, true)⟩,
 ⟨some 25, .pick (.t 16) (.t 24) (.c (.bool false)), none⟩]
def F_maker_versionsr5 : List IStmt := F_maker_versionsr5b
theorem F_maker_versionsr5_W {T : Tab} {env : Env} {H : Heap} {Q : Post} : W T (.reg F_maker_versionsr5) env H Q ↔ WR T F_maker_versionsr5 F_maker_versionsr5b env H none [] Q := w_reg
theorem F_maker_versionsr5_g3 {env : Env} : yieldI F_maker_versionsr5 env 3 = bOf (env 16) := rfl
def F_maker_versionsr6b : List IStmt := [
 ⟨some 26, .mv (.t 3), none⟩,
 ⟨some 27, .fa 1 (.t 5), none⟩,
 ⟨some 28, .load (.t 27), none⟩,
 ⟨some 29, .fa 4 (.t 5), none⟩,
 ⟨some 30, .load (.t 29), none⟩,
 ⟨some 31, .bld [.string ⟨#[]⟩, .bool false] [(0, 1, (.t 28)), (1, 1, (.t 30))], none⟩,
 ⟨some 32, .bsli 2 1 [.string ⟨#[]⟩, .bool false] [(0, (.t 31))], none⟩,
 ⟨some 33, .app 2 24 (.t 26) (.t 32), none⟩,
 ⟨some 3, .mv (.t 33), none⟩]
def F_maker_versionsr6 : List IStmt := F_maker_versionsr6b
theorem F_maker_versionsr6_W {T : Tab} {env : Env} {H : Heap} {Q : Post} : W T (.reg F_maker_versionsr6) env H Q ↔ WR T F_maker_versionsr6 F_maker_versionsr6b env H none [] Q := w_reg
def F_maker_versionsr7b : List IStmt := [
 ⟨some 34, .bin .add (.t 9) (.c (.int .i64 1)), none⟩,
 ⟨some 9, .mv (.t 34), none⟩]
def F_maker_versionsr7 : List IStmt := F_maker_versionsr7b
theorem F_maker_versionsr7_W {T : Tab} {env : Env} {H : Heap} {Q : Post} : W T (.reg F_maker_versionsr7) env H Q ↔ WR T F_maker_versionsr7 F_maker_versionsr7b env H none [] Q := w_reg
def F_maker_versionsl0b : ICode := (.seq (.reg F_maker_versionsr3) (.seq (.cond (.t 10) .skip (.exit 0)) (.seq (.block 1 (.seq (.reg F_maker_versionsr4) (.seq (.reg F_maker_versionsr5) (.cond (.t 25) (.reg F_maker_versionsr6) .skip)))) (.reg F_maker_versionsr7))))
def F_maker_versionsl0 : ICode := F_maker_versionsl0b
theorem F_maker_versionsl0_W {T : Tab} {env : Env} {H : Heap} {Q : Post} : W T F_maker_versionsl0 env H Q ↔ W T F_maker_versionsl0b env H Q := Iff.rfl
def F_maker_versionsr8b : List IStmt := [
 ⟨some 35, .mv (.t 3), none⟩,
 ⟨some 2, .mv (.t 35), none⟩]
def F_maker_versionsr8 : List IStmt := F_maker_versionsr8b
theorem F_maker_versionsr8_W {T : Tab} {env : Env} {H : Heap} {Q : Post} : W T (.reg F_maker_versionsr8) env H Q ↔ WR T F_maker_versionsr8 F_maker_versionsr8b env H none [] Q := w_reg
def F_maker_versionscb : ICode := (.seq (.reg F_maker_versionsr0) (.seq (.reg F_maker_versionsr1) (.seq (.seq (.reg F_maker_versionsr2) (.block 0 (.loop F_maker_versionsl0))) (.seq (.reg F_maker_versionsr8) .ret))))
def F_maker_versionsc : ICode := F_maker_versionscb
theorem F_maker_versionsc_W {T : Tab} {env : Env} {H : Heap} {Q : Post} : W T F_maker_versionsc env H Q ↔ W T F_maker_versionscb env H Q := Iff.rfl
def F_maker_versions : IFn := ⟨36, [.tmp 2], F_maker_versionsc⟩
set_option linter.defProp false in
set_option maxRecDepth 100000 in
def N_maker_versionsP := And.intro F_maker_versionsr0b.eq_1 (And.intro @F_maker_versionsr0_W (And.intro F_maker_versionsr1b.eq_1 (And.intro @F_maker_versionsr1_W (And.intro F_maker_versionsr2b.eq_1 (And.intro @F_maker_versionsr2_W (And.intro F_maker_versionsr3b.eq_1 (And.intro @F_maker_versionsr3_W (And.intro F_maker_versionsr4b.eq_1 (And.intro @F_maker_versionsr4_W (And.intro F_maker_versionsr5b.eq_1 (And.intro @F_maker_versionsr5_W (And.intro @F_maker_versionsr5_g3 (And.intro F_maker_versionsr6b.eq_1 (And.intro @F_maker_versionsr6_W (And.intro F_maker_versionsr7b.eq_1 (And.intro @F_maker_versionsr7_W (And.intro @F_maker_versionsl0_W (And.intro F_maker_versionsl0b.eq_1 (And.intro F_maker_versionsr8b.eq_1 (And.intro @F_maker_versionsr8_W (And.intro @F_maker_versionsc_W (F_maker_versionscb.eq_1))))))))))))))))))))))
theorem N_maker_versions : type_of% N_maker_versionsP := N_maker_versionsP
set_option maxRecDepth 1000000 in
theorem F_maker_versions_chk : chkF Tryz.prog 51 F_maker_versions = true := by kernel_rfl

/-! ### maker_symbols -/
def F_maker_symbolsr0b : List IStmt := [
 ⟨some 1, .box 18 (.t 0), none⟩,
 ⟨some 2, .mv (.c (.bool false)), none⟩]
def F_maker_symbolsr0 : List IStmt := F_maker_symbolsr0b
theorem F_maker_symbolsr0_W {T : Tab} {env : Env} {H : Heap} {Q : Post} : W T (.reg F_maker_symbolsr0) env H Q ↔ WR T F_maker_symbolsr0 F_maker_symbolsr0b env H none [] Q := w_reg
def F_maker_symbolsr1b : List IStmt := [
 ⟨some 5, .fa 7 (.t 1), none⟩,
 ⟨some 6, .load (.t 5), none⟩,
 ⟨some 7, .len 1 (.t 6), none⟩,
 ⟨some 8, .bin .geq (.t 7) (.c (.int .i64 256)), none⟩,
 ⟨some 9, .mv (.t 8), none⟩,
 ⟨some 10, .loadN 18 (.t 1), some (4, false)⟩,
 ⟨some 11, .callc 51 [(.t 10)], some (4, false)⟩,
 ⟨some 12, .len 1 (.t 11), some (4, false)⟩,
 ⟨some 13, .bin .gtr (.t 12) (.c (.int .i64 31)), some (4, false)⟩,
 ⟨some 14, .pick (.t 9) (.c (.bool true)) (.t 13), none⟩]
def F_maker_symbolsr1 : List IStmt := F_maker_symbolsr1b
theorem F_maker_symbolsr1_W {T : Tab} {env : Env} {H : Heap} {Q : Post} : W T (.reg F_maker_symbolsr1) env H Q ↔ WR T F_maker_symbolsr1 F_maker_symbolsr1b env H none [] Q := w_reg
theorem F_maker_symbolsr1_g4 {env : Env} : yieldI F_maker_symbolsr1 env 4 = bOf (env 9) := rfl
def F_maker_symbolsr2b : List IStmt := [
 ⟨some 2, .mv (.c (.bool false)), none⟩]
def F_maker_symbolsr2 : List IStmt := F_maker_symbolsr2b
theorem F_maker_symbolsr2_W {T : Tab} {env : Env} {H : Heap} {Q : Post} : W T (.reg F_maker_symbolsr2) env H Q ↔ WR T F_maker_symbolsr2 F_maker_symbolsr2b env H none [] Q := w_reg
def F_maker_symbolsr3b : List IStmt := [
 ⟨some 15, .fa 7 (.t 1), none⟩,
 ⟨some 16, .load (.t 15), none⟩,
 ⟨some 17, .len 1 (.t 16), none⟩,
 ⟨some 18, .mv (.c (.int .i64 0)), none⟩]
def F_maker_symbolsr3 : List IStmt := F_maker_symbolsr3b
theorem F_maker_symbolsr3_W {T : Tab} {env : Env} {H : Heap} {Q : Post} : W T (.reg F_maker_symbolsr3) env H Q ↔ WR T F_maker_symbolsr3 F_maker_symbolsr3b env H none [] Q := w_reg
def F_maker_symbolsr4b : List IStmt := [
 ⟨some 19, .bin .lss (.t 18) (.t 17), none⟩]
def F_maker_symbolsr4 : List IStmt := F_maker_symbolsr4b
theorem F_maker_symbolsr4_W {T : Tab} {env : Env} {H : Heap} {Q : Post} : W T (.reg F_maker_symbolsr4) env H Q ↔ WR T F_maker_symbolsr4 F_maker_symbolsr4b env H none [] Q := w_reg
def F_maker_symbolsr5b : List IStmt := [
 ⟨some 20, .ixa 7 (.t 16) (.t 18), none⟩,
 ⟨some 21, .loadN 7 (.t 20), none⟩,
 ⟨some 4, .alloc 7 [.string ⟨#[]⟩, .string ⟨#[]⟩, .bool false, .int .i64 0, .bool false, .int .u64 0, .int .u64 0], none⟩,
 ⟨none, .store 7 (.t 4) (.t 21), none⟩]
def F_maker_symbolsr5 : List IStmt := F_maker_symbolsr5b
theorem F_maker_symbolsr5_W {T : Tab} {env : Env} {H : Heap} {Q : Post} : W T (.reg F_maker_symbolsr5) env H Q ↔ WR T F_maker_symbolsr5 F_maker_symbolsr5b env H none [] Q := w_reg
def F_maker_symbolsr6b : List IStmt := [
 ⟨some 22, .fa 0 (.t 4), none⟩,
 ⟨some 23, .load (.t 22), none⟩,
 ⟨some 24, .callc 21 [(.t 23), (.c (.bool false))], none⟩,
 ⟨some 25, .un .not (.t 24), none⟩,
 ⟨some 26, .mv (.t 25), none⟩,
 ⟨some 27, .fa 1 (.t 4), some (4, false)⟩,
 ⟨some 28, .load (.t 27), some (4, false)⟩,
 ⟨some 29, .callc 21 [(.t 28), (.c (.bool true))], some (4, false)⟩,
 ⟨some 30, .un .not (.t 29), some (4, false)⟩,
 ⟨some 31, .pick (.t 26) (.c (.bool true)) (.t 30), none⟩,
 ⟨some 32, .mv (.t 31), none⟩,
 ⟨some 33, .fa 3 (.t 4), some (10, false)⟩,
 ⟨some 34, .load (.t 33), some (10, false)⟩,
 ⟨some 35, .bin .lss (.t 34) (.c (.int .i64 0)), some (10, false)⟩,
 ⟨some 36, .pick (.t 32) (.c (.bool true)) (.t 35), none⟩,
 ⟨some 37, .mv (.t 36), none⟩,
 ⟨some 38, .fa 3 (.t 4), some (15, false)⟩,
 ⟨some 39, .load (.t 38), some (15, false)⟩,
 ⟨some 40, .bin .gtr (.t 39) (.c (.int .i64 2)), some (15, false)⟩,
 ⟨some 41, .pick (.t 37) (.c (.bool true)) (.t 40), none⟩]
def F_maker_symbolsr6 : List IStmt := F_maker_symbolsr6b
theorem F_maker_symbolsr6_W {T : Tab} {env : Env} {H : Heap} {Q : Post} : W T (.reg F_maker_symbolsr6) env H Q ↔ WR T F_maker_symbolsr6 F_maker_symbolsr6b env H none [] Q := w_reg
theorem F_maker_symbolsr6_g4 {env : Env} : yieldI F_maker_symbolsr6 env 4 = bOf (env 26) := rfl
theorem F_maker_symbolsr6_g10 {env : Env} : yieldI F_maker_symbolsr6 env 10 = bOf (env 32) := rfl
theorem F_maker_symbolsr6_g15 {env : Env} : yieldI F_maker_symbolsr6 env 15 = bOf (env 37) := rfl
def F_maker_symbolsr7b : List IStmt := [
 ⟨some 2, .mv (.c (.bool false)), none⟩]
def F_maker_symbolsr7 : List IStmt := F_maker_symbolsr7b
theorem F_maker_symbolsr7_W {T : Tab} {env : Env} {H : Heap} {Q : Post} : W T (.reg F_maker_symbolsr7) env H Q ↔ WR T F_maker_symbolsr7 F_maker_symbolsr7b env H none [] Q := w_reg
def F_maker_symbolsr8b : List IStmt := [
 ⟨some 42, .fa 4 (.t 4), none⟩,
 ⟨some 43, .load (.t 42), none⟩,
 ⟨some 44, .mv (.t 43), none⟩,
 ⟨some 45, .fa 5 (.t 4), some (2, true)⟩,
 ⟨some 46, .load (.t 45), some (2, true)⟩,
 ⟨some 47, .fa 10 (.t 1), some (2, true)⟩,
 ⟨some 48, .load (.t 47), some (2, true)⟩,
 ⟨some 49, .len 1 (.t 48), some (2, true)⟩,
 ⟨some 50, .fa 11 (.t 1), some (2, true)⟩,
 ⟨some 51, .load (.t 50), some (2, true)⟩,
 ⟨some 52, .bin .add (.t 49) (.t 51), some (2, true)⟩,
 ⟨some 53, .conv .u64 (.t 52), some (2, true)⟩,
 ⟨some 54, .bin .geq (.t 46) (.t 53), some (2, true)⟩,
 ⟨some 55, .pick (.t 44) (.t 54) (.c (.bool false)), none⟩]
def F_maker_symbolsr8 : List IStmt := F_maker_symbolsr8b
theorem F_maker_symbolsr8_W {T : Tab} {env : Env} {H : Heap} {Q : Post} : W T (.reg F_maker_symbolsr8) env H Q ↔ WR T F_maker_symbolsr8 F_maker_symbolsr8b env H none [] Q := w_reg
theorem F_maker_symbolsr8_g2 {env : Env} : yieldI F_maker_symbolsr8 env 2 = bOf (env 44) := rfl
def F_maker_symbolsr9b : List IStmt := [
 ⟨some 2, .mv (.c (.bool false)), none⟩]
def F_maker_symbolsr9 : List IStmt := F_maker_symbolsr9b
theorem F_maker_symbolsr9_W {T : Tab} {env : Env} {H : Heap} {Q : Post} : W T (.reg F_maker_symbolsr9) env H Q ↔ WR T F_maker_symbolsr9 F_maker_symbolsr9b env H none [] Q := w_reg
def F_maker_symbolsr10b : List IStmt := [
 ⟨some 56, .fa 4 (.t 4), none⟩,
 ⟨some 57, .load (.t 56), none⟩,
 ⟨some 58, .un .not (.t 57), none⟩,
 ⟨some 59, .mv (.t 58), none⟩,
 ⟨some 60, .fa 5 (.t 4), some (3, true)⟩,
 ⟨some 61, .load (.t 60), some (3, true)⟩,
 ⟨some 62, .bin .neq (.t 61) (.c (.int .u64 0)), some (3, true)⟩,
 ⟨some 63, .mv (.t 62), some (3, true)⟩,
 ⟨some 64, .fa 2 (.t 4), some (7, false)⟩,
 ⟨some 65, .load (.t 64), some (7, false)⟩,
 ⟨some 66, .pick (.t 63) (.c (.bool true)) (.t 65), some (3, true)⟩,
 ⟨some 67, .mv (.t 66), some (3, true)⟩,
 ⟨some 68, .fa 3 (.t 4), some (11, false)⟩,
 ⟨some 69, .load (.t 68), some (11, false)⟩,
 ⟨some 70, .bin .eql (.t 69) (.c (.int .i64 0)), some (11, false)⟩,
 ⟨some 71, .pick (.t 67) (.c (.bool true)) (.t 70), some (3, true)⟩,
 ⟨some 72, .mv (.t 71), some (3, true)⟩,
 ⟨some 73, .fa 1 (.t 4), some (16, false)⟩,
 ⟨some 74, .load (.t 73), some (16, false)⟩,
 ⟨some 75, .bin .neq (.t 74) (.c (.string ⟨#[]⟩)), some (16, false)⟩,
 ⟨some 76, .mv (.t 75), some (16, false)⟩,
 ⟨some 77, .fa 3 (.t 1), some (20, true)⟩,
 ⟨some 78, .load (.t 77), some (20, true)⟩,
 ⟨some 79, .len 1 (.t 78), some (20, true)⟩,
 ⟨some 80, .bin .eql (.t 79) (.c (.int .i64 0)), some (20, true)⟩,
 ⟨some 81, .pick (.t 76) (.t 80) (.c (.bool false)), some (16, false)⟩,
 ⟨some 82, .pick (.t 72) (.c (.bool true)) (.t 81), some (3, true)⟩,
 ⟨some 83, .pick (.t 59) (.t 82) (.c (.bool false)), none⟩]
def F_maker_symbolsr10 : List IStmt := F_maker_symbolsr10b
theorem F_maker_symbolsr10_W {T : Tab} {env : Env} {H : Heap} {Q : Post} : W T (.reg F_maker_symbolsr10) env H Q ↔ WR T F_maker_symbolsr10 F_maker_symbolsr10b env H none [] Q := w_reg
theorem F_maker_symbolsr10_g3 {env : Env} : yieldI F_maker_symbolsr10 env 3 = bOf (env 59) := rfl
theorem F_maker_symbolsr10_g7 {env : Env} : yieldI F_maker_symbolsr10 env 7 = bOf (env 63) := rfl
theorem F_maker_symbolsr10_g11 {env : Env} : yieldI F_maker_symbolsr10 env 11 = bOf (env 67) := rfl
theorem F_maker_symbolsr10_g16 {env : Env} : yieldI F_maker_symbolsr10 env 16 = bOf (env 72) := rfl
theorem F_maker_symbolsr10_g20 {env : Env} : yieldI F_maker_symbolsr10 env 20 = bOf (env 76) := rfl
def F_maker_symbolsr11b : List IStmt := [
 ⟨some 2, .mv (.c (.bool false)), none⟩]
def F_maker_symbolsr11 : List IStmt := F_maker_symbolsr11b
theorem F_maker_symbolsr11_W {T : Tab} {env : Env} {H : Heap} {Q : Post} : W T (.reg F_maker_symbolsr11) env H Q ↔ WR T F_maker_symbolsr11 F_maker_symbolsr11b env H none [] Q := w_reg
def F_maker_symbolsr12b : List IStmt := [
 ⟨some 84, .bin .add (.t 18) (.c (.int .i64 1)), none⟩,
 ⟨some 18, .mv (.t 84), none⟩]
def F_maker_symbolsr12 : List IStmt := F_maker_symbolsr12b
theorem F_maker_symbolsr12_W {T : Tab} {env : Env} {H : Heap} {Q : Post} : W T (.reg F_maker_symbolsr12) env H Q ↔ WR T F_maker_symbolsr12 F_maker_symbolsr12b env H none [] Q := w_reg
def F_maker_symbolsl0b : ICode := (.seq (.reg F_maker_symbolsr4) (.seq (.cond (.t 19) .skip (.exit 0)) (.seq (.block 1 (.seq (.reg F_maker_symbolsr5) (.seq (.seq (.reg F_maker_symbolsr6) (.cond (.t 41) (.seq (.reg F_maker_symbolsr7) .ret) .skip)) (.seq (.seq (.reg F_maker_symbolsr8) (.cond (.t 55) (.seq (.reg F_maker_symbolsr9) .ret) .skip)) (.seq (.reg F_maker_symbolsr10) (.cond (.t 83) (.seq (.reg F_maker_symbolsr11) .ret) .skip)))))) (.reg F_maker_symbolsr12))))
def F_maker_symbolsl0 : ICode := F_maker_symbolsl0b
theorem F_maker_symbolsl0_W {T : Tab} {env : Env} {H : Heap} {Q : Post} : W T F_maker_symbolsl0 env H Q ↔ W T F_maker_symbolsl0b env H Q := Iff.rfl
def F_maker_symbolsr13b : List IStmt := [
 ⟨some 2, .mv (.c (.bool true)), none⟩]
def F_maker_symbolsr13 : List IStmt := F_maker_symbolsr13b
theorem F_maker_symbolsr13_W {T : Tab} {env : Env} {H : Heap} {Q : Post} : W T (.reg F_maker_symbolsr13) env H Q ↔ WR T F_maker_symbolsr13 F_maker_symbolsr13b env H none [] Q := w_reg
def F_maker_symbolscb : ICode := (.seq (.reg F_maker_symbolsr0) (.seq (.seq (.reg F_maker_symbolsr1) (.cond (.t 14) (.seq (.reg F_maker_symbolsr2) .ret) .skip)) (.seq (.seq (.reg F_maker_symbolsr3) (.block 0 (.loop F_maker_symbolsl0))) (.seq (.reg F_maker_symbolsr13) .ret))))
def F_maker_symbolsc : ICode := F_maker_symbolscb
theorem F_maker_symbolsc_W {T : Tab} {env : Env} {H : Heap} {Q : Post} : W T F_maker_symbolsc env H Q ↔ W T F_maker_symbolscb env H Q := Iff.rfl
def F_maker_symbols : IFn := ⟨85, [.tmp 2], F_maker_symbolsc⟩
set_option linter.defProp false in
set_option maxRecDepth 100000 in
def N_maker_symbolsP := And.intro F_maker_symbolsr0b.eq_1 (And.intro @F_maker_symbolsr0_W (And.intro F_maker_symbolsr1b.eq_1 (And.intro @F_maker_symbolsr1_W (And.intro @F_maker_symbolsr1_g4 (And.intro F_maker_symbolsr2b.eq_1 (And.intro @F_maker_symbolsr2_W (And.intro F_maker_symbolsr3b.eq_1 (And.intro @F_maker_symbolsr3_W (And.intro F_maker_symbolsr4b.eq_1 (And.intro @F_maker_symbolsr4_W (And.intro F_maker_symbolsr5b.eq_1 (And.intro @F_maker_symbolsr5_W (And.intro F_maker_symbolsr6b.eq_1 (And.intro @F_maker_symbolsr6_W (And.intro @F_maker_symbolsr6_g4 (And.intro @F_maker_symbolsr6_g10 (And.intro @F_maker_symbolsr6_g15 (And.intro F_maker_symbolsr7b.eq_1 (And.intro @F_maker_symbolsr7_W (And.intro F_maker_symbolsr8b.eq_1 (And.intro @F_maker_symbolsr8_W (And.intro @F_maker_symbolsr8_g2 (And.intro F_maker_symbolsr9b.eq_1 (And.intro @F_maker_symbolsr9_W (And.intro F_maker_symbolsr10b.eq_1 (And.intro @F_maker_symbolsr10_W (And.intro @F_maker_symbolsr10_g3 (And.intro @F_maker_symbolsr10_g7 (And.intro @F_maker_symbolsr10_g11 (And.intro @F_maker_symbolsr10_g16 (And.intro @F_maker_symbolsr10_g20 (And.intro F_maker_symbolsr11b.eq_1 (And.intro @F_maker_symbolsr11_W (And.intro F_maker_symbolsr12b.eq_1 (And.intro @F_maker_symbolsr12_W (And.intro @F_maker_symbolsl0_W (And.intro F_maker_symbolsl0b.eq_1 (And.intro F_maker_symbolsr13b.eq_1 (And.intro @F_maker_symbolsr13_W (And.intro @F_maker_symbolsc_W (F_maker_symbolscb.eq_1)))))))))))))))))))))))))))))))))))))))))
theorem N_maker_symbols : type_of% N_maker_symbolsP := N_maker_symbolsP
set_option maxRecDepth 1000000 in
theorem F_maker_symbols_chk : chkF Tryz.prog 22 F_maker_symbols = true := by kernel_rfl

/-! ### apply_intel -/
def F_apply_intelr0b : List IStmt := [
 ⟨some 2, .mv (.c (.int .i64 0)), none⟩,
 ⟨some 3, .mv (.c (.bool false)), none⟩]
def F_apply_intelr0 : List IStmt := F_apply_intelr0b
theorem F_apply_intelr0_W {T : Tab} {env : Env} {H : Heap} {Q : Post} : W T (.reg F_apply_intelr0) env H Q ↔ WR T F_apply_intelr0 F_apply_intelr0b env H none [] Q := w_reg
def F_apply_intelr1b : List IStmt := [
 ⟨some 4, .mv (.t 0), none⟩]
def F_apply_intelr1 : List IStmt := F_apply_intelr1b
theorem F_apply_intelr1_W {T : Tab} {env : Env} {H : Heap} {Q : Post} : W T (.reg F_apply_intelr1) env H Q ↔ WR T F_apply_intelr1 F_apply_intelr1b env H none [] Q := w_reg
def F_apply_intelr2b : List IStmt := [
 ⟨some 6, .bin .eql (.t 4) (.c (.int .u32 1)), none⟩,
 ⟨some 5, .mv (.t 6), none⟩]
def F_apply_intelr2 : List IStmt := F_apply_intelr2b
theorem F_apply_intelr2_W {T : Tab} {env : Env} {H : Heap} {Q : Post} : W T (.reg F_apply_intelr2) env H Q ↔ WR T F_apply_intelr2 F_apply_intelr2b env H none [] Q := w_reg
def F_apply_intelr3b : List IStmt := [
 ⟨some 2, .mv (.c (.int .i64 1)), none⟩,
 ⟨some 3, .mv (.c (.bool true)), none⟩]
def F_apply_intelr3 : List IStmt := F_apply_intelr3b
theorem F_apply_intelr3_W {T : Tab} {env : Env} {H : Heap} {Q : Post} : W T (.reg F_apply_intelr3) env H Q ↔ WR T F_apply_intelr3 F_apply_intelr3b env H none [] Q := w_reg
def F_apply_intelr4b : List IStmt := [
 ⟨some 8, .bin .eql (.t 4) (.c (.int .u32 6)), none⟩,
 ⟨some 7, .mv (.t 8), none⟩]
def F_apply_intelr4 : List IStmt := F_apply_intelr4b
theorem F_apply_intelr4_W {T : Tab} {env : Env} {H : Heap} {Q : Post} : W T (.reg F_apply_intelr4) env H Q ↔ WR T F_apply_intelr4 F_apply_intelr4b env H none [] Q := w_reg
def F_apply_intelr5b : List IStmt := [
 ⟨some 9, .bin .eql (.t 4) (.c (.int .u32 7)), none⟩,
 ⟨some 7, .mv (.t 9), none⟩]
def F_apply_intelr5 : List IStmt := F_apply_intelr5b
theorem F_apply_intelr5_W {T : Tab} {env : Env} {H : Heap} {Q : Post} : W T (.reg F_apply_intelr5) env H Q ↔ WR T F_apply_intelr5 F_apply_intelr5b env H none [] Q := w_reg
def F_apply_intelr6b : List IStmt := [
 ⟨some 2, .mv (.c (.int .i64 3)), none⟩,
 ⟨some 3, .mv (.c (.bool true)), none⟩]
def F_apply_intelr6 : List IStmt := F_apply_intelr6b
theorem F_apply_intelr6_W {T : Tab} {env : Env} {H : Heap} {Q : Post} : W T (.reg F_apply_intelr6) env H Q ↔ WR T F_apply_intelr6 F_apply_intelr6b env H none [] Q := w_reg
def F_apply_intelr7b : List IStmt := [
 ⟨some 11, .bin .eql (.t 4) (.c (.int .u32 8)), none⟩,
 ⟨some 10, .mv (.t 11), none⟩]
def F_apply_intelr7 : List IStmt := F_apply_intelr7b
theorem F_apply_intelr7_W {T : Tab} {env : Env} {H : Heap} {Q : Post} : W T (.reg F_apply_intelr7) env H Q ↔ WR T F_apply_intelr7 F_apply_intelr7b env H none [] Q := w_reg
def F_apply_intelr8b : List IStmt := [
 ⟨some 2, .mv (.c (.int .i64 2)), none⟩,
 ⟨some 3, .mv (.c (.bool true)), none⟩]
def F_apply_intelr8 : List IStmt := F_apply_intelr8b
theorem F_apply_intelr8_W {T : Tab} {env : Env} {H : Heap} {Q : Post} : W T (.reg F_apply_intelr8) env H Q ↔ WR T F_apply_intelr8 F_apply_intelr8b env H none [] Q := w_reg
def F_apply_intelr9b : List IStmt := [
 ⟨some 2, .mv (.c (.int .i64 0)), none⟩,
 ⟨some 3, .mv (.c (.bool false)), none⟩]
def F_apply_intelr9 : List IStmt := F_apply_intelr9b
theorem F_apply_intelr9_W {T : Tab} {env : Env} {H : Heap} {Q : Post} : W T (.reg F_apply_intelr9) env H Q ↔ WR T F_apply_intelr9 F_apply_intelr9b env H none [] Q := w_reg
def F_apply_intelcb : ICode := (.seq (.reg F_apply_intelr0) (.seq (.seq (.reg F_apply_intelr1) (.block 0 (.seq (.reg F_apply_intelr2) (.cond (.t 5) (.seq (.reg F_apply_intelr3) .ret) (.seq (.seq (.reg F_apply_intelr4) (.cond (.t 7) .skip (.reg F_apply_intelr5))) (.cond (.t 7) (.seq (.reg F_apply_intelr6) .ret) (.seq (.reg F_apply_intelr7) (.cond (.t 10) (.seq (.reg F_apply_intelr8) .ret) .skip)))))))) (.seq (.reg F_apply_intelr9) .ret)))
def F_apply_intelc : ICode := F_apply_intelcb
theorem F_apply_intelc_W {T : Tab} {env : Env} {H : Heap} {Q : Post} : W T F_apply_intelc env H Q ↔ W T F_apply_intelcb env H Q := Iff.rfl
def F_apply_intel : IFn := ⟨12, [.tmp 2, .tmp 3], F_apply_intelc⟩
set_option linter.defProp false in
set_option maxRecDepth 100000 in
def N_apply_intelP := And.intro F_apply_intelr0b.eq_1 (And.intro @F_apply_intelr0_W (And.intro F_apply_intelr1b.eq_1 (And.intro @F_apply_intelr1_W (And.intro F_apply_intelr2b.eq_1 (And.intro @F_apply_intelr2_W (And.intro F_apply_intelr3b.eq_1 (And.intro @F_apply_intelr3_W (And.intro F_apply_intelr4b.eq_1 (And.intro @F_apply_intelr4_W (And.intro F_apply_intelr5b.eq_1 (And.intro @F_apply_intelr5_W (And.intro F_apply_intelr6b.eq_1 (And.intro @F_apply_intelr6_W (And.intro F_apply_intelr7b.eq_1 (And.intro @F_apply_intelr7_W (And.intro F_apply_intelr8b.eq_1 (And.intro @F_apply_intelr8_W (And.intro F_apply_intelr9b.eq_1 (And.intro @F_apply_intelr9_W (And.intro @F_apply_intelc_W (F_apply_intelcb.eq_1)))))))))))))))))))))
theorem N_apply_intel : type_of% N_apply_intelP := N_apply_intelP
set_option maxRecDepth 1000000 in
theorem F_apply_intel_chk : chkF Tryz.prog 111 F_apply_intel = true := by kernel_rfl

/-! ### apply_arm -/
def F_apply_armr0b : List IStmt := [
 ⟨some 2, .mv (.c (.int .i64 0)), none⟩,
 ⟨some 3, .mv (.c (.bool false)), none⟩]
def F_apply_armr0 : List IStmt := F_apply_armr0b
theorem F_apply_armr0_W {T : Tab} {env : Env} {H : Heap} {Q : Post} : W T (.reg F_apply_armr0) env H Q ↔ WR T F_apply_armr0 F_apply_armr0b env H none [] Q := w_reg
def F_apply_armr1b : List IStmt := [
 ⟨some 4, .mv (.t 0), none⟩]
def F_apply_armr1 : List IStmt := F_apply_armr1b
theorem F_apply_armr1_W {T : Tab} {env : Env} {H : Heap} {Q : Post} : W T (.reg F_apply_armr1) env H Q ↔ WR T F_apply_armr1 F_apply_armr1b env H none [] Q := w_reg
def F_apply_armr2b : List IStmt := [
 ⟨some 6, .bin .eql (.t 4) (.c (.int .u32 257)), none⟩,
 ⟨some 5, .mv (.t 6), none⟩]
def F_apply_armr2 : List IStmt := F_apply_armr2b
theorem F_apply_armr2_W {T : Tab} {env : Env} {H : Heap} {Q : Post} : W T (.reg F_apply_armr2) env H Q ↔ WR T F_apply_armr2 F_apply_armr2b env H none [] Q := w_reg
def F_apply_armr3b : List IStmt := [
 ⟨some 7, .bin .eql (.t 4) (.c (.int .u32 1025)), none⟩,
 ⟨some 5, .mv (.t 7), none⟩]
def F_apply_armr3 : List IStmt := F_apply_armr3b
theorem F_apply_armr3_W {T : Tab} {env : Env} {H : Heap} {Q : Post} : W T (.reg F_apply_armr3) env H Q ↔ WR T F_apply_armr3 F_apply_armr3b env H none [] Q := w_reg
def F_apply_armr4b : List IStmt := [
 ⟨some 8, .bin .eql (.t 4) (.c (.int .u32 1026)), none⟩,
 ⟨some 5, .mv (.t 8), none⟩]
def F_apply_armr4 : List IStmt := F_apply_armr4b
theorem F_apply_armr4_W {T : Tab} {env : Env} {H : Heap} {Q : Post} : W T (.reg F_apply_armr4) env H Q ↔ WR T F_apply_armr4 F_apply_armr4b env H none [] Q := w_reg
def F_apply_armr5b : List IStmt := [
 ⟨some 2, .mv (.c (.int .i64 1)), none⟩,
 ⟨some 3, .mv (.c (.bool true)), none⟩]
def F_apply_armr5 : List IStmt := F_apply_armr5b
theorem F_apply_armr5_W {T : Tab} {env : Env} {H : Heap} {Q : Post} : W T (.reg F_apply_armr5) env H Q ↔ WR T F_apply_armr5 F_apply_armr5b env H none [] Q := w_reg
def F_apply_armr6b : List IStmt := [
 ⟨some 10, .bin .eql (.t 4) (.c (.int .u32 1027)), none⟩,
 ⟨some 9, .mv (.t 10), none⟩]
def F_apply_armr6 : List IStmt := F_apply_armr6b
theorem F_apply_armr6_W {T : Tab} {env : Env} {H : Heap} {Q : Post} : W T (.reg F_apply_armr6) env H Q ↔ WR T F_apply_armr6 F_apply_armr6b env H none [] Q := w_reg
def F_apply_armr7b : List IStmt := [
 ⟨some 2, .mv (.c (.int .i64 2)), none⟩,
 ⟨some 3, .mv (.c (.bool true)), none⟩]
def F_apply_armr7 : List IStmt := F_apply_armr7b
theorem F_apply_armr7_W {T : Tab} {env : Env} {H : Heap} {Q : Post} : W T (.reg F_apply_armr7) env H Q ↔ WR T F_apply_armr7 F_apply_armr7b env H none [] Q := w_reg
def F_apply_armr8b : List IStmt := [
 ⟨some 2, .mv (.c (.int .i64 0)), none⟩,
 ⟨some 3, .mv (.c (.bool false)), none⟩]
def F_apply_armr8 : List IStmt := F_apply_armr8b
theorem F_apply_armr8_W {T : Tab} {env : Env} {H : Heap} {Q : Post} : W T (.reg F_apply_armr8) env H Q ↔ WR T F_apply_armr8 F_apply_armr8b env H none [] Q := w_reg
def F_apply_armcb : ICode := (.seq (.reg F_apply_armr0) (.seq (.seq (.reg F_apply_armr1) (.block 0 (.seq (.seq (.reg F_apply_armr2) (.cond (.t 5) .skip (.seq (.reg F_apply_armr3) (.cond (.t 5) .skip (.reg F_apply_armr4))))) (.cond (.t 5) (.seq (.reg F_apply_armr5) .ret) (.seq (.reg F_apply_armr6) (.cond (.t 9) (.seq (.reg F_apply_armr7) .ret) .skip)))))) (.seq (.reg F_apply_armr8) .ret)))
def F_apply_armc : ICode := F_apply_armcb
theorem F_apply_armc_W {T : Tab} {env : Env} {H : Heap} {Q : Post} : W T F_apply_armc env H Q ↔ W T F_apply_armcb env H Q := Iff.rfl
def F_apply_arm : IFn := ⟨11, [.tmp 2, .tmp 3], F_apply_armc⟩
set_option linter.defProp false in
set_option maxRecDepth 100000 in
def N_apply_armP := And.intro F_apply_armr0b.eq_1 (And.intro @F_apply_armr0_W (And.intro F_apply_armr1b.eq_1 (And.intro @F_apply_armr1_W (And.intro F_apply_armr2b.eq_1 (And.intro @F_apply_armr2_W (And.intro F_apply_armr3b.eq_1 (And.intro @F_apply_armr3_W (And.intro F_apply_armr4b.eq_1 (And.intro @F_apply_armr4_W (And.intro F_apply_armr5b.eq_1 (And.intro @F_apply_armr5_W (And.intro F_apply_armr6b.eq_1 (And.intro @F_apply_armr6_W (And.intro F_apply_armr7b.eq_1 (And.intro @F_apply_armr7_W (And.intro F_apply_armr8b.eq_1 (And.intro @F_apply_armr8_W (And.intro @F_apply_armc_W (F_apply_armcb.eq_1)))))))))))))))))))
theorem N_apply_arm : type_of% N_apply_armP := N_apply_armP
set_option maxRecDepth 1000000 in
theorem F_apply_arm_chk : chkF Tryz.prog 112 F_apply_arm = true := by kernel_rfl

/-! ### apply_Of -/
def F_apply_Ofr0b : List IStmt := [
 ⟨some 4, .mv (.c (.int .i64 0)), none⟩,
 ⟨some 5, .mv (.c (.bool false)), none⟩]
def F_apply_Ofr0 : List IStmt := F_apply_Ofr0b
theorem F_apply_Ofr0_W {T : Tab} {env : Env} {H : Heap} {Q : Post} : W T (.reg F_apply_Ofr0) env H Q ↔ WR T F_apply_Ofr0 F_apply_Ofr0b env H none [] Q := w_reg
def F_apply_Ofr1b : List IStmt := [
 ⟨some 6, .mv (.t 1), none⟩,
 ⟨some 7, .bin .eql (.t 6) (.c (.int .u32 0)), none⟩]
def F_apply_Ofr1 : List IStmt := F_apply_Ofr1b
theorem F_apply_Ofr1_W {T : Tab} {env : Env} {H : Heap} {Q : Post} : W T (.reg F_apply_Ofr1) env H Q ↔ WR T F_apply_Ofr1 F_apply_Ofr1b env H none [] Q := w_reg
def F_apply_Ofr2b : List IStmt := [
 ⟨some 8, .mv (.t 0), none⟩,
 ⟨some 9, .bin .eql (.t 8) (.c (.int .u16 62)), none⟩,
 ⟨some 10, .mv (.t 9), none⟩,
 ⟨some 11, .mv (.t 0), some (2, false)⟩,
 ⟨some 12, .bin .eql (.t 11) (.c (.int .u16 183)), some (2, false)⟩,
 ⟨some 13, .pick (.t 10) (.c (.bool true)) (.t 12), none⟩,
 ⟨some 4, .mv (.c (.int .i64 0)), none⟩,
 ⟨some 5, .mv (.t 13), none⟩]
def F_apply_Ofr2 : List IStmt := F_apply_Ofr2b
theorem F_apply_Ofr2_W {T : Tab} {env : Env} {H : Heap} {Q : Post} : W T (.reg F_apply_Ofr2) env H Q ↔ WR T F_apply_Ofr2 F_apply_Ofr2b env H none [] Q := w_reg
theorem F_apply_Ofr2_g2 {env : Env} : yieldI F_apply_Ofr2 env 2 = bOf (env 10) := rfl
def F_apply_Ofr3b : List IStmt := [
 ⟨some 14, .mv (.t 0), none⟩]
def F_apply_Ofr3 : List IStmt := F_apply_Ofr3b
theorem F_apply_Ofr3_W {T : Tab} {env : Env} {H : Heap} {Q : Post} : W T (.reg F_apply_Ofr3) env H Q ↔ WR T F_apply_Ofr3 F_apply_Ofr3b env H none [] Q := w_reg
def F_apply_Ofr4b : List IStmt := [
 ⟨some 16, .bin .eql (.t 14) (.c (.int .u16 62)), none⟩,
 ⟨some 15, .mv (.t 16), none⟩]
def F_apply_Ofr4 : List IStmt := F_apply_Ofr4b
theorem F_apply_Ofr4_W {T : Tab} {env : Env} {H : Heap} {Q : Post} : W T (.reg F_apply_Ofr4) env H Q ↔ WR T F_apply_Ofr4 F_apply_Ofr4b env H none [] Q := w_reg
def F_apply_Ofr5b : List IStmt := [
 ⟨some 17, .mv (.t 1), none⟩,
 ⟨some 18, .callc 111 [(.t 17)], none⟩,
 ⟨some 19, .ext (.t 18) 0, none⟩,
 ⟨some 20, .ext (.t 18) 1, none⟩,
 ⟨some 4, .mv (.t 19), none⟩,
 ⟨some 5, .mv (.t 20), none⟩]
def F_apply_Ofr5 : List IStmt := F_apply_Ofr5b
theorem F_apply_Ofr5_W {T : Tab} {env : Env} {H : Heap} {Q : Post} : W T (.reg F_apply_Ofr5) env H Q ↔ WR T F_apply_Ofr5 F_apply_Ofr5b env H none [] Q := w_reg
def F_apply_Ofr6b : List IStmt := [
 ⟨some 22, .bin .eql (.t 14) (.c (.int .u16 183)), none⟩,
 ⟨some 21, .mv (.t 22), none⟩]
def F_apply_Ofr6 : List IStmt := F_apply_Ofr6b
theorem F_apply_Ofr6_W {T : Tab} {env : Env} {H : Heap} {Q : Post} : W T (.reg F_apply_Ofr6) env H Q ↔ WR T F_apply_Ofr6 F_apply_Ofr6b env H none [] Q := w_reg
def F_apply_Ofr7b : List IStmt := [
 ⟨some 23, .mv (.t 1), none⟩,
 ⟨some 24, .callc 112 [(.t 23)], none⟩,
 ⟨some 25, .ext (.t 24) 0, none⟩,
 ⟨some 26, .ext (.t 24) 1, none⟩,
 ⟨some 4, .mv (.t 25), none⟩,
 ⟨some 5, .mv (.t 26), none⟩]
def F_apply_Ofr7 : List IStmt := F_apply_Ofr7b
theorem F_apply_Ofr7_W {T : Tab} {env : Env} {H : Heap} {Q : Post} : W T (.reg F_apply_Ofr7) env H Q ↔ WR T F_apply_Ofr7 F_apply_Ofr7b env H none [] Q := w_reg
def F_apply_Ofr8b : List IStmt := [
 ⟨some 4, .mv (.c (.int .i64 0)), none⟩,
 ⟨some 5, .mv (.c (.bool false)), none⟩]
def F_apply_Ofr8 : List IStmt := F_apply_Ofr8b
theorem F_apply_Ofr8_W {T : Tab} {env : Env} {H : Heap} {Q : Post} : W T (.reg F_apply_Ofr8) env H Q ↔ WR T F_apply_Ofr8 F_apply_Ofr8b env H none [] Q := w_reg
def F_apply_Ofcb : ICode := (.seq (.reg F_apply_Ofr0) (.seq (.seq (.reg F_apply_Ofr1) (.cond (.t 7) (.seq (.reg F_apply_Ofr2) .ret) .skip)) (.seq (.seq (.reg F_apply_Ofr3) (.block 0 (.seq (.reg F_apply_Ofr4) (.cond (.t 15) (.seq (.reg F_apply_Ofr5) .ret) (.seq (.reg F_apply_Ofr6) (.cond (.t 21) (.seq (.reg F_apply_Ofr7) .ret) .skip)))))) (.seq (.reg F_apply_Ofr8) .ret))))
def F_apply_Ofc : ICode := F_apply_Ofcb
theorem F_apply_Ofc_W {T : Tab} {env : Env} {H : Heap} {Q : Post} : W T F_apply_Ofc env H Q ↔ W T F_apply_Ofcb env H Q := Iff.rfl
def F_apply_Of : IFn := ⟨27, [.tmp 4, .tmp 5], F_apply_Ofc⟩
set_option linter.defProp false in
set_option maxRecDepth 100000 in
def N_apply_OfP := And.intro F_apply_Ofr0b.eq_1 (And.intro @F_apply_Ofr0_W (And.intro F_apply_Ofr1b.eq_1 (And.intro @F_apply_Ofr1_W (And.intro F_apply_Ofr2b.eq_1 (And.intro @F_apply_Ofr2_W (And.intro @F_apply_Ofr2_g2 (And.intro F_apply_Ofr3b.eq_1 (And.intro @F_apply_Ofr3_W (And.intro F_apply_Ofr4b.eq_1 (And.intro @F_apply_Ofr4_W (And.intro F_apply_Ofr5b.eq_1 (And.intro @F_apply_Ofr5_W (And.intro F_apply_Ofr6b.eq_1 (And.intro @F_apply_Ofr6_W (And.intro F_apply_Ofr7b.eq_1 (And.intro @F_apply_Ofr7_W (And.intro F_apply_Ofr8b.eq_1 (And.intro @F_apply_Ofr8_W (And.intro @F_apply_Ofc_W (F_apply_Ofcb.eq_1))))))))))))))))))))
theorem N_apply_Of : type_of% N_apply_OfP := N_apply_OfP
set_option maxRecDepth 1000000 in
theorem F_apply_Of_chk : chkF Tryz.prog 52 F_apply_Of = true := by kernel_rfl

/-! ### num_Sub -/
def F_num_Subr0b : List IStmt := [
 ⟨some 4, .mv (.c (.int .u64 0)), none⟩,
 ⟨some 5, .mv (.c (.bool false)), none⟩]
def F_num_Subr0 : List IStmt := F_num_Subr0b
theorem F_num_Subr0_W {T : Tab} {env : Env} {H : Heap} {Q : Post} : W T (.reg F_num_Subr0) env H Q ↔ WR T F_num_Subr0 F_num_Subr0b env H none [] Q := w_reg
def F_num_Subr1b : List IStmt := [
 ⟨some 6, .mv (.t 0), none⟩,
 ⟨some 7, .mv (.t 1), none⟩,
 ⟨some 8, .bin .lss (.t 6) (.t 7), none⟩]
def F_num_Subr1 : List IStmt := F_num_Subr1b
theorem F_num_Subr1_W {T : Tab} {env : Env} {H : Heap} {Q : Post} : W T (.reg F_num_Subr1) env H Q ↔ WR T F_num_Subr1 F_num_Subr1b env H none [] Q := w_reg
def F_num_Subr2b : List IStmt := [
 ⟨some 4, .mv (.c (.int .u64 0)), none⟩,
 ⟨some 5, .mv (.c (.bool false)), none⟩]
def F_num_Subr2 : List IStmt := F_num_Subr2b
theorem F_num_Subr2_W {T : Tab} {env : Env} {H : Heap} {Q : Post} : W T (.reg F_num_Subr2) env H Q ↔ WR T F_num_Subr2 F_num_Subr2b env H none [] Q := w_reg
def F_num_Subr3b : List IStmt := [
 ⟨some 9, .mv (.t 0), none⟩,
 ⟨some 10, .mv (.t 1), none⟩,
 ⟨some 11, .bin .sub (.t 9) (.t 10), none⟩,
 ⟨some 4, .mv (.t 11), none⟩,
 ⟨some 5, .mv (.c (.bool true)), none⟩]
def F_num_Subr3 : List IStmt := F_num_Subr3b
theorem F_num_Subr3_W {T : Tab} {env : Env} {H : Heap} {Q : Post} : W T (.reg F_num_Subr3) env H Q ↔ WR T F_num_Subr3 F_num_Subr3b env H none [] Q := w_reg
def F_num_Subcb : ICode := (.seq (.reg F_num_Subr0) (.seq (.seq (.reg F_num_Subr1) (.cond (.t 8) (.seq (.reg F_num_Subr2) .ret) .skip)) (.seq (.reg F_num_Subr3) .ret)))
def F_num_Subc : ICode := F_num_Subcb
theorem F_num_Subc_W {T : Tab} {env : Env} {H : Heap} {Q : Post} : W T F_num_Subc env H Q ↔ W T F_num_Subcb env H Q := Iff.rfl
def F_num_Sub : IFn := ⟨12, [.tmp 4, .tmp 5], F_num_Subc⟩
set_option linter.defProp false in
set_option maxRecDepth 100000 in
def N_num_SubP := And.intro F_num_Subr0b.eq_1 (And.intro @F_num_Subr0_W (And.intro F_num_Subr1b.eq_1 (And.intro @F_num_Subr1_W (And.intro F_num_Subr2b.eq_1 (And.intro @F_num_Subr2_W (And.intro F_num_Subr3b.eq_1 (And.intro @F_num_Subr3_W (And.intro @F_num_Subc_W (F_num_Subcb.eq_1)))))))))
theorem N_num_Sub : type_of% N_num_SubP := N_num_SubP
set_option maxRecDepth 1000000 in
theorem F_num_Sub_chk : chkF Tryz.prog 113 F_num_Sub = true := by kernel_rfl

/-! ### num_Inside -/
def F_num_Insider0b : List IStmt := [
 ⟨some 8, .mv (.c (.bool false)), none⟩]
def F_num_Insider0 : List IStmt := F_num_Insider0b
theorem F_num_Insider0_W {T : Tab} {env : Env} {H : Heap} {Q : Post} : W T (.reg F_num_Insider0) env H Q ↔ WR T F_num_Insider0 F_num_Insider0b env H none [] Q := w_reg
def F_num_Insider1b : List IStmt := [
 ⟨some 12, .mv (.t 0), none⟩,
 ⟨some 13, .mv (.t 2), none⟩,
 ⟨some 14, .callc 113 [(.t 12), (.t 13)], none⟩,
 ⟨some 11, .mv (.t 14), none⟩,
 ⟨some 15, .ext (.t 11) 0, none⟩,
 ⟨some 16, .ext (.t 11) 1, none⟩,
 ⟨some 9, .mv (.t 15), none⟩,
 ⟨some 10, .mv (.t 16), none⟩]
def F_num_Insider1 : List IStmt := F_num_Insider1b
theorem F_num_Insider1_W {T : Tab} {env : Env} {H : Heap} {Q : Post} : W T (.reg F_num_Insider1) env H Q ↔ WR T F_num_Insider1 F_num_Insider1b env H none [] Q := w_reg
def F_num_Insider2b : List IStmt := [
 ⟨some 17, .mv (.t 10), none⟩,
 ⟨some 18, .mv (.t 17), none⟩,
 ⟨some 19, .mv (.t 9), some (1, true)⟩,
 ⟨some 20, .mv (.t 3), some (1, true)⟩,
 ⟨some 21, .bin .leq (.t 19) (.t 20), some (1, true)⟩,
 ⟨some 22, .pick (.t 18) (.t 21) (.c (.bool false)), none⟩,
 ⟨some 23, .mv (.t 22), none⟩,
 ⟨some 24, .mv (.t 1), some (6, true)⟩,
 ⟨some 25, .mv (.t 3), some (6, true)⟩,
 ⟨some 26, .mv (.t 9), some (6, true)⟩,
 ⟨some 27, .bin .sub (.t 25) (.t 26), some (6, true)⟩,
 ⟨some 28, .bin .leq (.t 24) (.t 27), some (6, true)⟩,
 ⟨some 29, .pick (.t 23) (.t 28) (.c (.bool false)), none⟩,
 ⟨some 8, .mv (.t 29), none⟩]
def F_num_Insider2 : List IStmt := F_num_Insider2b
theorem F_num_Insider2_W {T : Tab} {env : Env} {H : Heap} {Q : Post} : W T (.reg F_num_Insider2) env H Q ↔ WR T F_num_Insider2 F_num_Insider2b env H none [] Q := w_reg
theorem F_num_Insider2_g1 {env : Env} : yieldI F_num_Insider2 env 1 = bOf (env 18) := rfl
theorem F_num_Insider2_g6 {env : Env} : yieldI F_num_Insider2 env 6 = bOf (env 23) := rfl
def F_num_Insidecb : ICode := (.seq (.reg F_num_Insider0) (.seq (.reg F_num_Insider1) (.seq (.reg F_num_Insider2) .ret)))
def F_num_Insidec : ICode := F_num_Insidecb
theorem F_num_Insidec_W {T : Tab} {env : Env} {H : Heap} {Q : Post} : W T F_num_Insidec env H Q ↔ W T F_num_Insidecb env H Q := Iff.rfl
def F_num_Inside : IFn := ⟨30, [.tmp 8], F_num_Insidec⟩
set_option linter.defProp false in
set_option maxRecDepth 100000 in
def N_num_InsideP := And.intro F_num_Insider0b.eq_1 (And.intro @F_num_Insider0_W (And.intro F_num_Insider1b.eq_1 (And.intro @F_num_Insider1_W (And.intro F_num_Insider2b.eq_1 (And.intro @F_num_Insider2_W (And.intro @F_num_Insider2_g1 (And.intro @F_num_Insider2_g6 (And.intro @F_num_Insidec_W (F_num_Insidecb.eq_1)))))))))
theorem N_num_Inside : type_of% N_num_InsideP := N_num_InsideP
set_option maxRecDepth 1000000 in
theorem F_num_Inside_chk : chkF Tryz.prog 53 F_num_Inside = true := by kernel_rfl

/-! ### num_Apart -/
def F_num_Apartr0b : List IStmt := [
 ⟨some 8, .mv (.c (.bool false)), none⟩]
def F_num_Apartr0 : List IStmt := F_num_Apartr0b
theorem F_num_Apartr0_W {T : Tab} {env : Env} {H : Heap} {Q : Post} : W T (.reg F_num_Apartr0) env H Q ↔ WR T F_num_Apartr0 F_num_Apartr0b env H none [] Q := w_reg
def F_num_Apartr1b : List IStmt := [
 ⟨some 9, .mv (.t 1), none⟩,
 ⟨some 10, .bin .eql (.t 9) (.c (.int .u64 0)), none⟩,
 ⟨some 11, .mv (.t 10), none⟩,
 ⟨some 12, .mv (.t 3), some (2, false)⟩,
 ⟨some 13, .bin .eql (.t 12) (.c (.int .u64 0)), some (2, false)⟩,
 ⟨some 14, .pick (.t 11) (.c (.bool true)) (.t 13), none⟩]
def F_num_Apartr1 : List IStmt := F_num_Apartr1b
theorem F_num_Apartr1_W {T : Tab} {env : Env} {H : Heap} {Q : Post} : W T (.reg F_num_Apartr1) env H Q ↔ WR T F_num_Apartr1 F_num_Apartr1b env H none [] Q := w_reg
theorem F_num_Apartr1_g2 {env : Env} : yieldI F_num_Apartr1 env 2 = bOf (env 11) := rfl
def F_num_Apartr2b : List IStmt := [
 ⟨some 8, .mv (.c (.bool true)), none⟩]
def F_num_Apartr2 : List IStmt := F_num_Apartr2b
theorem F_num_Apartr2_W {T : Tab} {env : Env} {H : Heap} {Q : Post} : W T (.reg F_num_Apartr2) env H Q ↔ WR T F_num_Apartr2 F_num_Apartr2b env H none [] Q := w_reg
def F_num_Apartr3b : List IStmt := [
 ⟨some 15, .mv (.t 0), none⟩,
 ⟨some 16, .mv (.t 2), none⟩,
 ⟨some 17, .bin .geq (.t 15) (.t 16), none⟩]
def F_num_Apartr3 : List IStmt := F_num_Apartr3b
theorem F_num_Apartr3_W {T : Tab} {env : Env} {H : Heap} {Q : Post} : W T (.reg F_num_Apartr3) env H Q ↔ WR T F_num_Apartr3 F_num_Apartr3b env H none [] Q := w_reg
def F_num_Apartr4b : List IStmt := [
 ⟨some 18, .mv (.t 0), none⟩,
 ⟨some 19, .mv (.t 2), none⟩,
 ⟨some 20, .bin .sub (.t 18) (.t 19), none⟩,
 ⟨some 21, .mv (.t 3), none⟩,
 ⟨some 22, .bin .geq (.t 20) (.t 21), none⟩,
 ⟨some 8, .mv (.t 22), none⟩]
def F_num_Apartr4 : List IStmt := F_num_Apartr4b
theorem F_num_Apartr4_W {T : Tab} {env : Env} {H : Heap} {Q : Post} : W T (.reg F_num_Apartr4) env H Q ↔ WR T F_num_Apartr4 F_num_Apartr4b env H none [] Q := w_reg
def F_num_Apartr5b : List IStmt := [
 ⟨some 23, .mv (.t 2), none⟩,
 ⟨some 24, .mv (.t 0), none⟩,
 ⟨some 25, .bin .sub (.t 23) (.t 24), none⟩,
 ⟨some 26, .mv (.t 1), none⟩,
 ⟨some 27, .bin .geq (.t 25) (.t 26), none⟩,
 ⟨some 8, .mv (.t 27), none⟩]
def F_num_Apartr5 : List IStmt := F_num_Apartr5b
theorem F_num_Apartr5_W {T : Tab} {env : Env} {H : Heap} {Q : Post} : W T (.reg F_num_Apartr5) env H Q ↔ WR T F_num_Apartr5 F_num_Apartr5b env H none [] Q := w_reg
def F_num_Apartcb : ICode := (.seq (.reg F_num_Apartr0) (.seq (.seq (.reg F_num_Apartr1) (.cond (.t 14) (.seq (.reg F_num_Apartr2) .ret) .skip)) (.seq (.seq (.reg F_num_Apartr3) (.cond (.t 17) (.seq (.reg F_num_Apartr4) .ret) .skip)) (.seq (.reg F_num_Apartr5) .ret))))
def F_num_Apartc : ICode := F_num_Apartcb
theorem F_num_Apartc_W {T : Tab} {env : Env} {H : Heap} {Q : Post} : W T F_num_Apartc env H Q ↔ W T F_num_Apartcb env H Q := Iff.rfl
def F_num_Apart : IFn := ⟨28, [.tmp 8], F_num_Apartc⟩
set_option linter.defProp false in
set_option maxRecDepth 100000 in
def N_num_ApartP := And.intro F_num_Apartr0b.eq_1 (And.intro @F_num_Apartr0_W (And.intro F_num_Apartr1b.eq_1 (And.intro @F_num_Apartr1_W (And.intro @F_num_Apartr1_g2 (And.intro F_num_Apartr2b.eq_1 (And.intro @F_num_Apartr2_W (And.intro F_num_Apartr3b.eq_1 (And.intro @F_num_Apartr3_W (And.intro F_num_Apartr4b.eq_1 (And.intro @F_num_Apartr4_W (And.intro F_num_Apartr5b.eq_1 (And.intro @F_num_Apartr5_W (And.intro @F_num_Apartc_W (F_num_Apartcb.eq_1))))))))))))))
theorem N_num_Apart : type_of% N_num_ApartP := N_num_ApartP
set_option maxRecDepth 1000000 in
theorem F_num_Apart_chk : chkF Tryz.prog 54 F_num_Apart = true := by kernel_rfl

/-! ### maker_relocations -/
def F_maker_relocationsr0b : List IStmt := [
 ⟨some 1, .box 18 (.t 0), none⟩,
 ⟨some 2, .mv (.c (.bool false)), none⟩]
def F_maker_relocationsr0 : List IStmt := F_maker_relocationsr0b
theorem F_maker_relocationsr0_W {T : Tab} {env : Env} {H : Heap} {Q : Post} : W T (.reg F_maker_relocationsr0) env H Q ↔ WR T F_maker_relocationsr0 F_maker_relocationsr0b env H none [] Q := w_reg
def F_maker_relocationsr1b : List IStmt := [
 ⟨some 15, .fa 8 (.t 1), none⟩,
 ⟨some 16, .load (.t 15), none⟩,
 ⟨some 17, .len 1 (.t 16), none⟩,
 ⟨some 18, .fa 9 (.t 1), none⟩,
 ⟨some 19, .load (.t 18), none⟩,
 ⟨some 20, .len 1 (.t 19), none⟩,
 ⟨some 21, .bin .add (.t 17) (.t 20), none⟩,
 ⟨some 22, .bin .gtr (.t 21) (.c (.int .i64 512)), none⟩]
def F_maker_relocationsr1 : List IStmt := F_maker_relocationsr1b
theorem F_maker_relocationsr1_W {T : Tab} {env : Env} {H : Heap} {Q : Post} : W T (.reg F_maker_relocationsr1) env H Q ↔ WR T F_maker_relocationsr1 F_maker_relocationsr1b env H none [] Q := w_reg
def F_maker_relocationsr2b : List IStmt := [
 ⟨some 2, .mv (.c (.bool false)), none⟩]
def F_maker_relocationsr2 : List IStmt := F_maker_relocationsr2b
theorem F_maker_relocationsr2_W {T : Tab} {env : Env} {H : Heap} {Q : Post} : W T (.reg F_maker_relocationsr2) env H Q ↔ WR T F_maker_relocationsr2 F_maker_relocationsr2b env H none [] Q := w_reg
def F_maker_relocationsr3b : List IStmt := [
 ⟨some 23, .fa 10 (.t 1), none⟩,
 ⟨some 24, .load (.t 23), none⟩,
 ⟨some 25, .len 1 (.t 24), none⟩,
 ⟨some 26, .fa 11 (.t 1), none⟩,
 ⟨some 27, .load (.t 26), none⟩,
 ⟨some 28, .bin .add (.t 25) (.t 27), none⟩,
 ⟨some 29, .conv .u64 (.t 28), none⟩,
 ⟨some 3, .mv (.t 29), none⟩]
def F_maker_relocationsr3 : List IStmt := F_maker_relocationsr3b
theorem F_maker_relocationsr3_W {T : Tab} {env : Env} {H : Heap} {Q : Post} : W T (.reg F_maker_relocationsr3) env H Q ↔ WR T F_maker_relocationsr3 F_maker_relocationsr3b env H none [] Q := w_reg
def F_maker_relocationsr4b : List IStmt := [
 ⟨some 4, .mv (.c (.slice none 0 0)), none⟩]
def F_maker_relocationsr4 : List IStmt := F_maker_relocationsr4b
theorem F_maker_relocationsr4_W {T : Tab} {env : Env} {H : Heap} {Q : Post} : W T (.reg F_maker_relocationsr4) env H Q ↔ WR T F_maker_relocationsr4 F_maker_relocationsr4b env H none [] Q := w_reg
def F_maker_relocationsr5b : List IStmt := [
 ⟨some 30, .fa 8 (.t 1), none⟩,
 ⟨some 31, .load (.t 30), none⟩,
 ⟨some 32, .len 1 (.t 31), none⟩,
 ⟨some 33, .mv (.c (.int .i64 0)), none⟩]
def F_maker_relocationsr5 : List IStmt := F_maker_relocationsr5b
theorem F_maker_relocationsr5_W {T : Tab} {env : Env} {H : Heap} {Q : Post} : W T (.reg F_maker_relocationsr5) env H Q ↔ WR T F_maker_relocationsr5 F_maker_relocationsr5b env H none [] Q := w_reg
def F_maker_relocationsr6b : List IStmt := [
 ⟨some 34, .bin .lss (.t 33) (.t 32), none⟩]
def F_maker_relocationsr6 : List IStmt := F_maker_relocationsr6b
theorem F_maker_relocationsr6_W {T : Tab} {env : Env} {H : Heap} {Q : Post} : W T (.reg F_maker_relocationsr6) env H Q ↔ WR T F_maker_relocationsr6 F_maker_relocationsr6b env H none [] Q := w_reg
def F_maker_relocationsr7b : List IStmt := [
 ⟨some 35, .ixa 5 (.t 31) (.t 33), none⟩,
 ⟨some 36, .loadN 5 (.t 35), none⟩,
 ⟨some 6, .alloc 5 [.int .u64 0, .int .u32 0, .int .u32 0, .int .i64 0, .bool false], none⟩,
 ⟨none, .store 5 (.t 6) (.t 36), none⟩]
def F_maker_relocationsr7 : List IStmt := F_maker_relocationsr7b
theorem F_maker_relocationsr7_W {T : Tab} {env : Env} {H : Heap} {Q : Post} : W T (.reg F_maker_relocationsr7) env H Q ↔ WR T F_maker_relocationsr7 F_maker_relocationsr7b env H none [] Q := w_reg
def F_maker_relocationsr8b : List IStmt := [
 ⟨some 38, .fa 0 (.t 1), none⟩,
 ⟨some 39, .load (.t 38), none⟩,
 ⟨some 40, .fa 1 (.t 6), none⟩,
 ⟨some 41, .load (.t 40), none⟩,
 ⟨some 42, .callc 52 [(.t 39), (.t 41)], none⟩,
 ⟨some 37, .mv (.t 42), none⟩,
 ⟨some 43, .ext (.t 37) 0, none⟩,
 ⟨some 44, .ext (.t 37) 1, none⟩,
 ⟨some 7, .mv (.t 43), none⟩,
 ⟨some 8, .mv (.t 44), none⟩]
def F_maker_relocationsr8 : List IStmt := F_maker_relocationsr8b
theorem F_maker_relocationsr8_W {T : Tab} {env : Env} {H : Heap} {Q : Post} : W T (.reg F_maker_relocationsr8) env H Q ↔ WR T F_maker_relocationsr8 F_maker_relocationsr8b env H none [] Q := w_reg
def F_maker_relocationsr9b : List IStmt := [
 ⟨some 45, .mv (.t 8), none⟩,
 ⟨some 46, .un .not (.t 45), none⟩,
 ⟨some 47, .mv (.t 46), none⟩,
 ⟨some 48, .mv (.t 7), some (2, false)⟩,
 ⟨some 49, .bin .eql (.t 48) (.c (.int .i64 0)), some (2, false)⟩,
 ⟨some 50, .pick (.t 47) (.c (.bool true)) (.t 49), none⟩,
 ⟨some 51, .mv (.t 50), none⟩,
 ⟨some 52, .fa 2 (.t 6), some (6, false)⟩,
 ⟨some 53, .load (.t 52), some (6, false)⟩,
 ⟨some 54, .conv .u64 (.t 53), some (6, false)⟩,
 ⟨some 55, .fa 7 (.t 1), some (6, false)⟩,
 ⟨some 56, .load (.t 55), some (6, false)⟩,
 ⟨some 57, .len 1 (.t 56), some (6, false)⟩,
 ⟨some 58, .conv .u64 (.t 57), some (6, false)⟩,
 ⟨some 59, .bin .gtr (.t 54) (.t 58), some (6, false)⟩,
 ⟨some 60, .pick (.t 51) (.c (.bool true)) (.t 59), none⟩,
 ⟨some 61, .mv (.t 60), none⟩,
 ⟨some 62, .fa 4 (.t 6), some (16, false)⟩,
 ⟨some 63, .load (.t 62), some (16, false)⟩,
 ⟨some 64, .fa 15 (.t 1), some (16, false)⟩,
 ⟨some 65, .load (.t 64), some (16, false)⟩,
 ⟨some 66, .eqb true (.t 63) (.t 65), some (16, false)⟩,
 ⟨some 67, .pick (.t 61) (.c (.bool true)) (.t 66), none⟩,
 ⟨some 68, .mv (.t 67), none⟩,
 ⟨some 69, .fa 4 (.t 6), some (23, false)⟩,
 ⟨some 70, .load (.t 69), some (23, false)⟩,
 ⟨some 71, .un .not (.t 70), some (23, false)⟩,
 ⟨some 72, .mv (.t 71), some (23, false)⟩,
 ⟨some 73, .fa 3 (.t 6), some (27, true)⟩,
 ⟨some 74, .load (.t 73), some (27, true)⟩,
 ⟨some 75, .bin .neq (.t 74) (.c (.int .i64 0)), some (27, true)⟩,
 ⟨some 76, .pick (.t 72) (.t 75) (.c (.bool false)), some (23, false)⟩,
 ⟨some 77, .pick (.t 68) (.c (.bool true)) (.t 76), none⟩]
def F_maker_relocationsr9 : List IStmt := F_maker_relocationsr9b
theorem F_maker_relocationsr9_W {T : Tab} {env : Env} {H : Heap} {Q : Post} : W T (.reg F_maker_relocationsr9) env H Q ↔ WR T F_maker_relocationsr9 F_maker_relocationsr9b env H none [] Q := w_reg
theorem F_maker_relocationsr9_g2 {env : Env} : yieldI F_maker_relocationsr9 env 2 = bOf (env 47) := rfl
theorem F_maker_relocationsr9_g6 {env : Env} : yieldI F_maker_relocationsr9 env 6 = bOf (env 51) := rfl
theorem F_maker_relocationsr9_g16 {env : Env} : yieldI F_maker_relocationsr9 env 16 = bOf (env 61) := rfl
theorem F_maker_relocationsr9_g23 {env : Env} : yieldI F_maker_relocationsr9 env 23 = bOf (env 68) := rfl
theorem F_maker_relocationsr9_g27 {env : Env} : yieldI F_maker_relocationsr9 env 27 = bOf (env 72) := rfl
def F_maker_relocationsr10b : List IStmt := [
 ⟨some 2, .mv (.c (.bool false)), none⟩]
def F_maker_relocationsr10 : List IStmt := F_maker_relocationsr10b
theorem F_maker_relocationsr10_W {T : Tab} {env : Env} {H : Heap} {Q : Post} : W T (.reg F_maker_relocationsr10) env H Q ↔ WR T F_maker_relocationsr10 F_maker_relocationsr10b env H none [] Q := w_reg
def F_maker_relocationsr11b : List IStmt := [
 ⟨some 78, .mv (.t 4), none⟩,
 ⟨some 79, .fa 0 (.t 6), none⟩,
 ⟨some 80, .load (.t 79), none⟩,
 ⟨some 81, .bsli 1 1 [.int .u64 0] [(0, (.t 80))], none⟩,
 ⟨some 82, .app 1 8 (.t 78) (.t 81), none⟩,
 ⟨some 4, .mv (.t 82), none⟩]
def F_maker_relocationsr11 : List IStmt := F_maker_relocationsr11b
theorem F_maker_relocationsr11_W {T : Tab} {env : Env} {H : Heap} {Q : Post} : W T (.reg F_maker_relocationsr11) env H Q ↔ WR T F_maker_relocationsr11 F_maker_relocationsr11b env H none [] Q := w_reg
def F_maker_relocationsr12b : List IStmt := [
 ⟨some 83, .bin .add (.t 33) (.c (.int .i64 1)), none⟩,
 ⟨some 33, .mv (.t 83), none⟩]
def F_maker_relocationsr12 : List IStmt := F_maker_relocationsr12b
theorem F_maker_relocationsr12_W {T : Tab} {env : Env} {H : Heap} {Q : Post} : W T (.reg F_maker_relocationsr12) env H Q ↔ WR T F_maker_relocationsr12 F_maker_relocationsr12b env H none [] Q := w_reg
def F_maker_relocationsl0b : ICode := (.seq (.reg F_maker_relocationsr6) (.seq (.cond (.t 34) .skip (.exit 0)) (.seq (.block 1 (.seq (.reg F_maker_relocationsr7) (.seq (.reg F_maker_relocationsr8) (.seq (.seq (.reg F_maker_relocationsr9) (.cond (.t 77) (.seq (.reg F_maker_relocationsr10) .ret) .skip)) (.reg F_maker_relocationsr11))))) (.reg F_maker_relocationsr12))))
def F_maker_relocationsl0 : ICode := F_maker_relocationsl0b
theorem F_maker_relocationsl0_W {T : Tab} {env : Env} {H : Heap} {Q : Post} : W T F_maker_relocationsl0 env H Q ↔ W T F_maker_relocationsl0b env H Q := Iff.rfl
def F_maker_relocationsr13b : List IStmt := [
 ⟨some 84, .fa 9 (.t 1), none⟩,
 ⟨some 85, .load (.t 84), none⟩,
 ⟨some 86, .len 1 (.t 85), none⟩,
 ⟨some 87, .mv (.c (.int .i64 0)), none⟩]
def F_maker_relocationsr13 : List IStmt := F_maker_relocationsr13b
theorem F_maker_relocationsr13_W {T : Tab} {env : Env} {H : Heap} {Q : Post} : W T (.reg F_maker_relocationsr13) env H Q ↔ WR T F_maker_relocationsr13 F_maker_relocationsr13b env H none [] Q := w_reg
def F_maker_relocationsr14b : List IStmt := [
 ⟨some 88, .bin .lss (.t 87) (.t 86), none⟩]
def F_maker_relocationsr14 : List IStmt := F_maker_relocationsr14b
theorem F_maker_relocationsr14_W {T : Tab} {env : Env} {H : Heap} {Q : Post} : W T (.reg F_maker_relocationsr14) env H Q ↔ WR T F_maker_relocationsr14 F_maker_relocationsr14b env H none [] Q := w_reg
def F_maker_relocationsr15b : List IStmt := [
 ⟨some 89, .mv (.t 87), none⟩,
 ⟨some 90, .ixa 1 (.t 85) (.t 87), none⟩,
 ⟨some 91, .load (.t 90), none⟩,
 ⟨some 9, .mv (.t 89), none⟩,
 ⟨some 10, .mv (.t 91), none⟩]
def F_maker_relocationsr15 : List IStmt := F_maker_relocationsr15b
theorem F_maker_relocationsr15_W {T : Tab} {env : Env} {H : Heap} {Q : Post} : W T (.reg F_maker_relocationsr15) env H Q ↔ WR T F_maker_relocationsr15 F_maker_relocationsr15b env H none [] Q := w_reg
def F_maker_relocationsr16b : List IStmt := [
 ⟨some 92, .mv (.t 10), none⟩,
 ⟨some 93, .bin .rem (.t 92) (.c (.int .u64 8)), none⟩,
 ⟨some 94, .bin .neq (.t 93) (.c (.int .u64 0)), none⟩,
 ⟨some 95, .mv (.t 94), none⟩,
 ⟨some 96, .mv (.t 9), some (3, false)⟩,
 ⟨some 97, .bin .gtr (.t 96) (.c (.int .i64 0)), some (3, false)⟩,
 ⟨some 98, .mv (.t 97), some (3, false)⟩,
 ⟨some 99, .mv (.t 10), some (6, true)⟩,
 ⟨some 100, .fa 9 (.t 1), some (6, true)⟩,
 ⟨some 101, .load (.t 100), some (6, true)⟩,
 ⟨some 102, .mv (.t 9), some (6, true)⟩,
 ⟨some 103, .bin .sub (.t 102) (.c (.int .i64 1)), some (6, true)⟩,
 ⟨some 104, .ixa 1 (.t 101) (.t 103), some (6, true)⟩,
 ⟨some 105, .load (.t 104), some (6, true)⟩,
 ⟨some 106, .bin .leq (.t 99) (.t 105), some (6, true)⟩,
 ⟨some 107, .pick (.t 98) (.t 106) (.c (.bool false)), some (3, false)⟩,
 ⟨some 108, .pick (.t 95) (.c (.bool true)) (.t 107), none⟩]
def F_maker_relocationsr16 : List IStmt := F_maker_relocationsr16b
theorem F_maker_relocationsr16_W {T : Tab} {env : Env} {H : Heap} {Q : Post} : W T (.reg F_maker_relocationsr16) env H Q ↔ WR T F_maker_relocationsr16 F_maker_relocationsr16b env H none [] Q := w_reg
theorem F_maker_relocationsr16_g3 {env : Env} : yieldI F_maker_relocationsr16 env 3 = bOf (env 95) := rfl
theorem F_maker_relocationsr16_g6 {env : Env} : yieldI F_maker_relocationsr16 env 6 = bOf (env 98) := rfl
def F_maker_relocationsr17b : List IStmt := [
 ⟨some 2, .mv (.c (.bool false)), none⟩]
def F_maker_relocationsr17 : List IStmt := F_maker_relocationsr17b
theorem F_maker_relocationsr17_W {T : Tab} {env : Env} {H : Heap} {Q : Post} : W T (.reg F_maker_relocationsr17) env H Q ↔ WR T F_maker_relocationsr17 F_maker_relocationsr17b env H none [] Q := w_reg
def F_maker_relocationsr18b : List IStmt := [
 ⟨some 109, .bin .add (.t 87) (.c (.int .i64 1)), none⟩,
 ⟨some 87, .mv (.t 109), none⟩]
def F_maker_relocationsr18 : List IStmt := F_maker_relocationsr18b
theorem F_maker_relocationsr18_W {T : Tab} {env : Env} {H : Heap} {Q : Post} : W T (.reg F_maker_relocationsr18) env H Q ↔ WR T F_maker_relocationsr18 F_maker_relocationsr18b env H none [] Q := w_reg
def F_maker_relocationsl1b : ICode := (.seq (.reg F_maker_relocationsr14) (.seq (.cond (.t 88) .skip (.exit 2)) (.seq (.block 3 (.seq (.reg F_maker_relocationsr15) (.seq (.reg F_maker_relocationsr16) (.cond (.t 108) (.seq (.reg F_maker_relocationsr17) .ret) .skip)))) (.reg F_maker_relocationsr18))))
def F_maker_relocationsl1 : ICode := F_maker_relocationsl1b
theorem F_maker_relocationsl1_W {T : Tab} {env : Env} {H : Heap} {Q : Post} : W T F_maker_relocationsl1 env H Q ↔ W T F_maker_relocationsl1b env H Q := Iff.rfl
def F_maker_relocationsr19b : List IStmt := [
 ⟨some 110, .mv (.t 4), none⟩,
 ⟨some 111, .fa 9 (.t 1), none⟩,
 ⟨some 112, .load (.t 111), none⟩,
 ⟨some 113, .app 1 8 (.t 110) (.t 112), none⟩,
 ⟨some 4, .mv (.t 113), none⟩]
def F_maker_relocationsr19 : List IStmt := F_maker_relocationsr19b
theorem F_maker_relocationsr19_W {T : Tab} {env : Env} {H : Heap} {Q : Post} : W T (.reg F_maker_relocationsr19) env H Q ↔ WR T F_maker_relocationsr19 F_maker_relocationsr19b env H none [] Q := w_reg
def F_maker_relocationsr20b : List IStmt := [
 ⟨some 114, .mv (.t 4), none⟩,
 ⟨some 115, .len 1 (.t 114), none⟩,
 ⟨some 116, .mv (.c (.int .i64 0)), none⟩]
def F_maker_relocationsr20 : List IStmt := F_maker_relocationsr20b
theorem F_maker_relocationsr20_W {T : Tab} {env : Env} {H : Heap} {Q : Post} : W T (.reg F_maker_relocationsr20) env H Q ↔ WR T F_maker_relocationsr20 F_maker_relocationsr20b env H none [] Q := w_reg
def F_maker_relocationsr21b : List IStmt := [
 ⟨some 117, .bin .lss (.t 116) (.t 115), none⟩]
def F_maker_relocationsr21 : List IStmt := F_maker_relocationsr21b
theorem F_maker_relocationsr21_W {T : Tab} {env : Env} {H : Heap} {Q : Post} : W T (.reg F_maker_relocationsr21) env H Q ↔ WR T F_maker_relocationsr21 F_maker_relocationsr21b env H none [] Q := w_reg
def F_maker_relocationsr22b : List IStmt := [
 ⟨some 118, .mv (.t 116), none⟩,
 ⟨some 119, .ixa 1 (.t 114) (.t 116), none⟩,
 ⟨some 120, .load (.t 119), none⟩,
 ⟨some 11, .mv (.t 118), none⟩,
 ⟨some 12, .mv (.t 120), none⟩]
def F_maker_relocationsr22 : List IStmt := F_maker_relocationsr22b
theorem F_maker_relocationsr22_W {T : Tab} {env : Env} {H : Heap} {Q : Post} : W T (.reg F_maker_relocationsr22) env H Q ↔ WR T F_maker_relocationsr22 F_maker_relocationsr22b env H none [] Q := w_reg
def F_maker_relocationsr23b : List IStmt := [
 ⟨some 121, .mv (.t 12), none⟩,
 ⟨some 122, .mv (.t 3), none⟩,
 ⟨some 123, .callc 53 [(.t 121), (.c (.int .u64 8)), (.c (.int .u64 0)), (.t 122)], none⟩,
 ⟨some 124, .un .not (.t 123), none⟩]
def F_maker_relocationsr23 : List IStmt := F_maker_relocationsr23b
theorem F_maker_relocationsr23_W {T : Tab} {env : Env} {H : Heap} {Q : Post} : W T (.reg F_maker_relocationsr23) env H Q ↔ WR T F_maker_relocationsr23 F_maker_relocationsr23b env H none [] Q := w_reg
def F_maker_relocationsr24b : List IStmt := [
 ⟨some 2, .mv (.c (.bool false)), none⟩]
def F_maker_relocationsr24 : List IStmt := F_maker_relocationsr24b
theorem F_maker_relocationsr24_W {T : Tab} {env : Env} {H : Heap} {Q : Post} : W T (.reg F_maker_relocationsr24) env H Q ↔ WR T F_maker_relocationsr24 F_maker_relocationsr24b env H none [] Q := w_reg
def F_maker_relocationsr25b : List IStmt := [
 ⟨some 125, .mv (.t 4), none⟩,
 ⟨some 126, .mv (.t 11), none⟩,
 ⟨some 127, .sle 1 (.t 125) none (some (.t 126)) none, none⟩,
 ⟨some 128, .len 1 (.t 127), none⟩,
 ⟨some 129, .mv (.c (.int .i64 0)), none⟩]
def F_maker_relocationsr25 : List IStmt := F_maker_relocationsr25b
theorem F_maker_relocationsr25_W {T : Tab} {env : Env} {H : Heap} {Q : Post} : W T (.reg F_maker_relocationsr25) env H Q ↔ WR T F_maker_relocationsr25 F_maker_relocationsr25b env H none [] Q := w_reg
def F_maker_relocationsr26b : List IStmt := [
 ⟨some 130, .bin .lss (.t 129) (.t 128), none⟩]
def F_maker_relocationsr26 : List IStmt := F_maker_relocationsr26b
theorem F_maker_relocationsr26_W {T : Tab} {env : Env} {H : Heap} {Q : Post} : W T (.reg F_maker_relocationsr26) env H Q ↔ WR T F_maker_relocationsr26 F_maker_relocationsr26b env H none [] Q := w_reg
def F_maker_relocationsr27b : List IStmt := [
 ⟨some 131, .ixa 1 (.t 127) (.t 129), none⟩,
 ⟨some 132, .load (.t 131), none⟩,
 ⟨some 14, .mv (.t 132), none⟩]
def F_maker_relocationsr27 : List IStmt := F_maker_relocationsr27b
theorem F_maker_relocationsr27_W {T : Tab} {env : Env} {H : Heap} {Q : Post} : W T (.reg F_maker_relocationsr27) env H Q ↔ WR T F_maker_relocationsr27 F_maker_relocationsr27b env H none [] Q := w_reg
def F_maker_relocationsr28b : List IStmt := [
 ⟨some 133, .mv (.t 12), none⟩,
 ⟨some 134, .mv (.t 14), none⟩,
 ⟨some 135, .callc 54 [(.t 133), (.c (.int .u64 8)), (.t 134), (.c (.int .u64 8))], none⟩,
 ⟨some 136, .un .not (.t 135), none⟩]
def F_maker_relocationsr28 : List IStmt := F_maker_relocationsr28b
theorem F_maker_relocationsr28_W {T : Tab} {env : Env} {H : Heap} {Q : Post} : W T (.reg F_maker_relocationsr28) env H Q ↔ WR T F_maker_relocationsr28 F_maker_relocationsr28b env H none [] Q := w_reg
def F_maker_relocationsr29b : List IStmt := [
 ⟨some 2, .mv (.c (.bool false)), none⟩]
def F_maker_relocationsr29 : List IStmt := F_maker_relocationsr29b
theorem F_maker_relocationsr29_W {T : Tab} {env : Env} {H : Heap} {Q : Post} : W T (.reg F_maker_relocationsr29) env H Q ↔ WR T F_maker_relocationsr29 F_maker_relocationsr29b env H none [] Q := w_reg
def F_maker_relocationsr30b : List IStmt := [
 ⟨some 137, .bin .add (.t 129) (.c (.int .i64 1)), none⟩,
 ⟨some 129, .mv (.t 137), none⟩]
def F_maker_relocationsr30 : List IStmt := F_maker_relocationsr30b
theorem F_maker_relocationsr30_W {T : Tab} {env : Env} {H : Heap} {Q : Post} : W T (.reg F_maker_relocationsr30) env H Q ↔ WR T F_maker_relocationsr30 F_maker_relocationsr30b env H none [] Q := w_reg
def F_maker_relocationsl3b : ICode := (.seq (.reg F_maker_relocationsr26) (.seq (.cond (.t 130) .skip (.exit 6)) (.seq (.block 7 (.seq (.reg F_maker_relocationsr27) (.seq (.reg F_maker_relocationsr28) (.cond (.t 136) (.seq (.reg F_maker_relocationsr29) .ret) .skip)))) (.reg F_maker_relocationsr30))))
def F_maker_relocationsl3 : ICode := F_maker_relocationsl3b
theorem F_maker_relocationsl3_W {T : Tab} {env : Env} {H : Heap} {Q : Post} : W T F_maker_relocationsl3 env H Q ↔ W T F_maker_relocationsl3b env H Q := Iff.rfl
def F_maker_relocationsr31b : List IStmt := [
 ⟨some 138, .bin .add (.t 116) (.c (.int .i64 1)), none⟩,
 ⟨some 116, .mv (.t 138), none⟩]
def F_maker_relocationsr31 : List IStmt := F_maker_relocationsr31b
theorem F_maker_relocationsr31_W {T : Tab} {env : Env} {H : Heap} {Q : Post} : W T (.reg F_maker_relocationsr31) env H Q ↔ WR T F_maker_relocationsr31 F_maker_relocationsr31b env H none [] Q := w_reg
def F_maker_relocationsl2b : ICode := (.seq (.reg F_maker_relocationsr21) (.seq (.cond (.t 117) .skip (.exit 4)) (.seq (.block 5 (.seq (.reg F_maker_relocationsr22) (.seq (.seq (.reg F_maker_relocationsr23) (.cond (.t 124) (.seq (.reg F_maker_relocationsr24) .ret) .skip)) (.seq (.reg F_maker_relocationsr25) (.block 6 (.loop F_maker_relocationsl3)))))) (.reg F_maker_relocationsr31))))
def F_maker_relocationsl2 : ICode := F_maker_relocationsl2b
theorem F_maker_relocationsl2_W {T : Tab} {env : Env} {H : Heap} {Q : Post} : W T F_maker_relocationsl2 env H Q ↔ W T F_maker_relocationsl2b env H Q := Iff.rfl
def F_maker_relocationsr32b : List IStmt := [
 ⟨some 2, .mv (.c (.bool true)), none⟩]
def F_maker_relocationsr32 : List IStmt := F_maker_relocationsr32b
theorem F_maker_relocationsr32_W {T : Tab} {env : Env} {H : Heap} {Q : Post} : W T (.reg F_maker_relocationsr32) env H Q ↔ WR T F_maker_relocationsr32 F_maker_relocationsr32b env H none [] Q := w_reg
def F_maker_relocationscb : ICode := (.seq (.reg F_maker_relocationsr0) (.seq (.seq (.reg F_maker_relocationsr1) (.cond (.t 22) (.seq (.reg F_maker_relocationsr2) .ret) .skip)) (.seq (.reg F_maker_relocationsr3) (.seq (.reg F_maker_relocationsr4) (.seq (.seq (.reg F_maker_relocationsr5) (.block 0 (.loop F_maker_relocationsl0))) (.seq (.seq (.reg F_maker_relocationsr13) (.block 2 (.loop F_maker_relocationsl1))) (.seq (.reg F_maker_relocationsr19) (.seq (.seq (.reg F_maker_relocationsr20) (.block 4 (.loop F_maker_relocationsl2))) (.seq (.reg F_maker_relocationsr32) .ret)))))))))
def F_maker_relocationsc : ICode := F_maker_relocationscb
theorem F_maker_relocationsc_W {T : Tab} {env : Env} {H : Heap} {Q : Post} : W T F_maker_relocationsc env H Q ↔ W T F_maker_relocationscb env H Q := Iff.rfl
def F_maker_relocations : IFn := ⟨139, [.tmp 2], F_maker_relocationsc⟩
set_option linter.defProp false in
set_option maxRecDepth 100000 in
def N_maker_relocationsP := And.intro F_maker_relocationsr0b.eq_1 (And.intro @F_maker_relocationsr0_W (And.intro F_maker_relocationsr1b.eq_1 (And.intro @F_maker_relocationsr1_W (And.intro F_maker_relocationsr2b.eq_1 (And.intro @F_maker_relocationsr2_W (And.intro F_maker_relocationsr3b.eq_1 (And.intro @F_maker_relocationsr3_W (And.intro F_maker_relocationsr4b.eq_1 (And.intro @F_maker_relocationsr4_W (And.intro F_maker_relocationsr5b.eq_1 (And.intro @F_maker_relocationsr5_W (And.intro F_maker_relocationsr6b.eq_1 (And.intro @F_maker_relocationsr6_W (And.intro F_maker_relocationsr7b.eq_1 (And.intro @F_maker_relocationsr7_W (And.intro F_maker_relocationsr8b.eq_1 (And.intro @F_maker_relocationsr8_W (And.intro F_maker_relocationsr9b.eq_1 (And.intro @F_maker_relocationsr9_W (And.intro @F_maker_relocationsr9_g2 (And.intro @F_maker_relocationsr9_g6 (And.intro @F_maker_relocationsr9_g16 (And.intro @F_maker_relocationsr9_g23 (And.intro @F_maker_relocationsr9_g27 (And.intro F_maker_relocationsr10b.eq_1 (And.intro @F_maker_relocationsr10_W (And.intro F_maker_relocationsr11b.eq_1 (And.intro @F_maker_relocationsr11_W (And.intro F_maker_relocationsr12b.eq_1 (And.intro @F_maker_relocationsr12_W (And.intro @F_maker_relocationsl0_W (And.intro F_maker_relocationsl0b.eq_1 (And.intro F_maker_relocationsr13b.eq_1 (And.intro @F_maker_relocationsr13_W (And.intro F_maker_relocationsr14b.eq_1 (And.intro @F_maker_relocationsr14_W (And.intro F_maker_relocationsr15b.eq_1 (And.intro @F_maker_relocationsr15_W (And.intro F_maker_relocationsr16b.eq_1 (And.intro @F_maker_relocationsr16_W (And.intro @F_maker_relocationsr16_g3 (And.intro @F_maker_relocationsr16_g6 (And.intro F_maker_relocationsr17b.eq_1 (And.intro @F_maker_relocationsr17_W (And.intro F_maker_relocationsr18b.eq_1 (And.intro @F_maker_relocationsr18_W (And.intro @F_maker_relocationsl1_W (And.intro F_maker_relocationsl1b.eq_1 (And.intro F_maker_relocationsr19b.eq_1 (And.intro @F_maker_relocationsr19_W (And.intro F_maker_relocationsr20b.eq_1 (And.intro @F_maker_relocationsr20_W (And.intro F_maker_relocationsr21b.eq_1 (And.intro @F_maker_relocationsr21_W (And.intro F_maker_relocationsr22b.eq_1 (And.intro @F_maker_relocationsr22_W (And.intro F_maker_relocationsr23b.eq_1 (And.intro @F_maker_relocationsr23_W (And.intro F_maker_relocationsr24b.eq_1 (And.intro @F_maker_relocationsr24_W (And.intro F_maker_relocationsr25b.eq_1 (And.intro @F_maker_relocationsr25_W (And.intro F_maker_relocationsr26b.eq_1 (And.intro @F_maker_relocationsr26_W (And.intro F_maker_relocationsr27b.eq_1 (And.intro @F_maker_relocationsr27_W (And.intro F_maker_relocationsr28b.eq_1 (And.intro @F_maker_relocationsr28_W (And.intro F_maker_relocationsr29b.eq_1 (And.intro @F_maker_relocationsr29_W (And.intro F_maker_relocationsr30b.eq_1 (And.intro @F_maker_relocationsr30_W (And.intro @F_maker_relocationsl3_W (And.intro F_maker_relocationsl3b.eq_1 (And.intro F_maker_relocationsr31b.eq_1 (And.intro @F_maker_relocationsr31_W (And.intro @F_maker_relocationsl2_W (And.intro F_maker_relocationsl2b.eq_1 (And.intro F_maker_relocationsr32b.eq_1 (And.intro @F_maker_relocationsr32_W (And.intro @F_maker_relocationsc_W (F_maker_relocationscb.eq_1))))))))))))))))))))))))))))))))))))))))))))))))))))))))))))))))))))))))))))))))))
theorem N_maker_relocations : type_of% N_maker_relocationsP := N_maker_relocationsP
set_option maxRecDepth 1000000 in
theorem F_maker_relocations_chk : chkF Tryz.prog 23 F_maker_relocations = true := by kernel_rfl

/-! ### maker_Right -/
def F_maker_Rightr0b : List IStmt := [
 ⟨some 1, .box 18 (.t 0), none⟩,
 ⟨some 2, .mv (.c (.bool false)), none⟩]
def F_maker_Rightr0 : List IStmt := F_maker_Rightr0b
theorem F_maker_Rightr0_W {T : Tab} {env : Env} {H : Heap} {Q : Post} : W T (.reg F_maker_Rightr0) env H Q ↔ WR T F_maker_Rightr0 F_maker_Rightr0b env H none [] Q := w_reg
def F_maker_Rightr1b : List IStmt := [
 ⟨some 5, .fa 0 (.t 1), none⟩,
 ⟨some 6, .load (.t 5), none⟩,
 ⟨some 7, .bin .neq (.t 6) (.c (.int .u16 62)), none⟩,
 ⟨some 8, .mv (.t 7), none⟩,
 ⟨some 9, .fa 0 (.t 1), some (3, true)⟩,
 ⟨some 10, .load (.t 9), some (3, true)⟩,
 ⟨some 11, .bin .neq (.t 10) (.c (.int .u16 183)), some (3, true)⟩,
 ⟨some 12, .pick (.t 8) (.t 11) (.c (.bool false)), none⟩,
 ⟨some 13, .mv (.t 12), none⟩,
 ⟨some 14, .fa 1 (.t 1), some (8, false)⟩,
 ⟨some 15, .load (.t 14), some (8, false)⟩,
 ⟨some 16, .callc 21 [(.t 15), (.c (.bool true))], some (8, false)⟩,
 ⟨some 17, .un .not (.t 16), some (8, false)⟩,
 ⟨some 18, .pick (.t 13) (.c (.bool true)) (.t 17), none⟩,
 ⟨some 19, .mv (.t 18), none⟩,
 ⟨some 20, .fa 2 (.t 1), some (14, false)⟩,
 ⟨some 21, .load (.t 20), some (14, false)⟩,
 ⟨some 22, .callc 21 [(.t 21), (.c (.bool true))], some (14, false)⟩,
 ⟨some 23, .un .not (.t 22), some (14, false)⟩,
 ⟨some 24, .pick (.t 19) (.c (.bool true)) (.t 23), none⟩,
 ⟨some 25, .mv (.t 24), none⟩,
 ⟨some 26, .fa 3 (.t 1), some (20, false)⟩,
 ⟨some 27, .load (.t 26), some (20, false)⟩,
 ⟨some 28, .len 1 (.t 27), some (20, false)⟩,
 ⟨some 29, .bin .gtr (.t 28) (.c (.int .i64 16)), some (20, false)⟩,
 ⟨some 30, .pick (.t 25) (.c (.bool true)) (.t 29), none⟩]
def F_maker_Rightr1 : List IStmt := F_maker_Rightr1b
theorem F_maker_Rightr1_W {T : Tab} {env : Env} {H : Heap} {Q : Post} : W T (.reg F_maker_Rightr1) env H Q ↔ WR T F_maker_Rightr1 F_maker_Rightr1b env H none [] Q := w_reg
theorem F_maker_Rightr1_g3 {env : Env} : yieldI F_maker_Rightr1 env 3 = bOf (env 8) := rfl
theorem F_maker_Rightr1_g8 {env : Env} : yieldI F_maker_Rightr1 env 8 = bOf (env 13) := rfl
theorem F_maker_Rightr1_g14 {env : Env} : yieldI F_maker_Rightr1 env 14 = bOf (env 19) := rfl
theorem F_maker_Rightr1_g20 {env : Env} : yieldI F_maker_Rightr1 env 20 = bOf (env 25) := rfl
def F_maker_Rightr2b : List IStmt := [
 ⟨some 2, .mv (.c (.bool false)), none⟩]
def F_maker_Rightr2 : List IStmt := F_maker_Rightr2b
theorem F_maker_Rightr2_W {T : Tab} {env : Env} {H : Heap} {Q : Post} : W T (.reg F_maker_Rightr2) env H Q ↔ WR T F_maker_Rightr2 F_maker_Rightr2b env H none [] Q := w_reg
def F_maker_Rightr3b : List IStmt := [
 ⟨some 31, .fa 3 (.t 1), none⟩,
 ⟨some 32, .load (.t 31), none⟩,
 ⟨some 33, .len 1 (.t 32), none⟩,
 ⟨some 34, .mv (.c (.int .i64 0)), none⟩]
def F_maker_Rightr3 : List IStmt := F_maker_Rightr3b
theorem F_maker_Rightr3_W {T : Tab} {env : Env} {H : Heap} {Q : Post} : W T (.reg F_maker_Rightr3) env H Q ↔ WR T F_maker_Rightr3 F_maker_Rightr3b env H none [] Q := w_reg
def F_maker_Rightr4b : List IStmt := [
 ⟨some 35, .bin .lss (.t 34) (.t 33), none⟩]
def F_maker_Rightr4 : List IStmt := F_maker_Rightr4b
theorem F_maker_Rightr4_W {T : Tab} {env : Env} {H : Heap} {Q : Post} : W T (.reg F_maker_Rightr4) env H Q ↔ WR T F_maker_Rightr4 F_maker_Rightr4b env H none [] Q := w_reg
def F_maker_Rightr5b : List IStmt := [
 ⟨some 36, .ixa 1 (.t 32) (.t 34), none⟩,
 ⟨some 37, .load (.t 36), none⟩,
 ⟨some 4, .mv (.t 37), none⟩]
def F_maker_Rightr5 : List IStmt := F_maker_Rightr5b
theorem F_maker_Rightr5_W {T : Tab} {env : Env} {H : Heap} {Q : Post} : W T (.reg F_maker_Rightr5) env H Q ↔ WR T F_maker_Rightr5 F_maker_Rightr5b env H none [] Q := w_reg
def F_maker_Rightr6b : List IStmt := [
 ⟨some 38, .mv (.t 4), none⟩,
 ⟨some 39, .callc 21 [(.t 38), (.c (.bool false))], none⟩,
 ⟨some 40, .un .not (.t 39), none⟩]
def F_maker_Rightr6 : List IStmt := F_maker_Rightr6b
theorem F_maker_Rightr6_W {T : Tab} {env : Env} {H : Heap} {Q : Post} : W T (.reg F_maker_Rightr6) env H Q ↔ WR T F_maker_Rightr6 F_maker_Rightr6b env H none [] Q := w_reg
def F_maker_Rightr7b : List IStmt := [
 ⟨some 2, .mv (.c (.bool false)), none⟩]
def F_maker_Rightr7 : List IStmt := F_maker_Rightr7b
theorem F_maker_Rightr7_W {T : Tab} {env : Env} {H : Heap} {Q : Post} : W T (.reg F_maker_Rightr7) env H Q ↔ WR T F_maker_Rightr7 F_maker_Rightr7b env H none [] Q := w_reg
def F_maker_Rightr8b : List IStmt := [
 ⟨some 41, .bin .add (.t 34) (.c (.int .i64 1)), none⟩,
 ⟨some 34, .mv (.t 41), none⟩]
def F_maker_Rightr8 : List IStmt := F_maker_Rightr8b
theorem F_maker_Rightr8_W {T : Tab} {env : Env} {H : Heap} {Q : Post} : W T (.reg F_maker_Rightr8) env H Q ↔ WR T F_maker_Rightr8 F_maker_Rightr8b env H none [] Q := w_reg
def F_maker_Rightl0b : ICode := (.seq (.reg F_maker_Rightr4) (.seq (.cond (.t 35) .skip (.exit 0)) (.seq (.block 1 (.seq (.reg F_maker_Rightr5) (.seq (.reg F_maker_Rightr6) (.cond (.t 40) (.seq (.reg F_maker_Rightr7) .ret) .skip)))) (.reg F_maker_Rightr8))))
def F_maker_Rightl0 : ICode := F_maker_Rightl0b
theorem F_maker_Rightl0_W {T : Tab} {env : Env} {H : Heap} {Q : Post} : W T F_maker_Rightl0 env H Q ↔ W T F_maker_Rightl0b env H Q := Iff.rfl
def F_maker_Rightr9b : List IStmt := [
 ⟨some 42, .fa 10 (.t 1), none⟩,
 ⟨some 43, .load (.t 42), none⟩,
 ⟨some 44, .len 1 (.t 43), none⟩,
 ⟨some 45, .bin .gtr (.t 44) (.c (.int .i64 4096)), none⟩,
 ⟨some 46, .mv (.t 45), none⟩,
 ⟨some 47, .fa 11 (.t 1), some (4, false)⟩,
 ⟨some 48, .load (.t 47), some (4, false)⟩,
 ⟨some 49, .bin .lss (.t 48) (.c (.int .i64 0)), some (4, false)⟩,
 ⟨some 50, .pick (.t 46) (.c (.bool true)) (.t 49), none⟩,
 ⟨some 51, .mv (.t 50), none⟩,
 ⟨some 52, .fa 11 (.t 1), some (9, false)⟩,
 ⟨some 53, .load (.t 52), some (9, false)⟩,
 ⟨some 54, .bin .gtr (.t 53) (.c (.int .i64 4096)), some (9, false)⟩,
 ⟨some 55, .pick (.t 51) (.c (.bool true)) (.t 54), none⟩,
 ⟨some 56, .mv (.t 55), none⟩,
 ⟨some 57, .fa 12 (.t 1), some (14, false)⟩,
 ⟨some 58, .load (.t 57), some (14, false)⟩,
 ⟨some 59, .bin .lss (.t 58) (.c (.int .i64 0)), some (14, false)⟩,
 ⟨some 60, .pick (.t 56) (.c (.bool true)) (.t 59), none⟩,
 ⟨some 61, .mv (.t 60), none⟩,
 ⟨some 62, .fa 12 (.t 1), some (19, false)⟩,
 ⟨some 63, .load (.t 62), some (19, false)⟩,
 ⟨some 64, .fa 10 (.t 1), some (19, false)⟩,
 ⟨some 65, .load (.t 64), some (19, false)⟩,
 ⟨some 66, .len 1 (.t 65), some (19, false)⟩,
 ⟨some 67, .bin .quo (.t 66) (.c (.int .i64 256)), some (19, false)⟩,
 ⟨some 68, .bin .gtr (.t 63) (.t 67), some (19, false)⟩,
 ⟨some 69, .pick (.t 61) (.c (.bool true)) (.t 68), none⟩,
 ⟨some 70, .mv (.t 69), none⟩,
 ⟨some 71, .fa 16 (.t 1), some (28, false)⟩,
 ⟨some 72, .load (.t 71), some (28, false)⟩,
 ⟨some 73, .bin .lss (.t 72) (.c (.int .i64 0)), some (28, false)⟩,
 ⟨some 74, .pick (.t 70) (.c (.bool true)) (.t 73), none⟩,
 ⟨some 75, .mv (.t 74), none⟩,
 ⟨some 76, .fa 16 (.t 1), some (33, false)⟩,
 ⟨some 77, .load (.t 76), some (33, false)⟩,
 ⟨some 78, .bin .gtr (.t 77) (.c (.int .i64 8)), some (33, false)⟩,
 ⟨some 79, .pick (.t 75) (.c (.bool true)) (.t 78), none⟩,
 ⟨some 80, .mv (.t 79), none⟩,
 ⟨some 81, .fa 17 (.t 1), some (38, false)⟩,
 ⟨some 82, .load (.t 81), some (38, false)⟩,
 ⟨some 83, .bin .lss (.t 82) (.c (.int .i64 0)), some (38, false)⟩,
 ⟨some 84, .pick (.t 80) (.c (.bool true)) (.t 83), none⟩,
 ⟨some 85, .mv (.t 84), none⟩,
 ⟨some 86, .fa 17 (.t 1), some (43, false)⟩,
 ⟨some 87, .load (.t 86), some (43, false)⟩,
 ⟨some 88, .bin .gtr (.t 87) (.c (.int .i64 8)), some (43, false)⟩,
 ⟨some 89, .pick (.t 85) (.c (.bool true)) (.t 88), none⟩]
def F_maker_Rightr9 : List IStmt := F_maker_Rightr9b
theorem F_maker_Rightr9_W {T : Tab} {env : Env} {H : Heap} {Q : Post} : W T (.reg F_maker_Rightr9) env H Q ↔ WR T F_maker_Rightr9 F_maker_Rightr9b env H none [] Q := w_reg
theorem F_maker_Rightr9_g4 {env : Env} : yieldI F_maker_Rightr9 env 4 = bOf (env 46) := rfl
theorem F_maker_Rightr9_g9 {env : Env} : yieldI F_maker_Rightr9 env 9 = bOf (env 51) := rfl
theorem F_maker_Rightr9_g14 {env : Env} : yieldI F_maker_Rightr9 env 14 = bOf (env 56) := rfl
theorem F_maker_Rightr9_g19 {env : Env} : yieldI F_maker_Rightr9 env 19 = bOf (env 61) := rfl
theorem F_maker_Rightr9_g28 {env : Env} : yieldI F_maker_Rightr9 env 28 = bOf (env 70) := rfl
theorem F_maker_Rightr9_g33 {env : Env} : yieldI F_maker_Rightr9 env 33 = bOf (env 75) := rfl
theorem F_maker_Rightr9_g38 {env : Env} : yieldI F_maker_Rightr9 env 38 = bOf (env 80) := rfl
theorem F_maker_Rightr9_g43 {env : Env} : yieldI F_maker_Rightr9 env 43 = bOf (env 85) := rfl
def F_maker_Rightr10b : List IStmt := [
 ⟨some 2, .mv (.c (.bool false)), none⟩]
def F_maker_Rightr10 : List IStmt := F_maker_Rightr10b
theorem F_maker_Rightr10_W {T : Tab} {env : Env} {H : Heap} {Q : Post} : W T (.reg F_maker_Rightr10) env H Q ↔ WR T F_maker_Rightr10 F_maker_Rightr10b env H none [] Q := w_reg
def F_maker_Rightr11b : List IStmt := [
 ⟨some 90, .loadN 18 (.t 1), none⟩,
 ⟨some 91, .callc 22 [(.t 90)], none⟩,
 ⟨some 92, .mv (.t 91), none⟩,
 ⟨some 93, .loadN 18 (.t 1), some (2, true)⟩,
 ⟨some 94, .callc 23 [(.t 93)], some (2, true)⟩,
 ⟨some 95, .pick (.t 92) (.t 94) (.c (.bool false)), none⟩,
 ⟨some 2, .mv (.t 95), none⟩]
def F_maker_Rightr11 : List IStmt := F_maker_Rightr11b
theorem F_maker_Rightr11_W {T : Tab} {env : Env} {H : Heap} {Q : Post} : W T (.reg F_maker_Rightr11) env H Q ↔ WR T F_maker_Rightr11 F_maker_Rightr11b env H none [] Q := w_reg
theorem F_maker_Rightr11_g2 {env : Env} : yieldI F_maker_Rightr11 env 2 = bOf (env 92) := rfl
def F_maker_Rightcb : ICode := (.seq (.reg F_maker_Rightr0) (.seq (.seq (.reg F_maker_Rightr1) (.cond (.t 30) (.seq (.reg F_maker_Rightr2) .ret) .skip)) (.seq (.seq (.reg F_maker_Rightr3) (.block 0 (.loop F_maker_Rightl0))) (.seq (.seq (.reg F_maker_Rightr9) (.cond (.t 89) (.seq (.reg F_maker_Rightr10) .ret) .skip)) (.seq (.reg F_maker_Rightr11) .ret)))))
def F_maker_Rightc : ICode := F_maker_Rightcb
theorem F_maker_Rightc_W {T : Tab} {env : Env} {H : Heap} {Q : Post} : W T F_maker_Rightc env H Q ↔ W T F_maker_Rightcb env H Q := Iff.rfl
def F_maker_Right : IFn := ⟨96, [.tmp 2], F_maker_Rightc⟩
set_option linter.defProp false in
set_option maxRecDepth 100000 in
def N_maker_RightP := And.intro F_maker_Rightr0b.eq_1 (And.intro @F_maker_Rightr0_W (And.intro F_maker_Rightr1b.eq_1 (And.intro @F_maker_Rightr1_W (And.intro @F_maker_Rightr1_g3 (And.intro @F_maker_Rightr1_g8 (And.intro @F_maker_Rightr1_g14 (And.intro @F_maker_Rightr1_g20 (And.intro F_maker_Rightr2b.eq_1 (And.intro @F_maker_Rightr2_W (And.intro F_maker_Rightr3b.eq_1 (And.intro @F_maker_Rightr3_W (And.intro F_maker_Rightr4b.eq_1 (And.intro @F_maker_Rightr4_W (And.intro F_maker_Rightr5b.eq_1 (And.intro @F_maker_Rightr5_W (And.intro F_maker_Rightr6b.eq_1 (And.intro @F_maker_Rightr6_W (And.intro F_maker_Rightr7b.eq_1 (And.intro @F_maker_Rightr7_W (And.intro F_maker_Rightr8b.eq_1 (And.intro @F_maker_Rightr8_W (And.intro @F_maker_Rightl0_W (And.intro F_maker_Rightl0b.eq_1 (And.intro F_maker_Rightr9b.eq_1 (And.intro @F_maker_Rightr9_W (And.intro @F_maker_Rightr9_g4 (And.intro @F_maker_Rightr9_g9 (And.intro @F_maker_Rightr9_g14 (And.intro @F_maker_Rightr9_g19 (And.intro @F_maker_Rightr9_g28 (And.intro @F_maker_Rightr9_g33 (And.intro @F_maker_Rightr9_g38 (And.intro @F_maker_Rightr9_g43 (And.intro F_maker_Rightr10b.eq_1 (And.intro @F_maker_Rightr10_W (And.intro F_maker_Rightr11b.eq_1 (And.intro @F_maker_Rightr11_W (And.intro @F_maker_Rightr11_g2 (And.intro @F_maker_Rightc_W (F_maker_Rightcb.eq_1))))))))))))))))))))))))))))))))))))))))
theorem N_maker_Right : type_of% N_maker_RightP := N_maker_RightP
set_option maxRecDepth 1000000 in
theorem F_maker_Right_chk : chkF Tryz.prog 8 F_maker_Right = true := by kernel_rfl

/-! ### ref02_Plain -/
def F_ref02_Plainr0b : List IStmt := [
 ⟨some 2, .mv (.c (.bool false)), none⟩]
def F_ref02_Plainr0 : List IStmt := F_ref02_Plainr0b
theorem F_ref02_Plainr0_W {T : Tab} {env : Env} {H : Heap} {Q : Post} : W T (.reg F_ref02_Plainr0) env H Q ↔ WR T F_ref02_Plainr0 F_ref02_Plainr0b env H none [] Q := w_reg
def F_ref02_Plainr1b : List IStmt := [
 ⟨some 3, .mv (.c (.int .i64 0)), none⟩]
def F_ref02_Plainr1 : List IStmt := F_ref02_Plainr1b
theorem F_ref02_Plainr1_W {T : Tab} {env : Env} {H : Heap} {Q : Post} : W T (.reg F_ref02_Plainr1) env H Q ↔ WR T F_ref02_Plainr1 F_ref02_Plainr1b env H none [] Q := w_reg
def F_ref02_Plainr2b : List IStmt := [
 ⟨some 4, .mv (.t 3), none⟩,
 ⟨some 5, .mv (.t 0), none⟩,
 ⟨some 6, .len 0 (.t 5), none⟩,
 ⟨some 7, .bin .lss (.t 4) (.t 6), none⟩]
def F_ref02_Plainr2 : List IStmt := F_ref02_Plainr2b
theorem F_ref02_Plainr2_W {T : Tab} {env : Env} {H : Heap} {Q : Post} : W T (.reg F_ref02_Plainr2) env H Q ↔ WR T F_ref02_Plainr2 F_ref02_Plainr2b env H none [] Q := w_reg
def F_ref02_Plainr4b : List IStmt := [
 ⟨some 10, .mv (.t 0), none⟩,
 ⟨some 11, .mv (.t 3), none⟩,
 ⟨some 12, .ixs (.t 10) (.t 11), none⟩,
 ⟨some 13, .bin .lss (.t 12) (.c (.int .u8 33)), none⟩,
 ⟨some 14, .mv (.t 13), none⟩,
 ⟨some 15, .mv (.t 0), some (4, false)⟩,
 ⟨some 16, .mv (.t 3), some (4, false)⟩,
 ⟨some 17, .ixs (.t 15) (.t 16), some (4, false)⟩,
 ⟨some 18, .bin .gtr (.t 17) (.c (.int .u8 126)), some (4, false)⟩,
 ⟨some 19, .pick (.t 14) (.c (.bool true)) (.t 18), none⟩]
def F_ref02_Plainr4 : List IStmt := F_ref02_Plainr4b
theorem F_ref02_Plainr4_W {T : Tab} {env : Env} {H : Heap} {Q : Post} : W T (.reg F_ref02_Plainr4) env H Q ↔ WR T F_ref02_Plainr4 F_ref02_Plainr4b env H none [] Q := w_reg
theorem F_ref02_Plainr4_g4 {env : Env} : yieldI F_ref02_Plainr4 env 4 = bOf (env 14) := rfl
def F_ref02_Plainr5b : List IStmt := [
 ⟨some 2, .mv (.c (.bool false)), none⟩]
def F_ref02_Plainr5 : List IStmt := F_ref02_Plainr5b
theorem F_ref02_Plainr5_W {T : Tab} {env : Env} {H : Heap} {Q : Post} : W T (.reg F_ref02_Plainr5) env H Q ↔ WR T F_ref02_Plainr5 F_ref02_Plainr5b env H none [] Q := w_reg
def F_ref02_Plainr3b : List IStmt := [
 ⟨some 8, .mv (.t 3), none⟩,
 ⟨some 9, .bin .add (.t 8) (.c (.int .i64 1)), none⟩,
 ⟨some 3, .mv (.t 9), none⟩]
def F_ref02_Plainr3 : List IStmt := F_ref02_Plainr3b
theorem F_ref02_Plainr3_W {T : Tab} {env : Env} {H : Heap} {Q : Post} : W T (.reg F_ref02_Plainr3) env H Q ↔ WR T F_ref02_Plainr3 F_ref02_Plainr3b env H none [] Q := w_reg
def F_ref02_Plainl0b : ICode := (.seq (.seq (.reg F_ref02_Plainr2) (.cond (.t 7) .skip (.exit 0))) (.seq (.block 1 (.seq (.reg F_ref02_Plainr4) (.cond (.t 19) (.seq (.reg F_ref02_Plainr5) .ret) .skip))) (.reg F_ref02_Plainr3)))
def F_ref02_Plainl0 : ICode := F_ref02_Plainl0b
theorem F_ref02_Plainl0_W {T : Tab} {env : Env} {H : Heap} {Q : Post} : W T F_ref02_Plainl0 env H Q ↔ W T F_ref02_Plainl0b env H Q := Iff.rfl
def F_ref02_Plainr6b : List IStmt := [
 ⟨some 20, .mv (.t 0), none⟩,
 ⟨some 21, .len 0 (.t 20), none⟩,
 ⟨some 22, .bin .leq (.t 21) (.c (.int .i64 64)), none⟩,
 ⟨some 2, .mv (.t 22), none⟩]
def F_ref02_Plainr6 : List IStmt := F_ref02_Plainr6b
theorem F_ref02_Plainr6_W {T : Tab} {env : Env} {H : Heap} {Q : Post} : W T (.reg F_ref02_Plainr6) env H Q ↔ WR T F_ref02_Plainr6 F_ref02_Plainr6b env H none [] Q := w_reg
def F_ref02_Plaincb : ICode := (.seq (.reg F_ref02_Plainr0) (.seq (.seq (.reg F_ref02_Plainr1) (.block 0 (.loop F_ref02_Plainl0))) (.seq (.reg F_ref02_Plainr6) .ret)))
def F_ref02_Plainc : ICode := F_ref02_Plaincb
theorem F_ref02_Plainc_W {T : Tab} {env : Env} {H : Heap} {Q : Post} : W T F_ref02_Plainc env H Q ↔ W T F_ref02_Plaincb env H Q := Iff.rfl
def F_ref02_Plain : IFn := ⟨23, [.tmp 2], F_ref02_Plainc⟩
set_option linter.defProp false in
set_option maxRecDepth 100000 in
def N_ref02_PlainP := And.intro F_ref02_Plainr0b.eq_1 (And.intro @F_ref02_Plainr0_W (And.intro F_ref02_Plainr1b.eq_1 (And.intro @F_ref02_Plainr1_W (And.intro F_ref02_Plainr2b.eq_1 (And.intro @F_ref02_Plainr2_W (And.intro F_ref02_Plainr4b.eq_1 (And.intro @F_ref02_Plainr4_W (And.intro @F_ref02_Plainr4_g4 (And.intro F_ref02_Plainr5b.eq_1 (And.intro @F_ref02_Plainr5_W (And.intro F_ref02_Plainr3b.eq_1 (And.intro @F_ref02_Plainr3_W (And.intro @F_ref02_Plainl0_W (And.intro F_ref02_Plainl0b.eq_1 (And.intro F_ref02_Plainr6b.eq_1 (And.intro @F_ref02_Plainr6_W (And.intro @F_ref02_Plainc_W (F_ref02_Plaincb.eq_1))))))))))))))))))
theorem N_ref02_Plain : type_of% N_ref02_PlainP := N_ref02_PlainP
set_option maxRecDepth 1000000 in
theorem F_ref02_Plain_chk : chkF Tryz.prog 24 F_ref02_Plain = true := by kernel_rfl

/-! ### ref17_Which -/
def F_ref17_Whichr0b : List IStmt := [
 ⟨some 3, .box 2 (.t 1), none⟩,
 ⟨some 4, .mv (.c (.int .i64 0)), none⟩]
def F_ref17_Whichr0 : List IStmt := F_ref17_Whichr0b
theorem F_ref17_Whichr0_W {T : Tab} {env : Env} {H : Heap} {Q : Post} : W T (.reg F_ref17_Whichr0) env H Q ↔ WR T F_ref17_Whichr0 F_ref17_Whichr0b env H none [] Q := w_reg
def F_ref17_Whichr1b : List IStmt := [
 ⟨some 5, .mv (.c (.int .i64 0)), none⟩]
def F_ref17_Whichr1 : List IStmt := F_ref17_Whichr1b
theorem F_ref17_Whichr1_W {T : Tab} {env : Env} {H : Heap} {Q : Post} : W T (.reg F_ref17_Whichr1) env H Q ↔ WR T F_ref17_Whichr1 F_ref17_Whichr1b env H none [] Q := w_reg
def F_ref17_Whichr2b : List IStmt := [
 ⟨some 6, .mv (.t 5), none⟩,
 ⟨some 7, .mv (.t 0), none⟩,
 ⟨some 8, .len 1 (.t 7), none⟩,
 ⟨some 9, .bin .lss (.t 6) (.t 8), none⟩]
def F_ref17_Whichr2 : List IStmt := F_ref17_Whichr2b
theorem F_ref17_Whichr2_W {T : Tab} {env : Env} {H : Heap} {Q : Post} : W T (.reg F_ref17_Whichr2) env H Q ↔ WR T F_ref17_Whichr2 F_ref17_Whichr2b env H none [] Q := w_reg
def F_ref17_Whichr4b : List IStmt := [
 ⟨some 12, .mv (.t 0), none⟩,
 ⟨some 13, .mv (.t 5), none⟩,
 ⟨some 14, .ixa 2 (.t 12) (.t 13), none⟩,
 ⟨some 15, .loadN 2 (.t 14), none⟩,
 ⟨some 16, .loadN 2 (.t 3), none⟩,
 ⟨some 17, .eqs [2, 1] false (.t 15) (.t 16), none⟩]
def F_ref17_Whichr4 : List IStmt := F_ref17_Whichr4b
theorem F_ref17_Whichr4_W {T : Tab} {env : Env} {H : Heap} {Q : Post} : W T (.dreg F_ref17_Whichr4 []) env H Q ↔ WR T F_ref17_Whichr4 F_ref17_Whichr4b env H none [] Q := w_dreg0
def F_ref17_Whichr5b : List IStmt := [
 ⟨some 18, .mv (.t 5), none⟩,
 ⟨some 4, .mv (.t 18), none⟩]
def F_ref17_Whichr5 : List IStmt := F_ref17_Whichr5b
theorem F_ref17_Whichr5_W {T : Tab} {env : Env} {H : Heap} {Q : Post} : W T (.reg F_ref17_Whichr5) env H Q ↔ WR T F_ref17_Whichr5 F_ref17_Whichr5b env H none [] Q := w_reg
def F_ref17_Whichr3b : List IStmt := [
 ⟨some 10, .mv (.t 5), none⟩,
 ⟨some 11, .bin .add (.t 10) (.c (.int .i64 1)), none⟩,
 ⟨some 5, .mv (.t 11), none⟩]
def F_ref17_Whichr3 : List IStmt := F_ref17_Whichr3b
theorem F_ref17_Whichr3_W {T : Tab} {env : Env} {H : Heap} {Q : Post} : W T (.reg F_ref17_Whichr3) env H Q ↔ WR T F_ref17_Whichr3 F_ref17_Whichr3b env H none [] Q := w_reg
def F_ref17_Whichl0b : ICode := (.seq (.seq (.reg F_ref17_Whichr2) (.cond (.t 9) .skip (.exit 0))) (.seq (.block 1 (.seq (.dreg F_ref17_Whichr4 []) (.cond (.t 17) (.seq (.reg F_ref17_Whichr5) .ret) .skip))) (.reg F_ref17_Whichr3)))
def F_ref17_Whichl0 : ICode := F_ref17_Whichl0b
theorem F_ref17_Whichl0_W {T : Tab} {env : Env} {H : Heap} {Q : Post} : W T F_ref17_Whichl0 env H Q ↔ W T F_ref17_Whichl0b env H Q := Iff.rfl
def F_ref17_Whichr6b : List IStmt := [
 ⟨some 4, .mv (.c (.int .i64 (-1))), none⟩]
def F_ref17_Whichr6 : List IStmt := F_ref17_Whichr6b
theorem F_ref17_Whichr6_W {T : Tab} {env : Env} {H : Heap} {Q : Post} : W T (.reg F_ref17_Whichr6) env H Q ↔ WR T F_ref17_Whichr6 F_ref17_Whichr6b env H none [] Q := w_reg
def F_ref17_Whichcb : ICode := (.seq (.reg F_ref17_Whichr0) (.seq (.seq (.reg F_ref17_Whichr1) (.block 0 (.loop F_ref17_Whichl0))) (.seq (.reg F_ref17_Whichr6) .ret)))
def F_ref17_Whichc : ICode := F_ref17_Whichcb
theorem F_ref17_Whichc_W {T : Tab} {env : Env} {H : Heap} {Q : Post} : W T F_ref17_Whichc env H Q ↔ W T F_ref17_Whichcb env H Q := Iff.rfl
def F_ref17_Which : IFn := ⟨19, [.tmp 4], F_ref17_Whichc⟩
set_option linter.defProp false in
set_option maxRecDepth 100000 in
def N_ref17_WhichP := And.intro F_ref17_Whichr0b.eq_1 (And.intro @F_ref17_Whichr0_W (And.intro F_ref17_Whichr1b.eq_1 (And.intro @F_ref17_Whichr1_W (And.intro F_ref17_Whichr2b.eq_1 (And.intro @F_ref17_Whichr2_W (And.intro F_ref17_Whichr4b.eq_1 (And.intro @F_ref17_Whichr4_W (And.intro F_ref17_Whichr5b.eq_1 (And.intro @F_ref17_Whichr5_W (And.intro F_ref17_Whichr3b.eq_1 (And.intro @F_ref17_Whichr3_W (And.intro @F_ref17_Whichl0_W (And.intro F_ref17_Whichl0b.eq_1 (And.intro F_ref17_Whichr6b.eq_1 (And.intro @F_ref17_Whichr6_W (And.intro @F_ref17_Whichc_W (F_ref17_Whichcb.eq_1)))))))))))))))))
theorem N_ref17_Which : type_of% N_ref17_WhichP := N_ref17_WhichP
set_option maxRecDepth 1000000 in
theorem F_ref17_Which_chk : chkF Tryz.prog 114 F_ref17_Which = true := by kernel_rfl

/-! ### ref17_Versions -/
def F_ref17_Versionsr0b : List IStmt := [
 ⟨some 1, .box 18 (.t 0), none⟩,
 ⟨some 2, .mv (.c (.slice none 0 0)), none⟩]
def F_ref17_Versionsr0 : List IStmt := F_ref17_Versionsr0b
theorem F_ref17_Versionsr0_W {T : Tab} {env : Env} {H : Heap} {Q : Post} : W T (.reg F_ref17_Versionsr0) env H Q ↔ WR T F_ref17_Versionsr0 F_ref17_Versionsr0b env H none [] Q := w_reg
def F_ref17_Versionsr1b : List IStmt := [
 ⟨some 3, .mv (.c (.slice none 0 0)), none⟩]
def F_ref17_Versionsr1 : List IStmt := F_ref17_Versionsr1b
theorem F_ref17_Versionsr1_W {T : Tab} {env : Env} {H : Heap} {Q : Post} : W T (.reg F_ref17_Versionsr1) env H Q ↔ WR T F_ref17_Versionsr1 F_ref17_Versionsr1b env H none [] Q := w_reg
def F_ref17_Versionsr2b : List IStmt := [
 ⟨some 4, .mv (.c (.int .i64 0)), none⟩]
def F_ref17_Versionsr2 : List IStmt := F_ref17_Versionsr2b
theorem F_ref17_Versionsr2_W {T : Tab} {env : Env} {H : Heap} {Q : Post} : W T (.reg F_ref17_Versionsr2) env H Q ↔ WR T F_ref17_Versionsr2 F_ref17_Versionsr2b env H none [] Q := w_reg
def F_ref17_Versionsr3b : List IStmt := [
 ⟨some 6, .mv (.t 4), none⟩,
 ⟨some 7, .fa 7 (.t 1), none⟩,
 ⟨some 8, .load (.t 7), none⟩,
 ⟨some 9, .len 1 (.t 8), none⟩,
 ⟨some 10, .bin .lss (.t 6) (.t 9), none⟩]
def F_ref17_Versionsr3 : List IStmt := F_ref17_Versionsr3b
theorem F_ref17_Versionsr3_W {T : Tab} {env : Env} {H : Heap} {Q : Post} : W T (.reg F_ref17_Versionsr3) env H Q ↔ WR T F_ref17_Versionsr3 F_ref17_Versionsr3b env H none [] Q := w_reg
def F_ref17_Versionsr5b : List IStmt := [
 ⟨some 13, .fa 7 (.t 1), none⟩,
 ⟨some 14, .load (.t 13), none⟩,
 ⟨some 15, .mv (.t 4), none⟩,
 ⟨some 16, .ixa 7 (.t 14) (.t 15), none⟩,
 ⟨some 17, .fa 1 (.t 16), none⟩,
 ⟨some 18, .load (.t 17), none⟩,
 ⟨some 19, .fa 7 (.t 1), none⟩,
 ⟨some 20, .load (.t 19), none⟩,
 ⟨some 21, .mv (.t 4), none⟩,
 ⟨some 22, .ixa 7 (.t 20) (.t 21), none⟩,
 ⟨some 23, .fa 4 (.t 22), none⟩,
 ⟨some 24, .load (.t 23), none⟩,
 ⟨some 25, .bld [.string ⟨#[]⟩, .bool false] [(0, 1, (.t 18)), (1, 1, (.t 24))], none⟩,
 ⟨some 5, .alloc 2 [.string ⟨#[]⟩, .bool false], none⟩,
 ⟨none, .store 2 (.t 5) (.t 25), none⟩]
def F_ref17_Versionsr5 : List IStmt := F_ref17_Versionsr5b
theorem F_ref17_Versionsr5_W {T : Tab} {env : Env} {H : Heap} {Q : Post} : W T (.dreg F_ref17_Versionsr5 [(1, 14), (5, 14), (7, 14), (11, 14)]) env H Q ↔ WR T F_ref17_Versionsr5 F_ref17_Versionsr5b env H (some []) [(1, 14), (5, 14), (7, 14), (11, 14)] Q := w_dreg
theorem F_ref17_Versionsr5_len : F_ref17_Versionsr5.length = 15 := rfl
theorem F_ref17_Versionsr5_i1 : F_ref17_Versionsr5[1]? = some ⟨some 14, .load (.t 13), none⟩ := rfl
theorem F_ref17_Versionsr5_i5 : F_ref17_Versionsr5[5]? = some ⟨some 18, .load (.t 17), none⟩ := rfl
theorem F_ref17_Versionsr5_i7 : F_ref17_Versionsr5[7]? = some ⟨some 20, .load (.t 19), none⟩ := rfl
theorem F_ref17_Versionsr5_i11 : F_ref17_Versionsr5[11]? = some ⟨some 24, .load (.t 23), none⟩ := rfl
def F_ref17_Versionsr6b : List IStmt := [
 ⟨some 26, .fa 0 (.t 5), none⟩,
 ⟨some 27, .load (.t 26), none⟩,
 ⟨some 28, .bin .neq (.t 27) (.c (.string ⟨#[]⟩)), none⟩,
 ⟨some 29, .mv (.t 28), none⟩,
 ⟨some 30, .mv (.t 3), some (3, true)⟩,
 ⟨some 31, .loadN 2 (.t 5), some (3, true)⟩,
 ⟨some 32, .calll 114 [(.t 30), (.t 31)], some (3, true)⟩,
 ⟨some 33, .bin .lss (.t 32) (.c (.int .i64 0)), some (3, true)⟩,
 ⟨some 34, .pick (.t 29) (.t 33) (.c (.bool false)), none⟩]
def F_ref17_Versionsr6 : List IStmt := F_ref17_Versionsr6b
theorem F_ref17_Versionsr6_W {T : Tab} {env : Env} {H : Heap} {Q : Post} : W T (.reg F_ref17_Versionsr6) env H Q ↔ WR T F_ref17_Versionsr6 F_ref17_Versionsr6b env H none [] Q := w_reg
theorem F_ref17_Versionsr6_g3 {env : Env} : yieldI F_ref17_Versionsr6 env 3 = bOf (env 29) := rfl
def F_ref17_Versionsr7b : List IStmt := [
 ⟨some 35, .mv (.t 3), none⟩,
 ⟨some 36, .loadN 2 (.t 5), none⟩,
 ⟨some 37, .bsli 2 1 [.string ⟨#[]⟩, .bool false] [(0, (.t 36))], none⟩,
 ⟨some 38, .app 2 24 (.t 35) (.t 37), none⟩,
 ⟨some 3, .mv (.t 38), none⟩]
def F_ref17_Versionsr7 : List IStmt := F_ref17_Versionsr7b
theorem F_ref17_Versionsr7_W {T : Tab} {env : Env} {H : Heap} {Q : Post} : W T (.reg F_ref17_Versionsr7) env H Q ↔ WR T F_ref17_Versionsr7 F_ref17_Versionsr7b env H none [] Q := w_reg
def F_ref17_Versionsr4b : List IStmt := [
 ⟨some 11, .mv (.t 4), none⟩,
 ⟨some 12, .bin .add (.t 11) (.c (.int .i64 1)), none⟩,
 ⟨some 4, .mv (.t 12), none⟩]
def F_ref17_Versionsr4 : List IStmt := F_ref17_Versionsr4b
theorem F_ref17_Versionsr4_W {T : Tab} {env : Env} {H : Heap} {Q : Post} : W T (.reg F_ref17_Versionsr4) env H Q ↔ WR T F_ref17_Versionsr4 F_ref17_Versionsr4b env H none [] Q := w_reg
def F_ref17_Versionsl0b : ICode := (.seq (.seq (.reg F_ref17_Versionsr3) (.cond (.t 10) .skip (.exit 0))) (.seq (.block 1 (.seq (.dreg F_ref17_Versionsr5 [(1, 14), (5, 14), (7, 14), (11, 14)]) (.seq (.reg F_ref17_Versionsr6) (.cond (.t 34) (.reg F_ref17_Versionsr7) .skip)))) (.reg F_ref17_Versionsr4)))
def F_ref17_Versionsl0 : ICode := F_ref17_Versionsl0b
theorem F_ref17_Versionsl0_W {T : Tab} {env : Env} {H : Heap} {Q : Post} : W T F_ref17_Versionsl0 env H Q ↔ W T F_ref17_Versionsl0b env H Q := Iff.rfl
def F_ref17_Versionsr8b : List IStmt := [
 ⟨some 39, .mv (.t 3), none⟩,
 ⟨some 2, .mv (.t 39), none⟩]
def F_ref17_Versionsr8 : List IStmt := F_ref17_Versionsr8b
theorem F_ref17_Versionsr8_W {T : Tab} {env : Env} {H : Heap} {Q : Post} : W T (.reg F_ref17_Versionsr8) env H Q ↔ WR T F_ref17_Versionsr8 F_ref17_Versionsr8b env H none [] Q := w_reg
def F_ref17_Versionscb : ICode := (.seq (.reg F_ref17_Versionsr0) (.seq (.reg F_ref17_Versionsr1) (.seq (.seq (.reg F_ref17_Versionsr2) (.block 0 (.loop F_ref17_Versionsl0))) (.seq (.reg F_ref17_Versionsr8) .ret))))
def F_ref17_Versionsc : ICode := F_ref17_Versionscb
theorem F_ref17_Versionsc_W {T : Tab} {env : Env} {H : Heap} {Q : Post} : W T F_ref17_Versionsc env H Q ↔ W T F_ref17_Versionscb env H Q := Iff.rfl
def F_ref17_Versions : IFn := ⟨40, [.tmp 2], F_ref17_Versionsc⟩
set_option linter.defProp false in
set_option maxRecDepth 100000 in
def N_ref17_VersionsP := And.intro F_ref17_Versionsr0b.eq_1 (And.intro @F_ref17_Versionsr0_W (And.intro F_ref17_Versionsr1b.eq_1 (And.intro @F_ref17_Versionsr1_W (And.intro F_ref17_Versionsr2b.eq_1 (And.intro @F_ref17_Versionsr2_W (And.intro F_ref17_Versionsr3b.eq_1 (And.intro @F_ref17_Versionsr3_W (And.intro F_ref17_Versionsr5b.eq_1 (And.intro @F_ref17_Versionsr5_W (And.intro @F_ref17_Versionsr5_len (And.intro @F_ref17_Versionsr5_i1 (And.intro @F_ref17_Versionsr5_i5 (And.intro @F_ref17_Versionsr5_i7 (And.intro @F_ref17_Versionsr5_i11 (And.intro F_ref17_Versionsr6b.eq_1 (And.intro @F_ref17_Versionsr6_W (And.intro @F_ref17_Versionsr6_g3 (And.intro F_ref17_Versionsr7b.eq_1 (And.intro @F_ref17_Versionsr7_W (And.intro F_ref17_Versionsr4b.eq_1 (And.intro @F_ref17_Versionsr4_W (And.intro @F_ref17_Versionsl0_W (And.intro F_ref17_Versionsl0b.eq_1 (And.intro F_ref17_Versionsr8b.eq_1 (And.intro @F_ref17_Versionsr8_W (And.intro @F_ref17_Versionsc_W (F_ref17_Versionscb.eq_1)))))))))))))))))))))))))))
theorem N_ref17_Versions : type_of% N_ref17_VersionsP := N_ref17_VersionsP
set_option maxRecDepth 1000000 in
theorem F_ref17_Versions_chk : chkF Tryz.prog 55 F_ref17_Versions = true := by kernel_rfl

/-! ### ref17_symbols -/
def F_ref17_symbolsr0b : List IStmt := [
 ⟨some 1, .box 18 (.t 0), none⟩,
 ⟨some 2, .mv (.c (.bool false)), none⟩]
def F_ref17_symbolsr0 : List IStmt := F_ref17_symbolsr0b
theorem F_ref17_symbolsr0_W {T : Tab} {env : Env} {H : Heap} {Q : Post} : W T (.reg F_ref17_symbolsr0) env H Q ↔ WR T F_ref17_symbolsr0 F_ref17_symbolsr0b env H none [] Q := w_reg
def F_ref17_symbolsr1b : List IStmt := [
 ⟨some 5, .fa 7 (.t 1), none⟩,
 ⟨some 6, .load (.t 5), none⟩,
 ⟨some 7, .len 1 (.t 6), none⟩,
 ⟨some 8, .bin .gtr (.t 7) (.c (.int .i64 255)), none⟩,
 ⟨some 9, .mv (.t 8), none⟩,
 ⟨some 10, .loadN 18 (.t 1), some (4, false)⟩,
 ⟨some 11, .callc 55 [(.t 10)], some (4, false)⟩,
 ⟨some 12, .len 1 (.t 11), some (4, false)⟩,
 ⟨some 13, .bin .gtr (.t 12) (.c (.int .i64 31)), some (4, false)⟩,
 ⟨some 14, .pick (.t 9) (.c (.bool true)) (.t 13), none⟩]
def F_ref17_symbolsr1 : List IStmt := F_ref17_symbolsr1b
theorem F_ref17_symbolsr1_W {T : Tab} {env : Env} {H : Heap} {Q : Post} : W T (.reg F_ref17_symbolsr1) env H Q ↔ WR T F_ref17_symbolsr1 F_ref17_symbolsr1b env H none [] Q := w_reg
theorem F_ref17_symbolsr1_g4 {env : Env} : yieldI F_ref17_symbolsr1 env 4 = bOf (env 9) := rfl
def F_ref17_symbolsr2b : List IStmt := [
 ⟨some 2, .mv (.c (.bool false)), none⟩]
def F_ref17_symbolsr2 : List IStmt := F_ref17_symbolsr2b
theorem F_ref17_symbolsr2_W {T : Tab} {env : Env} {H : Heap} {Q : Post} : W T (.reg F_ref17_symbolsr2) env H Q ↔ WR T F_ref17_symbolsr2 F_ref17_symbolsr2b env H none [] Q := w_reg
def F_ref17_symbolsr3b : List IStmt := [
 ⟨some 3, .mv (.c (.int .i64 0)), none⟩]
def F_ref17_symbolsr3 : List IStmt := F_ref17_symbolsr3b
theorem F_ref17_symbolsr3_W {T : Tab} {env : Env} {H : Heap} {Q : Post} : W T (.reg F_ref17_symbolsr3) env H Q ↔ WR T F_ref17_symbolsr3 F_ref17_symbolsr3b env H none [] Q := w_reg
def F_ref17_symbolsr4b : List IStmt := [
 ⟨some 15, .mv (.t 3), none⟩,
 ⟨some 16, .fa 7 (.t 1), none⟩,
 ⟨some 17, .load (.t 16), none⟩,
 ⟨some 18, .len 1 (.t 17), none⟩,
 ⟨some 19, .bin .lss (.t 15) (.t 18), none⟩]
def F_ref17_symbolsr4 : List IStmt := F_ref17_symbolsr4b
theorem F_ref17_symbolsr4_W {T : Tab} {env : Env} {H : Heap} {Q : Post} : W T (.reg F_ref17_symbolsr4) env H Q ↔ WR T F_ref17_symbolsr4 F_ref17_symbolsr4b env H none [] Q := w_reg
def F_ref17_symbolsr6b : List IStmt := [
 ⟨some 22, .fa 7 (.t 1), none⟩,
 ⟨some 23, .load (.t 22), none⟩,
 ⟨some 24, .mv (.t 3), none⟩,
 ⟨some 25, .ixa 7 (.t 23) (.t 24), none⟩,
 ⟨some 26, .loadN 7 (.t 25), none⟩,
 ⟨some 4, .alloc 7 [.string ⟨#[]⟩, .string ⟨#[]⟩, .bool false, .int .i64 0, .bool false, .int .u64 0, .int .u64 0], none⟩,
 ⟨none, .store 7 (.t 4) (.t 26), none⟩]
def F_ref17_symbolsr6 : List IStmt := F_ref17_symbolsr6b
theorem F_ref17_symbolsr6_W {T : Tab} {env : Env} {H : Heap} {Q : Post} : W T (.reg F_ref17_symbolsr6) env H Q ↔ WR T F_ref17_symbolsr6 F_ref17_symbolsr6b env H none [] Q := w_reg
def F_ref17_symbolsr7b : List IStmt := [
 ⟨some 27, .fa 0 (.t 4), none⟩,
 ⟨some 28, .load (.t 27), none⟩,
 ⟨some 29, .callc 24 [(.t 28)], none⟩,
 ⟨some 30, .un .not (.t 29), none⟩,
 ⟨some 31, .mv (.t 30), none⟩,
 ⟨some 32, .fa 0 (.t 4), some (4, false)⟩,
 ⟨some 33, .load (.t 32), some (4, false)⟩,
 ⟨some 34, .bin .eql (.t 33) (.c (.string ⟨#[]⟩)), some (4, false)⟩,
 ⟨some 35, .pick (.t 31) (.c (.bool true)) (.t 34), none⟩,
 ⟨some 36, .mv (.t 35), none⟩,
 ⟨some 37, .fa 1 (.t 4), some (9, false)⟩,
 ⟨some 38, .load (.t 37), some (9, false)⟩,
 ⟨some 39, .callc 24 [(.t 38)], some (9, false)⟩,
 ⟨some 40, .un .not (.t 39), some (9, false)⟩,
 ⟨some 41, .pick (.t 36) (.c (.bool true)) (.t 40), none⟩,
 ⟨some 42, .mv (.t 41), none⟩,
 ⟨some 43, .fa 3 (.t 4), some (15, false)⟩,
 ⟨some 44, .load (.t 43), some (15, false)⟩,
 ⟨some 45, .bin .lss (.t 44) (.c (.int .i64 0)), some (15, false)⟩,
 ⟨some 46, .pick (.t 42) (.c (.bool true)) (.t 45), none⟩,
 ⟨some 47, .mv (.t 46), none⟩,
 ⟨some 48, .fa 3 (.t 4), some (20, false)⟩,
 ⟨some 49, .load (.t 48), some (20, false)⟩,
 ⟨some 50, .bin .gtr (.t 49) (.c (.int .i64 2)), some (20, false)⟩,
 ⟨some 51, .pick (.t 47) (.c (.bool true)) (.t 50), none⟩]
def F_ref17_symbolsr7 : List IStmt := F_ref17_symbolsr7b
theorem F_ref17_symbolsr7_W {T : Tab} {env : Env} {H : Heap} {Q : Post} : W T (.reg F_ref17_symbolsr7) env H Q ↔ WR T F_ref17_symbolsr7 F_ref17_symbolsr7b env H none [] Q := w_reg
theorem F_ref17_symbolsr7_g4 {env : Env} : yieldI F_ref17_symbolsr7 env 4 = bOf (env 31) := rfl
theorem F_ref17_symbolsr7_g9 {env : Env} : yieldI F_ref17_symbolsr7 env 9 = bOf (env 36) := rfl
theorem F_ref17_symbolsr7_g15 {env : Env} : yieldI F_ref17_symbolsr7 env 15 = bOf (env 42) := rfl
theorem F_ref17_symbolsr7_g20 {env : Env} : yieldI F_ref17_symbolsr7 env 20 = bOf (env 47) := rfl
def F_ref17_symbolsr8b : List IStmt := [
 ⟨some 2, .mv (.c (.bool false)), none⟩]
def F_ref17_symbolsr8 : List IStmt := F_ref17_symbolsr8b
theorem F_ref17_symbolsr8_W {T : Tab} {env : Env} {H : Heap} {Q : Post} : W T (.reg F_ref17_symbolsr8) env H Q ↔ WR T F_ref17_symbolsr8 F_ref17_symbolsr8b env H none [] Q := w_reg
def F_ref17_symbolsr9b : List IStmt := [
 ⟨some 52, .fa 4 (.t 4), none⟩,
 ⟨some 53, .load (.t 52), none⟩,
 ⟨some 54, .mv (.t 53), none⟩,
 ⟨some 55, .fa 5 (.t 4), some (2, true)⟩,
 ⟨some 56, .load (.t 55), some (2, true)⟩,
 ⟨some 57, .fa 10 (.t 1), some (2, true)⟩,
 ⟨some 58, .load (.t 57), some (2, true)⟩,
 ⟨some 59, .len 1 (.t 58), some (2, true)⟩,
 ⟨some 60, .fa 11 (.t 1), some (2, true)⟩,
 ⟨some 61, .load (.t 60), some (2, true)⟩,
 ⟨some 62, .bin .add (.t 59) (.t 61), some (2, true)⟩,
 ⟨some 63, .conv .u64 (.t 62), some (2, true)⟩,
 ⟨some 64, .bin .geq (.t 56) (.t 63), some (2, true)⟩,
 ⟨some 65, .pick (.t 54) (.t 64) (.c (.bool false)), none⟩]
def F_ref17_symbolsr9 : List IStmt := F_ref17_symbolsr9b
theorem F_ref17_symbolsr9_W {T : Tab} {env : Env} {H : Heap} {Q : Post} : W T (.reg F_ref17_symbolsr9) env H Q ↔ WR T F_ref17_symbolsr9 F_ref17_symbolsr9b env H none [] Q := w_reg
theorem F_ref17_symbolsr9_g2 {env : Env} : yieldI F_ref17_symbolsr9 env 2 = bOf (env 54) := rfl
def F_ref17_symbolsr10b : List IStmt := [
 ⟨some 2, .mv (.c (.bool false)), none⟩]
def F_ref17_symbolsr10 : List IStmt := F_ref17_symbolsr10b
theorem F_ref17_symbolsr10_W {T : Tab} {env : Env} {H : Heap} {Q : Post} : W T (.reg F_ref17_symbolsr10) env H Q ↔ WR T F_ref17_symbolsr10 F_ref17_symbolsr10b env H none [] Q := w_reg
def F_ref17_symbolsr11b : List IStmt := [
 ⟨some 66, .fa 4 (.t 4), none⟩,
 ⟨some 67, .load (.t 66), none⟩,
 ⟨some 68, .un .not (.t 67), none⟩,
 ⟨some 69, .mv (.t 68), none⟩,
 ⟨some 70, .fa 5 (.t 4), some (3, true)⟩,
 ⟨some 71, .load (.t 70), some (3, true)⟩,
 ⟨some 72, .bin .neq (.t 71) (.c (.int .u64 0)), some (3, true)⟩,
 ⟨some 73, .mv (.t 72), some (3, true)⟩,
 ⟨some 74, .fa 2 (.t 4), some (7, false)⟩,
 ⟨some 75, .load (.t 74), some (7, false)⟩,
 ⟨some 76, .pick (.t 73) (.c (.bool true)) (.t 75), some (3, true)⟩,
 ⟨some 77, .mv (.t 76), some (3, true)⟩,
 ⟨some 78, .fa 3 (.t 4), some (11, false)⟩,
 ⟨some 79, .load (.t 78), some (11, false)⟩,
 ⟨some 80, .bin .eql (.t 79) (.c (.int .i64 0)), some (11, false)⟩,
 ⟨some 81, .pick (.t 77) (.c (.bool true)) (.t 80), some (3, true)⟩,
 ⟨some 82, .mv (.t 81), some (3, true)⟩,
 ⟨some 83, .fa 1 (.t 4), some (16, false)⟩,
 ⟨some 84, .load (.t 83), some (16, false)⟩,
 ⟨some 85, .bin .neq (.t 84) (.c (.string ⟨#[]⟩)), some (16, false)⟩,
 ⟨some 86, .mv (.t 85), some (16, false)⟩,
 ⟨some 87, .fa 3 (.t 1), some (20, true)⟩,
 ⟨some 88, .load (.t 87), some (20, true)⟩,
 ⟨some 89, .len 1 (.t 88), some (20, true)⟩,
 ⟨some 90, .bin .eql (.t 89) (.c (.int .i64 0)), some (20, true)⟩,
 ⟨some 91, .pick (.t 86) (.t 90) (.c (.bool false)), some (16, false)⟩,
 ⟨some 92, .pick (.t 82) (.c (.bool true)) (.t 91), some (3, true)⟩,
 ⟨some 93, .pick (.t 69) (.t 92) (.c (.bool false)), none⟩]
def F_ref17_symbolsr11 : List IStmt := F_ref17_symbolsr11b
theorem F_ref17_symbolsr11_W {T : Tab} {env : Env} {H : Heap} {Q : Post} : W T (.reg F_ref17_symbolsr11) env H Q ↔ WR T F_ref17_symbolsr11 F_ref17_symbolsr11b env H none [] Q := w_reg
theorem F_ref17_symbolsr11_g3 {env : Env} : yieldI F_ref17_symbolsr11 env 3 = bOf (env 69) := rfl
theorem F_ref17_symbolsr11_g7 {env : Env} : yieldI F_ref17_symbolsr11 env 7 = bOf (env 73) := rfl
theorem F_ref17_symbolsr11_g11 {env : Env} : yieldI F_ref17_symbolsr11 env 11 = bOf (env 77) := rfl
theorem F_ref17_symbolsr11_g16 {env : Env} : yieldI F_ref17_symbolsr11 env 16 = bOf (env 82) := rfl
theorem F_ref17_symbolsr11_g20 {env : Env} : yieldI F_ref17_symbolsr11 env 20 = bOf (env 86) := rfl
def F_ref17_symbolsr12b : List IStmt := [
 ⟨some 2, .mv (.c (.bool false)), none⟩]
def F_ref17_symbolsr12 : List IStmt := F_ref17_symbolsr12b
theorem F_ref17_symbolsr12_W {T : Tab} {env : Env} {H : Heap} {Q : Post} : W T (.reg F_ref17_symbolsr12) env H Q ↔ WR T F_ref17_symbolsr12 F_ref17_symbolsr12b env H none [] Q := w_reg
def F_ref17_symbolsr5b : List IStmt := [
 ⟨some 20, .mv (.t 3), none⟩,
 ⟨some 21, .bin .add (.t 20) (.c (.int .i64 1)), none⟩,
 ⟨some 3, .mv (.t 21), none⟩]
def F_ref17_symbolsr5 : List IStmt := F_ref17_symbolsr5b
theorem F_ref17_symbolsr5_W {T : Tab} {env : Env} {H : Heap} {Q : Post} : W T (.reg F_ref17_symbolsr5) env H Q ↔ WR T F_ref17_symbolsr5 F_ref17_symbolsr5b env H none [] Q := w_reg
def F_ref17_symbolsl0b : ICode := (.seq (.seq (.reg F_ref17_symbolsr4) (.cond (.t 19) .skip (.exit 0))) (.seq (.block 1 (.seq (.reg F_ref17_symbolsr6) (.seq (.seq (.reg F_ref17_symbolsr7) (.cond (.t 51) (.seq (.reg F_ref17_symbolsr8) .ret) .skip)) (.seq (.seq (.reg F_ref17_symbolsr9) (.cond (.t 65) (.seq (.reg F_ref17_symbolsr10) .ret) .skip)) (.seq (.reg F_ref17_symbolsr11) (.cond (.t 93) (.seq (.reg F_ref17_symbolsr12) .ret) .skip)))))) (.reg F_ref17_symbolsr5)))
def F_ref17_symbolsl0 : ICode := F_ref17_symbolsl0b
theorem F_ref17_symbolsl0_W {T : Tab} {env : Env} {H : Heap} {Q : Post} : W T F_ref17_symbolsl0 env H Q ↔ W T F_ref17_symbolsl0b env H Q := Iff.rfl
def F_ref17_symbolsr13b : List IStmt := [
 ⟨some 2, .mv (.c (.bool true)), none⟩]
def F_ref17_symbolsr13 : List IStmt := F_ref17_symbolsr13b
theorem F_ref17_symbolsr13_W {T : Tab} {env : Env} {H : Heap} {Q : Post} : W T (.reg F_ref17_symbolsr13) env H Q ↔ WR T F_ref17_symbolsr13 F_ref17_symbolsr13b env H none [] Q := w_reg
def F_ref17_symbolscb : ICode := (.seq (.reg F_ref17_symbolsr0) (.seq (.seq (.reg F_ref17_symbolsr1) (.cond (.t 14) (.seq (.reg F_ref17_symbolsr2) .ret) .skip)) (.seq (.seq (.reg F_ref17_symbolsr3) (.block 0 (.loop F_ref17_symbolsl0))) (.seq (.reg F_ref17_symbolsr13) .ret))))
def F_ref17_symbolsc : ICode := F_ref17_symbolscb
theorem F_ref17_symbolsc_W {T : Tab} {env : Env} {H : Heap} {Q : Post} : W T F_ref17_symbolsc env H Q ↔ W T F_ref17_symbolscb env H Q := Iff.rfl
def F_ref17_symbols : IFn := ⟨94, [.tmp 2], F_ref17_symbolsc⟩
set_option linter.defProp false in
set_option maxRecDepth 100000 in
def N_ref17_symbolsP := And.intro F_ref17_symbolsr0b.eq_1 (And.intro @F_ref17_symbolsr0_W (And.intro F_ref17_symbolsr1b.eq_1 (And.intro @F_ref17_symbolsr1_W (And.intro @F_ref17_symbolsr1_g4 (And.intro F_ref17_symbolsr2b.eq_1 (And.intro @F_ref17_symbolsr2_W (And.intro F_ref17_symbolsr3b.eq_1 (And.intro @F_ref17_symbolsr3_W (And.intro F_ref17_symbolsr4b.eq_1 (And.intro @F_ref17_symbolsr4_W (And.intro F_ref17_symbolsr6b.eq_1 (And.intro @F_ref17_symbolsr6_W (And.intro F_ref17_symbolsr7b.eq_1 (And.intro @F_ref17_symbolsr7_W (And.intro @F_ref17_symbolsr7_g4 (And.intro @F_ref17_symbolsr7_g9 (And.intro @F_ref17_symbolsr7_g15 (And.intro @F_ref17_symbolsr7_g20 (And.intro F_ref17_symbolsr8b.eq_1 (And.intro @F_ref17_symbolsr8_W (And.intro F_ref17_symbolsr9b.eq_1 (And.intro @F_ref17_symbolsr9_W (And.intro @F_ref17_symbolsr9_g2 (And.intro F_ref17_symbolsr10b.eq_1 (And.intro @F_ref17_symbolsr10_W (And.intro F_ref17_symbolsr11b.eq_1 (And.intro @F_ref17_symbolsr11_W (And.intro @F_ref17_symbolsr11_g3 (And.intro @F_ref17_symbolsr11_g7 (And.intro @F_ref17_symbolsr11_g11 (And.intro @F_ref17_symbolsr11_g16 (And.intro @F_ref17_symbolsr11_g20 (And.intro F_ref17_symbolsr12b.eq_1 (And.intro @F_ref17_symbolsr12_W (And.intro F_ref17_symbolsr5b.eq_1 (And.intro @F_ref17_symbolsr5_W (And.intro @F_ref17_symbolsl0_W (And.intro F_ref17_symbolsl0b.eq_1 (And.intro F_ref17_symbolsr13b.eq_1 (And.intro @F_ref17_symbolsr13_W (And.intro @F_ref17_symbolsc_W (F_ref17_symbolscb.eq_1))))))))))))))))))))))))))))))))))))))))))
theorem N_ref17_symbols : type_of% N_ref17_symbolsP := N_ref17_symbolsP
set_option maxRecDepth 1000000 in
theorem F_ref17_symbols_chk : chkF Tryz.prog 25 F_ref17_symbols = true := by kernel_rfl

/-! ### ref15_Of -/
def F_ref15_Ofr0b : List IStmt := [
 ⟨some 4, .mv (.c (.int .i64 0)), none⟩]
def F_ref15_Ofr0 : List IStmt := F_ref15_Ofr0b
theorem F_ref15_Ofr0_W {T : Tab} {env : Env} {H : Heap} {Q : Post} : W T (.reg F_ref15_Ofr0) env H Q ↔ WR T F_ref15_Ofr0 F_ref15_Ofr0b env H none [] Q := w_reg
def F_ref15_Ofr1b : List IStmt := [
 ⟨some 7, .bsli 1 3 [.int .u64 0] [(0, (.c (.int .u64 62))), (1, (.c (.int .u64 0))), (2, (.c (.int .u64 0)))], none⟩,
 ⟨some 8, .bsli 1 3 [.int .u64 0] [(0, (.c (.int .u64 183))), (1, (.c (.int .u64 0))), (2, (.c (.int .u64 0)))], none⟩,
 ⟨some 9, .bsli 1 3 [.int .u64 0] [(0, (.c (.int .u64 62))), (1, (.c (.int .u64 1))), (2, (.c (.int .u64 1)))], none⟩,
 ⟨some 10, .bsli 1 3 [.int .u64 0] [(0, (.c (.int .u64 62))), (1, (.c (.int .u64 6))), (2, (.c (.int .u64 3)))], none⟩,
 ⟨some 11, .bsli 1 3 [.int .u64 0] [(0, (.c (.int .u64 62))), (1, (.c (.int .u64 7))), (2, (.c (.int .u64 3)))], none⟩,
 ⟨some 12, .bsli 1 3 [.int .u64 0] [(0, (.c (.int .u64 62))), (1, (.c (.int .u64 8))), (2, (.c (.int .u64 2)))], none⟩,
 ⟨some 13, .bsli 1 3 [.int .u64 0] [(0, (.c (.int .u64 183))), (1, (.c (.int .u64 257))), (2, (.c (.int .u64 1)))], none⟩,
 ⟨some 14, .bsli 1 3 [.int .u64 0] [(0, (.c (.int .u64 183))), (1, (.c (.int .u64 1025))), (2, (.c (.int .u64 1)))], none⟩,
 ⟨some 15, .bsli 1 3 [.int .u64 0] [(0, (.c (.int .u64 183))), (1, (.c (.int .u64 1026))), (2, (.c (.int .u64 1)))], none⟩,
 ⟨some 16, .bsli 1 3 [.int .u64 0] [(0, (.c (.int .u64 183))), (1, (.c (.int .u64 1027))), (2, (.c (.int .u64 2)))], none⟩,
 ⟨some 17, .bsli 1 10 [.slice none 0 0] [(0, (.t 7)), (1, (.t 8)), (2, (.t 9)), (3, (.t 10)), (4, (.t 11)), (5, (.t 12)), (6, (.t 13)), (7, (.t 14)), (8, (.t 15)), (9, (.t 16))], none⟩,
 ⟨some 5, .mv (.t 17), none⟩]
def F_ref15_Ofr1 : List IStmt := F_ref15_Ofr1b
theorem F_ref15_Ofr1_W {T : Tab} {env : Env} {H : Heap} {Q : Post} : W T (.reg F_ref15_Ofr1) env H Q ↔ WR T F_ref15_Ofr1 F_ref15_Ofr1b env H none [] Q := w_reg
def F_ref15_Ofr2b : List IStmt := [
 ⟨some 6, .mv (.c (.int .i64 0)), none⟩]
def F_ref15_Ofr2 : List IStmt := F_ref15_Ofr2b
theorem F_ref15_Ofr2_W {T : Tab} {env : Env} {H : Heap} {Q : Post} : W T (.reg F_ref15_Ofr2) env H Q ↔ WR T F_ref15_Ofr2 F_ref15_Ofr2b env H none [] Q := w_reg
def F_ref15_Ofr3b : List IStmt := [
 ⟨some 18, .mv (.t 6), none⟩,
 ⟨some 19, .mv (.t 5), none⟩,
 ⟨some 20, .len 1 (.t 19), none⟩,
 ⟨some 21, .bin .lss (.t 18) (.t 20), none⟩]
def F_ref15_Ofr3 : List IStmt := F_ref15_Ofr3b
theorem F_ref15_Ofr3_W {T : Tab} {env : Env} {H : Heap} {Q : Post} : W T (.reg F_ref15_Ofr3) env H Q ↔ WR T F_ref15_Ofr3 F_ref15_Ofr3b env H none [] Q := w_reg
def F_ref15_Ofr5b : List IStmt := [
 ⟨some 24, .mv (.t 5), none⟩,
 ⟨some 25, .mv (.t 6), none⟩,
 ⟨some 26, .ixa 1 (.t 24) (.t 25), none⟩,
 ⟨some 27, .load (.t 26), none⟩,
 ⟨some 28, .ixa 1 (.t 27) (.c (.int .i64 0)), none⟩,
 ⟨some 29, .load (.t 28), none⟩,
 ⟨some 30, .mv (.t 0), none⟩,
 ⟨some 31, .bin .eql (.t 29) (.t 30), none⟩,
 ⟨some 32, .mv (.t 31), none⟩,
 ⟨some 33, .mv (.t 5), some (8, true)⟩,
 ⟨some 34, .mv (.t 6), some (8, true)⟩,
 ⟨some 35, .ixa 1 (.t 33) (.t 34), some (8, true)⟩,
 ⟨some 36, .load (.t 35), some (8, true)⟩,
 ⟨some 37, .ixa 1 (.t 36) (.c (.int .i64 1)), some (8, true)⟩,
 ⟨some 38, .load (.t 37), some (8, true)⟩,
 ⟨some 39, .mv (.t 1), some (8, true)⟩,
 ⟨some 40, .bin .eql (.t 38) (.t 39), some (8, true)⟩,
 ⟨some 41, .pick (.t 32) (.t 40) (.c (.bool false)), none⟩]
def F_ref15_Ofr5 : List IStmt := F_ref15_Ofr5b
theorem F_ref15_Ofr5_W {T : Tab} {env : Env} {H : Heap} {Q : Post} : W T (.reg F_ref15_Ofr5) env H Q ↔ WR T F_ref15_Ofr5 F_ref15_Ofr5b env H none [] Q := w_reg
theorem F_ref15_Ofr5_g8 {env : Env} : yieldI F_ref15_Ofr5 env 8 = bOf (env 32) := rfl
def F_ref15_Ofr6b : List IStmt := [
 ⟨some 42, .mv (.t 5), none⟩,
 ⟨some 43, .mv (.t 6), none⟩,
 ⟨some 44, .ixa 1 (.t 42) (.t 43), none⟩,
 ⟨some 45, .load (.t 44), none⟩,
 ⟨some 46, .ixa 1 (.t 45) (.c (.int .i64 2)), none⟩,
 ⟨some 47, .load (.t 46), none⟩,
 ⟨some 48, .conv .i64 (.t 47), none⟩,
 ⟨some 4, .mv (.t 48), none⟩]
def F_ref15_Ofr6 : List IStmt := F_ref15_Ofr6b
theorem F_ref15_Ofr6_W {T : Tab} {env : Env} {H : Heap} {Q : Post} : W T (.reg F_ref15_Ofr6) env H Q ↔ WR T F_ref15_Ofr6 F_ref15_Ofr6b env H none [] Q := w_reg
def F_ref15_Ofr4b : List IStmt := [
 ⟨some 22, .mv (.t 6), none⟩,
 ⟨some 23, .bin .add (.t 22) (.c (.int .i64 1)), none⟩,
 ⟨some 6, .mv (.t 23), none⟩]
def F_ref15_Ofr4 : List IStmt := F_ref15_Ofr4b
theorem F_ref15_Ofr4_W {T : Tab} {env : Env} {H : Heap} {Q : Post} : W T (.reg F_ref15_Ofr4) env H Q ↔ WR T F_ref15_Ofr4 F_ref15_Ofr4b env H none [] Q := w_reg
def F_ref15_Ofl0b : ICode := (.seq (.seq (.reg F_ref15_Ofr3) (.cond (.t 21) .skip (.exit 0))) (.seq (.block 1 (.seq (.reg F_ref15_Ofr5) (.cond (.t 41) (.seq (.reg F_ref15_Ofr6) .ret) .skip))) (.reg F_ref15_Ofr4)))
def F_ref15_Ofl0 : ICode := F_ref15_Ofl0b
theorem F_ref15_Ofl0_W {T : Tab} {env : Env} {H : Heap} {Q : Post} : W T F_ref15_Ofl0 env H Q ↔ W T F_ref15_Ofl0b env H Q := Iff.rfl
def F_ref15_Ofr7b : List IStmt := [
 ⟨some 4, .mv (.c (.int .i64 (-1))), none⟩]
def F_ref15_Ofr7 : List IStmt := F_ref15_Ofr7b
theorem F_ref15_Ofr7_W {T : Tab} {env : Env} {H : Heap} {Q : Post} : W T (.reg F_ref15_Ofr7) env H Q ↔ WR T F_ref15_Ofr7 F_ref15_Ofr7b env H none [] Q := w_reg
def F_ref15_Ofcb : ICode := (.seq (.reg F_ref15_Ofr0) (.seq (.reg F_ref15_Ofr1) (.seq (.seq (.reg F_ref15_Ofr2) (.block 0 (.loop F_ref15_Ofl0))) (.seq (.reg F_ref15_Ofr7) .ret))))
def F_ref15_Ofc : ICode := F_ref15_Ofcb
theorem F_ref15_Ofc_W {T : Tab} {env : Env} {H : Heap} {Q : Post} : W T F_ref15_Ofc env H Q ↔ W T F_ref15_Ofcb env H Q := Iff.rfl
def F_ref15_Of : IFn := ⟨49, [.tmp 4], F_ref15_Ofc⟩
set_option linter.defProp false in
set_option maxRecDepth 100000 in
def N_ref15_OfP := And.intro F_ref15_Ofr0b.eq_1 (And.intro @F_ref15_Ofr0_W (And.intro F_ref15_Ofr1b.eq_1 (And.intro @F_ref15_Ofr1_W (And.intro F_ref15_Ofr2b.eq_1 (And.intro @F_ref15_Ofr2_W (And.intro F_ref15_Ofr3b.eq_1 (And.intro @F_ref15_Ofr3_W (And.intro F_ref15_Ofr5b.eq_1 (And.intro @F_ref15_Ofr5_W (And.intro @F_ref15_Ofr5_g8 (And.intro F_ref15_Ofr6b.eq_1 (And.intro @F_ref15_Ofr6_W (And.intro F_ref15_Ofr4b.eq_1 (And.intro @F_ref15_Ofr4_W (And.intro @F_ref15_Ofl0_W (And.intro F_ref15_Ofl0b.eq_1 (And.intro F_ref15_Ofr7b.eq_1 (And.intro @F_ref15_Ofr7_W (And.intro @F_ref15_Ofc_W (F_ref15_Ofcb.eq_1))))))))))))))))))))
theorem N_ref15_Of : type_of% N_ref15_OfP := N_ref15_OfP
set_option maxRecDepth 1000000 in
theorem F_ref15_Of_chk : chkF Tryz.prog 26 F_ref15_Of = true := by kernel_rfl

/-! ### ref01_Less -/
def F_ref01_Lessr0b : List IStmt := [
 ⟨some 2, .box 2 (.t 0), none⟩,
 ⟨some 3, .box 2 (.t 1), none⟩,
 ⟨some 4, .mv (.c (.bool false)), none⟩]
def F_ref01_Lessr0 : List IStmt := F_ref01_Lessr0b
theorem F_ref01_Lessr0_W {T : Tab} {env : Env} {H : Heap} {Q : Post} : W T (.reg F_ref01_Lessr0) env H Q ↔ WR T F_ref01_Lessr0 F_ref01_Lessr0b env H none [] Q := w_reg
def F_ref01_Lessr1b : List IStmt := [
 ⟨some 5, .fa 0 (.t 2), none⟩,
 ⟨some 6, .load (.t 5), none⟩,
 ⟨some 7, .fa 0 (.t 3), none⟩,
 ⟨some 8, .load (.t 7), none⟩,
 ⟨some 9, .bin .lss (.t 6) (.t 8), none⟩,
 ⟨some 10, .mv (.t 9), none⟩,
 ⟨some 11, .fa 0 (.t 2), some (5, false)⟩,
 ⟨some 12, .load (.t 11), some (5, false)⟩,
 ⟨some 13, .fa 0 (.t 3), some (5, false)⟩,
 ⟨some 14, .load (.t 13), some (5, false)⟩,
 ⟨some 15, .bin .eql (.t 12) (.t 14), some (5, false)⟩,
 ⟨some 16, .mv (.t 15), some (5, false)⟩,
 ⟨some 17, .fa 1 (.t 2), some (11, true)⟩,
 ⟨some 18, .load (.t 17), some (11, true)⟩,
 ⟨some 19, .fa 1 (.t 3), some (11, true)⟩,
 ⟨some 20, .load (.t 19), some (11, true)⟩,
 ⟨some 21, .bin .lss (.t 18) (.t 20), some (11, true)⟩,
 ⟨some 22, .pick (.t 16) (.t 21) (.c (.bool false)), some (5, false)⟩,
 ⟨some 23, .pick (.t 10) (.c (.bool true)) (.t 22), none⟩,
 ⟨some 4, .mv (.t 23), none⟩]
def F_ref01_Lessr1 : List IStmt := F_ref01_Lessr1b
theorem F_ref01_Lessr1_W {T : Tab} {env : Env} {H : Heap} {Q : Post} : W T (.reg F_ref01_Lessr1) env H Q ↔ WR T F_ref01_Lessr1 F_ref01_Lessr1b env H none [] Q := w_reg
theorem F_ref01_Lessr1_g5 {env : Env} : yieldI F_ref01_Lessr1 env 5 = bOf (env 10) := rfl
theorem F_ref01_Lessr1_g11 {env : Env} : yieldI F_ref01_Lessr1 env 11 = bOf (env 16) := rfl
def F_ref01_Lesscb : ICode := (.seq (.reg F_ref01_Lessr0) (.seq (.reg F_ref01_Lessr1) .ret))
def F_ref01_Lessc : ICode := F_ref01_Lesscb
theorem F_ref01_Lessc_W {T : Tab} {env : Env} {H : Heap} {Q : Post} : W T F_ref01_Lessc env H Q ↔ W T F_ref01_Lesscb env H Q := Iff.rfl
def F_ref01_Less : IFn := ⟨24, [.tmp 4], F_ref01_Lessc⟩
set_option linter.defProp false in
set_option maxRecDepth 100000 in
def N_ref01_LessP := And.intro F_ref01_Lessr0b.eq_1 (And.intro @F_ref01_Lessr0_W (And.intro F_ref01_Lessr1b.eq_1 (And.intro @F_ref01_Lessr1_W (And.intro @F_ref01_Lessr1_g5 (And.intro @F_ref01_Lessr1_g11 (And.intro @F_ref01_Lessc_W (F_ref01_Lesscb.eq_1)))))))
theorem N_ref01_Less : type_of% N_ref01_LessP := N_ref01_LessP
set_option maxRecDepth 1000000 in
theorem F_ref01_Less_chk : chkF Tryz.prog 56 F_ref01_Less = true := by kernel_rfl

/-! ### ref01_Sum -/
def F_ref01_Sumr0b : List IStmt := [
 ⟨some 4, .alloc 2 [.int .u64 0, .int .u64 0], none⟩]
def F_ref01_Sumr0 : List IStmt := F_ref01_Sumr0b
theorem F_ref01_Sumr0_W {T : Tab} {env : Env} {H : Heap} {Q : Post} : W T (.reg F_ref01_Sumr0) env H Q ↔ WR T F_ref01_Sumr0 F_ref01_Sumr0b env H none [] Q := w_reg
def F_ref01_Sumr1b : List IStmt := [
 ⟨some 6, .mv (.t 0), none⟩,
 ⟨some 7, .mv (.t 1), none⟩,
 ⟨some 8, .bin .add (.t 6) (.t 7), none⟩,
 ⟨some 5, .mv (.t 8), none⟩]
def F_ref01_Sumr1 : List IStmt := F_ref01_Sumr1b
theorem F_ref01_Sumr1_W {T : Tab} {env : Env} {H : Heap} {Q : Post} : W T (.reg F_ref01_Sumr1) env H Q ↔ WR T F_ref01_Sumr1 F_ref01_Sumr1b env H none [] Q := w_reg
def F_ref01_Sumr2b : List IStmt := [
 ⟨some 9, .mv (.t 5), none⟩,
 ⟨some 10, .mv (.t 0), none⟩,
 ⟨some 11, .bin .lss (.t 9) (.t 10), none⟩]
def F_ref01_Sumr2 : List IStmt := F_ref01_Sumr2b
theorem F_ref01_Sumr2_W {T : Tab} {env : Env} {H : Heap} {Q : Post} : W T (.reg F_ref01_Sumr2) env H Q ↔ WR T F_ref01_Sumr2 F_ref01_Sumr2b env H none [] Q := w_reg
def F_ref01_Sumr3b : List IStmt := [
 ⟨some 12, .mv (.t 5), none⟩,
 ⟨some 13, .bld [.int .u64 0, .int .u64 0] [(0, 1, (.c (.int .u64 1))), (1, 1, (.t 12))], none⟩,
 ⟨none, .store 2 (.t 4) (.t 13), none⟩]
def F_ref01_Sumr3 : List IStmt := F_ref01_Sumr3b
theorem F_ref01_Sumr3_W {T : Tab} {env : Env} {H : Heap} {Q : Post} : W T (.reg F_ref01_Sumr3) env H Q ↔ WR T F_ref01_Sumr3 F_ref01_Sumr3b env H none [] Q := w_reg
def F_ref01_Sumr4b : List IStmt := [
 ⟨some 14, .mv (.t 5), none⟩,
 ⟨some 15, .bld [.int .u64 0, .int .u64 0] [(0, 1, (.c (.int .u64 0))), (1, 1, (.t 14))], none⟩,
 ⟨none, .store 2 (.t 4) (.t 15), none⟩]
def F_ref01_Sumr4 : List IStmt := F_ref01_Sumr4b
theorem F_ref01_Sumr4_W {T : Tab} {env : Env} {H : Heap} {Q : Post} : W T (.reg F_ref01_Sumr4) env H Q ↔ WR T F_ref01_Sumr4 F_ref01_Sumr4b env H none [] Q := w_reg
def F_ref01_Sumcb : ICode := (.seq (.reg F_ref01_Sumr0) (.seq (.reg F_ref01_Sumr1) (.seq (.seq (.reg F_ref01_Sumr2) (.cond (.t 11) (.seq (.reg F_ref01_Sumr3) .ret) .skip)) (.seq (.reg F_ref01_Sumr4) .ret))))
def F_ref01_Sumc : ICode := F_ref01_Sumcb
theorem F_ref01_Sumc_W {T : Tab} {env : Env} {H : Heap} {Q : Post} : W T F_ref01_Sumc env H Q ↔ W T F_ref01_Sumcb env H Q := Iff.rfl
def F_ref01_Sum : IFn := ⟨16, [.cell 4 (some 2)], F_ref01_Sumc⟩
set_option linter.defProp false in
set_option maxRecDepth 100000 in
def N_ref01_SumP := And.intro F_ref01_Sumr0b.eq_1 (And.intro @F_ref01_Sumr0_W (And.intro F_ref01_Sumr1b.eq_1 (And.intro @F_ref01_Sumr1_W (And.intro F_ref01_Sumr2b.eq_1 (And.intro @F_ref01_Sumr2_W (And.intro F_ref01_Sumr3b.eq_1 (And.intro @F_ref01_Sumr3_W (And.intro F_ref01_Sumr4b.eq_1 (And.intro @F_ref01_Sumr4_W (And.intro @F_ref01_Sumc_W (F_ref01_Sumcb.eq_1)))))))))))
theorem N_ref01_Sum : type_of% N_ref01_SumP := N_ref01_SumP
set_option maxRecDepth 1000000 in
theorem F_ref01_Sum_chk : chkF Tryz.prog 57 F_ref01_Sum = true := by kernel_rfl

/-! ### ref01_Inside -/
def F_ref01_Insider0b : List IStmt := [
 ⟨some 8, .mv (.c (.bool false)), none⟩]
def F_ref01_Insider0 : List IStmt := F_ref01_Insider0b
theorem F_ref01_Insider0_W {T : Tab} {env : Env} {H : Heap} {Q : Post} : W T (.reg F_ref01_Insider0) env H Q ↔ WR T F_ref01_Insider0 F_ref01_Insider0b env H none [] Q := w_reg
def F_ref01_Insider1b : List IStmt := [
 ⟨some 9, .mv (.t 0), none⟩,
 ⟨some 10, .mv (.t 2), none⟩,
 ⟨some 11, .bin .geq (.t 9) (.t 10), none⟩,
 ⟨some 12, .mv (.t 11), none⟩,
 ⟨some 13, .mv (.t 2), some (3, true)⟩,
 ⟨some 14, .mv (.t 3), some (3, true)⟩,
 ⟨some 15, .callc 57 [(.t 13), (.t 14)], some (3, true)⟩,
 ⟨some 16, .mv (.t 0), some (3, true)⟩,
 ⟨some 17, .mv (.t 1), some (3, true)⟩,
 ⟨some 18, .callc 57 [(.t 16), (.t 17)], some (3, true)⟩,
 ⟨some 19, .callc 56 [(.t 15), (.t 18)], some (3, true)⟩,
 ⟨some 20, .un .not (.t 19), some (3, true)⟩,
 ⟨some 21, .pick (.t 12) (.t 20) (.c (.bool false)), none⟩,
 ⟨some 8, .mv (.t 21), none⟩]
def F_ref01_Insider1 : List IStmt := F_ref01_Insider1b
theorem F_ref01_Insider1_W {T : Tab} {env : Env} {H : Heap} {Q : Post} : W T (.reg F_ref01_Insider1) env H Q ↔ WR T F_ref01_Insider1 F_ref01_Insider1b env H none [] Q := w_reg
theorem F_ref01_Insider1_g3 {env : Env} : yieldI F_ref01_Insider1 env 3 = bOf (env 12) := rfl
def F_ref01_Insidecb : ICode := (.seq (.reg F_ref01_Insider0) (.seq (.reg F_ref01_Insider1) .ret))
def F_ref01_Insidec : ICode := F_ref01_Insidecb
theorem F_ref01_Insidec_W {T : Tab} {env : Env} {H : Heap} {Q : Post} : W T F_ref01_Insidec env H Q ↔ W T F_ref01_Insidecb env H Q := Iff.rfl
def F_ref01_Inside : IFn := ⟨22, [.tmp 8], F_ref01_Insidec⟩
set_option linter.defProp false in
set_option maxRecDepth 100000 in
def N_ref01_InsideP := And.intro F_ref01_Insider0b.eq_1 (And.intro @F_ref01_Insider0_W (And.intro F_ref01_Insider1b.eq_1 (And.intro @F_ref01_Insider1_W (And.intro @F_ref01_Insider1_g3 (And.intro @F_ref01_Insidec_W (F_ref01_Insidecb.eq_1))))))
theorem N_ref01_Inside : type_of% N_ref01_InsideP := N_ref01_InsideP
set_option maxRecDepth 1000000 in
theorem F_ref01_Inside_chk : chkF Tryz.prog 27 F_ref01_Inside = true := by kernel_rfl

/-! ### ref01_Apart -/
def F_ref01_Apartr0b : List IStmt := [
 ⟨some 8, .mv (.c (.bool false)), none⟩]
def F_ref01_Apartr0 : List IStmt := F_ref01_Apartr0b
theorem F_ref01_Apartr0_W {T : Tab} {env : Env} {H : Heap} {Q : Post} : W T (.reg F_ref01_Apartr0) env H Q ↔ WR T F_ref01_Apartr0 F_ref01_Apartr0b env H none [] Q := w_reg
def F_ref01_Apartr1b : List IStmt := [
 ⟨some 9, .mv (.t 1), none⟩,
 ⟨some 10, .bin .eql (.t 9) (.c (.int .u64 0)), none⟩,
 ⟨some 11, .mv (.t 10), none⟩,
 ⟨some 12, .mv (.t 3), some (2, false)⟩,
 ⟨some 13, .bin .eql (.t 12) (.c (.int .u64 0)), some (2, false)⟩,
 ⟨some 14, .pick (.t 11) (.c (.bool true)) (.t 13), none⟩,
 ⟨some 15, .mv (.t 14), none⟩,
 ⟨some 16, .mv (.t 0), some (6, false)⟩,
 ⟨some 17, .bld [.int .u64 0, .int .u64 0] [(0, 1, (.c (.int .u64 0))), (1, 1, (.t 16))], some (6, false)⟩,
 ⟨some 18, .mv (.t 2), some (6, false)⟩,
 ⟨some 19, .mv (.t 3), some (6, false)⟩,
 ⟨some 20, .callc 57 [(.t 18), (.t 19)], some (6, false)⟩,
 ⟨some 21, .callc 56 [(.t 17), (.t 20)], some (6, false)⟩,
 ⟨some 22, .un .not (.t 21), some (6, false)⟩,
 ⟨some 23, .pick (.t 15) (.c (.bool true)) (.t 22), none⟩,
 ⟨some 24, .mv (.t 23), none⟩,
 ⟨some 25, .mv (.t 2), some (15, false)⟩,
 ⟨some 26, .bld [.int .u64 0, .int .u64 0] [(0, 1, (.c (.int .u64 0))), (1, 1, (.t 25))], some (15, false)⟩,
 ⟨some 27, .mv (.t 0), some (15, false)⟩,
 ⟨some 28, .mv (.t 1), some (15, false)⟩,
 ⟨some 29, .callc 57 [(.t 27), (.t 28)], some (15, false)⟩,
 ⟨some 30, .callc 56 [(.t 26), (.t 29)], some (15, false)⟩,
 ⟨some 31, .un .not (.t 30), some (15, false)⟩,
 ⟨some 32, .pick (.t 24) (.c (.bool true)) (.t 31), none⟩,
 ⟨some 8, .mv (.t 32), none⟩]
def F_ref01_Apartr1 : List IStmt := F_ref01_Apartr1b
theorem F_ref01_Apartr1_W {T : Tab} {env : Env} {H : Heap} {Q : Post} : W T (.reg F_ref01_Apartr1) env H Q ↔ WR T F_ref01_Apartr1 F_ref01_Apartr1b env H none [] Q := w_reg
theorem F_ref01_Apartr1_g2 {env : Env} : yieldI F_ref01_Apartr1 env 2 = bOf (env 11) := rfl
theorem F_ref01_Apartr1_g6 {env : Env} : yieldI F_ref01_Apartr1 env 6 = bOf (env 15) := rfl
theorem F_ref01_Apartr1_g15 {env : Env} : yieldI F_ref01_Apartr1 env 15 = bOf (env 24) := rfl
def F_ref01_Apartcb : ICode := (.seq (.reg F_ref01_Apartr0) (.seq (.reg F_ref01_Apartr1) .ret))
def F_ref01_Apartc : ICode := F_ref01_Apartcb
theorem F_ref01_Apartc_W {T : Tab} {env : Env} {H : Heap} {Q : Post} : W T F_ref01_Apartc env H Q ↔ W T F_ref01_Apartcb env H Q := Iff.rfl
def F_ref01_Apart : IFn := ⟨33, [.tmp 8], F_ref01_Apartc⟩
set_option linter.defProp false in
set_option maxRecDepth 100000 in
def N_ref01_ApartP := And.intro F_ref01_Apartr0b.eq_1 (And.intro @F_ref01_Apartr0_W (And.intro F_ref01_Apartr1b.eq_1 (And.intro @F_ref01_Apartr1_W (And.intro @F_ref01_Apartr1_g2 (And.intro @F_ref01_Apartr1_g6 (And.intro @F_ref01_Apartr1_g15 (And.intro @F_ref01_Apartc_W (F_ref01_Apartcb.eq_1))))))))
theorem N_ref01_Apart : type_of% N_ref01_ApartP := N_ref01_ApartP
set_option maxRecDepth 1000000 in
theorem F_ref01_Apart_chk : chkF Tryz.prog 28 F_ref01_Apart = true := by kernel_rfl

/-! ### ref17_Right -/
def F_ref17_Rightr0b : List IStmt := [
 ⟨some 1, .box 18 (.t 0), none⟩,
 ⟨some 2, .mv (.c (.bool false)), none⟩]
def F_ref17_Rightr0 : List IStmt := F_ref17_Rightr0b
theorem F_ref17_Rightr0_W {T : Tab} {env : Env} {H : Heap} {Q : Post} : W T (.reg F_ref17_Rightr0) env H Q ↔ WR T F_ref17_Rightr0 F_ref17_Rightr0b env H none [] Q := w_reg
def F_ref17_Rightr1b : List IStmt := [
 ⟨some 10, .fa 0 (.t 1), none⟩,
 ⟨some 11, .load (.t 10), none⟩,
 ⟨some 12, .bin .neq (.t 11) (.c (.int .u16 62)), none⟩,
 ⟨some 13, .mv (.t 12), none⟩,
 ⟨some 14, .fa 0 (.t 1), some (3, true)⟩,
 ⟨some 15, .load (.t 14), some (3, true)⟩,
 ⟨some 16, .bin .neq (.t 15) (.c (.int .u16 183)), some (3, true)⟩,
 ⟨some 17, .pick (.t 13) (.t 16) (.c (.bool false)), none⟩,
 ⟨some 18, .mv (.t 17), none⟩,
 ⟨some 19, .fa 1 (.t 1), some (8, false)⟩,
 ⟨some 20, .load (.t 19), some (8, false)⟩,
 ⟨some 21, .callc 24 [(.t 20)], some (8, false)⟩,
 ⟨some 22, .un .not (.t 21), some (8, false)⟩,
 ⟨some 23, .pick (.t 18) (.c (.bool true)) (.t 22), none⟩,
 ⟨some 24, .mv (.t 23), none⟩,
 ⟨some 25, .fa 2 (.t 1), some (14, false)⟩,
 ⟨some 26, .load (.t 25), some (14, false)⟩,
 ⟨some 27, .callc 24 [(.t 26)], some (14, false)⟩,
 ⟨some 28, .un .not (.t 27), some (14, false)⟩,
 ⟨some 29, .pick (.t 24) (.c (.bool true)) (.t 28), none⟩,
 ⟨some 30, .mv (.t 29), none⟩,
 ⟨some 31, .fa 3 (.t 1), some (20, false)⟩,
 ⟨some 32, .load (.t 31), some (20, false)⟩,
 ⟨some 33, .len 1 (.t 32), some (20, false)⟩,
 ⟨some 34, .bin .gtr (.t 33) (.c (.int .i64 16)), some (20, false)⟩,
 ⟨some 35, .pick (.t 30) (.c (.bool true)) (.t 34), none⟩]
def F_ref17_Rightr1 : List IStmt := F_ref17_Rightr1b
theorem F_ref17_Rightr1_W {T : Tab} {env : Env} {H : Heap} {Q : Post} : W T (.reg F_ref17_Rightr1) env H Q ↔ WR T F_ref17_Rightr1 F_ref17_Rightr1b env H none [] Q := w_reg
theorem F_ref17_Rightr1_g3 {env : Env} : yieldI F_ref17_Rightr1 env 3 = bOf (env 13) := rfl
theorem F_ref17_Rightr1_g8 {env : Env} : yieldI F_ref17_Rightr1 env 8 = bOf (env 18) := rfl
theorem F_ref17_Rightr1_g14 {env : Env} : yieldI F_ref17_Rightr1 env 14 = bOf (env 24) := rfl
theorem F_ref17_Rightr1_g20 {env : Env} : yieldI F_ref17_Rightr1 env 20 = bOf (env 30) := rfl
def F_ref17_Rightr2b : List IStmt := [
 ⟨some 2, .mv (.c (.bool false)), none⟩]
def F_ref17_Rightr2 : List IStmt := F_ref17_Rightr2b
theorem F_ref17_Rightr2_W {T : Tab} {env : Env} {H : Heap} {Q : Post} : W T (.reg F_ref17_Rightr2) env H Q ↔ WR T F_ref17_Rightr2 F_ref17_Rightr2b env H none [] Q := w_reg
def F_ref17_Rightr3b : List IStmt := [
 ⟨some 3, .mv (.c (.int .i64 0)), none⟩]
def F_ref17_Rightr3 : List IStmt := F_ref17_Rightr3b
theorem F_ref17_Rightr3_W {T : Tab} {env : Env} {H : Heap} {Q : Post} : W T (.reg F_ref17_Rightr3) env H Q ↔ WR T F_ref17_Rightr3 F_ref17_Rightr3b env H none [] Q := w_reg
def F_ref17_Rightr4b : List IStmt := [
 ⟨some 36, .mv (.t 3), none⟩,
 ⟨some 37, .fa 3 (.t 1), none⟩,
 ⟨some 38, .load (.t 37), none⟩,
 ⟨some 39, .len 1 (.t 38), none⟩,
 ⟨some 40, .bin .lss (.t 36) (.t 39), none⟩]
def F_ref17_Rightr4 : List IStmt := F_ref17_Rightr4b
theorem F_ref17_Rightr4_W {T : Tab} {env : Env} {H : Heap} {Q : Post} : W T (.reg F_ref17_Rightr4) env H Q ↔ WR T F_ref17_Rightr4 F_ref17_Rightr4b env H none [] Q := w_reg
def F_ref17_Rightr6b : List IStmt := [
 ⟨some 43, .fa 3 (.t 1), none⟩,
 ⟨some 44, .load (.t 43), none⟩,
 ⟨some 45, .mv (.t 3), none⟩,
 ⟨some 46, .ixa 1 (.t 44) (.t 45), none⟩,
 ⟨some 47, .load (.t 46), none⟩,
 ⟨some 48, .callc 24 [(.t 47)], none⟩,
 ⟨some 49, .un .not (.t 48), none⟩,
 ⟨some 50, .mv (.t 49), none⟩,
 ⟨some 51, .fa 3 (.t 1), some (7, false)⟩,
 ⟨some 52, .load (.t 51), some (7, false)⟩,
 ⟨some 53, .mv (.t 3), some (7, false)⟩,
 ⟨some 54, .ixa 1 (.t 52) (.t 53), some (7, false)⟩,
 ⟨some 55, .load (.t 54), some (7, false)⟩,
 ⟨some 56, .bin .eql (.t 55) (.c (.string ⟨#[]⟩)), some (7, false)⟩,
 ⟨some 57, .pick (.t 50) (.c (.bool true)) (.t 56), none⟩]
def F_ref17_Rightr6 : List IStmt := F_ref17_Rightr6b
theorem F_ref17_Rightr6_W {T : Tab} {env : Env} {H : Heap} {Q : Post} : W T (.reg F_ref17_Rightr6) env H Q ↔ WR T F_ref17_Rightr6 F_ref17_Rightr6b env H none [] Q := w_reg
theorem F_ref17_Rightr6_g7 {env : Env} : yieldI F_ref17_Rightr6 env 7 = bOf (env 50) := rfl
def F_ref17_Rightr7b : List IStmt := [
 ⟨some 2, .mv (.c (.bool false)), none⟩]
def F_ref17_Rightr7 : List IStmt := F_ref17_Rightr7b
theorem F_ref17_Rightr7_W {T : Tab} {env : Env} {H : Heap} {Q : Post} : W T (.reg F_ref17_Rightr7) env H Q ↔ WR T F_ref17_Rightr7 F_ref17_Rightr7b env H none [] Q := w_reg
def F_ref17_Rightr5b : List IStmt := [
 ⟨some 41, .mv (.t 3), none⟩,
 ⟨some 42, .bin .add (.t 41) (.c (.int .i64 1)), none⟩,
 ⟨some 3, .mv (.t 42), none⟩]
def F_ref17_Rightr5 : List IStmt := F_ref17_Rightr5b
theorem F_ref17_Rightr5_W {T : Tab} {env : Env} {H : Heap} {Q : Post} : W T (.reg F_ref17_Rightr5) env H Q ↔ WR T F_ref17_Rightr5 F_ref17_Rightr5b env H none [] Q := w_reg
def F_ref17_Rightl0b : ICode := (.seq (.seq (.reg F_ref17_Rightr4) (.cond (.t 40) .skip (.exit 0))) (.seq (.block 1 (.seq (.reg F_ref17_Rightr6) (.cond (.t 57) (.seq (.reg F_ref17_Rightr7) .ret) .skip))) (.reg F_ref17_Rightr5)))
def F_ref17_Rightl0 : ICode := F_ref17_Rightl0b
theorem F_ref17_Rightl0_W {T : Tab} {env : Env} {H : Heap} {Q : Post} : W T F_ref17_Rightl0 env H Q ↔ W T F_ref17_Rightl0b env H Q := Iff.rfl
def F_ref17_Rightr8b : List IStmt := [
 ⟨some 58, .fa 10 (.t 1), none⟩,
 ⟨some 59, .load (.t 58), none⟩,
 ⟨some 60, .len 1 (.t 59), none⟩,
 ⟨some 61, .bin .gtr (.t 60) (.c (.int .i64 4096)), none⟩,
 ⟨some 62, .mv (.t 61), none⟩,
 ⟨some 63, .fa 11 (.t 1), some (4, false)⟩,
 ⟨some 64, .load (.t 63), some (4, false)⟩,
 ⟨some 65, .bin .lss (.t 64) (.c (.int .i64 0)), some (4, false)⟩,
 ⟨some 66, .pick (.t 62) (.c (.bool true)) (.t 65), none⟩,
 ⟨some 67, .mv (.t 66), none⟩,
 ⟨some 68, .fa 11 (.t 1), some (9, false)⟩,
 ⟨some 69, .load (.t 68), some (9, false)⟩,
 ⟨some 70, .bin .gtr (.t 69) (.c (.int .i64 4096)), some (9, false)⟩,
 ⟨some 71, .pick (.t 67) (.c (.bool true)) (.t 70), none⟩,
 ⟨some 72, .mv (.t 71), none⟩,
 ⟨some 73, .fa 12 (.t 1), some (14, false)⟩,
 ⟨some 74, .load (.t 73), some (14, false)⟩,
 ⟨some 75, .bin .lss (.t 74) (.c (.int .i64 0)), some (14, false)⟩,
 ⟨some 76, .pick (.t 72) (.c (.bool true)) (.t 75), none⟩,
 ⟨some 77, .mv (.t 76), none⟩,
 ⟨some 78, .fa 12 (.t 1), some (19, false)⟩,
 ⟨some 79, .load (.t 78), some (19, false)⟩,
 ⟨some 80, .fa 10 (.t 1), some (19, false)⟩,
 ⟨some 81, .load (.t 80), some (19, false)⟩,
 ⟨some 82, .len 1 (.t 81), some (19, false)⟩,
 ⟨some 83, .bin .quo (.t 82) (.c (.int .i64 256)), some (19, false)⟩,
 ⟨some 84, .bin .gtr (.t 79) (.t 83), some (19, false)⟩,
 ⟨some 85, .pick (.t 77) (.c (.bool true)) (.t 84), none⟩,
 ⟨some 86, .mv (.t 85), none⟩,
 ⟨some 87, .fa 16 (.t 1), some (28, false)⟩,
 ⟨some 88, .load (.t 87), some (28, false)⟩,
 ⟨some 89, .bin .lss (.t 88) (.c (.int .i64 0)), some (28, false)⟩,
 ⟨some 90, .pick (.t 86) (.c (.bool true)) (.t 89), none⟩,
 ⟨some 91, .mv (.t 90), none⟩,
 ⟨some 92, .fa 16 (.t 1), some (33, false)⟩,
 ⟨some 93, .load (.t 92), some (33, false)⟩,
 ⟨some 94, .bin .gtr (.t 93) (.c (.int .i64 8)), some (33, false)⟩,
 ⟨some 95, .pick (.t 91) (.c (.bool true)) (.t 94), none⟩,
 ⟨some 96, .mv (.t 95), none⟩,
 ⟨some 97, .fa 17 (.t 1), some (38, false)⟩,
 ⟨some 98, .load (.t 97), some (38, false)⟩,
 ⟨some 99, .bin .lss (.t 98) (.c (.int .i64 0)), some (38, false)⟩,
 ⟨some 100, .pick (.t 96) (.c (.bool true)) (.t 99), none⟩,
 ⟨some 101, .mv (.t 100), none⟩,
 ⟨some 102, .fa 17 (.t 1), some (43, false)⟩,
 ⟨some 103, .load (.t 102), some (43, false)⟩,
 ⟨some 104, .bin .gtr (.t 103) (.c (.int .i64 8)), some (43, false)⟩,
 ⟨some 105, .pick (.t 101) (.c (.bool true)) (.t 104), none⟩]
def F_ref17_Rightr8 : List IStmt := F_ref17_Rightr8b
theorem F_ref17_Rightr8_W {T : Tab} {env : Env} {H : Heap} {Q : Post} : W T (.reg F_ref17_Rightr8) env H Q ↔ WR T F_ref17_Rightr8 F_ref17_Rightr8b env H none [] Q := w_reg
theorem F_ref17_Rightr8_g4 {env : Env} : yieldI F_ref17_Rightr8 env 4 = bOf (env 62) := rfl
theorem F_ref17_Rightr8_g9 {env : Env} : yieldI F_ref17_Rightr8 env 9 = bOf (env 67) := rfl
theorem F_ref17_Rightr8_g14 {env : Env} : yieldI F_ref17_Rightr8 env 14 = bOf (env 72) := rfl
theorem F_ref17_Rightr8_g19 {env : Env} : yieldI F_ref17_Rightr8 env 19 = bOf (env 77) := rfl
theorem F_ref17_Rightr8_g28 {env : Env} : yieldI F_ref17_Rightr8 env 28 = bOf (env 86) := rfl
theorem F_ref17_Rightr8_g33 {env : Env} : yieldI F_ref17_Rightr8 env 33 = bOf (env 91) := rfl
theorem F_ref17_Rightr8_g38 {env : Env} : yieldI F_ref17_Rightr8 env 38 = bOf (env 96) := rfl
theorem F_ref17_Rightr8_g43 {env : Env} : yieldI F_ref17_Rightr8 env 43 = bOf (env 101) := rfl
def F_ref17_Rightr9b : List IStmt := [
 ⟨some 2, .mv (.c (.bool false)), none⟩]
def F_ref17_Rightr9 : List IStmt := F_ref17_Rightr9b
theorem F_ref17_Rightr9_W {T : Tab} {env : Env} {H : Heap} {Q : Post} : W T (.reg F_ref17_Rightr9) env H Q ↔ WR T F_ref17_Rightr9 F_ref17_Rightr9b env H none [] Q := w_reg
def F_ref17_Rightr10b : List IStmt := [
 ⟨some 106, .loadN 18 (.t 1), none⟩,
 ⟨some 107, .callc 25 [(.t 106)], none⟩,
 ⟨some 108, .un .not (.t 107), none⟩,
 ⟨some 109, .mv (.t 108), none⟩,
 ⟨some 110, .fa 8 (.t 1), some (3, false)⟩,
 ⟨some 111, .load (.t 110), some (3, false)⟩,
 ⟨some 112, .len 1 (.t 111), some (3, false)⟩,
 ⟨some 113, .fa 9 (.t 1), some (3, false)⟩,
 ⟨some 114, .load (.t 113), some (3, false)⟩,
 ⟨some 115, .len 1 (.t 114), some (3, false)⟩,
 ⟨some 116, .bin .add (.t 112) (.t 115), some (3, false)⟩,
 ⟨some 117, .bin .gtr (.t 116) (.c (.int .i64 512)), some (3, false)⟩,
 ⟨some 118, .pick (.t 109) (.c (.bool true)) (.t 117), none⟩]
def F_ref17_Rightr10 : List IStmt := F_ref17_Rightr10b
theorem F_ref17_Rightr10_W {T : Tab} {env : Env} {H : Heap} {Q : Post} : W T (.reg F_ref17_Rightr10) env H Q ↔ WR T F_ref17_Rightr10 F_ref17_Rightr10b env H none [] Q := w_reg
theorem F_ref17_Rightr10_g3 {env : Env} : yieldI F_ref17_Rightr10 env 3 = bOf (env 109) := rfl
def F_ref17_Rightr11b : List IStmt := [
 ⟨some 2, .mv (.c (.bool false)), none⟩]
def F_ref17_Rightr11 : List IStmt := F_ref17_Rightr11b
theorem F_ref17_Rightr11_W {T : Tab} {env : Env} {H : Heap} {Q : Post} : W T (.reg F_ref17_Rightr11) env H Q ↔ WR T F_ref17_Rightr11 F_ref17_Rightr11b env H none [] Q := w_reg
def F_ref17_Rightr12b : List IStmt := [
 ⟨some 4, .mv (.c (.slice none 0 0)), none⟩]
def F_ref17_Rightr12 : List IStmt := F_ref17_Rightr12b
theorem F_ref17_Rightr12_W {T : Tab} {env : Env} {H : Heap} {Q : Post} : W T (.reg F_ref17_Rightr12) env H Q ↔ WR T F_ref17_Rightr12 F_ref17_Rightr12b env H none [] Q := w_reg
def F_ref17_Rightr13b : List IStmt := [
 ⟨some 5, .mv (.c (.int .i64 0)), none⟩]
def F_ref17_Rightr13 : List IStmt := F_ref17_Rightr13b
theorem F_ref17_Rightr13_W {T : Tab} {env : Env} {H : Heap} {Q : Post} : W T (.reg F_ref17_Rightr13) env H Q ↔ WR T F_ref17_Rightr13 F_ref17_Rightr13b env H none [] Q := w_reg
def F_ref17_Rightr14b : List IStmt := [
 ⟨some 119, .mv (.t 5), none⟩,
 ⟨some 120, .fa 8 (.t 1), none⟩,
 ⟨some 121, .load (.t 120), none⟩,
 ⟨some 122, .len 1 (.t 121), none⟩,
 ⟨some 123, .bin .lss (.t 119) (.t 122), none⟩]
def F_ref17_Rightr14 : List IStmt := F_ref17_Rightr14b
theorem F_ref17_Rightr14_W {T : Tab} {env : Env} {H : Heap} {Q : Post} : W T (.reg F_ref17_Rightr14) env H Q ↔ WR T F_ref17_Rightr14 F_ref17_Rightr14b env H none [] Q := w_reg
def F_ref17_Rightr16b : List IStmt := [
 ⟨some 126, .fa 8 (.t 1), none⟩,
 ⟨some 127, .load (.t 126), none⟩,
 ⟨some 128, .mv (.t 5), none⟩,
 ⟨some 129, .ixa 5 (.t 127) (.t 128), none⟩,
 ⟨some 130, .loadN 5 (.t 129), none⟩,
 ⟨some 6, .alloc 5 [.int .u64 0, .int .u32 0, .int .u32 0, .int .i64 0, .bool false], none⟩,
 ⟨none, .store 5 (.t 6) (.t 130), none⟩]
def F_ref17_Rightr16 : List IStmt := F_ref17_Rightr16b
theorem F_ref17_Rightr16_W {T : Tab} {env : Env} {H : Heap} {Q : Post} : W T (.reg F_ref17_Rightr16) env H Q ↔ WR T F_ref17_Rightr16 F_ref17_Rightr16b env H none [] Q := w_reg
def F_ref17_Rightr17b : List IStmt := [
 ⟨some 131, .fa 0 (.t 1), none⟩,
 ⟨some 132, .load (.t 131), none⟩,
 ⟨some 133, .conv .u64 (.t 132), none⟩,
 ⟨some 134, .fa 1 (.t 6), none⟩,
 ⟨some 135, .load (.t 134), none⟩,
 ⟨some 136, .conv .u64 (.t 135), none⟩,
 ⟨some 137, .callc 26 [(.t 133), (.t 136)], none⟩,
 ⟨some 138, .bin .lss (.t 137) (.c (.int .i64 1)), none⟩,
 ⟨some 139, .mv (.t 138), none⟩,
 ⟨some 140, .fa 2 (.t 6), some (8, false)⟩,
 ⟨some 141, .load (.t 140), some (8, false)⟩,
 ⟨some 142, .conv .u64 (.t 141), some (8, false)⟩,
 ⟨some 143, .fa 7 (.t 1), some (8, false)⟩,
 ⟨some 144, .load (.t 143), some (8, false)⟩,
 ⟨some 145, .len 1 (.t 144), some (8, false)⟩,
 ⟨some 146, .conv .u64 (.t 145), some (8, false)⟩,
 ⟨some 147, .bin .gtr (.t 142) (.t 146), some (8, false)⟩,
 ⟨some 148, .pick (.t 139) (.c (.bool true)) (.t 147), none⟩,
 ⟨some 149, .mv (.t 148), none⟩,
 ⟨some 150, .fa 4 (.t 6), some (18, false)⟩,
 ⟨some 151, .load (.t 150), some (18, false)⟩,
 ⟨some 152, .fa 15 (.t 1), some (18, false)⟩,
 ⟨some 153, .load (.t 152), some (18, false)⟩,
 ⟨some 154, .eqb true (.t 151) (.t 153), some (18, false)⟩,
 ⟨some 155, .pick (.t 149) (.c (.bool true)) (.t 154), none⟩,
 ⟨some 156, .mv (.t 155), none⟩,
 ⟨some 157, .fa 4 (.t 6), some (25, false)⟩,
 ⟨some 158, .load (.t 157), some (25, false)⟩,
 ⟨some 159, .un .not (.t 158), some (25, false)⟩,
 ⟨some 160, .mv (.t 159), some (25, false)⟩,
 ⟨some 161, .fa 3 (.t 6), some (29, true)⟩,
 ⟨some 162, .load (.t 161), some (29, true)⟩,
 ⟨some 163, .bin .neq (.t 162) (.c (.int .i64 0)), some (29, true)⟩,
 ⟨some 164, .pick (.t 160) (.t 163) (.c (.bool false)), some (25, false)⟩,
 ⟨some 165, .pick (.t 156) (.c (.bool true)) (.t 164), none⟩]
def F_ref17_Rightr17 : List IStmt := F_ref17_Rightr17b
theorem F_ref17_Rightr17_W {T : Tab} {env : Env} {H : Heap} {Q : Post} : W T (.reg F_ref17_Rightr17) env H Q ↔ WR T F_ref17_Rightr17 F_ref17_Rightr17b env H none [] Q := w_reg
theorem F_ref17_Rightr17_g8 {env : Env} : yieldI F_ref17_Rightr17 env 8 = bOf (env 139) := rfl
theorem F_ref17_Rightr17_g18 {env : Env} : yieldI F_ref17_Rightr17 env 18 = bOf (env 149) := rfl
theorem F_ref17_Rightr17_g25 {env : Env} : yieldI F_ref17_Rightr17 env 25 = bOf (env 156) := rfl
theorem F_ref17_Rightr17_g29 {env : Env} : yieldI F_ref17_Rightr17 env 29 = bOf (env 160) := rfl
def F_ref17_Rightr18b : List IStmt := [
 ⟨some 2, .mv (.c (.bool false)), none⟩]
def F_ref17_Rightr18 : List IStmt := F_ref17_Rightr18b
theorem F_ref17_Rightr18_W {T : Tab} {env : Env} {H : Heap} {Q : Post} : W T (.reg F_ref17_Rightr18) env H Q ↔ WR T F_ref17_Rightr18 F_ref17_Rightr18b env H none [] Q := w_reg
def F_ref17_Rightr19b : List IStmt := [
 ⟨some 166, .mv (.t 4), none⟩,
 ⟨some 167, .fa 0 (.t 6), none⟩,
 ⟨some 168, .load (.t 167), none⟩,
 ⟨some 169, .bsli 1 1 [.int .u64 0] [(0, (.t 168))], none⟩,
 ⟨some 170, .app 1 8 (.t 166) (.t 169), none⟩,
 ⟨some 4, .mv (.t 170), none⟩]
def F_ref17_Rightr19 : List IStmt := F_ref17_Rightr19b
theorem F_ref17_Rightr19_W {T : Tab} {env : Env} {H : Heap} {Q : Post} : W T (.reg F_ref17_Rightr19) env H Q ↔ WR T F_ref17_Rightr19 F_ref17_Rightr19b env H none [] Q := w_reg
def F_ref17_Rightr15b : List IStmt := [
 ⟨some 124, .mv (.t 5), none⟩,
 ⟨some 125, .bin .add (.t 124) (.c (.int .i64 1)), none⟩,
 ⟨some 5, .mv (.t 125), none⟩]
def F_ref17_Rightr15 : List IStmt := F_ref17_Rightr15b
theorem F_ref17_Rightr15_W {T : Tab} {env : Env} {H : Heap} {Q : Post} : W T (.reg F_ref17_Rightr15) env H Q ↔ WR T F_ref17_Rightr15 F_ref17_Rightr15b env H none [] Q := w_reg
def F_ref17_Rightl1b : ICode := (.seq (.seq (.reg F_ref17_Rightr14) (.cond (.t 123) .skip (.exit 2))) (.seq (.block 3 (.seq (.reg F_ref17_Rightr16) (.seq (.seq (.reg F_ref17_Rightr17) (.cond (.t 165) (.seq (.reg F_ref17_Rightr18) .ret) .skip)) (.reg F_ref17_Rightr19)))) (.reg F_ref17_Rightr15)))
def F_ref17_Rightl1 : ICode := F_ref17_Rightl1b
theorem F_ref17_Rightl1_W {T : Tab} {env : Env} {H : Heap} {Q : Post} : W T F_ref17_Rightl1 env H Q ↔ W T F_ref17_Rightl1b env H Q := Iff.rfl
def F_ref17_Rightr20b : List IStmt := [
 ⟨some 7, .mv (.c (.int .i64 0)), none⟩]
def F_ref17_Rightr20 : List IStmt := F_ref17_Rightr20b
theorem F_ref17_Rightr20_W {T : Tab} {env : Env} {H : Heap} {Q : Post} : W T (.reg F_ref17_Rightr20) env H Q ↔ WR T F_ref17_Rightr20 F_ref17_Rightr20b env H none [] Q := w_reg
def F_ref17_Rightr21b : List IStmt := [
 ⟨some 171, .mv (.t 7), none⟩,
 ⟨some 172, .fa 9 (.t 1), none⟩,
 ⟨some 173, .load (.t 172), none⟩,
 ⟨some 174, .len 1 (.t 173), none⟩,
 ⟨some 175, .bin .lss (.t 171) (.t 174), none⟩]
def F_ref17_Rightr21 : List IStmt := F_ref17_Rightr21b
theorem F_ref17_Rightr21_W {T : Tab} {env : Env} {H : Heap} {Q : Post} : W T (.reg F_ref17_Rightr21) env H Q ↔ WR T F_ref17_Rightr21 F_ref17_Rightr21b env H none [] Q := w_reg
def F_ref17_Rightr23b : List IStmt := [
 ⟨some 178, .fa 9 (.t 1), none⟩,
 ⟨some 179, .load (.t 178), none⟩,
 ⟨some 180, .mv (.t 7), none⟩,
 ⟨some 181, .ixa 1 (.t 179) (.t 180), none⟩,
 ⟨some 182, .load (.t 181), none⟩,
 ⟨some 183, .bin .rem (.t 182) (.c (.int .u64 8)), none⟩,
 ⟨some 184, .bin .neq (.t 183) (.c (.int .u64 0)), none⟩,
 ⟨some 185, .mv (.t 184), none⟩,
 ⟨some 186, .mv (.t 7), some (7, false)⟩,
 ⟨some 187, .bin .gtr (.t 186) (.c (.int .i64 0)), some (7, false)⟩,
 ⟨some 188, .mv (.t 187), some (7, false)⟩,
 ⟨some 189, .fa 9 (.t 1), some (10, true)⟩,
 ⟨some 190, .load (.t 189), some (10, true)⟩,
 ⟨some 191, .mv (.t 7), some (10, true)⟩,
 ⟨some 192, .ixa 1 (.t 190) (.t 191), some (10, true)⟩,
 ⟨some 193, .load (.t 192), some (10, true)⟩,
 ⟨some 194, .fa 9 (.t 1), some (10, true)⟩,
 ⟨some 195, .load (.t 194), some (10, true)⟩,
 ⟨some 196, .mv (.t 7), some (10, true)⟩,
 ⟨some 197, .bin .sub (.t 196) (.c (.int .i64 1)), some (10, true)⟩,
 ⟨some 198, .ixa 1 (.t 195) (.t 197), some (10, true)⟩,
 ⟨some 199, .load (.t 198), some (10, true)⟩,
 ⟨some 200, .bin .leq (.t 193) (.t 199), some (10, true)⟩,
 ⟨some 201, .pick (.t 188) (.t 200) (.c (.bool false)), some (7, false)⟩,
 ⟨some 202, .pick (.t 185) (.c (.bool true)) (.t 201), none⟩]
def F_ref17_Rightr23 : List IStmt := F_ref17_Rightr23b
theorem F_ref17_Rightr23_g7 {env : Env} : yieldI F_ref17_Rightr23 env 7 = bOf (env 185) := rfl
theorem F_ref17_Rightr23_g10 {env : Env} : yieldI F_ref17_Rightr23 env 10 = bOf (env 188) := rfl
theorem F_ref17_Rightr23_W {T : Tab} {env : Env} {H : Heap} {Q : Post} : W T (.dreg F_ref17_Rightr23 []) env H Q ↔ WR T F_ref17_Rightr23 F_ref17_Rightr23b env H none [] Q := w_dreg0
def F_ref17_Rightr24b : List IStmt := [
 ⟨some 2, .mv (.c (.bool false)), none⟩]
def F_ref17_Rightr24 : List IStmt := F_ref17_Rightr24b
theorem F_ref17_Rightr24_W {T : Tab} {env : Env} {H : Heap} {Q : Post} : W T (.reg F_ref17_Rightr24) env H Q ↔ WR T F_ref17_Rightr24 F_ref17_Rightr24b env H none [] Q := w_reg
def F_ref17_Rightr25b : List IStmt := [
 ⟨some 203, .mv (.t 4), none⟩,
 ⟨some 204, .fa 9 (.t 1), none⟩,
 ⟨some 205, .load (.t 204), none⟩,
 ⟨some 206, .mv (.t 7), none⟩,
 ⟨some 207, .ixa 1 (.t 205) (.t 206), none⟩,
 ⟨some 208, .load (.t 207), none⟩,
 ⟨some 209, .bsli 1 1 [.int .u64 0] [(0, (.t 208))], none⟩,
 ⟨some 210, .app 1 8 (.t 203) (.t 209), none⟩,
 ⟨some 4, .mv (.t 210), none⟩]
def F_ref17_Rightr25 : List IStmt := F_ref17_Rightr25b
theorem F_ref17_Rightr25_W {T : Tab} {env : Env} {H : Heap} {Q : Post} : W T (.reg F_ref17_Rightr25) env H Q ↔ WR T F_ref17_Rightr25 F_ref17_Rightr25b env H none [] Q := w_reg
def F_ref17_Rightr22b : List IStmt := [
 ⟨some 176, .mv (.t 7), none⟩,
 ⟨some 177, .bin .add (.t 176) (.c (.int .i64 1)), none⟩,
 ⟨some 7, .mv (.t 177), none⟩]
def F_ref17_Rightr22 : List IStmt := F_ref17_Rightr22b
theorem F_ref17_Rightr22_W {T : Tab} {env : Env} {H : Heap} {Q : Post} : W T (.reg F_ref17_Rightr22) env H Q ↔ WR T F_ref17_Rightr22 F_ref17_Rightr22b env H none [] Q := w_reg
def F_ref17_Rightl2b : ICode := (.seq (.seq (.reg F_ref17_Rightr21) (.cond (.t 175) .skip (.exit 4))) (.seq (.block 5 (.seq (.seq (.dreg F_ref17_Rightr23 []) (.cond (.t 202) (.seq (.reg F_ref17_Rightr24) .ret) .skip)) (.reg F_ref17_Rightr25))) (.reg F_ref17_Rightr22)))
def F_ref17_Rightl2 : ICode := F_ref17_Rightl2b
theorem F_ref17_Rightl2_W {T : Tab} {env : Env} {H : Heap} {Q : Post} : W T F_ref17_Rightl2 env H Q ↔ W T F_ref17_Rightl2b env H Q := Iff.rfl
def F_ref17_Rightr26b : List IStmt := [
 ⟨some 8, .mv (.c (.int .i64 0)), none⟩]
def F_ref17_Rightr26 : List IStmt := F_ref17_Rightr26b
theorem F_ref17_Rightr26_W {T : Tab} {env : Env} {H : Heap} {Q : Post} : W T (.reg F_ref17_Rightr26) env H Q ↔ WR T F_ref17_Rightr26 F_ref17_Rightr26b env H none [] Q := w_reg
def F_ref17_Rightr27b : List IStmt := [
 ⟨some 211, .mv (.t 8), none⟩,
 ⟨some 212, .mv (.t 4), none⟩,
 ⟨some 213, .len 1 (.t 212), none⟩,
 ⟨some 214, .bin .lss (.t 211) (.t 213), none⟩]
def F_ref17_Rightr27 : List IStmt := F_ref17_Rightr27b
theorem F_ref17_Rightr27_W {T : Tab} {env : Env} {H : Heap} {Q : Post} : W T (.reg F_ref17_Rightr27) env H Q ↔ WR T F_ref17_Rightr27 F_ref17_Rightr27b env H none [] Q := w_reg
def F_ref17_Rightr29b : List IStmt := [
 ⟨some 217, .mv (.t 4), none⟩,
 ⟨some 218, .mv (.t 8), none⟩,
 ⟨some 219, .ixa 1 (.t 217) (.t 218), none⟩,
 ⟨some 220, .load (.t 219), none⟩,
 ⟨some 221, .fa 10 (.t 1), none⟩,
 ⟨some 222, .load (.t 221), none⟩,
 ⟨some 223, .len 1 (.t 222), none⟩,
 ⟨some 224, .fa 11 (.t 1), none⟩,
 ⟨some 225, .load (.t 224), none⟩,
 ⟨some 226, .bin .add (.t 223) (.t 225), none⟩,
 ⟨some 227, .conv .u64 (.t 226), none⟩,
 ⟨some 228, .callc 27 [(.t 220), (.c (.int .u64 8)), (.c (.int .u64 0)), (.t 227)], none⟩,
 ⟨some 229, .un .not (.t 228), none⟩]
def F_ref17_Rightr29 : List IStmt := F_ref17_Rightr29b
theorem F_ref17_Rightr29_W {T : Tab} {env : Env} {H : Heap} {Q : Post} : W T (.dreg F_ref17_Rightr29 []) env H Q ↔ WR T F_ref17_Rightr29 F_ref17_Rightr29b env H none [] Q := w_dreg0
def F_ref17_Rightr30b : List IStmt := [
 ⟨some 2, .mv (.c (.bool false)), none⟩]
def F_ref17_Rightr30 : List IStmt := F_ref17_Rightr30b
theorem F_ref17_Rightr30_W {T : Tab} {env : Env} {H : Heap} {Q : Post} : W T (.reg F_ref17_Rightr30) env H Q ↔ WR T F_ref17_Rightr30 F_ref17_Rightr30b env H none [] Q := w_reg
def F_ref17_Rightr31b : List IStmt := [
 ⟨some 9, .mv (.c (.int .i64 0)), none⟩]
def F_ref17_Rightr31 : List IStmt := F_ref17_Rightr31b
theorem F_ref17_Rightr31_W {T : Tab} {env : Env} {H : Heap} {Q : Post} : W T (.reg F_ref17_Rightr31) env H Q ↔ WR T F_ref17_Rightr31 F_ref17_Rightr31b env H none [] Q := w_reg
def F_ref17_Rightr32b : List IStmt := [
 ⟨some 230, .mv (.t 9), none⟩,
 ⟨some 231, .mv (.t 8), none⟩,
 ⟨some 232, .bin .lss (.t 230) (.t 231), none⟩]
def F_ref17_Rightr32 : List IStmt := F_ref17_Rightr32b
theorem F_ref17_Rightr32_W {T : Tab} {env : Env} {H : Heap} {Q : Post} : W T (.reg F_ref17_Rightr32) env H Q ↔ WR T F_ref17_Rightr32 F_ref17_Rightr32b env H none [] Q := w_reg
def F_ref17_Rightr34b : List IStmt := [
 ⟨some 235, .mv (.t 4), none⟩,
 ⟨some 236, .mv (.t 8), none⟩,
 ⟨some 237, .ixa 1 (.t 235) (.t 236), none⟩,
 ⟨some 238, .load (.t 237), none⟩,
 ⟨some 239, .mv (.t 4), none⟩,
 ⟨some 240, .mv (.t 9), none⟩,
 ⟨some 241, .ixa 1 (.t 239) (.t 240), none⟩,
 ⟨some 242, .load (.t 241), none⟩,
 ⟨some 243, .callc 28 [(.t 238), (.c (.int .u64 8)), (.t 242), (.c (.int .u64 8))], none⟩,
 ⟨some 244, .un .not (.t 243), none⟩]
def F_ref17_Rightr34 : List IStmt := F_ref17_Rightr34b
theorem F_ref17_Rightr34_W {T : Tab} {env : Env} {H : Heap} {Q : Post} : W T (.dreg F_ref17_Rightr34 []) env H Q ↔ WR T F_ref17_Rightr34 F_ref17_Rightr34b env H none [] Q := w_dreg0
def F_ref17_Rightr35b : List IStmt := [
 ⟨some 2, .mv (.c (.bool false)), none⟩]
def F_ref17_Rightr35 : List IStmt := F_ref17_Rightr35b
theorem F_ref17_Rightr35_W {T : Tab} {env : Env} {H : Heap} {Q : Post} : W T (.reg F_ref17_Rightr35) env H Q ↔ WR T F_ref17_Rightr35 F_ref17_Rightr35b env H none [] Q := w_reg
def F_ref17_Rightr33b : List IStmt := [
 ⟨some 233, .mv (.t 9), none⟩,
 ⟨some 234, .bin .add (.t 233) (.c (.int .i64 1)), none⟩,
 ⟨some 9, .mv (.t 234), none⟩]
def F_ref17_Rightr33 : List IStmt := F_ref17_Rightr33b
theorem F_ref17_Rightr33_W {T : Tab} {env : Env} {H : Heap} {Q : Post} : W T (.reg F_ref17_Rightr33) env H Q ↔ WR T F_ref17_Rightr33 F_ref17_Rightr33b env H none [] Q := w_reg
def F_ref17_Rightl4b : ICode := (.seq (.seq (.reg F_ref17_Rightr32) (.cond (.t 232) .skip (.exit 8))) (.seq (.block 9 (.seq (.dreg F_ref17_Rightr34 []) (.cond (.t 244) (.seq (.reg F_ref17_Rightr35) .ret) .skip))) (.reg F_ref17_Rightr33)))
def F_ref17_Rightl4 : ICode := F_ref17_Rightl4b
theorem F_ref17_Rightl4_W {T : Tab} {env : Env} {H : Heap} {Q : Post} : W T F_ref17_Rightl4 env H Q ↔ W T F_ref17_Rightl4b env H Q := Iff.rfl
def F_ref17_Rightr28b : List IStmt := [
 ⟨some 215, .mv (.t 8), none⟩,
 ⟨some 216, .bin .add (.t 215) (.c (.int .i64 1)), none⟩,
 ⟨some 8, .mv (.t 216), none⟩]
def F_ref17_Rightr28 : List IStmt := F_ref17_Rightr28b
theorem F_ref17_Rightr28_W {T : Tab} {env : Env} {H : Heap} {Q : Post} : W T (.reg F_ref17_Rightr28) env H Q ↔ WR T F_ref17_Rightr28 F_ref17_Rightr28b env H none [] Q := w_reg
def F_ref17_Rightl3b : ICode := (.seq (.seq (.reg F_ref17_Rightr27) (.cond (.t 214) .skip (.exit 6))) (.seq (.block 7 (.seq (.seq (.dreg F_ref17_Rightr29 []) (.cond (.t 229) (.seq (.reg F_ref17_Rightr30) .ret) .skip)) (.seq (.reg F_ref17_Rightr31) (.block 8 (.loop F_ref17_Rightl4))))) (.reg F_ref17_Rightr28)))
def F_ref17_Rightl3 : ICode := F_ref17_Rightl3b
theorem F_ref17_Rightl3_W {T : Tab} {env : Env} {H : Heap} {Q : Post} : W T F_ref17_Rightl3 env H Q ↔ W T F_ref17_Rightl3b env H Q := Iff.rfl
def F_ref17_Rightr36b : List IStmt := [
 ⟨some 2, .mv (.c (.bool true)), none⟩]
def F_ref17_Rightr36 : List IStmt := F_ref17_Rightr36b
theorem F_ref17_Rightr36_W {T : Tab} {env : Env} {H : Heap} {Q : Post} : W T (.reg F_ref17_Rightr36) env H Q ↔ WR T F_ref17_Rightr36 F_ref17_Rightr36b env H none [] Q := w_reg
def F_ref17_Rightcb : ICode := (.seq (.reg F_ref17_Rightr0) (.seq (.seq (.reg F_ref17_Rightr1) (.cond (.t 35) (.seq (.reg F_ref17_Rightr2) .ret) .skip)) (.seq (.seq (.reg F_ref17_Rightr3) (.block 0 (.loop F_ref17_Rightl0))) (.seq (.seq (.reg F_ref17_Rightr8) (.cond (.t 105) (.seq (.reg F_ref17_Rightr9) .ret) .skip)) (.seq (.seq (.reg F_ref17_Rightr10) (.cond (.t 118) (.seq (.reg F_ref17_Rightr11) .ret) .skip)) (.seq (.reg F_ref17_Rightr12) (.seq (.seq (.reg F_ref17_Rightr13) (.block 2 (.loop F_ref17_Rightl1))) (.seq (.seq (.reg F_ref17_Rightr20) (.block 4 (.loop F_ref17_Rightl2))) (.seq (.seq (.reg F_ref17_Rightr26) (.block 6 (.loop F_ref17_Rightl3))) (.seq (.reg F_ref17_Rightr36) .ret))))))))))
def F_ref17_Rightc : ICode := F_ref17_Rightcb
theorem F_ref17_Rightc_W {T : Tab} {env : Env} {H : Heap} {Q : Post} : W T F_ref17_Rightc env H Q ↔ W T F_ref17_Rightcb env H Q := Iff.rfl
def F_ref17_Right : IFn := ⟨245, [.tmp 2], F_ref17_Rightc⟩
set_option linter.defProp false in
set_option maxRecDepth 100000 in
def N_ref17_RightP := And.intro F_ref17_Rightr0b.eq_1 (And.intro @F_ref17_Rightr0_W (And.intro F_ref17_Rightr1b.eq_1 (And.intro @F_ref17_Rightr1_W (And.intro @F_ref17_Rightr1_g3 (And.intro @F_ref17_Rightr1_g8 (And.intro @F_ref17_Rightr1_g14 (And.intro @F_ref17_Rightr1_g20 (And.intro F_ref17_Rightr2b.eq_1 (And.intro @F_ref17_Rightr2_W (And.intro F_ref17_Rightr3b.eq_1 (And.intro @F_ref17_Rightr3_W (And.intro F_ref17_Rightr4b.eq_1 (And.intro @F_ref17_Rightr4_W (And.intro F_ref17_Rightr6b.eq_1 (And.intro @F_ref17_Rightr6_W (And.intro @F_ref17_Rightr6_g7 (And.intro F_ref17_Rightr7b.eq_1 (And.intro @F_ref17_Rightr7_W (And.intro F_ref17_Rightr5b.eq_1 (And.intro @F_ref17_Rightr5_W (And.intro @F_ref17_Rightl0_W (And.intro F_ref17_Rightl0b.eq_1 (And.intro F_ref17_Rightr8b.eq_1 (And.intro @F_ref17_Rightr8_W (And.intro @F_ref17_Rightr8_g4 (And.intro @F_ref17_Rightr8_g9 (And.intro @F_ref17_Rightr8_g14 (And.intro @F_ref17_Rightr8_g19 (And.intro @F_ref17_Rightr8_g28 (And.intro @F_ref17_Rightr8_g33 (And.intro @F_ref17_Rightr8_g38 (And.intro @F_ref17_Rightr8_g43 (And.intro F_ref17_Rightr9b.eq_1 (And.intro @F_ref17_Rightr9_W (And.intro F_ref17_Rightr10b.eq_1 (And.intro @F_ref17_Rightr10_W (And.intro @F_ref17_Rightr10_g3 (And.intro F_ref17_Rightr11b.eq_1 (And.intro @F_ref17_Rightr11_W (And.intro F_ref17_Rightr12b.eq_1 (And.intro @F_ref17_Rightr12_W (And.intro F_ref17_Rightr13b.eq_1 (And.intro @F_ref17_Rightr13_W (And.intro F_ref17_Rightr14b.eq_1 (And.intro @F_ref17_Rightr14_W (And.intro F_ref17_Rightr16b.eq_1 (And.intro @F_ref17_Rightr16_W (And.intro F_ref17_Rightr17b.eq_1 (And.intro @F_ref17_Rightr17_W (And.intro @F_ref17_Rightr17_g8 (And.intro @F_ref17_Rightr17_g18 (And.intro @F_ref17_Rightr17_g25 (And.intro @F_ref17_Rightr17_g29 (And.intro F_ref17_Rightr18b.eq_1 (And.intro @F_ref17_Rightr18_W (And.intro F_ref17_Rightr19b.eq_1 (And.intro @F_ref17_Rightr19_W (And.intro F_ref17_Rightr15b.eq_1 (And.intro @F_ref17_Rightr15_W (And.intro @F_ref17_Rightl1_W (And.intro F_ref17_Rightl1b.eq_1 (And.intro F_ref17_Rightr20b.eq_1 (And.intro @F_ref17_Rightr20_W (And.intro F_ref17_Rightr21b.eq_1 (And.intro @F_ref17_Rightr21_W (And.intro F_ref17_Rightr23b.eq_1 (And.intro @F_ref17_Rightr23_g7 (And.intro @F_ref17_Rightr23_g10 (And.intro @F_ref17_Rightr23_W (And.intro F_ref17_Rightr24b.eq_1 (And.intro @F_ref17_Rightr24_W (And.intro F_ref17_Rightr25b.eq_1 (And.intro @F_ref17_Rightr25_W (And.intro F_ref17_Rightr22b.eq_1 (And.intro @F_ref17_Rightr22_W (And.intro @F_ref17_Rightl2_W (And.intro F_ref17_Rightl2b.eq_1 (And.intro F_ref17_Rightr26b.eq_1 (And.intro @F_ref17_Rightr26_W (And.intro F_ref17_Rightr27b.eq_1 (And.intro @F_ref17_Rightr27_W (And.intro F_ref17_Rightr29b.eq_1 (And.intro @F_ref17_Rightr29_W (And.intro F_ref17_Rightr30b.eq_1 (And.intro @F_ref17_Rightr30_W (And.intro F_ref17_Rightr31b.eq_1 (And.intro @F_ref17_Rightr31_W (And.intro F_ref17_Rightr32b.eq_1 (And.intro @F_ref17_Rightr32_W (And.intro F_ref17_Rightr34b.eq_1 (And.intro @F_ref17_Rightr34_W (And.intro F_ref17_Rightr35b.eq_1 (And.intro @F_ref17_Rightr35_W (And.intro F_ref17_Rightr33b.eq_1 (And.intro @F_ref17_Rightr33_W (And.intro @F_ref17_Rightl4_W (And.intro F_ref17_Rightl4b.eq_1 (And.intro F_ref17_Rightr28b.eq_1 (And.intro @F_ref17_Rightr28_W (And.intro @F_ref17_Rightl3_W (And.intro F_ref17_Rightl3b.eq_1 (And.intro F_ref17_Rightr36b.eq_1 (And.intro @F_ref17_Rightr36_W (And.intro @F_ref17_Rightc_W (F_ref17_Rightcb.eq_1)))))))))))))))))))))))))))))))))))))))))))))))))))))))))))))))))))))))))))))))))))))))))))))))))))))))))
theorem N_ref17_Right : type_of% N_ref17_RightP := N_ref17_RightP
set_option maxRecDepth 1000000 in
theorem F_ref17_Right_chk : chkF Tryz.prog 9 F_ref17_Right = true := by kernel_rfl

/-! ### law17_MakerRight -/
def F_law17_MakerRightr0b : List IStmt := [
 ⟨some 1, .box 18 (.t 0), none⟩,
 ⟨some 2, .mv (.c (.bool false)), none⟩]
def F_law17_MakerRightr0 : List IStmt := F_law17_MakerRightr0b
theorem F_law17_MakerRightr0_W {T : Tab} {env : Env} {H : Heap} {Q : Post} : W T (.reg F_law17_MakerRightr0) env H Q ↔ WR T F_law17_MakerRightr0 F_law17_MakerRightr0b env H none [] Q := w_reg
def F_law17_MakerRightr1b : List IStmt := [
 ⟨some 3, .loadN 18 (.t 1), none⟩,
 ⟨some 4, .callc 7 [(.t 3)], none⟩,
 ⟨some 5, .mv (.t 4), none⟩,
 ⟨some 6, .loadN 18 (.t 1), some (2, false)⟩,
 ⟨some 7, .callc 8 [(.t 6)], some (2, false)⟩,
 ⟨some 8, .loadN 18 (.t 1), some (2, false)⟩,
 ⟨some 9, .callc 9 [(.t 8)], some (2, false)⟩,
 ⟨some 10, .eqb false (.t 7) (.t 9), some (2, false)⟩,
 ⟨some 11, .mv (.t 10), some (2, false)⟩,
 ⟨some 12, .callc 10 [], some (8, true)⟩,
 ⟨some 13, .pick (.t 11) (.t 12) (.c (.bool false)), some (2, false)⟩,
 ⟨some 14, .pick (.t 5) (.c (.bool true)) (.t 13), none⟩,
 ⟨some 2, .mv (.t 14), none⟩]
def F_law17_MakerRightr1 : List IStmt := F_law17_MakerRightr1b
theorem F_law17_MakerRightr1_g2 {env : Env} : yieldI F_law17_MakerRightr1 env 2 = bOf (env 5) := rfl
theorem F_law17_MakerRightr1_g8 {env : Env} : yieldI F_law17_MakerRightr1 env 8 = bOf (env 11) := rfl
theorem F_law17_MakerRightr1_W {T : Tab} {env : Env} {H : Heap} {Q : Post} : W T (.dreg F_law17_MakerRightr1 []) env H Q ↔ WR T F_law17_MakerRightr1 F_law17_MakerRightr1b env H none [] Q := w_dreg0
def F_law17_MakerRightcb : ICode := (.seq (.reg F_law17_MakerRightr0) (.seq (.dreg F_law17_MakerRightr1 []) .ret))
def F_law17_MakerRightc : ICode := F_law17_MakerRightcb
theorem F_law17_MakerRightc_W {T : Tab} {env : Env} {H : Heap} {Q : Post} : W T F_law17_MakerRightc env H Q ↔ W T F_law17_MakerRightcb env H Q := Iff.rfl
def F_law17_MakerRight : IFn := ⟨15, [.tmp 2], F_law17_MakerRightc⟩
set_option linter.defProp false in
set_option maxRecDepth 100000 in
def N_law17_MakerRightP := And.intro F_law17_MakerRightr0b.eq_1 (And.intro @F_law17_MakerRightr0_W (And.intro F_law17_MakerRightr1b.eq_1 (And.intro @F_law17_MakerRightr1_g2 (And.intro @F_law17_MakerRightr1_g8 (And.intro @F_law17_MakerRightr1_W (And.intro @F_law17_MakerRightc_W (F_law17_MakerRightcb.eq_1)))))))
theorem N_law17_MakerRight : type_of% N_law17_MakerRightP := N_law17_MakerRightP
set_option maxRecDepth 1000000 in
theorem F_law17_MakerRight_chk : chkF Tryz.prog 3 F_law17_MakerRight = true := by kernel_rfl

/-- The functions, by number. -/
def TMr_l : List (Nat × IFn) := [(7, F_law17_great), (50, F_le_Plain), (21, F_maker_text), (110, F_maker_find_maker_version), (51, F_maker_versions), (22, F_maker_symbols), (111, F_apply_intel), (112, F_apply_arm), (52, F_apply_Of), (113, F_num_Sub), (53, F_num_Inside), (54, F_num_Apart), (23, F_maker_relocations), (8, F_maker_Right), (24, F_ref02_Plain), (114, F_ref17_Which), (55, F_ref17_Versions), (25, F_ref17_symbols), (26, F_ref15_Of), (56, F_ref01_Less), (57, F_ref01_Sum), (27, F_ref01_Inside), (28, F_ref01_Apart), (9, F_ref17_Right), (3, F_law17_MakerRight)]
def TMr : Tab := tabOf TMr_l
theorem TMr_chk : ∀ p ∈ TMr_l, chkF Tryz.prog p.1 p.2 = true := by
  intro p hp
  simp only [TMr_l, List.mem_cons, List.not_mem_nil, or_false] at hp
  rcases hp with rfl | rfl | rfl | rfl | rfl | rfl | rfl | rfl | rfl | rfl | rfl | rfl | rfl | rfl | rfl | rfl | rfl | rfl | rfl | rfl | rfl | rfl | rfl | rfl | rfl
  · exact F_law17_great_chk
  · exact F_le_Plain_chk
  · exact F_maker_text_chk
  · exact F_maker_find_maker_version_chk
  · exact F_maker_versions_chk
  · exact F_maker_symbols_chk
  · exact F_apply_intel_chk
  · exact F_apply_arm_chk
  · exact F_apply_Of_chk
  · exact F_num_Sub_chk
  · exact F_num_Inside_chk
  · exact F_num_Apart_chk
  · exact F_maker_relocations_chk
  · exact F_maker_Right_chk
  · exact F_ref02_Plain_chk
  · exact F_ref17_Which_chk
  · exact F_ref17_Versions_chk
  · exact F_ref17_symbols_chk
  · exact F_ref15_Of_chk
  · exact F_ref01_Less_chk
  · exact F_ref01_Sum_chk
  · exact F_ref01_Inside_chk
  · exact F_ref01_Apart_chk
  · exact F_ref17_Right_chk
  · exact F_law17_MakerRight_chk
theorem TMr_good : Good Tryz.prog TMr := good_tab (by kernel_rfl) TMr_chk

end Go.Proofs.YtdjgknlhpdnhbaaGreat
