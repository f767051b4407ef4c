/- The small language's text of functions of the given program, and the check that it stands for them. Printed by a program. -/
import Derived.Test.YtdkdifjjpbfohaaFw24
import Derived.Test.YtdkdifjjpbfohaaChecked
import Derived.KernelRfl
namespace Go.Proofs.Ytdkdifjjpbfohaa
open Go Fw

/-! ### leb_PutU -/
def F_leb_PutUr0 : List IStmt := [
  ⟨some 2, .mv (.c (.slice none 0 0)), none⟩]
theorem F_leb_PutUr0_W {T : Tab} {env : Env} {H : Heap} {Q : Post} : W T (.reg F_leb_PutUr0) env H Q ↔ WR T F_leb_PutUr0 [
  ⟨some 2, .mv (.c (.slice none 0 0)), none⟩] env H none [] Q := w_reg
def F_leb_PutUr1 : List IStmt := [
  ⟨some 3, .mv (.c (.slice none 0 0)), none⟩]
theorem F_leb_PutUr1_W {T : Tab} {env : Env} {H : Heap} {Q : Post} : W T (.reg F_leb_PutUr1) env H Q ↔ WR T F_leb_PutUr1 [
  ⟨some 3, .mv (.c (.slice none 0 0)), none⟩] env H none [] Q := w_reg
def F_leb_PutUr2 : List IStmt := [
  ⟨some 4, .mv (.t 0), none⟩,
  ⟨some 5, .bin .geq (.t 4) (.c (.int .u64 128)), none⟩]
theorem F_leb_PutUr2_W {T : Tab} {env : Env} {H : Heap} {Q : Post} : W T (.reg F_leb_PutUr2) env H Q ↔ WR T F_leb_PutUr2 [
  ⟨some 4, .mv (.t 0), none⟩,
  ⟨some 5, .bin .geq (.t 4) (.c (.int .u64 128)), none⟩] env H none [] Q := w_reg
def F_leb_PutUr3 : List IStmt := [
  ⟨some 6, .mv (.t 3), none⟩,
  ⟨some 7, .mv (.t 0), none⟩,
  ⟨some 8, .conv .u8 (.t 7), none⟩,
  ⟨some 9, .bin .or (.t 8) (.c (.int .u8 128)), none⟩,
  ⟨some 10, .bsli 1 1 [.int .u8 0] [(0, (.t 9))], none⟩,
  ⟨some 11, .app 1 1 (.t 6) (.t 10), none⟩,
  ⟨some 3, .mv (.t 11), none⟩]
theorem F_leb_PutUr3_W {T : Tab} {env : Env} {H : Heap} {Q : Post} : W T (.reg F_leb_PutUr3) env H Q ↔ WR T F_leb_PutUr3 [
  ⟨some 6, .mv (.t 3), none⟩,
  ⟨some 7, .mv (.t 0), none⟩,
  ⟨some 8, .conv .u8 (.t 7), none⟩,
  ⟨some 9, .bin .or (.t 8) (.c (.int .u8 128)), none⟩,
  ⟨some 10, .bsli 1 1 [.int .u8 0] [(0, (.t 9))], none⟩,
  ⟨some 11, .app 1 1 (.t 6) (.t 10), none⟩,
  ⟨some 3, .mv (.t 11), none⟩] env H none [] Q := w_reg
def F_leb_PutUr4 : List IStmt := [
  ⟨some 12, .mv (.t 0), none⟩,
  ⟨some 13, .bin .shr (.t 12) (.c (.int .u64 7)), none⟩,
  ⟨some 0, .mv (.t 13), none⟩]
theorem F_leb_PutUr4_W {T : Tab} {env : Env} {H : Heap} {Q : Post} : W T (.reg F_leb_PutUr4) env H Q ↔ WR T F_leb_PutUr4 [
  ⟨some 12, .mv (.t 0), none⟩,
  ⟨some 13, .bin .shr (.t 12) (.c (.int .u64 7)), none⟩,
  ⟨some 0, .mv (.t 13), none⟩] env H none [] Q := w_reg
def F_leb_PutUl0 : ICode := (.seq (.seq (.reg F_leb_PutUr2) (.cond (.t 5) .skip (.exit 0))) (.block 1 (.seq (.reg F_leb_PutUr3) (.reg F_leb_PutUr4))))
theorem F_leb_PutUl0_W {T : Tab} {env : Env} {H : Heap} {Q : Post} : W T F_leb_PutUl0 env H Q ↔ W T (.seq (.seq (.reg F_leb_PutUr2) (.cond (.t 5) .skip (.exit 0))) (.block 1 (.seq (.reg F_leb_PutUr3) (.reg F_leb_PutUr4)))) env H Q := Iff.rfl
def F_leb_PutUr5 : List IStmt := [
  ⟨some 14, .mv (.t 3), none⟩,
  ⟨some 15, .mv (.t 0), none⟩,
  ⟨some 16, .conv .u8 (.t 15), none⟩,
  ⟨some 17, .bsli 1 1 [.int .u8 0] [(0, (.t 16))], none⟩,
  ⟨some 18, .app 1 1 (.t 14) (.t 17), none⟩,
  ⟨some 2, .mv (.t 18), none⟩]
theorem F_leb_PutUr5_W {T : Tab} {env : Env} {H : Heap} {Q : Post} : W T (.reg F_leb_PutUr5) env H Q ↔ WR T F_leb_PutUr5 [
  ⟨some 14, .mv (.t 3), none⟩,
  ⟨some 15, .mv (.t 0), none⟩,
  ⟨some 16, .conv .u8 (.t 15), none⟩,
  ⟨some 17, .bsli 1 1 [.int .u8 0] [(0, (.t 16))], none⟩,
  ⟨some 18, .app 1 1 (.t 14) (.t 17), none⟩,
  ⟨some 2, .mv (.t 18), none⟩] env H none [] Q := w_reg
def F_leb_PutUc : ICode := (.seq (.reg F_leb_PutUr0) (.seq (.reg F_leb_PutUr1) (.seq (.block 0 (.loop F_leb_PutUl0)) (.seq (.reg F_leb_PutUr5) .ret))))
theorem F_leb_PutUc_W {T : Tab} {env : Env} {H : Heap} {Q : Post} : W T F_leb_PutUc env H Q ↔ W T (.seq (.reg F_leb_PutUr0) (.seq (.reg F_leb_PutUr1) (.seq (.block 0 (.loop F_leb_PutUl0)) (.seq (.reg F_leb_PutUr5) .ret)))) env H Q := Iff.rfl
def F_leb_PutU : IFn := ⟨19, [.tmp 2], F_leb_PutUc⟩
set_option maxRecDepth 1000000 in
theorem F_leb_PutU_chk : chkF Try.prog 12 F_leb_PutU = true := by kernel_rfl

/-! ### leb_PutS -/
def F_leb_PutSr0 : List IStmt := [
  ⟨some 2, .mv (.c (.slice none 0 0)), none⟩]
theorem F_leb_PutSr0_W {T : Tab} {env : Env} {H : Heap} {Q : Post} : W T (.reg F_leb_PutSr0) env H Q ↔ WR T F_leb_PutSr0 [
  ⟨some 2, .mv (.c (.slice none 0 0)), none⟩] env H none [] Q := w_reg
def F_leb_PutSr1 : List IStmt := [
  ⟨some 3, .mv (.c (.slice none 0 0)), none⟩]
theorem F_leb_PutSr1_W {T : Tab} {env : Env} {H : Heap} {Q : Post} : W T (.reg F_leb_PutSr1) env H Q ↔ WR T F_leb_PutSr1 [
  ⟨some 3, .mv (.c (.slice none 0 0)), none⟩] env H none [] Q := w_reg
def F_leb_PutSr2 : List IStmt := [
  ⟨some 4, .mv (.t 0), none⟩,
  ⟨some 5, .bin .lss (.t 4) (.c (.int .i64 (-64))), none⟩,
  ⟨some 6, .mv (.t 5), none⟩,
  ⟨some 7, .mv (.t 0), some (2, false)⟩,
  ⟨some 8, .bin .gtr (.t 7) (.c (.int .i64 63)), some (2, false)⟩,
  ⟨some 9, .pick (.t 6) (.c (.bool true)) (.t 8), none⟩]
theorem F_leb_PutSr2_W {T : Tab} {env : Env} {H : Heap} {Q : Post} : W T (.reg F_leb_PutSr2) env H Q ↔ WR T F_leb_PutSr2 [
  ⟨some 4, .mv (.t 0), none⟩,
  ⟨some 5, .bin .lss (.t 4) (.c (.int .i64 (-64))), none⟩,
  ⟨some 6, .mv (.t 5), none⟩,
  ⟨some 7, .mv (.t 0), some (2, false)⟩,
  ⟨some 8, .bin .gtr (.t 7) (.c (.int .i64 63)), some (2, false)⟩,
  ⟨some 9, .pick (.t 6) (.c (.bool true)) (.t 8), none⟩] env H none [] Q := w_reg
theorem F_leb_PutSr2_g2 {env : Env} : yieldI F_leb_PutSr2 env 2 = bOf (env 6) := rfl
def F_leb_PutSr3 : List IStmt := [
  ⟨some 10, .mv (.t 3), none⟩,
  ⟨some 11, .mv (.t 0), none⟩,
  ⟨some 12, .conv .u8 (.t 11), none⟩,
  ⟨some 13, .bin .or (.t 12) (.c (.int .u8 128)), none⟩,
  ⟨some 14, .bsli 1 1 [.int .u8 0] [(0, (.t 13))], none⟩,
  ⟨some 15, .app 1 1 (.t 10) (.t 14), none⟩,
  ⟨some 3, .mv (.t 15), none⟩]
theorem F_leb_PutSr3_W {T : Tab} {env : Env} {H : Heap} {Q : Post} : W T (.reg F_leb_PutSr3) env H Q ↔ WR T F_leb_PutSr3 [
  ⟨some 10, .mv (.t 3), none⟩,
  ⟨some 11, .mv (.t 0), none⟩,
  ⟨some 12, .conv .u8 (.t 11), none⟩,
  ⟨some 13, .bin .or (.t 12) (.c (.int .u8 128)), none⟩,
  ⟨some 14, .bsli 1 1 [.int .u8 0] [(0, (.t 13))], none⟩,
  ⟨some 15, .app 1 1 (.t 10) (.t 14), none⟩,
  ⟨some 3, .mv (.t 15), none⟩] env H none [] Q := w_reg
def F_leb_PutSr4 : List IStmt := [
  ⟨some 16, .mv (.t 0), none⟩,
  ⟨some 17, .bin .shr (.t 16) (.c (.int .u64 7)), none⟩,
  ⟨some 0, .mv (.t 17), none⟩]
theorem F_leb_PutSr4_W {T : Tab} {env : Env} {H : Heap} {Q : Post} : W T (.reg F_leb_PutSr4) env H Q ↔ WR T F_leb_PutSr4 [
  ⟨some 16, .mv (.t 0), none⟩,
  ⟨some 17, .bin .shr (.t 16) (.c (.int .u64 7)), none⟩,
  ⟨some 0, .mv (.t 17), none⟩] env H none [] Q := w_reg
def F_leb_PutSl0 : ICode := (.seq (.seq (.reg F_leb_PutSr2) (.cond (.t 9) .skip (.exit 0))) (.block 1 (.seq (.reg F_leb_PutSr3) (.reg F_leb_PutSr4))))
theorem F_leb_PutSl0_W {T : Tab} {env : Env} {H : Heap} {Q : Post} : W T F_leb_PutSl0 env H Q ↔ W T (.seq (.seq (.reg F_leb_PutSr2) (.cond (.t 9) .skip (.exit 0))) (.block 1 (.seq (.reg F_leb_PutSr3) (.reg F_leb_PutSr4)))) env H Q := Iff.rfl
def F_leb_PutSr5 : List IStmt := [
  ⟨some 18, .mv (.t 3), none⟩,
  ⟨some 19, .mv (.t 0), none⟩,
  ⟨some 20, .conv .u8 (.t 19), none⟩,
  ⟨some 21, .bin .and (.t 20) (.c (.int .u8 127)), none⟩,
  ⟨some 22, .bsli 1 1 [.int .u8 0] [(0, (.t 21))], none⟩,
  ⟨some 23, .app 1 1 (.t 18) (.t 22), none⟩,
  ⟨some 2, .mv (.t 23), none⟩]
theorem F_leb_PutSr5_W {T : Tab} {env : Env} {H : Heap} {Q : Post} : W T (.reg F_leb_PutSr5) env H Q ↔ WR T F_leb_PutSr5 [
  ⟨some 18, .mv (.t 3), none⟩,
  ⟨some 19, .mv (.t 0), none⟩,
  ⟨some 20, .conv .u8 (.t 19), none⟩,
  ⟨some 21, .bin .and (.t 20) (.c (.int .u8 127)), none⟩,
  ⟨some 22, .bsli 1 1 [.int .u8 0] [(0, (.t 21))], none⟩,
  ⟨some 23, .app 1 1 (.t 18) (.t 22), none⟩,
  ⟨some 2, .mv (.t 23), none⟩] env H none [] Q := w_reg
def F_leb_PutSc : ICode := (.seq (.reg F_leb_PutSr0) (.seq (.reg F_leb_PutSr1) (.seq (.block 0 (.loop F_leb_PutSl0)) (.seq (.reg F_leb_PutSr5) .ret))))
theorem F_leb_PutSc_W {T : Tab} {env : Env} {H : Heap} {Q : Post} : W T F_leb_PutSc env H Q ↔ W T (.seq (.reg F_leb_PutSr0) (.seq (.reg F_leb_PutSr1) (.seq (.block 0 (.loop F_leb_PutSl0)) (.seq (.reg F_leb_PutSr5) .ret)))) env H Q := Iff.rfl
def F_leb_PutS : IFn := ⟨24, [.tmp 2], F_leb_PutSc⟩
set_option maxRecDepth 1000000 in
theorem F_leb_PutS_chk : chkF Try.prog 14 F_leb_PutS = true := by kernel_rfl

/-! ### leb_Read -/
def F_leb_Readr0 : List IStmt := [
  ⟨some 2, .mv (.c (.pointer none)), none⟩]
theorem F_leb_Readr0_W {T : Tab} {env : Env} {H : Heap} {Q : Post} : W T (.reg F_leb_Readr0) env H Q ↔ WR T F_leb_Readr0 [
  ⟨some 2, .mv (.c (.pointer none)), none⟩] env H none [] Q := w_reg
def F_leb_Readr1 : List IStmt := [
  ⟨some 3, .mv (.t 0), none⟩,
  ⟨some 4, .cpy 1 1 (.t 3), none⟩,
  ⟨some 5, .bld [.slice none 0 0, .int .i64 0, .int .i64 0] [(0, 1, (.t 4))], none⟩,
  ⟨some 6, .box 3 (.t 5), none⟩,
  ⟨some 2, .mv (.t 6), none⟩]
theorem F_leb_Readr1_W {T : Tab} {env : Env} {H : Heap} {Q : Post} : W T (.reg F_leb_Readr1) env H Q ↔ WR T F_leb_Readr1 [
  ⟨some 3, .mv (.t 0), none⟩,
  ⟨some 4, .cpy 1 1 (.t 3), none⟩,
  ⟨some 5, .bld [.slice none 0 0, .int .i64 0, .int .i64 0] [(0, 1, (.t 4))], none⟩,
  ⟨some 6, .box 3 (.t 5), none⟩,
  ⟨some 2, .mv (.t 6), none⟩] env H none [] Q := w_reg
def F_leb_Readc : ICode := (.seq (.reg F_leb_Readr0) (.seq (.reg F_leb_Readr1) .ret))
theorem F_leb_Readc_W {T : Tab} {env : Env} {H : Heap} {Q : Post} : W T F_leb_Readc env H Q ↔ W T (.seq (.reg F_leb_Readr0) (.seq (.reg F_leb_Readr1) .ret)) env H Q := Iff.rfl
def F_leb_Read : IFn := ⟨7, [.tmp 2], F_leb_Readc⟩
set_option maxRecDepth 1000000 in
theorem F_leb_Read_chk : chkF Try.prog 17 F_leb_Read = true := by kernel_rfl

/-! ### leb_Reader_groups -/
def F_leb_Reader_groupsr0 : List IStmt := [
  ⟨some 2, .mv (.c (.int .u64 0)), none⟩,
  ⟨some 3, .mv (.c (.int .i64 0)), none⟩,
  ⟨some 4, .mv (.c (.int .u8 0)), none⟩]
theorem F_leb_Reader_groupsr0_W {T : Tab} {env : Env} {H : Heap} {Q : Post} : W T (.reg F_leb_Reader_groupsr0) env H Q ↔ WR T F_leb_Reader_groupsr0 [
  ⟨some 2, .mv (.c (.int .u64 0)), none⟩,
  ⟨some 3, .mv (.c (.int .i64 0)), none⟩,
  ⟨some 4, .mv (.c (.int .u8 0)), none⟩] env H none [] Q := w_reg
def F_leb_Reader_groupsr1 : List IStmt := [
  ⟨some 5, .mv (.c (.int .u64 0)), none⟩]
theorem F_leb_Reader_groupsr1_W {T : Tab} {env : Env} {H : Heap} {Q : Post} : W T (.reg F_leb_Reader_groupsr1) env H Q ↔ WR T F_leb_Reader_groupsr1 [
  ⟨some 5, .mv (.c (.int .u64 0)), none⟩] env H none [] Q := w_reg
def F_leb_Reader_groupsr2 : List IStmt := [
  ⟨some 8, .mv (.c (.int .i64 0)), none⟩]
theorem F_leb_Reader_groupsr2_W {T : Tab} {env : Env} {H : Heap} {Q : Post} : W T (.reg F_leb_Reader_groupsr2) env H Q ↔ WR T F_leb_Reader_groupsr2 [
  ⟨some 8, .mv (.c (.int .i64 0)), none⟩] env H none [] Q := w_reg
def F_leb_Reader_groupsr3 : List IStmt := [
  ⟨some 9, .bin .lss (.t 8) (.c (.int .i64 10)), none⟩]
theorem F_leb_Reader_groupsr3_W {T : Tab} {env : Env} {H : Heap} {Q : Post} : W T (.reg F_leb_Reader_groupsr3) env H Q ↔ WR T F_leb_Reader_groupsr3 [
  ⟨some 9, .bin .lss (.t 8) (.c (.int .i64 10)), none⟩] env H none [] Q := w_reg
def F_leb_Reader_groupsr4 : List IStmt := [
  ⟨some 10, .mv (.t 8), none⟩,
  ⟨some 6, .mv (.t 10), none⟩]
theorem F_leb_Reader_groupsr4_W {T : Tab} {env : Env} {H : Heap} {Q : Post} : W T (.reg F_leb_Reader_groupsr4) env H Q ↔ WR T F_leb_Reader_groupsr4 [
  ⟨some 10, .mv (.t 8), none⟩,
  ⟨some 6, .mv (.t 10), none⟩] env H none [] Q := w_reg
def F_leb_Reader_groupsr5 : List IStmt := [
  ⟨some 11, .mv (.t 0), none⟩,
  ⟨some 12, .nilc (.t 11), none⟩,
  ⟨some 13, .fa 2 (.t 12), none⟩,
  ⟨some 14, .load (.t 13), none⟩,
  ⟨some 15, .bin .neq (.t 14) (.c (.int .i64 0)), none⟩]
theorem F_leb_Reader_groupsr5_W {T : Tab} {env : Env} {H : Heap} {Q : Post} : W T (.reg F_leb_Reader_groupsr5) env H Q ↔ WR T F_leb_Reader_groupsr5 [
  ⟨some 11, .mv (.t 0), none⟩,
  ⟨some 12, .nilc (.t 11), none⟩,
  ⟨some 13, .fa 2 (.t 12), none⟩,
  ⟨some 14, .load (.t 13), none⟩,
  ⟨some 15, .bin .neq (.t 14) (.c (.int .i64 0)), none⟩] env H none [] Q := w_reg
def F_leb_Reader_groupsr6 : List IStmt := [
  ⟨some 2, .mv (.c (.int .u64 0)), none⟩,
  ⟨some 3, .mv (.c (.int .i64 0)), none⟩,
  ⟨some 4, .mv (.c (.int .u8 0)), none⟩]
theorem F_leb_Reader_groupsr6_W {T : Tab} {env : Env} {H : Heap} {Q : Post} : W T (.reg F_leb_Reader_groupsr6) env H Q ↔ WR T F_leb_Reader_groupsr6 [
  ⟨some 2, .mv (.c (.int .u64 0)), none⟩,
  ⟨some 3, .mv (.c (.int .i64 0)), none⟩,
  ⟨some 4, .mv (.c (.int .u8 0)), none⟩] env H none [] Q := w_reg
def F_leb_Reader_groupsr7 : List IStmt := [
  ⟨some 16, .mv (.t 0), none⟩,
  ⟨some 17, .nilc (.t 16), none⟩,
  ⟨some 18, .fa 1 (.t 17), none⟩,
  ⟨some 19, .load (.t 18), none⟩,
  ⟨some 20, .mv (.t 0), none⟩,
  ⟨some 21, .nilc (.t 20), none⟩,
  ⟨some 22, .fa 0 (.t 21), none⟩,
  ⟨some 23, .load (.t 22), none⟩,
  ⟨some 24, .len 1 (.t 23), none⟩,
  ⟨some 25, .bin .eql (.t 19) (.t 24), none⟩]
theorem F_leb_Reader_groupsr7_W {T : Tab} {env : Env} {H : Heap} {Q : Post} : W T (.dreg F_leb_Reader_groupsr7 []) env H Q ↔ WR T F_leb_Reader_groupsr7 [
  ⟨some 16, .mv (.t 0), none⟩,
  ⟨some 17, .nilc (.t 16), none⟩,
  ⟨some 18, .fa 1 (.t 17), none⟩,
  ⟨some 19, .load (.t 18), none⟩,
  ⟨some 20, .mv (.t 0), none⟩,
  ⟨some 21, .nilc (.t 20), none⟩,
  ⟨some 22, .fa 0 (.t 21), none⟩,
  ⟨some 23, .load (.t 22), none⟩,
  ⟨some 24, .len 1 (.t 23), none⟩,
  ⟨some 25, .bin .eql (.t 19) (.t 24), none⟩] env H none [] Q := w_dreg0
def F_leb_Reader_groupsr8 : List IStmt := [
  ⟨some 26, .mv (.t 0), none⟩,
  ⟨some 27, .nilc (.t 26), none⟩,
  ⟨some 28, .fa 2 (.t 27), none⟩,
  ⟨none, .store 1 (.t 28) (.c (.int .i64 20)), none⟩]
theorem F_leb_Reader_groupsr8_W {T : Tab} {env : Env} {H : Heap} {Q : Post} : W T (.reg F_leb_Reader_groupsr8) env H Q ↔ WR T F_leb_Reader_groupsr8 [
  ⟨some 26, .mv (.t 0), none⟩,
  ⟨some 27, .nilc (.t 26), none⟩,
  ⟨some 28, .fa 2 (.t 27), none⟩,
  ⟨none, .store 1 (.t 28) (.c (.int .i64 20)), none⟩] env H none [] Q := w_reg
def F_leb_Reader_groupsr9 : List IStmt := [
  ⟨some 2, .mv (.c (.int .u64 0)), none⟩,
  ⟨some 3, .mv (.c (.int .i64 0)), none⟩,
  ⟨some 4, .mv (.c (.int .u8 0)), none⟩]
theorem F_leb_Reader_groupsr9_W {T : Tab} {env : Env} {H : Heap} {Q : Post} : W T (.reg F_leb_Reader_groupsr9) env H Q ↔ WR T F_leb_Reader_groupsr9 [
  ⟨some 2, .mv (.c (.int .u64 0)), none⟩,
  ⟨some 3, .mv (.c (.int .i64 0)), none⟩,
  ⟨some 4, .mv (.c (.int .u8 0)), none⟩] env H none [] Q := w_reg
def F_leb_Reader_groupsr10 : List IStmt := [
  ⟨some 29, .mv (.t 0), none⟩,
  ⟨some 30, .nilc (.t 29), none⟩,
  ⟨some 31, .fa 0 (.t 30), none⟩,
  ⟨some 32, .load (.t 31), none⟩,
  ⟨some 33, .mv (.t 0), none⟩,
  ⟨some 34, .nilc (.t 33), none⟩,
  ⟨some 35, .fa 1 (.t 34), none⟩,
  ⟨some 36, .load (.t 35), none⟩,
  ⟨some 37, .ixa 1 (.t 32) (.t 36), none⟩,
  ⟨some 38, .load (.t 37), none⟩,
  ⟨some 7, .mv (.t 38), none⟩]
theorem F_leb_Reader_groupsr10_W {T : Tab} {env : Env} {H : Heap} {Q : Post} : W T (.dreg F_leb_Reader_groupsr10 []) env H Q ↔ WR T F_leb_Reader_groupsr10 [
  ⟨some 29, .mv (.t 0), none⟩,
  ⟨some 30, .nilc (.t 29), none⟩,
  ⟨some 31, .fa 0 (.t 30), none⟩,
  ⟨some 32, .load (.t 31), none⟩,
  ⟨some 33, .mv (.t 0), none⟩,
  ⟨some 34, .nilc (.t 33), none⟩,
  ⟨some 35, .fa 1 (.t 34), none⟩,
  ⟨some 36, .load (.t 35), none⟩,
  ⟨some 37, .ixa 1 (.t 32) (.t 36), none⟩,
  ⟨some 38, .load (.t 37), none⟩,
  ⟨some 7, .mv (.t 38), none⟩] env H none [] Q := w_dreg0
def F_leb_Reader_groupsr11 : List IStmt := [
  ⟨some 39, .mv (.t 0), none⟩,
  ⟨some 40, .nilc (.t 39), none⟩,
  ⟨some 41, .fa 1 (.t 40), none⟩,
  ⟨some 42, .load (.t 41), none⟩,
  ⟨some 43, .bin .add (.t 42) (.c (.int .i64 1)), none⟩,
  ⟨some 44, .nilc (.t 39), none⟩,
  ⟨some 45, .fa 1 (.t 44), none⟩,
  ⟨none, .store 1 (.t 45) (.t 43), none⟩]
theorem F_leb_Reader_groupsr11_W {T : Tab} {env : Env} {H : Heap} {Q : Post} : W T (.reg F_leb_Reader_groupsr11) env H Q ↔ WR T F_leb_Reader_groupsr11 [
  ⟨some 39, .mv (.t 0), none⟩,
  ⟨some 40, .nilc (.t 39), none⟩,
  ⟨some 41, .fa 1 (.t 40), none⟩,
  ⟨some 42, .load (.t 41), none⟩,
  ⟨some 43, .bin .add (.t 42) (.c (.int .i64 1)), none⟩,
  ⟨some 44, .nilc (.t 39), none⟩,
  ⟨some 45, .fa 1 (.t 44), none⟩,
  ⟨none, .store 1 (.t 45) (.t 43), none⟩] env H none [] Q := w_reg
def F_leb_Reader_groupsr12 : List IStmt := [
  ⟨some 46, .mv (.t 5), none⟩,
  ⟨some 47, .mv (.t 7), none⟩,
  ⟨some 48, .bin .and (.t 47) (.c (.int .u8 127)), none⟩,
  ⟨some 49, .conv .u64 (.t 48), none⟩,
  ⟨some 50, .mv (.t 6), none⟩,
  ⟨some 51, .bin .mul (.c (.int .i64 7)) (.t 50), none⟩,
  ⟨some 52, .bin .shl (.t 49) (.t 51), none⟩,
  ⟨some 53, .bin .or (.t 46) (.t 52), none⟩,
  ⟨some 5, .mv (.t 53), none⟩]
theorem F_leb_Reader_groupsr12_W {T : Tab} {env : Env} {H : Heap} {Q : Post} : W T (.reg F_leb_Reader_groupsr12) env H Q ↔ WR T F_leb_Reader_groupsr12 [
  ⟨some 46, .mv (.t 5), none⟩,
  ⟨some 47, .mv (.t 7), none⟩,
  ⟨some 48, .bin .and (.t 47) (.c (.int .u8 127)), none⟩,
  ⟨some 49, .conv .u64 (.t 48), none⟩,
  ⟨some 50, .mv (.t 6), none⟩,
  ⟨some 51, .bin .mul (.c (.int .i64 7)) (.t 50), none⟩,
  ⟨some 52, .bin .shl (.t 49) (.t 51), none⟩,
  ⟨some 53, .bin .or (.t 46) (.t 52), none⟩,
  ⟨some 5, .mv (.t 53), none⟩] env H none [] Q := w_reg
def F_leb_Reader_groupsr13 : List IStmt := [
  ⟨some 54, .mv (.t 7), none⟩,
  ⟨some 55, .bin .lss (.t 54) (.c (.int .u8 128)), none⟩]
theorem F_leb_Reader_groupsr13_W {T : Tab} {env : Env} {H : Heap} {Q : Post} : W T (.reg F_leb_Reader_groupsr13) env H Q ↔ WR T F_leb_Reader_groupsr13 [
  ⟨some 54, .mv (.t 7), none⟩,
  ⟨some 55, .bin .lss (.t 54) (.c (.int .u8 128)), none⟩] env H none [] Q := w_reg
def F_leb_Reader_groupsr14 : List IStmt := [
  ⟨some 56, .mv (.t 5), none⟩,
  ⟨some 57, .mv (.t 6), none⟩,
  ⟨some 58, .bin .add (.t 57) (.c (.int .i64 1)), none⟩,
  ⟨some 59, .mv (.t 7), none⟩,
  ⟨some 2, .mv (.t 56), none⟩,
  ⟨some 3, .mv (.t 58), none⟩,
  ⟨some 4, .mv (.t 59), none⟩]
theorem F_leb_Reader_groupsr14_W {T : Tab} {env : Env} {H : Heap} {Q : Post} : W T (.reg F_leb_Reader_groupsr14) env H Q ↔ WR T F_leb_Reader_groupsr14 [
  ⟨some 56, .mv (.t 5), none⟩,
  ⟨some 57, .mv (.t 6), none⟩,
  ⟨some 58, .bin .add (.t 57) (.c (.int .i64 1)), none⟩,
  ⟨some 59, .mv (.t 7), none⟩,
  ⟨some 2, .mv (.t 56), none⟩,
  ⟨some 3, .mv (.t 58), none⟩,
  ⟨some 4, .mv (.t 59), none⟩] env H none [] Q := w_reg
def F_leb_Reader_groupsr15 : List IStmt := [
  ⟨some 60, .bin .add (.t 8) (.c (.int .i64 1)), none⟩,
  ⟨some 8, .mv (.t 60), none⟩]
theorem F_leb_Reader_groupsr15_W {T : Tab} {env : Env} {H : Heap} {Q : Post} : W T (.reg F_leb_Reader_groupsr15) env H Q ↔ WR T F_leb_Reader_groupsr15 [
  ⟨some 60, .bin .add (.t 8) (.c (.int .i64 1)), none⟩,
  ⟨some 8, .mv (.t 60), none⟩] env H none [] Q := w_reg
def F_leb_Reader_groupsl0 : ICode := (.seq (.reg F_leb_Reader_groupsr3) (.seq (.cond (.t 9) .skip (.exit 0)) (.seq (.block 1 (.seq (.reg F_leb_Reader_groupsr4) (.seq (.seq (.reg F_leb_Reader_groupsr5) (.cond (.t 15) (.seq (.reg F_leb_Reader_groupsr6) .ret) .skip)) (.seq (.seq (.dreg F_leb_Reader_groupsr7 []) (.cond (.t 25) (.seq (.reg F_leb_Reader_groupsr8) (.seq (.reg F_leb_Reader_groupsr9) .ret)) .skip)) (.seq (.dreg F_leb_Reader_groupsr10 []) (.seq (.reg F_leb_Reader_groupsr11) (.seq (.reg F_leb_Reader_groupsr12) (.seq (.reg F_leb_Reader_groupsr13) (.cond (.t 55) (.seq (.reg F_leb_Reader_groupsr14) .ret) .skip))))))))) (.reg F_leb_Reader_groupsr15))))
theorem F_leb_Reader_groupsl0_W {T : Tab} {env : Env} {H : Heap} {Q : Post} : W T F_leb_Reader_groupsl0 env H Q ↔ W T (.seq (.reg F_leb_Reader_groupsr3) (.seq (.cond (.t 9) .skip (.exit 0)) (.seq (.block 1 (.seq (.reg F_leb_Reader_groupsr4) (.seq (.seq (.reg F_leb_Reader_groupsr5) (.cond (.t 15) (.seq (.reg F_leb_Reader_groupsr6) .ret) .skip)) (.seq (.seq (.dreg F_leb_Reader_groupsr7 []) (.cond (.t 25) (.seq (.reg F_leb_Reader_groupsr8) (.seq (.reg F_leb_Reader_groupsr9) .ret)) .skip)) (.seq (.dreg F_leb_Reader_groupsr10 []) (.seq (.reg F_leb_Reader_groupsr11) (.seq (.reg F_leb_Reader_groupsr12) (.seq (.reg F_leb_Reader_groupsr13) (.cond (.t 55) (.seq (.reg F_leb_Reader_groupsr14) .ret) .skip))))))))) (.reg F_leb_Reader_groupsr15)))) env H Q := Iff.rfl
def F_leb_Reader_groupsr16 : List IStmt := [
  ⟨some 61, .mv (.t 0), none⟩,
  ⟨some 62, .nilc (.t 61), none⟩,
  ⟨some 63, .fa 2 (.t 62), none⟩,
  ⟨none, .store 1 (.t 63) (.c (.int .i64 30)), none⟩]
theorem F_leb_Reader_groupsr16_W {T : Tab} {env : Env} {H : Heap} {Q : Post} : W T (.reg F_leb_Reader_groupsr16) env H Q ↔ WR T F_leb_Reader_groupsr16 [
  ⟨some 61, .mv (.t 0), none⟩,
  ⟨some 62, .nilc (.t 61), none⟩,
  ⟨some 63, .fa 2 (.t 62), none⟩,
  ⟨none, .store 1 (.t 63) (.c (.int .i64 30)), none⟩] env H none [] Q := w_reg
def F_leb_Reader_groupsr17 : List IStmt := [
  ⟨some 2, .mv (.c (.int .u64 0)), none⟩,
  ⟨some 3, .mv (.c (.int .i64 0)), none⟩,
  ⟨some 4, .mv (.c (.int .u8 0)), none⟩]
theorem F_leb_Reader_groupsr17_W {T : Tab} {env : Env} {H : Heap} {Q : Post} : W T (.reg F_leb_Reader_groupsr17) env H Q ↔ WR T F_leb_Reader_groupsr17 [
  ⟨some 2, .mv (.c (.int .u64 0)), none⟩,
  ⟨some 3, .mv (.c (.int .i64 0)), none⟩,
  ⟨some 4, .mv (.c (.int .u8 0)), none⟩] env H none [] Q := w_reg
def F_leb_Reader_groupsc : ICode := (.seq (.reg F_leb_Reader_groupsr0) (.seq (.reg F_leb_Reader_groupsr1) (.seq (.seq (.reg F_leb_Reader_groupsr2) (.block 0 (.loop F_leb_Reader_groupsl0))) (.seq (.reg F_leb_Reader_groupsr16) (.seq (.reg F_leb_Reader_groupsr17) .ret)))))
theorem F_leb_Reader_groupsc_W {T : Tab} {env : Env} {H : Heap} {Q : Post} : W T F_leb_Reader_groupsc env H Q ↔ W T (.seq (.reg F_leb_Reader_groupsr0) (.seq (.reg F_leb_Reader_groupsr1) (.seq (.seq (.reg F_leb_Reader_groupsr2) (.block 0 (.loop F_leb_Reader_groupsl0))) (.seq (.reg F_leb_Reader_groupsr16) (.seq (.reg F_leb_Reader_groupsr17) .ret))))) env H Q := Iff.rfl
def F_leb_Reader_groups : IFn := ⟨64, [.tmp 2, .tmp 3, .tmp 4], F_leb_Reader_groupsc⟩
set_option maxRecDepth 1000000 in
theorem F_leb_Reader_groups_chk : chkF Try.prog 39 F_leb_Reader_groups = true := by kernel_rfl

/-! ### leb_Reader_U -/
def F_leb_Reader_Ur0 : List IStmt := [
  ⟨some 2, .mv (.c (.int .u64 0)), none⟩]
theorem F_leb_Reader_Ur0_W {T : Tab} {env : Env} {H : Heap} {Q : Post} : W T (.reg F_leb_Reader_Ur0) env H Q ↔ WR T F_leb_Reader_Ur0 [
  ⟨some 2, .mv (.c (.int .u64 0)), none⟩] env H none [] Q := w_reg
def F_leb_Reader_Ur1 : List IStmt := [
  ⟨some 7, .mv (.t 0), none⟩,
  ⟨some 8, .call 39 [(.t 7)], none⟩,
  ⟨some 6, .mv (.t 8), none⟩,
  ⟨some 9, .ext (.t 6) 0, none⟩,
  ⟨some 10, .ext (.t 6) 1, none⟩,
  ⟨some 11, .ext (.t 6) 2, none⟩,
  ⟨some 3, .mv (.t 9), none⟩,
  ⟨some 4, .mv (.t 10), none⟩,
  ⟨some 5, .mv (.t 11), none⟩]
theorem F_leb_Reader_Ur1_W {T : Tab} {env : Env} {H : Heap} {Q : Post} : W T (.reg F_leb_Reader_Ur1) env H Q ↔ WR T F_leb_Reader_Ur1 [
  ⟨some 7, .mv (.t 0), none⟩,
  ⟨some 8, .call 39 [(.t 7)], none⟩,
  ⟨some 6, .mv (.t 8), none⟩,
  ⟨some 9, .ext (.t 6) 0, none⟩,
  ⟨some 10, .ext (.t 6) 1, none⟩,
  ⟨some 11, .ext (.t 6) 2, none⟩,
  ⟨some 3, .mv (.t 9), none⟩,
  ⟨some 4, .mv (.t 10), none⟩,
  ⟨some 5, .mv (.t 11), none⟩] env H none [] Q := w_reg
def F_leb_Reader_Ur2 : List IStmt := [
  ⟨some 12, .mv (.t 4), none⟩,
  ⟨some 13, .bin .eql (.t 12) (.c (.int .i64 10)), none⟩,
  ⟨some 14, .mv (.t 13), none⟩,
  ⟨some 15, .mv (.t 5), some (2, true)⟩,
  ⟨some 16, .bin .gtr (.t 15) (.c (.int .u8 1)), some (2, true)⟩,
  ⟨some 17, .pick (.t 14) (.t 16) (.c (.bool false)), none⟩]
theorem F_leb_Reader_Ur2_W {T : Tab} {env : Env} {H : Heap} {Q : Post} : W T (.reg F_leb_Reader_Ur2) env H Q ↔ WR T F_leb_Reader_Ur2 [
  ⟨some 12, .mv (.t 4), none⟩,
  ⟨some 13, .bin .eql (.t 12) (.c (.int .i64 10)), none⟩,
  ⟨some 14, .mv (.t 13), none⟩,
  ⟨some 15, .mv (.t 5), some (2, true)⟩,
  ⟨some 16, .bin .gtr (.t 15) (.c (.int .u8 1)), some (2, true)⟩,
  ⟨some 17, .pick (.t 14) (.t 16) (.c (.bool false)), none⟩] env H none [] Q := w_reg
theorem F_leb_Reader_Ur2_g2 {env : Env} : yieldI F_leb_Reader_Ur2 env 2 = bOf (env 14) := rfl
def F_leb_Reader_Ur3 : List IStmt := [
  ⟨some 18, .mv (.t 0), none⟩,
  ⟨some 19, .nilc (.t 18), none⟩,
  ⟨some 20, .fa 2 (.t 19), none⟩,
  ⟨none, .store 1 (.t 20) (.c (.int .i64 30)), none⟩]
theorem F_leb_Reader_Ur3_W {T : Tab} {env : Env} {H : Heap} {Q : Post} : W T (.reg F_leb_Reader_Ur3) env H Q ↔ WR T F_leb_Reader_Ur3 [
  ⟨some 18, .mv (.t 0), none⟩,
  ⟨some 19, .nilc (.t 18), none⟩,
  ⟨some 20, .fa 2 (.t 19), none⟩,
  ⟨none, .store 1 (.t 20) (.c (.int .i64 30)), none⟩] env H none [] Q := w_reg
def F_leb_Reader_Ur4 : List IStmt := [
  ⟨some 2, .mv (.c (.int .u64 0)), none⟩]
theorem F_leb_Reader_Ur4_W {T : Tab} {env : Env} {H : Heap} {Q : Post} : W T (.reg F_leb_Reader_Ur4) env H Q ↔ WR T F_leb_Reader_Ur4 [
  ⟨some 2, .mv (.c (.int .u64 0)), none⟩] env H none [] Q := w_reg
def F_leb_Reader_Ur5 : List IStmt := [
  ⟨some 21, .mv (.t 3), none⟩,
  ⟨some 2, .mv (.t 21), none⟩]
theorem F_leb_Reader_Ur5_W {T : Tab} {env : Env} {H : Heap} {Q : Post} : W T (.reg F_leb_Reader_Ur5) env H Q ↔ WR T F_leb_Reader_Ur5 [
  ⟨some 21, .mv (.t 3), none⟩,
  ⟨some 2, .mv (.t 21), none⟩] env H none [] Q := w_reg
def F_leb_Reader_Uc : ICode := (.seq (.reg F_leb_Reader_Ur0) (.seq (.reg F_leb_Reader_Ur1) (.seq (.seq (.reg F_leb_Reader_Ur2) (.cond (.t 17) (.seq (.reg F_leb_Reader_Ur3) (.seq (.reg F_leb_Reader_Ur4) .ret)) .skip)) (.seq (.reg F_leb_Reader_Ur5) .ret))))
theorem F_leb_Reader_Uc_W {T : Tab} {env : Env} {H : Heap} {Q : Post} : W T F_leb_Reader_Uc env H Q ↔ W T (.seq (.reg F_leb_Reader_Ur0) (.seq (.reg F_leb_Reader_Ur1) (.seq (.seq (.reg F_leb_Reader_Ur2) (.cond (.t 17) (.seq (.reg F_leb_Reader_Ur3) (.seq (.reg F_leb_Reader_Ur4) .ret)) .skip)) (.seq (.reg F_leb_Reader_Ur5) .ret)))) env H Q := Iff.rfl
def F_leb_Reader_U : IFn := ⟨22, [.tmp 2], F_leb_Reader_Uc⟩
set_option maxRecDepth 1000000 in
theorem F_leb_Reader_U_chk : chkF Try.prog 21 F_leb_Reader_U = true := by kernel_rfl

/-! ### leb_Reader_S -/
def F_leb_Reader_Sr0 : List IStmt := [
  ⟨some 2, .mv (.c (.int .i64 0)), none⟩]
theorem F_leb_Reader_Sr0_W {T : Tab} {env : Env} {H : Heap} {Q : Post} : W T (.reg F_leb_Reader_Sr0) env H Q ↔ WR T F_leb_Reader_Sr0 [
  ⟨some 2, .mv (.c (.int .i64 0)), none⟩] env H none [] Q := w_reg
def F_leb_Reader_Sr1 : List IStmt := [
  ⟨some 7, .mv (.t 0), none⟩,
  ⟨some 8, .call 39 [(.t 7)], none⟩,
  ⟨some 6, .mv (.t 8), none⟩,
  ⟨some 9, .ext (.t 6) 0, none⟩,
  ⟨some 10, .ext (.t 6) 1, none⟩,
  ⟨some 11, .ext (.t 6) 2, none⟩,
  ⟨some 3, .mv (.t 9), none⟩,
  ⟨some 4, .mv (.t 10), none⟩,
  ⟨some 5, .mv (.t 11), none⟩]
theorem F_leb_Reader_Sr1_W {T : Tab} {env : Env} {H : Heap} {Q : Post} : W T (.reg F_leb_Reader_Sr1) env H Q ↔ WR T F_leb_Reader_Sr1 [
  ⟨some 7, .mv (.t 0), none⟩,
  ⟨some 8, .call 39 [(.t 7)], none⟩,
  ⟨some 6, .mv (.t 8), none⟩,
  ⟨some 9, .ext (.t 6) 0, none⟩,
  ⟨some 10, .ext (.t 6) 1, none⟩,
  ⟨some 11, .ext (.t 6) 2, none⟩,
  ⟨some 3, .mv (.t 9), none⟩,
  ⟨some 4, .mv (.t 10), none⟩,
  ⟨some 5, .mv (.t 11), none⟩] env H none [] Q := w_reg
def F_leb_Reader_Sr2 : List IStmt := [
  ⟨some 12, .mv (.t 4), none⟩,
  ⟨some 13, .bin .eql (.t 12) (.c (.int .i64 10)), none⟩,
  ⟨some 14, .mv (.t 13), none⟩,
  ⟨some 15, .mv (.t 5), some (2, true)⟩,
  ⟨some 16, .bin .neq (.t 15) (.c (.int .u8 0)), some (2, true)⟩,
  ⟨some 17, .pick (.t 14) (.t 16) (.c (.bool false)), none⟩,
  ⟨some 18, .mv (.t 17), none⟩,
  ⟨some 19, .mv (.t 5), some (6, true)⟩,
  ⟨some 20, .bin .neq (.t 19) (.c (.int .u8 127)), some (6, true)⟩,
  ⟨some 21, .pick (.t 18) (.t 20) (.c (.bool false)), none⟩]
theorem F_leb_Reader_Sr2_W {T : Tab} {env : Env} {H : Heap} {Q : Post} : W T (.reg F_leb_Reader_Sr2) env H Q ↔ WR T F_leb_Reader_Sr2 [
  ⟨some 12, .mv (.t 4), none⟩,
  ⟨some 13, .bin .eql (.t 12) (.c (.int .i64 10)), none⟩,
  ⟨some 14, .mv (.t 13), none⟩,
  ⟨some 15, .mv (.t 5), some (2, true)⟩,
  ⟨some 16, .bin .neq (.t 15) (.c (.int .u8 0)), some (2, true)⟩,
  ⟨some 17, .pick (.t 14) (.t 16) (.c (.bool false)), none⟩,
  ⟨some 18, .mv (.t 17), none⟩,
  ⟨some 19, .mv (.t 5), some (6, true)⟩,
  ⟨some 20, .bin .neq (.t 19) (.c (.int .u8 127)), some (6, true)⟩,
  ⟨some 21, .pick (.t 18) (.t 20) (.c (.bool false)), none⟩] env H none [] Q := w_reg
theorem F_leb_Reader_Sr2_g2 {env : Env} : yieldI F_leb_Reader_Sr2 env 2 = bOf (env 14) := rfl
theorem F_leb_Reader_Sr2_g6 {env : Env} : yieldI F_leb_Reader_Sr2 env 6 = bOf (env 18) := rfl
def F_leb_Reader_Sr3 : List IStmt := [
  ⟨some 22, .mv (.t 0), none⟩,
  ⟨some 23, .nilc (.t 22), none⟩,
  ⟨some 24, .fa 2 (.t 23), none⟩,
  ⟨none, .store 1 (.t 24) (.c (.int .i64 30)), none⟩]
theorem F_leb_Reader_Sr3_W {T : Tab} {env : Env} {H : Heap} {Q : Post} : W T (.reg F_leb_Reader_Sr3) env H Q ↔ WR T F_leb_Reader_Sr3 [
  ⟨some 22, .mv (.t 0), none⟩,
  ⟨some 23, .nilc (.t 22), none⟩,
  ⟨some 24, .fa 2 (.t 23), none⟩,
  ⟨none, .store 1 (.t 24) (.c (.int .i64 30)), none⟩] env H none [] Q := w_reg
def F_leb_Reader_Sr4 : List IStmt := [
  ⟨some 2, .mv (.c (.int .i64 0)), none⟩]
theorem F_leb_Reader_Sr4_W {T : Tab} {env : Env} {H : Heap} {Q : Post} : W T (.reg F_leb_Reader_Sr4) env H Q ↔ WR T F_leb_Reader_Sr4 [
  ⟨some 2, .mv (.c (.int .i64 0)), none⟩] env H none [] Q := w_reg
def F_leb_Reader_Sr5 : List IStmt := [
  ⟨some 25, .mv (.t 4), none⟩,
  ⟨some 26, .bin .gtr (.t 25) (.c (.int .i64 0)), none⟩,
  ⟨some 27, .mv (.t 26), none⟩,
  ⟨some 28, .mv (.t 4), some (2, true)⟩,
  ⟨some 29, .bin .lss (.t 28) (.c (.int .i64 10)), some (2, true)⟩,
  ⟨some 30, .pick (.t 27) (.t 29) (.c (.bool false)), none⟩,
  ⟨some 31, .mv (.t 30), none⟩,
  ⟨some 32, .mv (.t 5), some (6, true)⟩,
  ⟨some 33, .bin .and (.t 32) (.c (.int .u8 64)), some (6, true)⟩,
  ⟨some 34, .bin .neq (.t 33) (.c (.int .u8 0)), some (6, true)⟩,
  ⟨some 35, .pick (.t 31) (.t 34) (.c (.bool false)), none⟩]
theorem F_leb_Reader_Sr5_W {T : Tab} {env : Env} {H : Heap} {Q : Post} : W T (.reg F_leb_Reader_Sr5) env H Q ↔ WR T F_leb_Reader_Sr5 [
  ⟨some 25, .mv (.t 4), none⟩,
  ⟨some 26, .bin .gtr (.t 25) (.c (.int .i64 0)), none⟩,
  ⟨some 27, .mv (.t 26), none⟩,
  ⟨some 28, .mv (.t 4), some (2, true)⟩,
  ⟨some 29, .bin .lss (.t 28) (.c (.int .i64 10)), some (2, true)⟩,
  ⟨some 30, .pick (.t 27) (.t 29) (.c (.bool false)), none⟩,
  ⟨some 31, .mv (.t 30), none⟩,
  ⟨some 32, .mv (.t 5), some (6, true)⟩,
  ⟨some 33, .bin .and (.t 32) (.c (.int .u8 64)), some (6, true)⟩,
  ⟨some 34, .bin .neq (.t 33) (.c (.int .u8 0)), some (6, true)⟩,
  ⟨some 35, .pick (.t 31) (.t 34) (.c (.bool false)), none⟩] env H none [] Q := w_reg
theorem F_leb_Reader_Sr5_g2 {env : Env} : yieldI F_leb_Reader_Sr5 env 2 = bOf (env 27) := rfl
theorem F_leb_Reader_Sr5_g6 {env : Env} : yieldI F_leb_Reader_Sr5 env 6 = bOf (env 31) := rfl
def F_leb_Reader_Sr6 : List IStmt := [
  ⟨some 36, .mv (.t 3), none⟩,
  ⟨some 37, .mv (.t 4), none⟩,
  ⟨some 38, .bin .mul (.c (.int .i64 7)) (.t 37), none⟩,
  ⟨some 39, .bin .shl (.c (.int .u64 18446744073709551615)) (.t 38), none⟩,
  ⟨some 40, .bin .or (.t 36) (.t 39), none⟩,
  ⟨some 3, .mv (.t 40), none⟩]
theorem F_leb_Reader_Sr6_W {T : Tab} {env : Env} {H : Heap} {Q : Post} : W T (.reg F_leb_Reader_Sr6) env H Q ↔ WR T F_leb_Reader_Sr6 [
  ⟨some 36, .mv (.t 3), none⟩,
  ⟨some 37, .mv (.t 4), none⟩,
  ⟨some 38, .bin .mul (.c (.int .i64 7)) (.t 37), none⟩,
  ⟨some 39, .bin .shl (.c (.int .u64 18446744073709551615)) (.t 38), none⟩,
  ⟨some 40, .bin .or (.t 36) (.t 39), none⟩,
  ⟨some 3, .mv (.t 40), none⟩] env H none [] Q := w_reg
def F_leb_Reader_Sr7 : List IStmt := [
  ⟨some 41, .mv (.t 3), none⟩,
  ⟨some 42, .conv .i64 (.t 41), none⟩,
  ⟨some 2, .mv (.t 42), none⟩]
theorem F_leb_Reader_Sr7_W {T : Tab} {env : Env} {H : Heap} {Q : Post} : W T (.reg F_leb_Reader_Sr7) env H Q ↔ WR T F_leb_Reader_Sr7 [
  ⟨some 41, .mv (.t 3), none⟩,
  ⟨some 42, .conv .i64 (.t 41), none⟩,
  ⟨some 2, .mv (.t 42), none⟩] env H none [] Q := w_reg
def F_leb_Reader_Sc : ICode := (.seq (.reg F_leb_Reader_Sr0) (.seq (.reg F_leb_Reader_Sr1) (.seq (.seq (.reg F_leb_Reader_Sr2) (.cond (.t 21) (.seq (.reg F_leb_Reader_Sr3) (.seq (.reg F_leb_Reader_Sr4) .ret)) .skip)) (.seq (.seq (.reg F_leb_Reader_Sr5) (.cond (.t 35) (.reg F_leb_Reader_Sr6) .skip)) (.seq (.reg F_leb_Reader_Sr7) .ret)))))
theorem F_leb_Reader_Sc_W {T : Tab} {env : Env} {H : Heap} {Q : Post} : W T F_leb_Reader_Sc env H Q ↔ W T (.seq (.reg F_leb_Reader_Sr0) (.seq (.reg F_leb_Reader_Sr1) (.seq (.seq (.reg F_leb_Reader_Sr2) (.cond (.t 21) (.seq (.reg F_leb_Reader_Sr3) (.seq (.reg F_leb_Reader_Sr4) .ret)) .skip)) (.seq (.seq (.reg F_leb_Reader_Sr5) (.cond (.t 35) (.reg F_leb_Reader_Sr6) .skip)) (.seq (.reg F_leb_Reader_Sr7) .ret))))) env H Q := Iff.rfl
def F_leb_Reader_S : IFn := ⟨43, [.tmp 2], F_leb_Reader_Sc⟩
set_option maxRecDepth 1000000 in
theorem F_leb_Reader_S_chk : chkF Try.prog 19 F_leb_Reader_S = true := by kernel_rfl

/-! ### leb_Reader_Fail -/
def F_leb_Reader_Failr0 : List IStmt := [
  ⟨some 2, .mv (.c (.int .i64 0)), none⟩]
theorem F_leb_Reader_Failr0_W {T : Tab} {env : Env} {H : Heap} {Q : Post} : W T (.reg F_leb_Reader_Failr0) env H Q ↔ WR T F_leb_Reader_Failr0 [
  ⟨some 2, .mv (.c (.int .i64 0)), none⟩] env H none [] Q := w_reg
def F_leb_Reader_Failr1 : List IStmt := [
  ⟨some 3, .mv (.t 0), none⟩,
  ⟨some 4, .nilc (.t 3), none⟩,
  ⟨some 5, .fa 2 (.t 4), none⟩,
  ⟨some 6, .load (.t 5), none⟩,
  ⟨some 2, .mv (.t 6), none⟩]
theorem F_leb_Reader_Failr1_W {T : Tab} {env : Env} {H : Heap} {Q : Post} : W T (.reg F_leb_Reader_Failr1) env H Q ↔ WR T F_leb_Reader_Failr1 [
  ⟨some 3, .mv (.t 0), none⟩,
  ⟨some 4, .nilc (.t 3), none⟩,
  ⟨some 5, .fa 2 (.t 4), none⟩,
  ⟨some 6, .load (.t 5), none⟩,
  ⟨some 2, .mv (.t 6), none⟩] env H none [] Q := w_reg
def F_leb_Reader_Failc : ICode := (.seq (.reg F_leb_Reader_Failr0) (.seq (.reg F_leb_Reader_Failr1) .ret))
theorem F_leb_Reader_Failc_W {T : Tab} {env : Env} {H : Heap} {Q : Post} : W T F_leb_Reader_Failc env H Q ↔ W T (.seq (.reg F_leb_Reader_Failr0) (.seq (.reg F_leb_Reader_Failr1) .ret)) env H Q := Iff.rfl
def F_leb_Reader_Fail : IFn := ⟨7, [.tmp 2], F_leb_Reader_Failc⟩
set_option maxRecDepth 1000000 in
theorem F_leb_Reader_Fail_chk : chkF Try.prog 22 F_leb_Reader_Fail = true := by kernel_rfl

/-! ### leb_Reader_Left -/
def F_leb_Reader_Leftr0 : List IStmt := [
  ⟨some 2, .mv (.c (.int .i64 0)), none⟩]
theorem F_leb_Reader_Leftr0_W {T : Tab} {env : Env} {H : Heap} {Q : Post} : W T (.reg F_leb_Reader_Leftr0) env H Q ↔ WR T F_leb_Reader_Leftr0 [
  ⟨some 2, .mv (.c (.int .i64 0)), none⟩] env H none [] Q := w_reg
def F_leb_Reader_Leftr1 : List IStmt := [
  ⟨some 3, .mv (.t 0), none⟩,
  ⟨some 4, .nilc (.t 3), none⟩,
  ⟨some 5, .fa 2 (.t 4), none⟩,
  ⟨some 6, .load (.t 5), none⟩,
  ⟨some 7, .bin .neq (.t 6) (.c (.int .i64 0)), none⟩]
theorem F_leb_Reader_Leftr1_W {T : Tab} {env : Env} {H : Heap} {Q : Post} : W T (.reg F_leb_Reader_Leftr1) env H Q ↔ WR T F_leb_Reader_Leftr1 [
  ⟨some 3, .mv (.t 0), none⟩,
  ⟨some 4, .nilc (.t 3), none⟩,
  ⟨some 5, .fa 2 (.t 4), none⟩,
  ⟨some 6, .load (.t 5), none⟩,
  ⟨some 7, .bin .neq (.t 6) (.c (.int .i64 0)), none⟩] env H none [] Q := w_reg
def F_leb_Reader_Leftr2 : List IStmt := [
  ⟨some 2, .mv (.c (.int .i64 0)), none⟩]
theorem F_leb_Reader_Leftr2_W {T : Tab} {env : Env} {H : Heap} {Q : Post} : W T (.reg F_leb_Reader_Leftr2) env H Q ↔ WR T F_leb_Reader_Leftr2 [
  ⟨some 2, .mv (.c (.int .i64 0)), none⟩] env H none [] Q := w_reg
def F_leb_Reader_Leftr3 : List IStmt := [
  ⟨some 8, .mv (.t 0), none⟩,
  ⟨some 9, .nilc (.t 8), none⟩,
  ⟨some 10, .fa 0 (.t 9), none⟩,
  ⟨some 11, .load (.t 10), none⟩,
  ⟨some 12, .len 1 (.t 11), none⟩,
  ⟨some 13, .mv (.t 0), none⟩,
  ⟨some 14, .nilc (.t 13), none⟩,
  ⟨some 15, .fa 1 (.t 14), none⟩,
  ⟨some 16, .load (.t 15), none⟩,
  ⟨some 17, .bin .sub (.t 12) (.t 16), none⟩,
  ⟨some 2, .mv (.t 17), none⟩]
theorem F_leb_Reader_Leftr3_W {T : Tab} {env : Env} {H : Heap} {Q : Post} : W T (.dreg F_leb_Reader_Leftr3 []) env H Q ↔ WR T F_leb_Reader_Leftr3 [
  ⟨some 8, .mv (.t 0), none⟩,
  ⟨some 9, .nilc (.t 8), none⟩,
  ⟨some 10, .fa 0 (.t 9), none⟩,
  ⟨some 11, .load (.t 10), none⟩,
  ⟨some 12, .len 1 (.t 11), none⟩,
  ⟨some 13, .mv (.t 0), none⟩,
  ⟨some 14, .nilc (.t 13), none⟩,
  ⟨some 15, .fa 1 (.t 14), none⟩,
  ⟨some 16, .load (.t 15), none⟩,
  ⟨some 17, .bin .sub (.t 12) (.t 16), none⟩,
  ⟨some 2, .mv (.t 17), none⟩] env H none [] Q := w_dreg0
def F_leb_Reader_Leftc : ICode := (.seq (.reg F_leb_Reader_Leftr0) (.seq (.seq (.reg F_leb_Reader_Leftr1) (.cond (.t 7) (.seq (.reg F_leb_Reader_Leftr2) .ret) .skip)) (.seq (.dreg F_leb_Reader_Leftr3 []) .ret)))
theorem F_leb_Reader_Leftc_W {T : Tab} {env : Env} {H : Heap} {Q : Post} : W T F_leb_Reader_Leftc env H Q ↔ W T (.seq (.reg F_leb_Reader_Leftr0) (.seq (.seq (.reg F_leb_Reader_Leftr1) (.cond (.t 7) (.seq (.reg F_leb_Reader_Leftr2) .ret) .skip)) (.seq (.dreg F_leb_Reader_Leftr3 []) .ret))) env H Q := Iff.rfl
def F_leb_Reader_Left : IFn := ⟨18, [.tmp 2], F_leb_Reader_Leftc⟩
set_option maxRecDepth 1000000 in
theorem F_leb_Reader_Left_chk : chkF Try.prog 23 F_leb_Reader_Left = true := by kernel_rfl

/-! ### ref03_PutU -/
def F_ref03_PutUr0 : List IStmt := [
  ⟨some 2, .mv (.c (.slice none 0 0)), none⟩]
theorem F_ref03_PutUr0_W {T : Tab} {env : Env} {H : Heap} {Q : Post} : W T (.reg F_ref03_PutUr0) env H Q ↔ WR T F_ref03_PutUr0 [
  ⟨some 2, .mv (.c (.slice none 0 0)), none⟩] env H none [] Q := w_reg
def F_ref03_PutUr1 : List IStmt := [
  ⟨some 3, .mv (.c (.slice none 0 0)), none⟩]
theorem F_ref03_PutUr1_W {T : Tab} {env : Env} {H : Heap} {Q : Post} : W T (.reg F_ref03_PutUr1) env H Q ↔ WR T F_ref03_PutUr1 [
  ⟨some 3, .mv (.c (.slice none 0 0)), none⟩] env H none [] Q := w_reg
def F_ref03_PutUr2 : List IStmt := [
  ⟨some 5, .mv (.t 0), none⟩,
  ⟨some 6, .bin .rem (.t 5) (.c (.int .u64 128)), none⟩,
  ⟨some 7, .conv .u8 (.t 6), none⟩,
  ⟨some 4, .mv (.t 7), none⟩]
theorem F_ref03_PutUr2_W {T : Tab} {env : Env} {H : Heap} {Q : Post} : W T (.reg F_ref03_PutUr2) env H Q ↔ WR T F_ref03_PutUr2 [
  ⟨some 5, .mv (.t 0), none⟩,
  ⟨some 6, .bin .rem (.t 5) (.c (.int .u64 128)), none⟩,
  ⟨some 7, .conv .u8 (.t 6), none⟩,
  ⟨some 4, .mv (.t 7), none⟩] env H none [] Q := w_reg
def F_ref03_PutUr3 : List IStmt := [
  ⟨some 8, .mv (.t 0), none⟩,
  ⟨some 9, .bin .quo (.t 8) (.c (.int .u64 128)), none⟩,
  ⟨some 0, .mv (.t 9), none⟩]
theorem F_ref03_PutUr3_W {T : Tab} {env : Env} {H : Heap} {Q : Post} : W T (.reg F_ref03_PutUr3) env H Q ↔ WR T F_ref03_PutUr3 [
  ⟨some 8, .mv (.t 0), none⟩,
  ⟨some 9, .bin .quo (.t 8) (.c (.int .u64 128)), none⟩,
  ⟨some 0, .mv (.t 9), none⟩] env H none [] Q := w_reg
def F_ref03_PutUr4 : List IStmt := [
  ⟨some 10, .mv (.t 0), none⟩,
  ⟨some 11, .bin .eql (.t 10) (.c (.int .u64 0)), none⟩]
theorem F_ref03_PutUr4_W {T : Tab} {env : Env} {H : Heap} {Q : Post} : W T (.reg F_ref03_PutUr4) env H Q ↔ WR T F_ref03_PutUr4 [
  ⟨some 10, .mv (.t 0), none⟩,
  ⟨some 11, .bin .eql (.t 10) (.c (.int .u64 0)), none⟩] env H none [] Q := w_reg
def F_ref03_PutUr5 : List IStmt := [
  ⟨some 12, .mv (.t 3), none⟩,
  ⟨some 13, .mv (.t 4), none⟩,
  ⟨some 14, .bsli 1 1 [.int .u8 0] [(0, (.t 13))], none⟩,
  ⟨some 15, .app 1 1 (.t 12) (.t 14), none⟩,
  ⟨some 2, .mv (.t 15), none⟩]
theorem F_ref03_PutUr5_W {T : Tab} {env : Env} {H : Heap} {Q : Post} : W T (.reg F_ref03_PutUr5) env H Q ↔ WR T F_ref03_PutUr5 [
  ⟨some 12, .mv (.t 3), none⟩,
  ⟨some 13, .mv (.t 4), none⟩,
  ⟨some 14, .bsli 1 1 [.int .u8 0] [(0, (.t 13))], none⟩,
  ⟨some 15, .app 1 1 (.t 12) (.t 14), none⟩,
  ⟨some 2, .mv (.t 15), none⟩] env H none [] Q := w_reg
def F_ref03_PutUr6 : List IStmt := [
  ⟨some 16, .mv (.t 3), none⟩,
  ⟨some 17, .mv (.t 4), none⟩,
  ⟨some 18, .bin .add (.t 17) (.c (.int .u8 128)), none⟩,
  ⟨some 19, .bsli 1 1 [.int .u8 0] [(0, (.t 18))], none⟩,
  ⟨some 20, .app 1 1 (.t 16) (.t 19), none⟩,
  ⟨some 3, .mv (.t 20), none⟩]
theorem F_ref03_PutUr6_W {T : Tab} {env : Env} {H : Heap} {Q : Post} : W T (.reg F_ref03_PutUr6) env H Q ↔ WR T F_ref03_PutUr6 [
  ⟨some 16, .mv (.t 3), none⟩,
  ⟨some 17, .mv (.t 4), none⟩,
  ⟨some 18, .bin .add (.t 17) (.c (.int .u8 128)), none⟩,
  ⟨some 19, .bsli 1 1 [.int .u8 0] [(0, (.t 18))], none⟩,
  ⟨some 20, .app 1 1 (.t 16) (.t 19), none⟩,
  ⟨some 3, .mv (.t 20), none⟩] env H none [] Q := w_reg
def F_ref03_PutUl0 : ICode := (.block 1 (.seq (.reg F_ref03_PutUr2) (.seq (.reg F_ref03_PutUr3) (.seq (.seq (.reg F_ref03_PutUr4) (.cond (.t 11) (.seq (.reg F_ref03_PutUr5) .ret) .skip)) (.reg F_ref03_PutUr6)))))
theorem F_ref03_PutUl0_W {T : Tab} {env : Env} {H : Heap} {Q : Post} : W T F_ref03_PutUl0 env H Q ↔ W T (.block 1 (.seq (.reg F_ref03_PutUr2) (.seq (.reg F_ref03_PutUr3) (.seq (.seq (.reg F_ref03_PutUr4) (.cond (.t 11) (.seq (.reg F_ref03_PutUr5) .ret) .skip)) (.reg F_ref03_PutUr6))))) env H Q := Iff.rfl
def F_ref03_PutUc : ICode := (.seq (.reg F_ref03_PutUr0) (.seq (.reg F_ref03_PutUr1) (.block 0 (.loop F_ref03_PutUl0))))
theorem F_ref03_PutUc_W {T : Tab} {env : Env} {H : Heap} {Q : Post} : W T F_ref03_PutUc env H Q ↔ W T (.seq (.reg F_ref03_PutUr0) (.seq (.reg F_ref03_PutUr1) (.block 0 (.loop F_ref03_PutUl0)))) env H Q := Iff.rfl
def F_ref03_PutU : IFn := ⟨21, [.tmp 2], F_ref03_PutUc⟩
set_option maxRecDepth 1000000 in
theorem F_ref03_PutU_chk : chkF Try.prog 13 F_ref03_PutU = true := by kernel_rfl

/-! ### ref03_PutS -/
def F_ref03_PutSr0 : List IStmt := [
  ⟨some 2, .mv (.c (.slice none 0 0)), none⟩]
theorem F_ref03_PutSr0_W {T : Tab} {env : Env} {H : Heap} {Q : Post} : W T (.reg F_ref03_PutSr0) env H Q ↔ WR T F_ref03_PutSr0 [
  ⟨some 2, .mv (.c (.slice none 0 0)), none⟩] env H none [] Q := w_reg
def F_ref03_PutSr1 : List IStmt := [
  ⟨some 3, .mv (.c (.slice none 0 0)), none⟩]
theorem F_ref03_PutSr1_W {T : Tab} {env : Env} {H : Heap} {Q : Post} : W T (.reg F_ref03_PutSr1) env H Q ↔ WR T F_ref03_PutSr1 [
  ⟨some 3, .mv (.c (.slice none 0 0)), none⟩] env H none [] Q := w_reg
def F_ref03_PutSr2 : List IStmt := [
  ⟨some 6, .mv (.t 0), none⟩,
  ⟨some 7, .bin .rem (.t 6) (.c (.int .i64 128)), none⟩,
  ⟨some 4, .mv (.t 7), none⟩]
theorem F_ref03_PutSr2_W {T : Tab} {env : Env} {H : Heap} {Q : Post} : W T (.reg F_ref03_PutSr2) env H Q ↔ WR T F_ref03_PutSr2 [
  ⟨some 6, .mv (.t 0), none⟩,
  ⟨some 7, .bin .rem (.t 6) (.c (.int .i64 128)), none⟩,
  ⟨some 4, .mv (.t 7), none⟩] env H none [] Q := w_reg
def F_ref03_PutSr3 : List IStmt := [
  ⟨some 8, .mv (.t 4), none⟩,
  ⟨some 9, .bin .lss (.t 8) (.c (.int .i64 0)), none⟩]
theorem F_ref03_PutSr3_W {T : Tab} {env : Env} {H : Heap} {Q : Post} : W T (.reg F_ref03_PutSr3) env H Q ↔ WR T F_ref03_PutSr3 [
  ⟨some 8, .mv (.t 4), none⟩,
  ⟨some 9, .bin .lss (.t 8) (.c (.int .i64 0)), none⟩] env H none [] Q := w_reg
def F_ref03_PutSr4 : List IStmt := [
  ⟨some 10, .mv (.t 4), none⟩,
  ⟨some 11, .bin .add (.t 10) (.c (.int .i64 128)), none⟩,
  ⟨some 4, .mv (.t 11), none⟩]
theorem F_ref03_PutSr4_W {T : Tab} {env : Env} {H : Heap} {Q : Post} : W T (.reg F_ref03_PutSr4) env H Q ↔ WR T F_ref03_PutSr4 [
  ⟨some 10, .mv (.t 4), none⟩,
  ⟨some 11, .bin .add (.t 10) (.c (.int .i64 128)), none⟩,
  ⟨some 4, .mv (.t 11), none⟩] env H none [] Q := w_reg
def F_ref03_PutSr5 : List IStmt := [
  ⟨some 12, .mv (.t 0), none⟩,
  ⟨some 13, .mv (.t 4), none⟩,
  ⟨some 14, .bin .sub (.t 12) (.t 13), none⟩,
  ⟨some 15, .bin .quo (.t 14) (.c (.int .i64 128)), none⟩,
  ⟨some 5, .mv (.t 15), none⟩]
theorem F_ref03_PutSr5_W {T : Tab} {env : Env} {H : Heap} {Q : Post} : W T (.reg F_ref03_PutSr5) env H Q ↔ WR T F_ref03_PutSr5 [
  ⟨some 12, .mv (.t 0), none⟩,
  ⟨some 13, .mv (.t 4), none⟩,
  ⟨some 14, .bin .sub (.t 12) (.t 13), none⟩,
  ⟨some 15, .bin .quo (.t 14) (.c (.int .i64 128)), none⟩,
  ⟨some 5, .mv (.t 15), none⟩] env H none [] Q := w_reg
def F_ref03_PutSr6 : List IStmt := [
  ⟨some 16, .mv (.t 0), none⟩,
  ⟨some 17, .bin .geq (.t 16) (.c (.int .i64 (-64))), none⟩,
  ⟨some 18, .mv (.t 17), none⟩,
  ⟨some 19, .mv (.t 0), some (2, true)⟩,
  ⟨some 20, .bin .leq (.t 19) (.c (.int .i64 63)), some (2, true)⟩,
  ⟨some 21, .pick (.t 18) (.t 20) (.c (.bool false)), none⟩]
theorem F_ref03_PutSr6_W {T : Tab} {env : Env} {H : Heap} {Q : Post} : W T (.reg F_ref03_PutSr6) env H Q ↔ WR T F_ref03_PutSr6 [
  ⟨some 16, .mv (.t 0), none⟩,
  ⟨some 17, .bin .geq (.t 16) (.c (.int .i64 (-64))), none⟩,
  ⟨some 18, .mv (.t 17), none⟩,
  ⟨some 19, .mv (.t 0), some (2, true)⟩,
  ⟨some 20, .bin .leq (.t 19) (.c (.int .i64 63)), some (2, true)⟩,
  ⟨some 21, .pick (.t 18) (.t 20) (.c (.bool false)), none⟩] env H none [] Q := w_reg
theorem F_ref03_PutSr6_g2 {env : Env} : yieldI F_ref03_PutSr6 env 2 = bOf (env 18) := rfl
def F_ref03_PutSr7 : List IStmt := [
  ⟨some 22, .mv (.t 3), none⟩,
  ⟨some 23, .mv (.t 4), none⟩,
  ⟨some 24, .conv .u8 (.t 23), none⟩,
  ⟨some 25, .bsli 1 1 [.int .u8 0] [(0, (.t 24))], none⟩,
  ⟨some 26, .app 1 1 (.t 22) (.t 25), none⟩,
  ⟨some 2, .mv (.t 26), none⟩]
theorem F_ref03_PutSr7_W {T : Tab} {env : Env} {H : Heap} {Q : Post} : W T (.reg F_ref03_PutSr7) env H Q ↔ WR T F_ref03_PutSr7 [
  ⟨some 22, .mv (.t 3), none⟩,
  ⟨some 23, .mv (.t 4), none⟩,
  ⟨some 24, .conv .u8 (.t 23), none⟩,
  ⟨some 25, .bsli 1 1 [.int .u8 0] [(0, (.t 24))], none⟩,
  ⟨some 26, .app 1 1 (.t 22) (.t 25), none⟩,
  ⟨some 2, .mv (.t 26), none⟩] env H none [] Q := w_reg
def F_ref03_PutSr8 : List IStmt := [
  ⟨some 27, .mv (.t 3), none⟩,
  ⟨some 28, .mv (.t 4), none⟩,
  ⟨some 29, .conv .u8 (.t 28), none⟩,
  ⟨some 30, .bin .add (.t 29) (.c (.int .u8 128)), none⟩,
  ⟨some 31, .bsli 1 1 [.int .u8 0] [(0, (.t 30))], none⟩,
  ⟨some 32, .app 1 1 (.t 27) (.t 31), none⟩,
  ⟨some 3, .mv (.t 32), none⟩]
theorem F_ref03_PutSr8_W {T : Tab} {env : Env} {H : Heap} {Q : Post} : W T (.reg F_ref03_PutSr8) env H Q ↔ WR T F_ref03_PutSr8 [
  ⟨some 27, .mv (.t 3), none⟩,
  ⟨some 28, .mv (.t 4), none⟩,
  ⟨some 29, .conv .u8 (.t 28), none⟩,
  ⟨some 30, .bin .add (.t 29) (.c (.int .u8 128)), none⟩,
  ⟨some 31, .bsli 1 1 [.int .u8 0] [(0, (.t 30))], none⟩,
  ⟨some 32, .app 1 1 (.t 27) (.t 31), none⟩,
  ⟨some 3, .mv (.t 32), none⟩] env H none [] Q := w_reg
def F_ref03_PutSr9 : List IStmt := [
  ⟨some 33, .mv (.t 5), none⟩,
  ⟨some 0, .mv (.t 33), none⟩]
theorem F_ref03_PutSr9_W {T : Tab} {env : Env} {H : Heap} {Q : Post} : W T (.reg F_ref03_PutSr9) env H Q ↔ WR T F_ref03_PutSr9 [
  ⟨some 33, .mv (.t 5), none⟩,
  ⟨some 0, .mv (.t 33), none⟩] env H none [] Q := w_reg
def F_ref03_PutSl0 : ICode := (.block 1 (.seq (.reg F_ref03_PutSr2) (.seq (.seq (.reg F_ref03_PutSr3) (.cond (.t 9) (.reg F_ref03_PutSr4) .skip)) (.seq (.reg F_ref03_PutSr5) (.seq (.seq (.reg F_ref03_PutSr6) (.cond (.t 21) (.seq (.reg F_ref03_PutSr7) .ret) .skip)) (.seq (.reg F_ref03_PutSr8) (.reg F_ref03_PutSr9)))))))
theorem F_ref03_PutSl0_W {T : Tab} {env : Env} {H : Heap} {Q : Post} : W T F_ref03_PutSl0 env H Q ↔ W T (.block 1 (.seq (.reg F_ref03_PutSr2) (.seq (.seq (.reg F_ref03_PutSr3) (.cond (.t 9) (.reg F_ref03_PutSr4) .skip)) (.seq (.reg F_ref03_PutSr5) (.seq (.seq (.reg F_ref03_PutSr6) (.cond (.t 21) (.seq (.reg F_ref03_PutSr7) .ret) .skip)) (.seq (.reg F_ref03_PutSr8) (.reg F_ref03_PutSr9))))))) env H Q := Iff.rfl
def F_ref03_PutSc : ICode := (.seq (.reg F_ref03_PutSr0) (.seq (.reg F_ref03_PutSr1) (.block 0 (.loop F_ref03_PutSl0))))
theorem F_ref03_PutSc_W {T : Tab} {env : Env} {H : Heap} {Q : Post} : W T F_ref03_PutSc env H Q ↔ W T (.seq (.reg F_ref03_PutSr0) (.seq (.reg F_ref03_PutSr1) (.block 0 (.loop F_ref03_PutSl0)))) env H Q := Iff.rfl
def F_ref03_PutS : IFn := ⟨34, [.tmp 2], F_ref03_PutSc⟩
set_option maxRecDepth 1000000 in
theorem F_ref03_PutS_chk : chkF Try.prog 15 F_ref03_PutS = true := by kernel_rfl

/-! ### ref03_groups -/
def F_ref03_groupsr0 : List IStmt := [
  ⟨some 1, .box 2 (.t 0), none⟩,
  ⟨some 2, .alloc 2 [.slice none 0 0, .int .i64 0], none⟩,
  ⟨some 3, .mv (.c (.slice none 0 0)), none⟩]
theorem F_ref03_groupsr0_W {T : Tab} {env : Env} {H : Heap} {Q : Post} : W T (.reg F_ref03_groupsr0) env H Q ↔ WR T F_ref03_groupsr0 [
  ⟨some 1, .box 2 (.t 0), none⟩,
  ⟨some 2, .alloc 2 [.slice none 0 0, .int .i64 0], none⟩,
  ⟨some 3, .mv (.c (.slice none 0 0)), none⟩] env H none [] Q := w_reg
def F_ref03_groupsr1 : List IStmt := [
  ⟨some 4, .mv (.c (.slice none 0 0)), none⟩]
theorem F_ref03_groupsr1_W {T : Tab} {env : Env} {H : Heap} {Q : Post} : W T (.reg F_ref03_groupsr1) env H Q ↔ WR T F_ref03_groupsr1 [
  ⟨some 4, .mv (.c (.slice none 0 0)), none⟩] env H none [] Q := w_reg
def F_ref03_groupsr2 : List IStmt := [
  ⟨some 6, .fa 1 (.t 1), none⟩,
  ⟨some 7, .load (.t 6), none⟩,
  ⟨some 8, .bin .eql (.t 7) (.c (.int .i64 0)), none⟩]
theorem F_ref03_groupsr2_W {T : Tab} {env : Env} {H : Heap} {Q : Post} : W T (.reg F_ref03_groupsr2) env H Q ↔ WR T F_ref03_groupsr2 [
  ⟨some 6, .fa 1 (.t 1), none⟩,
  ⟨some 7, .load (.t 6), none⟩,
  ⟨some 8, .bin .eql (.t 7) (.c (.int .i64 0)), none⟩] env H none [] Q := w_reg
def F_ref03_groupsr3 : List IStmt := [
  ⟨some 9, .fa 0 (.t 1), none⟩,
  ⟨some 10, .load (.t 9), none⟩,
  ⟨some 11, .len 1 (.t 10), none⟩,
  ⟨some 12, .bin .eql (.t 11) (.c (.int .i64 0)), none⟩]
theorem F_ref03_groupsr3_W {T : Tab} {env : Env} {H : Heap} {Q : Post} : W T (.reg F_ref03_groupsr3) env H Q ↔ WR T F_ref03_groupsr3 [
  ⟨some 9, .fa 0 (.t 1), none⟩,
  ⟨some 10, .load (.t 9), none⟩,
  ⟨some 11, .len 1 (.t 10), none⟩,
  ⟨some 12, .bin .eql (.t 11) (.c (.int .i64 0)), none⟩] env H none [] Q := w_reg
def F_ref03_groupsr4 : List IStmt := [
  ⟨some 13, .fa 1 (.t 1), none⟩,
  ⟨none, .store 1 (.t 13) (.c (.int .i64 20)), none⟩]
theorem F_ref03_groupsr4_W {T : Tab} {env : Env} {H : Heap} {Q : Post} : W T (.reg F_ref03_groupsr4) env H Q ↔ WR T F_ref03_groupsr4 [
  ⟨some 13, .fa 1 (.t 1), none⟩,
  ⟨none, .store 1 (.t 13) (.c (.int .i64 20)), none⟩] env H none [] Q := w_reg
def F_ref03_groupsr5 : List IStmt := [
  ⟨some 14, .loadN 2 (.t 1), none⟩,
  ⟨none, .store 2 (.t 2) (.t 14), none⟩,
  ⟨some 3, .mv (.c (.slice none 0 0)), none⟩]
theorem F_ref03_groupsr5_W {T : Tab} {env : Env} {H : Heap} {Q : Post} : W T (.reg F_ref03_groupsr5) env H Q ↔ WR T F_ref03_groupsr5 [
  ⟨some 14, .loadN 2 (.t 1), none⟩,
  ⟨none, .store 2 (.t 2) (.t 14), none⟩,
  ⟨some 3, .mv (.c (.slice none 0 0)), none⟩] env H none [] Q := w_reg
def F_ref03_groupsr6 : List IStmt := [
  ⟨some 15, .fa 0 (.t 1), none⟩,
  ⟨some 16, .load (.t 15), none⟩,
  ⟨some 17, .ixa 1 (.t 16) (.c (.int .i64 0)), none⟩,
  ⟨some 18, .load (.t 17), none⟩,
  ⟨some 5, .mv (.t 18), none⟩]
theorem F_ref03_groupsr6_W {T : Tab} {env : Env} {H : Heap} {Q : Post} : W T (.reg F_ref03_groupsr6) env H Q ↔ WR T F_ref03_groupsr6 [
  ⟨some 15, .fa 0 (.t 1), none⟩,
  ⟨some 16, .load (.t 15), none⟩,
  ⟨some 17, .ixa 1 (.t 16) (.c (.int .i64 0)), none⟩,
  ⟨some 18, .load (.t 17), none⟩,
  ⟨some 5, .mv (.t 18), none⟩] env H none [] Q := w_reg
def F_ref03_groupsr7 : List IStmt := [
  ⟨some 19, .fa 0 (.t 1), none⟩,
  ⟨some 20, .load (.t 19), none⟩,
  ⟨some 21, .sle 1 (.t 20) (some (.c (.int .i64 1))) none none, none⟩,
  ⟨some 22, .fa 0 (.t 1), none⟩,
  ⟨none, .store 1 (.t 22) (.t 21), none⟩]
theorem F_ref03_groupsr7_W {T : Tab} {env : Env} {H : Heap} {Q : Post} : W T (.reg F_ref03_groupsr7) env H Q ↔ WR T F_ref03_groupsr7 [
  ⟨some 19, .fa 0 (.t 1), none⟩,
  ⟨some 20, .load (.t 19), none⟩,
  ⟨some 21, .sle 1 (.t 20) (some (.c (.int .i64 1))) none none, none⟩,
  ⟨some 22, .fa 0 (.t 1), none⟩,
  ⟨none, .store 1 (.t 22) (.t 21), none⟩] env H none [] Q := w_reg
def F_ref03_groupsr8 : List IStmt := [
  ⟨some 23, .mv (.t 4), none⟩,
  ⟨some 24, .mv (.t 5), none⟩,
  ⟨some 25, .bin .rem (.t 24) (.c (.int .u8 128)), none⟩,
  ⟨some 26, .bsli 1 1 [.int .u8 0] [(0, (.t 25))], none⟩,
  ⟨some 27, .app 1 1 (.t 23) (.t 26), none⟩,
  ⟨some 4, .mv (.t 27), none⟩]
theorem F_ref03_groupsr8_W {T : Tab} {env : Env} {H : Heap} {Q : Post} : W T (.reg F_ref03_groupsr8) env H Q ↔ WR T F_ref03_groupsr8 [
  ⟨some 23, .mv (.t 4), none⟩,
  ⟨some 24, .mv (.t 5), none⟩,
  ⟨some 25, .bin .rem (.t 24) (.c (.int .u8 128)), none⟩,
  ⟨some 26, .bsli 1 1 [.int .u8 0] [(0, (.t 25))], none⟩,
  ⟨some 27, .app 1 1 (.t 23) (.t 26), none⟩,
  ⟨some 4, .mv (.t 27), none⟩] env H none [] Q := w_reg
def F_ref03_groupsr9 : List IStmt := [
  ⟨some 28, .mv (.t 5), none⟩,
  ⟨some 29, .bin .lss (.t 28) (.c (.int .u8 128)), none⟩]
theorem F_ref03_groupsr9_W {T : Tab} {env : Env} {H : Heap} {Q : Post} : W T (.reg F_ref03_groupsr9) env H Q ↔ WR T F_ref03_groupsr9 [
  ⟨some 28, .mv (.t 5), none⟩,
  ⟨some 29, .bin .lss (.t 28) (.c (.int .u8 128)), none⟩] env H none [] Q := w_reg
def F_ref03_groupsr10 : List IStmt := [
  ⟨some 30, .loadN 2 (.t 1), none⟩,
  ⟨some 31, .mv (.t 4), none⟩,
  ⟨none, .store 2 (.t 2) (.t 30), none⟩,
  ⟨some 3, .mv (.t 31), none⟩]
theorem F_ref03_groupsr10_W {T : Tab} {env : Env} {H : Heap} {Q : Post} : W T (.reg F_ref03_groupsr10) env H Q ↔ WR T F_ref03_groupsr10 [
  ⟨some 30, .loadN 2 (.t 1), none⟩,
  ⟨some 31, .mv (.t 4), none⟩,
  ⟨none, .store 2 (.t 2) (.t 30), none⟩,
  ⟨some 3, .mv (.t 31), none⟩] env H none [] Q := w_reg
def F_ref03_groupsr11 : List IStmt := [
  ⟨some 32, .mv (.t 4), none⟩,
  ⟨some 33, .len 1 (.t 32), none⟩,
  ⟨some 34, .bin .eql (.t 33) (.c (.int .i64 10)), none⟩]
theorem F_ref03_groupsr11_W {T : Tab} {env : Env} {H : Heap} {Q : Post} : W T (.reg F_ref03_groupsr11) env H Q ↔ WR T F_ref03_groupsr11 [
  ⟨some 32, .mv (.t 4), none⟩,
  ⟨some 33, .len 1 (.t 32), none⟩,
  ⟨some 34, .bin .eql (.t 33) (.c (.int .i64 10)), none⟩] env H none [] Q := w_reg
def F_ref03_groupsr12 : List IStmt := [
  ⟨some 35, .fa 1 (.t 1), none⟩,
  ⟨none, .store 1 (.t 35) (.c (.int .i64 30)), none⟩]
theorem F_ref03_groupsr12_W {T : Tab} {env : Env} {H : Heap} {Q : Post} : W T (.reg F_ref03_groupsr12) env H Q ↔ WR T F_ref03_groupsr12 [
  ⟨some 35, .fa 1 (.t 1), none⟩,
  ⟨none, .store 1 (.t 35) (.c (.int .i64 30)), none⟩] env H none [] Q := w_reg
def F_ref03_groupsr13 : List IStmt := [
  ⟨some 36, .loadN 2 (.t 1), none⟩,
  ⟨none, .store 2 (.t 2) (.t 36), none⟩,
  ⟨some 3, .mv (.c (.slice none 0 0)), none⟩]
theorem F_ref03_groupsr13_W {T : Tab} {env : Env} {H : Heap} {Q : Post} : W T (.reg F_ref03_groupsr13) env H Q ↔ WR T F_ref03_groupsr13 [
  ⟨some 36, .loadN 2 (.t 1), none⟩,
  ⟨none, .store 2 (.t 2) (.t 36), none⟩,
  ⟨some 3, .mv (.c (.slice none 0 0)), none⟩] env H none [] Q := w_reg
def F_ref03_groupsl0 : ICode := (.seq (.seq (.reg F_ref03_groupsr2) (.cond (.t 8) .skip (.exit 0))) (.block 1 (.seq (.seq (.reg F_ref03_groupsr3) (.cond (.t 12) (.seq (.reg F_ref03_groupsr4) (.seq (.reg F_ref03_groupsr5) .ret)) .skip)) (.seq (.reg F_ref03_groupsr6) (.seq (.reg F_ref03_groupsr7) (.seq (.reg F_ref03_groupsr8) (.seq (.seq (.reg F_ref03_groupsr9) (.cond (.t 29) (.seq (.reg F_ref03_groupsr10) .ret) .skip)) (.seq (.reg F_ref03_groupsr11) (.cond (.t 34) (.seq (.reg F_ref03_groupsr12) (.seq (.reg F_ref03_groupsr13) .ret)) .skip)))))))))
theorem F_ref03_groupsl0_W {T : Tab} {env : Env} {H : Heap} {Q : Post} : W T F_ref03_groupsl0 env H Q ↔ W T (.seq (.seq (.reg F_ref03_groupsr2) (.cond (.t 8) .skip (.exit 0))) (.block 1 (.seq (.seq (.reg F_ref03_groupsr3) (.cond (.t 12) (.seq (.reg F_ref03_groupsr4) (.seq (.reg F_ref03_groupsr5) .ret)) .skip)) (.seq (.reg F_ref03_groupsr6) (.seq (.reg F_ref03_groupsr7) (.seq (.reg F_ref03_groupsr8) (.seq (.seq (.reg F_ref03_groupsr9) (.cond (.t 29) (.seq (.reg F_ref03_groupsr10) .ret) .skip)) (.seq (.reg F_ref03_groupsr11) (.cond (.t 34) (.seq (.reg F_ref03_groupsr12) (.seq (.reg F_ref03_groupsr13) .ret)) .skip))))))))) env H Q := Iff.rfl
def F_ref03_groupsr14 : List IStmt := [
  ⟨some 37, .loadN 2 (.t 1), none⟩,
  ⟨none, .store 2 (.t 2) (.t 37), none⟩,
  ⟨some 3, .mv (.c (.slice none 0 0)), none⟩]
theorem F_ref03_groupsr14_W {T : Tab} {env : Env} {H : Heap} {Q : Post} : W T (.reg F_ref03_groupsr14) env H Q ↔ WR T F_ref03_groupsr14 [
  ⟨some 37, .loadN 2 (.t 1), none⟩,
  ⟨none, .store 2 (.t 2) (.t 37), none⟩,
  ⟨some 3, .mv (.c (.slice none 0 0)), none⟩] env H none [] Q := w_reg
def F_ref03_groupsc : ICode := (.seq (.reg F_ref03_groupsr0) (.seq (.reg F_ref03_groupsr1) (.seq (.block 0 (.loop F_ref03_groupsl0)) (.seq (.reg F_ref03_groupsr14) .ret))))
theorem F_ref03_groupsc_W {T : Tab} {env : Env} {H : Heap} {Q : Post} : W T F_ref03_groupsc env H Q ↔ W T (.seq (.reg F_ref03_groupsr0) (.seq (.reg F_ref03_groupsr1) (.seq (.block 0 (.loop F_ref03_groupsl0)) (.seq (.reg F_ref03_groupsr14) .ret)))) env H Q := Iff.rfl
def F_ref03_groups : IFn := ⟨38, [.cell 2 (some 2), .tmp 3], F_ref03_groupsc⟩
set_option maxRecDepth 1000000 in
theorem F_ref03_groups_chk : chkF Try.prog 36 F_ref03_groups = true := by kernel_rfl

/-! ### ref03_bits -/
def F_ref03_bitsr0 : List IStmt := [
  ⟨some 4, .mv (.c (.slice none 0 0)), none⟩]
theorem F_ref03_bitsr0_W {T : Tab} {env : Env} {H : Heap} {Q : Post} : W T (.reg F_ref03_bitsr0) env H Q ↔ WR T F_ref03_bitsr0 [
  ⟨some 4, .mv (.c (.slice none 0 0)), none⟩] env H none [] Q := w_reg
def F_ref03_bitsr1 : List IStmt := [
  ⟨some 5, .mv (.c (.slice none 0 0)), none⟩]
theorem F_ref03_bitsr1_W {T : Tab} {env : Env} {H : Heap} {Q : Post} : W T (.reg F_ref03_bitsr1) env H Q ↔ WR T F_ref03_bitsr1 [
  ⟨some 5, .mv (.c (.slice none 0 0)), none⟩] env H none [] Q := w_reg
def F_ref03_bitsr2 : List IStmt := [
  ⟨some 6, .mv (.c (.int .i64 0)), none⟩]
theorem F_ref03_bitsr2_W {T : Tab} {env : Env} {H : Heap} {Q : Post} : W T (.reg F_ref03_bitsr2) env H Q ↔ WR T F_ref03_bitsr2 [
  ⟨some 6, .mv (.c (.int .i64 0)), none⟩] env H none [] Q := w_reg
def F_ref03_bitsr3 : List IStmt := [
  ⟨some 9, .mv (.t 6), none⟩,
  ⟨some 10, .mv (.t 0), none⟩,
  ⟨some 11, .len 1 (.t 10), none⟩,
  ⟨some 12, .bin .lss (.t 9) (.t 11), none⟩]
theorem F_ref03_bitsr3_W {T : Tab} {env : Env} {H : Heap} {Q : Post} : W T (.reg F_ref03_bitsr3) env H Q ↔ WR T F_ref03_bitsr3 [
  ⟨some 9, .mv (.t 6), none⟩,
  ⟨some 10, .mv (.t 0), none⟩,
  ⟨some 11, .len 1 (.t 10), none⟩,
  ⟨some 12, .bin .lss (.t 9) (.t 11), none⟩] env H none [] Q := w_reg
def F_ref03_bitsr5 : List IStmt := [
  ⟨some 7, .mv (.c (.int .i64 0)), none⟩]
theorem F_ref03_bitsr5_W {T : Tab} {env : Env} {H : Heap} {Q : Post} : W T (.reg F_ref03_bitsr5) env H Q ↔ WR T F_ref03_bitsr5 [
  ⟨some 7, .mv (.c (.int .i64 0)), none⟩] env H none [] Q := w_reg
def F_ref03_bitsr6 : List IStmt := [
  ⟨some 15, .mv (.t 7), none⟩,
  ⟨some 16, .bin .lss (.t 15) (.c (.int .i64 7)), none⟩]
theorem F_ref03_bitsr6_W {T : Tab} {env : Env} {H : Heap} {Q : Post} : W T (.reg F_ref03_bitsr6) env H Q ↔ WR T F_ref03_bitsr6 [
  ⟨some 15, .mv (.t 7), none⟩,
  ⟨some 16, .bin .lss (.t 15) (.c (.int .i64 7)), none⟩] env H none [] Q := w_reg
def F_ref03_bitsr8 : List IStmt := [
  ⟨some 19, .mv (.t 5), none⟩,
  ⟨some 20, .mv (.t 0), none⟩,
  ⟨some 21, .mv (.t 6), none⟩,
  ⟨some 22, .ixa 1 (.t 20) (.t 21), none⟩,
  ⟨some 23, .load (.t 22), none⟩,
  ⟨some 24, .mv (.t 7), none⟩,
  ⟨some 25, .conv .u64 (.t 24), none⟩,
  ⟨some 26, .bin .shr (.t 23) (.t 25), none⟩,
  ⟨some 27, .bin .and (.t 26) (.c (.int .u8 1)), none⟩,
  ⟨some 28, .bin .eql (.t 27) (.c (.int .u8 1)), none⟩,
  ⟨some 29, .bsli 1 1 [.bool false] [(0, (.t 28))], none⟩,
  ⟨some 30, .app 1 1 (.t 19) (.t 29), none⟩,
  ⟨some 5, .mv (.t 30), none⟩]
theorem F_ref03_bitsr8_W {T : Tab} {env : Env} {H : Heap} {Q : Post} : W T (.reg F_ref03_bitsr8) env H Q ↔ WR T F_ref03_bitsr8 [
  ⟨some 19, .mv (.t 5), none⟩,
  ⟨some 20, .mv (.t 0), none⟩,
  ⟨some 21, .mv (.t 6), none⟩,
  ⟨some 22, .ixa 1 (.t 20) (.t 21), none⟩,
  ⟨some 23, .load (.t 22), none⟩,
  ⟨some 24, .mv (.t 7), none⟩,
  ⟨some 25, .conv .u64 (.t 24), none⟩,
  ⟨some 26, .bin .shr (.t 23) (.t 25), none⟩,
  ⟨some 27, .bin .and (.t 26) (.c (.int .u8 1)), none⟩,
  ⟨some 28, .bin .eql (.t 27) (.c (.int .u8 1)), none⟩,
  ⟨some 29, .bsli 1 1 [.bool false] [(0, (.t 28))], none⟩,
  ⟨some 30, .app 1 1 (.t 19) (.t 29), none⟩,
  ⟨some 5, .mv (.t 30), none⟩] env H none [] Q := w_reg
def F_ref03_bitsr7 : List IStmt := [
  ⟨some 17, .mv (.t 7), none⟩,
  ⟨some 18, .bin .add (.t 17) (.c (.int .i64 1)), none⟩,
  ⟨some 7, .mv (.t 18), none⟩]
theorem F_ref03_bitsr7_W {T : Tab} {env : Env} {H : Heap} {Q : Post} : W T (.reg F_ref03_bitsr7) env H Q ↔ WR T F_ref03_bitsr7 [
  ⟨some 17, .mv (.t 7), none⟩,
  ⟨some 18, .bin .add (.t 17) (.c (.int .i64 1)), none⟩,
  ⟨some 7, .mv (.t 18), none⟩] env H none [] Q := w_reg
def F_ref03_bitsl1 : ICode := (.seq (.seq (.reg F_ref03_bitsr6) (.cond (.t 16) .skip (.exit 2))) (.seq (.block 3 (.reg F_ref03_bitsr8)) (.reg F_ref03_bitsr7)))
theorem F_ref03_bitsl1_W {T : Tab} {env : Env} {H : Heap} {Q : Post} : W T F_ref03_bitsl1 env H Q ↔ W T (.seq (.seq (.reg F_ref03_bitsr6) (.cond (.t 16) .skip (.exit 2))) (.seq (.block 3 (.reg F_ref03_bitsr8)) (.reg F_ref03_bitsr7))) env H Q := Iff.rfl
def F_ref03_bitsr4 : List IStmt := [
  ⟨some 13, .mv (.t 6), none⟩,
  ⟨some 14, .bin .add (.t 13) (.c (.int .i64 1)), none⟩,
  ⟨some 6, .mv (.t 14), none⟩]
theorem F_ref03_bitsr4_W {T : Tab} {env : Env} {H : Heap} {Q : Post} : W T (.reg F_ref03_bitsr4) env H Q ↔ WR T F_ref03_bitsr4 [
  ⟨some 13, .mv (.t 6), none⟩,
  ⟨some 14, .bin .add (.t 13) (.c (.int .i64 1)), none⟩,
  ⟨some 6, .mv (.t 14), none⟩] env H none [] Q := w_reg
def F_ref03_bitsl0 : ICode := (.seq (.seq (.reg F_ref03_bitsr3) (.cond (.t 12) .skip (.exit 0))) (.seq (.block 1 (.seq (.reg F_ref03_bitsr5) (.block 2 (.loop F_ref03_bitsl1)))) (.reg F_ref03_bitsr4)))
theorem F_ref03_bitsl0_W {T : Tab} {env : Env} {H : Heap} {Q : Post} : W T F_ref03_bitsl0 env H Q ↔ W T (.seq (.seq (.reg F_ref03_bitsr3) (.cond (.t 12) .skip (.exit 0))) (.seq (.block 1 (.seq (.reg F_ref03_bitsr5) (.block 2 (.loop F_ref03_bitsl1)))) (.reg F_ref03_bitsr4))) env H Q := Iff.rfl
def F_ref03_bitsr9 : List IStmt := [
  ⟨some 31, .mv (.t 1), none⟩,
  ⟨some 32, .mv (.t 31), none⟩,
  ⟨some 33, .mv (.t 5), some (1, true)⟩,
  ⟨some 34, .len 1 (.t 33), some (1, true)⟩,
  ⟨some 35, .bin .gtr (.t 34) (.c (.int .i64 0)), some (1, true)⟩,
  ⟨some 36, .pick (.t 32) (.t 35) (.c (.bool false)), none⟩,
  ⟨some 37, .mv (.t 36), none⟩,
  ⟨some 38, .mv (.t 5), some (6, true)⟩,
  ⟨some 39, .mv (.t 5), some (6, true)⟩,
  ⟨some 40, .len 1 (.t 39), some (6, true)⟩,
  ⟨some 41, .bin .sub (.t 40) (.c (.int .i64 1)), some (6, true)⟩,
  ⟨some 42, .ixa 1 (.t 38) (.t 41), some (6, true)⟩,
  ⟨some 43, .load (.t 42), some (6, true)⟩,
  ⟨some 44, .pick (.t 37) (.t 43) (.c (.bool false)), none⟩,
  ⟨some 8, .mv (.t 44), none⟩]
theorem F_ref03_bitsr9_W {T : Tab} {env : Env} {H : Heap} {Q : Post} : W T (.reg F_ref03_bitsr9) env H Q ↔ WR T F_ref03_bitsr9 [
  ⟨some 31, .mv (.t 1), none⟩,
  ⟨some 32, .mv (.t 31), none⟩,
  ⟨some 33, .mv (.t 5), some (1, true)⟩,
  ⟨some 34, .len 1 (.t 33), some (1, true)⟩,
  ⟨some 35, .bin .gtr (.t 34) (.c (.int .i64 0)), some (1, true)⟩,
  ⟨some 36, .pick (.t 32) (.t 35) (.c (.bool false)), none⟩,
  ⟨some 37, .mv (.t 36), none⟩,
  ⟨some 38, .mv (.t 5), some (6, true)⟩,
  ⟨some 39, .mv (.t 5), some (6, true)⟩,
  ⟨some 40, .len 1 (.t 39), some (6, true)⟩,
  ⟨some 41, .bin .sub (.t 40) (.c (.int .i64 1)), some (6, true)⟩,
  ⟨some 42, .ixa 1 (.t 38) (.t 41), some (6, true)⟩,
  ⟨some 43, .load (.t 42), some (6, true)⟩,
  ⟨some 44, .pick (.t 37) (.t 43) (.c (.bool false)), none⟩,
  ⟨some 8, .mv (.t 44), none⟩] env H none [] Q := w_reg
theorem F_ref03_bitsr9_g1 {env : Env} : yieldI F_ref03_bitsr9 env 1 = bOf (env 32) := rfl
theorem F_ref03_bitsr9_g6 {env : Env} : yieldI F_ref03_bitsr9 env 6 = bOf (env 37) := rfl
def F_ref03_bitsr10 : List IStmt := [
  ⟨some 45, .mv (.t 5), none⟩,
  ⟨some 46, .len 1 (.t 45), none⟩,
  ⟨some 47, .bin .lss (.t 46) (.c (.int .i64 64)), none⟩]
theorem F_ref03_bitsr10_W {T : Tab} {env : Env} {H : Heap} {Q : Post} : W T (.reg F_ref03_bitsr10) env H Q ↔ WR T F_ref03_bitsr10 [
  ⟨some 45, .mv (.t 5), none⟩,
  ⟨some 46, .len 1 (.t 45), none⟩,
  ⟨some 47, .bin .lss (.t 46) (.c (.int .i64 64)), none⟩] env H none [] Q := w_reg
def F_ref03_bitsr11 : List IStmt := [
  ⟨some 48, .mv (.t 5), none⟩,
  ⟨some 49, .mv (.t 8), none⟩,
  ⟨some 50, .bsli 1 1 [.bool false] [(0, (.t 49))], none⟩,
  ⟨some 51, .app 1 1 (.t 48) (.t 50), none⟩,
  ⟨some 5, .mv (.t 51), none⟩]
theorem F_ref03_bitsr11_W {T : Tab} {env : Env} {H : Heap} {Q : Post} : W T (.reg F_ref03_bitsr11) env H Q ↔ WR T F_ref03_bitsr11 [
  ⟨some 48, .mv (.t 5), none⟩,
  ⟨some 49, .mv (.t 8), none⟩,
  ⟨some 50, .bsli 1 1 [.bool false] [(0, (.t 49))], none⟩,
  ⟨some 51, .app 1 1 (.t 48) (.t 50), none⟩,
  ⟨some 5, .mv (.t 51), none⟩] env H none [] Q := w_reg
def F_ref03_bitsl2 : ICode := (.seq (.seq (.reg F_ref03_bitsr10) (.cond (.t 47) .skip (.exit 4))) (.block 5 (.reg F_ref03_bitsr11)))
theorem F_ref03_bitsl2_W {T : Tab} {env : Env} {H : Heap} {Q : Post} : W T F_ref03_bitsl2 env H Q ↔ W T (.seq (.seq (.reg F_ref03_bitsr10) (.cond (.t 47) .skip (.exit 4))) (.block 5 (.reg F_ref03_bitsr11))) env H Q := Iff.rfl
def F_ref03_bitsr12 : List IStmt := [
  ⟨some 52, .mv (.t 5), none⟩,
  ⟨some 53, .sle 1 (.t 52) none (some (.c (.int .i64 64))) none, none⟩,
  ⟨some 4, .mv (.t 53), none⟩]
theorem F_ref03_bitsr12_W {T : Tab} {env : Env} {H : Heap} {Q : Post} : W T (.reg F_ref03_bitsr12) env H Q ↔ WR T F_ref03_bitsr12 [
  ⟨some 52, .mv (.t 5), none⟩,
  ⟨some 53, .sle 1 (.t 52) none (some (.c (.int .i64 64))) none, none⟩,
  ⟨some 4, .mv (.t 53), none⟩] env H none [] Q := w_reg
def F_ref03_bitsc : ICode := (.seq (.reg F_ref03_bitsr0) (.seq (.reg F_ref03_bitsr1) (.seq (.seq (.reg F_ref03_bitsr2) (.block 0 (.loop F_ref03_bitsl0))) (.seq (.reg F_ref03_bitsr9) (.seq (.block 4 (.loop F_ref03_bitsl2)) (.seq (.reg F_ref03_bitsr12) .ret))))))
theorem F_ref03_bitsc_W {T : Tab} {env : Env} {H : Heap} {Q : Post} : W T F_ref03_bitsc env H Q ↔ W T (.seq (.reg F_ref03_bitsr0) (.seq (.reg F_ref03_bitsr1) (.seq (.seq (.reg F_ref03_bitsr2) (.block 0 (.loop F_ref03_bitsl0))) (.seq (.reg F_ref03_bitsr9) (.seq (.block 4 (.loop F_ref03_bitsl2)) (.seq (.reg F_ref03_bitsr12) .ret)))))) env H Q := Iff.rfl
def F_ref03_bits : IFn := ⟨54, [.tmp 4], F_ref03_bitsc⟩
set_option maxRecDepth 1000000 in
theorem F_ref03_bits_chk : chkF Try.prog 38 F_ref03_bits = true := by kernel_rfl

/-! ### ref03_number -/
def F_ref03_numberr0 : List IStmt := [
  ⟨some 2, .mv (.c (.int .u64 0)), none⟩]
theorem F_ref03_numberr0_W {T : Tab} {env : Env} {H : Heap} {Q : Post} : W T (.reg F_ref03_numberr0) env H Q ↔ WR T F_ref03_numberr0 [
  ⟨some 2, .mv (.c (.int .u64 0)), none⟩] env H none [] Q := w_reg
def F_ref03_numberr1 : List IStmt := [
  ⟨some 3, .mv (.c (.int .u64 0)), none⟩]
theorem F_ref03_numberr1_W {T : Tab} {env : Env} {H : Heap} {Q : Post} : W T (.reg F_ref03_numberr1) env H Q ↔ WR T F_ref03_numberr1 [
  ⟨some 3, .mv (.c (.int .u64 0)), none⟩] env H none [] Q := w_reg
def F_ref03_numberr2 : List IStmt := [
  ⟨some 5, .mv (.t 0), none⟩,
  ⟨some 6, .len 1 (.t 5), none⟩,
  ⟨some 7, .bin .sub (.t 6) (.c (.int .i64 1)), none⟩,
  ⟨some 4, .mv (.t 7), none⟩]
theorem F_ref03_numberr2_W {T : Tab} {env : Env} {H : Heap} {Q : Post} : W T (.reg F_ref03_numberr2) env H Q ↔ WR T F_ref03_numberr2 [
  ⟨some 5, .mv (.t 0), none⟩,
  ⟨some 6, .len 1 (.t 5), none⟩,
  ⟨some 7, .bin .sub (.t 6) (.c (.int .i64 1)), none⟩,
  ⟨some 4, .mv (.t 7), none⟩] env H none [] Q := w_reg
def F_ref03_numberr3 : List IStmt := [
  ⟨some 8, .mv (.t 4), none⟩,
  ⟨some 9, .bin .geq (.t 8) (.c (.int .i64 0)), none⟩]
theorem F_ref03_numberr3_W {T : Tab} {env : Env} {H : Heap} {Q : Post} : W T (.reg F_ref03_numberr3) env H Q ↔ WR T F_ref03_numberr3 [
  ⟨some 8, .mv (.t 4), none⟩,
  ⟨some 9, .bin .geq (.t 8) (.c (.int .i64 0)), none⟩] env H none [] Q := w_reg
def F_ref03_numberr5 : List IStmt := [
  ⟨some 12, .mv (.t 3), none⟩,
  ⟨some 13, .bin .mul (.t 12) (.c (.int .u64 2)), none⟩,
  ⟨some 3, .mv (.t 13), none⟩]
theorem F_ref03_numberr5_W {T : Tab} {env : Env} {H : Heap} {Q : Post} : W T (.reg F_ref03_numberr5) env H Q ↔ WR T F_ref03_numberr5 [
  ⟨some 12, .mv (.t 3), none⟩,
  ⟨some 13, .bin .mul (.t 12) (.c (.int .u64 2)), none⟩,
  ⟨some 3, .mv (.t 13), none⟩] env H none [] Q := w_reg
def F_ref03_numberr6 : List IStmt := [
  ⟨some 14, .mv (.t 0), none⟩,
  ⟨some 15, .mv (.t 4), none⟩,
  ⟨some 16, .ixa 1 (.t 14) (.t 15), none⟩,
  ⟨some 17, .load (.t 16), none⟩]
theorem F_ref03_numberr6_W {T : Tab} {env : Env} {H : Heap} {Q : Post} : W T (.reg F_ref03_numberr6) env H Q ↔ WR T F_ref03_numberr6 [
  ⟨some 14, .mv (.t 0), none⟩,
  ⟨some 15, .mv (.t 4), none⟩,
  ⟨some 16, .ixa 1 (.t 14) (.t 15), none⟩,
  ⟨some 17, .load (.t 16), none⟩] env H none [] Q := w_reg
def F_ref03_numberr7 : List IStmt := [
  ⟨some 18, .mv (.t 3), none⟩,
  ⟨some 19, .bin .add (.t 18) (.c (.int .u64 1)), none⟩,
  ⟨some 3, .mv (.t 19), none⟩]
theorem F_ref03_numberr7_W {T : Tab} {env : Env} {H : Heap} {Q : Post} : W T (.reg F_ref03_numberr7) env H Q ↔ WR T F_ref03_numberr7 [
  ⟨some 18, .mv (.t 3), none⟩,
  ⟨some 19, .bin .add (.t 18) (.c (.int .u64 1)), none⟩,
  ⟨some 3, .mv (.t 19), none⟩] env H none [] Q := w_reg
def F_ref03_numberr4 : List IStmt := [
  ⟨some 10, .mv (.t 4), none⟩,
  ⟨some 11, .bin .sub (.t 10) (.c (.int .i64 1)), none⟩,
  ⟨some 4, .mv (.t 11), none⟩]
theorem F_ref03_numberr4_W {T : Tab} {env : Env} {H : Heap} {Q : Post} : W T (.reg F_ref03_numberr4) env H Q ↔ WR T F_ref03_numberr4 [
  ⟨some 10, .mv (.t 4), none⟩,
  ⟨some 11, .bin .sub (.t 10) (.c (.int .i64 1)), none⟩,
  ⟨some 4, .mv (.t 11), none⟩] env H none [] Q := w_reg
def F_ref03_numberl0 : ICode := (.seq (.seq (.reg F_ref03_numberr3) (.cond (.t 9) .skip (.exit 0))) (.seq (.block 1 (.seq (.reg F_ref03_numberr5) (.seq (.reg F_ref03_numberr6) (.cond (.t 17) (.reg F_ref03_numberr7) .skip)))) (.reg F_ref03_numberr4)))
theorem F_ref03_numberl0_W {T : Tab} {env : Env} {H : Heap} {Q : Post} : W T F_ref03_numberl0 env H Q ↔ W T (.seq (.seq (.reg F_ref03_numberr3) (.cond (.t 9) .skip (.exit 0))) (.seq (.block 1 (.seq (.reg F_ref03_numberr5) (.seq (.reg F_ref03_numberr6) (.cond (.t 17) (.reg F_ref03_numberr7) .skip)))) (.reg F_ref03_numberr4))) env H Q := Iff.rfl
def F_ref03_numberr8 : List IStmt := [
  ⟨some 20, .mv (.t 3), none⟩,
  ⟨some 2, .mv (.t 20), none⟩]
theorem F_ref03_numberr8_W {T : Tab} {env : Env} {H : Heap} {Q : Post} : W T (.reg F_ref03_numberr8) env H Q ↔ WR T F_ref03_numberr8 [
  ⟨some 20, .mv (.t 3), none⟩,
  ⟨some 2, .mv (.t 20), none⟩] env H none [] Q := w_reg
def F_ref03_numberc : ICode := (.seq (.reg F_ref03_numberr0) (.seq (.reg F_ref03_numberr1) (.seq (.seq (.reg F_ref03_numberr2) (.block 0 (.loop F_ref03_numberl0))) (.seq (.reg F_ref03_numberr8) .ret))))
theorem F_ref03_numberc_W {T : Tab} {env : Env} {H : Heap} {Q : Post} : W T F_ref03_numberc env H Q ↔ W T (.seq (.reg F_ref03_numberr0) (.seq (.reg F_ref03_numberr1) (.seq (.seq (.reg F_ref03_numberr2) (.block 0 (.loop F_ref03_numberl0))) (.seq (.reg F_ref03_numberr8) .ret)))) env H Q := Iff.rfl
def F_ref03_number : IFn := ⟨21, [.tmp 2], F_ref03_numberc⟩
set_option maxRecDepth 1000000 in
theorem F_ref03_number_chk : chkF Try.prog 37 F_ref03_number = true := by kernel_rfl

/-! ### ref03_U -/
def F_ref03_Ur0 : List IStmt := [
  ⟨some 1, .box 2 (.t 0), none⟩,
  ⟨some 2, .alloc 2 [.slice none 0 0, .int .i64 0], none⟩,
  ⟨some 3, .mv (.c (.int .u64 0)), none⟩]
theorem F_ref03_Ur0_W {T : Tab} {env : Env} {H : Heap} {Q : Post} : W T (.reg F_ref03_Ur0) env H Q ↔ WR T F_ref03_Ur0 [
  ⟨some 1, .box 2 (.t 0), none⟩,
  ⟨some 2, .alloc 2 [.slice none 0 0, .int .i64 0], none⟩,
  ⟨some 3, .mv (.c (.int .u64 0)), none⟩] env H none [] Q := w_reg
def F_ref03_Ur1 : List IStmt := [
  ⟨some 6, .loadN 2 (.t 1), none⟩,
  ⟨some 7, .callc 36 [(.t 6)], none⟩,
  ⟨some 5, .mv (.t 7), none⟩,
  ⟨some 8, .ext (.t 5) 0, none⟩,
  ⟨some 9, .ext (.t 5) 1, none⟩,
  ⟨none, .store 2 (.t 1) (.t 8), none⟩,
  ⟨some 4, .mv (.t 9), none⟩]
theorem F_ref03_Ur1_W {T : Tab} {env : Env} {H : Heap} {Q : Post} : W T (.reg F_ref03_Ur1) env H Q ↔ WR T F_ref03_Ur1 [
  ⟨some 6, .loadN 2 (.t 1), none⟩,
  ⟨some 7, .callc 36 [(.t 6)], none⟩,
  ⟨some 5, .mv (.t 7), none⟩,
  ⟨some 8, .ext (.t 5) 0, none⟩,
  ⟨some 9, .ext (.t 5) 1, none⟩,
  ⟨none, .store 2 (.t 1) (.t 8), none⟩,
  ⟨some 4, .mv (.t 9), none⟩] env H none [] Q := w_reg
def F_ref03_Ur2 : List IStmt := [
  ⟨some 10, .fa 1 (.t 1), none⟩,
  ⟨some 11, .load (.t 10), none⟩,
  ⟨some 12, .bin .neq (.t 11) (.c (.int .i64 0)), none⟩]
theorem F_ref03_Ur2_W {T : Tab} {env : Env} {H : Heap} {Q : Post} : W T (.reg F_ref03_Ur2) env H Q ↔ WR T F_ref03_Ur2 [
  ⟨some 10, .fa 1 (.t 1), none⟩,
  ⟨some 11, .load (.t 10), none⟩,
  ⟨some 12, .bin .neq (.t 11) (.c (.int .i64 0)), none⟩] env H none [] Q := w_reg
def F_ref03_Ur3 : List IStmt := [
  ⟨some 13, .loadN 2 (.t 1), none⟩,
  ⟨none, .store 2 (.t 2) (.t 13), none⟩,
  ⟨some 3, .mv (.c (.int .u64 0)), none⟩]
theorem F_ref03_Ur3_W {T : Tab} {env : Env} {H : Heap} {Q : Post} : W T (.reg F_ref03_Ur3) env H Q ↔ WR T F_ref03_Ur3 [
  ⟨some 13, .loadN 2 (.t 1), none⟩,
  ⟨none, .store 2 (.t 2) (.t 13), none⟩,
  ⟨some 3, .mv (.c (.int .u64 0)), none⟩] env H none [] Q := w_reg
def F_ref03_Ur4 : List IStmt := [
  ⟨some 14, .mv (.t 4), none⟩,
  ⟨some 15, .len 1 (.t 14), none⟩,
  ⟨some 16, .bin .eql (.t 15) (.c (.int .i64 10)), none⟩,
  ⟨some 17, .mv (.t 16), none⟩,
  ⟨some 18, .mv (.t 4), some (3, true)⟩,
  ⟨some 19, .ixa 1 (.t 18) (.c (.int .i64 9)), some (3, true)⟩,
  ⟨some 20, .load (.t 19), some (3, true)⟩,
  ⟨some 21, .bin .gtr (.t 20) (.c (.int .u8 1)), some (3, true)⟩,
  ⟨some 22, .pick (.t 17) (.t 21) (.c (.bool false)), none⟩]
theorem F_ref03_Ur4_W {T : Tab} {env : Env} {H : Heap} {Q : Post} : W T (.reg F_ref03_Ur4) env H Q ↔ WR T F_ref03_Ur4 [
  ⟨some 14, .mv (.t 4), none⟩,
  ⟨some 15, .len 1 (.t 14), none⟩,
  ⟨some 16, .bin .eql (.t 15) (.c (.int .i64 10)), none⟩,
  ⟨some 17, .mv (.t 16), none⟩,
  ⟨some 18, .mv (.t 4), some (3, true)⟩,
  ⟨some 19, .ixa 1 (.t 18) (.c (.int .i64 9)), some (3, true)⟩,
  ⟨some 20, .load (.t 19), some (3, true)⟩,
  ⟨some 21, .bin .gtr (.t 20) (.c (.int .u8 1)), some (3, true)⟩,
  ⟨some 22, .pick (.t 17) (.t 21) (.c (.bool false)), none⟩] env H none [] Q := w_reg
theorem F_ref03_Ur4_g3 {env : Env} : yieldI F_ref03_Ur4 env 3 = bOf (env 17) := rfl
def F_ref03_Ur5 : List IStmt := [
  ⟨some 23, .fa 1 (.t 1), none⟩,
  ⟨none, .store 1 (.t 23) (.c (.int .i64 30)), none⟩]
theorem F_ref03_Ur5_W {T : Tab} {env : Env} {H : Heap} {Q : Post} : W T (.reg F_ref03_Ur5) env H Q ↔ WR T F_ref03_Ur5 [
  ⟨some 23, .fa 1 (.t 1), none⟩,
  ⟨none, .store 1 (.t 23) (.c (.int .i64 30)), none⟩] env H none [] Q := w_reg
def F_ref03_Ur6 : List IStmt := [
  ⟨some 24, .loadN 2 (.t 1), none⟩,
  ⟨none, .store 2 (.t 2) (.t 24), none⟩,
  ⟨some 3, .mv (.c (.int .u64 0)), none⟩]
theorem F_ref03_Ur6_W {T : Tab} {env : Env} {H : Heap} {Q : Post} : W T (.reg F_ref03_Ur6) env H Q ↔ WR T F_ref03_Ur6 [
  ⟨some 24, .loadN 2 (.t 1), none⟩,
  ⟨none, .store 2 (.t 2) (.t 24), none⟩,
  ⟨some 3, .mv (.c (.int .u64 0)), none⟩] env H none [] Q := w_reg
def F_ref03_Ur7 : List IStmt := [
  ⟨some 25, .loadN 2 (.t 1), none⟩,
  ⟨some 26, .mv (.t 4), none⟩,
  ⟨some 27, .callc 38 [(.t 26), (.c (.bool false))], none⟩,
  ⟨some 28, .callc 37 [(.t 27)], none⟩,
  ⟨none, .store 2 (.t 2) (.t 25), none⟩,
  ⟨some 3, .mv (.t 28), none⟩]
theorem F_ref03_Ur7_W {T : Tab} {env : Env} {H : Heap} {Q : Post} : W T (.dreg F_ref03_Ur7 []) env H Q ↔ WR T F_ref03_Ur7 [
  ⟨some 25, .loadN 2 (.t 1), none⟩,
  ⟨some 26, .mv (.t 4), none⟩,
  ⟨some 27, .callc 38 [(.t 26), (.c (.bool false))], none⟩,
  ⟨some 28, .callc 37 [(.t 27)], none⟩,
  ⟨none, .store 2 (.t 2) (.t 25), none⟩,
  ⟨some 3, .mv (.t 28), none⟩] env H none [] Q := w_dreg0
def F_ref03_Uc : ICode := (.seq (.reg F_ref03_Ur0) (.seq (.reg F_ref03_Ur1) (.seq (.seq (.reg F_ref03_Ur2) (.cond (.t 12) (.seq (.reg F_ref03_Ur3) .ret) .skip)) (.seq (.seq (.reg F_ref03_Ur4) (.cond (.t 22) (.seq (.reg F_ref03_Ur5) (.seq (.reg F_ref03_Ur6) .ret)) .skip)) (.seq (.dreg F_ref03_Ur7 []) .ret)))))
theorem F_ref03_Uc_W {T : Tab} {env : Env} {H : Heap} {Q : Post} : W T F_ref03_Uc env H Q ↔ W T (.seq (.reg F_ref03_Ur0) (.seq (.reg F_ref03_Ur1) (.seq (.seq (.reg F_ref03_Ur2) (.cond (.t 12) (.seq (.reg F_ref03_Ur3) .ret) .skip)) (.seq (.seq (.reg F_ref03_Ur4) (.cond (.t 22) (.seq (.reg F_ref03_Ur5) (.seq (.reg F_ref03_Ur6) .ret)) .skip)) (.seq (.dreg F_ref03_Ur7 []) .ret))))) env H Q := Iff.rfl
def F_ref03_U : IFn := ⟨29, [.cell 2 (some 2), .tmp 3], F_ref03_Uc⟩
set_option maxRecDepth 1000000 in
theorem F_ref03_U_chk : chkF Try.prog 20 F_ref03_U = true := by kernel_rfl

/-! ### ref03_S -/
def F_ref03_Sr0 : List IStmt := [
  ⟨some 1, .box 2 (.t 0), none⟩,
  ⟨some 2, .alloc 2 [.slice none 0 0, .int .i64 0], none⟩,
  ⟨some 3, .mv (.c (.int .i64 0)), none⟩]
theorem F_ref03_Sr0_W {T : Tab} {env : Env} {H : Heap} {Q : Post} : W T (.reg F_ref03_Sr0) env H Q ↔ WR T F_ref03_Sr0 [
  ⟨some 1, .box 2 (.t 0), none⟩,
  ⟨some 2, .alloc 2 [.slice none 0 0, .int .i64 0], none⟩,
  ⟨some 3, .mv (.c (.int .i64 0)), none⟩] env H none [] Q := w_reg
def F_ref03_Sr1 : List IStmt := [
  ⟨some 6, .loadN 2 (.t 1), none⟩,
  ⟨some 7, .callc 36 [(.t 6)], none⟩,
  ⟨some 5, .mv (.t 7), none⟩,
  ⟨some 8, .ext (.t 5) 0, none⟩,
  ⟨some 9, .ext (.t 5) 1, none⟩,
  ⟨none, .store 2 (.t 1) (.t 8), none⟩,
  ⟨some 4, .mv (.t 9), none⟩]
theorem F_ref03_Sr1_W {T : Tab} {env : Env} {H : Heap} {Q : Post} : W T (.reg F_ref03_Sr1) env H Q ↔ WR T F_ref03_Sr1 [
  ⟨some 6, .loadN 2 (.t 1), none⟩,
  ⟨some 7, .callc 36 [(.t 6)], none⟩,
  ⟨some 5, .mv (.t 7), none⟩,
  ⟨some 8, .ext (.t 5) 0, none⟩,
  ⟨some 9, .ext (.t 5) 1, none⟩,
  ⟨none, .store 2 (.t 1) (.t 8), none⟩,
  ⟨some 4, .mv (.t 9), none⟩] env H none [] Q := w_reg
def F_ref03_Sr2 : List IStmt := [
  ⟨some 10, .fa 1 (.t 1), none⟩,
  ⟨some 11, .load (.t 10), none⟩,
  ⟨some 12, .bin .neq (.t 11) (.c (.int .i64 0)), none⟩]
theorem F_ref03_Sr2_W {T : Tab} {env : Env} {H : Heap} {Q : Post} : W T (.reg F_ref03_Sr2) env H Q ↔ WR T F_ref03_Sr2 [
  ⟨some 10, .fa 1 (.t 1), none⟩,
  ⟨some 11, .load (.t 10), none⟩,
  ⟨some 12, .bin .neq (.t 11) (.c (.int .i64 0)), none⟩] env H none [] Q := w_reg
def F_ref03_Sr3 : List IStmt := [
  ⟨some 13, .loadN 2 (.t 1), none⟩,
  ⟨none, .store 2 (.t 2) (.t 13), none⟩,
  ⟨some 3, .mv (.c (.int .i64 0)), none⟩]
theorem F_ref03_Sr3_W {T : Tab} {env : Env} {H : Heap} {Q : Post} : W T (.reg F_ref03_Sr3) env H Q ↔ WR T F_ref03_Sr3 [
  ⟨some 13, .loadN 2 (.t 1), none⟩,
  ⟨none, .store 2 (.t 2) (.t 13), none⟩,
  ⟨some 3, .mv (.c (.int .i64 0)), none⟩] env H none [] Q := w_reg
def F_ref03_Sr4 : List IStmt := [
  ⟨some 14, .mv (.t 4), none⟩,
  ⟨some 15, .len 1 (.t 14), none⟩,
  ⟨some 16, .bin .eql (.t 15) (.c (.int .i64 10)), none⟩,
  ⟨some 17, .mv (.t 16), none⟩,
  ⟨some 18, .mv (.t 4), some (3, true)⟩,
  ⟨some 19, .ixa 1 (.t 18) (.c (.int .i64 9)), some (3, true)⟩,
  ⟨some 20, .load (.t 19), some (3, true)⟩,
  ⟨some 21, .bin .neq (.t 20) (.c (.int .u8 0)), some (3, true)⟩,
  ⟨some 22, .pick (.t 17) (.t 21) (.c (.bool false)), none⟩,
  ⟨some 23, .mv (.t 22), none⟩,
  ⟨some 24, .mv (.t 4), some (9, true)⟩,
  ⟨some 25, .ixa 1 (.t 24) (.c (.int .i64 9)), some (9, true)⟩,
  ⟨some 26, .load (.t 25), some (9, true)⟩,
  ⟨some 27, .bin .neq (.t 26) (.c (.int .u8 127)), some (9, true)⟩,
  ⟨some 28, .pick (.t 23) (.t 27) (.c (.bool false)), none⟩]
theorem F_ref03_Sr4_W {T : Tab} {env : Env} {H : Heap} {Q : Post} : W T (.reg F_ref03_Sr4) env H Q ↔ WR T F_ref03_Sr4 [
  ⟨some 14, .mv (.t 4), none⟩,
  ⟨some 15, .len 1 (.t 14), none⟩,
  ⟨some 16, .bin .eql (.t 15) (.c (.int .i64 10)), none⟩,
  ⟨some 17, .mv (.t 16), none⟩,
  ⟨some 18, .mv (.t 4), some (3, true)⟩,
  ⟨some 19, .ixa 1 (.t 18) (.c (.int .i64 9)), some (3, true)⟩,
  ⟨some 20, .load (.t 19), some (3, true)⟩,
  ⟨some 21, .bin .neq (.t 20) (.c (.int .u8 0)), some (3, true)⟩,
  ⟨some 22, .pick (.t 17) (.t 21) (.c (.bool false)), none⟩,
  ⟨some 23, .mv (.t 22), none⟩,
  ⟨some 24, .mv (.t 4), some (9, true)⟩,
  ⟨some 25, .ixa 1 (.t 24) (.c (.int .i64 9)), some (9, true)⟩,
  ⟨some 26, .load (.t 25), some (9, true)⟩,
  ⟨some 27, .bin .neq (.t 26) (.c (.int .u8 127)), some (9, true)⟩,
  ⟨some 28, .pick (.t 23) (.t 27) (.c (.bool false)), none⟩] env H none [] Q := w_reg
theorem F_ref03_Sr4_g3 {env : Env} : yieldI F_ref03_Sr4 env 3 = bOf (env 17) := rfl
theorem F_ref03_Sr4_g9 {env : Env} : yieldI F_ref03_Sr4 env 9 = bOf (env 23) := rfl
def F_ref03_Sr5 : List IStmt := [
  ⟨some 29, .fa 1 (.t 1), none⟩,
  ⟨none, .store 1 (.t 29) (.c (.int .i64 30)), none⟩]
theorem F_ref03_Sr5_W {T : Tab} {env : Env} {H : Heap} {Q : Post} : W T (.reg F_ref03_Sr5) env H Q ↔ WR T F_ref03_Sr5 [
  ⟨some 29, .fa 1 (.t 1), none⟩,
  ⟨none, .store 1 (.t 29) (.c (.int .i64 30)), none⟩] env H none [] Q := w_reg
def F_ref03_Sr6 : List IStmt := [
  ⟨some 30, .loadN 2 (.t 1), none⟩,
  ⟨none, .store 2 (.t 2) (.t 30), none⟩,
  ⟨some 3, .mv (.c (.int .i64 0)), none⟩]
theorem F_ref03_Sr6_W {T : Tab} {env : Env} {H : Heap} {Q : Post} : W T (.reg F_ref03_Sr6) env H Q ↔ WR T F_ref03_Sr6 [
  ⟨some 30, .loadN 2 (.t 1), none⟩,
  ⟨none, .store 2 (.t 2) (.t 30), none⟩,
  ⟨some 3, .mv (.c (.int .i64 0)), none⟩] env H none [] Q := w_reg
def F_ref03_Sr7 : List IStmt := [
  ⟨some 31, .loadN 2 (.t 1), none⟩,
  ⟨some 32, .mv (.t 4), none⟩,
  ⟨some 33, .callc 38 [(.t 32), (.c (.bool true))], none⟩,
  ⟨some 34, .callc 37 [(.t 33)], none⟩,
  ⟨some 35, .conv .i64 (.t 34), none⟩,
  ⟨none, .store 2 (.t 2) (.t 31), none⟩,
  ⟨some 3, .mv (.t 35), none⟩]
theorem F_ref03_Sr7_W {T : Tab} {env : Env} {H : Heap} {Q : Post} : W T (.dreg F_ref03_Sr7 []) env H Q ↔ WR T F_ref03_Sr7 [
  ⟨some 31, .loadN 2 (.t 1), none⟩,
  ⟨some 32, .mv (.t 4), none⟩,
  ⟨some 33, .callc 38 [(.t 32), (.c (.bool true))], none⟩,
  ⟨some 34, .callc 37 [(.t 33)], none⟩,
  ⟨some 35, .conv .i64 (.t 34), none⟩,
  ⟨none, .store 2 (.t 2) (.t 31), none⟩,
  ⟨some 3, .mv (.t 35), none⟩] env H none [] Q := w_dreg0
def F_ref03_Sc : ICode := (.seq (.reg F_ref03_Sr0) (.seq (.reg F_ref03_Sr1) (.seq (.seq (.reg F_ref03_Sr2) (.cond (.t 12) (.seq (.reg F_ref03_Sr3) .ret) .skip)) (.seq (.seq (.reg F_ref03_Sr4) (.cond (.t 28) (.seq (.reg F_ref03_Sr5) (.seq (.reg F_ref03_Sr6) .ret)) .skip)) (.seq (.dreg F_ref03_Sr7 []) .ret)))))
theorem F_ref03_Sc_W {T : Tab} {env : Env} {H : Heap} {Q : Post} : W T F_ref03_Sc env H Q ↔ W T (.seq (.reg F_ref03_Sr0) (.seq (.reg F_ref03_Sr1) (.seq (.seq (.reg F_ref03_Sr2) (.cond (.t 12) (.seq (.reg F_ref03_Sr3) .ret) .skip)) (.seq (.seq (.reg F_ref03_Sr4) (.cond (.t 28) (.seq (.reg F_ref03_Sr5) (.seq (.reg F_ref03_Sr6) .ret)) .skip)) (.seq (.dreg F_ref03_Sr7 []) .ret))))) env H Q := Iff.rfl
def F_ref03_S : IFn := ⟨36, [.cell 2 (some 2), .tmp 3], F_ref03_Sc⟩
set_option maxRecDepth 1000000 in
theorem F_ref03_S_chk : chkF Try.prog 18 F_ref03_S = true := by kernel_rfl

/-! ### ref03_Left -/
def F_ref03_Leftr0 : List IStmt := [
  ⟨some 1, .box 2 (.t 0), none⟩,
  ⟨some 2, .mv (.c (.int .i64 0)), none⟩]
theorem F_ref03_Leftr0_W {T : Tab} {env : Env} {H : Heap} {Q : Post} : W T (.reg F_ref03_Leftr0) env H Q ↔ WR T F_ref03_Leftr0 [
  ⟨some 1, .box 2 (.t 0), none⟩,
  ⟨some 2, .mv (.c (.int .i64 0)), none⟩] env H none [] Q := w_reg
def F_ref03_Leftr1 : List IStmt := [
  ⟨some 3, .fa 1 (.t 1), none⟩,
  ⟨some 4, .load (.t 3), none⟩,
  ⟨some 5, .bin .neq (.t 4) (.c (.int .i64 0)), none⟩]
theorem F_ref03_Leftr1_W {T : Tab} {env : Env} {H : Heap} {Q : Post} : W T (.reg F_ref03_Leftr1) env H Q ↔ WR T F_ref03_Leftr1 [
  ⟨some 3, .fa 1 (.t 1), none⟩,
  ⟨some 4, .load (.t 3), none⟩,
  ⟨some 5, .bin .neq (.t 4) (.c (.int .i64 0)), none⟩] env H none [] Q := w_reg
def F_ref03_Leftr2 : List IStmt := [
  ⟨some 2, .mv (.c (.int .i64 0)), none⟩]
theorem F_ref03_Leftr2_W {T : Tab} {env : Env} {H : Heap} {Q : Post} : W T (.reg F_ref03_Leftr2) env H Q ↔ WR T F_ref03_Leftr2 [
  ⟨some 2, .mv (.c (.int .i64 0)), none⟩] env H none [] Q := w_reg
def F_ref03_Leftr3 : List IStmt := [
  ⟨some 6, .fa 0 (.t 1), none⟩,
  ⟨some 7, .load (.t 6), none⟩,
  ⟨some 8, .len 1 (.t 7), none⟩,
  ⟨some 2, .mv (.t 8), none⟩]
theorem F_ref03_Leftr3_W {T : Tab} {env : Env} {H : Heap} {Q : Post} : W T (.reg F_ref03_Leftr3) env H Q ↔ WR T F_ref03_Leftr3 [
  ⟨some 6, .fa 0 (.t 1), none⟩,
  ⟨some 7, .load (.t 6), none⟩,
  ⟨some 8, .len 1 (.t 7), none⟩,
  ⟨some 2, .mv (.t 8), none⟩] env H none [] Q := w_reg
def F_ref03_Leftc : ICode := (.seq (.reg F_ref03_Leftr0) (.seq (.seq (.reg F_ref03_Leftr1) (.cond (.t 5) (.seq (.reg F_ref03_Leftr2) .ret) .skip)) (.seq (.reg F_ref03_Leftr3) .ret)))
theorem F_ref03_Leftc_W {T : Tab} {env : Env} {H : Heap} {Q : Post} : W T F_ref03_Leftc env H Q ↔ W T (.seq (.reg F_ref03_Leftr0) (.seq (.seq (.reg F_ref03_Leftr1) (.cond (.t 5) (.seq (.reg F_ref03_Leftr2) .ret) .skip)) (.seq (.reg F_ref03_Leftr3) .ret))) env H Q := Iff.rfl
def F_ref03_Left : IFn := ⟨9, [.tmp 2], F_ref03_Leftc⟩
set_option maxRecDepth 1000000 in
theorem F_ref03_Left_chk : chkF Try.prog 24 F_ref03_Left = true := by kernel_rfl

/-! ### law03_alive -/
def F_law03_aliver0 : List IStmt := [
  ⟨some 0, .mv (.c (.bool false)), none⟩]
theorem F_law03_aliver0_W {T : Tab} {env : Env} {H : Heap} {Q : Post} : W T (.reg F_law03_aliver0) env H Q ↔ WR T F_law03_aliver0 [
  ⟨some 0, .mv (.c (.bool false)), none⟩] env H none [] Q := w_reg
def F_law03_aliver1 : List IStmt := [
  ⟨some 2, .bsli 1 3 [.int .u8 0] [(0, (.c (.int .u8 128))), (1, (.c (.int .u8 0))), (2, (.c (.int .u8 126)))], none⟩,
  ⟨some 3, .call 17 [(.t 2)], none⟩,
  ⟨some 1, .mv (.t 3), none⟩]
theorem F_law03_aliver1_W {T : Tab} {env : Env} {H : Heap} {Q : Post} : W T (.reg F_law03_aliver1) env H Q ↔ WR T F_law03_aliver1 [
  ⟨some 2, .bsli 1 3 [.int .u8 0] [(0, (.c (.int .u8 128))), (1, (.c (.int .u8 0))), (2, (.c (.int .u8 126)))], none⟩,
  ⟨some 3, .call 17 [(.t 2)], none⟩,
  ⟨some 1, .mv (.t 3), none⟩] env H none [] Q := w_reg
def F_law03_aliver2 : List IStmt := [
  ⟨some 4, .mv (.t 1), none⟩,
  ⟨some 5, .eqn 0 true (.t 4) (.c (.pointer none)), none⟩,
  ⟨some 6, .mv (.t 5), none⟩,
  ⟨some 7, .mv (.t 1), some (2, true)⟩,
  ⟨some 8, .call 21 [(.t 7)], some (2, true)⟩,
  ⟨some 9, .bin .eql (.t 8) (.c (.int .u64 0)), some (2, true)⟩,
  ⟨some 10, .pick (.t 6) (.t 9) (.c (.bool false)), none⟩,
  ⟨some 11, .mv (.t 10), none⟩,
  ⟨some 12, .mv (.t 1), some (7, true)⟩,
  ⟨some 13, .call 19 [(.t 12)], some (7, true)⟩,
  ⟨some 14, .bin .eql (.t 13) (.c (.int .i64 (-2))), some (7, true)⟩,
  ⟨some 15, .pick (.t 11) (.t 14) (.c (.bool false)), none⟩,
  ⟨some 16, .mv (.t 15), none⟩,
  ⟨some 17, .mv (.t 1), some (12, true)⟩,
  ⟨some 18, .call 22 [(.t 17)], some (12, true)⟩,
  ⟨some 19, .bin .eql (.t 18) (.c (.int .i64 0)), some (12, true)⟩,
  ⟨some 20, .pick (.t 16) (.t 19) (.c (.bool false)), none⟩,
  ⟨some 21, .mv (.t 20), none⟩,
  ⟨some 22, .callc 12 [(.c (.int .u64 300))], some (17, true)⟩,
  ⟨some 23, .b2s (.t 22), some (17, true)⟩,
  ⟨some 24, .bin .eql (.t 23) (.c (.string ⟨#[172, 2]⟩)), some (17, true)⟩,
  ⟨some 25, .pick (.t 21) (.t 24) (.c (.bool false)), none⟩,
  ⟨some 26, .mv (.t 25), none⟩,
  ⟨some 27, .callc 14 [(.c (.int .i64 64))], some (22, true)⟩,
  ⟨some 28, .b2s (.t 27), some (22, true)⟩,
  ⟨some 29, .bin .eql (.t 28) (.c (.string ⟨#[192, 0]⟩)), some (22, true)⟩,
  ⟨some 30, .pick (.t 26) (.t 29) (.c (.bool false)), none⟩,
  ⟨some 0, .mv (.t 30), none⟩]
theorem F_law03_aliver2_W {T : Tab} {env : Env} {H : Heap} {Q : Post} : W T (.reg F_law03_aliver2) env H Q ↔ WR T F_law03_aliver2 [
  ⟨some 4, .mv (.t 1), none⟩,
  ⟨some 5, .eqn 0 true (.t 4) (.c (.pointer none)), none⟩,
  ⟨some 6, .mv (.t 5), none⟩,
  ⟨some 7, .mv (.t 1), some (2, true)⟩,
  ⟨some 8, .call 21 [(.t 7)], some (2, true)⟩,
  ⟨some 9, .bin .eql (.t 8) (.c (.int .u64 0)), some (2, true)⟩,
  ⟨some 10, .pick (.t 6) (.t 9) (.c (.bool false)), none⟩,
  ⟨some 11, .mv (.t 10), none⟩,
  ⟨some 12, .mv (.t 1), some (7, true)⟩,
  ⟨some 13, .call 19 [(.t 12)], some (7, true)⟩,
  ⟨some 14, .bin .eql (.t 13) (.c (.int .i64 (-2))), some (7, true)⟩,
  ⟨some 15, .pick (.t 11) (.t 14) (.c (.bool false)), none⟩,
  ⟨some 16, .mv (.t 15), none⟩,
  ⟨some 17, .mv (.t 1), some (12, true)⟩,
  ⟨some 18, .call 22 [(.t 17)], some (12, true)⟩,
  ⟨some 19, .bin .eql (.t 18) (.c (.int .i64 0)), some (12, true)⟩,
  ⟨some 20, .pick (.t 16) (.t 19) (.c (.bool false)), none⟩,
  ⟨some 21, .mv (.t 20), none⟩,
  ⟨some 22, .callc 12 [(.c (.int .u64 300))], some (17, true)⟩,
  ⟨some 23, .b2s (.t 22), some (17, true)⟩,
  ⟨some 24, .bin .eql (.t 23) (.c (.string ⟨#[172, 2]⟩)), some (17, true)⟩,
  ⟨some 25, .pick (.t 21) (.t 24) (.c (.bool false)), none⟩,
  ⟨some 26, .mv (.t 25), none⟩,
  ⟨some 27, .callc 14 [(.c (.int .i64 64))], some (22, true)⟩,
  ⟨some 28, .b2s (.t 27), some (22, true)⟩,
  ⟨some 29, .bin .eql (.t 28) (.c (.string ⟨#[192, 0]⟩)), some (22, true)⟩,
  ⟨some 30, .pick (.t 26) (.t 29) (.c (.bool false)), none⟩,
  ⟨some 0, .mv (.t 30), none⟩] env H none [] Q := w_reg
theorem F_law03_aliver2_g2 {env : Env} : yieldI F_law03_aliver2 env 2 = bOf (env 6) := rfl
theorem F_law03_aliver2_g7 {env : Env} : yieldI F_law03_aliver2 env 7 = bOf (env 11) := rfl
theorem F_law03_aliver2_g12 {env : Env} : yieldI F_law03_aliver2 env 12 = bOf (env 16) := rfl
theorem F_law03_aliver2_g17 {env : Env} : yieldI F_law03_aliver2 env 17 = bOf (env 21) := rfl
theorem F_law03_aliver2_g22 {env : Env} : yieldI F_law03_aliver2 env 22 = bOf (env 26) := rfl
def F_law03_alivec : ICode := (.seq (.reg F_law03_aliver0) (.seq (.reg F_law03_aliver1) (.seq (.reg F_law03_aliver2) .ret)))
theorem F_law03_alivec_W {T : Tab} {env : Env} {H : Heap} {Q : Post} : W T F_law03_alivec env H Q ↔ W T (.seq (.reg F_law03_aliver0) (.seq (.reg F_law03_aliver1) (.seq (.reg F_law03_aliver2) .ret))) env H Q := Iff.rfl
def F_law03_alive : IFn := ⟨31, [.tmp 0], F_law03_alivec⟩
set_option maxRecDepth 1000000 in
theorem F_law03_alive_chk : chkF Try.prog 16 F_law03_alive = true := by kernel_rfl

/-- The functions, by number. -/
def TLeb_l : List (Nat × IFn) := [(12, F_leb_PutU), (14, F_leb_PutS), (17, F_leb_Read), (39, F_leb_Reader_groups), (21, F_leb_Reader_U), (19, F_leb_Reader_S), (22, F_leb_Reader_Fail), (23, F_leb_Reader_Left), (13, F_ref03_PutU), (15, F_ref03_PutS), (36, F_ref03_groups), (38, F_ref03_bits), (37, F_ref03_number), (20, F_ref03_U), (18, F_ref03_S), (24, F_ref03_Left), (16, F_law03_alive)]
def TLeb : Tab := tabOf TLeb_l
theorem TLeb_chk : ∀ p ∈ TLeb_l, chkF Try.prog p.1 p.2 = true := by
  intro p hp
  simp only [TLeb_l, List.mem_cons, List.not_mem_nil, or_false] at hp
  rcases hp with rfl | rfl | rfl | rfl | rfl | rfl | rfl | rfl | rfl | rfl | rfl | rfl | rfl | rfl | rfl | rfl | rfl
  · exact F_leb_PutU_chk
  · exact F_leb_PutS_chk
  · exact F_leb_Read_chk
  · exact F_leb_Reader_groups_chk
  · exact F_leb_Reader_U_chk
  · exact F_leb_Reader_S_chk
  · exact F_leb_Reader_Fail_chk
  · exact F_leb_Reader_Left_chk
  · exact F_ref03_PutU_chk
  · exact F_ref03_PutS_chk
  · exact F_ref03_groups_chk
  · exact F_ref03_bits_chk
  · exact F_ref03_number_chk
  · exact F_ref03_U_chk
  · exact F_ref03_S_chk
  · exact F_ref03_Left_chk
  · exact F_law03_alive_chk
theorem TLeb_good : Good Try.prog TLeb := good_tab (by kernel_rfl) TLeb_chk

end Go.Proofs.Ytdkdifjjpbfohaa
