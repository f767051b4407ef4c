/- The small language's text of functions of the given program, and the check that it stands for them. Printed by a program. -/
import Derived.Test.YtdkdifjjpbfohaaFwC
import Derived.Test.YtdkdifjjpbfohaaChecked
import Derived.KernelRfl
namespace Go.Proofs.Ytdkdifjjpbfohaa
open Go Fw

/-! ### num_Sub -/
def F_num_Subr0 : List IStmt := [
  ⟨some 4, .mv (.c (.int .u64 0)), none⟩,
  ⟨some 5, .mv (.c (.bool false)), none⟩]
theorem F_num_Subr0_W {T : Tab} {env : Env} {H : Heap} {Q : Post} : W T (.reg F_num_Subr0) env H Q ↔ WR T F_num_Subr0 [
  ⟨some 4, .mv (.c (.int .u64 0)), none⟩,
  ⟨some 5, .mv (.c (.bool false)), none⟩] env H none [] Q := w_reg
def F_num_Subr1 : List IStmt := [
  ⟨some 6, .mv (.t 0), none⟩,
  ⟨some 7, .mv (.t 1), none⟩,
  ⟨some 8, .bin .lss (.t 6) (.t 7), none⟩]
theorem F_num_Subr1_W {T : Tab} {env : Env} {H : Heap} {Q : Post} : W T (.reg F_num_Subr1) env H Q ↔ WR T F_num_Subr1 [
  ⟨some 6, .mv (.t 0), none⟩,
  ⟨some 7, .mv (.t 1), none⟩,
  ⟨some 8, .bin .lss (.t 6) (.t 7), none⟩] env H none [] Q := w_reg
def F_num_Subr2 : List IStmt := [
  ⟨some 4, .mv (.c (.int .u64 0)), none⟩,
  ⟨some 5, .mv (.c (.bool false)), none⟩]
theorem F_num_Subr2_W {T : Tab} {env : Env} {H : Heap} {Q : Post} : W T (.reg F_num_Subr2) env H Q ↔ WR T F_num_Subr2 [
  ⟨some 4, .mv (.c (.int .u64 0)), none⟩,
  ⟨some 5, .mv (.c (.bool false)), none⟩] env H none [] Q := w_reg
def F_num_Subr3 : List IStmt := [
  ⟨some 9, .mv (.t 0), none⟩,
  ⟨some 10, .mv (.t 1), none⟩,
  ⟨some 11, .bin .sub (.t 9) (.t 10), none⟩,
  ⟨some 4, .mv (.t 11), none⟩,
  ⟨some 5, .mv (.c (.bool true)), none⟩]
theorem F_num_Subr3_W {T : Tab} {env : Env} {H : Heap} {Q : Post} : W T (.reg F_num_Subr3) env H Q ↔ WR T F_num_Subr3 [
  ⟨some 9, .mv (.t 0), none⟩,
  ⟨some 10, .mv (.t 1), none⟩,
  ⟨some 11, .bin .sub (.t 9) (.t 10), none⟩,
  ⟨some 4, .mv (.t 11), none⟩,
  ⟨some 5, .mv (.c (.bool true)), none⟩] env H none [] Q := w_reg
def F_num_Subc : ICode := (.seq (.reg F_num_Subr0) (.seq (.seq (.reg F_num_Subr1) (.cond (.t 8) (.seq (.reg F_num_Subr2) .ret) .skip)) (.seq (.reg F_num_Subr3) .ret)))
theorem F_num_Subc_W {T : Tab} {env : Env} {H : Heap} {Q : Post} : W T F_num_Subc env H Q ↔ W T (.seq (.reg F_num_Subr0) (.seq (.seq (.reg F_num_Subr1) (.cond (.t 8) (.seq (.reg F_num_Subr2) .ret) .skip)) (.seq (.reg F_num_Subr3) .ret))) env H Q := Iff.rfl
def F_num_Sub : IFn := ⟨12, [.tmp 4, .tmp 5], F_num_Subc⟩
set_option maxRecDepth 1000000 in
theorem F_num_Sub_chk : chkF Try.prog 76 F_num_Sub = true := by kernel_rfl

/-! ### num_Inside -/
def F_num_Insider0 : List IStmt := [
  ⟨some 8, .mv (.c (.bool false)), none⟩]
theorem F_num_Insider0_W {T : Tab} {env : Env} {H : Heap} {Q : Post} : W T (.reg F_num_Insider0) env H Q ↔ WR T F_num_Insider0 [
  ⟨some 8, .mv (.c (.bool false)), none⟩] env H none [] Q := w_reg
def F_num_Insider1 : List IStmt := [
  ⟨some 12, .mv (.t 0), none⟩,
  ⟨some 13, .mv (.t 2), none⟩,
  ⟨some 14, .callc 76 [(.t 12), (.t 13)], none⟩,
  ⟨some 11, .mv (.t 14), none⟩,
  ⟨some 15, .ext (.t 11) 0, none⟩,
  ⟨some 16, .ext (.t 11) 1, none⟩,
  ⟨some 9, .mv (.t 15), none⟩,
  ⟨some 10, .mv (.t 16), none⟩]
theorem F_num_Insider1_W {T : Tab} {env : Env} {H : Heap} {Q : Post} : W T (.reg F_num_Insider1) env H Q ↔ WR T F_num_Insider1 [
  ⟨some 12, .mv (.t 0), none⟩,
  ⟨some 13, .mv (.t 2), none⟩,
  ⟨some 14, .callc 76 [(.t 12), (.t 13)], none⟩,
  ⟨some 11, .mv (.t 14), none⟩,
  ⟨some 15, .ext (.t 11) 0, none⟩,
  ⟨some 16, .ext (.t 11) 1, none⟩,
  ⟨some 9, .mv (.t 15), none⟩,
  ⟨some 10, .mv (.t 16), none⟩] env H none [] Q := w_reg
def F_num_Insider2 : List IStmt := [
  ⟨some 17, .mv (.t 10), none⟩,
  ⟨some 18, .mv (.t 17), none⟩,
  ⟨some 19, .mv (.t 9), some (1, true)⟩,
  ⟨some 20, .mv (.t 3), some (1, true)⟩,
  ⟨some 21, .bin .leq (.t 19) (.t 20), some (1, true)⟩,
  ⟨some 22, .pick (.t 18) (.t 21) (.c (.bool false)), none⟩,
  ⟨some 23, .mv (.t 22), none⟩,
  ⟨some 24, .mv (.t 1), some (6, true)⟩,
  ⟨some 25, .mv (.t 3), some (6, true)⟩,
  ⟨some 26, .mv (.t 9), some (6, true)⟩,
  ⟨some 27, .bin .sub (.t 25) (.t 26), some (6, true)⟩,
  ⟨some 28, .bin .leq (.t 24) (.t 27), some (6, true)⟩,
  ⟨some 29, .pick (.t 23) (.t 28) (.c (.bool false)), none⟩,
  ⟨some 8, .mv (.t 29), none⟩]
theorem F_num_Insider2_W {T : Tab} {env : Env} {H : Heap} {Q : Post} : W T (.reg F_num_Insider2) env H Q ↔ WR T F_num_Insider2 [
  ⟨some 17, .mv (.t 10), none⟩,
  ⟨some 18, .mv (.t 17), none⟩,
  ⟨some 19, .mv (.t 9), some (1, true)⟩,
  ⟨some 20, .mv (.t 3), some (1, true)⟩,
  ⟨some 21, .bin .leq (.t 19) (.t 20), some (1, true)⟩,
  ⟨some 22, .pick (.t 18) (.t 21) (.c (.bool false)), none⟩,
  ⟨some 23, .mv (.t 22), none⟩,
  ⟨some 24, .mv (.t 1), some (6, true)⟩,
  ⟨some 25, .mv (.t 3), some (6, true)⟩,
  ⟨some 26, .mv (.t 9), some (6, true)⟩,
  ⟨some 27, .bin .sub (.t 25) (.t 26), some (6, true)⟩,
  ⟨some 28, .bin .leq (.t 24) (.t 27), some (6, true)⟩,
  ⟨some 29, .pick (.t 23) (.t 28) (.c (.bool false)), none⟩,
  ⟨some 8, .mv (.t 29), none⟩] env H none [] Q := w_reg
theorem F_num_Insider2_g1 {env : Env} : yieldI F_num_Insider2 env 1 = bOf (env 18) := rfl
theorem F_num_Insider2_g6 {env : Env} : yieldI F_num_Insider2 env 6 = bOf (env 23) := rfl
def F_num_Insidec : ICode := (.seq (.reg F_num_Insider0) (.seq (.reg F_num_Insider1) (.seq (.reg F_num_Insider2) .ret)))
theorem F_num_Insidec_W {T : Tab} {env : Env} {H : Heap} {Q : Post} : W T F_num_Insidec env H Q ↔ W T (.seq (.reg F_num_Insider0) (.seq (.reg F_num_Insider1) (.seq (.reg F_num_Insider2) .ret))) env H Q := Iff.rfl
def F_num_Inside : IFn := ⟨30, [.tmp 8], F_num_Insidec⟩
set_option maxRecDepth 1000000 in
theorem F_num_Inside_chk : chkF Try.prog 74 F_num_Inside = true := by kernel_rfl

/-! ### le_get -/
def F_le_getr0 : List IStmt := [
  ⟨some 6, .mv (.c (.int .u64 0)), none⟩,
  ⟨some 7, .mv (.c (.int .i64 0)), none⟩]
theorem F_le_getr0_W {T : Tab} {env : Env} {H : Heap} {Q : Post} : W T (.reg F_le_getr0) env H Q ↔ WR T F_le_getr0 [
  ⟨some 6, .mv (.c (.int .u64 0)), none⟩,
  ⟨some 7, .mv (.c (.int .i64 0)), none⟩] env H none [] Q := w_reg
def F_le_getr1 : List IStmt := [
  ⟨some 10, .mv (.t 1), none⟩,
  ⟨some 11, .mv (.t 2), none⟩,
  ⟨some 12, .mv (.t 0), none⟩,
  ⟨some 13, .len 1 (.t 12), none⟩,
  ⟨some 14, .conv .u64 (.t 13), none⟩,
  ⟨some 15, .callc 74 [(.t 10), (.t 11), (.c (.int .u64 0)), (.t 14)], none⟩,
  ⟨some 16, .un .not (.t 15), none⟩]
theorem F_le_getr1_W {T : Tab} {env : Env} {H : Heap} {Q : Post} : W T (.reg F_le_getr1) env H Q ↔ WR T F_le_getr1 [
  ⟨some 10, .mv (.t 1), none⟩,
  ⟨some 11, .mv (.t 2), none⟩,
  ⟨some 12, .mv (.t 0), none⟩,
  ⟨some 13, .len 1 (.t 12), none⟩,
  ⟨some 14, .conv .u64 (.t 13), none⟩,
  ⟨some 15, .callc 74 [(.t 10), (.t 11), (.c (.int .u64 0)), (.t 14)], none⟩,
  ⟨some 16, .un .not (.t 15), none⟩] env H none [] Q := w_reg
def F_le_getr2 : List IStmt := [
  ⟨some 6, .mv (.c (.int .u64 0)), none⟩,
  ⟨some 7, .mv (.c (.int .i64 20)), none⟩]
theorem F_le_getr2_W {T : Tab} {env : Env} {H : Heap} {Q : Post} : W T (.reg F_le_getr2) env H Q ↔ WR T F_le_getr2 [
  ⟨some 6, .mv (.c (.int .u64 0)), none⟩,
  ⟨some 7, .mv (.c (.int .i64 20)), none⟩] env H none [] Q := w_reg
def F_le_getr3 : List IStmt := [
  ⟨some 8, .mv (.c (.int .u64 0)), none⟩]
theorem F_le_getr3_W {T : Tab} {env : Env} {H : Heap} {Q : Post} : W T (.reg F_le_getr3) env H Q ↔ WR T F_le_getr3 [
  ⟨some 8, .mv (.c (.int .u64 0)), none⟩] env H none [] Q := w_reg
def F_le_getr4 : List IStmt := [
  ⟨some 17, .mv (.t 1), none⟩,
  ⟨some 18, .mv (.t 2), none⟩,
  ⟨some 19, .bin .add (.t 17) (.t 18), none⟩,
  ⟨some 20, .bin .sub (.t 19) (.c (.int .u64 1)), none⟩,
  ⟨some 21, .conv .i64 (.t 20), none⟩,
  ⟨some 9, .mv (.t 21), none⟩]
theorem F_le_getr4_W {T : Tab} {env : Env} {H : Heap} {Q : Post} : W T (.reg F_le_getr4) env H Q ↔ WR T F_le_getr4 [
  ⟨some 17, .mv (.t 1), none⟩,
  ⟨some 18, .mv (.t 2), none⟩,
  ⟨some 19, .bin .add (.t 17) (.t 18), none⟩,
  ⟨some 20, .bin .sub (.t 19) (.c (.int .u64 1)), none⟩,
  ⟨some 21, .conv .i64 (.t 20), none⟩,
  ⟨some 9, .mv (.t 21), none⟩] env H none [] Q := w_reg
def F_le_getr5 : List IStmt := [
  ⟨some 22, .mv (.t 9), none⟩,
  ⟨some 23, .mv (.t 1), none⟩,
  ⟨some 24, .conv .i64 (.t 23), none⟩,
  ⟨some 25, .bin .geq (.t 22) (.t 24), none⟩]
theorem F_le_getr5_W {T : Tab} {env : Env} {H : Heap} {Q : Post} : W T (.reg F_le_getr5) env H Q ↔ WR T F_le_getr5 [
  ⟨some 22, .mv (.t 9), none⟩,
  ⟨some 23, .mv (.t 1), none⟩,
  ⟨some 24, .conv .i64 (.t 23), none⟩,
  ⟨some 25, .bin .geq (.t 22) (.t 24), none⟩] env H none [] Q := w_reg
def F_le_getr7 : List IStmt := [
  ⟨some 28, .mv (.t 8), none⟩,
  ⟨some 29, .bin .shl (.t 28) (.c (.int .u64 8)), none⟩,
  ⟨some 30, .mv (.t 0), none⟩,
  ⟨some 31, .mv (.t 9), none⟩,
  ⟨some 32, .ixa 1 (.t 30) (.t 31), none⟩,
  ⟨some 33, .load (.t 32), none⟩,
  ⟨some 34, .conv .u64 (.t 33), none⟩,
  ⟨some 35, .bin .or (.t 29) (.t 34), none⟩,
  ⟨some 8, .mv (.t 35), none⟩]
theorem F_le_getr7_W {T : Tab} {env : Env} {H : Heap} {Q : Post} : W T (.reg F_le_getr7) env H Q ↔ WR T F_le_getr7 [
  ⟨some 28, .mv (.t 8), none⟩,
  ⟨some 29, .bin .shl (.t 28) (.c (.int .u64 8)), none⟩,
  ⟨some 30, .mv (.t 0), none⟩,
  ⟨some 31, .mv (.t 9), none⟩,
  ⟨some 32, .ixa 1 (.t 30) (.t 31), none⟩,
  ⟨some 33, .load (.t 32), none⟩,
  ⟨some 34, .conv .u64 (.t 33), none⟩,
  ⟨some 35, .bin .or (.t 29) (.t 34), none⟩,
  ⟨some 8, .mv (.t 35), none⟩] env H none [] Q := w_reg
def F_le_getr6 : List IStmt := [
  ⟨some 26, .mv (.t 9), none⟩,
  ⟨some 27, .bin .sub (.t 26) (.c (.int .i64 1)), none⟩,
  ⟨some 9, .mv (.t 27), none⟩]
theorem F_le_getr6_W {T : Tab} {env : Env} {H : Heap} {Q : Post} : W T (.reg F_le_getr6) env H Q ↔ WR T F_le_getr6 [
  ⟨some 26, .mv (.t 9), none⟩,
  ⟨some 27, .bin .sub (.t 26) (.c (.int .i64 1)), none⟩,
  ⟨some 9, .mv (.t 27), none⟩] env H none [] Q := w_reg
def F_le_getl0 : ICode := (.seq (.seq (.reg F_le_getr5) (.cond (.t 25) .skip (.exit 0))) (.seq (.block 1 (.reg F_le_getr7)) (.reg F_le_getr6)))
theorem F_le_getl0_W {T : Tab} {env : Env} {H : Heap} {Q : Post} : W T F_le_getl0 env H Q ↔ W T (.seq (.seq (.reg F_le_getr5) (.cond (.t 25) .skip (.exit 0))) (.seq (.block 1 (.reg F_le_getr7)) (.reg F_le_getr6))) env H Q := Iff.rfl
def F_le_getr8 : List IStmt := [
  ⟨some 36, .mv (.t 8), none⟩,
  ⟨some 6, .mv (.t 36), none⟩,
  ⟨some 7, .mv (.c (.int .i64 0)), none⟩]
theorem F_le_getr8_W {T : Tab} {env : Env} {H : Heap} {Q : Post} : W T (.reg F_le_getr8) env H Q ↔ WR T F_le_getr8 [
  ⟨some 36, .mv (.t 8), none⟩,
  ⟨some 6, .mv (.t 36), none⟩,
  ⟨some 7, .mv (.c (.int .i64 0)), none⟩] env H none [] Q := w_reg
def F_le_getc : ICode := (.seq (.reg F_le_getr0) (.seq (.seq (.reg F_le_getr1) (.cond (.t 16) (.seq (.reg F_le_getr2) .ret) .skip)) (.seq (.reg F_le_getr3) (.seq (.seq (.reg F_le_getr4) (.block 0 (.loop F_le_getl0))) (.seq (.reg F_le_getr8) .ret)))))
theorem F_le_getc_W {T : Tab} {env : Env} {H : Heap} {Q : Post} : W T F_le_getc env H Q ↔ W T (.seq (.reg F_le_getr0) (.seq (.seq (.reg F_le_getr1) (.cond (.t 16) (.seq (.reg F_le_getr2) .ret) .skip)) (.seq (.reg F_le_getr3) (.seq (.seq (.reg F_le_getr4) (.block 0 (.loop F_le_getl0))) (.seq (.reg F_le_getr8) .ret))))) env H Q := Iff.rfl
def F_le_get : IFn := ⟨37, [.tmp 6, .tmp 7], F_le_getc⟩
set_option maxRecDepth 1000000 in
theorem F_le_get_chk : chkF Try.prog 73 F_le_get = true := by kernel_rfl

/-! ### le_U64 -/
def F_le_U64r0 : List IStmt := [
  ⟨some 4, .mv (.c (.int .u64 0)), none⟩,
  ⟨some 5, .mv (.c (.int .i64 0)), none⟩]
theorem F_le_U64r0_W {T : Tab} {env : Env} {H : Heap} {Q : Post} : W T (.reg F_le_U64r0) env H Q ↔ WR T F_le_U64r0 [
  ⟨some 4, .mv (.c (.int .u64 0)), none⟩,
  ⟨some 5, .mv (.c (.int .i64 0)), none⟩] env H none [] Q := w_reg
def F_le_U64r1 : List IStmt := [
  ⟨some 6, .mv (.t 0), none⟩,
  ⟨some 7, .mv (.t 1), none⟩,
  ⟨some 8, .callc 73 [(.t 6), (.t 7), (.c (.int .u64 8))], none⟩,
  ⟨some 9, .ext (.t 8) 0, none⟩,
  ⟨some 10, .ext (.t 8) 1, none⟩,
  ⟨some 4, .mv (.t 9), none⟩,
  ⟨some 5, .mv (.t 10), none⟩]
theorem F_le_U64r1_W {T : Tab} {env : Env} {H : Heap} {Q : Post} : W T (.reg F_le_U64r1) env H Q ↔ WR T F_le_U64r1 [
  ⟨some 6, .mv (.t 0), none⟩,
  ⟨some 7, .mv (.t 1), none⟩,
  ⟨some 8, .callc 73 [(.t 6), (.t 7), (.c (.int .u64 8))], none⟩,
  ⟨some 9, .ext (.t 8) 0, none⟩,
  ⟨some 10, .ext (.t 8) 1, none⟩,
  ⟨some 4, .mv (.t 9), none⟩,
  ⟨some 5, .mv (.t 10), none⟩] env H none [] Q := w_reg
def F_le_U64c : ICode := (.seq (.reg F_le_U64r0) (.seq (.reg F_le_U64r1) .ret))
theorem F_le_U64c_W {T : Tab} {env : Env} {H : Heap} {Q : Post} : W T F_le_U64c env H Q ↔ W T (.seq (.reg F_le_U64r0) (.seq (.reg F_le_U64r1) .ret)) env H Q := Iff.rfl
def F_le_U64 : IFn := ⟨11, [.tmp 4, .tmp 5], F_le_U64c⟩
set_option maxRecDepth 1000000 in
theorem F_le_U64_chk : chkF Try.prog 63 F_le_U64 = true := by kernel_rfl

/-! ### le_Part -/
def F_le_Partr0 : List IStmt := [
  ⟨some 6, .mv (.c (.slice none 0 0)), none⟩,
  ⟨some 7, .mv (.c (.int .i64 0)), none⟩]
theorem F_le_Partr0_W {T : Tab} {env : Env} {H : Heap} {Q : Post} : W T (.reg F_le_Partr0) env H Q ↔ WR T F_le_Partr0 [
  ⟨some 6, .mv (.c (.slice none 0 0)), none⟩,
  ⟨some 7, .mv (.c (.int .i64 0)), none⟩] env H none [] Q := w_reg
def F_le_Partr1 : List IStmt := [
  ⟨some 8, .mv (.t 1), none⟩,
  ⟨some 9, .mv (.t 2), none⟩,
  ⟨some 10, .mv (.t 0), none⟩,
  ⟨some 11, .len 1 (.t 10), none⟩,
  ⟨some 12, .conv .u64 (.t 11), none⟩,
  ⟨some 13, .callc 74 [(.t 8), (.t 9), (.c (.int .u64 0)), (.t 12)], none⟩,
  ⟨some 14, .un .not (.t 13), none⟩]
theorem F_le_Partr1_W {T : Tab} {env : Env} {H : Heap} {Q : Post} : W T (.reg F_le_Partr1) env H Q ↔ WR T F_le_Partr1 [
  ⟨some 8, .mv (.t 1), none⟩,
  ⟨some 9, .mv (.t 2), none⟩,
  ⟨some 10, .mv (.t 0), none⟩,
  ⟨some 11, .len 1 (.t 10), none⟩,
  ⟨some 12, .conv .u64 (.t 11), none⟩,
  ⟨some 13, .callc 74 [(.t 8), (.t 9), (.c (.int .u64 0)), (.t 12)], none⟩,
  ⟨some 14, .un .not (.t 13), none⟩] env H none [] Q := w_reg
def F_le_Partr2 : List IStmt := [
  ⟨some 6, .mv (.c (.slice none 0 0)), none⟩,
  ⟨some 7, .mv (.c (.int .i64 20)), none⟩]
theorem F_le_Partr2_W {T : Tab} {env : Env} {H : Heap} {Q : Post} : W T (.reg F_le_Partr2) env H Q ↔ WR T F_le_Partr2 [
  ⟨some 6, .mv (.c (.slice none 0 0)), none⟩,
  ⟨some 7, .mv (.c (.int .i64 20)), none⟩] env H none [] Q := w_reg
def F_le_Partr3 : List IStmt := [
  ⟨some 15, .mv (.t 0), none⟩,
  ⟨some 16, .mv (.t 1), none⟩,
  ⟨some 17, .mv (.t 1), none⟩,
  ⟨some 18, .mv (.t 2), none⟩,
  ⟨some 19, .bin .add (.t 17) (.t 18), none⟩,
  ⟨some 20, .mv (.t 1), none⟩,
  ⟨some 21, .mv (.t 2), none⟩,
  ⟨some 22, .bin .add (.t 20) (.t 21), none⟩,
  ⟨some 23, .sle 1 (.t 15) (some (.t 16)) (some (.t 19)) (some (.t 22)), none⟩,
  ⟨some 24, .cpy 1 1 (.t 23), none⟩,
  ⟨some 6, .mv (.t 24), none⟩,
  ⟨some 7, .mv (.c (.int .i64 0)), none⟩]
theorem F_le_Partr3_W {T : Tab} {env : Env} {H : Heap} {Q : Post} : W T (.reg F_le_Partr3) env H Q ↔ WR T F_le_Partr3 [
  ⟨some 15, .mv (.t 0), none⟩,
  ⟨some 16, .mv (.t 1), none⟩,
  ⟨some 17, .mv (.t 1), none⟩,
  ⟨some 18, .mv (.t 2), none⟩,
  ⟨some 19, .bin .add (.t 17) (.t 18), none⟩,
  ⟨some 20, .mv (.t 1), none⟩,
  ⟨some 21, .mv (.t 2), none⟩,
  ⟨some 22, .bin .add (.t 20) (.t 21), none⟩,
  ⟨some 23, .sle 1 (.t 15) (some (.t 16)) (some (.t 19)) (some (.t 22)), none⟩,
  ⟨some 24, .cpy 1 1 (.t 23), none⟩,
  ⟨some 6, .mv (.t 24), none⟩,
  ⟨some 7, .mv (.c (.int .i64 0)), none⟩] env H none [] Q := w_reg
def F_le_Partc : ICode := (.seq (.reg F_le_Partr0) (.seq (.seq (.reg F_le_Partr1) (.cond (.t 14) (.seq (.reg F_le_Partr2) .ret) .skip)) (.seq (.reg F_le_Partr3) .ret)))
theorem F_le_Partc_W {T : Tab} {env : Env} {H : Heap} {Q : Post} : W T F_le_Partc env H Q ↔ W T (.seq (.reg F_le_Partr0) (.seq (.seq (.reg F_le_Partr1) (.cond (.t 14) (.seq (.reg F_le_Partr2) .ret) .skip)) (.seq (.reg F_le_Partr3) .ret))) env H Q := Iff.rfl
def F_le_Part : IFn := ⟨25, [.tmp 6, .tmp 7], F_le_Partc⟩
set_option maxRecDepth 1000000 in
theorem F_le_Part_chk : chkF Try.prog 65 F_le_Part = true := by kernel_rfl

/-! ### le_Plain -/
def F_le_Plainr0 : List IStmt := [
  ⟨some 2, .mv (.c (.bool false)), none⟩]
theorem F_le_Plainr0_W {T : Tab} {env : Env} {H : Heap} {Q : Post} : W T (.reg F_le_Plainr0) env H Q ↔ WR T F_le_Plainr0 [
  ⟨some 2, .mv (.c (.bool false)), none⟩] env H none [] Q := w_reg
def F_le_Plainr1 : List IStmt := [
  ⟨some 5, .mv (.t 0), none⟩,
  ⟨some 6, .len 0 (.t 5), none⟩,
  ⟨some 7, .bin .gtr (.t 6) (.c (.int .i64 64)), none⟩]
theorem F_le_Plainr1_W {T : Tab} {env : Env} {H : Heap} {Q : Post} : W T (.reg F_le_Plainr1) env H Q ↔ WR T F_le_Plainr1 [
  ⟨some 5, .mv (.t 0), none⟩,
  ⟨some 6, .len 0 (.t 5), none⟩,
  ⟨some 7, .bin .gtr (.t 6) (.c (.int .i64 64)), none⟩] env H none [] Q := w_reg
def F_le_Plainr2 : List IStmt := [
  ⟨some 2, .mv (.c (.bool false)), none⟩]
theorem F_le_Plainr2_W {T : Tab} {env : Env} {H : Heap} {Q : Post} : W T (.reg F_le_Plainr2) env H Q ↔ WR T F_le_Plainr2 [
  ⟨some 2, .mv (.c (.bool false)), none⟩] env H none [] Q := w_reg
def F_le_Plainr3 : List IStmt := [
  ⟨some 8, .mv (.t 0), none⟩,
  ⟨some 9, .rng (.t 8), none⟩]
theorem F_le_Plainr3_W {T : Tab} {env : Env} {H : Heap} {Q : Post} : W T (.reg F_le_Plainr3) env H Q ↔ WR T F_le_Plainr3 [
  ⟨some 8, .mv (.t 0), none⟩,
  ⟨some 9, .rng (.t 8), none⟩] env H none [] Q := w_reg
def F_le_Plainr4 : List IStmt := [
  ⟨some 10, .nxt (.t 9), none⟩,
  ⟨some 11, .ext (.t 10) 0, none⟩]
theorem F_le_Plainr4_W {T : Tab} {env : Env} {H : Heap} {Q : Post} : W T (.reg F_le_Plainr4) env H Q ↔ WR T F_le_Plainr4 [
  ⟨some 10, .nxt (.t 9), none⟩,
  ⟨some 11, .ext (.t 10) 0, none⟩] env H none [] Q := w_reg
def F_le_Plainr5 : List IStmt := [
  ⟨some 12, .ext (.t 10) 2, none⟩,
  ⟨some 4, .mv (.t 12), none⟩]
theorem F_le_Plainr5_W {T : Tab} {env : Env} {H : Heap} {Q : Post} : W T (.reg F_le_Plainr5) env H Q ↔ WR T F_le_Plainr5 [
  ⟨some 12, .ext (.t 10) 2, none⟩,
  ⟨some 4, .mv (.t 12), none⟩] env H none [] Q := w_reg
def F_le_Plainr6 : List IStmt := [
  ⟨some 13, .mv (.t 4), none⟩,
  ⟨some 14, .bin .lss (.t 13) (.c (.int .i32 33)), none⟩,
  ⟨some 15, .mv (.t 14), none⟩,
  ⟨some 16, .mv (.t 4), some (2, false)⟩,
  ⟨some 17, .bin .gtr (.t 16) (.c (.int .i32 126)), some (2, false)⟩,
  ⟨some 18, .pick (.t 15) (.c (.bool true)) (.t 17), none⟩]
theorem F_le_Plainr6_W {T : Tab} {env : Env} {H : Heap} {Q : Post} : W T (.reg F_le_Plainr6) env H Q ↔ WR T F_le_Plainr6 [
  ⟨some 13, .mv (.t 4), none⟩,
  ⟨some 14, .bin .lss (.t 13) (.c (.int .i32 33)), none⟩,
  ⟨some 15, .mv (.t 14), none⟩,
  ⟨some 16, .mv (.t 4), some (2, false)⟩,
  ⟨some 17, .bin .gtr (.t 16) (.c (.int .i32 126)), some (2, false)⟩,
  ⟨some 18, .pick (.t 15) (.c (.bool true)) (.t 17), none⟩] env H none [] Q := w_reg
theorem F_le_Plainr6_g2 {env : Env} : yieldI F_le_Plainr6 env 2 = bOf (env 15) := rfl
def F_le_Plainr7 : List IStmt := [
  ⟨some 2, .mv (.c (.bool false)), none⟩]
theorem F_le_Plainr7_W {T : Tab} {env : Env} {H : Heap} {Q : Post} : W T (.reg F_le_Plainr7) env H Q ↔ WR T F_le_Plainr7 [
  ⟨some 2, .mv (.c (.bool false)), none⟩] env H none [] Q := w_reg
def F_le_Plainl0 : ICode := (.seq (.reg F_le_Plainr4) (.seq (.cond (.t 11) .skip (.exit 0)) (.block 1 (.seq (.reg F_le_Plainr5) (.seq (.reg F_le_Plainr6) (.cond (.t 18) (.seq (.reg F_le_Plainr7) .ret) .skip))))))
theorem F_le_Plainl0_W {T : Tab} {env : Env} {H : Heap} {Q : Post} : W T F_le_Plainl0 env H Q ↔ W T (.seq (.reg F_le_Plainr4) (.seq (.cond (.t 11) .skip (.exit 0)) (.block 1 (.seq (.reg F_le_Plainr5) (.seq (.reg F_le_Plainr6) (.cond (.t 18) (.seq (.reg F_le_Plainr7) .ret) .skip)))))) env H Q := Iff.rfl
def F_le_Plainr8 : List IStmt := [
  ⟨some 2, .mv (.c (.bool true)), none⟩]
theorem F_le_Plainr8_W {T : Tab} {env : Env} {H : Heap} {Q : Post} : W T (.reg F_le_Plainr8) env H Q ↔ WR T F_le_Plainr8 [
  ⟨some 2, .mv (.c (.bool true)), none⟩] env H none [] Q := w_reg
def F_le_Plainc : ICode := (.seq (.reg F_le_Plainr0) (.seq (.seq (.reg F_le_Plainr1) (.cond (.t 7) (.seq (.reg F_le_Plainr2) .ret) .skip)) (.seq (.seq (.reg F_le_Plainr3) (.block 0 (.loop F_le_Plainl0))) (.seq (.reg F_le_Plainr8) .ret))))
theorem F_le_Plainc_W {T : Tab} {env : Env} {H : Heap} {Q : Post} : W T F_le_Plainc env H Q ↔ W T (.seq (.reg F_le_Plainr0) (.seq (.seq (.reg F_le_Plainr1) (.cond (.t 7) (.seq (.reg F_le_Plainr2) .ret) .skip)) (.seq (.seq (.reg F_le_Plainr3) (.block 0 (.loop F_le_Plainl0))) (.seq (.reg F_le_Plainr8) .ret)))) env H Q := Iff.rfl
def F_le_Plain : IFn := ⟨19, [.tmp 2], F_le_Plainc⟩
set_option maxRecDepth 1000000 in
theorem F_le_Plain_chk : chkF Try.prog 75 F_le_Plain = true := by kernel_rfl

/-! ### le_Text -/
def F_le_Textr0 : List IStmt := [
  ⟨some 4, .mv (.c (.string ⟨#[]⟩)), none⟩,
  ⟨some 5, .mv (.c (.int .i64 0)), none⟩]
theorem F_le_Textr0_W {T : Tab} {env : Env} {H : Heap} {Q : Post} : W T (.reg F_le_Textr0) env H Q ↔ WR T F_le_Textr0 [
  ⟨some 4, .mv (.c (.string ⟨#[]⟩)), none⟩,
  ⟨some 5, .mv (.c (.int .i64 0)), none⟩] env H none [] Q := w_reg
def F_le_Textr1 : List IStmt := [
  ⟨some 8, .mv (.t 1), none⟩,
  ⟨some 9, .mv (.t 0), none⟩,
  ⟨some 10, .len 1 (.t 9), none⟩,
  ⟨some 11, .conv .u64 (.t 10), none⟩,
  ⟨some 12, .bin .geq (.t 8) (.t 11), none⟩]
theorem F_le_Textr1_W {T : Tab} {env : Env} {H : Heap} {Q : Post} : W T (.reg F_le_Textr1) env H Q ↔ WR T F_le_Textr1 [
  ⟨some 8, .mv (.t 1), none⟩,
  ⟨some 9, .mv (.t 0), none⟩,
  ⟨some 10, .len 1 (.t 9), none⟩,
  ⟨some 11, .conv .u64 (.t 10), none⟩,
  ⟨some 12, .bin .geq (.t 8) (.t 11), none⟩] env H none [] Q := w_reg
def F_le_Textr2 : List IStmt := [
  ⟨some 4, .mv (.c (.string ⟨#[]⟩)), none⟩,
  ⟨some 5, .mv (.c (.int .i64 20)), none⟩]
theorem F_le_Textr2_W {T : Tab} {env : Env} {H : Heap} {Q : Post} : W T (.reg F_le_Textr2) env H Q ↔ WR T F_le_Textr2 [
  ⟨some 4, .mv (.c (.string ⟨#[]⟩)), none⟩,
  ⟨some 5, .mv (.c (.int .i64 20)), none⟩] env H none [] Q := w_reg
def F_le_Textr3 : List IStmt := [
  ⟨some 13, .mv (.t 1), none⟩,
  ⟨some 14, .conv .i64 (.t 13), none⟩,
  ⟨some 6, .mv (.t 14), none⟩]
theorem F_le_Textr3_W {T : Tab} {env : Env} {H : Heap} {Q : Post} : W T (.reg F_le_Textr3) env H Q ↔ WR T F_le_Textr3 [
  ⟨some 13, .mv (.t 1), none⟩,
  ⟨some 14, .conv .i64 (.t 13), none⟩,
  ⟨some 6, .mv (.t 14), none⟩] env H none [] Q := w_reg
def F_le_Textr4 : List IStmt := [
  ⟨some 15, .mv (.t 6), none⟩,
  ⟨some 16, .mv (.t 0), none⟩,
  ⟨some 17, .len 1 (.t 16), none⟩,
  ⟨some 18, .bin .lss (.t 15) (.t 17), none⟩,
  ⟨some 19, .mv (.t 18), none⟩,
  ⟨some 20, .mv (.t 0), some (4, true)⟩,
  ⟨some 21, .mv (.t 6), some (4, true)⟩,
  ⟨some 22, .ixa 1 (.t 20) (.t 21), some (4, true)⟩,
  ⟨some 23, .load (.t 22), some (4, true)⟩,
  ⟨some 24, .bin .neq (.t 23) (.c (.int .u8 0)), some (4, true)⟩,
  ⟨some 25, .pick (.t 19) (.t 24) (.c (.bool false)), none⟩]
theorem F_le_Textr4_W {T : Tab} {env : Env} {H : Heap} {Q : Post} : W T (.reg F_le_Textr4) env H Q ↔ WR T F_le_Textr4 [
  ⟨some 15, .mv (.t 6), none⟩,
  ⟨some 16, .mv (.t 0), none⟩,
  ⟨some 17, .len 1 (.t 16), none⟩,
  ⟨some 18, .bin .lss (.t 15) (.t 17), none⟩,
  ⟨some 19, .mv (.t 18), none⟩,
  ⟨some 20, .mv (.t 0), some (4, true)⟩,
  ⟨some 21, .mv (.t 6), some (4, true)⟩,
  ⟨some 22, .ixa 1 (.t 20) (.t 21), some (4, true)⟩,
  ⟨some 23, .load (.t 22), some (4, true)⟩,
  ⟨some 24, .bin .neq (.t 23) (.c (.int .u8 0)), some (4, true)⟩,
  ⟨some 25, .pick (.t 19) (.t 24) (.c (.bool false)), none⟩] env H none [] Q := w_reg
theorem F_le_Textr4_g4 {env : Env} : yieldI F_le_Textr4 env 4 = bOf (env 19) := rfl
def F_le_Textr5 : List IStmt := [
  ⟨some 26, .mv (.t 6), none⟩,
  ⟨some 27, .bin .add (.t 26) (.c (.int .i64 1)), none⟩,
  ⟨some 6, .mv (.t 27), none⟩]
theorem F_le_Textr5_W {T : Tab} {env : Env} {H : Heap} {Q : Post} : W T (.reg F_le_Textr5) env H Q ↔ WR T F_le_Textr5 [
  ⟨some 26, .mv (.t 6), none⟩,
  ⟨some 27, .bin .add (.t 26) (.c (.int .i64 1)), none⟩,
  ⟨some 6, .mv (.t 27), none⟩] env H none [] Q := w_reg
def F_le_Textl0 : ICode := (.seq (.seq (.reg F_le_Textr4) (.cond (.t 25) .skip (.exit 0))) (.block 1 (.reg F_le_Textr5)))
theorem F_le_Textl0_W {T : Tab} {env : Env} {H : Heap} {Q : Post} : W T F_le_Textl0 env H Q ↔ W T (.seq (.seq (.reg F_le_Textr4) (.cond (.t 25) .skip (.exit 0))) (.block 1 (.reg F_le_Textr5))) env H Q := Iff.rfl
def F_le_Textr6 : List IStmt := [
  ⟨some 28, .mv (.t 6), none⟩,
  ⟨some 29, .mv (.t 0), none⟩,
  ⟨some 30, .len 1 (.t 29), none⟩,
  ⟨some 31, .bin .eql (.t 28) (.t 30), none⟩]
theorem F_le_Textr6_W {T : Tab} {env : Env} {H : Heap} {Q : Post} : W T (.reg F_le_Textr6) env H Q ↔ WR T F_le_Textr6 [
  ⟨some 28, .mv (.t 6), none⟩,
  ⟨some 29, .mv (.t 0), none⟩,
  ⟨some 30, .len 1 (.t 29), none⟩,
  ⟨some 31, .bin .eql (.t 28) (.t 30), none⟩] env H none [] Q := w_reg
def F_le_Textr7 : List IStmt := [
  ⟨some 4, .mv (.c (.string ⟨#[]⟩)), none⟩,
  ⟨some 5, .mv (.c (.int .i64 20)), none⟩]
theorem F_le_Textr7_W {T : Tab} {env : Env} {H : Heap} {Q : Post} : W T (.reg F_le_Textr7) env H Q ↔ WR T F_le_Textr7 [
  ⟨some 4, .mv (.c (.string ⟨#[]⟩)), none⟩,
  ⟨some 5, .mv (.c (.int .i64 20)), none⟩] env H none [] Q := w_reg
def F_le_Textr8 : List IStmt := [
  ⟨some 32, .mv (.t 0), none⟩,
  ⟨some 33, .mv (.t 1), none⟩,
  ⟨some 34, .mv (.t 6), none⟩,
  ⟨some 35, .sle 1 (.t 32) (some (.t 33)) (some (.t 34)) none, none⟩,
  ⟨some 36, .b2s (.t 35), none⟩,
  ⟨some 7, .mv (.t 36), none⟩]
theorem F_le_Textr8_W {T : Tab} {env : Env} {H : Heap} {Q : Post} : W T (.reg F_le_Textr8) env H Q ↔ WR T F_le_Textr8 [
  ⟨some 32, .mv (.t 0), none⟩,
  ⟨some 33, .mv (.t 1), none⟩,
  ⟨some 34, .mv (.t 6), none⟩,
  ⟨some 35, .sle 1 (.t 32) (some (.t 33)) (some (.t 34)) none, none⟩,
  ⟨some 36, .b2s (.t 35), none⟩,
  ⟨some 7, .mv (.t 36), none⟩] env H none [] Q := w_reg
def F_le_Textr9 : List IStmt := [
  ⟨some 37, .mv (.t 7), none⟩,
  ⟨some 38, .callc 75 [(.t 37)], none⟩,
  ⟨some 39, .un .not (.t 38), none⟩]
theorem F_le_Textr9_W {T : Tab} {env : Env} {H : Heap} {Q : Post} : W T (.reg F_le_Textr9) env H Q ↔ WR T F_le_Textr9 [
  ⟨some 37, .mv (.t 7), none⟩,
  ⟨some 38, .callc 75 [(.t 37)], none⟩,
  ⟨some 39, .un .not (.t 38), none⟩] env H none [] Q := w_reg
def F_le_Textr10 : List IStmt := [
  ⟨some 4, .mv (.c (.string ⟨#[]⟩)), none⟩,
  ⟨some 5, .mv (.c (.int .i64 21)), none⟩]
theorem F_le_Textr10_W {T : Tab} {env : Env} {H : Heap} {Q : Post} : W T (.reg F_le_Textr10) env H Q ↔ WR T F_le_Textr10 [
  ⟨some 4, .mv (.c (.string ⟨#[]⟩)), none⟩,
  ⟨some 5, .mv (.c (.int .i64 21)), none⟩] env H none [] Q := w_reg
def F_le_Textr11 : List IStmt := [
  ⟨some 40, .mv (.t 7), none⟩,
  ⟨some 4, .mv (.t 40), none⟩,
  ⟨some 5, .mv (.c (.int .i64 0)), none⟩]
theorem F_le_Textr11_W {T : Tab} {env : Env} {H : Heap} {Q : Post} : W T (.reg F_le_Textr11) env H Q ↔ WR T F_le_Textr11 [
  ⟨some 40, .mv (.t 7), none⟩,
  ⟨some 4, .mv (.t 40), none⟩,
  ⟨some 5, .mv (.c (.int .i64 0)), none⟩] env H none [] Q := w_reg
def F_le_Textc : ICode := (.seq (.reg F_le_Textr0) (.seq (.seq (.reg F_le_Textr1) (.cond (.t 12) (.seq (.reg F_le_Textr2) .ret) .skip)) (.seq (.reg F_le_Textr3) (.seq (.block 0 (.loop F_le_Textl0)) (.seq (.seq (.reg F_le_Textr6) (.cond (.t 31) (.seq (.reg F_le_Textr7) .ret) .skip)) (.seq (.reg F_le_Textr8) (.seq (.seq (.reg F_le_Textr9) (.cond (.t 39) (.seq (.reg F_le_Textr10) .ret) .skip)) (.seq (.reg F_le_Textr11) .ret))))))))
theorem F_le_Textc_W {T : Tab} {env : Env} {H : Heap} {Q : Post} : W T F_le_Textc env H Q ↔ W T (.seq (.reg F_le_Textr0) (.seq (.seq (.reg F_le_Textr1) (.cond (.t 12) (.seq (.reg F_le_Textr2) .ret) .skip)) (.seq (.reg F_le_Textr3) (.seq (.block 0 (.loop F_le_Textl0)) (.seq (.seq (.reg F_le_Textr6) (.cond (.t 31) (.seq (.reg F_le_Textr7) .ret) .skip)) (.seq (.reg F_le_Textr8) (.seq (.seq (.reg F_le_Textr9) (.cond (.t 39) (.seq (.reg F_le_Textr10) .ret) .skip)) (.seq (.reg F_le_Textr11) .ret)))))))) env H Q := Iff.rfl
def F_le_Text : IFn := ⟨41, [.tmp 4, .tmp 5], F_le_Textc⟩
set_option maxRecDepth 1000000 in
theorem F_le_Text_chk : chkF Try.prog 70 F_le_Text = true := by kernel_rfl

/-! ### ref01_Sum -/
def F_ref01_Sumr0 : List IStmt := [
  ⟨some 4, .alloc 2 [.int .u64 0, .int .u64 0], none⟩]
theorem F_ref01_Sumr0_W {T : Tab} {env : Env} {H : Heap} {Q : Post} : W T (.reg F_ref01_Sumr0) env H Q ↔ WR T F_ref01_Sumr0 [
  ⟨some 4, .alloc 2 [.int .u64 0, .int .u64 0], none⟩] env H none [] Q := w_reg
def F_ref01_Sumr1 : List IStmt := [
  ⟨some 6, .mv (.t 0), none⟩,
  ⟨some 7, .mv (.t 1), none⟩,
  ⟨some 8, .bin .add (.t 6) (.t 7), none⟩,
  ⟨some 5, .mv (.t 8), none⟩]
theorem F_ref01_Sumr1_W {T : Tab} {env : Env} {H : Heap} {Q : Post} : W T (.reg F_ref01_Sumr1) env H Q ↔ WR T F_ref01_Sumr1 [
  ⟨some 6, .mv (.t 0), none⟩,
  ⟨some 7, .mv (.t 1), none⟩,
  ⟨some 8, .bin .add (.t 6) (.t 7), none⟩,
  ⟨some 5, .mv (.t 8), none⟩] env H none [] Q := w_reg
def F_ref01_Sumr2 : List IStmt := [
  ⟨some 9, .mv (.t 5), none⟩,
  ⟨some 10, .mv (.t 0), none⟩,
  ⟨some 11, .bin .lss (.t 9) (.t 10), none⟩]
theorem F_ref01_Sumr2_W {T : Tab} {env : Env} {H : Heap} {Q : Post} : W T (.reg F_ref01_Sumr2) env H Q ↔ WR T F_ref01_Sumr2 [
  ⟨some 9, .mv (.t 5), none⟩,
  ⟨some 10, .mv (.t 0), none⟩,
  ⟨some 11, .bin .lss (.t 9) (.t 10), none⟩] env H none [] Q := w_reg
def F_ref01_Sumr3 : List IStmt := [
  ⟨some 12, .mv (.t 5), none⟩,
  ⟨some 13, .bld [.int .u64 0, .int .u64 0] [(0, 1, (.c (.int .u64 1))), (1, 1, (.t 12))], none⟩,
  ⟨none, .store 2 (.t 4) (.t 13), none⟩]
theorem F_ref01_Sumr3_W {T : Tab} {env : Env} {H : Heap} {Q : Post} : W T (.reg F_ref01_Sumr3) env H Q ↔ WR T F_ref01_Sumr3 [
  ⟨some 12, .mv (.t 5), none⟩,
  ⟨some 13, .bld [.int .u64 0, .int .u64 0] [(0, 1, (.c (.int .u64 1))), (1, 1, (.t 12))], none⟩,
  ⟨none, .store 2 (.t 4) (.t 13), none⟩] env H none [] Q := w_reg
def F_ref01_Sumr4 : List IStmt := [
  ⟨some 14, .mv (.t 5), none⟩,
  ⟨some 15, .bld [.int .u64 0, .int .u64 0] [(0, 1, (.c (.int .u64 0))), (1, 1, (.t 14))], none⟩,
  ⟨none, .store 2 (.t 4) (.t 15), none⟩]
theorem F_ref01_Sumr4_W {T : Tab} {env : Env} {H : Heap} {Q : Post} : W T (.reg F_ref01_Sumr4) env H Q ↔ WR T F_ref01_Sumr4 [
  ⟨some 14, .mv (.t 5), none⟩,
  ⟨some 15, .bld [.int .u64 0, .int .u64 0] [(0, 1, (.c (.int .u64 0))), (1, 1, (.t 14))], none⟩,
  ⟨none, .store 2 (.t 4) (.t 15), none⟩] env H none [] Q := w_reg
def F_ref01_Sumc : ICode := (.seq (.reg F_ref01_Sumr0) (.seq (.reg F_ref01_Sumr1) (.seq (.seq (.reg F_ref01_Sumr2) (.cond (.t 11) (.seq (.reg F_ref01_Sumr3) .ret) .skip)) (.seq (.reg F_ref01_Sumr4) .ret))))
theorem F_ref01_Sumc_W {T : Tab} {env : Env} {H : Heap} {Q : Post} : W T F_ref01_Sumc env H Q ↔ W T (.seq (.reg F_ref01_Sumr0) (.seq (.reg F_ref01_Sumr1) (.seq (.seq (.reg F_ref01_Sumr2) (.cond (.t 11) (.seq (.reg F_ref01_Sumr3) .ret) .skip)) (.seq (.reg F_ref01_Sumr4) .ret)))) env H Q := Iff.rfl
def F_ref01_Sum : IFn := ⟨16, [.cell 4 (some 2)], F_ref01_Sumc⟩
set_option maxRecDepth 1000000 in
theorem F_ref01_Sum_chk : chkF Try.prog 72 F_ref01_Sum = true := by kernel_rfl

/-! ### ref01_Less -/
def F_ref01_Lessr0 : List IStmt := [
  ⟨some 2, .box 2 (.t 0), none⟩,
  ⟨some 3, .box 2 (.t 1), none⟩,
  ⟨some 4, .mv (.c (.bool false)), none⟩]
theorem F_ref01_Lessr0_W {T : Tab} {env : Env} {H : Heap} {Q : Post} : W T (.reg F_ref01_Lessr0) env H Q ↔ WR T F_ref01_Lessr0 [
  ⟨some 2, .box 2 (.t 0), none⟩,
  ⟨some 3, .box 2 (.t 1), none⟩,
  ⟨some 4, .mv (.c (.bool false)), none⟩] env H none [] Q := w_reg
def F_ref01_Lessr1 : List IStmt := [
  ⟨some 5, .fa 0 (.t 2), none⟩,
  ⟨some 6, .load (.t 5), none⟩,
  ⟨some 7, .fa 0 (.t 3), none⟩,
  ⟨some 8, .load (.t 7), none⟩,
  ⟨some 9, .bin .lss (.t 6) (.t 8), none⟩,
  ⟨some 10, .mv (.t 9), none⟩,
  ⟨some 11, .fa 0 (.t 2), some (5, false)⟩,
  ⟨some 12, .load (.t 11), some (5, false)⟩,
  ⟨some 13, .fa 0 (.t 3), some (5, false)⟩,
  ⟨some 14, .load (.t 13), some (5, false)⟩,
  ⟨some 15, .bin .eql (.t 12) (.t 14), some (5, false)⟩,
  ⟨some 16, .mv (.t 15), some (5, false)⟩,
  ⟨some 17, .fa 1 (.t 2), some (11, true)⟩,
  ⟨some 18, .load (.t 17), some (11, true)⟩,
  ⟨some 19, .fa 1 (.t 3), some (11, true)⟩,
  ⟨some 20, .load (.t 19), some (11, true)⟩,
  ⟨some 21, .bin .lss (.t 18) (.t 20), some (11, true)⟩,
  ⟨some 22, .pick (.t 16) (.t 21) (.c (.bool false)), some (5, false)⟩,
  ⟨some 23, .pick (.t 10) (.c (.bool true)) (.t 22), none⟩,
  ⟨some 4, .mv (.t 23), none⟩]
theorem F_ref01_Lessr1_W {T : Tab} {env : Env} {H : Heap} {Q : Post} : W T (.reg F_ref01_Lessr1) env H Q ↔ WR T F_ref01_Lessr1 [
  ⟨some 5, .fa 0 (.t 2), none⟩,
  ⟨some 6, .load (.t 5), none⟩,
  ⟨some 7, .fa 0 (.t 3), none⟩,
  ⟨some 8, .load (.t 7), none⟩,
  ⟨some 9, .bin .lss (.t 6) (.t 8), none⟩,
  ⟨some 10, .mv (.t 9), none⟩,
  ⟨some 11, .fa 0 (.t 2), some (5, false)⟩,
  ⟨some 12, .load (.t 11), some (5, false)⟩,
  ⟨some 13, .fa 0 (.t 3), some (5, false)⟩,
  ⟨some 14, .load (.t 13), some (5, false)⟩,
  ⟨some 15, .bin .eql (.t 12) (.t 14), some (5, false)⟩,
  ⟨some 16, .mv (.t 15), some (5, false)⟩,
  ⟨some 17, .fa 1 (.t 2), some (11, true)⟩,
  ⟨some 18, .load (.t 17), some (11, true)⟩,
  ⟨some 19, .fa 1 (.t 3), some (11, true)⟩,
  ⟨some 20, .load (.t 19), some (11, true)⟩,
  ⟨some 21, .bin .lss (.t 18) (.t 20), some (11, true)⟩,
  ⟨some 22, .pick (.t 16) (.t 21) (.c (.bool false)), some (5, false)⟩,
  ⟨some 23, .pick (.t 10) (.c (.bool true)) (.t 22), none⟩,
  ⟨some 4, .mv (.t 23), none⟩] env H none [] Q := w_reg
theorem F_ref01_Lessr1_g5 {env : Env} : yieldI F_ref01_Lessr1 env 5 = bOf (env 10) := rfl
theorem F_ref01_Lessr1_g11 {env : Env} : yieldI F_ref01_Lessr1 env 11 = bOf (env 16) := rfl
def F_ref01_Lessc : ICode := (.seq (.reg F_ref01_Lessr0) (.seq (.reg F_ref01_Lessr1) .ret))
theorem F_ref01_Lessc_W {T : Tab} {env : Env} {H : Heap} {Q : Post} : W T F_ref01_Lessc env H Q ↔ W T (.seq (.reg F_ref01_Lessr0) (.seq (.reg F_ref01_Lessr1) .ret)) env H Q := Iff.rfl
def F_ref01_Less : IFn := ⟨24, [.tmp 4], F_ref01_Lessc⟩
set_option maxRecDepth 1000000 in
theorem F_ref01_Less_chk : chkF Try.prog 71 F_ref01_Less = true := by kernel_rfl

/-! ### ref01_Inside -/
def F_ref01_Insider0 : List IStmt := [
  ⟨some 8, .mv (.c (.bool false)), none⟩]
theorem F_ref01_Insider0_W {T : Tab} {env : Env} {H : Heap} {Q : Post} : W T (.reg F_ref01_Insider0) env H Q ↔ WR T F_ref01_Insider0 [
  ⟨some 8, .mv (.c (.bool false)), none⟩] env H none [] Q := w_reg
def F_ref01_Insider1 : List IStmt := [
  ⟨some 9, .mv (.t 0), none⟩,
  ⟨some 10, .mv (.t 2), none⟩,
  ⟨some 11, .bin .geq (.t 9) (.t 10), none⟩,
  ⟨some 12, .mv (.t 11), none⟩,
  ⟨some 13, .mv (.t 2), some (3, true)⟩,
  ⟨some 14, .mv (.t 3), some (3, true)⟩,
  ⟨some 15, .callc 72 [(.t 13), (.t 14)], some (3, true)⟩,
  ⟨some 16, .mv (.t 0), some (3, true)⟩,
  ⟨some 17, .mv (.t 1), some (3, true)⟩,
  ⟨some 18, .callc 72 [(.t 16), (.t 17)], some (3, true)⟩,
  ⟨some 19, .callc 71 [(.t 15), (.t 18)], some (3, true)⟩,
  ⟨some 20, .un .not (.t 19), some (3, true)⟩,
  ⟨some 21, .pick (.t 12) (.t 20) (.c (.bool false)), none⟩,
  ⟨some 8, .mv (.t 21), none⟩]
theorem F_ref01_Insider1_W {T : Tab} {env : Env} {H : Heap} {Q : Post} : W T (.reg F_ref01_Insider1) env H Q ↔ WR T F_ref01_Insider1 [
  ⟨some 9, .mv (.t 0), none⟩,
  ⟨some 10, .mv (.t 2), none⟩,
  ⟨some 11, .bin .geq (.t 9) (.t 10), none⟩,
  ⟨some 12, .mv (.t 11), none⟩,
  ⟨some 13, .mv (.t 2), some (3, true)⟩,
  ⟨some 14, .mv (.t 3), some (3, true)⟩,
  ⟨some 15, .callc 72 [(.t 13), (.t 14)], some (3, true)⟩,
  ⟨some 16, .mv (.t 0), some (3, true)⟩,
  ⟨some 17, .mv (.t 1), some (3, true)⟩,
  ⟨some 18, .callc 72 [(.t 16), (.t 17)], some (3, true)⟩,
  ⟨some 19, .callc 71 [(.t 15), (.t 18)], some (3, true)⟩,
  ⟨some 20, .un .not (.t 19), some (3, true)⟩,
  ⟨some 21, .pick (.t 12) (.t 20) (.c (.bool false)), none⟩,
  ⟨some 8, .mv (.t 21), none⟩] env H none [] Q := w_reg
theorem F_ref01_Insider1_g3 {env : Env} : yieldI F_ref01_Insider1 env 3 = bOf (env 12) := rfl
def F_ref01_Insidec : ICode := (.seq (.reg F_ref01_Insider0) (.seq (.reg F_ref01_Insider1) .ret))
theorem F_ref01_Insidec_W {T : Tab} {env : Env} {H : Heap} {Q : Post} : W T F_ref01_Insidec env H Q ↔ W T (.seq (.reg F_ref01_Insider0) (.seq (.reg F_ref01_Insider1) .ret)) env H Q := Iff.rfl
def F_ref01_Inside : IFn := ⟨22, [.tmp 8], F_ref01_Insidec⟩
set_option maxRecDepth 1000000 in
theorem F_ref01_Inside_chk : chkF Try.prog 61 F_ref01_Inside = true := by kernel_rfl

/-! ### ref02_Get -/
def F_ref02_Getr0 : List IStmt := [
  ⟨some 6, .mv (.c (.int .u64 0)), none⟩,
  ⟨some 7, .mv (.c (.int .i64 0)), none⟩]
theorem F_ref02_Getr0_W {T : Tab} {env : Env} {H : Heap} {Q : Post} : W T (.reg F_ref02_Getr0) env H Q ↔ WR T F_ref02_Getr0 [
  ⟨some 6, .mv (.c (.int .u64 0)), none⟩,
  ⟨some 7, .mv (.c (.int .i64 0)), none⟩] env H none [] Q := w_reg
def F_ref02_Getr1 : List IStmt := [
  ⟨some 11, .mv (.t 1), none⟩,
  ⟨some 12, .mv (.t 0), none⟩,
  ⟨some 13, .len 1 (.t 12), none⟩,
  ⟨some 14, .conv .u64 (.t 13), none⟩,
  ⟨some 15, .bin .gtr (.t 11) (.t 14), none⟩,
  ⟨some 16, .mv (.t 15), none⟩,
  ⟨some 17, .mv (.t 0), some (5, false)⟩,
  ⟨some 18, .len 1 (.t 17), some (5, false)⟩,
  ⟨some 19, .mv (.t 1), some (5, false)⟩,
  ⟨some 20, .conv .i64 (.t 19), some (5, false)⟩,
  ⟨some 21, .bin .sub (.t 18) (.t 20), some (5, false)⟩,
  ⟨some 22, .mv (.t 2), some (5, false)⟩,
  ⟨some 23, .bin .lss (.t 21) (.t 22), some (5, false)⟩,
  ⟨some 24, .pick (.t 16) (.c (.bool true)) (.t 23), none⟩]
theorem F_ref02_Getr1_W {T : Tab} {env : Env} {H : Heap} {Q : Post} : W T (.reg F_ref02_Getr1) env H Q ↔ WR T F_ref02_Getr1 [
  ⟨some 11, .mv (.t 1), none⟩,
  ⟨some 12, .mv (.t 0), none⟩,
  ⟨some 13, .len 1 (.t 12), none⟩,
  ⟨some 14, .conv .u64 (.t 13), none⟩,
  ⟨some 15, .bin .gtr (.t 11) (.t 14), none⟩,
  ⟨some 16, .mv (.t 15), none⟩,
  ⟨some 17, .mv (.t 0), some (5, false)⟩,
  ⟨some 18, .len 1 (.t 17), some (5, false)⟩,
  ⟨some 19, .mv (.t 1), some (5, false)⟩,
  ⟨some 20, .conv .i64 (.t 19), some (5, false)⟩,
  ⟨some 21, .bin .sub (.t 18) (.t 20), some (5, false)⟩,
  ⟨some 22, .mv (.t 2), some (5, false)⟩,
  ⟨some 23, .bin .lss (.t 21) (.t 22), some (5, false)⟩,
  ⟨some 24, .pick (.t 16) (.c (.bool true)) (.t 23), none⟩] env H none [] Q := w_reg
theorem F_ref02_Getr1_g5 {env : Env} : yieldI F_ref02_Getr1 env 5 = bOf (env 16) := rfl
def F_ref02_Getr2 : List IStmt := [
  ⟨some 6, .mv (.c (.int .u64 0)), none⟩,
  ⟨some 7, .mv (.c (.int .i64 20)), none⟩]
theorem F_ref02_Getr2_W {T : Tab} {env : Env} {H : Heap} {Q : Post} : W T (.reg F_ref02_Getr2) env H Q ↔ WR T F_ref02_Getr2 [
  ⟨some 6, .mv (.c (.int .u64 0)), none⟩,
  ⟨some 7, .mv (.c (.int .i64 20)), none⟩] env H none [] Q := w_reg
def F_ref02_Getr3 : List IStmt := [
  ⟨some 8, .mv (.c (.int .u64 0)), none⟩,
  ⟨some 9, .mv (.c (.int .u64 1)), none⟩]
theorem F_ref02_Getr3_W {T : Tab} {env : Env} {H : Heap} {Q : Post} : W T (.reg F_ref02_Getr3) env H Q ↔ WR T F_ref02_Getr3 [
  ⟨some 8, .mv (.c (.int .u64 0)), none⟩,
  ⟨some 9, .mv (.c (.int .u64 1)), none⟩] env H none [] Q := w_reg
def F_ref02_Getr4 : List IStmt := [
  ⟨some 10, .mv (.c (.int .i64 0)), none⟩]
theorem F_ref02_Getr4_W {T : Tab} {env : Env} {H : Heap} {Q : Post} : W T (.reg F_ref02_Getr4) env H Q ↔ WR T F_ref02_Getr4 [
  ⟨some 10, .mv (.c (.int .i64 0)), none⟩] env H none [] Q := w_reg
def F_ref02_Getr5 : List IStmt := [
  ⟨some 25, .mv (.t 10), none⟩,
  ⟨some 26, .mv (.t 2), none⟩,
  ⟨some 27, .bin .lss (.t 25) (.t 26), none⟩]
theorem F_ref02_Getr5_W {T : Tab} {env : Env} {H : Heap} {Q : Post} : W T (.reg F_ref02_Getr5) env H Q ↔ WR T F_ref02_Getr5 [
  ⟨some 25, .mv (.t 10), none⟩,
  ⟨some 26, .mv (.t 2), none⟩,
  ⟨some 27, .bin .lss (.t 25) (.t 26), none⟩] env H none [] Q := w_reg
def F_ref02_Getr7 : List IStmt := [
  ⟨some 30, .mv (.t 8), none⟩,
  ⟨some 31, .mv (.t 0), none⟩,
  ⟨some 32, .mv (.t 1), none⟩,
  ⟨some 33, .conv .i64 (.t 32), none⟩,
  ⟨some 34, .mv (.t 10), none⟩,
  ⟨some 35, .bin .add (.t 33) (.t 34), none⟩,
  ⟨some 36, .ixa 1 (.t 31) (.t 35), none⟩,
  ⟨some 37, .load (.t 36), none⟩,
  ⟨some 38, .conv .u64 (.t 37), none⟩,
  ⟨some 39, .mv (.t 9), none⟩,
  ⟨some 40, .bin .mul (.t 38) (.t 39), none⟩,
  ⟨some 41, .bin .add (.t 30) (.t 40), none⟩,
  ⟨some 8, .mv (.t 41), none⟩]
theorem F_ref02_Getr7_W {T : Tab} {env : Env} {H : Heap} {Q : Post} : W T (.reg F_ref02_Getr7) env H Q ↔ WR T F_ref02_Getr7 [
  ⟨some 30, .mv (.t 8), none⟩,
  ⟨some 31, .mv (.t 0), none⟩,
  ⟨some 32, .mv (.t 1), none⟩,
  ⟨some 33, .conv .i64 (.t 32), none⟩,
  ⟨some 34, .mv (.t 10), none⟩,
  ⟨some 35, .bin .add (.t 33) (.t 34), none⟩,
  ⟨some 36, .ixa 1 (.t 31) (.t 35), none⟩,
  ⟨some 37, .load (.t 36), none⟩,
  ⟨some 38, .conv .u64 (.t 37), none⟩,
  ⟨some 39, .mv (.t 9), none⟩,
  ⟨some 40, .bin .mul (.t 38) (.t 39), none⟩,
  ⟨some 41, .bin .add (.t 30) (.t 40), none⟩,
  ⟨some 8, .mv (.t 41), none⟩] env H none [] Q := w_reg
def F_ref02_Getr8 : List IStmt := [
  ⟨some 42, .mv (.t 9), none⟩,
  ⟨some 43, .bin .mul (.t 42) (.c (.int .u64 256)), none⟩,
  ⟨some 9, .mv (.t 43), none⟩]
theorem F_ref02_Getr8_W {T : Tab} {env : Env} {H : Heap} {Q : Post} : W T (.reg F_ref02_Getr8) env H Q ↔ WR T F_ref02_Getr8 [
  ⟨some 42, .mv (.t 9), none⟩,
  ⟨some 43, .bin .mul (.t 42) (.c (.int .u64 256)), none⟩,
  ⟨some 9, .mv (.t 43), none⟩] env H none [] Q := w_reg
def F_ref02_Getr6 : List IStmt := [
  ⟨some 28, .mv (.t 10), none⟩,
  ⟨some 29, .bin .add (.t 28) (.c (.int .i64 1)), none⟩,
  ⟨some 10, .mv (.t 29), none⟩]
theorem F_ref02_Getr6_W {T : Tab} {env : Env} {H : Heap} {Q : Post} : W T (.reg F_ref02_Getr6) env H Q ↔ WR T F_ref02_Getr6 [
  ⟨some 28, .mv (.t 10), none⟩,
  ⟨some 29, .bin .add (.t 28) (.c (.int .i64 1)), none⟩,
  ⟨some 10, .mv (.t 29), none⟩] env H none [] Q := w_reg
def F_ref02_Getl0 : ICode := (.seq (.seq (.reg F_ref02_Getr5) (.cond (.t 27) .skip (.exit 0))) (.seq (.block 1 (.seq (.reg F_ref02_Getr7) (.reg F_ref02_Getr8))) (.reg F_ref02_Getr6)))
theorem F_ref02_Getl0_W {T : Tab} {env : Env} {H : Heap} {Q : Post} : W T F_ref02_Getl0 env H Q ↔ W T (.seq (.seq (.reg F_ref02_Getr5) (.cond (.t 27) .skip (.exit 0))) (.seq (.block 1 (.seq (.reg F_ref02_Getr7) (.reg F_ref02_Getr8))) (.reg F_ref02_Getr6))) env H Q := Iff.rfl
def F_ref02_Getr9 : List IStmt := [
  ⟨some 44, .mv (.t 8), none⟩,
  ⟨some 6, .mv (.t 44), none⟩,
  ⟨some 7, .mv (.c (.int .i64 0)), none⟩]
theorem F_ref02_Getr9_W {T : Tab} {env : Env} {H : Heap} {Q : Post} : W T (.reg F_ref02_Getr9) env H Q ↔ WR T F_ref02_Getr9 [
  ⟨some 44, .mv (.t 8), none⟩,
  ⟨some 6, .mv (.t 44), none⟩,
  ⟨some 7, .mv (.c (.int .i64 0)), none⟩] env H none [] Q := w_reg
def F_ref02_Getc : ICode := (.seq (.reg F_ref02_Getr0) (.seq (.seq (.reg F_ref02_Getr1) (.cond (.t 24) (.seq (.reg F_ref02_Getr2) .ret) .skip)) (.seq (.reg F_ref02_Getr3) (.seq (.seq (.reg F_ref02_Getr4) (.block 0 (.loop F_ref02_Getl0))) (.seq (.reg F_ref02_Getr9) .ret)))))
theorem F_ref02_Getc_W {T : Tab} {env : Env} {H : Heap} {Q : Post} : W T F_ref02_Getc env H Q ↔ W T (.seq (.reg F_ref02_Getr0) (.seq (.seq (.reg F_ref02_Getr1) (.cond (.t 24) (.seq (.reg F_ref02_Getr2) .ret) .skip)) (.seq (.reg F_ref02_Getr3) (.seq (.seq (.reg F_ref02_Getr4) (.block 0 (.loop F_ref02_Getl0))) (.seq (.reg F_ref02_Getr9) .ret))))) env H Q := Iff.rfl
def F_ref02_Get : IFn := ⟨45, [.tmp 6, .tmp 7], F_ref02_Getc⟩
set_option maxRecDepth 1000000 in
theorem F_ref02_Get_chk : chkF Try.prog 62 F_ref02_Get = true := by kernel_rfl

/-! ### ref02_Plain -/
def F_ref02_Plainr0 : List IStmt := [
  ⟨some 2, .mv (.c (.bool false)), none⟩]
theorem F_ref02_Plainr0_W {T : Tab} {env : Env} {H : Heap} {Q : Post} : W T (.reg F_ref02_Plainr0) env H Q ↔ WR T F_ref02_Plainr0 [
  ⟨some 2, .mv (.c (.bool false)), none⟩] env H none [] Q := w_reg
def F_ref02_Plainr1 : List IStmt := [
  ⟨some 3, .mv (.c (.int .i64 0)), none⟩]
theorem F_ref02_Plainr1_W {T : Tab} {env : Env} {H : Heap} {Q : Post} : W T (.reg F_ref02_Plainr1) env H Q ↔ WR T F_ref02_Plainr1 [
  ⟨some 3, .mv (.c (.int .i64 0)), none⟩] env H none [] Q := w_reg
def F_ref02_Plainr2 : List IStmt := [
  ⟨some 4, .mv (.t 3), none⟩,
  ⟨some 5, .mv (.t 0), none⟩,
  ⟨some 6, .len 0 (.t 5), none⟩,
  ⟨some 7, .bin .lss (.t 4) (.t 6), none⟩]
theorem F_ref02_Plainr2_W {T : Tab} {env : Env} {H : Heap} {Q : Post} : W T (.reg F_ref02_Plainr2) env H Q ↔ WR T F_ref02_Plainr2 [
  ⟨some 4, .mv (.t 3), none⟩,
  ⟨some 5, .mv (.t 0), none⟩,
  ⟨some 6, .len 0 (.t 5), none⟩,
  ⟨some 7, .bin .lss (.t 4) (.t 6), none⟩] env H none [] Q := w_reg
def F_ref02_Plainr4 : List IStmt := [
  ⟨some 10, .mv (.t 0), none⟩,
  ⟨some 11, .mv (.t 3), none⟩,
  ⟨some 12, .ixs (.t 10) (.t 11), none⟩,
  ⟨some 13, .bin .lss (.t 12) (.c (.int .u8 33)), none⟩,
  ⟨some 14, .mv (.t 13), none⟩,
  ⟨some 15, .mv (.t 0), some (4, false)⟩,
  ⟨some 16, .mv (.t 3), some (4, false)⟩,
  ⟨some 17, .ixs (.t 15) (.t 16), some (4, false)⟩,
  ⟨some 18, .bin .gtr (.t 17) (.c (.int .u8 126)), some (4, false)⟩,
  ⟨some 19, .pick (.t 14) (.c (.bool true)) (.t 18), none⟩]
theorem F_ref02_Plainr4_W {T : Tab} {env : Env} {H : Heap} {Q : Post} : W T (.reg F_ref02_Plainr4) env H Q ↔ WR T F_ref02_Plainr4 [
  ⟨some 10, .mv (.t 0), none⟩,
  ⟨some 11, .mv (.t 3), none⟩,
  ⟨some 12, .ixs (.t 10) (.t 11), none⟩,
  ⟨some 13, .bin .lss (.t 12) (.c (.int .u8 33)), none⟩,
  ⟨some 14, .mv (.t 13), none⟩,
  ⟨some 15, .mv (.t 0), some (4, false)⟩,
  ⟨some 16, .mv (.t 3), some (4, false)⟩,
  ⟨some 17, .ixs (.t 15) (.t 16), some (4, false)⟩,
  ⟨some 18, .bin .gtr (.t 17) (.c (.int .u8 126)), some (4, false)⟩,
  ⟨some 19, .pick (.t 14) (.c (.bool true)) (.t 18), none⟩] env H none [] Q := w_reg
theorem F_ref02_Plainr4_g4 {env : Env} : yieldI F_ref02_Plainr4 env 4 = bOf (env 14) := rfl
def F_ref02_Plainr5 : List IStmt := [
  ⟨some 2, .mv (.c (.bool false)), none⟩]
theorem F_ref02_Plainr5_W {T : Tab} {env : Env} {H : Heap} {Q : Post} : W T (.reg F_ref02_Plainr5) env H Q ↔ WR T F_ref02_Plainr5 [
  ⟨some 2, .mv (.c (.bool false)), none⟩] env H none [] Q := w_reg
def F_ref02_Plainr3 : List IStmt := [
  ⟨some 8, .mv (.t 3), none⟩,
  ⟨some 9, .bin .add (.t 8) (.c (.int .i64 1)), none⟩,
  ⟨some 3, .mv (.t 9), none⟩]
theorem F_ref02_Plainr3_W {T : Tab} {env : Env} {H : Heap} {Q : Post} : W T (.reg F_ref02_Plainr3) env H Q ↔ WR T F_ref02_Plainr3 [
  ⟨some 8, .mv (.t 3), none⟩,
  ⟨some 9, .bin .add (.t 8) (.c (.int .i64 1)), none⟩,
  ⟨some 3, .mv (.t 9), none⟩] env H none [] Q := w_reg
def F_ref02_Plainl0 : ICode := (.seq (.seq (.reg F_ref02_Plainr2) (.cond (.t 7) .skip (.exit 0))) (.seq (.block 1 (.seq (.reg F_ref02_Plainr4) (.cond (.t 19) (.seq (.reg F_ref02_Plainr5) .ret) .skip))) (.reg F_ref02_Plainr3)))
theorem F_ref02_Plainl0_W {T : Tab} {env : Env} {H : Heap} {Q : Post} : W T F_ref02_Plainl0 env H Q ↔ W T (.seq (.seq (.reg F_ref02_Plainr2) (.cond (.t 7) .skip (.exit 0))) (.seq (.block 1 (.seq (.reg F_ref02_Plainr4) (.cond (.t 19) (.seq (.reg F_ref02_Plainr5) .ret) .skip))) (.reg F_ref02_Plainr3))) env H Q := Iff.rfl
def F_ref02_Plainr6 : List IStmt := [
  ⟨some 20, .mv (.t 0), none⟩,
  ⟨some 21, .len 0 (.t 20), none⟩,
  ⟨some 22, .bin .leq (.t 21) (.c (.int .i64 64)), none⟩,
  ⟨some 2, .mv (.t 22), none⟩]
theorem F_ref02_Plainr6_W {T : Tab} {env : Env} {H : Heap} {Q : Post} : W T (.reg F_ref02_Plainr6) env H Q ↔ WR T F_ref02_Plainr6 [
  ⟨some 20, .mv (.t 0), none⟩,
  ⟨some 21, .len 0 (.t 20), none⟩,
  ⟨some 22, .bin .leq (.t 21) (.c (.int .i64 64)), none⟩,
  ⟨some 2, .mv (.t 22), none⟩] env H none [] Q := w_reg
def F_ref02_Plainc : ICode := (.seq (.reg F_ref02_Plainr0) (.seq (.seq (.reg F_ref02_Plainr1) (.block 0 (.loop F_ref02_Plainl0))) (.seq (.reg F_ref02_Plainr6) .ret)))
theorem F_ref02_Plainc_W {T : Tab} {env : Env} {H : Heap} {Q : Post} : W T F_ref02_Plainc env H Q ↔ W T (.seq (.reg F_ref02_Plainr0) (.seq (.seq (.reg F_ref02_Plainr1) (.block 0 (.loop F_ref02_Plainl0))) (.seq (.reg F_ref02_Plainr6) .ret))) env H Q := Iff.rfl
def F_ref02_Plain : IFn := ⟨23, [.tmp 2], F_ref02_Plainc⟩
set_option maxRecDepth 1000000 in
theorem F_ref02_Plain_chk : chkF Try.prog 35 F_ref02_Plain = true := by kernel_rfl

/-! ### ref02_Put -/
def F_ref02_Putr0 : List IStmt := [
  ⟨some 6, .mv (.c (.slice none 0 0)), none⟩]
theorem F_ref02_Putr0_W {T : Tab} {env : Env} {H : Heap} {Q : Post} : W T (.reg F_ref02_Putr0) env H Q ↔ WR T F_ref02_Putr0 [
  ⟨some 6, .mv (.c (.slice none 0 0)), none⟩] env H none [] Q := w_reg
def F_ref02_Putr1 : List IStmt := [
  ⟨some 7, .mv (.c (.int .i64 0)), none⟩]
theorem F_ref02_Putr1_W {T : Tab} {env : Env} {H : Heap} {Q : Post} : W T (.reg F_ref02_Putr1) env H Q ↔ WR T F_ref02_Putr1 [
  ⟨some 7, .mv (.c (.int .i64 0)), none⟩] env H none [] Q := w_reg
def F_ref02_Putr2 : List IStmt := [
  ⟨some 8, .mv (.t 7), none⟩,
  ⟨some 9, .mv (.t 2), none⟩,
  ⟨some 10, .bin .lss (.t 8) (.t 9), none⟩]
theorem F_ref02_Putr2_W {T : Tab} {env : Env} {H : Heap} {Q : Post} : W T (.reg F_ref02_Putr2) env H Q ↔ WR T F_ref02_Putr2 [
  ⟨some 8, .mv (.t 7), none⟩,
  ⟨some 9, .mv (.t 2), none⟩,
  ⟨some 10, .bin .lss (.t 8) (.t 9), none⟩] env H none [] Q := w_reg
def F_ref02_Putr4 : List IStmt := [
  ⟨some 13, .mv (.t 0), none⟩,
  ⟨some 14, .mv (.t 1), none⟩,
  ⟨some 15, .bin .rem (.t 14) (.c (.int .u64 256)), none⟩,
  ⟨some 16, .conv .u8 (.t 15), none⟩,
  ⟨some 17, .bsli 1 1 [.int .u8 0] [(0, (.t 16))], none⟩,
  ⟨some 18, .app 1 1 (.t 13) (.t 17), none⟩,
  ⟨some 0, .mv (.t 18), none⟩]
theorem F_ref02_Putr4_W {T : Tab} {env : Env} {H : Heap} {Q : Post} : W T (.reg F_ref02_Putr4) env H Q ↔ WR T F_ref02_Putr4 [
  ⟨some 13, .mv (.t 0), none⟩,
  ⟨some 14, .mv (.t 1), none⟩,
  ⟨some 15, .bin .rem (.t 14) (.c (.int .u64 256)), none⟩,
  ⟨some 16, .conv .u8 (.t 15), none⟩,
  ⟨some 17, .bsli 1 1 [.int .u8 0] [(0, (.t 16))], none⟩,
  ⟨some 18, .app 1 1 (.t 13) (.t 17), none⟩,
  ⟨some 0, .mv (.t 18), none⟩] env H none [] Q := w_reg
def F_ref02_Putr5 : List IStmt := [
  ⟨some 19, .mv (.t 1), none⟩,
  ⟨some 20, .bin .quo (.t 19) (.c (.int .u64 256)), none⟩,
  ⟨some 1, .mv (.t 20), none⟩]
theorem F_ref02_Putr5_W {T : Tab} {env : Env} {H : Heap} {Q : Post} : W T (.reg F_ref02_Putr5) env H Q ↔ WR T F_ref02_Putr5 [
  ⟨some 19, .mv (.t 1), none⟩,
  ⟨some 20, .bin .quo (.t 19) (.c (.int .u64 256)), none⟩,
  ⟨some 1, .mv (.t 20), none⟩] env H none [] Q := w_reg
def F_ref02_Putr3 : List IStmt := [
  ⟨some 11, .mv (.t 7), none⟩,
  ⟨some 12, .bin .add (.t 11) (.c (.int .i64 1)), none⟩,
  ⟨some 7, .mv (.t 12), none⟩]
theorem F_ref02_Putr3_W {T : Tab} {env : Env} {H : Heap} {Q : Post} : W T (.reg F_ref02_Putr3) env H Q ↔ WR T F_ref02_Putr3 [
  ⟨some 11, .mv (.t 7), none⟩,
  ⟨some 12, .bin .add (.t 11) (.c (.int .i64 1)), none⟩,
  ⟨some 7, .mv (.t 12), none⟩] env H none [] Q := w_reg
def F_ref02_Putl0 : ICode := (.seq (.seq (.reg F_ref02_Putr2) (.cond (.t 10) .skip (.exit 0))) (.seq (.block 1 (.seq (.reg F_ref02_Putr4) (.reg F_ref02_Putr5))) (.reg F_ref02_Putr3)))
theorem F_ref02_Putl0_W {T : Tab} {env : Env} {H : Heap} {Q : Post} : W T F_ref02_Putl0 env H Q ↔ W T (.seq (.seq (.reg F_ref02_Putr2) (.cond (.t 10) .skip (.exit 0))) (.seq (.block 1 (.seq (.reg F_ref02_Putr4) (.reg F_ref02_Putr5))) (.reg F_ref02_Putr3))) env H Q := Iff.rfl
def F_ref02_Putr6 : List IStmt := [
  ⟨some 21, .mv (.t 0), none⟩,
  ⟨some 6, .mv (.t 21), none⟩]
theorem F_ref02_Putr6_W {T : Tab} {env : Env} {H : Heap} {Q : Post} : W T (.reg F_ref02_Putr6) env H Q ↔ WR T F_ref02_Putr6 [
  ⟨some 21, .mv (.t 0), none⟩,
  ⟨some 6, .mv (.t 21), none⟩] env H none [] Q := w_reg
def F_ref02_Putc : ICode := (.seq (.reg F_ref02_Putr0) (.seq (.seq (.reg F_ref02_Putr1) (.block 0 (.loop F_ref02_Putl0))) (.seq (.reg F_ref02_Putr6) .ret)))
theorem F_ref02_Putc_W {T : Tab} {env : Env} {H : Heap} {Q : Post} : W T F_ref02_Putc env H Q ↔ W T (.seq (.reg F_ref02_Putr0) (.seq (.seq (.reg F_ref02_Putr1) (.block 0 (.loop F_ref02_Putl0))) (.seq (.reg F_ref02_Putr6) .ret))) env H Q := Iff.rfl
def F_ref02_Put : IFn := ⟨22, [.tmp 6], F_ref02_Putc⟩
set_option maxRecDepth 1000000 in
theorem F_ref02_Put_chk : chkF Try.prog 52 F_ref02_Put = true := by kernel_rfl

/-! ### ref02_Zeros -/
def F_ref02_Zerosr0 : List IStmt := [
  ⟨some 4, .mv (.c (.slice none 0 0)), none⟩]
theorem F_ref02_Zerosr0_W {T : Tab} {env : Env} {H : Heap} {Q : Post} : W T (.reg F_ref02_Zerosr0) env H Q ↔ WR T F_ref02_Zerosr0 [
  ⟨some 4, .mv (.c (.slice none 0 0)), none⟩] env H none [] Q := w_reg
def F_ref02_Zerosr1 : List IStmt := [
  ⟨some 6, .mv (.t 1), none⟩,
  ⟨some 7, .bin .gtr (.t 6) (.c (.int .i64 262144)), none⟩]
theorem F_ref02_Zerosr1_W {T : Tab} {env : Env} {H : Heap} {Q : Post} : W T (.reg F_ref02_Zerosr1) env H Q ↔ WR T F_ref02_Zerosr1 [
  ⟨some 6, .mv (.t 1), none⟩,
  ⟨some 7, .bin .gtr (.t 6) (.c (.int .i64 262144)), none⟩] env H none [] Q := w_reg
def F_ref02_Zerosr2 : List IStmt := [
  ⟨some 1, .mv (.c (.int .i64 262144)), none⟩]
theorem F_ref02_Zerosr2_W {T : Tab} {env : Env} {H : Heap} {Q : Post} : W T (.reg F_ref02_Zerosr2) env H Q ↔ WR T F_ref02_Zerosr2 [
  ⟨some 1, .mv (.c (.int .i64 262144)), none⟩] env H none [] Q := w_reg
def F_ref02_Zerosr3 : List IStmt := [
  ⟨some 5, .mv (.c (.int .i64 0)), none⟩]
theorem F_ref02_Zerosr3_W {T : Tab} {env : Env} {H : Heap} {Q : Post} : W T (.reg F_ref02_Zerosr3) env H Q ↔ WR T F_ref02_Zerosr3 [
  ⟨some 5, .mv (.c (.int .i64 0)), none⟩] env H none [] Q := w_reg
def F_ref02_Zerosr4 : List IStmt := [
  ⟨some 8, .mv (.t 5), none⟩,
  ⟨some 9, .mv (.t 1), none⟩,
  ⟨some 10, .bin .lss (.t 8) (.t 9), none⟩]
theorem F_ref02_Zerosr4_W {T : Tab} {env : Env} {H : Heap} {Q : Post} : W T (.reg F_ref02_Zerosr4) env H Q ↔ WR T F_ref02_Zerosr4 [
  ⟨some 8, .mv (.t 5), none⟩,
  ⟨some 9, .mv (.t 1), none⟩,
  ⟨some 10, .bin .lss (.t 8) (.t 9), none⟩] env H none [] Q := w_reg
def F_ref02_Zerosr6 : List IStmt := [
  ⟨some 13, .mv (.t 0), none⟩,
  ⟨some 14, .bsli 1 1 [.int .u8 0] [(0, (.c (.int .u8 0)))], none⟩,
  ⟨some 15, .app 1 1 (.t 13) (.t 14), none⟩,
  ⟨some 0, .mv (.t 15), none⟩]
theorem F_ref02_Zerosr6_W {T : Tab} {env : Env} {H : Heap} {Q : Post} : W T (.reg F_ref02_Zerosr6) env H Q ↔ WR T F_ref02_Zerosr6 [
  ⟨some 13, .mv (.t 0), none⟩,
  ⟨some 14, .bsli 1 1 [.int .u8 0] [(0, (.c (.int .u8 0)))], none⟩,
  ⟨some 15, .app 1 1 (.t 13) (.t 14), none⟩,
  ⟨some 0, .mv (.t 15), none⟩] env H none [] Q := w_reg
def F_ref02_Zerosr5 : List IStmt := [
  ⟨some 11, .mv (.t 5), none⟩,
  ⟨some 12, .bin .add (.t 11) (.c (.int .i64 1)), none⟩,
  ⟨some 5, .mv (.t 12), none⟩]
theorem F_ref02_Zerosr5_W {T : Tab} {env : Env} {H : Heap} {Q : Post} : W T (.reg F_ref02_Zerosr5) env H Q ↔ WR T F_ref02_Zerosr5 [
  ⟨some 11, .mv (.t 5), none⟩,
  ⟨some 12, .bin .add (.t 11) (.c (.int .i64 1)), none⟩,
  ⟨some 5, .mv (.t 12), none⟩] env H none [] Q := w_reg
def F_ref02_Zerosl0 : ICode := (.seq (.seq (.reg F_ref02_Zerosr4) (.cond (.t 10) .skip (.exit 0))) (.seq (.block 1 (.reg F_ref02_Zerosr6)) (.reg F_ref02_Zerosr5)))
theorem F_ref02_Zerosl0_W {T : Tab} {env : Env} {H : Heap} {Q : Post} : W T F_ref02_Zerosl0 env H Q ↔ W T (.seq (.seq (.reg F_ref02_Zerosr4) (.cond (.t 10) .skip (.exit 0))) (.seq (.block 1 (.reg F_ref02_Zerosr6)) (.reg F_ref02_Zerosr5))) env H Q := Iff.rfl
def F_ref02_Zerosr7 : List IStmt := [
  ⟨some 16, .mv (.t 0), none⟩,
  ⟨some 4, .mv (.t 16), none⟩]
theorem F_ref02_Zerosr7_W {T : Tab} {env : Env} {H : Heap} {Q : Post} : W T (.reg F_ref02_Zerosr7) env H Q ↔ WR T F_ref02_Zerosr7 [
  ⟨some 16, .mv (.t 0), none⟩,
  ⟨some 4, .mv (.t 16), none⟩] env H none [] Q := w_reg
def F_ref02_Zerosc : ICode := (.seq (.reg F_ref02_Zerosr0) (.seq (.seq (.reg F_ref02_Zerosr1) (.cond (.t 7) (.reg F_ref02_Zerosr2) .skip)) (.seq (.seq (.reg F_ref02_Zerosr3) (.block 0 (.loop F_ref02_Zerosl0))) (.seq (.reg F_ref02_Zerosr7) .ret))))
theorem F_ref02_Zerosc_W {T : Tab} {env : Env} {H : Heap} {Q : Post} : W T F_ref02_Zerosc env H Q ↔ W T (.seq (.reg F_ref02_Zerosr0) (.seq (.seq (.reg F_ref02_Zerosr1) (.cond (.t 7) (.reg F_ref02_Zerosr2) .skip)) (.seq (.seq (.reg F_ref02_Zerosr3) (.block 0 (.loop F_ref02_Zerosl0))) (.seq (.reg F_ref02_Zerosr7) .ret)))) env H Q := Iff.rfl
def F_ref02_Zeros : IFn := ⟨17, [.tmp 4], F_ref02_Zerosc⟩
set_option maxRecDepth 1000000 in
theorem F_ref02_Zeros_chk : chkF Try.prog 54 F_ref02_Zeros = true := by kernel_rfl

/-! ### ref08_N -/
def F_ref08_Nr0 : List IStmt := [
  ⟨some 6, .mv (.c (.int .u64 0)), none⟩]
theorem F_ref08_Nr0_W {T : Tab} {env : Env} {H : Heap} {Q : Post} : W T (.reg F_ref08_Nr0) env H Q ↔ WR T F_ref08_Nr0 [
  ⟨some 6, .mv (.c (.int .u64 0)), none⟩] env H none [] Q := w_reg
def F_ref08_Nr1 : List IStmt := [
  ⟨some 10, .mv (.t 0), none⟩,
  ⟨some 11, .mv (.t 1), none⟩,
  ⟨some 12, .mv (.t 2), none⟩,
  ⟨some 13, .callc 62 [(.t 10), (.t 11), (.t 12)], none⟩,
  ⟨some 9, .mv (.t 13), none⟩,
  ⟨some 14, .ext (.t 9) 0, none⟩,
  ⟨some 15, .ext (.t 9) 1, none⟩,
  ⟨some 7, .mv (.t 14), none⟩,
  ⟨some 8, .mv (.t 15), none⟩]
theorem F_ref08_Nr1_W {T : Tab} {env : Env} {H : Heap} {Q : Post} : W T (.reg F_ref08_Nr1) env H Q ↔ WR T F_ref08_Nr1 [
  ⟨some 10, .mv (.t 0), none⟩,
  ⟨some 11, .mv (.t 1), none⟩,
  ⟨some 12, .mv (.t 2), none⟩,
  ⟨some 13, .callc 62 [(.t 10), (.t 11), (.t 12)], none⟩,
  ⟨some 9, .mv (.t 13), none⟩,
  ⟨some 14, .ext (.t 9) 0, none⟩,
  ⟨some 15, .ext (.t 9) 1, none⟩,
  ⟨some 7, .mv (.t 14), none⟩,
  ⟨some 8, .mv (.t 15), none⟩] env H none [] Q := w_reg
def F_ref08_Nr2 : List IStmt := [
  ⟨some 16, .mv (.t 7), none⟩,
  ⟨some 6, .mv (.t 16), none⟩]
theorem F_ref08_Nr2_W {T : Tab} {env : Env} {H : Heap} {Q : Post} : W T (.reg F_ref08_Nr2) env H Q ↔ WR T F_ref08_Nr2 [
  ⟨some 16, .mv (.t 7), none⟩,
  ⟨some 6, .mv (.t 16), none⟩] env H none [] Q := w_reg
def F_ref08_Nc : ICode := (.seq (.reg F_ref08_Nr0) (.seq (.reg F_ref08_Nr1) (.seq (.reg F_ref08_Nr2) .ret)))
theorem F_ref08_Nc_W {T : Tab} {env : Env} {H : Heap} {Q : Post} : W T F_ref08_Nc env H Q ↔ W T (.seq (.reg F_ref08_Nr0) (.seq (.reg F_ref08_Nr1) (.seq (.reg F_ref08_Nr2) .ret))) env H Q := Iff.rfl
def F_ref08_N : IFn := ⟨17, [.tmp 6], F_ref08_Nc⟩
set_option maxRecDepth 1000000 in
theorem F_ref08_N_chk : chkF Try.prog 47 F_ref08_N = true := by kernel_rfl

/-! ### ref08_Table -/
def F_ref08_Tabler0 : List IStmt := [
  ⟨some 2, .mv (.c (.slice none 0 0)), none⟩,
  ⟨some 3, .mv (.c (.int .i64 0)), none⟩]
theorem F_ref08_Tabler0_W {T : Tab} {env : Env} {H : Heap} {Q : Post} : W T (.reg F_ref08_Tabler0) env H Q ↔ WR T F_ref08_Tabler0 [
  ⟨some 2, .mv (.c (.slice none 0 0)), none⟩,
  ⟨some 3, .mv (.c (.int .i64 0)), none⟩] env H none [] Q := w_reg
def F_ref08_Tabler1 : List IStmt := [
  ⟨some 9, .mv (.t 0), none⟩,
  ⟨some 10, .len 1 (.t 9), none⟩,
  ⟨some 11, .bin .lss (.t 10) (.c (.int .i64 64)), none⟩,
  ⟨some 12, .mv (.t 11), none⟩,
  ⟨some 13, .mv (.t 0), some (3, false)⟩,
  ⟨some 14, .ixa 1 (.t 13) (.c (.int .i64 0)), some (3, false)⟩,
  ⟨some 15, .load (.t 14), some (3, false)⟩,
  ⟨some 16, .bin .neq (.t 15) (.c (.int .u8 127)), some (3, false)⟩,
  ⟨some 17, .pick (.t 12) (.c (.bool true)) (.t 16), none⟩,
  ⟨some 18, .mv (.t 17), none⟩,
  ⟨some 19, .mv (.t 0), some (9, false)⟩,
  ⟨some 20, .ixa 1 (.t 19) (.c (.int .i64 1)), some (9, false)⟩,
  ⟨some 21, .load (.t 20), some (9, false)⟩,
  ⟨some 22, .bin .neq (.t 21) (.c (.int .u8 69)), some (9, false)⟩,
  ⟨some 23, .pick (.t 18) (.c (.bool true)) (.t 22), none⟩,
  ⟨some 24, .mv (.t 23), none⟩,
  ⟨some 25, .mv (.t 0), some (15, false)⟩,
  ⟨some 26, .ixa 1 (.t 25) (.c (.int .i64 2)), some (15, false)⟩,
  ⟨some 27, .load (.t 26), some (15, false)⟩,
  ⟨some 28, .bin .neq (.t 27) (.c (.int .u8 76)), some (15, false)⟩,
  ⟨some 29, .pick (.t 24) (.c (.bool true)) (.t 28), none⟩,
  ⟨some 30, .mv (.t 29), none⟩,
  ⟨some 31, .mv (.t 0), some (21, false)⟩,
  ⟨some 32, .ixa 1 (.t 31) (.c (.int .i64 3)), some (21, false)⟩,
  ⟨some 33, .load (.t 32), some (21, false)⟩,
  ⟨some 34, .bin .neq (.t 33) (.c (.int .u8 70)), some (21, false)⟩,
  ⟨some 35, .pick (.t 30) (.c (.bool true)) (.t 34), none⟩]
theorem F_ref08_Tabler1_W {T : Tab} {env : Env} {H : Heap} {Q : Post} : W T (.reg F_ref08_Tabler1) env H Q ↔ WR T F_ref08_Tabler1 [
  ⟨some 9, .mv (.t 0), none⟩,
  ⟨some 10, .len 1 (.t 9), none⟩,
  ⟨some 11, .bin .lss (.t 10) (.c (.int .i64 64)), none⟩,
  ⟨some 12, .mv (.t 11), none⟩,
  ⟨some 13, .mv (.t 0), some (3, false)⟩,
  ⟨some 14, .ixa 1 (.t 13) (.c (.int .i64 0)), some (3, false)⟩,
  ⟨some 15, .load (.t 14), some (3, false)⟩,
  ⟨some 16, .bin .neq (.t 15) (.c (.int .u8 127)), some (3, false)⟩,
  ⟨some 17, .pick (.t 12) (.c (.bool true)) (.t 16), none⟩,
  ⟨some 18, .mv (.t 17), none⟩,
  ⟨some 19, .mv (.t 0), some (9, false)⟩,
  ⟨some 20, .ixa 1 (.t 19) (.c (.int .i64 1)), some (9, false)⟩,
  ⟨some 21, .load (.t 20), some (9, false)⟩,
  ⟨some 22, .bin .neq (.t 21) (.c (.int .u8 69)), some (9, false)⟩,
  ⟨some 23, .pick (.t 18) (.c (.bool true)) (.t 22), none⟩,
  ⟨some 24, .mv (.t 23), none⟩,
  ⟨some 25, .mv (.t 0), some (15, false)⟩,
  ⟨some 26, .ixa 1 (.t 25) (.c (.int .i64 2)), some (15, false)⟩,
  ⟨some 27, .load (.t 26), some (15, false)⟩,
  ⟨some 28, .bin .neq (.t 27) (.c (.int .u8 76)), some (15, false)⟩,
  ⟨some 29, .pick (.t 24) (.c (.bool true)) (.t 28), none⟩,
  ⟨some 30, .mv (.t 29), none⟩,
  ⟨some 31, .mv (.t 0), some (21, false)⟩,
  ⟨some 32, .ixa 1 (.t 31) (.c (.int .i64 3)), some (21, false)⟩,
  ⟨some 33, .load (.t 32), some (21, false)⟩,
  ⟨some 34, .bin .neq (.t 33) (.c (.int .u8 70)), some (21, false)⟩,
  ⟨some 35, .pick (.t 30) (.c (.bool true)) (.t 34), none⟩] env H none [] Q := w_reg
theorem F_ref08_Tabler1_g3 {env : Env} : yieldI F_ref08_Tabler1 env 3 = bOf (env 12) := rfl
theorem F_ref08_Tabler1_g9 {env : Env} : yieldI F_ref08_Tabler1 env 9 = bOf (env 18) := rfl
theorem F_ref08_Tabler1_g15 {env : Env} : yieldI F_ref08_Tabler1 env 15 = bOf (env 24) := rfl
theorem F_ref08_Tabler1_g21 {env : Env} : yieldI F_ref08_Tabler1 env 21 = bOf (env 30) := rfl
def F_ref08_Tabler2 : List IStmt := [
  ⟨some 2, .mv (.c (.slice none 0 0)), none⟩,
  ⟨some 3, .mv (.c (.int .i64 80)), none⟩]
theorem F_ref08_Tabler2_W {T : Tab} {env : Env} {H : Heap} {Q : Post} : W T (.reg F_ref08_Tabler2) env H Q ↔ WR T F_ref08_Tabler2 [
  ⟨some 2, .mv (.c (.slice none 0 0)), none⟩,
  ⟨some 3, .mv (.c (.int .i64 80)), none⟩] env H none [] Q := w_reg
def F_ref08_Tabler3 : List IStmt := [
  ⟨some 36, .mv (.t 0), none⟩,
  ⟨some 37, .ixa 1 (.t 36) (.c (.int .i64 4)), none⟩,
  ⟨some 38, .load (.t 37), none⟩,
  ⟨some 39, .bin .neq (.t 38) (.c (.int .u8 2)), none⟩,
  ⟨some 40, .mv (.t 39), none⟩,
  ⟨some 41, .mv (.t 0), some (4, false)⟩,
  ⟨some 42, .ixa 1 (.t 41) (.c (.int .i64 5)), some (4, false)⟩,
  ⟨some 43, .load (.t 42), some (4, false)⟩,
  ⟨some 44, .bin .neq (.t 43) (.c (.int .u8 1)), some (4, false)⟩,
  ⟨some 45, .pick (.t 40) (.c (.bool true)) (.t 44), none⟩,
  ⟨some 46, .mv (.t 45), none⟩,
  ⟨some 47, .mv (.t 0), some (10, false)⟩,
  ⟨some 48, .ixa 1 (.t 47) (.c (.int .i64 6)), some (10, false)⟩,
  ⟨some 49, .load (.t 48), some (10, false)⟩,
  ⟨some 50, .bin .neq (.t 49) (.c (.int .u8 1)), some (10, false)⟩,
  ⟨some 51, .pick (.t 46) (.c (.bool true)) (.t 50), none⟩]
theorem F_ref08_Tabler3_W {T : Tab} {env : Env} {H : Heap} {Q : Post} : W T (.reg F_ref08_Tabler3) env H Q ↔ WR T F_ref08_Tabler3 [
  ⟨some 36, .mv (.t 0), none⟩,
  ⟨some 37, .ixa 1 (.t 36) (.c (.int .i64 4)), none⟩,
  ⟨some 38, .load (.t 37), none⟩,
  ⟨some 39, .bin .neq (.t 38) (.c (.int .u8 2)), none⟩,
  ⟨some 40, .mv (.t 39), none⟩,
  ⟨some 41, .mv (.t 0), some (4, false)⟩,
  ⟨some 42, .ixa 1 (.t 41) (.c (.int .i64 5)), some (4, false)⟩,
  ⟨some 43, .load (.t 42), some (4, false)⟩,
  ⟨some 44, .bin .neq (.t 43) (.c (.int .u8 1)), some (4, false)⟩,
  ⟨some 45, .pick (.t 40) (.c (.bool true)) (.t 44), none⟩,
  ⟨some 46, .mv (.t 45), none⟩,
  ⟨some 47, .mv (.t 0), some (10, false)⟩,
  ⟨some 48, .ixa 1 (.t 47) (.c (.int .i64 6)), some (10, false)⟩,
  ⟨some 49, .load (.t 48), some (10, false)⟩,
  ⟨some 50, .bin .neq (.t 49) (.c (.int .u8 1)), some (10, false)⟩,
  ⟨some 51, .pick (.t 46) (.c (.bool true)) (.t 50), none⟩] env H none [] Q := w_reg
theorem F_ref08_Tabler3_g4 {env : Env} : yieldI F_ref08_Tabler3 env 4 = bOf (env 40) := rfl
theorem F_ref08_Tabler3_g10 {env : Env} : yieldI F_ref08_Tabler3 env 10 = bOf (env 46) := rfl
def F_ref08_Tabler4 : List IStmt := [
  ⟨some 2, .mv (.c (.slice none 0 0)), none⟩,
  ⟨some 3, .mv (.c (.int .i64 81)), none⟩]
theorem F_ref08_Tabler4_W {T : Tab} {env : Env} {H : Heap} {Q : Post} : W T (.reg F_ref08_Tabler4) env H Q ↔ WR T F_ref08_Tabler4 [
  ⟨some 2, .mv (.c (.slice none 0 0)), none⟩,
  ⟨some 3, .mv (.c (.int .i64 81)), none⟩] env H none [] Q := w_reg
def F_ref08_Tabler5 : List IStmt := [
  ⟨some 52, .mv (.t 0), none⟩,
  ⟨some 53, .callc 47 [(.t 52), (.c (.int .u64 16)), (.c (.int .i64 2))], none⟩,
  ⟨some 54, .bin .neq (.t 53) (.c (.int .u64 3)), none⟩]
theorem F_ref08_Tabler5_W {T : Tab} {env : Env} {H : Heap} {Q : Post} : W T (.reg F_ref08_Tabler5) env H Q ↔ WR T F_ref08_Tabler5 [
  ⟨some 52, .mv (.t 0), none⟩,
  ⟨some 53, .callc 47 [(.t 52), (.c (.int .u64 16)), (.c (.int .i64 2))], none⟩,
  ⟨some 54, .bin .neq (.t 53) (.c (.int .u64 3)), none⟩] env H none [] Q := w_reg
def F_ref08_Tabler6 : List IStmt := [
  ⟨some 2, .mv (.c (.slice none 0 0)), none⟩,
  ⟨some 3, .mv (.c (.int .i64 82)), none⟩]
theorem F_ref08_Tabler6_W {T : Tab} {env : Env} {H : Heap} {Q : Post} : W T (.reg F_ref08_Tabler6) env H Q ↔ WR T F_ref08_Tabler6 [
  ⟨some 2, .mv (.c (.slice none 0 0)), none⟩,
  ⟨some 3, .mv (.c (.int .i64 82)), none⟩] env H none [] Q := w_reg
def F_ref08_Tabler7 : List IStmt := [
  ⟨some 55, .mv (.t 0), none⟩,
  ⟨some 56, .callc 47 [(.t 55), (.c (.int .u64 18)), (.c (.int .i64 2))], none⟩,
  ⟨some 57, .bin .neq (.t 56) (.c (.int .u64 62)), none⟩,
  ⟨some 58, .mv (.t 57), none⟩,
  ⟨some 59, .mv (.t 0), some (3, true)⟩,
  ⟨some 60, .callc 47 [(.t 59), (.c (.int .u64 18)), (.c (.int .i64 2))], some (3, true)⟩,
  ⟨some 61, .bin .neq (.t 60) (.c (.int .u64 183)), some (3, true)⟩,
  ⟨some 62, .pick (.t 58) (.t 61) (.c (.bool false)), none⟩]
theorem F_ref08_Tabler7_W {T : Tab} {env : Env} {H : Heap} {Q : Post} : W T (.reg F_ref08_Tabler7) env H Q ↔ WR T F_ref08_Tabler7 [
  ⟨some 55, .mv (.t 0), none⟩,
  ⟨some 56, .callc 47 [(.t 55), (.c (.int .u64 18)), (.c (.int .i64 2))], none⟩,
  ⟨some 57, .bin .neq (.t 56) (.c (.int .u64 62)), none⟩,
  ⟨some 58, .mv (.t 57), none⟩,
  ⟨some 59, .mv (.t 0), some (3, true)⟩,
  ⟨some 60, .callc 47 [(.t 59), (.c (.int .u64 18)), (.c (.int .i64 2))], some (3, true)⟩,
  ⟨some 61, .bin .neq (.t 60) (.c (.int .u64 183)), some (3, true)⟩,
  ⟨some 62, .pick (.t 58) (.t 61) (.c (.bool false)), none⟩] env H none [] Q := w_reg
theorem F_ref08_Tabler7_g3 {env : Env} : yieldI F_ref08_Tabler7 env 3 = bOf (env 58) := rfl
def F_ref08_Tabler8 : List IStmt := [
  ⟨some 2, .mv (.c (.slice none 0 0)), none⟩,
  ⟨some 3, .mv (.c (.int .i64 83)), none⟩]
theorem F_ref08_Tabler8_W {T : Tab} {env : Env} {H : Heap} {Q : Post} : W T (.reg F_ref08_Tabler8) env H Q ↔ WR T F_ref08_Tabler8 [
  ⟨some 2, .mv (.c (.slice none 0 0)), none⟩,
  ⟨some 3, .mv (.c (.int .i64 83)), none⟩] env H none [] Q := w_reg
def F_ref08_Tabler9 : List IStmt := [
  ⟨some 63, .mv (.t 0), none⟩,
  ⟨some 64, .callc 47 [(.t 63), (.c (.int .u64 32)), (.c (.int .i64 8))], none⟩,
  ⟨some 65, .mv (.t 0), none⟩,
  ⟨some 66, .callc 47 [(.t 65), (.c (.int .u64 56)), (.c (.int .i64 2))], none⟩,
  ⟨some 4, .mv (.t 64), none⟩,
  ⟨some 5, .mv (.t 66), none⟩]
theorem F_ref08_Tabler9_W {T : Tab} {env : Env} {H : Heap} {Q : Post} : W T (.reg F_ref08_Tabler9) env H Q ↔ WR T F_ref08_Tabler9 [
  ⟨some 63, .mv (.t 0), none⟩,
  ⟨some 64, .callc 47 [(.t 63), (.c (.int .u64 32)), (.c (.int .i64 8))], none⟩,
  ⟨some 65, .mv (.t 0), none⟩,
  ⟨some 66, .callc 47 [(.t 65), (.c (.int .u64 56)), (.c (.int .i64 2))], none⟩,
  ⟨some 4, .mv (.t 64), none⟩,
  ⟨some 5, .mv (.t 66), none⟩] env H none [] Q := w_reg
def F_ref08_Tabler10 : List IStmt := [
  ⟨some 67, .mv (.t 0), none⟩,
  ⟨some 68, .callc 47 [(.t 67), (.c (.int .u64 52)), (.c (.int .i64 2))], none⟩,
  ⟨some 69, .bin .neq (.t 68) (.c (.int .u64 64)), none⟩,
  ⟨some 70, .mv (.t 69), none⟩,
  ⟨some 71, .mv (.t 0), some (3, false)⟩,
  ⟨some 72, .callc 47 [(.t 71), (.c (.int .u64 54)), (.c (.int .i64 2))], some (3, false)⟩,
  ⟨some 73, .bin .neq (.t 72) (.c (.int .u64 56)), some (3, false)⟩,
  ⟨some 74, .pick (.t 70) (.c (.bool true)) (.t 73), none⟩,
  ⟨some 75, .mv (.t 74), none⟩,
  ⟨some 76, .mv (.t 5), some (8, false)⟩,
  ⟨some 77, .bin .lss (.t 76) (.c (.int .u64 1)), some (8, false)⟩,
  ⟨some 78, .pick (.t 75) (.c (.bool true)) (.t 77), none⟩,
  ⟨some 79, .mv (.t 78), none⟩,
  ⟨some 80, .mv (.t 5), some (12, false)⟩,
  ⟨some 81, .bin .gtr (.t 80) (.c (.int .u64 16)), some (12, false)⟩,
  ⟨some 82, .pick (.t 79) (.c (.bool true)) (.t 81), none⟩,
  ⟨some 83, .mv (.t 82), none⟩,
  ⟨some 84, .mv (.t 4), some (16, false)⟩,
  ⟨some 85, .mv (.t 5), some (16, false)⟩,
  ⟨some 86, .bin .mul (.t 85) (.c (.int .u64 56)), some (16, false)⟩,
  ⟨some 87, .mv (.t 0), some (16, false)⟩,
  ⟨some 88, .len 1 (.t 87), some (16, false)⟩,
  ⟨some 89, .conv .u64 (.t 88), some (16, false)⟩,
  ⟨some 90, .callc 61 [(.t 84), (.t 86), (.c (.int .u64 0)), (.t 89)], some (16, false)⟩,
  ⟨some 91, .un .not (.t 90), some (16, false)⟩,
  ⟨some 92, .pick (.t 83) (.c (.bool true)) (.t 91), none⟩]
theorem F_ref08_Tabler10_W {T : Tab} {env : Env} {H : Heap} {Q : Post} : W T (.reg F_ref08_Tabler10) env H Q ↔ WR T F_ref08_Tabler10 [
  ⟨some 67, .mv (.t 0), none⟩,
  ⟨some 68, .callc 47 [(.t 67), (.c (.int .u64 52)), (.c (.int .i64 2))], none⟩,
  ⟨some 69, .bin .neq (.t 68) (.c (.int .u64 64)), none⟩,
  ⟨some 70, .mv (.t 69), none⟩,
  ⟨some 71, .mv (.t 0), some (3, false)⟩,
  ⟨some 72, .callc 47 [(.t 71), (.c (.int .u64 54)), (.c (.int .i64 2))], some (3, false)⟩,
  ⟨some 73, .bin .neq (.t 72) (.c (.int .u64 56)), some (3, false)⟩,
  ⟨some 74, .pick (.t 70) (.c (.bool true)) (.t 73), none⟩,
  ⟨some 75, .mv (.t 74), none⟩,
  ⟨some 76, .mv (.t 5), some (8, false)⟩,
  ⟨some 77, .bin .lss (.t 76) (.c (.int .u64 1)), some (8, false)⟩,
  ⟨some 78, .pick (.t 75) (.c (.bool true)) (.t 77), none⟩,
  ⟨some 79, .mv (.t 78), none⟩,
  ⟨some 80, .mv (.t 5), some (12, false)⟩,
  ⟨some 81, .bin .gtr (.t 80) (.c (.int .u64 16)), some (12, false)⟩,
  ⟨some 82, .pick (.t 79) (.c (.bool true)) (.t 81), none⟩,
  ⟨some 83, .mv (.t 82), none⟩,
  ⟨some 84, .mv (.t 4), some (16, false)⟩,
  ⟨some 85, .mv (.t 5), some (16, false)⟩,
  ⟨some 86, .bin .mul (.t 85) (.c (.int .u64 56)), some (16, false)⟩,
  ⟨some 87, .mv (.t 0), some (16, false)⟩,
  ⟨some 88, .len 1 (.t 87), some (16, false)⟩,
  ⟨some 89, .conv .u64 (.t 88), some (16, false)⟩,
  ⟨some 90, .callc 61 [(.t 84), (.t 86), (.c (.int .u64 0)), (.t 89)], some (16, false)⟩,
  ⟨some 91, .un .not (.t 90), some (16, false)⟩,
  ⟨some 92, .pick (.t 83) (.c (.bool true)) (.t 91), none⟩] env H none [] Q := w_reg
theorem F_ref08_Tabler10_g3 {env : Env} : yieldI F_ref08_Tabler10 env 3 = bOf (env 70) := rfl
theorem F_ref08_Tabler10_g8 {env : Env} : yieldI F_ref08_Tabler10 env 8 = bOf (env 75) := rfl
theorem F_ref08_Tabler10_g12 {env : Env} : yieldI F_ref08_Tabler10 env 12 = bOf (env 79) := rfl
theorem F_ref08_Tabler10_g16 {env : Env} : yieldI F_ref08_Tabler10 env 16 = bOf (env 83) := rfl
def F_ref08_Tabler11 : List IStmt := [
  ⟨some 2, .mv (.c (.slice none 0 0)), none⟩,
  ⟨some 3, .mv (.c (.int .i64 84)), none⟩]
theorem F_ref08_Tabler11_W {T : Tab} {env : Env} {H : Heap} {Q : Post} : W T (.reg F_ref08_Tabler11) env H Q ↔ WR T F_ref08_Tabler11 [
  ⟨some 2, .mv (.c (.slice none 0 0)), none⟩,
  ⟨some 3, .mv (.c (.int .i64 84)), none⟩] env H none [] Q := w_reg
def F_ref08_Tabler12 : List IStmt := [
  ⟨some 6, .mv (.c (.slice none 0 0)), none⟩]
theorem F_ref08_Tabler12_W {T : Tab} {env : Env} {H : Heap} {Q : Post} : W T (.reg F_ref08_Tabler12) env H Q ↔ WR T F_ref08_Tabler12 [
  ⟨some 6, .mv (.c (.slice none 0 0)), none⟩] env H none [] Q := w_reg
def F_ref08_Tabler13 : List IStmt := [
  ⟨some 7, .mv (.c (.int .u64 0)), none⟩]
theorem F_ref08_Tabler13_W {T : Tab} {env : Env} {H : Heap} {Q : Post} : W T (.reg F_ref08_Tabler13) env H Q ↔ WR T F_ref08_Tabler13 [
  ⟨some 7, .mv (.c (.int .u64 0)), none⟩] env H none [] Q := w_reg
def F_ref08_Tabler14 : List IStmt := [
  ⟨some 93, .mv (.t 7), none⟩,
  ⟨some 94, .mv (.t 5), none⟩,
  ⟨some 95, .bin .lss (.t 93) (.t 94), none⟩]
theorem F_ref08_Tabler14_W {T : Tab} {env : Env} {H : Heap} {Q : Post} : W T (.reg F_ref08_Tabler14) env H Q ↔ WR T F_ref08_Tabler14 [
  ⟨some 93, .mv (.t 7), none⟩,
  ⟨some 94, .mv (.t 5), none⟩,
  ⟨some 95, .bin .lss (.t 93) (.t 94), none⟩] env H none [] Q := w_reg
def F_ref08_Tabler16 : List IStmt := [
  ⟨some 98, .mv (.t 4), none⟩,
  ⟨some 99, .mv (.t 7), none⟩,
  ⟨some 100, .bin .mul (.t 99) (.c (.int .u64 56)), none⟩,
  ⟨some 101, .bin .add (.t 98) (.t 100), none⟩,
  ⟨some 8, .mv (.t 101), none⟩]
theorem F_ref08_Tabler16_W {T : Tab} {env : Env} {H : Heap} {Q : Post} : W T (.reg F_ref08_Tabler16) env H Q ↔ WR T F_ref08_Tabler16 [
  ⟨some 98, .mv (.t 4), none⟩,
  ⟨some 99, .mv (.t 7), none⟩,
  ⟨some 100, .bin .mul (.t 99) (.c (.int .u64 56)), none⟩,
  ⟨some 101, .bin .add (.t 98) (.t 100), none⟩,
  ⟨some 8, .mv (.t 101), none⟩] env H none [] Q := w_reg
def F_ref08_Tabler17 : List IStmt := [
  ⟨some 102, .mv (.t 6), none⟩,
  ⟨some 103, .mv (.t 0), none⟩,
  ⟨some 104, .mv (.t 8), none⟩,
  ⟨some 105, .callc 47 [(.t 103), (.t 104), (.c (.int .i64 4))], none⟩,
  ⟨some 106, .conv .u32 (.t 105), none⟩,
  ⟨some 107, .mv (.t 0), none⟩,
  ⟨some 108, .mv (.t 8), none⟩,
  ⟨some 109, .bin .add (.t 108) (.c (.int .u64 4)), none⟩,
  ⟨some 110, .callc 47 [(.t 107), (.t 109), (.c (.int .i64 4))], none⟩,
  ⟨some 111, .conv .u32 (.t 110), none⟩,
  ⟨some 112, .mv (.t 0), none⟩,
  ⟨some 113, .mv (.t 8), none⟩,
  ⟨some 114, .bin .add (.t 113) (.c (.int .u64 8)), none⟩,
  ⟨some 115, .callc 47 [(.t 112), (.t 114), (.c (.int .i64 8))], none⟩,
  ⟨some 116, .mv (.t 0), none⟩,
  ⟨some 117, .mv (.t 8), none⟩,
  ⟨some 118, .bin .add (.t 117) (.c (.int .u64 16)), none⟩,
  ⟨some 119, .callc 47 [(.t 116), (.t 118), (.c (.int .i64 8))], none⟩,
  ⟨some 120, .mv (.t 0), none⟩,
  ⟨some 121, .mv (.t 8), none⟩,
  ⟨some 122, .bin .add (.t 121) (.c (.int .u64 32)), none⟩,
  ⟨some 123, .callc 47 [(.t 120), (.t 122), (.c (.int .i64 8))], none⟩,
  ⟨some 124, .mv (.t 0), none⟩,
  ⟨some 125, .mv (.t 8), none⟩,
  ⟨some 126, .bin .add (.t 125) (.c (.int .u64 40)), none⟩,
  ⟨some 127, .callc 47 [(.t 124), (.t 126), (.c (.int .i64 8))], none⟩,
  ⟨some 128, .mv (.t 0), none⟩,
  ⟨some 129, .mv (.t 8), none⟩,
  ⟨some 130, .bin .add (.t 129) (.c (.int .u64 48)), none⟩,
  ⟨some 131, .callc 47 [(.t 128), (.t 130), (.c (.int .i64 8))], none⟩,
  ⟨some 132, .bld [.int .u32 0, .int .u32 0, .int .u64 0, .int .u64 0, .int .u64 0, .int .u64 0, .int .u64 0] [(0, 1, (.t 106)), (1, 1, (.t 111)), (2, 1, (.t 115)), (3, 1, (.t 119)), (4, 1, (.t 123)), (5, 1, (.t 127)), (6, 1, (.t 131))], none⟩,
  ⟨some 133, .bsli 7 1 [.int .u32 0, .int .u32 0, .int .u64 0, .int .u64 0, .int .u64 0, .int .u64 0, .int .u64 0] [(0, (.t 132))], none⟩,
  ⟨some 134, .app 7 48 (.t 102) (.t 133), none⟩,
  ⟨some 6, .mv (.t 134), none⟩]
theorem F_ref08_Tabler17_W {T : Tab} {env : Env} {H : Heap} {Q : Post} : W T (.reg F_ref08_Tabler17) env H Q ↔ WR T F_ref08_Tabler17 [
  ⟨some 102, .mv (.t 6), none⟩,
  ⟨some 103, .mv (.t 0), none⟩,
  ⟨some 104, .mv (.t 8), none⟩,
  ⟨some 105, .callc 47 [(.t 103), (.t 104), (.c (.int .i64 4))], none⟩,
  ⟨some 106, .conv .u32 (.t 105), none⟩,
  ⟨some 107, .mv (.t 0), none⟩,
  ⟨some 108, .mv (.t 8), none⟩,
  ⟨some 109, .bin .add (.t 108) (.c (.int .u64 4)), none⟩,
  ⟨some 110, .callc 47 [(.t 107), (.t 109), (.c (.int .i64 4))], none⟩,
  ⟨some 111, .conv .u32 (.t 110), none⟩,
  ⟨some 112, .mv (.t 0), none⟩,
  ⟨some 113, .mv (.t 8), none⟩,
  ⟨some 114, .bin .add (.t 113) (.c (.int .u64 8)), none⟩,
  ⟨some 115, .callc 47 [(.t 112), (.t 114), (.c (.int .i64 8))], none⟩,
  ⟨some 116, .mv (.t 0), none⟩,
  ⟨some 117, .mv (.t 8), none⟩,
  ⟨some 118, .bin .add (.t 117) (.c (.int .u64 16)), none⟩,
  ⟨some 119, .callc 47 [(.t 116), (.t 118), (.c (.int .i64 8))], none⟩,
  ⟨some 120, .mv (.t 0), none⟩,
  ⟨some 121, .mv (.t 8), none⟩,
  ⟨some 122, .bin .add (.t 121) (.c (.int .u64 32)), none⟩,
  ⟨some 123, .callc 47 [(.t 120), (.t 122), (.c (.int .i64 8))], none⟩,
  ⟨some 124, .mv (.t 0), none⟩,
  ⟨some 125, .mv (.t 8), none⟩,
  ⟨some 126, .bin .add (.t 125) (.c (.int .u64 40)), none⟩,
  ⟨some 127, .callc 47 [(.t 124), (.t 126), (.c (.int .i64 8))], none⟩,
  ⟨some 128, .mv (.t 0), none⟩,
  ⟨some 129, .mv (.t 8), none⟩,
  ⟨some 130, .bin .add (.t 129) (.c (.int .u64 48)), none⟩,
  ⟨some 131, .callc 47 [(.t 128), (.t 130), (.c (.int .i64 8))], none⟩,
  ⟨some 132, .bld [.int .u32 0, .int .u32 0, .int .u64 0, .int .u64 0, .int .u64 0, .int .u64 0, .int .u64 0] [(0, 1, (.t 106)), (1, 1, (.t 111)), (2, 1, (.t 115)), (3, 1, (.t 119)), (4, 1, (.t 123)), (5, 1, (.t 127)), (6, 1, (.t 131))], none⟩,
  ⟨some 133, .bsli 7 1 [.int .u32 0, .int .u32 0, .int .u64 0, .int .u64 0, .int .u64 0, .int .u64 0, .int .u64 0] [(0, (.t 132))], none⟩,
  ⟨some 134, .app 7 48 (.t 102) (.t 133), none⟩,
  ⟨some 6, .mv (.t 134), none⟩] env H none [] Q := w_reg
def F_ref08_Tabler15 : List IStmt := [
  ⟨some 96, .mv (.t 7), none⟩,
  ⟨some 97, .bin .add (.t 96) (.c (.int .u64 1)), none⟩,
  ⟨some 7, .mv (.t 97), none⟩]
theorem F_ref08_Tabler15_W {T : Tab} {env : Env} {H : Heap} {Q : Post} : W T (.reg F_ref08_Tabler15) env H Q ↔ WR T F_ref08_Tabler15 [
  ⟨some 96, .mv (.t 7), none⟩,
  ⟨some 97, .bin .add (.t 96) (.c (.int .u64 1)), none⟩,
  ⟨some 7, .mv (.t 97), none⟩] env H none [] Q := w_reg
def F_ref08_Tablel0 : ICode := (.seq (.seq (.reg F_ref08_Tabler14) (.cond (.t 95) .skip (.exit 0))) (.seq (.block 1 (.seq (.reg F_ref08_Tabler16) (.reg F_ref08_Tabler17))) (.reg F_ref08_Tabler15)))
theorem F_ref08_Tablel0_W {T : Tab} {env : Env} {H : Heap} {Q : Post} : W T F_ref08_Tablel0 env H Q ↔ W T (.seq (.seq (.reg F_ref08_Tabler14) (.cond (.t 95) .skip (.exit 0))) (.seq (.block 1 (.seq (.reg F_ref08_Tabler16) (.reg F_ref08_Tabler17))) (.reg F_ref08_Tabler15))) env H Q := Iff.rfl
def F_ref08_Tabler18 : List IStmt := [
  ⟨some 135, .mv (.t 6), none⟩,
  ⟨some 2, .mv (.t 135), none⟩,
  ⟨some 3, .mv (.c (.int .i64 0)), none⟩]
theorem F_ref08_Tabler18_W {T : Tab} {env : Env} {H : Heap} {Q : Post} : W T (.reg F_ref08_Tabler18) env H Q ↔ WR T F_ref08_Tabler18 [
  ⟨some 135, .mv (.t 6), none⟩,
  ⟨some 2, .mv (.t 135), none⟩,
  ⟨some 3, .mv (.c (.int .i64 0)), none⟩] env H none [] Q := w_reg
def F_ref08_Tablec : ICode := (.seq (.reg F_ref08_Tabler0) (.seq (.seq (.reg F_ref08_Tabler1) (.cond (.t 35) (.seq (.reg F_ref08_Tabler2) .ret) .skip)) (.seq (.seq (.reg F_ref08_Tabler3) (.cond (.t 51) (.seq (.reg F_ref08_Tabler4) .ret) .skip)) (.seq (.seq (.reg F_ref08_Tabler5) (.cond (.t 54) (.seq (.reg F_ref08_Tabler6) .ret) .skip)) (.seq (.seq (.reg F_ref08_Tabler7) (.cond (.t 62) (.seq (.reg F_ref08_Tabler8) .ret) .skip)) (.seq (.reg F_ref08_Tabler9) (.seq (.seq (.reg F_ref08_Tabler10) (.cond (.t 92) (.seq (.reg F_ref08_Tabler11) .ret) .skip)) (.seq (.reg F_ref08_Tabler12) (.seq (.seq (.reg F_ref08_Tabler13) (.block 0 (.loop F_ref08_Tablel0))) (.seq (.reg F_ref08_Tabler18) .ret))))))))))
theorem F_ref08_Tablec_W {T : Tab} {env : Env} {H : Heap} {Q : Post} : W T F_ref08_Tablec env H Q ↔ W T (.seq (.reg F_ref08_Tabler0) (.seq (.seq (.reg F_ref08_Tabler1) (.cond (.t 35) (.seq (.reg F_ref08_Tabler2) .ret) .skip)) (.seq (.seq (.reg F_ref08_Tabler3) (.cond (.t 51) (.seq (.reg F_ref08_Tabler4) .ret) .skip)) (.seq (.seq (.reg F_ref08_Tabler5) (.cond (.t 54) (.seq (.reg F_ref08_Tabler6) .ret) .skip)) (.seq (.seq (.reg F_ref08_Tabler7) (.cond (.t 62) (.seq (.reg F_ref08_Tabler8) .ret) .skip)) (.seq (.reg F_ref08_Tabler9) (.seq (.seq (.reg F_ref08_Tabler10) (.cond (.t 92) (.seq (.reg F_ref08_Tabler11) .ret) .skip)) (.seq (.reg F_ref08_Tabler12) (.seq (.seq (.reg F_ref08_Tabler13) (.block 0 (.loop F_ref08_Tablel0))) (.seq (.reg F_ref08_Tabler18) .ret)))))))))) env H Q := Iff.rfl
def F_ref08_Table : IFn := ⟨136, [.tmp 2, .tmp 3], F_ref08_Tablec⟩
set_option maxRecDepth 1000000 in
theorem F_ref08_Table_chk : chkF Try.prog 46 F_ref08_Table = true := by kernel_rfl

/-! ### ref08_End -/
def F_ref08_Endr0 : List IStmt := [
  ⟨some 1, .box 7 (.t 0), none⟩,
  ⟨some 2, .mv (.c (.int .u64 0)), none⟩]
theorem F_ref08_Endr0_W {T : Tab} {env : Env} {H : Heap} {Q : Post} : W T (.reg F_ref08_Endr0) env H Q ↔ WR T F_ref08_Endr0 [
  ⟨some 1, .box 7 (.t 0), none⟩,
  ⟨some 2, .mv (.c (.int .u64 0)), none⟩] env H none [] Q := w_reg
def F_ref08_Endr1 : List IStmt := [
  ⟨some 4, .fa 3 (.t 1), none⟩,
  ⟨some 5, .load (.t 4), none⟩,
  ⟨some 6, .fa 5 (.t 1), none⟩,
  ⟨some 7, .load (.t 6), none⟩,
  ⟨some 8, .bin .add (.t 5) (.t 7), none⟩,
  ⟨some 3, .mv (.t 8), none⟩]
theorem F_ref08_Endr1_W {T : Tab} {env : Env} {H : Heap} {Q : Post} : W T (.reg F_ref08_Endr1) env H Q ↔ WR T F_ref08_Endr1 [
  ⟨some 4, .fa 3 (.t 1), none⟩,
  ⟨some 5, .load (.t 4), none⟩,
  ⟨some 6, .fa 5 (.t 1), none⟩,
  ⟨some 7, .load (.t 6), none⟩,
  ⟨some 8, .bin .add (.t 5) (.t 7), none⟩,
  ⟨some 3, .mv (.t 8), none⟩] env H none [] Q := w_reg
def F_ref08_Endr2 : List IStmt := [
  ⟨some 9, .mv (.t 3), none⟩,
  ⟨some 10, .bin .rem (.t 9) (.c (.int .u64 256)), none⟩,
  ⟨some 11, .bin .neq (.t 10) (.c (.int .u64 0)), none⟩]
theorem F_ref08_Endr2_W {T : Tab} {env : Env} {H : Heap} {Q : Post} : W T (.reg F_ref08_Endr2) env H Q ↔ WR T F_ref08_Endr2 [
  ⟨some 9, .mv (.t 3), none⟩,
  ⟨some 10, .bin .rem (.t 9) (.c (.int .u64 256)), none⟩,
  ⟨some 11, .bin .neq (.t 10) (.c (.int .u64 0)), none⟩] env H none [] Q := w_reg
def F_ref08_Endr3 : List IStmt := [
  ⟨some 12, .mv (.t 3), none⟩,
  ⟨some 13, .bin .add (.t 12) (.c (.int .u64 1)), none⟩,
  ⟨some 3, .mv (.t 13), none⟩]
theorem F_ref08_Endr3_W {T : Tab} {env : Env} {H : Heap} {Q : Post} : W T (.reg F_ref08_Endr3) env H Q ↔ WR T F_ref08_Endr3 [
  ⟨some 12, .mv (.t 3), none⟩,
  ⟨some 13, .bin .add (.t 12) (.c (.int .u64 1)), none⟩,
  ⟨some 3, .mv (.t 13), none⟩] env H none [] Q := w_reg
def F_ref08_Endl0 : ICode := (.seq (.seq (.reg F_ref08_Endr2) (.cond (.t 11) .skip (.exit 0))) (.block 1 (.reg F_ref08_Endr3)))
theorem F_ref08_Endl0_W {T : Tab} {env : Env} {H : Heap} {Q : Post} : W T F_ref08_Endl0 env H Q ↔ W T (.seq (.seq (.reg F_ref08_Endr2) (.cond (.t 11) .skip (.exit 0))) (.block 1 (.reg F_ref08_Endr3))) env H Q := Iff.rfl
def F_ref08_Endr4 : List IStmt := [
  ⟨some 14, .mv (.t 3), none⟩,
  ⟨some 2, .mv (.t 14), none⟩]
theorem F_ref08_Endr4_W {T : Tab} {env : Env} {H : Heap} {Q : Post} : W T (.reg F_ref08_Endr4) env H Q ↔ WR T F_ref08_Endr4 [
  ⟨some 14, .mv (.t 3), none⟩,
  ⟨some 2, .mv (.t 14), none⟩] env H none [] Q := w_reg
def F_ref08_Endc : ICode := (.seq (.reg F_ref08_Endr0) (.seq (.reg F_ref08_Endr1) (.seq (.block 0 (.loop F_ref08_Endl0)) (.seq (.reg F_ref08_Endr4) .ret))))
theorem F_ref08_Endc_W {T : Tab} {env : Env} {H : Heap} {Q : Post} : W T F_ref08_Endc env H Q ↔ W T (.seq (.reg F_ref08_Endr0) (.seq (.reg F_ref08_Endr1) (.seq (.block 0 (.loop F_ref08_Endl0)) (.seq (.reg F_ref08_Endr4) .ret)))) env H Q := Iff.rfl
def F_ref08_End : IFn := ⟨15, [.tmp 2], F_ref08_Endc⟩
set_option maxRecDepth 1000000 in
theorem F_ref08_End_chk : chkF Try.prog 49 F_ref08_End = true := by kernel_rfl

/-! ### ref08_may -/
def F_ref08_mayr0 : List IStmt := [
  ⟨some 4, .box 7 (.t 0), none⟩,
  ⟨some 8, .mv (.c (.bool false)), none⟩]
theorem F_ref08_mayr0_W {T : Tab} {env : Env} {H : Heap} {Q : Post} : W T (.reg F_ref08_mayr0) env H Q ↔ WR T F_ref08_mayr0 [
  ⟨some 4, .box 7 (.t 0), none⟩,
  ⟨some 8, .mv (.c (.bool false)), none⟩] env H none [] Q := w_reg
def F_ref08_mayr1 : List IStmt := [
  ⟨some 9, .fa 3 (.t 4), none⟩,
  ⟨some 10, .load (.t 9), none⟩,
  ⟨some 11, .bin .rem (.t 10) (.c (.int .u64 256)), none⟩,
  ⟨some 12, .bin .neq (.t 11) (.c (.int .u64 0)), none⟩,
  ⟨some 13, .mv (.t 12), none⟩,
  ⟨some 14, .fa 2 (.t 4), some (4, false)⟩,
  ⟨some 15, .load (.t 14), some (4, false)⟩,
  ⟨some 16, .bin .rem (.t 15) (.c (.int .u64 256)), some (4, false)⟩,
  ⟨some 17, .bin .neq (.t 16) (.c (.int .u64 0)), some (4, false)⟩,
  ⟨some 18, .pick (.t 13) (.c (.bool true)) (.t 17), none⟩,
  ⟨some 19, .mv (.t 18), none⟩,
  ⟨some 20, .fa 1 (.t 4), some (10, false)⟩,
  ⟨some 21, .load (.t 20), some (10, false)⟩,
  ⟨some 22, .bin .gtr (.t 21) (.c (.int .u32 7)), some (10, false)⟩,
  ⟨some 23, .pick (.t 19) (.c (.bool true)) (.t 22), none⟩,
  ⟨some 24, .mv (.t 23), none⟩,
  ⟨some 25, .fa 5 (.t 4), some (15, false)⟩,
  ⟨some 26, .load (.t 25), some (15, false)⟩,
  ⟨some 27, .bin .eql (.t 26) (.c (.int .u64 0)), some (15, false)⟩,
  ⟨some 28, .pick (.t 24) (.c (.bool true)) (.t 27), none⟩,
  ⟨some 29, .mv (.t 28), none⟩,
  ⟨some 30, .fa 5 (.t 4), some (20, false)⟩,
  ⟨some 31, .load (.t 30), some (20, false)⟩,
  ⟨some 32, .bin .gtr (.t 31) (.c (.int .u64 16384)), some (20, false)⟩,
  ⟨some 33, .pick (.t 29) (.c (.bool true)) (.t 32), none⟩,
  ⟨some 34, .mv (.t 33), none⟩,
  ⟨some 35, .fa 4 (.t 4), some (25, false)⟩,
  ⟨some 36, .load (.t 35), some (25, false)⟩,
  ⟨some 37, .fa 5 (.t 4), some (25, false)⟩,
  ⟨some 38, .load (.t 37), some (25, false)⟩,
  ⟨some 39, .bin .gtr (.t 36) (.t 38), some (25, false)⟩,
  ⟨some 40, .pick (.t 34) (.c (.bool true)) (.t 39), none⟩,
  ⟨some 41, .mv (.t 40), none⟩,
  ⟨some 42, .fa 3 (.t 4), some (32, false)⟩,
  ⟨some 43, .load (.t 42), some (32, false)⟩,
  ⟨some 44, .bin .gtr (.t 43) (.c (.int .u64 16384)), some (32, false)⟩,
  ⟨some 45, .pick (.t 41) (.c (.bool true)) (.t 44), none⟩]
theorem F_ref08_mayr1_W {T : Tab} {env : Env} {H : Heap} {Q : Post} : W T (.reg F_ref08_mayr1) env H Q ↔ WR T F_ref08_mayr1 [
  ⟨some 9, .fa 3 (.t 4), none⟩,
  ⟨some 10, .load (.t 9), none⟩,
  ⟨some 11, .bin .rem (.t 10) (.c (.int .u64 256)), none⟩,
  ⟨some 12, .bin .neq (.t 11) (.c (.int .u64 0)), none⟩,
  ⟨some 13, .mv (.t 12), none⟩,
  ⟨some 14, .fa 2 (.t 4), some (4, false)⟩,
  ⟨some 15, .load (.t 14), some (4, false)⟩,
  ⟨some 16, .bin .rem (.t 15) (.c (.int .u64 256)), some (4, false)⟩,
  ⟨some 17, .bin .neq (.t 16) (.c (.int .u64 0)), some (4, false)⟩,
  ⟨some 18, .pick (.t 13) (.c (.bool true)) (.t 17), none⟩,
  ⟨some 19, .mv (.t 18), none⟩,
  ⟨some 20, .fa 1 (.t 4), some (10, false)⟩,
  ⟨some 21, .load (.t 20), some (10, false)⟩,
  ⟨some 22, .bin .gtr (.t 21) (.c (.int .u32 7)), some (10, false)⟩,
  ⟨some 23, .pick (.t 19) (.c (.bool true)) (.t 22), none⟩,
  ⟨some 24, .mv (.t 23), none⟩,
  ⟨some 25, .fa 5 (.t 4), some (15, false)⟩,
  ⟨some 26, .load (.t 25), some (15, false)⟩,
  ⟨some 27, .bin .eql (.t 26) (.c (.int .u64 0)), some (15, false)⟩,
  ⟨some 28, .pick (.t 24) (.c (.bool true)) (.t 27), none⟩,
  ⟨some 29, .mv (.t 28), none⟩,
  ⟨some 30, .fa 5 (.t 4), some (20, false)⟩,
  ⟨some 31, .load (.t 30), some (20, false)⟩,
  ⟨some 32, .bin .gtr (.t 31) (.c (.int .u64 16384)), some (20, false)⟩,
  ⟨some 33, .pick (.t 29) (.c (.bool true)) (.t 32), none⟩,
  ⟨some 34, .mv (.t 33), none⟩,
  ⟨some 35, .fa 4 (.t 4), some (25, false)⟩,
  ⟨some 36, .load (.t 35), some (25, false)⟩,
  ⟨some 37, .fa 5 (.t 4), some (25, false)⟩,
  ⟨some 38, .load (.t 37), some (25, false)⟩,
  ⟨some 39, .bin .gtr (.t 36) (.t 38), some (25, false)⟩,
  ⟨some 40, .pick (.t 34) (.c (.bool true)) (.t 39), none⟩,
  ⟨some 41, .mv (.t 40), none⟩,
  ⟨some 42, .fa 3 (.t 4), some (32, false)⟩,
  ⟨some 43, .load (.t 42), some (32, false)⟩,
  ⟨some 44, .bin .gtr (.t 43) (.c (.int .u64 16384)), some (32, false)⟩,
  ⟨some 45, .pick (.t 41) (.c (.bool true)) (.t 44), none⟩] env H none [] Q := w_reg
theorem F_ref08_mayr1_g4 {env : Env} : yieldI F_ref08_mayr1 env 4 = bOf (env 13) := rfl
theorem F_ref08_mayr1_g10 {env : Env} : yieldI F_ref08_mayr1 env 10 = bOf (env 19) := rfl
theorem F_ref08_mayr1_g15 {env : Env} : yieldI F_ref08_mayr1 env 15 = bOf (env 24) := rfl
theorem F_ref08_mayr1_g20 {env : Env} : yieldI F_ref08_mayr1 env 20 = bOf (env 29) := rfl
theorem F_ref08_mayr1_g25 {env : Env} : yieldI F_ref08_mayr1 env 25 = bOf (env 34) := rfl
theorem F_ref08_mayr1_g32 {env : Env} : yieldI F_ref08_mayr1 env 32 = bOf (env 41) := rfl
def F_ref08_mayr2 : List IStmt := [
  ⟨some 8, .mv (.c (.bool false)), none⟩]
theorem F_ref08_mayr2_W {T : Tab} {env : Env} {H : Heap} {Q : Post} : W T (.reg F_ref08_mayr2) env H Q ↔ WR T F_ref08_mayr2 [
  ⟨some 8, .mv (.c (.bool false)), none⟩] env H none [] Q := w_reg
def F_ref08_mayr3 : List IStmt := [
  ⟨some 46, .fa 2 (.t 4), none⟩,
  ⟨some 47, .load (.t 46), none⟩,
  ⟨some 48, .fa 4 (.t 4), none⟩,
  ⟨some 49, .load (.t 48), none⟩,
  ⟨some 50, .mv (.t 1), none⟩,
  ⟨some 51, .callc 61 [(.t 47), (.t 49), (.c (.int .u64 0)), (.t 50)], none⟩,
  ⟨some 52, .un .not (.t 51), none⟩,
  ⟨some 53, .mv (.t 52), none⟩,
  ⟨some 54, .mv (.t 3), some (7, false)⟩,
  ⟨some 55, .mv (.t 54), some (7, false)⟩,
  ⟨some 56, .fa 3 (.t 4), some (9, true)⟩,
  ⟨some 57, .load (.t 56), some (9, true)⟩,
  ⟨some 58, .bin .neq (.t 57) (.c (.int .u64 0)), some (9, true)⟩,
  ⟨some 59, .pick (.t 55) (.t 58) (.c (.bool false)), some (7, false)⟩,
  ⟨some 60, .pick (.t 53) (.c (.bool true)) (.t 59), none⟩,
  ⟨some 61, .mv (.t 60), none⟩,
  ⟨some 62, .fa 3 (.t 4), some (15, false)⟩,
  ⟨some 63, .load (.t 62), some (15, false)⟩,
  ⟨some 64, .mv (.t 2), some (15, false)⟩,
  ⟨some 65, .bin .lss (.t 63) (.t 64), some (15, false)⟩,
  ⟨some 66, .pick (.t 61) (.c (.bool true)) (.t 65), none⟩]
theorem F_ref08_mayr3_W {T : Tab} {env : Env} {H : Heap} {Q : Post} : W T (.reg F_ref08_mayr3) env H Q ↔ WR T F_ref08_mayr3 [
  ⟨some 46, .fa 2 (.t 4), none⟩,
  ⟨some 47, .load (.t 46), none⟩,
  ⟨some 48, .fa 4 (.t 4), none⟩,
  ⟨some 49, .load (.t 48), none⟩,
  ⟨some 50, .mv (.t 1), none⟩,
  ⟨some 51, .callc 61 [(.t 47), (.t 49), (.c (.int .u64 0)), (.t 50)], none⟩,
  ⟨some 52, .un .not (.t 51), none⟩,
  ⟨some 53, .mv (.t 52), none⟩,
  ⟨some 54, .mv (.t 3), some (7, false)⟩,
  ⟨some 55, .mv (.t 54), some (7, false)⟩,
  ⟨some 56, .fa 3 (.t 4), some (9, true)⟩,
  ⟨some 57, .load (.t 56), some (9, true)⟩,
  ⟨some 58, .bin .neq (.t 57) (.c (.int .u64 0)), some (9, true)⟩,
  ⟨some 59, .pick (.t 55) (.t 58) (.c (.bool false)), some (7, false)⟩,
  ⟨some 60, .pick (.t 53) (.c (.bool true)) (.t 59), none⟩,
  ⟨some 61, .mv (.t 60), none⟩,
  ⟨some 62, .fa 3 (.t 4), some (15, false)⟩,
  ⟨some 63, .load (.t 62), some (15, false)⟩,
  ⟨some 64, .mv (.t 2), some (15, false)⟩,
  ⟨some 65, .bin .lss (.t 63) (.t 64), some (15, false)⟩,
  ⟨some 66, .pick (.t 61) (.c (.bool true)) (.t 65), none⟩] env H none [] Q := w_reg
theorem F_ref08_mayr3_g7 {env : Env} : yieldI F_ref08_mayr3 env 7 = bOf (env 53) := rfl
theorem F_ref08_mayr3_g9 {env : Env} : yieldI F_ref08_mayr3 env 9 = bOf (env 55) := rfl
theorem F_ref08_mayr3_g15 {env : Env} : yieldI F_ref08_mayr3 env 15 = bOf (env 61) := rfl
def F_ref08_mayr4 : List IStmt := [
  ⟨some 8, .mv (.c (.bool false)), none⟩]
theorem F_ref08_mayr4_W {T : Tab} {env : Env} {H : Heap} {Q : Post} : W T (.reg F_ref08_mayr4) env H Q ↔ WR T F_ref08_mayr4 [
  ⟨some 8, .mv (.c (.bool false)), none⟩] env H none [] Q := w_reg
def F_ref08_mayr5 : List IStmt := [
  ⟨some 67, .loadN 7 (.t 4), none⟩,
  ⟨some 68, .callc 49 [(.t 67)], none⟩,
  ⟨some 69, .bin .leq (.t 68) (.c (.int .u64 16384)), none⟩,
  ⟨some 8, .mv (.t 69), none⟩]
theorem F_ref08_mayr5_W {T : Tab} {env : Env} {H : Heap} {Q : Post} : W T (.reg F_ref08_mayr5) env H Q ↔ WR T F_ref08_mayr5 [
  ⟨some 67, .loadN 7 (.t 4), none⟩,
  ⟨some 68, .callc 49 [(.t 67)], none⟩,
  ⟨some 69, .bin .leq (.t 68) (.c (.int .u64 16384)), none⟩,
  ⟨some 8, .mv (.t 69), none⟩] env H none [] Q := w_reg
def F_ref08_mayc : ICode := (.seq (.reg F_ref08_mayr0) (.seq (.seq (.reg F_ref08_mayr1) (.cond (.t 45) (.seq (.reg F_ref08_mayr2) .ret) .skip)) (.seq (.seq (.reg F_ref08_mayr3) (.cond (.t 66) (.seq (.reg F_ref08_mayr4) .ret) .skip)) (.seq (.reg F_ref08_mayr5) .ret))))
theorem F_ref08_mayc_W {T : Tab} {env : Env} {H : Heap} {Q : Post} : W T F_ref08_mayc env H Q ↔ W T (.seq (.reg F_ref08_mayr0) (.seq (.seq (.reg F_ref08_mayr1) (.cond (.t 45) (.seq (.reg F_ref08_mayr2) .ret) .skip)) (.seq (.seq (.reg F_ref08_mayr3) (.cond (.t 66) (.seq (.reg F_ref08_mayr4) .ret) .skip)) (.seq (.reg F_ref08_mayr5) .ret)))) env H Q := Iff.rfl
def F_ref08_may : IFn := ⟨70, [.tmp 8], F_ref08_mayc⟩
set_option maxRecDepth 1000000 in
theorem F_ref08_may_chk : chkF Try.prog 48 F_ref08_may = true := by kernel_rfl

/-! ### ref08_Off -/
def F_ref08_Offr0 : List IStmt := [
  ⟨some 3, .box 16 (.t 0), none⟩,
  ⟨some 6, .mv (.c (.int .u64 0)), none⟩,
  ⟨some 7, .mv (.c (.bool false)), none⟩]
theorem F_ref08_Offr0_W {T : Tab} {env : Env} {H : Heap} {Q : Post} : W T (.reg F_ref08_Offr0) env H Q ↔ WR T F_ref08_Offr0 [
  ⟨some 3, .box 16 (.t 0), none⟩,
  ⟨some 6, .mv (.c (.int .u64 0)), none⟩,
  ⟨some 7, .mv (.c (.bool false)), none⟩] env H none [] Q := w_reg
def F_ref08_Offr1 : List IStmt := [
  ⟨some 8, .mv (.c (.int .i64 0)), none⟩]
theorem F_ref08_Offr1_W {T : Tab} {env : Env} {H : Heap} {Q : Post} : W T (.reg F_ref08_Offr1) env H Q ↔ WR T F_ref08_Offr1 [
  ⟨some 8, .mv (.c (.int .i64 0)), none⟩] env H none [] Q := w_reg
def F_ref08_Offr2 : List IStmt := [
  ⟨some 10, .mv (.t 8), none⟩,
  ⟨some 11, .fa 1 (.t 3), none⟩,
  ⟨some 12, .load (.t 11), none⟩,
  ⟨some 13, .len 1 (.t 12), none⟩,
  ⟨some 14, .bin .lss (.t 10) (.t 13), none⟩]
theorem F_ref08_Offr2_W {T : Tab} {env : Env} {H : Heap} {Q : Post} : W T (.reg F_ref08_Offr2) env H Q ↔ WR T F_ref08_Offr2 [
  ⟨some 10, .mv (.t 8), none⟩,
  ⟨some 11, .fa 1 (.t 3), none⟩,
  ⟨some 12, .load (.t 11), none⟩,
  ⟨some 13, .len 1 (.t 12), none⟩,
  ⟨some 14, .bin .lss (.t 10) (.t 13), none⟩] env H none [] Q := w_reg
def F_ref08_Offr4 : List IStmt := [
  ⟨some 17, .fa 1 (.t 3), none⟩,
  ⟨some 18, .load (.t 17), none⟩,
  ⟨some 19, .mv (.t 8), none⟩,
  ⟨some 20, .ixa 7 (.t 18) (.t 19), none⟩,
  ⟨some 21, .loadN 7 (.t 20), none⟩,
  ⟨some 9, .alloc 7 [.int .u32 0, .int .u32 0, .int .u64 0, .int .u64 0, .int .u64 0, .int .u64 0, .int .u64 0], none⟩,
  ⟨none, .store 7 (.t 9) (.t 21), none⟩]
theorem F_ref08_Offr4_W {T : Tab} {env : Env} {H : Heap} {Q : Post} : W T (.reg F_ref08_Offr4) env H Q ↔ WR T F_ref08_Offr4 [
  ⟨some 17, .fa 1 (.t 3), none⟩,
  ⟨some 18, .load (.t 17), none⟩,
  ⟨some 19, .mv (.t 8), none⟩,
  ⟨some 20, .ixa 7 (.t 18) (.t 19), none⟩,
  ⟨some 21, .loadN 7 (.t 20), none⟩,
  ⟨some 9, .alloc 7 [.int .u32 0, .int .u32 0, .int .u64 0, .int .u64 0, .int .u64 0, .int .u64 0, .int .u64 0], none⟩,
  ⟨none, .store 7 (.t 9) (.t 21), none⟩] env H none [] Q := w_reg
def F_ref08_Offr5 : List IStmt := [
  ⟨some 22, .mv (.t 1), none⟩,
  ⟨some 23, .mv (.t 2), none⟩,
  ⟨some 24, .fa 3 (.t 9), none⟩,
  ⟨some 25, .load (.t 24), none⟩,
  ⟨some 26, .fa 4 (.t 9), none⟩,
  ⟨some 27, .load (.t 26), none⟩,
  ⟨some 28, .callc 61 [(.t 22), (.t 23), (.t 25), (.t 27)], none⟩]
theorem F_ref08_Offr5_W {T : Tab} {env : Env} {H : Heap} {Q : Post} : W T (.reg F_ref08_Offr5) env H Q ↔ WR T F_ref08_Offr5 [
  ⟨some 22, .mv (.t 1), none⟩,
  ⟨some 23, .mv (.t 2), none⟩,
  ⟨some 24, .fa 3 (.t 9), none⟩,
  ⟨some 25, .load (.t 24), none⟩,
  ⟨some 26, .fa 4 (.t 9), none⟩,
  ⟨some 27, .load (.t 26), none⟩,
  ⟨some 28, .callc 61 [(.t 22), (.t 23), (.t 25), (.t 27)], none⟩] env H none [] Q := w_reg
def F_ref08_Offr6 : List IStmt := [
  ⟨some 29, .mv (.t 1), none⟩,
  ⟨some 30, .fa 3 (.t 9), none⟩,
  ⟨some 31, .load (.t 30), none⟩,
  ⟨some 32, .bin .sub (.t 29) (.t 31), none⟩,
  ⟨some 33, .fa 2 (.t 9), none⟩,
  ⟨some 34, .load (.t 33), none⟩,
  ⟨some 35, .bin .add (.t 32) (.t 34), none⟩,
  ⟨some 6, .mv (.t 35), none⟩,
  ⟨some 7, .mv (.c (.bool true)), none⟩]
theorem F_ref08_Offr6_W {T : Tab} {env : Env} {H : Heap} {Q : Post} : W T (.reg F_ref08_Offr6) env H Q ↔ WR T F_ref08_Offr6 [
  ⟨some 29, .mv (.t 1), none⟩,
  ⟨some 30, .fa 3 (.t 9), none⟩,
  ⟨some 31, .load (.t 30), none⟩,
  ⟨some 32, .bin .sub (.t 29) (.t 31), none⟩,
  ⟨some 33, .fa 2 (.t 9), none⟩,
  ⟨some 34, .load (.t 33), none⟩,
  ⟨some 35, .bin .add (.t 32) (.t 34), none⟩,
  ⟨some 6, .mv (.t 35), none⟩,
  ⟨some 7, .mv (.c (.bool true)), none⟩] env H none [] Q := w_reg
def F_ref08_Offr3 : List IStmt := [
  ⟨some 15, .mv (.t 8), none⟩,
  ⟨some 16, .bin .add (.t 15) (.c (.int .i64 1)), none⟩,
  ⟨some 8, .mv (.t 16), none⟩]
theorem F_ref08_Offr3_W {T : Tab} {env : Env} {H : Heap} {Q : Post} : W T (.reg F_ref08_Offr3) env H Q ↔ WR T F_ref08_Offr3 [
  ⟨some 15, .mv (.t 8), none⟩,
  ⟨some 16, .bin .add (.t 15) (.c (.int .i64 1)), none⟩,
  ⟨some 8, .mv (.t 16), none⟩] env H none [] Q := w_reg
def F_ref08_Offl0 : ICode := (.seq (.seq (.reg F_ref08_Offr2) (.cond (.t 14) .skip (.exit 0))) (.seq (.block 1 (.seq (.reg F_ref08_Offr4) (.seq (.reg F_ref08_Offr5) (.cond (.t 28) (.seq (.reg F_ref08_Offr6) .ret) .skip)))) (.reg F_ref08_Offr3)))
theorem F_ref08_Offl0_W {T : Tab} {env : Env} {H : Heap} {Q : Post} : W T F_ref08_Offl0 env H Q ↔ W T (.seq (.seq (.reg F_ref08_Offr2) (.cond (.t 14) .skip (.exit 0))) (.seq (.block 1 (.seq (.reg F_ref08_Offr4) (.seq (.reg F_ref08_Offr5) (.cond (.t 28) (.seq (.reg F_ref08_Offr6) .ret) .skip)))) (.reg F_ref08_Offr3))) env H Q := Iff.rfl
def F_ref08_Offr7 : List IStmt := [
  ⟨some 6, .mv (.c (.int .u64 0)), none⟩,
  ⟨some 7, .mv (.c (.bool false)), none⟩]
theorem F_ref08_Offr7_W {T : Tab} {env : Env} {H : Heap} {Q : Post} : W T (.reg F_ref08_Offr7) env H Q ↔ WR T F_ref08_Offr7 [
  ⟨some 6, .mv (.c (.int .u64 0)), none⟩,
  ⟨some 7, .mv (.c (.bool false)), none⟩] env H none [] Q := w_reg
def F_ref08_Offc : ICode := (.seq (.reg F_ref08_Offr0) (.seq (.seq (.reg F_ref08_Offr1) (.block 0 (.loop F_ref08_Offl0))) (.seq (.reg F_ref08_Offr7) .ret)))
theorem F_ref08_Offc_W {T : Tab} {env : Env} {H : Heap} {Q : Post} : W T F_ref08_Offc env H Q ↔ W T (.seq (.reg F_ref08_Offr0) (.seq (.seq (.reg F_ref08_Offr1) (.block 0 (.loop F_ref08_Offl0))) (.seq (.reg F_ref08_Offr7) .ret))) env H Q := Iff.rfl
def F_ref08_Off : IFn := ⟨36, [.tmp 6, .tmp 7], F_ref08_Offc⟩
set_option maxRecDepth 1000000 in
theorem F_ref08_Off_chk : chkF Try.prog 50 F_ref08_Off = true := by kernel_rfl

/-! ### ref08_Holder -/
def F_ref08_Holderr0 : List IStmt := [
  ⟨some 3, .box 16 (.t 0), none⟩,
  ⟨some 6, .mv (.c (.int .i64 0)), none⟩]
theorem F_ref08_Holderr0_W {T : Tab} {env : Env} {H : Heap} {Q : Post} : W T (.reg F_ref08_Holderr0) env H Q ↔ WR T F_ref08_Holderr0 [
  ⟨some 3, .box 16 (.t 0), none⟩,
  ⟨some 6, .mv (.c (.int .i64 0)), none⟩] env H none [] Q := w_reg
def F_ref08_Holderr1 : List IStmt := [
  ⟨some 7, .mv (.c (.int .i64 0)), none⟩]
theorem F_ref08_Holderr1_W {T : Tab} {env : Env} {H : Heap} {Q : Post} : W T (.reg F_ref08_Holderr1) env H Q ↔ WR T F_ref08_Holderr1 [
  ⟨some 7, .mv (.c (.int .i64 0)), none⟩] env H none [] Q := w_reg
def F_ref08_Holderr2 : List IStmt := [
  ⟨some 9, .mv (.t 7), none⟩,
  ⟨some 10, .fa 1 (.t 3), none⟩,
  ⟨some 11, .load (.t 10), none⟩,
  ⟨some 12, .len 1 (.t 11), none⟩,
  ⟨some 13, .bin .lss (.t 9) (.t 12), none⟩]
theorem F_ref08_Holderr2_W {T : Tab} {env : Env} {H : Heap} {Q : Post} : W T (.reg F_ref08_Holderr2) env H Q ↔ WR T F_ref08_Holderr2 [
  ⟨some 9, .mv (.t 7), none⟩,
  ⟨some 10, .fa 1 (.t 3), none⟩,
  ⟨some 11, .load (.t 10), none⟩,
  ⟨some 12, .len 1 (.t 11), none⟩,
  ⟨some 13, .bin .lss (.t 9) (.t 12), none⟩] env H none [] Q := w_reg
def F_ref08_Holderr4 : List IStmt := [
  ⟨some 16, .fa 1 (.t 3), none⟩,
  ⟨some 17, .load (.t 16), none⟩,
  ⟨some 18, .mv (.t 7), none⟩,
  ⟨some 19, .ixa 7 (.t 17) (.t 18), none⟩,
  ⟨some 20, .loadN 7 (.t 19), none⟩,
  ⟨some 8, .alloc 7 [.int .u32 0, .int .u32 0, .int .u64 0, .int .u64 0, .int .u64 0, .int .u64 0, .int .u64 0], none⟩,
  ⟨none, .store 7 (.t 8) (.t 20), none⟩]
theorem F_ref08_Holderr4_W {T : Tab} {env : Env} {H : Heap} {Q : Post} : W T (.reg F_ref08_Holderr4) env H Q ↔ WR T F_ref08_Holderr4 [
  ⟨some 16, .fa 1 (.t 3), none⟩,
  ⟨some 17, .load (.t 16), none⟩,
  ⟨some 18, .mv (.t 7), none⟩,
  ⟨some 19, .ixa 7 (.t 17) (.t 18), none⟩,
  ⟨some 20, .loadN 7 (.t 19), none⟩,
  ⟨some 8, .alloc 7 [.int .u32 0, .int .u32 0, .int .u64 0, .int .u64 0, .int .u64 0, .int .u64 0, .int .u64 0], none⟩,
  ⟨none, .store 7 (.t 8) (.t 20), none⟩] env H none [] Q := w_reg
def F_ref08_Holderr5 : List IStmt := [
  ⟨some 21, .mv (.t 1), none⟩,
  ⟨some 22, .mv (.t 2), none⟩,
  ⟨some 23, .fa 3 (.t 8), none⟩,
  ⟨some 24, .load (.t 23), none⟩,
  ⟨some 25, .loadN 7 (.t 8), none⟩,
  ⟨some 26, .callc 49 [(.t 25)], none⟩,
  ⟨some 27, .fa 3 (.t 8), none⟩,
  ⟨some 28, .load (.t 27), none⟩,
  ⟨some 29, .bin .sub (.t 26) (.t 28), none⟩,
  ⟨some 30, .callc 61 [(.t 21), (.t 22), (.t 24), (.t 29)], none⟩]
theorem F_ref08_Holderr5_W {T : Tab} {env : Env} {H : Heap} {Q : Post} : W T (.dreg F_ref08_Holderr5 []) env H Q ↔ WR T F_ref08_Holderr5 [
  ⟨some 21, .mv (.t 1), none⟩,
  ⟨some 22, .mv (.t 2), none⟩,
  ⟨some 23, .fa 3 (.t 8), none⟩,
  ⟨some 24, .load (.t 23), none⟩,
  ⟨some 25, .loadN 7 (.t 8), none⟩,
  ⟨some 26, .callc 49 [(.t 25)], none⟩,
  ⟨some 27, .fa 3 (.t 8), none⟩,
  ⟨some 28, .load (.t 27), none⟩,
  ⟨some 29, .bin .sub (.t 26) (.t 28), none⟩,
  ⟨some 30, .callc 61 [(.t 21), (.t 22), (.t 24), (.t 29)], none⟩] env H none [] Q := w_dreg0
def F_ref08_Holderr6 : List IStmt := [
  ⟨some 31, .mv (.t 7), none⟩,
  ⟨some 6, .mv (.t 31), none⟩]
theorem F_ref08_Holderr6_W {T : Tab} {env : Env} {H : Heap} {Q : Post} : W T (.reg F_ref08_Holderr6) env H Q ↔ WR T F_ref08_Holderr6 [
  ⟨some 31, .mv (.t 7), none⟩,
  ⟨some 6, .mv (.t 31), none⟩] env H none [] Q := w_reg
def F_ref08_Holderr3 : List IStmt := [
  ⟨some 14, .mv (.t 7), none⟩,
  ⟨some 15, .bin .add (.t 14) (.c (.int .i64 1)), none⟩,
  ⟨some 7, .mv (.t 15), none⟩]
theorem F_ref08_Holderr3_W {T : Tab} {env : Env} {H : Heap} {Q : Post} : W T (.reg F_ref08_Holderr3) env H Q ↔ WR T F_ref08_Holderr3 [
  ⟨some 14, .mv (.t 7), none⟩,
  ⟨some 15, .bin .add (.t 14) (.c (.int .i64 1)), none⟩,
  ⟨some 7, .mv (.t 15), none⟩] env H none [] Q := w_reg
def F_ref08_Holderl0 : ICode := (.seq (.seq (.reg F_ref08_Holderr2) (.cond (.t 13) .skip (.exit 0))) (.seq (.block 1 (.seq (.reg F_ref08_Holderr4) (.seq (.dreg F_ref08_Holderr5 []) (.cond (.t 30) (.seq (.reg F_ref08_Holderr6) .ret) .skip)))) (.reg F_ref08_Holderr3)))
theorem F_ref08_Holderl0_W {T : Tab} {env : Env} {H : Heap} {Q : Post} : W T F_ref08_Holderl0 env H Q ↔ W T (.seq (.seq (.reg F_ref08_Holderr2) (.cond (.t 13) .skip (.exit 0))) (.seq (.block 1 (.seq (.reg F_ref08_Holderr4) (.seq (.dreg F_ref08_Holderr5 []) (.cond (.t 30) (.seq (.reg F_ref08_Holderr6) .ret) .skip)))) (.reg F_ref08_Holderr3))) env H Q := Iff.rfl
def F_ref08_Holderr7 : List IStmt := [
  ⟨some 6, .mv (.c (.int .i64 (-1))), none⟩]
theorem F_ref08_Holderr7_W {T : Tab} {env : Env} {H : Heap} {Q : Post} : W T (.reg F_ref08_Holderr7) env H Q ↔ WR T F_ref08_Holderr7 [
  ⟨some 6, .mv (.c (.int .i64 (-1))), none⟩] env H none [] Q := w_reg
def F_ref08_Holderc : ICode := (.seq (.reg F_ref08_Holderr0) (.seq (.seq (.reg F_ref08_Holderr1) (.block 0 (.loop F_ref08_Holderl0))) (.seq (.reg F_ref08_Holderr7) .ret)))
theorem F_ref08_Holderc_W {T : Tab} {env : Env} {H : Heap} {Q : Post} : W T F_ref08_Holderc env H Q ↔ W T (.seq (.reg F_ref08_Holderr0) (.seq (.seq (.reg F_ref08_Holderr1) (.block 0 (.loop F_ref08_Holderl0))) (.seq (.reg F_ref08_Holderr7) .ret))) env H Q := Iff.rfl
def F_ref08_Holder : IFn := ⟨32, [.tmp 6], F_ref08_Holderc⟩
set_option maxRecDepth 1000000 in
theorem F_ref08_Holder_chk : chkF Try.prog 51 F_ref08_Holder = true := by kernel_rfl

/-! ### ref08_Parse -/
def F_ref08_Parser0 : List IStmt := [
  ⟨some 2, .alloc 16 [.int .u16 0, .slice none 0 0, .int .u32 0, .int .u32 0, .int .u64 0, .int .u64 0, .int .u64 0, .int .u64 0, .int .u64 0, .int .u32 0, .int .u32 0, .int .u64 0, .int .u64 0, .int .u64 0, .int .u64 0, .int .u64 0], none⟩,
  ⟨some 3, .mv (.c (.int .i64 0)), none⟩]
theorem F_ref08_Parser0_W {T : Tab} {env : Env} {H : Heap} {Q : Post} : W T (.reg F_ref08_Parser0) env H Q ↔ WR T F_ref08_Parser0 [
  ⟨some 2, .alloc 16 [.int .u16 0, .slice none 0 0, .int .u32 0, .int .u32 0, .int .u64 0, .int .u64 0, .int .u64 0, .int .u64 0, .int .u64 0, .int .u32 0, .int .u32 0, .int .u64 0, .int .u64 0, .int .u64 0, .int .u64 0, .int .u64 0], none⟩,
  ⟨some 3, .mv (.c (.int .i64 0)), none⟩] env H none [] Q := w_reg
def F_ref08_Parser1 : List IStmt := [
  ⟨some 15, .mv (.t 0), none⟩,
  ⟨some 16, .callc 46 [(.t 15)], none⟩,
  ⟨some 14, .mv (.t 16), none⟩,
  ⟨some 17, .ext (.t 14) 0, none⟩,
  ⟨some 18, .ext (.t 14) 1, none⟩,
  ⟨some 4, .mv (.t 17), none⟩,
  ⟨some 5, .mv (.t 18), none⟩]
theorem F_ref08_Parser1_W {T : Tab} {env : Env} {H : Heap} {Q : Post} : W T (.reg F_ref08_Parser1) env H Q ↔ WR T F_ref08_Parser1 [
  ⟨some 15, .mv (.t 0), none⟩,
  ⟨some 16, .callc 46 [(.t 15)], none⟩,
  ⟨some 14, .mv (.t 16), none⟩,
  ⟨some 17, .ext (.t 14) 0, none⟩,
  ⟨some 18, .ext (.t 14) 1, none⟩,
  ⟨some 4, .mv (.t 17), none⟩,
  ⟨some 5, .mv (.t 18), none⟩] env H none [] Q := w_reg
def F_ref08_Parser2 : List IStmt := [
  ⟨some 19, .mv (.t 5), none⟩,
  ⟨some 20, .bin .neq (.t 19) (.c (.int .i64 0)), none⟩]
theorem F_ref08_Parser2_W {T : Tab} {env : Env} {H : Heap} {Q : Post} : W T (.reg F_ref08_Parser2) env H Q ↔ WR T F_ref08_Parser2 [
  ⟨some 19, .mv (.t 5), none⟩,
  ⟨some 20, .bin .neq (.t 19) (.c (.int .i64 0)), none⟩] env H none [] Q := w_reg
def F_ref08_Parser3 : List IStmt := [
  ⟨some 21, .bld [.int .u16 0, .slice none 0 0, .int .u32 0, .int .u32 0, .int .u64 0, .int .u64 0, .int .u64 0, .int .u64 0, .int .u64 0, .int .u32 0, .int .u32 0, .int .u64 0, .int .u64 0, .int .u64 0, .int .u64 0, .int .u64 0] [], none⟩,
  ⟨some 22, .mv (.t 5), none⟩,
  ⟨none, .store 16 (.t 2) (.t 21), none⟩,
  ⟨some 3, .mv (.t 22), none⟩]
theorem F_ref08_Parser3_W {T : Tab} {env : Env} {H : Heap} {Q : Post} : W T (.reg F_ref08_Parser3) env H Q ↔ WR T F_ref08_Parser3 [
  ⟨some 21, .bld [.int .u16 0, .slice none 0 0, .int .u32 0, .int .u32 0, .int .u64 0, .int .u64 0, .int .u64 0, .int .u64 0, .int .u64 0, .int .u32 0, .int .u32 0, .int .u64 0, .int .u64 0, .int .u64 0, .int .u64 0, .int .u64 0] [], none⟩,
  ⟨some 22, .mv (.t 5), none⟩,
  ⟨none, .store 16 (.t 2) (.t 21), none⟩,
  ⟨some 3, .mv (.t 22), none⟩] env H none [] Q := w_reg
def F_ref08_Parser4 : List IStmt := [
  ⟨some 23, .mv (.t 0), none⟩,
  ⟨some 24, .callc 47 [(.t 23), (.c (.int .u64 18)), (.c (.int .i64 2))], none⟩,
  ⟨some 25, .conv .u16 (.t 24), none⟩,
  ⟨some 26, .bld [.int .u16 0, .slice none 0 0, .int .u32 0, .int .u32 0, .int .u64 0, .int .u64 0, .int .u64 0, .int .u64 0, .int .u64 0, .int .u32 0, .int .u32 0, .int .u64 0, .int .u64 0, .int .u64 0, .int .u64 0, .int .u64 0] [(0, 1, (.t 25))], none⟩,
  ⟨some 6, .alloc 16 [.int .u16 0, .slice none 0 0, .int .u32 0, .int .u32 0, .int .u64 0, .int .u64 0, .int .u64 0, .int .u64 0, .int .u64 0, .int .u32 0, .int .u32 0, .int .u64 0, .int .u64 0, .int .u64 0, .int .u64 0, .int .u64 0], none⟩,
  ⟨none, .store 16 (.t 6) (.t 26), none⟩]
theorem F_ref08_Parser4_W {T : Tab} {env : Env} {H : Heap} {Q : Post} : W T (.reg F_ref08_Parser4) env H Q ↔ WR T F_ref08_Parser4 [
  ⟨some 23, .mv (.t 0), none⟩,
  ⟨some 24, .callc 47 [(.t 23), (.c (.int .u64 18)), (.c (.int .i64 2))], none⟩,
  ⟨some 25, .conv .u16 (.t 24), none⟩,
  ⟨some 26, .bld [.int .u16 0, .slice none 0 0, .int .u32 0, .int .u32 0, .int .u64 0, .int .u64 0, .int .u64 0, .int .u64 0, .int .u64 0, .int .u32 0, .int .u32 0, .int .u64 0, .int .u64 0, .int .u64 0, .int .u64 0, .int .u64 0] [(0, 1, (.t 25))], none⟩,
  ⟨some 6, .alloc 16 [.int .u16 0, .slice none 0 0, .int .u32 0, .int .u32 0, .int .u64 0, .int .u64 0, .int .u64 0, .int .u64 0, .int .u64 0, .int .u32 0, .int .u32 0, .int .u64 0, .int .u64 0, .int .u64 0, .int .u64 0, .int .u64 0], none⟩,
  ⟨none, .store 16 (.t 6) (.t 26), none⟩] env H none [] Q := w_reg
def F_ref08_Parser5 : List IStmt := [
  ⟨some 7, .mv (.c (.slice none 0 0)), none⟩,
  ⟨some 8, .mv (.c (.slice none 0 0)), none⟩]
theorem F_ref08_Parser5_W {T : Tab} {env : Env} {H : Heap} {Q : Post} : W T (.reg F_ref08_Parser5) env H Q ↔ WR T F_ref08_Parser5 [
  ⟨some 7, .mv (.c (.slice none 0 0)), none⟩,
  ⟨some 8, .mv (.c (.slice none 0 0)), none⟩] env H none [] Q := w_reg
def F_ref08_Parser6 : List IStmt := [
  ⟨some 9, .mv (.c (.int .u64 0)), none⟩]
theorem F_ref08_Parser6_W {T : Tab} {env : Env} {H : Heap} {Q : Post} : W T (.reg F_ref08_Parser6) env H Q ↔ WR T F_ref08_Parser6 [
  ⟨some 9, .mv (.c (.int .u64 0)), none⟩] env H none [] Q := w_reg
def F_ref08_Parser7 : List IStmt := [
  ⟨some 10, .mv (.c (.int .i64 0)), none⟩]
theorem F_ref08_Parser7_W {T : Tab} {env : Env} {H : Heap} {Q : Post} : W T (.reg F_ref08_Parser7) env H Q ↔ WR T F_ref08_Parser7 [
  ⟨some 10, .mv (.c (.int .i64 0)), none⟩] env H none [] Q := w_reg
def F_ref08_Parser8 : List IStmt := [
  ⟨some 27, .mv (.t 10), none⟩,
  ⟨some 28, .mv (.t 4), none⟩,
  ⟨some 29, .len 1 (.t 28), none⟩,
  ⟨some 30, .bin .lss (.t 27) (.t 29), none⟩]
theorem F_ref08_Parser8_W {T : Tab} {env : Env} {H : Heap} {Q : Post} : W T (.reg F_ref08_Parser8) env H Q ↔ WR T F_ref08_Parser8 [
  ⟨some 27, .mv (.t 10), none⟩,
  ⟨some 28, .mv (.t 4), none⟩,
  ⟨some 29, .len 1 (.t 28), none⟩,
  ⟨some 30, .bin .lss (.t 27) (.t 29), none⟩] env H none [] Q := w_reg
def F_ref08_Parser10 : List IStmt := [
  ⟨some 33, .mv (.t 4), none⟩,
  ⟨some 34, .mv (.t 10), none⟩,
  ⟨some 35, .ixa 7 (.t 33) (.t 34), none⟩,
  ⟨some 36, .fa 0 (.t 35), none⟩,
  ⟨some 37, .load (.t 36), none⟩]
theorem F_ref08_Parser10_W {T : Tab} {env : Env} {H : Heap} {Q : Post} : W T (.reg F_ref08_Parser10) env H Q ↔ WR T F_ref08_Parser10 [
  ⟨some 33, .mv (.t 4), none⟩,
  ⟨some 34, .mv (.t 10), none⟩,
  ⟨some 35, .ixa 7 (.t 33) (.t 34), none⟩,
  ⟨some 36, .fa 0 (.t 35), none⟩,
  ⟨some 37, .load (.t 36), none⟩] env H none [] Q := w_reg
def F_ref08_Parser11 : List IStmt := [
  ⟨some 39, .bin .eql (.t 37) (.c (.int .u32 1)), none⟩,
  ⟨some 38, .mv (.t 39), none⟩]
theorem F_ref08_Parser11_W {T : Tab} {env : Env} {H : Heap} {Q : Post} : W T (.reg F_ref08_Parser11) env H Q ↔ WR T F_ref08_Parser11 [
  ⟨some 39, .bin .eql (.t 37) (.c (.int .u32 1)), none⟩,
  ⟨some 38, .mv (.t 39), none⟩] env H none [] Q := w_reg
def F_ref08_Parser12 : List IStmt := [
  ⟨some 40, .mv (.t 4), none⟩,
  ⟨some 41, .mv (.t 10), none⟩,
  ⟨some 42, .ixa 7 (.t 40) (.t 41), none⟩,
  ⟨some 43, .loadN 7 (.t 42), none⟩,
  ⟨some 44, .mv (.t 0), none⟩,
  ⟨some 45, .len 1 (.t 44), none⟩,
  ⟨some 46, .conv .u64 (.t 45), none⟩,
  ⟨some 47, .mv (.t 9), none⟩,
  ⟨some 48, .fa 1 (.t 6), none⟩,
  ⟨some 49, .load (.t 48), none⟩,
  ⟨some 50, .len 1 (.t 49), none⟩,
  ⟨some 51, .bin .eql (.t 50) (.c (.int .i64 0)), none⟩,
  ⟨some 52, .callc 48 [(.t 43), (.t 46), (.t 47), (.t 51)], none⟩,
  ⟨some 53, .un .not (.t 52), none⟩]
theorem F_ref08_Parser12_W {T : Tab} {env : Env} {H : Heap} {Q : Post} : W T (.dreg F_ref08_Parser12 []) env H Q ↔ WR T F_ref08_Parser12 [
  ⟨some 40, .mv (.t 4), none⟩,
  ⟨some 41, .mv (.t 10), none⟩,
  ⟨some 42, .ixa 7 (.t 40) (.t 41), none⟩,
  ⟨some 43, .loadN 7 (.t 42), none⟩,
  ⟨some 44, .mv (.t 0), none⟩,
  ⟨some 45, .len 1 (.t 44), none⟩,
  ⟨some 46, .conv .u64 (.t 45), none⟩,
  ⟨some 47, .mv (.t 9), none⟩,
  ⟨some 48, .fa 1 (.t 6), none⟩,
  ⟨some 49, .load (.t 48), none⟩,
  ⟨some 50, .len 1 (.t 49), none⟩,
  ⟨some 51, .bin .eql (.t 50) (.c (.int .i64 0)), none⟩,
  ⟨some 52, .callc 48 [(.t 43), (.t 46), (.t 47), (.t 51)], none⟩,
  ⟨some 53, .un .not (.t 52), none⟩] env H none [] Q := w_dreg0
def F_ref08_Parser13 : List IStmt := [
  ⟨some 54, .bld [.int .u16 0, .slice none 0 0, .int .u32 0, .int .u32 0, .int .u64 0, .int .u64 0, .int .u64 0, .int .u64 0, .int .u64 0, .int .u32 0, .int .u32 0, .int .u64 0, .int .u64 0, .int .u64 0, .int .u64 0, .int .u64 0] [], none⟩,
  ⟨none, .store 16 (.t 2) (.t 54), none⟩,
  ⟨some 3, .mv (.c (.int .i64 85)), none⟩]
theorem F_ref08_Parser13_W {T : Tab} {env : Env} {H : Heap} {Q : Post} : W T (.reg F_ref08_Parser13) env H Q ↔ WR T F_ref08_Parser13 [
  ⟨some 54, .bld [.int .u16 0, .slice none 0 0, .int .u32 0, .int .u32 0, .int .u64 0, .int .u64 0, .int .u64 0, .int .u64 0, .int .u64 0, .int .u32 0, .int .u32 0, .int .u64 0, .int .u64 0, .int .u64 0, .int .u64 0, .int .u64 0] [], none⟩,
  ⟨none, .store 16 (.t 2) (.t 54), none⟩,
  ⟨some 3, .mv (.c (.int .i64 85)), none⟩] env H none [] Q := w_reg
def F_ref08_Parser14 : List IStmt := [
  ⟨some 55, .mv (.t 4), none⟩,
  ⟨some 56, .mv (.t 10), none⟩,
  ⟨some 57, .ixa 7 (.t 55) (.t 56), none⟩,
  ⟨some 58, .loadN 7 (.t 57), none⟩,
  ⟨some 59, .callc 49 [(.t 58)], none⟩,
  ⟨some 9, .mv (.t 59), none⟩]
theorem F_ref08_Parser14_W {T : Tab} {env : Env} {H : Heap} {Q : Post} : W T (.reg F_ref08_Parser14) env H Q ↔ WR T F_ref08_Parser14 [
  ⟨some 55, .mv (.t 4), none⟩,
  ⟨some 56, .mv (.t 10), none⟩,
  ⟨some 57, .ixa 7 (.t 55) (.t 56), none⟩,
  ⟨some 58, .loadN 7 (.t 57), none⟩,
  ⟨some 59, .callc 49 [(.t 58)], none⟩,
  ⟨some 9, .mv (.t 59), none⟩] env H none [] Q := w_reg
def F_ref08_Parser15 : List IStmt := [
  ⟨some 60, .fa 1 (.t 6), none⟩,
  ⟨some 61, .load (.t 60), none⟩,
  ⟨some 62, .mv (.t 4), none⟩,
  ⟨some 63, .mv (.t 10), none⟩,
  ⟨some 64, .ixa 7 (.t 62) (.t 63), none⟩,
  ⟨some 65, .loadN 7 (.t 64), none⟩,
  ⟨some 66, .bsli 7 1 [.int .u32 0, .int .u32 0, .int .u64 0, .int .u64 0, .int .u64 0, .int .u64 0, .int .u64 0] [(0, (.t 65))], none⟩,
  ⟨some 67, .app 7 48 (.t 61) (.t 66), none⟩,
  ⟨some 68, .fa 1 (.t 6), none⟩,
  ⟨none, .store 1 (.t 68) (.t 67), none⟩]
theorem F_ref08_Parser15_W {T : Tab} {env : Env} {H : Heap} {Q : Post} : W T (.dreg F_ref08_Parser15 []) env H Q ↔ WR T F_ref08_Parser15 [
  ⟨some 60, .fa 1 (.t 6), none⟩,
  ⟨some 61, .load (.t 60), none⟩,
  ⟨some 62, .mv (.t 4), none⟩,
  ⟨some 63, .mv (.t 10), none⟩,
  ⟨some 64, .ixa 7 (.t 62) (.t 63), none⟩,
  ⟨some 65, .loadN 7 (.t 64), none⟩,
  ⟨some 66, .bsli 7 1 [.int .u32 0, .int .u32 0, .int .u64 0, .int .u64 0, .int .u64 0, .int .u64 0, .int .u64 0] [(0, (.t 65))], none⟩,
  ⟨some 67, .app 7 48 (.t 61) (.t 66), none⟩,
  ⟨some 68, .fa 1 (.t 6), none⟩,
  ⟨none, .store 1 (.t 68) (.t 67), none⟩] env H none [] Q := w_dreg0
def F_ref08_Parser16 : List IStmt := [
  ⟨some 70, .bin .eql (.t 37) (.c (.int .u32 2)), none⟩,
  ⟨some 69, .mv (.t 70), none⟩]
theorem F_ref08_Parser16_W {T : Tab} {env : Env} {H : Heap} {Q : Post} : W T (.reg F_ref08_Parser16) env H Q ↔ WR T F_ref08_Parser16 [
  ⟨some 70, .bin .eql (.t 37) (.c (.int .u32 2)), none⟩,
  ⟨some 69, .mv (.t 70), none⟩] env H none [] Q := w_reg
def F_ref08_Parser17 : List IStmt := [
  ⟨some 71, .mv (.t 7), none⟩,
  ⟨some 72, .mv (.t 4), none⟩,
  ⟨some 73, .mv (.t 10), none⟩,
  ⟨some 74, .ixa 7 (.t 72) (.t 73), none⟩,
  ⟨some 75, .loadN 7 (.t 74), none⟩,
  ⟨some 76, .bsli 7 1 [.int .u32 0, .int .u32 0, .int .u64 0, .int .u64 0, .int .u64 0, .int .u64 0, .int .u64 0] [(0, (.t 75))], none⟩,
  ⟨some 77, .app 7 48 (.t 71) (.t 76), none⟩,
  ⟨some 7, .mv (.t 77), none⟩]
theorem F_ref08_Parser17_W {T : Tab} {env : Env} {H : Heap} {Q : Post} : W T (.reg F_ref08_Parser17) env H Q ↔ WR T F_ref08_Parser17 [
  ⟨some 71, .mv (.t 7), none⟩,
  ⟨some 72, .mv (.t 4), none⟩,
  ⟨some 73, .mv (.t 10), none⟩,
  ⟨some 74, .ixa 7 (.t 72) (.t 73), none⟩,
  ⟨some 75, .loadN 7 (.t 74), none⟩,
  ⟨some 76, .bsli 7 1 [.int .u32 0, .int .u32 0, .int .u64 0, .int .u64 0, .int .u64 0, .int .u64 0, .int .u64 0] [(0, (.t 75))], none⟩,
  ⟨some 77, .app 7 48 (.t 71) (.t 76), none⟩,
  ⟨some 7, .mv (.t 77), none⟩] env H none [] Q := w_reg
def F_ref08_Parser18 : List IStmt := [
  ⟨some 79, .bin .eql (.t 37) (.c (.int .u32 1685382482)), none⟩,
  ⟨some 78, .mv (.t 79), none⟩]
theorem F_ref08_Parser18_W {T : Tab} {env : Env} {H : Heap} {Q : Post} : W T (.reg F_ref08_Parser18) env H Q ↔ WR T F_ref08_Parser18 [
  ⟨some 79, .bin .eql (.t 37) (.c (.int .u32 1685382482)), none⟩,
  ⟨some 78, .mv (.t 79), none⟩] env H none [] Q := w_reg
def F_ref08_Parser19 : List IStmt := [
  ⟨some 80, .mv (.t 8), none⟩,
  ⟨some 81, .mv (.t 4), none⟩,
  ⟨some 82, .mv (.t 10), none⟩,
  ⟨some 83, .ixa 7 (.t 81) (.t 82), none⟩,
  ⟨some 84, .loadN 7 (.t 83), none⟩,
  ⟨some 85, .bsli 7 1 [.int .u32 0, .int .u32 0, .int .u64 0, .int .u64 0, .int .u64 0, .int .u64 0, .int .u64 0] [(0, (.t 84))], none⟩,
  ⟨some 86, .app 7 48 (.t 80) (.t 85), none⟩,
  ⟨some 8, .mv (.t 86), none⟩]
theorem F_ref08_Parser19_W {T : Tab} {env : Env} {H : Heap} {Q : Post} : W T (.reg F_ref08_Parser19) env H Q ↔ WR T F_ref08_Parser19 [
  ⟨some 80, .mv (.t 8), none⟩,
  ⟨some 81, .mv (.t 4), none⟩,
  ⟨some 82, .mv (.t 10), none⟩,
  ⟨some 83, .ixa 7 (.t 81) (.t 82), none⟩,
  ⟨some 84, .loadN 7 (.t 83), none⟩,
  ⟨some 85, .bsli 7 1 [.int .u32 0, .int .u32 0, .int .u64 0, .int .u64 0, .int .u64 0, .int .u64 0, .int .u64 0] [(0, (.t 84))], none⟩,
  ⟨some 86, .app 7 48 (.t 80) (.t 85), none⟩,
  ⟨some 8, .mv (.t 86), none⟩] env H none [] Q := w_reg
def F_ref08_Parser9 : List IStmt := [
  ⟨some 31, .mv (.t 10), none⟩,
  ⟨some 32, .bin .add (.t 31) (.c (.int .i64 1)), none⟩,
  ⟨some 10, .mv (.t 32), none⟩]
theorem F_ref08_Parser9_W {T : Tab} {env : Env} {H : Heap} {Q : Post} : W T (.reg F_ref08_Parser9) env H Q ↔ WR T F_ref08_Parser9 [
  ⟨some 31, .mv (.t 10), none⟩,
  ⟨some 32, .bin .add (.t 31) (.c (.int .i64 1)), none⟩,
  ⟨some 10, .mv (.t 32), none⟩] env H none [] Q := w_reg
def F_ref08_Parsel0 : ICode := (.seq (.seq (.reg F_ref08_Parser8) (.cond (.t 30) .skip (.exit 0))) (.seq (.block 1 (.seq (.reg F_ref08_Parser10) (.block 2 (.seq (.reg F_ref08_Parser11) (.cond (.t 38) (.seq (.seq (.dreg F_ref08_Parser12 []) (.cond (.t 53) (.seq (.reg F_ref08_Parser13) .ret) .skip)) (.seq (.reg F_ref08_Parser14) (.dreg F_ref08_Parser15 []))) (.seq (.reg F_ref08_Parser16) (.cond (.t 69) (.reg F_ref08_Parser17) (.seq (.reg F_ref08_Parser18) (.cond (.t 78) (.reg F_ref08_Parser19) .skip))))))))) (.reg F_ref08_Parser9)))
theorem F_ref08_Parsel0_W {T : Tab} {env : Env} {H : Heap} {Q : Post} : W T F_ref08_Parsel0 env H Q ↔ W T (.seq (.seq (.reg F_ref08_Parser8) (.cond (.t 30) .skip (.exit 0))) (.seq (.block 1 (.seq (.reg F_ref08_Parser10) (.block 2 (.seq (.reg F_ref08_Parser11) (.cond (.t 38) (.seq (.seq (.dreg F_ref08_Parser12 []) (.cond (.t 53) (.seq (.reg F_ref08_Parser13) .ret) .skip)) (.seq (.reg F_ref08_Parser14) (.dreg F_ref08_Parser15 []))) (.seq (.reg F_ref08_Parser16) (.cond (.t 69) (.reg F_ref08_Parser17) (.seq (.reg F_ref08_Parser18) (.cond (.t 78) (.reg F_ref08_Parser19) .skip))))))))) (.reg F_ref08_Parser9))) env H Q := Iff.rfl
def F_ref08_Parser20 : List IStmt := [
  ⟨some 87, .fa 1 (.t 6), none⟩,
  ⟨some 88, .load (.t 87), none⟩,
  ⟨some 89, .len 1 (.t 88), none⟩,
  ⟨some 90, .bin .eql (.t 89) (.c (.int .i64 0)), none⟩]
theorem F_ref08_Parser20_W {T : Tab} {env : Env} {H : Heap} {Q : Post} : W T (.reg F_ref08_Parser20) env H Q ↔ WR T F_ref08_Parser20 [
  ⟨some 87, .fa 1 (.t 6), none⟩,
  ⟨some 88, .load (.t 87), none⟩,
  ⟨some 89, .len 1 (.t 88), none⟩,
  ⟨some 90, .bin .eql (.t 89) (.c (.int .i64 0)), none⟩] env H none [] Q := w_reg
def F_ref08_Parser21 : List IStmt := [
  ⟨some 91, .bld [.int .u16 0, .slice none 0 0, .int .u32 0, .int .u32 0, .int .u64 0, .int .u64 0, .int .u64 0, .int .u64 0, .int .u64 0, .int .u32 0, .int .u32 0, .int .u64 0, .int .u64 0, .int .u64 0, .int .u64 0, .int .u64 0] [], none⟩,
  ⟨none, .store 16 (.t 2) (.t 91), none⟩,
  ⟨some 3, .mv (.c (.int .i64 85)), none⟩]
theorem F_ref08_Parser21_W {T : Tab} {env : Env} {H : Heap} {Q : Post} : W T (.reg F_ref08_Parser21) env H Q ↔ WR T F_ref08_Parser21 [
  ⟨some 91, .bld [.int .u16 0, .slice none 0 0, .int .u32 0, .int .u32 0, .int .u64 0, .int .u64 0, .int .u64 0, .int .u64 0, .int .u64 0, .int .u32 0, .int .u32 0, .int .u64 0, .int .u64 0, .int .u64 0, .int .u64 0, .int .u64 0] [], none⟩,
  ⟨none, .store 16 (.t 2) (.t 91), none⟩,
  ⟨some 3, .mv (.c (.int .i64 85)), none⟩] env H none [] Q := w_reg
def F_ref08_Parser22 : List IStmt := [
  ⟨some 92, .mv (.t 7), none⟩,
  ⟨some 93, .len 1 (.t 92), none⟩,
  ⟨some 94, .bin .neq (.t 93) (.c (.int .i64 1)), none⟩,
  ⟨some 95, .mv (.t 94), none⟩,
  ⟨some 96, .mv (.t 7), some (3, false)⟩,
  ⟨some 97, .ixa 7 (.t 96) (.c (.int .i64 0)), some (3, false)⟩,
  ⟨some 98, .fa 4 (.t 97), some (3, false)⟩,
  ⟨some 99, .load (.t 98), some (3, false)⟩,
  ⟨some 100, .bin .eql (.t 99) (.c (.int .u64 0)), some (3, false)⟩,
  ⟨some 101, .pick (.t 95) (.c (.bool true)) (.t 100), none⟩,
  ⟨some 102, .mv (.t 101), none⟩,
  ⟨some 103, .mv (.t 7), some (10, false)⟩,
  ⟨some 104, .ixa 7 (.t 103) (.c (.int .i64 0)), some (10, false)⟩,
  ⟨some 105, .fa 3 (.t 104), some (10, false)⟩,
  ⟨some 106, .load (.t 105), some (10, false)⟩,
  ⟨some 107, .bin .rem (.t 106) (.c (.int .u64 8)), some (10, false)⟩,
  ⟨some 108, .bin .neq (.t 107) (.c (.int .u64 0)), some (10, false)⟩,
  ⟨some 109, .pick (.t 102) (.c (.bool true)) (.t 108), none⟩]
theorem F_ref08_Parser22_W {T : Tab} {env : Env} {H : Heap} {Q : Post} : W T (.reg F_ref08_Parser22) env H Q ↔ WR T F_ref08_Parser22 [
  ⟨some 92, .mv (.t 7), none⟩,
  ⟨some 93, .len 1 (.t 92), none⟩,
  ⟨some 94, .bin .neq (.t 93) (.c (.int .i64 1)), none⟩,
  ⟨some 95, .mv (.t 94), none⟩,
  ⟨some 96, .mv (.t 7), some (3, false)⟩,
  ⟨some 97, .ixa 7 (.t 96) (.c (.int .i64 0)), some (3, false)⟩,
  ⟨some 98, .fa 4 (.t 97), some (3, false)⟩,
  ⟨some 99, .load (.t 98), some (3, false)⟩,
  ⟨some 100, .bin .eql (.t 99) (.c (.int .u64 0)), some (3, false)⟩,
  ⟨some 101, .pick (.t 95) (.c (.bool true)) (.t 100), none⟩,
  ⟨some 102, .mv (.t 101), none⟩,
  ⟨some 103, .mv (.t 7), some (10, false)⟩,
  ⟨some 104, .ixa 7 (.t 103) (.c (.int .i64 0)), some (10, false)⟩,
  ⟨some 105, .fa 3 (.t 104), some (10, false)⟩,
  ⟨some 106, .load (.t 105), some (10, false)⟩,
  ⟨some 107, .bin .rem (.t 106) (.c (.int .u64 8)), some (10, false)⟩,
  ⟨some 108, .bin .neq (.t 107) (.c (.int .u64 0)), some (10, false)⟩,
  ⟨some 109, .pick (.t 102) (.c (.bool true)) (.t 108), none⟩] env H none [] Q := w_reg
theorem F_ref08_Parser22_g3 {env : Env} : yieldI F_ref08_Parser22 env 3 = bOf (env 95) := rfl
theorem F_ref08_Parser22_g10 {env : Env} : yieldI F_ref08_Parser22 env 10 = bOf (env 102) := rfl
def F_ref08_Parser23 : List IStmt := [
  ⟨some 110, .bld [.int .u16 0, .slice none 0 0, .int .u32 0, .int .u32 0, .int .u64 0, .int .u64 0, .int .u64 0, .int .u64 0, .int .u64 0, .int .u32 0, .int .u32 0, .int .u64 0, .int .u64 0, .int .u64 0, .int .u64 0, .int .u64 0] [], none⟩,
  ⟨none, .store 16 (.t 2) (.t 110), none⟩,
  ⟨some 3, .mv (.c (.int .i64 86)), none⟩]
theorem F_ref08_Parser23_W {T : Tab} {env : Env} {H : Heap} {Q : Post} : W T (.reg F_ref08_Parser23) env H Q ↔ WR T F_ref08_Parser23 [
  ⟨some 110, .bld [.int .u16 0, .slice none 0 0, .int .u32 0, .int .u32 0, .int .u64 0, .int .u64 0, .int .u64 0, .int .u64 0, .int .u64 0, .int .u32 0, .int .u32 0, .int .u64 0, .int .u64 0, .int .u64 0, .int .u64 0, .int .u64 0] [], none⟩,
  ⟨none, .store 16 (.t 2) (.t 110), none⟩,
  ⟨some 3, .mv (.c (.int .i64 86)), none⟩] env H none [] Q := w_reg
def F_ref08_Parser24 : List IStmt := [
  ⟨some 111, .mv (.t 7), none⟩,
  ⟨some 112, .ixa 7 (.t 111) (.c (.int .i64 0)), none⟩,
  ⟨some 113, .loadN 7 (.t 112), none⟩,
  ⟨some 114, .fa 2 (.t 6), none⟩,
  ⟨none, .store 7 (.t 114) (.t 113), none⟩]
theorem F_ref08_Parser24_W {T : Tab} {env : Env} {H : Heap} {Q : Post} : W T (.reg F_ref08_Parser24) env H Q ↔ WR T F_ref08_Parser24 [
  ⟨some 111, .mv (.t 7), none⟩,
  ⟨some 112, .ixa 7 (.t 111) (.c (.int .i64 0)), none⟩,
  ⟨some 113, .loadN 7 (.t 112), none⟩,
  ⟨some 114, .fa 2 (.t 6), none⟩,
  ⟨none, .store 7 (.t 114) (.t 113), none⟩] env H none [] Q := w_reg
def F_ref08_Parser25 : List IStmt := [
  ⟨some 116, .loadN 16 (.t 6), none⟩,
  ⟨some 117, .fa 2 (.t 6), none⟩,
  ⟨some 118, .fa 3 (.t 117), none⟩,
  ⟨some 119, .load (.t 118), none⟩,
  ⟨some 120, .fa 2 (.t 6), none⟩,
  ⟨some 121, .fa 4 (.t 120), none⟩,
  ⟨some 122, .load (.t 121), none⟩,
  ⟨some 123, .calll 50 [(.t 116), (.t 119), (.t 122)], none⟩,
  ⟨some 115, .mv (.t 123), none⟩,
  ⟨some 124, .ext (.t 115) 0, none⟩,
  ⟨some 125, .ext (.t 115) 1, none⟩,
  ⟨some 11, .mv (.t 124), none⟩,
  ⟨some 12, .mv (.t 125), none⟩]
theorem F_ref08_Parser25_W {T : Tab} {env : Env} {H : Heap} {Q : Post} : W T (.reg F_ref08_Parser25) env H Q ↔ WR T F_ref08_Parser25 [
  ⟨some 116, .loadN 16 (.t 6), none⟩,
  ⟨some 117, .fa 2 (.t 6), none⟩,
  ⟨some 118, .fa 3 (.t 117), none⟩,
  ⟨some 119, .load (.t 118), none⟩,
  ⟨some 120, .fa 2 (.t 6), none⟩,
  ⟨some 121, .fa 4 (.t 120), none⟩,
  ⟨some 122, .load (.t 121), none⟩,
  ⟨some 123, .calll 50 [(.t 116), (.t 119), (.t 122)], none⟩,
  ⟨some 115, .mv (.t 123), none⟩,
  ⟨some 124, .ext (.t 115) 0, none⟩,
  ⟨some 125, .ext (.t 115) 1, none⟩,
  ⟨some 11, .mv (.t 124), none⟩,
  ⟨some 12, .mv (.t 125), none⟩] env H none [] Q := w_reg
def F_ref08_Parser26 : List IStmt := [
  ⟨some 126, .mv (.t 12), none⟩,
  ⟨some 127, .un .not (.t 126), none⟩]
theorem F_ref08_Parser26_W {T : Tab} {env : Env} {H : Heap} {Q : Post} : W T (.reg F_ref08_Parser26) env H Q ↔ WR T F_ref08_Parser26 [
  ⟨some 126, .mv (.t 12), none⟩,
  ⟨some 127, .un .not (.t 126), none⟩] env H none [] Q := w_reg
def F_ref08_Parser27 : List IStmt := [
  ⟨some 128, .bld [.int .u16 0, .slice none 0 0, .int .u32 0, .int .u32 0, .int .u64 0, .int .u64 0, .int .u64 0, .int .u64 0, .int .u64 0, .int .u32 0, .int .u32 0, .int .u64 0, .int .u64 0, .int .u64 0, .int .u64 0, .int .u64 0] [], none⟩,
  ⟨none, .store 16 (.t 2) (.t 128), none⟩,
  ⟨some 3, .mv (.c (.int .i64 86)), none⟩]
theorem F_ref08_Parser27_W {T : Tab} {env : Env} {H : Heap} {Q : Post} : W T (.reg F_ref08_Parser27) env H Q ↔ WR T F_ref08_Parser27 [
  ⟨some 128, .bld [.int .u16 0, .slice none 0 0, .int .u32 0, .int .u32 0, .int .u64 0, .int .u64 0, .int .u64 0, .int .u64 0, .int .u64 0, .int .u32 0, .int .u32 0, .int .u64 0, .int .u64 0, .int .u64 0, .int .u64 0, .int .u64 0] [], none⟩,
  ⟨none, .store 16 (.t 2) (.t 128), none⟩,
  ⟨some 3, .mv (.c (.int .i64 86)), none⟩] env H none [] Q := w_reg
def F_ref08_Parser28 : List IStmt := [
  ⟨some 129, .mv (.t 8), none⟩,
  ⟨some 130, .len 1 (.t 129), none⟩,
  ⟨some 131, .bin .eql (.t 130) (.c (.int .i64 0)), none⟩]
theorem F_ref08_Parser28_W {T : Tab} {env : Env} {H : Heap} {Q : Post} : W T (.reg F_ref08_Parser28) env H Q ↔ WR T F_ref08_Parser28 [
  ⟨some 129, .mv (.t 8), none⟩,
  ⟨some 130, .len 1 (.t 129), none⟩,
  ⟨some 131, .bin .eql (.t 130) (.c (.int .i64 0)), none⟩] env H none [] Q := w_reg
def F_ref08_Parser29 : List IStmt := [
  ⟨some 132, .loadN 16 (.t 6), none⟩,
  ⟨none, .store 16 (.t 2) (.t 132), none⟩,
  ⟨some 3, .mv (.c (.int .i64 0)), none⟩]
theorem F_ref08_Parser29_W {T : Tab} {env : Env} {H : Heap} {Q : Post} : W T (.reg F_ref08_Parser29) env H Q ↔ WR T F_ref08_Parser29 [
  ⟨some 132, .loadN 16 (.t 6), none⟩,
  ⟨none, .store 16 (.t 2) (.t 132), none⟩,
  ⟨some 3, .mv (.c (.int .i64 0)), none⟩] env H none [] Q := w_reg
def F_ref08_Parser30 : List IStmt := [
  ⟨some 133, .mv (.t 8), none⟩,
  ⟨some 134, .ixa 7 (.t 133) (.c (.int .i64 0)), none⟩,
  ⟨some 135, .loadN 7 (.t 134), none⟩,
  ⟨some 136, .fa 9 (.t 6), none⟩,
  ⟨none, .store 7 (.t 136) (.t 135), none⟩]
theorem F_ref08_Parser30_W {T : Tab} {env : Env} {H : Heap} {Q : Post} : W T (.reg F_ref08_Parser30) env H Q ↔ WR T F_ref08_Parser30 [
  ⟨some 133, .mv (.t 8), none⟩,
  ⟨some 134, .ixa 7 (.t 133) (.c (.int .i64 0)), none⟩,
  ⟨some 135, .loadN 7 (.t 134), none⟩,
  ⟨some 136, .fa 9 (.t 6), none⟩,
  ⟨none, .store 7 (.t 136) (.t 135), none⟩] env H none [] Q := w_reg
def F_ref08_Parser31 : List IStmt := [
  ⟨some 137, .loadN 16 (.t 6), none⟩,
  ⟨some 138, .fa 9 (.t 6), none⟩,
  ⟨some 139, .fa 3 (.t 138), none⟩,
  ⟨some 140, .load (.t 139), none⟩,
  ⟨some 141, .fa 9 (.t 6), none⟩,
  ⟨some 142, .fa 5 (.t 141), none⟩,
  ⟨some 143, .load (.t 142), none⟩,
  ⟨some 144, .calll 51 [(.t 137), (.t 140), (.t 143)], none⟩,
  ⟨some 13, .mv (.t 144), none⟩]
theorem F_ref08_Parser31_W {T : Tab} {env : Env} {H : Heap} {Q : Post} : W T (.reg F_ref08_Parser31) env H Q ↔ WR T F_ref08_Parser31 [
  ⟨some 137, .loadN 16 (.t 6), none⟩,
  ⟨some 138, .fa 9 (.t 6), none⟩,
  ⟨some 139, .fa 3 (.t 138), none⟩,
  ⟨some 140, .load (.t 139), none⟩,
  ⟨some 141, .fa 9 (.t 6), none⟩,
  ⟨some 142, .fa 5 (.t 141), none⟩,
  ⟨some 143, .load (.t 142), none⟩,
  ⟨some 144, .calll 51 [(.t 137), (.t 140), (.t 143)], none⟩,
  ⟨some 13, .mv (.t 144), none⟩] env H none [] Q := w_reg
def F_ref08_Parser32 : List IStmt := [
  ⟨some 145, .mv (.t 8), none⟩,
  ⟨some 146, .len 1 (.t 145), none⟩,
  ⟨some 147, .bin .gtr (.t 146) (.c (.int .i64 1)), none⟩,
  ⟨some 148, .mv (.t 147), none⟩,
  ⟨some 149, .fa 9 (.t 6), some (3, false)⟩,
  ⟨some 150, .fa 5 (.t 149), some (3, false)⟩,
  ⟨some 151, .load (.t 150), some (3, false)⟩,
  ⟨some 152, .bin .eql (.t 151) (.c (.int .u64 0)), some (3, false)⟩,
  ⟨some 153, .pick (.t 148) (.c (.bool true)) (.t 152), none⟩,
  ⟨some 154, .mv (.t 153), none⟩,
  ⟨some 155, .fa 9 (.t 6), some (9, false)⟩,
  ⟨some 156, .fa 3 (.t 155), some (9, false)⟩,
  ⟨some 157, .load (.t 156), some (9, false)⟩,
  ⟨some 158, .bin .rem (.t 157) (.c (.int .u64 256)), some (9, false)⟩,
  ⟨some 159, .bin .neq (.t 158) (.c (.int .u64 0)), some (9, false)⟩,
  ⟨some 160, .pick (.t 154) (.c (.bool true)) (.t 159), none⟩,
  ⟨some 161, .mv (.t 160), none⟩,
  ⟨some 162, .mv (.t 13), some (16, false)⟩,
  ⟨some 163, .bin .lss (.t 162) (.c (.int .i64 0)), some (16, false)⟩,
  ⟨some 164, .pick (.t 161) (.c (.bool true)) (.t 163), none⟩,
  ⟨some 165, .mv (.t 164), none⟩,
  ⟨some 166, .fa 1 (.t 6), some (20, false)⟩,
  ⟨some 167, .load (.t 166), some (20, false)⟩,
  ⟨some 168, .mv (.t 13), some (20, false)⟩,
  ⟨some 169, .ixa 7 (.t 167) (.t 168), some (20, false)⟩,
  ⟨some 170, .fa 1 (.t 169), some (20, false)⟩,
  ⟨some 171, .load (.t 170), some (20, false)⟩,
  ⟨some 172, .bin .quo (.t 171) (.c (.int .u32 2)), some (20, false)⟩,
  ⟨some 173, .bin .rem (.t 172) (.c (.int .u32 2)), some (20, false)⟩,
  ⟨some 174, .bin .eql (.t 173) (.c (.int .u32 0)), some (20, false)⟩,
  ⟨some 175, .pick (.t 165) (.c (.bool true)) (.t 174), none⟩]
theorem F_ref08_Parser32_W {T : Tab} {env : Env} {H : Heap} {Q : Post} : W T (.reg F_ref08_Parser32) env H Q ↔ WR T F_ref08_Parser32 [
  ⟨some 145, .mv (.t 8), none⟩,
  ⟨some 146, .len 1 (.t 145), none⟩,
  ⟨some 147, .bin .gtr (.t 146) (.c (.int .i64 1)), none⟩,
  ⟨some 148, .mv (.t 147), none⟩,
  ⟨some 149, .fa 9 (.t 6), some (3, false)⟩,
  ⟨some 150, .fa 5 (.t 149), some (3, false)⟩,
  ⟨some 151, .load (.t 150), some (3, false)⟩,
  ⟨some 152, .bin .eql (.t 151) (.c (.int .u64 0)), some (3, false)⟩,
  ⟨some 153, .pick (.t 148) (.c (.bool true)) (.t 152), none⟩,
  ⟨some 154, .mv (.t 153), none⟩,
  ⟨some 155, .fa 9 (.t 6), some (9, false)⟩,
  ⟨some 156, .fa 3 (.t 155), some (9, false)⟩,
  ⟨some 157, .load (.t 156), some (9, false)⟩,
  ⟨some 158, .bin .rem (.t 157) (.c (.int .u64 256)), some (9, false)⟩,
  ⟨some 159, .bin .neq (.t 158) (.c (.int .u64 0)), some (9, false)⟩,
  ⟨some 160, .pick (.t 154) (.c (.bool true)) (.t 159), none⟩,
  ⟨some 161, .mv (.t 160), none⟩,
  ⟨some 162, .mv (.t 13), some (16, false)⟩,
  ⟨some 163, .bin .lss (.t 162) (.c (.int .i64 0)), some (16, false)⟩,
  ⟨some 164, .pick (.t 161) (.c (.bool true)) (.t 163), none⟩,
  ⟨some 165, .mv (.t 164), none⟩,
  ⟨some 166, .fa 1 (.t 6), some (20, false)⟩,
  ⟨some 167, .load (.t 166), some (20, false)⟩,
  ⟨some 168, .mv (.t 13), some (20, false)⟩,
  ⟨some 169, .ixa 7 (.t 167) (.t 168), some (20, false)⟩,
  ⟨some 170, .fa 1 (.t 169), some (20, false)⟩,
  ⟨some 171, .load (.t 170), some (20, false)⟩,
  ⟨some 172, .bin .quo (.t 171) (.c (.int .u32 2)), some (20, false)⟩,
  ⟨some 173, .bin .rem (.t 172) (.c (.int .u32 2)), some (20, false)⟩,
  ⟨some 174, .bin .eql (.t 173) (.c (.int .u32 0)), some (20, false)⟩,
  ⟨some 175, .pick (.t 165) (.c (.bool true)) (.t 174), none⟩] env H none [] Q := w_reg
theorem F_ref08_Parser32_g3 {env : Env} : yieldI F_ref08_Parser32 env 3 = bOf (env 148) := rfl
theorem F_ref08_Parser32_g9 {env : Env} : yieldI F_ref08_Parser32 env 9 = bOf (env 154) := rfl
theorem F_ref08_Parser32_g16 {env : Env} : yieldI F_ref08_Parser32 env 16 = bOf (env 161) := rfl
theorem F_ref08_Parser32_g20 {env : Env} : yieldI F_ref08_Parser32 env 20 = bOf (env 165) := rfl
def F_ref08_Parser33 : List IStmt := [
  ⟨some 176, .bld [.int .u16 0, .slice none 0 0, .int .u32 0, .int .u32 0, .int .u64 0, .int .u64 0, .int .u64 0, .int .u64 0, .int .u64 0, .int .u32 0, .int .u32 0, .int .u64 0, .int .u64 0, .int .u64 0, .int .u64 0, .int .u64 0] [], none⟩,
  ⟨none, .store 16 (.t 2) (.t 176), none⟩,
  ⟨some 3, .mv (.c (.int .i64 87)), none⟩]
theorem F_ref08_Parser33_W {T : Tab} {env : Env} {H : Heap} {Q : Post} : W T (.reg F_ref08_Parser33) env H Q ↔ WR T F_ref08_Parser33 [
  ⟨some 176, .bld [.int .u16 0, .slice none 0 0, .int .u32 0, .int .u32 0, .int .u64 0, .int .u64 0, .int .u64 0, .int .u64 0, .int .u64 0, .int .u32 0, .int .u32 0, .int .u64 0, .int .u64 0, .int .u64 0, .int .u64 0, .int .u64 0] [], none⟩,
  ⟨none, .store 16 (.t 2) (.t 176), none⟩,
  ⟨some 3, .mv (.c (.int .i64 87)), none⟩] env H none [] Q := w_reg
def F_ref08_Parser34 : List IStmt := [
  ⟨some 177, .loadN 16 (.t 6), none⟩,
  ⟨none, .store 16 (.t 2) (.t 177), none⟩,
  ⟨some 3, .mv (.c (.int .i64 0)), none⟩]
theorem F_ref08_Parser34_W {T : Tab} {env : Env} {H : Heap} {Q : Post} : W T (.reg F_ref08_Parser34) env H Q ↔ WR T F_ref08_Parser34 [
  ⟨some 177, .loadN 16 (.t 6), none⟩,
  ⟨none, .store 16 (.t 2) (.t 177), none⟩,
  ⟨some 3, .mv (.c (.int .i64 0)), none⟩] env H none [] Q := w_reg
def F_ref08_Parsec : ICode := (.seq (.reg F_ref08_Parser0) (.seq (.reg F_ref08_Parser1) (.seq (.seq (.reg F_ref08_Parser2) (.cond (.t 20) (.seq (.reg F_ref08_Parser3) .ret) .skip)) (.seq (.reg F_ref08_Parser4) (.seq (.reg F_ref08_Parser5) (.seq (.reg F_ref08_Parser6) (.seq (.seq (.reg F_ref08_Parser7) (.block 0 (.loop F_ref08_Parsel0))) (.seq (.seq (.reg F_ref08_Parser20) (.cond (.t 90) (.seq (.reg F_ref08_Parser21) .ret) .skip)) (.seq (.seq (.reg F_ref08_Parser22) (.cond (.t 109) (.seq (.reg F_ref08_Parser23) .ret) .skip)) (.seq (.reg F_ref08_Parser24) (.seq (.reg F_ref08_Parser25) (.seq (.seq (.reg F_ref08_Parser26) (.cond (.t 127) (.seq (.reg F_ref08_Parser27) .ret) .skip)) (.seq (.seq (.reg F_ref08_Parser28) (.cond (.t 131) (.seq (.reg F_ref08_Parser29) .ret) .skip)) (.seq (.reg F_ref08_Parser30) (.seq (.reg F_ref08_Parser31) (.seq (.seq (.reg F_ref08_Parser32) (.cond (.t 175) (.seq (.reg F_ref08_Parser33) .ret) .skip)) (.seq (.reg F_ref08_Parser34) .ret)))))))))))))))))
theorem F_ref08_Parsec_W {T : Tab} {env : Env} {H : Heap} {Q : Post} : W T F_ref08_Parsec env H Q ↔ W T (.seq (.reg F_ref08_Parser0) (.seq (.reg F_ref08_Parser1) (.seq (.seq (.reg F_ref08_Parser2) (.cond (.t 20) (.seq (.reg F_ref08_Parser3) .ret) .skip)) (.seq (.reg F_ref08_Parser4) (.seq (.reg F_ref08_Parser5) (.seq (.reg F_ref08_Parser6) (.seq (.seq (.reg F_ref08_Parser7) (.block 0 (.loop F_ref08_Parsel0))) (.seq (.seq (.reg F_ref08_Parser20) (.cond (.t 90) (.seq (.reg F_ref08_Parser21) .ret) .skip)) (.seq (.seq (.reg F_ref08_Parser22) (.cond (.t 109) (.seq (.reg F_ref08_Parser23) .ret) .skip)) (.seq (.reg F_ref08_Parser24) (.seq (.reg F_ref08_Parser25) (.seq (.seq (.reg F_ref08_Parser26) (.cond (.t 127) (.seq (.reg F_ref08_Parser27) .ret) .skip)) (.seq (.seq (.reg F_ref08_Parser28) (.cond (.t 131) (.seq (.reg F_ref08_Parser29) .ret) .skip)) (.seq (.reg F_ref08_Parser30) (.seq (.reg F_ref08_Parser31) (.seq (.seq (.reg F_ref08_Parser32) (.cond (.t 175) (.seq (.reg F_ref08_Parser33) .ret) .skip)) (.seq (.reg F_ref08_Parser34) .ret))))))))))))))))) env H Q := Iff.rfl
def F_ref08_Parse : IFn := ⟨178, [.cell 2 (some 16), .tmp 3], F_ref08_Parsec⟩
set_option maxRecDepth 1000000 in
theorem F_ref08_Parse_chk : chkF Try.prog 31 F_ref08_Parse = true := by kernel_rfl

/-- The functions, by number. -/
def TDya_l : List (Nat × IFn) := [(76, F_num_Sub), (74, F_num_Inside), (73, F_le_get), (63, F_le_U64), (65, F_le_Part), (75, F_le_Plain), (70, F_le_Text), (72, F_ref01_Sum), (71, F_ref01_Less), (61, F_ref01_Inside), (62, F_ref02_Get), (35, F_ref02_Plain), (52, F_ref02_Put), (54, F_ref02_Zeros), (47, F_ref08_N), (46, F_ref08_Table), (49, F_ref08_End), (48, F_ref08_may), (50, F_ref08_Off), (51, F_ref08_Holder), (31, F_ref08_Parse)]
def TDya : Tab := tabOf TDya_l
theorem TDya_chk : ∀ p ∈ TDya_l, chkF Try.prog p.1 p.2 = true := by
  intro p hp
  simp only [TDya_l, List.mem_cons, List.not_mem_nil, or_false] at hp
  rcases hp with rfl | rfl | rfl | rfl | rfl | rfl | rfl | rfl | rfl | rfl | rfl | rfl | rfl | rfl | rfl | rfl | rfl | rfl | rfl | rfl | rfl
  · exact F_num_Sub_chk
  · exact F_num_Inside_chk
  · exact F_le_get_chk
  · exact F_le_U64_chk
  · exact F_le_Part_chk
  · exact F_le_Plain_chk
  · exact F_le_Text_chk
  · exact F_ref01_Sum_chk
  · exact F_ref01_Less_chk
  · exact F_ref01_Inside_chk
  · exact F_ref02_Get_chk
  · exact F_ref02_Plain_chk
  · exact F_ref02_Put_chk
  · exact F_ref02_Zeros_chk
  · exact F_ref08_N_chk
  · exact F_ref08_Table_chk
  · exact F_ref08_End_chk
  · exact F_ref08_may_chk
  · exact F_ref08_Off_chk
  · exact F_ref08_Holder_chk
  · exact F_ref08_Parse_chk
theorem TDya_good : Good Try.prog TDya := good_tab (by kernel_rfl) TDya_chk

end Go.Proofs.Ytdkdifjjpbfohaa
