/- The small language's text of functions of the given program, and the check that it stands for them. Printed by a program. -/
import Derived.Test.YtleogcfmlpmbiaaFw24
import Derived.Test.YtleogcfmlpmbiaaChecked
import Derived.KernelRfl
namespace Go.Proofs.Ytleogcfmlpmbiaa
open Go Fw

/-! ### num_Sub -/
def F_num_Subr0 : List IStmt := [
  ⟨some 4, .mv (.c (.int .u64 0)), none⟩,
  ⟨some 5, .mv (.c (.bool false)), none⟩]
theorem F_num_Subr0_W {T : Tab} {env : Env} {H : Heap} {Q : Post} : W T (.reg F_num_Subr0) env H Q ↔ WR T F_num_Subr0 [
  ⟨some 4, .mv (.c (.int .u64 0)), none⟩,
  ⟨some 5, .mv (.c (.bool false)), none⟩] env H none [] Q := w_reg
def F_num_Subr1 : List IStmt := [
  ⟨some 6, .mv (.t 0), none⟩,
  ⟨some 7, .mv (.t 1), none⟩,
  ⟨some 8, .bin .lss (.t 6) (.t 7), none⟩]
theorem F_num_Subr1_W {T : Tab} {env : Env} {H : Heap} {Q : Post} : W T (.reg F_num_Subr1) env H Q ↔ WR T F_num_Subr1 [
  ⟨some 6, .mv (.t 0), none⟩,
  ⟨some 7, .mv (.t 1), none⟩,
  ⟨some 8, .bin .lss (.t 6) (.t 7), none⟩] env H none [] Q := w_reg
def F_num_Subr2 : List IStmt := [
  ⟨some 4, .mv (.c (.int .u64 0)), none⟩,
  ⟨some 5, .mv (.c (.bool false)), none⟩]
theorem F_num_Subr2_W {T : Tab} {env : Env} {H : Heap} {Q : Post} : W T (.reg F_num_Subr2) env H Q ↔ WR T F_num_Subr2 [
  ⟨some 4, .mv (.c (.int .u64 0)), none⟩,
  ⟨some 5, .mv (.c (.bool false)), none⟩] env H none [] Q := w_reg
def F_num_Subr3 : List IStmt := [
  ⟨some 9, .mv (.t 0), none⟩,
  ⟨some 10, .mv (.t 1), none⟩,
  ⟨some 11, .bin .sub (.t 9) (.t 10), none⟩,
  ⟨some 4, .mv (.t 11), none⟩,
  ⟨some 5, .mv (.c (.bool true)), none⟩]
theorem F_num_Subr3_W {T : Tab} {env : Env} {H : Heap} {Q : Post} : W T (.reg F_num_Subr3) env H Q ↔ WR T F_num_Subr3 [
  ⟨some 9, .mv (.t 0), none⟩,
  ⟨some 10, .mv (.t 1), none⟩,
  ⟨some 11, .bin .sub (.t 9) (.t 10), none⟩,
  ⟨some 4, .mv (.t 11), none⟩,
  ⟨some 5, .mv (.c (.bool true)), none⟩] env H none [] Q := w_reg
def F_num_Subc : ICode := (.seq (.reg F_num_Subr0) (.seq (.seq (.reg F_num_Subr1) (.cond (.t 8) (.seq (.reg F_num_Subr2) .ret) .skip)) (.seq (.reg F_num_Subr3) .ret)))
theorem F_num_Subc_W {T : Tab} {env : Env} {H : Heap} {Q : Post} : W T F_num_Subc env H Q ↔ W T (.seq (.reg F_num_Subr0) (.seq (.seq (.reg F_num_Subr1) (.cond (.t 8) (.seq (.reg F_num_Subr2) .ret) .skip)) (.seq (.reg F_num_Subr3) .ret))) env H Q := Iff.rfl
def F_num_Sub : IFn := ⟨12, [.tmp 4, .tmp 5], F_num_Subc⟩
set_option maxRecDepth 1000000 in
theorem F_num_Sub_chk : chkF Try.prog 69 F_num_Sub = true := by kernel_rfl

/-! ### num_Inside -/
def F_num_Insider0 : List IStmt := [
  ⟨some 8, .mv (.c (.bool false)), none⟩]
theorem F_num_Insider0_W {T : Tab} {env : Env} {H : Heap} {Q : Post} : W T (.reg F_num_Insider0) env H Q ↔ WR T F_num_Insider0 [
  ⟨some 8, .mv (.c (.bool false)), none⟩] env H none [] Q := w_reg
def F_num_Insider1 : List IStmt := [
  ⟨some 12, .mv (.t 0), none⟩,
  ⟨some 13, .mv (.t 2), none⟩,
  ⟨some 14, .callc 69 [(.t 12), (.t 13)], none⟩,
  ⟨some 11, .mv (.t 14), none⟩,
  ⟨some 15, .ext (.t 11) 0, none⟩,
  ⟨some 16, .ext (.t 11) 1, none⟩,
  ⟨some 9, .mv (.t 15), none⟩,
  ⟨some 10, .mv (.t 16), none⟩]
theorem F_num_Insider1_W {T : Tab} {env : Env} {H : Heap} {Q : Post} : W T (.reg F_num_Insider1) env H Q ↔ WR T F_num_Insider1 [
  ⟨some 12, .mv (.t 0), none⟩,
  ⟨some 13, .mv (.t 2), none⟩,
  ⟨some 14, .callc 69 [(.t 12), (.t 13)], none⟩,
  ⟨some 11, .mv (.t 14), none⟩,
  ⟨some 15, .ext (.t 11) 0, none⟩,
  ⟨some 16, .ext (.t 11) 1, none⟩,
  ⟨some 9, .mv (.t 15), none⟩,
  ⟨some 10, .mv (.t 16), none⟩] env H none [] Q := w_reg
def F_num_Insider2 : List IStmt := [
  ⟨some 17, .mv (.t 10), none⟩,
  ⟨some 18, .mv (.t 17), none⟩,
  ⟨some 19, .mv (.t 9), some (1, true)⟩,
  ⟨some 20, .mv (.t 3), some (1, true)⟩,
  ⟨some 21, .bin .leq (.t 19) (.t 20), some (1, true)⟩,
  ⟨some 22, .pick (.t 18) (.t 21) (.c (.bool false)), none⟩,
  ⟨some 23, .mv (.t 22), none⟩,
  ⟨some 24, .mv (.t 1), some (6, true)⟩,
  ⟨some 25, .mv (.t 3), some (6, true)⟩,
  ⟨some 26, .mv (.t 9), some (6, true)⟩,
  ⟨some 27, .bin .sub (.t 25) (.t 26), some (6, true)⟩,
  ⟨some 28, .bin .leq (.t 24) (.t 27), some (6, true)⟩,
  ⟨some 29, .pick (.t 23) (.t 28) (.c (.bool false)), none⟩,
  ⟨some 8, .mv (.t 29), none⟩]
theorem F_num_Insider2_W {T : Tab} {env : Env} {H : Heap} {Q : Post} : W T (.reg F_num_Insider2) env H Q ↔ WR T F_num_Insider2 [
  ⟨some 17, .mv (.t 10), none⟩,
  ⟨some 18, .mv (.t 17), none⟩,
  ⟨some 19, .mv (.t 9), some (1, true)⟩,
  ⟨some 20, .mv (.t 3), some (1, true)⟩,
  ⟨some 21, .bin .leq (.t 19) (.t 20), some (1, true)⟩,
  ⟨some 22, .pick (.t 18) (.t 21) (.c (.bool false)), none⟩,
  ⟨some 23, .mv (.t 22), none⟩,
  ⟨some 24, .mv (.t 1), some (6, true)⟩,
  ⟨some 25, .mv (.t 3), some (6, true)⟩,
  ⟨some 26, .mv (.t 9), some (6, true)⟩,
  ⟨some 27, .bin .sub (.t 25) (.t 26), some (6, true)⟩,
  ⟨some 28, .bin .leq (.t 24) (.t 27), some (6, true)⟩,
  ⟨some 29, .pick (.t 23) (.t 28) (.c (.bool false)), none⟩,
  ⟨some 8, .mv (.t 29), none⟩] env H none [] Q := w_reg
theorem F_num_Insider2_g1 {env : Env} : yieldI F_num_Insider2 env 1 = bOf (env 18) := rfl
theorem F_num_Insider2_g6 {env : Env} : yieldI F_num_Insider2 env 6 = bOf (env 23) := rfl
def F_num_Insidec : ICode := (.seq (.reg F_num_Insider0) (.seq (.reg F_num_Insider1) (.seq (.reg F_num_Insider2) .ret)))
theorem F_num_Insidec_W {T : Tab} {env : Env} {H : Heap} {Q : Post} : W T F_num_Insidec env H Q ↔ W T (.seq (.reg F_num_Insider0) (.seq (.reg F_num_Insider1) (.seq (.reg F_num_Insider2) .ret))) env H Q := Iff.rfl
def F_num_Inside : IFn := ⟨30, [.tmp 8], F_num_Insidec⟩
set_option maxRecDepth 1000000 in
theorem F_num_Inside_chk : chkF Try.prog 55 F_num_Inside = true := by kernel_rfl

/-! ### num_Power -/
def F_num_Powerr0 : List IStmt := [
  ⟨some 2, .mv (.c (.bool false)), none⟩]
theorem F_num_Powerr0_W {T : Tab} {env : Env} {H : Heap} {Q : Post} : W T (.reg F_num_Powerr0) env H Q ↔ WR T F_num_Powerr0 [
  ⟨some 2, .mv (.c (.bool false)), none⟩] env H none [] Q := w_reg
def F_num_Powerr1 : List IStmt := [
  ⟨some 3, .mv (.t 0), none⟩,
  ⟨some 4, .bin .neq (.t 3) (.c (.int .u64 0)), none⟩,
  ⟨some 5, .mv (.t 4), none⟩,
  ⟨some 6, .mv (.t 0), some (2, true)⟩,
  ⟨some 7, .mv (.t 0), some (2, true)⟩,
  ⟨some 8, .bin .sub (.t 7) (.c (.int .u64 1)), some (2, true)⟩,
  ⟨some 9, .bin .and (.t 6) (.t 8), some (2, true)⟩,
  ⟨some 10, .bin .eql (.t 9) (.c (.int .u64 0)), some (2, true)⟩,
  ⟨some 11, .pick (.t 5) (.t 10) (.c (.bool false)), none⟩,
  ⟨some 2, .mv (.t 11), none⟩]
theorem F_num_Powerr1_W {T : Tab} {env : Env} {H : Heap} {Q : Post} : W T (.reg F_num_Powerr1) env H Q ↔ WR T F_num_Powerr1 [
  ⟨some 3, .mv (.t 0), none⟩,
  ⟨some 4, .bin .neq (.t 3) (.c (.int .u64 0)), none⟩,
  ⟨some 5, .mv (.t 4), none⟩,
  ⟨some 6, .mv (.t 0), some (2, true)⟩,
  ⟨some 7, .mv (.t 0), some (2, true)⟩,
  ⟨some 8, .bin .sub (.t 7) (.c (.int .u64 1)), some (2, true)⟩,
  ⟨some 9, .bin .and (.t 6) (.t 8), some (2, true)⟩,
  ⟨some 10, .bin .eql (.t 9) (.c (.int .u64 0)), some (2, true)⟩,
  ⟨some 11, .pick (.t 5) (.t 10) (.c (.bool false)), none⟩,
  ⟨some 2, .mv (.t 11), none⟩] env H none [] Q := w_reg
theorem F_num_Powerr1_g2 {env : Env} : yieldI F_num_Powerr1 env 2 = bOf (env 5) := rfl
def F_num_Powerc : ICode := (.seq (.reg F_num_Powerr0) (.seq (.reg F_num_Powerr1) .ret))
theorem F_num_Powerc_W {T : Tab} {env : Env} {H : Heap} {Q : Post} : W T F_num_Powerc env H Q ↔ W T (.seq (.reg F_num_Powerr0) (.seq (.reg F_num_Powerr1) .ret)) env H Q := Iff.rfl
def F_num_Power : IFn := ⟨12, [.tmp 2], F_num_Powerc⟩
set_option maxRecDepth 1000000 in
theorem F_num_Power_chk : chkF Try.prog 52 F_num_Power = true := by kernel_rfl

/-! ### le_get -/
def F_le_getr0 : List IStmt := [
  ⟨some 6, .mv (.c (.int .u64 0)), none⟩,
  ⟨some 7, .mv (.c (.int .i64 0)), none⟩]
theorem F_le_getr0_W {T : Tab} {env : Env} {H : Heap} {Q : Post} : W T (.reg F_le_getr0) env H Q ↔ WR T F_le_getr0 [
  ⟨some 6, .mv (.c (.int .u64 0)), none⟩,
  ⟨some 7, .mv (.c (.int .i64 0)), none⟩] env H none [] Q := w_reg
def F_le_getr1 : List IStmt := [
  ⟨some 10, .mv (.t 1), none⟩,
  ⟨some 11, .mv (.t 2), none⟩,
  ⟨some 12, .mv (.t 0), none⟩,
  ⟨some 13, .len 1 (.t 12), none⟩,
  ⟨some 14, .conv .u64 (.t 13), none⟩,
  ⟨some 15, .callc 55 [(.t 10), (.t 11), (.c (.int .u64 0)), (.t 14)], none⟩,
  ⟨some 16, .un .not (.t 15), none⟩]
theorem F_le_getr1_W {T : Tab} {env : Env} {H : Heap} {Q : Post} : W T (.reg F_le_getr1) env H Q ↔ WR T F_le_getr1 [
  ⟨some 10, .mv (.t 1), none⟩,
  ⟨some 11, .mv (.t 2), none⟩,
  ⟨some 12, .mv (.t 0), none⟩,
  ⟨some 13, .len 1 (.t 12), none⟩,
  ⟨some 14, .conv .u64 (.t 13), none⟩,
  ⟨some 15, .callc 55 [(.t 10), (.t 11), (.c (.int .u64 0)), (.t 14)], none⟩,
  ⟨some 16, .un .not (.t 15), none⟩] env H none [] Q := w_reg
def F_le_getr2 : List IStmt := [
  ⟨some 6, .mv (.c (.int .u64 0)), none⟩,
  ⟨some 7, .mv (.c (.int .i64 20)), none⟩]
theorem F_le_getr2_W {T : Tab} {env : Env} {H : Heap} {Q : Post} : W T (.reg F_le_getr2) env H Q ↔ WR T F_le_getr2 [
  ⟨some 6, .mv (.c (.int .u64 0)), none⟩,
  ⟨some 7, .mv (.c (.int .i64 20)), none⟩] env H none [] Q := w_reg
def F_le_getr3 : List IStmt := [
  ⟨some 8, .mv (.c (.int .u64 0)), none⟩]
theorem F_le_getr3_W {T : Tab} {env : Env} {H : Heap} {Q : Post} : W T (.reg F_le_getr3) env H Q ↔ WR T F_le_getr3 [
  ⟨some 8, .mv (.c (.int .u64 0)), none⟩] env H none [] Q := w_reg
def F_le_getr4 : List IStmt := [
  ⟨some 17, .mv (.t 1), none⟩,
  ⟨some 18, .mv (.t 2), none⟩,
  ⟨some 19, .bin .add (.t 17) (.t 18), none⟩,
  ⟨some 20, .bin .sub (.t 19) (.c (.int .u64 1)), none⟩,
  ⟨some 21, .conv .i64 (.t 20), none⟩,
  ⟨some 9, .mv (.t 21), none⟩]
theorem F_le_getr4_W {T : Tab} {env : Env} {H : Heap} {Q : Post} : W T (.reg F_le_getr4) env H Q ↔ WR T F_le_getr4 [
  ⟨some 17, .mv (.t 1), none⟩,
  ⟨some 18, .mv (.t 2), none⟩,
  ⟨some 19, .bin .add (.t 17) (.t 18), none⟩,
  ⟨some 20, .bin .sub (.t 19) (.c (.int .u64 1)), none⟩,
  ⟨some 21, .conv .i64 (.t 20), none⟩,
  ⟨some 9, .mv (.t 21), none⟩] env H none [] Q := w_reg
def F_le_getr5 : List IStmt := [
  ⟨some 22, .mv (.t 9), none⟩,
  ⟨some 23, .mv (.t 1), none⟩,
  ⟨some 24, .conv .i64 (.t 23), none⟩,
  ⟨some 25, .bin .geq (.t 22) (.t 24), none⟩]
theorem F_le_getr5_W {T : Tab} {env : Env} {H : Heap} {Q : Post} : W T (.reg F_le_getr5) env H Q ↔ WR T F_le_getr5 [
  ⟨some 22, .mv (.t 9), none⟩,
  ⟨some 23, .mv (.t 1), none⟩,
  ⟨some 24, .conv .i64 (.t 23), none⟩,
  ⟨some 25, .bin .geq (.t 22) (.t 24), none⟩] env H none [] Q := w_reg
def F_le_getr7 : List IStmt := [
  ⟨some 28, .mv (.t 8), none⟩,
  ⟨some 29, .bin .shl (.t 28) (.c (.int .u64 8)), none⟩,
  ⟨some 30, .mv (.t 0), none⟩,
  ⟨some 31, .mv (.t 9), none⟩,
  ⟨some 32, .ixa 1 (.t 30) (.t 31), none⟩,
  ⟨some 33, .load (.t 32), none⟩,
  ⟨some 34, .conv .u64 (.t 33), none⟩,
  ⟨some 35, .bin .or (.t 29) (.t 34), none⟩,
  ⟨some 8, .mv (.t 35), none⟩]
theorem F_le_getr7_W {T : Tab} {env : Env} {H : Heap} {Q : Post} : W T (.reg F_le_getr7) env H Q ↔ WR T F_le_getr7 [
  ⟨some 28, .mv (.t 8), none⟩,
  ⟨some 29, .bin .shl (.t 28) (.c (.int .u64 8)), none⟩,
  ⟨some 30, .mv (.t 0), none⟩,
  ⟨some 31, .mv (.t 9), none⟩,
  ⟨some 32, .ixa 1 (.t 30) (.t 31), none⟩,
  ⟨some 33, .load (.t 32), none⟩,
  ⟨some 34, .conv .u64 (.t 33), none⟩,
  ⟨some 35, .bin .or (.t 29) (.t 34), none⟩,
  ⟨some 8, .mv (.t 35), none⟩] env H none [] Q := w_reg
def F_le_getr6 : List IStmt := [
  ⟨some 26, .mv (.t 9), none⟩,
  ⟨some 27, .bin .sub (.t 26) (.c (.int .i64 1)), none⟩,
  ⟨some 9, .mv (.t 27), none⟩]
theorem F_le_getr6_W {T : Tab} {env : Env} {H : Heap} {Q : Post} : W T (.reg F_le_getr6) env H Q ↔ WR T F_le_getr6 [
  ⟨some 26, .mv (.t 9), none⟩,
  ⟨some 27, .bin .sub (.t 26) (.c (.int .i64 1)), none⟩,
  ⟨some 9, .mv (.t 27), none⟩] env H none [] Q := w_reg
def F_le_getl0 : ICode := (.seq (.seq (.reg F_le_getr5) (.cond (.t 25) .skip (.exit 0))) (.seq (.block 1 (.reg F_le_getr7)) (.reg F_le_getr6)))
theorem F_le_getl0_W {T : Tab} {env : Env} {H : Heap} {Q : Post} : W T F_le_getl0 env H Q ↔ W T (.seq (.seq (.reg F_le_getr5) (.cond (.t 25) .skip (.exit 0))) (.seq (.block 1 (.reg F_le_getr7)) (.reg F_le_getr6))) env H Q := Iff.rfl
def F_le_getr8 : List IStmt := [
  ⟨some 36, .mv (.t 8), none⟩,
  ⟨some 6, .mv (.t 36), none⟩,
  ⟨some 7, .mv (.c (.int .i64 0)), none⟩]
theorem F_le_getr8_W {T : Tab} {env : Env} {H : Heap} {Q : Post} : W T (.reg F_le_getr8) env H Q ↔ WR T F_le_getr8 [
  ⟨some 36, .mv (.t 8), none⟩,
  ⟨some 6, .mv (.t 36), none⟩,
  ⟨some 7, .mv (.c (.int .i64 0)), none⟩] env H none [] Q := w_reg
def F_le_getc : ICode := (.seq (.reg F_le_getr0) (.seq (.seq (.reg F_le_getr1) (.cond (.t 16) (.seq (.reg F_le_getr2) .ret) .skip)) (.seq (.reg F_le_getr3) (.seq (.seq (.reg F_le_getr4) (.block 0 (.loop F_le_getl0))) (.seq (.reg F_le_getr8) .ret)))))
theorem F_le_getc_W {T : Tab} {env : Env} {H : Heap} {Q : Post} : W T F_le_getc env H Q ↔ W T (.seq (.reg F_le_getr0) (.seq (.seq (.reg F_le_getr1) (.cond (.t 16) (.seq (.reg F_le_getr2) .ret) .skip)) (.seq (.reg F_le_getr3) (.seq (.seq (.reg F_le_getr4) (.block 0 (.loop F_le_getl0))) (.seq (.reg F_le_getr8) .ret))))) env H Q := Iff.rfl
def F_le_get : IFn := ⟨37, [.tmp 6, .tmp 7], F_le_getc⟩
set_option maxRecDepth 1000000 in
theorem F_le_get_chk : chkF Try.prog 54 F_le_get = true := by kernel_rfl

/-! ### le_U16 -/
def F_le_U16r0 : List IStmt := [
  ⟨some 4, .mv (.c (.int .u16 0)), none⟩,
  ⟨some 5, .mv (.c (.int .i64 0)), none⟩]
theorem F_le_U16r0_W {T : Tab} {env : Env} {H : Heap} {Q : Post} : W T (.reg F_le_U16r0) env H Q ↔ WR T F_le_U16r0 [
  ⟨some 4, .mv (.c (.int .u16 0)), none⟩,
  ⟨some 5, .mv (.c (.int .i64 0)), none⟩] env H none [] Q := w_reg
def F_le_U16r1 : List IStmt := [
  ⟨some 9, .mv (.t 0), none⟩,
  ⟨some 10, .mv (.t 1), none⟩,
  ⟨some 11, .callc 54 [(.t 9), (.t 10), (.c (.int .u64 2))], none⟩,
  ⟨some 8, .mv (.t 11), none⟩,
  ⟨some 12, .ext (.t 8) 0, none⟩,
  ⟨some 13, .ext (.t 8) 1, none⟩,
  ⟨some 6, .mv (.t 12), none⟩,
  ⟨some 7, .mv (.t 13), none⟩]
theorem F_le_U16r1_W {T : Tab} {env : Env} {H : Heap} {Q : Post} : W T (.reg F_le_U16r1) env H Q ↔ WR T F_le_U16r1 [
  ⟨some 9, .mv (.t 0), none⟩,
  ⟨some 10, .mv (.t 1), none⟩,
  ⟨some 11, .callc 54 [(.t 9), (.t 10), (.c (.int .u64 2))], none⟩,
  ⟨some 8, .mv (.t 11), none⟩,
  ⟨some 12, .ext (.t 8) 0, none⟩,
  ⟨some 13, .ext (.t 8) 1, none⟩,
  ⟨some 6, .mv (.t 12), none⟩,
  ⟨some 7, .mv (.t 13), none⟩] env H none [] Q := w_reg
def F_le_U16r2 : List IStmt := [
  ⟨some 14, .mv (.t 6), none⟩,
  ⟨some 15, .conv .u16 (.t 14), none⟩,
  ⟨some 16, .mv (.t 7), none⟩,
  ⟨some 4, .mv (.t 15), none⟩,
  ⟨some 5, .mv (.t 16), none⟩]
theorem F_le_U16r2_W {T : Tab} {env : Env} {H : Heap} {Q : Post} : W T (.reg F_le_U16r2) env H Q ↔ WR T F_le_U16r2 [
  ⟨some 14, .mv (.t 6), none⟩,
  ⟨some 15, .conv .u16 (.t 14), none⟩,
  ⟨some 16, .mv (.t 7), none⟩,
  ⟨some 4, .mv (.t 15), none⟩,
  ⟨some 5, .mv (.t 16), none⟩] env H none [] Q := w_reg
def F_le_U16c : ICode := (.seq (.reg F_le_U16r0) (.seq (.reg F_le_U16r1) (.seq (.reg F_le_U16r2) .ret)))
theorem F_le_U16c_W {T : Tab} {env : Env} {H : Heap} {Q : Post} : W T F_le_U16c env H Q ↔ W T (.seq (.reg F_le_U16r0) (.seq (.reg F_le_U16r1) (.seq (.reg F_le_U16r2) .ret))) env H Q := Iff.rfl
def F_le_U16 : IFn := ⟨17, [.tmp 4, .tmp 5], F_le_U16c⟩
set_option maxRecDepth 1000000 in
theorem F_le_U16_chk : chkF Try.prog 33 F_le_U16 = true := by kernel_rfl

/-! ### le_U32 -/
def F_le_U32r0 : List IStmt := [
  ⟨some 4, .mv (.c (.int .u32 0)), none⟩,
  ⟨some 5, .mv (.c (.int .i64 0)), none⟩]
theorem F_le_U32r0_W {T : Tab} {env : Env} {H : Heap} {Q : Post} : W T (.reg F_le_U32r0) env H Q ↔ WR T F_le_U32r0 [
  ⟨some 4, .mv (.c (.int .u32 0)), none⟩,
  ⟨some 5, .mv (.c (.int .i64 0)), none⟩] env H none [] Q := w_reg
def F_le_U32r1 : List IStmt := [
  ⟨some 9, .mv (.t 0), none⟩,
  ⟨some 10, .mv (.t 1), none⟩,
  ⟨some 11, .callc 54 [(.t 9), (.t 10), (.c (.int .u64 4))], none⟩,
  ⟨some 8, .mv (.t 11), none⟩,
  ⟨some 12, .ext (.t 8) 0, none⟩,
  ⟨some 13, .ext (.t 8) 1, none⟩,
  ⟨some 6, .mv (.t 12), none⟩,
  ⟨some 7, .mv (.t 13), none⟩]
theorem F_le_U32r1_W {T : Tab} {env : Env} {H : Heap} {Q : Post} : W T (.reg F_le_U32r1) env H Q ↔ WR T F_le_U32r1 [
  ⟨some 9, .mv (.t 0), none⟩,
  ⟨some 10, .mv (.t 1), none⟩,
  ⟨some 11, .callc 54 [(.t 9), (.t 10), (.c (.int .u64 4))], none⟩,
  ⟨some 8, .mv (.t 11), none⟩,
  ⟨some 12, .ext (.t 8) 0, none⟩,
  ⟨some 13, .ext (.t 8) 1, none⟩,
  ⟨some 6, .mv (.t 12), none⟩,
  ⟨some 7, .mv (.t 13), none⟩] env H none [] Q := w_reg
def F_le_U32r2 : List IStmt := [
  ⟨some 14, .mv (.t 6), none⟩,
  ⟨some 15, .conv .u32 (.t 14), none⟩,
  ⟨some 16, .mv (.t 7), none⟩,
  ⟨some 4, .mv (.t 15), none⟩,
  ⟨some 5, .mv (.t 16), none⟩]
theorem F_le_U32r2_W {T : Tab} {env : Env} {H : Heap} {Q : Post} : W T (.reg F_le_U32r2) env H Q ↔ WR T F_le_U32r2 [
  ⟨some 14, .mv (.t 6), none⟩,
  ⟨some 15, .conv .u32 (.t 14), none⟩,
  ⟨some 16, .mv (.t 7), none⟩,
  ⟨some 4, .mv (.t 15), none⟩,
  ⟨some 5, .mv (.t 16), none⟩] env H none [] Q := w_reg
def F_le_U32c : ICode := (.seq (.reg F_le_U32r0) (.seq (.reg F_le_U32r1) (.seq (.reg F_le_U32r2) .ret)))
theorem F_le_U32c_W {T : Tab} {env : Env} {H : Heap} {Q : Post} : W T F_le_U32c env H Q ↔ W T (.seq (.reg F_le_U32r0) (.seq (.reg F_le_U32r1) (.seq (.reg F_le_U32r2) .ret))) env H Q := Iff.rfl
def F_le_U32 : IFn := ⟨17, [.tmp 4, .tmp 5], F_le_U32c⟩
set_option maxRecDepth 1000000 in
theorem F_le_U32_chk : chkF Try.prog 34 F_le_U32 = true := by kernel_rfl

/-! ### le_U64 -/
def F_le_U64r0 : List IStmt := [
  ⟨some 4, .mv (.c (.int .u64 0)), none⟩,
  ⟨some 5, .mv (.c (.int .i64 0)), none⟩]
theorem F_le_U64r0_W {T : Tab} {env : Env} {H : Heap} {Q : Post} : W T (.reg F_le_U64r0) env H Q ↔ WR T F_le_U64r0 [
  ⟨some 4, .mv (.c (.int .u64 0)), none⟩,
  ⟨some 5, .mv (.c (.int .i64 0)), none⟩] env H none [] Q := w_reg
def F_le_U64r1 : List IStmt := [
  ⟨some 6, .mv (.t 0), none⟩,
  ⟨some 7, .mv (.t 1), none⟩,
  ⟨some 8, .callc 54 [(.t 6), (.t 7), (.c (.int .u64 8))], none⟩,
  ⟨some 9, .ext (.t 8) 0, none⟩,
  ⟨some 10, .ext (.t 8) 1, none⟩,
  ⟨some 4, .mv (.t 9), none⟩,
  ⟨some 5, .mv (.t 10), none⟩]
theorem F_le_U64r1_W {T : Tab} {env : Env} {H : Heap} {Q : Post} : W T (.reg F_le_U64r1) env H Q ↔ WR T F_le_U64r1 [
  ⟨some 6, .mv (.t 0), none⟩,
  ⟨some 7, .mv (.t 1), none⟩,
  ⟨some 8, .callc 54 [(.t 6), (.t 7), (.c (.int .u64 8))], none⟩,
  ⟨some 9, .ext (.t 8) 0, none⟩,
  ⟨some 10, .ext (.t 8) 1, none⟩,
  ⟨some 4, .mv (.t 9), none⟩,
  ⟨some 5, .mv (.t 10), none⟩] env H none [] Q := w_reg
def F_le_U64c : ICode := (.seq (.reg F_le_U64r0) (.seq (.reg F_le_U64r1) .ret))
theorem F_le_U64c_W {T : Tab} {env : Env} {H : Heap} {Q : Post} : W T F_le_U64c env H Q ↔ W T (.seq (.reg F_le_U64r0) (.seq (.reg F_le_U64r1) .ret)) env H Q := Iff.rfl
def F_le_U64 : IFn := ⟨11, [.tmp 4, .tmp 5], F_le_U64c⟩
set_option maxRecDepth 1000000 in
theorem F_le_U64_chk : chkF Try.prog 35 F_le_U64 = true := by kernel_rfl

/-! ### le_Part -/
def F_le_Partr0 : List IStmt := [
  ⟨some 6, .mv (.c (.slice none 0 0)), none⟩,
  ⟨some 7, .mv (.c (.int .i64 0)), none⟩]
theorem F_le_Partr0_W {T : Tab} {env : Env} {H : Heap} {Q : Post} : W T (.reg F_le_Partr0) env H Q ↔ WR T F_le_Partr0 [
  ⟨some 6, .mv (.c (.slice none 0 0)), none⟩,
  ⟨some 7, .mv (.c (.int .i64 0)), none⟩] env H none [] Q := w_reg
def F_le_Partr1 : List IStmt := [
  ⟨some 8, .mv (.t 1), none⟩,
  ⟨some 9, .mv (.t 2), none⟩,
  ⟨some 10, .mv (.t 0), none⟩,
  ⟨some 11, .len 1 (.t 10), none⟩,
  ⟨some 12, .conv .u64 (.t 11), none⟩,
  ⟨some 13, .callc 55 [(.t 8), (.t 9), (.c (.int .u64 0)), (.t 12)], none⟩,
  ⟨some 14, .un .not (.t 13), none⟩]
theorem F_le_Partr1_W {T : Tab} {env : Env} {H : Heap} {Q : Post} : W T (.reg F_le_Partr1) env H Q ↔ WR T F_le_Partr1 [
  ⟨some 8, .mv (.t 1), none⟩,
  ⟨some 9, .mv (.t 2), none⟩,
  ⟨some 10, .mv (.t 0), none⟩,
  ⟨some 11, .len 1 (.t 10), none⟩,
  ⟨some 12, .conv .u64 (.t 11), none⟩,
  ⟨some 13, .callc 55 [(.t 8), (.t 9), (.c (.int .u64 0)), (.t 12)], none⟩,
  ⟨some 14, .un .not (.t 13), none⟩] env H none [] Q := w_reg
def F_le_Partr2 : List IStmt := [
  ⟨some 6, .mv (.c (.slice none 0 0)), none⟩,
  ⟨some 7, .mv (.c (.int .i64 20)), none⟩]
theorem F_le_Partr2_W {T : Tab} {env : Env} {H : Heap} {Q : Post} : W T (.reg F_le_Partr2) env H Q ↔ WR T F_le_Partr2 [
  ⟨some 6, .mv (.c (.slice none 0 0)), none⟩,
  ⟨some 7, .mv (.c (.int .i64 20)), none⟩] env H none [] Q := w_reg
def F_le_Partr3 : List IStmt := [
  ⟨some 15, .mv (.t 0), none⟩,
  ⟨some 16, .mv (.t 1), none⟩,
  ⟨some 17, .mv (.t 1), none⟩,
  ⟨some 18, .mv (.t 2), none⟩,
  ⟨some 19, .bin .add (.t 17) (.t 18), none⟩,
  ⟨some 20, .mv (.t 1), none⟩,
  ⟨some 21, .mv (.t 2), none⟩,
  ⟨some 22, .bin .add (.t 20) (.t 21), none⟩,
  ⟨some 23, .sle 1 (.t 15) (some (.t 16)) (some (.t 19)) (some (.t 22)), none⟩,
  ⟨some 24, .cpy 1 1 (.t 23), none⟩,
  ⟨some 6, .mv (.t 24), none⟩,
  ⟨some 7, .mv (.c (.int .i64 0)), none⟩]
theorem F_le_Partr3_W {T : Tab} {env : Env} {H : Heap} {Q : Post} : W T (.reg F_le_Partr3) env H Q ↔ WR T F_le_Partr3 [
  ⟨some 15, .mv (.t 0), none⟩,
  ⟨some 16, .mv (.t 1), none⟩,
  ⟨some 17, .mv (.t 1), none⟩,
  ⟨some 18, .mv (.t 2), none⟩,
  ⟨some 19, .bin .add (.t 17) (.t 18), none⟩,
  ⟨some 20, .mv (.t 1), none⟩,
  ⟨some 21, .mv (.t 2), none⟩,
  ⟨some 22, .bin .add (.t 20) (.t 21), none⟩,
  ⟨some 23, .sle 1 (.t 15) (some (.t 16)) (some (.t 19)) (some (.t 22)), none⟩,
  ⟨some 24, .cpy 1 1 (.t 23), none⟩,
  ⟨some 6, .mv (.t 24), none⟩,
  ⟨some 7, .mv (.c (.int .i64 0)), none⟩] env H none [] Q := w_reg
def F_le_Partc : ICode := (.seq (.reg F_le_Partr0) (.seq (.seq (.reg F_le_Partr1) (.cond (.t 14) (.seq (.reg F_le_Partr2) .ret) .skip)) (.seq (.reg F_le_Partr3) .ret)))
theorem F_le_Partc_W {T : Tab} {env : Env} {H : Heap} {Q : Post} : W T F_le_Partc env H Q ↔ W T (.seq (.reg F_le_Partr0) (.seq (.seq (.reg F_le_Partr1) (.cond (.t 14) (.seq (.reg F_le_Partr2) .ret) .skip)) (.seq (.reg F_le_Partr3) .ret))) env H Q := Iff.rfl
def F_le_Part : IFn := ⟨25, [.tmp 6, .tmp 7], F_le_Partc⟩
set_option maxRecDepth 1000000 in
theorem F_le_Part_chk : chkF Try.prog 36 F_le_Part = true := by kernel_rfl

/-! ### le_Plain -/
def F_le_Plainr0 : List IStmt := [
  ⟨some 2, .mv (.c (.bool false)), none⟩]
theorem F_le_Plainr0_W {T : Tab} {env : Env} {H : Heap} {Q : Post} : W T (.reg F_le_Plainr0) env H Q ↔ WR T F_le_Plainr0 [
  ⟨some 2, .mv (.c (.bool false)), none⟩] env H none [] Q := w_reg
def F_le_Plainr1 : List IStmt := [
  ⟨some 5, .mv (.t 0), none⟩,
  ⟨some 6, .len 0 (.t 5), none⟩,
  ⟨some 7, .bin .gtr (.t 6) (.c (.int .i64 64)), none⟩]
theorem F_le_Plainr1_W {T : Tab} {env : Env} {H : Heap} {Q : Post} : W T (.reg F_le_Plainr1) env H Q ↔ WR T F_le_Plainr1 [
  ⟨some 5, .mv (.t 0), none⟩,
  ⟨some 6, .len 0 (.t 5), none⟩,
  ⟨some 7, .bin .gtr (.t 6) (.c (.int .i64 64)), none⟩] env H none [] Q := w_reg
def F_le_Plainr2 : List IStmt := [
  ⟨some 2, .mv (.c (.bool false)), none⟩]
theorem F_le_Plainr2_W {T : Tab} {env : Env} {H : Heap} {Q : Post} : W T (.reg F_le_Plainr2) env H Q ↔ WR T F_le_Plainr2 [
  ⟨some 2, .mv (.c (.bool false)), none⟩] env H none [] Q := w_reg
def F_le_Plainr3 : List IStmt := [
  ⟨some 8, .mv (.t 0), none⟩,
  ⟨some 9, .rng (.t 8), none⟩]
theorem F_le_Plainr3_W {T : Tab} {env : Env} {H : Heap} {Q : Post} : W T (.reg F_le_Plainr3) env H Q ↔ WR T F_le_Plainr3 [
  ⟨some 8, .mv (.t 0), none⟩,
  ⟨some 9, .rng (.t 8), none⟩] env H none [] Q := w_reg
def F_le_Plainr4 : List IStmt := [
  ⟨some 10, .nxt (.t 9), none⟩,
  ⟨some 11, .ext (.t 10) 0, none⟩]
theorem F_le_Plainr4_W {T : Tab} {env : Env} {H : Heap} {Q : Post} : W T (.reg F_le_Plainr4) env H Q ↔ WR T F_le_Plainr4 [
  ⟨some 10, .nxt (.t 9), none⟩,
  ⟨some 11, .ext (.t 10) 0, none⟩] env H none [] Q := w_reg
def F_le_Plainr5 : List IStmt := [
  ⟨some 12, .ext (.t 10) 2, none⟩,
  ⟨some 4, .mv (.t 12), none⟩]
theorem F_le_Plainr5_W {T : Tab} {env : Env} {H : Heap} {Q : Post} : W T (.reg F_le_Plainr5) env H Q ↔ WR T F_le_Plainr5 [
  ⟨some 12, .ext (.t 10) 2, none⟩,
  ⟨some 4, .mv (.t 12), none⟩] env H none [] Q := w_reg
def F_le_Plainr6 : List IStmt := [
  ⟨some 13, .mv (.t 4), none⟩,
  ⟨some 14, .bin .lss (.t 13) (.c (.int .i32 33)), none⟩,
  ⟨some 15, .mv (.t 14), none⟩,
  ⟨some 16, .mv (.t 4), some (2, false)⟩,
  ⟨some 17, .bin .gtr (.t 16) (.c (.int .i32 126)), some (2, false)⟩,
  ⟨some 18, .pick (.t 15) (.c (.bool true)) (.t 17), none⟩]
theorem F_le_Plainr6_W {T : Tab} {env : Env} {H : Heap} {Q : Post} : W T (.reg F_le_Plainr6) env H Q ↔ WR T F_le_Plainr6 [
  ⟨some 13, .mv (.t 4), none⟩,
  ⟨some 14, .bin .lss (.t 13) (.c (.int .i32 33)), none⟩,
  ⟨some 15, .mv (.t 14), none⟩,
  ⟨some 16, .mv (.t 4), some (2, false)⟩,
  ⟨some 17, .bin .gtr (.t 16) (.c (.int .i32 126)), some (2, false)⟩,
  ⟨some 18, .pick (.t 15) (.c (.bool true)) (.t 17), none⟩] env H none [] Q := w_reg
theorem F_le_Plainr6_g2 {env : Env} : yieldI F_le_Plainr6 env 2 = bOf (env 15) := rfl
def F_le_Plainr7 : List IStmt := [
  ⟨some 2, .mv (.c (.bool false)), none⟩]
theorem F_le_Plainr7_W {T : Tab} {env : Env} {H : Heap} {Q : Post} : W T (.reg F_le_Plainr7) env H Q ↔ WR T F_le_Plainr7 [
  ⟨some 2, .mv (.c (.bool false)), none⟩] env H none [] Q := w_reg
def F_le_Plainl0 : ICode := (.seq (.reg F_le_Plainr4) (.seq (.cond (.t 11) .skip (.exit 0)) (.block 1 (.seq (.reg F_le_Plainr5) (.seq (.reg F_le_Plainr6) (.cond (.t 18) (.seq (.reg F_le_Plainr7) .ret) .skip))))))
theorem F_le_Plainl0_W {T : Tab} {env : Env} {H : Heap} {Q : Post} : W T F_le_Plainl0 env H Q ↔ W T (.seq (.reg F_le_Plainr4) (.seq (.cond (.t 11) .skip (.exit 0)) (.block 1 (.seq (.reg F_le_Plainr5) (.seq (.reg F_le_Plainr6) (.cond (.t 18) (.seq (.reg F_le_Plainr7) .ret) .skip)))))) env H Q := Iff.rfl
def F_le_Plainr8 : List IStmt := [
  ⟨some 2, .mv (.c (.bool true)), none⟩]
theorem F_le_Plainr8_W {T : Tab} {env : Env} {H : Heap} {Q : Post} : W T (.reg F_le_Plainr8) env H Q ↔ WR T F_le_Plainr8 [
  ⟨some 2, .mv (.c (.bool true)), none⟩] env H none [] Q := w_reg
def F_le_Plainc : ICode := (.seq (.reg F_le_Plainr0) (.seq (.seq (.reg F_le_Plainr1) (.cond (.t 7) (.seq (.reg F_le_Plainr2) .ret) .skip)) (.seq (.seq (.reg F_le_Plainr3) (.block 0 (.loop F_le_Plainl0))) (.seq (.reg F_le_Plainr8) .ret))))
theorem F_le_Plainc_W {T : Tab} {env : Env} {H : Heap} {Q : Post} : W T F_le_Plainc env H Q ↔ W T (.seq (.reg F_le_Plainr0) (.seq (.seq (.reg F_le_Plainr1) (.cond (.t 7) (.seq (.reg F_le_Plainr2) .ret) .skip)) (.seq (.seq (.reg F_le_Plainr3) (.block 0 (.loop F_le_Plainl0))) (.seq (.reg F_le_Plainr8) .ret)))) env H Q := Iff.rfl
def F_le_Plain : IFn := ⟨19, [.tmp 2], F_le_Plainc⟩
set_option maxRecDepth 1000000 in
theorem F_le_Plain_chk : chkF Try.prog 17 F_le_Plain = true := by kernel_rfl

/-! ### le_Text -/
def F_le_Textr0 : List IStmt := [
  ⟨some 4, .mv (.c (.string ⟨#[]⟩)), none⟩,
  ⟨some 5, .mv (.c (.int .i64 0)), none⟩]
theorem F_le_Textr0_W {T : Tab} {env : Env} {H : Heap} {Q : Post} : W T (.reg F_le_Textr0) env H Q ↔ WR T F_le_Textr0 [
  ⟨some 4, .mv (.c (.string ⟨#[]⟩)), none⟩,
  ⟨some 5, .mv (.c (.int .i64 0)), none⟩] env H none [] Q := w_reg
def F_le_Textr1 : List IStmt := [
  ⟨some 8, .mv (.t 1), none⟩,
  ⟨some 9, .mv (.t 0), none⟩,
  ⟨some 10, .len 1 (.t 9), none⟩,
  ⟨some 11, .conv .u64 (.t 10), none⟩,
  ⟨some 12, .bin .geq (.t 8) (.t 11), none⟩]
theorem F_le_Textr1_W {T : Tab} {env : Env} {H : Heap} {Q : Post} : W T (.reg F_le_Textr1) env H Q ↔ WR T F_le_Textr1 [
  ⟨some 8, .mv (.t 1), none⟩,
  ⟨some 9, .mv (.t 0), none⟩,
  ⟨some 10, .len 1 (.t 9), none⟩,
  ⟨some 11, .conv .u64 (.t 10), none⟩,
  ⟨some 12, .bin .geq (.t 8) (.t 11), none⟩] env H none [] Q := w_reg
def F_le_Textr2 : List IStmt := [
  ⟨some 4, .mv (.c (.string ⟨#[]⟩)), none⟩,
  ⟨some 5, .mv (.c (.int .i64 20)), none⟩]
theorem F_le_Textr2_W {T : Tab} {env : Env} {H : Heap} {Q : Post} : W T (.reg F_le_Textr2) env H Q ↔ WR T F_le_Textr2 [
  ⟨some 4, .mv (.c (.string ⟨#[]⟩)), none⟩,
  ⟨some 5, .mv (.c (.int .i64 20)), none⟩] env H none [] Q := w_reg
def F_le_Textr3 : List IStmt := [
  ⟨some 13, .mv (.t 1), none⟩,
  ⟨some 14, .conv .i64 (.t 13), none⟩,
  ⟨some 6, .mv (.t 14), none⟩]
theorem F_le_Textr3_W {T : Tab} {env : Env} {H : Heap} {Q : Post} : W T (.reg F_le_Textr3) env H Q ↔ WR T F_le_Textr3 [
  ⟨some 13, .mv (.t 1), none⟩,
  ⟨some 14, .conv .i64 (.t 13), none⟩,
  ⟨some 6, .mv (.t 14), none⟩] env H none [] Q := w_reg
def F_le_Textr4 : List IStmt := [
  ⟨some 15, .mv (.t 6), none⟩,
  ⟨some 16, .mv (.t 0), none⟩,
  ⟨some 17, .len 1 (.t 16), none⟩,
  ⟨some 18, .bin .lss (.t 15) (.t 17), none⟩,
  ⟨some 19, .mv (.t 18), none⟩,
  ⟨some 20, .mv (.t 0), some (4, true)⟩,
  ⟨some 21, .mv (.t 6), some (4, true)⟩,
  ⟨some 22, .ixa 1 (.t 20) (.t 21), some (4, true)⟩,
  ⟨some 23, .load (.t 22), some (4, true)⟩,
  ⟨some 24, .bin .neq (.t 23) (.c (.int .u8 0)), some (4, true)⟩,
  ⟨some 25, .pick (.t 19) (.t 24) (.c (.bool false)), none⟩]
theorem F_le_Textr4_W {T : Tab} {env : Env} {H : Heap} {Q : Post} : W T (.reg F_le_Textr4) env H Q ↔ WR T F_le_Textr4 [
  ⟨some 15, .mv (.t 6), none⟩,
  ⟨some 16, .mv (.t 0), none⟩,
  ⟨some 17, .len 1 (.t 16), none⟩,
  ⟨some 18, .bin .lss (.t 15) (.t 17), none⟩,
  ⟨some 19, .mv (.t 18), none⟩,
  ⟨some 20, .mv (.t 0), some (4, true)⟩,
  ⟨some 21, .mv (.t 6), some (4, true)⟩,
  ⟨some 22, .ixa 1 (.t 20) (.t 21), some (4, true)⟩,
  ⟨some 23, .load (.t 22), some (4, true)⟩,
  ⟨some 24, .bin .neq (.t 23) (.c (.int .u8 0)), some (4, true)⟩,
  ⟨some 25, .pick (.t 19) (.t 24) (.c (.bool false)), none⟩] env H none [] Q := w_reg
theorem F_le_Textr4_g4 {env : Env} : yieldI F_le_Textr4 env 4 = bOf (env 19) := rfl
def F_le_Textr5 : List IStmt := [
  ⟨some 26, .mv (.t 6), none⟩,
  ⟨some 27, .bin .add (.t 26) (.c (.int .i64 1)), none⟩,
  ⟨some 6, .mv (.t 27), none⟩]
theorem F_le_Textr5_W {T : Tab} {env : Env} {H : Heap} {Q : Post} : W T (.reg F_le_Textr5) env H Q ↔ WR T F_le_Textr5 [
  ⟨some 26, .mv (.t 6), none⟩,
  ⟨some 27, .bin .add (.t 26) (.c (.int .i64 1)), none⟩,
  ⟨some 6, .mv (.t 27), none⟩] env H none [] Q := w_reg
def F_le_Textl0 : ICode := (.seq (.seq (.reg F_le_Textr4) (.cond (.t 25) .skip (.exit 0))) (.block 1 (.reg F_le_Textr5)))
theorem F_le_Textl0_W {T : Tab} {env : Env} {H : Heap} {Q : Post} : W T F_le_Textl0 env H Q ↔ W T (.seq (.seq (.reg F_le_Textr4) (.cond (.t 25) .skip (.exit 0))) (.block 1 (.reg F_le_Textr5))) env H Q := Iff.rfl
def F_le_Textr6 : List IStmt := [
  ⟨some 28, .mv (.t 6), none⟩,
  ⟨some 29, .mv (.t 0), none⟩,
  ⟨some 30, .len 1 (.t 29), none⟩,
  ⟨some 31, .bin .eql (.t 28) (.t 30), none⟩]
theorem F_le_Textr6_W {T : Tab} {env : Env} {H : Heap} {Q : Post} : W T (.reg F_le_Textr6) env H Q ↔ WR T F_le_Textr6 [
  ⟨some 28, .mv (.t 6), none⟩,
  ⟨some 29, .mv (.t 0), none⟩,
  ⟨some 30, .len 1 (.t 29), none⟩,
  ⟨some 31, .bin .eql (.t 28) (.t 30), none⟩] env H none [] Q := w_reg
def F_le_Textr7 : List IStmt := [
  ⟨some 4, .mv (.c (.string ⟨#[]⟩)), none⟩,
  ⟨some 5, .mv (.c (.int .i64 20)), none⟩]
theorem F_le_Textr7_W {T : Tab} {env : Env} {H : Heap} {Q : Post} : W T (.reg F_le_Textr7) env H Q ↔ WR T F_le_Textr7 [
  ⟨some 4, .mv (.c (.string ⟨#[]⟩)), none⟩,
  ⟨some 5, .mv (.c (.int .i64 20)), none⟩] env H none [] Q := w_reg
def F_le_Textr8 : List IStmt := [
  ⟨some 32, .mv (.t 0), none⟩,
  ⟨some 33, .mv (.t 1), none⟩,
  ⟨some 34, .mv (.t 6), none⟩,
  ⟨some 35, .sle 1 (.t 32) (some (.t 33)) (some (.t 34)) none, none⟩,
  ⟨some 36, .b2s (.t 35), none⟩,
  ⟨some 7, .mv (.t 36), none⟩]
theorem F_le_Textr8_W {T : Tab} {env : Env} {H : Heap} {Q : Post} : W T (.reg F_le_Textr8) env H Q ↔ WR T F_le_Textr8 [
  ⟨some 32, .mv (.t 0), none⟩,
  ⟨some 33, .mv (.t 1), none⟩,
  ⟨some 34, .mv (.t 6), none⟩,
  ⟨some 35, .sle 1 (.t 32) (some (.t 33)) (some (.t 34)) none, none⟩,
  ⟨some 36, .b2s (.t 35), none⟩,
  ⟨some 7, .mv (.t 36), none⟩] env H none [] Q := w_reg
def F_le_Textr9 : List IStmt := [
  ⟨some 37, .mv (.t 7), none⟩,
  ⟨some 38, .callc 17 [(.t 37)], none⟩,
  ⟨some 39, .un .not (.t 38), none⟩]
theorem F_le_Textr9_W {T : Tab} {env : Env} {H : Heap} {Q : Post} : W T (.reg F_le_Textr9) env H Q ↔ WR T F_le_Textr9 [
  ⟨some 37, .mv (.t 7), none⟩,
  ⟨some 38, .callc 17 [(.t 37)], none⟩,
  ⟨some 39, .un .not (.t 38), none⟩] env H none [] Q := w_reg
def F_le_Textr10 : List IStmt := [
  ⟨some 4, .mv (.c (.string ⟨#[]⟩)), none⟩,
  ⟨some 5, .mv (.c (.int .i64 21)), none⟩]
theorem F_le_Textr10_W {T : Tab} {env : Env} {H : Heap} {Q : Post} : W T (.reg F_le_Textr10) env H Q ↔ WR T F_le_Textr10 [
  ⟨some 4, .mv (.c (.string ⟨#[]⟩)), none⟩,
  ⟨some 5, .mv (.c (.int .i64 21)), none⟩] env H none [] Q := w_reg
def F_le_Textr11 : List IStmt := [
  ⟨some 40, .mv (.t 7), none⟩,
  ⟨some 4, .mv (.t 40), none⟩,
  ⟨some 5, .mv (.c (.int .i64 0)), none⟩]
theorem F_le_Textr11_W {T : Tab} {env : Env} {H : Heap} {Q : Post} : W T (.reg F_le_Textr11) env H Q ↔ WR T F_le_Textr11 [
  ⟨some 40, .mv (.t 7), none⟩,
  ⟨some 4, .mv (.t 40), none⟩,
  ⟨some 5, .mv (.c (.int .i64 0)), none⟩] env H none [] Q := w_reg
def F_le_Textc : ICode := (.seq (.reg F_le_Textr0) (.seq (.seq (.reg F_le_Textr1) (.cond (.t 12) (.seq (.reg F_le_Textr2) .ret) .skip)) (.seq (.reg F_le_Textr3) (.seq (.block 0 (.loop F_le_Textl0)) (.seq (.seq (.reg F_le_Textr6) (.cond (.t 31) (.seq (.reg F_le_Textr7) .ret) .skip)) (.seq (.reg F_le_Textr8) (.seq (.seq (.reg F_le_Textr9) (.cond (.t 39) (.seq (.reg F_le_Textr10) .ret) .skip)) (.seq (.reg F_le_Textr11) .ret))))))))
theorem F_le_Textc_W {T : Tab} {env : Env} {H : Heap} {Q : Post} : W T F_le_Textc env H Q ↔ W T (.seq (.reg F_le_Textr0) (.seq (.seq (.reg F_le_Textr1) (.cond (.t 12) (.seq (.reg F_le_Textr2) .ret) .skip)) (.seq (.reg F_le_Textr3) (.seq (.block 0 (.loop F_le_Textl0)) (.seq (.seq (.reg F_le_Textr6) (.cond (.t 31) (.seq (.reg F_le_Textr7) .ret) .skip)) (.seq (.reg F_le_Textr8) (.seq (.seq (.reg F_le_Textr9) (.cond (.t 39) (.seq (.reg F_le_Textr10) .ret) .skip)) (.seq (.reg F_le_Textr11) .ret)))))))) env H Q := Iff.rfl
def F_le_Text : IFn := ⟨41, [.tmp 4, .tmp 5], F_le_Textc⟩
set_option maxRecDepth 1000000 in
theorem F_le_Text_chk : chkF Try.prog 15 F_le_Text = true := by kernel_rfl

/-! ### le_New -/
def F_le_Newr0 : List IStmt := [
  ⟨some 0, .mv (.c (.pointer none)), none⟩]
theorem F_le_Newr0_W {T : Tab} {env : Env} {H : Heap} {Q : Post} : W T (.reg F_le_Newr0) env H Q ↔ WR T F_le_Newr0 [
  ⟨some 0, .mv (.c (.pointer none)), none⟩] env H none [] Q := w_reg
def F_le_Newr1 : List IStmt := [
  ⟨some 1, .bld [.slice none 0 0] [], none⟩,
  ⟨some 2, .box 1 (.t 1), none⟩,
  ⟨some 0, .mv (.t 2), none⟩]
theorem F_le_Newr1_W {T : Tab} {env : Env} {H : Heap} {Q : Post} : W T (.reg F_le_Newr1) env H Q ↔ WR T F_le_Newr1 [
  ⟨some 1, .bld [.slice none 0 0] [], none⟩,
  ⟨some 2, .box 1 (.t 1), none⟩,
  ⟨some 0, .mv (.t 2), none⟩] env H none [] Q := w_reg
def F_le_Newc : ICode := (.seq (.reg F_le_Newr0) (.seq (.reg F_le_Newr1) .ret))
theorem F_le_Newc_W {T : Tab} {env : Env} {H : Heap} {Q : Post} : W T F_le_Newc env H Q ↔ W T (.seq (.reg F_le_Newr0) (.seq (.reg F_le_Newr1) .ret)) env H Q := Iff.rfl
def F_le_New : IFn := ⟨3, [.tmp 0], F_le_Newc⟩
set_option maxRecDepth 1000000 in
theorem F_le_New_chk : chkF Try.prog 20 F_le_New = true := by kernel_rfl

/-! ### le_Buf_put -/
def F_le_Buf_putr0 : List IStmt := [
  ⟨some 6, .mv (.t 2), none⟩,
  ⟨some 7, .mv (.c (.int .i64 0)), none⟩]
theorem F_le_Buf_putr0_W {T : Tab} {env : Env} {H : Heap} {Q : Post} : W T (.reg F_le_Buf_putr0) env H Q ↔ WR T F_le_Buf_putr0 [
  ⟨some 6, .mv (.t 2), none⟩,
  ⟨some 7, .mv (.c (.int .i64 0)), none⟩] env H none [] Q := w_reg
def F_le_Buf_putr1 : List IStmt := [
  ⟨some 8, .bin .lss (.t 7) (.t 6), none⟩]
theorem F_le_Buf_putr1_W {T : Tab} {env : Env} {H : Heap} {Q : Post} : W T (.reg F_le_Buf_putr1) env H Q ↔ WR T F_le_Buf_putr1 [
  ⟨some 8, .bin .lss (.t 7) (.t 6), none⟩] env H none [] Q := w_reg
def F_le_Buf_putr2 : List IStmt := [
  ⟨some 9, .mv (.t 0), none⟩,
  ⟨some 10, .mv (.t 0), none⟩,
  ⟨some 11, .nilc (.t 10), none⟩,
  ⟨some 12, .fa 0 (.t 11), none⟩,
  ⟨some 13, .load (.t 12), none⟩,
  ⟨some 14, .mv (.t 1), none⟩,
  ⟨some 15, .conv .u8 (.t 14), none⟩,
  ⟨some 16, .bsli 1 1 [.int .u8 0] [(0, (.t 15))], none⟩,
  ⟨some 17, .app 1 1 (.t 13) (.t 16), none⟩,
  ⟨some 18, .nilc (.t 9), none⟩,
  ⟨some 19, .fa 0 (.t 18), none⟩,
  ⟨none, .store 1 (.t 19) (.t 17), none⟩]
theorem F_le_Buf_putr2_W {T : Tab} {env : Env} {H : Heap} {Q : Post} : W T (.reg F_le_Buf_putr2) env H Q ↔ WR T F_le_Buf_putr2 [
  ⟨some 9, .mv (.t 0), none⟩,
  ⟨some 10, .mv (.t 0), none⟩,
  ⟨some 11, .nilc (.t 10), none⟩,
  ⟨some 12, .fa 0 (.t 11), none⟩,
  ⟨some 13, .load (.t 12), none⟩,
  ⟨some 14, .mv (.t 1), none⟩,
  ⟨some 15, .conv .u8 (.t 14), none⟩,
  ⟨some 16, .bsli 1 1 [.int .u8 0] [(0, (.t 15))], none⟩,
  ⟨some 17, .app 1 1 (.t 13) (.t 16), none⟩,
  ⟨some 18, .nilc (.t 9), none⟩,
  ⟨some 19, .fa 0 (.t 18), none⟩,
  ⟨none, .store 1 (.t 19) (.t 17), none⟩] env H none [] Q := w_reg
def F_le_Buf_putr3 : List IStmt := [
  ⟨some 20, .mv (.t 1), none⟩,
  ⟨some 21, .bin .shr (.t 20) (.c (.int .u64 8)), none⟩,
  ⟨some 1, .mv (.t 21), none⟩]
theorem F_le_Buf_putr3_W {T : Tab} {env : Env} {H : Heap} {Q : Post} : W T (.reg F_le_Buf_putr3) env H Q ↔ WR T F_le_Buf_putr3 [
  ⟨some 20, .mv (.t 1), none⟩,
  ⟨some 21, .bin .shr (.t 20) (.c (.int .u64 8)), none⟩,
  ⟨some 1, .mv (.t 21), none⟩] env H none [] Q := w_reg
def F_le_Buf_putr4 : List IStmt := [
  ⟨some 22, .bin .add (.t 7) (.c (.int .i64 1)), none⟩,
  ⟨some 7, .mv (.t 22), none⟩]
theorem F_le_Buf_putr4_W {T : Tab} {env : Env} {H : Heap} {Q : Post} : W T (.reg F_le_Buf_putr4) env H Q ↔ WR T F_le_Buf_putr4 [
  ⟨some 22, .bin .add (.t 7) (.c (.int .i64 1)), none⟩,
  ⟨some 7, .mv (.t 22), none⟩] env H none [] Q := w_reg
def F_le_Buf_putl0 : ICode := (.seq (.reg F_le_Buf_putr1) (.seq (.cond (.t 8) .skip (.exit 0)) (.seq (.block 1 (.seq (.reg F_le_Buf_putr2) (.reg F_le_Buf_putr3))) (.reg F_le_Buf_putr4))))
theorem F_le_Buf_putl0_W {T : Tab} {env : Env} {H : Heap} {Q : Post} : W T F_le_Buf_putl0 env H Q ↔ W T (.seq (.reg F_le_Buf_putr1) (.seq (.cond (.t 8) .skip (.exit 0)) (.seq (.block 1 (.seq (.reg F_le_Buf_putr2) (.reg F_le_Buf_putr3))) (.reg F_le_Buf_putr4)))) env H Q := Iff.rfl
def F_le_Buf_putc : ICode := (.seq (.reg F_le_Buf_putr0) (.block 0 (.loop F_le_Buf_putl0)))
theorem F_le_Buf_putc_W {T : Tab} {env : Env} {H : Heap} {Q : Post} : W T F_le_Buf_putc env H Q ↔ W T (.seq (.reg F_le_Buf_putr0) (.block 0 (.loop F_le_Buf_putl0))) env H Q := Iff.rfl
def F_le_Buf_put : IFn := ⟨23, [], F_le_Buf_putc⟩
set_option maxRecDepth 1000000 in
theorem F_le_Buf_put_chk : chkF Try.prog 51 F_le_Buf_put = true := by kernel_rfl

/-! ### le_Buf_Put16 -/
def F_le_Buf_Put16r0 : List IStmt := [
  ⟨some 4, .mv (.t 0), none⟩,
  ⟨some 5, .mv (.t 1), none⟩,
  ⟨some 6, .conv .u64 (.t 5), none⟩,
  ⟨some 7, .call 51 [(.t 4), (.t 6), (.c (.int .i64 2))], none⟩]
theorem F_le_Buf_Put16r0_W {T : Tab} {env : Env} {H : Heap} {Q : Post} : W T (.reg F_le_Buf_Put16r0) env H Q ↔ WR T F_le_Buf_Put16r0 [
  ⟨some 4, .mv (.t 0), none⟩,
  ⟨some 5, .mv (.t 1), none⟩,
  ⟨some 6, .conv .u64 (.t 5), none⟩,
  ⟨some 7, .call 51 [(.t 4), (.t 6), (.c (.int .i64 2))], none⟩] env H none [] Q := w_reg
def F_le_Buf_Put16c : ICode := (.reg F_le_Buf_Put16r0)
theorem F_le_Buf_Put16c_W {T : Tab} {env : Env} {H : Heap} {Q : Post} : W T F_le_Buf_Put16c env H Q ↔ W T (.reg F_le_Buf_Put16r0) env H Q := Iff.rfl
def F_le_Buf_Put16 : IFn := ⟨8, [], F_le_Buf_Put16c⟩
set_option maxRecDepth 1000000 in
theorem F_le_Buf_Put16_chk : chkF Try.prog 21 F_le_Buf_Put16 = true := by kernel_rfl

/-! ### le_Buf_Put32 -/
def F_le_Buf_Put32r0 : List IStmt := [
  ⟨some 4, .mv (.t 0), none⟩,
  ⟨some 5, .mv (.t 1), none⟩,
  ⟨some 6, .conv .u64 (.t 5), none⟩,
  ⟨some 7, .call 51 [(.t 4), (.t 6), (.c (.int .i64 4))], none⟩]
theorem F_le_Buf_Put32r0_W {T : Tab} {env : Env} {H : Heap} {Q : Post} : W T (.reg F_le_Buf_Put32r0) env H Q ↔ WR T F_le_Buf_Put32r0 [
  ⟨some 4, .mv (.t 0), none⟩,
  ⟨some 5, .mv (.t 1), none⟩,
  ⟨some 6, .conv .u64 (.t 5), none⟩,
  ⟨some 7, .call 51 [(.t 4), (.t 6), (.c (.int .i64 4))], none⟩] env H none [] Q := w_reg
def F_le_Buf_Put32c : ICode := (.reg F_le_Buf_Put32r0)
theorem F_le_Buf_Put32c_W {T : Tab} {env : Env} {H : Heap} {Q : Post} : W T F_le_Buf_Put32c env H Q ↔ W T (.reg F_le_Buf_Put32r0) env H Q := Iff.rfl
def F_le_Buf_Put32 : IFn := ⟨8, [], F_le_Buf_Put32c⟩
set_option maxRecDepth 1000000 in
theorem F_le_Buf_Put32_chk : chkF Try.prog 22 F_le_Buf_Put32 = true := by kernel_rfl

/-! ### le_Buf_Put64 -/
def F_le_Buf_Put64r0 : List IStmt := [
  ⟨some 4, .mv (.t 0), none⟩,
  ⟨some 5, .mv (.t 1), none⟩,
  ⟨some 6, .call 51 [(.t 4), (.t 5), (.c (.int .i64 8))], none⟩]
theorem F_le_Buf_Put64r0_W {T : Tab} {env : Env} {H : Heap} {Q : Post} : W T (.reg F_le_Buf_Put64r0) env H Q ↔ WR T F_le_Buf_Put64r0 [
  ⟨some 4, .mv (.t 0), none⟩,
  ⟨some 5, .mv (.t 1), none⟩,
  ⟨some 6, .call 51 [(.t 4), (.t 5), (.c (.int .i64 8))], none⟩] env H none [] Q := w_reg
def F_le_Buf_Put64c : ICode := (.reg F_le_Buf_Put64r0)
theorem F_le_Buf_Put64c_W {T : Tab} {env : Env} {H : Heap} {Q : Post} : W T F_le_Buf_Put64c env H Q ↔ W T (.reg F_le_Buf_Put64r0) env H Q := Iff.rfl
def F_le_Buf_Put64 : IFn := ⟨7, [], F_le_Buf_Put64c⟩
set_option maxRecDepth 1000000 in
theorem F_le_Buf_Put64_chk : chkF Try.prog 23 F_le_Buf_Put64 = true := by kernel_rfl

/-! ### le_Buf_Raw -/
def F_le_Buf_Rawr0 : List IStmt := [
  ⟨some 4, .mv (.t 0), none⟩,
  ⟨some 5, .mv (.t 0), none⟩,
  ⟨some 6, .nilc (.t 5), none⟩,
  ⟨some 7, .fa 0 (.t 6), none⟩,
  ⟨some 8, .load (.t 7), none⟩,
  ⟨some 9, .mv (.t 1), none⟩,
  ⟨some 10, .app 1 1 (.t 8) (.t 9), none⟩,
  ⟨some 11, .nilc (.t 4), none⟩,
  ⟨some 12, .fa 0 (.t 11), none⟩,
  ⟨none, .store 1 (.t 12) (.t 10), none⟩]
theorem F_le_Buf_Rawr0_W {T : Tab} {env : Env} {H : Heap} {Q : Post} : W T (.reg F_le_Buf_Rawr0) env H Q ↔ WR T F_le_Buf_Rawr0 [
  ⟨some 4, .mv (.t 0), none⟩,
  ⟨some 5, .mv (.t 0), none⟩,
  ⟨some 6, .nilc (.t 5), none⟩,
  ⟨some 7, .fa 0 (.t 6), none⟩,
  ⟨some 8, .load (.t 7), none⟩,
  ⟨some 9, .mv (.t 1), none⟩,
  ⟨some 10, .app 1 1 (.t 8) (.t 9), none⟩,
  ⟨some 11, .nilc (.t 4), none⟩,
  ⟨some 12, .fa 0 (.t 11), none⟩,
  ⟨none, .store 1 (.t 12) (.t 10), none⟩] env H none [] Q := w_reg
def F_le_Buf_Rawc : ICode := (.reg F_le_Buf_Rawr0)
theorem F_le_Buf_Rawc_W {T : Tab} {env : Env} {H : Heap} {Q : Post} : W T F_le_Buf_Rawc env H Q ↔ W T (.reg F_le_Buf_Rawr0) env H Q := Iff.rfl
def F_le_Buf_Raw : IFn := ⟨13, [], F_le_Buf_Rawc⟩
set_option maxRecDepth 1000000 in
theorem F_le_Buf_Raw_chk : chkF Try.prog 24 F_le_Buf_Raw = true := by kernel_rfl

/-! ### le_Buf_Zeros -/
def F_le_Buf_Zerosr0 : List IStmt := [
  ⟨some 4, .mv (.t 0), none⟩,
  ⟨some 5, .mv (.t 0), none⟩,
  ⟨some 6, .nilc (.t 5), none⟩,
  ⟨some 7, .fa 0 (.t 6), none⟩,
  ⟨some 8, .load (.t 7), none⟩,
  ⟨some 9, .mv (.t 1), none⟩,
  ⟨some 10, .mx (.t 9) (.c (.int .i64 0)), none⟩,
  ⟨some 11, .mn (.t 10) (.c (.int .i64 262144)), none⟩,
  ⟨some 12, .appz 1 (.int .u8 0) (.t 8) (.t 11), none⟩,
  ⟨some 13, .nilc (.t 4), none⟩,
  ⟨some 14, .fa 0 (.t 13), none⟩,
  ⟨none, .store 1 (.t 14) (.t 12), none⟩]
theorem F_le_Buf_Zerosr0_W {T : Tab} {env : Env} {H : Heap} {Q : Post} : W T (.reg F_le_Buf_Zerosr0) env H Q ↔ WR T F_le_Buf_Zerosr0 [
  ⟨some 4, .mv (.t 0), none⟩,
  ⟨some 5, .mv (.t 0), none⟩,
  ⟨some 6, .nilc (.t 5), none⟩,
  ⟨some 7, .fa 0 (.t 6), none⟩,
  ⟨some 8, .load (.t 7), none⟩,
  ⟨some 9, .mv (.t 1), none⟩,
  ⟨some 10, .mx (.t 9) (.c (.int .i64 0)), none⟩,
  ⟨some 11, .mn (.t 10) (.c (.int .i64 262144)), none⟩,
  ⟨some 12, .appz 1 (.int .u8 0) (.t 8) (.t 11), none⟩,
  ⟨some 13, .nilc (.t 4), none⟩,
  ⟨some 14, .fa 0 (.t 13), none⟩,
  ⟨none, .store 1 (.t 14) (.t 12), none⟩] env H none [] Q := w_reg
def F_le_Buf_Zerosc : ICode := (.reg F_le_Buf_Zerosr0)
theorem F_le_Buf_Zerosc_W {T : Tab} {env : Env} {H : Heap} {Q : Post} : W T F_le_Buf_Zerosc env H Q ↔ W T (.reg F_le_Buf_Zerosr0) env H Q := Iff.rfl
def F_le_Buf_Zeros : IFn := ⟨15, [], F_le_Buf_Zerosc⟩
set_option maxRecDepth 1000000 in
theorem F_le_Buf_Zeros_chk : chkF Try.prog 25 F_le_Buf_Zeros = true := by kernel_rfl

/-! ### le_Buf_To -/
def F_le_Buf_Tor0 : List IStmt := [
  ⟨some 4, .mv (.t 1), none⟩,
  ⟨some 5, .bin .gtr (.t 4) (.c (.int .i64 0)), none⟩,
  ⟨some 6, .mv (.t 5), none⟩,
  ⟨some 7, .mv (.t 1), some (2, true)⟩,
  ⟨some 8, .bin .leq (.t 7) (.c (.int .i64 262144)), some (2, true)⟩,
  ⟨some 9, .pick (.t 6) (.t 8) (.c (.bool false)), none⟩,
  ⟨some 10, .mv (.t 9), none⟩,
  ⟨some 11, .mv (.t 1), some (6, true)⟩,
  ⟨some 12, .conv .u64 (.t 11), some (6, true)⟩,
  ⟨some 13, .callc 52 [(.t 12)], some (6, true)⟩,
  ⟨some 14, .pick (.t 10) (.t 13) (.c (.bool false)), none⟩]
theorem F_le_Buf_Tor0_W {T : Tab} {env : Env} {H : Heap} {Q : Post} : W T (.reg F_le_Buf_Tor0) env H Q ↔ WR T F_le_Buf_Tor0 [
  ⟨some 4, .mv (.t 1), none⟩,
  ⟨some 5, .bin .gtr (.t 4) (.c (.int .i64 0)), none⟩,
  ⟨some 6, .mv (.t 5), none⟩,
  ⟨some 7, .mv (.t 1), some (2, true)⟩,
  ⟨some 8, .bin .leq (.t 7) (.c (.int .i64 262144)), some (2, true)⟩,
  ⟨some 9, .pick (.t 6) (.t 8) (.c (.bool false)), none⟩,
  ⟨some 10, .mv (.t 9), none⟩,
  ⟨some 11, .mv (.t 1), some (6, true)⟩,
  ⟨some 12, .conv .u64 (.t 11), some (6, true)⟩,
  ⟨some 13, .callc 52 [(.t 12)], some (6, true)⟩,
  ⟨some 14, .pick (.t 10) (.t 13) (.c (.bool false)), none⟩] env H none [] Q := w_reg
theorem F_le_Buf_Tor0_g2 {env : Env} : yieldI F_le_Buf_Tor0 env 2 = bOf (env 6) := rfl
theorem F_le_Buf_Tor0_g6 {env : Env} : yieldI F_le_Buf_Tor0 env 6 = bOf (env 10) := rfl
def F_le_Buf_Tor1 : List IStmt := [
  ⟨some 15, .mv (.t 0), none⟩,
  ⟨some 16, .mv (.t 1), none⟩,
  ⟨some 17, .mv (.t 0), none⟩,
  ⟨some 18, .nilc (.t 17), none⟩,
  ⟨some 19, .fa 0 (.t 18), none⟩,
  ⟨some 20, .load (.t 19), none⟩,
  ⟨some 21, .len 1 (.t 20), none⟩,
  ⟨some 22, .mv (.t 1), none⟩,
  ⟨some 23, .bin .rem (.t 21) (.t 22), none⟩,
  ⟨some 24, .bin .sub (.t 16) (.t 23), none⟩,
  ⟨some 25, .mv (.t 1), none⟩,
  ⟨some 26, .bin .rem (.t 24) (.t 25), none⟩,
  ⟨some 27, .call 25 [(.t 15), (.t 26)], none⟩]
theorem F_le_Buf_Tor1_W {T : Tab} {env : Env} {H : Heap} {Q : Post} : W T (.reg F_le_Buf_Tor1) env H Q ↔ WR T F_le_Buf_Tor1 [
  ⟨some 15, .mv (.t 0), none⟩,
  ⟨some 16, .mv (.t 1), none⟩,
  ⟨some 17, .mv (.t 0), none⟩,
  ⟨some 18, .nilc (.t 17), none⟩,
  ⟨some 19, .fa 0 (.t 18), none⟩,
  ⟨some 20, .load (.t 19), none⟩,
  ⟨some 21, .len 1 (.t 20), none⟩,
  ⟨some 22, .mv (.t 1), none⟩,
  ⟨some 23, .bin .rem (.t 21) (.t 22), none⟩,
  ⟨some 24, .bin .sub (.t 16) (.t 23), none⟩,
  ⟨some 25, .mv (.t 1), none⟩,
  ⟨some 26, .bin .rem (.t 24) (.t 25), none⟩,
  ⟨some 27, .call 25 [(.t 15), (.t 26)], none⟩] env H none [] Q := w_reg
def F_le_Buf_Toc : ICode := (.seq (.reg F_le_Buf_Tor0) (.cond (.t 14) (.reg F_le_Buf_Tor1) .skip))
theorem F_le_Buf_Toc_W {T : Tab} {env : Env} {H : Heap} {Q : Post} : W T F_le_Buf_Toc env H Q ↔ W T (.seq (.reg F_le_Buf_Tor0) (.cond (.t 14) (.reg F_le_Buf_Tor1) .skip)) env H Q := Iff.rfl
def F_le_Buf_To : IFn := ⟨28, [], F_le_Buf_Toc⟩
set_option maxRecDepth 1000000 in
theorem F_le_Buf_To_chk : chkF Try.prog 26 F_le_Buf_To = true := by kernel_rfl

/-! ### le_Buf_Set64 -/
def F_le_Buf_Set64r0 : List IStmt := [
  ⟨some 6, .mv (.c (.bool false)), none⟩]
theorem F_le_Buf_Set64r0_W {T : Tab} {env : Env} {H : Heap} {Q : Post} : W T (.reg F_le_Buf_Set64r0) env H Q ↔ WR T F_le_Buf_Set64r0 [
  ⟨some 6, .mv (.c (.bool false)), none⟩] env H none [] Q := w_reg
def F_le_Buf_Set64r1 : List IStmt := [
  ⟨some 8, .mv (.t 1), none⟩,
  ⟨some 9, .bin .lss (.t 8) (.c (.int .i64 0)), none⟩,
  ⟨some 10, .mv (.t 9), none⟩,
  ⟨some 11, .mv (.t 1), some (2, false)⟩,
  ⟨some 12, .mv (.t 0), some (2, false)⟩,
  ⟨some 13, .nilc (.t 12), some (2, false)⟩,
  ⟨some 14, .fa 0 (.t 13), some (2, false)⟩,
  ⟨some 15, .load (.t 14), some (2, false)⟩,
  ⟨some 16, .len 1 (.t 15), some (2, false)⟩,
  ⟨some 17, .bin .sub (.t 16) (.c (.int .i64 8)), some (2, false)⟩,
  ⟨some 18, .bin .gtr (.t 11) (.t 17), some (2, false)⟩,
  ⟨some 19, .pick (.t 10) (.c (.bool true)) (.t 18), none⟩]
theorem F_le_Buf_Set64r1_W {T : Tab} {env : Env} {H : Heap} {Q : Post} : W T (.reg F_le_Buf_Set64r1) env H Q ↔ WR T F_le_Buf_Set64r1 [
  ⟨some 8, .mv (.t 1), none⟩,
  ⟨some 9, .bin .lss (.t 8) (.c (.int .i64 0)), none⟩,
  ⟨some 10, .mv (.t 9), none⟩,
  ⟨some 11, .mv (.t 1), some (2, false)⟩,
  ⟨some 12, .mv (.t 0), some (2, false)⟩,
  ⟨some 13, .nilc (.t 12), some (2, false)⟩,
  ⟨some 14, .fa 0 (.t 13), some (2, false)⟩,
  ⟨some 15, .load (.t 14), some (2, false)⟩,
  ⟨some 16, .len 1 (.t 15), some (2, false)⟩,
  ⟨some 17, .bin .sub (.t 16) (.c (.int .i64 8)), some (2, false)⟩,
  ⟨some 18, .bin .gtr (.t 11) (.t 17), some (2, false)⟩,
  ⟨some 19, .pick (.t 10) (.c (.bool true)) (.t 18), none⟩] env H none [] Q := w_reg
theorem F_le_Buf_Set64r1_g2 {env : Env} : yieldI F_le_Buf_Set64r1 env 2 = bOf (env 10) := rfl
def F_le_Buf_Set64r2 : List IStmt := [
  ⟨some 6, .mv (.c (.bool false)), none⟩]
theorem F_le_Buf_Set64r2_W {T : Tab} {env : Env} {H : Heap} {Q : Post} : W T (.reg F_le_Buf_Set64r2) env H Q ↔ WR T F_le_Buf_Set64r2 [
  ⟨some 6, .mv (.c (.bool false)), none⟩] env H none [] Q := w_reg
def F_le_Buf_Set64r3 : List IStmt := [
  ⟨some 20, .mv (.c (.int .i64 0)), none⟩]
theorem F_le_Buf_Set64r3_W {T : Tab} {env : Env} {H : Heap} {Q : Post} : W T (.reg F_le_Buf_Set64r3) env H Q ↔ WR T F_le_Buf_Set64r3 [
  ⟨some 20, .mv (.c (.int .i64 0)), none⟩] env H none [] Q := w_reg
def F_le_Buf_Set64r4 : List IStmt := [
  ⟨some 21, .bin .lss (.t 20) (.c (.int .i64 8)), none⟩]
theorem F_le_Buf_Set64r4_W {T : Tab} {env : Env} {H : Heap} {Q : Post} : W T (.reg F_le_Buf_Set64r4) env H Q ↔ WR T F_le_Buf_Set64r4 [
  ⟨some 21, .bin .lss (.t 20) (.c (.int .i64 8)), none⟩] env H none [] Q := w_reg
def F_le_Buf_Set64r5 : List IStmt := [
  ⟨some 22, .mv (.t 20), none⟩,
  ⟨some 7, .mv (.t 22), none⟩]
theorem F_le_Buf_Set64r5_W {T : Tab} {env : Env} {H : Heap} {Q : Post} : W T (.reg F_le_Buf_Set64r5) env H Q ↔ WR T F_le_Buf_Set64r5 [
  ⟨some 22, .mv (.t 20), none⟩,
  ⟨some 7, .mv (.t 22), none⟩] env H none [] Q := w_reg
def F_le_Buf_Set64r6 : List IStmt := [
  ⟨some 23, .mv (.t 0), none⟩,
  ⟨some 24, .nilc (.t 23), none⟩,
  ⟨some 25, .fa 0 (.t 24), none⟩,
  ⟨some 26, .load (.t 25), none⟩,
  ⟨some 27, .mv (.t 1), none⟩,
  ⟨some 28, .mv (.t 7), none⟩,
  ⟨some 29, .bin .add (.t 27) (.t 28), none⟩,
  ⟨some 30, .mv (.t 2), none⟩,
  ⟨some 31, .mv (.t 7), none⟩,
  ⟨some 32, .bin .mul (.c (.int .i64 8)) (.t 31), none⟩,
  ⟨some 33, .bin .shr (.t 30) (.t 32), none⟩,
  ⟨some 34, .conv .u8 (.t 33), none⟩,
  ⟨some 35, .ixa 1 (.t 26) (.t 29), none⟩,
  ⟨none, .store 1 (.t 35) (.t 34), none⟩]
theorem F_le_Buf_Set64r6_W {T : Tab} {env : Env} {H : Heap} {Q : Post} : W T (.dreg F_le_Buf_Set64r6 []) env H Q ↔ WR T F_le_Buf_Set64r6 [
  ⟨some 23, .mv (.t 0), none⟩,
  ⟨some 24, .nilc (.t 23), none⟩,
  ⟨some 25, .fa 0 (.t 24), none⟩,
  ⟨some 26, .load (.t 25), none⟩,
  ⟨some 27, .mv (.t 1), none⟩,
  ⟨some 28, .mv (.t 7), none⟩,
  ⟨some 29, .bin .add (.t 27) (.t 28), none⟩,
  ⟨some 30, .mv (.t 2), none⟩,
  ⟨some 31, .mv (.t 7), none⟩,
  ⟨some 32, .bin .mul (.c (.int .i64 8)) (.t 31), none⟩,
  ⟨some 33, .bin .shr (.t 30) (.t 32), none⟩,
  ⟨some 34, .conv .u8 (.t 33), none⟩,
  ⟨some 35, .ixa 1 (.t 26) (.t 29), none⟩,
  ⟨none, .store 1 (.t 35) (.t 34), none⟩] env H none [] Q := w_dreg0
def F_le_Buf_Set64r7 : List IStmt := [
  ⟨some 36, .bin .add (.t 20) (.c (.int .i64 1)), none⟩,
  ⟨some 20, .mv (.t 36), none⟩]
theorem F_le_Buf_Set64r7_W {T : Tab} {env : Env} {H : Heap} {Q : Post} : W T (.reg F_le_Buf_Set64r7) env H Q ↔ WR T F_le_Buf_Set64r7 [
  ⟨some 36, .bin .add (.t 20) (.c (.int .i64 1)), none⟩,
  ⟨some 20, .mv (.t 36), none⟩] env H none [] Q := w_reg
def F_le_Buf_Set64l0 : ICode := (.seq (.reg F_le_Buf_Set64r4) (.seq (.cond (.t 21) .skip (.exit 0)) (.seq (.block 1 (.seq (.reg F_le_Buf_Set64r5) (.dreg F_le_Buf_Set64r6 []))) (.reg F_le_Buf_Set64r7))))
theorem F_le_Buf_Set64l0_W {T : Tab} {env : Env} {H : Heap} {Q : Post} : W T F_le_Buf_Set64l0 env H Q ↔ W T (.seq (.reg F_le_Buf_Set64r4) (.seq (.cond (.t 21) .skip (.exit 0)) (.seq (.block 1 (.seq (.reg F_le_Buf_Set64r5) (.dreg F_le_Buf_Set64r6 []))) (.reg F_le_Buf_Set64r7)))) env H Q := Iff.rfl
def F_le_Buf_Set64r8 : List IStmt := [
  ⟨some 6, .mv (.c (.bool true)), none⟩]
theorem F_le_Buf_Set64r8_W {T : Tab} {env : Env} {H : Heap} {Q : Post} : W T (.reg F_le_Buf_Set64r8) env H Q ↔ WR T F_le_Buf_Set64r8 [
  ⟨some 6, .mv (.c (.bool true)), none⟩] env H none [] Q := w_reg
def F_le_Buf_Set64c : ICode := (.seq (.reg F_le_Buf_Set64r0) (.seq (.seq (.reg F_le_Buf_Set64r1) (.cond (.t 19) (.seq (.reg F_le_Buf_Set64r2) .ret) .skip)) (.seq (.seq (.reg F_le_Buf_Set64r3) (.block 0 (.loop F_le_Buf_Set64l0))) (.seq (.reg F_le_Buf_Set64r8) .ret))))
theorem F_le_Buf_Set64c_W {T : Tab} {env : Env} {H : Heap} {Q : Post} : W T F_le_Buf_Set64c env H Q ↔ W T (.seq (.reg F_le_Buf_Set64r0) (.seq (.seq (.reg F_le_Buf_Set64r1) (.cond (.t 19) (.seq (.reg F_le_Buf_Set64r2) .ret) .skip)) (.seq (.seq (.reg F_le_Buf_Set64r3) (.block 0 (.loop F_le_Buf_Set64l0))) (.seq (.reg F_le_Buf_Set64r8) .ret)))) env H Q := Iff.rfl
def F_le_Buf_Set64 : IFn := ⟨37, [.tmp 6], F_le_Buf_Set64c⟩
set_option maxRecDepth 1000000 in
theorem F_le_Buf_Set64_chk : chkF Try.prog 42 F_le_Buf_Set64 = true := by kernel_rfl

/-! ### le_Buf_Len -/
def F_le_Buf_Lenr0 : List IStmt := [
  ⟨some 2, .mv (.c (.int .i64 0)), none⟩]
theorem F_le_Buf_Lenr0_W {T : Tab} {env : Env} {H : Heap} {Q : Post} : W T (.reg F_le_Buf_Lenr0) env H Q ↔ WR T F_le_Buf_Lenr0 [
  ⟨some 2, .mv (.c (.int .i64 0)), none⟩] env H none [] Q := w_reg
def F_le_Buf_Lenr1 : List IStmt := [
  ⟨some 3, .mv (.t 0), none⟩,
  ⟨some 4, .nilc (.t 3), none⟩,
  ⟨some 5, .fa 0 (.t 4), none⟩,
  ⟨some 6, .load (.t 5), none⟩,
  ⟨some 7, .len 1 (.t 6), none⟩,
  ⟨some 2, .mv (.t 7), none⟩]
theorem F_le_Buf_Lenr1_W {T : Tab} {env : Env} {H : Heap} {Q : Post} : W T (.reg F_le_Buf_Lenr1) env H Q ↔ WR T F_le_Buf_Lenr1 [
  ⟨some 3, .mv (.t 0), none⟩,
  ⟨some 4, .nilc (.t 3), none⟩,
  ⟨some 5, .fa 0 (.t 4), none⟩,
  ⟨some 6, .load (.t 5), none⟩,
  ⟨some 7, .len 1 (.t 6), none⟩,
  ⟨some 2, .mv (.t 7), none⟩] env H none [] Q := w_reg
def F_le_Buf_Lenc : ICode := (.seq (.reg F_le_Buf_Lenr0) (.seq (.reg F_le_Buf_Lenr1) .ret))
theorem F_le_Buf_Lenc_W {T : Tab} {env : Env} {H : Heap} {Q : Post} : W T F_le_Buf_Lenc env H Q ↔ W T (.seq (.reg F_le_Buf_Lenr0) (.seq (.reg F_le_Buf_Lenr1) .ret)) env H Q := Iff.rfl
def F_le_Buf_Len : IFn := ⟨8, [.tmp 2], F_le_Buf_Lenc⟩
set_option maxRecDepth 1000000 in
theorem F_le_Buf_Len_chk : chkF Try.prog 28 F_le_Buf_Len = true := by kernel_rfl

/-! ### le_Buf_Bytes -/
def F_le_Buf_Bytesr0 : List IStmt := [
  ⟨some 2, .mv (.c (.slice none 0 0)), none⟩]
theorem F_le_Buf_Bytesr0_W {T : Tab} {env : Env} {H : Heap} {Q : Post} : W T (.reg F_le_Buf_Bytesr0) env H Q ↔ WR T F_le_Buf_Bytesr0 [
  ⟨some 2, .mv (.c (.slice none 0 0)), none⟩] env H none [] Q := w_reg
def F_le_Buf_Bytesr1 : List IStmt := [
  ⟨some 3, .mv (.t 0), none⟩,
  ⟨some 4, .nilc (.t 3), none⟩,
  ⟨some 5, .fa 0 (.t 4), none⟩,
  ⟨some 6, .load (.t 5), none⟩,
  ⟨some 7, .app 1 1 (.c (.slice none 0 0)) (.t 6), none⟩,
  ⟨some 2, .mv (.t 7), none⟩]
theorem F_le_Buf_Bytesr1_W {T : Tab} {env : Env} {H : Heap} {Q : Post} : W T (.reg F_le_Buf_Bytesr1) env H Q ↔ WR T F_le_Buf_Bytesr1 [
  ⟨some 3, .mv (.t 0), none⟩,
  ⟨some 4, .nilc (.t 3), none⟩,
  ⟨some 5, .fa 0 (.t 4), none⟩,
  ⟨some 6, .load (.t 5), none⟩,
  ⟨some 7, .app 1 1 (.c (.slice none 0 0)) (.t 6), none⟩,
  ⟨some 2, .mv (.t 7), none⟩] env H none [] Q := w_reg
def F_le_Buf_Bytesc : ICode := (.seq (.reg F_le_Buf_Bytesr0) (.seq (.reg F_le_Buf_Bytesr1) .ret))
theorem F_le_Buf_Bytesc_W {T : Tab} {env : Env} {H : Heap} {Q : Post} : W T F_le_Buf_Bytesc env H Q ↔ W T (.seq (.reg F_le_Buf_Bytesr0) (.seq (.reg F_le_Buf_Bytesr1) .ret)) env H Q := Iff.rfl
def F_le_Buf_Bytes : IFn := ⟨8, [.tmp 2], F_le_Buf_Bytesc⟩
set_option maxRecDepth 1000000 in
theorem F_le_Buf_Bytes_chk : chkF Try.prog 27 F_le_Buf_Bytes = true := by kernel_rfl

/-! ### ref02_Get -/
def F_ref02_Getr0 : List IStmt := [
  ⟨some 6, .mv (.c (.int .u64 0)), none⟩,
  ⟨some 7, .mv (.c (.int .i64 0)), none⟩]
theorem F_ref02_Getr0_W {T : Tab} {env : Env} {H : Heap} {Q : Post} : W T (.reg F_ref02_Getr0) env H Q ↔ WR T F_ref02_Getr0 [
  ⟨some 6, .mv (.c (.int .u64 0)), none⟩,
  ⟨some 7, .mv (.c (.int .i64 0)), none⟩] env H none [] Q := w_reg
def F_ref02_Getr1 : List IStmt := [
  ⟨some 11, .mv (.t 1), none⟩,
  ⟨some 12, .mv (.t 0), none⟩,
  ⟨some 13, .len 1 (.t 12), none⟩,
  ⟨some 14, .conv .u64 (.t 13), none⟩,
  ⟨some 15, .bin .gtr (.t 11) (.t 14), none⟩,
  ⟨some 16, .mv (.t 15), none⟩,
  ⟨some 17, .mv (.t 0), some (5, false)⟩,
  ⟨some 18, .len 1 (.t 17), some (5, false)⟩,
  ⟨some 19, .mv (.t 1), some (5, false)⟩,
  ⟨some 20, .conv .i64 (.t 19), some (5, false)⟩,
  ⟨some 21, .bin .sub (.t 18) (.t 20), some (5, false)⟩,
  ⟨some 22, .mv (.t 2), some (5, false)⟩,
  ⟨some 23, .bin .lss (.t 21) (.t 22), some (5, false)⟩,
  ⟨some 24, .pick (.t 16) (.c (.bool true)) (.t 23), none⟩]
theorem F_ref02_Getr1_W {T : Tab} {env : Env} {H : Heap} {Q : Post} : W T (.reg F_ref02_Getr1) env H Q ↔ WR T F_ref02_Getr1 [
  ⟨some 11, .mv (.t 1), none⟩,
  ⟨some 12, .mv (.t 0), none⟩,
  ⟨some 13, .len 1 (.t 12), none⟩,
  ⟨some 14, .conv .u64 (.t 13), none⟩,
  ⟨some 15, .bin .gtr (.t 11) (.t 14), none⟩,
  ⟨some 16, .mv (.t 15), none⟩,
  ⟨some 17, .mv (.t 0), some (5, false)⟩,
  ⟨some 18, .len 1 (.t 17), some (5, false)⟩,
  ⟨some 19, .mv (.t 1), some (5, false)⟩,
  ⟨some 20, .conv .i64 (.t 19), some (5, false)⟩,
  ⟨some 21, .bin .sub (.t 18) (.t 20), some (5, false)⟩,
  ⟨some 22, .mv (.t 2), some (5, false)⟩,
  ⟨some 23, .bin .lss (.t 21) (.t 22), some (5, false)⟩,
  ⟨some 24, .pick (.t 16) (.c (.bool true)) (.t 23), none⟩] env H none [] Q := w_reg
theorem F_ref02_Getr1_g5 {env : Env} : yieldI F_ref02_Getr1 env 5 = bOf (env 16) := rfl
def F_ref02_Getr2 : List IStmt := [
  ⟨some 6, .mv (.c (.int .u64 0)), none⟩,
  ⟨some 7, .mv (.c (.int .i64 20)), none⟩]
theorem F_ref02_Getr2_W {T : Tab} {env : Env} {H : Heap} {Q : Post} : W T (.reg F_ref02_Getr2) env H Q ↔ WR T F_ref02_Getr2 [
  ⟨some 6, .mv (.c (.int .u64 0)), none⟩,
  ⟨some 7, .mv (.c (.int .i64 20)), none⟩] env H none [] Q := w_reg
def F_ref02_Getr3 : List IStmt := [
  ⟨some 8, .mv (.c (.int .u64 0)), none⟩,
  ⟨some 9, .mv (.c (.int .u64 1)), none⟩]
theorem F_ref02_Getr3_W {T : Tab} {env : Env} {H : Heap} {Q : Post} : W T (.reg F_ref02_Getr3) env H Q ↔ WR T F_ref02_Getr3 [
  ⟨some 8, .mv (.c (.int .u64 0)), none⟩,
  ⟨some 9, .mv (.c (.int .u64 1)), none⟩] env H none [] Q := w_reg
def F_ref02_Getr4 : List IStmt := [
  ⟨some 10, .mv (.c (.int .i64 0)), none⟩]
theorem F_ref02_Getr4_W {T : Tab} {env : Env} {H : Heap} {Q : Post} : W T (.reg F_ref02_Getr4) env H Q ↔ WR T F_ref02_Getr4 [
  ⟨some 10, .mv (.c (.int .i64 0)), none⟩] env H none [] Q := w_reg
def F_ref02_Getr5 : List IStmt := [
  ⟨some 25, .mv (.t 10), none⟩,
  ⟨some 26, .mv (.t 2), none⟩,
  ⟨some 27, .bin .lss (.t 25) (.t 26), none⟩]
theorem F_ref02_Getr5_W {T : Tab} {env : Env} {H : Heap} {Q : Post} : W T (.reg F_ref02_Getr5) env H Q ↔ WR T F_ref02_Getr5 [
  ⟨some 25, .mv (.t 10), none⟩,
  ⟨some 26, .mv (.t 2), none⟩,
  ⟨some 27, .bin .lss (.t 25) (.t 26), none⟩] env H none [] Q := w_reg
def F_ref02_Getr7 : List IStmt := [
  ⟨some 30, .mv (.t 8), none⟩,
  ⟨some 31, .mv (.t 0), none⟩,
  ⟨some 32, .mv (.t 1), none⟩,
  ⟨some 33, .conv .i64 (.t 32), none⟩,
  ⟨some 34, .mv (.t 10), none⟩,
  ⟨some 35, .bin .add (.t 33) (.t 34), none⟩,
  ⟨some 36, .ixa 1 (.t 31) (.t 35), none⟩,
  ⟨some 37, .load (.t 36), none⟩,
  ⟨some 38, .conv .u64 (.t 37), none⟩,
  ⟨some 39, .mv (.t 9), none⟩,
  ⟨some 40, .bin .mul (.t 38) (.t 39), none⟩,
  ⟨some 41, .bin .add (.t 30) (.t 40), none⟩,
  ⟨some 8, .mv (.t 41), none⟩]
theorem F_ref02_Getr7_W {T : Tab} {env : Env} {H : Heap} {Q : Post} : W T (.reg F_ref02_Getr7) env H Q ↔ WR T F_ref02_Getr7 [
  ⟨some 30, .mv (.t 8), none⟩,
  ⟨some 31, .mv (.t 0), none⟩,
  ⟨some 32, .mv (.t 1), none⟩,
  ⟨some 33, .conv .i64 (.t 32), none⟩,
  ⟨some 34, .mv (.t 10), none⟩,
  ⟨some 35, .bin .add (.t 33) (.t 34), none⟩,
  ⟨some 36, .ixa 1 (.t 31) (.t 35), none⟩,
  ⟨some 37, .load (.t 36), none⟩,
  ⟨some 38, .conv .u64 (.t 37), none⟩,
  ⟨some 39, .mv (.t 9), none⟩,
  ⟨some 40, .bin .mul (.t 38) (.t 39), none⟩,
  ⟨some 41, .bin .add (.t 30) (.t 40), none⟩,
  ⟨some 8, .mv (.t 41), none⟩] env H none [] Q := w_reg
def F_ref02_Getr8 : List IStmt := [
  ⟨some 42, .mv (.t 9), none⟩,
  ⟨some 43, .bin .mul (.t 42) (.c (.int .u64 256)), none⟩,
  ⟨some 9, .mv (.t 43), none⟩]
theorem F_ref02_Getr8_W {T : Tab} {env : Env} {H : Heap} {Q : Post} : W T (.reg F_ref02_Getr8) env H Q ↔ WR T F_ref02_Getr8 [
  ⟨some 42, .mv (.t 9), none⟩,
  ⟨some 43, .bin .mul (.t 42) (.c (.int .u64 256)), none⟩,
  ⟨some 9, .mv (.t 43), none⟩] env H none [] Q := w_reg
def F_ref02_Getr6 : List IStmt := [
  ⟨some 28, .mv (.t 10), none⟩,
  ⟨some 29, .bin .add (.t 28) (.c (.int .i64 1)), none⟩,
  ⟨some 10, .mv (.t 29), none⟩]
theorem F_ref02_Getr6_W {T : Tab} {env : Env} {H : Heap} {Q : Post} : W T (.reg F_ref02_Getr6) env H Q ↔ WR T F_ref02_Getr6 [
  ⟨some 28, .mv (.t 10), none⟩,
  ⟨some 29, .bin .add (.t 28) (.c (.int .i64 1)), none⟩,
  ⟨some 10, .mv (.t 29), none⟩] env H none [] Q := w_reg
def F_ref02_Getl0 : ICode := (.seq (.seq (.reg F_ref02_Getr5) (.cond (.t 27) .skip (.exit 0))) (.seq (.block 1 (.seq (.reg F_ref02_Getr7) (.reg F_ref02_Getr8))) (.reg F_ref02_Getr6)))
theorem F_ref02_Getl0_W {T : Tab} {env : Env} {H : Heap} {Q : Post} : W T F_ref02_Getl0 env H Q ↔ W T (.seq (.seq (.reg F_ref02_Getr5) (.cond (.t 27) .skip (.exit 0))) (.seq (.block 1 (.seq (.reg F_ref02_Getr7) (.reg F_ref02_Getr8))) (.reg F_ref02_Getr6))) env H Q := Iff.rfl
def F_ref02_Getr9 : List IStmt := [
  ⟨some 44, .mv (.t 8), none⟩,
  ⟨some 6, .mv (.t 44), none⟩,
  ⟨some 7, .mv (.c (.int .i64 0)), none⟩]
theorem F_ref02_Getr9_W {T : Tab} {env : Env} {H : Heap} {Q : Post} : W T (.reg F_ref02_Getr9) env H Q ↔ WR T F_ref02_Getr9 [
  ⟨some 44, .mv (.t 8), none⟩,
  ⟨some 6, .mv (.t 44), none⟩,
  ⟨some 7, .mv (.c (.int .i64 0)), none⟩] env H none [] Q := w_reg
def F_ref02_Getc : ICode := (.seq (.reg F_ref02_Getr0) (.seq (.seq (.reg F_ref02_Getr1) (.cond (.t 24) (.seq (.reg F_ref02_Getr2) .ret) .skip)) (.seq (.reg F_ref02_Getr3) (.seq (.seq (.reg F_ref02_Getr4) (.block 0 (.loop F_ref02_Getl0))) (.seq (.reg F_ref02_Getr9) .ret)))))
theorem F_ref02_Getc_W {T : Tab} {env : Env} {H : Heap} {Q : Post} : W T F_ref02_Getc env H Q ↔ W T (.seq (.reg F_ref02_Getr0) (.seq (.seq (.reg F_ref02_Getr1) (.cond (.t 24) (.seq (.reg F_ref02_Getr2) .ret) .skip)) (.seq (.reg F_ref02_Getr3) (.seq (.seq (.reg F_ref02_Getr4) (.block 0 (.loop F_ref02_Getl0))) (.seq (.reg F_ref02_Getr9) .ret))))) env H Q := Iff.rfl
def F_ref02_Get : IFn := ⟨45, [.tmp 6, .tmp 7], F_ref02_Getc⟩
set_option maxRecDepth 1000000 in
theorem F_ref02_Get_chk : chkF Try.prog 37 F_ref02_Get = true := by kernel_rfl

/-! ### ref02_Part -/
def F_ref02_Partr0 : List IStmt := [
  ⟨some 6, .mv (.c (.slice none 0 0)), none⟩,
  ⟨some 7, .mv (.c (.int .i64 0)), none⟩]
theorem F_ref02_Partr0_W {T : Tab} {env : Env} {H : Heap} {Q : Post} : W T (.reg F_ref02_Partr0) env H Q ↔ WR T F_ref02_Partr0 [
  ⟨some 6, .mv (.c (.slice none 0 0)), none⟩,
  ⟨some 7, .mv (.c (.int .i64 0)), none⟩] env H none [] Q := w_reg
def F_ref02_Partr1 : List IStmt := [
  ⟨some 9, .mv (.t 0), none⟩,
  ⟨some 10, .len 1 (.t 9), none⟩,
  ⟨some 11, .conv .u64 (.t 10), none⟩,
  ⟨some 8, .mv (.t 11), none⟩]
theorem F_ref02_Partr1_W {T : Tab} {env : Env} {H : Heap} {Q : Post} : W T (.reg F_ref02_Partr1) env H Q ↔ WR T F_ref02_Partr1 [
  ⟨some 9, .mv (.t 0), none⟩,
  ⟨some 10, .len 1 (.t 9), none⟩,
  ⟨some 11, .conv .u64 (.t 10), none⟩,
  ⟨some 8, .mv (.t 11), none⟩] env H none [] Q := w_reg
def F_ref02_Partr2 : List IStmt := [
  ⟨some 12, .mv (.t 1), none⟩,
  ⟨some 13, .mv (.t 8), none⟩,
  ⟨some 14, .bin .gtr (.t 12) (.t 13), none⟩,
  ⟨some 15, .mv (.t 14), none⟩,
  ⟨some 16, .mv (.t 2), some (3, false)⟩,
  ⟨some 17, .mv (.t 8), some (3, false)⟩,
  ⟨some 18, .mv (.t 1), some (3, false)⟩,
  ⟨some 19, .bin .sub (.t 17) (.t 18), some (3, false)⟩,
  ⟨some 20, .bin .gtr (.t 16) (.t 19), some (3, false)⟩,
  ⟨some 21, .pick (.t 15) (.c (.bool true)) (.t 20), none⟩]
theorem F_ref02_Partr2_W {T : Tab} {env : Env} {H : Heap} {Q : Post} : W T (.reg F_ref02_Partr2) env H Q ↔ WR T F_ref02_Partr2 [
  ⟨some 12, .mv (.t 1), none⟩,
  ⟨some 13, .mv (.t 8), none⟩,
  ⟨some 14, .bin .gtr (.t 12) (.t 13), none⟩,
  ⟨some 15, .mv (.t 14), none⟩,
  ⟨some 16, .mv (.t 2), some (3, false)⟩,
  ⟨some 17, .mv (.t 8), some (3, false)⟩,
  ⟨some 18, .mv (.t 1), some (3, false)⟩,
  ⟨some 19, .bin .sub (.t 17) (.t 18), some (3, false)⟩,
  ⟨some 20, .bin .gtr (.t 16) (.t 19), some (3, false)⟩,
  ⟨some 21, .pick (.t 15) (.c (.bool true)) (.t 20), none⟩] env H none [] Q := w_reg
theorem F_ref02_Partr2_g3 {env : Env} : yieldI F_ref02_Partr2 env 3 = bOf (env 15) := rfl
def F_ref02_Partr3 : List IStmt := [
  ⟨some 6, .mv (.c (.slice none 0 0)), none⟩,
  ⟨some 7, .mv (.c (.int .i64 20)), none⟩]
theorem F_ref02_Partr3_W {T : Tab} {env : Env} {H : Heap} {Q : Post} : W T (.reg F_ref02_Partr3) env H Q ↔ WR T F_ref02_Partr3 [
  ⟨some 6, .mv (.c (.slice none 0 0)), none⟩,
  ⟨some 7, .mv (.c (.int .i64 20)), none⟩] env H none [] Q := w_reg
def F_ref02_Partr4 : List IStmt := [
  ⟨some 22, .bslz 1, none⟩,
  ⟨some 23, .mv (.t 0), none⟩,
  ⟨some 24, .mv (.t 1), none⟩,
  ⟨some 25, .mv (.t 1), none⟩,
  ⟨some 26, .mv (.t 2), none⟩,
  ⟨some 27, .bin .add (.t 25) (.t 26), none⟩,
  ⟨some 28, .sle 1 (.t 23) (some (.t 24)) (some (.t 27)) none, none⟩,
  ⟨some 29, .appf 1 1 (.t 22) (.t 28), none⟩,
  ⟨some 6, .mv (.t 29), none⟩,
  ⟨some 7, .mv (.c (.int .i64 0)), none⟩]
theorem F_ref02_Partr4_W {T : Tab} {env : Env} {H : Heap} {Q : Post} : W T (.reg F_ref02_Partr4) env H Q ↔ WR T F_ref02_Partr4 [
  ⟨some 22, .bslz 1, none⟩,
  ⟨some 23, .mv (.t 0), none⟩,
  ⟨some 24, .mv (.t 1), none⟩,
  ⟨some 25, .mv (.t 1), none⟩,
  ⟨some 26, .mv (.t 2), none⟩,
  ⟨some 27, .bin .add (.t 25) (.t 26), none⟩,
  ⟨some 28, .sle 1 (.t 23) (some (.t 24)) (some (.t 27)) none, none⟩,
  ⟨some 29, .appf 1 1 (.t 22) (.t 28), none⟩,
  ⟨some 6, .mv (.t 29), none⟩,
  ⟨some 7, .mv (.c (.int .i64 0)), none⟩] env H none [] Q := w_reg
def F_ref02_Partc : ICode := (.seq (.reg F_ref02_Partr0) (.seq (.reg F_ref02_Partr1) (.seq (.seq (.reg F_ref02_Partr2) (.cond (.t 21) (.seq (.reg F_ref02_Partr3) .ret) .skip)) (.seq (.reg F_ref02_Partr4) .ret))))
theorem F_ref02_Partc_W {T : Tab} {env : Env} {H : Heap} {Q : Post} : W T F_ref02_Partc env H Q ↔ W T (.seq (.reg F_ref02_Partr0) (.seq (.reg F_ref02_Partr1) (.seq (.seq (.reg F_ref02_Partr2) (.cond (.t 21) (.seq (.reg F_ref02_Partr3) .ret) .skip)) (.seq (.reg F_ref02_Partr4) .ret)))) env H Q := Iff.rfl
def F_ref02_Part : IFn := ⟨30, [.tmp 6, .tmp 7], F_ref02_Partc⟩
set_option maxRecDepth 1000000 in
theorem F_ref02_Part_chk : chkF Try.prog 38 F_ref02_Part = true := by kernel_rfl

/-! ### ref02_Plain -/
def F_ref02_Plainr0 : List IStmt := [
  ⟨some 2, .mv (.c (.bool false)), none⟩]
theorem F_ref02_Plainr0_W {T : Tab} {env : Env} {H : Heap} {Q : Post} : W T (.reg F_ref02_Plainr0) env H Q ↔ WR T F_ref02_Plainr0 [
  ⟨some 2, .mv (.c (.bool false)), none⟩] env H none [] Q := w_reg
def F_ref02_Plainr1 : List IStmt := [
  ⟨some 3, .mv (.c (.int .i64 0)), none⟩]
theorem F_ref02_Plainr1_W {T : Tab} {env : Env} {H : Heap} {Q : Post} : W T (.reg F_ref02_Plainr1) env H Q ↔ WR T F_ref02_Plainr1 [
  ⟨some 3, .mv (.c (.int .i64 0)), none⟩] env H none [] Q := w_reg
def F_ref02_Plainr2 : List IStmt := [
  ⟨some 4, .mv (.t 3), none⟩,
  ⟨some 5, .mv (.t 0), none⟩,
  ⟨some 6, .len 0 (.t 5), none⟩,
  ⟨some 7, .bin .lss (.t 4) (.t 6), none⟩]
theorem F_ref02_Plainr2_W {T : Tab} {env : Env} {H : Heap} {Q : Post} : W T (.reg F_ref02_Plainr2) env H Q ↔ WR T F_ref02_Plainr2 [
  ⟨some 4, .mv (.t 3), none⟩,
  ⟨some 5, .mv (.t 0), none⟩,
  ⟨some 6, .len 0 (.t 5), none⟩,
  ⟨some 7, .bin .lss (.t 4) (.t 6), none⟩] env H none [] Q := w_reg
def F_ref02_Plainr4 : List IStmt := [
  ⟨some 10, .mv (.t 0), none⟩,
  ⟨some 11, .mv (.t 3), none⟩,
  ⟨some 12, .ixs (.t 10) (.t 11), none⟩,
  ⟨some 13, .bin .lss (.t 12) (.c (.int .u8 33)), none⟩,
  ⟨some 14, .mv (.t 13), none⟩,
  ⟨some 15, .mv (.t 0), some (4, false)⟩,
  ⟨some 16, .mv (.t 3), some (4, false)⟩,
  ⟨some 17, .ixs (.t 15) (.t 16), some (4, false)⟩,
  ⟨some 18, .bin .gtr (.t 17) (.c (.int .u8 126)), some (4, false)⟩,
  ⟨some 19, .pick (.t 14) (.c (.bool true)) (.t 18), none⟩]
theorem F_ref02_Plainr4_W {T : Tab} {env : Env} {H : Heap} {Q : Post} : W T (.reg F_ref02_Plainr4) env H Q ↔ WR T F_ref02_Plainr4 [
  ⟨some 10, .mv (.t 0), none⟩,
  ⟨some 11, .mv (.t 3), none⟩,
  ⟨some 12, .ixs (.t 10) (.t 11), none⟩,
  ⟨some 13, .bin .lss (.t 12) (.c (.int .u8 33)), none⟩,
  ⟨some 14, .mv (.t 13), none⟩,
  ⟨some 15, .mv (.t 0), some (4, false)⟩,
  ⟨some 16, .mv (.t 3), some (4, false)⟩,
  ⟨some 17, .ixs (.t 15) (.t 16), some (4, false)⟩,
  ⟨some 18, .bin .gtr (.t 17) (.c (.int .u8 126)), some (4, false)⟩,
  ⟨some 19, .pick (.t 14) (.c (.bool true)) (.t 18), none⟩] env H none [] Q := w_reg
theorem F_ref02_Plainr4_g4 {env : Env} : yieldI F_ref02_Plainr4 env 4 = bOf (env 14) := rfl
def F_ref02_Plainr5 : List IStmt := [
  ⟨some 2, .mv (.c (.bool false)), none⟩]
theorem F_ref02_Plainr5_W {T : Tab} {env : Env} {H : Heap} {Q : Post} : W T (.reg F_ref02_Plainr5) env H Q ↔ WR T F_ref02_Plainr5 [
  ⟨some 2, .mv (.c (.bool false)), none⟩] env H none [] Q := w_reg
def F_ref02_Plainr3 : List IStmt := [
  ⟨some 8, .mv (.t 3), none⟩,
  ⟨some 9, .bin .add (.t 8) (.c (.int .i64 1)), none⟩,
  ⟨some 3, .mv (.t 9), none⟩]
theorem F_ref02_Plainr3_W {T : Tab} {env : Env} {H : Heap} {Q : Post} : W T (.reg F_ref02_Plainr3) env H Q ↔ WR T F_ref02_Plainr3 [
  ⟨some 8, .mv (.t 3), none⟩,
  ⟨some 9, .bin .add (.t 8) (.c (.int .i64 1)), none⟩,
  ⟨some 3, .mv (.t 9), none⟩] env H none [] Q := w_reg
def F_ref02_Plainl0 : ICode := (.seq (.seq (.reg F_ref02_Plainr2) (.cond (.t 7) .skip (.exit 0))) (.seq (.block 1 (.seq (.reg F_ref02_Plainr4) (.cond (.t 19) (.seq (.reg F_ref02_Plainr5) .ret) .skip))) (.reg F_ref02_Plainr3)))
theorem F_ref02_Plainl0_W {T : Tab} {env : Env} {H : Heap} {Q : Post} : W T F_ref02_Plainl0 env H Q ↔ W T (.seq (.seq (.reg F_ref02_Plainr2) (.cond (.t 7) .skip (.exit 0))) (.seq (.block 1 (.seq (.reg F_ref02_Plainr4) (.cond (.t 19) (.seq (.reg F_ref02_Plainr5) .ret) .skip))) (.reg F_ref02_Plainr3))) env H Q := Iff.rfl
def F_ref02_Plainr6 : List IStmt := [
  ⟨some 20, .mv (.t 0), none⟩,
  ⟨some 21, .len 0 (.t 20), none⟩,
  ⟨some 22, .bin .leq (.t 21) (.c (.int .i64 64)), none⟩,
  ⟨some 2, .mv (.t 22), none⟩]
theorem F_ref02_Plainr6_W {T : Tab} {env : Env} {H : Heap} {Q : Post} : W T (.reg F_ref02_Plainr6) env H Q ↔ WR T F_ref02_Plainr6 [
  ⟨some 20, .mv (.t 0), none⟩,
  ⟨some 21, .len 0 (.t 20), none⟩,
  ⟨some 22, .bin .leq (.t 21) (.c (.int .i64 64)), none⟩,
  ⟨some 2, .mv (.t 22), none⟩] env H none [] Q := w_reg
def F_ref02_Plainc : ICode := (.seq (.reg F_ref02_Plainr0) (.seq (.seq (.reg F_ref02_Plainr1) (.block 0 (.loop F_ref02_Plainl0))) (.seq (.reg F_ref02_Plainr6) .ret)))
theorem F_ref02_Plainc_W {T : Tab} {env : Env} {H : Heap} {Q : Post} : W T F_ref02_Plainc env H Q ↔ W T (.seq (.reg F_ref02_Plainr0) (.seq (.seq (.reg F_ref02_Plainr1) (.block 0 (.loop F_ref02_Plainl0))) (.seq (.reg F_ref02_Plainr6) .ret))) env H Q := Iff.rfl
def F_ref02_Plain : IFn := ⟨23, [.tmp 2], F_ref02_Plainc⟩
set_option maxRecDepth 1000000 in
theorem F_ref02_Plain_chk : chkF Try.prog 18 F_ref02_Plain = true := by kernel_rfl

/-! ### ref02_Text -/
def F_ref02_Textr0 : List IStmt := [
  ⟨some 4, .mv (.c (.string ⟨#[]⟩)), none⟩,
  ⟨some 5, .mv (.c (.int .i64 0)), none⟩]
theorem F_ref02_Textr0_W {T : Tab} {env : Env} {H : Heap} {Q : Post} : W T (.reg F_ref02_Textr0) env H Q ↔ WR T F_ref02_Textr0 [
  ⟨some 4, .mv (.c (.string ⟨#[]⟩)), none⟩,
  ⟨some 5, .mv (.c (.int .i64 0)), none⟩] env H none [] Q := w_reg
def F_ref02_Textr1 : List IStmt := [
  ⟨some 8, .mv (.t 1), none⟩,
  ⟨some 9, .mv (.t 0), none⟩,
  ⟨some 10, .len 1 (.t 9), none⟩,
  ⟨some 11, .conv .u64 (.t 10), none⟩,
  ⟨some 12, .bin .geq (.t 8) (.t 11), none⟩]
theorem F_ref02_Textr1_W {T : Tab} {env : Env} {H : Heap} {Q : Post} : W T (.reg F_ref02_Textr1) env H Q ↔ WR T F_ref02_Textr1 [
  ⟨some 8, .mv (.t 1), none⟩,
  ⟨some 9, .mv (.t 0), none⟩,
  ⟨some 10, .len 1 (.t 9), none⟩,
  ⟨some 11, .conv .u64 (.t 10), none⟩,
  ⟨some 12, .bin .geq (.t 8) (.t 11), none⟩] env H none [] Q := w_reg
def F_ref02_Textr2 : List IStmt := [
  ⟨some 4, .mv (.c (.string ⟨#[]⟩)), none⟩,
  ⟨some 5, .mv (.c (.int .i64 20)), none⟩]
theorem F_ref02_Textr2_W {T : Tab} {env : Env} {H : Heap} {Q : Post} : W T (.reg F_ref02_Textr2) env H Q ↔ WR T F_ref02_Textr2 [
  ⟨some 4, .mv (.c (.string ⟨#[]⟩)), none⟩,
  ⟨some 5, .mv (.c (.int .i64 20)), none⟩] env H none [] Q := w_reg
def F_ref02_Textr3 : List IStmt := [
  ⟨some 6, .mv (.c (.string ⟨#[]⟩)), none⟩]
theorem F_ref02_Textr3_W {T : Tab} {env : Env} {H : Heap} {Q : Post} : W T (.reg F_ref02_Textr3) env H Q ↔ WR T F_ref02_Textr3 [
  ⟨some 6, .mv (.c (.string ⟨#[]⟩)), none⟩] env H none [] Q := w_reg
def F_ref02_Textr4 : List IStmt := [
  ⟨some 13, .mv (.t 1), none⟩,
  ⟨some 14, .conv .i64 (.t 13), none⟩,
  ⟨some 7, .mv (.t 14), none⟩]
theorem F_ref02_Textr4_W {T : Tab} {env : Env} {H : Heap} {Q : Post} : W T (.reg F_ref02_Textr4) env H Q ↔ WR T F_ref02_Textr4 [
  ⟨some 13, .mv (.t 1), none⟩,
  ⟨some 14, .conv .i64 (.t 13), none⟩,
  ⟨some 7, .mv (.t 14), none⟩] env H none [] Q := w_reg
def F_ref02_Textr5 : List IStmt := [
  ⟨some 15, .mv (.t 7), none⟩,
  ⟨some 16, .mv (.t 0), none⟩,
  ⟨some 17, .len 1 (.t 16), none⟩,
  ⟨some 18, .bin .lss (.t 15) (.t 17), none⟩]
theorem F_ref02_Textr5_W {T : Tab} {env : Env} {H : Heap} {Q : Post} : W T (.reg F_ref02_Textr5) env H Q ↔ WR T F_ref02_Textr5 [
  ⟨some 15, .mv (.t 7), none⟩,
  ⟨some 16, .mv (.t 0), none⟩,
  ⟨some 17, .len 1 (.t 16), none⟩,
  ⟨some 18, .bin .lss (.t 15) (.t 17), none⟩] env H none [] Q := w_reg
def F_ref02_Textr7 : List IStmt := [
  ⟨some 21, .mv (.t 0), none⟩,
  ⟨some 22, .mv (.t 7), none⟩,
  ⟨some 23, .ixa 1 (.t 21) (.t 22), none⟩,
  ⟨some 24, .load (.t 23), none⟩,
  ⟨some 25, .bin .eql (.t 24) (.c (.int .u8 0)), none⟩]
theorem F_ref02_Textr7_W {T : Tab} {env : Env} {H : Heap} {Q : Post} : W T (.reg F_ref02_Textr7) env H Q ↔ WR T F_ref02_Textr7 [
  ⟨some 21, .mv (.t 0), none⟩,
  ⟨some 22, .mv (.t 7), none⟩,
  ⟨some 23, .ixa 1 (.t 21) (.t 22), none⟩,
  ⟨some 24, .load (.t 23), none⟩,
  ⟨some 25, .bin .eql (.t 24) (.c (.int .u8 0)), none⟩] env H none [] Q := w_reg
def F_ref02_Textr8 : List IStmt := [
  ⟨some 26, .mv (.t 6), none⟩,
  ⟨some 27, .callc 18 [(.t 26)], none⟩,
  ⟨some 28, .un .not (.t 27), none⟩]
theorem F_ref02_Textr8_W {T : Tab} {env : Env} {H : Heap} {Q : Post} : W T (.reg F_ref02_Textr8) env H Q ↔ WR T F_ref02_Textr8 [
  ⟨some 26, .mv (.t 6), none⟩,
  ⟨some 27, .callc 18 [(.t 26)], none⟩,
  ⟨some 28, .un .not (.t 27), none⟩] env H none [] Q := w_reg
def F_ref02_Textr9 : List IStmt := [
  ⟨some 4, .mv (.c (.string ⟨#[]⟩)), none⟩,
  ⟨some 5, .mv (.c (.int .i64 21)), none⟩]
theorem F_ref02_Textr9_W {T : Tab} {env : Env} {H : Heap} {Q : Post} : W T (.reg F_ref02_Textr9) env H Q ↔ WR T F_ref02_Textr9 [
  ⟨some 4, .mv (.c (.string ⟨#[]⟩)), none⟩,
  ⟨some 5, .mv (.c (.int .i64 21)), none⟩] env H none [] Q := w_reg
def F_ref02_Textr10 : List IStmt := [
  ⟨some 29, .mv (.t 6), none⟩,
  ⟨some 4, .mv (.t 29), none⟩,
  ⟨some 5, .mv (.c (.int .i64 0)), none⟩]
theorem F_ref02_Textr10_W {T : Tab} {env : Env} {H : Heap} {Q : Post} : W T (.reg F_ref02_Textr10) env H Q ↔ WR T F_ref02_Textr10 [
  ⟨some 29, .mv (.t 6), none⟩,
  ⟨some 4, .mv (.t 29), none⟩,
  ⟨some 5, .mv (.c (.int .i64 0)), none⟩] env H none [] Q := w_reg
def F_ref02_Textr11 : List IStmt := [
  ⟨some 30, .mv (.t 6), none⟩,
  ⟨some 31, .len 0 (.t 30), none⟩,
  ⟨some 32, .bin .lss (.t 31) (.c (.int .i64 100)), none⟩]
theorem F_ref02_Textr11_W {T : Tab} {env : Env} {H : Heap} {Q : Post} : W T (.reg F_ref02_Textr11) env H Q ↔ WR T F_ref02_Textr11 [
  ⟨some 30, .mv (.t 6), none⟩,
  ⟨some 31, .len 0 (.t 30), none⟩,
  ⟨some 32, .bin .lss (.t 31) (.c (.int .i64 100)), none⟩] env H none [] Q := w_reg
def F_ref02_Textr12 : List IStmt := [
  ⟨some 33, .mv (.t 6), none⟩,
  ⟨some 34, .mv (.t 0), none⟩,
  ⟨some 35, .mv (.t 7), none⟩,
  ⟨some 36, .ixa 1 (.t 34) (.t 35), none⟩,
  ⟨some 37, .load (.t 36), none⟩,
  ⟨some 38, .bsli 1 1 [.int .u8 0] [(0, (.t 37))], none⟩,
  ⟨some 39, .b2s (.t 38), none⟩,
  ⟨some 40, .bin .add (.t 33) (.t 39), none⟩,
  ⟨some 6, .mv (.t 40), none⟩]
theorem F_ref02_Textr12_W {T : Tab} {env : Env} {H : Heap} {Q : Post} : W T (.reg F_ref02_Textr12) env H Q ↔ WR T F_ref02_Textr12 [
  ⟨some 33, .mv (.t 6), none⟩,
  ⟨some 34, .mv (.t 0), none⟩,
  ⟨some 35, .mv (.t 7), none⟩,
  ⟨some 36, .ixa 1 (.t 34) (.t 35), none⟩,
  ⟨some 37, .load (.t 36), none⟩,
  ⟨some 38, .bsli 1 1 [.int .u8 0] [(0, (.t 37))], none⟩,
  ⟨some 39, .b2s (.t 38), none⟩,
  ⟨some 40, .bin .add (.t 33) (.t 39), none⟩,
  ⟨some 6, .mv (.t 40), none⟩] env H none [] Q := w_reg
def F_ref02_Textr6 : List IStmt := [
  ⟨some 19, .mv (.t 7), none⟩,
  ⟨some 20, .bin .add (.t 19) (.c (.int .i64 1)), none⟩,
  ⟨some 7, .mv (.t 20), none⟩]
theorem F_ref02_Textr6_W {T : Tab} {env : Env} {H : Heap} {Q : Post} : W T (.reg F_ref02_Textr6) env H Q ↔ WR T F_ref02_Textr6 [
  ⟨some 19, .mv (.t 7), none⟩,
  ⟨some 20, .bin .add (.t 19) (.c (.int .i64 1)), none⟩,
  ⟨some 7, .mv (.t 20), none⟩] env H none [] Q := w_reg
def F_ref02_Textl0 : ICode := (.seq (.seq (.reg F_ref02_Textr5) (.cond (.t 18) .skip (.exit 0))) (.seq (.block 1 (.seq (.seq (.reg F_ref02_Textr7) (.cond (.t 25) (.seq (.seq (.reg F_ref02_Textr8) (.cond (.t 28) (.seq (.reg F_ref02_Textr9) .ret) .skip)) (.seq (.reg F_ref02_Textr10) .ret)) .skip)) (.seq (.reg F_ref02_Textr11) (.cond (.t 32) (.reg F_ref02_Textr12) .skip)))) (.reg F_ref02_Textr6)))
theorem F_ref02_Textl0_W {T : Tab} {env : Env} {H : Heap} {Q : Post} : W T F_ref02_Textl0 env H Q ↔ W T (.seq (.seq (.reg F_ref02_Textr5) (.cond (.t 18) .skip (.exit 0))) (.seq (.block 1 (.seq (.seq (.reg F_ref02_Textr7) (.cond (.t 25) (.seq (.seq (.reg F_ref02_Textr8) (.cond (.t 28) (.seq (.reg F_ref02_Textr9) .ret) .skip)) (.seq (.reg F_ref02_Textr10) .ret)) .skip)) (.seq (.reg F_ref02_Textr11) (.cond (.t 32) (.reg F_ref02_Textr12) .skip)))) (.reg F_ref02_Textr6))) env H Q := Iff.rfl
def F_ref02_Textr13 : List IStmt := [
  ⟨some 4, .mv (.c (.string ⟨#[]⟩)), none⟩,
  ⟨some 5, .mv (.c (.int .i64 20)), none⟩]
theorem F_ref02_Textr13_W {T : Tab} {env : Env} {H : Heap} {Q : Post} : W T (.reg F_ref02_Textr13) env H Q ↔ WR T F_ref02_Textr13 [
  ⟨some 4, .mv (.c (.string ⟨#[]⟩)), none⟩,
  ⟨some 5, .mv (.c (.int .i64 20)), none⟩] env H none [] Q := w_reg
def F_ref02_Textc : ICode := (.seq (.reg F_ref02_Textr0) (.seq (.seq (.reg F_ref02_Textr1) (.cond (.t 12) (.seq (.reg F_ref02_Textr2) .ret) .skip)) (.seq (.reg F_ref02_Textr3) (.seq (.seq (.reg F_ref02_Textr4) (.block 0 (.loop F_ref02_Textl0))) (.seq (.reg F_ref02_Textr13) .ret)))))
theorem F_ref02_Textc_W {T : Tab} {env : Env} {H : Heap} {Q : Post} : W T F_ref02_Textc env H Q ↔ W T (.seq (.reg F_ref02_Textr0) (.seq (.seq (.reg F_ref02_Textr1) (.cond (.t 12) (.seq (.reg F_ref02_Textr2) .ret) .skip)) (.seq (.reg F_ref02_Textr3) (.seq (.seq (.reg F_ref02_Textr4) (.block 0 (.loop F_ref02_Textl0))) (.seq (.reg F_ref02_Textr13) .ret))))) env H Q := Iff.rfl
def F_ref02_Text : IFn := ⟨41, [.tmp 4, .tmp 5], F_ref02_Textc⟩
set_option maxRecDepth 1000000 in
theorem F_ref02_Text_chk : chkF Try.prog 16 F_ref02_Text = true := by kernel_rfl

/-! ### ref02_Put -/
def F_ref02_Putr0 : List IStmt := [
  ⟨some 6, .mv (.c (.slice none 0 0)), none⟩]
theorem F_ref02_Putr0_W {T : Tab} {env : Env} {H : Heap} {Q : Post} : W T (.reg F_ref02_Putr0) env H Q ↔ WR T F_ref02_Putr0 [
  ⟨some 6, .mv (.c (.slice none 0 0)), none⟩] env H none [] Q := w_reg
def F_ref02_Putr1 : List IStmt := [
  ⟨some 7, .mv (.c (.int .i64 0)), none⟩]
theorem F_ref02_Putr1_W {T : Tab} {env : Env} {H : Heap} {Q : Post} : W T (.reg F_ref02_Putr1) env H Q ↔ WR T F_ref02_Putr1 [
  ⟨some 7, .mv (.c (.int .i64 0)), none⟩] env H none [] Q := w_reg
def F_ref02_Putr2 : List IStmt := [
  ⟨some 8, .mv (.t 7), none⟩,
  ⟨some 9, .mv (.t 2), none⟩,
  ⟨some 10, .bin .lss (.t 8) (.t 9), none⟩]
theorem F_ref02_Putr2_W {T : Tab} {env : Env} {H : Heap} {Q : Post} : W T (.reg F_ref02_Putr2) env H Q ↔ WR T F_ref02_Putr2 [
  ⟨some 8, .mv (.t 7), none⟩,
  ⟨some 9, .mv (.t 2), none⟩,
  ⟨some 10, .bin .lss (.t 8) (.t 9), none⟩] env H none [] Q := w_reg
def F_ref02_Putr4 : List IStmt := [
  ⟨some 13, .mv (.t 0), none⟩,
  ⟨some 14, .mv (.t 1), none⟩,
  ⟨some 15, .bin .rem (.t 14) (.c (.int .u64 256)), none⟩,
  ⟨some 16, .conv .u8 (.t 15), none⟩,
  ⟨some 17, .bsli 1 1 [.int .u8 0] [(0, (.t 16))], none⟩,
  ⟨some 18, .app 1 1 (.t 13) (.t 17), none⟩,
  ⟨some 0, .mv (.t 18), none⟩]
theorem F_ref02_Putr4_W {T : Tab} {env : Env} {H : Heap} {Q : Post} : W T (.reg F_ref02_Putr4) env H Q ↔ WR T F_ref02_Putr4 [
  ⟨some 13, .mv (.t 0), none⟩,
  ⟨some 14, .mv (.t 1), none⟩,
  ⟨some 15, .bin .rem (.t 14) (.c (.int .u64 256)), none⟩,
  ⟨some 16, .conv .u8 (.t 15), none⟩,
  ⟨some 17, .bsli 1 1 [.int .u8 0] [(0, (.t 16))], none⟩,
  ⟨some 18, .app 1 1 (.t 13) (.t 17), none⟩,
  ⟨some 0, .mv (.t 18), none⟩] env H none [] Q := w_reg
def F_ref02_Putr5 : List IStmt := [
  ⟨some 19, .mv (.t 1), none⟩,
  ⟨some 20, .bin .quo (.t 19) (.c (.int .u64 256)), none⟩,
  ⟨some 1, .mv (.t 20), none⟩]
theorem F_ref02_Putr5_W {T : Tab} {env : Env} {H : Heap} {Q : Post} : W T (.reg F_ref02_Putr5) env H Q ↔ WR T F_ref02_Putr5 [
  ⟨some 19, .mv (.t 1), none⟩,
  ⟨some 20, .bin .quo (.t 19) (.c (.int .u64 256)), none⟩,
  ⟨some 1, .mv (.t 20), none⟩] env H none [] Q := w_reg
def F_ref02_Putr3 : List IStmt := [
  ⟨some 11, .mv (.t 7), none⟩,
  ⟨some 12, .bin .add (.t 11) (.c (.int .i64 1)), none⟩,
  ⟨some 7, .mv (.t 12), none⟩]
theorem F_ref02_Putr3_W {T : Tab} {env : Env} {H : Heap} {Q : Post} : W T (.reg F_ref02_Putr3) env H Q ↔ WR T F_ref02_Putr3 [
  ⟨some 11, .mv (.t 7), none⟩,
  ⟨some 12, .bin .add (.t 11) (.c (.int .i64 1)), none⟩,
  ⟨some 7, .mv (.t 12), none⟩] env H none [] Q := w_reg
def F_ref02_Putl0 : ICode := (.seq (.seq (.reg F_ref02_Putr2) (.cond (.t 10) .skip (.exit 0))) (.seq (.block 1 (.seq (.reg F_ref02_Putr4) (.reg F_ref02_Putr5))) (.reg F_ref02_Putr3)))
theorem F_ref02_Putl0_W {T : Tab} {env : Env} {H : Heap} {Q : Post} : W T F_ref02_Putl0 env H Q ↔ W T (.seq (.seq (.reg F_ref02_Putr2) (.cond (.t 10) .skip (.exit 0))) (.seq (.block 1 (.seq (.reg F_ref02_Putr4) (.reg F_ref02_Putr5))) (.reg F_ref02_Putr3))) env H Q := Iff.rfl
def F_ref02_Putr6 : List IStmt := [
  ⟨some 21, .mv (.t 0), none⟩,
  ⟨some 6, .mv (.t 21), none⟩]
theorem F_ref02_Putr6_W {T : Tab} {env : Env} {H : Heap} {Q : Post} : W T (.reg F_ref02_Putr6) env H Q ↔ WR T F_ref02_Putr6 [
  ⟨some 21, .mv (.t 0), none⟩,
  ⟨some 6, .mv (.t 21), none⟩] env H none [] Q := w_reg
def F_ref02_Putc : ICode := (.seq (.reg F_ref02_Putr0) (.seq (.seq (.reg F_ref02_Putr1) (.block 0 (.loop F_ref02_Putl0))) (.seq (.reg F_ref02_Putr6) .ret)))
theorem F_ref02_Putc_W {T : Tab} {env : Env} {H : Heap} {Q : Post} : W T F_ref02_Putc env H Q ↔ W T (.seq (.reg F_ref02_Putr0) (.seq (.seq (.reg F_ref02_Putr1) (.block 0 (.loop F_ref02_Putl0))) (.seq (.reg F_ref02_Putr6) .ret))) env H Q := Iff.rfl
def F_ref02_Put : IFn := ⟨22, [.tmp 6], F_ref02_Putc⟩
set_option maxRecDepth 1000000 in
theorem F_ref02_Put_chk : chkF Try.prog 39 F_ref02_Put = true := by kernel_rfl

/-! ### ref02_Zeros -/
def F_ref02_Zerosr0 : List IStmt := [
  ⟨some 4, .mv (.c (.slice none 0 0)), none⟩]
theorem F_ref02_Zerosr0_W {T : Tab} {env : Env} {H : Heap} {Q : Post} : W T (.reg F_ref02_Zerosr0) env H Q ↔ WR T F_ref02_Zerosr0 [
  ⟨some 4, .mv (.c (.slice none 0 0)), none⟩] env H none [] Q := w_reg
def F_ref02_Zerosr1 : List IStmt := [
  ⟨some 6, .mv (.t 1), none⟩,
  ⟨some 7, .bin .gtr (.t 6) (.c (.int .i64 262144)), none⟩]
theorem F_ref02_Zerosr1_W {T : Tab} {env : Env} {H : Heap} {Q : Post} : W T (.reg F_ref02_Zerosr1) env H Q ↔ WR T F_ref02_Zerosr1 [
  ⟨some 6, .mv (.t 1), none⟩,
  ⟨some 7, .bin .gtr (.t 6) (.c (.int .i64 262144)), none⟩] env H none [] Q := w_reg
def F_ref02_Zerosr2 : List IStmt := [
  ⟨some 1, .mv (.c (.int .i64 262144)), none⟩]
theorem F_ref02_Zerosr2_W {T : Tab} {env : Env} {H : Heap} {Q : Post} : W T (.reg F_ref02_Zerosr2) env H Q ↔ WR T F_ref02_Zerosr2 [
  ⟨some 1, .mv (.c (.int .i64 262144)), none⟩] env H none [] Q := w_reg
def F_ref02_Zerosr3 : List IStmt := [
  ⟨some 5, .mv (.c (.int .i64 0)), none⟩]
theorem F_ref02_Zerosr3_W {T : Tab} {env : Env} {H : Heap} {Q : Post} : W T (.reg F_ref02_Zerosr3) env H Q ↔ WR T F_ref02_Zerosr3 [
  ⟨some 5, .mv (.c (.int .i64 0)), none⟩] env H none [] Q := w_reg
def F_ref02_Zerosr4 : List IStmt := [
  ⟨some 8, .mv (.t 5), none⟩,
  ⟨some 9, .mv (.t 1), none⟩,
  ⟨some 10, .bin .lss (.t 8) (.t 9), none⟩]
theorem F_ref02_Zerosr4_W {T : Tab} {env : Env} {H : Heap} {Q : Post} : W T (.reg F_ref02_Zerosr4) env H Q ↔ WR T F_ref02_Zerosr4 [
  ⟨some 8, .mv (.t 5), none⟩,
  ⟨some 9, .mv (.t 1), none⟩,
  ⟨some 10, .bin .lss (.t 8) (.t 9), none⟩] env H none [] Q := w_reg
def F_ref02_Zerosr6 : List IStmt := [
  ⟨some 13, .mv (.t 0), none⟩,
  ⟨some 14, .bsli 1 1 [.int .u8 0] [(0, (.c (.int .u8 0)))], none⟩,
  ⟨some 15, .app 1 1 (.t 13) (.t 14), none⟩,
  ⟨some 0, .mv (.t 15), none⟩]
theorem F_ref02_Zerosr6_W {T : Tab} {env : Env} {H : Heap} {Q : Post} : W T (.reg F_ref02_Zerosr6) env H Q ↔ WR T F_ref02_Zerosr6 [
  ⟨some 13, .mv (.t 0), none⟩,
  ⟨some 14, .bsli 1 1 [.int .u8 0] [(0, (.c (.int .u8 0)))], none⟩,
  ⟨some 15, .app 1 1 (.t 13) (.t 14), none⟩,
  ⟨some 0, .mv (.t 15), none⟩] env H none [] Q := w_reg
def F_ref02_Zerosr5 : List IStmt := [
  ⟨some 11, .mv (.t 5), none⟩,
  ⟨some 12, .bin .add (.t 11) (.c (.int .i64 1)), none⟩,
  ⟨some 5, .mv (.t 12), none⟩]
theorem F_ref02_Zerosr5_W {T : Tab} {env : Env} {H : Heap} {Q : Post} : W T (.reg F_ref02_Zerosr5) env H Q ↔ WR T F_ref02_Zerosr5 [
  ⟨some 11, .mv (.t 5), none⟩,
  ⟨some 12, .bin .add (.t 11) (.c (.int .i64 1)), none⟩,
  ⟨some 5, .mv (.t 12), none⟩] env H none [] Q := w_reg
def F_ref02_Zerosl0 : ICode := (.seq (.seq (.reg F_ref02_Zerosr4) (.cond (.t 10) .skip (.exit 0))) (.seq (.block 1 (.reg F_ref02_Zerosr6)) (.reg F_ref02_Zerosr5)))
theorem F_ref02_Zerosl0_W {T : Tab} {env : Env} {H : Heap} {Q : Post} : W T F_ref02_Zerosl0 env H Q ↔ W T (.seq (.seq (.reg F_ref02_Zerosr4) (.cond (.t 10) .skip (.exit 0))) (.seq (.block 1 (.reg F_ref02_Zerosr6)) (.reg F_ref02_Zerosr5))) env H Q := Iff.rfl
def F_ref02_Zerosr7 : List IStmt := [
  ⟨some 16, .mv (.t 0), none⟩,
  ⟨some 4, .mv (.t 16), none⟩]
theorem F_ref02_Zerosr7_W {T : Tab} {env : Env} {H : Heap} {Q : Post} : W T (.reg F_ref02_Zerosr7) env H Q ↔ WR T F_ref02_Zerosr7 [
  ⟨some 16, .mv (.t 0), none⟩,
  ⟨some 4, .mv (.t 16), none⟩] env H none [] Q := w_reg
def F_ref02_Zerosc : ICode := (.seq (.reg F_ref02_Zerosr0) (.seq (.seq (.reg F_ref02_Zerosr1) (.cond (.t 7) (.reg F_ref02_Zerosr2) .skip)) (.seq (.seq (.reg F_ref02_Zerosr3) (.block 0 (.loop F_ref02_Zerosl0))) (.seq (.reg F_ref02_Zerosr7) .ret))))
theorem F_ref02_Zerosc_W {T : Tab} {env : Env} {H : Heap} {Q : Post} : W T F_ref02_Zerosc env H Q ↔ W T (.seq (.reg F_ref02_Zerosr0) (.seq (.seq (.reg F_ref02_Zerosr1) (.cond (.t 7) (.reg F_ref02_Zerosr2) .skip)) (.seq (.seq (.reg F_ref02_Zerosr3) (.block 0 (.loop F_ref02_Zerosl0))) (.seq (.reg F_ref02_Zerosr7) .ret)))) env H Q := Iff.rfl
def F_ref02_Zeros : IFn := ⟨17, [.tmp 4], F_ref02_Zerosc⟩
set_option maxRecDepth 1000000 in
theorem F_ref02_Zeros_chk : chkF Try.prog 40 F_ref02_Zeros = true := by kernel_rfl

/-! ### ref02_To -/
def F_ref02_Tor0 : List IStmt := [
  ⟨some 4, .mv (.c (.slice none 0 0)), none⟩]
theorem F_ref02_Tor0_W {T : Tab} {env : Env} {H : Heap} {Q : Post} : W T (.reg F_ref02_Tor0) env H Q ↔ WR T F_ref02_Tor0 [
  ⟨some 4, .mv (.c (.slice none 0 0)), none⟩] env H none [] Q := w_reg
def F_ref02_Tor1 : List IStmt := [
  ⟨some 5, .mv (.c (.int .i64 1)), none⟩]
theorem F_ref02_Tor1_W {T : Tab} {env : Env} {H : Heap} {Q : Post} : W T (.reg F_ref02_Tor1) env H Q ↔ WR T F_ref02_Tor1 [
  ⟨some 5, .mv (.c (.int .i64 1)), none⟩] env H none [] Q := w_reg
def F_ref02_Tor2 : List IStmt := [
  ⟨some 6, .mv (.t 5), none⟩,
  ⟨some 7, .mv (.t 1), none⟩,
  ⟨some 8, .bin .lss (.t 6) (.t 7), none⟩,
  ⟨some 9, .mv (.t 8), none⟩,
  ⟨some 10, .mv (.t 5), some (3, true)⟩,
  ⟨some 11, .bin .lss (.t 10) (.c (.int .i64 262144)), some (3, true)⟩,
  ⟨some 12, .pick (.t 9) (.t 11) (.c (.bool false)), none⟩]
theorem F_ref02_Tor2_W {T : Tab} {env : Env} {H : Heap} {Q : Post} : W T (.reg F_ref02_Tor2) env H Q ↔ WR T F_ref02_Tor2 [
  ⟨some 6, .mv (.t 5), none⟩,
  ⟨some 7, .mv (.t 1), none⟩,
  ⟨some 8, .bin .lss (.t 6) (.t 7), none⟩,
  ⟨some 9, .mv (.t 8), none⟩,
  ⟨some 10, .mv (.t 5), some (3, true)⟩,
  ⟨some 11, .bin .lss (.t 10) (.c (.int .i64 262144)), some (3, true)⟩,
  ⟨some 12, .pick (.t 9) (.t 11) (.c (.bool false)), none⟩] env H none [] Q := w_reg
theorem F_ref02_Tor2_g3 {env : Env} : yieldI F_ref02_Tor2 env 3 = bOf (env 9) := rfl
def F_ref02_Tor3 : List IStmt := [
  ⟨some 13, .mv (.t 5), none⟩,
  ⟨some 14, .bin .mul (.t 13) (.c (.int .i64 2)), none⟩,
  ⟨some 5, .mv (.t 14), none⟩]
theorem F_ref02_Tor3_W {T : Tab} {env : Env} {H : Heap} {Q : Post} : W T (.reg F_ref02_Tor3) env H Q ↔ WR T F_ref02_Tor3 [
  ⟨some 13, .mv (.t 5), none⟩,
  ⟨some 14, .bin .mul (.t 13) (.c (.int .i64 2)), none⟩,
  ⟨some 5, .mv (.t 14), none⟩] env H none [] Q := w_reg
def F_ref02_Tol0 : ICode := (.seq (.seq (.reg F_ref02_Tor2) (.cond (.t 12) .skip (.exit 0))) (.block 1 (.reg F_ref02_Tor3)))
theorem F_ref02_Tol0_W {T : Tab} {env : Env} {H : Heap} {Q : Post} : W T F_ref02_Tol0 env H Q ↔ W T (.seq (.seq (.reg F_ref02_Tor2) (.cond (.t 12) .skip (.exit 0))) (.block 1 (.reg F_ref02_Tor3))) env H Q := Iff.rfl
def F_ref02_Tor4 : List IStmt := [
  ⟨some 15, .mv (.t 1), none⟩,
  ⟨some 16, .mv (.t 5), none⟩,
  ⟨some 17, .bin .neq (.t 15) (.t 16), none⟩]
theorem F_ref02_Tor4_W {T : Tab} {env : Env} {H : Heap} {Q : Post} : W T (.reg F_ref02_Tor4) env H Q ↔ WR T F_ref02_Tor4 [
  ⟨some 15, .mv (.t 1), none⟩,
  ⟨some 16, .mv (.t 5), none⟩,
  ⟨some 17, .bin .neq (.t 15) (.t 16), none⟩] env H none [] Q := w_reg
def F_ref02_Tor5 : List IStmt := [
  ⟨some 18, .mv (.t 0), none⟩,
  ⟨some 4, .mv (.t 18), none⟩]
theorem F_ref02_Tor5_W {T : Tab} {env : Env} {H : Heap} {Q : Post} : W T (.reg F_ref02_Tor5) env H Q ↔ WR T F_ref02_Tor5 [
  ⟨some 18, .mv (.t 0), none⟩,
  ⟨some 4, .mv (.t 18), none⟩] env H none [] Q := w_reg
def F_ref02_Tor6 : List IStmt := [
  ⟨some 19, .mv (.t 0), none⟩,
  ⟨some 20, .len 1 (.t 19), none⟩,
  ⟨some 21, .mv (.t 1), none⟩,
  ⟨some 22, .bin .rem (.t 20) (.t 21), none⟩,
  ⟨some 23, .bin .neq (.t 22) (.c (.int .i64 0)), none⟩]
theorem F_ref02_Tor6_W {T : Tab} {env : Env} {H : Heap} {Q : Post} : W T (.reg F_ref02_Tor6) env H Q ↔ WR T F_ref02_Tor6 [
  ⟨some 19, .mv (.t 0), none⟩,
  ⟨some 20, .len 1 (.t 19), none⟩,
  ⟨some 21, .mv (.t 1), none⟩,
  ⟨some 22, .bin .rem (.t 20) (.t 21), none⟩,
  ⟨some 23, .bin .neq (.t 22) (.c (.int .i64 0)), none⟩] env H none [] Q := w_reg
def F_ref02_Tor7 : List IStmt := [
  ⟨some 24, .mv (.t 0), none⟩,
  ⟨some 25, .bsli 1 1 [.int .u8 0] [(0, (.c (.int .u8 0)))], none⟩,
  ⟨some 26, .app 1 1 (.t 24) (.t 25), none⟩,
  ⟨some 0, .mv (.t 26), none⟩]
theorem F_ref02_Tor7_W {T : Tab} {env : Env} {H : Heap} {Q : Post} : W T (.reg F_ref02_Tor7) env H Q ↔ WR T F_ref02_Tor7 [
  ⟨some 24, .mv (.t 0), none⟩,
  ⟨some 25, .bsli 1 1 [.int .u8 0] [(0, (.c (.int .u8 0)))], none⟩,
  ⟨some 26, .app 1 1 (.t 24) (.t 25), none⟩,
  ⟨some 0, .mv (.t 26), none⟩] env H none [] Q := w_reg
def F_ref02_Tol1 : ICode := (.seq (.seq (.reg F_ref02_Tor6) (.cond (.t 23) .skip (.exit 2))) (.block 3 (.reg F_ref02_Tor7)))
theorem F_ref02_Tol1_W {T : Tab} {env : Env} {H : Heap} {Q : Post} : W T F_ref02_Tol1 env H Q ↔ W T (.seq (.seq (.reg F_ref02_Tor6) (.cond (.t 23) .skip (.exit 2))) (.block 3 (.reg F_ref02_Tor7))) env H Q := Iff.rfl
def F_ref02_Tor8 : List IStmt := [
  ⟨some 27, .mv (.t 0), none⟩,
  ⟨some 4, .mv (.t 27), none⟩]
theorem F_ref02_Tor8_W {T : Tab} {env : Env} {H : Heap} {Q : Post} : W T (.reg F_ref02_Tor8) env H Q ↔ WR T F_ref02_Tor8 [
  ⟨some 27, .mv (.t 0), none⟩,
  ⟨some 4, .mv (.t 27), none⟩] env H none [] Q := w_reg
def F_ref02_Toc : ICode := (.seq (.reg F_ref02_Tor0) (.seq (.reg F_ref02_Tor1) (.seq (.block 0 (.loop F_ref02_Tol0)) (.seq (.seq (.reg F_ref02_Tor4) (.cond (.t 17) (.seq (.reg F_ref02_Tor5) .ret) .skip)) (.seq (.block 2 (.loop F_ref02_Tol1)) (.seq (.reg F_ref02_Tor8) .ret))))))
theorem F_ref02_Toc_W {T : Tab} {env : Env} {H : Heap} {Q : Post} : W T F_ref02_Toc env H Q ↔ W T (.seq (.reg F_ref02_Tor0) (.seq (.reg F_ref02_Tor1) (.seq (.block 0 (.loop F_ref02_Tol0)) (.seq (.seq (.reg F_ref02_Tor4) (.cond (.t 17) (.seq (.reg F_ref02_Tor5) .ret) .skip)) (.seq (.block 2 (.loop F_ref02_Tol1)) (.seq (.reg F_ref02_Tor8) .ret)))))) env H Q := Iff.rfl
def F_ref02_To : IFn := ⟨28, [.tmp 4], F_ref02_Toc⟩
set_option maxRecDepth 1000000 in
theorem F_ref02_To_chk : chkF Try.prog 41 F_ref02_To = true := by kernel_rfl

/-! ### law02_alive -/
def F_law02_aliver0 : List IStmt := [
  ⟨some 0, .mv (.c (.bool false)), none⟩]
theorem F_law02_aliver0_W {T : Tab} {env : Env} {H : Heap} {Q : Post} : W T (.reg F_law02_aliver0) env H Q ↔ WR T F_law02_aliver0 [
  ⟨some 0, .mv (.c (.bool false)), none⟩] env H none [] Q := w_reg
def F_law02_aliver1 : List IStmt := [
  ⟨some 6, .call 20 [], none⟩,
  ⟨some 1, .mv (.t 6), none⟩]
theorem F_law02_aliver1_W {T : Tab} {env : Env} {H : Heap} {Q : Post} : W T (.reg F_law02_aliver1) env H Q ↔ WR T F_law02_aliver1 [
  ⟨some 6, .call 20 [], none⟩,
  ⟨some 1, .mv (.t 6), none⟩] env H none [] Q := w_reg
def F_law02_aliver2 : List IStmt := [
  ⟨some 7, .mv (.t 1), none⟩,
  ⟨some 8, .eqn 0 false (.t 7) (.c (.pointer none)), none⟩]
theorem F_law02_aliver2_W {T : Tab} {env : Env} {H : Heap} {Q : Post} : W T (.reg F_law02_aliver2) env H Q ↔ WR T F_law02_aliver2 [
  ⟨some 7, .mv (.t 1), none⟩,
  ⟨some 8, .eqn 0 false (.t 7) (.c (.pointer none)), none⟩] env H none [] Q := w_reg
def F_law02_aliver3 : List IStmt := [
  ⟨some 0, .mv (.c (.bool false)), none⟩]
theorem F_law02_aliver3_W {T : Tab} {env : Env} {H : Heap} {Q : Post} : W T (.reg F_law02_aliver3) env H Q ↔ WR T F_law02_aliver3 [
  ⟨some 0, .mv (.c (.bool false)), none⟩] env H none [] Q := w_reg
def F_law02_aliver4 : List IStmt := [
  ⟨some 9, .mv (.t 1), none⟩,
  ⟨some 10, .call 21 [(.t 9), (.c (.int .u16 258))], none⟩]
theorem F_law02_aliver4_W {T : Tab} {env : Env} {H : Heap} {Q : Post} : W T (.reg F_law02_aliver4) env H Q ↔ WR T F_law02_aliver4 [
  ⟨some 9, .mv (.t 1), none⟩,
  ⟨some 10, .call 21 [(.t 9), (.c (.int .u16 258))], none⟩] env H none [] Q := w_reg
def F_law02_aliver5 : List IStmt := [
  ⟨some 11, .mv (.t 1), none⟩,
  ⟨some 12, .call 22 [(.t 11), (.c (.int .u32 1))], none⟩]
theorem F_law02_aliver5_W {T : Tab} {env : Env} {H : Heap} {Q : Post} : W T (.reg F_law02_aliver5) env H Q ↔ WR T F_law02_aliver5 [
  ⟨some 11, .mv (.t 1), none⟩,
  ⟨some 12, .call 22 [(.t 11), (.c (.int .u32 1))], none⟩] env H none [] Q := w_reg
def F_law02_aliver6 : List IStmt := [
  ⟨some 13, .mv (.t 1), none⟩,
  ⟨some 14, .call 26 [(.t 13), (.c (.int .i64 8))], none⟩]
theorem F_law02_aliver6_W {T : Tab} {env : Env} {H : Heap} {Q : Post} : W T (.reg F_law02_aliver6) env H Q ↔ WR T F_law02_aliver6 [
  ⟨some 13, .mv (.t 1), none⟩,
  ⟨some 14, .call 26 [(.t 13), (.c (.int .i64 8))], none⟩] env H none [] Q := w_reg
def F_law02_aliver7 : List IStmt := [
  ⟨some 16, .bsl 1 3 [.int .u8 0] [(0, (.c (.int .u8 65))), (1, (.c (.int .u8 66))), (2, (.c (.int .u8 0)))], none⟩,
  ⟨some 17, .cvslf (.t 16), none⟩,
  ⟨some 18, .callc 15 [(.t 17), (.c (.int .u64 0))], none⟩,
  ⟨some 15, .mv (.t 18), none⟩,
  ⟨some 19, .ext (.t 15) 0, none⟩,
  ⟨some 20, .ext (.t 15) 1, none⟩,
  ⟨some 2, .mv (.t 19), none⟩,
  ⟨some 3, .mv (.t 20), none⟩]
theorem F_law02_aliver7_W {T : Tab} {env : Env} {H : Heap} {Q : Post} : W T (.reg F_law02_aliver7) env H Q ↔ WR T F_law02_aliver7 [
  ⟨some 16, .bsl 1 3 [.int .u8 0] [(0, (.c (.int .u8 65))), (1, (.c (.int .u8 66))), (2, (.c (.int .u8 0)))], none⟩,
  ⟨some 17, .cvslf (.t 16), none⟩,
  ⟨some 18, .callc 15 [(.t 17), (.c (.int .u64 0))], none⟩,
  ⟨some 15, .mv (.t 18), none⟩,
  ⟨some 19, .ext (.t 15) 0, none⟩,
  ⟨some 20, .ext (.t 15) 1, none⟩,
  ⟨some 2, .mv (.t 19), none⟩,
  ⟨some 3, .mv (.t 20), none⟩] env H none [] Q := w_reg
def F_law02_aliver8 : List IStmt := [
  ⟨some 22, .bsli 1 4 [.int .u8 0] [(0, (.c (.int .u8 1))), (1, (.c (.int .u8 2))), (2, (.c (.int .u8 0))), (3, (.c (.int .u8 0)))], none⟩,
  ⟨some 23, .callc 34 [(.t 22), (.c (.int .u64 0))], none⟩,
  ⟨some 21, .mv (.t 23), none⟩,
  ⟨some 24, .ext (.t 21) 0, none⟩,
  ⟨some 25, .ext (.t 21) 1, none⟩,
  ⟨some 4, .mv (.t 24), none⟩,
  ⟨some 5, .mv (.t 25), none⟩]
theorem F_law02_aliver8_W {T : Tab} {env : Env} {H : Heap} {Q : Post} : W T (.reg F_law02_aliver8) env H Q ↔ WR T F_law02_aliver8 [
  ⟨some 22, .bsli 1 4 [.int .u8 0] [(0, (.c (.int .u8 1))), (1, (.c (.int .u8 2))), (2, (.c (.int .u8 0))), (3, (.c (.int .u8 0)))], none⟩,
  ⟨some 23, .callc 34 [(.t 22), (.c (.int .u64 0))], none⟩,
  ⟨some 21, .mv (.t 23), none⟩,
  ⟨some 24, .ext (.t 21) 0, none⟩,
  ⟨some 25, .ext (.t 21) 1, none⟩,
  ⟨some 4, .mv (.t 24), none⟩,
  ⟨some 5, .mv (.t 25), none⟩] env H none [] Q := w_reg
def F_law02_aliver9 : List IStmt := [
  ⟨some 26, .mv (.t 1), none⟩,
  ⟨some 27, .callf 27 [(.t 26)], none⟩,
  ⟨some 28, .b2s (.t 27), none⟩,
  ⟨some 29, .bin .eql (.t 28) (.c (.string ⟨#[2, 1, 1, 0, 0, 0, 0, 0]⟩)), none⟩,
  ⟨some 30, .mv (.t 29), none⟩,
  ⟨some 31, .mv (.t 2), some (4, true)⟩,
  ⟨some 32, .bin .eql (.t 31) (.c (.string ⟨#[65, 66]⟩)), some (4, true)⟩,
  ⟨some 33, .pick (.t 30) (.t 32) (.c (.bool false)), none⟩,
  ⟨some 34, .mv (.t 33), none⟩,
  ⟨some 35, .mv (.t 3), some (8, true)⟩,
  ⟨some 36, .bin .eql (.t 35) (.c (.int .i64 0)), some (8, true)⟩,
  ⟨some 37, .pick (.t 34) (.t 36) (.c (.bool false)), none⟩,
  ⟨some 38, .mv (.t 37), none⟩,
  ⟨some 39, .mv (.t 4), some (12, true)⟩,
  ⟨some 40, .bin .eql (.t 39) (.c (.int .u32 513)), some (12, true)⟩,
  ⟨some 41, .pick (.t 38) (.t 40) (.c (.bool false)), none⟩,
  ⟨some 42, .mv (.t 41), none⟩,
  ⟨some 43, .mv (.t 5), some (16, true)⟩,
  ⟨some 44, .bin .eql (.t 43) (.c (.int .i64 0)), some (16, true)⟩,
  ⟨some 45, .pick (.t 42) (.t 44) (.c (.bool false)), none⟩,
  ⟨some 0, .mv (.t 45), none⟩]
theorem F_law02_aliver9_W {T : Tab} {env : Env} {H : Heap} {Q : Post} : W T (.reg F_law02_aliver9) env H Q ↔ WR T F_law02_aliver9 [
  ⟨some 26, .mv (.t 1), none⟩,
  ⟨some 27, .callf 27 [(.t 26)], none⟩,
  ⟨some 28, .b2s (.t 27), none⟩,
  ⟨some 29, .bin .eql (.t 28) (.c (.string ⟨#[2, 1, 1, 0, 0, 0, 0, 0]⟩)), none⟩,
  ⟨some 30, .mv (.t 29), none⟩,
  ⟨some 31, .mv (.t 2), some (4, true)⟩,
  ⟨some 32, .bin .eql (.t 31) (.c (.string ⟨#[65, 66]⟩)), some (4, true)⟩,
  ⟨some 33, .pick (.t 30) (.t 32) (.c (.bool false)), none⟩,
  ⟨some 34, .mv (.t 33), none⟩,
  ⟨some 35, .mv (.t 3), some (8, true)⟩,
  ⟨some 36, .bin .eql (.t 35) (.c (.int .i64 0)), some (8, true)⟩,
  ⟨some 37, .pick (.t 34) (.t 36) (.c (.bool false)), none⟩,
  ⟨some 38, .mv (.t 37), none⟩,
  ⟨some 39, .mv (.t 4), some (12, true)⟩,
  ⟨some 40, .bin .eql (.t 39) (.c (.int .u32 513)), some (12, true)⟩,
  ⟨some 41, .pick (.t 38) (.t 40) (.c (.bool false)), none⟩,
  ⟨some 42, .mv (.t 41), none⟩,
  ⟨some 43, .mv (.t 5), some (16, true)⟩,
  ⟨some 44, .bin .eql (.t 43) (.c (.int .i64 0)), some (16, true)⟩,
  ⟨some 45, .pick (.t 42) (.t 44) (.c (.bool false)), none⟩,
  ⟨some 0, .mv (.t 45), none⟩] env H none [] Q := w_reg
theorem F_law02_aliver9_g4 {env : Env} : yieldI F_law02_aliver9 env 4 = bOf (env 30) := rfl
theorem F_law02_aliver9_g8 {env : Env} : yieldI F_law02_aliver9 env 8 = bOf (env 34) := rfl
theorem F_law02_aliver9_g12 {env : Env} : yieldI F_law02_aliver9 env 12 = bOf (env 38) := rfl
theorem F_law02_aliver9_g16 {env : Env} : yieldI F_law02_aliver9 env 16 = bOf (env 42) := rfl
def F_law02_alivec : ICode := (.seq (.reg F_law02_aliver0) (.seq (.reg F_law02_aliver1) (.seq (.seq (.reg F_law02_aliver2) (.cond (.t 8) (.seq (.reg F_law02_aliver3) .ret) .skip)) (.seq (.reg F_law02_aliver4) (.seq (.reg F_law02_aliver5) (.seq (.reg F_law02_aliver6) (.seq (.reg F_law02_aliver7) (.seq (.reg F_law02_aliver8) (.seq (.reg F_law02_aliver9) .ret)))))))))
theorem F_law02_alivec_W {T : Tab} {env : Env} {H : Heap} {Q : Post} : W T F_law02_alivec env H Q ↔ W T (.seq (.reg F_law02_aliver0) (.seq (.reg F_law02_aliver1) (.seq (.seq (.reg F_law02_aliver2) (.cond (.t 8) (.seq (.reg F_law02_aliver3) .ret) .skip)) (.seq (.reg F_law02_aliver4) (.seq (.reg F_law02_aliver5) (.seq (.reg F_law02_aliver6) (.seq (.reg F_law02_aliver7) (.seq (.reg F_law02_aliver8) (.seq (.reg F_law02_aliver9) .ret))))))))) env H Q := Iff.rfl
def F_law02_alive : IFn := ⟨46, [.tmp 0], F_law02_alivec⟩
set_option maxRecDepth 1000000 in
theorem F_law02_alive_chk : chkF Try.prog 19 F_law02_alive = true := by kernel_rfl

/-! ### law02_LeTexts -/
def F_law02_LeTextsr0 : List IStmt := [
  ⟨some 6, .mv (.c (.bool false)), none⟩]
theorem F_law02_LeTextsr0_W {T : Tab} {env : Env} {H : Heap} {Q : Post} : W T (.reg F_law02_LeTextsr0) env H Q ↔ WR T F_law02_LeTextsr0 [
  ⟨some 6, .mv (.c (.bool false)), none⟩] env H none [] Q := w_reg
def F_law02_LeTextsr1 : List IStmt := [
  ⟨some 11, .mv (.t 0), none⟩,
  ⟨some 12, .len 1 (.t 11), none⟩,
  ⟨some 13, .bin .gtr (.t 12) (.c (.int .i64 4096)), none⟩,
  ⟨some 14, .mv (.t 13), none⟩,
  ⟨some 15, .mv (.t 2), some (3, false)⟩,
  ⟨some 16, .len 0 (.t 15), some (3, false)⟩,
  ⟨some 17, .bin .gtr (.t 16) (.c (.int .i64 4096)), some (3, false)⟩,
  ⟨some 18, .pick (.t 14) (.c (.bool true)) (.t 17), none⟩]
theorem F_law02_LeTextsr1_W {T : Tab} {env : Env} {H : Heap} {Q : Post} : W T (.reg F_law02_LeTextsr1) env H Q ↔ WR T F_law02_LeTextsr1 [
  ⟨some 11, .mv (.t 0), none⟩,
  ⟨some 12, .len 1 (.t 11), none⟩,
  ⟨some 13, .bin .gtr (.t 12) (.c (.int .i64 4096)), none⟩,
  ⟨some 14, .mv (.t 13), none⟩,
  ⟨some 15, .mv (.t 2), some (3, false)⟩,
  ⟨some 16, .len 0 (.t 15), some (3, false)⟩,
  ⟨some 17, .bin .gtr (.t 16) (.c (.int .i64 4096)), some (3, false)⟩,
  ⟨some 18, .pick (.t 14) (.c (.bool true)) (.t 17), none⟩] env H none [] Q := w_reg
theorem F_law02_LeTextsr1_g3 {env : Env} : yieldI F_law02_LeTextsr1 env 3 = bOf (env 14) := rfl
def F_law02_LeTextsr2 : List IStmt := [
  ⟨some 6, .mv (.c (.bool true)), none⟩]
theorem F_law02_LeTextsr2_W {T : Tab} {env : Env} {H : Heap} {Q : Post} : W T (.reg F_law02_LeTextsr2) env H Q ↔ WR T F_law02_LeTextsr2 [
  ⟨some 6, .mv (.c (.bool true)), none⟩] env H none [] Q := w_reg
def F_law02_LeTextsr3 : List IStmt := [
  ⟨some 20, .mv (.t 0), none⟩,
  ⟨some 21, .mv (.t 1), none⟩,
  ⟨some 22, .callc 15 [(.t 20), (.t 21)], none⟩,
  ⟨some 19, .mv (.t 22), none⟩,
  ⟨some 23, .ext (.t 19) 0, none⟩,
  ⟨some 24, .ext (.t 19) 1, none⟩,
  ⟨some 7, .mv (.t 23), none⟩,
  ⟨some 8, .mv (.t 24), none⟩]
theorem F_law02_LeTextsr3_W {T : Tab} {env : Env} {H : Heap} {Q : Post} : W T (.reg F_law02_LeTextsr3) env H Q ↔ WR T F_law02_LeTextsr3 [
  ⟨some 20, .mv (.t 0), none⟩,
  ⟨some 21, .mv (.t 1), none⟩,
  ⟨some 22, .callc 15 [(.t 20), (.t 21)], none⟩,
  ⟨some 19, .mv (.t 22), none⟩,
  ⟨some 23, .ext (.t 19) 0, none⟩,
  ⟨some 24, .ext (.t 19) 1, none⟩,
  ⟨some 7, .mv (.t 23), none⟩,
  ⟨some 8, .mv (.t 24), none⟩] env H none [] Q := w_reg
def F_law02_LeTextsr4 : List IStmt := [
  ⟨some 26, .mv (.t 0), none⟩,
  ⟨some 27, .mv (.t 1), none⟩,
  ⟨some 28, .callc 16 [(.t 26), (.t 27)], none⟩,
  ⟨some 25, .mv (.t 28), none⟩,
  ⟨some 29, .ext (.t 25) 0, none⟩,
  ⟨some 30, .ext (.t 25) 1, none⟩,
  ⟨some 9, .mv (.t 29), none⟩,
  ⟨some 10, .mv (.t 30), none⟩]
theorem F_law02_LeTextsr4_W {T : Tab} {env : Env} {H : Heap} {Q : Post} : W T (.reg F_law02_LeTextsr4) env H Q ↔ WR T F_law02_LeTextsr4 [
  ⟨some 26, .mv (.t 0), none⟩,
  ⟨some 27, .mv (.t 1), none⟩,
  ⟨some 28, .callc 16 [(.t 26), (.t 27)], none⟩,
  ⟨some 25, .mv (.t 28), none⟩,
  ⟨some 29, .ext (.t 25) 0, none⟩,
  ⟨some 30, .ext (.t 25) 1, none⟩,
  ⟨some 9, .mv (.t 29), none⟩,
  ⟨some 10, .mv (.t 30), none⟩] env H none [] Q := w_reg
def F_law02_LeTextsr5 : List IStmt := [
  ⟨some 31, .mv (.t 7), none⟩,
  ⟨some 32, .mv (.t 9), none⟩,
  ⟨some 33, .bin .eql (.t 31) (.t 32), none⟩,
  ⟨some 34, .mv (.t 33), none⟩,
  ⟨some 35, .mv (.t 8), some (3, true)⟩,
  ⟨some 36, .mv (.t 10), some (3, true)⟩,
  ⟨some 37, .bin .eql (.t 35) (.t 36), some (3, true)⟩,
  ⟨some 38, .pick (.t 34) (.t 37) (.c (.bool false)), none⟩,
  ⟨some 39, .mv (.t 38), none⟩,
  ⟨some 40, .mv (.t 2), some (8, true)⟩,
  ⟨some 41, .callc 17 [(.t 40)], some (8, true)⟩,
  ⟨some 42, .mv (.t 2), some (8, true)⟩,
  ⟨some 43, .callc 18 [(.t 42)], some (8, true)⟩,
  ⟨some 44, .eqb false (.t 41) (.t 43), some (8, true)⟩,
  ⟨some 45, .pick (.t 39) (.t 44) (.c (.bool false)), none⟩,
  ⟨some 46, .mv (.t 45), none⟩,
  ⟨some 47, .callc 19 [], some (15, true)⟩,
  ⟨some 48, .pick (.t 46) (.t 47) (.c (.bool false)), none⟩,
  ⟨some 6, .mv (.t 48), none⟩]
theorem F_law02_LeTextsr5_W {T : Tab} {env : Env} {H : Heap} {Q : Post} : W T (.reg F_law02_LeTextsr5) env H Q ↔ WR T F_law02_LeTextsr5 [
  ⟨some 31, .mv (.t 7), none⟩,
  ⟨some 32, .mv (.t 9), none⟩,
  ⟨some 33, .bin .eql (.t 31) (.t 32), none⟩,
  ⟨some 34, .mv (.t 33), none⟩,
  ⟨some 35, .mv (.t 8), some (3, true)⟩,
  ⟨some 36, .mv (.t 10), some (3, true)⟩,
  ⟨some 37, .bin .eql (.t 35) (.t 36), some (3, true)⟩,
  ⟨some 38, .pick (.t 34) (.t 37) (.c (.bool false)), none⟩,
  ⟨some 39, .mv (.t 38), none⟩,
  ⟨some 40, .mv (.t 2), some (8, true)⟩,
  ⟨some 41, .callc 17 [(.t 40)], some (8, true)⟩,
  ⟨some 42, .mv (.t 2), some (8, true)⟩,
  ⟨some 43, .callc 18 [(.t 42)], some (8, true)⟩,
  ⟨some 44, .eqb false (.t 41) (.t 43), some (8, true)⟩,
  ⟨some 45, .pick (.t 39) (.t 44) (.c (.bool false)), none⟩,
  ⟨some 46, .mv (.t 45), none⟩,
  ⟨some 47, .callc 19 [], some (15, true)⟩,
  ⟨some 48, .pick (.t 46) (.t 47) (.c (.bool false)), none⟩,
  ⟨some 6, .mv (.t 48), none⟩] env H none [] Q := w_reg
theorem F_law02_LeTextsr5_g3 {env : Env} : yieldI F_law02_LeTextsr5 env 3 = bOf (env 34) := rfl
theorem F_law02_LeTextsr5_g8 {env : Env} : yieldI F_law02_LeTextsr5 env 8 = bOf (env 39) := rfl
theorem F_law02_LeTextsr5_g15 {env : Env} : yieldI F_law02_LeTextsr5 env 15 = bOf (env 46) := rfl
def F_law02_LeTextsc : ICode := (.seq (.reg F_law02_LeTextsr0) (.seq (.seq (.reg F_law02_LeTextsr1) (.cond (.t 18) (.seq (.reg F_law02_LeTextsr2) .ret) .skip)) (.seq (.reg F_law02_LeTextsr3) (.seq (.reg F_law02_LeTextsr4) (.seq (.reg F_law02_LeTextsr5) .ret)))))
theorem F_law02_LeTextsc_W {T : Tab} {env : Env} {H : Heap} {Q : Post} : W T F_law02_LeTextsc env H Q ↔ W T (.seq (.reg F_law02_LeTextsr0) (.seq (.seq (.reg F_law02_LeTextsr1) (.cond (.t 18) (.seq (.reg F_law02_LeTextsr2) .ret) .skip)) (.seq (.reg F_law02_LeTextsr3) (.seq (.reg F_law02_LeTextsr4) (.seq (.reg F_law02_LeTextsr5) .ret))))) env H Q := Iff.rfl
def F_law02_LeTexts : IFn := ⟨49, [.tmp 6], F_law02_LeTextsc⟩
set_option maxRecDepth 1000000 in
theorem F_law02_LeTexts_chk : chkF Try.prog 3 F_law02_LeTexts = true := by kernel_rfl

/-! ### law02_LeReads -/
def F_law02_LeReadsr0 : List IStmt := [
  ⟨some 6, .mv (.c (.bool false)), none⟩]
theorem F_law02_LeReadsr0_W {T : Tab} {env : Env} {H : Heap} {Q : Post} : W T (.reg F_law02_LeReadsr0) env H Q ↔ WR T F_law02_LeReadsr0 [
  ⟨some 6, .mv (.c (.bool false)), none⟩] env H none [] Q := w_reg
def F_law02_LeReadsr1 : List IStmt := [
  ⟨some 23, .mv (.t 0), none⟩,
  ⟨some 24, .len 1 (.t 23), none⟩,
  ⟨some 25, .bin .gtr (.t 24) (.c (.int .i64 4096)), none⟩]
theorem F_law02_LeReadsr1_W {T : Tab} {env : Env} {H : Heap} {Q : Post} : W T (.reg F_law02_LeReadsr1) env H Q ↔ WR T F_law02_LeReadsr1 [
  ⟨some 23, .mv (.t 0), none⟩,
  ⟨some 24, .len 1 (.t 23), none⟩,
  ⟨some 25, .bin .gtr (.t 24) (.c (.int .i64 4096)), none⟩] env H none [] Q := w_reg
def F_law02_LeReadsr2 : List IStmt := [
  ⟨some 6, .mv (.c (.bool true)), none⟩]
theorem F_law02_LeReadsr2_W {T : Tab} {env : Env} {H : Heap} {Q : Post} : W T (.reg F_law02_LeReadsr2) env H Q ↔ WR T F_law02_LeReadsr2 [
  ⟨some 6, .mv (.c (.bool true)), none⟩] env H none [] Q := w_reg
def F_law02_LeReadsr3 : List IStmt := [
  ⟨some 27, .mv (.t 0), none⟩,
  ⟨some 28, .mv (.t 1), none⟩,
  ⟨some 29, .callc 33 [(.t 27), (.t 28)], none⟩,
  ⟨some 26, .mv (.t 29), none⟩,
  ⟨some 30, .ext (.t 26) 0, none⟩,
  ⟨some 31, .ext (.t 26) 1, none⟩,
  ⟨some 7, .mv (.t 30), none⟩,
  ⟨some 8, .mv (.t 31), none⟩]
theorem F_law02_LeReadsr3_W {T : Tab} {env : Env} {H : Heap} {Q : Post} : W T (.reg F_law02_LeReadsr3) env H Q ↔ WR T F_law02_LeReadsr3 [
  ⟨some 27, .mv (.t 0), none⟩,
  ⟨some 28, .mv (.t 1), none⟩,
  ⟨some 29, .callc 33 [(.t 27), (.t 28)], none⟩,
  ⟨some 26, .mv (.t 29), none⟩,
  ⟨some 30, .ext (.t 26) 0, none⟩,
  ⟨some 31, .ext (.t 26) 1, none⟩,
  ⟨some 7, .mv (.t 30), none⟩,
  ⟨some 8, .mv (.t 31), none⟩] env H none [] Q := w_reg
def F_law02_LeReadsr4 : List IStmt := [
  ⟨some 33, .mv (.t 0), none⟩,
  ⟨some 34, .mv (.t 1), none⟩,
  ⟨some 35, .callc 34 [(.t 33), (.t 34)], none⟩,
  ⟨some 32, .mv (.t 35), none⟩,
  ⟨some 36, .ext (.t 32) 0, none⟩,
  ⟨some 37, .ext (.t 32) 1, none⟩,
  ⟨some 9, .mv (.t 36), none⟩,
  ⟨some 10, .mv (.t 37), none⟩]
theorem F_law02_LeReadsr4_W {T : Tab} {env : Env} {H : Heap} {Q : Post} : W T (.reg F_law02_LeReadsr4) env H Q ↔ WR T F_law02_LeReadsr4 [
  ⟨some 33, .mv (.t 0), none⟩,
  ⟨some 34, .mv (.t 1), none⟩,
  ⟨some 35, .callc 34 [(.t 33), (.t 34)], none⟩,
  ⟨some 32, .mv (.t 35), none⟩,
  ⟨some 36, .ext (.t 32) 0, none⟩,
  ⟨some 37, .ext (.t 32) 1, none⟩,
  ⟨some 9, .mv (.t 36), none⟩,
  ⟨some 10, .mv (.t 37), none⟩] env H none [] Q := w_reg
def F_law02_LeReadsr5 : List IStmt := [
  ⟨some 39, .mv (.t 0), none⟩,
  ⟨some 40, .mv (.t 1), none⟩,
  ⟨some 41, .callc 35 [(.t 39), (.t 40)], none⟩,
  ⟨some 38, .mv (.t 41), none⟩,
  ⟨some 42, .ext (.t 38) 0, none⟩,
  ⟨some 43, .ext (.t 38) 1, none⟩,
  ⟨some 11, .mv (.t 42), none⟩,
  ⟨some 12, .mv (.t 43), none⟩]
theorem F_law02_LeReadsr5_W {T : Tab} {env : Env} {H : Heap} {Q : Post} : W T (.reg F_law02_LeReadsr5) env H Q ↔ WR T F_law02_LeReadsr5 [
  ⟨some 39, .mv (.t 0), none⟩,
  ⟨some 40, .mv (.t 1), none⟩,
  ⟨some 41, .callc 35 [(.t 39), (.t 40)], none⟩,
  ⟨some 38, .mv (.t 41), none⟩,
  ⟨some 42, .ext (.t 38) 0, none⟩,
  ⟨some 43, .ext (.t 38) 1, none⟩,
  ⟨some 11, .mv (.t 42), none⟩,
  ⟨some 12, .mv (.t 43), none⟩] env H none [] Q := w_reg
def F_law02_LeReadsr6 : List IStmt := [
  ⟨some 45, .mv (.t 0), none⟩,
  ⟨some 46, .mv (.t 1), none⟩,
  ⟨some 47, .mv (.t 2), none⟩,
  ⟨some 48, .callc 36 [(.t 45), (.t 46), (.t 47)], none⟩,
  ⟨some 44, .mv (.t 48), none⟩,
  ⟨some 49, .ext (.t 44) 0, none⟩,
  ⟨some 50, .ext (.t 44) 1, none⟩,
  ⟨some 13, .mv (.t 49), none⟩,
  ⟨some 14, .mv (.t 50), none⟩]
theorem F_law02_LeReadsr6_W {T : Tab} {env : Env} {H : Heap} {Q : Post} : W T (.reg F_law02_LeReadsr6) env H Q ↔ WR T F_law02_LeReadsr6 [
  ⟨some 45, .mv (.t 0), none⟩,
  ⟨some 46, .mv (.t 1), none⟩,
  ⟨some 47, .mv (.t 2), none⟩,
  ⟨some 48, .callc 36 [(.t 45), (.t 46), (.t 47)], none⟩,
  ⟨some 44, .mv (.t 48), none⟩,
  ⟨some 49, .ext (.t 44) 0, none⟩,
  ⟨some 50, .ext (.t 44) 1, none⟩,
  ⟨some 13, .mv (.t 49), none⟩,
  ⟨some 14, .mv (.t 50), none⟩] env H none [] Q := w_reg
def F_law02_LeReadsr7 : List IStmt := [
  ⟨some 52, .mv (.t 0), none⟩,
  ⟨some 53, .mv (.t 1), none⟩,
  ⟨some 54, .callc 37 [(.t 52), (.t 53), (.c (.int .i64 2))], none⟩,
  ⟨some 51, .mv (.t 54), none⟩,
  ⟨some 55, .ext (.t 51) 0, none⟩,
  ⟨some 56, .ext (.t 51) 1, none⟩,
  ⟨some 15, .mv (.t 55), none⟩,
  ⟨some 16, .mv (.t 56), none⟩]
theorem F_law02_LeReadsr7_W {T : Tab} {env : Env} {H : Heap} {Q : Post} : W T (.reg F_law02_LeReadsr7) env H Q ↔ WR T F_law02_LeReadsr7 [
  ⟨some 52, .mv (.t 0), none⟩,
  ⟨some 53, .mv (.t 1), none⟩,
  ⟨some 54, .callc 37 [(.t 52), (.t 53), (.c (.int .i64 2))], none⟩,
  ⟨some 51, .mv (.t 54), none⟩,
  ⟨some 55, .ext (.t 51) 0, none⟩,
  ⟨some 56, .ext (.t 51) 1, none⟩,
  ⟨some 15, .mv (.t 55), none⟩,
  ⟨some 16, .mv (.t 56), none⟩] env H none [] Q := w_reg
def F_law02_LeReadsr8 : List IStmt := [
  ⟨some 58, .mv (.t 0), none⟩,
  ⟨some 59, .mv (.t 1), none⟩,
  ⟨some 60, .callc 37 [(.t 58), (.t 59), (.c (.int .i64 4))], none⟩,
  ⟨some 57, .mv (.t 60), none⟩,
  ⟨some 61, .ext (.t 57) 0, none⟩,
  ⟨some 62, .ext (.t 57) 1, none⟩,
  ⟨some 17, .mv (.t 61), none⟩,
  ⟨some 18, .mv (.t 62), none⟩]
theorem F_law02_LeReadsr8_W {T : Tab} {env : Env} {H : Heap} {Q : Post} : W T (.reg F_law02_LeReadsr8) env H Q ↔ WR T F_law02_LeReadsr8 [
  ⟨some 58, .mv (.t 0), none⟩,
  ⟨some 59, .mv (.t 1), none⟩,
  ⟨some 60, .callc 37 [(.t 58), (.t 59), (.c (.int .i64 4))], none⟩,
  ⟨some 57, .mv (.t 60), none⟩,
  ⟨some 61, .ext (.t 57) 0, none⟩,
  ⟨some 62, .ext (.t 57) 1, none⟩,
  ⟨some 17, .mv (.t 61), none⟩,
  ⟨some 18, .mv (.t 62), none⟩] env H none [] Q := w_reg
def F_law02_LeReadsr9 : List IStmt := [
  ⟨some 64, .mv (.t 0), none⟩,
  ⟨some 65, .mv (.t 1), none⟩,
  ⟨some 66, .callc 37 [(.t 64), (.t 65), (.c (.int .i64 8))], none⟩,
  ⟨some 63, .mv (.t 66), none⟩,
  ⟨some 67, .ext (.t 63) 0, none⟩,
  ⟨some 68, .ext (.t 63) 1, none⟩,
  ⟨some 19, .mv (.t 67), none⟩,
  ⟨some 20, .mv (.t 68), none⟩]
theorem F_law02_LeReadsr9_W {T : Tab} {env : Env} {H : Heap} {Q : Post} : W T (.reg F_law02_LeReadsr9) env H Q ↔ WR T F_law02_LeReadsr9 [
  ⟨some 64, .mv (.t 0), none⟩,
  ⟨some 65, .mv (.t 1), none⟩,
  ⟨some 66, .callc 37 [(.t 64), (.t 65), (.c (.int .i64 8))], none⟩,
  ⟨some 63, .mv (.t 66), none⟩,
  ⟨some 67, .ext (.t 63) 0, none⟩,
  ⟨some 68, .ext (.t 63) 1, none⟩,
  ⟨some 19, .mv (.t 67), none⟩,
  ⟨some 20, .mv (.t 68), none⟩] env H none [] Q := w_reg
def F_law02_LeReadsr10 : List IStmt := [
  ⟨some 70, .mv (.t 0), none⟩,
  ⟨some 71, .mv (.t 1), none⟩,
  ⟨some 72, .mv (.t 2), none⟩,
  ⟨some 73, .callc 38 [(.t 70), (.t 71), (.t 72)], none⟩,
  ⟨some 69, .mv (.t 73), none⟩,
  ⟨some 74, .ext (.t 69) 0, none⟩,
  ⟨some 75, .ext (.t 69) 1, none⟩,
  ⟨some 21, .mv (.t 74), none⟩,
  ⟨some 22, .mv (.t 75), none⟩]
theorem F_law02_LeReadsr10_W {T : Tab} {env : Env} {H : Heap} {Q : Post} : W T (.reg F_law02_LeReadsr10) env H Q ↔ WR T F_law02_LeReadsr10 [
  ⟨some 70, .mv (.t 0), none⟩,
  ⟨some 71, .mv (.t 1), none⟩,
  ⟨some 72, .mv (.t 2), none⟩,
  ⟨some 73, .callc 38 [(.t 70), (.t 71), (.t 72)], none⟩,
  ⟨some 69, .mv (.t 73), none⟩,
  ⟨some 74, .ext (.t 69) 0, none⟩,
  ⟨some 75, .ext (.t 69) 1, none⟩,
  ⟨some 21, .mv (.t 74), none⟩,
  ⟨some 22, .mv (.t 75), none⟩] env H none [] Q := w_reg
def F_law02_LeReadsr11 : List IStmt := [
  ⟨some 76, .mv (.t 7), none⟩,
  ⟨some 77, .conv .u64 (.t 76), none⟩,
  ⟨some 78, .mv (.t 15), none⟩,
  ⟨some 79, .bin .eql (.t 77) (.t 78), none⟩,
  ⟨some 80, .mv (.t 79), none⟩,
  ⟨some 81, .mv (.t 8), some (4, true)⟩,
  ⟨some 82, .mv (.t 16), some (4, true)⟩,
  ⟨some 83, .bin .eql (.t 81) (.t 82), some (4, true)⟩,
  ⟨some 84, .pick (.t 80) (.t 83) (.c (.bool false)), none⟩,
  ⟨some 85, .mv (.t 84), none⟩,
  ⟨some 86, .mv (.t 9), some (9, true)⟩,
  ⟨some 87, .conv .u64 (.t 86), some (9, true)⟩,
  ⟨some 88, .mv (.t 17), some (9, true)⟩,
  ⟨some 89, .bin .eql (.t 87) (.t 88), some (9, true)⟩,
  ⟨some 90, .pick (.t 85) (.t 89) (.c (.bool false)), none⟩,
  ⟨some 91, .mv (.t 90), none⟩,
  ⟨some 92, .mv (.t 10), some (15, true)⟩,
  ⟨some 93, .mv (.t 18), some (15, true)⟩,
  ⟨some 94, .bin .eql (.t 92) (.t 93), some (15, true)⟩,
  ⟨some 95, .pick (.t 91) (.t 94) (.c (.bool false)), none⟩,
  ⟨some 96, .mv (.t 95), none⟩,
  ⟨some 97, .mv (.t 11), some (20, true)⟩,
  ⟨some 98, .mv (.t 19), some (20, true)⟩,
  ⟨some 99, .bin .eql (.t 97) (.t 98), some (20, true)⟩,
  ⟨some 100, .pick (.t 96) (.t 99) (.c (.bool false)), none⟩,
  ⟨some 101, .mv (.t 100), none⟩,
  ⟨some 102, .mv (.t 12), some (25, true)⟩,
  ⟨some 103, .mv (.t 20), some (25, true)⟩,
  ⟨some 104, .bin .eql (.t 102) (.t 103), some (25, true)⟩,
  ⟨some 105, .pick (.t 101) (.t 104) (.c (.bool false)), none⟩,
  ⟨some 106, .mv (.t 105), none⟩,
  ⟨some 107, .mv (.t 13), some (30, true)⟩,
  ⟨some 108, .b2s (.t 107), some (30, true)⟩,
  ⟨some 109, .mv (.t 21), some (30, true)⟩,
  ⟨some 110, .b2s (.t 109), some (30, true)⟩,
  ⟨some 111, .bin .eql (.t 108) (.t 110), some (30, true)⟩,
  ⟨some 112, .pick (.t 106) (.t 111) (.c (.bool false)), none⟩,
  ⟨some 113, .mv (.t 112), none⟩,
  ⟨some 114, .mv (.t 14), some (37, true)⟩,
  ⟨some 115, .mv (.t 22), some (37, true)⟩,
  ⟨some 116, .bin .eql (.t 114) (.t 115), some (37, true)⟩,
  ⟨some 117, .pick (.t 113) (.t 116) (.c (.bool false)), none⟩,
  ⟨some 118, .mv (.t 117), none⟩,
  ⟨some 119, .callc 19 [], some (42, true)⟩,
  ⟨some 120, .pick (.t 118) (.t 119) (.c (.bool false)), none⟩,
  ⟨some 6, .mv (.t 120), none⟩]
theorem F_law02_LeReadsr11_W {T : Tab} {env : Env} {H : Heap} {Q : Post} : W T (.reg F_law02_LeReadsr11) env H Q ↔ WR T F_law02_LeReadsr11 [
  ⟨some 76, .mv (.t 7), none⟩,
  ⟨some 77, .conv .u64 (.t 76), none⟩,
  ⟨some 78, .mv (.t 15), none⟩,
  ⟨some 79, .bin .eql (.t 77) (.t 78), none⟩,
  ⟨some 80, .mv (.t 79), none⟩,
  ⟨some 81, .mv (.t 8), some (4, true)⟩,
  ⟨some 82, .mv (.t 16), some (4, true)⟩,
  ⟨some 83, .bin .eql (.t 81) (.t 82), some (4, true)⟩,
  ⟨some 84, .pick (.t 80) (.t 83) (.c (.bool false)), none⟩,
  ⟨some 85, .mv (.t 84), none⟩,
  ⟨some 86, .mv (.t 9), some (9, true)⟩,
  ⟨some 87, .conv .u64 (.t 86), some (9, true)⟩,
  ⟨some 88, .mv (.t 17), some (9, true)⟩,
  ⟨some 89, .bin .eql (.t 87) (.t 88), some (9, true)⟩,
  ⟨some 90, .pick (.t 85) (.t 89) (.c (.bool false)), none⟩,
  ⟨some 91, .mv (.t 90), none⟩,
  ⟨some 92, .mv (.t 10), some (15, true)⟩,
  ⟨some 93, .mv (.t 18), some (15, true)⟩,
  ⟨some 94, .bin .eql (.t 92) (.t 93), some (15, true)⟩,
  ⟨some 95, .pick (.t 91) (.t 94) (.c (.bool false)), none⟩,
  ⟨some 96, .mv (.t 95), none⟩,
  ⟨some 97, .mv (.t 11), some (20, true)⟩,
  ⟨some 98, .mv (.t 19), some (20, true)⟩,
  ⟨some 99, .bin .eql (.t 97) (.t 98), some (20, true)⟩,
  ⟨some 100, .pick (.t 96) (.t 99) (.c (.bool false)), none⟩,
  ⟨some 101, .mv (.t 100), none⟩,
  ⟨some 102, .mv (.t 12), some (25, true)⟩,
  ⟨some 103, .mv (.t 20), some (25, true)⟩,
  ⟨some 104, .bin .eql (.t 102) (.t 103), some (25, true)⟩,
  ⟨some 105, .pick (.t 101) (.t 104) (.c (.bool false)), none⟩,
  ⟨some 106, .mv (.t 105), none⟩,
  ⟨some 107, .mv (.t 13), some (30, true)⟩,
  ⟨some 108, .b2s (.t 107), some (30, true)⟩,
  ⟨some 109, .mv (.t 21), some (30, true)⟩,
  ⟨some 110, .b2s (.t 109), some (30, true)⟩,
  ⟨some 111, .bin .eql (.t 108) (.t 110), some (30, true)⟩,
  ⟨some 112, .pick (.t 106) (.t 111) (.c (.bool false)), none⟩,
  ⟨some 113, .mv (.t 112), none⟩,
  ⟨some 114, .mv (.t 14), some (37, true)⟩,
  ⟨some 115, .mv (.t 22), some (37, true)⟩,
  ⟨some 116, .bin .eql (.t 114) (.t 115), some (37, true)⟩,
  ⟨some 117, .pick (.t 113) (.t 116) (.c (.bool false)), none⟩,
  ⟨some 118, .mv (.t 117), none⟩,
  ⟨some 119, .callc 19 [], some (42, true)⟩,
  ⟨some 120, .pick (.t 118) (.t 119) (.c (.bool false)), none⟩,
  ⟨some 6, .mv (.t 120), none⟩] env H none [] Q := w_reg
theorem F_law02_LeReadsr11_g4 {env : Env} : yieldI F_law02_LeReadsr11 env 4 = bOf (env 80) := rfl
theorem F_law02_LeReadsr11_g9 {env : Env} : yieldI F_law02_LeReadsr11 env 9 = bOf (env 85) := rfl
theorem F_law02_LeReadsr11_g15 {env : Env} : yieldI F_law02_LeReadsr11 env 15 = bOf (env 91) := rfl
theorem F_law02_LeReadsr11_g20 {env : Env} : yieldI F_law02_LeReadsr11 env 20 = bOf (env 96) := rfl
theorem F_law02_LeReadsr11_g25 {env : Env} : yieldI F_law02_LeReadsr11 env 25 = bOf (env 101) := rfl
theorem F_law02_LeReadsr11_g30 {env : Env} : yieldI F_law02_LeReadsr11 env 30 = bOf (env 106) := rfl
theorem F_law02_LeReadsr11_g37 {env : Env} : yieldI F_law02_LeReadsr11 env 37 = bOf (env 113) := rfl
theorem F_law02_LeReadsr11_g42 {env : Env} : yieldI F_law02_LeReadsr11 env 42 = bOf (env 118) := rfl
def F_law02_LeReadsc : ICode := (.seq (.reg F_law02_LeReadsr0) (.seq (.seq (.reg F_law02_LeReadsr1) (.cond (.t 25) (.seq (.reg F_law02_LeReadsr2) .ret) .skip)) (.seq (.reg F_law02_LeReadsr3) (.seq (.reg F_law02_LeReadsr4) (.seq (.reg F_law02_LeReadsr5) (.seq (.reg F_law02_LeReadsr6) (.seq (.reg F_law02_LeReadsr7) (.seq (.reg F_law02_LeReadsr8) (.seq (.reg F_law02_LeReadsr9) (.seq (.reg F_law02_LeReadsr10) (.seq (.reg F_law02_LeReadsr11) .ret)))))))))))
theorem F_law02_LeReadsc_W {T : Tab} {env : Env} {H : Heap} {Q : Post} : W T F_law02_LeReadsc env H Q ↔ W T (.seq (.reg F_law02_LeReadsr0) (.seq (.seq (.reg F_law02_LeReadsr1) (.cond (.t 25) (.seq (.reg F_law02_LeReadsr2) .ret) .skip)) (.seq (.reg F_law02_LeReadsr3) (.seq (.reg F_law02_LeReadsr4) (.seq (.reg F_law02_LeReadsr5) (.seq (.reg F_law02_LeReadsr6) (.seq (.reg F_law02_LeReadsr7) (.seq (.reg F_law02_LeReadsr8) (.seq (.reg F_law02_LeReadsr9) (.seq (.reg F_law02_LeReadsr10) (.seq (.reg F_law02_LeReadsr11) .ret))))))))))) env H Q := Iff.rfl
def F_law02_LeReads : IFn := ⟨121, [.tmp 6], F_law02_LeReadsc⟩
set_option maxRecDepth 1000000 in
theorem F_law02_LeReads_chk : chkF Try.prog 6 F_law02_LeReads = true := by kernel_rfl

/-! ### law02_LePuts -/
def F_law02_LePutsr0 : List IStmt := [
  ⟨some 2, .mv (.c (.bool false)), none⟩]
theorem F_law02_LePutsr0_W {T : Tab} {env : Env} {H : Heap} {Q : Post} : W T (.reg F_law02_LePutsr0) env H Q ↔ WR T F_law02_LePutsr0 [
  ⟨some 2, .mv (.c (.bool false)), none⟩] env H none [] Q := w_reg
def F_law02_LePutsr1 : List IStmt := [
  ⟨some 9, .call 20 [], none⟩,
  ⟨some 3, .mv (.t 9), none⟩]
theorem F_law02_LePutsr1_W {T : Tab} {env : Env} {H : Heap} {Q : Post} : W T (.reg F_law02_LePutsr1) env H Q ↔ WR T F_law02_LePutsr1 [
  ⟨some 9, .call 20 [], none⟩,
  ⟨some 3, .mv (.t 9), none⟩] env H none [] Q := w_reg
def F_law02_LePutsr2 : List IStmt := [
  ⟨some 10, .mv (.t 3), none⟩,
  ⟨some 11, .eqn 0 false (.t 10) (.c (.pointer none)), none⟩,
  ⟨some 12, .mv (.t 11), none⟩,
  ⟨some 13, .mv (.t 0), some (2, false)⟩,
  ⟨some 14, .len 1 (.t 13), some (2, false)⟩,
  ⟨some 15, .bin .gtr (.t 14) (.c (.int .i64 40)), some (2, false)⟩,
  ⟨some 16, .pick (.t 12) (.c (.bool true)) (.t 15), none⟩]
theorem F_law02_LePutsr2_W {T : Tab} {env : Env} {H : Heap} {Q : Post} : W T (.reg F_law02_LePutsr2) env H Q ↔ WR T F_law02_LePutsr2 [
  ⟨some 10, .mv (.t 3), none⟩,
  ⟨some 11, .eqn 0 false (.t 10) (.c (.pointer none)), none⟩,
  ⟨some 12, .mv (.t 11), none⟩,
  ⟨some 13, .mv (.t 0), some (2, false)⟩,
  ⟨some 14, .len 1 (.t 13), some (2, false)⟩,
  ⟨some 15, .bin .gtr (.t 14) (.c (.int .i64 40)), some (2, false)⟩,
  ⟨some 16, .pick (.t 12) (.c (.bool true)) (.t 15), none⟩] env H none [] Q := w_reg
theorem F_law02_LePutsr2_g2 {env : Env} : yieldI F_law02_LePutsr2 env 2 = bOf (env 12) := rfl
def F_law02_LePutsr3 : List IStmt := [
  ⟨some 17, .mv (.t 3), none⟩,
  ⟨some 18, .eqn 0 true (.t 17) (.c (.pointer none)), none⟩,
  ⟨some 2, .mv (.t 18), none⟩]
theorem F_law02_LePutsr3_W {T : Tab} {env : Env} {H : Heap} {Q : Post} : W T (.reg F_law02_LePutsr3) env H Q ↔ WR T F_law02_LePutsr3 [
  ⟨some 17, .mv (.t 3), none⟩,
  ⟨some 18, .eqn 0 true (.t 17) (.c (.pointer none)), none⟩,
  ⟨some 2, .mv (.t 18), none⟩] env H none [] Q := w_reg
def F_law02_LePutsr4 : List IStmt := [
  ⟨some 4, .mv (.c (.slice none 0 0)), none⟩]
theorem F_law02_LePutsr4_W {T : Tab} {env : Env} {H : Heap} {Q : Post} : W T (.reg F_law02_LePutsr4) env H Q ↔ WR T F_law02_LePutsr4 [
  ⟨some 4, .mv (.c (.slice none 0 0)), none⟩] env H none [] Q := w_reg
def F_law02_LePutsr5 : List IStmt := [
  ⟨some 5, .mv (.c (.int .i64 0)), none⟩]
theorem F_law02_LePutsr5_W {T : Tab} {env : Env} {H : Heap} {Q : Post} : W T (.reg F_law02_LePutsr5) env H Q ↔ WR T F_law02_LePutsr5 [
  ⟨some 5, .mv (.c (.int .i64 0)), none⟩] env H none [] Q := w_reg
def F_law02_LePutsr6 : List IStmt := [
  ⟨some 19, .mv (.t 5), none⟩,
  ⟨some 20, .mv (.t 0), none⟩,
  ⟨some 21, .len 1 (.t 20), none⟩,
  ⟨some 22, .bin .lss (.t 19) (.t 21), none⟩]
theorem F_law02_LePutsr6_W {T : Tab} {env : Env} {H : Heap} {Q : Post} : W T (.reg F_law02_LePutsr6) env H Q ↔ WR T F_law02_LePutsr6 [
  ⟨some 19, .mv (.t 5), none⟩,
  ⟨some 20, .mv (.t 0), none⟩,
  ⟨some 21, .len 1 (.t 20), none⟩,
  ⟨some 22, .bin .lss (.t 19) (.t 21), none⟩] env H none [] Q := w_reg
def F_law02_LePutsr8 : List IStmt := [
  ⟨some 25, .mv (.t 0), none⟩,
  ⟨some 26, .mv (.t 5), none⟩,
  ⟨some 27, .ixa 4 (.t 25) (.t 26), none⟩,
  ⟨some 28, .loadN 4 (.t 27), none⟩,
  ⟨some 6, .alloc 4 [.int .i64 0, .int .i64 0, .int .u64 0, .slice none 0 0], none⟩,
  ⟨none, .store 4 (.t 6) (.t 28), none⟩]
theorem F_law02_LePutsr8_W {T : Tab} {env : Env} {H : Heap} {Q : Post} : W T (.reg F_law02_LePutsr8) env H Q ↔ WR T F_law02_LePutsr8 [
  ⟨some 25, .mv (.t 0), none⟩,
  ⟨some 26, .mv (.t 5), none⟩,
  ⟨some 27, .ixa 4 (.t 25) (.t 26), none⟩,
  ⟨some 28, .loadN 4 (.t 27), none⟩,
  ⟨some 6, .alloc 4 [.int .i64 0, .int .i64 0, .int .u64 0, .slice none 0 0], none⟩,
  ⟨none, .store 4 (.t 6) (.t 28), none⟩] env H none [] Q := w_reg
def F_law02_LePutsr9 : List IStmt := [
  ⟨some 29, .fa 3 (.t 6), none⟩,
  ⟨some 30, .load (.t 29), none⟩,
  ⟨some 31, .len 1 (.t 30), none⟩,
  ⟨some 32, .bin .gtr (.t 31) (.c (.int .i64 256)), none⟩,
  ⟨some 33, .mv (.t 32), none⟩,
  ⟨some 34, .fa 1 (.t 6), some (4, false)⟩,
  ⟨some 35, .load (.t 34), some (4, false)⟩,
  ⟨some 36, .bin .gtr (.t 35) (.c (.int .i64 4096)), some (4, false)⟩,
  ⟨some 37, .pick (.t 33) (.c (.bool true)) (.t 36), none⟩]
theorem F_law02_LePutsr9_W {T : Tab} {env : Env} {H : Heap} {Q : Post} : W T (.reg F_law02_LePutsr9) env H Q ↔ WR T F_law02_LePutsr9 [
  ⟨some 29, .fa 3 (.t 6), none⟩,
  ⟨some 30, .load (.t 29), none⟩,
  ⟨some 31, .len 1 (.t 30), none⟩,
  ⟨some 32, .bin .gtr (.t 31) (.c (.int .i64 256)), none⟩,
  ⟨some 33, .mv (.t 32), none⟩,
  ⟨some 34, .fa 1 (.t 6), some (4, false)⟩,
  ⟨some 35, .load (.t 34), some (4, false)⟩,
  ⟨some 36, .bin .gtr (.t 35) (.c (.int .i64 4096)), some (4, false)⟩,
  ⟨some 37, .pick (.t 33) (.c (.bool true)) (.t 36), none⟩] env H none [] Q := w_reg
theorem F_law02_LePutsr9_g4 {env : Env} : yieldI F_law02_LePutsr9 env 4 = bOf (env 33) := rfl
def F_law02_LePutsr10 : List IStmt := [
  ⟨some 2, .mv (.c (.bool true)), none⟩]
theorem F_law02_LePutsr10_W {T : Tab} {env : Env} {H : Heap} {Q : Post} : W T (.reg F_law02_LePutsr10) env H Q ↔ WR T F_law02_LePutsr10 [
  ⟨some 2, .mv (.c (.bool true)), none⟩] env H none [] Q := w_reg
def F_law02_LePutsr11 : List IStmt := [
  ⟨some 38, .fa 0 (.t 6), none⟩,
  ⟨some 39, .load (.t 38), none⟩,
  ⟨some 40, .bin .rem (.t 39) (.c (.int .i64 7)), none⟩,
  ⟨some 41, .bin .add (.t 40) (.c (.int .i64 7)), none⟩,
  ⟨some 42, .bin .rem (.t 41) (.c (.int .i64 7)), none⟩]
theorem F_law02_LePutsr11_W {T : Tab} {env : Env} {H : Heap} {Q : Post} : W T (.reg F_law02_LePutsr11) env H Q ↔ WR T F_law02_LePutsr11 [
  ⟨some 38, .fa 0 (.t 6), none⟩,
  ⟨some 39, .load (.t 38), none⟩,
  ⟨some 40, .bin .rem (.t 39) (.c (.int .i64 7)), none⟩,
  ⟨some 41, .bin .add (.t 40) (.c (.int .i64 7)), none⟩,
  ⟨some 42, .bin .rem (.t 41) (.c (.int .i64 7)), none⟩] env H none [] Q := w_reg
def F_law02_LePutsr19 : List IStmt := [
  ⟨some 86, .bin .eql (.t 42) (.c (.int .i64 0)), none⟩,
  ⟨some 85, .mv (.t 86), none⟩]
theorem F_law02_LePutsr19_W {T : Tab} {env : Env} {H : Heap} {Q : Post} : W T (.reg F_law02_LePutsr19) env H Q ↔ WR T F_law02_LePutsr19 [
  ⟨some 86, .bin .eql (.t 42) (.c (.int .i64 0)), none⟩,
  ⟨some 85, .mv (.t 86), none⟩] env H none [] Q := w_reg
def F_law02_LePutsr20 : List IStmt := [
  ⟨some 87, .mv (.t 3), none⟩,
  ⟨some 88, .fa 2 (.t 6), none⟩,
  ⟨some 89, .load (.t 88), none⟩,
  ⟨some 90, .conv .u16 (.t 89), none⟩,
  ⟨some 91, .call 21 [(.t 87), (.t 90)], none⟩]
theorem F_law02_LePutsr20_W {T : Tab} {env : Env} {H : Heap} {Q : Post} : W T (.reg F_law02_LePutsr20) env H Q ↔ WR T F_law02_LePutsr20 [
  ⟨some 87, .mv (.t 3), none⟩,
  ⟨some 88, .fa 2 (.t 6), none⟩,
  ⟨some 89, .load (.t 88), none⟩,
  ⟨some 90, .conv .u16 (.t 89), none⟩,
  ⟨some 91, .call 21 [(.t 87), (.t 90)], none⟩] env H none [] Q := w_reg
def F_law02_LePutsr21 : List IStmt := [
  ⟨some 92, .mv (.t 4), none⟩,
  ⟨some 93, .fa 2 (.t 6), none⟩,
  ⟨some 94, .load (.t 93), none⟩,
  ⟨some 95, .call 39 [(.t 92), (.t 94), (.c (.int .i64 2))], none⟩,
  ⟨some 4, .mv (.t 95), none⟩]
theorem F_law02_LePutsr21_W {T : Tab} {env : Env} {H : Heap} {Q : Post} : W T (.reg F_law02_LePutsr21) env H Q ↔ WR T F_law02_LePutsr21 [
  ⟨some 92, .mv (.t 4), none⟩,
  ⟨some 93, .fa 2 (.t 6), none⟩,
  ⟨some 94, .load (.t 93), none⟩,
  ⟨some 95, .call 39 [(.t 92), (.t 94), (.c (.int .i64 2))], none⟩,
  ⟨some 4, .mv (.t 95), none⟩] env H none [] Q := w_reg
def F_law02_LePutsr22 : List IStmt := [
  ⟨some 97, .bin .eql (.t 42) (.c (.int .i64 1)), none⟩,
  ⟨some 96, .mv (.t 97), none⟩]
theorem F_law02_LePutsr22_W {T : Tab} {env : Env} {H : Heap} {Q : Post} : W T (.reg F_law02_LePutsr22) env H Q ↔ WR T F_law02_LePutsr22 [
  ⟨some 97, .bin .eql (.t 42) (.c (.int .i64 1)), none⟩,
  ⟨some 96, .mv (.t 97), none⟩] env H none [] Q := w_reg
def F_law02_LePutsr23 : List IStmt := [
  ⟨some 98, .mv (.t 3), none⟩,
  ⟨some 99, .fa 2 (.t 6), none⟩,
  ⟨some 100, .load (.t 99), none⟩,
  ⟨some 101, .conv .u32 (.t 100), none⟩,
  ⟨some 102, .call 22 [(.t 98), (.t 101)], none⟩]
theorem F_law02_LePutsr23_W {T : Tab} {env : Env} {H : Heap} {Q : Post} : W T (.reg F_law02_LePutsr23) env H Q ↔ WR T F_law02_LePutsr23 [
  ⟨some 98, .mv (.t 3), none⟩,
  ⟨some 99, .fa 2 (.t 6), none⟩,
  ⟨some 100, .load (.t 99), none⟩,
  ⟨some 101, .conv .u32 (.t 100), none⟩,
  ⟨some 102, .call 22 [(.t 98), (.t 101)], none⟩] env H none [] Q := w_reg
def F_law02_LePutsr24 : List IStmt := [
  ⟨some 103, .mv (.t 4), none⟩,
  ⟨some 104, .fa 2 (.t 6), none⟩,
  ⟨some 105, .load (.t 104), none⟩,
  ⟨some 106, .call 39 [(.t 103), (.t 105), (.c (.int .i64 4))], none⟩,
  ⟨some 4, .mv (.t 106), none⟩]
theorem F_law02_LePutsr24_W {T : Tab} {env : Env} {H : Heap} {Q : Post} : W T (.reg F_law02_LePutsr24) env H Q ↔ WR T F_law02_LePutsr24 [
  ⟨some 103, .mv (.t 4), none⟩,
  ⟨some 104, .fa 2 (.t 6), none⟩,
  ⟨some 105, .load (.t 104), none⟩,
  ⟨some 106, .call 39 [(.t 103), (.t 105), (.c (.int .i64 4))], none⟩,
  ⟨some 4, .mv (.t 106), none⟩] env H none [] Q := w_reg
def F_law02_LePutsr25 : List IStmt := [
  ⟨some 108, .bin .eql (.t 42) (.c (.int .i64 2)), none⟩,
  ⟨some 107, .mv (.t 108), none⟩]
theorem F_law02_LePutsr25_W {T : Tab} {env : Env} {H : Heap} {Q : Post} : W T (.reg F_law02_LePutsr25) env H Q ↔ WR T F_law02_LePutsr25 [
  ⟨some 108, .bin .eql (.t 42) (.c (.int .i64 2)), none⟩,
  ⟨some 107, .mv (.t 108), none⟩] env H none [] Q := w_reg
def F_law02_LePutsr26 : List IStmt := [
  ⟨some 109, .mv (.t 3), none⟩,
  ⟨some 110, .fa 2 (.t 6), none⟩,
  ⟨some 111, .load (.t 110), none⟩,
  ⟨some 112, .call 23 [(.t 109), (.t 111)], none⟩]
theorem F_law02_LePutsr26_W {T : Tab} {env : Env} {H : Heap} {Q : Post} : W T (.reg F_law02_LePutsr26) env H Q ↔ WR T F_law02_LePutsr26 [
  ⟨some 109, .mv (.t 3), none⟩,
  ⟨some 110, .fa 2 (.t 6), none⟩,
  ⟨some 111, .load (.t 110), none⟩,
  ⟨some 112, .call 23 [(.t 109), (.t 111)], none⟩] env H none [] Q := w_reg
def F_law02_LePutsr27 : List IStmt := [
  ⟨some 113, .mv (.t 4), none⟩,
  ⟨some 114, .fa 2 (.t 6), none⟩,
  ⟨some 115, .load (.t 114), none⟩,
  ⟨some 116, .call 39 [(.t 113), (.t 115), (.c (.int .i64 8))], none⟩,
  ⟨some 4, .mv (.t 116), none⟩]
theorem F_law02_LePutsr27_W {T : Tab} {env : Env} {H : Heap} {Q : Post} : W T (.reg F_law02_LePutsr27) env H Q ↔ WR T F_law02_LePutsr27 [
  ⟨some 113, .mv (.t 4), none⟩,
  ⟨some 114, .fa 2 (.t 6), none⟩,
  ⟨some 115, .load (.t 114), none⟩,
  ⟨some 116, .call 39 [(.t 113), (.t 115), (.c (.int .i64 8))], none⟩,
  ⟨some 4, .mv (.t 116), none⟩] env H none [] Q := w_reg
def F_law02_LePutsr28 : List IStmt := [
  ⟨some 118, .bin .eql (.t 42) (.c (.int .i64 3)), none⟩,
  ⟨some 117, .mv (.t 118), none⟩]
theorem F_law02_LePutsr28_W {T : Tab} {env : Env} {H : Heap} {Q : Post} : W T (.reg F_law02_LePutsr28) env H Q ↔ WR T F_law02_LePutsr28 [
  ⟨some 118, .bin .eql (.t 42) (.c (.int .i64 3)), none⟩,
  ⟨some 117, .mv (.t 118), none⟩] env H none [] Q := w_reg
def F_law02_LePutsr29 : List IStmt := [
  ⟨some 119, .mv (.t 3), none⟩,
  ⟨some 120, .fa 3 (.t 6), none⟩,
  ⟨some 121, .load (.t 120), none⟩,
  ⟨some 122, .call 24 [(.t 119), (.t 121)], none⟩]
theorem F_law02_LePutsr29_W {T : Tab} {env : Env} {H : Heap} {Q : Post} : W T (.reg F_law02_LePutsr29) env H Q ↔ WR T F_law02_LePutsr29 [
  ⟨some 119, .mv (.t 3), none⟩,
  ⟨some 120, .fa 3 (.t 6), none⟩,
  ⟨some 121, .load (.t 120), none⟩,
  ⟨some 122, .call 24 [(.t 119), (.t 121)], none⟩] env H none [] Q := w_reg
def F_law02_LePutsr30 : List IStmt := [
  ⟨some 123, .mv (.t 4), none⟩,
  ⟨some 124, .fa 3 (.t 6), none⟩,
  ⟨some 125, .load (.t 124), none⟩,
  ⟨some 126, .app 1 1 (.t 123) (.t 125), none⟩,
  ⟨some 4, .mv (.t 126), none⟩]
theorem F_law02_LePutsr30_W {T : Tab} {env : Env} {H : Heap} {Q : Post} : W T (.reg F_law02_LePutsr30) env H Q ↔ WR T F_law02_LePutsr30 [
  ⟨some 123, .mv (.t 4), none⟩,
  ⟨some 124, .fa 3 (.t 6), none⟩,
  ⟨some 125, .load (.t 124), none⟩,
  ⟨some 126, .app 1 1 (.t 123) (.t 125), none⟩,
  ⟨some 4, .mv (.t 126), none⟩] env H none [] Q := w_reg
def F_law02_LePutsr31 : List IStmt := [
  ⟨some 128, .bin .eql (.t 42) (.c (.int .i64 4)), none⟩,
  ⟨some 127, .mv (.t 128), none⟩]
theorem F_law02_LePutsr31_W {T : Tab} {env : Env} {H : Heap} {Q : Post} : W T (.reg F_law02_LePutsr31) env H Q ↔ WR T F_law02_LePutsr31 [
  ⟨some 128, .bin .eql (.t 42) (.c (.int .i64 4)), none⟩,
  ⟨some 127, .mv (.t 128), none⟩] env H none [] Q := w_reg
def F_law02_LePutsr32 : List IStmt := [
  ⟨some 129, .mv (.t 3), none⟩,
  ⟨some 130, .fa 1 (.t 6), none⟩,
  ⟨some 131, .load (.t 130), none⟩,
  ⟨some 132, .call 25 [(.t 129), (.t 131)], none⟩]
theorem F_law02_LePutsr32_W {T : Tab} {env : Env} {H : Heap} {Q : Post} : W T (.reg F_law02_LePutsr32) env H Q ↔ WR T F_law02_LePutsr32 [
  ⟨some 129, .mv (.t 3), none⟩,
  ⟨some 130, .fa 1 (.t 6), none⟩,
  ⟨some 131, .load (.t 130), none⟩,
  ⟨some 132, .call 25 [(.t 129), (.t 131)], none⟩] env H none [] Q := w_reg
def F_law02_LePutsr33 : List IStmt := [
  ⟨some 133, .mv (.t 4), none⟩,
  ⟨some 134, .fa 1 (.t 6), none⟩,
  ⟨some 135, .load (.t 134), none⟩,
  ⟨some 136, .call 40 [(.t 133), (.t 135)], none⟩,
  ⟨some 4, .mv (.t 136), none⟩]
theorem F_law02_LePutsr33_W {T : Tab} {env : Env} {H : Heap} {Q : Post} : W T (.reg F_law02_LePutsr33) env H Q ↔ WR T F_law02_LePutsr33 [
  ⟨some 133, .mv (.t 4), none⟩,
  ⟨some 134, .fa 1 (.t 6), none⟩,
  ⟨some 135, .load (.t 134), none⟩,
  ⟨some 136, .call 40 [(.t 133), (.t 135)], none⟩,
  ⟨some 4, .mv (.t 136), none⟩] env H none [] Q := w_reg
def F_law02_LePutsr34 : List IStmt := [
  ⟨some 138, .bin .eql (.t 42) (.c (.int .i64 5)), none⟩,
  ⟨some 137, .mv (.t 138), none⟩]
theorem F_law02_LePutsr34_W {T : Tab} {env : Env} {H : Heap} {Q : Post} : W T (.reg F_law02_LePutsr34) env H Q ↔ WR T F_law02_LePutsr34 [
  ⟨some 138, .bin .eql (.t 42) (.c (.int .i64 5)), none⟩,
  ⟨some 137, .mv (.t 138), none⟩] env H none [] Q := w_reg
def F_law02_LePutsr35 : List IStmt := [
  ⟨some 139, .mv (.t 3), none⟩,
  ⟨some 140, .fa 1 (.t 6), none⟩,
  ⟨some 141, .load (.t 140), none⟩,
  ⟨some 142, .call 26 [(.t 139), (.t 141)], none⟩]
theorem F_law02_LePutsr35_W {T : Tab} {env : Env} {H : Heap} {Q : Post} : W T (.reg F_law02_LePutsr35) env H Q ↔ WR T F_law02_LePutsr35 [
  ⟨some 139, .mv (.t 3), none⟩,
  ⟨some 140, .fa 1 (.t 6), none⟩,
  ⟨some 141, .load (.t 140), none⟩,
  ⟨some 142, .call 26 [(.t 139), (.t 141)], none⟩] env H none [] Q := w_reg
def F_law02_LePutsr36 : List IStmt := [
  ⟨some 143, .mv (.t 4), none⟩,
  ⟨some 144, .fa 1 (.t 6), none⟩,
  ⟨some 145, .load (.t 144), none⟩,
  ⟨some 146, .call 41 [(.t 143), (.t 145)], none⟩,
  ⟨some 4, .mv (.t 146), none⟩]
theorem F_law02_LePutsr36_W {T : Tab} {env : Env} {H : Heap} {Q : Post} : W T (.reg F_law02_LePutsr36) env H Q ↔ WR T F_law02_LePutsr36 [
  ⟨some 143, .mv (.t 4), none⟩,
  ⟨some 144, .fa 1 (.t 6), none⟩,
  ⟨some 145, .load (.t 144), none⟩,
  ⟨some 146, .call 41 [(.t 143), (.t 145)], none⟩,
  ⟨some 4, .mv (.t 146), none⟩] env H none [] Q := w_reg
def F_law02_LePutsr12 : List IStmt := [
  ⟨some 43, .fa 1 (.t 6), none⟩,
  ⟨some 44, .load (.t 43), none⟩,
  ⟨some 45, .bin .geq (.t 44) (.c (.int .i64 0)), none⟩,
  ⟨some 46, .mv (.t 45), none⟩,
  ⟨some 47, .mv (.t 4), some (3, true)⟩,
  ⟨some 48, .len 1 (.t 47), some (3, true)⟩,
  ⟨some 49, .bin .geq (.t 48) (.c (.int .i64 8)), some (3, true)⟩,
  ⟨some 50, .pick (.t 46) (.t 49) (.c (.bool false)), none⟩,
  ⟨some 51, .mv (.t 50), none⟩,
  ⟨some 52, .fa 1 (.t 6), some (8, true)⟩,
  ⟨some 53, .load (.t 52), some (8, true)⟩,
  ⟨some 54, .mv (.t 4), some (8, true)⟩,
  ⟨some 55, .len 1 (.t 54), some (8, true)⟩,
  ⟨some 56, .bin .sub (.t 55) (.c (.int .i64 8)), some (8, true)⟩,
  ⟨some 57, .bin .leq (.t 53) (.t 56), some (8, true)⟩,
  ⟨some 58, .pick (.t 51) (.t 57) (.c (.bool false)), none⟩,
  ⟨some 7, .mv (.t 58), none⟩]
theorem F_law02_LePutsr12_W {T : Tab} {env : Env} {H : Heap} {Q : Post} : W T (.reg F_law02_LePutsr12) env H Q ↔ WR T F_law02_LePutsr12 [
  ⟨some 43, .fa 1 (.t 6), none⟩,
  ⟨some 44, .load (.t 43), none⟩,
  ⟨some 45, .bin .geq (.t 44) (.c (.int .i64 0)), none⟩,
  ⟨some 46, .mv (.t 45), none⟩,
  ⟨some 47, .mv (.t 4), some (3, true)⟩,
  ⟨some 48, .len 1 (.t 47), some (3, true)⟩,
  ⟨some 49, .bin .geq (.t 48) (.c (.int .i64 8)), some (3, true)⟩,
  ⟨some 50, .pick (.t 46) (.t 49) (.c (.bool false)), none⟩,
  ⟨some 51, .mv (.t 50), none⟩,
  ⟨some 52, .fa 1 (.t 6), some (8, true)⟩,
  ⟨some 53, .load (.t 52), some (8, true)⟩,
  ⟨some 54, .mv (.t 4), some (8, true)⟩,
  ⟨some 55, .len 1 (.t 54), some (8, true)⟩,
  ⟨some 56, .bin .sub (.t 55) (.c (.int .i64 8)), some (8, true)⟩,
  ⟨some 57, .bin .leq (.t 53) (.t 56), some (8, true)⟩,
  ⟨some 58, .pick (.t 51) (.t 57) (.c (.bool false)), none⟩,
  ⟨some 7, .mv (.t 58), none⟩] env H none [] Q := w_reg
theorem F_law02_LePutsr12_g3 {env : Env} : yieldI F_law02_LePutsr12 env 3 = bOf (env 46) := rfl
theorem F_law02_LePutsr12_g8 {env : Env} : yieldI F_law02_LePutsr12 env 8 = bOf (env 51) := rfl
def F_law02_LePutsr13 : List IStmt := [
  ⟨some 59, .mv (.t 3), none⟩,
  ⟨some 60, .fa 1 (.t 6), none⟩,
  ⟨some 61, .load (.t 60), none⟩,
  ⟨some 62, .fa 2 (.t 6), none⟩,
  ⟨some 63, .load (.t 62), none⟩,
  ⟨some 64, .call 42 [(.t 59), (.t 61), (.t 63)], none⟩,
  ⟨some 65, .mv (.t 7), none⟩,
  ⟨some 66, .eqb true (.t 64) (.t 65), none⟩]
theorem F_law02_LePutsr13_W {T : Tab} {env : Env} {H : Heap} {Q : Post} : W T (.reg F_law02_LePutsr13) env H Q ↔ WR T F_law02_LePutsr13 [
  ⟨some 59, .mv (.t 3), none⟩,
  ⟨some 60, .fa 1 (.t 6), none⟩,
  ⟨some 61, .load (.t 60), none⟩,
  ⟨some 62, .fa 2 (.t 6), none⟩,
  ⟨some 63, .load (.t 62), none⟩,
  ⟨some 64, .call 42 [(.t 59), (.t 61), (.t 63)], none⟩,
  ⟨some 65, .mv (.t 7), none⟩,
  ⟨some 66, .eqb true (.t 64) (.t 65), none⟩] env H none [] Q := w_reg
def F_law02_LePutsr14 : List IStmt := [
  ⟨some 2, .mv (.c (.bool false)), none⟩]
theorem F_law02_LePutsr14_W {T : Tab} {env : Env} {H : Heap} {Q : Post} : W T (.reg F_law02_LePutsr14) env H Q ↔ WR T F_law02_LePutsr14 [
  ⟨some 2, .mv (.c (.bool false)), none⟩] env H none [] Q := w_reg
def F_law02_LePutsr15 : List IStmt := [
  ⟨some 67, .mv (.t 7), none⟩]
theorem F_law02_LePutsr15_W {T : Tab} {env : Env} {H : Heap} {Q : Post} : W T (.reg F_law02_LePutsr15) env H Q ↔ WR T F_law02_LePutsr15 [
  ⟨some 67, .mv (.t 7), none⟩] env H none [] Q := w_reg
def F_law02_LePutsr16 : List IStmt := [
  ⟨some 68, .bslz 1, none⟩,
  ⟨some 69, .mv (.t 4), none⟩,
  ⟨some 70, .fa 1 (.t 6), none⟩,
  ⟨some 71, .load (.t 70), none⟩,
  ⟨some 72, .sle 1 (.t 69) none (some (.t 71)) none, none⟩,
  ⟨some 73, .app 1 1 (.t 68) (.t 72), none⟩,
  ⟨some 8, .mv (.t 73), none⟩]
theorem F_law02_LePutsr16_W {T : Tab} {env : Env} {H : Heap} {Q : Post} : W T (.reg F_law02_LePutsr16) env H Q ↔ WR T F_law02_LePutsr16 [
  ⟨some 68, .bslz 1, none⟩,
  ⟨some 69, .mv (.t 4), none⟩,
  ⟨some 70, .fa 1 (.t 6), none⟩,
  ⟨some 71, .load (.t 70), none⟩,
  ⟨some 72, .sle 1 (.t 69) none (some (.t 71)) none, none⟩,
  ⟨some 73, .app 1 1 (.t 68) (.t 72), none⟩,
  ⟨some 8, .mv (.t 73), none⟩] env H none [] Q := w_reg
def F_law02_LePutsr17 : List IStmt := [
  ⟨some 74, .mv (.t 8), none⟩,
  ⟨some 75, .fa 2 (.t 6), none⟩,
  ⟨some 76, .load (.t 75), none⟩,
  ⟨some 77, .call 39 [(.t 74), (.t 76), (.c (.int .i64 8))], none⟩,
  ⟨some 8, .mv (.t 77), none⟩]
theorem F_law02_LePutsr17_W {T : Tab} {env : Env} {H : Heap} {Q : Post} : W T (.reg F_law02_LePutsr17) env H Q ↔ WR T F_law02_LePutsr17 [
  ⟨some 74, .mv (.t 8), none⟩,
  ⟨some 75, .fa 2 (.t 6), none⟩,
  ⟨some 76, .load (.t 75), none⟩,
  ⟨some 77, .call 39 [(.t 74), (.t 76), (.c (.int .i64 8))], none⟩,
  ⟨some 8, .mv (.t 77), none⟩] env H none [] Q := w_reg
def F_law02_LePutsr18 : List IStmt := [
  ⟨some 78, .mv (.t 8), none⟩,
  ⟨some 79, .mv (.t 4), none⟩,
  ⟨some 80, .fa 1 (.t 6), none⟩,
  ⟨some 81, .load (.t 80), none⟩,
  ⟨some 82, .bin .add (.t 81) (.c (.int .i64 8)), none⟩,
  ⟨some 83, .sle 1 (.t 79) (some (.t 82)) none none, none⟩,
  ⟨some 84, .app 1 1 (.t 78) (.t 83), none⟩,
  ⟨some 4, .mv (.t 84), none⟩]
theorem F_law02_LePutsr18_W {T : Tab} {env : Env} {H : Heap} {Q : Post} : W T (.reg F_law02_LePutsr18) env H Q ↔ WR T F_law02_LePutsr18 [
  ⟨some 78, .mv (.t 8), none⟩,
  ⟨some 79, .mv (.t 4), none⟩,
  ⟨some 80, .fa 1 (.t 6), none⟩,
  ⟨some 81, .load (.t 80), none⟩,
  ⟨some 82, .bin .add (.t 81) (.c (.int .i64 8)), none⟩,
  ⟨some 83, .sle 1 (.t 79) (some (.t 82)) none none, none⟩,
  ⟨some 84, .app 1 1 (.t 78) (.t 83), none⟩,
  ⟨some 4, .mv (.t 84), none⟩] env H none [] Q := w_reg
def F_law02_LePutsr37 : List IStmt := [
  ⟨some 147, .mv (.t 3), none⟩,
  ⟨some 148, .call 28 [(.t 147)], none⟩,
  ⟨some 149, .mv (.t 4), none⟩,
  ⟨some 150, .len 1 (.t 149), none⟩,
  ⟨some 151, .bin .neq (.t 148) (.t 150), none⟩]
theorem F_law02_LePutsr37_W {T : Tab} {env : Env} {H : Heap} {Q : Post} : W T (.reg F_law02_LePutsr37) env H Q ↔ WR T F_law02_LePutsr37 [
  ⟨some 147, .mv (.t 3), none⟩,
  ⟨some 148, .call 28 [(.t 147)], none⟩,
  ⟨some 149, .mv (.t 4), none⟩,
  ⟨some 150, .len 1 (.t 149), none⟩,
  ⟨some 151, .bin .neq (.t 148) (.t 150), none⟩] env H none [] Q := w_reg
def F_law02_LePutsr38 : List IStmt := [
  ⟨some 2, .mv (.c (.bool false)), none⟩]
theorem F_law02_LePutsr38_W {T : Tab} {env : Env} {H : Heap} {Q : Post} : W T (.reg F_law02_LePutsr38) env H Q ↔ WR T F_law02_LePutsr38 [
  ⟨some 2, .mv (.c (.bool false)), none⟩] env H none [] Q := w_reg
def F_law02_LePutsr7 : List IStmt := [
  ⟨some 23, .mv (.t 5), none⟩,
  ⟨some 24, .bin .add (.t 23) (.c (.int .i64 1)), none⟩,
  ⟨some 5, .mv (.t 24), none⟩]
theorem F_law02_LePutsr7_W {T : Tab} {env : Env} {H : Heap} {Q : Post} : W T (.reg F_law02_LePutsr7) env H Q ↔ WR T F_law02_LePutsr7 [
  ⟨some 23, .mv (.t 5), none⟩,
  ⟨some 24, .bin .add (.t 23) (.c (.int .i64 1)), none⟩,
  ⟨some 5, .mv (.t 24), none⟩] env H none [] Q := w_reg
def F_law02_LePutsl0 : ICode := (.seq (.seq (.reg F_law02_LePutsr6) (.cond (.t 22) .skip (.exit 0))) (.seq (.block 1 (.seq (.reg F_law02_LePutsr8) (.seq (.seq (.reg F_law02_LePutsr9) (.cond (.t 37) (.seq (.reg F_law02_LePutsr10) .ret) .skip)) (.seq (.seq (.reg F_law02_LePutsr11) (.block 2 (.seq (.reg F_law02_LePutsr19) (.cond (.t 85) (.seq (.reg F_law02_LePutsr20) (.reg F_law02_LePutsr21)) (.seq (.reg F_law02_LePutsr22) (.cond (.t 96) (.seq (.reg F_law02_LePutsr23) (.reg F_law02_LePutsr24)) (.seq (.reg F_law02_LePutsr25) (.cond (.t 107) (.seq (.reg F_law02_LePutsr26) (.reg F_law02_LePutsr27)) (.seq (.reg F_law02_LePutsr28) (.cond (.t 117) (.seq (.reg F_law02_LePutsr29) (.reg F_law02_LePutsr30)) (.seq (.reg F_law02_LePutsr31) (.cond (.t 127) (.seq (.reg F_law02_LePutsr32) (.reg F_law02_LePutsr33)) (.seq (.reg F_law02_LePutsr34) (.cond (.t 137) (.seq (.reg F_law02_LePutsr35) (.reg F_law02_LePutsr36)) (.seq (.reg F_law02_LePutsr12) (.seq (.seq (.reg F_law02_LePutsr13) (.cond (.t 66) (.seq (.reg F_law02_LePutsr14) .ret) .skip)) (.seq (.reg F_law02_LePutsr15) (.cond (.t 67) (.seq (.reg F_law02_LePutsr16) (.seq (.reg F_law02_LePutsr17) (.reg F_law02_LePutsr18))) .skip)))))))))))))))))) (.seq (.reg F_law02_LePutsr37) (.cond (.t 151) (.seq (.reg F_law02_LePutsr38) .ret) .skip)))))) (.reg F_law02_LePutsr7)))
theorem F_law02_LePutsl0_W {T : Tab} {env : Env} {H : Heap} {Q : Post} : W T F_law02_LePutsl0 env H Q ↔ W T (.seq (.seq (.reg F_law02_LePutsr6) (.cond (.t 22) .skip (.exit 0))) (.seq (.block 1 (.seq (.reg F_law02_LePutsr8) (.seq (.seq (.reg F_law02_LePutsr9) (.cond (.t 37) (.seq (.reg F_law02_LePutsr10) .ret) .skip)) (.seq (.seq (.reg F_law02_LePutsr11) (.block 2 (.seq (.reg F_law02_LePutsr19) (.cond (.t 85) (.seq (.reg F_law02_LePutsr20) (.reg F_law02_LePutsr21)) (.seq (.reg F_law02_LePutsr22) (.cond (.t 96) (.seq (.reg F_law02_LePutsr23) (.reg F_law02_LePutsr24)) (.seq (.reg F_law02_LePutsr25) (.cond (.t 107) (.seq (.reg F_law02_LePutsr26) (.reg F_law02_LePutsr27)) (.seq (.reg F_law02_LePutsr28) (.cond (.t 117) (.seq (.reg F_law02_LePutsr29) (.reg F_law02_LePutsr30)) (.seq (.reg F_law02_LePutsr31) (.cond (.t 127) (.seq (.reg F_law02_LePutsr32) (.reg F_law02_LePutsr33)) (.seq (.reg F_law02_LePutsr34) (.cond (.t 137) (.seq (.reg F_law02_LePutsr35) (.reg F_law02_LePutsr36)) (.seq (.reg F_law02_LePutsr12) (.seq (.seq (.reg F_law02_LePutsr13) (.cond (.t 66) (.seq (.reg F_law02_LePutsr14) .ret) .skip)) (.seq (.reg F_law02_LePutsr15) (.cond (.t 67) (.seq (.reg F_law02_LePutsr16) (.seq (.reg F_law02_LePutsr17) (.reg F_law02_LePutsr18))) .skip)))))))))))))))))) (.seq (.reg F_law02_LePutsr37) (.cond (.t 151) (.seq (.reg F_law02_LePutsr38) .ret) .skip)))))) (.reg F_law02_LePutsr7))) env H Q := Iff.rfl
def F_law02_LePutsr39 : List IStmt := [
  ⟨some 152, .mv (.t 3), none⟩,
  ⟨some 153, .callf 27 [(.t 152)], none⟩,
  ⟨some 154, .b2s (.t 153), none⟩,
  ⟨some 155, .mv (.t 4), none⟩,
  ⟨some 156, .b2s (.t 155), none⟩,
  ⟨some 157, .bin .eql (.t 154) (.t 156), none⟩,
  ⟨some 158, .mv (.t 157), none⟩,
  ⟨some 159, .callc 19 [], some (6, true)⟩,
  ⟨some 160, .pick (.t 158) (.t 159) (.c (.bool false)), none⟩,
  ⟨some 2, .mv (.t 160), none⟩]
theorem F_law02_LePutsr39_g6 {env : Env} : yieldI F_law02_LePutsr39 env 6 = bOf (env 158) := rfl
theorem F_law02_LePutsr39_W {T : Tab} {env : Env} {H : Heap} {Q : Post} : W T (.dreg F_law02_LePutsr39 [(4, 0)]) env H Q ↔ WR T F_law02_LePutsr39 [
  ⟨some 152, .mv (.t 3), none⟩,
  ⟨some 153, .callf 27 [(.t 152)], none⟩,
  ⟨some 154, .b2s (.t 153), none⟩,
  ⟨some 155, .mv (.t 4), none⟩,
  ⟨some 156, .b2s (.t 155), none⟩,
  ⟨some 157, .bin .eql (.t 154) (.t 156), none⟩,
  ⟨some 158, .mv (.t 157), none⟩,
  ⟨some 159, .callc 19 [], some (6, true)⟩,
  ⟨some 160, .pick (.t 158) (.t 159) (.c (.bool false)), none⟩,
  ⟨some 2, .mv (.t 160), none⟩] env H (some []) [(4, 0)] Q := w_dreg
theorem F_law02_LePutsr39_len : F_law02_LePutsr39.length = 10 := rfl
theorem F_law02_LePutsr39_i4 : F_law02_LePutsr39[4]? = some ⟨some 156, .b2s (.t 155), none⟩ := rfl
def F_law02_LePutsc : ICode := (.seq (.reg F_law02_LePutsr0) (.seq (.reg F_law02_LePutsr1) (.seq (.seq (.reg F_law02_LePutsr2) (.cond (.t 16) (.seq (.reg F_law02_LePutsr3) .ret) .skip)) (.seq (.reg F_law02_LePutsr4) (.seq (.seq (.reg F_law02_LePutsr5) (.block 0 (.loop F_law02_LePutsl0))) (.seq (.dreg F_law02_LePutsr39 [(4, 0)]) .ret))))))
theorem F_law02_LePutsc_W {T : Tab} {env : Env} {H : Heap} {Q : Post} : W T F_law02_LePutsc env H Q ↔ W T (.seq (.reg F_law02_LePutsr0) (.seq (.reg F_law02_LePutsr1) (.seq (.seq (.reg F_law02_LePutsr2) (.cond (.t 16) (.seq (.reg F_law02_LePutsr3) .ret) .skip)) (.seq (.reg F_law02_LePutsr4) (.seq (.seq (.reg F_law02_LePutsr5) (.block 0 (.loop F_law02_LePutsl0))) (.seq (.dreg F_law02_LePutsr39 [(4, 0)]) .ret)))))) env H Q := Iff.rfl
def F_law02_LePuts : IFn := ⟨161, [.tmp 2], F_law02_LePutsc⟩
set_option maxRecDepth 1000000 in
theorem F_law02_LePuts_chk : chkF Try.prog 7 F_law02_LePuts = true := by kernel_rfl

/-! ### law02_LeBack -/
def F_law02_LeBackr0 : List IStmt := [
  ⟨some 6, .mv (.c (.bool false)), none⟩]
theorem F_law02_LeBackr0_W {T : Tab} {env : Env} {H : Heap} {Q : Post} : W T (.reg F_law02_LeBackr0) env H Q ↔ WR T F_law02_LeBackr0 [
  ⟨some 6, .mv (.c (.bool false)), none⟩] env H none [] Q := w_reg
def F_law02_LeBackr1 : List IStmt := [
  ⟨some 20, .call 20 [], none⟩,
  ⟨some 7, .mv (.t 20), none⟩]
theorem F_law02_LeBackr1_W {T : Tab} {env : Env} {H : Heap} {Q : Post} : W T (.reg F_law02_LeBackr1) env H Q ↔ WR T F_law02_LeBackr1 [
  ⟨some 20, .call 20 [], none⟩,
  ⟨some 7, .mv (.t 20), none⟩] env H none [] Q := w_reg
def F_law02_LeBackr2 : List IStmt := [
  ⟨some 21, .mv (.t 7), none⟩,
  ⟨some 22, .eqn 0 false (.t 21) (.c (.pointer none)), none⟩,
  ⟨some 23, .mv (.t 22), none⟩,
  ⟨some 24, .mv (.t 0), some (2, false)⟩,
  ⟨some 25, .len 1 (.t 24), some (2, false)⟩,
  ⟨some 26, .bin .gtr (.t 25) (.c (.int .i64 4096)), some (2, false)⟩,
  ⟨some 27, .pick (.t 23) (.c (.bool true)) (.t 26), none⟩]
theorem F_law02_LeBackr2_W {T : Tab} {env : Env} {H : Heap} {Q : Post} : W T (.reg F_law02_LeBackr2) env H Q ↔ WR T F_law02_LeBackr2 [
  ⟨some 21, .mv (.t 7), none⟩,
  ⟨some 22, .eqn 0 false (.t 21) (.c (.pointer none)), none⟩,
  ⟨some 23, .mv (.t 22), none⟩,
  ⟨some 24, .mv (.t 0), some (2, false)⟩,
  ⟨some 25, .len 1 (.t 24), some (2, false)⟩,
  ⟨some 26, .bin .gtr (.t 25) (.c (.int .i64 4096)), some (2, false)⟩,
  ⟨some 27, .pick (.t 23) (.c (.bool true)) (.t 26), none⟩] env H none [] Q := w_reg
theorem F_law02_LeBackr2_g2 {env : Env} : yieldI F_law02_LeBackr2 env 2 = bOf (env 23) := rfl
def F_law02_LeBackr3 : List IStmt := [
  ⟨some 28, .mv (.t 7), none⟩,
  ⟨some 29, .eqn 0 true (.t 28) (.c (.pointer none)), none⟩,
  ⟨some 6, .mv (.t 29), none⟩]
theorem F_law02_LeBackr3_W {T : Tab} {env : Env} {H : Heap} {Q : Post} : W T (.reg F_law02_LeBackr3) env H Q ↔ WR T F_law02_LeBackr3 [
  ⟨some 28, .mv (.t 7), none⟩,
  ⟨some 29, .eqn 0 true (.t 28) (.c (.pointer none)), none⟩,
  ⟨some 6, .mv (.t 29), none⟩] env H none [] Q := w_reg
def F_law02_LeBackr4 : List IStmt := [
  ⟨some 30, .mv (.t 2), none⟩,
  ⟨some 31, .bin .lss (.t 30) (.c (.int .i64 1)), none⟩,
  ⟨some 32, .mv (.t 31), none⟩,
  ⟨some 33, .mv (.t 2), some (2, false)⟩,
  ⟨some 34, .bin .gtr (.t 33) (.c (.int .i64 4096)), some (2, false)⟩,
  ⟨some 35, .pick (.t 32) (.c (.bool true)) (.t 34), none⟩]
theorem F_law02_LeBackr4_W {T : Tab} {env : Env} {H : Heap} {Q : Post} : W T (.reg F_law02_LeBackr4) env H Q ↔ WR T F_law02_LeBackr4 [
  ⟨some 30, .mv (.t 2), none⟩,
  ⟨some 31, .bin .lss (.t 30) (.c (.int .i64 1)), none⟩,
  ⟨some 32, .mv (.t 31), none⟩,
  ⟨some 33, .mv (.t 2), some (2, false)⟩,
  ⟨some 34, .bin .gtr (.t 33) (.c (.int .i64 4096)), some (2, false)⟩,
  ⟨some 35, .pick (.t 32) (.c (.bool true)) (.t 34), none⟩] env H none [] Q := w_reg
theorem F_law02_LeBackr4_g2 {env : Env} : yieldI F_law02_LeBackr4 env 2 = bOf (env 32) := rfl
def F_law02_LeBackr5 : List IStmt := [
  ⟨some 2, .mv (.c (.int .i64 1)), none⟩]
theorem F_law02_LeBackr5_W {T : Tab} {env : Env} {H : Heap} {Q : Post} : W T (.reg F_law02_LeBackr5) env H Q ↔ WR T F_law02_LeBackr5 [
  ⟨some 2, .mv (.c (.int .i64 1)), none⟩] env H none [] Q := w_reg
def F_law02_LeBackr6 : List IStmt := [
  ⟨some 36, .mv (.t 7), none⟩,
  ⟨some 37, .mv (.t 0), none⟩,
  ⟨some 38, .call 24 [(.t 36), (.t 37)], none⟩]
theorem F_law02_LeBackr6_W {T : Tab} {env : Env} {H : Heap} {Q : Post} : W T (.reg F_law02_LeBackr6) env H Q ↔ WR T F_law02_LeBackr6 [
  ⟨some 36, .mv (.t 7), none⟩,
  ⟨some 37, .mv (.t 0), none⟩,
  ⟨some 38, .call 24 [(.t 36), (.t 37)], none⟩] env H none [] Q := w_reg
def F_law02_LeBackr7 : List IStmt := [
  ⟨some 39, .mv (.t 7), none⟩,
  ⟨some 40, .mv (.t 2), none⟩,
  ⟨some 41, .call 26 [(.t 39), (.t 40)], none⟩]
theorem F_law02_LeBackr7_W {T : Tab} {env : Env} {H : Heap} {Q : Post} : W T (.reg F_law02_LeBackr7) env H Q ↔ WR T F_law02_LeBackr7 [
  ⟨some 39, .mv (.t 7), none⟩,
  ⟨some 40, .mv (.t 2), none⟩,
  ⟨some 41, .call 26 [(.t 39), (.t 40)], none⟩] env H none [] Q := w_reg
def F_law02_LeBackr8 : List IStmt := [
  ⟨some 42, .mv (.t 7), none⟩,
  ⟨some 43, .call 28 [(.t 42)], none⟩,
  ⟨some 44, .conv .u64 (.t 43), none⟩,
  ⟨some 8, .mv (.t 44), none⟩]
theorem F_law02_LeBackr8_W {T : Tab} {env : Env} {H : Heap} {Q : Post} : W T (.reg F_law02_LeBackr8) env H Q ↔ WR T F_law02_LeBackr8 [
  ⟨some 42, .mv (.t 7), none⟩,
  ⟨some 43, .call 28 [(.t 42)], none⟩,
  ⟨some 44, .conv .u64 (.t 43), none⟩,
  ⟨some 8, .mv (.t 44), none⟩] env H none [] Q := w_reg
def F_law02_LeBackr9 : List IStmt := [
  ⟨some 45, .mv (.t 7), none⟩,
  ⟨some 46, .mv (.t 1), none⟩,
  ⟨some 47, .call 23 [(.t 45), (.t 46)], none⟩]
theorem F_law02_LeBackr9_W {T : Tab} {env : Env} {H : Heap} {Q : Post} : W T (.reg F_law02_LeBackr9) env H Q ↔ WR T F_law02_LeBackr9 [
  ⟨some 45, .mv (.t 7), none⟩,
  ⟨some 46, .mv (.t 1), none⟩,
  ⟨some 47, .call 23 [(.t 45), (.t 46)], none⟩] env H none [] Q := w_reg
def F_law02_LeBackr10 : List IStmt := [
  ⟨some 48, .mv (.t 7), none⟩,
  ⟨some 49, .mv (.t 1), none⟩,
  ⟨some 50, .conv .u32 (.t 49), none⟩,
  ⟨some 51, .call 22 [(.t 48), (.t 50)], none⟩]
theorem F_law02_LeBackr10_W {T : Tab} {env : Env} {H : Heap} {Q : Post} : W T (.reg F_law02_LeBackr10) env H Q ↔ WR T F_law02_LeBackr10 [
  ⟨some 48, .mv (.t 7), none⟩,
  ⟨some 49, .mv (.t 1), none⟩,
  ⟨some 50, .conv .u32 (.t 49), none⟩,
  ⟨some 51, .call 22 [(.t 48), (.t 50)], none⟩] env H none [] Q := w_reg
def F_law02_LeBackr11 : List IStmt := [
  ⟨some 52, .mv (.t 7), none⟩,
  ⟨some 53, .mv (.t 1), none⟩,
  ⟨some 54, .conv .u16 (.t 53), none⟩,
  ⟨some 55, .call 21 [(.t 52), (.t 54)], none⟩]
theorem F_law02_LeBackr11_W {T : Tab} {env : Env} {H : Heap} {Q : Post} : W T (.reg F_law02_LeBackr11) env H Q ↔ WR T F_law02_LeBackr11 [
  ⟨some 52, .mv (.t 7), none⟩,
  ⟨some 53, .mv (.t 1), none⟩,
  ⟨some 54, .conv .u16 (.t 53), none⟩,
  ⟨some 55, .call 21 [(.t 52), (.t 54)], none⟩] env H none [] Q := w_reg
def F_law02_LeBackr12 : List IStmt := [
  ⟨some 56, .mv (.t 7), none⟩,
  ⟨some 57, .mv (.t 0), none⟩,
  ⟨some 58, .call 24 [(.t 56), (.t 57)], none⟩]
theorem F_law02_LeBackr12_W {T : Tab} {env : Env} {H : Heap} {Q : Post} : W T (.reg F_law02_LeBackr12) env H Q ↔ WR T F_law02_LeBackr12 [
  ⟨some 56, .mv (.t 7), none⟩,
  ⟨some 57, .mv (.t 0), none⟩,
  ⟨some 58, .call 24 [(.t 56), (.t 57)], none⟩] env H none [] Q := w_reg
def F_law02_LeBackr13 : List IStmt := [
  ⟨some 59, .mv (.t 7), none⟩,
  ⟨some 60, .callf 27 [(.t 59)], none⟩,
  ⟨some 9, .mv (.t 60), none⟩]
theorem F_law02_LeBackr13_W {T : Tab} {env : Env} {H : Heap} {Q : Post} : W T (.reg F_law02_LeBackr13) env H Q ↔ WR T F_law02_LeBackr13 [
  ⟨some 59, .mv (.t 7), none⟩,
  ⟨some 60, .callf 27 [(.t 59)], none⟩,
  ⟨some 9, .mv (.t 60), none⟩] env H none [] Q := w_reg
def F_law02_LeBackr14 : List IStmt := [
  ⟨some 61, .mv (.t 7), none⟩,
  ⟨some 62, .call 27 [(.t 61)], none⟩,
  ⟨some 10, .mv (.t 62), none⟩]
theorem F_law02_LeBackr14_W {T : Tab} {env : Env} {H : Heap} {Q : Post} : W T (.reg F_law02_LeBackr14) env H Q ↔ WR T F_law02_LeBackr14 [
  ⟨some 61, .mv (.t 7), none⟩,
  ⟨some 62, .call 27 [(.t 61)], none⟩,
  ⟨some 10, .mv (.t 62), none⟩] env H none [] Q := w_reg
def F_law02_LeBackr15 : List IStmt := [
  ⟨some 11, .mv (.c (.int .i64 0)), none⟩]
theorem F_law02_LeBackr15_W {T : Tab} {env : Env} {H : Heap} {Q : Post} : W T (.reg F_law02_LeBackr15) env H Q ↔ WR T F_law02_LeBackr15 [
  ⟨some 11, .mv (.c (.int .i64 0)), none⟩] env H none [] Q := w_reg
def F_law02_LeBackr16 : List IStmt := [
  ⟨some 63, .mv (.t 11), none⟩,
  ⟨some 64, .mv (.t 10), none⟩,
  ⟨some 65, .len 1 (.t 64), none⟩,
  ⟨some 66, .bin .lss (.t 63) (.t 65), none⟩]
theorem F_law02_LeBackr16_W {T : Tab} {env : Env} {H : Heap} {Q : Post} : W T (.reg F_law02_LeBackr16) env H Q ↔ WR T F_law02_LeBackr16 [
  ⟨some 63, .mv (.t 11), none⟩,
  ⟨some 64, .mv (.t 10), none⟩,
  ⟨some 65, .len 1 (.t 64), none⟩,
  ⟨some 66, .bin .lss (.t 63) (.t 65), none⟩] env H none [] Q := w_reg
def F_law02_LeBackr18 : List IStmt := [
  ⟨some 69, .mv (.t 10), none⟩,
  ⟨some 70, .mv (.t 11), none⟩,
  ⟨some 71, .mv (.t 10), none⟩,
  ⟨some 72, .mv (.t 11), none⟩,
  ⟨some 73, .ixa 1 (.t 71) (.t 72), none⟩,
  ⟨some 74, .load (.t 73), none⟩,
  ⟨some 75, .bin .xor (.t 74) (.c (.int .u8 255)), none⟩,
  ⟨some 76, .ixa 1 (.t 69) (.t 70), none⟩,
  ⟨none, .store 1 (.t 76) (.t 75), none⟩]
theorem F_law02_LeBackr18_W {T : Tab} {env : Env} {H : Heap} {Q : Post} : W T (.reg F_law02_LeBackr18) env H Q ↔ WR T F_law02_LeBackr18 [
  ⟨some 69, .mv (.t 10), none⟩,
  ⟨some 70, .mv (.t 11), none⟩,
  ⟨some 71, .mv (.t 10), none⟩,
  ⟨some 72, .mv (.t 11), none⟩,
  ⟨some 73, .ixa 1 (.t 71) (.t 72), none⟩,
  ⟨some 74, .load (.t 73), none⟩,
  ⟨some 75, .bin .xor (.t 74) (.c (.int .u8 255)), none⟩,
  ⟨some 76, .ixa 1 (.t 69) (.t 70), none⟩,
  ⟨none, .store 1 (.t 76) (.t 75), none⟩] env H none [] Q := w_reg
def F_law02_LeBackr17 : List IStmt := [
  ⟨some 67, .mv (.t 11), none⟩,
  ⟨some 68, .bin .add (.t 67) (.c (.int .i64 1)), none⟩,
  ⟨some 11, .mv (.t 68), none⟩]
theorem F_law02_LeBackr17_W {T : Tab} {env : Env} {H : Heap} {Q : Post} : W T (.reg F_law02_LeBackr17) env H Q ↔ WR T F_law02_LeBackr17 [
  ⟨some 67, .mv (.t 11), none⟩,
  ⟨some 68, .bin .add (.t 67) (.c (.int .i64 1)), none⟩,
  ⟨some 11, .mv (.t 68), none⟩] env H none [] Q := w_reg
def F_law02_LeBackl0 : ICode := (.seq (.seq (.reg F_law02_LeBackr16) (.cond (.t 66) .skip (.exit 0))) (.seq (.block 1 (.reg F_law02_LeBackr18)) (.reg F_law02_LeBackr17)))
theorem F_law02_LeBackl0_W {T : Tab} {env : Env} {H : Heap} {Q : Post} : W T F_law02_LeBackl0 env H Q ↔ W T (.seq (.seq (.reg F_law02_LeBackr16) (.cond (.t 66) .skip (.exit 0))) (.seq (.block 1 (.reg F_law02_LeBackr18)) (.reg F_law02_LeBackr17))) env H Q := Iff.rfl
def F_law02_LeBackr19 : List IStmt := [
  ⟨some 78, .mv (.t 9), none⟩,
  ⟨some 79, .mv (.t 8), none⟩,
  ⟨some 80, .callc 35 [(.t 78), (.t 79)], none⟩,
  ⟨some 77, .mv (.t 80), none⟩,
  ⟨some 81, .ext (.t 77) 0, none⟩,
  ⟨some 82, .ext (.t 77) 1, none⟩,
  ⟨some 12, .mv (.t 81), none⟩,
  ⟨some 13, .mv (.t 82), none⟩]
theorem F_law02_LeBackr19_W {T : Tab} {env : Env} {H : Heap} {Q : Post} : W T (.reg F_law02_LeBackr19) env H Q ↔ WR T F_law02_LeBackr19 [
  ⟨some 78, .mv (.t 9), none⟩,
  ⟨some 79, .mv (.t 8), none⟩,
  ⟨some 80, .callc 35 [(.t 78), (.t 79)], none⟩,
  ⟨some 77, .mv (.t 80), none⟩,
  ⟨some 81, .ext (.t 77) 0, none⟩,
  ⟨some 82, .ext (.t 77) 1, none⟩,
  ⟨some 12, .mv (.t 81), none⟩,
  ⟨some 13, .mv (.t 82), none⟩] env H none [] Q := w_reg
def F_law02_LeBackr20 : List IStmt := [
  ⟨some 84, .mv (.t 9), none⟩,
  ⟨some 85, .mv (.t 8), none⟩,
  ⟨some 86, .bin .add (.t 85) (.c (.int .u64 8)), none⟩,
  ⟨some 87, .callc 34 [(.t 84), (.t 86)], none⟩,
  ⟨some 83, .mv (.t 87), none⟩,
  ⟨some 88, .ext (.t 83) 0, none⟩,
  ⟨some 89, .ext (.t 83) 1, none⟩,
  ⟨some 14, .mv (.t 88), none⟩,
  ⟨some 15, .mv (.t 89), none⟩]
theorem F_law02_LeBackr20_W {T : Tab} {env : Env} {H : Heap} {Q : Post} : W T (.reg F_law02_LeBackr20) env H Q ↔ WR T F_law02_LeBackr20 [
  ⟨some 84, .mv (.t 9), none⟩,
  ⟨some 85, .mv (.t 8), none⟩,
  ⟨some 86, .bin .add (.t 85) (.c (.int .u64 8)), none⟩,
  ⟨some 87, .callc 34 [(.t 84), (.t 86)], none⟩,
  ⟨some 83, .mv (.t 87), none⟩,
  ⟨some 88, .ext (.t 83) 0, none⟩,
  ⟨some 89, .ext (.t 83) 1, none⟩,
  ⟨some 14, .mv (.t 88), none⟩,
  ⟨some 15, .mv (.t 89), none⟩] env H none [] Q := w_reg
def F_law02_LeBackr21 : List IStmt := [
  ⟨some 91, .mv (.t 9), none⟩,
  ⟨some 92, .mv (.t 8), none⟩,
  ⟨some 93, .bin .add (.t 92) (.c (.int .u64 12)), none⟩,
  ⟨some 94, .callc 33 [(.t 91), (.t 93)], none⟩,
  ⟨some 90, .mv (.t 94), none⟩,
  ⟨some 95, .ext (.t 90) 0, none⟩,
  ⟨some 96, .ext (.t 90) 1, none⟩,
  ⟨some 16, .mv (.t 95), none⟩,
  ⟨some 17, .mv (.t 96), none⟩]
theorem F_law02_LeBackr21_W {T : Tab} {env : Env} {H : Heap} {Q : Post} : W T (.reg F_law02_LeBackr21) env H Q ↔ WR T F_law02_LeBackr21 [
  ⟨some 91, .mv (.t 9), none⟩,
  ⟨some 92, .mv (.t 8), none⟩,
  ⟨some 93, .bin .add (.t 92) (.c (.int .u64 12)), none⟩,
  ⟨some 94, .callc 33 [(.t 91), (.t 93)], none⟩,
  ⟨some 90, .mv (.t 94), none⟩,
  ⟨some 95, .ext (.t 90) 0, none⟩,
  ⟨some 96, .ext (.t 90) 1, none⟩,
  ⟨some 16, .mv (.t 95), none⟩,
  ⟨some 17, .mv (.t 96), none⟩] env H none [] Q := w_reg
def F_law02_LeBackr22 : List IStmt := [
  ⟨some 98, .mv (.t 9), none⟩,
  ⟨some 99, .mv (.t 0), none⟩,
  ⟨some 100, .len 1 (.t 99), none⟩,
  ⟨some 101, .conv .u64 (.t 100), none⟩,
  ⟨some 102, .callc 36 [(.t 98), (.c (.int .u64 0)), (.t 101)], none⟩,
  ⟨some 97, .mv (.t 102), none⟩,
  ⟨some 103, .ext (.t 97) 0, none⟩,
  ⟨some 104, .ext (.t 97) 1, none⟩,
  ⟨some 18, .mv (.t 103), none⟩,
  ⟨some 19, .mv (.t 104), none⟩]
theorem F_law02_LeBackr22_W {T : Tab} {env : Env} {H : Heap} {Q : Post} : W T (.reg F_law02_LeBackr22) env H Q ↔ WR T F_law02_LeBackr22 [
  ⟨some 98, .mv (.t 9), none⟩,
  ⟨some 99, .mv (.t 0), none⟩,
  ⟨some 100, .len 1 (.t 99), none⟩,
  ⟨some 101, .conv .u64 (.t 100), none⟩,
  ⟨some 102, .callc 36 [(.t 98), (.c (.int .u64 0)), (.t 101)], none⟩,
  ⟨some 97, .mv (.t 102), none⟩,
  ⟨some 103, .ext (.t 97) 0, none⟩,
  ⟨some 104, .ext (.t 97) 1, none⟩,
  ⟨some 18, .mv (.t 103), none⟩,
  ⟨some 19, .mv (.t 104), none⟩] env H none [] Q := w_reg
def F_law02_LeBackr23 : List IStmt := [
  ⟨some 105, .mv (.t 13), none⟩,
  ⟨some 106, .bin .eql (.t 105) (.c (.int .i64 0)), none⟩,
  ⟨some 107, .mv (.t 106), none⟩,
  ⟨some 108, .mv (.t 12), some (2, true)⟩,
  ⟨some 109, .mv (.t 1), some (2, true)⟩,
  ⟨some 110, .bin .eql (.t 108) (.t 109), some (2, true)⟩,
  ⟨some 111, .pick (.t 107) (.t 110) (.c (.bool false)), none⟩,
  ⟨some 112, .mv (.t 111), none⟩,
  ⟨some 113, .mv (.t 15), some (7, true)⟩,
  ⟨some 114, .bin .eql (.t 113) (.c (.int .i64 0)), some (7, true)⟩,
  ⟨some 115, .pick (.t 112) (.t 114) (.c (.bool false)), none⟩,
  ⟨some 116, .mv (.t 115), none⟩,
  ⟨some 117, .mv (.t 14), some (11, true)⟩,
  ⟨some 118, .mv (.t 1), some (11, true)⟩,
  ⟨some 119, .conv .u32 (.t 118), some (11, true)⟩,
  ⟨some 120, .bin .eql (.t 117) (.t 119), some (11, true)⟩,
  ⟨some 121, .pick (.t 116) (.t 120) (.c (.bool false)), none⟩,
  ⟨some 122, .mv (.t 121), none⟩,
  ⟨some 123, .mv (.t 17), some (17, true)⟩,
  ⟨some 124, .bin .eql (.t 123) (.c (.int .i64 0)), some (17, true)⟩,
  ⟨some 125, .pick (.t 122) (.t 124) (.c (.bool false)), none⟩,
  ⟨some 126, .mv (.t 125), none⟩,
  ⟨some 127, .mv (.t 16), some (21, true)⟩,
  ⟨some 128, .mv (.t 1), some (21, true)⟩,
  ⟨some 129, .conv .u16 (.t 128), some (21, true)⟩,
  ⟨some 130, .bin .eql (.t 127) (.t 129), some (21, true)⟩,
  ⟨some 131, .pick (.t 126) (.t 130) (.c (.bool false)), none⟩,
  ⟨some 132, .mv (.t 131), none⟩,
  ⟨some 133, .mv (.t 19), some (27, true)⟩,
  ⟨some 134, .bin .eql (.t 133) (.c (.int .i64 0)), some (27, true)⟩,
  ⟨some 135, .pick (.t 132) (.t 134) (.c (.bool false)), none⟩,
  ⟨some 136, .mv (.t 135), none⟩,
  ⟨some 137, .mv (.t 18), some (31, true)⟩,
  ⟨some 138, .b2s (.t 137), some (31, true)⟩,
  ⟨some 139, .mv (.t 0), some (31, true)⟩,
  ⟨some 140, .b2s (.t 139), some (31, true)⟩,
  ⟨some 141, .bin .eql (.t 138) (.t 140), some (31, true)⟩,
  ⟨some 142, .pick (.t 136) (.t 141) (.c (.bool false)), none⟩,
  ⟨some 143, .mv (.t 142), none⟩,
  ⟨some 144, .mv (.t 7), some (38, true)⟩,
  ⟨some 145, .callf 27 [(.t 144)], some (38, true)⟩,
  ⟨some 146, .b2s (.t 145), some (38, true)⟩,
  ⟨some 147, .mv (.t 9), some (38, true)⟩,
  ⟨some 148, .b2s (.t 147), some (38, true)⟩,
  ⟨some 149, .bin .eql (.t 146) (.t 148), some (38, true)⟩,
  ⟨some 150, .pick (.t 143) (.t 149) (.c (.bool false)), none⟩,
  ⟨some 151, .mv (.t 150), none⟩,
  ⟨some 152, .callc 19 [], some (46, true)⟩,
  ⟨some 153, .pick (.t 151) (.t 152) (.c (.bool false)), none⟩,
  ⟨some 6, .mv (.t 153), none⟩]
theorem F_law02_LeBackr23_g2 {env : Env} : yieldI F_law02_LeBackr23 env 2 = bOf (env 107) := rfl
theorem F_law02_LeBackr23_g7 {env : Env} : yieldI F_law02_LeBackr23 env 7 = bOf (env 112) := rfl
theorem F_law02_LeBackr23_g11 {env : Env} : yieldI F_law02_LeBackr23 env 11 = bOf (env 116) := rfl
theorem F_law02_LeBackr23_g17 {env : Env} : yieldI F_law02_LeBackr23 env 17 = bOf (env 122) := rfl
theorem F_law02_LeBackr23_g21 {env : Env} : yieldI F_law02_LeBackr23 env 21 = bOf (env 126) := rfl
theorem F_law02_LeBackr23_g27 {env : Env} : yieldI F_law02_LeBackr23 env 27 = bOf (env 132) := rfl
theorem F_law02_LeBackr23_g31 {env : Env} : yieldI F_law02_LeBackr23 env 31 = bOf (env 136) := rfl
theorem F_law02_LeBackr23_g38 {env : Env} : yieldI F_law02_LeBackr23 env 38 = bOf (env 143) := rfl
theorem F_law02_LeBackr23_g46 {env : Env} : yieldI F_law02_LeBackr23 env 46 = bOf (env 151) := rfl
theorem F_law02_LeBackr23_W {T : Tab} {env : Env} {H : Heap} {Q : Post} : W T (.dreg F_law02_LeBackr23 [(43, 0)]) env H Q ↔ WR T F_law02_LeBackr23 [
  ⟨some 105, .mv (.t 13), none⟩,
  ⟨some 106, .bin .eql (.t 105) (.c (.int .i64 0)), none⟩,
  ⟨some 107, .mv (.t 106), none⟩,
  ⟨some 108, .mv (.t 12), some (2, true)⟩,
  ⟨some 109, .mv (.t 1), some (2, true)⟩,
  ⟨some 110, .bin .eql (.t 108) (.t 109), some (2, true)⟩,
  ⟨some 111, .pick (.t 107) (.t 110) (.c (.bool false)), none⟩,
  ⟨some 112, .mv (.t 111), none⟩,
  ⟨some 113, .mv (.t 15), some (7, true)⟩,
  ⟨some 114, .bin .eql (.t 113) (.c (.int .i64 0)), some (7, true)⟩,
  ⟨some 115, .pick (.t 112) (.t 114) (.c (.bool false)), none⟩,
  ⟨some 116, .mv (.t 115), none⟩,
  ⟨some 117, .mv (.t 14), some (11, true)⟩,
  ⟨some 118, .mv (.t 1), some (11, true)⟩,
  ⟨some 119, .conv .u32 (.t 118), some (11, true)⟩,
  ⟨some 120, .bin .eql (.t 117) (.t 119), some (11, true)⟩,
  ⟨some 121, .pick (.t 116) (.t 120) (.c (.bool false)), none⟩,
  ⟨some 122, .mv (.t 121), none⟩,
  ⟨some 123, .mv (.t 17), some (17, true)⟩,
  ⟨some 124, .bin .eql (.t 123) (.c (.int .i64 0)), some (17, true)⟩,
  ⟨some 125, .pick (.t 122) (.t 124) (.c (.bool false)), none⟩,
  ⟨some 126, .mv (.t 125), none⟩,
  ⟨some 127, .mv (.t 16), some (21, true)⟩,
  ⟨some 128, .mv (.t 1), some (21, true)⟩,
  ⟨some 129, .conv .u16 (.t 128), some (21, true)⟩,
  ⟨some 130, .bin .eql (.t 127) (.t 129), some (21, true)⟩,
  ⟨some 131, .pick (.t 126) (.t 130) (.c (.bool false)), none⟩,
  ⟨some 132, .mv (.t 131), none⟩,
  ⟨some 133, .mv (.t 19), some (27, true)⟩,
  ⟨some 134, .bin .eql (.t 133) (.c (.int .i64 0)), some (27, true)⟩,
  ⟨some 135, .pick (.t 132) (.t 134) (.c (.bool false)), none⟩,
  ⟨some 136, .mv (.t 135), none⟩,
  ⟨some 137, .mv (.t 18), some (31, true)⟩,
  ⟨some 138, .b2s (.t 137), some (31, true)⟩,
  ⟨some 139, .mv (.t 0), some (31, true)⟩,
  ⟨some 140, .b2s (.t 139), some (31, true)⟩,
  ⟨some 141, .bin .eql (.t 138) (.t 140), some (31, true)⟩,
  ⟨some 142, .pick (.t 136) (.t 141) (.c (.bool false)), none⟩,
  ⟨some 143, .mv (.t 142), none⟩,
  ⟨some 144, .mv (.t 7), some (38, true)⟩,
  ⟨some 145, .callf 27 [(.t 144)], some (38, true)⟩,
  ⟨some 146, .b2s (.t 145), some (38, true)⟩,
  ⟨some 147, .mv (.t 9), some (38, true)⟩,
  ⟨some 148, .b2s (.t 147), some (38, true)⟩,
  ⟨some 149, .bin .eql (.t 146) (.t 148), some (38, true)⟩,
  ⟨some 150, .pick (.t 143) (.t 149) (.c (.bool false)), none⟩,
  ⟨some 151, .mv (.t 150), none⟩,
  ⟨some 152, .callc 19 [], some (46, true)⟩,
  ⟨some 153, .pick (.t 151) (.t 152) (.c (.bool false)), none⟩,
  ⟨some 6, .mv (.t 153), none⟩] env H (some []) [(43, 0)] Q := w_dreg
theorem F_law02_LeBackr23_len : F_law02_LeBackr23.length = 50 := rfl
theorem F_law02_LeBackr23_i43 : F_law02_LeBackr23[43]? = some ⟨some 148, .b2s (.t 147), some (38, true)⟩ := rfl
def F_law02_LeBackc : ICode := (.seq (.reg F_law02_LeBackr0) (.seq (.reg F_law02_LeBackr1) (.seq (.seq (.reg F_law02_LeBackr2) (.cond (.t 27) (.seq (.reg F_law02_LeBackr3) .ret) .skip)) (.seq (.seq (.reg F_law02_LeBackr4) (.cond (.t 35) (.reg F_law02_LeBackr5) .skip)) (.seq (.reg F_law02_LeBackr6) (.seq (.reg F_law02_LeBackr7) (.seq (.reg F_law02_LeBackr8) (.seq (.reg F_law02_LeBackr9) (.seq (.reg F_law02_LeBackr10) (.seq (.reg F_law02_LeBackr11) (.seq (.reg F_law02_LeBackr12) (.seq (.reg F_law02_LeBackr13) (.seq (.reg F_law02_LeBackr14) (.seq (.seq (.reg F_law02_LeBackr15) (.block 0 (.loop F_law02_LeBackl0))) (.seq (.reg F_law02_LeBackr19) (.seq (.reg F_law02_LeBackr20) (.seq (.reg F_law02_LeBackr21) (.seq (.reg F_law02_LeBackr22) (.seq (.dreg F_law02_LeBackr23 [(43, 0)]) .ret)))))))))))))))))))
theorem F_law02_LeBackc_W {T : Tab} {env : Env} {H : Heap} {Q : Post} : W T F_law02_LeBackc env H Q ↔ W T (.seq (.reg F_law02_LeBackr0) (.seq (.reg F_law02_LeBackr1) (.seq (.seq (.reg F_law02_LeBackr2) (.cond (.t 27) (.seq (.reg F_law02_LeBackr3) .ret) .skip)) (.seq (.seq (.reg F_law02_LeBackr4) (.cond (.t 35) (.reg F_law02_LeBackr5) .skip)) (.seq (.reg F_law02_LeBackr6) (.seq (.reg F_law02_LeBackr7) (.seq (.reg F_law02_LeBackr8) (.seq (.reg F_law02_LeBackr9) (.seq (.reg F_law02_LeBackr10) (.seq (.reg F_law02_LeBackr11) (.seq (.reg F_law02_LeBackr12) (.seq (.reg F_law02_LeBackr13) (.seq (.reg F_law02_LeBackr14) (.seq (.seq (.reg F_law02_LeBackr15) (.block 0 (.loop F_law02_LeBackl0))) (.seq (.reg F_law02_LeBackr19) (.seq (.reg F_law02_LeBackr20) (.seq (.reg F_law02_LeBackr21) (.seq (.reg F_law02_LeBackr22) (.seq (.dreg F_law02_LeBackr23 [(43, 0)]) .ret))))))))))))))))))) env H Q := Iff.rfl
def F_law02_LeBack : IFn := ⟨154, [.tmp 6], F_law02_LeBackc⟩
set_option maxRecDepth 1000000 in
theorem F_law02_LeBack_chk : chkF Try.prog 8 F_law02_LeBack = true := by kernel_rfl

/-! ### law02_LeBehind -/
def F_law02_LeBehindr0 : List IStmt := [
  ⟨some 2, .mv (.c (.bool false)), none⟩]
theorem F_law02_LeBehindr0_W {T : Tab} {env : Env} {H : Heap} {Q : Post} : W T (.reg F_law02_LeBehindr0) env H Q ↔ WR T F_law02_LeBehindr0 [
  ⟨some 2, .mv (.c (.bool false)), none⟩] env H none [] Q := w_reg
def F_law02_LeBehindr1 : List IStmt := [
  ⟨some 8, .call 20 [], none⟩,
  ⟨some 3, .mv (.t 8), none⟩]
theorem F_law02_LeBehindr1_W {T : Tab} {env : Env} {H : Heap} {Q : Post} : W T (.reg F_law02_LeBehindr1) env H Q ↔ WR T F_law02_LeBehindr1 [
  ⟨some 8, .call 20 [], none⟩,
  ⟨some 3, .mv (.t 8), none⟩] env H none [] Q := w_reg
def F_law02_LeBehindr2 : List IStmt := [
  ⟨some 9, .mv (.t 3), none⟩,
  ⟨some 10, .eqn 0 false (.t 9) (.c (.pointer none)), none⟩,
  ⟨some 11, .mv (.t 10), none⟩,
  ⟨some 12, .mv (.t 0), some (2, false)⟩,
  ⟨some 13, .len 1 (.t 12), some (2, false)⟩,
  ⟨some 14, .bin .gtr (.t 13) (.c (.int .i64 40)), some (2, false)⟩,
  ⟨some 15, .pick (.t 11) (.c (.bool true)) (.t 14), none⟩]
theorem F_law02_LeBehindr2_W {T : Tab} {env : Env} {H : Heap} {Q : Post} : W T (.reg F_law02_LeBehindr2) env H Q ↔ WR T F_law02_LeBehindr2 [
  ⟨some 9, .mv (.t 3), none⟩,
  ⟨some 10, .eqn 0 false (.t 9) (.c (.pointer none)), none⟩,
  ⟨some 11, .mv (.t 10), none⟩,
  ⟨some 12, .mv (.t 0), some (2, false)⟩,
  ⟨some 13, .len 1 (.t 12), some (2, false)⟩,
  ⟨some 14, .bin .gtr (.t 13) (.c (.int .i64 40)), some (2, false)⟩,
  ⟨some 15, .pick (.t 11) (.c (.bool true)) (.t 14), none⟩] env H none [] Q := w_reg
theorem F_law02_LeBehindr2_g2 {env : Env} : yieldI F_law02_LeBehindr2 env 2 = bOf (env 11) := rfl
def F_law02_LeBehindr3 : List IStmt := [
  ⟨some 16, .mv (.t 3), none⟩,
  ⟨some 17, .eqn 0 true (.t 16) (.c (.pointer none)), none⟩,
  ⟨some 2, .mv (.t 17), none⟩]
theorem F_law02_LeBehindr3_W {T : Tab} {env : Env} {H : Heap} {Q : Post} : W T (.reg F_law02_LeBehindr3) env H Q ↔ WR T F_law02_LeBehindr3 [
  ⟨some 16, .mv (.t 3), none⟩,
  ⟨some 17, .eqn 0 true (.t 16) (.c (.pointer none)), none⟩,
  ⟨some 2, .mv (.t 17), none⟩] env H none [] Q := w_reg
def F_law02_LeBehindr4 : List IStmt := [
  ⟨some 4, .mv (.c (.string ⟨#[]⟩)), none⟩]
theorem F_law02_LeBehindr4_W {T : Tab} {env : Env} {H : Heap} {Q : Post} : W T (.reg F_law02_LeBehindr4) env H Q ↔ WR T F_law02_LeBehindr4 [
  ⟨some 4, .mv (.c (.string ⟨#[]⟩)), none⟩] env H none [] Q := w_reg
def F_law02_LeBehindr5 : List IStmt := [
  ⟨some 5, .mv (.c (.int .i64 0)), none⟩]
theorem F_law02_LeBehindr5_W {T : Tab} {env : Env} {H : Heap} {Q : Post} : W T (.reg F_law02_LeBehindr5) env H Q ↔ WR T F_law02_LeBehindr5 [
  ⟨some 5, .mv (.c (.int .i64 0)), none⟩] env H none [] Q := w_reg
def F_law02_LeBehindr6 : List IStmt := [
  ⟨some 18, .mv (.t 5), none⟩,
  ⟨some 19, .mv (.t 0), none⟩,
  ⟨some 20, .len 1 (.t 19), none⟩,
  ⟨some 21, .bin .lss (.t 18) (.t 20), none⟩]
theorem F_law02_LeBehindr6_W {T : Tab} {env : Env} {H : Heap} {Q : Post} : W T (.reg F_law02_LeBehindr6) env H Q ↔ WR T F_law02_LeBehindr6 [
  ⟨some 18, .mv (.t 5), none⟩,
  ⟨some 19, .mv (.t 0), none⟩,
  ⟨some 20, .len 1 (.t 19), none⟩,
  ⟨some 21, .bin .lss (.t 18) (.t 20), none⟩] env H none [] Q := w_reg
def F_law02_LeBehindr8 : List IStmt := [
  ⟨some 24, .mv (.t 0), none⟩,
  ⟨some 25, .mv (.t 5), none⟩,
  ⟨some 26, .ixa 4 (.t 24) (.t 25), none⟩,
  ⟨some 27, .loadN 4 (.t 26), none⟩,
  ⟨some 6, .alloc 4 [.int .i64 0, .int .i64 0, .int .u64 0, .slice none 0 0], none⟩,
  ⟨none, .store 4 (.t 6) (.t 27), none⟩]
theorem F_law02_LeBehindr8_W {T : Tab} {env : Env} {H : Heap} {Q : Post} : W T (.reg F_law02_LeBehindr8) env H Q ↔ WR T F_law02_LeBehindr8 [
  ⟨some 24, .mv (.t 0), none⟩,
  ⟨some 25, .mv (.t 5), none⟩,
  ⟨some 26, .ixa 4 (.t 24) (.t 25), none⟩,
  ⟨some 27, .loadN 4 (.t 26), none⟩,
  ⟨some 6, .alloc 4 [.int .i64 0, .int .i64 0, .int .u64 0, .slice none 0 0], none⟩,
  ⟨none, .store 4 (.t 6) (.t 27), none⟩] env H none [] Q := w_reg
def F_law02_LeBehindr9 : List IStmt := [
  ⟨some 28, .fa 3 (.t 6), none⟩,
  ⟨some 29, .load (.t 28), none⟩,
  ⟨some 30, .len 1 (.t 29), none⟩,
  ⟨some 31, .bin .gtr (.t 30) (.c (.int .i64 256)), none⟩,
  ⟨some 32, .mv (.t 31), none⟩,
  ⟨some 33, .fa 1 (.t 6), some (4, false)⟩,
  ⟨some 34, .load (.t 33), some (4, false)⟩,
  ⟨some 35, .bin .gtr (.t 34) (.c (.int .i64 4096)), some (4, false)⟩,
  ⟨some 36, .pick (.t 32) (.c (.bool true)) (.t 35), none⟩]
theorem F_law02_LeBehindr9_W {T : Tab} {env : Env} {H : Heap} {Q : Post} : W T (.reg F_law02_LeBehindr9) env H Q ↔ WR T F_law02_LeBehindr9 [
  ⟨some 28, .fa 3 (.t 6), none⟩,
  ⟨some 29, .load (.t 28), none⟩,
  ⟨some 30, .len 1 (.t 29), none⟩,
  ⟨some 31, .bin .gtr (.t 30) (.c (.int .i64 256)), none⟩,
  ⟨some 32, .mv (.t 31), none⟩,
  ⟨some 33, .fa 1 (.t 6), some (4, false)⟩,
  ⟨some 34, .load (.t 33), some (4, false)⟩,
  ⟨some 35, .bin .gtr (.t 34) (.c (.int .i64 4096)), some (4, false)⟩,
  ⟨some 36, .pick (.t 32) (.c (.bool true)) (.t 35), none⟩] env H none [] Q := w_reg
theorem F_law02_LeBehindr9_g4 {env : Env} : yieldI F_law02_LeBehindr9 env 4 = bOf (env 32) := rfl
def F_law02_LeBehindr10 : List IStmt := [
  ⟨some 2, .mv (.c (.bool true)), none⟩]
theorem F_law02_LeBehindr10_W {T : Tab} {env : Env} {H : Heap} {Q : Post} : W T (.reg F_law02_LeBehindr10) env H Q ↔ WR T F_law02_LeBehindr10 [
  ⟨some 2, .mv (.c (.bool true)), none⟩] env H none [] Q := w_reg
def F_law02_LeBehindr11 : List IStmt := [
  ⟨some 37, .fa 0 (.t 6), none⟩,
  ⟨some 38, .load (.t 37), none⟩,
  ⟨some 39, .bin .rem (.t 38) (.c (.int .i64 6)), none⟩,
  ⟨some 40, .bin .add (.t 39) (.c (.int .i64 6)), none⟩,
  ⟨some 41, .bin .rem (.t 40) (.c (.int .i64 6)), none⟩]
theorem F_law02_LeBehindr11_W {T : Tab} {env : Env} {H : Heap} {Q : Post} : W T (.reg F_law02_LeBehindr11) env H Q ↔ WR T F_law02_LeBehindr11 [
  ⟨some 37, .fa 0 (.t 6), none⟩,
  ⟨some 38, .load (.t 37), none⟩,
  ⟨some 39, .bin .rem (.t 38) (.c (.int .i64 6)), none⟩,
  ⟨some 40, .bin .add (.t 39) (.c (.int .i64 6)), none⟩,
  ⟨some 41, .bin .rem (.t 40) (.c (.int .i64 6)), none⟩] env H none [] Q := w_reg
def F_law02_LeBehindr13 : List IStmt := [
  ⟨some 47, .bin .eql (.t 41) (.c (.int .i64 0)), none⟩,
  ⟨some 46, .mv (.t 47), none⟩]
theorem F_law02_LeBehindr13_W {T : Tab} {env : Env} {H : Heap} {Q : Post} : W T (.reg F_law02_LeBehindr13) env H Q ↔ WR T F_law02_LeBehindr13 [
  ⟨some 47, .bin .eql (.t 41) (.c (.int .i64 0)), none⟩,
  ⟨some 46, .mv (.t 47), none⟩] env H none [] Q := w_reg
def F_law02_LeBehindr14 : List IStmt := [
  ⟨some 48, .mv (.t 3), none⟩,
  ⟨some 49, .fa 2 (.t 6), none⟩,
  ⟨some 50, .load (.t 49), none⟩,
  ⟨some 51, .conv .u16 (.t 50), none⟩,
  ⟨some 52, .call 21 [(.t 48), (.t 51)], none⟩]
theorem F_law02_LeBehindr14_W {T : Tab} {env : Env} {H : Heap} {Q : Post} : W T (.reg F_law02_LeBehindr14) env H Q ↔ WR T F_law02_LeBehindr14 [
  ⟨some 48, .mv (.t 3), none⟩,
  ⟨some 49, .fa 2 (.t 6), none⟩,
  ⟨some 50, .load (.t 49), none⟩,
  ⟨some 51, .conv .u16 (.t 50), none⟩,
  ⟨some 52, .call 21 [(.t 48), (.t 51)], none⟩] env H none [] Q := w_reg
def F_law02_LeBehindr15 : List IStmt := [
  ⟨some 54, .bin .eql (.t 41) (.c (.int .i64 1)), none⟩,
  ⟨some 53, .mv (.t 54), none⟩]
theorem F_law02_LeBehindr15_W {T : Tab} {env : Env} {H : Heap} {Q : Post} : W T (.reg F_law02_LeBehindr15) env H Q ↔ WR T F_law02_LeBehindr15 [
  ⟨some 54, .bin .eql (.t 41) (.c (.int .i64 1)), none⟩,
  ⟨some 53, .mv (.t 54), none⟩] env H none [] Q := w_reg
def F_law02_LeBehindr16 : List IStmt := [
  ⟨some 55, .mv (.t 3), none⟩,
  ⟨some 56, .fa 2 (.t 6), none⟩,
  ⟨some 57, .load (.t 56), none⟩,
  ⟨some 58, .conv .u32 (.t 57), none⟩,
  ⟨some 59, .call 22 [(.t 55), (.t 58)], none⟩]
theorem F_law02_LeBehindr16_W {T : Tab} {env : Env} {H : Heap} {Q : Post} : W T (.reg F_law02_LeBehindr16) env H Q ↔ WR T F_law02_LeBehindr16 [
  ⟨some 55, .mv (.t 3), none⟩,
  ⟨some 56, .fa 2 (.t 6), none⟩,
  ⟨some 57, .load (.t 56), none⟩,
  ⟨some 58, .conv .u32 (.t 57), none⟩,
  ⟨some 59, .call 22 [(.t 55), (.t 58)], none⟩] env H none [] Q := w_reg
def F_law02_LeBehindr17 : List IStmt := [
  ⟨some 61, .bin .eql (.t 41) (.c (.int .i64 2)), none⟩,
  ⟨some 60, .mv (.t 61), none⟩]
theorem F_law02_LeBehindr17_W {T : Tab} {env : Env} {H : Heap} {Q : Post} : W T (.reg F_law02_LeBehindr17) env H Q ↔ WR T F_law02_LeBehindr17 [
  ⟨some 61, .bin .eql (.t 41) (.c (.int .i64 2)), none⟩,
  ⟨some 60, .mv (.t 61), none⟩] env H none [] Q := w_reg
def F_law02_LeBehindr18 : List IStmt := [
  ⟨some 62, .mv (.t 3), none⟩,
  ⟨some 63, .fa 2 (.t 6), none⟩,
  ⟨some 64, .load (.t 63), none⟩,
  ⟨some 65, .call 23 [(.t 62), (.t 64)], none⟩]
theorem F_law02_LeBehindr18_W {T : Tab} {env : Env} {H : Heap} {Q : Post} : W T (.reg F_law02_LeBehindr18) env H Q ↔ WR T F_law02_LeBehindr18 [
  ⟨some 62, .mv (.t 3), none⟩,
  ⟨some 63, .fa 2 (.t 6), none⟩,
  ⟨some 64, .load (.t 63), none⟩,
  ⟨some 65, .call 23 [(.t 62), (.t 64)], none⟩] env H none [] Q := w_reg
def F_law02_LeBehindr19 : List IStmt := [
  ⟨some 67, .bin .eql (.t 41) (.c (.int .i64 3)), none⟩,
  ⟨some 66, .mv (.t 67), none⟩]
theorem F_law02_LeBehindr19_W {T : Tab} {env : Env} {H : Heap} {Q : Post} : W T (.reg F_law02_LeBehindr19) env H Q ↔ WR T F_law02_LeBehindr19 [
  ⟨some 67, .bin .eql (.t 41) (.c (.int .i64 3)), none⟩,
  ⟨some 66, .mv (.t 67), none⟩] env H none [] Q := w_reg
def F_law02_LeBehindr20 : List IStmt := [
  ⟨some 68, .mv (.t 3), none⟩,
  ⟨some 69, .fa 3 (.t 6), none⟩,
  ⟨some 70, .load (.t 69), none⟩,
  ⟨some 71, .call 24 [(.t 68), (.t 70)], none⟩]
theorem F_law02_LeBehindr20_W {T : Tab} {env : Env} {H : Heap} {Q : Post} : W T (.reg F_law02_LeBehindr20) env H Q ↔ WR T F_law02_LeBehindr20 [
  ⟨some 68, .mv (.t 3), none⟩,
  ⟨some 69, .fa 3 (.t 6), none⟩,
  ⟨some 70, .load (.t 69), none⟩,
  ⟨some 71, .call 24 [(.t 68), (.t 70)], none⟩] env H none [] Q := w_reg
def F_law02_LeBehindr21 : List IStmt := [
  ⟨some 73, .bin .eql (.t 41) (.c (.int .i64 4)), none⟩,
  ⟨some 72, .mv (.t 73), none⟩]
theorem F_law02_LeBehindr21_W {T : Tab} {env : Env} {H : Heap} {Q : Post} : W T (.reg F_law02_LeBehindr21) env H Q ↔ WR T F_law02_LeBehindr21 [
  ⟨some 73, .bin .eql (.t 41) (.c (.int .i64 4)), none⟩,
  ⟨some 72, .mv (.t 73), none⟩] env H none [] Q := w_reg
def F_law02_LeBehindr22 : List IStmt := [
  ⟨some 74, .mv (.t 3), none⟩,
  ⟨some 75, .fa 1 (.t 6), none⟩,
  ⟨some 76, .load (.t 75), none⟩,
  ⟨some 77, .call 25 [(.t 74), (.t 76)], none⟩]
theorem F_law02_LeBehindr22_W {T : Tab} {env : Env} {H : Heap} {Q : Post} : W T (.reg F_law02_LeBehindr22) env H Q ↔ WR T F_law02_LeBehindr22 [
  ⟨some 74, .mv (.t 3), none⟩,
  ⟨some 75, .fa 1 (.t 6), none⟩,
  ⟨some 76, .load (.t 75), none⟩,
  ⟨some 77, .call 25 [(.t 74), (.t 76)], none⟩] env H none [] Q := w_reg
def F_law02_LeBehindr12 : List IStmt := [
  ⟨some 42, .mv (.t 3), none⟩,
  ⟨some 43, .fa 1 (.t 6), none⟩,
  ⟨some 44, .load (.t 43), none⟩,
  ⟨some 45, .call 26 [(.t 42), (.t 44)], none⟩]
theorem F_law02_LeBehindr12_W {T : Tab} {env : Env} {H : Heap} {Q : Post} : W T (.reg F_law02_LeBehindr12) env H Q ↔ WR T F_law02_LeBehindr12 [
  ⟨some 42, .mv (.t 3), none⟩,
  ⟨some 43, .fa 1 (.t 6), none⟩,
  ⟨some 44, .load (.t 43), none⟩,
  ⟨some 45, .call 26 [(.t 42), (.t 44)], none⟩] env H none [] Q := w_reg
def F_law02_LeBehindr23 : List IStmt := [
  ⟨some 78, .mv (.t 3), none⟩,
  ⟨some 79, .callf 27 [(.t 78)], none⟩,
  ⟨some 80, .b2s (.t 79), none⟩,
  ⟨some 7, .mv (.t 80), none⟩]
theorem F_law02_LeBehindr23_W {T : Tab} {env : Env} {H : Heap} {Q : Post} : W T (.reg F_law02_LeBehindr23) env H Q ↔ WR T F_law02_LeBehindr23 [
  ⟨some 78, .mv (.t 3), none⟩,
  ⟨some 79, .callf 27 [(.t 78)], none⟩,
  ⟨some 80, .b2s (.t 79), none⟩,
  ⟨some 7, .mv (.t 80), none⟩] env H none [] Q := w_reg
def F_law02_LeBehindr24 : List IStmt := [
  ⟨some 81, .mv (.t 7), none⟩,
  ⟨some 82, .len 0 (.t 81), none⟩,
  ⟨some 83, .mv (.t 4), none⟩,
  ⟨some 84, .len 0 (.t 83), none⟩,
  ⟨some 85, .bin .lss (.t 82) (.t 84), none⟩,
  ⟨some 86, .mv (.t 85), none⟩,
  ⟨some 87, .mv (.t 7), some (5, false)⟩,
  ⟨some 88, .mv (.t 4), some (5, false)⟩,
  ⟨some 89, .len 0 (.t 88), some (5, false)⟩,
  ⟨some 90, .sls (.t 87) none (some (.t 89)), some (5, false)⟩,
  ⟨some 91, .mv (.t 4), some (5, false)⟩,
  ⟨some 92, .bin .neq (.t 90) (.t 91), some (5, false)⟩,
  ⟨some 93, .pick (.t 86) (.c (.bool true)) (.t 92), none⟩,
  ⟨some 94, .mv (.t 93), none⟩,
  ⟨some 95, .mv (.t 3), some (13, false)⟩,
  ⟨some 96, .call 28 [(.t 95)], some (13, false)⟩,
  ⟨some 97, .mv (.t 7), some (13, false)⟩,
  ⟨some 98, .len 0 (.t 97), some (13, false)⟩,
  ⟨some 99, .bin .neq (.t 96) (.t 98), some (13, false)⟩,
  ⟨some 100, .pick (.t 94) (.c (.bool true)) (.t 99), none⟩]
theorem F_law02_LeBehindr24_W {T : Tab} {env : Env} {H : Heap} {Q : Post} : W T (.reg F_law02_LeBehindr24) env H Q ↔ WR T F_law02_LeBehindr24 [
  ⟨some 81, .mv (.t 7), none⟩,
  ⟨some 82, .len 0 (.t 81), none⟩,
  ⟨some 83, .mv (.t 4), none⟩,
  ⟨some 84, .len 0 (.t 83), none⟩,
  ⟨some 85, .bin .lss (.t 82) (.t 84), none⟩,
  ⟨some 86, .mv (.t 85), none⟩,
  ⟨some 87, .mv (.t 7), some (5, false)⟩,
  ⟨some 88, .mv (.t 4), some (5, false)⟩,
  ⟨some 89, .len 0 (.t 88), some (5, false)⟩,
  ⟨some 90, .sls (.t 87) none (some (.t 89)), some (5, false)⟩,
  ⟨some 91, .mv (.t 4), some (5, false)⟩,
  ⟨some 92, .bin .neq (.t 90) (.t 91), some (5, false)⟩,
  ⟨some 93, .pick (.t 86) (.c (.bool true)) (.t 92), none⟩,
  ⟨some 94, .mv (.t 93), none⟩,
  ⟨some 95, .mv (.t 3), some (13, false)⟩,
  ⟨some 96, .call 28 [(.t 95)], some (13, false)⟩,
  ⟨some 97, .mv (.t 7), some (13, false)⟩,
  ⟨some 98, .len 0 (.t 97), some (13, false)⟩,
  ⟨some 99, .bin .neq (.t 96) (.t 98), some (13, false)⟩,
  ⟨some 100, .pick (.t 94) (.c (.bool true)) (.t 99), none⟩] env H none [] Q := w_reg
theorem F_law02_LeBehindr24_g5 {env : Env} : yieldI F_law02_LeBehindr24 env 5 = bOf (env 86) := rfl
theorem F_law02_LeBehindr24_g13 {env : Env} : yieldI F_law02_LeBehindr24 env 13 = bOf (env 94) := rfl
def F_law02_LeBehindr25 : List IStmt := [
  ⟨some 2, .mv (.c (.bool false)), none⟩]
theorem F_law02_LeBehindr25_W {T : Tab} {env : Env} {H : Heap} {Q : Post} : W T (.reg F_law02_LeBehindr25) env H Q ↔ WR T F_law02_LeBehindr25 [
  ⟨some 2, .mv (.c (.bool false)), none⟩] env H none [] Q := w_reg
def F_law02_LeBehindr26 : List IStmt := [
  ⟨some 101, .mv (.t 7), none⟩,
  ⟨some 4, .mv (.t 101), none⟩]
theorem F_law02_LeBehindr26_W {T : Tab} {env : Env} {H : Heap} {Q : Post} : W T (.reg F_law02_LeBehindr26) env H Q ↔ WR T F_law02_LeBehindr26 [
  ⟨some 101, .mv (.t 7), none⟩,
  ⟨some 4, .mv (.t 101), none⟩] env H none [] Q := w_reg
def F_law02_LeBehindr7 : List IStmt := [
  ⟨some 22, .mv (.t 5), none⟩,
  ⟨some 23, .bin .add (.t 22) (.c (.int .i64 1)), none⟩,
  ⟨some 5, .mv (.t 23), none⟩]
theorem F_law02_LeBehindr7_W {T : Tab} {env : Env} {H : Heap} {Q : Post} : W T (.reg F_law02_LeBehindr7) env H Q ↔ WR T F_law02_LeBehindr7 [
  ⟨some 22, .mv (.t 5), none⟩,
  ⟨some 23, .bin .add (.t 22) (.c (.int .i64 1)), none⟩,
  ⟨some 5, .mv (.t 23), none⟩] env H none [] Q := w_reg
def F_law02_LeBehindl0 : ICode := (.seq (.seq (.reg F_law02_LeBehindr6) (.cond (.t 21) .skip (.exit 0))) (.seq (.block 1 (.seq (.reg F_law02_LeBehindr8) (.seq (.seq (.reg F_law02_LeBehindr9) (.cond (.t 36) (.seq (.reg F_law02_LeBehindr10) .ret) .skip)) (.seq (.seq (.reg F_law02_LeBehindr11) (.block 2 (.seq (.reg F_law02_LeBehindr13) (.cond (.t 46) (.reg F_law02_LeBehindr14) (.seq (.reg F_law02_LeBehindr15) (.cond (.t 53) (.reg F_law02_LeBehindr16) (.seq (.reg F_law02_LeBehindr17) (.cond (.t 60) (.reg F_law02_LeBehindr18) (.seq (.reg F_law02_LeBehindr19) (.cond (.t 66) (.reg F_law02_LeBehindr20) (.seq (.reg F_law02_LeBehindr21) (.cond (.t 72) (.reg F_law02_LeBehindr22) (.reg F_law02_LeBehindr12))))))))))))) (.seq (.reg F_law02_LeBehindr23) (.seq (.seq (.reg F_law02_LeBehindr24) (.cond (.t 100) (.seq (.reg F_law02_LeBehindr25) .ret) .skip)) (.reg F_law02_LeBehindr26))))))) (.reg F_law02_LeBehindr7)))
theorem F_law02_LeBehindl0_W {T : Tab} {env : Env} {H : Heap} {Q : Post} : W T F_law02_LeBehindl0 env H Q ↔ W T (.seq (.seq (.reg F_law02_LeBehindr6) (.cond (.t 21) .skip (.exit 0))) (.seq (.block 1 (.seq (.reg F_law02_LeBehindr8) (.seq (.seq (.reg F_law02_LeBehindr9) (.cond (.t 36) (.seq (.reg F_law02_LeBehindr10) .ret) .skip)) (.seq (.seq (.reg F_law02_LeBehindr11) (.block 2 (.seq (.reg F_law02_LeBehindr13) (.cond (.t 46) (.reg F_law02_LeBehindr14) (.seq (.reg F_law02_LeBehindr15) (.cond (.t 53) (.reg F_law02_LeBehindr16) (.seq (.reg F_law02_LeBehindr17) (.cond (.t 60) (.reg F_law02_LeBehindr18) (.seq (.reg F_law02_LeBehindr19) (.cond (.t 66) (.reg F_law02_LeBehindr20) (.seq (.reg F_law02_LeBehindr21) (.cond (.t 72) (.reg F_law02_LeBehindr22) (.reg F_law02_LeBehindr12))))))))))))) (.seq (.reg F_law02_LeBehindr23) (.seq (.seq (.reg F_law02_LeBehindr24) (.cond (.t 100) (.seq (.reg F_law02_LeBehindr25) .ret) .skip)) (.reg F_law02_LeBehindr26))))))) (.reg F_law02_LeBehindr7))) env H Q := Iff.rfl
def F_law02_LeBehindr27 : List IStmt := [
  ⟨some 102, .callc 19 [], none⟩,
  ⟨some 2, .mv (.t 102), none⟩]
theorem F_law02_LeBehindr27_W {T : Tab} {env : Env} {H : Heap} {Q : Post} : W T (.reg F_law02_LeBehindr27) env H Q ↔ WR T F_law02_LeBehindr27 [
  ⟨some 102, .callc 19 [], none⟩,
  ⟨some 2, .mv (.t 102), none⟩] env H none [] Q := w_reg
def F_law02_LeBehindc : ICode := (.seq (.reg F_law02_LeBehindr0) (.seq (.reg F_law02_LeBehindr1) (.seq (.seq (.reg F_law02_LeBehindr2) (.cond (.t 15) (.seq (.reg F_law02_LeBehindr3) .ret) .skip)) (.seq (.reg F_law02_LeBehindr4) (.seq (.seq (.reg F_law02_LeBehindr5) (.block 0 (.loop F_law02_LeBehindl0))) (.seq (.reg F_law02_LeBehindr27) .ret))))))
theorem F_law02_LeBehindc_W {T : Tab} {env : Env} {H : Heap} {Q : Post} : W T F_law02_LeBehindc env H Q ↔ W T (.seq (.reg F_law02_LeBehindr0) (.seq (.reg F_law02_LeBehindr1) (.seq (.seq (.reg F_law02_LeBehindr2) (.cond (.t 15) (.seq (.reg F_law02_LeBehindr3) .ret) .skip)) (.seq (.reg F_law02_LeBehindr4) (.seq (.seq (.reg F_law02_LeBehindr5) (.block 0 (.loop F_law02_LeBehindl0))) (.seq (.reg F_law02_LeBehindr27) .ret)))))) env H Q := Iff.rfl
def F_law02_LeBehind : IFn := ⟨103, [.tmp 2], F_law02_LeBehindc⟩
set_option maxRecDepth 1000000 in
theorem F_law02_LeBehind_chk : chkF Try.prog 4 F_law02_LeBehind = true := by kernel_rfl

/-- The functions, by number. -/
def TLe_l : List (Nat × IFn) := [(69, F_num_Sub), (55, F_num_Inside), (52, F_num_Power), (54, F_le_get), (33, F_le_U16), (34, F_le_U32), (35, F_le_U64), (36, F_le_Part), (17, F_le_Plain), (15, F_le_Text), (20, F_le_New), (51, F_le_Buf_put), (21, F_le_Buf_Put16), (22, F_le_Buf_Put32), (23, F_le_Buf_Put64), (24, F_le_Buf_Raw), (25, F_le_Buf_Zeros), (26, F_le_Buf_To), (42, F_le_Buf_Set64), (28, F_le_Buf_Len), (27, F_le_Buf_Bytes), (37, F_ref02_Get), (38, F_ref02_Part), (18, F_ref02_Plain), (16, F_ref02_Text), (39, F_ref02_Put), (40, F_ref02_Zeros), (41, F_ref02_To), (19, F_law02_alive), (3, F_law02_LeTexts), (6, F_law02_LeReads), (7, F_law02_LePuts), (8, F_law02_LeBack), (4, F_law02_LeBehind)]
def TLe : Tab := tabOf TLe_l
theorem TLe_chk : ∀ p ∈ TLe_l, chkF Try.prog p.1 p.2 = true := by
  intro p hp
  simp only [TLe_l, List.mem_cons, List.not_mem_nil, or_false] at hp
  rcases hp with rfl | rfl | rfl | rfl | rfl | rfl | rfl | rfl | rfl | rfl | rfl | rfl | rfl | rfl | rfl | rfl | rfl | rfl | rfl | rfl | rfl | rfl | rfl | rfl | rfl | rfl | rfl | rfl | rfl | rfl | rfl | rfl | rfl | rfl
  · exact F_num_Sub_chk
  · exact F_num_Inside_chk
  · exact F_num_Power_chk
  · exact F_le_get_chk
  · exact F_le_U16_chk
  · exact F_le_U32_chk
  · exact F_le_U64_chk
  · exact F_le_Part_chk
  · exact F_le_Plain_chk
  · exact F_le_Text_chk
  · exact F_le_New_chk
  · exact F_le_Buf_put_chk
  · exact F_le_Buf_Put16_chk
  · exact F_le_Buf_Put32_chk
  · exact F_le_Buf_Put64_chk
  · exact F_le_Buf_Raw_chk
  · exact F_le_Buf_Zeros_chk
  · exact F_le_Buf_To_chk
  · exact F_le_Buf_Set64_chk
  · exact F_le_Buf_Len_chk
  · exact F_le_Buf_Bytes_chk
  · exact F_ref02_Get_chk
  · exact F_ref02_Part_chk
  · exact F_ref02_Plain_chk
  · exact F_ref02_Text_chk
  · exact F_ref02_Put_chk
  · exact F_ref02_Zeros_chk
  · exact F_ref02_To_chk
  · exact F_law02_alive_chk
  · exact F_law02_LeTexts_chk
  · exact F_law02_LeReads_chk
  · exact F_law02_LePuts_chk
  · exact F_law02_LeBack_chk
  · exact F_law02_LeBehind_chk
theorem TLe_good : Good Try.prog TLe := good_tab (by kernel_rfl) TLe_chk

end Go.Proofs.Ytleogcfmlpmbiaa
