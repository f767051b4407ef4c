/- The small language's text of functions of the given program, and the check that it stands for them. Printed by a program. -/
import Derived.Test.YtiekjbejgmdkkaaFw24
import Derived.Test.YtiekjbejgmdkkaaChecked
import Derived.KernelRfl
namespace Go.Proofs.Ytiekjbejgmdkkaa
open Go Fw

/-! ### num_Sub -/
def F_num_Subr0 : List IStmt := [
  ⟨some 4, .mv (.c (.int .u64 0)), none⟩,
  ⟨some 5, .mv (.c (.bool false)), none⟩]
theorem F_num_Subr0_W {T : Tab} {env : Env} {H : Heap} {Q : Post} : W T (.reg F_num_Subr0) env H Q ↔ WR T F_num_Subr0 [
  ⟨some 4, .mv (.c (.int .u64 0)), none⟩,
  ⟨some 5, .mv (.c (.bool false)), none⟩] env H none [] Q := w_reg
def F_num_Subr1 : List IStmt := [
  ⟨some 6, .mv (.t 0), none⟩,
  ⟨some 7, .mv (.t 1), none⟩,
  ⟨some 8, .bin .lss (.t 6) (.t 7), none⟩]
theorem F_num_Subr1_W {T : Tab} {env : Env} {H : Heap} {Q : Post} : W T (.reg F_num_Subr1) env H Q ↔ WR T F_num_Subr1 [
  ⟨some 6, .mv (.t 0), none⟩,
  ⟨some 7, .mv (.t 1), none⟩,
  ⟨some 8, .bin .lss (.t 6) (.t 7), none⟩] env H none [] Q := w_reg
def F_num_Subr2 : List IStmt := [
  ⟨some 4, .mv (.c (.int .u64 0)), none⟩,
  ⟨some 5, .mv (.c (.bool false)), none⟩]
theorem F_num_Subr2_W {T : Tab} {env : Env} {H : Heap} {Q : Post} : W T (.reg F_num_Subr2) env H Q ↔ WR T F_num_Subr2 [
  ⟨some 4, .mv (.c (.int .u64 0)), none⟩,
  ⟨some 5, .mv (.c (.bool false)), none⟩] env H none [] Q := w_reg
def F_num_Subr3 : List IStmt := [
  ⟨some 9, .mv (.t 0), none⟩,
  ⟨some 10, .mv (.t 1), none⟩,
  ⟨some 11, .bin .sub (.t 9) (.t 10), none⟩,
  ⟨some 4, .mv (.t 11), none⟩,
  ⟨some 5, .mv (.c (.bool true)), none⟩]
theorem F_num_Subr3_W {T : Tab} {env : Env} {H : Heap} {Q : Post} : W T (.reg F_num_Subr3) env H Q ↔ WR T F_num_Subr3 [
  ⟨some 9, .mv (.t 0), none⟩,
  ⟨some 10, .mv (.t 1), none⟩,
  ⟨some 11, .bin .sub (.t 9) (.t 10), none⟩,
  ⟨some 4, .mv (.t 11), none⟩,
  ⟨some 5, .mv (.c (.bool true)), none⟩] env H none [] Q := w_reg
def F_num_Subc : ICode := (.seq (.reg F_num_Subr0) (.seq (.seq (.reg F_num_Subr1) (.cond (.t 8) (.seq (.reg F_num_Subr2) .ret) .skip)) (.seq (.reg F_num_Subr3) .ret)))
theorem F_num_Subc_W {T : Tab} {env : Env} {H : Heap} {Q : Post} : W T F_num_Subc env H Q ↔ W T (.seq (.reg F_num_Subr0) (.seq (.seq (.reg F_num_Subr1) (.cond (.t 8) (.seq (.reg F_num_Subr2) .ret) .skip)) (.seq (.reg F_num_Subr3) .ret))) env H Q := Iff.rfl
def F_num_Sub : IFn := ⟨12, [.tmp 4, .tmp 5], F_num_Subc⟩
set_option maxRecDepth 1000000 in
theorem F_num_Sub_chk : chkF Try.prog 17 F_num_Sub = true := by kernel_rfl

/-! ### num_Add -/
def F_num_Addr0 : List IStmt := [
  ⟨some 4, .mv (.c (.int .u64 0)), none⟩,
  ⟨some 5, .mv (.c (.bool false)), none⟩]
theorem F_num_Addr0_W {T : Tab} {env : Env} {H : Heap} {Q : Post} : W T (.reg F_num_Addr0) env H Q ↔ WR T F_num_Addr0 [
  ⟨some 4, .mv (.c (.int .u64 0)), none⟩,
  ⟨some 5, .mv (.c (.bool false)), none⟩] env H none [] Q := w_reg
def F_num_Addr1 : List IStmt := [
  ⟨some 6, .mv (.t 0), none⟩,
  ⟨some 7, .mv (.t 1), none⟩,
  ⟨some 8, .bin .sub (.c (.int .u64 18446744073709551615)) (.t 7), none⟩,
  ⟨some 9, .bin .gtr (.t 6) (.t 8), none⟩]
theorem F_num_Addr1_W {T : Tab} {env : Env} {H : Heap} {Q : Post} : W T (.reg F_num_Addr1) env H Q ↔ WR T F_num_Addr1 [
  ⟨some 6, .mv (.t 0), none⟩,
  ⟨some 7, .mv (.t 1), none⟩,
  ⟨some 8, .bin .sub (.c (.int .u64 18446744073709551615)) (.t 7), none⟩,
  ⟨some 9, .bin .gtr (.t 6) (.t 8), none⟩] env H none [] Q := w_reg
def F_num_Addr2 : List IStmt := [
  ⟨some 4, .mv (.c (.int .u64 0)), none⟩,
  ⟨some 5, .mv (.c (.bool false)), none⟩]
theorem F_num_Addr2_W {T : Tab} {env : Env} {H : Heap} {Q : Post} : W T (.reg F_num_Addr2) env H Q ↔ WR T F_num_Addr2 [
  ⟨some 4, .mv (.c (.int .u64 0)), none⟩,
  ⟨some 5, .mv (.c (.bool false)), none⟩] env H none [] Q := w_reg
def F_num_Addr3 : List IStmt := [
  ⟨some 10, .mv (.t 0), none⟩,
  ⟨some 11, .mv (.t 1), none⟩,
  ⟨some 12, .bin .add (.t 10) (.t 11), none⟩,
  ⟨some 4, .mv (.t 12), none⟩,
  ⟨some 5, .mv (.c (.bool true)), none⟩]
theorem F_num_Addr3_W {T : Tab} {env : Env} {H : Heap} {Q : Post} : W T (.reg F_num_Addr3) env H Q ↔ WR T F_num_Addr3 [
  ⟨some 10, .mv (.t 0), none⟩,
  ⟨some 11, .mv (.t 1), none⟩,
  ⟨some 12, .bin .add (.t 10) (.t 11), none⟩,
  ⟨some 4, .mv (.t 12), none⟩,
  ⟨some 5, .mv (.c (.bool true)), none⟩] env H none [] Q := w_reg
def F_num_Addc : ICode := (.seq (.reg F_num_Addr0) (.seq (.seq (.reg F_num_Addr1) (.cond (.t 9) (.seq (.reg F_num_Addr2) .ret) .skip)) (.seq (.reg F_num_Addr3) .ret)))
theorem F_num_Addc_W {T : Tab} {env : Env} {H : Heap} {Q : Post} : W T F_num_Addc env H Q ↔ W T (.seq (.reg F_num_Addr0) (.seq (.seq (.reg F_num_Addr1) (.cond (.t 9) (.seq (.reg F_num_Addr2) .ret) .skip)) (.seq (.reg F_num_Addr3) .ret))) env H Q := Iff.rfl
def F_num_Add : IFn := ⟨13, [.tmp 4, .tmp 5], F_num_Addc⟩
set_option maxRecDepth 1000000 in
theorem F_num_Add_chk : chkF Try.prog 13 F_num_Add = true := by kernel_rfl

/-! ### num_Power -/
def F_num_Powerr0 : List IStmt := [
  ⟨some 2, .mv (.c (.bool false)), none⟩]
theorem F_num_Powerr0_W {T : Tab} {env : Env} {H : Heap} {Q : Post} : W T (.reg F_num_Powerr0) env H Q ↔ WR T F_num_Powerr0 [
  ⟨some 2, .mv (.c (.bool false)), none⟩] env H none [] Q := w_reg
def F_num_Powerr1 : List IStmt := [
  ⟨some 3, .mv (.t 0), none⟩,
  ⟨some 4, .bin .neq (.t 3) (.c (.int .u64 0)), none⟩,
  ⟨some 5, .mv (.t 4), none⟩,
  ⟨some 6, .mv (.t 0), some (2, true)⟩,
  ⟨some 7, .mv (.t 0), some (2, true)⟩,
  ⟨some 8, .bin .sub (.t 7) (.c (.int .u64 1)), some (2, true)⟩,
  ⟨some 9, .bin .and (.t 6) (.t 8), some (2, true)⟩,
  ⟨some 10, .bin .eql (.t 9) (.c (.int .u64 0)), some (2, true)⟩,
  ⟨some 11, .pick (.t 5) (.t 10) (.c (.bool false)), none⟩,
  ⟨some 2, .mv (.t 11), none⟩]
theorem F_num_Powerr1_W {T : Tab} {env : Env} {H : Heap} {Q : Post} : W T (.reg F_num_Powerr1) env H Q ↔ WR T F_num_Powerr1 [
  ⟨some 3, .mv (.t 0), none⟩,
  ⟨some 4, .bin .neq (.t 3) (.c (.int .u64 0)), none⟩,
  ⟨some 5, .mv (.t 4), none⟩,
  ⟨some 6, .mv (.t 0), some (2, true)⟩,
  ⟨some 7, .mv (.t 0), some (2, true)⟩,
  ⟨some 8, .bin .sub (.t 7) (.c (.int .u64 1)), some (2, true)⟩,
  ⟨some 9, .bin .and (.t 6) (.t 8), some (2, true)⟩,
  ⟨some 10, .bin .eql (.t 9) (.c (.int .u64 0)), some (2, true)⟩,
  ⟨some 11, .pick (.t 5) (.t 10) (.c (.bool false)), none⟩,
  ⟨some 2, .mv (.t 11), none⟩] env H none [] Q := w_reg
theorem F_num_Powerr1_g2 {env : Env} : yieldI F_num_Powerr1 env 2 = bOf (env 5) := rfl
def F_num_Powerc : ICode := (.seq (.reg F_num_Powerr0) (.seq (.reg F_num_Powerr1) .ret))
theorem F_num_Powerc_W {T : Tab} {env : Env} {H : Heap} {Q : Post} : W T F_num_Powerc env H Q ↔ W T (.seq (.reg F_num_Powerr0) (.seq (.reg F_num_Powerr1) .ret)) env H Q := Iff.rfl
def F_num_Power : IFn := ⟨12, [.tmp 2], F_num_Powerc⟩
set_option maxRecDepth 1000000 in
theorem F_num_Power_chk : chkF Try.prog 20 F_num_Power = true := by kernel_rfl

/-! ### num_Inside -/
def F_num_Insider0 : List IStmt := [
  ⟨some 8, .mv (.c (.bool false)), none⟩]
theorem F_num_Insider0_W {T : Tab} {env : Env} {H : Heap} {Q : Post} : W T (.reg F_num_Insider0) env H Q ↔ WR T F_num_Insider0 [
  ⟨some 8, .mv (.c (.bool false)), none⟩] env H none [] Q := w_reg
def F_num_Insider1 : List IStmt := [
  ⟨some 12, .mv (.t 0), none⟩,
  ⟨some 13, .mv (.t 2), none⟩,
  ⟨some 14, .callc 17 [(.t 12), (.t 13)], none⟩,
  ⟨some 11, .mv (.t 14), none⟩,
  ⟨some 15, .ext (.t 11) 0, none⟩,
  ⟨some 16, .ext (.t 11) 1, none⟩,
  ⟨some 9, .mv (.t 15), none⟩,
  ⟨some 10, .mv (.t 16), none⟩]
theorem F_num_Insider1_W {T : Tab} {env : Env} {H : Heap} {Q : Post} : W T (.reg F_num_Insider1) env H Q ↔ WR T F_num_Insider1 [
  ⟨some 12, .mv (.t 0), none⟩,
  ⟨some 13, .mv (.t 2), none⟩,
  ⟨some 14, .callc 17 [(.t 12), (.t 13)], none⟩,
  ⟨some 11, .mv (.t 14), none⟩,
  ⟨some 15, .ext (.t 11) 0, none⟩,
  ⟨some 16, .ext (.t 11) 1, none⟩,
  ⟨some 9, .mv (.t 15), none⟩,
  ⟨some 10, .mv (.t 16), none⟩] env H none [] Q := w_reg
def F_num_Insider2 : List IStmt := [
  ⟨some 17, .mv (.t 10), none⟩,
  ⟨some 18, .mv (.t 17), none⟩,
  ⟨some 19, .mv (.t 9), some (1, true)⟩,
  ⟨some 20, .mv (.t 3), some (1, true)⟩,
  ⟨some 21, .bin .leq (.t 19) (.t 20), some (1, true)⟩,
  ⟨some 22, .pick (.t 18) (.t 21) (.c (.bool false)), none⟩,
  ⟨some 23, .mv (.t 22), none⟩,
  ⟨some 24, .mv (.t 1), some (6, true)⟩,
  ⟨some 25, .mv (.t 3), some (6, true)⟩,
  ⟨some 26, .mv (.t 9), some (6, true)⟩,
  ⟨some 27, .bin .sub (.t 25) (.t 26), some (6, true)⟩,
  ⟨some 28, .bin .leq (.t 24) (.t 27), some (6, true)⟩,
  ⟨some 29, .pick (.t 23) (.t 28) (.c (.bool false)), none⟩,
  ⟨some 8, .mv (.t 29), none⟩]
theorem F_num_Insider2_W {T : Tab} {env : Env} {H : Heap} {Q : Post} : W T (.reg F_num_Insider2) env H Q ↔ WR T F_num_Insider2 [
  ⟨some 17, .mv (.t 10), none⟩,
  ⟨some 18, .mv (.t 17), none⟩,
  ⟨some 19, .mv (.t 9), some (1, true)⟩,
  ⟨some 20, .mv (.t 3), some (1, true)⟩,
  ⟨some 21, .bin .leq (.t 19) (.t 20), some (1, true)⟩,
  ⟨some 22, .pick (.t 18) (.t 21) (.c (.bool false)), none⟩,
  ⟨some 23, .mv (.t 22), none⟩,
  ⟨some 24, .mv (.t 1), some (6, true)⟩,
  ⟨some 25, .mv (.t 3), some (6, true)⟩,
  ⟨some 26, .mv (.t 9), some (6, true)⟩,
  ⟨some 27, .bin .sub (.t 25) (.t 26), some (6, true)⟩,
  ⟨some 28, .bin .leq (.t 24) (.t 27), some (6, true)⟩,
  ⟨some 29, .pick (.t 23) (.t 28) (.c (.bool false)), none⟩,
  ⟨some 8, .mv (.t 29), none⟩] env H none [] Q := w_reg
theorem F_num_Insider2_g1 {env : Env} : yieldI F_num_Insider2 env 1 = bOf (env 18) := rfl
theorem F_num_Insider2_g6 {env : Env} : yieldI F_num_Insider2 env 6 = bOf (env 23) := rfl
def F_num_Insidec : ICode := (.seq (.reg F_num_Insider0) (.seq (.reg F_num_Insider1) (.seq (.reg F_num_Insider2) .ret)))
theorem F_num_Insidec_W {T : Tab} {env : Env} {H : Heap} {Q : Post} : W T F_num_Insidec env H Q ↔ W T (.seq (.reg F_num_Insider0) (.seq (.reg F_num_Insider1) (.seq (.reg F_num_Insider2) .ret))) env H Q := Iff.rfl
def F_num_Inside : IFn := ⟨30, [.tmp 8], F_num_Insidec⟩
set_option maxRecDepth 1000000 in
theorem F_num_Inside_chk : chkF Try.prog 23 F_num_Inside = true := by kernel_rfl

/-! ### num_Apart -/
def F_num_Apartr0 : List IStmt := [
  ⟨some 8, .mv (.c (.bool false)), none⟩]
theorem F_num_Apartr0_W {T : Tab} {env : Env} {H : Heap} {Q : Post} : W T (.reg F_num_Apartr0) env H Q ↔ WR T F_num_Apartr0 [
  ⟨some 8, .mv (.c (.bool false)), none⟩] env H none [] Q := w_reg
def F_num_Apartr1 : List IStmt := [
  ⟨some 9, .mv (.t 1), none⟩,
  ⟨some 10, .bin .eql (.t 9) (.c (.int .u64 0)), none⟩,
  ⟨some 11, .mv (.t 10), none⟩,
  ⟨some 12, .mv (.t 3), some (2, false)⟩,
  ⟨some 13, .bin .eql (.t 12) (.c (.int .u64 0)), some (2, false)⟩,
  ⟨some 14, .pick (.t 11) (.c (.bool true)) (.t 13), none⟩]
theorem F_num_Apartr1_W {T : Tab} {env : Env} {H : Heap} {Q : Post} : W T (.reg F_num_Apartr1) env H Q ↔ WR T F_num_Apartr1 [
  ⟨some 9, .mv (.t 1), none⟩,
  ⟨some 10, .bin .eql (.t 9) (.c (.int .u64 0)), none⟩,
  ⟨some 11, .mv (.t 10), none⟩,
  ⟨some 12, .mv (.t 3), some (2, false)⟩,
  ⟨some 13, .bin .eql (.t 12) (.c (.int .u64 0)), some (2, false)⟩,
  ⟨some 14, .pick (.t 11) (.c (.bool true)) (.t 13), none⟩] env H none [] Q := w_reg
theorem F_num_Apartr1_g2 {env : Env} : yieldI F_num_Apartr1 env 2 = bOf (env 11) := rfl
def F_num_Apartr2 : List IStmt := [
  ⟨some 8, .mv (.c (.bool true)), none⟩]
theorem F_num_Apartr2_W {T : Tab} {env : Env} {H : Heap} {Q : Post} : W T (.reg F_num_Apartr2) env H Q ↔ WR T F_num_Apartr2 [
  ⟨some 8, .mv (.c (.bool true)), none⟩] env H none [] Q := w_reg
def F_num_Apartr3 : List IStmt := [
  ⟨some 15, .mv (.t 0), none⟩,
  ⟨some 16, .mv (.t 2), none⟩,
  ⟨some 17, .bin .geq (.t 15) (.t 16), none⟩]
theorem F_num_Apartr3_W {T : Tab} {env : Env} {H : Heap} {Q : Post} : W T (.reg F_num_Apartr3) env H Q ↔ WR T F_num_Apartr3 [
  ⟨some 15, .mv (.t 0), none⟩,
  ⟨some 16, .mv (.t 2), none⟩,
  ⟨some 17, .bin .geq (.t 15) (.t 16), none⟩] env H none [] Q := w_reg
def F_num_Apartr4 : List IStmt := [
  ⟨some 18, .mv (.t 0), none⟩,
  ⟨some 19, .mv (.t 2), none⟩,
  ⟨some 20, .bin .sub (.t 18) (.t 19), none⟩,
  ⟨some 21, .mv (.t 3), none⟩,
  ⟨some 22, .bin .geq (.t 20) (.t 21), none⟩,
  ⟨some 8, .mv (.t 22), none⟩]
theorem F_num_Apartr4_W {T : Tab} {env : Env} {H : Heap} {Q : Post} : W T (.reg F_num_Apartr4) env H Q ↔ WR T F_num_Apartr4 [
  ⟨some 18, .mv (.t 0), none⟩,
  ⟨some 19, .mv (.t 2), none⟩,
  ⟨some 20, .bin .sub (.t 18) (.t 19), none⟩,
  ⟨some 21, .mv (.t 3), none⟩,
  ⟨some 22, .bin .geq (.t 20) (.t 21), none⟩,
  ⟨some 8, .mv (.t 22), none⟩] env H none [] Q := w_reg
def F_num_Apartr5 : List IStmt := [
  ⟨some 23, .mv (.t 2), none⟩,
  ⟨some 24, .mv (.t 0), none⟩,
  ⟨some 25, .bin .sub (.t 23) (.t 24), none⟩,
  ⟨some 26, .mv (.t 1), none⟩,
  ⟨some 27, .bin .geq (.t 25) (.t 26), none⟩,
  ⟨some 8, .mv (.t 27), none⟩]
theorem F_num_Apartr5_W {T : Tab} {env : Env} {H : Heap} {Q : Post} : W T (.reg F_num_Apartr5) env H Q ↔ WR T F_num_Apartr5 [
  ⟨some 23, .mv (.t 2), none⟩,
  ⟨some 24, .mv (.t 0), none⟩,
  ⟨some 25, .bin .sub (.t 23) (.t 24), none⟩,
  ⟨some 26, .mv (.t 1), none⟩,
  ⟨some 27, .bin .geq (.t 25) (.t 26), none⟩,
  ⟨some 8, .mv (.t 27), none⟩] env H none [] Q := w_reg
def F_num_Apartc : ICode := (.seq (.reg F_num_Apartr0) (.seq (.seq (.reg F_num_Apartr1) (.cond (.t 14) (.seq (.reg F_num_Apartr2) .ret) .skip)) (.seq (.seq (.reg F_num_Apartr3) (.cond (.t 17) (.seq (.reg F_num_Apartr4) .ret) .skip)) (.seq (.reg F_num_Apartr5) .ret))))
theorem F_num_Apartc_W {T : Tab} {env : Env} {H : Heap} {Q : Post} : W T F_num_Apartc env H Q ↔ W T (.seq (.reg F_num_Apartr0) (.seq (.seq (.reg F_num_Apartr1) (.cond (.t 14) (.seq (.reg F_num_Apartr2) .ret) .skip)) (.seq (.seq (.reg F_num_Apartr3) (.cond (.t 17) (.seq (.reg F_num_Apartr4) .ret) .skip)) (.seq (.reg F_num_Apartr5) .ret)))) env H Q := Iff.rfl
def F_num_Apart : IFn := ⟨28, [.tmp 8], F_num_Apartc⟩
set_option maxRecDepth 1000000 in
theorem F_num_Apart_chk : chkF Try.prog 25 F_num_Apart = true := by kernel_rfl

/-! ### num_Up -/
def F_num_Upr0 : List IStmt := [
  ⟨some 4, .mv (.c (.int .u64 0)), none⟩,
  ⟨some 5, .mv (.c (.int .i64 0)), none⟩]
theorem F_num_Upr0_W {T : Tab} {env : Env} {H : Heap} {Q : Post} : W T (.reg F_num_Upr0) env H Q ↔ WR T F_num_Upr0 [
  ⟨some 4, .mv (.c (.int .u64 0)), none⟩,
  ⟨some 5, .mv (.c (.int .i64 0)), none⟩] env H none [] Q := w_reg
def F_num_Upr1 : List IStmt := [
  ⟨some 8, .mv (.t 1), none⟩,
  ⟨some 9, .callc 20 [(.t 8)], none⟩,
  ⟨some 10, .un .not (.t 9), none⟩]
theorem F_num_Upr1_W {T : Tab} {env : Env} {H : Heap} {Q : Post} : W T (.reg F_num_Upr1) env H Q ↔ WR T F_num_Upr1 [
  ⟨some 8, .mv (.t 1), none⟩,
  ⟨some 9, .callc 20 [(.t 8)], none⟩,
  ⟨some 10, .un .not (.t 9), none⟩] env H none [] Q := w_reg
def F_num_Upr2 : List IStmt := [
  ⟨some 4, .mv (.c (.int .u64 0)), none⟩,
  ⟨some 5, .mv (.c (.int .i64 11)), none⟩]
theorem F_num_Upr2_W {T : Tab} {env : Env} {H : Heap} {Q : Post} : W T (.reg F_num_Upr2) env H Q ↔ WR T F_num_Upr2 [
  ⟨some 4, .mv (.c (.int .u64 0)), none⟩,
  ⟨some 5, .mv (.c (.int .i64 11)), none⟩] env H none [] Q := w_reg
def F_num_Upr3 : List IStmt := [
  ⟨some 12, .mv (.t 0), none⟩,
  ⟨some 13, .mv (.t 1), none⟩,
  ⟨some 14, .bin .sub (.t 13) (.c (.int .u64 1)), none⟩,
  ⟨some 15, .callc 13 [(.t 12), (.t 14)], none⟩,
  ⟨some 11, .mv (.t 15), none⟩,
  ⟨some 16, .ext (.t 11) 0, none⟩,
  ⟨some 17, .ext (.t 11) 1, none⟩,
  ⟨some 6, .mv (.t 16), none⟩,
  ⟨some 7, .mv (.t 17), none⟩]
theorem F_num_Upr3_W {T : Tab} {env : Env} {H : Heap} {Q : Post} : W T (.reg F_num_Upr3) env H Q ↔ WR T F_num_Upr3 [
  ⟨some 12, .mv (.t 0), none⟩,
  ⟨some 13, .mv (.t 1), none⟩,
  ⟨some 14, .bin .sub (.t 13) (.c (.int .u64 1)), none⟩,
  ⟨some 15, .callc 13 [(.t 12), (.t 14)], none⟩,
  ⟨some 11, .mv (.t 15), none⟩,
  ⟨some 16, .ext (.t 11) 0, none⟩,
  ⟨some 17, .ext (.t 11) 1, none⟩,
  ⟨some 6, .mv (.t 16), none⟩,
  ⟨some 7, .mv (.t 17), none⟩] env H none [] Q := w_reg
def F_num_Upr4 : List IStmt := [
  ⟨some 18, .mv (.t 7), none⟩,
  ⟨some 19, .un .not (.t 18), none⟩]
theorem F_num_Upr4_W {T : Tab} {env : Env} {H : Heap} {Q : Post} : W T (.reg F_num_Upr4) env H Q ↔ WR T F_num_Upr4 [
  ⟨some 18, .mv (.t 7), none⟩,
  ⟨some 19, .un .not (.t 18), none⟩] env H none [] Q := w_reg
def F_num_Upr5 : List IStmt := [
  ⟨some 4, .mv (.c (.int .u64 0)), none⟩,
  ⟨some 5, .mv (.c (.int .i64 10)), none⟩]
theorem F_num_Upr5_W {T : Tab} {env : Env} {H : Heap} {Q : Post} : W T (.reg F_num_Upr5) env H Q ↔ WR T F_num_Upr5 [
  ⟨some 4, .mv (.c (.int .u64 0)), none⟩,
  ⟨some 5, .mv (.c (.int .i64 10)), none⟩] env H none [] Q := w_reg
def F_num_Upr6 : List IStmt := [
  ⟨some 20, .mv (.t 6), none⟩,
  ⟨some 21, .mv (.t 1), none⟩,
  ⟨some 22, .bin .sub (.t 21) (.c (.int .u64 1)), none⟩,
  ⟨some 23, .bin .andNot (.t 20) (.t 22), none⟩,
  ⟨some 4, .mv (.t 23), none⟩,
  ⟨some 5, .mv (.c (.int .i64 0)), none⟩]
theorem F_num_Upr6_W {T : Tab} {env : Env} {H : Heap} {Q : Post} : W T (.reg F_num_Upr6) env H Q ↔ WR T F_num_Upr6 [
  ⟨some 20, .mv (.t 6), none⟩,
  ⟨some 21, .mv (.t 1), none⟩,
  ⟨some 22, .bin .sub (.t 21) (.c (.int .u64 1)), none⟩,
  ⟨some 23, .bin .andNot (.t 20) (.t 22), none⟩,
  ⟨some 4, .mv (.t 23), none⟩,
  ⟨some 5, .mv (.c (.int .i64 0)), none⟩] env H none [] Q := w_reg
def F_num_Upc : ICode := (.seq (.reg F_num_Upr0) (.seq (.seq (.reg F_num_Upr1) (.cond (.t 10) (.seq (.reg F_num_Upr2) .ret) .skip)) (.seq (.reg F_num_Upr3) (.seq (.seq (.reg F_num_Upr4) (.cond (.t 19) (.seq (.reg F_num_Upr5) .ret) .skip)) (.seq (.reg F_num_Upr6) .ret)))))
theorem F_num_Upc_W {T : Tab} {env : Env} {H : Heap} {Q : Post} : W T F_num_Upc env H Q ↔ W T (.seq (.reg F_num_Upr0) (.seq (.seq (.reg F_num_Upr1) (.cond (.t 10) (.seq (.reg F_num_Upr2) .ret) .skip)) (.seq (.reg F_num_Upr3) (.seq (.seq (.reg F_num_Upr4) (.cond (.t 19) (.seq (.reg F_num_Upr5) .ret) .skip)) (.seq (.reg F_num_Upr6) .ret))))) env H Q := Iff.rfl
def F_num_Up : IFn := ⟨24, [.tmp 4, .tmp 5], F_num_Upc⟩
set_option maxRecDepth 1000000 in
theorem F_num_Up_chk : chkF Try.prog 19 F_num_Up = true := by kernel_rfl

/-! ### num_Hex -/
def F_num_Hexr0 : List IStmt := [
  ⟨some 2, .mv (.c (.string ⟨#[]⟩)), none⟩]
theorem F_num_Hexr0_W {T : Tab} {env : Env} {H : Heap} {Q : Post} : W T (.reg F_num_Hexr0) env H Q ↔ WR T F_num_Hexr0 [
  ⟨some 2, .mv (.c (.string ⟨#[]⟩)), none⟩] env H none [] Q := w_reg
def F_num_Hexr1 : List IStmt := [
  ⟨some 3, .alloc 1 [.int .u8 0, .int .u8 0, .int .u8 0, .int .u8 0, .int .u8 0, .int .u8 0, .int .u8 0, .int .u8 0, .int .u8 0, .int .u8 0, .int .u8 0, .int .u8 0, .int .u8 0, .int .u8 0, .int .u8 0, .int .u8 0, .int .u8 0, .int .u8 0], none⟩]
theorem F_num_Hexr1_W {T : Tab} {env : Env} {H : Heap} {Q : Post} : W T (.reg F_num_Hexr1) env H Q ↔ WR T F_num_Hexr1 [
  ⟨some 3, .alloc 1 [.int .u8 0, .int .u8 0, .int .u8 0, .int .u8 0, .int .u8 0, .int .u8 0, .int .u8 0, .int .u8 0, .int .u8 0, .int .u8 0, .int .u8 0, .int .u8 0, .int .u8 0, .int .u8 0, .int .u8 0, .int .u8 0, .int .u8 0, .int .u8 0], none⟩] env H none [] Q := w_reg
def F_num_Hexr2 : List IStmt := [
  ⟨some 4, .mv (.c (.int .i64 18)), none⟩]
theorem F_num_Hexr2_W {T : Tab} {env : Env} {H : Heap} {Q : Post} : W T (.reg F_num_Hexr2) env H Q ↔ WR T F_num_Hexr2 [
  ⟨some 4, .mv (.c (.int .i64 18)), none⟩] env H none [] Q := w_reg
def F_num_Hexr3 : List IStmt := [
  ⟨some 5, .mv (.t 4), none⟩,
  ⟨some 6, .bin .sub (.t 5) (.c (.int .i64 1)), none⟩,
  ⟨some 4, .mv (.t 6), none⟩]
theorem F_num_Hexr3_W {T : Tab} {env : Env} {H : Heap} {Q : Post} : W T (.reg F_num_Hexr3) env H Q ↔ WR T F_num_Hexr3 [
  ⟨some 5, .mv (.t 4), none⟩,
  ⟨some 6, .bin .sub (.t 5) (.c (.int .i64 1)), none⟩,
  ⟨some 4, .mv (.t 6), none⟩] env H none [] Q := w_reg
def F_num_Hexr4 : List IStmt := [
  ⟨some 7, .mv (.t 4), none⟩,
  ⟨some 8, .mv (.t 0), none⟩,
  ⟨some 9, .bin .and (.t 8) (.c (.int .u64 15)), none⟩,
  ⟨some 10, .ixs (.c (.string ⟨#[48, 49, 50, 51, 52, 53, 54, 55, 56, 57, 97, 98, 99, 100, 101, 102]⟩)) (.t 9), none⟩,
  ⟨some 11, .ixr 18 1 (.t 3) (.t 7), none⟩,
  ⟨none, .store 1 (.t 11) (.t 10), none⟩]
theorem F_num_Hexr4_W {T : Tab} {env : Env} {H : Heap} {Q : Post} : W T (.reg F_num_Hexr4) env H Q ↔ WR T F_num_Hexr4 [
  ⟨some 7, .mv (.t 4), none⟩,
  ⟨some 8, .mv (.t 0), none⟩,
  ⟨some 9, .bin .and (.t 8) (.c (.int .u64 15)), none⟩,
  ⟨some 10, .ixs (.c (.string ⟨#[48, 49, 50, 51, 52, 53, 54, 55, 56, 57, 97, 98, 99, 100, 101, 102]⟩)) (.t 9), none⟩,
  ⟨some 11, .ixr 18 1 (.t 3) (.t 7), none⟩,
  ⟨none, .store 1 (.t 11) (.t 10), none⟩] env H none [] Q := w_reg
def F_num_Hexr5 : List IStmt := [
  ⟨some 12, .mv (.t 0), none⟩,
  ⟨some 13, .bin .shr (.t 12) (.c (.int .u64 4)), none⟩,
  ⟨some 0, .mv (.t 13), none⟩]
theorem F_num_Hexr5_W {T : Tab} {env : Env} {H : Heap} {Q : Post} : W T (.reg F_num_Hexr5) env H Q ↔ WR T F_num_Hexr5 [
  ⟨some 12, .mv (.t 0), none⟩,
  ⟨some 13, .bin .shr (.t 12) (.c (.int .u64 4)), none⟩,
  ⟨some 0, .mv (.t 13), none⟩] env H none [] Q := w_reg
def F_num_Hexr6 : List IStmt := [
  ⟨some 14, .mv (.t 0), none⟩,
  ⟨some 15, .bin .eql (.t 14) (.c (.int .u64 0)), none⟩]
theorem F_num_Hexr6_W {T : Tab} {env : Env} {H : Heap} {Q : Post} : W T (.reg F_num_Hexr6) env H Q ↔ WR T F_num_Hexr6 [
  ⟨some 14, .mv (.t 0), none⟩,
  ⟨some 15, .bin .eql (.t 14) (.c (.int .u64 0)), none⟩] env H none [] Q := w_reg
def F_num_Hexl0 : ICode := (.block 1 (.seq (.reg F_num_Hexr3) (.seq (.reg F_num_Hexr4) (.seq (.reg F_num_Hexr5) (.seq (.reg F_num_Hexr6) (.cond (.t 15) (.exit 0) .skip))))))
theorem F_num_Hexl0_W {T : Tab} {env : Env} {H : Heap} {Q : Post} : W T F_num_Hexl0 env H Q ↔ W T (.block 1 (.seq (.reg F_num_Hexr3) (.seq (.reg F_num_Hexr4) (.seq (.reg F_num_Hexr5) (.seq (.reg F_num_Hexr6) (.cond (.t 15) (.exit 0) .skip)))))) env H Q := Iff.rfl
def F_num_Hexr7 : List IStmt := [
  ⟨some 16, .mv (.t 4), none⟩,
  ⟨some 17, .slr 18 1 (.t 3) (some (.t 16)) none, none⟩,
  ⟨some 18, .b2s (.t 17), none⟩,
  ⟨some 19, .bin .add (.c (.string ⟨#[48, 120]⟩)) (.t 18), none⟩,
  ⟨some 2, .mv (.t 19), none⟩]
theorem F_num_Hexr7_W {T : Tab} {env : Env} {H : Heap} {Q : Post} : W T (.reg F_num_Hexr7) env H Q ↔ WR T F_num_Hexr7 [
  ⟨some 16, .mv (.t 4), none⟩,
  ⟨some 17, .slr 18 1 (.t 3) (some (.t 16)) none, none⟩,
  ⟨some 18, .b2s (.t 17), none⟩,
  ⟨some 19, .bin .add (.c (.string ⟨#[48, 120]⟩)) (.t 18), none⟩,
  ⟨some 2, .mv (.t 19), none⟩] env H none [] Q := w_reg
def F_num_Hexc : ICode := (.seq (.reg F_num_Hexr0) (.seq (.reg F_num_Hexr1) (.seq (.reg F_num_Hexr2) (.seq (.block 0 (.loop F_num_Hexl0)) (.seq (.reg F_num_Hexr7) .ret)))))
theorem F_num_Hexc_W {T : Tab} {env : Env} {H : Heap} {Q : Post} : W T F_num_Hexc env H Q ↔ W T (.seq (.reg F_num_Hexr0) (.seq (.reg F_num_Hexr1) (.seq (.reg F_num_Hexr2) (.seq (.block 0 (.loop F_num_Hexl0)) (.seq (.reg F_num_Hexr7) .ret))))) env H Q := Iff.rfl
def F_num_Hex : IFn := ⟨20, [.tmp 2], F_num_Hexc⟩
set_option maxRecDepth 1000000 in
theorem F_num_Hex_chk : chkF Try.prog 29 F_num_Hex = true := by kernel_rfl

/-! ### num_ParseHex -/
def F_num_ParseHexr0 : List IStmt := [
  ⟨some 2, .mv (.c (.int .u64 0)), none⟩,
  ⟨some 3, .mv (.c (.int .i64 0)), none⟩]
theorem F_num_ParseHexr0_W {T : Tab} {env : Env} {H : Heap} {Q : Post} : W T (.reg F_num_ParseHexr0) env H Q ↔ WR T F_num_ParseHexr0 [
  ⟨some 2, .mv (.c (.int .u64 0)), none⟩,
  ⟨some 3, .mv (.c (.int .i64 0)), none⟩] env H none [] Q := w_reg
def F_num_ParseHexr1 : List IStmt := [
  ⟨some 7, .mv (.t 0), none⟩,
  ⟨some 8, .len 0 (.t 7), none⟩,
  ⟨some 9, .bin .lss (.t 8) (.c (.int .i64 3)), none⟩,
  ⟨some 10, .mv (.t 9), none⟩,
  ⟨some 11, .mv (.t 0), some (3, false)⟩,
  ⟨some 12, .len 0 (.t 11), some (3, false)⟩,
  ⟨some 13, .bin .gtr (.t 12) (.c (.int .i64 18)), some (3, false)⟩,
  ⟨some 14, .pick (.t 10) (.c (.bool true)) (.t 13), none⟩,
  ⟨some 15, .mv (.t 14), none⟩,
  ⟨some 16, .mv (.t 0), some (8, false)⟩,
  ⟨some 17, .sls (.t 16) none (some (.c (.int .i64 2))), some (8, false)⟩,
  ⟨some 18, .bin .neq (.t 17) (.c (.string ⟨#[48, 120]⟩)), some (8, false)⟩,
  ⟨some 19, .pick (.t 15) (.c (.bool true)) (.t 18), none⟩,
  ⟨some 20, .mv (.t 19), none⟩,
  ⟨some 21, .mv (.t 0), some (13, false)⟩,
  ⟨some 22, .ixs (.t 21) (.c (.int .i64 2)), some (13, false)⟩,
  ⟨some 23, .bin .eql (.t 22) (.c (.int .u8 48)), some (13, false)⟩,
  ⟨some 24, .mv (.t 23), some (13, false)⟩,
  ⟨some 25, .mv (.t 0), some (17, true)⟩,
  ⟨some 26, .len 0 (.t 25), some (17, true)⟩,
  ⟨some 27, .bin .gtr (.t 26) (.c (.int .i64 3)), some (17, true)⟩,
  ⟨some 28, .pick (.t 24) (.t 27) (.c (.bool false)), some (13, false)⟩,
  ⟨some 29, .pick (.t 20) (.c (.bool true)) (.t 28), none⟩]
theorem F_num_ParseHexr1_W {T : Tab} {env : Env} {H : Heap} {Q : Post} : W T (.reg F_num_ParseHexr1) env H Q ↔ WR T F_num_ParseHexr1 [
  ⟨some 7, .mv (.t 0), none⟩,
  ⟨some 8, .len 0 (.t 7), none⟩,
  ⟨some 9, .bin .lss (.t 8) (.c (.int .i64 3)), none⟩,
  ⟨some 10, .mv (.t 9), none⟩,
  ⟨some 11, .mv (.t 0), some (3, false)⟩,
  ⟨some 12, .len 0 (.t 11), some (3, false)⟩,
  ⟨some 13, .bin .gtr (.t 12) (.c (.int .i64 18)), some (3, false)⟩,
  ⟨some 14, .pick (.t 10) (.c (.bool true)) (.t 13), none⟩,
  ⟨some 15, .mv (.t 14), none⟩,
  ⟨some 16, .mv (.t 0), some (8, false)⟩,
  ⟨some 17, .sls (.t 16) none (some (.c (.int .i64 2))), some (8, false)⟩,
  ⟨some 18, .bin .neq (.t 17) (.c (.string ⟨#[48, 120]⟩)), some (8, false)⟩,
  ⟨some 19, .pick (.t 15) (.c (.bool true)) (.t 18), none⟩,
  ⟨some 20, .mv (.t 19), none⟩,
  ⟨some 21, .mv (.t 0), some (13, false)⟩,
  ⟨some 22, .ixs (.t 21) (.c (.int .i64 2)), some (13, false)⟩,
  ⟨some 23, .bin .eql (.t 22) (.c (.int .u8 48)), some (13, false)⟩,
  ⟨some 24, .mv (.t 23), some (13, false)⟩,
  ⟨some 25, .mv (.t 0), some (17, true)⟩,
  ⟨some 26, .len 0 (.t 25), some (17, true)⟩,
  ⟨some 27, .bin .gtr (.t 26) (.c (.int .i64 3)), some (17, true)⟩,
  ⟨some 28, .pick (.t 24) (.t 27) (.c (.bool false)), some (13, false)⟩,
  ⟨some 29, .pick (.t 20) (.c (.bool true)) (.t 28), none⟩] env H none [] Q := w_reg
theorem F_num_ParseHexr1_g3 {env : Env} : yieldI F_num_ParseHexr1 env 3 = bOf (env 10) := rfl
theorem F_num_ParseHexr1_g8 {env : Env} : yieldI F_num_ParseHexr1 env 8 = bOf (env 15) := rfl
theorem F_num_ParseHexr1_g13 {env : Env} : yieldI F_num_ParseHexr1 env 13 = bOf (env 20) := rfl
theorem F_num_ParseHexr1_g17 {env : Env} : yieldI F_num_ParseHexr1 env 17 = bOf (env 24) := rfl
def F_num_ParseHexr2 : List IStmt := [
  ⟨some 2, .mv (.c (.int .u64 0)), none⟩,
  ⟨some 3, .mv (.c (.int .i64 12)), none⟩]
theorem F_num_ParseHexr2_W {T : Tab} {env : Env} {H : Heap} {Q : Post} : W T (.reg F_num_ParseHexr2) env H Q ↔ WR T F_num_ParseHexr2 [
  ⟨some 2, .mv (.c (.int .u64 0)), none⟩,
  ⟨some 3, .mv (.c (.int .i64 12)), none⟩] env H none [] Q := w_reg
def F_num_ParseHexr3 : List IStmt := [
  ⟨some 4, .mv (.c (.int .u64 0)), none⟩]
theorem F_num_ParseHexr3_W {T : Tab} {env : Env} {H : Heap} {Q : Post} : W T (.reg F_num_ParseHexr3) env H Q ↔ WR T F_num_ParseHexr3 [
  ⟨some 4, .mv (.c (.int .u64 0)), none⟩] env H none [] Q := w_reg
def F_num_ParseHexr4 : List IStmt := [
  ⟨some 5, .mv (.c (.int .i64 2)), none⟩]
theorem F_num_ParseHexr4_W {T : Tab} {env : Env} {H : Heap} {Q : Post} : W T (.reg F_num_ParseHexr4) env H Q ↔ WR T F_num_ParseHexr4 [
  ⟨some 5, .mv (.c (.int .i64 2)), none⟩] env H none [] Q := w_reg
def F_num_ParseHexr5 : List IStmt := [
  ⟨some 30, .mv (.t 5), none⟩,
  ⟨some 31, .mv (.t 0), none⟩,
  ⟨some 32, .len 0 (.t 31), none⟩,
  ⟨some 33, .bin .lss (.t 30) (.t 32), none⟩]
theorem F_num_ParseHexr5_W {T : Tab} {env : Env} {H : Heap} {Q : Post} : W T (.reg F_num_ParseHexr5) env H Q ↔ WR T F_num_ParseHexr5 [
  ⟨some 30, .mv (.t 5), none⟩,
  ⟨some 31, .mv (.t 0), none⟩,
  ⟨some 32, .len 0 (.t 31), none⟩,
  ⟨some 33, .bin .lss (.t 30) (.t 32), none⟩] env H none [] Q := w_reg
def F_num_ParseHexr7 : List IStmt := [
  ⟨some 36, .mv (.t 0), none⟩,
  ⟨some 37, .mv (.t 5), none⟩,
  ⟨some 38, .ixs (.t 36) (.t 37), none⟩,
  ⟨some 39, .callc 37 [(.t 38)], none⟩,
  ⟨some 6, .mv (.t 39), none⟩]
theorem F_num_ParseHexr7_W {T : Tab} {env : Env} {H : Heap} {Q : Post} : W T (.reg F_num_ParseHexr7) env H Q ↔ WR T F_num_ParseHexr7 [
  ⟨some 36, .mv (.t 0), none⟩,
  ⟨some 37, .mv (.t 5), none⟩,
  ⟨some 38, .ixs (.t 36) (.t 37), none⟩,
  ⟨some 39, .callc 37 [(.t 38)], none⟩,
  ⟨some 6, .mv (.t 39), none⟩] env H none [] Q := w_reg
def F_num_ParseHexr8 : List IStmt := [
  ⟨some 40, .mv (.t 6), none⟩,
  ⟨some 41, .bin .eql (.t 40) (.c (.int .u64 16)), none⟩]
theorem F_num_ParseHexr8_W {T : Tab} {env : Env} {H : Heap} {Q : Post} : W T (.reg F_num_ParseHexr8) env H Q ↔ WR T F_num_ParseHexr8 [
  ⟨some 40, .mv (.t 6), none⟩,
  ⟨some 41, .bin .eql (.t 40) (.c (.int .u64 16)), none⟩] env H none [] Q := w_reg
def F_num_ParseHexr9 : List IStmt := [
  ⟨some 2, .mv (.c (.int .u64 0)), none⟩,
  ⟨some 3, .mv (.c (.int .i64 12)), none⟩]
theorem F_num_ParseHexr9_W {T : Tab} {env : Env} {H : Heap} {Q : Post} : W T (.reg F_num_ParseHexr9) env H Q ↔ WR T F_num_ParseHexr9 [
  ⟨some 2, .mv (.c (.int .u64 0)), none⟩,
  ⟨some 3, .mv (.c (.int .i64 12)), none⟩] env H none [] Q := w_reg
def F_num_ParseHexr10 : List IStmt := [
  ⟨some 42, .mv (.t 4), none⟩,
  ⟨some 43, .bin .shl (.t 42) (.c (.int .u64 4)), none⟩,
  ⟨some 44, .mv (.t 6), none⟩,
  ⟨some 45, .bin .or (.t 43) (.t 44), none⟩,
  ⟨some 4, .mv (.t 45), none⟩]
theorem F_num_ParseHexr10_W {T : Tab} {env : Env} {H : Heap} {Q : Post} : W T (.reg F_num_ParseHexr10) env H Q ↔ WR T F_num_ParseHexr10 [
  ⟨some 42, .mv (.t 4), none⟩,
  ⟨some 43, .bin .shl (.t 42) (.c (.int .u64 4)), none⟩,
  ⟨some 44, .mv (.t 6), none⟩,
  ⟨some 45, .bin .or (.t 43) (.t 44), none⟩,
  ⟨some 4, .mv (.t 45), none⟩] env H none [] Q := w_reg
def F_num_ParseHexr6 : List IStmt := [
  ⟨some 34, .mv (.t 5), none⟩,
  ⟨some 35, .bin .add (.t 34) (.c (.int .i64 1)), none⟩,
  ⟨some 5, .mv (.t 35), none⟩]
theorem F_num_ParseHexr6_W {T : Tab} {env : Env} {H : Heap} {Q : Post} : W T (.reg F_num_ParseHexr6) env H Q ↔ WR T F_num_ParseHexr6 [
  ⟨some 34, .mv (.t 5), none⟩,
  ⟨some 35, .bin .add (.t 34) (.c (.int .i64 1)), none⟩,
  ⟨some 5, .mv (.t 35), none⟩] env H none [] Q := w_reg
def F_num_ParseHexl0 : ICode := (.seq (.seq (.reg F_num_ParseHexr5) (.cond (.t 33) .skip (.exit 0))) (.seq (.block 1 (.seq (.reg F_num_ParseHexr7) (.seq (.seq (.reg F_num_ParseHexr8) (.cond (.t 41) (.seq (.reg F_num_ParseHexr9) .ret) .skip)) (.reg F_num_ParseHexr10)))) (.reg F_num_ParseHexr6)))
theorem F_num_ParseHexl0_W {T : Tab} {env : Env} {H : Heap} {Q : Post} : W T F_num_ParseHexl0 env H Q ↔ W T (.seq (.seq (.reg F_num_ParseHexr5) (.cond (.t 33) .skip (.exit 0))) (.seq (.block 1 (.seq (.reg F_num_ParseHexr7) (.seq (.seq (.reg F_num_ParseHexr8) (.cond (.t 41) (.seq (.reg F_num_ParseHexr9) .ret) .skip)) (.reg F_num_ParseHexr10)))) (.reg F_num_ParseHexr6))) env H Q := Iff.rfl
def F_num_ParseHexr11 : List IStmt := [
  ⟨some 46, .mv (.t 4), none⟩,
  ⟨some 2, .mv (.t 46), none⟩,
  ⟨some 3, .mv (.c (.int .i64 0)), none⟩]
theorem F_num_ParseHexr11_W {T : Tab} {env : Env} {H : Heap} {Q : Post} : W T (.reg F_num_ParseHexr11) env H Q ↔ WR T F_num_ParseHexr11 [
  ⟨some 46, .mv (.t 4), none⟩,
  ⟨some 2, .mv (.t 46), none⟩,
  ⟨some 3, .mv (.c (.int .i64 0)), none⟩] env H none [] Q := w_reg
def F_num_ParseHexc : ICode := (.seq (.reg F_num_ParseHexr0) (.seq (.seq (.reg F_num_ParseHexr1) (.cond (.t 29) (.seq (.reg F_num_ParseHexr2) .ret) .skip)) (.seq (.reg F_num_ParseHexr3) (.seq (.seq (.reg F_num_ParseHexr4) (.block 0 (.loop F_num_ParseHexl0))) (.seq (.reg F_num_ParseHexr11) .ret)))))
theorem F_num_ParseHexc_W {T : Tab} {env : Env} {H : Heap} {Q : Post} : W T F_num_ParseHexc env H Q ↔ W T (.seq (.reg F_num_ParseHexr0) (.seq (.seq (.reg F_num_ParseHexr1) (.cond (.t 29) (.seq (.reg F_num_ParseHexr2) .ret) .skip)) (.seq (.reg F_num_ParseHexr3) (.seq (.seq (.reg F_num_ParseHexr4) (.block 0 (.loop F_num_ParseHexl0))) (.seq (.reg F_num_ParseHexr11) .ret))))) env H Q := Iff.rfl
def F_num_ParseHex : IFn := ⟨47, [.tmp 2, .tmp 3], F_num_ParseHexc⟩
set_option maxRecDepth 1000000 in
theorem F_num_ParseHex_chk : chkF Try.prog 27 F_num_ParseHex = true := by kernel_rfl

/-! ### num_digit -/
def F_num_digitr0 : List IStmt := [
  ⟨some 2, .mv (.c (.int .u64 0)), none⟩]
theorem F_num_digitr0_W {T : Tab} {env : Env} {H : Heap} {Q : Post} : W T (.reg F_num_digitr0) env H Q ↔ WR T F_num_digitr0 [
  ⟨some 2, .mv (.c (.int .u64 0)), none⟩] env H none [] Q := w_reg
def F_num_digitr1 : List IStmt := [
  ⟨some 4, .mv (.t 0), none⟩,
  ⟨some 5, .bin .geq (.t 4) (.c (.int .u8 48)), none⟩,
  ⟨some 6, .mv (.t 5), none⟩,
  ⟨some 7, .mv (.t 0), some (2, true)⟩,
  ⟨some 8, .bin .leq (.t 7) (.c (.int .u8 57)), some (2, true)⟩,
  ⟨some 9, .pick (.t 6) (.t 8) (.c (.bool false)), none⟩,
  ⟨some 3, .mv (.t 9), none⟩]
theorem F_num_digitr1_W {T : Tab} {env : Env} {H : Heap} {Q : Post} : W T (.reg F_num_digitr1) env H Q ↔ WR T F_num_digitr1 [
  ⟨some 4, .mv (.t 0), none⟩,
  ⟨some 5, .bin .geq (.t 4) (.c (.int .u8 48)), none⟩,
  ⟨some 6, .mv (.t 5), none⟩,
  ⟨some 7, .mv (.t 0), some (2, true)⟩,
  ⟨some 8, .bin .leq (.t 7) (.c (.int .u8 57)), some (2, true)⟩,
  ⟨some 9, .pick (.t 6) (.t 8) (.c (.bool false)), none⟩,
  ⟨some 3, .mv (.t 9), none⟩] env H none [] Q := w_reg
theorem F_num_digitr1_g2 {env : Env} : yieldI F_num_digitr1 env 2 = bOf (env 6) := rfl
def F_num_digitr2 : List IStmt := [
  ⟨some 10, .mv (.t 0), none⟩,
  ⟨some 11, .bin .sub (.t 10) (.c (.int .u8 48)), none⟩,
  ⟨some 12, .conv .u64 (.t 11), none⟩,
  ⟨some 2, .mv (.t 12), none⟩]
theorem F_num_digitr2_W {T : Tab} {env : Env} {H : Heap} {Q : Post} : W T (.reg F_num_digitr2) env H Q ↔ WR T F_num_digitr2 [
  ⟨some 10, .mv (.t 0), none⟩,
  ⟨some 11, .bin .sub (.t 10) (.c (.int .u8 48)), none⟩,
  ⟨some 12, .conv .u64 (.t 11), none⟩,
  ⟨some 2, .mv (.t 12), none⟩] env H none [] Q := w_reg
def F_num_digitr3 : List IStmt := [
  ⟨some 14, .mv (.t 0), none⟩,
  ⟨some 15, .bin .geq (.t 14) (.c (.int .u8 97)), none⟩,
  ⟨some 16, .mv (.t 15), none⟩,
  ⟨some 17, .mv (.t 0), some (2, true)⟩,
  ⟨some 18, .bin .leq (.t 17) (.c (.int .u8 102)), some (2, true)⟩,
  ⟨some 19, .pick (.t 16) (.t 18) (.c (.bool false)), none⟩,
  ⟨some 13, .mv (.t 19), none⟩]
theorem F_num_digitr3_W {T : Tab} {env : Env} {H : Heap} {Q : Post} : W T (.reg F_num_digitr3) env H Q ↔ WR T F_num_digitr3 [
  ⟨some 14, .mv (.t 0), none⟩,
  ⟨some 15, .bin .geq (.t 14) (.c (.int .u8 97)), none⟩,
  ⟨some 16, .mv (.t 15), none⟩,
  ⟨some 17, .mv (.t 0), some (2, true)⟩,
  ⟨some 18, .bin .leq (.t 17) (.c (.int .u8 102)), some (2, true)⟩,
  ⟨some 19, .pick (.t 16) (.t 18) (.c (.bool false)), none⟩,
  ⟨some 13, .mv (.t 19), none⟩] env H none [] Q := w_reg
theorem F_num_digitr3_g2 {env : Env} : yieldI F_num_digitr3 env 2 = bOf (env 16) := rfl
def F_num_digitr4 : List IStmt := [
  ⟨some 20, .mv (.t 0), none⟩,
  ⟨some 21, .bin .sub (.t 20) (.c (.int .u8 97)), none⟩,
  ⟨some 22, .conv .u64 (.t 21), none⟩,
  ⟨some 23, .bin .add (.t 22) (.c (.int .u64 10)), none⟩,
  ⟨some 2, .mv (.t 23), none⟩]
theorem F_num_digitr4_W {T : Tab} {env : Env} {H : Heap} {Q : Post} : W T (.reg F_num_digitr4) env H Q ↔ WR T F_num_digitr4 [
  ⟨some 20, .mv (.t 0), none⟩,
  ⟨some 21, .bin .sub (.t 20) (.c (.int .u8 97)), none⟩,
  ⟨some 22, .conv .u64 (.t 21), none⟩,
  ⟨some 23, .bin .add (.t 22) (.c (.int .u64 10)), none⟩,
  ⟨some 2, .mv (.t 23), none⟩] env H none [] Q := w_reg
def F_num_digitr5 : List IStmt := [
  ⟨some 2, .mv (.c (.int .u64 16)), none⟩]
theorem F_num_digitr5_W {T : Tab} {env : Env} {H : Heap} {Q : Post} : W T (.reg F_num_digitr5) env H Q ↔ WR T F_num_digitr5 [
  ⟨some 2, .mv (.c (.int .u64 16)), none⟩] env H none [] Q := w_reg
def F_num_digitc : ICode := (.seq (.reg F_num_digitr0) (.seq (.block 0 (.seq (.reg F_num_digitr1) (.cond (.t 3) (.seq (.reg F_num_digitr2) .ret) (.seq (.reg F_num_digitr3) (.cond (.t 13) (.seq (.reg F_num_digitr4) .ret) .skip))))) (.seq (.reg F_num_digitr5) .ret)))
theorem F_num_digitc_W {T : Tab} {env : Env} {H : Heap} {Q : Post} : W T F_num_digitc env H Q ↔ W T (.seq (.reg F_num_digitr0) (.seq (.block 0 (.seq (.reg F_num_digitr1) (.cond (.t 3) (.seq (.reg F_num_digitr2) .ret) (.seq (.reg F_num_digitr3) (.cond (.t 13) (.seq (.reg F_num_digitr4) .ret) .skip))))) (.seq (.reg F_num_digitr5) .ret))) env H Q := Iff.rfl
def F_num_digit : IFn := ⟨24, [.tmp 2], F_num_digitc⟩
set_option maxRecDepth 1000000 in
theorem F_num_digit_chk : chkF Try.prog 37 F_num_digit = true := by kernel_rfl

/-! ### num_Text -/
def F_num_Textr0 : List IStmt := [
  ⟨some 2, .mv (.c (.string ⟨#[]⟩)), none⟩]
theorem F_num_Textr0_W {T : Tab} {env : Env} {H : Heap} {Q : Post} : W T (.reg F_num_Textr0) env H Q ↔ WR T F_num_Textr0 [
  ⟨some 2, .mv (.c (.string ⟨#[]⟩)), none⟩] env H none [] Q := w_reg
def F_num_Textr1 : List IStmt := [
  ⟨some 3, .mv (.c (.string ⟨#[]⟩)), none⟩]
theorem F_num_Textr1_W {T : Tab} {env : Env} {H : Heap} {Q : Post} : W T (.reg F_num_Textr1) env H Q ↔ WR T F_num_Textr1 [
  ⟨some 3, .mv (.c (.string ⟨#[]⟩)), none⟩] env H none [] Q := w_reg
def F_num_Textr2 : List IStmt := [
  ⟨some 4, .mv (.t 0), none⟩,
  ⟨some 5, .mx (.t 4) (.c (.int .i64 0)), none⟩,
  ⟨some 0, .mv (.t 5), none⟩]
theorem F_num_Textr2_W {T : Tab} {env : Env} {H : Heap} {Q : Post} : W T (.reg F_num_Textr2) env H Q ↔ WR T F_num_Textr2 [
  ⟨some 4, .mv (.t 0), none⟩,
  ⟨some 5, .mx (.t 4) (.c (.int .i64 0)), none⟩,
  ⟨some 0, .mv (.t 5), none⟩] env H none [] Q := w_reg
def F_num_Textr3 : List IStmt := [
  ⟨some 6, .mv (.t 0), none⟩,
  ⟨some 7, .bin .gtr (.t 6) (.c (.int .i64 0)), none⟩,
  ⟨some 8, .mv (.t 7), none⟩,
  ⟨some 9, .mv (.t 3), some (2, false)⟩,
  ⟨some 10, .bin .eql (.t 9) (.c (.string ⟨#[]⟩)), some (2, false)⟩,
  ⟨some 11, .pick (.t 8) (.c (.bool true)) (.t 10), none⟩]
theorem F_num_Textr3_W {T : Tab} {env : Env} {H : Heap} {Q : Post} : W T (.reg F_num_Textr3) env H Q ↔ WR T F_num_Textr3 [
  ⟨some 6, .mv (.t 0), none⟩,
  ⟨some 7, .bin .gtr (.t 6) (.c (.int .i64 0)), none⟩,
  ⟨some 8, .mv (.t 7), none⟩,
  ⟨some 9, .mv (.t 3), some (2, false)⟩,
  ⟨some 10, .bin .eql (.t 9) (.c (.string ⟨#[]⟩)), some (2, false)⟩,
  ⟨some 11, .pick (.t 8) (.c (.bool true)) (.t 10), none⟩] env H none [] Q := w_reg
theorem F_num_Textr3_g2 {env : Env} : yieldI F_num_Textr3 env 2 = bOf (env 8) := rfl
def F_num_Textr5 : List IStmt := [
  ⟨some 14, .mv (.t 0), none⟩,
  ⟨some 15, .bin .rem (.t 14) (.c (.int .i64 10)), none⟩,
  ⟨some 16, .bin .add (.c (.int .i64 48)) (.t 15), none⟩,
  ⟨some 17, .conv .u8 (.t 16), none⟩,
  ⟨some 18, .bsli 1 1 [.int .u8 0] [(0, (.t 17))], none⟩,
  ⟨some 19, .b2s (.t 18), none⟩,
  ⟨some 20, .mv (.t 3), none⟩,
  ⟨some 21, .bin .add (.t 19) (.t 20), none⟩,
  ⟨some 3, .mv (.t 21), none⟩]
theorem F_num_Textr5_W {T : Tab} {env : Env} {H : Heap} {Q : Post} : W T (.reg F_num_Textr5) env H Q ↔ WR T F_num_Textr5 [
  ⟨some 14, .mv (.t 0), none⟩,
  ⟨some 15, .bin .rem (.t 14) (.c (.int .i64 10)), none⟩,
  ⟨some 16, .bin .add (.c (.int .i64 48)) (.t 15), none⟩,
  ⟨some 17, .conv .u8 (.t 16), none⟩,
  ⟨some 18, .bsli 1 1 [.int .u8 0] [(0, (.t 17))], none⟩,
  ⟨some 19, .b2s (.t 18), none⟩,
  ⟨some 20, .mv (.t 3), none⟩,
  ⟨some 21, .bin .add (.t 19) (.t 20), none⟩,
  ⟨some 3, .mv (.t 21), none⟩] env H none [] Q := w_reg
def F_num_Textr4 : List IStmt := [
  ⟨some 12, .mv (.t 0), none⟩,
  ⟨some 13, .bin .quo (.t 12) (.c (.int .i64 10)), none⟩,
  ⟨some 0, .mv (.t 13), none⟩]
theorem F_num_Textr4_W {T : Tab} {env : Env} {H : Heap} {Q : Post} : W T (.reg F_num_Textr4) env H Q ↔ WR T F_num_Textr4 [
  ⟨some 12, .mv (.t 0), none⟩,
  ⟨some 13, .bin .quo (.t 12) (.c (.int .i64 10)), none⟩,
  ⟨some 0, .mv (.t 13), none⟩] env H none [] Q := w_reg
def F_num_Textl0 : ICode := (.seq (.seq (.reg F_num_Textr3) (.cond (.t 11) .skip (.exit 0))) (.seq (.block 1 (.reg F_num_Textr5)) (.reg F_num_Textr4)))
theorem F_num_Textl0_W {T : Tab} {env : Env} {H : Heap} {Q : Post} : W T F_num_Textl0 env H Q ↔ W T (.seq (.seq (.reg F_num_Textr3) (.cond (.t 11) .skip (.exit 0))) (.seq (.block 1 (.reg F_num_Textr5)) (.reg F_num_Textr4))) env H Q := Iff.rfl
def F_num_Textr6 : List IStmt := [
  ⟨some 22, .mv (.t 3), none⟩,
  ⟨some 2, .mv (.t 22), none⟩]
theorem F_num_Textr6_W {T : Tab} {env : Env} {H : Heap} {Q : Post} : W T (.reg F_num_Textr6) env H Q ↔ WR T F_num_Textr6 [
  ⟨some 22, .mv (.t 3), none⟩,
  ⟨some 2, .mv (.t 22), none⟩] env H none [] Q := w_reg
def F_num_Textc : ICode := (.seq (.reg F_num_Textr0) (.seq (.reg F_num_Textr1) (.seq (.seq (.reg F_num_Textr2) (.block 0 (.loop F_num_Textl0))) (.seq (.reg F_num_Textr6) .ret))))
theorem F_num_Textc_W {T : Tab} {env : Env} {H : Heap} {Q : Post} : W T F_num_Textc env H Q ↔ W T (.seq (.reg F_num_Textr0) (.seq (.reg F_num_Textr1) (.seq (.seq (.reg F_num_Textr2) (.block 0 (.loop F_num_Textl0))) (.seq (.reg F_num_Textr6) .ret)))) env H Q := Iff.rfl
def F_num_Text : IFn := ⟨23, [.tmp 2], F_num_Textc⟩
set_option maxRecDepth 1000000 in
theorem F_num_Text_chk : chkF Try.prog 33 F_num_Text = true := by kernel_rfl

/-! ### ref01_Sum -/
def F_ref01_Sumr0 : List IStmt := [
  ⟨some 4, .alloc 2 [.int .u64 0, .int .u64 0], none⟩]
theorem F_ref01_Sumr0_W {T : Tab} {env : Env} {H : Heap} {Q : Post} : W T (.reg F_ref01_Sumr0) env H Q ↔ WR T F_ref01_Sumr0 [
  ⟨some 4, .alloc 2 [.int .u64 0, .int .u64 0], none⟩] env H none [] Q := w_reg
def F_ref01_Sumr1 : List IStmt := [
  ⟨some 6, .mv (.t 0), none⟩,
  ⟨some 7, .mv (.t 1), none⟩,
  ⟨some 8, .bin .add (.t 6) (.t 7), none⟩,
  ⟨some 5, .mv (.t 8), none⟩]
theorem F_ref01_Sumr1_W {T : Tab} {env : Env} {H : Heap} {Q : Post} : W T (.reg F_ref01_Sumr1) env H Q ↔ WR T F_ref01_Sumr1 [
  ⟨some 6, .mv (.t 0), none⟩,
  ⟨some 7, .mv (.t 1), none⟩,
  ⟨some 8, .bin .add (.t 6) (.t 7), none⟩,
  ⟨some 5, .mv (.t 8), none⟩] env H none [] Q := w_reg
def F_ref01_Sumr2 : List IStmt := [
  ⟨some 9, .mv (.t 5), none⟩,
  ⟨some 10, .mv (.t 0), none⟩,
  ⟨some 11, .bin .lss (.t 9) (.t 10), none⟩]
theorem F_ref01_Sumr2_W {T : Tab} {env : Env} {H : Heap} {Q : Post} : W T (.reg F_ref01_Sumr2) env H Q ↔ WR T F_ref01_Sumr2 [
  ⟨some 9, .mv (.t 5), none⟩,
  ⟨some 10, .mv (.t 0), none⟩,
  ⟨some 11, .bin .lss (.t 9) (.t 10), none⟩] env H none [] Q := w_reg
def F_ref01_Sumr3 : List IStmt := [
  ⟨some 12, .mv (.t 5), none⟩,
  ⟨some 13, .bld [.int .u64 0, .int .u64 0] [(0, 1, (.c (.int .u64 1))), (1, 1, (.t 12))], none⟩,
  ⟨none, .store 2 (.t 4) (.t 13), none⟩]
theorem F_ref01_Sumr3_W {T : Tab} {env : Env} {H : Heap} {Q : Post} : W T (.reg F_ref01_Sumr3) env H Q ↔ WR T F_ref01_Sumr3 [
  ⟨some 12, .mv (.t 5), none⟩,
  ⟨some 13, .bld [.int .u64 0, .int .u64 0] [(0, 1, (.c (.int .u64 1))), (1, 1, (.t 12))], none⟩,
  ⟨none, .store 2 (.t 4) (.t 13), none⟩] env H none [] Q := w_reg
def F_ref01_Sumr4 : List IStmt := [
  ⟨some 14, .mv (.t 5), none⟩,
  ⟨some 15, .bld [.int .u64 0, .int .u64 0] [(0, 1, (.c (.int .u64 0))), (1, 1, (.t 14))], none⟩,
  ⟨none, .store 2 (.t 4) (.t 15), none⟩]
theorem F_ref01_Sumr4_W {T : Tab} {env : Env} {H : Heap} {Q : Post} : W T (.reg F_ref01_Sumr4) env H Q ↔ WR T F_ref01_Sumr4 [
  ⟨some 14, .mv (.t 5), none⟩,
  ⟨some 15, .bld [.int .u64 0, .int .u64 0] [(0, 1, (.c (.int .u64 0))), (1, 1, (.t 14))], none⟩,
  ⟨none, .store 2 (.t 4) (.t 15), none⟩] env H none [] Q := w_reg
def F_ref01_Sumc : ICode := (.seq (.reg F_ref01_Sumr0) (.seq (.reg F_ref01_Sumr1) (.seq (.seq (.reg F_ref01_Sumr2) (.cond (.t 11) (.seq (.reg F_ref01_Sumr3) .ret) .skip)) (.seq (.reg F_ref01_Sumr4) .ret))))
theorem F_ref01_Sumc_W {T : Tab} {env : Env} {H : Heap} {Q : Post} : W T F_ref01_Sumc env H Q ↔ W T (.seq (.reg F_ref01_Sumr0) (.seq (.reg F_ref01_Sumr1) (.seq (.seq (.reg F_ref01_Sumr2) (.cond (.t 11) (.seq (.reg F_ref01_Sumr3) .ret) .skip)) (.seq (.reg F_ref01_Sumr4) .ret)))) env H Q := Iff.rfl
def F_ref01_Sum : IFn := ⟨16, [.cell 4 (some 2)], F_ref01_Sumc⟩
set_option maxRecDepth 1000000 in
theorem F_ref01_Sum_chk : chkF Try.prog 35 F_ref01_Sum = true := by kernel_rfl

/-! ### ref01_Less -/
def F_ref01_Lessr0 : List IStmt := [
  ⟨some 2, .box 2 (.t 0), none⟩,
  ⟨some 3, .box 2 (.t 1), none⟩,
  ⟨some 4, .mv (.c (.bool false)), none⟩]
theorem F_ref01_Lessr0_W {T : Tab} {env : Env} {H : Heap} {Q : Post} : W T (.reg F_ref01_Lessr0) env H Q ↔ WR T F_ref01_Lessr0 [
  ⟨some 2, .box 2 (.t 0), none⟩,
  ⟨some 3, .box 2 (.t 1), none⟩,
  ⟨some 4, .mv (.c (.bool false)), none⟩] env H none [] Q := w_reg
def F_ref01_Lessr1 : List IStmt := [
  ⟨some 5, .fa 0 (.t 2), none⟩,
  ⟨some 6, .load (.t 5), none⟩,
  ⟨some 7, .fa 0 (.t 3), none⟩,
  ⟨some 8, .load (.t 7), none⟩,
  ⟨some 9, .bin .lss (.t 6) (.t 8), none⟩,
  ⟨some 10, .mv (.t 9), none⟩,
  ⟨some 11, .fa 0 (.t 2), some (5, false)⟩,
  ⟨some 12, .load (.t 11), some (5, false)⟩,
  ⟨some 13, .fa 0 (.t 3), some (5, false)⟩,
  ⟨some 14, .load (.t 13), some (5, false)⟩,
  ⟨some 15, .bin .eql (.t 12) (.t 14), some (5, false)⟩,
  ⟨some 16, .mv (.t 15), some (5, false)⟩,
  ⟨some 17, .fa 1 (.t 2), some (11, true)⟩,
  ⟨some 18, .load (.t 17), some (11, true)⟩,
  ⟨some 19, .fa 1 (.t 3), some (11, true)⟩,
  ⟨some 20, .load (.t 19), some (11, true)⟩,
  ⟨some 21, .bin .lss (.t 18) (.t 20), some (11, true)⟩,
  ⟨some 22, .pick (.t 16) (.t 21) (.c (.bool false)), some (5, false)⟩,
  ⟨some 23, .pick (.t 10) (.c (.bool true)) (.t 22), none⟩,
  ⟨some 4, .mv (.t 23), none⟩]
theorem F_ref01_Lessr1_W {T : Tab} {env : Env} {H : Heap} {Q : Post} : W T (.reg F_ref01_Lessr1) env H Q ↔ WR T F_ref01_Lessr1 [
  ⟨some 5, .fa 0 (.t 2), none⟩,
  ⟨some 6, .load (.t 5), none⟩,
  ⟨some 7, .fa 0 (.t 3), none⟩,
  ⟨some 8, .load (.t 7), none⟩,
  ⟨some 9, .bin .lss (.t 6) (.t 8), none⟩,
  ⟨some 10, .mv (.t 9), none⟩,
  ⟨some 11, .fa 0 (.t 2), some (5, false)⟩,
  ⟨some 12, .load (.t 11), some (5, false)⟩,
  ⟨some 13, .fa 0 (.t 3), some (5, false)⟩,
  ⟨some 14, .load (.t 13), some (5, false)⟩,
  ⟨some 15, .bin .eql (.t 12) (.t 14), some (5, false)⟩,
  ⟨some 16, .mv (.t 15), some (5, false)⟩,
  ⟨some 17, .fa 1 (.t 2), some (11, true)⟩,
  ⟨some 18, .load (.t 17), some (11, true)⟩,
  ⟨some 19, .fa 1 (.t 3), some (11, true)⟩,
  ⟨some 20, .load (.t 19), some (11, true)⟩,
  ⟨some 21, .bin .lss (.t 18) (.t 20), some (11, true)⟩,
  ⟨some 22, .pick (.t 16) (.t 21) (.c (.bool false)), some (5, false)⟩,
  ⟨some 23, .pick (.t 10) (.c (.bool true)) (.t 22), none⟩,
  ⟨some 4, .mv (.t 23), none⟩] env H none [] Q := w_reg
theorem F_ref01_Lessr1_g5 {env : Env} : yieldI F_ref01_Lessr1 env 5 = bOf (env 10) := rfl
theorem F_ref01_Lessr1_g11 {env : Env} : yieldI F_ref01_Lessr1 env 11 = bOf (env 16) := rfl
def F_ref01_Lessc : ICode := (.seq (.reg F_ref01_Lessr0) (.seq (.reg F_ref01_Lessr1) .ret))
theorem F_ref01_Lessc_W {T : Tab} {env : Env} {H : Heap} {Q : Post} : W T F_ref01_Lessc env H Q ↔ W T (.seq (.reg F_ref01_Lessr0) (.seq (.reg F_ref01_Lessr1) .ret)) env H Q := Iff.rfl
def F_ref01_Less : IFn := ⟨24, [.tmp 4], F_ref01_Lessc⟩
set_option maxRecDepth 1000000 in
theorem F_ref01_Less_chk : chkF Try.prog 36 F_ref01_Less = true := by kernel_rfl

/-! ### ref01_Inside -/
def F_ref01_Insider0 : List IStmt := [
  ⟨some 8, .mv (.c (.bool false)), none⟩]
theorem F_ref01_Insider0_W {T : Tab} {env : Env} {H : Heap} {Q : Post} : W T (.reg F_ref01_Insider0) env H Q ↔ WR T F_ref01_Insider0 [
  ⟨some 8, .mv (.c (.bool false)), none⟩] env H none [] Q := w_reg
def F_ref01_Insider1 : List IStmt := [
  ⟨some 9, .mv (.t 0), none⟩,
  ⟨some 10, .mv (.t 2), none⟩,
  ⟨some 11, .bin .geq (.t 9) (.t 10), none⟩,
  ⟨some 12, .mv (.t 11), none⟩,
  ⟨some 13, .mv (.t 2), some (3, true)⟩,
  ⟨some 14, .mv (.t 3), some (3, true)⟩,
  ⟨some 15, .callc 35 [(.t 13), (.t 14)], some (3, true)⟩,
  ⟨some 16, .mv (.t 0), some (3, true)⟩,
  ⟨some 17, .mv (.t 1), some (3, true)⟩,
  ⟨some 18, .callc 35 [(.t 16), (.t 17)], some (3, true)⟩,
  ⟨some 19, .callc 36 [(.t 15), (.t 18)], some (3, true)⟩,
  ⟨some 20, .un .not (.t 19), some (3, true)⟩,
  ⟨some 21, .pick (.t 12) (.t 20) (.c (.bool false)), none⟩,
  ⟨some 8, .mv (.t 21), none⟩]
theorem F_ref01_Insider1_W {T : Tab} {env : Env} {H : Heap} {Q : Post} : W T (.reg F_ref01_Insider1) env H Q ↔ WR T F_ref01_Insider1 [
  ⟨some 9, .mv (.t 0), none⟩,
  ⟨some 10, .mv (.t 2), none⟩,
  ⟨some 11, .bin .geq (.t 9) (.t 10), none⟩,
  ⟨some 12, .mv (.t 11), none⟩,
  ⟨some 13, .mv (.t 2), some (3, true)⟩,
  ⟨some 14, .mv (.t 3), some (3, true)⟩,
  ⟨some 15, .callc 35 [(.t 13), (.t 14)], some (3, true)⟩,
  ⟨some 16, .mv (.t 0), some (3, true)⟩,
  ⟨some 17, .mv (.t 1), some (3, true)⟩,
  ⟨some 18, .callc 35 [(.t 16), (.t 17)], some (3, true)⟩,
  ⟨some 19, .callc 36 [(.t 15), (.t 18)], some (3, true)⟩,
  ⟨some 20, .un .not (.t 19), some (3, true)⟩,
  ⟨some 21, .pick (.t 12) (.t 20) (.c (.bool false)), none⟩,
  ⟨some 8, .mv (.t 21), none⟩] env H none [] Q := w_reg
theorem F_ref01_Insider1_g3 {env : Env} : yieldI F_ref01_Insider1 env 3 = bOf (env 12) := rfl
def F_ref01_Insidec : ICode := (.seq (.reg F_ref01_Insider0) (.seq (.reg F_ref01_Insider1) .ret))
theorem F_ref01_Insidec_W {T : Tab} {env : Env} {H : Heap} {Q : Post} : W T F_ref01_Insidec env H Q ↔ W T (.seq (.reg F_ref01_Insider0) (.seq (.reg F_ref01_Insider1) .ret)) env H Q := Iff.rfl
def F_ref01_Inside : IFn := ⟨22, [.tmp 8], F_ref01_Insidec⟩
set_option maxRecDepth 1000000 in
theorem F_ref01_Inside_chk : chkF Try.prog 24 F_ref01_Inside = true := by kernel_rfl

/-! ### ref01_Apart -/
def F_ref01_Apartr0 : List IStmt := [
  ⟨some 8, .mv (.c (.bool false)), none⟩]
theorem F_ref01_Apartr0_W {T : Tab} {env : Env} {H : Heap} {Q : Post} : W T (.reg F_ref01_Apartr0) env H Q ↔ WR T F_ref01_Apartr0 [
  ⟨some 8, .mv (.c (.bool false)), none⟩] env H none [] Q := w_reg
def F_ref01_Apartr1 : List IStmt := [
  ⟨some 9, .mv (.t 1), none⟩,
  ⟨some 10, .bin .eql (.t 9) (.c (.int .u64 0)), none⟩,
  ⟨some 11, .mv (.t 10), none⟩,
  ⟨some 12, .mv (.t 3), some (2, false)⟩,
  ⟨some 13, .bin .eql (.t 12) (.c (.int .u64 0)), some (2, false)⟩,
  ⟨some 14, .pick (.t 11) (.c (.bool true)) (.t 13), none⟩,
  ⟨some 15, .mv (.t 14), none⟩,
  ⟨some 16, .mv (.t 0), some (6, false)⟩,
  ⟨some 17, .bld [.int .u64 0, .int .u64 0] [(0, 1, (.c (.int .u64 0))), (1, 1, (.t 16))], some (6, false)⟩,
  ⟨some 18, .mv (.t 2), some (6, false)⟩,
  ⟨some 19, .mv (.t 3), some (6, false)⟩,
  ⟨some 20, .callc 35 [(.t 18), (.t 19)], some (6, false)⟩,
  ⟨some 21, .callc 36 [(.t 17), (.t 20)], some (6, false)⟩,
  ⟨some 22, .un .not (.t 21), some (6, false)⟩,
  ⟨some 23, .pick (.t 15) (.c (.bool true)) (.t 22), none⟩,
  ⟨some 24, .mv (.t 23), none⟩,
  ⟨some 25, .mv (.t 2), some (15, false)⟩,
  ⟨some 26, .bld [.int .u64 0, .int .u64 0] [(0, 1, (.c (.int .u64 0))), (1, 1, (.t 25))], some (15, false)⟩,
  ⟨some 27, .mv (.t 0), some (15, false)⟩,
  ⟨some 28, .mv (.t 1), some (15, false)⟩,
  ⟨some 29, .callc 35 [(.t 27), (.t 28)], some (15, false)⟩,
  ⟨some 30, .callc 36 [(.t 26), (.t 29)], some (15, false)⟩,
  ⟨some 31, .un .not (.t 30), some (15, false)⟩,
  ⟨some 32, .pick (.t 24) (.c (.bool true)) (.t 31), none⟩,
  ⟨some 8, .mv (.t 32), none⟩]
theorem F_ref01_Apartr1_W {T : Tab} {env : Env} {H : Heap} {Q : Post} : W T (.reg F_ref01_Apartr1) env H Q ↔ WR T F_ref01_Apartr1 [
  ⟨some 9, .mv (.t 1), none⟩,
  ⟨some 10, .bin .eql (.t 9) (.c (.int .u64 0)), none⟩,
  ⟨some 11, .mv (.t 10), none⟩,
  ⟨some 12, .mv (.t 3), some (2, false)⟩,
  ⟨some 13, .bin .eql (.t 12) (.c (.int .u64 0)), some (2, false)⟩,
  ⟨some 14, .pick (.t 11) (.c (.bool true)) (.t 13), none⟩,
  ⟨some 15, .mv (.t 14), none⟩,
  ⟨some 16, .mv (.t 0), some (6, false)⟩,
  ⟨some 17, .bld [.int .u64 0, .int .u64 0] [(0, 1, (.c (.int .u64 0))), (1, 1, (.t 16))], some (6, false)⟩,
  ⟨some 18, .mv (.t 2), some (6, false)⟩,
  ⟨some 19, .mv (.t 3), some (6, false)⟩,
  ⟨some 20, .callc 35 [(.t 18), (.t 19)], some (6, false)⟩,
  ⟨some 21, .callc 36 [(.t 17), (.t 20)], some (6, false)⟩,
  ⟨some 22, .un .not (.t 21), some (6, false)⟩,
  ⟨some 23, .pick (.t 15) (.c (.bool true)) (.t 22), none⟩,
  ⟨some 24, .mv (.t 23), none⟩,
  ⟨some 25, .mv (.t 2), some (15, false)⟩,
  ⟨some 26, .bld [.int .u64 0, .int .u64 0] [(0, 1, (.c (.int .u64 0))), (1, 1, (.t 25))], some (15, false)⟩,
  ⟨some 27, .mv (.t 0), some (15, false)⟩,
  ⟨some 28, .mv (.t 1), some (15, false)⟩,
  ⟨some 29, .callc 35 [(.t 27), (.t 28)], some (15, false)⟩,
  ⟨some 30, .callc 36 [(.t 26), (.t 29)], some (15, false)⟩,
  ⟨some 31, .un .not (.t 30), some (15, false)⟩,
  ⟨some 32, .pick (.t 24) (.c (.bool true)) (.t 31), none⟩,
  ⟨some 8, .mv (.t 32), none⟩] env H none [] Q := w_reg
theorem F_ref01_Apartr1_g2 {env : Env} : yieldI F_ref01_Apartr1 env 2 = bOf (env 11) := rfl
theorem F_ref01_Apartr1_g6 {env : Env} : yieldI F_ref01_Apartr1 env 6 = bOf (env 15) := rfl
theorem F_ref01_Apartr1_g15 {env : Env} : yieldI F_ref01_Apartr1 env 15 = bOf (env 24) := rfl
def F_ref01_Apartc : ICode := (.seq (.reg F_ref01_Apartr0) (.seq (.reg F_ref01_Apartr1) .ret))
theorem F_ref01_Apartc_W {T : Tab} {env : Env} {H : Heap} {Q : Post} : W T F_ref01_Apartc env H Q ↔ W T (.seq (.reg F_ref01_Apartr0) (.seq (.reg F_ref01_Apartr1) .ret)) env H Q := Iff.rfl
def F_ref01_Apart : IFn := ⟨33, [.tmp 8], F_ref01_Apartc⟩
set_option maxRecDepth 1000000 in
theorem F_ref01_Apart_chk : chkF Try.prog 26 F_ref01_Apart = true := by kernel_rfl

/-! ### ref01_Hex -/
def F_ref01_Hexr0 : List IStmt := [
  ⟨some 2, .mv (.c (.string ⟨#[]⟩)), none⟩]
theorem F_ref01_Hexr0_W {T : Tab} {env : Env} {H : Heap} {Q : Post} : W T (.reg F_ref01_Hexr0) env H Q ↔ WR T F_ref01_Hexr0 [
  ⟨some 2, .mv (.c (.string ⟨#[]⟩)), none⟩] env H none [] Q := w_reg
def F_ref01_Hexr1 : List IStmt := [
  ⟨some 3, .mv (.c (.string ⟨#[48, 49, 50, 51, 52, 53, 54, 55, 56, 57, 97, 98, 99, 100, 101, 102]⟩)), none⟩]
theorem F_ref01_Hexr1_W {T : Tab} {env : Env} {H : Heap} {Q : Post} : W T (.reg F_ref01_Hexr1) env H Q ↔ WR T F_ref01_Hexr1 [
  ⟨some 3, .mv (.c (.string ⟨#[48, 49, 50, 51, 52, 53, 54, 55, 56, 57, 97, 98, 99, 100, 101, 102]⟩)), none⟩] env H none [] Q := w_reg
def F_ref01_Hexr2 : List IStmt := [
  ⟨some 4, .mv (.c (.string ⟨#[]⟩)), none⟩]
theorem F_ref01_Hexr2_W {T : Tab} {env : Env} {H : Heap} {Q : Post} : W T (.reg F_ref01_Hexr2) env H Q ↔ WR T F_ref01_Hexr2 [
  ⟨some 4, .mv (.c (.string ⟨#[]⟩)), none⟩] env H none [] Q := w_reg
def F_ref01_Hexr3 : List IStmt := [
  ⟨some 5, .mv (.t 0), none⟩,
  ⟨some 6, .bin .gtr (.t 5) (.c (.int .u64 0)), none⟩,
  ⟨some 7, .mv (.t 6), none⟩,
  ⟨some 8, .mv (.t 4), some (2, false)⟩,
  ⟨some 9, .bin .eql (.t 8) (.c (.string ⟨#[]⟩)), some (2, false)⟩,
  ⟨some 10, .pick (.t 7) (.c (.bool true)) (.t 9), none⟩]
theorem F_ref01_Hexr3_W {T : Tab} {env : Env} {H : Heap} {Q : Post} : W T (.reg F_ref01_Hexr3) env H Q ↔ WR T F_ref01_Hexr3 [
  ⟨some 5, .mv (.t 0), none⟩,
  ⟨some 6, .bin .gtr (.t 5) (.c (.int .u64 0)), none⟩,
  ⟨some 7, .mv (.t 6), none⟩,
  ⟨some 8, .mv (.t 4), some (2, false)⟩,
  ⟨some 9, .bin .eql (.t 8) (.c (.string ⟨#[]⟩)), some (2, false)⟩,
  ⟨some 10, .pick (.t 7) (.c (.bool true)) (.t 9), none⟩] env H none [] Q := w_reg
theorem F_ref01_Hexr3_g2 {env : Env} : yieldI F_ref01_Hexr3 env 2 = bOf (env 7) := rfl
def F_ref01_Hexr4 : List IStmt := [
  ⟨some 11, .mv (.t 3), none⟩,
  ⟨some 12, .mv (.t 0), none⟩,
  ⟨some 13, .bin .rem (.t 12) (.c (.int .u64 16)), none⟩,
  ⟨some 14, .mv (.t 0), none⟩,
  ⟨some 15, .bin .rem (.t 14) (.c (.int .u64 16)), none⟩,
  ⟨some 16, .bin .add (.t 15) (.c (.int .u64 1)), none⟩,
  ⟨some 17, .sls (.t 11) (some (.t 13)) (some (.t 16)), none⟩,
  ⟨some 18, .mv (.t 4), none⟩,
  ⟨some 19, .bin .add (.t 17) (.t 18), none⟩,
  ⟨some 4, .mv (.t 19), none⟩]
theorem F_ref01_Hexr4_W {T : Tab} {env : Env} {H : Heap} {Q : Post} : W T (.reg F_ref01_Hexr4) env H Q ↔ WR T F_ref01_Hexr4 [
  ⟨some 11, .mv (.t 3), none⟩,
  ⟨some 12, .mv (.t 0), none⟩,
  ⟨some 13, .bin .rem (.t 12) (.c (.int .u64 16)), none⟩,
  ⟨some 14, .mv (.t 0), none⟩,
  ⟨some 15, .bin .rem (.t 14) (.c (.int .u64 16)), none⟩,
  ⟨some 16, .bin .add (.t 15) (.c (.int .u64 1)), none⟩,
  ⟨some 17, .sls (.t 11) (some (.t 13)) (some (.t 16)), none⟩,
  ⟨some 18, .mv (.t 4), none⟩,
  ⟨some 19, .bin .add (.t 17) (.t 18), none⟩,
  ⟨some 4, .mv (.t 19), none⟩] env H none [] Q := w_reg
def F_ref01_Hexr5 : List IStmt := [
  ⟨some 20, .mv (.t 0), none⟩,
  ⟨some 21, .bin .quo (.t 20) (.c (.int .u64 16)), none⟩,
  ⟨some 0, .mv (.t 21), none⟩]
theorem F_ref01_Hexr5_W {T : Tab} {env : Env} {H : Heap} {Q : Post} : W T (.reg F_ref01_Hexr5) env H Q ↔ WR T F_ref01_Hexr5 [
  ⟨some 20, .mv (.t 0), none⟩,
  ⟨some 21, .bin .quo (.t 20) (.c (.int .u64 16)), none⟩,
  ⟨some 0, .mv (.t 21), none⟩] env H none [] Q := w_reg
def F_ref01_Hexl0 : ICode := (.seq (.seq (.reg F_ref01_Hexr3) (.cond (.t 10) .skip (.exit 0))) (.block 1 (.seq (.reg F_ref01_Hexr4) (.reg F_ref01_Hexr5))))
theorem F_ref01_Hexl0_W {T : Tab} {env : Env} {H : Heap} {Q : Post} : W T F_ref01_Hexl0 env H Q ↔ W T (.seq (.seq (.reg F_ref01_Hexr3) (.cond (.t 10) .skip (.exit 0))) (.block 1 (.seq (.reg F_ref01_Hexr4) (.reg F_ref01_Hexr5)))) env H Q := Iff.rfl
def F_ref01_Hexr6 : List IStmt := [
  ⟨some 22, .mv (.t 4), none⟩,
  ⟨some 23, .bin .add (.c (.string ⟨#[48, 120]⟩)) (.t 22), none⟩,
  ⟨some 2, .mv (.t 23), none⟩]
theorem F_ref01_Hexr6_W {T : Tab} {env : Env} {H : Heap} {Q : Post} : W T (.reg F_ref01_Hexr6) env H Q ↔ WR T F_ref01_Hexr6 [
  ⟨some 22, .mv (.t 4), none⟩,
  ⟨some 23, .bin .add (.c (.string ⟨#[48, 120]⟩)) (.t 22), none⟩,
  ⟨some 2, .mv (.t 23), none⟩] env H none [] Q := w_reg
def F_ref01_Hexc : ICode := (.seq (.reg F_ref01_Hexr0) (.seq (.reg F_ref01_Hexr1) (.seq (.reg F_ref01_Hexr2) (.seq (.block 0 (.loop F_ref01_Hexl0)) (.seq (.reg F_ref01_Hexr6) .ret)))))
theorem F_ref01_Hexc_W {T : Tab} {env : Env} {H : Heap} {Q : Post} : W T F_ref01_Hexc env H Q ↔ W T (.seq (.reg F_ref01_Hexr0) (.seq (.reg F_ref01_Hexr1) (.seq (.reg F_ref01_Hexr2) (.seq (.block 0 (.loop F_ref01_Hexl0)) (.seq (.reg F_ref01_Hexr6) .ret))))) env H Q := Iff.rfl
def F_ref01_Hex : IFn := ⟨24, [.tmp 2], F_ref01_Hexc⟩
set_option maxRecDepth 1000000 in
theorem F_ref01_Hex_chk : chkF Try.prog 30 F_ref01_Hex = true := by kernel_rfl

/-! ### ref01_ParseHex -/
def F_ref01_ParseHexr0 : List IStmt := [
  ⟨some 2, .mv (.c (.int .u64 0)), none⟩,
  ⟨some 3, .mv (.c (.int .i64 0)), none⟩]
theorem F_ref01_ParseHexr0_W {T : Tab} {env : Env} {H : Heap} {Q : Post} : W T (.reg F_ref01_ParseHexr0) env H Q ↔ WR T F_ref01_ParseHexr0 [
  ⟨some 2, .mv (.c (.int .u64 0)), none⟩,
  ⟨some 3, .mv (.c (.int .i64 0)), none⟩] env H none [] Q := w_reg
def F_ref01_ParseHexr1 : List IStmt := [
  ⟨some 4, .mv (.c (.int .u64 0)), none⟩]
theorem F_ref01_ParseHexr1_W {T : Tab} {env : Env} {H : Heap} {Q : Post} : W T (.reg F_ref01_ParseHexr1) env H Q ↔ WR T F_ref01_ParseHexr1 [
  ⟨some 4, .mv (.c (.int .u64 0)), none⟩] env H none [] Q := w_reg
def F_ref01_ParseHexr2 : List IStmt := [
  ⟨some 7, .mv (.t 0), none⟩,
  ⟨some 8, .len 0 (.t 7), none⟩,
  ⟨some 9, .bin .lss (.t 8) (.c (.int .i64 3)), none⟩,
  ⟨some 10, .mv (.t 9), none⟩,
  ⟨some 11, .mv (.t 0), some (3, false)⟩,
  ⟨some 12, .len 0 (.t 11), some (3, false)⟩,
  ⟨some 13, .bin .gtr (.t 12) (.c (.int .i64 18)), some (3, false)⟩,
  ⟨some 14, .pick (.t 10) (.c (.bool true)) (.t 13), none⟩,
  ⟨some 15, .mv (.t 14), none⟩,
  ⟨some 16, .mv (.t 0), some (8, false)⟩,
  ⟨some 17, .ixs (.t 16) (.c (.int .i64 0)), some (8, false)⟩,
  ⟨some 18, .bin .neq (.t 17) (.c (.int .u8 48)), some (8, false)⟩,
  ⟨some 19, .pick (.t 15) (.c (.bool true)) (.t 18), none⟩,
  ⟨some 20, .mv (.t 19), none⟩,
  ⟨some 21, .mv (.t 0), some (13, false)⟩,
  ⟨some 22, .ixs (.t 21) (.c (.int .i64 1)), some (13, false)⟩,
  ⟨some 23, .bin .neq (.t 22) (.c (.int .u8 120)), some (13, false)⟩,
  ⟨some 24, .pick (.t 20) (.c (.bool true)) (.t 23), none⟩]
theorem F_ref01_ParseHexr2_W {T : Tab} {env : Env} {H : Heap} {Q : Post} : W T (.reg F_ref01_ParseHexr2) env H Q ↔ WR T F_ref01_ParseHexr2 [
  ⟨some 7, .mv (.t 0), none⟩,
  ⟨some 8, .len 0 (.t 7), none⟩,
  ⟨some 9, .bin .lss (.t 8) (.c (.int .i64 3)), none⟩,
  ⟨some 10, .mv (.t 9), none⟩,
  ⟨some 11, .mv (.t 0), some (3, false)⟩,
  ⟨some 12, .len 0 (.t 11), some (3, false)⟩,
  ⟨some 13, .bin .gtr (.t 12) (.c (.int .i64 18)), some (3, false)⟩,
  ⟨some 14, .pick (.t 10) (.c (.bool true)) (.t 13), none⟩,
  ⟨some 15, .mv (.t 14), none⟩,
  ⟨some 16, .mv (.t 0), some (8, false)⟩,
  ⟨some 17, .ixs (.t 16) (.c (.int .i64 0)), some (8, false)⟩,
  ⟨some 18, .bin .neq (.t 17) (.c (.int .u8 48)), some (8, false)⟩,
  ⟨some 19, .pick (.t 15) (.c (.bool true)) (.t 18), none⟩,
  ⟨some 20, .mv (.t 19), none⟩,
  ⟨some 21, .mv (.t 0), some (13, false)⟩,
  ⟨some 22, .ixs (.t 21) (.c (.int .i64 1)), some (13, false)⟩,
  ⟨some 23, .bin .neq (.t 22) (.c (.int .u8 120)), some (13, false)⟩,
  ⟨some 24, .pick (.t 20) (.c (.bool true)) (.t 23), none⟩] env H none [] Q := w_reg
theorem F_ref01_ParseHexr2_g3 {env : Env} : yieldI F_ref01_ParseHexr2 env 3 = bOf (env 10) := rfl
theorem F_ref01_ParseHexr2_g8 {env : Env} : yieldI F_ref01_ParseHexr2 env 8 = bOf (env 15) := rfl
theorem F_ref01_ParseHexr2_g13 {env : Env} : yieldI F_ref01_ParseHexr2 env 13 = bOf (env 20) := rfl
def F_ref01_ParseHexr3 : List IStmt := [
  ⟨some 2, .mv (.c (.int .u64 0)), none⟩,
  ⟨some 3, .mv (.c (.int .i64 12)), none⟩]
theorem F_ref01_ParseHexr3_W {T : Tab} {env : Env} {H : Heap} {Q : Post} : W T (.reg F_ref01_ParseHexr3) env H Q ↔ WR T F_ref01_ParseHexr3 [
  ⟨some 2, .mv (.c (.int .u64 0)), none⟩,
  ⟨some 3, .mv (.c (.int .i64 12)), none⟩] env H none [] Q := w_reg
def F_ref01_ParseHexr4 : List IStmt := [
  ⟨some 5, .mv (.c (.int .i64 2)), none⟩]
theorem F_ref01_ParseHexr4_W {T : Tab} {env : Env} {H : Heap} {Q : Post} : W T (.reg F_ref01_ParseHexr4) env H Q ↔ WR T F_ref01_ParseHexr4 [
  ⟨some 5, .mv (.c (.int .i64 2)), none⟩] env H none [] Q := w_reg
def F_ref01_ParseHexr5 : List IStmt := [
  ⟨some 25, .mv (.t 5), none⟩,
  ⟨some 26, .mv (.t 0), none⟩,
  ⟨some 27, .len 0 (.t 26), none⟩,
  ⟨some 28, .bin .lss (.t 25) (.t 27), none⟩]
theorem F_ref01_ParseHexr5_W {T : Tab} {env : Env} {H : Heap} {Q : Post} : W T (.reg F_ref01_ParseHexr5) env H Q ↔ WR T F_ref01_ParseHexr5 [
  ⟨some 25, .mv (.t 5), none⟩,
  ⟨some 26, .mv (.t 0), none⟩,
  ⟨some 27, .len 0 (.t 26), none⟩,
  ⟨some 28, .bin .lss (.t 25) (.t 27), none⟩] env H none [] Q := w_reg
def F_ref01_ParseHexr7 : List IStmt := [
  ⟨some 6, .mv (.c (.int .u64 0)), none⟩]
theorem F_ref01_ParseHexr7_W {T : Tab} {env : Env} {H : Heap} {Q : Post} : W T (.reg F_ref01_ParseHexr7) env H Q ↔ WR T F_ref01_ParseHexr7 [
  ⟨some 6, .mv (.c (.int .u64 0)), none⟩] env H none [] Q := w_reg
def F_ref01_ParseHexr8 : List IStmt := [
  ⟨some 31, .mv (.t 6), none⟩,
  ⟨some 32, .bin .lss (.t 31) (.c (.int .u64 16)), none⟩,
  ⟨some 33, .mv (.t 32), none⟩,
  ⟨some 34, .mv (.t 6), some (2, true)⟩,
  ⟨some 35, .ixs (.c (.string ⟨#[48, 49, 50, 51, 52, 53, 54, 55, 56, 57, 97, 98, 99, 100, 101, 102]⟩)) (.t 34), some (2, true)⟩,
  ⟨some 36, .mv (.t 0), some (2, true)⟩,
  ⟨some 37, .mv (.t 5), some (2, true)⟩,
  ⟨some 38, .ixs (.t 36) (.t 37), some (2, true)⟩,
  ⟨some 39, .bin .neq (.t 35) (.t 38), some (2, true)⟩,
  ⟨some 40, .pick (.t 33) (.t 39) (.c (.bool false)), none⟩]
theorem F_ref01_ParseHexr8_g2 {env : Env} : yieldI F_ref01_ParseHexr8 env 2 = bOf (env 33) := rfl
theorem F_ref01_ParseHexr8_W {T : Tab} {env : Env} {H : Heap} {Q : Post} : W T (.dreg F_ref01_ParseHexr8 []) env H Q ↔ WR T F_ref01_ParseHexr8 [
  ⟨some 31, .mv (.t 6), none⟩,
  ⟨some 32, .bin .lss (.t 31) (.c (.int .u64 16)), none⟩,
  ⟨some 33, .mv (.t 32), none⟩,
  ⟨some 34, .mv (.t 6), some (2, true)⟩,
  ⟨some 35, .ixs (.c (.string ⟨#[48, 49, 50, 51, 52, 53, 54, 55, 56, 57, 97, 98, 99, 100, 101, 102]⟩)) (.t 34), some (2, true)⟩,
  ⟨some 36, .mv (.t 0), some (2, true)⟩,
  ⟨some 37, .mv (.t 5), some (2, true)⟩,
  ⟨some 38, .ixs (.t 36) (.t 37), some (2, true)⟩,
  ⟨some 39, .bin .neq (.t 35) (.t 38), some (2, true)⟩,
  ⟨some 40, .pick (.t 33) (.t 39) (.c (.bool false)), none⟩] env H none [] Q := w_dreg0
def F_ref01_ParseHexr9 : List IStmt := [
  ⟨some 41, .mv (.t 6), none⟩,
  ⟨some 42, .bin .add (.t 41) (.c (.int .u64 1)), none⟩,
  ⟨some 6, .mv (.t 42), none⟩]
theorem F_ref01_ParseHexr9_W {T : Tab} {env : Env} {H : Heap} {Q : Post} : W T (.reg F_ref01_ParseHexr9) env H Q ↔ WR T F_ref01_ParseHexr9 [
  ⟨some 41, .mv (.t 6), none⟩,
  ⟨some 42, .bin .add (.t 41) (.c (.int .u64 1)), none⟩,
  ⟨some 6, .mv (.t 42), none⟩] env H none [] Q := w_reg
def F_ref01_ParseHexl1 : ICode := (.seq (.seq (.dreg F_ref01_ParseHexr8 []) (.cond (.t 40) .skip (.exit 2))) (.block 3 (.reg F_ref01_ParseHexr9)))
theorem F_ref01_ParseHexl1_W {T : Tab} {env : Env} {H : Heap} {Q : Post} : W T F_ref01_ParseHexl1 env H Q ↔ W T (.seq (.seq (.dreg F_ref01_ParseHexr8 []) (.cond (.t 40) .skip (.exit 2))) (.block 3 (.reg F_ref01_ParseHexr9))) env H Q := Iff.rfl
def F_ref01_ParseHexr10 : List IStmt := [
  ⟨some 43, .mv (.t 6), none⟩,
  ⟨some 44, .bin .eql (.t 43) (.c (.int .u64 16)), none⟩]
theorem F_ref01_ParseHexr10_W {T : Tab} {env : Env} {H : Heap} {Q : Post} : W T (.reg F_ref01_ParseHexr10) env H Q ↔ WR T F_ref01_ParseHexr10 [
  ⟨some 43, .mv (.t 6), none⟩,
  ⟨some 44, .bin .eql (.t 43) (.c (.int .u64 16)), none⟩] env H none [] Q := w_reg
def F_ref01_ParseHexr11 : List IStmt := [
  ⟨some 2, .mv (.c (.int .u64 0)), none⟩,
  ⟨some 3, .mv (.c (.int .i64 12)), none⟩]
theorem F_ref01_ParseHexr11_W {T : Tab} {env : Env} {H : Heap} {Q : Post} : W T (.reg F_ref01_ParseHexr11) env H Q ↔ WR T F_ref01_ParseHexr11 [
  ⟨some 2, .mv (.c (.int .u64 0)), none⟩,
  ⟨some 3, .mv (.c (.int .i64 12)), none⟩] env H none [] Q := w_reg
def F_ref01_ParseHexr12 : List IStmt := [
  ⟨some 45, .mv (.t 4), none⟩,
  ⟨some 46, .bin .mul (.t 45) (.c (.int .u64 16)), none⟩,
  ⟨some 47, .mv (.t 6), none⟩,
  ⟨some 48, .bin .add (.t 46) (.t 47), none⟩,
  ⟨some 4, .mv (.t 48), none⟩]
theorem F_ref01_ParseHexr12_W {T : Tab} {env : Env} {H : Heap} {Q : Post} : W T (.reg F_ref01_ParseHexr12) env H Q ↔ WR T F_ref01_ParseHexr12 [
  ⟨some 45, .mv (.t 4), none⟩,
  ⟨some 46, .bin .mul (.t 45) (.c (.int .u64 16)), none⟩,
  ⟨some 47, .mv (.t 6), none⟩,
  ⟨some 48, .bin .add (.t 46) (.t 47), none⟩,
  ⟨some 4, .mv (.t 48), none⟩] env H none [] Q := w_reg
def F_ref01_ParseHexr6 : List IStmt := [
  ⟨some 29, .mv (.t 5), none⟩,
  ⟨some 30, .bin .add (.t 29) (.c (.int .i64 1)), none⟩,
  ⟨some 5, .mv (.t 30), none⟩]
theorem F_ref01_ParseHexr6_W {T : Tab} {env : Env} {H : Heap} {Q : Post} : W T (.reg F_ref01_ParseHexr6) env H Q ↔ WR T F_ref01_ParseHexr6 [
  ⟨some 29, .mv (.t 5), none⟩,
  ⟨some 30, .bin .add (.t 29) (.c (.int .i64 1)), none⟩,
  ⟨some 5, .mv (.t 30), none⟩] env H none [] Q := w_reg
def F_ref01_ParseHexl0 : ICode := (.seq (.seq (.reg F_ref01_ParseHexr5) (.cond (.t 28) .skip (.exit 0))) (.seq (.block 1 (.seq (.reg F_ref01_ParseHexr7) (.seq (.block 2 (.loop F_ref01_ParseHexl1)) (.seq (.seq (.reg F_ref01_ParseHexr10) (.cond (.t 44) (.seq (.reg F_ref01_ParseHexr11) .ret) .skip)) (.reg F_ref01_ParseHexr12))))) (.reg F_ref01_ParseHexr6)))
theorem F_ref01_ParseHexl0_W {T : Tab} {env : Env} {H : Heap} {Q : Post} : W T F_ref01_ParseHexl0 env H Q ↔ W T (.seq (.seq (.reg F_ref01_ParseHexr5) (.cond (.t 28) .skip (.exit 0))) (.seq (.block 1 (.seq (.reg F_ref01_ParseHexr7) (.seq (.block 2 (.loop F_ref01_ParseHexl1)) (.seq (.seq (.reg F_ref01_ParseHexr10) (.cond (.t 44) (.seq (.reg F_ref01_ParseHexr11) .ret) .skip)) (.reg F_ref01_ParseHexr12))))) (.reg F_ref01_ParseHexr6))) env H Q := Iff.rfl
def F_ref01_ParseHexr13 : List IStmt := [
  ⟨some 49, .mv (.t 4), none⟩,
  ⟨some 50, .callc 30 [(.t 49)], none⟩,
  ⟨some 51, .mv (.t 0), none⟩,
  ⟨some 52, .bin .neq (.t 50) (.t 51), none⟩]
theorem F_ref01_ParseHexr13_W {T : Tab} {env : Env} {H : Heap} {Q : Post} : W T (.reg F_ref01_ParseHexr13) env H Q ↔ WR T F_ref01_ParseHexr13 [
  ⟨some 49, .mv (.t 4), none⟩,
  ⟨some 50, .callc 30 [(.t 49)], none⟩,
  ⟨some 51, .mv (.t 0), none⟩,
  ⟨some 52, .bin .neq (.t 50) (.t 51), none⟩] env H none [] Q := w_reg
def F_ref01_ParseHexr14 : List IStmt := [
  ⟨some 2, .mv (.c (.int .u64 0)), none⟩,
  ⟨some 3, .mv (.c (.int .i64 12)), none⟩]
theorem F_ref01_ParseHexr14_W {T : Tab} {env : Env} {H : Heap} {Q : Post} : W T (.reg F_ref01_ParseHexr14) env H Q ↔ WR T F_ref01_ParseHexr14 [
  ⟨some 2, .mv (.c (.int .u64 0)), none⟩,
  ⟨some 3, .mv (.c (.int .i64 12)), none⟩] env H none [] Q := w_reg
def F_ref01_ParseHexr15 : List IStmt := [
  ⟨some 53, .mv (.t 4), none⟩,
  ⟨some 2, .mv (.t 53), none⟩,
  ⟨some 3, .mv (.c (.int .i64 0)), none⟩]
theorem F_ref01_ParseHexr15_W {T : Tab} {env : Env} {H : Heap} {Q : Post} : W T (.reg F_ref01_ParseHexr15) env H Q ↔ WR T F_ref01_ParseHexr15 [
  ⟨some 53, .mv (.t 4), none⟩,
  ⟨some 2, .mv (.t 53), none⟩,
  ⟨some 3, .mv (.c (.int .i64 0)), none⟩] env H none [] Q := w_reg
def F_ref01_ParseHexc : ICode := (.seq (.reg F_ref01_ParseHexr0) (.seq (.reg F_ref01_ParseHexr1) (.seq (.seq (.reg F_ref01_ParseHexr2) (.cond (.t 24) (.seq (.reg F_ref01_ParseHexr3) .ret) .skip)) (.seq (.seq (.reg F_ref01_ParseHexr4) (.block 0 (.loop F_ref01_ParseHexl0))) (.seq (.seq (.reg F_ref01_ParseHexr13) (.cond (.t 52) (.seq (.reg F_ref01_ParseHexr14) .ret) .skip)) (.seq (.reg F_ref01_ParseHexr15) .ret))))))
theorem F_ref01_ParseHexc_W {T : Tab} {env : Env} {H : Heap} {Q : Post} : W T F_ref01_ParseHexc env H Q ↔ W T (.seq (.reg F_ref01_ParseHexr0) (.seq (.reg F_ref01_ParseHexr1) (.seq (.seq (.reg F_ref01_ParseHexr2) (.cond (.t 24) (.seq (.reg F_ref01_ParseHexr3) .ret) .skip)) (.seq (.seq (.reg F_ref01_ParseHexr4) (.block 0 (.loop F_ref01_ParseHexl0))) (.seq (.seq (.reg F_ref01_ParseHexr13) (.cond (.t 52) (.seq (.reg F_ref01_ParseHexr14) .ret) .skip)) (.seq (.reg F_ref01_ParseHexr15) .ret)))))) env H Q := Iff.rfl
def F_ref01_ParseHex : IFn := ⟨54, [.tmp 2, .tmp 3], F_ref01_ParseHexc⟩
set_option maxRecDepth 1000000 in
theorem F_ref01_ParseHex_chk : chkF Try.prog 28 F_ref01_ParseHex = true := by kernel_rfl

/-! ### law01_alive -/
def F_law01_aliver0 : List IStmt := [
  ⟨some 0, .mv (.c (.bool false)), none⟩]
theorem F_law01_aliver0_W {T : Tab} {env : Env} {H : Heap} {Q : Post} : W T (.reg F_law01_aliver0) env H Q ↔ WR T F_law01_aliver0 [
  ⟨some 0, .mv (.c (.bool false)), none⟩] env H none [] Q := w_reg
def F_law01_aliver1 : List IStmt := [
  ⟨some 6, .callc 19 [(.c (.int .u64 257)), (.c (.int .u64 256))], none⟩,
  ⟨some 5, .mv (.t 6), none⟩,
  ⟨some 7, .ext (.t 5) 0, none⟩,
  ⟨some 8, .ext (.t 5) 1, none⟩,
  ⟨some 1, .mv (.t 7), none⟩,
  ⟨some 2, .mv (.t 8), none⟩]
theorem F_law01_aliver1_W {T : Tab} {env : Env} {H : Heap} {Q : Post} : W T (.reg F_law01_aliver1) env H Q ↔ WR T F_law01_aliver1 [
  ⟨some 6, .callc 19 [(.c (.int .u64 257)), (.c (.int .u64 256))], none⟩,
  ⟨some 5, .mv (.t 6), none⟩,
  ⟨some 7, .ext (.t 5) 0, none⟩,
  ⟨some 8, .ext (.t 5) 1, none⟩,
  ⟨some 1, .mv (.t 7), none⟩,
  ⟨some 2, .mv (.t 8), none⟩] env H none [] Q := w_reg
def F_law01_aliver2 : List IStmt := [
  ⟨some 10, .callc 27 [(.c (.string ⟨#[48, 120, 49, 48, 48, 48]⟩))], none⟩,
  ⟨some 9, .mv (.t 10), none⟩,
  ⟨some 11, .ext (.t 9) 0, none⟩,
  ⟨some 12, .ext (.t 9) 1, none⟩,
  ⟨some 3, .mv (.t 11), none⟩,
  ⟨some 4, .mv (.t 12), none⟩]
theorem F_law01_aliver2_W {T : Tab} {env : Env} {H : Heap} {Q : Post} : W T (.reg F_law01_aliver2) env H Q ↔ WR T F_law01_aliver2 [
  ⟨some 10, .callc 27 [(.c (.string ⟨#[48, 120, 49, 48, 48, 48]⟩))], none⟩,
  ⟨some 9, .mv (.t 10), none⟩,
  ⟨some 11, .ext (.t 9) 0, none⟩,
  ⟨some 12, .ext (.t 9) 1, none⟩,
  ⟨some 3, .mv (.t 11), none⟩,
  ⟨some 4, .mv (.t 12), none⟩] env H none [] Q := w_reg
def F_law01_aliver3 : List IStmt := [
  ⟨some 13, .mv (.t 2), none⟩,
  ⟨some 14, .bin .eql (.t 13) (.c (.int .i64 0)), none⟩,
  ⟨some 15, .mv (.t 14), none⟩,
  ⟨some 16, .mv (.t 1), some (2, true)⟩,
  ⟨some 17, .bin .eql (.t 16) (.c (.int .u64 512)), some (2, true)⟩,
  ⟨some 18, .pick (.t 15) (.t 17) (.c (.bool false)), none⟩,
  ⟨some 19, .mv (.t 18), none⟩,
  ⟨some 20, .mv (.t 4), some (6, true)⟩,
  ⟨some 21, .bin .eql (.t 20) (.c (.int .i64 0)), some (6, true)⟩,
  ⟨some 22, .pick (.t 19) (.t 21) (.c (.bool false)), none⟩,
  ⟨some 23, .mv (.t 22), none⟩,
  ⟨some 24, .mv (.t 3), some (10, true)⟩,
  ⟨some 25, .bin .eql (.t 24) (.c (.int .u64 4096)), some (10, true)⟩,
  ⟨some 26, .pick (.t 23) (.t 25) (.c (.bool false)), none⟩,
  ⟨some 27, .mv (.t 26), none⟩,
  ⟨some 28, .callc 23 [(.c (.int .u64 10)), (.c (.int .u64 5)), (.c (.int .u64 8)), (.c (.int .u64 7))], some (14, true)⟩,
  ⟨some 29, .pick (.t 27) (.t 28) (.c (.bool false)), none⟩,
  ⟨some 30, .mv (.t 29), none⟩,
  ⟨some 31, .callc 23 [(.c (.int .u64 10)), (.c (.int .u64 6)), (.c (.int .u64 8)), (.c (.int .u64 7))], some (17, true)⟩,
  ⟨some 32, .un .not (.t 31), some (17, true)⟩,
  ⟨some 33, .pick (.t 30) (.t 32) (.c (.bool false)), none⟩,
  ⟨some 34, .mv (.t 33), none⟩,
  ⟨some 35, .callc 33 [(.c (.int .i64 7))], some (21, true)⟩,
  ⟨some 36, .bin .eql (.t 35) (.c (.string ⟨#[55]⟩)), some (21, true)⟩,
  ⟨some 37, .pick (.t 34) (.t 36) (.c (.bool false)), none⟩,
  ⟨some 0, .mv (.t 37), none⟩]
theorem F_law01_aliver3_W {T : Tab} {env : Env} {H : Heap} {Q : Post} : W T (.reg F_law01_aliver3) env H Q ↔ WR T F_law01_aliver3 [
  ⟨some 13, .mv (.t 2), none⟩,
  ⟨some 14, .bin .eql (.t 13) (.c (.int .i64 0)), none⟩,
  ⟨some 15, .mv (.t 14), none⟩,
  ⟨some 16, .mv (.t 1), some (2, true)⟩,
  ⟨some 17, .bin .eql (.t 16) (.c (.int .u64 512)), some (2, true)⟩,
  ⟨some 18, .pick (.t 15) (.t 17) (.c (.bool false)), none⟩,
  ⟨some 19, .mv (.t 18), none⟩,
  ⟨some 20, .mv (.t 4), some (6, true)⟩,
  ⟨some 21, .bin .eql (.t 20) (.c (.int .i64 0)), some (6, true)⟩,
  ⟨some 22, .pick (.t 19) (.t 21) (.c (.bool false)), none⟩,
  ⟨some 23, .mv (.t 22), none⟩,
  ⟨some 24, .mv (.t 3), some (10, true)⟩,
  ⟨some 25, .bin .eql (.t 24) (.c (.int .u64 4096)), some (10, true)⟩,
  ⟨some 26, .pick (.t 23) (.t 25) (.c (.bool false)), none⟩,
  ⟨some 27, .mv (.t 26), none⟩,
  ⟨some 28, .callc 23 [(.c (.int .u64 10)), (.c (.int .u64 5)), (.c (.int .u64 8)), (.c (.int .u64 7))], some (14, true)⟩,
  ⟨some 29, .pick (.t 27) (.t 28) (.c (.bool false)), none⟩,
  ⟨some 30, .mv (.t 29), none⟩,
  ⟨some 31, .callc 23 [(.c (.int .u64 10)), (.c (.int .u64 6)), (.c (.int .u64 8)), (.c (.int .u64 7))], some (17, true)⟩,
  ⟨some 32, .un .not (.t 31), some (17, true)⟩,
  ⟨some 33, .pick (.t 30) (.t 32) (.c (.bool false)), none⟩,
  ⟨some 34, .mv (.t 33), none⟩,
  ⟨some 35, .callc 33 [(.c (.int .i64 7))], some (21, true)⟩,
  ⟨some 36, .bin .eql (.t 35) (.c (.string ⟨#[55]⟩)), some (21, true)⟩,
  ⟨some 37, .pick (.t 34) (.t 36) (.c (.bool false)), none⟩,
  ⟨some 0, .mv (.t 37), none⟩] env H none [] Q := w_reg
theorem F_law01_aliver3_g2 {env : Env} : yieldI F_law01_aliver3 env 2 = bOf (env 15) := rfl
theorem F_law01_aliver3_g6 {env : Env} : yieldI F_law01_aliver3 env 6 = bOf (env 19) := rfl
theorem F_law01_aliver3_g10 {env : Env} : yieldI F_law01_aliver3 env 10 = bOf (env 23) := rfl
theorem F_law01_aliver3_g14 {env : Env} : yieldI F_law01_aliver3 env 14 = bOf (env 27) := rfl
theorem F_law01_aliver3_g17 {env : Env} : yieldI F_law01_aliver3 env 17 = bOf (env 30) := rfl
theorem F_law01_aliver3_g21 {env : Env} : yieldI F_law01_aliver3 env 21 = bOf (env 34) := rfl
def F_law01_alivec : ICode := (.seq (.reg F_law01_aliver0) (.seq (.reg F_law01_aliver1) (.seq (.reg F_law01_aliver2) (.seq (.reg F_law01_aliver3) .ret))))
theorem F_law01_alivec_W {T : Tab} {env : Env} {H : Heap} {Q : Post} : W T F_law01_alivec env H Q ↔ W T (.seq (.reg F_law01_aliver0) (.seq (.reg F_law01_aliver1) (.seq (.reg F_law01_aliver2) (.seq (.reg F_law01_aliver3) .ret)))) env H Q := Iff.rfl
def F_law01_alive : IFn := ⟨38, [.tmp 0], F_law01_alivec⟩
set_option maxRecDepth 1000000 in
theorem F_law01_alive_chk : chkF Try.prog 12 F_law01_alive = true := by kernel_rfl

/-! ### law01_NumInside -/
def F_law01_NumInsider0 : List IStmt := [
  ⟨some 1, .box 4 (.t 0), none⟩,
  ⟨some 2, .mv (.c (.bool false)), none⟩]
theorem F_law01_NumInsider0_W {T : Tab} {env : Env} {H : Heap} {Q : Post} : W T (.reg F_law01_NumInsider0) env H Q ↔ WR T F_law01_NumInsider0 [
  ⟨some 1, .box 4 (.t 0), none⟩,
  ⟨some 2, .mv (.c (.bool false)), none⟩] env H none [] Q := w_reg
def F_law01_NumInsider1 : List IStmt := [
  ⟨some 3, .fa 0 (.t 1), none⟩,
  ⟨some 4, .load (.t 3), none⟩,
  ⟨some 5, .fa 1 (.t 1), none⟩,
  ⟨some 6, .load (.t 5), none⟩,
  ⟨some 7, .fa 2 (.t 1), none⟩,
  ⟨some 8, .load (.t 7), none⟩,
  ⟨some 9, .fa 3 (.t 1), none⟩,
  ⟨some 10, .load (.t 9), none⟩,
  ⟨some 11, .callc 23 [(.t 4), (.t 6), (.t 8), (.t 10)], none⟩,
  ⟨some 12, .fa 0 (.t 1), none⟩,
  ⟨some 13, .load (.t 12), none⟩,
  ⟨some 14, .fa 1 (.t 1), none⟩,
  ⟨some 15, .load (.t 14), none⟩,
  ⟨some 16, .fa 2 (.t 1), none⟩,
  ⟨some 17, .load (.t 16), none⟩,
  ⟨some 18, .fa 3 (.t 1), none⟩,
  ⟨some 19, .load (.t 18), none⟩,
  ⟨some 20, .callc 24 [(.t 13), (.t 15), (.t 17), (.t 19)], none⟩,
  ⟨some 21, .eqb false (.t 11) (.t 20), none⟩,
  ⟨some 22, .mv (.t 21), none⟩,
  ⟨some 23, .fa 0 (.t 1), some (19, true)⟩,
  ⟨some 24, .load (.t 23), some (19, true)⟩,
  ⟨some 25, .fa 1 (.t 1), some (19, true)⟩,
  ⟨some 26, .load (.t 25), some (19, true)⟩,
  ⟨some 27, .fa 2 (.t 1), some (19, true)⟩,
  ⟨some 28, .load (.t 27), some (19, true)⟩,
  ⟨some 29, .fa 3 (.t 1), some (19, true)⟩,
  ⟨some 30, .load (.t 29), some (19, true)⟩,
  ⟨some 31, .callc 25 [(.t 24), (.t 26), (.t 28), (.t 30)], some (19, true)⟩,
  ⟨some 32, .fa 0 (.t 1), some (19, true)⟩,
  ⟨some 33, .load (.t 32), some (19, true)⟩,
  ⟨some 34, .fa 1 (.t 1), some (19, true)⟩,
  ⟨some 35, .load (.t 34), some (19, true)⟩,
  ⟨some 36, .fa 2 (.t 1), some (19, true)⟩,
  ⟨some 37, .load (.t 36), some (19, true)⟩,
  ⟨some 38, .fa 3 (.t 1), some (19, true)⟩,
  ⟨some 39, .load (.t 38), some (19, true)⟩,
  ⟨some 40, .callc 26 [(.t 33), (.t 35), (.t 37), (.t 39)], some (19, true)⟩,
  ⟨some 41, .eqb false (.t 31) (.t 40), some (19, true)⟩,
  ⟨some 42, .pick (.t 22) (.t 41) (.c (.bool false)), none⟩,
  ⟨some 43, .mv (.t 42), none⟩,
  ⟨some 44, .fa 0 (.t 1), some (40, true)⟩,
  ⟨some 45, .load (.t 44), some (40, true)⟩,
  ⟨some 46, .fa 1 (.t 1), some (40, true)⟩,
  ⟨some 47, .load (.t 46), some (40, true)⟩,
  ⟨some 48, .fa 2 (.t 1), some (40, true)⟩,
  ⟨some 49, .load (.t 48), some (40, true)⟩,
  ⟨some 50, .fa 3 (.t 1), some (40, true)⟩,
  ⟨some 51, .load (.t 50), some (40, true)⟩,
  ⟨some 52, .callc 25 [(.t 45), (.t 47), (.t 49), (.t 51)], some (40, true)⟩,
  ⟨some 53, .fa 2 (.t 1), some (40, true)⟩,
  ⟨some 54, .load (.t 53), some (40, true)⟩,
  ⟨some 55, .fa 3 (.t 1), some (40, true)⟩,
  ⟨some 56, .load (.t 55), some (40, true)⟩,
  ⟨some 57, .fa 0 (.t 1), some (40, true)⟩,
  ⟨some 58, .load (.t 57), some (40, true)⟩,
  ⟨some 59, .fa 1 (.t 1), some (40, true)⟩,
  ⟨some 60, .load (.t 59), some (40, true)⟩,
  ⟨some 61, .callc 25 [(.t 54), (.t 56), (.t 58), (.t 60)], some (40, true)⟩,
  ⟨some 62, .eqb false (.t 52) (.t 61), some (40, true)⟩,
  ⟨some 63, .pick (.t 43) (.t 62) (.c (.bool false)), none⟩,
  ⟨some 64, .mv (.t 63), none⟩,
  ⟨some 65, .callc 12 [], some (61, true)⟩,
  ⟨some 66, .pick (.t 64) (.t 65) (.c (.bool false)), none⟩,
  ⟨some 2, .mv (.t 66), none⟩]
theorem F_law01_NumInsider1_g19 {env : Env} : yieldI F_law01_NumInsider1 env 19 = bOf (env 22) := rfl
theorem F_law01_NumInsider1_g40 {env : Env} : yieldI F_law01_NumInsider1 env 40 = bOf (env 43) := rfl
theorem F_law01_NumInsider1_g61 {env : Env} : yieldI F_law01_NumInsider1 env 61 = bOf (env 64) := rfl
theorem F_law01_NumInsider1_W {T : Tab} {env : Env} {H : Heap} {Q : Post} : W T (.dreg F_law01_NumInsider1 []) env H Q ↔ WR T F_law01_NumInsider1 [
  ⟨some 3, .fa 0 (.t 1), none⟩,
  ⟨some 4, .load (.t 3), none⟩,
  ⟨some 5, .fa 1 (.t 1), none⟩,
  ⟨some 6, .load (.t 5), none⟩,
  ⟨some 7, .fa 2 (.t 1), none⟩,
  ⟨some 8, .load (.t 7), none⟩,
  ⟨some 9, .fa 3 (.t 1), none⟩,
  ⟨some 10, .load (.t 9), none⟩,
  ⟨some 11, .callc 23 [(.t 4), (.t 6), (.t 8), (.t 10)], none⟩,
  ⟨some 12, .fa 0 (.t 1), none⟩,
  ⟨some 13, .load (.t 12), none⟩,
  ⟨some 14, .fa 1 (.t 1), none⟩,
  ⟨some 15, .load (.t 14), none⟩,
  ⟨some 16, .fa 2 (.t 1), none⟩,
  ⟨some 17, .load (.t 16), none⟩,
  ⟨some 18, .fa 3 (.t 1), none⟩,
  ⟨some 19, .load (.t 18), none⟩,
  ⟨some 20, .callc 24 [(.t 13), (.t 15), (.t 17), (.t 19)], none⟩,
  ⟨some 21, .eqb false (.t 11) (.t 20), none⟩,
  ⟨some 22, .mv (.t 21), none⟩,
  ⟨some 23, .fa 0 (.t 1), some (19, true)⟩,
  ⟨some 24, .load (.t 23), some (19, true)⟩,
  ⟨some 25, .fa 1 (.t 1), some (19, true)⟩,
  ⟨some 26, .load (.t 25), some (19, true)⟩,
  ⟨some 27, .fa 2 (.t 1), some (19, true)⟩,
  ⟨some 28, .load (.t 27), some (19, true)⟩,
  ⟨some 29, .fa 3 (.t 1), some (19, true)⟩,
  ⟨some 30, .load (.t 29), some (19, true)⟩,
  ⟨some 31, .callc 25 [(.t 24), (.t 26), (.t 28), (.t 30)], some (19, true)⟩,
  ⟨some 32, .fa 0 (.t 1), some (19, true)⟩,
  ⟨some 33, .load (.t 32), some (19, true)⟩,
  ⟨some 34, .fa 1 (.t 1), some (19, true)⟩,
  ⟨some 35, .load (.t 34), some (19, true)⟩,
  ⟨some 36, .fa 2 (.t 1), some (19, true)⟩,
  ⟨some 37, .load (.t 36), some (19, true)⟩,
  ⟨some 38, .fa 3 (.t 1), some (19, true)⟩,
  ⟨some 39, .load (.t 38), some (19, true)⟩,
  ⟨some 40, .callc 26 [(.t 33), (.t 35), (.t 37), (.t 39)], some (19, true)⟩,
  ⟨some 41, .eqb false (.t 31) (.t 40), some (19, true)⟩,
  ⟨some 42, .pick (.t 22) (.t 41) (.c (.bool false)), none⟩,
  ⟨some 43, .mv (.t 42), none⟩,
  ⟨some 44, .fa 0 (.t 1), some (40, true)⟩,
  ⟨some 45, .load (.t 44), some (40, true)⟩,
  ⟨some 46, .fa 1 (.t 1), some (40, true)⟩,
  ⟨some 47, .load (.t 46), some (40, true)⟩,
  ⟨some 48, .fa 2 (.t 1), some (40, true)⟩,
  ⟨some 49, .load (.t 48), some (40, true)⟩,
  ⟨some 50, .fa 3 (.t 1), some (40, true)⟩,
  ⟨some 51, .load (.t 50), some (40, true)⟩,
  ⟨some 52, .callc 25 [(.t 45), (.t 47), (.t 49), (.t 51)], some (40, true)⟩,
  ⟨some 53, .fa 2 (.t 1), some (40, true)⟩,
  ⟨some 54, .load (.t 53), some (40, true)⟩,
  ⟨some 55, .fa 3 (.t 1), some (40, true)⟩,
  ⟨some 56, .load (.t 55), some (40, true)⟩,
  ⟨some 57, .fa 0 (.t 1), some (40, true)⟩,
  ⟨some 58, .load (.t 57), some (40, true)⟩,
  ⟨some 59, .fa 1 (.t 1), some (40, true)⟩,
  ⟨some 60, .load (.t 59), some (40, true)⟩,
  ⟨some 61, .callc 25 [(.t 54), (.t 56), (.t 58), (.t 60)], some (40, true)⟩,
  ⟨some 62, .eqb false (.t 52) (.t 61), some (40, true)⟩,
  ⟨some 63, .pick (.t 43) (.t 62) (.c (.bool false)), none⟩,
  ⟨some 64, .mv (.t 63), none⟩,
  ⟨some 65, .callc 12 [], some (61, true)⟩,
  ⟨some 66, .pick (.t 64) (.t 65) (.c (.bool false)), none⟩,
  ⟨some 2, .mv (.t 66), none⟩] env H none [] Q := w_dreg0
def F_law01_NumInsidec : ICode := (.seq (.reg F_law01_NumInsider0) (.seq (.dreg F_law01_NumInsider1 []) .ret))
theorem F_law01_NumInsidec_W {T : Tab} {env : Env} {H : Heap} {Q : Post} : W T F_law01_NumInsidec env H Q ↔ W T (.seq (.reg F_law01_NumInsider0) (.seq (.dreg F_law01_NumInsider1 []) .ret)) env H Q := Iff.rfl
def F_law01_NumInside : IFn := ⟨67, [.tmp 2], F_law01_NumInsidec⟩
set_option maxRecDepth 1000000 in
theorem F_law01_NumInside_chk : chkF Try.prog 7 F_law01_NumInside = true := by kernel_rfl

/-! ### law01_NumMoves -/
def F_law01_NumMovesr0 : List IStmt := [
  ⟨some 2, .box 4 (.t 0), none⟩,
  ⟨some 4, .mv (.c (.bool false)), none⟩]
theorem F_law01_NumMovesr0_W {T : Tab} {env : Env} {H : Heap} {Q : Post} : W T (.reg F_law01_NumMovesr0) env H Q ↔ WR T F_law01_NumMovesr0 [
  ⟨some 2, .box 4 (.t 0), none⟩,
  ⟨some 4, .mv (.c (.bool false)), none⟩] env H none [] Q := w_reg
def F_law01_NumMovesr1 : List IStmt := [
  ⟨some 5, .mv (.t 1), none⟩,
  ⟨some 6, .fa 0 (.t 2), none⟩,
  ⟨some 7, .load (.t 6), none⟩,
  ⟨some 8, .bin .sub (.c (.int .u64 18446744073709551615)) (.t 7), none⟩,
  ⟨some 9, .bin .gtr (.t 5) (.t 8), none⟩,
  ⟨some 10, .mv (.t 9), none⟩,
  ⟨some 11, .mv (.t 1), some (5, false)⟩,
  ⟨some 12, .fa 2 (.t 2), some (5, false)⟩,
  ⟨some 13, .load (.t 12), some (5, false)⟩,
  ⟨some 14, .bin .sub (.c (.int .u64 18446744073709551615)) (.t 13), some (5, false)⟩,
  ⟨some 15, .bin .gtr (.t 11) (.t 14), some (5, false)⟩,
  ⟨some 16, .pick (.t 10) (.c (.bool true)) (.t 15), none⟩]
theorem F_law01_NumMovesr1_W {T : Tab} {env : Env} {H : Heap} {Q : Post} : W T (.reg F_law01_NumMovesr1) env H Q ↔ WR T F_law01_NumMovesr1 [
  ⟨some 5, .mv (.t 1), none⟩,
  ⟨some 6, .fa 0 (.t 2), none⟩,
  ⟨some 7, .load (.t 6), none⟩,
  ⟨some 8, .bin .sub (.c (.int .u64 18446744073709551615)) (.t 7), none⟩,
  ⟨some 9, .bin .gtr (.t 5) (.t 8), none⟩,
  ⟨some 10, .mv (.t 9), none⟩,
  ⟨some 11, .mv (.t 1), some (5, false)⟩,
  ⟨some 12, .fa 2 (.t 2), some (5, false)⟩,
  ⟨some 13, .load (.t 12), some (5, false)⟩,
  ⟨some 14, .bin .sub (.c (.int .u64 18446744073709551615)) (.t 13), some (5, false)⟩,
  ⟨some 15, .bin .gtr (.t 11) (.t 14), some (5, false)⟩,
  ⟨some 16, .pick (.t 10) (.c (.bool true)) (.t 15), none⟩] env H none [] Q := w_reg
theorem F_law01_NumMovesr1_g5 {env : Env} : yieldI F_law01_NumMovesr1 env 5 = bOf (env 10) := rfl
def F_law01_NumMovesr2 : List IStmt := [
  ⟨some 17, .callc 12 [], none⟩,
  ⟨some 4, .mv (.t 17), none⟩]
theorem F_law01_NumMovesr2_W {T : Tab} {env : Env} {H : Heap} {Q : Post} : W T (.reg F_law01_NumMovesr2) env H Q ↔ WR T F_law01_NumMovesr2 [
  ⟨some 17, .callc 12 [], none⟩,
  ⟨some 4, .mv (.t 17), none⟩] env H none [] Q := w_reg
def F_law01_NumMovesr3 : List IStmt := [
  ⟨some 18, .fa 0 (.t 2), none⟩,
  ⟨some 19, .load (.t 18), none⟩,
  ⟨some 20, .fa 1 (.t 2), none⟩,
  ⟨some 21, .load (.t 20), none⟩,
  ⟨some 22, .fa 2 (.t 2), none⟩,
  ⟨some 23, .load (.t 22), none⟩,
  ⟨some 24, .fa 3 (.t 2), none⟩,
  ⟨some 25, .load (.t 24), none⟩,
  ⟨some 26, .callc 23 [(.t 19), (.t 21), (.t 23), (.t 25)], none⟩,
  ⟨some 27, .fa 0 (.t 2), none⟩,
  ⟨some 28, .load (.t 27), none⟩,
  ⟨some 29, .mv (.t 1), none⟩,
  ⟨some 30, .bin .add (.t 28) (.t 29), none⟩,
  ⟨some 31, .fa 1 (.t 2), none⟩,
  ⟨some 32, .load (.t 31), none⟩,
  ⟨some 33, .fa 2 (.t 2), none⟩,
  ⟨some 34, .load (.t 33), none⟩,
  ⟨some 35, .mv (.t 1), none⟩,
  ⟨some 36, .bin .add (.t 34) (.t 35), none⟩,
  ⟨some 37, .fa 3 (.t 2), none⟩,
  ⟨some 38, .load (.t 37), none⟩,
  ⟨some 39, .callc 23 [(.t 30), (.t 32), (.t 36), (.t 38)], none⟩,
  ⟨some 40, .eqb false (.t 26) (.t 39), none⟩,
  ⟨some 41, .mv (.t 40), none⟩,
  ⟨some 42, .fa 0 (.t 2), some (23, true)⟩,
  ⟨some 43, .load (.t 42), some (23, true)⟩,
  ⟨some 44, .fa 1 (.t 2), some (23, true)⟩,
  ⟨some 45, .load (.t 44), some (23, true)⟩,
  ⟨some 46, .fa 2 (.t 2), some (23, true)⟩,
  ⟨some 47, .load (.t 46), some (23, true)⟩,
  ⟨some 48, .fa 3 (.t 2), some (23, true)⟩,
  ⟨some 49, .load (.t 48), some (23, true)⟩,
  ⟨some 50, .callc 25 [(.t 43), (.t 45), (.t 47), (.t 49)], some (23, true)⟩,
  ⟨some 51, .fa 0 (.t 2), some (23, true)⟩,
  ⟨some 52, .load (.t 51), some (23, true)⟩,
  ⟨some 53, .mv (.t 1), some (23, true)⟩,
  ⟨some 54, .bin .add (.t 52) (.t 53), some (23, true)⟩,
  ⟨some 55, .fa 1 (.t 2), some (23, true)⟩,
  ⟨some 56, .load (.t 55), some (23, true)⟩,
  ⟨some 57, .fa 2 (.t 2), some (23, true)⟩,
  ⟨some 58, .load (.t 57), some (23, true)⟩,
  ⟨some 59, .mv (.t 1), some (23, true)⟩,
  ⟨some 60, .bin .add (.t 58) (.t 59), some (23, true)⟩,
  ⟨some 61, .fa 3 (.t 2), some (23, true)⟩,
  ⟨some 62, .load (.t 61), some (23, true)⟩,
  ⟨some 63, .callc 25 [(.t 54), (.t 56), (.t 60), (.t 62)], some (23, true)⟩,
  ⟨some 64, .eqb false (.t 50) (.t 63), some (23, true)⟩,
  ⟨some 65, .pick (.t 41) (.t 64) (.c (.bool false)), none⟩,
  ⟨some 66, .mv (.t 65), none⟩,
  ⟨some 67, .fa 1 (.t 2), some (48, true)⟩,
  ⟨some 68, .load (.t 67), some (48, true)⟩,
  ⟨some 69, .bin .eql (.t 68) (.c (.int .u64 0)), some (48, true)⟩,
  ⟨some 70, .mv (.t 69), some (48, true)⟩,
  ⟨some 71, .fa 0 (.t 2), some (52, false)⟩,
  ⟨some 72, .load (.t 71), some (52, false)⟩,
  ⟨some 73, .fa 1 (.t 2), some (52, false)⟩,
  ⟨some 74, .load (.t 73), some (52, false)⟩,
  ⟨some 75, .fa 2 (.t 2), some (52, false)⟩,
  ⟨some 76, .load (.t 75), some (52, false)⟩,
  ⟨some 77, .fa 3 (.t 2), some (52, false)⟩,
  ⟨some 78, .load (.t 77), some (52, false)⟩,
  ⟨some 79, .callc 23 [(.t 72), (.t 74), (.t 76), (.t 78)], some (52, false)⟩,
  ⟨some 80, .un .not (.t 79), some (52, false)⟩,
  ⟨some 81, .pick (.t 70) (.c (.bool true)) (.t 80), some (48, true)⟩,
  ⟨some 82, .mv (.t 81), some (48, true)⟩,
  ⟨some 83, .fa 0 (.t 2), some (64, false)⟩,
  ⟨some 84, .load (.t 83), some (64, false)⟩,
  ⟨some 85, .fa 1 (.t 2), some (64, false)⟩,
  ⟨some 86, .load (.t 85), some (64, false)⟩,
  ⟨some 87, .fa 2 (.t 2), some (64, false)⟩,
  ⟨some 88, .load (.t 87), some (64, false)⟩,
  ⟨some 89, .fa 3 (.t 2), some (64, false)⟩,
  ⟨some 90, .load (.t 89), some (64, false)⟩,
  ⟨some 91, .callc 25 [(.t 84), (.t 86), (.t 88), (.t 90)], some (64, false)⟩,
  ⟨some 92, .un .not (.t 91), some (64, false)⟩,
  ⟨some 93, .pick (.t 82) (.c (.bool true)) (.t 92), some (48, true)⟩,
  ⟨some 94, .pick (.t 66) (.t 93) (.c (.bool false)), none⟩,
  ⟨some 95, .mv (.t 94), none⟩,
  ⟨some 96, .callc 12 [], some (77, true)⟩,
  ⟨some 97, .pick (.t 95) (.t 96) (.c (.bool false)), none⟩,
  ⟨some 4, .mv (.t 97), none⟩]
theorem F_law01_NumMovesr3_g23 {env : Env} : yieldI F_law01_NumMovesr3 env 23 = bOf (env 41) := rfl
theorem F_law01_NumMovesr3_g48 {env : Env} : yieldI F_law01_NumMovesr3 env 48 = bOf (env 66) := rfl
theorem F_law01_NumMovesr3_g52 {env : Env} : yieldI F_law01_NumMovesr3 env 52 = bOf (env 70) := rfl
theorem F_law01_NumMovesr3_g64 {env : Env} : yieldI F_law01_NumMovesr3 env 64 = bOf (env 82) := rfl
theorem F_law01_NumMovesr3_g77 {env : Env} : yieldI F_law01_NumMovesr3 env 77 = bOf (env 95) := rfl
theorem F_law01_NumMovesr3_W {T : Tab} {env : Env} {H : Heap} {Q : Post} : W T (.dreg F_law01_NumMovesr3 []) env H Q ↔ WR T F_law01_NumMovesr3 [
  ⟨some 18, .fa 0 (.t 2), none⟩,
  ⟨some 19, .load (.t 18), none⟩,
  ⟨some 20, .fa 1 (.t 2), none⟩,
  ⟨some 21, .load (.t 20), none⟩,
  ⟨some 22, .fa 2 (.t 2), none⟩,
  ⟨some 23, .load (.t 22), none⟩,
  ⟨some 24, .fa 3 (.t 2), none⟩,
  ⟨some 25, .load (.t 24), none⟩,
  ⟨some 26, .callc 23 [(.t 19), (.t 21), (.t 23), (.t 25)], none⟩,
  ⟨some 27, .fa 0 (.t 2), none⟩,
  ⟨some 28, .load (.t 27), none⟩,
  ⟨some 29, .mv (.t 1), none⟩,
  ⟨some 30, .bin .add (.t 28) (.t 29), none⟩,
  ⟨some 31, .fa 1 (.t 2), none⟩,
  ⟨some 32, .load (.t 31), none⟩,
  ⟨some 33, .fa 2 (.t 2), none⟩,
  ⟨some 34, .load (.t 33), none⟩,
  ⟨some 35, .mv (.t 1), none⟩,
  ⟨some 36, .bin .add (.t 34) (.t 35), none⟩,
  ⟨some 37, .fa 3 (.t 2), none⟩,
  ⟨some 38, .load (.t 37), none⟩,
  ⟨some 39, .callc 23 [(.t 30), (.t 32), (.t 36), (.t 38)], none⟩,
  ⟨some 40, .eqb false (.t 26) (.t 39), none⟩,
  ⟨some 41, .mv (.t 40), none⟩,
  ⟨some 42, .fa 0 (.t 2), some (23, true)⟩,
  ⟨some 43, .load (.t 42), some (23, true)⟩,
  ⟨some 44, .fa 1 (.t 2), some (23, true)⟩,
  ⟨some 45, .load (.t 44), some (23, true)⟩,
  ⟨some 46, .fa 2 (.t 2), some (23, true)⟩,
  ⟨some 47, .load (.t 46), some (23, true)⟩,
  ⟨some 48, .fa 3 (.t 2), some (23, true)⟩,
  ⟨some 49, .load (.t 48), some (23, true)⟩,
  ⟨some 50, .callc 25 [(.t 43), (.t 45), (.t 47), (.t 49)], some (23, true)⟩,
  ⟨some 51, .fa 0 (.t 2), some (23, true)⟩,
  ⟨some 52, .load (.t 51), some (23, true)⟩,
  ⟨some 53, .mv (.t 1), some (23, true)⟩,
  ⟨some 54, .bin .add (.t 52) (.t 53), some (23, true)⟩,
  ⟨some 55, .fa 1 (.t 2), some (23, true)⟩,
  ⟨some 56, .load (.t 55), some (23, true)⟩,
  ⟨some 57, .fa 2 (.t 2), some (23, true)⟩,
  ⟨some 58, .load (.t 57), some (23, true)⟩,
  ⟨some 59, .mv (.t 1), some (23, true)⟩,
  ⟨some 60, .bin .add (.t 58) (.t 59), some (23, true)⟩,
  ⟨some 61, .fa 3 (.t 2), some (23, true)⟩,
  ⟨some 62, .load (.t 61), some (23, true)⟩,
  ⟨some 63, .callc 25 [(.t 54), (.t 56), (.t 60), (.t 62)], some (23, true)⟩,
  ⟨some 64, .eqb false (.t 50) (.t 63), some (23, true)⟩,
  ⟨some 65, .pick (.t 41) (.t 64) (.c (.bool false)), none⟩,
  ⟨some 66, .mv (.t 65), none⟩,
  ⟨some 67, .fa 1 (.t 2), some (48, true)⟩,
  ⟨some 68, .load (.t 67), some (48, true)⟩,
  ⟨some 69, .bin .eql (.t 68) (.c (.int .u64 0)), some (48, true)⟩,
  ⟨some 70, .mv (.t 69), some (48, true)⟩,
  ⟨some 71, .fa 0 (.t 2), some (52, false)⟩,
  ⟨some 72, .load (.t 71), some (52, false)⟩,
  ⟨some 73, .fa 1 (.t 2), some (52, false)⟩,
  ⟨some 74, .load (.t 73), some (52, false)⟩,
  ⟨some 75, .fa 2 (.t 2), some (52, false)⟩,
  ⟨some 76, .load (.t 75), some (52, false)⟩,
  ⟨some 77, .fa 3 (.t 2), some (52, false)⟩,
  ⟨some 78, .load (.t 77), some (52, false)⟩,
  ⟨some 79, .callc 23 [(.t 72), (.t 74), (.t 76), (.t 78)], some (52, false)⟩,
  ⟨some 80, .un .not (.t 79), some (52, false)⟩,
  ⟨some 81, .pick (.t 70) (.c (.bool true)) (.t 80), some (48, true)⟩,
  ⟨some 82, .mv (.t 81), some (48, true)⟩,
  ⟨some 83, .fa 0 (.t 2), some (64, false)⟩,
  ⟨some 84, .load (.t 83), some (64, false)⟩,
  ⟨some 85, .fa 1 (.t 2), some (64, false)⟩,
  ⟨some 86, .load (.t 85), some (64, false)⟩,
  ⟨some 87, .fa 2 (.t 2), some (64, false)⟩,
  ⟨some 88, .load (.t 87), some (64, false)⟩,
  ⟨some 89, .fa 3 (.t 2), some (64, false)⟩,
  ⟨some 90, .load (.t 89), some (64, false)⟩,
  ⟨some 91, .callc 25 [(.t 84), (.t 86), (.t 88), (.t 90)], some (64, false)⟩,
  ⟨some 92, .un .not (.t 91), some (64, false)⟩,
  ⟨some 93, .pick (.t 82) (.c (.bool true)) (.t 92), some (48, true)⟩,
  ⟨some 94, .pick (.t 66) (.t 93) (.c (.bool false)), none⟩,
  ⟨some 95, .mv (.t 94), none⟩,
  ⟨some 96, .callc 12 [], some (77, true)⟩,
  ⟨some 97, .pick (.t 95) (.t 96) (.c (.bool false)), none⟩,
  ⟨some 4, .mv (.t 97), none⟩] env H none [] Q := w_dreg0
def F_law01_NumMovesc : ICode := (.seq (.reg F_law01_NumMovesr0) (.seq (.seq (.reg F_law01_NumMovesr1) (.cond (.t 16) (.seq (.reg F_law01_NumMovesr2) .ret) .skip)) (.seq (.dreg F_law01_NumMovesr3 []) .ret)))
theorem F_law01_NumMovesc_W {T : Tab} {env : Env} {H : Heap} {Q : Post} : W T F_law01_NumMovesc env H Q ↔ W T (.seq (.reg F_law01_NumMovesr0) (.seq (.seq (.reg F_law01_NumMovesr1) (.cond (.t 16) (.seq (.reg F_law01_NumMovesr2) .ret) .skip)) (.seq (.dreg F_law01_NumMovesr3 []) .ret))) env H Q := Iff.rfl
def F_law01_NumMoves : IFn := ⟨98, [.tmp 4], F_law01_NumMovesc⟩
set_option maxRecDepth 1000000 in
theorem F_law01_NumMoves_chk : chkF Try.prog 8 F_law01_NumMoves = true := by kernel_rfl

/-! ### law01_NumHex -/
def F_law01_NumHexr0 : List IStmt := [
  ⟨some 4, .mv (.c (.bool false)), none⟩]
theorem F_law01_NumHexr0_W {T : Tab} {env : Env} {H : Heap} {Q : Post} : W T (.reg F_law01_NumHexr0) env H Q ↔ WR T F_law01_NumHexr0 [
  ⟨some 4, .mv (.c (.bool false)), none⟩] env H none [] Q := w_reg
def F_law01_NumHexr1 : List IStmt := [
  ⟨some 11, .mv (.t 1), none⟩,
  ⟨some 12, .len 0 (.t 11), none⟩,
  ⟨some 13, .bin .gtr (.t 12) (.c (.int .i64 4096)), none⟩]
theorem F_law01_NumHexr1_W {T : Tab} {env : Env} {H : Heap} {Q : Post} : W T (.reg F_law01_NumHexr1) env H Q ↔ WR T F_law01_NumHexr1 [
  ⟨some 11, .mv (.t 1), none⟩,
  ⟨some 12, .len 0 (.t 11), none⟩,
  ⟨some 13, .bin .gtr (.t 12) (.c (.int .i64 4096)), none⟩] env H none [] Q := w_reg
def F_law01_NumHexr2 : List IStmt := [
  ⟨some 4, .mv (.c (.bool true)), none⟩]
theorem F_law01_NumHexr2_W {T : Tab} {env : Env} {H : Heap} {Q : Post} : W T (.reg F_law01_NumHexr2) env H Q ↔ WR T F_law01_NumHexr2 [
  ⟨some 4, .mv (.c (.bool true)), none⟩] env H none [] Q := w_reg
def F_law01_NumHexr3 : List IStmt := [
  ⟨some 15, .mv (.t 1), none⟩,
  ⟨some 16, .callc 27 [(.t 15)], none⟩,
  ⟨some 14, .mv (.t 16), none⟩,
  ⟨some 17, .ext (.t 14) 0, none⟩,
  ⟨some 18, .ext (.t 14) 1, none⟩,
  ⟨some 5, .mv (.t 17), none⟩,
  ⟨some 6, .mv (.t 18), none⟩]
theorem F_law01_NumHexr3_W {T : Tab} {env : Env} {H : Heap} {Q : Post} : W T (.reg F_law01_NumHexr3) env H Q ↔ WR T F_law01_NumHexr3 [
  ⟨some 15, .mv (.t 1), none⟩,
  ⟨some 16, .callc 27 [(.t 15)], none⟩,
  ⟨some 14, .mv (.t 16), none⟩,
  ⟨some 17, .ext (.t 14) 0, none⟩,
  ⟨some 18, .ext (.t 14) 1, none⟩,
  ⟨some 5, .mv (.t 17), none⟩,
  ⟨some 6, .mv (.t 18), none⟩] env H none [] Q := w_reg
def F_law01_NumHexr4 : List IStmt := [
  ⟨some 20, .mv (.t 1), none⟩,
  ⟨some 21, .callc 28 [(.t 20)], none⟩,
  ⟨some 19, .mv (.t 21), none⟩,
  ⟨some 22, .ext (.t 19) 0, none⟩,
  ⟨some 23, .ext (.t 19) 1, none⟩,
  ⟨some 7, .mv (.t 22), none⟩,
  ⟨some 8, .mv (.t 23), none⟩]
theorem F_law01_NumHexr4_W {T : Tab} {env : Env} {H : Heap} {Q : Post} : W T (.reg F_law01_NumHexr4) env H Q ↔ WR T F_law01_NumHexr4 [
  ⟨some 20, .mv (.t 1), none⟩,
  ⟨some 21, .callc 28 [(.t 20)], none⟩,
  ⟨some 19, .mv (.t 21), none⟩,
  ⟨some 22, .ext (.t 19) 0, none⟩,
  ⟨some 23, .ext (.t 19) 1, none⟩,
  ⟨some 7, .mv (.t 22), none⟩,
  ⟨some 8, .mv (.t 23), none⟩] env H none [] Q := w_reg
def F_law01_NumHexr5 : List IStmt := [
  ⟨some 25, .mv (.t 0), none⟩,
  ⟨some 26, .callc 29 [(.t 25)], none⟩,
  ⟨some 27, .callc 27 [(.t 26)], none⟩,
  ⟨some 24, .mv (.t 27), none⟩,
  ⟨some 28, .ext (.t 24) 0, none⟩,
  ⟨some 29, .ext (.t 24) 1, none⟩,
  ⟨some 9, .mv (.t 28), none⟩,
  ⟨some 10, .mv (.t 29), none⟩]
theorem F_law01_NumHexr5_W {T : Tab} {env : Env} {H : Heap} {Q : Post} : W T (.reg F_law01_NumHexr5) env H Q ↔ WR T F_law01_NumHexr5 [
  ⟨some 25, .mv (.t 0), none⟩,
  ⟨some 26, .callc 29 [(.t 25)], none⟩,
  ⟨some 27, .callc 27 [(.t 26)], none⟩,
  ⟨some 24, .mv (.t 27), none⟩,
  ⟨some 28, .ext (.t 24) 0, none⟩,
  ⟨some 29, .ext (.t 24) 1, none⟩,
  ⟨some 9, .mv (.t 28), none⟩,
  ⟨some 10, .mv (.t 29), none⟩] env H none [] Q := w_reg
def F_law01_NumHexr6 : List IStmt := [
  ⟨some 30, .mv (.t 0), none⟩,
  ⟨some 31, .callc 29 [(.t 30)], none⟩,
  ⟨some 32, .mv (.t 0), none⟩,
  ⟨some 33, .callc 30 [(.t 32)], none⟩,
  ⟨some 34, .bin .eql (.t 31) (.t 33), none⟩,
  ⟨some 35, .mv (.t 34), none⟩,
  ⟨some 36, .mv (.t 5), some (5, true)⟩,
  ⟨some 37, .mv (.t 7), some (5, true)⟩,
  ⟨some 38, .bin .eql (.t 36) (.t 37), some (5, true)⟩,
  ⟨some 39, .pick (.t 35) (.t 38) (.c (.bool false)), none⟩,
  ⟨some 40, .mv (.t 39), none⟩,
  ⟨some 41, .mv (.t 6), some (10, true)⟩,
  ⟨some 42, .mv (.t 8), some (10, true)⟩,
  ⟨some 43, .bin .eql (.t 41) (.t 42), some (10, true)⟩,
  ⟨some 44, .pick (.t 40) (.t 43) (.c (.bool false)), none⟩,
  ⟨some 45, .mv (.t 44), none⟩,
  ⟨some 46, .mv (.t 9), some (15, true)⟩,
  ⟨some 47, .mv (.t 0), some (15, true)⟩,
  ⟨some 48, .bin .eql (.t 46) (.t 47), some (15, true)⟩,
  ⟨some 49, .pick (.t 45) (.t 48) (.c (.bool false)), none⟩,
  ⟨some 50, .mv (.t 49), none⟩,
  ⟨some 51, .mv (.t 10), some (20, true)⟩,
  ⟨some 52, .bin .eql (.t 51) (.c (.int .i64 0)), some (20, true)⟩,
  ⟨some 53, .pick (.t 50) (.t 52) (.c (.bool false)), none⟩,
  ⟨some 54, .mv (.t 53), none⟩,
  ⟨some 55, .callc 12 [], some (24, true)⟩,
  ⟨some 56, .pick (.t 54) (.t 55) (.c (.bool false)), none⟩,
  ⟨some 4, .mv (.t 56), none⟩]
theorem F_law01_NumHexr6_W {T : Tab} {env : Env} {H : Heap} {Q : Post} : W T (.reg F_law01_NumHexr6) env H Q ↔ WR T F_law01_NumHexr6 [
  ⟨some 30, .mv (.t 0), none⟩,
  ⟨some 31, .callc 29 [(.t 30)], none⟩,
  ⟨some 32, .mv (.t 0), none⟩,
  ⟨some 33, .callc 30 [(.t 32)], none⟩,
  ⟨some 34, .bin .eql (.t 31) (.t 33), none⟩,
  ⟨some 35, .mv (.t 34), none⟩,
  ⟨some 36, .mv (.t 5), some (5, true)⟩,
  ⟨some 37, .mv (.t 7), some (5, true)⟩,
  ⟨some 38, .bin .eql (.t 36) (.t 37), some (5, true)⟩,
  ⟨some 39, .pick (.t 35) (.t 38) (.c (.bool false)), none⟩,
  ⟨some 40, .mv (.t 39), none⟩,
  ⟨some 41, .mv (.t 6), some (10, true)⟩,
  ⟨some 42, .mv (.t 8), some (10, true)⟩,
  ⟨some 43, .bin .eql (.t 41) (.t 42), some (10, true)⟩,
  ⟨some 44, .pick (.t 40) (.t 43) (.c (.bool false)), none⟩,
  ⟨some 45, .mv (.t 44), none⟩,
  ⟨some 46, .mv (.t 9), some (15, true)⟩,
  ⟨some 47, .mv (.t 0), some (15, true)⟩,
  ⟨some 48, .bin .eql (.t 46) (.t 47), some (15, true)⟩,
  ⟨some 49, .pick (.t 45) (.t 48) (.c (.bool false)), none⟩,
  ⟨some 50, .mv (.t 49), none⟩,
  ⟨some 51, .mv (.t 10), some (20, true)⟩,
  ⟨some 52, .bin .eql (.t 51) (.c (.int .i64 0)), some (20, true)⟩,
  ⟨some 53, .pick (.t 50) (.t 52) (.c (.bool false)), none⟩,
  ⟨some 54, .mv (.t 53), none⟩,
  ⟨some 55, .callc 12 [], some (24, true)⟩,
  ⟨some 56, .pick (.t 54) (.t 55) (.c (.bool false)), none⟩,
  ⟨some 4, .mv (.t 56), none⟩] env H none [] Q := w_reg
theorem F_law01_NumHexr6_g5 {env : Env} : yieldI F_law01_NumHexr6 env 5 = bOf (env 35) := rfl
theorem F_law01_NumHexr6_g10 {env : Env} : yieldI F_law01_NumHexr6 env 10 = bOf (env 40) := rfl
theorem F_law01_NumHexr6_g15 {env : Env} : yieldI F_law01_NumHexr6 env 15 = bOf (env 45) := rfl
theorem F_law01_NumHexr6_g20 {env : Env} : yieldI F_law01_NumHexr6 env 20 = bOf (env 50) := rfl
theorem F_law01_NumHexr6_g24 {env : Env} : yieldI F_law01_NumHexr6 env 24 = bOf (env 54) := rfl
def F_law01_NumHexc : ICode := (.seq (.reg F_law01_NumHexr0) (.seq (.seq (.reg F_law01_NumHexr1) (.cond (.t 13) (.seq (.reg F_law01_NumHexr2) .ret) .skip)) (.seq (.reg F_law01_NumHexr3) (.seq (.reg F_law01_NumHexr4) (.seq (.reg F_law01_NumHexr5) (.seq (.reg F_law01_NumHexr6) .ret))))))
theorem F_law01_NumHexc_W {T : Tab} {env : Env} {H : Heap} {Q : Post} : W T F_law01_NumHexc env H Q ↔ W T (.seq (.reg F_law01_NumHexr0) (.seq (.seq (.reg F_law01_NumHexr1) (.cond (.t 13) (.seq (.reg F_law01_NumHexr2) .ret) .skip)) (.seq (.reg F_law01_NumHexr3) (.seq (.reg F_law01_NumHexr4) (.seq (.reg F_law01_NumHexr5) (.seq (.reg F_law01_NumHexr6) .ret)))))) env H Q := Iff.rfl
def F_law01_NumHex : IFn := ⟨57, [.tmp 4], F_law01_NumHexc⟩
set_option maxRecDepth 1000000 in
theorem F_law01_NumHex_chk : chkF Try.prog 9 F_law01_NumHex = true := by kernel_rfl

/-- The functions, by number. -/
def TNum_l : List (Nat × IFn) := [(17, F_num_Sub), (13, F_num_Add), (20, F_num_Power), (23, F_num_Inside), (25, F_num_Apart), (19, F_num_Up), (29, F_num_Hex), (27, F_num_ParseHex), (37, F_num_digit), (33, F_num_Text), (35, F_ref01_Sum), (36, F_ref01_Less), (24, F_ref01_Inside), (26, F_ref01_Apart), (30, F_ref01_Hex), (28, F_ref01_ParseHex), (12, F_law01_alive), (7, F_law01_NumInside), (8, F_law01_NumMoves), (9, F_law01_NumHex)]
def TNum : Tab := tabOf TNum_l
theorem TNum_chk : ∀ p ∈ TNum_l, chkF Try.prog p.1 p.2 = true := by
  intro p hp
  simp only [TNum_l, List.mem_cons, List.not_mem_nil, or_false] at hp
  rcases hp with rfl | rfl | rfl | rfl | rfl | rfl | rfl | rfl | rfl | rfl | rfl | rfl | rfl | rfl | rfl | rfl | rfl | rfl | rfl | rfl
  · exact F_num_Sub_chk
  · exact F_num_Add_chk
  · exact F_num_Power_chk
  · exact F_num_Inside_chk
  · exact F_num_Apart_chk
  · exact F_num_Up_chk
  · exact F_num_Hex_chk
  · exact F_num_ParseHex_chk
  · exact F_num_digit_chk
  · exact F_num_Text_chk
  · exact F_ref01_Sum_chk
  · exact F_ref01_Less_chk
  · exact F_ref01_Inside_chk
  · exact F_ref01_Apart_chk
  · exact F_ref01_Hex_chk
  · exact F_ref01_ParseHex_chk
  · exact F_law01_alive_chk
  · exact F_law01_NumInside_chk
  · exact F_law01_NumMoves_chk
  · exact F_law01_NumHex_chk
theorem TNum_good : Good Try.prog TNum := good_tab (by kernel_rfl) TNum_chk

end Go.Proofs.Ytiekjbejgmdkkaa
