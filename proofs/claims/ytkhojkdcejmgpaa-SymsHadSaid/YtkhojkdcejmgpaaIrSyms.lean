/- The small language's text of functions of the given program, and the check that it stands for them. Printed by a program. -/
import Derived.Test.YtkhojkdcejmgpaaFw24
import Derived.Test.YtkhojkdcejmgpaaChecked
import Derived.KernelRfl
namespace Go.Proofs.Ytkhojkdcejmgpaa
open Go Fw

/-! ### syms_Sysv -/
def F_syms_Sysvr0 : List IStmt := [
  ⟨some 2, .mv (.c (.int .u32 0)), none⟩]
theorem F_syms_Sysvr0_W {T : Tab} {env : Env} {H : Heap} {Q : Post} : W T (.reg F_syms_Sysvr0) env H Q ↔ WR T F_syms_Sysvr0 [
  ⟨some 2, .mv (.c (.int .u32 0)), none⟩] env H none [] Q := w_reg
def F_syms_Sysvr1 : List IStmt := [
  ⟨some 3, .mv (.c (.int .u32 0)), none⟩]
theorem F_syms_Sysvr1_W {T : Tab} {env : Env} {H : Heap} {Q : Post} : W T (.reg F_syms_Sysvr1) env H Q ↔ WR T F_syms_Sysvr1 [
  ⟨some 3, .mv (.c (.int .u32 0)), none⟩] env H none [] Q := w_reg
def F_syms_Sysvr2 : List IStmt := [
  ⟨some 6, .mv (.t 0), none⟩,
  ⟨some 7, .len 0 (.t 6), none⟩,
  ⟨some 8, .mv (.c (.int .i64 0)), none⟩]
theorem F_syms_Sysvr2_W {T : Tab} {env : Env} {H : Heap} {Q : Post} : W T (.reg F_syms_Sysvr2) env H Q ↔ WR T F_syms_Sysvr2 [
  ⟨some 6, .mv (.t 0), none⟩,
  ⟨some 7, .len 0 (.t 6), none⟩,
  ⟨some 8, .mv (.c (.int .i64 0)), none⟩] env H none [] Q := w_reg
def F_syms_Sysvr3 : List IStmt := [
  ⟨some 9, .bin .lss (.t 8) (.t 7), none⟩]
theorem F_syms_Sysvr3_W {T : Tab} {env : Env} {H : Heap} {Q : Post} : W T (.reg F_syms_Sysvr3) env H Q ↔ WR T F_syms_Sysvr3 [
  ⟨some 9, .bin .lss (.t 8) (.t 7), none⟩] env H none [] Q := w_reg
def F_syms_Sysvr4 : List IStmt := [
  ⟨some 10, .mv (.t 8), none⟩,
  ⟨some 4, .mv (.t 10), none⟩]
theorem F_syms_Sysvr4_W {T : Tab} {env : Env} {H : Heap} {Q : Post} : W T (.reg F_syms_Sysvr4) env H Q ↔ WR T F_syms_Sysvr4 [
  ⟨some 10, .mv (.t 8), none⟩,
  ⟨some 4, .mv (.t 10), none⟩] env H none [] Q := w_reg
def F_syms_Sysvr5 : List IStmt := [
  ⟨some 11, .mv (.t 3), none⟩,
  ⟨some 12, .bin .shl (.t 11) (.c (.int .u64 4)), none⟩,
  ⟨some 13, .mv (.t 0), none⟩,
  ⟨some 14, .mv (.t 4), none⟩,
  ⟨some 15, .ixs (.t 13) (.t 14), none⟩,
  ⟨some 16, .conv .u32 (.t 15), none⟩,
  ⟨some 17, .bin .add (.t 12) (.t 16), none⟩,
  ⟨some 3, .mv (.t 17), none⟩]
theorem F_syms_Sysvr5_W {T : Tab} {env : Env} {H : Heap} {Q : Post} : W T (.reg F_syms_Sysvr5) env H Q ↔ WR T F_syms_Sysvr5 [
  ⟨some 11, .mv (.t 3), none⟩,
  ⟨some 12, .bin .shl (.t 11) (.c (.int .u64 4)), none⟩,
  ⟨some 13, .mv (.t 0), none⟩,
  ⟨some 14, .mv (.t 4), none⟩,
  ⟨some 15, .ixs (.t 13) (.t 14), none⟩,
  ⟨some 16, .conv .u32 (.t 15), none⟩,
  ⟨some 17, .bin .add (.t 12) (.t 16), none⟩,
  ⟨some 3, .mv (.t 17), none⟩] env H none [] Q := w_reg
def F_syms_Sysvr6 : List IStmt := [
  ⟨some 18, .mv (.t 3), none⟩,
  ⟨some 19, .bin .and (.t 18) (.c (.int .u32 4026531840)), none⟩,
  ⟨some 5, .mv (.t 19), none⟩]
theorem F_syms_Sysvr6_W {T : Tab} {env : Env} {H : Heap} {Q : Post} : W T (.reg F_syms_Sysvr6) env H Q ↔ WR T F_syms_Sysvr6 [
  ⟨some 18, .mv (.t 3), none⟩,
  ⟨some 19, .bin .and (.t 18) (.c (.int .u32 4026531840)), none⟩,
  ⟨some 5, .mv (.t 19), none⟩] env H none [] Q := w_reg
def F_syms_Sysvr7 : List IStmt := [
  ⟨some 20, .mv (.t 3), none⟩,
  ⟨some 21, .mv (.t 5), none⟩,
  ⟨some 22, .bin .shr (.t 21) (.c (.int .u64 24)), none⟩,
  ⟨some 23, .bin .xor (.t 20) (.t 22), none⟩,
  ⟨some 3, .mv (.t 23), none⟩]
theorem F_syms_Sysvr7_W {T : Tab} {env : Env} {H : Heap} {Q : Post} : W T (.reg F_syms_Sysvr7) env H Q ↔ WR T F_syms_Sysvr7 [
  ⟨some 20, .mv (.t 3), none⟩,
  ⟨some 21, .mv (.t 5), none⟩,
  ⟨some 22, .bin .shr (.t 21) (.c (.int .u64 24)), none⟩,
  ⟨some 23, .bin .xor (.t 20) (.t 22), none⟩,
  ⟨some 3, .mv (.t 23), none⟩] env H none [] Q := w_reg
def F_syms_Sysvr8 : List IStmt := [
  ⟨some 24, .mv (.t 3), none⟩,
  ⟨some 25, .mv (.t 5), none⟩,
  ⟨some 26, .bin .andNot (.t 24) (.t 25), none⟩,
  ⟨some 3, .mv (.t 26), none⟩]
theorem F_syms_Sysvr8_W {T : Tab} {env : Env} {H : Heap} {Q : Post} : W T (.reg F_syms_Sysvr8) env H Q ↔ WR T F_syms_Sysvr8 [
  ⟨some 24, .mv (.t 3), none⟩,
  ⟨some 25, .mv (.t 5), none⟩,
  ⟨some 26, .bin .andNot (.t 24) (.t 25), none⟩,
  ⟨some 3, .mv (.t 26), none⟩] env H none [] Q := w_reg
def F_syms_Sysvr9 : List IStmt := [
  ⟨some 27, .bin .add (.t 8) (.c (.int .i64 1)), none⟩,
  ⟨some 8, .mv (.t 27), none⟩]
theorem F_syms_Sysvr9_W {T : Tab} {env : Env} {H : Heap} {Q : Post} : W T (.reg F_syms_Sysvr9) env H Q ↔ WR T F_syms_Sysvr9 [
  ⟨some 27, .bin .add (.t 8) (.c (.int .i64 1)), none⟩,
  ⟨some 8, .mv (.t 27), none⟩] env H none [] Q := w_reg
def F_syms_Sysvl0 : ICode := (.seq (.reg F_syms_Sysvr3) (.seq (.cond (.t 9) .skip (.exit 0)) (.seq (.block 1 (.seq (.reg F_syms_Sysvr4) (.seq (.reg F_syms_Sysvr5) (.seq (.reg F_syms_Sysvr6) (.seq (.reg F_syms_Sysvr7) (.reg F_syms_Sysvr8)))))) (.reg F_syms_Sysvr9))))
theorem F_syms_Sysvl0_W {T : Tab} {env : Env} {H : Heap} {Q : Post} : W T F_syms_Sysvl0 env H Q ↔ W T (.seq (.reg F_syms_Sysvr3) (.seq (.cond (.t 9) .skip (.exit 0)) (.seq (.block 1 (.seq (.reg F_syms_Sysvr4) (.seq (.reg F_syms_Sysvr5) (.seq (.reg F_syms_Sysvr6) (.seq (.reg F_syms_Sysvr7) (.reg F_syms_Sysvr8)))))) (.reg F_syms_Sysvr9)))) env H Q := Iff.rfl
def F_syms_Sysvr10 : List IStmt := [
  ⟨some 28, .mv (.t 3), none⟩,
  ⟨some 2, .mv (.t 28), none⟩]
theorem F_syms_Sysvr10_W {T : Tab} {env : Env} {H : Heap} {Q : Post} : W T (.reg F_syms_Sysvr10) env H Q ↔ WR T F_syms_Sysvr10 [
  ⟨some 28, .mv (.t 3), none⟩,
  ⟨some 2, .mv (.t 28), none⟩] env H none [] Q := w_reg
def F_syms_Sysvc : ICode := (.seq (.reg F_syms_Sysvr0) (.seq (.reg F_syms_Sysvr1) (.seq (.seq (.reg F_syms_Sysvr2) (.block 0 (.loop F_syms_Sysvl0))) (.seq (.reg F_syms_Sysvr10) .ret))))
theorem F_syms_Sysvc_W {T : Tab} {env : Env} {H : Heap} {Q : Post} : W T F_syms_Sysvc env H Q ↔ W T (.seq (.reg F_syms_Sysvr0) (.seq (.reg F_syms_Sysvr1) (.seq (.seq (.reg F_syms_Sysvr2) (.block 0 (.loop F_syms_Sysvl0))) (.seq (.reg F_syms_Sysvr10) .ret)))) env H Q := Iff.rfl
def F_syms_Sysv : IFn := ⟨29, [.tmp 2], F_syms_Sysvc⟩
set_option maxRecDepth 1000000 in
theorem F_syms_Sysv_chk : chkF Try.prog 17 F_syms_Sysv = true := by kernel_rfl

/-! ### syms_Gnu -/
def F_syms_Gnur0 : List IStmt := [
  ⟨some 2, .mv (.c (.int .u32 0)), none⟩]
theorem F_syms_Gnur0_W {T : Tab} {env : Env} {H : Heap} {Q : Post} : W T (.reg F_syms_Gnur0) env H Q ↔ WR T F_syms_Gnur0 [
  ⟨some 2, .mv (.c (.int .u32 0)), none⟩] env H none [] Q := w_reg
def F_syms_Gnur1 : List IStmt := [
  ⟨some 3, .mv (.c (.int .u32 5381)), none⟩]
theorem F_syms_Gnur1_W {T : Tab} {env : Env} {H : Heap} {Q : Post} : W T (.reg F_syms_Gnur1) env H Q ↔ WR T F_syms_Gnur1 [
  ⟨some 3, .mv (.c (.int .u32 5381)), none⟩] env H none [] Q := w_reg
def F_syms_Gnur2 : List IStmt := [
  ⟨some 5, .mv (.t 0), none⟩,
  ⟨some 6, .len 0 (.t 5), none⟩,
  ⟨some 7, .mv (.c (.int .i64 0)), none⟩]
theorem F_syms_Gnur2_W {T : Tab} {env : Env} {H : Heap} {Q : Post} : W T (.reg F_syms_Gnur2) env H Q ↔ WR T F_syms_Gnur2 [
  ⟨some 5, .mv (.t 0), none⟩,
  ⟨some 6, .len 0 (.t 5), none⟩,
  ⟨some 7, .mv (.c (.int .i64 0)), none⟩] env H none [] Q := w_reg
def F_syms_Gnur3 : List IStmt := [
  ⟨some 8, .bin .lss (.t 7) (.t 6), none⟩]
theorem F_syms_Gnur3_W {T : Tab} {env : Env} {H : Heap} {Q : Post} : W T (.reg F_syms_Gnur3) env H Q ↔ WR T F_syms_Gnur3 [
  ⟨some 8, .bin .lss (.t 7) (.t 6), none⟩] env H none [] Q := w_reg
def F_syms_Gnur4 : List IStmt := [
  ⟨some 9, .mv (.t 7), none⟩,
  ⟨some 4, .mv (.t 9), none⟩]
theorem F_syms_Gnur4_W {T : Tab} {env : Env} {H : Heap} {Q : Post} : W T (.reg F_syms_Gnur4) env H Q ↔ WR T F_syms_Gnur4 [
  ⟨some 9, .mv (.t 7), none⟩,
  ⟨some 4, .mv (.t 9), none⟩] env H none [] Q := w_reg
def F_syms_Gnur5 : List IStmt := [
  ⟨some 10, .mv (.t 3), none⟩,
  ⟨some 11, .bin .mul (.t 10) (.c (.int .u32 33)), none⟩,
  ⟨some 12, .mv (.t 0), none⟩,
  ⟨some 13, .mv (.t 4), none⟩,
  ⟨some 14, .ixs (.t 12) (.t 13), none⟩,
  ⟨some 15, .conv .u32 (.t 14), none⟩,
  ⟨some 16, .bin .add (.t 11) (.t 15), none⟩,
  ⟨some 3, .mv (.t 16), none⟩]
theorem F_syms_Gnur5_W {T : Tab} {env : Env} {H : Heap} {Q : Post} : W T (.reg F_syms_Gnur5) env H Q ↔ WR T F_syms_Gnur5 [
  ⟨some 10, .mv (.t 3), none⟩,
  ⟨some 11, .bin .mul (.t 10) (.c (.int .u32 33)), none⟩,
  ⟨some 12, .mv (.t 0), none⟩,
  ⟨some 13, .mv (.t 4), none⟩,
  ⟨some 14, .ixs (.t 12) (.t 13), none⟩,
  ⟨some 15, .conv .u32 (.t 14), none⟩,
  ⟨some 16, .bin .add (.t 11) (.t 15), none⟩,
  ⟨some 3, .mv (.t 16), none⟩] env H none [] Q := w_reg
def F_syms_Gnur6 : List IStmt := [
  ⟨some 17, .bin .add (.t 7) (.c (.int .i64 1)), none⟩,
  ⟨some 7, .mv (.t 17), none⟩]
theorem F_syms_Gnur6_W {T : Tab} {env : Env} {H : Heap} {Q : Post} : W T (.reg F_syms_Gnur6) env H Q ↔ WR T F_syms_Gnur6 [
  ⟨some 17, .bin .add (.t 7) (.c (.int .i64 1)), none⟩,
  ⟨some 7, .mv (.t 17), none⟩] env H none [] Q := w_reg
def F_syms_Gnul0 : ICode := (.seq (.reg F_syms_Gnur3) (.seq (.cond (.t 8) .skip (.exit 0)) (.seq (.block 1 (.seq (.reg F_syms_Gnur4) (.reg F_syms_Gnur5))) (.reg F_syms_Gnur6))))
theorem F_syms_Gnul0_W {T : Tab} {env : Env} {H : Heap} {Q : Post} : W T F_syms_Gnul0 env H Q ↔ W T (.seq (.reg F_syms_Gnur3) (.seq (.cond (.t 8) .skip (.exit 0)) (.seq (.block 1 (.seq (.reg F_syms_Gnur4) (.reg F_syms_Gnur5))) (.reg F_syms_Gnur6)))) env H Q := Iff.rfl
def F_syms_Gnur7 : List IStmt := [
  ⟨some 18, .mv (.t 3), none⟩,
  ⟨some 2, .mv (.t 18), none⟩]
theorem F_syms_Gnur7_W {T : Tab} {env : Env} {H : Heap} {Q : Post} : W T (.reg F_syms_Gnur7) env H Q ↔ WR T F_syms_Gnur7 [
  ⟨some 18, .mv (.t 3), none⟩,
  ⟨some 2, .mv (.t 18), none⟩] env H none [] Q := w_reg
def F_syms_Gnuc : ICode := (.seq (.reg F_syms_Gnur0) (.seq (.reg F_syms_Gnur1) (.seq (.seq (.reg F_syms_Gnur2) (.block 0 (.loop F_syms_Gnul0))) (.seq (.reg F_syms_Gnur7) .ret))))
theorem F_syms_Gnuc_W {T : Tab} {env : Env} {H : Heap} {Q : Post} : W T F_syms_Gnuc env H Q ↔ W T (.seq (.reg F_syms_Gnur0) (.seq (.reg F_syms_Gnur1) (.seq (.seq (.reg F_syms_Gnur2) (.block 0 (.loop F_syms_Gnul0))) (.seq (.reg F_syms_Gnur7) .ret)))) env H Q := Iff.rfl
def F_syms_Gnu : IFn := ⟨19, [.tmp 2], F_syms_Gnuc⟩
set_option maxRecDepth 1000000 in
theorem F_syms_Gnu_chk : chkF Try.prog 19 F_syms_Gnu = true := by kernel_rfl

/-! ### syms_Find -/
def F_syms_Findr0 : List IStmt := [
  ⟨some 8, .mv (.c (.int .i64 0)), none⟩]
theorem F_syms_Findr0_W {T : Tab} {env : Env} {H : Heap} {Q : Post} : W T (.reg F_syms_Findr0) env H Q ↔ WR T F_syms_Findr0 [
  ⟨some 8, .mv (.c (.int .i64 0)), none⟩] env H none [] Q := w_reg
def F_syms_Findr1 : List IStmt := [
  ⟨some 11, .mv (.t 0), none⟩,
  ⟨some 12, .len 1 (.t 11), none⟩,
  ⟨some 13, .mv (.c (.int .i64 0)), none⟩]
theorem F_syms_Findr1_W {T : Tab} {env : Env} {H : Heap} {Q : Post} : W T (.reg F_syms_Findr1) env H Q ↔ WR T F_syms_Findr1 [
  ⟨some 11, .mv (.t 0), none⟩,
  ⟨some 12, .len 1 (.t 11), none⟩,
  ⟨some 13, .mv (.c (.int .i64 0)), none⟩] env H none [] Q := w_reg
def F_syms_Findr2 : List IStmt := [
  ⟨some 14, .bin .lss (.t 13) (.t 12), none⟩]
theorem F_syms_Findr2_W {T : Tab} {env : Env} {H : Heap} {Q : Post} : W T (.reg F_syms_Findr2) env H Q ↔ WR T F_syms_Findr2 [
  ⟨some 14, .bin .lss (.t 13) (.t 12), none⟩] env H none [] Q := w_reg
def F_syms_Findr3 : List IStmt := [
  ⟨some 15, .mv (.t 13), none⟩,
  ⟨some 16, .ixa 7 (.t 11) (.t 13), none⟩,
  ⟨some 17, .loadN 7 (.t 16), none⟩,
  ⟨some 10, .alloc 7 [.string ⟨#[]⟩, .string ⟨#[]⟩, .bool false, .int .i64 0, .bool false, .int .u64 0, .int .u64 0], none⟩,
  ⟨some 9, .mv (.t 15), none⟩,
  ⟨none, .store 7 (.t 10) (.t 17), none⟩]
theorem F_syms_Findr3_W {T : Tab} {env : Env} {H : Heap} {Q : Post} : W T (.reg F_syms_Findr3) env H Q ↔ WR T F_syms_Findr3 [
  ⟨some 15, .mv (.t 13), none⟩,
  ⟨some 16, .ixa 7 (.t 11) (.t 13), none⟩,
  ⟨some 17, .loadN 7 (.t 16), none⟩,
  ⟨some 10, .alloc 7 [.string ⟨#[]⟩, .string ⟨#[]⟩, .bool false, .int .i64 0, .bool false, .int .u64 0, .int .u64 0], none⟩,
  ⟨some 9, .mv (.t 15), none⟩,
  ⟨none, .store 7 (.t 10) (.t 17), none⟩] env H none [] Q := w_reg
def F_syms_Findr4 : List IStmt := [
  ⟨some 18, .loadN 7 (.t 10), none⟩,
  ⟨some 19, .callc 33 [(.t 18)], none⟩,
  ⟨some 20, .un .not (.t 19), none⟩,
  ⟨some 21, .mv (.t 20), none⟩,
  ⟨some 22, .fa 0 (.t 10), some (3, false)⟩,
  ⟨some 23, .load (.t 22), some (3, false)⟩,
  ⟨some 24, .mv (.t 2), some (3, false)⟩,
  ⟨some 25, .bin .neq (.t 23) (.t 24), some (3, false)⟩,
  ⟨some 26, .pick (.t 21) (.c (.bool true)) (.t 25), none⟩]
theorem F_syms_Findr4_W {T : Tab} {env : Env} {H : Heap} {Q : Post} : W T (.reg F_syms_Findr4) env H Q ↔ WR T F_syms_Findr4 [
  ⟨some 18, .loadN 7 (.t 10), none⟩,
  ⟨some 19, .callc 33 [(.t 18)], none⟩,
  ⟨some 20, .un .not (.t 19), none⟩,
  ⟨some 21, .mv (.t 20), none⟩,
  ⟨some 22, .fa 0 (.t 10), some (3, false)⟩,
  ⟨some 23, .load (.t 22), some (3, false)⟩,
  ⟨some 24, .mv (.t 2), some (3, false)⟩,
  ⟨some 25, .bin .neq (.t 23) (.t 24), some (3, false)⟩,
  ⟨some 26, .pick (.t 21) (.c (.bool true)) (.t 25), none⟩] env H none [] Q := w_reg
theorem F_syms_Findr4_g3 {env : Env} : yieldI F_syms_Findr4 env 3 = bOf (env 21) := rfl
def F_syms_Findr5 : List IStmt := [
  ⟨some 27, .mv (.t 3), none⟩,
  ⟨some 28, .bin .eql (.t 27) (.c (.string ⟨#[]⟩)), none⟩,
  ⟨some 29, .mv (.t 28), none⟩,
  ⟨some 30, .fa 2 (.t 10), some (2, true)⟩,
  ⟨some 31, .load (.t 30), some (2, true)⟩,
  ⟨some 32, .un .not (.t 31), some (2, true)⟩,
  ⟨some 33, .pick (.t 29) (.t 32) (.c (.bool false)), none⟩,
  ⟨some 34, .mv (.t 33), none⟩,
  ⟨some 35, .mv (.t 3), some (7, false)⟩,
  ⟨some 36, .bin .neq (.t 35) (.c (.string ⟨#[]⟩)), some (7, false)⟩,
  ⟨some 37, .mv (.t 36), some (7, false)⟩,
  ⟨some 38, .fa 1 (.t 10), some (10, true)⟩,
  ⟨some 39, .load (.t 38), some (10, true)⟩,
  ⟨some 40, .mv (.t 3), some (10, true)⟩,
  ⟨some 41, .bin .eql (.t 39) (.t 40), some (10, true)⟩,
  ⟨some 42, .mv (.t 41), some (10, true)⟩,
  ⟨some 43, .mv (.t 1), some (15, false)⟩,
  ⟨some 44, .un .not (.t 43), some (15, false)⟩,
  ⟨some 45, .pick (.t 42) (.c (.bool true)) (.t 44), some (10, true)⟩,
  ⟨some 46, .pick (.t 37) (.t 45) (.c (.bool false)), some (7, false)⟩,
  ⟨some 47, .pick (.t 34) (.c (.bool true)) (.t 46), none⟩]
theorem F_syms_Findr5_W {T : Tab} {env : Env} {H : Heap} {Q : Post} : W T (.reg F_syms_Findr5) env H Q ↔ WR T F_syms_Findr5 [
  ⟨some 27, .mv (.t 3), none⟩,
  ⟨some 28, .bin .eql (.t 27) (.c (.string ⟨#[]⟩)), none⟩,
  ⟨some 29, .mv (.t 28), none⟩,
  ⟨some 30, .fa 2 (.t 10), some (2, true)⟩,
  ⟨some 31, .load (.t 30), some (2, true)⟩,
  ⟨some 32, .un .not (.t 31), some (2, true)⟩,
  ⟨some 33, .pick (.t 29) (.t 32) (.c (.bool false)), none⟩,
  ⟨some 34, .mv (.t 33), none⟩,
  ⟨some 35, .mv (.t 3), some (7, false)⟩,
  ⟨some 36, .bin .neq (.t 35) (.c (.string ⟨#[]⟩)), some (7, false)⟩,
  ⟨some 37, .mv (.t 36), some (7, false)⟩,
  ⟨some 38, .fa 1 (.t 10), some (10, true)⟩,
  ⟨some 39, .load (.t 38), some (10, true)⟩,
  ⟨some 40, .mv (.t 3), some (10, true)⟩,
  ⟨some 41, .bin .eql (.t 39) (.t 40), some (10, true)⟩,
  ⟨some 42, .mv (.t 41), some (10, true)⟩,
  ⟨some 43, .mv (.t 1), some (15, false)⟩,
  ⟨some 44, .un .not (.t 43), some (15, false)⟩,
  ⟨some 45, .pick (.t 42) (.c (.bool true)) (.t 44), some (10, true)⟩,
  ⟨some 46, .pick (.t 37) (.t 45) (.c (.bool false)), some (7, false)⟩,
  ⟨some 47, .pick (.t 34) (.c (.bool true)) (.t 46), none⟩] env H none [] Q := w_reg
theorem F_syms_Findr5_g2 {env : Env} : yieldI F_syms_Findr5 env 2 = bOf (env 29) := rfl
theorem F_syms_Findr5_g7 {env : Env} : yieldI F_syms_Findr5 env 7 = bOf (env 34) := rfl
theorem F_syms_Findr5_g10 {env : Env} : yieldI F_syms_Findr5 env 10 = bOf (env 37) := rfl
theorem F_syms_Findr5_g15 {env : Env} : yieldI F_syms_Findr5 env 15 = bOf (env 42) := rfl
def F_syms_Findr6 : List IStmt := [
  ⟨some 48, .mv (.t 9), none⟩,
  ⟨some 8, .mv (.t 48), none⟩]
theorem F_syms_Findr6_W {T : Tab} {env : Env} {H : Heap} {Q : Post} : W T (.reg F_syms_Findr6) env H Q ↔ WR T F_syms_Findr6 [
  ⟨some 48, .mv (.t 9), none⟩,
  ⟨some 8, .mv (.t 48), none⟩] env H none [] Q := w_reg
def F_syms_Findr7 : List IStmt := [
  ⟨some 49, .bin .add (.t 13) (.c (.int .i64 1)), none⟩,
  ⟨some 13, .mv (.t 49), none⟩]
theorem F_syms_Findr7_W {T : Tab} {env : Env} {H : Heap} {Q : Post} : W T (.reg F_syms_Findr7) env H Q ↔ WR T F_syms_Findr7 [
  ⟨some 49, .bin .add (.t 13) (.c (.int .i64 1)), none⟩,
  ⟨some 13, .mv (.t 49), none⟩] env H none [] Q := w_reg
def F_syms_Findl0 : ICode := (.seq (.reg F_syms_Findr2) (.seq (.cond (.t 14) .skip (.exit 0)) (.seq (.block 1 (.seq (.reg F_syms_Findr3) (.seq (.seq (.reg F_syms_Findr4) (.cond (.t 26) (.exit 1) .skip)) (.seq (.reg F_syms_Findr5) (.cond (.t 47) (.seq (.reg F_syms_Findr6) .ret) .skip))))) (.reg F_syms_Findr7))))
theorem F_syms_Findl0_W {T : Tab} {env : Env} {H : Heap} {Q : Post} : W T F_syms_Findl0 env H Q ↔ W T (.seq (.reg F_syms_Findr2) (.seq (.cond (.t 14) .skip (.exit 0)) (.seq (.block 1 (.seq (.reg F_syms_Findr3) (.seq (.seq (.reg F_syms_Findr4) (.cond (.t 26) (.exit 1) .skip)) (.seq (.reg F_syms_Findr5) (.cond (.t 47) (.seq (.reg F_syms_Findr6) .ret) .skip))))) (.reg F_syms_Findr7)))) env H Q := Iff.rfl
def F_syms_Findr8 : List IStmt := [
  ⟨some 8, .mv (.c (.int .i64 (-1))), none⟩]
theorem F_syms_Findr8_W {T : Tab} {env : Env} {H : Heap} {Q : Post} : W T (.reg F_syms_Findr8) env H Q ↔ WR T F_syms_Findr8 [
  ⟨some 8, .mv (.c (.int .i64 (-1))), none⟩] env H none [] Q := w_reg
def F_syms_Findc : ICode := (.seq (.reg F_syms_Findr0) (.seq (.seq (.reg F_syms_Findr1) (.block 0 (.loop F_syms_Findl0))) (.seq (.reg F_syms_Findr8) .ret)))
theorem F_syms_Findc_W {T : Tab} {env : Env} {H : Heap} {Q : Post} : W T F_syms_Findc env H Q ↔ W T (.seq (.reg F_syms_Findr0) (.seq (.seq (.reg F_syms_Findr1) (.block 0 (.loop F_syms_Findl0))) (.seq (.reg F_syms_Findr8) .ret))) env H Q := Iff.rfl
def F_syms_Find : IFn := ⟨50, [.tmp 8], F_syms_Findc⟩
set_option maxRecDepth 1000000 in
theorem F_syms_Find_chk : chkF Try.prog 22 F_syms_Find = true := by kernel_rfl

/-! ### syms_NewIndex -/
def F_syms_NewIndexr0 : List IStmt := [
  ⟨some 4, .mv (.c (.pointer none)), none⟩]
theorem F_syms_NewIndexr0_W {T : Tab} {env : Env} {H : Heap} {Q : Post} : W T (.reg F_syms_NewIndexr0) env H Q ↔ WR T F_syms_NewIndexr0 [
  ⟨some 4, .mv (.c (.pointer none)), none⟩] env H none [] Q := w_reg
def F_syms_NewIndexr1 : List IStmt := [
  ⟨some 8, .mv (.t 0), none⟩,
  ⟨some 9, .cpy 7 72 (.t 8), none⟩,
  ⟨some 10, .mv (.t 1), none⟩,
  ⟨some 11, .mkm, none⟩,
  ⟨some 12, .bld [.slice none 0 0, .bool false, .map none] [(0, 1, (.t 9)), (1, 1, (.t 10)), (2, 1, (.t 11))], none⟩,
  ⟨some 13, .box 3 (.t 12), none⟩,
  ⟨some 5, .mv (.t 13), none⟩]
theorem F_syms_NewIndexr1_W {T : Tab} {env : Env} {H : Heap} {Q : Post} : W T (.reg F_syms_NewIndexr1) env H Q ↔ WR T F_syms_NewIndexr1 [
  ⟨some 8, .mv (.t 0), none⟩,
  ⟨some 9, .cpy 7 72 (.t 8), none⟩,
  ⟨some 10, .mv (.t 1), none⟩,
  ⟨some 11, .mkm, none⟩,
  ⟨some 12, .bld [.slice none 0 0, .bool false, .map none] [(0, 1, (.t 9)), (1, 1, (.t 10)), (2, 1, (.t 11))], none⟩,
  ⟨some 13, .box 3 (.t 12), none⟩,
  ⟨some 5, .mv (.t 13), none⟩] env H none [] Q := w_reg
def F_syms_NewIndexr2 : List IStmt := [
  ⟨some 14, .mv (.t 0), none⟩,
  ⟨some 15, .len 1 (.t 14), none⟩,
  ⟨some 16, .mv (.c (.int .i64 0)), none⟩]
theorem F_syms_NewIndexr2_W {T : Tab} {env : Env} {H : Heap} {Q : Post} : W T (.reg F_syms_NewIndexr2) env H Q ↔ WR T F_syms_NewIndexr2 [
  ⟨some 14, .mv (.t 0), none⟩,
  ⟨some 15, .len 1 (.t 14), none⟩,
  ⟨some 16, .mv (.c (.int .i64 0)), none⟩] env H none [] Q := w_reg
def F_syms_NewIndexr3 : List IStmt := [
  ⟨some 17, .bin .lss (.t 16) (.t 15), none⟩]
theorem F_syms_NewIndexr3_W {T : Tab} {env : Env} {H : Heap} {Q : Post} : W T (.reg F_syms_NewIndexr3) env H Q ↔ WR T F_syms_NewIndexr3 [
  ⟨some 17, .bin .lss (.t 16) (.t 15), none⟩] env H none [] Q := w_reg
def F_syms_NewIndexr4 : List IStmt := [
  ⟨some 18, .mv (.t 16), none⟩,
  ⟨some 19, .ixa 7 (.t 14) (.t 16), none⟩,
  ⟨some 20, .loadN 7 (.t 19), none⟩,
  ⟨some 7, .alloc 7 [.string ⟨#[]⟩, .string ⟨#[]⟩, .bool false, .int .i64 0, .bool false, .int .u64 0, .int .u64 0], none⟩,
  ⟨some 6, .mv (.t 18), none⟩,
  ⟨none, .store 7 (.t 7) (.t 20), none⟩]
theorem F_syms_NewIndexr4_W {T : Tab} {env : Env} {H : Heap} {Q : Post} : W T (.reg F_syms_NewIndexr4) env H Q ↔ WR T F_syms_NewIndexr4 [
  ⟨some 18, .mv (.t 16), none⟩,
  ⟨some 19, .ixa 7 (.t 14) (.t 16), none⟩,
  ⟨some 20, .loadN 7 (.t 19), none⟩,
  ⟨some 7, .alloc 7 [.string ⟨#[]⟩, .string ⟨#[]⟩, .bool false, .int .i64 0, .bool false, .int .u64 0, .int .u64 0], none⟩,
  ⟨some 6, .mv (.t 18), none⟩,
  ⟨none, .store 7 (.t 7) (.t 20), none⟩] env H none [] Q := w_reg
def F_syms_NewIndexr5 : List IStmt := [
  ⟨some 21, .loadN 7 (.t 7), none⟩,
  ⟨some 22, .callc 33 [(.t 21)], none⟩]
theorem F_syms_NewIndexr5_W {T : Tab} {env : Env} {H : Heap} {Q : Post} : W T (.reg F_syms_NewIndexr5) env H Q ↔ WR T F_syms_NewIndexr5 [
  ⟨some 21, .loadN 7 (.t 7), none⟩,
  ⟨some 22, .callc 33 [(.t 21)], none⟩] env H none [] Q := w_reg
def F_syms_NewIndexr6 : List IStmt := [
  ⟨some 23, .mv (.t 5), none⟩,
  ⟨some 24, .nilc (.t 23), none⟩,
  ⟨some 25, .fa 2 (.t 24), none⟩,
  ⟨some 26, .load (.t 25), none⟩,
  ⟨some 27, .fa 0 (.t 7), none⟩,
  ⟨some 28, .load (.t 27), none⟩,
  ⟨some 29, .mv (.t 5), none⟩,
  ⟨some 30, .nilc (.t 29), none⟩,
  ⟨some 31, .fa 2 (.t 30), none⟩,
  ⟨some 32, .load (.t 31), none⟩,
  ⟨some 33, .fa 0 (.t 7), none⟩,
  ⟨some 34, .load (.t 33), none⟩,
  ⟨some 35, .lku 2 false false [.slice none 0 0] (.t 32) (.t 34), none⟩,
  ⟨some 36, .mv (.t 6), none⟩,
  ⟨some 37, .bsli 1 1 [.int .i64 0] [(0, (.t 36))], none⟩,
  ⟨some 38, .app 1 8 (.t 35) (.t 37), none⟩,
  ⟨none, .mup 2 (.t 26) (.t 28) (.t 38), none⟩]
theorem F_syms_NewIndexr6_W {T : Tab} {env : Env} {H : Heap} {Q : Post} : W T (.dreg F_syms_NewIndexr6 [(3, 16), (5, 16)]) env H Q ↔ WR T F_syms_NewIndexr6 [
  ⟨some 23, .mv (.t 5), none⟩,
  ⟨some 24, .nilc (.t 23), none⟩,
  ⟨some 25, .fa 2 (.t 24), none⟩,
  ⟨some 26, .load (.t 25), none⟩,
  ⟨some 27, .fa 0 (.t 7), none⟩,
  ⟨some 28, .load (.t 27), none⟩,
  ⟨some 29, .mv (.t 5), none⟩,
  ⟨some 30, .nilc (.t 29), none⟩,
  ⟨some 31, .fa 2 (.t 30), none⟩,
  ⟨some 32, .load (.t 31), none⟩,
  ⟨some 33, .fa 0 (.t 7), none⟩,
  ⟨some 34, .load (.t 33), none⟩,
  ⟨some 35, .lku 2 false false [.slice none 0 0] (.t 32) (.t 34), none⟩,
  ⟨some 36, .mv (.t 6), none⟩,
  ⟨some 37, .bsli 1 1 [.int .i64 0] [(0, (.t 36))], none⟩,
  ⟨some 38, .app 1 8 (.t 35) (.t 37), none⟩,
  ⟨none, .mup 2 (.t 26) (.t 28) (.t 38), none⟩] env H (some []) [(3, 16), (5, 16)] Q := w_dreg
theorem F_syms_NewIndexr6_len : F_syms_NewIndexr6.length = 17 := rfl
theorem F_syms_NewIndexr6_i3 : F_syms_NewIndexr6[3]? = some ⟨some 26, .load (.t 25), none⟩ := rfl
theorem F_syms_NewIndexr6_i5 : F_syms_NewIndexr6[5]? = some ⟨some 28, .load (.t 27), none⟩ := rfl
def F_syms_NewIndexr7 : List IStmt := [
  ⟨some 39, .bin .add (.t 16) (.c (.int .i64 1)), none⟩,
  ⟨some 16, .mv (.t 39), none⟩]
theorem F_syms_NewIndexr7_W {T : Tab} {env : Env} {H : Heap} {Q : Post} : W T (.reg F_syms_NewIndexr7) env H Q ↔ WR T F_syms_NewIndexr7 [
  ⟨some 39, .bin .add (.t 16) (.c (.int .i64 1)), none⟩,
  ⟨some 16, .mv (.t 39), none⟩] env H none [] Q := w_reg
def F_syms_NewIndexl0 : ICode := (.seq (.reg F_syms_NewIndexr3) (.seq (.cond (.t 17) .skip (.exit 0)) (.seq (.block 1 (.seq (.reg F_syms_NewIndexr4) (.seq (.reg F_syms_NewIndexr5) (.cond (.t 22) (.dreg F_syms_NewIndexr6 [(3, 16), (5, 16)]) .skip)))) (.reg F_syms_NewIndexr7))))
theorem F_syms_NewIndexl0_W {T : Tab} {env : Env} {H : Heap} {Q : Post} : W T F_syms_NewIndexl0 env H Q ↔ W T (.seq (.reg F_syms_NewIndexr3) (.seq (.cond (.t 17) .skip (.exit 0)) (.seq (.block 1 (.seq (.reg F_syms_NewIndexr4) (.seq (.reg F_syms_NewIndexr5) (.cond (.t 22) (.dreg F_syms_NewIndexr6 [(3, 16), (5, 16)]) .skip)))) (.reg F_syms_NewIndexr7)))) env H Q := Iff.rfl
def F_syms_NewIndexr8 : List IStmt := [
  ⟨some 40, .mv (.t 5), none⟩,
  ⟨some 4, .mv (.t 40), none⟩]
theorem F_syms_NewIndexr8_W {T : Tab} {env : Env} {H : Heap} {Q : Post} : W T (.reg F_syms_NewIndexr8) env H Q ↔ WR T F_syms_NewIndexr8 [
  ⟨some 40, .mv (.t 5), none⟩,
  ⟨some 4, .mv (.t 40), none⟩] env H none [] Q := w_reg
def F_syms_NewIndexc : ICode := (.seq (.reg F_syms_NewIndexr0) (.seq (.reg F_syms_NewIndexr1) (.seq (.seq (.reg F_syms_NewIndexr2) (.block 0 (.loop F_syms_NewIndexl0))) (.seq (.reg F_syms_NewIndexr8) .ret))))
theorem F_syms_NewIndexc_W {T : Tab} {env : Env} {H : Heap} {Q : Post} : W T F_syms_NewIndexc env H Q ↔ W T (.seq (.reg F_syms_NewIndexr0) (.seq (.reg F_syms_NewIndexr1) (.seq (.seq (.reg F_syms_NewIndexr2) (.block 0 (.loop F_syms_NewIndexl0))) (.seq (.reg F_syms_NewIndexr8) .ret)))) env H Q := Iff.rfl
def F_syms_NewIndex : IFn := ⟨41, [.tmp 4], F_syms_NewIndexc⟩
set_option maxRecDepth 1000000 in
theorem F_syms_NewIndex_chk : chkF Try.prog 28 F_syms_NewIndex = true := by kernel_rfl

/-! ### syms_Index_Find -/
def F_syms_Index_Findr0 : List IStmt := [
  ⟨some 6, .mv (.c (.int .i64 0)), none⟩]
theorem F_syms_Index_Findr0_W {T : Tab} {env : Env} {H : Heap} {Q : Post} : W T (.reg F_syms_Index_Findr0) env H Q ↔ WR T F_syms_Index_Findr0 [
  ⟨some 6, .mv (.c (.int .i64 0)), none⟩] env H none [] Q := w_reg
def F_syms_Index_Findr1 : List IStmt := [
  ⟨some 9, .mv (.t 0), none⟩,
  ⟨some 10, .nilc (.t 9), none⟩,
  ⟨some 11, .fa 2 (.t 10), none⟩,
  ⟨some 12, .load (.t 11), none⟩,
  ⟨some 13, .mv (.t 1), none⟩,
  ⟨some 14, .lku 2 false false [.slice none 0 0] (.t 12) (.t 13), none⟩,
  ⟨some 15, .len 1 (.t 14), none⟩,
  ⟨some 16, .mv (.c (.int .i64 0)), none⟩]
theorem F_syms_Index_Findr1_W {T : Tab} {env : Env} {H : Heap} {Q : Post} : W T (.reg F_syms_Index_Findr1) env H Q ↔ WR T F_syms_Index_Findr1 [
  ⟨some 9, .mv (.t 0), none⟩,
  ⟨some 10, .nilc (.t 9), none⟩,
  ⟨some 11, .fa 2 (.t 10), none⟩,
  ⟨some 12, .load (.t 11), none⟩,
  ⟨some 13, .mv (.t 1), none⟩,
  ⟨some 14, .lku 2 false false [.slice none 0 0] (.t 12) (.t 13), none⟩,
  ⟨some 15, .len 1 (.t 14), none⟩,
  ⟨some 16, .mv (.c (.int .i64 0)), none⟩] env H none [] Q := w_reg
def F_syms_Index_Findr2 : List IStmt := [
  ⟨some 17, .bin .lss (.t 16) (.t 15), none⟩]
theorem F_syms_Index_Findr2_W {T : Tab} {env : Env} {H : Heap} {Q : Post} : W T (.reg F_syms_Index_Findr2) env H Q ↔ WR T F_syms_Index_Findr2 [
  ⟨some 17, .bin .lss (.t 16) (.t 15), none⟩] env H none [] Q := w_reg
def F_syms_Index_Findr3 : List IStmt := [
  ⟨some 18, .ixa 1 (.t 14) (.t 16), none⟩,
  ⟨some 19, .load (.t 18), none⟩,
  ⟨some 8, .mv (.t 19), none⟩]
theorem F_syms_Index_Findr3_W {T : Tab} {env : Env} {H : Heap} {Q : Post} : W T (.reg F_syms_Index_Findr3) env H Q ↔ WR T F_syms_Index_Findr3 [
  ⟨some 18, .ixa 1 (.t 14) (.t 16), none⟩,
  ⟨some 19, .load (.t 18), none⟩,
  ⟨some 8, .mv (.t 19), none⟩] env H none [] Q := w_reg
def F_syms_Index_Findr4 : List IStmt := [
  ⟨some 20, .mv (.t 0), none⟩,
  ⟨some 21, .nilc (.t 20), none⟩,
  ⟨some 22, .fa 0 (.t 21), none⟩,
  ⟨some 23, .load (.t 22), none⟩,
  ⟨some 24, .mv (.t 8), none⟩,
  ⟨some 25, .mv (.t 8), none⟩,
  ⟨some 26, .bin .add (.t 25) (.c (.int .i64 1)), none⟩,
  ⟨some 27, .mv (.t 8), none⟩,
  ⟨some 28, .bin .add (.t 27) (.c (.int .i64 1)), none⟩,
  ⟨some 29, .sle 7 (.t 23) (some (.t 24)) (some (.t 26)) (some (.t 28)), none⟩,
  ⟨some 30, .mv (.t 0), none⟩,
  ⟨some 31, .nilc (.t 30), none⟩,
  ⟨some 32, .fa 1 (.t 31), none⟩,
  ⟨some 33, .load (.t 32), none⟩,
  ⟨some 34, .mv (.t 1), none⟩,
  ⟨some 35, .mv (.t 2), none⟩,
  ⟨some 36, .calll 22 [(.t 29), (.t 33), (.t 34), (.t 35)], none⟩,
  ⟨some 37, .bin .eql (.t 36) (.c (.int .i64 0)), none⟩]
theorem F_syms_Index_Findr4_W {T : Tab} {env : Env} {H : Heap} {Q : Post} : W T (.dreg F_syms_Index_Findr4 []) env H Q ↔ WR T F_syms_Index_Findr4 [
  ⟨some 20, .mv (.t 0), none⟩,
  ⟨some 21, .nilc (.t 20), none⟩,
  ⟨some 22, .fa 0 (.t 21), none⟩,
  ⟨some 23, .load (.t 22), none⟩,
  ⟨some 24, .mv (.t 8), none⟩,
  ⟨some 25, .mv (.t 8), none⟩,
  ⟨some 26, .bin .add (.t 25) (.c (.int .i64 1)), none⟩,
  ⟨some 27, .mv (.t 8), none⟩,
  ⟨some 28, .bin .add (.t 27) (.c (.int .i64 1)), none⟩,
  ⟨some 29, .sle 7 (.t 23) (some (.t 24)) (some (.t 26)) (some (.t 28)), none⟩,
  ⟨some 30, .mv (.t 0), none⟩,
  ⟨some 31, .nilc (.t 30), none⟩,
  ⟨some 32, .fa 1 (.t 31), none⟩,
  ⟨some 33, .load (.t 32), none⟩,
  ⟨some 34, .mv (.t 1), none⟩,
  ⟨some 35, .mv (.t 2), none⟩,
  ⟨some 36, .calll 22 [(.t 29), (.t 33), (.t 34), (.t 35)], none⟩,
  ⟨some 37, .bin .eql (.t 36) (.c (.int .i64 0)), none⟩] env H none [] Q := w_dreg0
def F_syms_Index_Findr5 : List IStmt := [
  ⟨some 38, .mv (.t 8), none⟩,
  ⟨some 6, .mv (.t 38), none⟩]
theorem F_syms_Index_Findr5_W {T : Tab} {env : Env} {H : Heap} {Q : Post} : W T (.reg F_syms_Index_Findr5) env H Q ↔ WR T F_syms_Index_Findr5 [
  ⟨some 38, .mv (.t 8), none⟩,
  ⟨some 6, .mv (.t 38), none⟩] env H none [] Q := w_reg
def F_syms_Index_Findr6 : List IStmt := [
  ⟨some 39, .bin .add (.t 16) (.c (.int .i64 1)), none⟩,
  ⟨some 16, .mv (.t 39), none⟩]
theorem F_syms_Index_Findr6_W {T : Tab} {env : Env} {H : Heap} {Q : Post} : W T (.reg F_syms_Index_Findr6) env H Q ↔ WR T F_syms_Index_Findr6 [
  ⟨some 39, .bin .add (.t 16) (.c (.int .i64 1)), none⟩,
  ⟨some 16, .mv (.t 39), none⟩] env H none [] Q := w_reg
def F_syms_Index_Findl0 : ICode := (.seq (.reg F_syms_Index_Findr2) (.seq (.cond (.t 17) .skip (.exit 0)) (.seq (.block 1 (.seq (.reg F_syms_Index_Findr3) (.seq (.dreg F_syms_Index_Findr4 []) (.cond (.t 37) (.seq (.reg F_syms_Index_Findr5) .ret) .skip)))) (.reg F_syms_Index_Findr6))))
theorem F_syms_Index_Findl0_W {T : Tab} {env : Env} {H : Heap} {Q : Post} : W T F_syms_Index_Findl0 env H Q ↔ W T (.seq (.reg F_syms_Index_Findr2) (.seq (.cond (.t 17) .skip (.exit 0)) (.seq (.block 1 (.seq (.reg F_syms_Index_Findr3) (.seq (.dreg F_syms_Index_Findr4 []) (.cond (.t 37) (.seq (.reg F_syms_Index_Findr5) .ret) .skip)))) (.reg F_syms_Index_Findr6)))) env H Q := Iff.rfl
def F_syms_Index_Findr7 : List IStmt := [
  ⟨some 6, .mv (.c (.int .i64 (-1))), none⟩]
theorem F_syms_Index_Findr7_W {T : Tab} {env : Env} {H : Heap} {Q : Post} : W T (.reg F_syms_Index_Findr7) env H Q ↔ WR T F_syms_Index_Findr7 [
  ⟨some 6, .mv (.c (.int .i64 (-1))), none⟩] env H none [] Q := w_reg
def F_syms_Index_Findc : ICode := (.seq (.reg F_syms_Index_Findr0) (.seq (.seq (.reg F_syms_Index_Findr1) (.block 0 (.loop F_syms_Index_Findl0))) (.seq (.reg F_syms_Index_Findr7) .ret)))
theorem F_syms_Index_Findc_W {T : Tab} {env : Env} {H : Heap} {Q : Post} : W T F_syms_Index_Findc env H Q ↔ W T (.seq (.reg F_syms_Index_Findr0) (.seq (.seq (.reg F_syms_Index_Findr1) (.block 0 (.loop F_syms_Index_Findl0))) (.seq (.reg F_syms_Index_Findr7) .ret))) env H Q := Iff.rfl
def F_syms_Index_Find : IFn := ⟨40, [.tmp 6], F_syms_Index_Findc⟩
set_option maxRecDepth 1000000 in
theorem F_syms_Index_Find_chk : chkF Try.prog 30 F_syms_Index_Find = true := by kernel_rfl

/-! ### syms_Near -/
def F_syms_Nearr0 : List IStmt := [
  ⟨some 4, .mv (.c (.int .i64 0)), none⟩]
theorem F_syms_Nearr0_W {T : Tab} {env : Env} {H : Heap} {Q : Post} : W T (.reg F_syms_Nearr0) env H Q ↔ WR T F_syms_Nearr0 [
  ⟨some 4, .mv (.c (.int .i64 0)), none⟩] env H none [] Q := w_reg
def F_syms_Nearr1 : List IStmt := [
  ⟨some 5, .mv (.c (.int .i64 (-1))), none⟩]
theorem F_syms_Nearr1_W {T : Tab} {env : Env} {H : Heap} {Q : Post} : W T (.reg F_syms_Nearr1) env H Q ↔ WR T F_syms_Nearr1 [
  ⟨some 5, .mv (.c (.int .i64 (-1))), none⟩] env H none [] Q := w_reg
def F_syms_Nearr2 : List IStmt := [
  ⟨some 8, .mv (.t 0), none⟩,
  ⟨some 9, .len 1 (.t 8), none⟩,
  ⟨some 10, .mv (.c (.int .i64 0)), none⟩]
theorem F_syms_Nearr2_W {T : Tab} {env : Env} {H : Heap} {Q : Post} : W T (.reg F_syms_Nearr2) env H Q ↔ WR T F_syms_Nearr2 [
  ⟨some 8, .mv (.t 0), none⟩,
  ⟨some 9, .len 1 (.t 8), none⟩,
  ⟨some 10, .mv (.c (.int .i64 0)), none⟩] env H none [] Q := w_reg
def F_syms_Nearr3 : List IStmt := [
  ⟨some 11, .bin .lss (.t 10) (.t 9), none⟩]
theorem F_syms_Nearr3_W {T : Tab} {env : Env} {H : Heap} {Q : Post} : W T (.reg F_syms_Nearr3) env H Q ↔ WR T F_syms_Nearr3 [
  ⟨some 11, .bin .lss (.t 10) (.t 9), none⟩] env H none [] Q := w_reg
def F_syms_Nearr4 : List IStmt := [
  ⟨some 12, .mv (.t 10), none⟩,
  ⟨some 13, .ixa 7 (.t 8) (.t 10), none⟩,
  ⟨some 14, .loadN 7 (.t 13), none⟩,
  ⟨some 7, .alloc 7 [.string ⟨#[]⟩, .string ⟨#[]⟩, .bool false, .int .i64 0, .bool false, .int .u64 0, .int .u64 0], none⟩,
  ⟨some 6, .mv (.t 12), none⟩,
  ⟨none, .store 7 (.t 7) (.t 14), none⟩]
theorem F_syms_Nearr4_W {T : Tab} {env : Env} {H : Heap} {Q : Post} : W T (.reg F_syms_Nearr4) env H Q ↔ WR T F_syms_Nearr4 [
  ⟨some 12, .mv (.t 10), none⟩,
  ⟨some 13, .ixa 7 (.t 8) (.t 10), none⟩,
  ⟨some 14, .loadN 7 (.t 13), none⟩,
  ⟨some 7, .alloc 7 [.string ⟨#[]⟩, .string ⟨#[]⟩, .bool false, .int .i64 0, .bool false, .int .u64 0, .int .u64 0], none⟩,
  ⟨some 6, .mv (.t 12), none⟩,
  ⟨none, .store 7 (.t 7) (.t 14), none⟩] env H none [] Q := w_reg
def F_syms_Nearr5 : List IStmt := [
  ⟨some 15, .loadN 7 (.t 7), none⟩,
  ⟨some 16, .callc 33 [(.t 15)], none⟩,
  ⟨some 17, .un .not (.t 16), none⟩,
  ⟨some 18, .mv (.t 17), none⟩,
  ⟨some 19, .mv (.t 1), some (3, false)⟩,
  ⟨some 20, .fa 5 (.t 7), some (3, false)⟩,
  ⟨some 21, .load (.t 20), some (3, false)⟩,
  ⟨some 22, .bin .lss (.t 19) (.t 21), some (3, false)⟩,
  ⟨some 23, .pick (.t 18) (.c (.bool true)) (.t 22), none⟩,
  ⟨some 24, .mv (.t 23), none⟩,
  ⟨some 25, .mv (.t 1), some (9, false)⟩,
  ⟨some 26, .fa 5 (.t 7), some (9, false)⟩,
  ⟨some 27, .load (.t 26), some (9, false)⟩,
  ⟨some 28, .bin .sub (.t 25) (.t 27), some (9, false)⟩,
  ⟨some 29, .fa 6 (.t 7), some (9, false)⟩,
  ⟨some 30, .load (.t 29), some (9, false)⟩,
  ⟨some 31, .mx (.t 30) (.c (.int .u64 1)), some (9, false)⟩,
  ⟨some 32, .bin .geq (.t 28) (.t 31), some (9, false)⟩,
  ⟨some 33, .pick (.t 24) (.c (.bool true)) (.t 32), none⟩]
theorem F_syms_Nearr5_W {T : Tab} {env : Env} {H : Heap} {Q : Post} : W T (.reg F_syms_Nearr5) env H Q ↔ WR T F_syms_Nearr5 [
  ⟨some 15, .loadN 7 (.t 7), none⟩,
  ⟨some 16, .callc 33 [(.t 15)], none⟩,
  ⟨some 17, .un .not (.t 16), none⟩,
  ⟨some 18, .mv (.t 17), none⟩,
  ⟨some 19, .mv (.t 1), some (3, false)⟩,
  ⟨some 20, .fa 5 (.t 7), some (3, false)⟩,
  ⟨some 21, .load (.t 20), some (3, false)⟩,
  ⟨some 22, .bin .lss (.t 19) (.t 21), some (3, false)⟩,
  ⟨some 23, .pick (.t 18) (.c (.bool true)) (.t 22), none⟩,
  ⟨some 24, .mv (.t 23), none⟩,
  ⟨some 25, .mv (.t 1), some (9, false)⟩,
  ⟨some 26, .fa 5 (.t 7), some (9, false)⟩,
  ⟨some 27, .load (.t 26), some (9, false)⟩,
  ⟨some 28, .bin .sub (.t 25) (.t 27), some (9, false)⟩,
  ⟨some 29, .fa 6 (.t 7), some (9, false)⟩,
  ⟨some 30, .load (.t 29), some (9, false)⟩,
  ⟨some 31, .mx (.t 30) (.c (.int .u64 1)), some (9, false)⟩,
  ⟨some 32, .bin .geq (.t 28) (.t 31), some (9, false)⟩,
  ⟨some 33, .pick (.t 24) (.c (.bool true)) (.t 32), none⟩] env H none [] Q := w_reg
theorem F_syms_Nearr5_g3 {env : Env} : yieldI F_syms_Nearr5 env 3 = bOf (env 18) := rfl
theorem F_syms_Nearr5_g9 {env : Env} : yieldI F_syms_Nearr5 env 9 = bOf (env 24) := rfl
def F_syms_Nearr6 : List IStmt := [
  ⟨some 34, .mv (.t 5), none⟩,
  ⟨some 35, .bin .lss (.t 34) (.c (.int .i64 0)), none⟩,
  ⟨some 36, .mv (.t 35), none⟩,
  ⟨some 37, .fa 5 (.t 7), some (2, false)⟩,
  ⟨some 38, .load (.t 37), some (2, false)⟩,
  ⟨some 39, .mv (.t 0), some (2, false)⟩,
  ⟨some 40, .mv (.t 5), some (2, false)⟩,
  ⟨some 41, .ixa 7 (.t 39) (.t 40), some (2, false)⟩,
  ⟨some 42, .fa 5 (.t 41), some (2, false)⟩,
  ⟨some 43, .load (.t 42), some (2, false)⟩,
  ⟨some 44, .bin .gtr (.t 38) (.t 43), some (2, false)⟩,
  ⟨some 45, .pick (.t 36) (.c (.bool true)) (.t 44), none⟩]
theorem F_syms_Nearr6_g2 {env : Env} : yieldI F_syms_Nearr6 env 2 = bOf (env 36) := rfl
theorem F_syms_Nearr6_W {T : Tab} {env : Env} {H : Heap} {Q : Post} : W T (.dreg F_syms_Nearr6 []) env H Q ↔ WR T F_syms_Nearr6 [
  ⟨some 34, .mv (.t 5), none⟩,
  ⟨some 35, .bin .lss (.t 34) (.c (.int .i64 0)), none⟩,
  ⟨some 36, .mv (.t 35), none⟩,
  ⟨some 37, .fa 5 (.t 7), some (2, false)⟩,
  ⟨some 38, .load (.t 37), some (2, false)⟩,
  ⟨some 39, .mv (.t 0), some (2, false)⟩,
  ⟨some 40, .mv (.t 5), some (2, false)⟩,
  ⟨some 41, .ixa 7 (.t 39) (.t 40), some (2, false)⟩,
  ⟨some 42, .fa 5 (.t 41), some (2, false)⟩,
  ⟨some 43, .load (.t 42), some (2, false)⟩,
  ⟨some 44, .bin .gtr (.t 38) (.t 43), some (2, false)⟩,
  ⟨some 45, .pick (.t 36) (.c (.bool true)) (.t 44), none⟩] env H none [] Q := w_dreg0
def F_syms_Nearr7 : List IStmt := [
  ⟨some 46, .mv (.t 6), none⟩,
  ⟨some 5, .mv (.t 46), none⟩]
theorem F_syms_Nearr7_W {T : Tab} {env : Env} {H : Heap} {Q : Post} : W T (.reg F_syms_Nearr7) env H Q ↔ WR T F_syms_Nearr7 [
  ⟨some 46, .mv (.t 6), none⟩,
  ⟨some 5, .mv (.t 46), none⟩] env H none [] Q := w_reg
def F_syms_Nearr8 : List IStmt := [
  ⟨some 47, .bin .add (.t 10) (.c (.int .i64 1)), none⟩,
  ⟨some 10, .mv (.t 47), none⟩]
theorem F_syms_Nearr8_W {T : Tab} {env : Env} {H : Heap} {Q : Post} : W T (.reg F_syms_Nearr8) env H Q ↔ WR T F_syms_Nearr8 [
  ⟨some 47, .bin .add (.t 10) (.c (.int .i64 1)), none⟩,
  ⟨some 10, .mv (.t 47), none⟩] env H none [] Q := w_reg
def F_syms_Nearl0 : ICode := (.seq (.reg F_syms_Nearr3) (.seq (.cond (.t 11) .skip (.exit 0)) (.seq (.block 1 (.seq (.reg F_syms_Nearr4) (.seq (.seq (.reg F_syms_Nearr5) (.cond (.t 33) (.exit 1) .skip)) (.seq (.dreg F_syms_Nearr6 []) (.cond (.t 45) (.reg F_syms_Nearr7) .skip))))) (.reg F_syms_Nearr8))))
theorem F_syms_Nearl0_W {T : Tab} {env : Env} {H : Heap} {Q : Post} : W T F_syms_Nearl0 env H Q ↔ W T (.seq (.reg F_syms_Nearr3) (.seq (.cond (.t 11) .skip (.exit 0)) (.seq (.block 1 (.seq (.reg F_syms_Nearr4) (.seq (.seq (.reg F_syms_Nearr5) (.cond (.t 33) (.exit 1) .skip)) (.seq (.dreg F_syms_Nearr6 []) (.cond (.t 45) (.reg F_syms_Nearr7) .skip))))) (.reg F_syms_Nearr8)))) env H Q := Iff.rfl
def F_syms_Nearr9 : List IStmt := [
  ⟨some 48, .mv (.t 5), none⟩,
  ⟨some 4, .mv (.t 48), none⟩]
theorem F_syms_Nearr9_W {T : Tab} {env : Env} {H : Heap} {Q : Post} : W T (.reg F_syms_Nearr9) env H Q ↔ WR T F_syms_Nearr9 [
  ⟨some 48, .mv (.t 5), none⟩,
  ⟨some 4, .mv (.t 48), none⟩] env H none [] Q := w_reg
def F_syms_Nearc : ICode := (.seq (.reg F_syms_Nearr0) (.seq (.reg F_syms_Nearr1) (.seq (.seq (.reg F_syms_Nearr2) (.block 0 (.loop F_syms_Nearl0))) (.seq (.reg F_syms_Nearr9) .ret))))
theorem F_syms_Nearc_W {T : Tab} {env : Env} {H : Heap} {Q : Post} : W T F_syms_Nearc env H Q ↔ W T (.seq (.reg F_syms_Nearr0) (.seq (.reg F_syms_Nearr1) (.seq (.seq (.reg F_syms_Nearr2) (.block 0 (.loop F_syms_Nearl0))) (.seq (.reg F_syms_Nearr9) .ret)))) env H Q := Iff.rfl
def F_syms_Near : IFn := ⟨49, [.tmp 4], F_syms_Nearc⟩
set_option maxRecDepth 1000000 in
theorem F_syms_Near_chk : chkF Try.prog 31 F_syms_Near = true := by kernel_rfl

/-! ### syms_Exported -/
def F_syms_Exportedr0 : List IStmt := [
  ⟨some 1, .box 7 (.t 0), none⟩,
  ⟨some 2, .mv (.c (.bool false)), none⟩]
theorem F_syms_Exportedr0_W {T : Tab} {env : Env} {H : Heap} {Q : Post} : W T (.reg F_syms_Exportedr0) env H Q ↔ WR T F_syms_Exportedr0 [
  ⟨some 1, .box 7 (.t 0), none⟩,
  ⟨some 2, .mv (.c (.bool false)), none⟩] env H none [] Q := w_reg
def F_syms_Exportedr1 : List IStmt := [
  ⟨some 3, .fa 4 (.t 1), none⟩,
  ⟨some 4, .load (.t 3), none⟩,
  ⟨some 5, .mv (.t 4), none⟩,
  ⟨some 6, .fa 3 (.t 1), some (2, true)⟩,
  ⟨some 7, .load (.t 6), some (2, true)⟩,
  ⟨some 8, .bin .neq (.t 7) (.c (.int .i64 0)), some (2, true)⟩,
  ⟨some 9, .pick (.t 5) (.t 8) (.c (.bool false)), none⟩,
  ⟨some 2, .mv (.t 9), none⟩]
theorem F_syms_Exportedr1_W {T : Tab} {env : Env} {H : Heap} {Q : Post} : W T (.reg F_syms_Exportedr1) env H Q ↔ WR T F_syms_Exportedr1 [
  ⟨some 3, .fa 4 (.t 1), none⟩,
  ⟨some 4, .load (.t 3), none⟩,
  ⟨some 5, .mv (.t 4), none⟩,
  ⟨some 6, .fa 3 (.t 1), some (2, true)⟩,
  ⟨some 7, .load (.t 6), some (2, true)⟩,
  ⟨some 8, .bin .neq (.t 7) (.c (.int .i64 0)), some (2, true)⟩,
  ⟨some 9, .pick (.t 5) (.t 8) (.c (.bool false)), none⟩,
  ⟨some 2, .mv (.t 9), none⟩] env H none [] Q := w_reg
theorem F_syms_Exportedr1_g2 {env : Env} : yieldI F_syms_Exportedr1 env 2 = bOf (env 5) := rfl
def F_syms_Exportedc : ICode := (.seq (.reg F_syms_Exportedr0) (.seq (.reg F_syms_Exportedr1) .ret))
theorem F_syms_Exportedc_W {T : Tab} {env : Env} {H : Heap} {Q : Post} : W T F_syms_Exportedc env H Q ↔ W T (.seq (.reg F_syms_Exportedr0) (.seq (.reg F_syms_Exportedr1) .ret)) env H Q := Iff.rfl
def F_syms_Exported : IFn := ⟨10, [.tmp 2], F_syms_Exportedc⟩
set_option maxRecDepth 1000000 in
theorem F_syms_Exported_chk : chkF Try.prog 33 F_syms_Exported = true := by kernel_rfl

/-! ### ref10_Sysv -/
def F_ref10_Sysvr0 : List IStmt := [
  ⟨some 2, .mv (.c (.int .u32 0)), none⟩]
theorem F_ref10_Sysvr0_W {T : Tab} {env : Env} {H : Heap} {Q : Post} : W T (.reg F_ref10_Sysvr0) env H Q ↔ WR T F_ref10_Sysvr0 [
  ⟨some 2, .mv (.c (.int .u32 0)), none⟩] env H none [] Q := w_reg
def F_ref10_Sysvr1 : List IStmt := [
  ⟨some 3, .mv (.c (.int .u64 0)), none⟩]
theorem F_ref10_Sysvr1_W {T : Tab} {env : Env} {H : Heap} {Q : Post} : W T (.reg F_ref10_Sysvr1) env H Q ↔ WR T F_ref10_Sysvr1 [
  ⟨some 3, .mv (.c (.int .u64 0)), none⟩] env H none [] Q := w_reg
def F_ref10_Sysvr2 : List IStmt := [
  ⟨some 4, .mv (.c (.int .i64 0)), none⟩]
theorem F_ref10_Sysvr2_W {T : Tab} {env : Env} {H : Heap} {Q : Post} : W T (.reg F_ref10_Sysvr2) env H Q ↔ WR T F_ref10_Sysvr2 [
  ⟨some 4, .mv (.c (.int .i64 0)), none⟩] env H none [] Q := w_reg
def F_ref10_Sysvr3 : List IStmt := [
  ⟨some 6, .mv (.t 4), none⟩,
  ⟨some 7, .mv (.t 0), none⟩,
  ⟨some 8, .len 0 (.t 7), none⟩,
  ⟨some 9, .bin .lss (.t 6) (.t 8), none⟩]
theorem F_ref10_Sysvr3_W {T : Tab} {env : Env} {H : Heap} {Q : Post} : W T (.reg F_ref10_Sysvr3) env H Q ↔ WR T F_ref10_Sysvr3 [
  ⟨some 6, .mv (.t 4), none⟩,
  ⟨some 7, .mv (.t 0), none⟩,
  ⟨some 8, .len 0 (.t 7), none⟩,
  ⟨some 9, .bin .lss (.t 6) (.t 8), none⟩] env H none [] Q := w_reg
def F_ref10_Sysvr5 : List IStmt := [
  ⟨some 12, .mv (.t 3), none⟩,
  ⟨some 13, .bin .mul (.t 12) (.c (.int .u64 16)), none⟩,
  ⟨some 14, .mv (.t 0), none⟩,
  ⟨some 15, .mv (.t 4), none⟩,
  ⟨some 16, .ixs (.t 14) (.t 15), none⟩,
  ⟨some 17, .conv .u64 (.t 16), none⟩,
  ⟨some 18, .bin .add (.t 13) (.t 17), none⟩,
  ⟨some 19, .bin .rem (.t 18) (.c (.int .u64 4294967296)), none⟩,
  ⟨some 3, .mv (.t 19), none⟩]
theorem F_ref10_Sysvr5_W {T : Tab} {env : Env} {H : Heap} {Q : Post} : W T (.reg F_ref10_Sysvr5) env H Q ↔ WR T F_ref10_Sysvr5 [
  ⟨some 12, .mv (.t 3), none⟩,
  ⟨some 13, .bin .mul (.t 12) (.c (.int .u64 16)), none⟩,
  ⟨some 14, .mv (.t 0), none⟩,
  ⟨some 15, .mv (.t 4), none⟩,
  ⟨some 16, .ixs (.t 14) (.t 15), none⟩,
  ⟨some 17, .conv .u64 (.t 16), none⟩,
  ⟨some 18, .bin .add (.t 13) (.t 17), none⟩,
  ⟨some 19, .bin .rem (.t 18) (.c (.int .u64 4294967296)), none⟩,
  ⟨some 3, .mv (.t 19), none⟩] env H none [] Q := w_reg
def F_ref10_Sysvr6 : List IStmt := [
  ⟨some 20, .mv (.t 3), none⟩,
  ⟨some 21, .bin .quo (.t 20) (.c (.int .u64 268435456)), none⟩,
  ⟨some 5, .mv (.t 21), none⟩]
theorem F_ref10_Sysvr6_W {T : Tab} {env : Env} {H : Heap} {Q : Post} : W T (.reg F_ref10_Sysvr6) env H Q ↔ WR T F_ref10_Sysvr6 [
  ⟨some 20, .mv (.t 3), none⟩,
  ⟨some 21, .bin .quo (.t 20) (.c (.int .u64 268435456)), none⟩,
  ⟨some 5, .mv (.t 21), none⟩] env H none [] Q := w_reg
def F_ref10_Sysvr7 : List IStmt := [
  ⟨some 22, .mv (.t 3), none⟩,
  ⟨some 23, .bin .rem (.t 22) (.c (.int .u64 268435456)), none⟩,
  ⟨some 3, .mv (.t 23), none⟩]
theorem F_ref10_Sysvr7_W {T : Tab} {env : Env} {H : Heap} {Q : Post} : W T (.reg F_ref10_Sysvr7) env H Q ↔ WR T F_ref10_Sysvr7 [
  ⟨some 22, .mv (.t 3), none⟩,
  ⟨some 23, .bin .rem (.t 22) (.c (.int .u64 268435456)), none⟩,
  ⟨some 3, .mv (.t 23), none⟩] env H none [] Q := w_reg
def F_ref10_Sysvr8 : List IStmt := [
  ⟨some 24, .mv (.t 3), none⟩,
  ⟨some 25, .mv (.t 5), none⟩,
  ⟨some 26, .bin .mul (.t 25) (.c (.int .u64 16)), none⟩,
  ⟨some 27, .bin .xor (.t 24) (.t 26), none⟩,
  ⟨some 3, .mv (.t 27), none⟩]
theorem F_ref10_Sysvr8_W {T : Tab} {env : Env} {H : Heap} {Q : Post} : W T (.reg F_ref10_Sysvr8) env H Q ↔ WR T F_ref10_Sysvr8 [
  ⟨some 24, .mv (.t 3), none⟩,
  ⟨some 25, .mv (.t 5), none⟩,
  ⟨some 26, .bin .mul (.t 25) (.c (.int .u64 16)), none⟩,
  ⟨some 27, .bin .xor (.t 24) (.t 26), none⟩,
  ⟨some 3, .mv (.t 27), none⟩] env H none [] Q := w_reg
def F_ref10_Sysvr4 : List IStmt := [
  ⟨some 10, .mv (.t 4), none⟩,
  ⟨some 11, .bin .add (.t 10) (.c (.int .i64 1)), none⟩,
  ⟨some 4, .mv (.t 11), none⟩]
theorem F_ref10_Sysvr4_W {T : Tab} {env : Env} {H : Heap} {Q : Post} : W T (.reg F_ref10_Sysvr4) env H Q ↔ WR T F_ref10_Sysvr4 [
  ⟨some 10, .mv (.t 4), none⟩,
  ⟨some 11, .bin .add (.t 10) (.c (.int .i64 1)), none⟩,
  ⟨some 4, .mv (.t 11), none⟩] env H none [] Q := w_reg
def F_ref10_Sysvl0 : ICode := (.seq (.seq (.reg F_ref10_Sysvr3) (.cond (.t 9) .skip (.exit 0))) (.seq (.block 1 (.seq (.reg F_ref10_Sysvr5) (.seq (.reg F_ref10_Sysvr6) (.seq (.reg F_ref10_Sysvr7) (.reg F_ref10_Sysvr8))))) (.reg F_ref10_Sysvr4)))
theorem F_ref10_Sysvl0_W {T : Tab} {env : Env} {H : Heap} {Q : Post} : W T F_ref10_Sysvl0 env H Q ↔ W T (.seq (.seq (.reg F_ref10_Sysvr3) (.cond (.t 9) .skip (.exit 0))) (.seq (.block 1 (.seq (.reg F_ref10_Sysvr5) (.seq (.reg F_ref10_Sysvr6) (.seq (.reg F_ref10_Sysvr7) (.reg F_ref10_Sysvr8))))) (.reg F_ref10_Sysvr4))) env H Q := Iff.rfl
def F_ref10_Sysvr9 : List IStmt := [
  ⟨some 28, .mv (.t 3), none⟩,
  ⟨some 29, .conv .u32 (.t 28), none⟩,
  ⟨some 2, .mv (.t 29), none⟩]
theorem F_ref10_Sysvr9_W {T : Tab} {env : Env} {H : Heap} {Q : Post} : W T (.reg F_ref10_Sysvr9) env H Q ↔ WR T F_ref10_Sysvr9 [
  ⟨some 28, .mv (.t 3), none⟩,
  ⟨some 29, .conv .u32 (.t 28), none⟩,
  ⟨some 2, .mv (.t 29), none⟩] env H none [] Q := w_reg
def F_ref10_Sysvc : ICode := (.seq (.reg F_ref10_Sysvr0) (.seq (.reg F_ref10_Sysvr1) (.seq (.seq (.reg F_ref10_Sysvr2) (.block 0 (.loop F_ref10_Sysvl0))) (.seq (.reg F_ref10_Sysvr9) .ret))))
theorem F_ref10_Sysvc_W {T : Tab} {env : Env} {H : Heap} {Q : Post} : W T F_ref10_Sysvc env H Q ↔ W T (.seq (.reg F_ref10_Sysvr0) (.seq (.reg F_ref10_Sysvr1) (.seq (.seq (.reg F_ref10_Sysvr2) (.block 0 (.loop F_ref10_Sysvl0))) (.seq (.reg F_ref10_Sysvr9) .ret)))) env H Q := Iff.rfl
def F_ref10_Sysv : IFn := ⟨30, [.tmp 2], F_ref10_Sysvc⟩
set_option maxRecDepth 1000000 in
theorem F_ref10_Sysv_chk : chkF Try.prog 18 F_ref10_Sysv = true := by kernel_rfl

/-! ### ref10_Gnu -/
def F_ref10_Gnur0 : List IStmt := [
  ⟨some 2, .mv (.c (.int .u32 0)), none⟩]
theorem F_ref10_Gnur0_W {T : Tab} {env : Env} {H : Heap} {Q : Post} : W T (.reg F_ref10_Gnur0) env H Q ↔ WR T F_ref10_Gnur0 [
  ⟨some 2, .mv (.c (.int .u32 0)), none⟩] env H none [] Q := w_reg
def F_ref10_Gnur1 : List IStmt := [
  ⟨some 3, .mv (.c (.int .u64 5381)), none⟩]
theorem F_ref10_Gnur1_W {T : Tab} {env : Env} {H : Heap} {Q : Post} : W T (.reg F_ref10_Gnur1) env H Q ↔ WR T F_ref10_Gnur1 [
  ⟨some 3, .mv (.c (.int .u64 5381)), none⟩] env H none [] Q := w_reg
def F_ref10_Gnur2 : List IStmt := [
  ⟨some 4, .mv (.c (.int .i64 0)), none⟩]
theorem F_ref10_Gnur2_W {T : Tab} {env : Env} {H : Heap} {Q : Post} : W T (.reg F_ref10_Gnur2) env H Q ↔ WR T F_ref10_Gnur2 [
  ⟨some 4, .mv (.c (.int .i64 0)), none⟩] env H none [] Q := w_reg
def F_ref10_Gnur3 : List IStmt := [
  ⟨some 5, .mv (.t 4), none⟩,
  ⟨some 6, .mv (.t 0), none⟩,
  ⟨some 7, .len 0 (.t 6), none⟩,
  ⟨some 8, .bin .lss (.t 5) (.t 7), none⟩]
theorem F_ref10_Gnur3_W {T : Tab} {env : Env} {H : Heap} {Q : Post} : W T (.reg F_ref10_Gnur3) env H Q ↔ WR T F_ref10_Gnur3 [
  ⟨some 5, .mv (.t 4), none⟩,
  ⟨some 6, .mv (.t 0), none⟩,
  ⟨some 7, .len 0 (.t 6), none⟩,
  ⟨some 8, .bin .lss (.t 5) (.t 7), none⟩] env H none [] Q := w_reg
def F_ref10_Gnur5 : List IStmt := [
  ⟨some 11, .mv (.t 3), none⟩,
  ⟨some 12, .bin .mul (.t 11) (.c (.int .u64 33)), none⟩,
  ⟨some 13, .mv (.t 0), none⟩,
  ⟨some 14, .mv (.t 4), none⟩,
  ⟨some 15, .ixs (.t 13) (.t 14), none⟩,
  ⟨some 16, .conv .u64 (.t 15), none⟩,
  ⟨some 17, .bin .add (.t 12) (.t 16), none⟩,
  ⟨some 18, .bin .rem (.t 17) (.c (.int .u64 4294967296)), none⟩,
  ⟨some 3, .mv (.t 18), none⟩]
theorem F_ref10_Gnur5_W {T : Tab} {env : Env} {H : Heap} {Q : Post} : W T (.reg F_ref10_Gnur5) env H Q ↔ WR T F_ref10_Gnur5 [
  ⟨some 11, .mv (.t 3), none⟩,
  ⟨some 12, .bin .mul (.t 11) (.c (.int .u64 33)), none⟩,
  ⟨some 13, .mv (.t 0), none⟩,
  ⟨some 14, .mv (.t 4), none⟩,
  ⟨some 15, .ixs (.t 13) (.t 14), none⟩,
  ⟨some 16, .conv .u64 (.t 15), none⟩,
  ⟨some 17, .bin .add (.t 12) (.t 16), none⟩,
  ⟨some 18, .bin .rem (.t 17) (.c (.int .u64 4294967296)), none⟩,
  ⟨some 3, .mv (.t 18), none⟩] env H none [] Q := w_reg
def F_ref10_Gnur4 : List IStmt := [
  ⟨some 9, .mv (.t 4), none⟩,
  ⟨some 10, .bin .add (.t 9) (.c (.int .i64 1)), none⟩,
  ⟨some 4, .mv (.t 10), none⟩]
theorem F_ref10_Gnur4_W {T : Tab} {env : Env} {H : Heap} {Q : Post} : W T (.reg F_ref10_Gnur4) env H Q ↔ WR T F_ref10_Gnur4 [
  ⟨some 9, .mv (.t 4), none⟩,
  ⟨some 10, .bin .add (.t 9) (.c (.int .i64 1)), none⟩,
  ⟨some 4, .mv (.t 10), none⟩] env H none [] Q := w_reg
def F_ref10_Gnul0 : ICode := (.seq (.seq (.reg F_ref10_Gnur3) (.cond (.t 8) .skip (.exit 0))) (.seq (.block 1 (.reg F_ref10_Gnur5)) (.reg F_ref10_Gnur4)))
theorem F_ref10_Gnul0_W {T : Tab} {env : Env} {H : Heap} {Q : Post} : W T F_ref10_Gnul0 env H Q ↔ W T (.seq (.seq (.reg F_ref10_Gnur3) (.cond (.t 8) .skip (.exit 0))) (.seq (.block 1 (.reg F_ref10_Gnur5)) (.reg F_ref10_Gnur4))) env H Q := Iff.rfl
def F_ref10_Gnur6 : List IStmt := [
  ⟨some 19, .mv (.t 3), none⟩,
  ⟨some 20, .conv .u32 (.t 19), none⟩,
  ⟨some 2, .mv (.t 20), none⟩]
theorem F_ref10_Gnur6_W {T : Tab} {env : Env} {H : Heap} {Q : Post} : W T (.reg F_ref10_Gnur6) env H Q ↔ WR T F_ref10_Gnur6 [
  ⟨some 19, .mv (.t 3), none⟩,
  ⟨some 20, .conv .u32 (.t 19), none⟩,
  ⟨some 2, .mv (.t 20), none⟩] env H none [] Q := w_reg
def F_ref10_Gnuc : ICode := (.seq (.reg F_ref10_Gnur0) (.seq (.reg F_ref10_Gnur1) (.seq (.seq (.reg F_ref10_Gnur2) (.block 0 (.loop F_ref10_Gnul0))) (.seq (.reg F_ref10_Gnur6) .ret))))
theorem F_ref10_Gnuc_W {T : Tab} {env : Env} {H : Heap} {Q : Post} : W T F_ref10_Gnuc env H Q ↔ W T (.seq (.reg F_ref10_Gnur0) (.seq (.reg F_ref10_Gnur1) (.seq (.seq (.reg F_ref10_Gnur2) (.block 0 (.loop F_ref10_Gnul0))) (.seq (.reg F_ref10_Gnur6) .ret)))) env H Q := Iff.rfl
def F_ref10_Gnu : IFn := ⟨21, [.tmp 2], F_ref10_Gnuc⟩
set_option maxRecDepth 1000000 in
theorem F_ref10_Gnu_chk : chkF Try.prog 20 F_ref10_Gnu = true := by kernel_rfl

/-! ### ref10_Find -/
def F_ref10_Findr0 : List IStmt := [
  ⟨some 8, .mv (.c (.int .i64 0)), none⟩]
theorem F_ref10_Findr0_W {T : Tab} {env : Env} {H : Heap} {Q : Post} : W T (.reg F_ref10_Findr0) env H Q ↔ WR T F_ref10_Findr0 [
  ⟨some 8, .mv (.c (.int .i64 0)), none⟩] env H none [] Q := w_reg
def F_ref10_Findr1 : List IStmt := [
  ⟨some 9, .mv (.c (.int .i64 0)), none⟩]
theorem F_ref10_Findr1_W {T : Tab} {env : Env} {H : Heap} {Q : Post} : W T (.reg F_ref10_Findr1) env H Q ↔ WR T F_ref10_Findr1 [
  ⟨some 9, .mv (.c (.int .i64 0)), none⟩] env H none [] Q := w_reg
def F_ref10_Findr2 : List IStmt := [
  ⟨some 12, .mv (.t 9), none⟩,
  ⟨some 13, .mv (.t 0), none⟩,
  ⟨some 14, .len 1 (.t 13), none⟩,
  ⟨some 15, .bin .lss (.t 12) (.t 14), none⟩]
theorem F_ref10_Findr2_W {T : Tab} {env : Env} {H : Heap} {Q : Post} : W T (.reg F_ref10_Findr2) env H Q ↔ WR T F_ref10_Findr2 [
  ⟨some 12, .mv (.t 9), none⟩,
  ⟨some 13, .mv (.t 0), none⟩,
  ⟨some 14, .len 1 (.t 13), none⟩,
  ⟨some 15, .bin .lss (.t 12) (.t 14), none⟩] env H none [] Q := w_reg
def F_ref10_Findr4 : List IStmt := [
  ⟨some 18, .mv (.t 0), none⟩,
  ⟨some 19, .mv (.t 9), none⟩,
  ⟨some 20, .ixa 7 (.t 18) (.t 19), none⟩,
  ⟨some 21, .loadN 7 (.t 20), none⟩,
  ⟨some 10, .alloc 7 [.string ⟨#[]⟩, .string ⟨#[]⟩, .bool false, .int .i64 0, .bool false, .int .u64 0, .int .u64 0], none⟩,
  ⟨none, .store 7 (.t 10) (.t 21), none⟩]
theorem F_ref10_Findr4_W {T : Tab} {env : Env} {H : Heap} {Q : Post} : W T (.reg F_ref10_Findr4) env H Q ↔ WR T F_ref10_Findr4 [
  ⟨some 18, .mv (.t 0), none⟩,
  ⟨some 19, .mv (.t 9), none⟩,
  ⟨some 20, .ixa 7 (.t 18) (.t 19), none⟩,
  ⟨some 21, .loadN 7 (.t 20), none⟩,
  ⟨some 10, .alloc 7 [.string ⟨#[]⟩, .string ⟨#[]⟩, .bool false, .int .i64 0, .bool false, .int .u64 0, .int .u64 0], none⟩,
  ⟨none, .store 7 (.t 10) (.t 21), none⟩] env H none [] Q := w_reg
def F_ref10_Findr5 : List IStmt := [
  ⟨some 22, .mv (.t 3), none⟩,
  ⟨some 23, .bin .eql (.t 22) (.c (.string ⟨#[]⟩)), none⟩,
  ⟨some 24, .mv (.t 23), none⟩,
  ⟨some 25, .fa 2 (.t 10), some (2, true)⟩,
  ⟨some 26, .load (.t 25), some (2, true)⟩,
  ⟨some 27, .un .not (.t 26), some (2, true)⟩,
  ⟨some 28, .pick (.t 24) (.t 27) (.c (.bool false)), none⟩,
  ⟨some 29, .mv (.t 28), none⟩,
  ⟨some 30, .mv (.t 3), some (7, false)⟩,
  ⟨some 31, .bin .neq (.t 30) (.c (.string ⟨#[]⟩)), some (7, false)⟩,
  ⟨some 32, .mv (.t 31), some (7, false)⟩,
  ⟨some 33, .mv (.t 1), some (10, true)⟩,
  ⟨some 34, .un .not (.t 33), some (10, true)⟩,
  ⟨some 35, .mv (.t 34), some (10, true)⟩,
  ⟨some 36, .fa 1 (.t 10), some (13, false)⟩,
  ⟨some 37, .load (.t 36), some (13, false)⟩,
  ⟨some 38, .mv (.t 3), some (13, false)⟩,
  ⟨some 39, .bin .eql (.t 37) (.t 38), some (13, false)⟩,
  ⟨some 40, .pick (.t 35) (.c (.bool true)) (.t 39), some (10, true)⟩,
  ⟨some 41, .pick (.t 32) (.t 40) (.c (.bool false)), some (7, false)⟩,
  ⟨some 42, .pick (.t 29) (.c (.bool true)) (.t 41), none⟩,
  ⟨some 11, .mv (.t 42), none⟩]
theorem F_ref10_Findr5_W {T : Tab} {env : Env} {H : Heap} {Q : Post} : W T (.reg F_ref10_Findr5) env H Q ↔ WR T F_ref10_Findr5 [
  ⟨some 22, .mv (.t 3), none⟩,
  ⟨some 23, .bin .eql (.t 22) (.c (.string ⟨#[]⟩)), none⟩,
  ⟨some 24, .mv (.t 23), none⟩,
  ⟨some 25, .fa 2 (.t 10), some (2, true)⟩,
  ⟨some 26, .load (.t 25), some (2, true)⟩,
  ⟨some 27, .un .not (.t 26), some (2, true)⟩,
  ⟨some 28, .pick (.t 24) (.t 27) (.c (.bool false)), none⟩,
  ⟨some 29, .mv (.t 28), none⟩,
  ⟨some 30, .mv (.t 3), some (7, false)⟩,
  ⟨some 31, .bin .neq (.t 30) (.c (.string ⟨#[]⟩)), some (7, false)⟩,
  ⟨some 32, .mv (.t 31), some (7, false)⟩,
  ⟨some 33, .mv (.t 1), some (10, true)⟩,
  ⟨some 34, .un .not (.t 33), some (10, true)⟩,
  ⟨some 35, .mv (.t 34), some (10, true)⟩,
  ⟨some 36, .fa 1 (.t 10), some (13, false)⟩,
  ⟨some 37, .load (.t 36), some (13, false)⟩,
  ⟨some 38, .mv (.t 3), some (13, false)⟩,
  ⟨some 39, .bin .eql (.t 37) (.t 38), some (13, false)⟩,
  ⟨some 40, .pick (.t 35) (.c (.bool true)) (.t 39), some (10, true)⟩,
  ⟨some 41, .pick (.t 32) (.t 40) (.c (.bool false)), some (7, false)⟩,
  ⟨some 42, .pick (.t 29) (.c (.bool true)) (.t 41), none⟩,
  ⟨some 11, .mv (.t 42), none⟩] env H none [] Q := w_reg
theorem F_ref10_Findr5_g2 {env : Env} : yieldI F_ref10_Findr5 env 2 = bOf (env 24) := rfl
theorem F_ref10_Findr5_g7 {env : Env} : yieldI F_ref10_Findr5 env 7 = bOf (env 29) := rfl
theorem F_ref10_Findr5_g10 {env : Env} : yieldI F_ref10_Findr5 env 10 = bOf (env 32) := rfl
theorem F_ref10_Findr5_g13 {env : Env} : yieldI F_ref10_Findr5 env 13 = bOf (env 35) := rfl
def F_ref10_Findr6 : List IStmt := [
  ⟨some 43, .loadN 7 (.t 10), none⟩,
  ⟨some 44, .callc 34 [(.t 43)], none⟩,
  ⟨some 45, .mv (.t 44), none⟩,
  ⟨some 46, .fa 0 (.t 10), some (2, true)⟩,
  ⟨some 47, .load (.t 46), some (2, true)⟩,
  ⟨some 48, .mv (.t 2), some (2, true)⟩,
  ⟨some 49, .bin .eql (.t 47) (.t 48), some (2, true)⟩,
  ⟨some 50, .pick (.t 45) (.t 49) (.c (.bool false)), none⟩,
  ⟨some 51, .mv (.t 50), none⟩,
  ⟨some 52, .mv (.t 11), some (8, true)⟩,
  ⟨some 53, .pick (.t 51) (.t 52) (.c (.bool false)), none⟩]
theorem F_ref10_Findr6_W {T : Tab} {env : Env} {H : Heap} {Q : Post} : W T (.reg F_ref10_Findr6) env H Q ↔ WR T F_ref10_Findr6 [
  ⟨some 43, .loadN 7 (.t 10), none⟩,
  ⟨some 44, .callc 34 [(.t 43)], none⟩,
  ⟨some 45, .mv (.t 44), none⟩,
  ⟨some 46, .fa 0 (.t 10), some (2, true)⟩,
  ⟨some 47, .load (.t 46), some (2, true)⟩,
  ⟨some 48, .mv (.t 2), some (2, true)⟩,
  ⟨some 49, .bin .eql (.t 47) (.t 48), some (2, true)⟩,
  ⟨some 50, .pick (.t 45) (.t 49) (.c (.bool false)), none⟩,
  ⟨some 51, .mv (.t 50), none⟩,
  ⟨some 52, .mv (.t 11), some (8, true)⟩,
  ⟨some 53, .pick (.t 51) (.t 52) (.c (.bool false)), none⟩] env H none [] Q := w_reg
theorem F_ref10_Findr6_g2 {env : Env} : yieldI F_ref10_Findr6 env 2 = bOf (env 45) := rfl
theorem F_ref10_Findr6_g8 {env : Env} : yieldI F_ref10_Findr6 env 8 = bOf (env 51) := rfl
def F_ref10_Findr7 : List IStmt := [
  ⟨some 54, .mv (.t 9), none⟩,
  ⟨some 8, .mv (.t 54), none⟩]
theorem F_ref10_Findr7_W {T : Tab} {env : Env} {H : Heap} {Q : Post} : W T (.reg F_ref10_Findr7) env H Q ↔ WR T F_ref10_Findr7 [
  ⟨some 54, .mv (.t 9), none⟩,
  ⟨some 8, .mv (.t 54), none⟩] env H none [] Q := w_reg
def F_ref10_Findr3 : List IStmt := [
  ⟨some 16, .mv (.t 9), none⟩,
  ⟨some 17, .bin .add (.t 16) (.c (.int .i64 1)), none⟩,
  ⟨some 9, .mv (.t 17), none⟩]
theorem F_ref10_Findr3_W {T : Tab} {env : Env} {H : Heap} {Q : Post} : W T (.reg F_ref10_Findr3) env H Q ↔ WR T F_ref10_Findr3 [
  ⟨some 16, .mv (.t 9), none⟩,
  ⟨some 17, .bin .add (.t 16) (.c (.int .i64 1)), none⟩,
  ⟨some 9, .mv (.t 17), none⟩] env H none [] Q := w_reg
def F_ref10_Findl0 : ICode := (.seq (.seq (.reg F_ref10_Findr2) (.cond (.t 15) .skip (.exit 0))) (.seq (.block 1 (.seq (.reg F_ref10_Findr4) (.seq (.reg F_ref10_Findr5) (.seq (.reg F_ref10_Findr6) (.cond (.t 53) (.seq (.reg F_ref10_Findr7) .ret) .skip))))) (.reg F_ref10_Findr3)))
theorem F_ref10_Findl0_W {T : Tab} {env : Env} {H : Heap} {Q : Post} : W T F_ref10_Findl0 env H Q ↔ W T (.seq (.seq (.reg F_ref10_Findr2) (.cond (.t 15) .skip (.exit 0))) (.seq (.block 1 (.seq (.reg F_ref10_Findr4) (.seq (.reg F_ref10_Findr5) (.seq (.reg F_ref10_Findr6) (.cond (.t 53) (.seq (.reg F_ref10_Findr7) .ret) .skip))))) (.reg F_ref10_Findr3))) env H Q := Iff.rfl
def F_ref10_Findr8 : List IStmt := [
  ⟨some 8, .mv (.c (.int .i64 (-1))), none⟩]
theorem F_ref10_Findr8_W {T : Tab} {env : Env} {H : Heap} {Q : Post} : W T (.reg F_ref10_Findr8) env H Q ↔ WR T F_ref10_Findr8 [
  ⟨some 8, .mv (.c (.int .i64 (-1))), none⟩] env H none [] Q := w_reg
def F_ref10_Findc : ICode := (.seq (.reg F_ref10_Findr0) (.seq (.seq (.reg F_ref10_Findr1) (.block 0 (.loop F_ref10_Findl0))) (.seq (.reg F_ref10_Findr8) .ret)))
theorem F_ref10_Findc_W {T : Tab} {env : Env} {H : Heap} {Q : Post} : W T F_ref10_Findc env H Q ↔ W T (.seq (.reg F_ref10_Findr0) (.seq (.seq (.reg F_ref10_Findr1) (.block 0 (.loop F_ref10_Findl0))) (.seq (.reg F_ref10_Findr8) .ret))) env H Q := Iff.rfl
def F_ref10_Find : IFn := ⟨55, [.tmp 8], F_ref10_Findc⟩
set_option maxRecDepth 1000000 in
theorem F_ref10_Find_chk : chkF Try.prog 29 F_ref10_Find = true := by kernel_rfl

/-! ### ref10_Near -/
def F_ref10_Nearr0 : List IStmt := [
  ⟨some 4, .mv (.c (.int .i64 0)), none⟩]
theorem F_ref10_Nearr0_W {T : Tab} {env : Env} {H : Heap} {Q : Post} : W T (.reg F_ref10_Nearr0) env H Q ↔ WR T F_ref10_Nearr0 [
  ⟨some 4, .mv (.c (.int .i64 0)), none⟩] env H none [] Q := w_reg
def F_ref10_Nearr1 : List IStmt := [
  ⟨some 5, .mv (.c (.int .i64 (-1))), none⟩]
theorem F_ref10_Nearr1_W {T : Tab} {env : Env} {H : Heap} {Q : Post} : W T (.reg F_ref10_Nearr1) env H Q ↔ WR T F_ref10_Nearr1 [
  ⟨some 5, .mv (.c (.int .i64 (-1))), none⟩] env H none [] Q := w_reg
def F_ref10_Nearr2 : List IStmt := [
  ⟨some 9, .mv (.t 0), none⟩,
  ⟨some 10, .len 1 (.t 9), none⟩,
  ⟨some 11, .bin .sub (.t 10) (.c (.int .i64 1)), none⟩,
  ⟨some 6, .mv (.t 11), none⟩]
theorem F_ref10_Nearr2_W {T : Tab} {env : Env} {H : Heap} {Q : Post} : W T (.reg F_ref10_Nearr2) env H Q ↔ WR T F_ref10_Nearr2 [
  ⟨some 9, .mv (.t 0), none⟩,
  ⟨some 10, .len 1 (.t 9), none⟩,
  ⟨some 11, .bin .sub (.t 10) (.c (.int .i64 1)), none⟩,
  ⟨some 6, .mv (.t 11), none⟩] env H none [] Q := w_reg
def F_ref10_Nearr3 : List IStmt := [
  ⟨some 12, .mv (.t 6), none⟩,
  ⟨some 13, .bin .geq (.t 12) (.c (.int .i64 0)), none⟩]
theorem F_ref10_Nearr3_W {T : Tab} {env : Env} {H : Heap} {Q : Post} : W T (.reg F_ref10_Nearr3) env H Q ↔ WR T F_ref10_Nearr3 [
  ⟨some 12, .mv (.t 6), none⟩,
  ⟨some 13, .bin .geq (.t 12) (.c (.int .i64 0)), none⟩] env H none [] Q := w_reg
def F_ref10_Nearr5 : List IStmt := [
  ⟨some 16, .mv (.t 0), none⟩,
  ⟨some 17, .mv (.t 6), none⟩,
  ⟨some 18, .ixa 7 (.t 16) (.t 17), none⟩,
  ⟨some 19, .loadN 7 (.t 18), none⟩,
  ⟨some 7, .alloc 7 [.string ⟨#[]⟩, .string ⟨#[]⟩, .bool false, .int .i64 0, .bool false, .int .u64 0, .int .u64 0], none⟩,
  ⟨none, .store 7 (.t 7) (.t 19), none⟩]
theorem F_ref10_Nearr5_W {T : Tab} {env : Env} {H : Heap} {Q : Post} : W T (.reg F_ref10_Nearr5) env H Q ↔ WR T F_ref10_Nearr5 [
  ⟨some 16, .mv (.t 0), none⟩,
  ⟨some 17, .mv (.t 6), none⟩,
  ⟨some 18, .ixa 7 (.t 16) (.t 17), none⟩,
  ⟨some 19, .loadN 7 (.t 18), none⟩,
  ⟨some 7, .alloc 7 [.string ⟨#[]⟩, .string ⟨#[]⟩, .bool false, .int .i64 0, .bool false, .int .u64 0, .int .u64 0], none⟩,
  ⟨none, .store 7 (.t 7) (.t 19), none⟩] env H none [] Q := w_reg
def F_ref10_Nearr6 : List IStmt := [
  ⟨some 20, .fa 6 (.t 7), none⟩,
  ⟨some 21, .load (.t 20), none⟩,
  ⟨some 8, .mv (.t 21), none⟩]
theorem F_ref10_Nearr6_W {T : Tab} {env : Env} {H : Heap} {Q : Post} : W T (.reg F_ref10_Nearr6) env H Q ↔ WR T F_ref10_Nearr6 [
  ⟨some 20, .fa 6 (.t 7), none⟩,
  ⟨some 21, .load (.t 20), none⟩,
  ⟨some 8, .mv (.t 21), none⟩] env H none [] Q := w_reg
def F_ref10_Nearr7 : List IStmt := [
  ⟨some 22, .mv (.t 8), none⟩,
  ⟨some 23, .bin .eql (.t 22) (.c (.int .u64 0)), none⟩]
theorem F_ref10_Nearr7_W {T : Tab} {env : Env} {H : Heap} {Q : Post} : W T (.reg F_ref10_Nearr7) env H Q ↔ WR T F_ref10_Nearr7 [
  ⟨some 22, .mv (.t 8), none⟩,
  ⟨some 23, .bin .eql (.t 22) (.c (.int .u64 0)), none⟩] env H none [] Q := w_reg
def F_ref10_Nearr8 : List IStmt := [
  ⟨some 8, .mv (.c (.int .u64 1)), none⟩]
theorem F_ref10_Nearr8_W {T : Tab} {env : Env} {H : Heap} {Q : Post} : W T (.reg F_ref10_Nearr8) env H Q ↔ WR T F_ref10_Nearr8 [
  ⟨some 8, .mv (.c (.int .u64 1)), none⟩] env H none [] Q := w_reg
def F_ref10_Nearr9 : List IStmt := [
  ⟨some 24, .loadN 7 (.t 7), none⟩,
  ⟨some 25, .callc 34 [(.t 24)], none⟩,
  ⟨some 26, .mv (.t 25), none⟩,
  ⟨some 27, .mv (.t 1), some (2, true)⟩,
  ⟨some 28, .fa 5 (.t 7), some (2, true)⟩,
  ⟨some 29, .load (.t 28), some (2, true)⟩,
  ⟨some 30, .bin .geq (.t 27) (.t 29), some (2, true)⟩,
  ⟨some 31, .pick (.t 26) (.t 30) (.c (.bool false)), none⟩,
  ⟨some 32, .mv (.t 31), none⟩,
  ⟨some 33, .mv (.t 1), some (8, true)⟩,
  ⟨some 34, .fa 5 (.t 7), some (8, true)⟩,
  ⟨some 35, .load (.t 34), some (8, true)⟩,
  ⟨some 36, .bin .sub (.t 33) (.t 35), some (8, true)⟩,
  ⟨some 37, .mv (.t 8), some (8, true)⟩,
  ⟨some 38, .bin .lss (.t 36) (.t 37), some (8, true)⟩,
  ⟨some 39, .pick (.t 32) (.t 38) (.c (.bool false)), none⟩,
  ⟨some 40, .mv (.t 39), none⟩,
  ⟨some 41, .mv (.t 5), some (16, true)⟩,
  ⟨some 42, .bin .lss (.t 41) (.c (.int .i64 0)), some (16, true)⟩,
  ⟨some 43, .mv (.t 42), some (16, true)⟩,
  ⟨some 44, .fa 5 (.t 7), some (19, false)⟩,
  ⟨some 45, .load (.t 44), some (19, false)⟩,
  ⟨some 46, .mv (.t 0), some (19, false)⟩,
  ⟨some 47, .mv (.t 5), some (19, false)⟩,
  ⟨some 48, .ixa 7 (.t 46) (.t 47), some (19, false)⟩,
  ⟨some 49, .fa 5 (.t 48), some (19, false)⟩,
  ⟨some 50, .load (.t 49), some (19, false)⟩,
  ⟨some 51, .bin .geq (.t 45) (.t 50), some (19, false)⟩,
  ⟨some 52, .pick (.t 43) (.c (.bool true)) (.t 51), some (16, true)⟩,
  ⟨some 53, .pick (.t 40) (.t 52) (.c (.bool false)), none⟩]
theorem F_ref10_Nearr9_g2 {env : Env} : yieldI F_ref10_Nearr9 env 2 = bOf (env 26) := rfl
theorem F_ref10_Nearr9_g8 {env : Env} : yieldI F_ref10_Nearr9 env 8 = bOf (env 32) := rfl
theorem F_ref10_Nearr9_g16 {env : Env} : yieldI F_ref10_Nearr9 env 16 = bOf (env 40) := rfl
theorem F_ref10_Nearr9_g19 {env : Env} : yieldI F_ref10_Nearr9 env 19 = bOf (env 43) := rfl
theorem F_ref10_Nearr9_W {T : Tab} {env : Env} {H : Heap} {Q : Post} : W T (.dreg F_ref10_Nearr9 []) env H Q ↔ WR T F_ref10_Nearr9 [
  ⟨some 24, .loadN 7 (.t 7), none⟩,
  ⟨some 25, .callc 34 [(.t 24)], none⟩,
  ⟨some 26, .mv (.t 25), none⟩,
  ⟨some 27, .mv (.t 1), some (2, true)⟩,
  ⟨some 28, .fa 5 (.t 7), some (2, true)⟩,
  ⟨some 29, .load (.t 28), some (2, true)⟩,
  ⟨some 30, .bin .geq (.t 27) (.t 29), some (2, true)⟩,
  ⟨some 31, .pick (.t 26) (.t 30) (.c (.bool false)), none⟩,
  ⟨some 32, .mv (.t 31), none⟩,
  ⟨some 33, .mv (.t 1), some (8, true)⟩,
  ⟨some 34, .fa 5 (.t 7), some (8, true)⟩,
  ⟨some 35, .load (.t 34), some (8, true)⟩,
  ⟨some 36, .bin .sub (.t 33) (.t 35), some (8, true)⟩,
  ⟨some 37, .mv (.t 8), some (8, true)⟩,
  ⟨some 38, .bin .lss (.t 36) (.t 37), some (8, true)⟩,
  ⟨some 39, .pick (.t 32) (.t 38) (.c (.bool false)), none⟩,
  ⟨some 40, .mv (.t 39), none⟩,
  ⟨some 41, .mv (.t 5), some (16, true)⟩,
  ⟨some 42, .bin .lss (.t 41) (.c (.int .i64 0)), some (16, true)⟩,
  ⟨some 43, .mv (.t 42), some (16, true)⟩,
  ⟨some 44, .fa 5 (.t 7), some (19, false)⟩,
  ⟨some 45, .load (.t 44), some (19, false)⟩,
  ⟨some 46, .mv (.t 0), some (19, false)⟩,
  ⟨some 47, .mv (.t 5), some (19, false)⟩,
  ⟨some 48, .ixa 7 (.t 46) (.t 47), some (19, false)⟩,
  ⟨some 49, .fa 5 (.t 48), some (19, false)⟩,
  ⟨some 50, .load (.t 49), some (19, false)⟩,
  ⟨some 51, .bin .geq (.t 45) (.t 50), some (19, false)⟩,
  ⟨some 52, .pick (.t 43) (.c (.bool true)) (.t 51), some (16, true)⟩,
  ⟨some 53, .pick (.t 40) (.t 52) (.c (.bool false)), none⟩] env H none [] Q := w_dreg0
def F_ref10_Nearr10 : List IStmt := [
  ⟨some 54, .mv (.t 6), none⟩,
  ⟨some 5, .mv (.t 54), none⟩]
theorem F_ref10_Nearr10_W {T : Tab} {env : Env} {H : Heap} {Q : Post} : W T (.reg F_ref10_Nearr10) env H Q ↔ WR T F_ref10_Nearr10 [
  ⟨some 54, .mv (.t 6), none⟩,
  ⟨some 5, .mv (.t 54), none⟩] env H none [] Q := w_reg
def F_ref10_Nearr4 : List IStmt := [
  ⟨some 14, .mv (.t 6), none⟩,
  ⟨some 15, .bin .sub (.t 14) (.c (.int .i64 1)), none⟩,
  ⟨some 6, .mv (.t 15), none⟩]
theorem F_ref10_Nearr4_W {T : Tab} {env : Env} {H : Heap} {Q : Post} : W T (.reg F_ref10_Nearr4) env H Q ↔ WR T F_ref10_Nearr4 [
  ⟨some 14, .mv (.t 6), none⟩,
  ⟨some 15, .bin .sub (.t 14) (.c (.int .i64 1)), none⟩,
  ⟨some 6, .mv (.t 15), none⟩] env H none [] Q := w_reg
def F_ref10_Nearl0 : ICode := (.seq (.seq (.reg F_ref10_Nearr3) (.cond (.t 13) .skip (.exit 0))) (.seq (.block 1 (.seq (.reg F_ref10_Nearr5) (.seq (.reg F_ref10_Nearr6) (.seq (.seq (.reg F_ref10_Nearr7) (.cond (.t 23) (.reg F_ref10_Nearr8) .skip)) (.seq (.dreg F_ref10_Nearr9 []) (.cond (.t 53) (.reg F_ref10_Nearr10) .skip)))))) (.reg F_ref10_Nearr4)))
theorem F_ref10_Nearl0_W {T : Tab} {env : Env} {H : Heap} {Q : Post} : W T F_ref10_Nearl0 env H Q ↔ W T (.seq (.seq (.reg F_ref10_Nearr3) (.cond (.t 13) .skip (.exit 0))) (.seq (.block 1 (.seq (.reg F_ref10_Nearr5) (.seq (.reg F_ref10_Nearr6) (.seq (.seq (.reg F_ref10_Nearr7) (.cond (.t 23) (.reg F_ref10_Nearr8) .skip)) (.seq (.dreg F_ref10_Nearr9 []) (.cond (.t 53) (.reg F_ref10_Nearr10) .skip)))))) (.reg F_ref10_Nearr4))) env H Q := Iff.rfl
def F_ref10_Nearr11 : List IStmt := [
  ⟨some 55, .mv (.t 5), none⟩,
  ⟨some 4, .mv (.t 55), none⟩]
theorem F_ref10_Nearr11_W {T : Tab} {env : Env} {H : Heap} {Q : Post} : W T (.reg F_ref10_Nearr11) env H Q ↔ WR T F_ref10_Nearr11 [
  ⟨some 55, .mv (.t 5), none⟩,
  ⟨some 4, .mv (.t 55), none⟩] env H none [] Q := w_reg
def F_ref10_Nearc : ICode := (.seq (.reg F_ref10_Nearr0) (.seq (.reg F_ref10_Nearr1) (.seq (.seq (.reg F_ref10_Nearr2) (.block 0 (.loop F_ref10_Nearl0))) (.seq (.reg F_ref10_Nearr11) .ret))))
theorem F_ref10_Nearc_W {T : Tab} {env : Env} {H : Heap} {Q : Post} : W T F_ref10_Nearc env H Q ↔ W T (.seq (.reg F_ref10_Nearr0) (.seq (.reg F_ref10_Nearr1) (.seq (.seq (.reg F_ref10_Nearr2) (.block 0 (.loop F_ref10_Nearl0))) (.seq (.reg F_ref10_Nearr11) .ret)))) env H Q := Iff.rfl
def F_ref10_Near : IFn := ⟨56, [.tmp 4], F_ref10_Nearc⟩
set_option maxRecDepth 1000000 in
theorem F_ref10_Near_chk : chkF Try.prog 32 F_ref10_Near = true := by kernel_rfl

/-! ### ref10_Had -/
def F_ref10_Hadr0 : List IStmt := [
  ⟨some 1, .box 7 (.t 0), none⟩,
  ⟨some 2, .mv (.c (.bool false)), none⟩]
theorem F_ref10_Hadr0_W {T : Tab} {env : Env} {H : Heap} {Q : Post} : W T (.reg F_ref10_Hadr0) env H Q ↔ WR T F_ref10_Hadr0 [
  ⟨some 1, .box 7 (.t 0), none⟩,
  ⟨some 2, .mv (.c (.bool false)), none⟩] env H none [] Q := w_reg
def F_ref10_Hadr1 : List IStmt := [
  ⟨some 3, .fa 4 (.t 1), none⟩,
  ⟨some 4, .load (.t 3), none⟩,
  ⟨some 5, .mv (.t 4), none⟩,
  ⟨some 6, .fa 3 (.t 1), some (2, true)⟩,
  ⟨some 7, .load (.t 6), some (2, true)⟩,
  ⟨some 8, .bin .neq (.t 7) (.c (.int .i64 0)), some (2, true)⟩,
  ⟨some 9, .pick (.t 5) (.t 8) (.c (.bool false)), none⟩,
  ⟨some 2, .mv (.t 9), none⟩]
theorem F_ref10_Hadr1_W {T : Tab} {env : Env} {H : Heap} {Q : Post} : W T (.reg F_ref10_Hadr1) env H Q ↔ WR T F_ref10_Hadr1 [
  ⟨some 3, .fa 4 (.t 1), none⟩,
  ⟨some 4, .load (.t 3), none⟩,
  ⟨some 5, .mv (.t 4), none⟩,
  ⟨some 6, .fa 3 (.t 1), some (2, true)⟩,
  ⟨some 7, .load (.t 6), some (2, true)⟩,
  ⟨some 8, .bin .neq (.t 7) (.c (.int .i64 0)), some (2, true)⟩,
  ⟨some 9, .pick (.t 5) (.t 8) (.c (.bool false)), none⟩,
  ⟨some 2, .mv (.t 9), none⟩] env H none [] Q := w_reg
theorem F_ref10_Hadr1_g2 {env : Env} : yieldI F_ref10_Hadr1 env 2 = bOf (env 5) := rfl
def F_ref10_Hadc : ICode := (.seq (.reg F_ref10_Hadr0) (.seq (.reg F_ref10_Hadr1) .ret))
theorem F_ref10_Hadc_W {T : Tab} {env : Env} {H : Heap} {Q : Post} : W T F_ref10_Hadc env H Q ↔ W T (.seq (.reg F_ref10_Hadr0) (.seq (.reg F_ref10_Hadr1) .ret)) env H Q := Iff.rfl
def F_ref10_Had : IFn := ⟨10, [.tmp 2], F_ref10_Hadc⟩
set_option maxRecDepth 1000000 in
theorem F_ref10_Had_chk : chkF Try.prog 34 F_ref10_Had = true := by kernel_rfl

/-! ### law10_alive -/
def F_law10_aliver0 : List IStmt := [
  ⟨some 0, .mv (.c (.bool false)), none⟩]
theorem F_law10_aliver0_W {T : Tab} {env : Env} {H : Heap} {Q : Post} : W T (.reg F_law10_aliver0) env H Q ↔ WR T F_law10_aliver0 [
  ⟨some 0, .mv (.c (.bool false)), none⟩] env H none [] Q := w_reg
def F_law10_aliver1 : List IStmt := [
  ⟨some 2, .bld [.string ⟨#[]⟩, .string ⟨#[]⟩, .bool false, .int .i64 0, .bool false, .int .u64 0, .int .u64 0] [(0, 1, (.c (.string ⟨#[97]⟩))), (1, 1, (.c (.string ⟨#[86]⟩))), (2, 1, (.c (.bool true))), (3, 1, (.c (.int .i64 1))), (4, 1, (.c (.bool true)))], none⟩,
  ⟨some 3, .bld [.string ⟨#[]⟩, .string ⟨#[]⟩, .bool false, .int .i64 0, .bool false, .int .u64 0, .int .u64 0] [(0, 1, (.c (.string ⟨#[97]⟩))), (3, 1, (.c (.int .i64 2))), (4, 1, (.c (.bool true))), (5, 1, (.c (.int .u64 8))), (6, 1, (.c (.int .u64 4)))], none⟩,
  ⟨some 4, .bsli 7 2 [.string ⟨#[]⟩, .string ⟨#[]⟩, .bool false, .int .i64 0, .bool false, .int .u64 0, .int .u64 0] [(0, (.t 2)), (1, (.t 3))], none⟩,
  ⟨some 1, .mv (.t 4), none⟩]
theorem F_law10_aliver1_W {T : Tab} {env : Env} {H : Heap} {Q : Post} : W T (.reg F_law10_aliver1) env H Q ↔ WR T F_law10_aliver1 [
  ⟨some 2, .bld [.string ⟨#[]⟩, .string ⟨#[]⟩, .bool false, .int .i64 0, .bool false, .int .u64 0, .int .u64 0] [(0, 1, (.c (.string ⟨#[97]⟩))), (1, 1, (.c (.string ⟨#[86]⟩))), (2, 1, (.c (.bool true))), (3, 1, (.c (.int .i64 1))), (4, 1, (.c (.bool true)))], none⟩,
  ⟨some 3, .bld [.string ⟨#[]⟩, .string ⟨#[]⟩, .bool false, .int .i64 0, .bool false, .int .u64 0, .int .u64 0] [(0, 1, (.c (.string ⟨#[97]⟩))), (3, 1, (.c (.int .i64 2))), (4, 1, (.c (.bool true))), (5, 1, (.c (.int .u64 8))), (6, 1, (.c (.int .u64 4)))], none⟩,
  ⟨some 4, .bsli 7 2 [.string ⟨#[]⟩, .string ⟨#[]⟩, .bool false, .int .i64 0, .bool false, .int .u64 0, .int .u64 0] [(0, (.t 2)), (1, (.t 3))], none⟩,
  ⟨some 1, .mv (.t 4), none⟩] env H none [] Q := w_reg
def F_law10_aliver2 : List IStmt := [
  ⟨some 5, .callc 17 [(.c (.string ⟨#[97, 98, 99]⟩))], none⟩,
  ⟨some 6, .bin .eql (.t 5) (.c (.int .u32 26499)), none⟩,
  ⟨some 7, .mv (.t 6), none⟩,
  ⟨some 8, .callc 19 [(.c (.string ⟨#[97]⟩))], some (2, true)⟩,
  ⟨some 9, .bin .eql (.t 8) (.c (.int .u32 177670)), some (2, true)⟩,
  ⟨some 10, .pick (.t 7) (.t 9) (.c (.bool false)), none⟩,
  ⟨some 11, .mv (.t 10), none⟩,
  ⟨some 12, .mv (.t 1), some (6, true)⟩,
  ⟨some 13, .callc 22 [(.t 12), (.c (.bool true)), (.c (.string ⟨#[97]⟩)), (.c (.string ⟨#[]⟩))], some (6, true)⟩,
  ⟨some 14, .bin .eql (.t 13) (.c (.int .i64 1)), some (6, true)⟩,
  ⟨some 15, .pick (.t 11) (.t 14) (.c (.bool false)), none⟩,
  ⟨some 16, .mv (.t 15), none⟩,
  ⟨some 17, .mv (.t 1), some (11, true)⟩,
  ⟨some 18, .callc 22 [(.t 17), (.c (.bool true)), (.c (.string ⟨#[97]⟩)), (.c (.string ⟨#[86]⟩))], some (11, true)⟩,
  ⟨some 19, .bin .eql (.t 18) (.c (.int .i64 0)), some (11, true)⟩,
  ⟨some 20, .pick (.t 16) (.t 19) (.c (.bool false)), none⟩,
  ⟨some 21, .mv (.t 20), none⟩,
  ⟨some 22, .mv (.t 1), some (16, true)⟩,
  ⟨some 23, .callc 31 [(.t 22), (.c (.int .u64 9))], some (16, true)⟩,
  ⟨some 24, .bin .eql (.t 23) (.c (.int .i64 1)), some (16, true)⟩,
  ⟨some 25, .pick (.t 21) (.t 24) (.c (.bool false)), none⟩,
  ⟨some 26, .mv (.t 25), none⟩,
  ⟨some 27, .mv (.t 1), some (21, true)⟩,
  ⟨some 28, .ixa 7 (.t 27) (.c (.int .i64 0)), some (21, true)⟩,
  ⟨some 29, .loadN 7 (.t 28), some (21, true)⟩,
  ⟨some 30, .callc 33 [(.t 29)], some (21, true)⟩,
  ⟨some 31, .pick (.t 26) (.t 30) (.c (.bool false)), none⟩,
  ⟨some 0, .mv (.t 31), none⟩]
theorem F_law10_aliver2_W {T : Tab} {env : Env} {H : Heap} {Q : Post} : W T (.reg F_law10_aliver2) env H Q ↔ WR T F_law10_aliver2 [
  ⟨some 5, .callc 17 [(.c (.string ⟨#[97, 98, 99]⟩))], none⟩,
  ⟨some 6, .bin .eql (.t 5) (.c (.int .u32 26499)), none⟩,
  ⟨some 7, .mv (.t 6), none⟩,
  ⟨some 8, .callc 19 [(.c (.string ⟨#[97]⟩))], some (2, true)⟩,
  ⟨some 9, .bin .eql (.t 8) (.c (.int .u32 177670)), some (2, true)⟩,
  ⟨some 10, .pick (.t 7) (.t 9) (.c (.bool false)), none⟩,
  ⟨some 11, .mv (.t 10), none⟩,
  ⟨some 12, .mv (.t 1), some (6, true)⟩,
  ⟨some 13, .callc 22 [(.t 12), (.c (.bool true)), (.c (.string ⟨#[97]⟩)), (.c (.string ⟨#[]⟩))], some (6, true)⟩,
  ⟨some 14, .bin .eql (.t 13) (.c (.int .i64 1)), some (6, true)⟩,
  ⟨some 15, .pick (.t 11) (.t 14) (.c (.bool false)), none⟩,
  ⟨some 16, .mv (.t 15), none⟩,
  ⟨some 17, .mv (.t 1), some (11, true)⟩,
  ⟨some 18, .callc 22 [(.t 17), (.c (.bool true)), (.c (.string ⟨#[97]⟩)), (.c (.string ⟨#[86]⟩))], some (11, true)⟩,
  ⟨some 19, .bin .eql (.t 18) (.c (.int .i64 0)), some (11, true)⟩,
  ⟨some 20, .pick (.t 16) (.t 19) (.c (.bool false)), none⟩,
  ⟨some 21, .mv (.t 20), none⟩,
  ⟨some 22, .mv (.t 1), some (16, true)⟩,
  ⟨some 23, .callc 31 [(.t 22), (.c (.int .u64 9))], some (16, true)⟩,
  ⟨some 24, .bin .eql (.t 23) (.c (.int .i64 1)), some (16, true)⟩,
  ⟨some 25, .pick (.t 21) (.t 24) (.c (.bool false)), none⟩,
  ⟨some 26, .mv (.t 25), none⟩,
  ⟨some 27, .mv (.t 1), some (21, true)⟩,
  ⟨some 28, .ixa 7 (.t 27) (.c (.int .i64 0)), some (21, true)⟩,
  ⟨some 29, .loadN 7 (.t 28), some (21, true)⟩,
  ⟨some 30, .callc 33 [(.t 29)], some (21, true)⟩,
  ⟨some 31, .pick (.t 26) (.t 30) (.c (.bool false)), none⟩,
  ⟨some 0, .mv (.t 31), none⟩] env H none [] Q := w_reg
theorem F_law10_aliver2_g2 {env : Env} : yieldI F_law10_aliver2 env 2 = bOf (env 7) := rfl
theorem F_law10_aliver2_g6 {env : Env} : yieldI F_law10_aliver2 env 6 = bOf (env 11) := rfl
theorem F_law10_aliver2_g11 {env : Env} : yieldI F_law10_aliver2 env 11 = bOf (env 16) := rfl
theorem F_law10_aliver2_g16 {env : Env} : yieldI F_law10_aliver2 env 16 = bOf (env 21) := rfl
theorem F_law10_aliver2_g21 {env : Env} : yieldI F_law10_aliver2 env 21 = bOf (env 26) := rfl
def F_law10_alivec : ICode := (.seq (.reg F_law10_aliver0) (.seq (.reg F_law10_aliver1) (.seq (.reg F_law10_aliver2) .ret)))
theorem F_law10_alivec_W {T : Tab} {env : Env} {H : Heap} {Q : Post} : W T F_law10_alivec env H Q ↔ W T (.seq (.reg F_law10_aliver0) (.seq (.reg F_law10_aliver1) (.seq (.reg F_law10_aliver2) .ret))) env H Q := Iff.rfl
def F_law10_alive : IFn := ⟨32, [.tmp 0], F_law10_alivec⟩
set_option maxRecDepth 1000000 in
theorem F_law10_alive_chk : chkF Try.prog 21 F_law10_alive = true := by kernel_rfl

/-! ### law10_SymsSums -/
def F_law10_SymsSumsr0 : List IStmt := [
  ⟨some 2, .mv (.c (.bool false)), none⟩]
theorem F_law10_SymsSumsr0_W {T : Tab} {env : Env} {H : Heap} {Q : Post} : W T (.reg F_law10_SymsSumsr0) env H Q ↔ WR T F_law10_SymsSumsr0 [
  ⟨some 2, .mv (.c (.bool false)), none⟩] env H none [] Q := w_reg
def F_law10_SymsSumsr1 : List IStmt := [
  ⟨some 3, .mv (.t 0), none⟩,
  ⟨some 4, .len 0 (.t 3), none⟩,
  ⟨some 5, .bin .gtr (.t 4) (.c (.int .i64 4096)), none⟩,
  ⟨some 6, .mv (.t 5), none⟩,
  ⟨some 7, .mv (.t 0), some (3, false)⟩,
  ⟨some 8, .callc 17 [(.t 7)], some (3, false)⟩,
  ⟨some 9, .mv (.t 0), some (3, false)⟩,
  ⟨some 10, .callc 18 [(.t 9)], some (3, false)⟩,
  ⟨some 11, .bin .eql (.t 8) (.t 10), some (3, false)⟩,
  ⟨some 12, .mv (.t 11), some (3, false)⟩,
  ⟨some 13, .mv (.t 0), some (9, true)⟩,
  ⟨some 14, .callc 19 [(.t 13)], some (9, true)⟩,
  ⟨some 15, .mv (.t 0), some (9, true)⟩,
  ⟨some 16, .callc 20 [(.t 15)], some (9, true)⟩,
  ⟨some 17, .bin .eql (.t 14) (.t 16), some (9, true)⟩,
  ⟨some 18, .pick (.t 12) (.t 17) (.c (.bool false)), some (3, false)⟩,
  ⟨some 19, .mv (.t 18), some (3, false)⟩,
  ⟨some 20, .mv (.t 0), some (16, true)⟩,
  ⟨some 21, .callc 17 [(.t 20)], some (16, true)⟩,
  ⟨some 22, .bin .lss (.t 21) (.c (.int .u32 268435456)), some (16, true)⟩,
  ⟨some 23, .pick (.t 19) (.t 22) (.c (.bool false)), some (3, false)⟩,
  ⟨some 24, .mv (.t 23), some (3, false)⟩,
  ⟨some 25, .callc 21 [], some (21, true)⟩,
  ⟨some 26, .pick (.t 24) (.t 25) (.c (.bool false)), some (3, false)⟩,
  ⟨some 27, .pick (.t 6) (.c (.bool true)) (.t 26), none⟩,
  ⟨some 2, .mv (.t 27), none⟩]
theorem F_law10_SymsSumsr1_W {T : Tab} {env : Env} {H : Heap} {Q : Post} : W T (.reg F_law10_SymsSumsr1) env H Q ↔ WR T F_law10_SymsSumsr1 [
  ⟨some 3, .mv (.t 0), none⟩,
  ⟨some 4, .len 0 (.t 3), none⟩,
  ⟨some 5, .bin .gtr (.t 4) (.c (.int .i64 4096)), none⟩,
  ⟨some 6, .mv (.t 5), none⟩,
  ⟨some 7, .mv (.t 0), some (3, false)⟩,
  ⟨some 8, .callc 17 [(.t 7)], some (3, false)⟩,
  ⟨some 9, .mv (.t 0), some (3, false)⟩,
  ⟨some 10, .callc 18 [(.t 9)], some (3, false)⟩,
  ⟨some 11, .bin .eql (.t 8) (.t 10), some (3, false)⟩,
  ⟨some 12, .mv (.t 11), some (3, false)⟩,
  ⟨some 13, .mv (.t 0), some (9, true)⟩,
  ⟨some 14, .callc 19 [(.t 13)], some (9, true)⟩,
  ⟨some 15, .mv (.t 0), some (9, true)⟩,
  ⟨some 16, .callc 20 [(.t 15)], some (9, true)⟩,
  ⟨some 17, .bin .eql (.t 14) (.t 16), some (9, true)⟩,
  ⟨some 18, .pick (.t 12) (.t 17) (.c (.bool false)), some (3, false)⟩,
  ⟨some 19, .mv (.t 18), some (3, false)⟩,
  ⟨some 20, .mv (.t 0), some (16, true)⟩,
  ⟨some 21, .callc 17 [(.t 20)], some (16, true)⟩,
  ⟨some 22, .bin .lss (.t 21) (.c (.int .u32 268435456)), some (16, true)⟩,
  ⟨some 23, .pick (.t 19) (.t 22) (.c (.bool false)), some (3, false)⟩,
  ⟨some 24, .mv (.t 23), some (3, false)⟩,
  ⟨some 25, .callc 21 [], some (21, true)⟩,
  ⟨some 26, .pick (.t 24) (.t 25) (.c (.bool false)), some (3, false)⟩,
  ⟨some 27, .pick (.t 6) (.c (.bool true)) (.t 26), none⟩,
  ⟨some 2, .mv (.t 27), none⟩] env H none [] Q := w_reg
theorem F_law10_SymsSumsr1_g3 {env : Env} : yieldI F_law10_SymsSumsr1 env 3 = bOf (env 6) := rfl
theorem F_law10_SymsSumsr1_g9 {env : Env} : yieldI F_law10_SymsSumsr1 env 9 = bOf (env 12) := rfl
theorem F_law10_SymsSumsr1_g16 {env : Env} : yieldI F_law10_SymsSumsr1 env 16 = bOf (env 19) := rfl
theorem F_law10_SymsSumsr1_g21 {env : Env} : yieldI F_law10_SymsSumsr1 env 21 = bOf (env 24) := rfl
def F_law10_SymsSumsc : ICode := (.seq (.reg F_law10_SymsSumsr0) (.seq (.reg F_law10_SymsSumsr1) .ret))
theorem F_law10_SymsSumsc_W {T : Tab} {env : Env} {H : Heap} {Q : Post} : W T F_law10_SymsSumsc env H Q ↔ W T (.seq (.reg F_law10_SymsSumsr0) (.seq (.reg F_law10_SymsSumsr1) .ret)) env H Q := Iff.rfl
def F_law10_SymsSums : IFn := ⟨28, [.tmp 2], F_law10_SymsSumsc⟩
set_option maxRecDepth 1000000 in
theorem F_law10_SymsSums_chk : chkF Try.prog 4 F_law10_SymsSums = true := by kernel_rfl

/-! ### law10_SymsFinds -/
def F_law10_SymsFindsr0 : List IStmt := [
  ⟨some 3, .box 4 (.t 1), none⟩,
  ⟨some 4, .mv (.c (.bool false)), none⟩]
theorem F_law10_SymsFindsr0_W {T : Tab} {env : Env} {H : Heap} {Q : Post} : W T (.reg F_law10_SymsFindsr0) env H Q ↔ WR T F_law10_SymsFindsr0 [
  ⟨some 3, .box 4 (.t 1), none⟩,
  ⟨some 4, .mv (.c (.bool false)), none⟩] env H none [] Q := w_reg
def F_law10_SymsFindsr1 : List IStmt := [
  ⟨some 8, .mv (.t 0), none⟩,
  ⟨some 9, .len 1 (.t 8), none⟩,
  ⟨some 10, .bin .gtr (.t 9) (.c (.int .i64 1000)), none⟩]
theorem F_law10_SymsFindsr1_W {T : Tab} {env : Env} {H : Heap} {Q : Post} : W T (.reg F_law10_SymsFindsr1) env H Q ↔ WR T F_law10_SymsFindsr1 [
  ⟨some 8, .mv (.t 0), none⟩,
  ⟨some 9, .len 1 (.t 8), none⟩,
  ⟨some 10, .bin .gtr (.t 9) (.c (.int .i64 1000)), none⟩] env H none [] Q := w_reg
def F_law10_SymsFindsr2 : List IStmt := [
  ⟨some 4, .mv (.c (.bool true)), none⟩]
theorem F_law10_SymsFindsr2_W {T : Tab} {env : Env} {H : Heap} {Q : Post} : W T (.reg F_law10_SymsFindsr2) env H Q ↔ WR T F_law10_SymsFindsr2 [
  ⟨some 4, .mv (.c (.bool true)), none⟩] env H none [] Q := w_reg
def F_law10_SymsFindsr3 : List IStmt := [
  ⟨some 11, .mv (.t 0), none⟩,
  ⟨some 12, .fa 0 (.t 3), none⟩,
  ⟨some 13, .load (.t 12), none⟩,
  ⟨some 14, .fa 1 (.t 3), none⟩,
  ⟨some 15, .load (.t 14), none⟩,
  ⟨some 16, .fa 2 (.t 3), none⟩,
  ⟨some 17, .load (.t 16), none⟩,
  ⟨some 18, .callc 22 [(.t 11), (.t 13), (.t 15), (.t 17)], none⟩,
  ⟨some 5, .mv (.t 18), none⟩]
theorem F_law10_SymsFindsr3_W {T : Tab} {env : Env} {H : Heap} {Q : Post} : W T (.reg F_law10_SymsFindsr3) env H Q ↔ WR T F_law10_SymsFindsr3 [
  ⟨some 11, .mv (.t 0), none⟩,
  ⟨some 12, .fa 0 (.t 3), none⟩,
  ⟨some 13, .load (.t 12), none⟩,
  ⟨some 14, .fa 1 (.t 3), none⟩,
  ⟨some 15, .load (.t 14), none⟩,
  ⟨some 16, .fa 2 (.t 3), none⟩,
  ⟨some 17, .load (.t 16), none⟩,
  ⟨some 18, .callc 22 [(.t 11), (.t 13), (.t 15), (.t 17)], none⟩,
  ⟨some 5, .mv (.t 18), none⟩] env H none [] Q := w_reg
def F_law10_SymsFindsr4 : List IStmt := [
  ⟨some 19, .mv (.t 0), none⟩,
  ⟨some 20, .fa 0 (.t 3), none⟩,
  ⟨some 21, .load (.t 20), none⟩,
  ⟨some 22, .call 28 [(.t 19), (.t 21)], none⟩,
  ⟨some 6, .mv (.t 22), none⟩]
theorem F_law10_SymsFindsr4_W {T : Tab} {env : Env} {H : Heap} {Q : Post} : W T (.reg F_law10_SymsFindsr4) env H Q ↔ WR T F_law10_SymsFindsr4 [
  ⟨some 19, .mv (.t 0), none⟩,
  ⟨some 20, .fa 0 (.t 3), none⟩,
  ⟨some 21, .load (.t 20), none⟩,
  ⟨some 22, .call 28 [(.t 19), (.t 21)], none⟩,
  ⟨some 6, .mv (.t 22), none⟩] env H none [] Q := w_reg
def F_law10_SymsFindsr5 : List IStmt := [
  ⟨some 23, .mv (.t 6), none⟩,
  ⟨some 24, .eqn 0 false (.t 23) (.c (.pointer none)), none⟩,
  ⟨some 25, .mv (.t 24), none⟩,
  ⟨some 26, .mv (.t 5), some (2, false)⟩,
  ⟨some 27, .mv (.t 0), some (2, false)⟩,
  ⟨some 28, .fa 0 (.t 3), some (2, false)⟩,
  ⟨some 29, .load (.t 28), some (2, false)⟩,
  ⟨some 30, .fa 1 (.t 3), some (2, false)⟩,
  ⟨some 31, .load (.t 30), some (2, false)⟩,
  ⟨some 32, .fa 2 (.t 3), some (2, false)⟩,
  ⟨some 33, .load (.t 32), some (2, false)⟩,
  ⟨some 34, .callc 29 [(.t 27), (.t 29), (.t 31), (.t 33)], some (2, false)⟩,
  ⟨some 35, .bin .neq (.t 26) (.t 34), some (2, false)⟩,
  ⟨some 36, .pick (.t 25) (.c (.bool true)) (.t 35), none⟩,
  ⟨some 37, .mv (.t 36), none⟩,
  ⟨some 38, .mv (.t 6), some (14, false)⟩,
  ⟨some 39, .fa 1 (.t 3), some (14, false)⟩,
  ⟨some 40, .load (.t 39), some (14, false)⟩,
  ⟨some 41, .fa 2 (.t 3), some (14, false)⟩,
  ⟨some 42, .load (.t 41), some (14, false)⟩,
  ⟨some 43, .call 30 [(.t 38), (.t 40), (.t 42)], some (14, false)⟩,
  ⟨some 44, .mv (.t 5), some (14, false)⟩,
  ⟨some 45, .bin .neq (.t 43) (.t 44), some (14, false)⟩,
  ⟨some 46, .pick (.t 37) (.c (.bool true)) (.t 45), none⟩,
  ⟨some 47, .mv (.t 46), none⟩,
  ⟨some 48, .mv (.t 0), some (24, false)⟩,
  ⟨some 49, .fa 3 (.t 3), some (24, false)⟩,
  ⟨some 50, .load (.t 49), some (24, false)⟩,
  ⟨some 51, .callc 31 [(.t 48), (.t 50)], some (24, false)⟩,
  ⟨some 52, .mv (.t 0), some (24, false)⟩,
  ⟨some 53, .fa 3 (.t 3), some (24, false)⟩,
  ⟨some 54, .load (.t 53), some (24, false)⟩,
  ⟨some 55, .callc 32 [(.t 52), (.t 54)], some (24, false)⟩,
  ⟨some 56, .bin .neq (.t 51) (.t 55), some (24, false)⟩,
  ⟨some 57, .pick (.t 47) (.c (.bool true)) (.t 56), none⟩]
theorem F_law10_SymsFindsr5_g2 {env : Env} : yieldI F_law10_SymsFindsr5 env 2 = bOf (env 25) := rfl
theorem F_law10_SymsFindsr5_g14 {env : Env} : yieldI F_law10_SymsFindsr5 env 14 = bOf (env 37) := rfl
theorem F_law10_SymsFindsr5_g24 {env : Env} : yieldI F_law10_SymsFindsr5 env 24 = bOf (env 47) := rfl
theorem F_law10_SymsFindsr5_W {T : Tab} {env : Env} {H : Heap} {Q : Post} : W T (.dreg F_law10_SymsFindsr5 []) env H Q ↔ WR T F_law10_SymsFindsr5 [
  ⟨some 23, .mv (.t 6), none⟩,
  ⟨some 24, .eqn 0 false (.t 23) (.c (.pointer none)), none⟩,
  ⟨some 25, .mv (.t 24), none⟩,
  ⟨some 26, .mv (.t 5), some (2, false)⟩,
  ⟨some 27, .mv (.t 0), some (2, false)⟩,
  ⟨some 28, .fa 0 (.t 3), some (2, false)⟩,
  ⟨some 29, .load (.t 28), some (2, false)⟩,
  ⟨some 30, .fa 1 (.t 3), some (2, false)⟩,
  ⟨some 31, .load (.t 30), some (2, false)⟩,
  ⟨some 32, .fa 2 (.t 3), some (2, false)⟩,
  ⟨some 33, .load (.t 32), some (2, false)⟩,
  ⟨some 34, .callc 29 [(.t 27), (.t 29), (.t 31), (.t 33)], some (2, false)⟩,
  ⟨some 35, .bin .neq (.t 26) (.t 34), some (2, false)⟩,
  ⟨some 36, .pick (.t 25) (.c (.bool true)) (.t 35), none⟩,
  ⟨some 37, .mv (.t 36), none⟩,
  ⟨some 38, .mv (.t 6), some (14, false)⟩,
  ⟨some 39, .fa 1 (.t 3), some (14, false)⟩,
  ⟨some 40, .load (.t 39), some (14, false)⟩,
  ⟨some 41, .fa 2 (.t 3), some (14, false)⟩,
  ⟨some 42, .load (.t 41), some (14, false)⟩,
  ⟨some 43, .call 30 [(.t 38), (.t 40), (.t 42)], some (14, false)⟩,
  ⟨some 44, .mv (.t 5), some (14, false)⟩,
  ⟨some 45, .bin .neq (.t 43) (.t 44), some (14, false)⟩,
  ⟨some 46, .pick (.t 37) (.c (.bool true)) (.t 45), none⟩,
  ⟨some 47, .mv (.t 46), none⟩,
  ⟨some 48, .mv (.t 0), some (24, false)⟩,
  ⟨some 49, .fa 3 (.t 3), some (24, false)⟩,
  ⟨some 50, .load (.t 49), some (24, false)⟩,
  ⟨some 51, .callc 31 [(.t 48), (.t 50)], some (24, false)⟩,
  ⟨some 52, .mv (.t 0), some (24, false)⟩,
  ⟨some 53, .fa 3 (.t 3), some (24, false)⟩,
  ⟨some 54, .load (.t 53), some (24, false)⟩,
  ⟨some 55, .callc 32 [(.t 52), (.t 54)], some (24, false)⟩,
  ⟨some 56, .bin .neq (.t 51) (.t 55), some (24, false)⟩,
  ⟨some 57, .pick (.t 47) (.c (.bool true)) (.t 56), none⟩] env H none [] Q := w_dreg0
def F_law10_SymsFindsr6 : List IStmt := [
  ⟨some 4, .mv (.c (.bool false)), none⟩]
theorem F_law10_SymsFindsr6_W {T : Tab} {env : Env} {H : Heap} {Q : Post} : W T (.reg F_law10_SymsFindsr6) env H Q ↔ WR T F_law10_SymsFindsr6 [
  ⟨some 4, .mv (.c (.bool false)), none⟩] env H none [] Q := w_reg
def F_law10_SymsFindsr7 : List IStmt := [
  ⟨some 7, .mv (.c (.int .i64 0)), none⟩]
theorem F_law10_SymsFindsr7_W {T : Tab} {env : Env} {H : Heap} {Q : Post} : W T (.reg F_law10_SymsFindsr7) env H Q ↔ WR T F_law10_SymsFindsr7 [
  ⟨some 7, .mv (.c (.int .i64 0)), none⟩] env H none [] Q := w_reg
def F_law10_SymsFindsr8 : List IStmt := [
  ⟨some 58, .mv (.t 7), none⟩,
  ⟨some 59, .mv (.t 0), none⟩,
  ⟨some 60, .len 1 (.t 59), none⟩,
  ⟨some 61, .bin .lss (.t 58) (.t 60), none⟩]
theorem F_law10_SymsFindsr8_W {T : Tab} {env : Env} {H : Heap} {Q : Post} : W T (.reg F_law10_SymsFindsr8) env H Q ↔ WR T F_law10_SymsFindsr8 [
  ⟨some 58, .mv (.t 7), none⟩,
  ⟨some 59, .mv (.t 0), none⟩,
  ⟨some 60, .len 1 (.t 59), none⟩,
  ⟨some 61, .bin .lss (.t 58) (.t 60), none⟩] env H none [] Q := w_reg
def F_law10_SymsFindsr10 : List IStmt := [
  ⟨some 64, .mv (.t 0), none⟩,
  ⟨some 65, .mv (.t 7), none⟩,
  ⟨some 66, .ixa 7 (.t 64) (.t 65), none⟩,
  ⟨some 67, .loadN 7 (.t 66), none⟩,
  ⟨some 68, .callc 33 [(.t 67)], none⟩,
  ⟨some 69, .mv (.t 0), none⟩,
  ⟨some 70, .mv (.t 7), none⟩,
  ⟨some 71, .ixa 7 (.t 69) (.t 70), none⟩,
  ⟨some 72, .loadN 7 (.t 71), none⟩,
  ⟨some 73, .callc 34 [(.t 72)], none⟩,
  ⟨some 74, .eqb true (.t 68) (.t 73), none⟩]
theorem F_law10_SymsFindsr10_W {T : Tab} {env : Env} {H : Heap} {Q : Post} : W T (.dreg F_law10_SymsFindsr10 []) env H Q ↔ WR T F_law10_SymsFindsr10 [
  ⟨some 64, .mv (.t 0), none⟩,
  ⟨some 65, .mv (.t 7), none⟩,
  ⟨some 66, .ixa 7 (.t 64) (.t 65), none⟩,
  ⟨some 67, .loadN 7 (.t 66), none⟩,
  ⟨some 68, .callc 33 [(.t 67)], none⟩,
  ⟨some 69, .mv (.t 0), none⟩,
  ⟨some 70, .mv (.t 7), none⟩,
  ⟨some 71, .ixa 7 (.t 69) (.t 70), none⟩,
  ⟨some 72, .loadN 7 (.t 71), none⟩,
  ⟨some 73, .callc 34 [(.t 72)], none⟩,
  ⟨some 74, .eqb true (.t 68) (.t 73), none⟩] env H none [] Q := w_dreg0
def F_law10_SymsFindsr11 : List IStmt := [
  ⟨some 4, .mv (.c (.bool false)), none⟩]
theorem F_law10_SymsFindsr11_W {T : Tab} {env : Env} {H : Heap} {Q : Post} : W T (.reg F_law10_SymsFindsr11) env H Q ↔ WR T F_law10_SymsFindsr11 [
  ⟨some 4, .mv (.c (.bool false)), none⟩] env H none [] Q := w_reg
def F_law10_SymsFindsr9 : List IStmt := [
  ⟨some 62, .mv (.t 7), none⟩,
  ⟨some 63, .bin .add (.t 62) (.c (.int .i64 1)), none⟩,
  ⟨some 7, .mv (.t 63), none⟩]
theorem F_law10_SymsFindsr9_W {T : Tab} {env : Env} {H : Heap} {Q : Post} : W T (.reg F_law10_SymsFindsr9) env H Q ↔ WR T F_law10_SymsFindsr9 [
  ⟨some 62, .mv (.t 7), none⟩,
  ⟨some 63, .bin .add (.t 62) (.c (.int .i64 1)), none⟩,
  ⟨some 7, .mv (.t 63), none⟩] env H none [] Q := w_reg
def F_law10_SymsFindsl0 : ICode := (.seq (.seq (.reg F_law10_SymsFindsr8) (.cond (.t 61) .skip (.exit 0))) (.seq (.block 1 (.seq (.dreg F_law10_SymsFindsr10 []) (.cond (.t 74) (.seq (.reg F_law10_SymsFindsr11) .ret) .skip))) (.reg F_law10_SymsFindsr9)))
theorem F_law10_SymsFindsl0_W {T : Tab} {env : Env} {H : Heap} {Q : Post} : W T F_law10_SymsFindsl0 env H Q ↔ W T (.seq (.seq (.reg F_law10_SymsFindsr8) (.cond (.t 61) .skip (.exit 0))) (.seq (.block 1 (.seq (.dreg F_law10_SymsFindsr10 []) (.cond (.t 74) (.seq (.reg F_law10_SymsFindsr11) .ret) .skip))) (.reg F_law10_SymsFindsr9))) env H Q := Iff.rfl
def F_law10_SymsFindsr12 : List IStmt := [
  ⟨some 75, .callc 21 [], none⟩,
  ⟨some 4, .mv (.t 75), none⟩]
theorem F_law10_SymsFindsr12_W {T : Tab} {env : Env} {H : Heap} {Q : Post} : W T (.reg F_law10_SymsFindsr12) env H Q ↔ WR T F_law10_SymsFindsr12 [
  ⟨some 75, .callc 21 [], none⟩,
  ⟨some 4, .mv (.t 75), none⟩] env H none [] Q := w_reg
def F_law10_SymsFindsc : ICode := (.seq (.reg F_law10_SymsFindsr0) (.seq (.seq (.reg F_law10_SymsFindsr1) (.cond (.t 10) (.seq (.reg F_law10_SymsFindsr2) .ret) .skip)) (.seq (.reg F_law10_SymsFindsr3) (.seq (.reg F_law10_SymsFindsr4) (.seq (.seq (.dreg F_law10_SymsFindsr5 []) (.cond (.t 57) (.seq (.reg F_law10_SymsFindsr6) .ret) .skip)) (.seq (.seq (.reg F_law10_SymsFindsr7) (.block 0 (.loop F_law10_SymsFindsl0))) (.seq (.reg F_law10_SymsFindsr12) .ret)))))))
theorem F_law10_SymsFindsc_W {T : Tab} {env : Env} {H : Heap} {Q : Post} : W T F_law10_SymsFindsc env H Q ↔ W T (.seq (.reg F_law10_SymsFindsr0) (.seq (.seq (.reg F_law10_SymsFindsr1) (.cond (.t 10) (.seq (.reg F_law10_SymsFindsr2) .ret) .skip)) (.seq (.reg F_law10_SymsFindsr3) (.seq (.reg F_law10_SymsFindsr4) (.seq (.seq (.dreg F_law10_SymsFindsr5 []) (.cond (.t 57) (.seq (.reg F_law10_SymsFindsr6) .ret) .skip)) (.seq (.seq (.reg F_law10_SymsFindsr7) (.block 0 (.loop F_law10_SymsFindsl0))) (.seq (.reg F_law10_SymsFindsr12) .ret))))))) env H Q := Iff.rfl
def F_law10_SymsFinds : IFn := ⟨76, [.tmp 4], F_law10_SymsFindsc⟩
set_option maxRecDepth 1000000 in
theorem F_law10_SymsFinds_chk : chkF Try.prog 8 F_law10_SymsFinds = true := by kernel_rfl

/-! ### law10_SymsFirst -/
def F_law10_SymsFirstr0 : List IStmt := [
  ⟨some 3, .box 4 (.t 1), none⟩,
  ⟨some 4, .mv (.c (.bool false)), none⟩]
theorem F_law10_SymsFirstr0_W {T : Tab} {env : Env} {H : Heap} {Q : Post} : W T (.reg F_law10_SymsFirstr0) env H Q ↔ WR T F_law10_SymsFirstr0 [
  ⟨some 3, .box 4 (.t 1), none⟩,
  ⟨some 4, .mv (.c (.bool false)), none⟩] env H none [] Q := w_reg
def F_law10_SymsFirstr1 : List IStmt := [
  ⟨some 8, .mv (.t 0), none⟩,
  ⟨some 9, .len 1 (.t 8), none⟩,
  ⟨some 10, .bin .gtr (.t 9) (.c (.int .i64 1000)), none⟩]
theorem F_law10_SymsFirstr1_W {T : Tab} {env : Env} {H : Heap} {Q : Post} : W T (.reg F_law10_SymsFirstr1) env H Q ↔ WR T F_law10_SymsFirstr1 [
  ⟨some 8, .mv (.t 0), none⟩,
  ⟨some 9, .len 1 (.t 8), none⟩,
  ⟨some 10, .bin .gtr (.t 9) (.c (.int .i64 1000)), none⟩] env H none [] Q := w_reg
def F_law10_SymsFirstr2 : List IStmt := [
  ⟨some 4, .mv (.c (.bool true)), none⟩]
theorem F_law10_SymsFirstr2_W {T : Tab} {env : Env} {H : Heap} {Q : Post} : W T (.reg F_law10_SymsFirstr2) env H Q ↔ WR T F_law10_SymsFirstr2 [
  ⟨some 4, .mv (.c (.bool true)), none⟩] env H none [] Q := w_reg
def F_law10_SymsFirstr3 : List IStmt := [
  ⟨some 11, .mv (.t 0), none⟩,
  ⟨some 12, .fa 0 (.t 3), none⟩,
  ⟨some 13, .load (.t 12), none⟩,
  ⟨some 14, .fa 1 (.t 3), none⟩,
  ⟨some 15, .load (.t 14), none⟩,
  ⟨some 16, .fa 2 (.t 3), none⟩,
  ⟨some 17, .load (.t 16), none⟩,
  ⟨some 18, .callc 22 [(.t 11), (.t 13), (.t 15), (.t 17)], none⟩,
  ⟨some 5, .mv (.t 18), none⟩]
theorem F_law10_SymsFirstr3_W {T : Tab} {env : Env} {H : Heap} {Q : Post} : W T (.reg F_law10_SymsFirstr3) env H Q ↔ WR T F_law10_SymsFirstr3 [
  ⟨some 11, .mv (.t 0), none⟩,
  ⟨some 12, .fa 0 (.t 3), none⟩,
  ⟨some 13, .load (.t 12), none⟩,
  ⟨some 14, .fa 1 (.t 3), none⟩,
  ⟨some 15, .load (.t 14), none⟩,
  ⟨some 16, .fa 2 (.t 3), none⟩,
  ⟨some 17, .load (.t 16), none⟩,
  ⟨some 18, .callc 22 [(.t 11), (.t 13), (.t 15), (.t 17)], none⟩,
  ⟨some 5, .mv (.t 18), none⟩] env H none [] Q := w_reg
def F_law10_SymsFirstr4 : List IStmt := [
  ⟨some 19, .mv (.t 5), none⟩,
  ⟨some 20, .bin .lss (.t 19) (.c (.int .i64 (-1))), none⟩,
  ⟨some 21, .mv (.t 20), none⟩,
  ⟨some 22, .mv (.t 5), some (2, false)⟩,
  ⟨some 23, .mv (.t 0), some (2, false)⟩,
  ⟨some 24, .len 1 (.t 23), some (2, false)⟩,
  ⟨some 25, .bin .geq (.t 22) (.t 24), some (2, false)⟩,
  ⟨some 26, .pick (.t 21) (.c (.bool true)) (.t 25), none⟩]
theorem F_law10_SymsFirstr4_W {T : Tab} {env : Env} {H : Heap} {Q : Post} : W T (.reg F_law10_SymsFirstr4) env H Q ↔ WR T F_law10_SymsFirstr4 [
  ⟨some 19, .mv (.t 5), none⟩,
  ⟨some 20, .bin .lss (.t 19) (.c (.int .i64 (-1))), none⟩,
  ⟨some 21, .mv (.t 20), none⟩,
  ⟨some 22, .mv (.t 5), some (2, false)⟩,
  ⟨some 23, .mv (.t 0), some (2, false)⟩,
  ⟨some 24, .len 1 (.t 23), some (2, false)⟩,
  ⟨some 25, .bin .geq (.t 22) (.t 24), some (2, false)⟩,
  ⟨some 26, .pick (.t 21) (.c (.bool true)) (.t 25), none⟩] env H none [] Q := w_reg
theorem F_law10_SymsFirstr4_g2 {env : Env} : yieldI F_law10_SymsFirstr4 env 2 = bOf (env 21) := rfl
def F_law10_SymsFirstr5 : List IStmt := [
  ⟨some 4, .mv (.c (.bool false)), none⟩]
theorem F_law10_SymsFirstr5_W {T : Tab} {env : Env} {H : Heap} {Q : Post} : W T (.reg F_law10_SymsFirstr5) env H Q ↔ WR T F_law10_SymsFirstr5 [
  ⟨some 4, .mv (.c (.bool false)), none⟩] env H none [] Q := w_reg
def F_law10_SymsFirstr6 : List IStmt := [
  ⟨some 6, .mv (.c (.int .i64 0)), none⟩]
theorem F_law10_SymsFirstr6_W {T : Tab} {env : Env} {H : Heap} {Q : Post} : W T (.reg F_law10_SymsFirstr6) env H Q ↔ WR T F_law10_SymsFirstr6 [
  ⟨some 6, .mv (.c (.int .i64 0)), none⟩] env H none [] Q := w_reg
def F_law10_SymsFirstr7 : List IStmt := [
  ⟨some 27, .mv (.t 6), none⟩,
  ⟨some 28, .mv (.t 0), none⟩,
  ⟨some 29, .len 1 (.t 28), none⟩,
  ⟨some 30, .bin .lss (.t 27) (.t 29), none⟩]
theorem F_law10_SymsFirstr7_W {T : Tab} {env : Env} {H : Heap} {Q : Post} : W T (.reg F_law10_SymsFirstr7) env H Q ↔ WR T F_law10_SymsFirstr7 [
  ⟨some 27, .mv (.t 6), none⟩,
  ⟨some 28, .mv (.t 0), none⟩,
  ⟨some 29, .len 1 (.t 28), none⟩,
  ⟨some 30, .bin .lss (.t 27) (.t 29), none⟩] env H none [] Q := w_reg
def F_law10_SymsFirstr9 : List IStmt := [
  ⟨some 33, .mv (.t 0), none⟩,
  ⟨some 34, .mv (.t 6), none⟩,
  ⟨some 35, .mv (.t 6), none⟩,
  ⟨some 36, .bin .add (.t 35) (.c (.int .i64 1)), none⟩,
  ⟨some 37, .mv (.t 6), none⟩,
  ⟨some 38, .bin .add (.t 37) (.c (.int .i64 1)), none⟩,
  ⟨some 39, .sle 7 (.t 33) (some (.t 34)) (some (.t 36)) (some (.t 38)), none⟩,
  ⟨some 40, .fa 0 (.t 3), none⟩,
  ⟨some 41, .load (.t 40), none⟩,
  ⟨some 42, .fa 1 (.t 3), none⟩,
  ⟨some 43, .load (.t 42), none⟩,
  ⟨some 44, .fa 2 (.t 3), none⟩,
  ⟨some 45, .load (.t 44), none⟩,
  ⟨some 46, .callc 22 [(.t 39), (.t 41), (.t 43), (.t 45)], none⟩,
  ⟨some 47, .bin .eql (.t 46) (.c (.int .i64 0)), none⟩,
  ⟨some 7, .mv (.t 47), none⟩]
theorem F_law10_SymsFirstr9_W {T : Tab} {env : Env} {H : Heap} {Q : Post} : W T (.dreg F_law10_SymsFirstr9 []) env H Q ↔ WR T F_law10_SymsFirstr9 [
  ⟨some 33, .mv (.t 0), none⟩,
  ⟨some 34, .mv (.t 6), none⟩,
  ⟨some 35, .mv (.t 6), none⟩,
  ⟨some 36, .bin .add (.t 35) (.c (.int .i64 1)), none⟩,
  ⟨some 37, .mv (.t 6), none⟩,
  ⟨some 38, .bin .add (.t 37) (.c (.int .i64 1)), none⟩,
  ⟨some 39, .sle 7 (.t 33) (some (.t 34)) (some (.t 36)) (some (.t 38)), none⟩,
  ⟨some 40, .fa 0 (.t 3), none⟩,
  ⟨some 41, .load (.t 40), none⟩,
  ⟨some 42, .fa 1 (.t 3), none⟩,
  ⟨some 43, .load (.t 42), none⟩,
  ⟨some 44, .fa 2 (.t 3), none⟩,
  ⟨some 45, .load (.t 44), none⟩,
  ⟨some 46, .callc 22 [(.t 39), (.t 41), (.t 43), (.t 45)], none⟩,
  ⟨some 47, .bin .eql (.t 46) (.c (.int .i64 0)), none⟩,
  ⟨some 7, .mv (.t 47), none⟩] env H none [] Q := w_dreg0
def F_law10_SymsFirstr10 : List IStmt := [
  ⟨some 48, .mv (.t 7), none⟩,
  ⟨some 49, .mv (.t 48), none⟩,
  ⟨some 50, .mv (.t 5), some (1, true)⟩,
  ⟨some 51, .bin .lss (.t 50) (.c (.int .i64 0)), some (1, true)⟩,
  ⟨some 52, .mv (.t 51), some (1, true)⟩,
  ⟨some 53, .mv (.t 6), some (4, false)⟩,
  ⟨some 54, .mv (.t 5), some (4, false)⟩,
  ⟨some 55, .bin .lss (.t 53) (.t 54), some (4, false)⟩,
  ⟨some 56, .pick (.t 52) (.c (.bool true)) (.t 55), some (1, true)⟩,
  ⟨some 57, .pick (.t 49) (.t 56) (.c (.bool false)), none⟩,
  ⟨some 58, .mv (.t 57), none⟩,
  ⟨some 59, .mv (.t 6), some (10, false)⟩,
  ⟨some 60, .mv (.t 5), some (10, false)⟩,
  ⟨some 61, .bin .eql (.t 59) (.t 60), some (10, false)⟩,
  ⟨some 62, .mv (.t 61), some (10, false)⟩,
  ⟨some 63, .mv (.t 7), some (14, true)⟩,
  ⟨some 64, .un .not (.t 63), some (14, true)⟩,
  ⟨some 65, .pick (.t 62) (.t 64) (.c (.bool false)), some (10, false)⟩,
  ⟨some 66, .pick (.t 58) (.c (.bool true)) (.t 65), none⟩]
theorem F_law10_SymsFirstr10_W {T : Tab} {env : Env} {H : Heap} {Q : Post} : W T (.reg F_law10_SymsFirstr10) env H Q ↔ WR T F_law10_SymsFirstr10 [
  ⟨some 48, .mv (.t 7), none⟩,
  ⟨some 49, .mv (.t 48), none⟩,
  ⟨some 50, .mv (.t 5), some (1, true)⟩,
  ⟨some 51, .bin .lss (.t 50) (.c (.int .i64 0)), some (1, true)⟩,
  ⟨some 52, .mv (.t 51), some (1, true)⟩,
  ⟨some 53, .mv (.t 6), some (4, false)⟩,
  ⟨some 54, .mv (.t 5), some (4, false)⟩,
  ⟨some 55, .bin .lss (.t 53) (.t 54), some (4, false)⟩,
  ⟨some 56, .pick (.t 52) (.c (.bool true)) (.t 55), some (1, true)⟩,
  ⟨some 57, .pick (.t 49) (.t 56) (.c (.bool false)), none⟩,
  ⟨some 58, .mv (.t 57), none⟩,
  ⟨some 59, .mv (.t 6), some (10, false)⟩,
  ⟨some 60, .mv (.t 5), some (10, false)⟩,
  ⟨some 61, .bin .eql (.t 59) (.t 60), some (10, false)⟩,
  ⟨some 62, .mv (.t 61), some (10, false)⟩,
  ⟨some 63, .mv (.t 7), some (14, true)⟩,
  ⟨some 64, .un .not (.t 63), some (14, true)⟩,
  ⟨some 65, .pick (.t 62) (.t 64) (.c (.bool false)), some (10, false)⟩,
  ⟨some 66, .pick (.t 58) (.c (.bool true)) (.t 65), none⟩] env H none [] Q := w_reg
theorem F_law10_SymsFirstr10_g1 {env : Env} : yieldI F_law10_SymsFirstr10 env 1 = bOf (env 49) := rfl
theorem F_law10_SymsFirstr10_g4 {env : Env} : yieldI F_law10_SymsFirstr10 env 4 = bOf (env 52) := rfl
theorem F_law10_SymsFirstr10_g10 {env : Env} : yieldI F_law10_SymsFirstr10 env 10 = bOf (env 58) := rfl
theorem F_law10_SymsFirstr10_g14 {env : Env} : yieldI F_law10_SymsFirstr10 env 14 = bOf (env 62) := rfl
def F_law10_SymsFirstr11 : List IStmt := [
  ⟨some 4, .mv (.c (.bool false)), none⟩]
theorem F_law10_SymsFirstr11_W {T : Tab} {env : Env} {H : Heap} {Q : Post} : W T (.reg F_law10_SymsFirstr11) env H Q ↔ WR T F_law10_SymsFirstr11 [
  ⟨some 4, .mv (.c (.bool false)), none⟩] env H none [] Q := w_reg
def F_law10_SymsFirstr8 : List IStmt := [
  ⟨some 31, .mv (.t 6), none⟩,
  ⟨some 32, .bin .add (.t 31) (.c (.int .i64 1)), none⟩,
  ⟨some 6, .mv (.t 32), none⟩]
theorem F_law10_SymsFirstr8_W {T : Tab} {env : Env} {H : Heap} {Q : Post} : W T (.reg F_law10_SymsFirstr8) env H Q ↔ WR T F_law10_SymsFirstr8 [
  ⟨some 31, .mv (.t 6), none⟩,
  ⟨some 32, .bin .add (.t 31) (.c (.int .i64 1)), none⟩,
  ⟨some 6, .mv (.t 32), none⟩] env H none [] Q := w_reg
def F_law10_SymsFirstl0 : ICode := (.seq (.seq (.reg F_law10_SymsFirstr7) (.cond (.t 30) .skip (.exit 0))) (.seq (.block 1 (.seq (.dreg F_law10_SymsFirstr9 []) (.seq (.reg F_law10_SymsFirstr10) (.cond (.t 66) (.seq (.reg F_law10_SymsFirstr11) .ret) .skip)))) (.reg F_law10_SymsFirstr8)))
theorem F_law10_SymsFirstl0_W {T : Tab} {env : Env} {H : Heap} {Q : Post} : W T F_law10_SymsFirstl0 env H Q ↔ W T (.seq (.seq (.reg F_law10_SymsFirstr7) (.cond (.t 30) .skip (.exit 0))) (.seq (.block 1 (.seq (.dreg F_law10_SymsFirstr9 []) (.seq (.reg F_law10_SymsFirstr10) (.cond (.t 66) (.seq (.reg F_law10_SymsFirstr11) .ret) .skip)))) (.reg F_law10_SymsFirstr8))) env H Q := Iff.rfl
def F_law10_SymsFirstr12 : List IStmt := [
  ⟨some 67, .mv (.t 5), none⟩,
  ⟨some 68, .bin .lss (.t 67) (.c (.int .i64 0)), none⟩,
  ⟨some 69, .mv (.t 68), none⟩,
  ⟨some 70, .mv (.t 0), some (2, false)⟩,
  ⟨some 71, .mv (.t 5), some (2, false)⟩,
  ⟨some 72, .ixa 7 (.t 70) (.t 71), some (2, false)⟩,
  ⟨some 73, .fa 0 (.t 72), some (2, false)⟩,
  ⟨some 74, .load (.t 73), some (2, false)⟩,
  ⟨some 75, .fa 1 (.t 3), some (2, false)⟩,
  ⟨some 76, .load (.t 75), some (2, false)⟩,
  ⟨some 77, .bin .eql (.t 74) (.t 76), some (2, false)⟩,
  ⟨some 78, .mv (.t 77), some (2, false)⟩,
  ⟨some 79, .mv (.t 0), some (11, true)⟩,
  ⟨some 80, .mv (.t 5), some (11, true)⟩,
  ⟨some 81, .ixa 7 (.t 79) (.t 80), some (11, true)⟩,
  ⟨some 82, .fa 4 (.t 81), some (11, true)⟩,
  ⟨some 83, .load (.t 82), some (11, true)⟩,
  ⟨some 84, .pick (.t 78) (.t 83) (.c (.bool false)), some (2, false)⟩,
  ⟨some 85, .mv (.t 84), some (2, false)⟩,
  ⟨some 86, .mv (.t 0), some (18, true)⟩,
  ⟨some 87, .mv (.t 5), some (18, true)⟩,
  ⟨some 88, .ixa 7 (.t 86) (.t 87), some (18, true)⟩,
  ⟨some 89, .fa 3 (.t 88), some (18, true)⟩,
  ⟨some 90, .load (.t 89), some (18, true)⟩,
  ⟨some 91, .bin .neq (.t 90) (.c (.int .i64 0)), some (18, true)⟩,
  ⟨some 92, .pick (.t 85) (.t 91) (.c (.bool false)), some (2, false)⟩,
  ⟨some 93, .pick (.t 69) (.c (.bool true)) (.t 92), none⟩,
  ⟨some 94, .mv (.t 93), none⟩,
  ⟨some 95, .callc 21 [], some (27, true)⟩,
  ⟨some 96, .pick (.t 94) (.t 95) (.c (.bool false)), none⟩,
  ⟨some 4, .mv (.t 96), none⟩]
theorem F_law10_SymsFirstr12_g2 {env : Env} : yieldI F_law10_SymsFirstr12 env 2 = bOf (env 69) := rfl
theorem F_law10_SymsFirstr12_g11 {env : Env} : yieldI F_law10_SymsFirstr12 env 11 = bOf (env 78) := rfl
theorem F_law10_SymsFirstr12_g18 {env : Env} : yieldI F_law10_SymsFirstr12 env 18 = bOf (env 85) := rfl
theorem F_law10_SymsFirstr12_g27 {env : Env} : yieldI F_law10_SymsFirstr12 env 27 = bOf (env 94) := rfl
theorem F_law10_SymsFirstr12_W {T : Tab} {env : Env} {H : Heap} {Q : Post} : W T (.dreg F_law10_SymsFirstr12 []) env H Q ↔ WR T F_law10_SymsFirstr12 [
  ⟨some 67, .mv (.t 5), none⟩,
  ⟨some 68, .bin .lss (.t 67) (.c (.int .i64 0)), none⟩,
  ⟨some 69, .mv (.t 68), none⟩,
  ⟨some 70, .mv (.t 0), some (2, false)⟩,
  ⟨some 71, .mv (.t 5), some (2, false)⟩,
  ⟨some 72, .ixa 7 (.t 70) (.t 71), some (2, false)⟩,
  ⟨some 73, .fa 0 (.t 72), some (2, false)⟩,
  ⟨some 74, .load (.t 73), some (2, false)⟩,
  ⟨some 75, .fa 1 (.t 3), some (2, false)⟩,
  ⟨some 76, .load (.t 75), some (2, false)⟩,
  ⟨some 77, .bin .eql (.t 74) (.t 76), some (2, false)⟩,
  ⟨some 78, .mv (.t 77), some (2, false)⟩,
  ⟨some 79, .mv (.t 0), some (11, true)⟩,
  ⟨some 80, .mv (.t 5), some (11, true)⟩,
  ⟨some 81, .ixa 7 (.t 79) (.t 80), some (11, true)⟩,
  ⟨some 82, .fa 4 (.t 81), some (11, true)⟩,
  ⟨some 83, .load (.t 82), some (11, true)⟩,
  ⟨some 84, .pick (.t 78) (.t 83) (.c (.bool false)), some (2, false)⟩,
  ⟨some 85, .mv (.t 84), some (2, false)⟩,
  ⟨some 86, .mv (.t 0), some (18, true)⟩,
  ⟨some 87, .mv (.t 5), some (18, true)⟩,
  ⟨some 88, .ixa 7 (.t 86) (.t 87), some (18, true)⟩,
  ⟨some 89, .fa 3 (.t 88), some (18, true)⟩,
  ⟨some 90, .load (.t 89), some (18, true)⟩,
  ⟨some 91, .bin .neq (.t 90) (.c (.int .i64 0)), some (18, true)⟩,
  ⟨some 92, .pick (.t 85) (.t 91) (.c (.bool false)), some (2, false)⟩,
  ⟨some 93, .pick (.t 69) (.c (.bool true)) (.t 92), none⟩,
  ⟨some 94, .mv (.t 93), none⟩,
  ⟨some 95, .callc 21 [], some (27, true)⟩,
  ⟨some 96, .pick (.t 94) (.t 95) (.c (.bool false)), none⟩,
  ⟨some 4, .mv (.t 96), none⟩] env H none [] Q := w_dreg0
def F_law10_SymsFirstc : ICode := (.seq (.reg F_law10_SymsFirstr0) (.seq (.seq (.reg F_law10_SymsFirstr1) (.cond (.t 10) (.seq (.reg F_law10_SymsFirstr2) .ret) .skip)) (.seq (.reg F_law10_SymsFirstr3) (.seq (.seq (.reg F_law10_SymsFirstr4) (.cond (.t 26) (.seq (.reg F_law10_SymsFirstr5) .ret) .skip)) (.seq (.seq (.reg F_law10_SymsFirstr6) (.block 0 (.loop F_law10_SymsFirstl0))) (.seq (.dreg F_law10_SymsFirstr12 []) .ret))))))
theorem F_law10_SymsFirstc_W {T : Tab} {env : Env} {H : Heap} {Q : Post} : W T F_law10_SymsFirstc env H Q ↔ W T (.seq (.reg F_law10_SymsFirstr0) (.seq (.seq (.reg F_law10_SymsFirstr1) (.cond (.t 10) (.seq (.reg F_law10_SymsFirstr2) .ret) .skip)) (.seq (.reg F_law10_SymsFirstr3) (.seq (.seq (.reg F_law10_SymsFirstr4) (.cond (.t 26) (.seq (.reg F_law10_SymsFirstr5) .ret) .skip)) (.seq (.seq (.reg F_law10_SymsFirstr6) (.block 0 (.loop F_law10_SymsFirstl0))) (.seq (.dreg F_law10_SymsFirstr12 []) .ret)))))) env H Q := Iff.rfl
def F_law10_SymsFirst : IFn := ⟨97, [.tmp 4], F_law10_SymsFirstc⟩
set_option maxRecDepth 1000000 in
theorem F_law10_SymsFirst_chk : chkF Try.prog 5 F_law10_SymsFirst = true := by kernel_rfl

/-! ### law10_SymsHad -/
def F_law10_SymsHadr0 : List IStmt := [
  ⟨some 4, .mv (.c (.bool false)), none⟩]
theorem F_law10_SymsHadr0_W {T : Tab} {env : Env} {H : Heap} {Q : Post} : W T (.reg F_law10_SymsHadr0) env H Q ↔ WR T F_law10_SymsHadr0 [
  ⟨some 4, .mv (.c (.bool false)), none⟩] env H none [] Q := w_reg
def F_law10_SymsHadr1 : List IStmt := [
  ⟨some 10, .mv (.t 0), none⟩,
  ⟨some 11, .len 1 (.t 10), none⟩,
  ⟨some 12, .bin .gtr (.t 11) (.c (.int .i64 500)), none⟩]
theorem F_law10_SymsHadr1_W {T : Tab} {env : Env} {H : Heap} {Q : Post} : W T (.reg F_law10_SymsHadr1) env H Q ↔ WR T F_law10_SymsHadr1 [
  ⟨some 10, .mv (.t 0), none⟩,
  ⟨some 11, .len 1 (.t 10), none⟩,
  ⟨some 12, .bin .gtr (.t 11) (.c (.int .i64 500)), none⟩] env H none [] Q := w_reg
def F_law10_SymsHadr2 : List IStmt := [
  ⟨some 4, .mv (.c (.bool true)), none⟩]
theorem F_law10_SymsHadr2_W {T : Tab} {env : Env} {H : Heap} {Q : Post} : W T (.reg F_law10_SymsHadr2) env H Q ↔ WR T F_law10_SymsHadr2 [
  ⟨some 4, .mv (.c (.bool true)), none⟩] env H none [] Q := w_reg
def F_law10_SymsHadr3 : List IStmt := [
  ⟨some 13, .mv (.t 0), none⟩,
  ⟨some 14, .mv (.t 1), none⟩,
  ⟨some 15, .call 28 [(.t 13), (.t 14)], none⟩,
  ⟨some 5, .mv (.t 15), none⟩]
theorem F_law10_SymsHadr3_W {T : Tab} {env : Env} {H : Heap} {Q : Post} : W T (.reg F_law10_SymsHadr3) env H Q ↔ WR T F_law10_SymsHadr3 [
  ⟨some 13, .mv (.t 0), none⟩,
  ⟨some 14, .mv (.t 1), none⟩,
  ⟨some 15, .call 28 [(.t 13), (.t 14)], none⟩,
  ⟨some 5, .mv (.t 15), none⟩] env H none [] Q := w_reg
def F_law10_SymsHadr4 : List IStmt := [
  ⟨some 16, .mv (.t 5), none⟩,
  ⟨some 17, .eqn 0 false (.t 16) (.c (.pointer none)), none⟩]
theorem F_law10_SymsHadr4_W {T : Tab} {env : Env} {H : Heap} {Q : Post} : W T (.reg F_law10_SymsHadr4) env H Q ↔ WR T F_law10_SymsHadr4 [
  ⟨some 16, .mv (.t 5), none⟩,
  ⟨some 17, .eqn 0 false (.t 16) (.c (.pointer none)), none⟩] env H none [] Q := w_reg
def F_law10_SymsHadr5 : List IStmt := [
  ⟨some 4, .mv (.c (.bool false)), none⟩]
theorem F_law10_SymsHadr5_W {T : Tab} {env : Env} {H : Heap} {Q : Post} : W T (.reg F_law10_SymsHadr5) env H Q ↔ WR T F_law10_SymsHadr5 [
  ⟨some 4, .mv (.c (.bool false)), none⟩] env H none [] Q := w_reg
def F_law10_SymsHadr6 : List IStmt := [
  ⟨some 6, .mv (.c (.int .i64 0)), none⟩]
theorem F_law10_SymsHadr6_W {T : Tab} {env : Env} {H : Heap} {Q : Post} : W T (.reg F_law10_SymsHadr6) env H Q ↔ WR T F_law10_SymsHadr6 [
  ⟨some 6, .mv (.c (.int .i64 0)), none⟩] env H none [] Q := w_reg
def F_law10_SymsHadr7 : List IStmt := [
  ⟨some 18, .mv (.t 6), none⟩,
  ⟨some 19, .mv (.t 0), none⟩,
  ⟨some 20, .len 1 (.t 19), none⟩,
  ⟨some 21, .bin .lss (.t 18) (.t 20), none⟩]
theorem F_law10_SymsHadr7_W {T : Tab} {env : Env} {H : Heap} {Q : Post} : W T (.reg F_law10_SymsHadr7) env H Q ↔ WR T F_law10_SymsHadr7 [
  ⟨some 18, .mv (.t 6), none⟩,
  ⟨some 19, .mv (.t 0), none⟩,
  ⟨some 20, .len 1 (.t 19), none⟩,
  ⟨some 21, .bin .lss (.t 18) (.t 20), none⟩] env H none [] Q := w_reg
def F_law10_SymsHadr9 : List IStmt := [
  ⟨some 24, .mv (.t 0), none⟩,
  ⟨some 25, .mv (.t 6), none⟩,
  ⟨some 26, .ixa 7 (.t 24) (.t 25), none⟩,
  ⟨some 27, .loadN 7 (.t 26), none⟩,
  ⟨some 7, .alloc 7 [.string ⟨#[]⟩, .string ⟨#[]⟩, .bool false, .int .i64 0, .bool false, .int .u64 0, .int .u64 0], none⟩,
  ⟨none, .store 7 (.t 7) (.t 27), none⟩]
theorem F_law10_SymsHadr9_W {T : Tab} {env : Env} {H : Heap} {Q : Post} : W T (.reg F_law10_SymsHadr9) env H Q ↔ WR T F_law10_SymsHadr9 [
  ⟨some 24, .mv (.t 0), none⟩,
  ⟨some 25, .mv (.t 6), none⟩,
  ⟨some 26, .ixa 7 (.t 24) (.t 25), none⟩,
  ⟨some 27, .loadN 7 (.t 26), none⟩,
  ⟨some 7, .alloc 7 [.string ⟨#[]⟩, .string ⟨#[]⟩, .bool false, .int .i64 0, .bool false, .int .u64 0, .int .u64 0], none⟩,
  ⟨none, .store 7 (.t 7) (.t 27), none⟩] env H none [] Q := w_reg
def F_law10_SymsHadr10 : List IStmt := [
  ⟨some 28, .loadN 7 (.t 7), none⟩,
  ⟨some 29, .callc 33 [(.t 28)], none⟩,
  ⟨some 30, .un .not (.t 29), none⟩]
theorem F_law10_SymsHadr10_W {T : Tab} {env : Env} {H : Heap} {Q : Post} : W T (.reg F_law10_SymsHadr10) env H Q ↔ WR T F_law10_SymsHadr10 [
  ⟨some 28, .loadN 7 (.t 7), none⟩,
  ⟨some 29, .callc 33 [(.t 28)], none⟩,
  ⟨some 30, .un .not (.t 29), none⟩] env H none [] Q := w_reg
def F_law10_SymsHadr11 : List IStmt := [
  ⟨some 31, .mv (.t 5), none⟩,
  ⟨some 32, .fa 0 (.t 7), none⟩,
  ⟨some 33, .load (.t 32), none⟩,
  ⟨some 34, .fa 1 (.t 7), none⟩,
  ⟨some 35, .load (.t 34), none⟩,
  ⟨some 36, .call 30 [(.t 31), (.t 33), (.t 35)], none⟩,
  ⟨some 8, .mv (.t 36), none⟩]
theorem F_law10_SymsHadr11_W {T : Tab} {env : Env} {H : Heap} {Q : Post} : W T (.reg F_law10_SymsHadr11) env H Q ↔ WR T F_law10_SymsHadr11 [
  ⟨some 31, .mv (.t 5), none⟩,
  ⟨some 32, .fa 0 (.t 7), none⟩,
  ⟨some 33, .load (.t 32), none⟩,
  ⟨some 34, .fa 1 (.t 7), none⟩,
  ⟨some 35, .load (.t 34), none⟩,
  ⟨some 36, .call 30 [(.t 31), (.t 33), (.t 35)], none⟩,
  ⟨some 8, .mv (.t 36), none⟩] env H none [] Q := w_reg
def F_law10_SymsHadr12 : List IStmt := [
  ⟨some 37, .fa 1 (.t 7), none⟩,
  ⟨some 38, .load (.t 37), none⟩,
  ⟨some 39, .bin .neq (.t 38) (.c (.string ⟨#[]⟩)), none⟩,
  ⟨some 40, .mv (.t 39), none⟩,
  ⟨some 41, .mv (.t 8), some (3, true)⟩,
  ⟨some 42, .bin .lss (.t 41) (.c (.int .i64 0)), some (3, true)⟩,
  ⟨some 43, .mv (.t 42), some (3, true)⟩,
  ⟨some 44, .mv (.t 8), some (6, false)⟩,
  ⟨some 45, .mv (.t 6), some (6, false)⟩,
  ⟨some 46, .bin .gtr (.t 44) (.t 45), some (6, false)⟩,
  ⟨some 47, .pick (.t 43) (.c (.bool true)) (.t 46), some (3, true)⟩,
  ⟨some 48, .pick (.t 40) (.t 47) (.c (.bool false)), none⟩]
theorem F_law10_SymsHadr12_W {T : Tab} {env : Env} {H : Heap} {Q : Post} : W T (.reg F_law10_SymsHadr12) env H Q ↔ WR T F_law10_SymsHadr12 [
  ⟨some 37, .fa 1 (.t 7), none⟩,
  ⟨some 38, .load (.t 37), none⟩,
  ⟨some 39, .bin .neq (.t 38) (.c (.string ⟨#[]⟩)), none⟩,
  ⟨some 40, .mv (.t 39), none⟩,
  ⟨some 41, .mv (.t 8), some (3, true)⟩,
  ⟨some 42, .bin .lss (.t 41) (.c (.int .i64 0)), some (3, true)⟩,
  ⟨some 43, .mv (.t 42), some (3, true)⟩,
  ⟨some 44, .mv (.t 8), some (6, false)⟩,
  ⟨some 45, .mv (.t 6), some (6, false)⟩,
  ⟨some 46, .bin .gtr (.t 44) (.t 45), some (6, false)⟩,
  ⟨some 47, .pick (.t 43) (.c (.bool true)) (.t 46), some (3, true)⟩,
  ⟨some 48, .pick (.t 40) (.t 47) (.c (.bool false)), none⟩] env H none [] Q := w_reg
theorem F_law10_SymsHadr12_g3 {env : Env} : yieldI F_law10_SymsHadr12 env 3 = bOf (env 40) := rfl
theorem F_law10_SymsHadr12_g6 {env : Env} : yieldI F_law10_SymsHadr12 env 6 = bOf (env 43) := rfl
def F_law10_SymsHadr13 : List IStmt := [
  ⟨some 4, .mv (.c (.bool false)), none⟩]
theorem F_law10_SymsHadr13_W {T : Tab} {env : Env} {H : Heap} {Q : Post} : W T (.reg F_law10_SymsHadr13) env H Q ↔ WR T F_law10_SymsHadr13 [
  ⟨some 4, .mv (.c (.bool false)), none⟩] env H none [] Q := w_reg
def F_law10_SymsHadr14 : List IStmt := [
  ⟨some 49, .mv (.t 5), none⟩,
  ⟨some 50, .fa 0 (.t 7), none⟩,
  ⟨some 51, .load (.t 50), none⟩,
  ⟨some 52, .call 30 [(.t 49), (.t 51), (.c (.string ⟨#[]⟩))], none⟩,
  ⟨some 9, .mv (.t 52), none⟩]
theorem F_law10_SymsHadr14_W {T : Tab} {env : Env} {H : Heap} {Q : Post} : W T (.reg F_law10_SymsHadr14) env H Q ↔ WR T F_law10_SymsHadr14 [
  ⟨some 49, .mv (.t 5), none⟩,
  ⟨some 50, .fa 0 (.t 7), none⟩,
  ⟨some 51, .load (.t 50), none⟩,
  ⟨some 52, .call 30 [(.t 49), (.t 51), (.c (.string ⟨#[]⟩))], none⟩,
  ⟨some 9, .mv (.t 52), none⟩] env H none [] Q := w_reg
def F_law10_SymsHadr15 : List IStmt := [
  ⟨some 53, .fa 2 (.t 7), none⟩,
  ⟨some 54, .load (.t 53), none⟩,
  ⟨some 55, .un .not (.t 54), none⟩,
  ⟨some 56, .mv (.t 55), none⟩,
  ⟨some 57, .mv (.t 9), some (3, true)⟩,
  ⟨some 58, .bin .lss (.t 57) (.c (.int .i64 0)), some (3, true)⟩,
  ⟨some 59, .mv (.t 58), some (3, true)⟩,
  ⟨some 60, .mv (.t 9), some (6, false)⟩,
  ⟨some 61, .mv (.t 6), some (6, false)⟩,
  ⟨some 62, .bin .gtr (.t 60) (.t 61), some (6, false)⟩,
  ⟨some 63, .pick (.t 59) (.c (.bool true)) (.t 62), some (3, true)⟩,
  ⟨some 64, .pick (.t 56) (.t 63) (.c (.bool false)), none⟩]
theorem F_law10_SymsHadr15_W {T : Tab} {env : Env} {H : Heap} {Q : Post} : W T (.reg F_law10_SymsHadr15) env H Q ↔ WR T F_law10_SymsHadr15 [
  ⟨some 53, .fa 2 (.t 7), none⟩,
  ⟨some 54, .load (.t 53), none⟩,
  ⟨some 55, .un .not (.t 54), none⟩,
  ⟨some 56, .mv (.t 55), none⟩,
  ⟨some 57, .mv (.t 9), some (3, true)⟩,
  ⟨some 58, .bin .lss (.t 57) (.c (.int .i64 0)), some (3, true)⟩,
  ⟨some 59, .mv (.t 58), some (3, true)⟩,
  ⟨some 60, .mv (.t 9), some (6, false)⟩,
  ⟨some 61, .mv (.t 6), some (6, false)⟩,
  ⟨some 62, .bin .gtr (.t 60) (.t 61), some (6, false)⟩,
  ⟨some 63, .pick (.t 59) (.c (.bool true)) (.t 62), some (3, true)⟩,
  ⟨some 64, .pick (.t 56) (.t 63) (.c (.bool false)), none⟩] env H none [] Q := w_reg
theorem F_law10_SymsHadr15_g3 {env : Env} : yieldI F_law10_SymsHadr15 env 3 = bOf (env 56) := rfl
theorem F_law10_SymsHadr15_g6 {env : Env} : yieldI F_law10_SymsHadr15 env 6 = bOf (env 59) := rfl
def F_law10_SymsHadr16 : List IStmt := [
  ⟨some 4, .mv (.c (.bool false)), none⟩]
theorem F_law10_SymsHadr16_W {T : Tab} {env : Env} {H : Heap} {Q : Post} : W T (.reg F_law10_SymsHadr16) env H Q ↔ WR T F_law10_SymsHadr16 [
  ⟨some 4, .mv (.c (.bool false)), none⟩] env H none [] Q := w_reg
def F_law10_SymsHadr8 : List IStmt := [
  ⟨some 22, .mv (.t 6), none⟩,
  ⟨some 23, .bin .add (.t 22) (.c (.int .i64 1)), none⟩,
  ⟨some 6, .mv (.t 23), none⟩]
theorem F_law10_SymsHadr8_W {T : Tab} {env : Env} {H : Heap} {Q : Post} : W T (.reg F_law10_SymsHadr8) env H Q ↔ WR T F_law10_SymsHadr8 [
  ⟨some 22, .mv (.t 6), none⟩,
  ⟨some 23, .bin .add (.t 22) (.c (.int .i64 1)), none⟩,
  ⟨some 6, .mv (.t 23), none⟩] env H none [] Q := w_reg
def F_law10_SymsHadl0 : ICode := (.seq (.seq (.reg F_law10_SymsHadr7) (.cond (.t 21) .skip (.exit 0))) (.seq (.block 1 (.seq (.reg F_law10_SymsHadr9) (.seq (.seq (.reg F_law10_SymsHadr10) (.cond (.t 30) (.exit 1) .skip)) (.seq (.reg F_law10_SymsHadr11) (.seq (.seq (.reg F_law10_SymsHadr12) (.cond (.t 48) (.seq (.reg F_law10_SymsHadr13) .ret) .skip)) (.seq (.reg F_law10_SymsHadr14) (.seq (.reg F_law10_SymsHadr15) (.cond (.t 64) (.seq (.reg F_law10_SymsHadr16) .ret) .skip)))))))) (.reg F_law10_SymsHadr8)))
theorem F_law10_SymsHadl0_W {T : Tab} {env : Env} {H : Heap} {Q : Post} : W T F_law10_SymsHadl0 env H Q ↔ W T (.seq (.seq (.reg F_law10_SymsHadr7) (.cond (.t 21) .skip (.exit 0))) (.seq (.block 1 (.seq (.reg F_law10_SymsHadr9) (.seq (.seq (.reg F_law10_SymsHadr10) (.cond (.t 30) (.exit 1) .skip)) (.seq (.reg F_law10_SymsHadr11) (.seq (.seq (.reg F_law10_SymsHadr12) (.cond (.t 48) (.seq (.reg F_law10_SymsHadr13) .ret) .skip)) (.seq (.reg F_law10_SymsHadr14) (.seq (.reg F_law10_SymsHadr15) (.cond (.t 64) (.seq (.reg F_law10_SymsHadr16) .ret) .skip)))))))) (.reg F_law10_SymsHadr8))) env H Q := Iff.rfl
def F_law10_SymsHadr17 : List IStmt := [
  ⟨some 65, .callc 21 [], none⟩,
  ⟨some 4, .mv (.t 65), none⟩]
theorem F_law10_SymsHadr17_W {T : Tab} {env : Env} {H : Heap} {Q : Post} : W T (.reg F_law10_SymsHadr17) env H Q ↔ WR T F_law10_SymsHadr17 [
  ⟨some 65, .callc 21 [], none⟩,
  ⟨some 4, .mv (.t 65), none⟩] env H none [] Q := w_reg
def F_law10_SymsHadc : ICode := (.seq (.reg F_law10_SymsHadr0) (.seq (.seq (.reg F_law10_SymsHadr1) (.cond (.t 12) (.seq (.reg F_law10_SymsHadr2) .ret) .skip)) (.seq (.reg F_law10_SymsHadr3) (.seq (.seq (.reg F_law10_SymsHadr4) (.cond (.t 17) (.seq (.reg F_law10_SymsHadr5) .ret) .skip)) (.seq (.seq (.reg F_law10_SymsHadr6) (.block 0 (.loop F_law10_SymsHadl0))) (.seq (.reg F_law10_SymsHadr17) .ret))))))
theorem F_law10_SymsHadc_W {T : Tab} {env : Env} {H : Heap} {Q : Post} : W T F_law10_SymsHadc env H Q ↔ W T (.seq (.reg F_law10_SymsHadr0) (.seq (.seq (.reg F_law10_SymsHadr1) (.cond (.t 12) (.seq (.reg F_law10_SymsHadr2) .ret) .skip)) (.seq (.reg F_law10_SymsHadr3) (.seq (.seq (.reg F_law10_SymsHadr4) (.cond (.t 17) (.seq (.reg F_law10_SymsHadr5) .ret) .skip)) (.seq (.seq (.reg F_law10_SymsHadr6) (.block 0 (.loop F_law10_SymsHadl0))) (.seq (.reg F_law10_SymsHadr17) .ret)))))) env H Q := Iff.rfl
def F_law10_SymsHad : IFn := ⟨66, [.tmp 4], F_law10_SymsHadc⟩
set_option maxRecDepth 1000000 in
theorem F_law10_SymsHad_chk : chkF Try.prog 9 F_law10_SymsHad = true := by kernel_rfl

/-- The functions, by number. -/
def TSyms_l : List (Nat × IFn) := [(17, F_syms_Sysv), (19, F_syms_Gnu), (22, F_syms_Find), (28, F_syms_NewIndex), (30, F_syms_Index_Find), (31, F_syms_Near), (33, F_syms_Exported), (18, F_ref10_Sysv), (20, F_ref10_Gnu), (29, F_ref10_Find), (32, F_ref10_Near), (34, F_ref10_Had), (21, F_law10_alive), (4, F_law10_SymsSums), (8, F_law10_SymsFinds), (5, F_law10_SymsFirst), (9, F_law10_SymsHad)]
def TSyms : Tab := tabOf TSyms_l
theorem TSyms_chk : ∀ p ∈ TSyms_l, chkF Try.prog p.1 p.2 = true := by
  intro p hp
  simp only [TSyms_l, List.mem_cons, List.not_mem_nil, or_false] at hp
  rcases hp with rfl | rfl | rfl | rfl | rfl | rfl | rfl | rfl | rfl | rfl | rfl | rfl | rfl | rfl | rfl | rfl | rfl
  · exact F_syms_Sysv_chk
  · exact F_syms_Gnu_chk
  · exact F_syms_Find_chk
  · exact F_syms_NewIndex_chk
  · exact F_syms_Index_Find_chk
  · exact F_syms_Near_chk
  · exact F_syms_Exported_chk
  · exact F_ref10_Sysv_chk
  · exact F_ref10_Gnu_chk
  · exact F_ref10_Find_chk
  · exact F_ref10_Near_chk
  · exact F_ref10_Had_chk
  · exact F_law10_alive_chk
  · exact F_law10_SymsSums_chk
  · exact F_law10_SymsFinds_chk
  · exact F_law10_SymsFirst_chk
  · exact F_law10_SymsHad_chk
theorem TSyms_good : Good Try.prog TSyms := good_tab (by kernel_rfl) TSyms_chk

end Go.Proofs.Ytkhojkdcejmgpaa
