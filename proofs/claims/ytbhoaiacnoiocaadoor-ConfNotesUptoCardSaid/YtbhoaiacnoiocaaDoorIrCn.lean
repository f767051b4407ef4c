/- The small language's text of functions of the given program, and the check that it stands for them. Printed by a program. -/
import Derived.Test.YtbhoaiacnoiocaaDoorFwC
import Derived.Test.YtbhoaiacnoiocaaDoorChecked
import Derived.Test.YtbhoaiacnoiocaaDoorIrCf
import Derived.Test.YtbhoaiacnoiocaaDoorCfNat
import Derived.KernelRfl
namespace Go.Proofs.YtbhoaiacnoiocaaDoor
open Go Fw

/-! ### ref04_Split -/
def F_ref04_Splitr0 : List IStmt := [
  ⟨some 4, .mv (.c (.slice none 0 0)), none⟩]
theorem F_ref04_Splitr0_W {T : Tab} {env : Env} {H : Heap} {Q : Post} : W T (.reg F_ref04_Splitr0) env H Q ↔ WR T F_ref04_Splitr0 [
  ⟨some 4, .mv (.c (.slice none 0 0)), none⟩] env H none [] Q := w_reg
def F_ref04_Splitr1 : List IStmt := [
  ⟨some 5, .mv (.c (.slice none 0 0)), none⟩]
theorem F_ref04_Splitr1_W {T : Tab} {env : Env} {H : Heap} {Q : Post} : W T (.reg F_ref04_Splitr1) env H Q ↔ WR T F_ref04_Splitr1 [
  ⟨some 5, .mv (.c (.slice none 0 0)), none⟩] env H none [] Q := w_reg
def F_ref04_Splitr2 : List IStmt := [
  ⟨some 6, .mv (.c (.int .i64 0)), none⟩]
theorem F_ref04_Splitr2_W {T : Tab} {env : Env} {H : Heap} {Q : Post} : W T (.reg F_ref04_Splitr2) env H Q ↔ WR T F_ref04_Splitr2 [
  ⟨some 6, .mv (.c (.int .i64 0)), none⟩] env H none [] Q := w_reg
def F_ref04_Splitr3 : List IStmt := [
  ⟨some 7, .mv (.c (.int .i64 0)), none⟩]
theorem F_ref04_Splitr3_W {T : Tab} {env : Env} {H : Heap} {Q : Post} : W T (.reg F_ref04_Splitr3) env H Q ↔ WR T F_ref04_Splitr3 [
  ⟨some 7, .mv (.c (.int .i64 0)), none⟩] env H none [] Q := w_reg
def F_ref04_Splitr4 : List IStmt := [
  ⟨some 8, .mv (.t 7), none⟩,
  ⟨some 9, .mv (.t 0), none⟩,
  ⟨some 10, .len 0 (.t 9), none⟩,
  ⟨some 11, .bin .leq (.t 8) (.t 10), none⟩]
theorem F_ref04_Splitr4_W {T : Tab} {env : Env} {H : Heap} {Q : Post} : W T (.reg F_ref04_Splitr4) env H Q ↔ WR T F_ref04_Splitr4 [
  ⟨some 8, .mv (.t 7), none⟩,
  ⟨some 9, .mv (.t 0), none⟩,
  ⟨some 10, .len 0 (.t 9), none⟩,
  ⟨some 11, .bin .leq (.t 8) (.t 10), none⟩] env H none [] Q := w_reg
def F_ref04_Splitr6 : List IStmt := [
  ⟨some 14, .mv (.t 7), none⟩,
  ⟨some 15, .mv (.t 0), none⟩,
  ⟨some 16, .len 0 (.t 15), none⟩,
  ⟨some 17, .bin .eql (.t 14) (.t 16), none⟩,
  ⟨some 18, .mv (.t 17), none⟩,
  ⟨some 19, .mv (.t 0), some (4, false)⟩,
  ⟨some 20, .mv (.t 7), some (4, false)⟩,
  ⟨some 21, .ixs (.t 19) (.t 20), some (4, false)⟩,
  ⟨some 22, .mv (.t 1), some (4, false)⟩,
  ⟨some 23, .bin .eql (.t 21) (.t 22), some (4, false)⟩,
  ⟨some 24, .pick (.t 18) (.c (.bool true)) (.t 23), none⟩]
theorem F_ref04_Splitr6_W {T : Tab} {env : Env} {H : Heap} {Q : Post} : W T (.reg F_ref04_Splitr6) env H Q ↔ WR T F_ref04_Splitr6 [
  ⟨some 14, .mv (.t 7), none⟩,
  ⟨some 15, .mv (.t 0), none⟩,
  ⟨some 16, .len 0 (.t 15), none⟩,
  ⟨some 17, .bin .eql (.t 14) (.t 16), none⟩,
  ⟨some 18, .mv (.t 17), none⟩,
  ⟨some 19, .mv (.t 0), some (4, false)⟩,
  ⟨some 20, .mv (.t 7), some (4, false)⟩,
  ⟨some 21, .ixs (.t 19) (.t 20), some (4, false)⟩,
  ⟨some 22, .mv (.t 1), some (4, false)⟩,
  ⟨some 23, .bin .eql (.t 21) (.t 22), some (4, false)⟩,
  ⟨some 24, .pick (.t 18) (.c (.bool true)) (.t 23), none⟩] env H none [] Q := w_reg
theorem F_ref04_Splitr6_g4 {env : Env} : yieldI F_ref04_Splitr6 env 4 = bOf (env 18) := rfl
def F_ref04_Splitr7 : List IStmt := [
  ⟨some 25, .mv (.t 5), none⟩,
  ⟨some 26, .mv (.t 0), none⟩,
  ⟨some 27, .mv (.t 6), none⟩,
  ⟨some 28, .mv (.t 7), none⟩,
  ⟨some 29, .sls (.t 26) (some (.t 27)) (some (.t 28)), none⟩,
  ⟨some 30, .bsli 1 1 [.string ⟨#[]⟩] [(0, (.t 29))], none⟩,
  ⟨some 31, .app 1 16 (.t 25) (.t 30), none⟩,
  ⟨some 5, .mv (.t 31), none⟩]
theorem F_ref04_Splitr7_W {T : Tab} {env : Env} {H : Heap} {Q : Post} : W T (.reg F_ref04_Splitr7) env H Q ↔ WR T F_ref04_Splitr7 [
  ⟨some 25, .mv (.t 5), none⟩,
  ⟨some 26, .mv (.t 0), none⟩,
  ⟨some 27, .mv (.t 6), none⟩,
  ⟨some 28, .mv (.t 7), none⟩,
  ⟨some 29, .sls (.t 26) (some (.t 27)) (some (.t 28)), none⟩,
  ⟨some 30, .bsli 1 1 [.string ⟨#[]⟩] [(0, (.t 29))], none⟩,
  ⟨some 31, .app 1 16 (.t 25) (.t 30), none⟩,
  ⟨some 5, .mv (.t 31), none⟩] env H none [] Q := w_reg
def F_ref04_Splitr8 : List IStmt := [
  ⟨some 32, .mv (.t 7), none⟩,
  ⟨some 33, .bin .add (.t 32) (.c (.int .i64 1)), none⟩,
  ⟨some 6, .mv (.t 33), none⟩]
theorem F_ref04_Splitr8_W {T : Tab} {env : Env} {H : Heap} {Q : Post} : W T (.reg F_ref04_Splitr8) env H Q ↔ WR T F_ref04_Splitr8 [
  ⟨some 32, .mv (.t 7), none⟩,
  ⟨some 33, .bin .add (.t 32) (.c (.int .i64 1)), none⟩,
  ⟨some 6, .mv (.t 33), none⟩] env H none [] Q := w_reg
def F_ref04_Splitr5 : List IStmt := [
  ⟨some 12, .mv (.t 7), none⟩,
  ⟨some 13, .bin .add (.t 12) (.c (.int .i64 1)), none⟩,
  ⟨some 7, .mv (.t 13), none⟩]
theorem F_ref04_Splitr5_W {T : Tab} {env : Env} {H : Heap} {Q : Post} : W T (.reg F_ref04_Splitr5) env H Q ↔ WR T F_ref04_Splitr5 [
  ⟨some 12, .mv (.t 7), none⟩,
  ⟨some 13, .bin .add (.t 12) (.c (.int .i64 1)), none⟩,
  ⟨some 7, .mv (.t 13), none⟩] env H none [] Q := w_reg
def F_ref04_Splitl0 : ICode := (.seq (.seq (.reg F_ref04_Splitr4) (.cond (.t 11) .skip (.exit 0))) (.seq (.block 1 (.seq (.reg F_ref04_Splitr6) (.cond (.t 24) (.seq (.reg F_ref04_Splitr7) (.reg F_ref04_Splitr8)) .skip))) (.reg F_ref04_Splitr5)))
theorem F_ref04_Splitl0_W {T : Tab} {env : Env} {H : Heap} {Q : Post} : W T F_ref04_Splitl0 env H Q ↔ W T (.seq (.seq (.reg F_ref04_Splitr4) (.cond (.t 11) .skip (.exit 0))) (.seq (.block 1 (.seq (.reg F_ref04_Splitr6) (.cond (.t 24) (.seq (.reg F_ref04_Splitr7) (.reg F_ref04_Splitr8)) .skip))) (.reg F_ref04_Splitr5))) env H Q := Iff.rfl
def F_ref04_Splitr9 : List IStmt := [
  ⟨some 34, .mv (.t 5), none⟩,
  ⟨some 4, .mv (.t 34), none⟩]
theorem F_ref04_Splitr9_W {T : Tab} {env : Env} {H : Heap} {Q : Post} : W T (.reg F_ref04_Splitr9) env H Q ↔ WR T F_ref04_Splitr9 [
  ⟨some 34, .mv (.t 5), none⟩,
  ⟨some 4, .mv (.t 34), none⟩] env H none [] Q := w_reg
def F_ref04_Splitc : ICode := (.seq (.reg F_ref04_Splitr0) (.seq (.reg F_ref04_Splitr1) (.seq (.reg F_ref04_Splitr2) (.seq (.seq (.reg F_ref04_Splitr3) (.block 0 (.loop F_ref04_Splitl0))) (.seq (.reg F_ref04_Splitr9) .ret)))))
theorem F_ref04_Splitc_W {T : Tab} {env : Env} {H : Heap} {Q : Post} : W T F_ref04_Splitc env H Q ↔ W T (.seq (.reg F_ref04_Splitr0) (.seq (.reg F_ref04_Splitr1) (.seq (.reg F_ref04_Splitr2) (.seq (.seq (.reg F_ref04_Splitr3) (.block 0 (.loop F_ref04_Splitl0))) (.seq (.reg F_ref04_Splitr9) .ret))))) env H Q := Iff.rfl
def F_ref04_Split : IFn := ⟨35, [.tmp 4], F_ref04_Splitc⟩
set_option maxRecDepth 1000000 in
theorem F_ref04_Split_chk : chkF Tryd.prog 11 F_ref04_Split = true := by kernel_rfl

/-! ### law18_ConfNotes -/
def F_law18_ConfNotesr0 : List IStmt := [
  ⟨some 4, .mv (.c (.bool false)), none⟩]
theorem F_law18_ConfNotesr0_W {T : Tab} {env : Env} {H : Heap} {Q : Post} : W T (.reg F_law18_ConfNotesr0) env H Q ↔ WR T F_law18_ConfNotesr0 [
  ⟨some 4, .mv (.c (.bool false)), none⟩] env H none [] Q := w_reg
def F_law18_ConfNotesr1 : List IStmt := [
  ⟨some 18, .mv (.t 0), none⟩,
  ⟨some 19, .callc 11 [(.t 18), (.c (.int .u8 10))], none⟩,
  ⟨some 5, .mv (.t 19), none⟩]
theorem F_law18_ConfNotesr1_W {T : Tab} {env : Env} {H : Heap} {Q : Post} : W T (.reg F_law18_ConfNotesr1) env H Q ↔ WR T F_law18_ConfNotesr1 [
  ⟨some 18, .mv (.t 0), none⟩,
  ⟨some 19, .callc 11 [(.t 18), (.c (.int .u8 10))], none⟩,
  ⟨some 5, .mv (.t 19), none⟩] env H none [] Q := w_reg
def F_law18_ConfNotesr2 : List IStmt := [
  ⟨some 20, .mv (.t 0), none⟩,
  ⟨some 21, .len 0 (.t 20), none⟩,
  ⟨some 22, .bin .gtr (.t 21) (.c (.int .i64 4000)), none⟩,
  ⟨some 23, .mv (.t 22), none⟩,
  ⟨some 24, .mv (.t 5), some (3, false)⟩,
  ⟨some 25, .len 1 (.t 24), some (3, false)⟩,
  ⟨some 26, .bin .gtr (.t 25) (.c (.int .i64 100)), some (3, false)⟩,
  ⟨some 27, .pick (.t 23) (.c (.bool true)) (.t 26), none⟩]
theorem F_law18_ConfNotesr2_W {T : Tab} {env : Env} {H : Heap} {Q : Post} : W T (.reg F_law18_ConfNotesr2) env H Q ↔ WR T F_law18_ConfNotesr2 [
  ⟨some 20, .mv (.t 0), none⟩,
  ⟨some 21, .len 0 (.t 20), none⟩,
  ⟨some 22, .bin .gtr (.t 21) (.c (.int .i64 4000)), none⟩,
  ⟨some 23, .mv (.t 22), none⟩,
  ⟨some 24, .mv (.t 5), some (3, false)⟩,
  ⟨some 25, .len 1 (.t 24), some (3, false)⟩,
  ⟨some 26, .bin .gtr (.t 25) (.c (.int .i64 100)), some (3, false)⟩,
  ⟨some 27, .pick (.t 23) (.c (.bool true)) (.t 26), none⟩] env H none [] Q := w_reg
theorem F_law18_ConfNotesr2_g3 {env : Env} : yieldI F_law18_ConfNotesr2 env 3 = bOf (env 23) := rfl
def F_law18_ConfNotesr3 : List IStmt := [
  ⟨some 4, .mv (.c (.bool true)), none⟩]
theorem F_law18_ConfNotesr3_W {T : Tab} {env : Env} {H : Heap} {Q : Post} : W T (.reg F_law18_ConfNotesr3) env H Q ↔ WR T F_law18_ConfNotesr3 [
  ⟨some 4, .mv (.c (.bool true)), none⟩] env H none [] Q := w_reg
def F_law18_ConfNotesr4 : List IStmt := [
  ⟨some 6, .mv (.c (.string ⟨#[]⟩)), none⟩]
theorem F_law18_ConfNotesr4_W {T : Tab} {env : Env} {H : Heap} {Q : Post} : W T (.reg F_law18_ConfNotesr4) env H Q ↔ WR T F_law18_ConfNotesr4 [
  ⟨some 6, .mv (.c (.string ⟨#[]⟩)), none⟩] env H none [] Q := w_reg
def F_law18_ConfNotesr5 : List IStmt := [
  ⟨some 7, .mv (.c (.int .i64 0)), none⟩]
theorem F_law18_ConfNotesr5_W {T : Tab} {env : Env} {H : Heap} {Q : Post} : W T (.reg F_law18_ConfNotesr5) env H Q ↔ WR T F_law18_ConfNotesr5 [
  ⟨some 7, .mv (.c (.int .i64 0)), none⟩] env H none [] Q := w_reg
def F_law18_ConfNotesr6 : List IStmt := [
  ⟨some 28, .mv (.t 7), none⟩,
  ⟨some 29, .mv (.t 5), none⟩,
  ⟨some 30, .len 1 (.t 29), none⟩,
  ⟨some 31, .bin .lss (.t 28) (.t 30), none⟩]
theorem F_law18_ConfNotesr6_W {T : Tab} {env : Env} {H : Heap} {Q : Post} : W T (.reg F_law18_ConfNotesr6) env H Q ↔ WR T F_law18_ConfNotesr6 [
  ⟨some 28, .mv (.t 7), none⟩,
  ⟨some 29, .mv (.t 5), none⟩,
  ⟨some 30, .len 1 (.t 29), none⟩,
  ⟨some 31, .bin .lss (.t 28) (.t 30), none⟩] env H none [] Q := w_reg
def F_law18_ConfNotesr8 : List IStmt := [
  ⟨some 34, .mv (.t 7), none⟩,
  ⟨some 35, .bin .gtr (.t 34) (.c (.int .i64 0)), none⟩]
theorem F_law18_ConfNotesr8_W {T : Tab} {env : Env} {H : Heap} {Q : Post} : W T (.reg F_law18_ConfNotesr8) env H Q ↔ WR T F_law18_ConfNotesr8 [
  ⟨some 34, .mv (.t 7), none⟩,
  ⟨some 35, .bin .gtr (.t 34) (.c (.int .i64 0)), none⟩] env H none [] Q := w_reg
def F_law18_ConfNotesr9 : List IStmt := [
  ⟨some 36, .mv (.t 6), none⟩,
  ⟨some 37, .bin .add (.t 36) (.c (.string ⟨#[10]⟩)), none⟩,
  ⟨some 6, .mv (.t 37), none⟩]
theorem F_law18_ConfNotesr9_W {T : Tab} {env : Env} {H : Heap} {Q : Post} : W T (.reg F_law18_ConfNotesr9) env H Q ↔ WR T F_law18_ConfNotesr9 [
  ⟨some 36, .mv (.t 6), none⟩,
  ⟨some 37, .bin .add (.t 36) (.c (.string ⟨#[10]⟩)), none⟩,
  ⟨some 6, .mv (.t 37), none⟩] env H none [] Q := w_reg
def F_law18_ConfNotesr10 : List IStmt := [
  ⟨some 38, .mv (.t 7), none⟩,
  ⟨some 39, .mv (.t 1), none⟩,
  ⟨some 40, .len 1 (.t 39), none⟩,
  ⟨some 41, .bin .lss (.t 38) (.t 40), none⟩,
  ⟨some 42, .mv (.t 41), none⟩,
  ⟨some 43, .mv (.t 1), some (4, true)⟩,
  ⟨some 44, .mv (.t 7), some (4, true)⟩,
  ⟨some 45, .ixa 1 (.t 43) (.t 44), some (4, true)⟩,
  ⟨some 46, .load (.t 45), some (4, true)⟩,
  ⟨some 47, .pick (.t 42) (.t 46) (.c (.bool false)), none⟩]
theorem F_law18_ConfNotesr10_W {T : Tab} {env : Env} {H : Heap} {Q : Post} : W T (.reg F_law18_ConfNotesr10) env H Q ↔ WR T F_law18_ConfNotesr10 [
  ⟨some 38, .mv (.t 7), none⟩,
  ⟨some 39, .mv (.t 1), none⟩,
  ⟨some 40, .len 1 (.t 39), none⟩,
  ⟨some 41, .bin .lss (.t 38) (.t 40), none⟩,
  ⟨some 42, .mv (.t 41), none⟩,
  ⟨some 43, .mv (.t 1), some (4, true)⟩,
  ⟨some 44, .mv (.t 7), some (4, true)⟩,
  ⟨some 45, .ixa 1 (.t 43) (.t 44), some (4, true)⟩,
  ⟨some 46, .load (.t 45), some (4, true)⟩,
  ⟨some 47, .pick (.t 42) (.t 46) (.c (.bool false)), none⟩] env H none [] Q := w_reg
theorem F_law18_ConfNotesr10_g4 {env : Env} : yieldI F_law18_ConfNotesr10 env 4 = bOf (env 42) := rfl
def F_law18_ConfNotesr11 : List IStmt := [
  ⟨some 48, .mv (.t 6), none⟩,
  ⟨some 49, .bin .add (.t 48) (.c (.string ⟨#[35, 32, 120, 32, 61, 32, 49, 10, 32, 9, 10]⟩)), none⟩,
  ⟨some 6, .mv (.t 49), none⟩]
theorem F_law18_ConfNotesr11_W {T : Tab} {env : Env} {H : Heap} {Q : Post} : W T (.reg F_law18_ConfNotesr11) env H Q ↔ WR T F_law18_ConfNotesr11 [
  ⟨some 48, .mv (.t 6), none⟩,
  ⟨some 49, .bin .add (.t 48) (.c (.string ⟨#[35, 32, 120, 32, 61, 32, 49, 10, 32, 9, 10]⟩)), none⟩,
  ⟨some 6, .mv (.t 49), none⟩] env H none [] Q := w_reg
def F_law18_ConfNotesr12 : List IStmt := [
  ⟨some 50, .mv (.t 6), none⟩,
  ⟨some 51, .mv (.t 5), none⟩,
  ⟨some 52, .mv (.t 7), none⟩,
  ⟨some 53, .ixa 1 (.t 51) (.t 52), none⟩,
  ⟨some 54, .load (.t 53), none⟩,
  ⟨some 55, .bin .add (.c (.string ⟨#[32]⟩)) (.t 54), none⟩,
  ⟨some 56, .bin .add (.t 55) (.c (.string ⟨#[32, 35, 32, 121]⟩)), none⟩,
  ⟨some 57, .bin .add (.t 50) (.t 56), none⟩,
  ⟨some 6, .mv (.t 57), none⟩]
theorem F_law18_ConfNotesr12_W {T : Tab} {env : Env} {H : Heap} {Q : Post} : W T (.reg F_law18_ConfNotesr12) env H Q ↔ WR T F_law18_ConfNotesr12 [
  ⟨some 50, .mv (.t 6), none⟩,
  ⟨some 51, .mv (.t 5), none⟩,
  ⟨some 52, .mv (.t 7), none⟩,
  ⟨some 53, .ixa 1 (.t 51) (.t 52), none⟩,
  ⟨some 54, .load (.t 53), none⟩,
  ⟨some 55, .bin .add (.c (.string ⟨#[32]⟩)) (.t 54), none⟩,
  ⟨some 56, .bin .add (.t 55) (.c (.string ⟨#[32, 35, 32, 121]⟩)), none⟩,
  ⟨some 57, .bin .add (.t 50) (.t 56), none⟩,
  ⟨some 6, .mv (.t 57), none⟩] env H none [] Q := w_reg
def F_law18_ConfNotesr7 : List IStmt := [
  ⟨some 32, .mv (.t 7), none⟩,
  ⟨some 33, .bin .add (.t 32) (.c (.int .i64 1)), none⟩,
  ⟨some 7, .mv (.t 33), none⟩]
theorem F_law18_ConfNotesr7_W {T : Tab} {env : Env} {H : Heap} {Q : Post} : W T (.reg F_law18_ConfNotesr7) env H Q ↔ WR T F_law18_ConfNotesr7 [
  ⟨some 32, .mv (.t 7), none⟩,
  ⟨some 33, .bin .add (.t 32) (.c (.int .i64 1)), none⟩,
  ⟨some 7, .mv (.t 33), none⟩] env H none [] Q := w_reg
def F_law18_ConfNotesl0 : ICode := (.seq (.seq (.reg F_law18_ConfNotesr6) (.cond (.t 31) .skip (.exit 0))) (.seq (.block 1 (.seq (.seq (.reg F_law18_ConfNotesr8) (.cond (.t 35) (.reg F_law18_ConfNotesr9) .skip)) (.seq (.seq (.reg F_law18_ConfNotesr10) (.cond (.t 47) (.reg F_law18_ConfNotesr11) .skip)) (.reg F_law18_ConfNotesr12)))) (.reg F_law18_ConfNotesr7)))
theorem F_law18_ConfNotesl0_W {T : Tab} {env : Env} {H : Heap} {Q : Post} : W T F_law18_ConfNotesl0 env H Q ↔ W T (.seq (.seq (.reg F_law18_ConfNotesr6) (.cond (.t 31) .skip (.exit 0))) (.seq (.block 1 (.seq (.seq (.reg F_law18_ConfNotesr8) (.cond (.t 35) (.reg F_law18_ConfNotesr9) .skip)) (.seq (.seq (.reg F_law18_ConfNotesr10) (.cond (.t 47) (.reg F_law18_ConfNotesr11) .skip)) (.reg F_law18_ConfNotesr12)))) (.reg F_law18_ConfNotesr7))) env H Q := Iff.rfl
def F_law18_ConfNotesr13 : List IStmt := [
  ⟨some 59, .mv (.t 0), none⟩,
  ⟨some 60, .callc 8 [(.t 59)], none⟩,
  ⟨some 58, .mv (.t 60), none⟩,
  ⟨some 61, .ext (.t 58) 0, none⟩,
  ⟨some 62, .ext (.t 58) 1, none⟩,
  ⟨some 63, .ext (.t 58) 2, none⟩,
  ⟨some 8, .alloc 2 [.slice none 0 0, .slice none 0 0], none⟩,
  ⟨none, .store 2 (.t 8) (.t 61), none⟩,
  ⟨some 9, .mv (.t 62), none⟩,
  ⟨some 10, .mv (.t 63), none⟩]
theorem F_law18_ConfNotesr13_W {T : Tab} {env : Env} {H : Heap} {Q : Post} : W T (.reg F_law18_ConfNotesr13) env H Q ↔ WR T F_law18_ConfNotesr13 [
  ⟨some 59, .mv (.t 0), none⟩,
  ⟨some 60, .callc 8 [(.t 59)], none⟩,
  ⟨some 58, .mv (.t 60), none⟩,
  ⟨some 61, .ext (.t 58) 0, none⟩,
  ⟨some 62, .ext (.t 58) 1, none⟩,
  ⟨some 63, .ext (.t 58) 2, none⟩,
  ⟨some 8, .alloc 2 [.slice none 0 0, .slice none 0 0], none⟩,
  ⟨none, .store 2 (.t 8) (.t 61), none⟩,
  ⟨some 9, .mv (.t 62), none⟩,
  ⟨some 10, .mv (.t 63), none⟩] env H none [] Q := w_reg
def F_law18_ConfNotesr14 : List IStmt := [
  ⟨some 65, .mv (.t 6), none⟩,
  ⟨some 66, .callc 8 [(.t 65)], none⟩,
  ⟨some 64, .mv (.t 66), none⟩,
  ⟨some 67, .ext (.t 64) 0, none⟩,
  ⟨some 68, .ext (.t 64) 1, none⟩,
  ⟨some 69, .ext (.t 64) 2, none⟩,
  ⟨some 11, .alloc 2 [.slice none 0 0, .slice none 0 0], none⟩,
  ⟨none, .store 2 (.t 11) (.t 67), none⟩,
  ⟨some 12, .mv (.t 68), none⟩,
  ⟨some 13, .mv (.t 69), none⟩]
theorem F_law18_ConfNotesr14_W {T : Tab} {env : Env} {H : Heap} {Q : Post} : W T (.reg F_law18_ConfNotesr14) env H Q ↔ WR T F_law18_ConfNotesr14 [
  ⟨some 65, .mv (.t 6), none⟩,
  ⟨some 66, .callc 8 [(.t 65)], none⟩,
  ⟨some 64, .mv (.t 66), none⟩,
  ⟨some 67, .ext (.t 64) 0, none⟩,
  ⟨some 68, .ext (.t 64) 1, none⟩,
  ⟨some 69, .ext (.t 64) 2, none⟩,
  ⟨some 11, .alloc 2 [.slice none 0 0, .slice none 0 0], none⟩,
  ⟨none, .store 2 (.t 11) (.t 67), none⟩,
  ⟨some 12, .mv (.t 68), none⟩,
  ⟨some 13, .mv (.t 69), none⟩] env H none [] Q := w_reg
def F_law18_ConfNotesr15 : List IStmt := [
  ⟨some 70, .mv (.t 10), none⟩,
  ⟨some 71, .mv (.t 13), none⟩,
  ⟨some 72, .bin .neq (.t 70) (.t 71), none⟩,
  ⟨some 73, .mv (.t 72), none⟩,
  ⟨some 74, .fa 1 (.t 8), some (3, false)⟩,
  ⟨some 75, .load (.t 74), some (3, false)⟩,
  ⟨some 76, .len 1 (.t 75), some (3, false)⟩,
  ⟨some 77, .fa 1 (.t 11), some (3, false)⟩,
  ⟨some 78, .load (.t 77), some (3, false)⟩,
  ⟨some 79, .len 1 (.t 78), some (3, false)⟩,
  ⟨some 80, .bin .neq (.t 76) (.t 79), some (3, false)⟩,
  ⟨some 81, .pick (.t 73) (.c (.bool true)) (.t 80), none⟩,
  ⟨some 82, .mv (.t 81), none⟩,
  ⟨some 83, .fa 0 (.t 8), some (12, false)⟩,
  ⟨some 84, .load (.t 83), some (12, false)⟩,
  ⟨some 85, .len 1 (.t 84), some (12, false)⟩,
  ⟨some 86, .fa 0 (.t 11), some (12, false)⟩,
  ⟨some 87, .load (.t 86), some (12, false)⟩,
  ⟨some 88, .len 1 (.t 87), some (12, false)⟩,
  ⟨some 89, .bin .neq (.t 85) (.t 88), some (12, false)⟩,
  ⟨some 90, .pick (.t 82) (.c (.bool true)) (.t 89), none⟩]
theorem F_law18_ConfNotesr15_W {T : Tab} {env : Env} {H : Heap} {Q : Post} : W T (.reg F_law18_ConfNotesr15) env H Q ↔ WR T F_law18_ConfNotesr15 [
  ⟨some 70, .mv (.t 10), none⟩,
  ⟨some 71, .mv (.t 13), none⟩,
  ⟨some 72, .bin .neq (.t 70) (.t 71), none⟩,
  ⟨some 73, .mv (.t 72), none⟩,
  ⟨some 74, .fa 1 (.t 8), some (3, false)⟩,
  ⟨some 75, .load (.t 74), some (3, false)⟩,
  ⟨some 76, .len 1 (.t 75), some (3, false)⟩,
  ⟨some 77, .fa 1 (.t 11), some (3, false)⟩,
  ⟨some 78, .load (.t 77), some (3, false)⟩,
  ⟨some 79, .len 1 (.t 78), some (3, false)⟩,
  ⟨some 80, .bin .neq (.t 76) (.t 79), some (3, false)⟩,
  ⟨some 81, .pick (.t 73) (.c (.bool true)) (.t 80), none⟩,
  ⟨some 82, .mv (.t 81), none⟩,
  ⟨some 83, .fa 0 (.t 8), some (12, false)⟩,
  ⟨some 84, .load (.t 83), some (12, false)⟩,
  ⟨some 85, .len 1 (.t 84), some (12, false)⟩,
  ⟨some 86, .fa 0 (.t 11), some (12, false)⟩,
  ⟨some 87, .load (.t 86), some (12, false)⟩,
  ⟨some 88, .len 1 (.t 87), some (12, false)⟩,
  ⟨some 89, .bin .neq (.t 85) (.t 88), some (12, false)⟩,
  ⟨some 90, .pick (.t 82) (.c (.bool true)) (.t 89), none⟩] env H none [] Q := w_reg
theorem F_law18_ConfNotesr15_g3 {env : Env} : yieldI F_law18_ConfNotesr15 env 3 = bOf (env 73) := rfl
theorem F_law18_ConfNotesr15_g12 {env : Env} : yieldI F_law18_ConfNotesr15 env 12 = bOf (env 82) := rfl
def F_law18_ConfNotesr16 : List IStmt := [
  ⟨some 4, .mv (.c (.bool false)), none⟩]
theorem F_law18_ConfNotesr16_W {T : Tab} {env : Env} {H : Heap} {Q : Post} : W T (.reg F_law18_ConfNotesr16) env H Q ↔ WR T F_law18_ConfNotesr16 [
  ⟨some 4, .mv (.c (.bool false)), none⟩] env H none [] Q := w_reg
def F_law18_ConfNotesr17 : List IStmt := [
  ⟨some 14, .mv (.c (.int .i64 0)), none⟩]
theorem F_law18_ConfNotesr17_W {T : Tab} {env : Env} {H : Heap} {Q : Post} : W T (.reg F_law18_ConfNotesr17) env H Q ↔ WR T F_law18_ConfNotesr17 [
  ⟨some 14, .mv (.c (.int .i64 0)), none⟩] env H none [] Q := w_reg
def F_law18_ConfNotesr18 : List IStmt := [
  ⟨some 91, .mv (.t 14), none⟩,
  ⟨some 92, .fa 1 (.t 8), none⟩,
  ⟨some 93, .load (.t 92), none⟩,
  ⟨some 94, .len 1 (.t 93), none⟩,
  ⟨some 95, .bin .lss (.t 91) (.t 94), none⟩]
theorem F_law18_ConfNotesr18_W {T : Tab} {env : Env} {H : Heap} {Q : Post} : W T (.reg F_law18_ConfNotesr18) env H Q ↔ WR T F_law18_ConfNotesr18 [
  ⟨some 91, .mv (.t 14), none⟩,
  ⟨some 92, .fa 1 (.t 8), none⟩,
  ⟨some 93, .load (.t 92), none⟩,
  ⟨some 94, .len 1 (.t 93), none⟩,
  ⟨some 95, .bin .lss (.t 91) (.t 94), none⟩] env H none [] Q := w_reg
def F_law18_ConfNotesr20 : List IStmt := [
  ⟨some 98, .fa 1 (.t 8), none⟩,
  ⟨some 99, .load (.t 98), none⟩,
  ⟨some 100, .mv (.t 14), none⟩,
  ⟨some 101, .ixa 2 (.t 99) (.t 100), none⟩,
  ⟨some 102, .loadN 2 (.t 101), none⟩,
  ⟨some 103, .fa 1 (.t 11), none⟩,
  ⟨some 104, .load (.t 103), none⟩,
  ⟨some 105, .mv (.t 14), none⟩,
  ⟨some 106, .ixa 2 (.t 104) (.t 105), none⟩,
  ⟨some 107, .loadN 2 (.t 106), none⟩,
  ⟨some 15, .allocD 1 2 [.string ⟨#[]⟩, .slice none 0 0], none⟩,
  ⟨some 16, .allocD 0 2 [.string ⟨#[]⟩, .slice none 0 0], none⟩,
  ⟨none, .store 2 (.t 15) (.t 102), none⟩,
  ⟨none, .store 2 (.t 16) (.t 107), none⟩]
theorem F_law18_ConfNotesr20_W {T : Tab} {env : Env} {H : Heap} {Q : Post} : W T (.dreg F_law18_ConfNotesr20 [(6, 13), (9, 13)]) env H Q ↔ WR T F_law18_ConfNotesr20 [
  ⟨some 98, .fa 1 (.t 8), none⟩,
  ⟨some 99, .load (.t 98), none⟩,
  ⟨some 100, .mv (.t 14), none⟩,
  ⟨some 101, .ixa 2 (.t 99) (.t 100), none⟩,
  ⟨some 102, .loadN 2 (.t 101), none⟩,
  ⟨some 103, .fa 1 (.t 11), none⟩,
  ⟨some 104, .load (.t 103), none⟩,
  ⟨some 105, .mv (.t 14), none⟩,
  ⟨some 106, .ixa 2 (.t 104) (.t 105), none⟩,
  ⟨some 107, .loadN 2 (.t 106), none⟩,
  ⟨some 15, .allocD 1 2 [.string ⟨#[]⟩, .slice none 0 0], none⟩,
  ⟨some 16, .allocD 0 2 [.string ⟨#[]⟩, .slice none 0 0], none⟩,
  ⟨none, .store 2 (.t 15) (.t 102), none⟩,
  ⟨none, .store 2 (.t 16) (.t 107), none⟩] env H (some []) [(6, 13), (9, 13)] Q := w_dreg
theorem F_law18_ConfNotesr20_len : F_law18_ConfNotesr20.length = 14 := rfl
theorem F_law18_ConfNotesr20_i6 : F_law18_ConfNotesr20[6]? = some ⟨some 104, .load (.t 103), none⟩ := rfl
theorem F_law18_ConfNotesr20_i9 : F_law18_ConfNotesr20[9]? = some ⟨some 107, .loadN 2 (.t 106), none⟩ := rfl
def F_law18_ConfNotesr21 : List IStmt := [
  ⟨some 108, .fa 0 (.t 15), none⟩,
  ⟨some 109, .load (.t 108), none⟩,
  ⟨some 110, .fa 0 (.t 16), none⟩,
  ⟨some 111, .load (.t 110), none⟩,
  ⟨some 112, .bin .neq (.t 109) (.t 111), none⟩,
  ⟨some 113, .mv (.t 112), none⟩,
  ⟨some 114, .fa 1 (.t 15), some (5, false)⟩,
  ⟨some 115, .load (.t 114), some (5, false)⟩,
  ⟨some 116, .len 1 (.t 115), some (5, false)⟩,
  ⟨some 117, .fa 1 (.t 16), some (5, false)⟩,
  ⟨some 118, .load (.t 117), some (5, false)⟩,
  ⟨some 119, .len 1 (.t 118), some (5, false)⟩,
  ⟨some 120, .bin .neq (.t 116) (.t 119), some (5, false)⟩,
  ⟨some 121, .pick (.t 113) (.c (.bool true)) (.t 120), none⟩]
theorem F_law18_ConfNotesr21_W {T : Tab} {env : Env} {H : Heap} {Q : Post} : W T (.reg F_law18_ConfNotesr21) env H Q ↔ WR T F_law18_ConfNotesr21 [
  ⟨some 108, .fa 0 (.t 15), none⟩,
  ⟨some 109, .load (.t 108), none⟩,
  ⟨some 110, .fa 0 (.t 16), none⟩,
  ⟨some 111, .load (.t 110), none⟩,
  ⟨some 112, .bin .neq (.t 109) (.t 111), none⟩,
  ⟨some 113, .mv (.t 112), none⟩,
  ⟨some 114, .fa 1 (.t 15), some (5, false)⟩,
  ⟨some 115, .load (.t 114), some (5, false)⟩,
  ⟨some 116, .len 1 (.t 115), some (5, false)⟩,
  ⟨some 117, .fa 1 (.t 16), some (5, false)⟩,
  ⟨some 118, .load (.t 117), some (5, false)⟩,
  ⟨some 119, .len 1 (.t 118), some (5, false)⟩,
  ⟨some 120, .bin .neq (.t 116) (.t 119), some (5, false)⟩,
  ⟨some 121, .pick (.t 113) (.c (.bool true)) (.t 120), none⟩] env H none [] Q := w_reg
theorem F_law18_ConfNotesr21_g5 {env : Env} : yieldI F_law18_ConfNotesr21 env 5 = bOf (env 113) := rfl
def F_law18_ConfNotesr22 : List IStmt := [
  ⟨some 4, .mv (.c (.bool false)), none⟩]
theorem F_law18_ConfNotesr22_W {T : Tab} {env : Env} {H : Heap} {Q : Post} : W T (.reg F_law18_ConfNotesr22) env H Q ↔ WR T F_law18_ConfNotesr22 [
  ⟨some 4, .mv (.c (.bool false)), none⟩] env H none [] Q := w_reg
def F_law18_ConfNotesr23 : List IStmt := [
  ⟨some 17, .mv (.c (.int .i64 0)), none⟩]
theorem F_law18_ConfNotesr23_W {T : Tab} {env : Env} {H : Heap} {Q : Post} : W T (.reg F_law18_ConfNotesr23) env H Q ↔ WR T F_law18_ConfNotesr23 [
  ⟨some 17, .mv (.c (.int .i64 0)), none⟩] env H none [] Q := w_reg
def F_law18_ConfNotesr24 : List IStmt := [
  ⟨some 122, .mv (.t 17), none⟩,
  ⟨some 123, .fa 1 (.t 15), none⟩,
  ⟨some 124, .load (.t 123), none⟩,
  ⟨some 125, .len 1 (.t 124), none⟩,
  ⟨some 126, .bin .lss (.t 122) (.t 125), none⟩]
theorem F_law18_ConfNotesr24_W {T : Tab} {env : Env} {H : Heap} {Q : Post} : W T (.reg F_law18_ConfNotesr24) env H Q ↔ WR T F_law18_ConfNotesr24 [
  ⟨some 122, .mv (.t 17), none⟩,
  ⟨some 123, .fa 1 (.t 15), none⟩,
  ⟨some 124, .load (.t 123), none⟩,
  ⟨some 125, .len 1 (.t 124), none⟩,
  ⟨some 126, .bin .lss (.t 122) (.t 125), none⟩] env H none [] Q := w_reg
def F_law18_ConfNotesr26 : List IStmt := [
  ⟨some 129, .fa 1 (.t 15), none⟩,
  ⟨some 130, .load (.t 129), none⟩,
  ⟨some 131, .mv (.t 17), none⟩,
  ⟨some 132, .ixa 3 (.t 130) (.t 131), none⟩,
  ⟨some 133, .fa 0 (.t 132), none⟩,
  ⟨some 134, .load (.t 133), none⟩,
  ⟨some 135, .fa 1 (.t 16), none⟩,
  ⟨some 136, .load (.t 135), none⟩,
  ⟨some 137, .mv (.t 17), none⟩,
  ⟨some 138, .ixa 3 (.t 136) (.t 137), none⟩,
  ⟨some 139, .fa 0 (.t 138), none⟩,
  ⟨some 140, .load (.t 139), none⟩,
  ⟨some 141, .bin .neq (.t 134) (.t 140), none⟩,
  ⟨some 142, .mv (.t 141), none⟩,
  ⟨some 143, .fa 1 (.t 15), some (13, false)⟩,
  ⟨some 144, .load (.t 143), some (13, false)⟩,
  ⟨some 145, .mv (.t 17), some (13, false)⟩,
  ⟨some 146, .ixa 3 (.t 144) (.t 145), some (13, false)⟩,
  ⟨some 147, .fa 1 (.t 146), some (13, false)⟩,
  ⟨some 148, .load (.t 147), some (13, false)⟩,
  ⟨some 149, .fa 1 (.t 16), some (13, false)⟩,
  ⟨some 150, .load (.t 149), some (13, false)⟩,
  ⟨some 151, .mv (.t 17), some (13, false)⟩,
  ⟨some 152, .ixa 3 (.t 150) (.t 151), some (13, false)⟩,
  ⟨some 153, .fa 1 (.t 152), some (13, false)⟩,
  ⟨some 154, .load (.t 153), some (13, false)⟩,
  ⟨some 155, .bin .neq (.t 148) (.t 154), some (13, false)⟩,
  ⟨some 156, .pick (.t 142) (.c (.bool true)) (.t 155), none⟩]
theorem F_law18_ConfNotesr26_g13 {env : Env} : yieldI F_law18_ConfNotesr26 env 13 = bOf (env 142) := rfl
theorem F_law18_ConfNotesr26_W {T : Tab} {env : Env} {H : Heap} {Q : Post} : W T (.dreg F_law18_ConfNotesr26 []) env H Q ↔ WR T F_law18_ConfNotesr26 [
  ⟨some 129, .fa 1 (.t 15), none⟩,
  ⟨some 130, .load (.t 129), none⟩,
  ⟨some 131, .mv (.t 17), none⟩,
  ⟨some 132, .ixa 3 (.t 130) (.t 131), none⟩,
  ⟨some 133, .fa 0 (.t 132), none⟩,
  ⟨some 134, .load (.t 133), none⟩,
  ⟨some 135, .fa 1 (.t 16), none⟩,
  ⟨some 136, .load (.t 135), none⟩,
  ⟨some 137, .mv (.t 17), none⟩,
  ⟨some 138, .ixa 3 (.t 136) (.t 137), none⟩,
  ⟨some 139, .fa 0 (.t 138), none⟩,
  ⟨some 140, .load (.t 139), none⟩,
  ⟨some 141, .bin .neq (.t 134) (.t 140), none⟩,
  ⟨some 142, .mv (.t 141), none⟩,
  ⟨some 143, .fa 1 (.t 15), some (13, false)⟩,
  ⟨some 144, .load (.t 143), some (13, false)⟩,
  ⟨some 145, .mv (.t 17), some (13, false)⟩,
  ⟨some 146, .ixa 3 (.t 144) (.t 145), some (13, false)⟩,
  ⟨some 147, .fa 1 (.t 146), some (13, false)⟩,
  ⟨some 148, .load (.t 147), some (13, false)⟩,
  ⟨some 149, .fa 1 (.t 16), some (13, false)⟩,
  ⟨some 150, .load (.t 149), some (13, false)⟩,
  ⟨some 151, .mv (.t 17), some (13, false)⟩,
  ⟨some 152, .ixa 3 (.t 150) (.t 151), some (13, false)⟩,
  ⟨some 153, .fa 1 (.t 152), some (13, false)⟩,
  ⟨some 154, .load (.t 153), some (13, false)⟩,
  ⟨some 155, .bin .neq (.t 148) (.t 154), some (13, false)⟩,
  ⟨some 156, .pick (.t 142) (.c (.bool true)) (.t 155), none⟩] env H none [] Q := w_dreg0
def F_law18_ConfNotesr27 : List IStmt := [
  ⟨some 4, .mv (.c (.bool false)), none⟩]
theorem F_law18_ConfNotesr27_W {T : Tab} {env : Env} {H : Heap} {Q : Post} : W T (.reg F_law18_ConfNotesr27) env H Q ↔ WR T F_law18_ConfNotesr27 [
  ⟨some 4, .mv (.c (.bool false)), none⟩] env H none [] Q := w_reg
def F_law18_ConfNotesr25 : List IStmt := [
  ⟨some 127, .mv (.t 17), none⟩,
  ⟨some 128, .bin .add (.t 127) (.c (.int .i64 1)), none⟩,
  ⟨some 17, .mv (.t 128), none⟩]
theorem F_law18_ConfNotesr25_W {T : Tab} {env : Env} {H : Heap} {Q : Post} : W T (.reg F_law18_ConfNotesr25) env H Q ↔ WR T F_law18_ConfNotesr25 [
  ⟨some 127, .mv (.t 17), none⟩,
  ⟨some 128, .bin .add (.t 127) (.c (.int .i64 1)), none⟩,
  ⟨some 17, .mv (.t 128), none⟩] env H none [] Q := w_reg
def F_law18_ConfNotesl2 : ICode := (.seq (.seq (.reg F_law18_ConfNotesr24) (.cond (.t 126) .skip (.exit 4))) (.seq (.block 5 (.seq (.dreg F_law18_ConfNotesr26 []) (.cond (.t 156) (.seq (.reg F_law18_ConfNotesr27) .ret) .skip))) (.reg F_law18_ConfNotesr25)))
theorem F_law18_ConfNotesl2_W {T : Tab} {env : Env} {H : Heap} {Q : Post} : W T F_law18_ConfNotesl2 env H Q ↔ W T (.seq (.seq (.reg F_law18_ConfNotesr24) (.cond (.t 126) .skip (.exit 4))) (.seq (.block 5 (.seq (.dreg F_law18_ConfNotesr26 []) (.cond (.t 156) (.seq (.reg F_law18_ConfNotesr27) .ret) .skip))) (.reg F_law18_ConfNotesr25))) env H Q := Iff.rfl
def F_law18_ConfNotesr19 : List IStmt := [
  ⟨some 96, .mv (.t 14), none⟩,
  ⟨some 97, .bin .add (.t 96) (.c (.int .i64 1)), none⟩,
  ⟨some 14, .mv (.t 97), none⟩]
theorem F_law18_ConfNotesr19_W {T : Tab} {env : Env} {H : Heap} {Q : Post} : W T (.reg F_law18_ConfNotesr19) env H Q ↔ WR T F_law18_ConfNotesr19 [
  ⟨some 96, .mv (.t 14), none⟩,
  ⟨some 97, .bin .add (.t 96) (.c (.int .i64 1)), none⟩,
  ⟨some 14, .mv (.t 97), none⟩] env H none [] Q := w_reg
def F_law18_ConfNotesl1 : ICode := (.seq (.seq (.reg F_law18_ConfNotesr18) (.cond (.t 95) .skip (.exit 2))) (.seq (.block 3 (.seq (.resv 2 (.dreg F_law18_ConfNotesr20 [(6, 13), (9, 13)])) (.seq (.seq (.reg F_law18_ConfNotesr21) (.cond (.t 121) (.seq (.reg F_law18_ConfNotesr22) .ret) .skip)) (.seq (.reg F_law18_ConfNotesr23) (.block 4 (.loop F_law18_ConfNotesl2)))))) (.reg F_law18_ConfNotesr19)))
theorem F_law18_ConfNotesl1_W {T : Tab} {env : Env} {H : Heap} {Q : Post} : W T F_law18_ConfNotesl1 env H Q ↔ W T (.seq (.seq (.reg F_law18_ConfNotesr18) (.cond (.t 95) .skip (.exit 2))) (.seq (.block 3 (.seq (.resv 2 (.dreg F_law18_ConfNotesr20 [(6, 13), (9, 13)])) (.seq (.seq (.reg F_law18_ConfNotesr21) (.cond (.t 121) (.seq (.reg F_law18_ConfNotesr22) .ret) .skip)) (.seq (.reg F_law18_ConfNotesr23) (.block 4 (.loop F_law18_ConfNotesl2)))))) (.reg F_law18_ConfNotesr19))) env H Q := Iff.rfl
def F_law18_ConfNotesr28 : List IStmt := [
  ⟨some 157, .callc 9 [], none⟩,
  ⟨some 4, .mv (.t 157), none⟩]
theorem F_law18_ConfNotesr28_W {T : Tab} {env : Env} {H : Heap} {Q : Post} : W T (.reg F_law18_ConfNotesr28) env H Q ↔ WR T F_law18_ConfNotesr28 [
  ⟨some 157, .callc 9 [], none⟩,
  ⟨some 4, .mv (.t 157), none⟩] env H none [] Q := w_reg
def F_law18_ConfNotesc : ICode := (.seq (.reg F_law18_ConfNotesr0) (.seq (.reg F_law18_ConfNotesr1) (.seq (.seq (.reg F_law18_ConfNotesr2) (.cond (.t 27) (.seq (.reg F_law18_ConfNotesr3) .ret) .skip)) (.seq (.reg F_law18_ConfNotesr4) (.seq (.seq (.reg F_law18_ConfNotesr5) (.block 0 (.loop F_law18_ConfNotesl0))) (.seq (.reg F_law18_ConfNotesr13) (.seq (.reg F_law18_ConfNotesr14) (.seq (.seq (.reg F_law18_ConfNotesr15) (.cond (.t 90) (.seq (.reg F_law18_ConfNotesr16) .ret) .skip)) (.seq (.seq (.reg F_law18_ConfNotesr17) (.block 2 (.loop F_law18_ConfNotesl1))) (.seq (.reg F_law18_ConfNotesr28) .ret))))))))))
theorem F_law18_ConfNotesc_W {T : Tab} {env : Env} {H : Heap} {Q : Post} : W T F_law18_ConfNotesc env H Q ↔ W T (.seq (.reg F_law18_ConfNotesr0) (.seq (.reg F_law18_ConfNotesr1) (.seq (.seq (.reg F_law18_ConfNotesr2) (.cond (.t 27) (.seq (.reg F_law18_ConfNotesr3) .ret) .skip)) (.seq (.reg F_law18_ConfNotesr4) (.seq (.seq (.reg F_law18_ConfNotesr5) (.block 0 (.loop F_law18_ConfNotesl0))) (.seq (.reg F_law18_ConfNotesr13) (.seq (.reg F_law18_ConfNotesr14) (.seq (.seq (.reg F_law18_ConfNotesr15) (.cond (.t 90) (.seq (.reg F_law18_ConfNotesr16) .ret) .skip)) (.seq (.seq (.reg F_law18_ConfNotesr17) (.block 2 (.loop F_law18_ConfNotesl1))) (.seq (.reg F_law18_ConfNotesr28) .ret)))))))))) env H Q := Iff.rfl
def F_law18_ConfNotes : IFn := ⟨158, [.tmp 4], F_law18_ConfNotesc⟩
set_option maxRecDepth 1000000 in
theorem F_law18_ConfNotes_chk : chkF Tryd.prog 4 F_law18_ConfNotes = true := by kernel_rfl

/-- The functions, by number. -/
def TCn_l : List (Nat × IFn) := TCf_l ++ [(11, F_ref04_Split), (4, F_law18_ConfNotes)]
def TCn : Tab := tabN TCn_l natCf
theorem TCn_chk : ∀ p ∈ TCn_l, chkF Tryd.prog p.1 p.2 = true := by
  intro p hp
  simp only [TCn_l, List.mem_append, List.mem_cons, List.not_mem_nil, or_false] at hp
  rcases hp with (hp) | rfl | rfl
  · exact TCf_chk p hp
  · exact F_ref04_Split_chk
  · exact F_law18_ConfNotes_chk
theorem TCn_good : Fw.Good Tryd.prog TCn := good_tabN (by kernel_rfl) TCn_chk natCf_ok

end Go.Proofs.YtbhoaiacnoiocaaDoor
