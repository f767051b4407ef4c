/- The small language's text of functions of the given program, and the check that it stands for them. Printed by a program. -/
import Derived.Test.YtbhoaiacnoiocaaDoorFwC
import Derived.Test.YtbhoaiacnoiocaaDoorChecked
import Derived.Test.YtbhoaiacnoiocaaDoorIrCf
import Derived.Test.YtbhoaiacnoiocaaDoorIrBld
import Derived.Test.YtbhoaiacnoiocaaDoorCfNat
import Derived.KernelRfl
namespace Go.Proofs.YtbhoaiacnoiocaaDoor
open Go Fw

/-! ### num_Text -/
def F_num_Textr0 : List IStmt := [
  ⟨some 2, .mv (.c (.string ⟨#[]⟩)), none⟩]
theorem F_num_Textr0_W {T : Tab} {env : Env} {H : Heap} {Q : Post} : W T (.reg F_num_Textr0) env H Q ↔ WR T F_num_Textr0 [
  ⟨some 2, .mv (.c (.string ⟨#[]⟩)), none⟩] env H none [] Q := w_reg
def F_num_Textr1 : List IStmt := [
  ⟨some 3, .mv (.c (.string ⟨#[]⟩)), none⟩]
theorem F_num_Textr1_W {T : Tab} {env : Env} {H : Heap} {Q : Post} : W T (.reg F_num_Textr1) env H Q ↔ WR T F_num_Textr1 [
  ⟨some 3, .mv (.c (.string ⟨#[]⟩)), none⟩] env H none [] Q := w_reg
def F_num_Textr2 : List IStmt := [
  ⟨some 4, .mv (.t 0), none⟩,
  ⟨some 5, .mx (.t 4) (.c (.int .i64 0)), none⟩,
  ⟨some 0, .mv (.t 5), none⟩]
theorem F_num_Textr2_W {T : Tab} {env : Env} {H : Heap} {Q : Post} : W T (.reg F_num_Textr2) env H Q ↔ WR T F_num_Textr2 [
  ⟨some 4, .mv (.t 0), none⟩,
  ⟨some 5, .mx (.t 4) (.c (.int .i64 0)), none⟩,
  ⟨some 0, .mv (.t 5), none⟩] env H none [] Q := w_reg
def F_num_Textr3 : List IStmt := [
  ⟨some 6, .mv (.t 0), none⟩,
  ⟨some 7, .bin .gtr (.t 6) (.c (.int .i64 0)), none⟩,
  ⟨some 8, .mv (.t 7), none⟩,
  ⟨some 9, .mv (.t 3), some (2, false)⟩,
  ⟨some 10, .bin .eql (.t 9) (.c (.string ⟨#[]⟩)), some (2, false)⟩,
  ⟨some 11, .pick (.t 8) (.c (.bool true)) (.t 10), none⟩]
theorem F_num_Textr3_W {T : Tab} {env : Env} {H : Heap} {Q : Post} : W T (.reg F_num_Textr3) env H Q ↔ WR T F_num_Textr3 [
  ⟨some 6, .mv (.t 0), none⟩,
  ⟨some 7, .bin .gtr (.t 6) (.c (.int .i64 0)), none⟩,
  ⟨some 8, .mv (.t 7), none⟩,
  ⟨some 9, .mv (.t 3), some (2, false)⟩,
  ⟨some 10, .bin .eql (.t 9) (.c (.string ⟨#[]⟩)), some (2, false)⟩,
  ⟨some 11, .pick (.t 8) (.c (.bool true)) (.t 10), none⟩] env H none [] Q := w_reg
theorem F_num_Textr3_g2 {env : Env} : yieldI F_num_Textr3 env 2 = bOf (env 8) := rfl
def F_num_Textr5 : List IStmt := [
  ⟨some 14, .mv (.t 0), none⟩,
  ⟨some 15, .bin .rem (.t 14) (.c (.int .i64 10)), none⟩,
  ⟨some 16, .bin .add (.c (.int .i64 48)) (.t 15), none⟩,
  ⟨some 17, .conv .u8 (.t 16), none⟩,
  ⟨some 18, .bsli 1 1 [.int .u8 0] [(0, (.t 17))], none⟩,
  ⟨some 19, .b2s (.t 18), none⟩,
  ⟨some 20, .mv (.t 3), none⟩,
  ⟨some 21, .bin .add (.t 19) (.t 20), none⟩,
  ⟨some 3, .mv (.t 21), none⟩]
theorem F_num_Textr5_W {T : Tab} {env : Env} {H : Heap} {Q : Post} : W T (.reg F_num_Textr5) env H Q ↔ WR T F_num_Textr5 [
  ⟨some 14, .mv (.t 0), none⟩,
  ⟨some 15, .bin .rem (.t 14) (.c (.int .i64 10)), none⟩,
  ⟨some 16, .bin .add (.c (.int .i64 48)) (.t 15), none⟩,
  ⟨some 17, .conv .u8 (.t 16), none⟩,
  ⟨some 18, .bsli 1 1 [.int .u8 0] [(0, (.t 17))], none⟩,
  ⟨some 19, .b2s (.t 18), none⟩,
  ⟨some 20, .mv (.t 3), none⟩,
  ⟨some 21, .bin .add (.t 19) (.t 20), none⟩,
  ⟨some 3, .mv (.t 21), none⟩] env H none [] Q := w_reg
def F_num_Textr4 : List IStmt := [
  ⟨some 12, .mv (.t 0), none⟩,
  ⟨some 13, .bin .quo (.t 12) (.c (.int .i64 10)), none⟩,
  ⟨some 0, .mv (.t 13), none⟩]
theorem F_num_Textr4_W {T : Tab} {env : Env} {H : Heap} {Q : Post} : W T (.reg F_num_Textr4) env H Q ↔ WR T F_num_Textr4 [
  ⟨some 12, .mv (.t 0), none⟩,
  ⟨some 13, .bin .quo (.t 12) (.c (.int .i64 10)), none⟩,
  ⟨some 0, .mv (.t 13), none⟩] env H none [] Q := w_reg
def F_num_Textl0 : ICode := (.seq (.seq (.reg F_num_Textr3) (.cond (.t 11) .skip (.exit 0))) (.seq (.block 1 (.reg F_num_Textr5)) (.reg F_num_Textr4)))
theorem F_num_Textl0_W {T : Tab} {env : Env} {H : Heap} {Q : Post} : W T F_num_Textl0 env H Q ↔ W T (.seq (.seq (.reg F_num_Textr3) (.cond (.t 11) .skip (.exit 0))) (.seq (.block 1 (.reg F_num_Textr5)) (.reg F_num_Textr4))) env H Q := Iff.rfl
def F_num_Textr6 : List IStmt := [
  ⟨some 22, .mv (.t 3), none⟩,
  ⟨some 2, .mv (.t 22), none⟩]
theorem F_num_Textr6_W {T : Tab} {env : Env} {H : Heap} {Q : Post} : W T (.reg F_num_Textr6) env H Q ↔ WR T F_num_Textr6 [
  ⟨some 22, .mv (.t 3), none⟩,
  ⟨some 2, .mv (.t 22), none⟩] env H none [] Q := w_reg
def F_num_Textc : ICode := (.seq (.reg F_num_Textr0) (.seq (.reg F_num_Textr1) (.seq (.seq (.reg F_num_Textr2) (.block 0 (.loop F_num_Textl0))) (.seq (.reg F_num_Textr6) .ret))))
theorem F_num_Textc_W {T : Tab} {env : Env} {H : Heap} {Q : Post} : W T F_num_Textc env H Q ↔ W T (.seq (.reg F_num_Textr0) (.seq (.reg F_num_Textr1) (.seq (.seq (.reg F_num_Textr2) (.block 0 (.loop F_num_Textl0))) (.seq (.reg F_num_Textr6) .ret)))) env H Q := Iff.rfl
def F_num_Text : IFn := ⟨23, [.tmp 2], F_num_Textc⟩
set_option maxRecDepth 1000000 in
theorem F_num_Text_chk : chkF Tryd.prog 22 F_num_Text = true := by kernel_rfl

/-! ### ref01_Text -/
def F_ref01_Textr0 : List IStmt := [
  ⟨some 2, .mv (.c (.string ⟨#[]⟩)), none⟩]
theorem F_ref01_Textr0_W {T : Tab} {env : Env} {H : Heap} {Q : Post} : W T (.reg F_ref01_Textr0) env H Q ↔ WR T F_ref01_Textr0 [
  ⟨some 2, .mv (.c (.string ⟨#[]⟩)), none⟩] env H none [] Q := w_reg
def F_ref01_Textr1 : List IStmt := [
  ⟨some 4, .mv (.t 0), none⟩,
  ⟨some 5, .bin .leq (.t 4) (.c (.int .i64 0)), none⟩]
theorem F_ref01_Textr1_W {T : Tab} {env : Env} {H : Heap} {Q : Post} : W T (.reg F_ref01_Textr1) env H Q ↔ WR T F_ref01_Textr1 [
  ⟨some 4, .mv (.t 0), none⟩,
  ⟨some 5, .bin .leq (.t 4) (.c (.int .i64 0)), none⟩] env H none [] Q := w_reg
def F_ref01_Textr2 : List IStmt := [
  ⟨some 2, .mv (.c (.string ⟨#[48]⟩)), none⟩]
theorem F_ref01_Textr2_W {T : Tab} {env : Env} {H : Heap} {Q : Post} : W T (.reg F_ref01_Textr2) env H Q ↔ WR T F_ref01_Textr2 [
  ⟨some 2, .mv (.c (.string ⟨#[48]⟩)), none⟩] env H none [] Q := w_reg
def F_ref01_Textr3 : List IStmt := [
  ⟨some 3, .mv (.c (.string ⟨#[]⟩)), none⟩]
theorem F_ref01_Textr3_W {T : Tab} {env : Env} {H : Heap} {Q : Post} : W T (.reg F_ref01_Textr3) env H Q ↔ WR T F_ref01_Textr3 [
  ⟨some 3, .mv (.c (.string ⟨#[]⟩)), none⟩] env H none [] Q := w_reg
def F_ref01_Textr4 : List IStmt := [
  ⟨some 6, .mv (.t 0), none⟩,
  ⟨some 7, .bin .gtr (.t 6) (.c (.int .i64 0)), none⟩]
theorem F_ref01_Textr4_W {T : Tab} {env : Env} {H : Heap} {Q : Post} : W T (.reg F_ref01_Textr4) env H Q ↔ WR T F_ref01_Textr4 [
  ⟨some 6, .mv (.t 0), none⟩,
  ⟨some 7, .bin .gtr (.t 6) (.c (.int .i64 0)), none⟩] env H none [] Q := w_reg
def F_ref01_Textr5 : List IStmt := [
  ⟨some 8, .mv (.t 0), none⟩,
  ⟨some 9, .bin .rem (.t 8) (.c (.int .i64 10)), none⟩,
  ⟨some 10, .bin .add (.c (.int .i64 48)) (.t 9), none⟩,
  ⟨some 11, .conv .u8 (.t 10), none⟩,
  ⟨some 12, .bsli 1 1 [.int .u8 0] [(0, (.t 11))], none⟩,
  ⟨some 13, .b2s (.t 12), none⟩,
  ⟨some 14, .mv (.t 3), none⟩,
  ⟨some 15, .bin .add (.t 13) (.t 14), none⟩,
  ⟨some 3, .mv (.t 15), none⟩]
theorem F_ref01_Textr5_W {T : Tab} {env : Env} {H : Heap} {Q : Post} : W T (.reg F_ref01_Textr5) env H Q ↔ WR T F_ref01_Textr5 [
  ⟨some 8, .mv (.t 0), none⟩,
  ⟨some 9, .bin .rem (.t 8) (.c (.int .i64 10)), none⟩,
  ⟨some 10, .bin .add (.c (.int .i64 48)) (.t 9), none⟩,
  ⟨some 11, .conv .u8 (.t 10), none⟩,
  ⟨some 12, .bsli 1 1 [.int .u8 0] [(0, (.t 11))], none⟩,
  ⟨some 13, .b2s (.t 12), none⟩,
  ⟨some 14, .mv (.t 3), none⟩,
  ⟨some 15, .bin .add (.t 13) (.t 14), none⟩,
  ⟨some 3, .mv (.t 15), none⟩] env H none [] Q := w_reg
def F_ref01_Textr6 : List IStmt := [
  ⟨some 16, .mv (.t 0), none⟩,
  ⟨some 17, .bin .quo (.t 16) (.c (.int .i64 10)), none⟩,
  ⟨some 0, .mv (.t 17), none⟩]
theorem F_ref01_Textr6_W {T : Tab} {env : Env} {H : Heap} {Q : Post} : W T (.reg F_ref01_Textr6) env H Q ↔ WR T F_ref01_Textr6 [
  ⟨some 16, .mv (.t 0), none⟩,
  ⟨some 17, .bin .quo (.t 16) (.c (.int .i64 10)), none⟩,
  ⟨some 0, .mv (.t 17), none⟩] env H none [] Q := w_reg
def F_ref01_Textl0 : ICode := (.seq (.seq (.reg F_ref01_Textr4) (.cond (.t 7) .skip (.exit 0))) (.block 1 (.seq (.reg F_ref01_Textr5) (.reg F_ref01_Textr6))))
theorem F_ref01_Textl0_W {T : Tab} {env : Env} {H : Heap} {Q : Post} : W T F_ref01_Textl0 env H Q ↔ W T (.seq (.seq (.reg F_ref01_Textr4) (.cond (.t 7) .skip (.exit 0))) (.block 1 (.seq (.reg F_ref01_Textr5) (.reg F_ref01_Textr6)))) env H Q := Iff.rfl
def F_ref01_Textr7 : List IStmt := [
  ⟨some 18, .mv (.t 3), none⟩,
  ⟨some 2, .mv (.t 18), none⟩]
theorem F_ref01_Textr7_W {T : Tab} {env : Env} {H : Heap} {Q : Post} : W T (.reg F_ref01_Textr7) env H Q ↔ WR T F_ref01_Textr7 [
  ⟨some 18, .mv (.t 3), none⟩,
  ⟨some 2, .mv (.t 18), none⟩] env H none [] Q := w_reg
def F_ref01_Textc : ICode := (.seq (.reg F_ref01_Textr0) (.seq (.seq (.reg F_ref01_Textr1) (.cond (.t 5) (.seq (.reg F_ref01_Textr2) .ret) .skip)) (.seq (.reg F_ref01_Textr3) (.seq (.block 0 (.loop F_ref01_Textl0)) (.seq (.reg F_ref01_Textr7) .ret)))))
theorem F_ref01_Textc_W {T : Tab} {env : Env} {H : Heap} {Q : Post} : W T F_ref01_Textc env H Q ↔ W T (.seq (.reg F_ref01_Textr0) (.seq (.seq (.reg F_ref01_Textr1) (.cond (.t 5) (.seq (.reg F_ref01_Textr2) .ret) .skip)) (.seq (.reg F_ref01_Textr3) (.seq (.block 0 (.loop F_ref01_Textl0)) (.seq (.reg F_ref01_Textr7) .ret))))) env H Q := Iff.rfl
def F_ref01_Text : IFn := ⟨19, [.tmp 2], F_ref01_Textc⟩
set_option maxRecDepth 1000000 in
theorem F_ref01_Text_chk : chkF Tryd.prog 24 F_ref01_Text = true := by kernel_rfl

/-! ### ref18_find -/
def F_ref18_findr0 : List IStmt := [
  ⟨some 4, .mv (.c (.int .i64 0)), none⟩]
theorem F_ref18_findr0_W {T : Tab} {env : Env} {H : Heap} {Q : Post} : W T (.reg F_ref18_findr0) env H Q ↔ WR T F_ref18_findr0 [
  ⟨some 4, .mv (.c (.int .i64 0)), none⟩] env H none [] Q := w_reg
def F_ref18_findr1 : List IStmt := [
  ⟨some 5, .mv (.c (.int .i64 0)), none⟩]
theorem F_ref18_findr1_W {T : Tab} {env : Env} {H : Heap} {Q : Post} : W T (.reg F_ref18_findr1) env H Q ↔ WR T F_ref18_findr1 [
  ⟨some 5, .mv (.c (.int .i64 0)), none⟩] env H none [] Q := w_reg
def F_ref18_findr2 : List IStmt := [
  ⟨some 6, .mv (.t 5), none⟩,
  ⟨some 7, .mv (.t 0), none⟩,
  ⟨some 8, .len 0 (.t 7), none⟩,
  ⟨some 9, .bin .lss (.t 6) (.t 8), none⟩]
theorem F_ref18_findr2_W {T : Tab} {env : Env} {H : Heap} {Q : Post} : W T (.reg F_ref18_findr2) env H Q ↔ WR T F_ref18_findr2 [
  ⟨some 6, .mv (.t 5), none⟩,
  ⟨some 7, .mv (.t 0), none⟩,
  ⟨some 8, .len 0 (.t 7), none⟩,
  ⟨some 9, .bin .lss (.t 6) (.t 8), none⟩] env H none [] Q := w_reg
def F_ref18_findr4 : List IStmt := [
  ⟨some 12, .mv (.t 0), none⟩,
  ⟨some 13, .mv (.t 5), none⟩,
  ⟨some 14, .ixs (.t 12) (.t 13), none⟩,
  ⟨some 15, .mv (.t 1), none⟩,
  ⟨some 16, .bin .eql (.t 14) (.t 15), none⟩]
theorem F_ref18_findr4_W {T : Tab} {env : Env} {H : Heap} {Q : Post} : W T (.reg F_ref18_findr4) env H Q ↔ WR T F_ref18_findr4 [
  ⟨some 12, .mv (.t 0), none⟩,
  ⟨some 13, .mv (.t 5), none⟩,
  ⟨some 14, .ixs (.t 12) (.t 13), none⟩,
  ⟨some 15, .mv (.t 1), none⟩,
  ⟨some 16, .bin .eql (.t 14) (.t 15), none⟩] env H none [] Q := w_reg
def F_ref18_findr5 : List IStmt := [
  ⟨some 17, .mv (.t 5), none⟩,
  ⟨some 4, .mv (.t 17), none⟩]
theorem F_ref18_findr5_W {T : Tab} {env : Env} {H : Heap} {Q : Post} : W T (.reg F_ref18_findr5) env H Q ↔ WR T F_ref18_findr5 [
  ⟨some 17, .mv (.t 5), none⟩,
  ⟨some 4, .mv (.t 17), none⟩] env H none [] Q := w_reg
def F_ref18_findr3 : List IStmt := [
  ⟨some 10, .mv (.t 5), none⟩,
  ⟨some 11, .bin .add (.t 10) (.c (.int .i64 1)), none⟩,
  ⟨some 5, .mv (.t 11), none⟩]
theorem F_ref18_findr3_W {T : Tab} {env : Env} {H : Heap} {Q : Post} : W T (.reg F_ref18_findr3) env H Q ↔ WR T F_ref18_findr3 [
  ⟨some 10, .mv (.t 5), none⟩,
  ⟨some 11, .bin .add (.t 10) (.c (.int .i64 1)), none⟩,
  ⟨some 5, .mv (.t 11), none⟩] env H none [] Q := w_reg
def F_ref18_findl0 : ICode := (.seq (.seq (.reg F_ref18_findr2) (.cond (.t 9) .skip (.exit 0))) (.seq (.block 1 (.seq (.reg F_ref18_findr4) (.cond (.t 16) (.seq (.reg F_ref18_findr5) .ret) .skip))) (.reg F_ref18_findr3)))
theorem F_ref18_findl0_W {T : Tab} {env : Env} {H : Heap} {Q : Post} : W T F_ref18_findl0 env H Q ↔ W T (.seq (.seq (.reg F_ref18_findr2) (.cond (.t 9) .skip (.exit 0))) (.seq (.block 1 (.seq (.reg F_ref18_findr4) (.cond (.t 16) (.seq (.reg F_ref18_findr5) .ret) .skip))) (.reg F_ref18_findr3))) env H Q := Iff.rfl
def F_ref18_findr6 : List IStmt := [
  ⟨some 4, .mv (.c (.int .i64 (-1))), none⟩]
theorem F_ref18_findr6_W {T : Tab} {env : Env} {H : Heap} {Q : Post} : W T (.reg F_ref18_findr6) env H Q ↔ WR T F_ref18_findr6 [
  ⟨some 4, .mv (.c (.int .i64 (-1))), none⟩] env H none [] Q := w_reg
def F_ref18_findc : ICode := (.seq (.reg F_ref18_findr0) (.seq (.seq (.reg F_ref18_findr1) (.block 0 (.loop F_ref18_findl0))) (.seq (.reg F_ref18_findr6) .ret)))
theorem F_ref18_findc_W {T : Tab} {env : Env} {H : Heap} {Q : Post} : W T F_ref18_findc env H Q ↔ W T (.seq (.reg F_ref18_findr0) (.seq (.seq (.reg F_ref18_findr1) (.block 0 (.loop F_ref18_findl0))) (.seq (.reg F_ref18_findr6) .ret))) env H Q := Iff.rfl
def F_ref18_find : IFn := ⟨18, [.tmp 4], F_ref18_findc⟩
set_option maxRecDepth 1000000 in
theorem F_ref18_find_chk : chkF Tryd.prog 23 F_ref18_find = true := by kernel_rfl

/-! ### ref18_Expand -/
def F_ref18_Expandr0 : List IStmt := [
  ⟨some 4, .mv (.c (.string ⟨#[]⟩)), none⟩,
  ⟨some 5, .mv (.c (.int .i64 0)), none⟩]
theorem F_ref18_Expandr0_W {T : Tab} {env : Env} {H : Heap} {Q : Post} : W T (.reg F_ref18_Expandr0) env H Q ↔ WR T F_ref18_Expandr0 [
  ⟨some 4, .mv (.c (.string ⟨#[]⟩)), none⟩,
  ⟨some 5, .mv (.c (.int .i64 0)), none⟩] env H none [] Q := w_reg
def F_ref18_Expandr1 : List IStmt := [
  ⟨some 6, .mv (.c (.string ⟨#[]⟩)), none⟩]
theorem F_ref18_Expandr1_W {T : Tab} {env : Env} {H : Heap} {Q : Post} : W T (.reg F_ref18_Expandr1) env H Q ↔ WR T F_ref18_Expandr1 [
  ⟨some 6, .mv (.c (.string ⟨#[]⟩)), none⟩] env H none [] Q := w_reg
def F_ref18_Expandr2 : List IStmt := [
  ⟨some 7, .mv (.c (.int .i64 0)), none⟩]
theorem F_ref18_Expandr2_W {T : Tab} {env : Env} {H : Heap} {Q : Post} : W T (.reg F_ref18_Expandr2) env H Q ↔ WR T F_ref18_Expandr2 [
  ⟨some 7, .mv (.c (.int .i64 0)), none⟩] env H none [] Q := w_reg
def F_ref18_Expandr3 : List IStmt := [
  ⟨some 9, .mv (.t 7), none⟩,
  ⟨some 10, .mv (.t 0), none⟩,
  ⟨some 11, .len 0 (.t 10), none⟩,
  ⟨some 12, .bin .lss (.t 9) (.t 11), none⟩]
theorem F_ref18_Expandr3_W {T : Tab} {env : Env} {H : Heap} {Q : Post} : W T (.reg F_ref18_Expandr3) env H Q ↔ WR T F_ref18_Expandr3 [
  ⟨some 9, .mv (.t 7), none⟩,
  ⟨some 10, .mv (.t 0), none⟩,
  ⟨some 11, .len 0 (.t 10), none⟩,
  ⟨some 12, .bin .lss (.t 9) (.t 11), none⟩] env H none [] Q := w_reg
def F_ref18_Expandr4 : List IStmt := [
  ⟨some 13, .mv (.t 0), none⟩,
  ⟨some 14, .mv (.t 7), none⟩,
  ⟨some 15, .ixs (.t 13) (.t 14), none⟩,
  ⟨some 16, .bin .neq (.t 15) (.c (.int .u8 36)), none⟩,
  ⟨some 17, .mv (.t 16), none⟩,
  ⟨some 18, .mv (.t 7), some (4, false)⟩,
  ⟨some 19, .bin .add (.t 18) (.c (.int .i64 1)), some (4, false)⟩,
  ⟨some 20, .mv (.t 0), some (4, false)⟩,
  ⟨some 21, .len 0 (.t 20), some (4, false)⟩,
  ⟨some 22, .bin .eql (.t 19) (.t 21), some (4, false)⟩,
  ⟨some 23, .pick (.t 17) (.c (.bool true)) (.t 22), none⟩,
  ⟨some 24, .mv (.t 23), none⟩,
  ⟨some 25, .mv (.t 0), some (11, false)⟩,
  ⟨some 26, .mv (.t 7), some (11, false)⟩,
  ⟨some 27, .bin .add (.t 26) (.c (.int .i64 1)), some (11, false)⟩,
  ⟨some 28, .ixs (.t 25) (.t 27), some (11, false)⟩,
  ⟨some 29, .bin .neq (.t 28) (.c (.int .u8 123)), some (11, false)⟩,
  ⟨some 30, .pick (.t 24) (.c (.bool true)) (.t 29), none⟩]
theorem F_ref18_Expandr4_W {T : Tab} {env : Env} {H : Heap} {Q : Post} : W T (.reg F_ref18_Expandr4) env H Q ↔ WR T F_ref18_Expandr4 [
  ⟨some 13, .mv (.t 0), none⟩,
  ⟨some 14, .mv (.t 7), none⟩,
  ⟨some 15, .ixs (.t 13) (.t 14), none⟩,
  ⟨some 16, .bin .neq (.t 15) (.c (.int .u8 36)), none⟩,
  ⟨some 17, .mv (.t 16), none⟩,
  ⟨some 18, .mv (.t 7), some (4, false)⟩,
  ⟨some 19, .bin .add (.t 18) (.c (.int .i64 1)), some (4, false)⟩,
  ⟨some 20, .mv (.t 0), some (4, false)⟩,
  ⟨some 21, .len 0 (.t 20), some (4, false)⟩,
  ⟨some 22, .bin .eql (.t 19) (.t 21), some (4, false)⟩,
  ⟨some 23, .pick (.t 17) (.c (.bool true)) (.t 22), none⟩,
  ⟨some 24, .mv (.t 23), none⟩,
  ⟨some 25, .mv (.t 0), some (11, false)⟩,
  ⟨some 26, .mv (.t 7), some (11, false)⟩,
  ⟨some 27, .bin .add (.t 26) (.c (.int .i64 1)), some (11, false)⟩,
  ⟨some 28, .ixs (.t 25) (.t 27), some (11, false)⟩,
  ⟨some 29, .bin .neq (.t 28) (.c (.int .u8 123)), some (11, false)⟩,
  ⟨some 30, .pick (.t 24) (.c (.bool true)) (.t 29), none⟩] env H none [] Q := w_reg
theorem F_ref18_Expandr4_g4 {env : Env} : yieldI F_ref18_Expandr4 env 4 = bOf (env 17) := rfl
theorem F_ref18_Expandr4_g11 {env : Env} : yieldI F_ref18_Expandr4 env 11 = bOf (env 24) := rfl
def F_ref18_Expandr5 : List IStmt := [
  ⟨some 31, .mv (.t 6), none⟩,
  ⟨some 32, .mv (.t 0), none⟩,
  ⟨some 33, .mv (.t 7), none⟩,
  ⟨some 34, .mv (.t 7), none⟩,
  ⟨some 35, .bin .add (.t 34) (.c (.int .i64 1)), none⟩,
  ⟨some 36, .sls (.t 32) (some (.t 33)) (some (.t 35)), none⟩,
  ⟨some 37, .bin .add (.t 31) (.t 36), none⟩,
  ⟨some 6, .mv (.t 37), none⟩]
theorem F_ref18_Expandr5_W {T : Tab} {env : Env} {H : Heap} {Q : Post} : W T (.reg F_ref18_Expandr5) env H Q ↔ WR T F_ref18_Expandr5 [
  ⟨some 31, .mv (.t 6), none⟩,
  ⟨some 32, .mv (.t 0), none⟩,
  ⟨some 33, .mv (.t 7), none⟩,
  ⟨some 34, .mv (.t 7), none⟩,
  ⟨some 35, .bin .add (.t 34) (.c (.int .i64 1)), none⟩,
  ⟨some 36, .sls (.t 32) (some (.t 33)) (some (.t 35)), none⟩,
  ⟨some 37, .bin .add (.t 31) (.t 36), none⟩,
  ⟨some 6, .mv (.t 37), none⟩] env H none [] Q := w_reg
def F_ref18_Expandr6 : List IStmt := [
  ⟨some 38, .mv (.t 7), none⟩,
  ⟨some 39, .bin .add (.t 38) (.c (.int .i64 1)), none⟩,
  ⟨some 7, .mv (.t 39), none⟩]
theorem F_ref18_Expandr6_W {T : Tab} {env : Env} {H : Heap} {Q : Post} : W T (.reg F_ref18_Expandr6) env H Q ↔ WR T F_ref18_Expandr6 [
  ⟨some 38, .mv (.t 7), none⟩,
  ⟨some 39, .bin .add (.t 38) (.c (.int .i64 1)), none⟩,
  ⟨some 7, .mv (.t 39), none⟩] env H none [] Q := w_reg
def F_ref18_Expandr7 : List IStmt := [
  ⟨some 40, .mv (.t 0), none⟩,
  ⟨some 41, .mv (.t 7), none⟩,
  ⟨some 42, .sls (.t 40) (some (.t 41)) none, none⟩,
  ⟨some 43, .callc 23 [(.t 42), (.c (.int .u8 125))], none⟩,
  ⟨some 8, .mv (.t 43), none⟩]
theorem F_ref18_Expandr7_W {T : Tab} {env : Env} {H : Heap} {Q : Post} : W T (.reg F_ref18_Expandr7) env H Q ↔ WR T F_ref18_Expandr7 [
  ⟨some 40, .mv (.t 0), none⟩,
  ⟨some 41, .mv (.t 7), none⟩,
  ⟨some 42, .sls (.t 40) (some (.t 41)) none, none⟩,
  ⟨some 43, .callc 23 [(.t 42), (.c (.int .u8 125))], none⟩,
  ⟨some 8, .mv (.t 43), none⟩] env H none [] Q := w_reg
def F_ref18_Expandr8 : List IStmt := [
  ⟨some 44, .mv (.t 8), none⟩,
  ⟨some 45, .bin .lss (.t 44) (.c (.int .i64 0)), none⟩]
theorem F_ref18_Expandr8_W {T : Tab} {env : Env} {H : Heap} {Q : Post} : W T (.reg F_ref18_Expandr8) env H Q ↔ WR T F_ref18_Expandr8 [
  ⟨some 44, .mv (.t 8), none⟩,
  ⟨some 45, .bin .lss (.t 44) (.c (.int .i64 0)), none⟩] env H none [] Q := w_reg
def F_ref18_Expandr9 : List IStmt := [
  ⟨some 4, .mv (.c (.string ⟨#[]⟩)), none⟩,
  ⟨some 5, .mv (.c (.int .i64 192)), none⟩]
theorem F_ref18_Expandr9_W {T : Tab} {env : Env} {H : Heap} {Q : Post} : W T (.reg F_ref18_Expandr9) env H Q ↔ WR T F_ref18_Expandr9 [
  ⟨some 4, .mv (.c (.string ⟨#[]⟩)), none⟩,
  ⟨some 5, .mv (.c (.int .i64 192)), none⟩] env H none [] Q := w_reg
def F_ref18_Expandr10 : List IStmt := [
  ⟨some 46, .mv (.t 0), none⟩,
  ⟨some 47, .mv (.t 7), none⟩,
  ⟨some 48, .bin .add (.t 47) (.c (.int .i64 2)), none⟩,
  ⟨some 49, .mv (.t 7), none⟩,
  ⟨some 50, .mv (.t 8), none⟩,
  ⟨some 51, .bin .add (.t 49) (.t 50), none⟩,
  ⟨some 52, .sls (.t 46) (some (.t 48)) (some (.t 51)), none⟩]
theorem F_ref18_Expandr10_W {T : Tab} {env : Env} {H : Heap} {Q : Post} : W T (.reg F_ref18_Expandr10) env H Q ↔ WR T F_ref18_Expandr10 [
  ⟨some 46, .mv (.t 0), none⟩,
  ⟨some 47, .mv (.t 7), none⟩,
  ⟨some 48, .bin .add (.t 47) (.c (.int .i64 2)), none⟩,
  ⟨some 49, .mv (.t 7), none⟩,
  ⟨some 50, .mv (.t 8), none⟩,
  ⟨some 51, .bin .add (.t 49) (.t 50), none⟩,
  ⟨some 52, .sls (.t 46) (some (.t 48)) (some (.t 51)), none⟩] env H none [] Q := w_reg
def F_ref18_Expandr12 : List IStmt := [
  ⟨some 54, .bin .eql (.t 52) (.c (.string ⟨#[76, 73, 66]⟩)), none⟩,
  ⟨some 53, .mv (.t 54), none⟩]
theorem F_ref18_Expandr12_W {T : Tab} {env : Env} {H : Heap} {Q : Post} : W T (.reg F_ref18_Expandr12) env H Q ↔ WR T F_ref18_Expandr12 [
  ⟨some 54, .bin .eql (.t 52) (.c (.string ⟨#[76, 73, 66]⟩)), none⟩,
  ⟨some 53, .mv (.t 54), none⟩] env H none [] Q := w_reg
def F_ref18_Expandr13 : List IStmt := [
  ⟨some 55, .mv (.t 6), none⟩,
  ⟨some 56, .bin .add (.t 55) (.c (.string ⟨#[108, 105, 98, 54, 52]⟩)), none⟩,
  ⟨some 6, .mv (.t 56), none⟩]
theorem F_ref18_Expandr13_W {T : Tab} {env : Env} {H : Heap} {Q : Post} : W T (.reg F_ref18_Expandr13) env H Q ↔ WR T F_ref18_Expandr13 [
  ⟨some 55, .mv (.t 6), none⟩,
  ⟨some 56, .bin .add (.t 55) (.c (.string ⟨#[108, 105, 98, 54, 52]⟩)), none⟩,
  ⟨some 6, .mv (.t 56), none⟩] env H none [] Q := w_reg
def F_ref18_Expandr14 : List IStmt := [
  ⟨some 58, .bin .eql (.t 52) (.c (.string ⟨#[76, 69, 86, 69, 76]⟩)), none⟩,
  ⟨some 57, .mv (.t 58), none⟩]
theorem F_ref18_Expandr14_W {T : Tab} {env : Env} {H : Heap} {Q : Post} : W T (.reg F_ref18_Expandr14) env H Q ↔ WR T F_ref18_Expandr14 [
  ⟨some 58, .bin .eql (.t 52) (.c (.string ⟨#[76, 69, 86, 69, 76]⟩)), none⟩,
  ⟨some 57, .mv (.t 58), none⟩] env H none [] Q := w_reg
def F_ref18_Expandr15 : List IStmt := [
  ⟨some 59, .mv (.t 6), none⟩,
  ⟨some 60, .mv (.t 1), none⟩,
  ⟨some 61, .callc 24 [(.t 60)], none⟩,
  ⟨some 62, .bin .add (.t 59) (.t 61), none⟩,
  ⟨some 6, .mv (.t 62), none⟩]
theorem F_ref18_Expandr15_W {T : Tab} {env : Env} {H : Heap} {Q : Post} : W T (.reg F_ref18_Expandr15) env H Q ↔ WR T F_ref18_Expandr15 [
  ⟨some 59, .mv (.t 6), none⟩,
  ⟨some 60, .mv (.t 1), none⟩,
  ⟨some 61, .callc 24 [(.t 60)], none⟩,
  ⟨some 62, .bin .add (.t 59) (.t 61), none⟩,
  ⟨some 6, .mv (.t 62), none⟩] env H none [] Q := w_reg
def F_ref18_Expandr11 : List IStmt := [
  ⟨some 4, .mv (.c (.string ⟨#[]⟩)), none⟩,
  ⟨some 5, .mv (.c (.int .i64 192)), none⟩]
theorem F_ref18_Expandr11_W {T : Tab} {env : Env} {H : Heap} {Q : Post} : W T (.reg F_ref18_Expandr11) env H Q ↔ WR T F_ref18_Expandr11 [
  ⟨some 4, .mv (.c (.string ⟨#[]⟩)), none⟩,
  ⟨some 5, .mv (.c (.int .i64 192)), none⟩] env H none [] Q := w_reg
def F_ref18_Expandr16 : List IStmt := [
  ⟨some 63, .mv (.t 7), none⟩,
  ⟨some 64, .mv (.t 8), none⟩,
  ⟨some 65, .bin .add (.t 64) (.c (.int .i64 1)), none⟩,
  ⟨some 66, .bin .add (.t 63) (.t 65), none⟩,
  ⟨some 7, .mv (.t 66), none⟩]
theorem F_ref18_Expandr16_W {T : Tab} {env : Env} {H : Heap} {Q : Post} : W T (.reg F_ref18_Expandr16) env H Q ↔ WR T F_ref18_Expandr16 [
  ⟨some 63, .mv (.t 7), none⟩,
  ⟨some 64, .mv (.t 8), none⟩,
  ⟨some 65, .bin .add (.t 64) (.c (.int .i64 1)), none⟩,
  ⟨some 66, .bin .add (.t 63) (.t 65), none⟩,
  ⟨some 7, .mv (.t 66), none⟩] env H none [] Q := w_reg
def F_ref18_Expandl0 : ICode := (.seq (.seq (.reg F_ref18_Expandr3) (.cond (.t 12) .skip (.exit 0))) (.block 1 (.seq (.seq (.reg F_ref18_Expandr4) (.cond (.t 30) (.seq (.reg F_ref18_Expandr5) (.seq (.reg F_ref18_Expandr6) (.exit 1))) .skip)) (.seq (.reg F_ref18_Expandr7) (.seq (.seq (.reg F_ref18_Expandr8) (.cond (.t 45) (.seq (.reg F_ref18_Expandr9) .ret) .skip)) (.seq (.seq (.reg F_ref18_Expandr10) (.block 2 (.seq (.reg F_ref18_Expandr12) (.cond (.t 53) (.reg F_ref18_Expandr13) (.seq (.reg F_ref18_Expandr14) (.cond (.t 57) (.reg F_ref18_Expandr15) (.seq (.reg F_ref18_Expandr11) .ret))))))) (.reg F_ref18_Expandr16)))))))
theorem F_ref18_Expandl0_W {T : Tab} {env : Env} {H : Heap} {Q : Post} : W T F_ref18_Expandl0 env H Q ↔ W T (.seq (.seq (.reg F_ref18_Expandr3) (.cond (.t 12) .skip (.exit 0))) (.block 1 (.seq (.seq (.reg F_ref18_Expandr4) (.cond (.t 30) (.seq (.reg F_ref18_Expandr5) (.seq (.reg F_ref18_Expandr6) (.exit 1))) .skip)) (.seq (.reg F_ref18_Expandr7) (.seq (.seq (.reg F_ref18_Expandr8) (.cond (.t 45) (.seq (.reg F_ref18_Expandr9) .ret) .skip)) (.seq (.seq (.reg F_ref18_Expandr10) (.block 2 (.seq (.reg F_ref18_Expandr12) (.cond (.t 53) (.reg F_ref18_Expandr13) (.seq (.reg F_ref18_Expandr14) (.cond (.t 57) (.reg F_ref18_Expandr15) (.seq (.reg F_ref18_Expandr11) .ret))))))) (.reg F_ref18_Expandr16))))))) env H Q := Iff.rfl
def F_ref18_Expandr17 : List IStmt := [
  ⟨some 67, .mv (.t 6), none⟩,
  ⟨some 4, .mv (.t 67), none⟩,
  ⟨some 5, .mv (.c (.int .i64 0)), none⟩]
theorem F_ref18_Expandr17_W {T : Tab} {env : Env} {H : Heap} {Q : Post} : W T (.reg F_ref18_Expandr17) env H Q ↔ WR T F_ref18_Expandr17 [
  ⟨some 67, .mv (.t 6), none⟩,
  ⟨some 4, .mv (.t 67), none⟩,
  ⟨some 5, .mv (.c (.int .i64 0)), none⟩] env H none [] Q := w_reg
def F_ref18_Expandc : ICode := (.seq (.reg F_ref18_Expandr0) (.seq (.reg F_ref18_Expandr1) (.seq (.seq (.reg F_ref18_Expandr2) (.block 0 (.loop F_ref18_Expandl0))) (.seq (.reg F_ref18_Expandr17) .ret))))
theorem F_ref18_Expandc_W {T : Tab} {env : Env} {H : Heap} {Q : Post} : W T F_ref18_Expandc env H Q ↔ W T (.seq (.reg F_ref18_Expandr0) (.seq (.reg F_ref18_Expandr1) (.seq (.seq (.reg F_ref18_Expandr2) (.block 0 (.loop F_ref18_Expandl0))) (.seq (.reg F_ref18_Expandr17) .ret)))) env H Q := Iff.rfl
def F_ref18_Expand : IFn := ⟨68, [.tmp 4, .tmp 5], F_ref18_Expandc⟩
set_option maxRecDepth 1000000 in
theorem F_ref18_Expand_chk : chkF Tryd.prog 13 F_ref18_Expand = true := by kernel_rfl

/-! ### conf_Expand -/
def F_conf_Expandr0 : List IStmt := [
  ⟨some 4, .mv (.c (.string ⟨#[]⟩)), none⟩,
  ⟨some 5, .mv (.c (.int .i64 0)), none⟩]
theorem F_conf_Expandr0_W {T : Tab} {env : Env} {H : Heap} {Q : Post} : W T (.reg F_conf_Expandr0) env H Q ↔ WR T F_conf_Expandr0 [
  ⟨some 4, .mv (.c (.string ⟨#[]⟩)), none⟩,
  ⟨some 5, .mv (.c (.int .i64 0)), none⟩] env H none [] Q := w_reg
def F_conf_Expandr1 : List IStmt := [
  ⟨some 6, .alloc 1000000060 [.pointer none, .slice none 0 0], none⟩]
theorem F_conf_Expandr1_W {T : Tab} {env : Env} {H : Heap} {Q : Post} : W T (.reg F_conf_Expandr1) env H Q ↔ WR T F_conf_Expandr1 [
  ⟨some 6, .alloc 1000000060 [.pointer none, .slice none 0 0], none⟩] env H none [] Q := w_reg
def F_conf_Expandr2 : List IStmt := [
  ⟨some 14, .mv (.t 0), none⟩,
  ⟨some 15, .callc 15 [(.t 14), (.c (.string ⟨#[36, 123]⟩))], none⟩,
  ⟨some 13, .mv (.t 15), none⟩,
  ⟨some 16, .ext (.t 13) 0, none⟩,
  ⟨some 17, .ext (.t 13) 1, none⟩,
  ⟨some 18, .ext (.t 13) 2, none⟩,
  ⟨some 7, .mv (.t 16), none⟩,
  ⟨some 8, .mv (.t 17), none⟩,
  ⟨some 9, .mv (.t 18), none⟩]
theorem F_conf_Expandr2_W {T : Tab} {env : Env} {H : Heap} {Q : Post} : W T (.reg F_conf_Expandr2) env H Q ↔ WR T F_conf_Expandr2 [
  ⟨some 14, .mv (.t 0), none⟩,
  ⟨some 15, .callc 15 [(.t 14), (.c (.string ⟨#[36, 123]⟩))], none⟩,
  ⟨some 13, .mv (.t 15), none⟩,
  ⟨some 16, .ext (.t 13) 0, none⟩,
  ⟨some 17, .ext (.t 13) 1, none⟩,
  ⟨some 18, .ext (.t 13) 2, none⟩,
  ⟨some 7, .mv (.t 16), none⟩,
  ⟨some 8, .mv (.t 17), none⟩,
  ⟨some 9, .mv (.t 18), none⟩] env H none [] Q := w_reg
def F_conf_Expandr3 : List IStmt := [
  ⟨some 19, .mv (.t 7), none⟩,
  ⟨some 20, .call 20 [(.t 6), (.t 19)], none⟩]
theorem F_conf_Expandr3_W {T : Tab} {env : Env} {H : Heap} {Q : Post} : W T (.reg F_conf_Expandr3) env H Q ↔ WR T F_conf_Expandr3 [
  ⟨some 19, .mv (.t 7), none⟩,
  ⟨some 20, .call 20 [(.t 6), (.t 19)], none⟩] env H none [] Q := w_reg
def F_conf_Expandr4 : List IStmt := [
  ⟨some 21, .mv (.t 9), none⟩,
  ⟨some 22, .un .not (.t 21), none⟩]
theorem F_conf_Expandr4_W {T : Tab} {env : Env} {H : Heap} {Q : Post} : W T (.reg F_conf_Expandr4) env H Q ↔ WR T F_conf_Expandr4 [
  ⟨some 21, .mv (.t 9), none⟩,
  ⟨some 22, .un .not (.t 21), none⟩] env H none [] Q := w_reg
def F_conf_Expandr5 : List IStmt := [
  ⟨some 23, .call 21 [(.t 6)], none⟩,
  ⟨some 4, .mv (.t 23), none⟩,
  ⟨some 5, .mv (.c (.int .i64 0)), none⟩]
theorem F_conf_Expandr5_W {T : Tab} {env : Env} {H : Heap} {Q : Post} : W T (.reg F_conf_Expandr5) env H Q ↔ WR T F_conf_Expandr5 [
  ⟨some 23, .call 21 [(.t 6)], none⟩,
  ⟨some 4, .mv (.t 23), none⟩,
  ⟨some 5, .mv (.c (.int .i64 0)), none⟩] env H none [] Q := w_reg
def F_conf_Expandr6 : List IStmt := [
  ⟨some 25, .mv (.t 8), none⟩,
  ⟨some 26, .callc 15 [(.t 25), (.c (.string ⟨#[125]⟩))], none⟩,
  ⟨some 24, .mv (.t 26), none⟩,
  ⟨some 27, .ext (.t 24) 0, none⟩,
  ⟨some 28, .ext (.t 24) 1, none⟩,
  ⟨some 29, .ext (.t 24) 2, none⟩,
  ⟨some 10, .mv (.t 27), none⟩,
  ⟨some 11, .mv (.t 28), none⟩,
  ⟨some 12, .mv (.t 29), none⟩]
theorem F_conf_Expandr6_W {T : Tab} {env : Env} {H : Heap} {Q : Post} : W T (.reg F_conf_Expandr6) env H Q ↔ WR T F_conf_Expandr6 [
  ⟨some 25, .mv (.t 8), none⟩,
  ⟨some 26, .callc 15 [(.t 25), (.c (.string ⟨#[125]⟩))], none⟩,
  ⟨some 24, .mv (.t 26), none⟩,
  ⟨some 27, .ext (.t 24) 0, none⟩,
  ⟨some 28, .ext (.t 24) 1, none⟩,
  ⟨some 29, .ext (.t 24) 2, none⟩,
  ⟨some 10, .mv (.t 27), none⟩,
  ⟨some 11, .mv (.t 28), none⟩,
  ⟨some 12, .mv (.t 29), none⟩] env H none [] Q := w_reg
def F_conf_Expandr8 : List IStmt := [
  ⟨some 31, .mv (.t 12), none⟩,
  ⟨some 32, .mv (.t 31), none⟩,
  ⟨some 33, .mv (.t 10), some (1, true)⟩,
  ⟨some 34, .bin .eql (.t 33) (.c (.string ⟨#[76, 73, 66]⟩)), some (1, true)⟩,
  ⟨some 35, .pick (.t 32) (.t 34) (.c (.bool false)), none⟩,
  ⟨some 30, .mv (.t 35), none⟩]
theorem F_conf_Expandr8_W {T : Tab} {env : Env} {H : Heap} {Q : Post} : W T (.reg F_conf_Expandr8) env H Q ↔ WR T F_conf_Expandr8 [
  ⟨some 31, .mv (.t 12), none⟩,
  ⟨some 32, .mv (.t 31), none⟩,
  ⟨some 33, .mv (.t 10), some (1, true)⟩,
  ⟨some 34, .bin .eql (.t 33) (.c (.string ⟨#[76, 73, 66]⟩)), some (1, true)⟩,
  ⟨some 35, .pick (.t 32) (.t 34) (.c (.bool false)), none⟩,
  ⟨some 30, .mv (.t 35), none⟩] env H none [] Q := w_reg
theorem F_conf_Expandr8_g1 {env : Env} : yieldI F_conf_Expandr8 env 1 = bOf (env 32) := rfl
def F_conf_Expandr9 : List IStmt := [
  ⟨some 36, .call 20 [(.t 6), (.c (.string ⟨#[108, 105, 98, 54, 52]⟩))], none⟩]
theorem F_conf_Expandr9_W {T : Tab} {env : Env} {H : Heap} {Q : Post} : W T (.reg F_conf_Expandr9) env H Q ↔ WR T F_conf_Expandr9 [
  ⟨some 36, .call 20 [(.t 6), (.c (.string ⟨#[108, 105, 98, 54, 52]⟩))], none⟩] env H none [] Q := w_reg
def F_conf_Expandr10 : List IStmt := [
  ⟨some 38, .mv (.t 12), none⟩,
  ⟨some 39, .mv (.t 38), none⟩,
  ⟨some 40, .mv (.t 10), some (1, true)⟩,
  ⟨some 41, .bin .eql (.t 40) (.c (.string ⟨#[76, 69, 86, 69, 76]⟩)), some (1, true)⟩,
  ⟨some 42, .pick (.t 39) (.t 41) (.c (.bool false)), none⟩,
  ⟨some 37, .mv (.t 42), none⟩]
theorem F_conf_Expandr10_W {T : Tab} {env : Env} {H : Heap} {Q : Post} : W T (.reg F_conf_Expandr10) env H Q ↔ WR T F_conf_Expandr10 [
  ⟨some 38, .mv (.t 12), none⟩,
  ⟨some 39, .mv (.t 38), none⟩,
  ⟨some 40, .mv (.t 10), some (1, true)⟩,
  ⟨some 41, .bin .eql (.t 40) (.c (.string ⟨#[76, 69, 86, 69, 76]⟩)), some (1, true)⟩,
  ⟨some 42, .pick (.t 39) (.t 41) (.c (.bool false)), none⟩,
  ⟨some 37, .mv (.t 42), none⟩] env H none [] Q := w_reg
theorem F_conf_Expandr10_g1 {env : Env} : yieldI F_conf_Expandr10 env 1 = bOf (env 39) := rfl
def F_conf_Expandr11 : List IStmt := [
  ⟨some 43, .mv (.t 1), none⟩,
  ⟨some 44, .callc 22 [(.t 43)], none⟩,
  ⟨some 45, .call 20 [(.t 6), (.t 44)], none⟩]
theorem F_conf_Expandr11_W {T : Tab} {env : Env} {H : Heap} {Q : Post} : W T (.reg F_conf_Expandr11) env H Q ↔ WR T F_conf_Expandr11 [
  ⟨some 43, .mv (.t 1), none⟩,
  ⟨some 44, .callc 22 [(.t 43)], none⟩,
  ⟨some 45, .call 20 [(.t 6), (.t 44)], none⟩] env H none [] Q := w_reg
def F_conf_Expandr7 : List IStmt := [
  ⟨some 4, .mv (.c (.string ⟨#[]⟩)), none⟩,
  ⟨some 5, .mv (.c (.int .i64 192)), none⟩]
theorem F_conf_Expandr7_W {T : Tab} {env : Env} {H : Heap} {Q : Post} : W T (.reg F_conf_Expandr7) env H Q ↔ WR T F_conf_Expandr7 [
  ⟨some 4, .mv (.c (.string ⟨#[]⟩)), none⟩,
  ⟨some 5, .mv (.c (.int .i64 192)), none⟩] env H none [] Q := w_reg
def F_conf_Expandr12 : List IStmt := [
  ⟨some 46, .mv (.t 11), none⟩,
  ⟨some 0, .mv (.t 46), none⟩]
theorem F_conf_Expandr12_W {T : Tab} {env : Env} {H : Heap} {Q : Post} : W T (.reg F_conf_Expandr12) env H Q ↔ WR T F_conf_Expandr12 [
  ⟨some 46, .mv (.t 11), none⟩,
  ⟨some 0, .mv (.t 46), none⟩] env H none [] Q := w_reg
def F_conf_Expandl0 : ICode := (.block 1 (.seq (.reg F_conf_Expandr2) (.seq (.reg F_conf_Expandr3) (.seq (.seq (.reg F_conf_Expandr4) (.cond (.t 22) (.seq (.reg F_conf_Expandr5) .ret) .skip)) (.seq (.reg F_conf_Expandr6) (.seq (.block 2 (.seq (.reg F_conf_Expandr8) (.cond (.t 30) (.reg F_conf_Expandr9) (.seq (.reg F_conf_Expandr10) (.cond (.t 37) (.reg F_conf_Expandr11) (.seq (.reg F_conf_Expandr7) .ret)))))) (.reg F_conf_Expandr12)))))))
theorem F_conf_Expandl0_W {T : Tab} {env : Env} {H : Heap} {Q : Post} : W T F_conf_Expandl0 env H Q ↔ W T (.block 1 (.seq (.reg F_conf_Expandr2) (.seq (.reg F_conf_Expandr3) (.seq (.seq (.reg F_conf_Expandr4) (.cond (.t 22) (.seq (.reg F_conf_Expandr5) .ret) .skip)) (.seq (.reg F_conf_Expandr6) (.seq (.block 2 (.seq (.reg F_conf_Expandr8) (.cond (.t 30) (.reg F_conf_Expandr9) (.seq (.reg F_conf_Expandr10) (.cond (.t 37) (.reg F_conf_Expandr11) (.seq (.reg F_conf_Expandr7) .ret)))))) (.reg F_conf_Expandr12))))))) env H Q := Iff.rfl
def F_conf_Expandc : ICode := (.seq (.reg F_conf_Expandr0) (.seq (.reg F_conf_Expandr1) (.block 0 (.loop F_conf_Expandl0))))
theorem F_conf_Expandc_W {T : Tab} {env : Env} {H : Heap} {Q : Post} : W T F_conf_Expandc env H Q ↔ W T (.seq (.reg F_conf_Expandr0) (.seq (.reg F_conf_Expandr1) (.block 0 (.loop F_conf_Expandl0)))) env H Q := Iff.rfl
def F_conf_Expand : IFn := ⟨47, [.tmp 4, .tmp 5], F_conf_Expandc⟩
set_option maxRecDepth 1000000 in
theorem F_conf_Expand_chk : chkF Tryd.prog 12 F_conf_Expand = true := by kernel_rfl

/-! ### law18_ConfExpands -/
def F_law18_ConfExpandsr0 : List IStmt := [
  ⟨some 4, .mv (.c (.bool false)), none⟩]
theorem F_law18_ConfExpandsr0_W {T : Tab} {env : Env} {H : Heap} {Q : Post} : W T (.reg F_law18_ConfExpandsr0) env H Q ↔ WR T F_law18_ConfExpandsr0 [
  ⟨some 4, .mv (.c (.bool false)), none⟩] env H none [] Q := w_reg
def F_law18_ConfExpandsr1 : List IStmt := [
  ⟨some 9, .mv (.t 0), none⟩,
  ⟨some 10, .len 0 (.t 9), none⟩,
  ⟨some 11, .bin .gtr (.t 10) (.c (.int .i64 4096)), none⟩]
theorem F_law18_ConfExpandsr1_W {T : Tab} {env : Env} {H : Heap} {Q : Post} : W T (.reg F_law18_ConfExpandsr1) env H Q ↔ WR T F_law18_ConfExpandsr1 [
  ⟨some 9, .mv (.t 0), none⟩,
  ⟨some 10, .len 0 (.t 9), none⟩,
  ⟨some 11, .bin .gtr (.t 10) (.c (.int .i64 4096)), none⟩] env H none [] Q := w_reg
def F_law18_ConfExpandsr2 : List IStmt := [
  ⟨some 4, .mv (.c (.bool true)), none⟩]
theorem F_law18_ConfExpandsr2_W {T : Tab} {env : Env} {H : Heap} {Q : Post} : W T (.reg F_law18_ConfExpandsr2) env H Q ↔ WR T F_law18_ConfExpandsr2 [
  ⟨some 4, .mv (.c (.bool true)), none⟩] env H none [] Q := w_reg
def F_law18_ConfExpandsr3 : List IStmt := [
  ⟨some 13, .mv (.t 0), none⟩,
  ⟨some 14, .mv (.t 1), none⟩,
  ⟨some 15, .callc 12 [(.t 13), (.t 14)], none⟩,
  ⟨some 12, .mv (.t 15), none⟩,
  ⟨some 16, .ext (.t 12) 0, none⟩,
  ⟨some 17, .ext (.t 12) 1, none⟩,
  ⟨some 5, .mv (.t 16), none⟩,
  ⟨some 6, .mv (.t 17), none⟩]
theorem F_law18_ConfExpandsr3_W {T : Tab} {env : Env} {H : Heap} {Q : Post} : W T (.reg F_law18_ConfExpandsr3) env H Q ↔ WR T F_law18_ConfExpandsr3 [
  ⟨some 13, .mv (.t 0), none⟩,
  ⟨some 14, .mv (.t 1), none⟩,
  ⟨some 15, .callc 12 [(.t 13), (.t 14)], none⟩,
  ⟨some 12, .mv (.t 15), none⟩,
  ⟨some 16, .ext (.t 12) 0, none⟩,
  ⟨some 17, .ext (.t 12) 1, none⟩,
  ⟨some 5, .mv (.t 16), none⟩,
  ⟨some 6, .mv (.t 17), none⟩] env H none [] Q := w_reg
def F_law18_ConfExpandsr4 : List IStmt := [
  ⟨some 19, .mv (.t 0), none⟩,
  ⟨some 20, .mv (.t 1), none⟩,
  ⟨some 21, .callc 13 [(.t 19), (.t 20)], none⟩,
  ⟨some 18, .mv (.t 21), none⟩,
  ⟨some 22, .ext (.t 18) 0, none⟩,
  ⟨some 23, .ext (.t 18) 1, none⟩,
  ⟨some 7, .mv (.t 22), none⟩,
  ⟨some 8, .mv (.t 23), none⟩]
theorem F_law18_ConfExpandsr4_W {T : Tab} {env : Env} {H : Heap} {Q : Post} : W T (.reg F_law18_ConfExpandsr4) env H Q ↔ WR T F_law18_ConfExpandsr4 [
  ⟨some 19, .mv (.t 0), none⟩,
  ⟨some 20, .mv (.t 1), none⟩,
  ⟨some 21, .callc 13 [(.t 19), (.t 20)], none⟩,
  ⟨some 18, .mv (.t 21), none⟩,
  ⟨some 22, .ext (.t 18) 0, none⟩,
  ⟨some 23, .ext (.t 18) 1, none⟩,
  ⟨some 7, .mv (.t 22), none⟩,
  ⟨some 8, .mv (.t 23), none⟩] env H none [] Q := w_reg
def F_law18_ConfExpandsr5 : List IStmt := [
  ⟨some 24, .mv (.t 5), none⟩,
  ⟨some 25, .mv (.t 7), none⟩,
  ⟨some 26, .bin .eql (.t 24) (.t 25), none⟩,
  ⟨some 27, .mv (.t 26), none⟩,
  ⟨some 28, .mv (.t 6), some (3, true)⟩,
  ⟨some 29, .mv (.t 8), some (3, true)⟩,
  ⟨some 30, .bin .eql (.t 28) (.t 29), some (3, true)⟩,
  ⟨some 31, .pick (.t 27) (.t 30) (.c (.bool false)), none⟩,
  ⟨some 32, .mv (.t 31), none⟩,
  ⟨some 33, .callc 9 [], some (8, true)⟩,
  ⟨some 34, .pick (.t 32) (.t 33) (.c (.bool false)), none⟩,
  ⟨some 4, .mv (.t 34), none⟩]
theorem F_law18_ConfExpandsr5_W {T : Tab} {env : Env} {H : Heap} {Q : Post} : W T (.reg F_law18_ConfExpandsr5) env H Q ↔ WR T F_law18_ConfExpandsr5 [
  ⟨some 24, .mv (.t 5), none⟩,
  ⟨some 25, .mv (.t 7), none⟩,
  ⟨some 26, .bin .eql (.t 24) (.t 25), none⟩,
  ⟨some 27, .mv (.t 26), none⟩,
  ⟨some 28, .mv (.t 6), some (3, true)⟩,
  ⟨some 29, .mv (.t 8), some (3, true)⟩,
  ⟨some 30, .bin .eql (.t 28) (.t 29), some (3, true)⟩,
  ⟨some 31, .pick (.t 27) (.t 30) (.c (.bool false)), none⟩,
  ⟨some 32, .mv (.t 31), none⟩,
  ⟨some 33, .callc 9 [], some (8, true)⟩,
  ⟨some 34, .pick (.t 32) (.t 33) (.c (.bool false)), none⟩,
  ⟨some 4, .mv (.t 34), none⟩] env H none [] Q := w_reg
theorem F_law18_ConfExpandsr5_g3 {env : Env} : yieldI F_law18_ConfExpandsr5 env 3 = bOf (env 27) := rfl
theorem F_law18_ConfExpandsr5_g8 {env : Env} : yieldI F_law18_ConfExpandsr5 env 8 = bOf (env 32) := rfl
def F_law18_ConfExpandsc : ICode := (.seq (.reg F_law18_ConfExpandsr0) (.seq (.seq (.reg F_law18_ConfExpandsr1) (.cond (.t 11) (.seq (.reg F_law18_ConfExpandsr2) .ret) .skip)) (.seq (.reg F_law18_ConfExpandsr3) (.seq (.reg F_law18_ConfExpandsr4) (.seq (.reg F_law18_ConfExpandsr5) .ret)))))
theorem F_law18_ConfExpandsc_W {T : Tab} {env : Env} {H : Heap} {Q : Post} : W T F_law18_ConfExpandsc env H Q ↔ W T (.seq (.reg F_law18_ConfExpandsr0) (.seq (.seq (.reg F_law18_ConfExpandsr1) (.cond (.t 11) (.seq (.reg F_law18_ConfExpandsr2) .ret) .skip)) (.seq (.reg F_law18_ConfExpandsr3) (.seq (.reg F_law18_ConfExpandsr4) (.seq (.reg F_law18_ConfExpandsr5) .ret))))) env H Q := Iff.rfl
def F_law18_ConfExpands : IFn := ⟨35, [.tmp 4], F_law18_ConfExpandsc⟩
set_option maxRecDepth 1000000 in
theorem F_law18_ConfExpands_chk : chkF Tryd.prog 5 F_law18_ConfExpands = true := by kernel_rfl

/-- The functions, by number. -/
def TCe_l : List (Nat × IFn) := TCf_l ++ TBld_l ++ [(22, F_num_Text), (24, F_ref01_Text), (23, F_ref18_find), (13, F_ref18_Expand), (12, F_conf_Expand), (5, F_law18_ConfExpands)]
def TCe : Tab := tabN TCe_l natCf
theorem TCe_chk : ∀ p ∈ TCe_l, chkF Tryd.prog p.1 p.2 = true := by
  intro p hp
  simp only [TCe_l, List.mem_append, List.mem_cons, List.not_mem_nil, or_false] at hp
  rcases hp with ((hp) | hp) | rfl | rfl | rfl | rfl | rfl | rfl
  · exact TCf_chk p hp
  · exact TBld_chk p hp
  · exact F_num_Text_chk
  · exact F_ref01_Text_chk
  · exact F_ref18_find_chk
  · exact F_ref18_Expand_chk
  · exact F_conf_Expand_chk
  · exact F_law18_ConfExpands_chk
theorem TCe_good : Fw.Good Tryd.prog TCe := good_tabN (by kernel_rfl) TCe_chk natCf_ok

end Go.Proofs.YtbhoaiacnoiocaaDoor
