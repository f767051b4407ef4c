/- The small language's text of functions of the given program, and the check that it stands for them. Printed by a program. -/
import Derived.Test.YtdkdifjjpbfohaaFw24
import Derived.Test.YtdkdifjjpbfohaaChecked
import Derived.Test.YtdkdifjjpbfohaaIrLeb
import Derived.KernelRfl
namespace Go.Proofs.Ytdkdifjjpbfohaa
open Go Fw

/-! ### aps_Decode -/
def F_aps_Decoder0 : List IStmt := [
  ⟨some 4, .mv (.c (.slice none 0 0)), none⟩,
  ⟨some 5, .mv (.c (.int .i64 0)), none⟩]
theorem F_aps_Decoder0_W {T : Tab} {env : Env} {H : Heap} {Q : Post} : W T (.reg F_aps_Decoder0) env H Q ↔ WR T F_aps_Decoder0 [
  ⟨some 4, .mv (.c (.slice none 0 0)), none⟩,
  ⟨some 5, .mv (.c (.int .i64 0)), none⟩] env H none [] Q := w_reg
def F_aps_Decoder1 : List IStmt := [
  ⟨some 8, .mv (.t 0), none⟩,
  ⟨some 9, .len 1 (.t 8), none⟩,
  ⟨some 10, .bin .lss (.t 9) (.c (.int .i64 4)), none⟩,
  ⟨some 11, .mv (.t 10), none⟩,
  ⟨some 12, .mv (.t 0), some (3, false)⟩,
  ⟨some 13, .sle 1 (.t 12) none (some (.c (.int .i64 4))) none, some (3, false)⟩,
  ⟨some 14, .b2s (.t 13), some (3, false)⟩,
  ⟨some 15, .bin .neq (.t 14) (.c (.string ⟨#[65, 80, 83, 50]⟩)), some (3, false)⟩,
  ⟨some 16, .pick (.t 11) (.c (.bool true)) (.t 15), none⟩]
theorem F_aps_Decoder1_W {T : Tab} {env : Env} {H : Heap} {Q : Post} : W T (.reg F_aps_Decoder1) env H Q ↔ WR T F_aps_Decoder1 [
  ⟨some 8, .mv (.t 0), none⟩,
  ⟨some 9, .len 1 (.t 8), none⟩,
  ⟨some 10, .bin .lss (.t 9) (.c (.int .i64 4)), none⟩,
  ⟨some 11, .mv (.t 10), none⟩,
  ⟨some 12, .mv (.t 0), some (3, false)⟩,
  ⟨some 13, .sle 1 (.t 12) none (some (.c (.int .i64 4))) none, some (3, false)⟩,
  ⟨some 14, .b2s (.t 13), some (3, false)⟩,
  ⟨some 15, .bin .neq (.t 14) (.c (.string ⟨#[65, 80, 83, 50]⟩)), some (3, false)⟩,
  ⟨some 16, .pick (.t 11) (.c (.bool true)) (.t 15), none⟩] env H none [] Q := w_reg
theorem F_aps_Decoder1_g3 {env : Env} : yieldI F_aps_Decoder1 env 3 = bOf (env 11) := rfl
def F_aps_Decoder2 : List IStmt := [
  ⟨some 4, .mv (.c (.slice none 0 0)), none⟩,
  ⟨some 5, .mv (.c (.int .i64 140)), none⟩]
theorem F_aps_Decoder2_W {T : Tab} {env : Env} {H : Heap} {Q : Post} : W T (.reg F_aps_Decoder2) env H Q ↔ WR T F_aps_Decoder2 [
  ⟨some 4, .mv (.c (.slice none 0 0)), none⟩,
  ⟨some 5, .mv (.c (.int .i64 140)), none⟩] env H none [] Q := w_reg
def F_aps_Decoder3 : List IStmt := [
  ⟨some 17, .mv (.t 0), none⟩,
  ⟨some 18, .sle 1 (.t 17) (some (.c (.int .i64 4))) none none, none⟩,
  ⟨some 19, .call 17 [(.t 18)], none⟩,
  ⟨some 20, .mv (.t 1), none⟩,
  ⟨some 21, .bld [.pointer none, .bool false, .int .u64 0, .int .i64 0, .slice none 0 0] [(0, 1, (.t 19)), (1, 1, (.t 20))], none⟩,
  ⟨some 22, .box 5 (.t 21), none⟩,
  ⟨some 6, .mv (.t 22), none⟩]
theorem F_aps_Decoder3_W {T : Tab} {env : Env} {H : Heap} {Q : Post} : W T (.reg F_aps_Decoder3) env H Q ↔ WR T F_aps_Decoder3 [
  ⟨some 17, .mv (.t 0), none⟩,
  ⟨some 18, .sle 1 (.t 17) (some (.c (.int .i64 4))) none none, none⟩,
  ⟨some 19, .call 17 [(.t 18)], none⟩,
  ⟨some 20, .mv (.t 1), none⟩,
  ⟨some 21, .bld [.pointer none, .bool false, .int .u64 0, .int .i64 0, .slice none 0 0] [(0, 1, (.t 19)), (1, 1, (.t 20))], none⟩,
  ⟨some 22, .box 5 (.t 21), none⟩,
  ⟨some 6, .mv (.t 22), none⟩] env H none [] Q := w_reg
def F_aps_Decoder4 : List IStmt := [
  ⟨some 23, .mv (.t 6), none⟩,
  ⟨some 24, .nilc (.t 23), none⟩,
  ⟨some 25, .fa 0 (.t 24), none⟩,
  ⟨some 26, .load (.t 25), none⟩,
  ⟨some 27, .call 19 [(.t 26)], none⟩,
  ⟨some 7, .mv (.t 27), none⟩]
theorem F_aps_Decoder4_W {T : Tab} {env : Env} {H : Heap} {Q : Post} : W T (.reg F_aps_Decoder4) env H Q ↔ WR T F_aps_Decoder4 [
  ⟨some 23, .mv (.t 6), none⟩,
  ⟨some 24, .nilc (.t 23), none⟩,
  ⟨some 25, .fa 0 (.t 24), none⟩,
  ⟨some 26, .load (.t 25), none⟩,
  ⟨some 27, .call 19 [(.t 26)], none⟩,
  ⟨some 7, .mv (.t 27), none⟩] env H none [] Q := w_reg
def F_aps_Decoder5 : List IStmt := [
  ⟨some 28, .mv (.t 6), none⟩,
  ⟨some 29, .mv (.t 6), none⟩,
  ⟨some 30, .nilc (.t 29), none⟩,
  ⟨some 31, .fa 0 (.t 30), none⟩,
  ⟨some 32, .load (.t 31), none⟩,
  ⟨some 33, .call 19 [(.t 32)], none⟩,
  ⟨some 34, .conv .u64 (.t 33), none⟩,
  ⟨some 35, .nilc (.t 28), none⟩,
  ⟨some 36, .fa 2 (.t 35), none⟩,
  ⟨none, .store 1 (.t 36) (.t 34), none⟩]
theorem F_aps_Decoder5_W {T : Tab} {env : Env} {H : Heap} {Q : Post} : W T (.reg F_aps_Decoder5) env H Q ↔ WR T F_aps_Decoder5 [
  ⟨some 28, .mv (.t 6), none⟩,
  ⟨some 29, .mv (.t 6), none⟩,
  ⟨some 30, .nilc (.t 29), none⟩,
  ⟨some 31, .fa 0 (.t 30), none⟩,
  ⟨some 32, .load (.t 31), none⟩,
  ⟨some 33, .call 19 [(.t 32)], none⟩,
  ⟨some 34, .conv .u64 (.t 33), none⟩,
  ⟨some 35, .nilc (.t 28), none⟩,
  ⟨some 36, .fa 2 (.t 35), none⟩,
  ⟨none, .store 1 (.t 36) (.t 34), none⟩] env H none [] Q := w_reg
def F_aps_Decoder6 : List IStmt := [
  ⟨some 37, .mv (.t 6), none⟩,
  ⟨some 38, .nilc (.t 37), none⟩,
  ⟨some 39, .fa 0 (.t 38), none⟩,
  ⟨some 40, .load (.t 39), none⟩,
  ⟨some 41, .call 22 [(.t 40)], none⟩,
  ⟨some 42, .bin .neq (.t 41) (.c (.int .i64 0)), none⟩,
  ⟨some 43, .mv (.t 42), none⟩,
  ⟨some 44, .mv (.t 7), some (6, false)⟩,
  ⟨some 45, .bin .lss (.t 44) (.c (.int .i64 0)), some (6, false)⟩,
  ⟨some 46, .pick (.t 43) (.c (.bool true)) (.t 45), none⟩,
  ⟨some 47, .mv (.t 46), none⟩,
  ⟨some 48, .mv (.t 7), some (10, false)⟩,
  ⟨some 49, .bin .gtr (.t 48) (.c (.int .i64 512)), some (10, false)⟩,
  ⟨some 50, .pick (.t 47) (.c (.bool true)) (.t 49), none⟩]
theorem F_aps_Decoder6_W {T : Tab} {env : Env} {H : Heap} {Q : Post} : W T (.reg F_aps_Decoder6) env H Q ↔ WR T F_aps_Decoder6 [
  ⟨some 37, .mv (.t 6), none⟩,
  ⟨some 38, .nilc (.t 37), none⟩,
  ⟨some 39, .fa 0 (.t 38), none⟩,
  ⟨some 40, .load (.t 39), none⟩,
  ⟨some 41, .call 22 [(.t 40)], none⟩,
  ⟨some 42, .bin .neq (.t 41) (.c (.int .i64 0)), none⟩,
  ⟨some 43, .mv (.t 42), none⟩,
  ⟨some 44, .mv (.t 7), some (6, false)⟩,
  ⟨some 45, .bin .lss (.t 44) (.c (.int .i64 0)), some (6, false)⟩,
  ⟨some 46, .pick (.t 43) (.c (.bool true)) (.t 45), none⟩,
  ⟨some 47, .mv (.t 46), none⟩,
  ⟨some 48, .mv (.t 7), some (10, false)⟩,
  ⟨some 49, .bin .gtr (.t 48) (.c (.int .i64 512)), some (10, false)⟩,
  ⟨some 50, .pick (.t 47) (.c (.bool true)) (.t 49), none⟩] env H none [] Q := w_reg
theorem F_aps_Decoder6_g6 {env : Env} : yieldI F_aps_Decoder6 env 6 = bOf (env 43) := rfl
theorem F_aps_Decoder6_g10 {env : Env} : yieldI F_aps_Decoder6 env 10 = bOf (env 47) := rfl
def F_aps_Decoder7 : List IStmt := [
  ⟨some 4, .mv (.c (.slice none 0 0)), none⟩,
  ⟨some 5, .mv (.c (.int .i64 140)), none⟩]
theorem F_aps_Decoder7_W {T : Tab} {env : Env} {H : Heap} {Q : Post} : W T (.reg F_aps_Decoder7) env H Q ↔ WR T F_aps_Decoder7 [
  ⟨some 4, .mv (.c (.slice none 0 0)), none⟩,
  ⟨some 5, .mv (.c (.int .i64 140)), none⟩] env H none [] Q := w_reg
def F_aps_Decoder8 : List IStmt := [
  ⟨some 51, .mv (.t 6), none⟩,
  ⟨some 52, .nilc (.t 51), none⟩,
  ⟨some 53, .fa 4 (.t 52), none⟩,
  ⟨some 54, .load (.t 53), none⟩,
  ⟨some 55, .len 1 (.t 54), none⟩,
  ⟨some 56, .mv (.t 7), none⟩,
  ⟨some 57, .bin .lss (.t 55) (.t 56), none⟩]
theorem F_aps_Decoder8_W {T : Tab} {env : Env} {H : Heap} {Q : Post} : W T (.reg F_aps_Decoder8) env H Q ↔ WR T F_aps_Decoder8 [
  ⟨some 51, .mv (.t 6), none⟩,
  ⟨some 52, .nilc (.t 51), none⟩,
  ⟨some 53, .fa 4 (.t 52), none⟩,
  ⟨some 54, .load (.t 53), none⟩,
  ⟨some 55, .len 1 (.t 54), none⟩,
  ⟨some 56, .mv (.t 7), none⟩,
  ⟨some 57, .bin .lss (.t 55) (.t 56), none⟩] env H none [] Q := w_reg
def F_aps_Decoder9 : List IStmt := [
  ⟨some 58, .mv (.t 6), none⟩,
  ⟨some 59, .mv (.t 7), none⟩,
  ⟨some 60, .mv (.t 6), none⟩,
  ⟨some 61, .nilc (.t 60), none⟩,
  ⟨some 62, .fa 4 (.t 61), none⟩,
  ⟨some 63, .load (.t 62), none⟩,
  ⟨some 64, .len 1 (.t 63), none⟩,
  ⟨some 65, .bin .sub (.t 59) (.t 64), none⟩,
  ⟨some 66, .call 40 [(.t 58), (.t 65)], none⟩,
  ⟨some 67, .un .not (.t 66), none⟩]
theorem F_aps_Decoder9_W {T : Tab} {env : Env} {H : Heap} {Q : Post} : W T (.reg F_aps_Decoder9) env H Q ↔ WR T F_aps_Decoder9 [
  ⟨some 58, .mv (.t 6), none⟩,
  ⟨some 59, .mv (.t 7), none⟩,
  ⟨some 60, .mv (.t 6), none⟩,
  ⟨some 61, .nilc (.t 60), none⟩,
  ⟨some 62, .fa 4 (.t 61), none⟩,
  ⟨some 63, .load (.t 62), none⟩,
  ⟨some 64, .len 1 (.t 63), none⟩,
  ⟨some 65, .bin .sub (.t 59) (.t 64), none⟩,
  ⟨some 66, .call 40 [(.t 58), (.t 65)], none⟩,
  ⟨some 67, .un .not (.t 66), none⟩] env H none [] Q := w_reg
def F_aps_Decoder10 : List IStmt := [
  ⟨some 4, .mv (.c (.slice none 0 0)), none⟩,
  ⟨some 5, .mv (.c (.int .i64 140)), none⟩]
theorem F_aps_Decoder10_W {T : Tab} {env : Env} {H : Heap} {Q : Post} : W T (.reg F_aps_Decoder10) env H Q ↔ WR T F_aps_Decoder10 [
  ⟨some 4, .mv (.c (.slice none 0 0)), none⟩,
  ⟨some 5, .mv (.c (.int .i64 140)), none⟩] env H none [] Q := w_reg
def F_aps_Decodel0 : ICode := (.seq (.seq (.reg F_aps_Decoder8) (.cond (.t 57) .skip (.exit 0))) (.block 1 (.seq (.reg F_aps_Decoder9) (.cond (.t 67) (.seq (.reg F_aps_Decoder10) .ret) .skip))))
theorem F_aps_Decodel0_W {T : Tab} {env : Env} {H : Heap} {Q : Post} : W T F_aps_Decodel0 env H Q ↔ W T (.seq (.seq (.reg F_aps_Decoder8) (.cond (.t 57) .skip (.exit 0))) (.block 1 (.seq (.reg F_aps_Decoder9) (.cond (.t 67) (.seq (.reg F_aps_Decoder10) .ret) .skip)))) env H Q := Iff.rfl
def F_aps_Decoder11 : List IStmt := [
  ⟨some 68, .mv (.t 6), none⟩,
  ⟨some 69, .nilc (.t 68), none⟩,
  ⟨some 70, .fa 0 (.t 69), none⟩,
  ⟨some 71, .load (.t 70), none⟩,
  ⟨some 72, .call 23 [(.t 71)], none⟩,
  ⟨some 73, .bin .neq (.t 72) (.c (.int .i64 0)), none⟩]
theorem F_aps_Decoder11_W {T : Tab} {env : Env} {H : Heap} {Q : Post} : W T (.reg F_aps_Decoder11) env H Q ↔ WR T F_aps_Decoder11 [
  ⟨some 68, .mv (.t 6), none⟩,
  ⟨some 69, .nilc (.t 68), none⟩,
  ⟨some 70, .fa 0 (.t 69), none⟩,
  ⟨some 71, .load (.t 70), none⟩,
  ⟨some 72, .call 23 [(.t 71)], none⟩,
  ⟨some 73, .bin .neq (.t 72) (.c (.int .i64 0)), none⟩] env H none [] Q := w_reg
def F_aps_Decoder12 : List IStmt := [
  ⟨some 4, .mv (.c (.slice none 0 0)), none⟩,
  ⟨some 5, .mv (.c (.int .i64 140)), none⟩]
theorem F_aps_Decoder12_W {T : Tab} {env : Env} {H : Heap} {Q : Post} : W T (.reg F_aps_Decoder12) env H Q ↔ WR T F_aps_Decoder12 [
  ⟨some 4, .mv (.c (.slice none 0 0)), none⟩,
  ⟨some 5, .mv (.c (.int .i64 140)), none⟩] env H none [] Q := w_reg
def F_aps_Decoder13 : List IStmt := [
  ⟨some 74, .mv (.t 6), none⟩,
  ⟨some 75, .nilc (.t 74), none⟩,
  ⟨some 76, .fa 4 (.t 75), none⟩,
  ⟨some 77, .load (.t 76), none⟩,
  ⟨some 4, .mv (.t 77), none⟩,
  ⟨some 5, .mv (.c (.int .i64 0)), none⟩]
theorem F_aps_Decoder13_W {T : Tab} {env : Env} {H : Heap} {Q : Post} : W T (.reg F_aps_Decoder13) env H Q ↔ WR T F_aps_Decoder13 [
  ⟨some 74, .mv (.t 6), none⟩,
  ⟨some 75, .nilc (.t 74), none⟩,
  ⟨some 76, .fa 4 (.t 75), none⟩,
  ⟨some 77, .load (.t 76), none⟩,
  ⟨some 4, .mv (.t 77), none⟩,
  ⟨some 5, .mv (.c (.int .i64 0)), none⟩] env H none [] Q := w_reg
def F_aps_Decodec : ICode := (.seq (.reg F_aps_Decoder0) (.seq (.seq (.reg F_aps_Decoder1) (.cond (.t 16) (.seq (.reg F_aps_Decoder2) .ret) .skip)) (.seq (.reg F_aps_Decoder3) (.seq (.reg F_aps_Decoder4) (.seq (.reg F_aps_Decoder5) (.seq (.seq (.reg F_aps_Decoder6) (.cond (.t 50) (.seq (.reg F_aps_Decoder7) .ret) .skip)) (.seq (.block 0 (.loop F_aps_Decodel0)) (.seq (.seq (.reg F_aps_Decoder11) (.cond (.t 73) (.seq (.reg F_aps_Decoder12) .ret) .skip)) (.seq (.reg F_aps_Decoder13) .ret)))))))))
theorem F_aps_Decodec_W {T : Tab} {env : Env} {H : Heap} {Q : Post} : W T F_aps_Decodec env H Q ↔ W T (.seq (.reg F_aps_Decoder0) (.seq (.seq (.reg F_aps_Decoder1) (.cond (.t 16) (.seq (.reg F_aps_Decoder2) .ret) .skip)) (.seq (.reg F_aps_Decoder3) (.seq (.reg F_aps_Decoder4) (.seq (.reg F_aps_Decoder5) (.seq (.seq (.reg F_aps_Decoder6) (.cond (.t 50) (.seq (.reg F_aps_Decoder7) .ret) .skip)) (.seq (.block 0 (.loop F_aps_Decodel0)) (.seq (.seq (.reg F_aps_Decoder11) (.cond (.t 73) (.seq (.reg F_aps_Decoder12) .ret) .skip)) (.seq (.reg F_aps_Decoder13) .ret))))))))) env H Q := Iff.rfl
def F_aps_Decode : IFn := ⟨78, [.tmp 4, .tmp 5], F_aps_Decodec⟩
set_option maxRecDepth 1000000 in
theorem F_aps_Decode_chk : chkF Try.prog 25 F_aps_Decode = true := by kernel_rfl

/-! ### aps_state_group -/
def F_aps_state_groupr0 : List IStmt := [
  ⟨some 4, .mv (.c (.bool false)), none⟩]
theorem F_aps_state_groupr0_W {T : Tab} {env : Env} {H : Heap} {Q : Post} : W T (.reg F_aps_state_groupr0) env H Q ↔ WR T F_aps_state_groupr0 [
  ⟨some 4, .mv (.c (.bool false)), none⟩] env H none [] Q := w_reg
def F_aps_state_groupr1 : List IStmt := [
  ⟨some 9, .mv (.t 0), none⟩,
  ⟨some 10, .nilc (.t 9), none⟩,
  ⟨some 11, .fa 0 (.t 10), none⟩,
  ⟨some 12, .load (.t 11), none⟩,
  ⟨some 13, .call 19 [(.t 12)], none⟩,
  ⟨some 14, .mv (.t 0), none⟩,
  ⟨some 15, .nilc (.t 14), none⟩,
  ⟨some 16, .fa 0 (.t 15), none⟩,
  ⟨some 17, .load (.t 16), none⟩,
  ⟨some 18, .call 19 [(.t 17)], none⟩,
  ⟨some 5, .mv (.t 13), none⟩,
  ⟨some 6, .mv (.t 18), none⟩]
theorem F_aps_state_groupr1_W {T : Tab} {env : Env} {H : Heap} {Q : Post} : W T (.dreg F_aps_state_groupr1 [(8, 0)]) env H Q ↔ WR T F_aps_state_groupr1 [
  ⟨some 9, .mv (.t 0), none⟩,
  ⟨some 10, .nilc (.t 9), none⟩,
  ⟨some 11, .fa 0 (.t 10), none⟩,
  ⟨some 12, .load (.t 11), none⟩,
  ⟨some 13, .call 19 [(.t 12)], none⟩,
  ⟨some 14, .mv (.t 0), none⟩,
  ⟨some 15, .nilc (.t 14), none⟩,
  ⟨some 16, .fa 0 (.t 15), none⟩,
  ⟨some 17, .load (.t 16), none⟩,
  ⟨some 18, .call 19 [(.t 17)], none⟩,
  ⟨some 5, .mv (.t 13), none⟩,
  ⟨some 6, .mv (.t 18), none⟩] env H (some []) [(8, 0)] Q := w_dreg
theorem F_aps_state_groupr1_len : F_aps_state_groupr1.length = 12 := rfl
theorem F_aps_state_groupr1_i8 : F_aps_state_groupr1[8]? = some ⟨some 17, .load (.t 16), none⟩ := rfl
def F_aps_state_groupr2 : List IStmt := [
  ⟨some 19, .mv (.t 0), none⟩,
  ⟨some 20, .nilc (.t 19), none⟩,
  ⟨some 21, .fa 0 (.t 20), none⟩,
  ⟨some 22, .load (.t 21), none⟩,
  ⟨some 23, .call 22 [(.t 22)], none⟩,
  ⟨some 24, .bin .neq (.t 23) (.c (.int .i64 0)), none⟩,
  ⟨some 25, .mv (.t 24), none⟩,
  ⟨some 26, .mv (.t 5), some (6, false)⟩,
  ⟨some 27, .bin .lss (.t 26) (.c (.int .i64 1)), some (6, false)⟩,
  ⟨some 28, .pick (.t 25) (.c (.bool true)) (.t 27), none⟩,
  ⟨some 29, .mv (.t 28), none⟩,
  ⟨some 30, .mv (.t 5), some (10, false)⟩,
  ⟨some 31, .mv (.t 1), some (10, false)⟩,
  ⟨some 32, .bin .gtr (.t 30) (.t 31), some (10, false)⟩,
  ⟨some 33, .pick (.t 29) (.c (.bool true)) (.t 32), none⟩,
  ⟨some 34, .mv (.t 33), none⟩,
  ⟨some 35, .mv (.t 6), some (15, false)⟩,
  ⟨some 36, .bin .lss (.t 35) (.c (.int .i64 0)), some (15, false)⟩,
  ⟨some 37, .pick (.t 34) (.c (.bool true)) (.t 36), none⟩,
  ⟨some 38, .mv (.t 37), none⟩,
  ⟨some 39, .mv (.t 6), some (19, false)⟩,
  ⟨some 40, .bin .gtr (.t 39) (.c (.int .i64 15)), some (19, false)⟩,
  ⟨some 41, .pick (.t 38) (.c (.bool true)) (.t 40), none⟩,
  ⟨some 42, .mv (.t 41), none⟩,
  ⟨some 43, .mv (.t 6), some (23, false)⟩,
  ⟨some 44, .bin .and (.t 43) (.c (.int .i64 8)), some (23, false)⟩,
  ⟨some 45, .bin .neq (.t 44) (.c (.int .i64 0)), some (23, false)⟩,
  ⟨some 46, .mv (.t 45), some (23, false)⟩,
  ⟨some 47, .mv (.t 0), some (27, true)⟩,
  ⟨some 48, .nilc (.t 47), some (27, true)⟩,
  ⟨some 49, .fa 1 (.t 48), some (27, true)⟩,
  ⟨some 50, .load (.t 49), some (27, true)⟩,
  ⟨some 51, .un .not (.t 50), some (27, true)⟩,
  ⟨some 52, .pick (.t 46) (.t 51) (.c (.bool false)), some (23, false)⟩,
  ⟨some 53, .pick (.t 42) (.c (.bool true)) (.t 52), none⟩]
theorem F_aps_state_groupr2_W {T : Tab} {env : Env} {H : Heap} {Q : Post} : W T (.reg F_aps_state_groupr2) env H Q ↔ WR T F_aps_state_groupr2 [
  ⟨some 19, .mv (.t 0), none⟩,
  ⟨some 20, .nilc (.t 19), none⟩,
  ⟨some 21, .fa 0 (.t 20), none⟩,
  ⟨some 22, .load (.t 21), none⟩,
  ⟨some 23, .call 22 [(.t 22)], none⟩,
  ⟨some 24, .bin .neq (.t 23) (.c (.int .i64 0)), none⟩,
  ⟨some 25, .mv (.t 24), none⟩,
  ⟨some 26, .mv (.t 5), some (6, false)⟩,
  ⟨some 27, .bin .lss (.t 26) (.c (.int .i64 1)), some (6, false)⟩,
  ⟨some 28, .pick (.t 25) (.c (.bool true)) (.t 27), none⟩,
  ⟨some 29, .mv (.t 28), none⟩,
  ⟨some 30, .mv (.t 5), some (10, false)⟩,
  ⟨some 31, .mv (.t 1), some (10, false)⟩,
  ⟨some 32, .bin .gtr (.t 30) (.t 31), some (10, false)⟩,
  ⟨some 33, .pick (.t 29) (.c (.bool true)) (.t 32), none⟩,
  ⟨some 34, .mv (.t 33), none⟩,
  ⟨some 35, .mv (.t 6), some (15, false)⟩,
  ⟨some 36, .bin .lss (.t 35) (.c (.int .i64 0)), some (15, false)⟩,
  ⟨some 37, .pick (.t 34) (.c (.bool true)) (.t 36), none⟩,
  ⟨some 38, .mv (.t 37), none⟩,
  ⟨some 39, .mv (.t 6), some (19, false)⟩,
  ⟨some 40, .bin .gtr (.t 39) (.c (.int .i64 15)), some (19, false)⟩,
  ⟨some 41, .pick (.t 38) (.c (.bool true)) (.t 40), none⟩,
  ⟨some 42, .mv (.t 41), none⟩,
  ⟨some 43, .mv (.t 6), some (23, false)⟩,
  ⟨some 44, .bin .and (.t 43) (.c (.int .i64 8)), some (23, false)⟩,
  ⟨some 45, .bin .neq (.t 44) (.c (.int .i64 0)), some (23, false)⟩,
  ⟨some 46, .mv (.t 45), some (23, false)⟩,
  ⟨some 47, .mv (.t 0), some (27, true)⟩,
  ⟨some 48, .nilc (.t 47), some (27, true)⟩,
  ⟨some 49, .fa 1 (.t 48), some (27, true)⟩,
  ⟨some 50, .load (.t 49), some (27, true)⟩,
  ⟨some 51, .un .not (.t 50), some (27, true)⟩,
  ⟨some 52, .pick (.t 46) (.t 51) (.c (.bool false)), some (23, false)⟩,
  ⟨some 53, .pick (.t 42) (.c (.bool true)) (.t 52), none⟩] env H none [] Q := w_reg
theorem F_aps_state_groupr2_g6 {env : Env} : yieldI F_aps_state_groupr2 env 6 = bOf (env 25) := rfl
theorem F_aps_state_groupr2_g10 {env : Env} : yieldI F_aps_state_groupr2 env 10 = bOf (env 29) := rfl
theorem F_aps_state_groupr2_g15 {env : Env} : yieldI F_aps_state_groupr2 env 15 = bOf (env 34) := rfl
theorem F_aps_state_groupr2_g19 {env : Env} : yieldI F_aps_state_groupr2 env 19 = bOf (env 38) := rfl
theorem F_aps_state_groupr2_g23 {env : Env} : yieldI F_aps_state_groupr2 env 23 = bOf (env 42) := rfl
theorem F_aps_state_groupr2_g27 {env : Env} : yieldI F_aps_state_groupr2 env 27 = bOf (env 46) := rfl
def F_aps_state_groupr3 : List IStmt := [
  ⟨some 4, .mv (.c (.bool false)), none⟩]
theorem F_aps_state_groupr3_W {T : Tab} {env : Env} {H : Heap} {Q : Post} : W T (.reg F_aps_state_groupr3) env H Q ↔ WR T F_aps_state_groupr3 [
  ⟨some 4, .mv (.c (.bool false)), none⟩] env H none [] Q := w_reg
def F_aps_state_groupr4 : List IStmt := [
  ⟨some 7, .mv (.c (.int .i64 0)), none⟩,
  ⟨some 8, .mv (.c (.int .i64 0)), none⟩]
theorem F_aps_state_groupr4_W {T : Tab} {env : Env} {H : Heap} {Q : Post} : W T (.reg F_aps_state_groupr4) env H Q ↔ WR T F_aps_state_groupr4 [
  ⟨some 7, .mv (.c (.int .i64 0)), none⟩,
  ⟨some 8, .mv (.c (.int .i64 0)), none⟩] env H none [] Q := w_reg
def F_aps_state_groupr5 : List IStmt := [
  ⟨some 54, .mv (.t 6), none⟩,
  ⟨some 55, .bin .and (.t 54) (.c (.int .i64 2)), none⟩,
  ⟨some 56, .bin .neq (.t 55) (.c (.int .i64 0)), none⟩]
theorem F_aps_state_groupr5_W {T : Tab} {env : Env} {H : Heap} {Q : Post} : W T (.reg F_aps_state_groupr5) env H Q ↔ WR T F_aps_state_groupr5 [
  ⟨some 54, .mv (.t 6), none⟩,
  ⟨some 55, .bin .and (.t 54) (.c (.int .i64 2)), none⟩,
  ⟨some 56, .bin .neq (.t 55) (.c (.int .i64 0)), none⟩] env H none [] Q := w_reg
def F_aps_state_groupr6 : List IStmt := [
  ⟨some 57, .mv (.t 0), none⟩,
  ⟨some 58, .nilc (.t 57), none⟩,
  ⟨some 59, .fa 0 (.t 58), none⟩,
  ⟨some 60, .load (.t 59), none⟩,
  ⟨some 61, .call 19 [(.t 60)], none⟩,
  ⟨some 7, .mv (.t 61), none⟩]
theorem F_aps_state_groupr6_W {T : Tab} {env : Env} {H : Heap} {Q : Post} : W T (.reg F_aps_state_groupr6) env H Q ↔ WR T F_aps_state_groupr6 [
  ⟨some 57, .mv (.t 0), none⟩,
  ⟨some 58, .nilc (.t 57), none⟩,
  ⟨some 59, .fa 0 (.t 58), none⟩,
  ⟨some 60, .load (.t 59), none⟩,
  ⟨some 61, .call 19 [(.t 60)], none⟩,
  ⟨some 7, .mv (.t 61), none⟩] env H none [] Q := w_reg
def F_aps_state_groupr7 : List IStmt := [
  ⟨some 62, .mv (.t 6), none⟩,
  ⟨some 63, .bin .and (.t 62) (.c (.int .i64 1)), none⟩,
  ⟨some 64, .bin .neq (.t 63) (.c (.int .i64 0)), none⟩]
theorem F_aps_state_groupr7_W {T : Tab} {env : Env} {H : Heap} {Q : Post} : W T (.reg F_aps_state_groupr7) env H Q ↔ WR T F_aps_state_groupr7 [
  ⟨some 62, .mv (.t 6), none⟩,
  ⟨some 63, .bin .and (.t 62) (.c (.int .i64 1)), none⟩,
  ⟨some 64, .bin .neq (.t 63) (.c (.int .i64 0)), none⟩] env H none [] Q := w_reg
def F_aps_state_groupr8 : List IStmt := [
  ⟨some 65, .mv (.t 0), none⟩,
  ⟨some 66, .nilc (.t 65), none⟩,
  ⟨some 67, .fa 0 (.t 66), none⟩,
  ⟨some 68, .load (.t 67), none⟩,
  ⟨some 69, .call 19 [(.t 68)], none⟩,
  ⟨some 8, .mv (.t 69), none⟩]
theorem F_aps_state_groupr8_W {T : Tab} {env : Env} {H : Heap} {Q : Post} : W T (.reg F_aps_state_groupr8) env H Q ↔ WR T F_aps_state_groupr8 [
  ⟨some 65, .mv (.t 0), none⟩,
  ⟨some 66, .nilc (.t 65), none⟩,
  ⟨some 67, .fa 0 (.t 66), none⟩,
  ⟨some 68, .load (.t 67), none⟩,
  ⟨some 69, .call 19 [(.t 68)], none⟩,
  ⟨some 8, .mv (.t 69), none⟩] env H none [] Q := w_reg
def F_aps_state_groupr9 : List IStmt := [
  ⟨some 70, .mv (.t 6), none⟩,
  ⟨some 71, .bin .and (.t 70) (.c (.int .i64 12)), none⟩]
theorem F_aps_state_groupr9_W {T : Tab} {env : Env} {H : Heap} {Q : Post} : W T (.reg F_aps_state_groupr9) env H Q ↔ WR T F_aps_state_groupr9 [
  ⟨some 70, .mv (.t 6), none⟩,
  ⟨some 71, .bin .and (.t 70) (.c (.int .i64 12)), none⟩] env H none [] Q := w_reg
def F_aps_state_groupr10 : List IStmt := [
  ⟨some 73, .bin .eql (.t 71) (.c (.int .i64 12)), none⟩,
  ⟨some 72, .mv (.t 73), none⟩]
theorem F_aps_state_groupr10_W {T : Tab} {env : Env} {H : Heap} {Q : Post} : W T (.reg F_aps_state_groupr10) env H Q ↔ WR T F_aps_state_groupr10 [
  ⟨some 73, .bin .eql (.t 71) (.c (.int .i64 12)), none⟩,
  ⟨some 72, .mv (.t 73), none⟩] env H none [] Q := w_reg
def F_aps_state_groupr11 : List IStmt := [
  ⟨some 74, .mv (.t 0), none⟩,
  ⟨some 75, .nilc (.t 74), none⟩,
  ⟨some 76, .fa 3 (.t 75), none⟩,
  ⟨some 77, .load (.t 76), none⟩,
  ⟨some 78, .mv (.t 0), none⟩,
  ⟨some 79, .nilc (.t 78), none⟩,
  ⟨some 80, .fa 0 (.t 79), none⟩,
  ⟨some 81, .load (.t 80), none⟩,
  ⟨some 82, .call 19 [(.t 81)], none⟩,
  ⟨some 83, .bin .add (.t 77) (.t 82), none⟩,
  ⟨some 84, .nilc (.t 74), none⟩,
  ⟨some 85, .fa 3 (.t 84), none⟩,
  ⟨none, .store 1 (.t 85) (.t 83), none⟩]
theorem F_aps_state_groupr11_W {T : Tab} {env : Env} {H : Heap} {Q : Post} : W T (.dreg F_aps_state_groupr11 [(3, 9)]) env H Q ↔ WR T F_aps_state_groupr11 [
  ⟨some 74, .mv (.t 0), none⟩,
  ⟨some 75, .nilc (.t 74), none⟩,
  ⟨some 76, .fa 3 (.t 75), none⟩,
  ⟨some 77, .load (.t 76), none⟩,
  ⟨some 78, .mv (.t 0), none⟩,
  ⟨some 79, .nilc (.t 78), none⟩,
  ⟨some 80, .fa 0 (.t 79), none⟩,
  ⟨some 81, .load (.t 80), none⟩,
  ⟨some 82, .call 19 [(.t 81)], none⟩,
  ⟨some 83, .bin .add (.t 77) (.t 82), none⟩,
  ⟨some 84, .nilc (.t 74), none⟩,
  ⟨some 85, .fa 3 (.t 84), none⟩,
  ⟨none, .store 1 (.t 85) (.t 83), none⟩] env H (some []) [(3, 9)] Q := w_dreg
theorem F_aps_state_groupr11_len : F_aps_state_groupr11.length = 13 := rfl
theorem F_aps_state_groupr11_i3 : F_aps_state_groupr11[3]? = some ⟨some 77, .load (.t 76), none⟩ := rfl
def F_aps_state_groupr12 : List IStmt := [
  ⟨some 87, .bin .eql (.t 71) (.c (.int .i64 0)), none⟩,
  ⟨some 86, .mv (.t 87), none⟩]
theorem F_aps_state_groupr12_W {T : Tab} {env : Env} {H : Heap} {Q : Post} : W T (.reg F_aps_state_groupr12) env H Q ↔ WR T F_aps_state_groupr12 [
  ⟨some 87, .bin .eql (.t 71) (.c (.int .i64 0)), none⟩,
  ⟨some 86, .mv (.t 87), none⟩] env H none [] Q := w_reg
def F_aps_state_groupr13 : List IStmt := [
  ⟨some 88, .bin .eql (.t 71) (.c (.int .i64 4)), none⟩,
  ⟨some 86, .mv (.t 88), none⟩]
theorem F_aps_state_groupr13_W {T : Tab} {env : Env} {H : Heap} {Q : Post} : W T (.reg F_aps_state_groupr13) env H Q ↔ WR T F_aps_state_groupr13 [
  ⟨some 88, .bin .eql (.t 71) (.c (.int .i64 4)), none⟩,
  ⟨some 86, .mv (.t 88), none⟩] env H none [] Q := w_reg
def F_aps_state_groupr14 : List IStmt := [
  ⟨some 89, .mv (.t 0), none⟩,
  ⟨some 90, .nilc (.t 89), none⟩,
  ⟨some 91, .fa 3 (.t 90), none⟩,
  ⟨none, .store 1 (.t 91) (.c (.int .i64 0)), none⟩]
theorem F_aps_state_groupr14_W {T : Tab} {env : Env} {H : Heap} {Q : Post} : W T (.reg F_aps_state_groupr14) env H Q ↔ WR T F_aps_state_groupr14 [
  ⟨some 89, .mv (.t 0), none⟩,
  ⟨some 90, .nilc (.t 89), none⟩,
  ⟨some 91, .fa 3 (.t 90), none⟩,
  ⟨none, .store 1 (.t 91) (.c (.int .i64 0)), none⟩] env H none [] Q := w_reg
def F_aps_state_groupr15 : List IStmt := [
  ⟨some 92, .mv (.t 5), none⟩,
  ⟨some 93, .mv (.c (.int .i64 0)), none⟩]
theorem F_aps_state_groupr15_W {T : Tab} {env : Env} {H : Heap} {Q : Post} : W T (.reg F_aps_state_groupr15) env H Q ↔ WR T F_aps_state_groupr15 [
  ⟨some 92, .mv (.t 5), none⟩,
  ⟨some 93, .mv (.c (.int .i64 0)), none⟩] env H none [] Q := w_reg
def F_aps_state_groupr16 : List IStmt := [
  ⟨some 94, .bin .lss (.t 93) (.t 92), none⟩]
theorem F_aps_state_groupr16_W {T : Tab} {env : Env} {H : Heap} {Q : Post} : W T (.reg F_aps_state_groupr16) env H Q ↔ WR T F_aps_state_groupr16 [
  ⟨some 94, .bin .lss (.t 93) (.t 92), none⟩] env H none [] Q := w_reg
def F_aps_state_groupr17 : List IStmt := [
  ⟨some 95, .mv (.t 0), none⟩,
  ⟨some 96, .mv (.t 6), none⟩,
  ⟨some 97, .mv (.t 7), none⟩,
  ⟨some 98, .mv (.t 8), none⟩,
  ⟨some 99, .call 60 [(.t 95), (.t 96), (.t 97), (.t 98)], none⟩]
theorem F_aps_state_groupr17_W {T : Tab} {env : Env} {H : Heap} {Q : Post} : W T (.reg F_aps_state_groupr17) env H Q ↔ WR T F_aps_state_groupr17 [
  ⟨some 95, .mv (.t 0), none⟩,
  ⟨some 96, .mv (.t 6), none⟩,
  ⟨some 97, .mv (.t 7), none⟩,
  ⟨some 98, .mv (.t 8), none⟩,
  ⟨some 99, .call 60 [(.t 95), (.t 96), (.t 97), (.t 98)], none⟩] env H none [] Q := w_reg
def F_aps_state_groupr18 : List IStmt := [
  ⟨some 100, .bin .add (.t 93) (.c (.int .i64 1)), none⟩,
  ⟨some 93, .mv (.t 100), none⟩]
theorem F_aps_state_groupr18_W {T : Tab} {env : Env} {H : Heap} {Q : Post} : W T (.reg F_aps_state_groupr18) env H Q ↔ WR T F_aps_state_groupr18 [
  ⟨some 100, .bin .add (.t 93) (.c (.int .i64 1)), none⟩,
  ⟨some 93, .mv (.t 100), none⟩] env H none [] Q := w_reg
def F_aps_state_groupl0 : ICode := (.seq (.reg F_aps_state_groupr16) (.seq (.cond (.t 94) .skip (.exit 1)) (.seq (.block 2 (.reg F_aps_state_groupr17)) (.reg F_aps_state_groupr18))))
theorem F_aps_state_groupl0_W {T : Tab} {env : Env} {H : Heap} {Q : Post} : W T F_aps_state_groupl0 env H Q ↔ W T (.seq (.reg F_aps_state_groupr16) (.seq (.cond (.t 94) .skip (.exit 1)) (.seq (.block 2 (.reg F_aps_state_groupr17)) (.reg F_aps_state_groupr18)))) env H Q := Iff.rfl
def F_aps_state_groupr19 : List IStmt := [
  ⟨some 101, .mv (.t 0), none⟩,
  ⟨some 102, .nilc (.t 101), none⟩,
  ⟨some 103, .fa 0 (.t 102), none⟩,
  ⟨some 104, .load (.t 103), none⟩,
  ⟨some 105, .call 22 [(.t 104)], none⟩,
  ⟨some 106, .bin .eql (.t 105) (.c (.int .i64 0)), none⟩,
  ⟨some 4, .mv (.t 106), none⟩]
theorem F_aps_state_groupr19_W {T : Tab} {env : Env} {H : Heap} {Q : Post} : W T (.reg F_aps_state_groupr19) env H Q ↔ WR T F_aps_state_groupr19 [
  ⟨some 101, .mv (.t 0), none⟩,
  ⟨some 102, .nilc (.t 101), none⟩,
  ⟨some 103, .fa 0 (.t 102), none⟩,
  ⟨some 104, .load (.t 103), none⟩,
  ⟨some 105, .call 22 [(.t 104)], none⟩,
  ⟨some 106, .bin .eql (.t 105) (.c (.int .i64 0)), none⟩,
  ⟨some 4, .mv (.t 106), none⟩] env H none [] Q := w_reg
def F_aps_state_groupc : ICode := (.seq (.reg F_aps_state_groupr0) (.seq (.dreg F_aps_state_groupr1 [(8, 0)]) (.seq (.seq (.reg F_aps_state_groupr2) (.cond (.t 53) (.seq (.reg F_aps_state_groupr3) .ret) .skip)) (.seq (.reg F_aps_state_groupr4) (.seq (.seq (.reg F_aps_state_groupr5) (.cond (.t 56) (.reg F_aps_state_groupr6) .skip)) (.seq (.seq (.reg F_aps_state_groupr7) (.cond (.t 64) (.reg F_aps_state_groupr8) .skip)) (.seq (.seq (.reg F_aps_state_groupr9) (.block 0 (.seq (.reg F_aps_state_groupr10) (.cond (.t 72) (.dreg F_aps_state_groupr11 [(3, 9)]) (.seq (.seq (.reg F_aps_state_groupr12) (.cond (.t 86) .skip (.reg F_aps_state_groupr13))) (.cond (.t 86) (.reg F_aps_state_groupr14) .skip)))))) (.seq (.seq (.reg F_aps_state_groupr15) (.block 1 (.loop F_aps_state_groupl0))) (.seq (.reg F_aps_state_groupr19) .ret)))))))))
theorem F_aps_state_groupc_W {T : Tab} {env : Env} {H : Heap} {Q : Post} : W T F_aps_state_groupc env H Q ↔ W T (.seq (.reg F_aps_state_groupr0) (.seq (.dreg F_aps_state_groupr1 [(8, 0)]) (.seq (.seq (.reg F_aps_state_groupr2) (.cond (.t 53) (.seq (.reg F_aps_state_groupr3) .ret) .skip)) (.seq (.reg F_aps_state_groupr4) (.seq (.seq (.reg F_aps_state_groupr5) (.cond (.t 56) (.reg F_aps_state_groupr6) .skip)) (.seq (.seq (.reg F_aps_state_groupr7) (.cond (.t 64) (.reg F_aps_state_groupr8) .skip)) (.seq (.seq (.reg F_aps_state_groupr9) (.block 0 (.seq (.reg F_aps_state_groupr10) (.cond (.t 72) (.dreg F_aps_state_groupr11 [(3, 9)]) (.seq (.seq (.reg F_aps_state_groupr12) (.cond (.t 86) .skip (.reg F_aps_state_groupr13))) (.cond (.t 86) (.reg F_aps_state_groupr14) .skip)))))) (.seq (.seq (.reg F_aps_state_groupr15) (.block 1 (.loop F_aps_state_groupl0))) (.seq (.reg F_aps_state_groupr19) .ret))))))))) env H Q := Iff.rfl
def F_aps_state_group : IFn := ⟨107, [.tmp 4], F_aps_state_groupc⟩
set_option maxRecDepth 1000000 in
theorem F_aps_state_group_chk : chkF Try.prog 40 F_aps_state_group = true := by kernel_rfl

/-! ### aps_state_one -/
def F_aps_state_oner0 : List IStmt := [
  ⟨some 9, .mv (.t 1), none⟩,
  ⟨some 10, .bin .and (.t 9) (.c (.int .i64 2)), none⟩,
  ⟨some 11, .bin .eql (.t 10) (.c (.int .i64 0)), none⟩]
theorem F_aps_state_oner0_W {T : Tab} {env : Env} {H : Heap} {Q : Post} : W T (.reg F_aps_state_oner0) env H Q ↔ WR T F_aps_state_oner0 [
  ⟨some 9, .mv (.t 1), none⟩,
  ⟨some 10, .bin .and (.t 9) (.c (.int .i64 2)), none⟩,
  ⟨some 11, .bin .eql (.t 10) (.c (.int .i64 0)), none⟩] env H none [] Q := w_reg
def F_aps_state_oner1 : List IStmt := [
  ⟨some 12, .mv (.t 0), none⟩,
  ⟨some 13, .nilc (.t 12), none⟩,
  ⟨some 14, .fa 0 (.t 13), none⟩,
  ⟨some 15, .load (.t 14), none⟩,
  ⟨some 16, .call 19 [(.t 15)], none⟩,
  ⟨some 2, .mv (.t 16), none⟩]
theorem F_aps_state_oner1_W {T : Tab} {env : Env} {H : Heap} {Q : Post} : W T (.reg F_aps_state_oner1) env H Q ↔ WR T F_aps_state_oner1 [
  ⟨some 12, .mv (.t 0), none⟩,
  ⟨some 13, .nilc (.t 12), none⟩,
  ⟨some 14, .fa 0 (.t 13), none⟩,
  ⟨some 15, .load (.t 14), none⟩,
  ⟨some 16, .call 19 [(.t 15)], none⟩,
  ⟨some 2, .mv (.t 16), none⟩] env H none [] Q := w_reg
def F_aps_state_oner2 : List IStmt := [
  ⟨some 17, .mv (.t 0), none⟩,
  ⟨some 18, .nilc (.t 17), none⟩,
  ⟨some 19, .fa 2 (.t 18), none⟩,
  ⟨some 20, .load (.t 19), none⟩,
  ⟨some 21, .mv (.t 2), none⟩,
  ⟨some 22, .conv .u64 (.t 21), none⟩,
  ⟨some 23, .bin .add (.t 20) (.t 22), none⟩,
  ⟨some 24, .nilc (.t 17), none⟩,
  ⟨some 25, .fa 2 (.t 24), none⟩,
  ⟨none, .store 1 (.t 25) (.t 23), none⟩]
theorem F_aps_state_oner2_W {T : Tab} {env : Env} {H : Heap} {Q : Post} : W T (.reg F_aps_state_oner2) env H Q ↔ WR T F_aps_state_oner2 [
  ⟨some 17, .mv (.t 0), none⟩,
  ⟨some 18, .nilc (.t 17), none⟩,
  ⟨some 19, .fa 2 (.t 18), none⟩,
  ⟨some 20, .load (.t 19), none⟩,
  ⟨some 21, .mv (.t 2), none⟩,
  ⟨some 22, .conv .u64 (.t 21), none⟩,
  ⟨some 23, .bin .add (.t 20) (.t 22), none⟩,
  ⟨some 24, .nilc (.t 17), none⟩,
  ⟨some 25, .fa 2 (.t 24), none⟩,
  ⟨none, .store 1 (.t 25) (.t 23), none⟩] env H none [] Q := w_reg
def F_aps_state_oner3 : List IStmt := [
  ⟨some 26, .mv (.t 1), none⟩,
  ⟨some 27, .bin .and (.t 26) (.c (.int .i64 1)), none⟩,
  ⟨some 28, .bin .eql (.t 27) (.c (.int .i64 0)), none⟩]
theorem F_aps_state_oner3_W {T : Tab} {env : Env} {H : Heap} {Q : Post} : W T (.reg F_aps_state_oner3) env H Q ↔ WR T F_aps_state_oner3 [
  ⟨some 26, .mv (.t 1), none⟩,
  ⟨some 27, .bin .and (.t 26) (.c (.int .i64 1)), none⟩,
  ⟨some 28, .bin .eql (.t 27) (.c (.int .i64 0)), none⟩] env H none [] Q := w_reg
def F_aps_state_oner4 : List IStmt := [
  ⟨some 29, .mv (.t 0), none⟩,
  ⟨some 30, .nilc (.t 29), none⟩,
  ⟨some 31, .fa 0 (.t 30), none⟩,
  ⟨some 32, .load (.t 31), none⟩,
  ⟨some 33, .call 19 [(.t 32)], none⟩,
  ⟨some 3, .mv (.t 33), none⟩]
theorem F_aps_state_oner4_W {T : Tab} {env : Env} {H : Heap} {Q : Post} : W T (.reg F_aps_state_oner4) env H Q ↔ WR T F_aps_state_oner4 [
  ⟨some 29, .mv (.t 0), none⟩,
  ⟨some 30, .nilc (.t 29), none⟩,
  ⟨some 31, .fa 0 (.t 30), none⟩,
  ⟨some 32, .load (.t 31), none⟩,
  ⟨some 33, .call 19 [(.t 32)], none⟩,
  ⟨some 3, .mv (.t 33), none⟩] env H none [] Q := w_reg
def F_aps_state_oner5 : List IStmt := [
  ⟨some 34, .mv (.t 1), none⟩,
  ⟨some 35, .bin .and (.t 34) (.c (.int .i64 8)), none⟩,
  ⟨some 36, .bin .neq (.t 35) (.c (.int .i64 0)), none⟩,
  ⟨some 37, .mv (.t 36), none⟩,
  ⟨some 38, .mv (.t 1), some (3, true)⟩,
  ⟨some 39, .bin .and (.t 38) (.c (.int .i64 4)), some (3, true)⟩,
  ⟨some 40, .bin .eql (.t 39) (.c (.int .i64 0)), some (3, true)⟩,
  ⟨some 41, .pick (.t 37) (.t 40) (.c (.bool false)), none⟩]
theorem F_aps_state_oner5_W {T : Tab} {env : Env} {H : Heap} {Q : Post} : W T (.reg F_aps_state_oner5) env H Q ↔ WR T F_aps_state_oner5 [
  ⟨some 34, .mv (.t 1), none⟩,
  ⟨some 35, .bin .and (.t 34) (.c (.int .i64 8)), none⟩,
  ⟨some 36, .bin .neq (.t 35) (.c (.int .i64 0)), none⟩,
  ⟨some 37, .mv (.t 36), none⟩,
  ⟨some 38, .mv (.t 1), some (3, true)⟩,
  ⟨some 39, .bin .and (.t 38) (.c (.int .i64 4)), some (3, true)⟩,
  ⟨some 40, .bin .eql (.t 39) (.c (.int .i64 0)), some (3, true)⟩,
  ⟨some 41, .pick (.t 37) (.t 40) (.c (.bool false)), none⟩] env H none [] Q := w_reg
theorem F_aps_state_oner5_g3 {env : Env} : yieldI F_aps_state_oner5 env 3 = bOf (env 37) := rfl
def F_aps_state_oner6 : List IStmt := [
  ⟨some 42, .mv (.t 0), none⟩,
  ⟨some 43, .nilc (.t 42), none⟩,
  ⟨some 44, .fa 3 (.t 43), none⟩,
  ⟨some 45, .load (.t 44), none⟩,
  ⟨some 46, .mv (.t 0), none⟩,
  ⟨some 47, .nilc (.t 46), none⟩,
  ⟨some 48, .fa 0 (.t 47), none⟩,
  ⟨some 49, .load (.t 48), none⟩,
  ⟨some 50, .call 19 [(.t 49)], none⟩,
  ⟨some 51, .bin .add (.t 45) (.t 50), none⟩,
  ⟨some 52, .nilc (.t 42), none⟩,
  ⟨some 53, .fa 3 (.t 52), none⟩,
  ⟨none, .store 1 (.t 53) (.t 51), none⟩]
theorem F_aps_state_oner6_W {T : Tab} {env : Env} {H : Heap} {Q : Post} : W T (.dreg F_aps_state_oner6 [(3, 9)]) env H Q ↔ WR T F_aps_state_oner6 [
  ⟨some 42, .mv (.t 0), none⟩,
  ⟨some 43, .nilc (.t 42), none⟩,
  ⟨some 44, .fa 3 (.t 43), none⟩,
  ⟨some 45, .load (.t 44), none⟩,
  ⟨some 46, .mv (.t 0), none⟩,
  ⟨some 47, .nilc (.t 46), none⟩,
  ⟨some 48, .fa 0 (.t 47), none⟩,
  ⟨some 49, .load (.t 48), none⟩,
  ⟨some 50, .call 19 [(.t 49)], none⟩,
  ⟨some 51, .bin .add (.t 45) (.t 50), none⟩,
  ⟨some 52, .nilc (.t 42), none⟩,
  ⟨some 53, .fa 3 (.t 52), none⟩,
  ⟨none, .store 1 (.t 53) (.t 51), none⟩] env H (some []) [(3, 9)] Q := w_dreg
theorem F_aps_state_oner6_len : F_aps_state_oner6.length = 13 := rfl
theorem F_aps_state_oner6_i3 : F_aps_state_oner6[3]? = some ⟨some 45, .load (.t 44), none⟩ := rfl
def F_aps_state_oner7 : List IStmt := [
  ⟨some 54, .mv (.t 0), none⟩,
  ⟨some 55, .nilc (.t 54), none⟩,
  ⟨some 56, .fa 2 (.t 55), none⟩,
  ⟨some 57, .load (.t 56), none⟩,
  ⟨some 58, .mv (.t 3), none⟩,
  ⟨some 59, .conv .u32 (.t 58), none⟩,
  ⟨some 60, .mv (.t 3), none⟩,
  ⟨some 61, .conv .u64 (.t 60), none⟩,
  ⟨some 62, .bin .shr (.t 61) (.c (.int .u64 32)), none⟩,
  ⟨some 63, .conv .u32 (.t 62), none⟩,
  ⟨some 64, .mv (.t 0), none⟩,
  ⟨some 65, .nilc (.t 64), none⟩,
  ⟨some 66, .fa 1 (.t 65), none⟩,
  ⟨some 67, .load (.t 66), none⟩,
  ⟨some 68, .bld [.int .u64 0, .int .u32 0, .int .u32 0, .int .i64 0, .bool false] [(0, 1, (.t 57)), (1, 1, (.t 59)), (2, 1, (.t 63)), (4, 1, (.t 67))], none⟩,
  ⟨some 8, .alloc 5 [.int .u64 0, .int .u32 0, .int .u32 0, .int .i64 0, .bool false], none⟩,
  ⟨none, .store 5 (.t 8) (.t 68), none⟩]
theorem F_aps_state_oner7_W {T : Tab} {env : Env} {H : Heap} {Q : Post} : W T (.dreg F_aps_state_oner7 [(3, 16), (13, 16)]) env H Q ↔ WR T F_aps_state_oner7 [
  ⟨some 54, .mv (.t 0), none⟩,
  ⟨some 55, .nilc (.t 54), none⟩,
  ⟨some 56, .fa 2 (.t 55), none⟩,
  ⟨some 57, .load (.t 56), none⟩,
  ⟨some 58, .mv (.t 3), none⟩,
  ⟨some 59, .conv .u32 (.t 58), none⟩,
  ⟨some 60, .mv (.t 3), none⟩,
  ⟨some 61, .conv .u64 (.t 60), none⟩,
  ⟨some 62, .bin .shr (.t 61) (.c (.int .u64 32)), none⟩,
  ⟨some 63, .conv .u32 (.t 62), none⟩,
  ⟨some 64, .mv (.t 0), none⟩,
  ⟨some 65, .nilc (.t 64), none⟩,
  ⟨some 66, .fa 1 (.t 65), none⟩,
  ⟨some 67, .load (.t 66), none⟩,
  ⟨some 68, .bld [.int .u64 0, .int .u32 0, .int .u32 0, .int .i64 0, .bool false] [(0, 1, (.t 57)), (1, 1, (.t 59)), (2, 1, (.t 63)), (4, 1, (.t 67))], none⟩,
  ⟨some 8, .alloc 5 [.int .u64 0, .int .u32 0, .int .u32 0, .int .i64 0, .bool false], none⟩,
  ⟨none, .store 5 (.t 8) (.t 68), none⟩] env H (some []) [(3, 16), (13, 16)] Q := w_dreg
theorem F_aps_state_oner7_len : F_aps_state_oner7.length = 17 := rfl
theorem F_aps_state_oner7_i3 : F_aps_state_oner7[3]? = some ⟨some 57, .load (.t 56), none⟩ := rfl
theorem F_aps_state_oner7_i13 : F_aps_state_oner7[13]? = some ⟨some 67, .load (.t 66), none⟩ := rfl
def F_aps_state_oner8 : List IStmt := [
  ⟨some 69, .mv (.t 0), none⟩,
  ⟨some 70, .nilc (.t 69), none⟩,
  ⟨some 71, .fa 1 (.t 70), none⟩,
  ⟨some 72, .load (.t 71), none⟩]
theorem F_aps_state_oner8_W {T : Tab} {env : Env} {H : Heap} {Q : Post} : W T (.reg F_aps_state_oner8) env H Q ↔ WR T F_aps_state_oner8 [
  ⟨some 69, .mv (.t 0), none⟩,
  ⟨some 70, .nilc (.t 69), none⟩,
  ⟨some 71, .fa 1 (.t 70), none⟩,
  ⟨some 72, .load (.t 71), none⟩] env H none [] Q := w_reg
def F_aps_state_oner9 : List IStmt := [
  ⟨some 73, .mv (.t 0), none⟩,
  ⟨some 74, .nilc (.t 73), none⟩,
  ⟨some 75, .fa 3 (.t 74), none⟩,
  ⟨some 76, .load (.t 75), none⟩,
  ⟨some 77, .fa 3 (.t 8), none⟩,
  ⟨none, .store 1 (.t 77) (.t 76), none⟩]
theorem F_aps_state_oner9_W {T : Tab} {env : Env} {H : Heap} {Q : Post} : W T (.reg F_aps_state_oner9) env H Q ↔ WR T F_aps_state_oner9 [
  ⟨some 73, .mv (.t 0), none⟩,
  ⟨some 74, .nilc (.t 73), none⟩,
  ⟨some 75, .fa 3 (.t 74), none⟩,
  ⟨some 76, .load (.t 75), none⟩,
  ⟨some 77, .fa 3 (.t 8), none⟩,
  ⟨none, .store 1 (.t 77) (.t 76), none⟩] env H none [] Q := w_reg
def F_aps_state_oner10 : List IStmt := [
  ⟨some 78, .mv (.t 0), none⟩,
  ⟨some 79, .mv (.t 0), none⟩,
  ⟨some 80, .nilc (.t 79), none⟩,
  ⟨some 81, .fa 4 (.t 80), none⟩,
  ⟨some 82, .load (.t 81), none⟩,
  ⟨some 83, .loadN 5 (.t 8), none⟩,
  ⟨some 84, .bsli 5 1 [.int .u64 0, .int .u32 0, .int .u32 0, .int .i64 0, .bool false] [(0, (.t 83))], none⟩,
  ⟨some 85, .app 5 32 (.t 82) (.t 84), none⟩,
  ⟨some 86, .nilc (.t 78), none⟩,
  ⟨some 87, .fa 4 (.t 86), none⟩,
  ⟨none, .store 1 (.t 87) (.t 85), none⟩]
theorem F_aps_state_oner10_W {T : Tab} {env : Env} {H : Heap} {Q : Post} : W T (.dreg F_aps_state_oner10 []) env H Q ↔ WR T F_aps_state_oner10 [
  ⟨some 78, .mv (.t 0), none⟩,
  ⟨some 79, .mv (.t 0), none⟩,
  ⟨some 80, .nilc (.t 79), none⟩,
  ⟨some 81, .fa 4 (.t 80), none⟩,
  ⟨some 82, .load (.t 81), none⟩,
  ⟨some 83, .loadN 5 (.t 8), none⟩,
  ⟨some 84, .bsli 5 1 [.int .u64 0, .int .u32 0, .int .u32 0, .int .i64 0, .bool false] [(0, (.t 83))], none⟩,
  ⟨some 85, .app 5 32 (.t 82) (.t 84), none⟩,
  ⟨some 86, .nilc (.t 78), none⟩,
  ⟨some 87, .fa 4 (.t 86), none⟩,
  ⟨none, .store 1 (.t 87) (.t 85), none⟩] env H none [] Q := w_dreg0
def F_aps_state_onec : ICode := (.seq (.seq (.reg F_aps_state_oner0) (.cond (.t 11) (.reg F_aps_state_oner1) .skip)) (.seq (.reg F_aps_state_oner2) (.seq (.seq (.reg F_aps_state_oner3) (.cond (.t 28) (.reg F_aps_state_oner4) .skip)) (.seq (.seq (.reg F_aps_state_oner5) (.cond (.t 41) (.dreg F_aps_state_oner6 [(3, 9)]) .skip)) (.seq (.dreg F_aps_state_oner7 [(3, 16), (13, 16)]) (.seq (.seq (.reg F_aps_state_oner8) (.cond (.t 72) (.reg F_aps_state_oner9) .skip)) (.dreg F_aps_state_oner10 [])))))))
theorem F_aps_state_onec_W {T : Tab} {env : Env} {H : Heap} {Q : Post} : W T F_aps_state_onec env H Q ↔ W T (.seq (.seq (.reg F_aps_state_oner0) (.cond (.t 11) (.reg F_aps_state_oner1) .skip)) (.seq (.reg F_aps_state_oner2) (.seq (.seq (.reg F_aps_state_oner3) (.cond (.t 28) (.reg F_aps_state_oner4) .skip)) (.seq (.seq (.reg F_aps_state_oner5) (.cond (.t 41) (.dreg F_aps_state_oner6 [(3, 9)]) .skip)) (.seq (.dreg F_aps_state_oner7 [(3, 16), (13, 16)]) (.seq (.seq (.reg F_aps_state_oner8) (.cond (.t 72) (.reg F_aps_state_oner9) .skip)) (.dreg F_aps_state_oner10 []))))))) env H Q := Iff.rfl
def F_aps_state_one : IFn := ⟨88, [], F_aps_state_onec⟩
set_option maxRecDepth 1000000 in
theorem F_aps_state_one_chk : chkF Try.prog 60 F_aps_state_one = true := by kernel_rfl

/-! ### aps_info -/
def F_aps_infor0 : List IStmt := [
  ⟨some 1, .box 5 (.t 0), none⟩,
  ⟨some 2, .mv (.c (.int .i64 0)), none⟩]
theorem F_aps_infor0_W {T : Tab} {env : Env} {H : Heap} {Q : Post} : W T (.reg F_aps_infor0) env H Q ↔ WR T F_aps_infor0 [
  ⟨some 1, .box 5 (.t 0), none⟩,
  ⟨some 2, .mv (.c (.int .i64 0)), none⟩] env H none [] Q := w_reg
def F_aps_infor1 : List IStmt := [
  ⟨some 3, .fa 2 (.t 1), none⟩,
  ⟨some 4, .load (.t 3), none⟩,
  ⟨some 5, .conv .u64 (.t 4), none⟩,
  ⟨some 6, .bin .shl (.t 5) (.c (.int .u64 32)), none⟩,
  ⟨some 7, .fa 1 (.t 1), none⟩,
  ⟨some 8, .load (.t 7), none⟩,
  ⟨some 9, .conv .u64 (.t 8), none⟩,
  ⟨some 10, .bin .or (.t 6) (.t 9), none⟩,
  ⟨some 11, .conv .i64 (.t 10), none⟩,
  ⟨some 2, .mv (.t 11), none⟩]
theorem F_aps_infor1_W {T : Tab} {env : Env} {H : Heap} {Q : Post} : W T (.reg F_aps_infor1) env H Q ↔ WR T F_aps_infor1 [
  ⟨some 3, .fa 2 (.t 1), none⟩,
  ⟨some 4, .load (.t 3), none⟩,
  ⟨some 5, .conv .u64 (.t 4), none⟩,
  ⟨some 6, .bin .shl (.t 5) (.c (.int .u64 32)), none⟩,
  ⟨some 7, .fa 1 (.t 1), none⟩,
  ⟨some 8, .load (.t 7), none⟩,
  ⟨some 9, .conv .u64 (.t 8), none⟩,
  ⟨some 10, .bin .or (.t 6) (.t 9), none⟩,
  ⟨some 11, .conv .i64 (.t 10), none⟩,
  ⟨some 2, .mv (.t 11), none⟩] env H none [] Q := w_reg
def F_aps_infoc : ICode := (.seq (.reg F_aps_infor0) (.seq (.reg F_aps_infor1) .ret))
theorem F_aps_infoc_W {T : Tab} {env : Env} {H : Heap} {Q : Post} : W T F_aps_infoc env H Q ↔ W T (.seq (.reg F_aps_infor0) (.seq (.reg F_aps_infor1) .ret)) env H Q := Iff.rfl
def F_aps_info : IFn := ⟨12, [.tmp 2], F_aps_infoc⟩
set_option maxRecDepth 1000000 in
theorem F_aps_info_chk : chkF Try.prog 45 F_aps_info = true := by kernel_rfl

/-! ### aps_Encode -/
def F_aps_Encoder0 : List IStmt := [
  ⟨some 4, .mv (.c (.slice none 0 0)), none⟩,
  ⟨some 5, .mv (.c (.int .i64 0)), none⟩]
theorem F_aps_Encoder0_W {T : Tab} {env : Env} {H : Heap} {Q : Post} : W T (.reg F_aps_Encoder0) env H Q ↔ WR T F_aps_Encoder0 [
  ⟨some 4, .mv (.c (.slice none 0 0)), none⟩,
  ⟨some 5, .mv (.c (.int .i64 0)), none⟩] env H none [] Q := w_reg
def F_aps_Encoder1 : List IStmt := [
  ⟨some 13, .mv (.t 0), none⟩,
  ⟨some 14, .len 1 (.t 13), none⟩,
  ⟨some 15, .bin .gtr (.t 14) (.c (.int .i64 512)), none⟩]
theorem F_aps_Encoder1_W {T : Tab} {env : Env} {H : Heap} {Q : Post} : W T (.reg F_aps_Encoder1) env H Q ↔ WR T F_aps_Encoder1 [
  ⟨some 13, .mv (.t 0), none⟩,
  ⟨some 14, .len 1 (.t 13), none⟩,
  ⟨some 15, .bin .gtr (.t 14) (.c (.int .i64 512)), none⟩] env H none [] Q := w_reg
def F_aps_Encoder2 : List IStmt := [
  ⟨some 4, .mv (.c (.slice none 0 0)), none⟩,
  ⟨some 5, .mv (.c (.int .i64 140)), none⟩]
theorem F_aps_Encoder2_W {T : Tab} {env : Env} {H : Heap} {Q : Post} : W T (.reg F_aps_Encoder2) env H Q ↔ WR T F_aps_Encoder2 [
  ⟨some 4, .mv (.c (.slice none 0 0)), none⟩,
  ⟨some 5, .mv (.c (.int .i64 140)), none⟩] env H none [] Q := w_reg
def F_aps_Encoder3 : List IStmt := [
  ⟨some 16, .bsl 1 4 [.int .u8 0] [(0, (.c (.int .u8 65))), (1, (.c (.int .u8 80))), (2, (.c (.int .u8 83))), (3, (.c (.int .u8 50)))], none⟩,
  ⟨some 17, .cvsl (.t 16), none⟩,
  ⟨some 6, .alloc 1 [.slice none 0 0], none⟩,
  ⟨none, .store 1 (.t 6) (.t 17), none⟩]
theorem F_aps_Encoder3_W {T : Tab} {env : Env} {H : Heap} {Q : Post} : W T (.reg F_aps_Encoder3) env H Q ↔ WR T F_aps_Encoder3 [
  ⟨some 16, .bsl 1 4 [.int .u8 0] [(0, (.c (.int .u8 65))), (1, (.c (.int .u8 80))), (2, (.c (.int .u8 83))), (3, (.c (.int .u8 50)))], none⟩,
  ⟨some 17, .cvsl (.t 16), none⟩,
  ⟨some 6, .alloc 1 [.slice none 0 0], none⟩,
  ⟨none, .store 1 (.t 6) (.t 17), none⟩] env H none [] Q := w_reg
def F_aps_Encoder4 : List IStmt := [
  ⟨some 18, .mkf 44 [] [(.t 6)], none⟩,
  ⟨some 7, .mv (.t 18), none⟩]
theorem F_aps_Encoder4_W {T : Tab} {env : Env} {H : Heap} {Q : Post} : W T (.reg F_aps_Encoder4) env H Q ↔ WR T F_aps_Encoder4 [
  ⟨some 18, .mkf 44 [] [(.t 6)], none⟩,
  ⟨some 7, .mv (.t 18), none⟩] env H none [] Q := w_reg
def F_aps_Encoder5 : List IStmt := [
  ⟨some 19, .mv (.t 7), none⟩,
  ⟨some 20, .mv (.t 0), none⟩,
  ⟨some 21, .len 1 (.t 20), none⟩,
  ⟨some 22, .callv (.t 19) [(.t 21)], none⟩]
theorem F_aps_Encoder5_W {T : Tab} {env : Env} {H : Heap} {Q : Post} : W T (.reg F_aps_Encoder5) env H Q ↔ WR T F_aps_Encoder5 [
  ⟨some 19, .mv (.t 7), none⟩,
  ⟨some 20, .mv (.t 0), none⟩,
  ⟨some 21, .len 1 (.t 20), none⟩,
  ⟨some 22, .callv (.t 19) [(.t 21)], none⟩] env H none [] Q := w_reg
def F_aps_Encoder6 : List IStmt := [
  ⟨some 23, .mv (.t 7), none⟩,
  ⟨some 24, .callv (.t 23) [(.c (.int .i64 0))], none⟩]
theorem F_aps_Encoder6_W {T : Tab} {env : Env} {H : Heap} {Q : Post} : W T (.reg F_aps_Encoder6) env H Q ↔ WR T F_aps_Encoder6 [
  ⟨some 23, .mv (.t 7), none⟩,
  ⟨some 24, .callv (.t 23) [(.c (.int .i64 0))], none⟩] env H none [] Q := w_reg
def F_aps_Encoder7 : List IStmt := [
  ⟨some 8, .mv (.c (.int .u64 0)), none⟩,
  ⟨some 9, .mv (.c (.int .i64 0)), none⟩]
theorem F_aps_Encoder7_W {T : Tab} {env : Env} {H : Heap} {Q : Post} : W T (.reg F_aps_Encoder7) env H Q ↔ WR T F_aps_Encoder7 [
  ⟨some 8, .mv (.c (.int .u64 0)), none⟩,
  ⟨some 9, .mv (.c (.int .i64 0)), none⟩] env H none [] Q := w_reg
def F_aps_Encoder8 : List IStmt := [
  ⟨some 10, .mv (.c (.int .i64 0)), none⟩]
theorem F_aps_Encoder8_W {T : Tab} {env : Env} {H : Heap} {Q : Post} : W T (.reg F_aps_Encoder8) env H Q ↔ WR T F_aps_Encoder8 [
  ⟨some 10, .mv (.c (.int .i64 0)), none⟩] env H none [] Q := w_reg
def F_aps_Encoder9 : List IStmt := [
  ⟨some 25, .mv (.t 10), none⟩,
  ⟨some 26, .mv (.t 0), none⟩,
  ⟨some 27, .len 1 (.t 26), none⟩,
  ⟨some 28, .bin .lss (.t 25) (.t 27), none⟩]
theorem F_aps_Encoder9_W {T : Tab} {env : Env} {H : Heap} {Q : Post} : W T (.reg F_aps_Encoder9) env H Q ↔ WR T F_aps_Encoder9 [
  ⟨some 25, .mv (.t 10), none⟩,
  ⟨some 26, .mv (.t 0), none⟩,
  ⟨some 27, .len 1 (.t 26), none⟩,
  ⟨some 28, .bin .lss (.t 25) (.t 27), none⟩] env H none [] Q := w_reg
def F_aps_Encoder10 : List IStmt := [
  ⟨some 29, .mv (.t 10), none⟩,
  ⟨some 11, .mv (.t 29), none⟩]
theorem F_aps_Encoder10_W {T : Tab} {env : Env} {H : Heap} {Q : Post} : W T (.reg F_aps_Encoder10) env H Q ↔ WR T F_aps_Encoder10 [
  ⟨some 29, .mv (.t 10), none⟩,
  ⟨some 11, .mv (.t 29), none⟩] env H none [] Q := w_reg
def F_aps_Encoder11 : List IStmt := [
  ⟨some 30, .mv (.t 11), none⟩,
  ⟨some 31, .mv (.t 0), none⟩,
  ⟨some 32, .len 1 (.t 31), none⟩,
  ⟨some 33, .bin .lss (.t 30) (.t 32), none⟩,
  ⟨some 34, .mv (.t 33), none⟩,
  ⟨some 35, .mv (.t 0), some (4, true)⟩,
  ⟨some 36, .mv (.t 11), some (4, true)⟩,
  ⟨some 37, .ixa 5 (.t 35) (.t 36), some (4, true)⟩,
  ⟨some 38, .loadN 5 (.t 37), some (4, true)⟩,
  ⟨some 39, .callc 45 [(.t 38)], some (4, true)⟩,
  ⟨some 40, .mv (.t 0), some (4, true)⟩,
  ⟨some 41, .mv (.t 10), some (4, true)⟩,
  ⟨some 42, .ixa 5 (.t 40) (.t 41), some (4, true)⟩,
  ⟨some 43, .loadN 5 (.t 42), some (4, true)⟩,
  ⟨some 44, .callc 45 [(.t 43)], some (4, true)⟩,
  ⟨some 45, .bin .eql (.t 39) (.t 44), some (4, true)⟩,
  ⟨some 46, .pick (.t 34) (.t 45) (.c (.bool false)), none⟩]
theorem F_aps_Encoder11_g4 {env : Env} : yieldI F_aps_Encoder11 env 4 = bOf (env 34) := rfl
theorem F_aps_Encoder11_W {T : Tab} {env : Env} {H : Heap} {Q : Post} : W T (.dreg F_aps_Encoder11 []) env H Q ↔ WR T F_aps_Encoder11 [
  ⟨some 30, .mv (.t 11), none⟩,
  ⟨some 31, .mv (.t 0), none⟩,
  ⟨some 32, .len 1 (.t 31), none⟩,
  ⟨some 33, .bin .lss (.t 30) (.t 32), none⟩,
  ⟨some 34, .mv (.t 33), none⟩,
  ⟨some 35, .mv (.t 0), some (4, true)⟩,
  ⟨some 36, .mv (.t 11), some (4, true)⟩,
  ⟨some 37, .ixa 5 (.t 35) (.t 36), some (4, true)⟩,
  ⟨some 38, .loadN 5 (.t 37), some (4, true)⟩,
  ⟨some 39, .callc 45 [(.t 38)], some (4, true)⟩,
  ⟨some 40, .mv (.t 0), some (4, true)⟩,
  ⟨some 41, .mv (.t 10), some (4, true)⟩,
  ⟨some 42, .ixa 5 (.t 40) (.t 41), some (4, true)⟩,
  ⟨some 43, .loadN 5 (.t 42), some (4, true)⟩,
  ⟨some 44, .callc 45 [(.t 43)], some (4, true)⟩,
  ⟨some 45, .bin .eql (.t 39) (.t 44), some (4, true)⟩,
  ⟨some 46, .pick (.t 34) (.t 45) (.c (.bool false)), none⟩] env H none [] Q := w_dreg0
def F_aps_Encoder12 : List IStmt := [
  ⟨some 47, .mv (.t 0), none⟩,
  ⟨some 48, .mv (.t 11), none⟩,
  ⟨some 49, .ixa 5 (.t 47) (.t 48), none⟩,
  ⟨some 50, .fa 4 (.t 49), none⟩,
  ⟨some 51, .load (.t 50), none⟩,
  ⟨some 52, .mv (.t 1), none⟩,
  ⟨some 53, .eqb true (.t 51) (.t 52), none⟩,
  ⟨some 54, .mv (.t 53), none⟩,
  ⟨some 55, .mv (.t 1), some (7, false)⟩,
  ⟨some 56, .un .not (.t 55), some (7, false)⟩,
  ⟨some 57, .mv (.t 56), some (7, false)⟩,
  ⟨some 58, .mv (.t 0), some (10, true)⟩,
  ⟨some 59, .mv (.t 11), some (10, true)⟩,
  ⟨some 60, .ixa 5 (.t 58) (.t 59), some (10, true)⟩,
  ⟨some 61, .fa 3 (.t 60), some (10, true)⟩,
  ⟨some 62, .load (.t 61), some (10, true)⟩,
  ⟨some 63, .bin .neq (.t 62) (.c (.int .i64 0)), some (10, true)⟩,
  ⟨some 64, .pick (.t 57) (.t 63) (.c (.bool false)), some (7, false)⟩,
  ⟨some 65, .pick (.t 54) (.c (.bool true)) (.t 64), none⟩]
theorem F_aps_Encoder12_W {T : Tab} {env : Env} {H : Heap} {Q : Post} : W T (.reg F_aps_Encoder12) env H Q ↔ WR T F_aps_Encoder12 [
  ⟨some 47, .mv (.t 0), none⟩,
  ⟨some 48, .mv (.t 11), none⟩,
  ⟨some 49, .ixa 5 (.t 47) (.t 48), none⟩,
  ⟨some 50, .fa 4 (.t 49), none⟩,
  ⟨some 51, .load (.t 50), none⟩,
  ⟨some 52, .mv (.t 1), none⟩,
  ⟨some 53, .eqb true (.t 51) (.t 52), none⟩,
  ⟨some 54, .mv (.t 53), none⟩,
  ⟨some 55, .mv (.t 1), some (7, false)⟩,
  ⟨some 56, .un .not (.t 55), some (7, false)⟩,
  ⟨some 57, .mv (.t 56), some (7, false)⟩,
  ⟨some 58, .mv (.t 0), some (10, true)⟩,
  ⟨some 59, .mv (.t 11), some (10, true)⟩,
  ⟨some 60, .ixa 5 (.t 58) (.t 59), some (10, true)⟩,
  ⟨some 61, .fa 3 (.t 60), some (10, true)⟩,
  ⟨some 62, .load (.t 61), some (10, true)⟩,
  ⟨some 63, .bin .neq (.t 62) (.c (.int .i64 0)), some (10, true)⟩,
  ⟨some 64, .pick (.t 57) (.t 63) (.c (.bool false)), some (7, false)⟩,
  ⟨some 65, .pick (.t 54) (.c (.bool true)) (.t 64), none⟩] env H none [] Q := w_reg
theorem F_aps_Encoder12_g7 {env : Env} : yieldI F_aps_Encoder12 env 7 = bOf (env 54) := rfl
theorem F_aps_Encoder12_g10 {env : Env} : yieldI F_aps_Encoder12 env 10 = bOf (env 57) := rfl
def F_aps_Encoder13 : List IStmt := [
  ⟨some 4, .mv (.c (.slice none 0 0)), none⟩,
  ⟨some 5, .mv (.c (.int .i64 140)), none⟩]
theorem F_aps_Encoder13_W {T : Tab} {env : Env} {H : Heap} {Q : Post} : W T (.reg F_aps_Encoder13) env H Q ↔ WR T F_aps_Encoder13 [
  ⟨some 4, .mv (.c (.slice none 0 0)), none⟩,
  ⟨some 5, .mv (.c (.int .i64 140)), none⟩] env H none [] Q := w_reg
def F_aps_Encoder14 : List IStmt := [
  ⟨some 66, .mv (.t 11), none⟩,
  ⟨some 67, .bin .add (.t 66) (.c (.int .i64 1)), none⟩,
  ⟨some 11, .mv (.t 67), none⟩]
theorem F_aps_Encoder14_W {T : Tab} {env : Env} {H : Heap} {Q : Post} : W T (.reg F_aps_Encoder14) env H Q ↔ WR T F_aps_Encoder14 [
  ⟨some 66, .mv (.t 11), none⟩,
  ⟨some 67, .bin .add (.t 66) (.c (.int .i64 1)), none⟩,
  ⟨some 11, .mv (.t 67), none⟩] env H none [] Q := w_reg
def F_aps_Encodel1 : ICode := (.seq (.seq (.dreg F_aps_Encoder11 []) (.cond (.t 46) .skip (.exit 2))) (.block 3 (.seq (.seq (.reg F_aps_Encoder12) (.cond (.t 65) (.seq (.reg F_aps_Encoder13) .ret) .skip)) (.reg F_aps_Encoder14))))
theorem F_aps_Encodel1_W {T : Tab} {env : Env} {H : Heap} {Q : Post} : W T F_aps_Encodel1 env H Q ↔ W T (.seq (.seq (.dreg F_aps_Encoder11 []) (.cond (.t 46) .skip (.exit 2))) (.block 3 (.seq (.seq (.reg F_aps_Encoder12) (.cond (.t 65) (.seq (.reg F_aps_Encoder13) .ret) .skip)) (.reg F_aps_Encoder14)))) env H Q := Iff.rfl
def F_aps_Encoder15 : List IStmt := [
  ⟨some 68, .mv (.t 7), none⟩,
  ⟨some 69, .mv (.t 11), none⟩,
  ⟨some 70, .mv (.t 10), none⟩,
  ⟨some 71, .bin .sub (.t 69) (.t 70), none⟩,
  ⟨some 72, .callv (.t 68) [(.t 71)], none⟩]
theorem F_aps_Encoder15_W {T : Tab} {env : Env} {H : Heap} {Q : Post} : W T (.reg F_aps_Encoder15) env H Q ↔ WR T F_aps_Encoder15 [
  ⟨some 68, .mv (.t 7), none⟩,
  ⟨some 69, .mv (.t 11), none⟩,
  ⟨some 70, .mv (.t 10), none⟩,
  ⟨some 71, .bin .sub (.t 69) (.t 70), none⟩,
  ⟨some 72, .callv (.t 68) [(.t 71)], none⟩] env H none [] Q := w_reg
def F_aps_Encoder16 : List IStmt := [
  ⟨some 12, .mv (.c (.int .i64 1)), none⟩]
theorem F_aps_Encoder16_W {T : Tab} {env : Env} {H : Heap} {Q : Post} : W T (.reg F_aps_Encoder16) env H Q ↔ WR T F_aps_Encoder16 [
  ⟨some 12, .mv (.c (.int .i64 1)), none⟩] env H none [] Q := w_reg
def F_aps_Encoder17 : List IStmt := [
  ⟨some 73, .mv (.t 1), none⟩]
theorem F_aps_Encoder17_W {T : Tab} {env : Env} {H : Heap} {Q : Post} : W T (.reg F_aps_Encoder17) env H Q ↔ WR T F_aps_Encoder17 [
  ⟨some 73, .mv (.t 1), none⟩] env H none [] Q := w_reg
def F_aps_Encoder18 : List IStmt := [
  ⟨some 74, .mv (.t 12), none⟩,
  ⟨some 75, .bin .or (.t 74) (.c (.int .i64 8)), none⟩,
  ⟨some 12, .mv (.t 75), none⟩]
theorem F_aps_Encoder18_W {T : Tab} {env : Env} {H : Heap} {Q : Post} : W T (.reg F_aps_Encoder18) env H Q ↔ WR T F_aps_Encoder18 [
  ⟨some 74, .mv (.t 12), none⟩,
  ⟨some 75, .bin .or (.t 74) (.c (.int .i64 8)), none⟩,
  ⟨some 12, .mv (.t 75), none⟩] env H none [] Q := w_reg
def F_aps_Encoder19 : List IStmt := [
  ⟨some 76, .mv (.t 7), none⟩,
  ⟨some 77, .mv (.t 12), none⟩,
  ⟨some 78, .callv (.t 76) [(.t 77)], none⟩]
theorem F_aps_Encoder19_W {T : Tab} {env : Env} {H : Heap} {Q : Post} : W T (.reg F_aps_Encoder19) env H Q ↔ WR T F_aps_Encoder19 [
  ⟨some 76, .mv (.t 7), none⟩,
  ⟨some 77, .mv (.t 12), none⟩,
  ⟨some 78, .callv (.t 76) [(.t 77)], none⟩] env H none [] Q := w_reg
def F_aps_Encoder20 : List IStmt := [
  ⟨some 79, .mv (.t 7), none⟩,
  ⟨some 80, .mv (.t 0), none⟩,
  ⟨some 81, .mv (.t 10), none⟩,
  ⟨some 82, .ixa 5 (.t 80) (.t 81), none⟩,
  ⟨some 83, .loadN 5 (.t 82), none⟩,
  ⟨some 84, .callc 45 [(.t 83)], none⟩,
  ⟨some 85, .callv (.t 79) [(.t 84)], none⟩]
theorem F_aps_Encoder20_W {T : Tab} {env : Env} {H : Heap} {Q : Post} : W T (.reg F_aps_Encoder20) env H Q ↔ WR T F_aps_Encoder20 [
  ⟨some 79, .mv (.t 7), none⟩,
  ⟨some 80, .mv (.t 0), none⟩,
  ⟨some 81, .mv (.t 10), none⟩,
  ⟨some 82, .ixa 5 (.t 80) (.t 81), none⟩,
  ⟨some 83, .loadN 5 (.t 82), none⟩,
  ⟨some 84, .callc 45 [(.t 83)], none⟩,
  ⟨some 85, .callv (.t 79) [(.t 84)], none⟩] env H none [] Q := w_reg
def F_aps_Encoder21 : List IStmt := [
  ⟨some 86, .mv (.t 10), none⟩,
  ⟨some 87, .mv (.t 11), none⟩,
  ⟨some 88, .bin .lss (.t 86) (.t 87), none⟩]
theorem F_aps_Encoder21_W {T : Tab} {env : Env} {H : Heap} {Q : Post} : W T (.reg F_aps_Encoder21) env H Q ↔ WR T F_aps_Encoder21 [
  ⟨some 86, .mv (.t 10), none⟩,
  ⟨some 87, .mv (.t 11), none⟩,
  ⟨some 88, .bin .lss (.t 86) (.t 87), none⟩] env H none [] Q := w_reg
def F_aps_Encoder23 : List IStmt := [
  ⟨some 91, .mv (.t 7), none⟩,
  ⟨some 92, .mv (.t 0), none⟩,
  ⟨some 93, .mv (.t 10), none⟩,
  ⟨some 94, .ixa 5 (.t 92) (.t 93), none⟩,
  ⟨some 95, .fa 0 (.t 94), none⟩,
  ⟨some 96, .load (.t 95), none⟩,
  ⟨some 97, .mv (.t 8), none⟩,
  ⟨some 98, .bin .sub (.t 96) (.t 97), none⟩,
  ⟨some 99, .conv .i64 (.t 98), none⟩,
  ⟨some 100, .callv (.t 91) [(.t 99)], none⟩]
theorem F_aps_Encoder23_W {T : Tab} {env : Env} {H : Heap} {Q : Post} : W T (.reg F_aps_Encoder23) env H Q ↔ WR T F_aps_Encoder23 [
  ⟨some 91, .mv (.t 7), none⟩,
  ⟨some 92, .mv (.t 0), none⟩,
  ⟨some 93, .mv (.t 10), none⟩,
  ⟨some 94, .ixa 5 (.t 92) (.t 93), none⟩,
  ⟨some 95, .fa 0 (.t 94), none⟩,
  ⟨some 96, .load (.t 95), none⟩,
  ⟨some 97, .mv (.t 8), none⟩,
  ⟨some 98, .bin .sub (.t 96) (.t 97), none⟩,
  ⟨some 99, .conv .i64 (.t 98), none⟩,
  ⟨some 100, .callv (.t 91) [(.t 99)], none⟩] env H none [] Q := w_reg
def F_aps_Encoder24 : List IStmt := [
  ⟨some 101, .mv (.t 0), none⟩,
  ⟨some 102, .mv (.t 10), none⟩,
  ⟨some 103, .ixa 5 (.t 101) (.t 102), none⟩,
  ⟨some 104, .fa 0 (.t 103), none⟩,
  ⟨some 105, .load (.t 104), none⟩,
  ⟨some 8, .mv (.t 105), none⟩]
theorem F_aps_Encoder24_W {T : Tab} {env : Env} {H : Heap} {Q : Post} : W T (.reg F_aps_Encoder24) env H Q ↔ WR T F_aps_Encoder24 [
  ⟨some 101, .mv (.t 0), none⟩,
  ⟨some 102, .mv (.t 10), none⟩,
  ⟨some 103, .ixa 5 (.t 101) (.t 102), none⟩,
  ⟨some 104, .fa 0 (.t 103), none⟩,
  ⟨some 105, .load (.t 104), none⟩,
  ⟨some 8, .mv (.t 105), none⟩] env H none [] Q := w_reg
def F_aps_Encoder25 : List IStmt := [
  ⟨some 106, .mv (.t 1), none⟩]
theorem F_aps_Encoder25_W {T : Tab} {env : Env} {H : Heap} {Q : Post} : W T (.reg F_aps_Encoder25) env H Q ↔ WR T F_aps_Encoder25 [
  ⟨some 106, .mv (.t 1), none⟩] env H none [] Q := w_reg
def F_aps_Encoder26 : List IStmt := [
  ⟨some 107, .mv (.t 7), none⟩,
  ⟨some 108, .mv (.t 0), none⟩,
  ⟨some 109, .mv (.t 10), none⟩,
  ⟨some 110, .ixa 5 (.t 108) (.t 109), none⟩,
  ⟨some 111, .fa 3 (.t 110), none⟩,
  ⟨some 112, .load (.t 111), none⟩,
  ⟨some 113, .mv (.t 9), none⟩,
  ⟨some 114, .bin .sub (.t 112) (.t 113), none⟩,
  ⟨some 115, .callv (.t 107) [(.t 114)], none⟩]
theorem F_aps_Encoder26_W {T : Tab} {env : Env} {H : Heap} {Q : Post} : W T (.reg F_aps_Encoder26) env H Q ↔ WR T F_aps_Encoder26 [
  ⟨some 107, .mv (.t 7), none⟩,
  ⟨some 108, .mv (.t 0), none⟩,
  ⟨some 109, .mv (.t 10), none⟩,
  ⟨some 110, .ixa 5 (.t 108) (.t 109), none⟩,
  ⟨some 111, .fa 3 (.t 110), none⟩,
  ⟨some 112, .load (.t 111), none⟩,
  ⟨some 113, .mv (.t 9), none⟩,
  ⟨some 114, .bin .sub (.t 112) (.t 113), none⟩,
  ⟨some 115, .callv (.t 107) [(.t 114)], none⟩] env H none [] Q := w_reg
def F_aps_Encoder27 : List IStmt := [
  ⟨some 116, .mv (.t 0), none⟩,
  ⟨some 117, .mv (.t 10), none⟩,
  ⟨some 118, .ixa 5 (.t 116) (.t 117), none⟩,
  ⟨some 119, .fa 3 (.t 118), none⟩,
  ⟨some 120, .load (.t 119), none⟩,
  ⟨some 9, .mv (.t 120), none⟩]
theorem F_aps_Encoder27_W {T : Tab} {env : Env} {H : Heap} {Q : Post} : W T (.reg F_aps_Encoder27) env H Q ↔ WR T F_aps_Encoder27 [
  ⟨some 116, .mv (.t 0), none⟩,
  ⟨some 117, .mv (.t 10), none⟩,
  ⟨some 118, .ixa 5 (.t 116) (.t 117), none⟩,
  ⟨some 119, .fa 3 (.t 118), none⟩,
  ⟨some 120, .load (.t 119), none⟩,
  ⟨some 9, .mv (.t 120), none⟩] env H none [] Q := w_reg
def F_aps_Encoder22 : List IStmt := [
  ⟨some 89, .mv (.t 10), none⟩,
  ⟨some 90, .bin .add (.t 89) (.c (.int .i64 1)), none⟩,
  ⟨some 10, .mv (.t 90), none⟩]
theorem F_aps_Encoder22_W {T : Tab} {env : Env} {H : Heap} {Q : Post} : W T (.reg F_aps_Encoder22) env H Q ↔ WR T F_aps_Encoder22 [
  ⟨some 89, .mv (.t 10), none⟩,
  ⟨some 90, .bin .add (.t 89) (.c (.int .i64 1)), none⟩,
  ⟨some 10, .mv (.t 90), none⟩] env H none [] Q := w_reg
def F_aps_Encodel2 : ICode := (.seq (.seq (.reg F_aps_Encoder21) (.cond (.t 88) .skip (.exit 4))) (.seq (.block 5 (.seq (.reg F_aps_Encoder23) (.seq (.reg F_aps_Encoder24) (.seq (.reg F_aps_Encoder25) (.cond (.t 106) (.seq (.reg F_aps_Encoder26) (.reg F_aps_Encoder27)) .skip))))) (.reg F_aps_Encoder22)))
theorem F_aps_Encodel2_W {T : Tab} {env : Env} {H : Heap} {Q : Post} : W T F_aps_Encodel2 env H Q ↔ W T (.seq (.seq (.reg F_aps_Encoder21) (.cond (.t 88) .skip (.exit 4))) (.seq (.block 5 (.seq (.reg F_aps_Encoder23) (.seq (.reg F_aps_Encoder24) (.seq (.reg F_aps_Encoder25) (.cond (.t 106) (.seq (.reg F_aps_Encoder26) (.reg F_aps_Encoder27)) .skip))))) (.reg F_aps_Encoder22))) env H Q := Iff.rfl
def F_aps_Encodel0 : ICode := (.seq (.seq (.reg F_aps_Encoder9) (.cond (.t 28) .skip (.exit 0))) (.block 1 (.seq (.reg F_aps_Encoder10) (.seq (.block 2 (.loop F_aps_Encodel1)) (.seq (.reg F_aps_Encoder15) (.seq (.reg F_aps_Encoder16) (.seq (.seq (.reg F_aps_Encoder17) (.cond (.t 73) (.reg F_aps_Encoder18) .skip)) (.seq (.reg F_aps_Encoder19) (.seq (.reg F_aps_Encoder20) (.block 4 (.loop F_aps_Encodel2)))))))))))
theorem F_aps_Encodel0_W {T : Tab} {env : Env} {H : Heap} {Q : Post} : W T F_aps_Encodel0 env H Q ↔ W T (.seq (.seq (.reg F_aps_Encoder9) (.cond (.t 28) .skip (.exit 0))) (.block 1 (.seq (.reg F_aps_Encoder10) (.seq (.block 2 (.loop F_aps_Encodel1)) (.seq (.reg F_aps_Encoder15) (.seq (.reg F_aps_Encoder16) (.seq (.seq (.reg F_aps_Encoder17) (.cond (.t 73) (.reg F_aps_Encoder18) .skip)) (.seq (.reg F_aps_Encoder19) (.seq (.reg F_aps_Encoder20) (.block 4 (.loop F_aps_Encodel2))))))))))) env H Q := Iff.rfl
def F_aps_Encoder28 : List IStmt := [
  ⟨some 121, .load (.t 6), none⟩,
  ⟨some 4, .mv (.t 121), none⟩,
  ⟨some 5, .mv (.c (.int .i64 0)), none⟩]
theorem F_aps_Encoder28_W {T : Tab} {env : Env} {H : Heap} {Q : Post} : W T (.reg F_aps_Encoder28) env H Q ↔ WR T F_aps_Encoder28 [
  ⟨some 121, .load (.t 6), none⟩,
  ⟨some 4, .mv (.t 121), none⟩,
  ⟨some 5, .mv (.c (.int .i64 0)), none⟩] env H none [] Q := w_reg
def F_aps_Encodec : ICode := (.seq (.reg F_aps_Encoder0) (.seq (.seq (.reg F_aps_Encoder1) (.cond (.t 15) (.seq (.reg F_aps_Encoder2) .ret) .skip)) (.seq (.reg F_aps_Encoder3) (.seq (.reg F_aps_Encoder4) (.seq (.reg F_aps_Encoder5) (.seq (.reg F_aps_Encoder6) (.seq (.reg F_aps_Encoder7) (.seq (.seq (.reg F_aps_Encoder8) (.block 0 (.loop F_aps_Encodel0))) (.seq (.reg F_aps_Encoder28) .ret)))))))))
theorem F_aps_Encodec_W {T : Tab} {env : Env} {H : Heap} {Q : Post} : W T F_aps_Encodec env H Q ↔ W T (.seq (.reg F_aps_Encoder0) (.seq (.seq (.reg F_aps_Encoder1) (.cond (.t 15) (.seq (.reg F_aps_Encoder2) .ret) .skip)) (.seq (.reg F_aps_Encoder3) (.seq (.reg F_aps_Encoder4) (.seq (.reg F_aps_Encoder5) (.seq (.reg F_aps_Encoder6) (.seq (.reg F_aps_Encoder7) (.seq (.seq (.reg F_aps_Encoder8) (.block 0 (.loop F_aps_Encodel0))) (.seq (.reg F_aps_Encoder28) .ret))))))))) env H Q := Iff.rfl
def F_aps_Encode : IFn := ⟨122, [.tmp 4, .tmp 5], F_aps_Encodec⟩
set_option maxRecDepth 1000000 in
theorem F_aps_Encode_chk : chkF Try.prog 29 F_aps_Encode = true := by kernel_rfl

/-! ### aps_Encode_1 -/
def F_aps_Encode_1r0 : List IStmt := [
  ⟨some 3, .load (.t 1), none⟩,
  ⟨some 4, .mv (.t 0), none⟩,
  ⟨some 5, .callc 14 [(.t 4)], none⟩,
  ⟨some 6, .app 1 1 (.t 3) (.t 5), none⟩,
  ⟨none, .store 1 (.t 1) (.t 6), none⟩]
theorem F_aps_Encode_1r0_W {T : Tab} {env : Env} {H : Heap} {Q : Post} : W T (.dreg F_aps_Encode_1r0 []) env H Q ↔ WR T F_aps_Encode_1r0 [
  ⟨some 3, .load (.t 1), none⟩,
  ⟨some 4, .mv (.t 0), none⟩,
  ⟨some 5, .callc 14 [(.t 4)], none⟩,
  ⟨some 6, .app 1 1 (.t 3) (.t 5), none⟩,
  ⟨none, .store 1 (.t 1) (.t 6), none⟩] env H none [] Q := w_dreg0
def F_aps_Encode_1c : ICode := (.dreg F_aps_Encode_1r0 [])
theorem F_aps_Encode_1c_W {T : Tab} {env : Env} {H : Heap} {Q : Post} : W T F_aps_Encode_1c env H Q ↔ W T (.dreg F_aps_Encode_1r0 []) env H Q := Iff.rfl
def F_aps_Encode_1 : IFn := ⟨7, [], F_aps_Encode_1c⟩
set_option maxRecDepth 1000000 in
theorem F_aps_Encode_1_chk : chkF Try.prog 44 F_aps_Encode_1 = true := by kernel_rfl

/-! ### ref14_numbers -/
def F_ref14_numbersr0 : List IStmt := [
  ⟨some 2, .mv (.c (.slice none 0 0)), none⟩,
  ⟨some 3, .mv (.c (.bool false)), none⟩]
theorem F_ref14_numbersr0_W {T : Tab} {env : Env} {H : Heap} {Q : Post} : W T (.reg F_ref14_numbersr0) env H Q ↔ WR T F_ref14_numbersr0 [
  ⟨some 2, .mv (.c (.slice none 0 0)), none⟩,
  ⟨some 3, .mv (.c (.bool false)), none⟩] env H none [] Q := w_reg
def F_ref14_numbersr1 : List IStmt := [
  ⟨some 4, .mv (.c (.slice none 0 0)), none⟩]
theorem F_ref14_numbersr1_W {T : Tab} {env : Env} {H : Heap} {Q : Post} : W T (.reg F_ref14_numbersr1) env H Q ↔ WR T F_ref14_numbersr1 [
  ⟨some 4, .mv (.c (.slice none 0 0)), none⟩] env H none [] Q := w_reg
def F_ref14_numbersr2 : List IStmt := [
  ⟨some 7, .mv (.t 0), none⟩,
  ⟨some 8, .bld [.slice none 0 0, .int .i64 0] [(0, 1, (.t 7))], none⟩,
  ⟨some 5, .alloc 2 [.slice none 0 0, .int .i64 0], none⟩,
  ⟨none, .store 2 (.t 5) (.t 8), none⟩]
theorem F_ref14_numbersr2_W {T : Tab} {env : Env} {H : Heap} {Q : Post} : W T (.reg F_ref14_numbersr2) env H Q ↔ WR T F_ref14_numbersr2 [
  ⟨some 7, .mv (.t 0), none⟩,
  ⟨some 8, .bld [.slice none 0 0, .int .i64 0] [(0, 1, (.t 7))], none⟩,
  ⟨some 5, .alloc 2 [.slice none 0 0, .int .i64 0], none⟩,
  ⟨none, .store 2 (.t 5) (.t 8), none⟩] env H none [] Q := w_reg
def F_ref14_numbersr3 : List IStmt := [
  ⟨some 9, .fa 0 (.t 5), none⟩,
  ⟨some 10, .load (.t 9), none⟩,
  ⟨some 11, .len 1 (.t 10), none⟩,
  ⟨some 12, .bin .gtr (.t 11) (.c (.int .i64 0)), none⟩]
theorem F_ref14_numbersr3_W {T : Tab} {env : Env} {H : Heap} {Q : Post} : W T (.reg F_ref14_numbersr3) env H Q ↔ WR T F_ref14_numbersr3 [
  ⟨some 9, .fa 0 (.t 5), none⟩,
  ⟨some 10, .load (.t 9), none⟩,
  ⟨some 11, .len 1 (.t 10), none⟩,
  ⟨some 12, .bin .gtr (.t 11) (.c (.int .i64 0)), none⟩] env H none [] Q := w_reg
def F_ref14_numbersr4 : List IStmt := [
  ⟨some 6, .mv (.c (.int .i64 0)), none⟩]
theorem F_ref14_numbersr4_W {T : Tab} {env : Env} {H : Heap} {Q : Post} : W T (.reg F_ref14_numbersr4) env H Q ↔ WR T F_ref14_numbersr4 [
  ⟨some 6, .mv (.c (.int .i64 0)), none⟩] env H none [] Q := w_reg
def F_ref14_numbersr5 : List IStmt := [
  ⟨some 14, .loadN 2 (.t 5), none⟩,
  ⟨some 15, .callc 18 [(.t 14)], none⟩,
  ⟨some 13, .mv (.t 15), none⟩,
  ⟨some 16, .ext (.t 13) 0, none⟩,
  ⟨some 17, .ext (.t 13) 1, none⟩,
  ⟨none, .store 2 (.t 5) (.t 16), none⟩,
  ⟨some 6, .mv (.t 17), none⟩]
theorem F_ref14_numbersr5_W {T : Tab} {env : Env} {H : Heap} {Q : Post} : W T (.reg F_ref14_numbersr5) env H Q ↔ WR T F_ref14_numbersr5 [
  ⟨some 14, .loadN 2 (.t 5), none⟩,
  ⟨some 15, .callc 18 [(.t 14)], none⟩,
  ⟨some 13, .mv (.t 15), none⟩,
  ⟨some 16, .ext (.t 13) 0, none⟩,
  ⟨some 17, .ext (.t 13) 1, none⟩,
  ⟨none, .store 2 (.t 5) (.t 16), none⟩,
  ⟨some 6, .mv (.t 17), none⟩] env H none [] Q := w_reg
def F_ref14_numbersr6 : List IStmt := [
  ⟨some 18, .fa 1 (.t 5), none⟩,
  ⟨some 19, .load (.t 18), none⟩,
  ⟨some 20, .bin .neq (.t 19) (.c (.int .i64 0)), none⟩]
theorem F_ref14_numbersr6_W {T : Tab} {env : Env} {H : Heap} {Q : Post} : W T (.reg F_ref14_numbersr6) env H Q ↔ WR T F_ref14_numbersr6 [
  ⟨some 18, .fa 1 (.t 5), none⟩,
  ⟨some 19, .load (.t 18), none⟩,
  ⟨some 20, .bin .neq (.t 19) (.c (.int .i64 0)), none⟩] env H none [] Q := w_reg
def F_ref14_numbersr7 : List IStmt := [
  ⟨some 21, .mv (.t 4), none⟩,
  ⟨some 2, .mv (.t 21), none⟩,
  ⟨some 3, .mv (.c (.bool false)), none⟩]
theorem F_ref14_numbersr7_W {T : Tab} {env : Env} {H : Heap} {Q : Post} : W T (.reg F_ref14_numbersr7) env H Q ↔ WR T F_ref14_numbersr7 [
  ⟨some 21, .mv (.t 4), none⟩,
  ⟨some 2, .mv (.t 21), none⟩,
  ⟨some 3, .mv (.c (.bool false)), none⟩] env H none [] Q := w_reg
def F_ref14_numbersr8 : List IStmt := [
  ⟨some 22, .mv (.t 4), none⟩,
  ⟨some 23, .mv (.t 6), none⟩,
  ⟨some 24, .bsli 1 1 [.int .i64 0] [(0, (.t 23))], none⟩,
  ⟨some 25, .app 1 8 (.t 22) (.t 24), none⟩,
  ⟨some 4, .mv (.t 25), none⟩]
theorem F_ref14_numbersr8_W {T : Tab} {env : Env} {H : Heap} {Q : Post} : W T (.reg F_ref14_numbersr8) env H Q ↔ WR T F_ref14_numbersr8 [
  ⟨some 22, .mv (.t 4), none⟩,
  ⟨some 23, .mv (.t 6), none⟩,
  ⟨some 24, .bsli 1 1 [.int .i64 0] [(0, (.t 23))], none⟩,
  ⟨some 25, .app 1 8 (.t 22) (.t 24), none⟩,
  ⟨some 4, .mv (.t 25), none⟩] env H none [] Q := w_reg
def F_ref14_numbersl0 : ICode := (.seq (.seq (.reg F_ref14_numbersr3) (.cond (.t 12) .skip (.exit 0))) (.block 1 (.seq (.reg F_ref14_numbersr4) (.seq (.reg F_ref14_numbersr5) (.seq (.seq (.reg F_ref14_numbersr6) (.cond (.t 20) (.seq (.reg F_ref14_numbersr7) .ret) .skip)) (.reg F_ref14_numbersr8))))))
theorem F_ref14_numbersl0_W {T : Tab} {env : Env} {H : Heap} {Q : Post} : W T F_ref14_numbersl0 env H Q ↔ W T (.seq (.seq (.reg F_ref14_numbersr3) (.cond (.t 12) .skip (.exit 0))) (.block 1 (.seq (.reg F_ref14_numbersr4) (.seq (.reg F_ref14_numbersr5) (.seq (.seq (.reg F_ref14_numbersr6) (.cond (.t 20) (.seq (.reg F_ref14_numbersr7) .ret) .skip)) (.reg F_ref14_numbersr8)))))) env H Q := Iff.rfl
def F_ref14_numbersr9 : List IStmt := [
  ⟨some 26, .mv (.t 4), none⟩,
  ⟨some 2, .mv (.t 26), none⟩,
  ⟨some 3, .mv (.c (.bool true)), none⟩]
theorem F_ref14_numbersr9_W {T : Tab} {env : Env} {H : Heap} {Q : Post} : W T (.reg F_ref14_numbersr9) env H Q ↔ WR T F_ref14_numbersr9 [
  ⟨some 26, .mv (.t 4), none⟩,
  ⟨some 2, .mv (.t 26), none⟩,
  ⟨some 3, .mv (.c (.bool true)), none⟩] env H none [] Q := w_reg
def F_ref14_numbersc : ICode := (.seq (.reg F_ref14_numbersr0) (.seq (.reg F_ref14_numbersr1) (.seq (.reg F_ref14_numbersr2) (.seq (.block 0 (.loop F_ref14_numbersl0)) (.seq (.reg F_ref14_numbersr9) .ret)))))
theorem F_ref14_numbersc_W {T : Tab} {env : Env} {H : Heap} {Q : Post} : W T F_ref14_numbersc env H Q ↔ W T (.seq (.reg F_ref14_numbersr0) (.seq (.reg F_ref14_numbersr1) (.seq (.reg F_ref14_numbersr2) (.seq (.block 0 (.loop F_ref14_numbersl0)) (.seq (.reg F_ref14_numbersr9) .ret))))) env H Q := Iff.rfl
def F_ref14_numbers : IFn := ⟨27, [.tmp 2, .tmp 3], F_ref14_numbersc⟩
set_option maxRecDepth 1000000 in
theorem F_ref14_numbers_chk : chkF Try.prog 41 F_ref14_numbers = true := by kernel_rfl

/-! ### ref14_take -/
def F_ref14_taker0 : List IStmt := [
  ⟨some 1, .box 2 (.t 0), none⟩,
  ⟨some 2, .alloc 2 [.slice none 0 0, .bool false], none⟩,
  ⟨some 3, .mv (.c (.int .i64 0)), none⟩]
theorem F_ref14_taker0_W {T : Tab} {env : Env} {H : Heap} {Q : Post} : W T (.reg F_ref14_taker0) env H Q ↔ WR T F_ref14_taker0 [
  ⟨some 1, .box 2 (.t 0), none⟩,
  ⟨some 2, .alloc 2 [.slice none 0 0, .bool false], none⟩,
  ⟨some 3, .mv (.c (.int .i64 0)), none⟩] env H none [] Q := w_reg
def F_ref14_taker1 : List IStmt := [
  ⟨some 5, .fa 0 (.t 1), none⟩,
  ⟨some 6, .load (.t 5), none⟩,
  ⟨some 7, .len 1 (.t 6), none⟩,
  ⟨some 8, .bin .eql (.t 7) (.c (.int .i64 0)), none⟩]
theorem F_ref14_taker1_W {T : Tab} {env : Env} {H : Heap} {Q : Post} : W T (.reg F_ref14_taker1) env H Q ↔ WR T F_ref14_taker1 [
  ⟨some 5, .fa 0 (.t 1), none⟩,
  ⟨some 6, .load (.t 5), none⟩,
  ⟨some 7, .len 1 (.t 6), none⟩,
  ⟨some 8, .bin .eql (.t 7) (.c (.int .i64 0)), none⟩] env H none [] Q := w_reg
def F_ref14_taker2 : List IStmt := [
  ⟨some 9, .fa 1 (.t 1), none⟩,
  ⟨none, .store 1 (.t 9) (.c (.bool true)), none⟩]
theorem F_ref14_taker2_W {T : Tab} {env : Env} {H : Heap} {Q : Post} : W T (.reg F_ref14_taker2) env H Q ↔ WR T F_ref14_taker2 [
  ⟨some 9, .fa 1 (.t 1), none⟩,
  ⟨none, .store 1 (.t 9) (.c (.bool true)), none⟩] env H none [] Q := w_reg
def F_ref14_taker3 : List IStmt := [
  ⟨some 10, .loadN 2 (.t 1), none⟩,
  ⟨none, .store 2 (.t 2) (.t 10), none⟩,
  ⟨some 3, .mv (.c (.int .i64 0)), none⟩]
theorem F_ref14_taker3_W {T : Tab} {env : Env} {H : Heap} {Q : Post} : W T (.reg F_ref14_taker3) env H Q ↔ WR T F_ref14_taker3 [
  ⟨some 10, .loadN 2 (.t 1), none⟩,
  ⟨none, .store 2 (.t 2) (.t 10), none⟩,
  ⟨some 3, .mv (.c (.int .i64 0)), none⟩] env H none [] Q := w_reg
def F_ref14_taker4 : List IStmt := [
  ⟨some 11, .fa 0 (.t 1), none⟩,
  ⟨some 12, .load (.t 11), none⟩,
  ⟨some 13, .ixa 1 (.t 12) (.c (.int .i64 0)), none⟩,
  ⟨some 14, .load (.t 13), none⟩,
  ⟨some 4, .mv (.t 14), none⟩]
theorem F_ref14_taker4_W {T : Tab} {env : Env} {H : Heap} {Q : Post} : W T (.reg F_ref14_taker4) env H Q ↔ WR T F_ref14_taker4 [
  ⟨some 11, .fa 0 (.t 1), none⟩,
  ⟨some 12, .load (.t 11), none⟩,
  ⟨some 13, .ixa 1 (.t 12) (.c (.int .i64 0)), none⟩,
  ⟨some 14, .load (.t 13), none⟩,
  ⟨some 4, .mv (.t 14), none⟩] env H none [] Q := w_reg
def F_ref14_taker5 : List IStmt := [
  ⟨some 15, .fa 0 (.t 1), none⟩,
  ⟨some 16, .load (.t 15), none⟩,
  ⟨some 17, .sle 1 (.t 16) (some (.c (.int .i64 1))) none none, none⟩,
  ⟨some 18, .fa 0 (.t 1), none⟩,
  ⟨none, .store 1 (.t 18) (.t 17), none⟩]
theorem F_ref14_taker5_W {T : Tab} {env : Env} {H : Heap} {Q : Post} : W T (.reg F_ref14_taker5) env H Q ↔ WR T F_ref14_taker5 [
  ⟨some 15, .fa 0 (.t 1), none⟩,
  ⟨some 16, .load (.t 15), none⟩,
  ⟨some 17, .sle 1 (.t 16) (some (.c (.int .i64 1))) none none, none⟩,
  ⟨some 18, .fa 0 (.t 1), none⟩,
  ⟨none, .store 1 (.t 18) (.t 17), none⟩] env H none [] Q := w_reg
def F_ref14_taker6 : List IStmt := [
  ⟨some 19, .loadN 2 (.t 1), none⟩,
  ⟨some 20, .mv (.t 4), none⟩,
  ⟨none, .store 2 (.t 2) (.t 19), none⟩,
  ⟨some 3, .mv (.t 20), none⟩]
theorem F_ref14_taker6_W {T : Tab} {env : Env} {H : Heap} {Q : Post} : W T (.reg F_ref14_taker6) env H Q ↔ WR T F_ref14_taker6 [
  ⟨some 19, .loadN 2 (.t 1), none⟩,
  ⟨some 20, .mv (.t 4), none⟩,
  ⟨none, .store 2 (.t 2) (.t 19), none⟩,
  ⟨some 3, .mv (.t 20), none⟩] env H none [] Q := w_reg
def F_ref14_takec : ICode := (.seq (.reg F_ref14_taker0) (.seq (.seq (.reg F_ref14_taker1) (.cond (.t 8) (.seq (.reg F_ref14_taker2) (.seq (.reg F_ref14_taker3) .ret)) .skip)) (.seq (.reg F_ref14_taker4) (.seq (.reg F_ref14_taker5) (.seq (.reg F_ref14_taker6) .ret)))))
theorem F_ref14_takec_W {T : Tab} {env : Env} {H : Heap} {Q : Post} : W T F_ref14_takec env H Q ↔ W T (.seq (.reg F_ref14_taker0) (.seq (.seq (.reg F_ref14_taker1) (.cond (.t 8) (.seq (.reg F_ref14_taker2) (.seq (.reg F_ref14_taker3) .ret)) .skip)) (.seq (.reg F_ref14_taker4) (.seq (.reg F_ref14_taker5) (.seq (.reg F_ref14_taker6) .ret))))) env H Q := Iff.rfl
def F_ref14_take : IFn := ⟨21, [.cell 2 (some 2), .tmp 3], F_ref14_takec⟩
set_option maxRecDepth 1000000 in
theorem F_ref14_take_chk : chkF Try.prog 42 F_ref14_take = true := by kernel_rfl

/-! ### ref14_has -/
def F_ref14_hasr0 : List IStmt := [
  ⟨some 4, .mv (.c (.bool false)), none⟩]
theorem F_ref14_hasr0_W {T : Tab} {env : Env} {H : Heap} {Q : Post} : W T (.reg F_ref14_hasr0) env H Q ↔ WR T F_ref14_hasr0 [
  ⟨some 4, .mv (.c (.bool false)), none⟩] env H none [] Q := w_reg
def F_ref14_hasr1 : List IStmt := [
  ⟨some 5, .mv (.t 0), none⟩,
  ⟨some 6, .mv (.t 1), none⟩,
  ⟨some 7, .bin .quo (.t 5) (.t 6), none⟩,
  ⟨some 8, .bin .rem (.t 7) (.c (.int .i64 2)), none⟩,
  ⟨some 9, .bin .eql (.t 8) (.c (.int .i64 1)), none⟩,
  ⟨some 4, .mv (.t 9), none⟩]
theorem F_ref14_hasr1_W {T : Tab} {env : Env} {H : Heap} {Q : Post} : W T (.reg F_ref14_hasr1) env H Q ↔ WR T F_ref14_hasr1 [
  ⟨some 5, .mv (.t 0), none⟩,
  ⟨some 6, .mv (.t 1), none⟩,
  ⟨some 7, .bin .quo (.t 5) (.t 6), none⟩,
  ⟨some 8, .bin .rem (.t 7) (.c (.int .i64 2)), none⟩,
  ⟨some 9, .bin .eql (.t 8) (.c (.int .i64 1)), none⟩,
  ⟨some 4, .mv (.t 9), none⟩] env H none [] Q := w_reg
def F_ref14_hasc : ICode := (.seq (.reg F_ref14_hasr0) (.seq (.reg F_ref14_hasr1) .ret))
theorem F_ref14_hasc_W {T : Tab} {env : Env} {H : Heap} {Q : Post} : W T F_ref14_hasc env H Q ↔ W T (.seq (.reg F_ref14_hasr0) (.seq (.reg F_ref14_hasr1) .ret)) env H Q := Iff.rfl
def F_ref14_has : IFn := ⟨10, [.tmp 4], F_ref14_hasc⟩
set_option maxRecDepth 1000000 in
theorem F_ref14_has_chk : chkF Try.prog 43 F_ref14_has = true := by kernel_rfl

/-! ### ref14_Decode -/
def F_ref14_Decoder0 : List IStmt := [
  ⟨some 4, .mv (.c (.slice none 0 0)), none⟩,
  ⟨some 5, .mv (.c (.int .i64 0)), none⟩]
theorem F_ref14_Decoder0_W {T : Tab} {env : Env} {H : Heap} {Q : Post} : W T (.reg F_ref14_Decoder0) env H Q ↔ WR T F_ref14_Decoder0 [
  ⟨some 4, .mv (.c (.slice none 0 0)), none⟩,
  ⟨some 5, .mv (.c (.int .i64 0)), none⟩] env H none [] Q := w_reg
def F_ref14_Decoder1 : List IStmt := [
  ⟨some 20, .mv (.t 0), none⟩,
  ⟨some 21, .len 1 (.t 20), none⟩,
  ⟨some 22, .bin .lss (.t 21) (.c (.int .i64 4)), none⟩,
  ⟨some 23, .mv (.t 22), none⟩,
  ⟨some 24, .mv (.t 0), some (3, false)⟩,
  ⟨some 25, .ixa 1 (.t 24) (.c (.int .i64 0)), some (3, false)⟩,
  ⟨some 26, .load (.t 25), some (3, false)⟩,
  ⟨some 27, .bin .neq (.t 26) (.c (.int .u8 65)), some (3, false)⟩,
  ⟨some 28, .pick (.t 23) (.c (.bool true)) (.t 27), none⟩,
  ⟨some 29, .mv (.t 28), none⟩,
  ⟨some 30, .mv (.t 0), some (9, false)⟩,
  ⟨some 31, .ixa 1 (.t 30) (.c (.int .i64 1)), some (9, false)⟩,
  ⟨some 32, .load (.t 31), some (9, false)⟩,
  ⟨some 33, .bin .neq (.t 32) (.c (.int .u8 80)), some (9, false)⟩,
  ⟨some 34, .pick (.t 29) (.c (.bool true)) (.t 33), none⟩,
  ⟨some 35, .mv (.t 34), none⟩,
  ⟨some 36, .mv (.t 0), some (15, false)⟩,
  ⟨some 37, .ixa 1 (.t 36) (.c (.int .i64 2)), some (15, false)⟩,
  ⟨some 38, .load (.t 37), some (15, false)⟩,
  ⟨some 39, .bin .neq (.t 38) (.c (.int .u8 83)), some (15, false)⟩,
  ⟨some 40, .pick (.t 35) (.c (.bool true)) (.t 39), none⟩,
  ⟨some 41, .mv (.t 40), none⟩,
  ⟨some 42, .mv (.t 0), some (21, false)⟩,
  ⟨some 43, .ixa 1 (.t 42) (.c (.int .i64 3)), some (21, false)⟩,
  ⟨some 44, .load (.t 43), some (21, false)⟩,
  ⟨some 45, .bin .neq (.t 44) (.c (.int .u8 50)), some (21, false)⟩,
  ⟨some 46, .pick (.t 41) (.c (.bool true)) (.t 45), none⟩]
theorem F_ref14_Decoder1_W {T : Tab} {env : Env} {H : Heap} {Q : Post} : W T (.reg F_ref14_Decoder1) env H Q ↔ WR T F_ref14_Decoder1 [
  ⟨some 20, .mv (.t 0), none⟩,
  ⟨some 21, .len 1 (.t 20), none⟩,
  ⟨some 22, .bin .lss (.t 21) (.c (.int .i64 4)), none⟩,
  ⟨some 23, .mv (.t 22), none⟩,
  ⟨some 24, .mv (.t 0), some (3, false)⟩,
  ⟨some 25, .ixa 1 (.t 24) (.c (.int .i64 0)), some (3, false)⟩,
  ⟨some 26, .load (.t 25), some (3, false)⟩,
  ⟨some 27, .bin .neq (.t 26) (.c (.int .u8 65)), some (3, false)⟩,
  ⟨some 28, .pick (.t 23) (.c (.bool true)) (.t 27), none⟩,
  ⟨some 29, .mv (.t 28), none⟩,
  ⟨some 30, .mv (.t 0), some (9, false)⟩,
  ⟨some 31, .ixa 1 (.t 30) (.c (.int .i64 1)), some (9, false)⟩,
  ⟨some 32, .load (.t 31), some (9, false)⟩,
  ⟨some 33, .bin .neq (.t 32) (.c (.int .u8 80)), some (9, false)⟩,
  ⟨some 34, .pick (.t 29) (.c (.bool true)) (.t 33), none⟩,
  ⟨some 35, .mv (.t 34), none⟩,
  ⟨some 36, .mv (.t 0), some (15, false)⟩,
  ⟨some 37, .ixa 1 (.t 36) (.c (.int .i64 2)), some (15, false)⟩,
  ⟨some 38, .load (.t 37), some (15, false)⟩,
  ⟨some 39, .bin .neq (.t 38) (.c (.int .u8 83)), some (15, false)⟩,
  ⟨some 40, .pick (.t 35) (.c (.bool true)) (.t 39), none⟩,
  ⟨some 41, .mv (.t 40), none⟩,
  ⟨some 42, .mv (.t 0), some (21, false)⟩,
  ⟨some 43, .ixa 1 (.t 42) (.c (.int .i64 3)), some (21, false)⟩,
  ⟨some 44, .load (.t 43), some (21, false)⟩,
  ⟨some 45, .bin .neq (.t 44) (.c (.int .u8 50)), some (21, false)⟩,
  ⟨some 46, .pick (.t 41) (.c (.bool true)) (.t 45), none⟩] env H none [] Q := w_reg
theorem F_ref14_Decoder1_g3 {env : Env} : yieldI F_ref14_Decoder1 env 3 = bOf (env 23) := rfl
theorem F_ref14_Decoder1_g9 {env : Env} : yieldI F_ref14_Decoder1 env 9 = bOf (env 29) := rfl
theorem F_ref14_Decoder1_g15 {env : Env} : yieldI F_ref14_Decoder1 env 15 = bOf (env 35) := rfl
theorem F_ref14_Decoder1_g21 {env : Env} : yieldI F_ref14_Decoder1 env 21 = bOf (env 41) := rfl
def F_ref14_Decoder2 : List IStmt := [
  ⟨some 4, .mv (.c (.slice none 0 0)), none⟩,
  ⟨some 5, .mv (.c (.int .i64 140)), none⟩]
theorem F_ref14_Decoder2_W {T : Tab} {env : Env} {H : Heap} {Q : Post} : W T (.reg F_ref14_Decoder2) env H Q ↔ WR T F_ref14_Decoder2 [
  ⟨some 4, .mv (.c (.slice none 0 0)), none⟩,
  ⟨some 5, .mv (.c (.int .i64 140)), none⟩] env H none [] Q := w_reg
def F_ref14_Decoder3 : List IStmt := [
  ⟨some 48, .mv (.t 0), none⟩,
  ⟨some 49, .sle 1 (.t 48) (some (.c (.int .i64 4))) none none, none⟩,
  ⟨some 50, .callc 41 [(.t 49)], none⟩,
  ⟨some 47, .mv (.t 50), none⟩,
  ⟨some 51, .ext (.t 47) 0, none⟩,
  ⟨some 52, .ext (.t 47) 1, none⟩,
  ⟨some 6, .mv (.t 51), none⟩,
  ⟨some 7, .mv (.t 52), none⟩]
theorem F_ref14_Decoder3_W {T : Tab} {env : Env} {H : Heap} {Q : Post} : W T (.reg F_ref14_Decoder3) env H Q ↔ WR T F_ref14_Decoder3 [
  ⟨some 48, .mv (.t 0), none⟩,
  ⟨some 49, .sle 1 (.t 48) (some (.c (.int .i64 4))) none none, none⟩,
  ⟨some 50, .callc 41 [(.t 49)], none⟩,
  ⟨some 47, .mv (.t 50), none⟩,
  ⟨some 51, .ext (.t 47) 0, none⟩,
  ⟨some 52, .ext (.t 47) 1, none⟩,
  ⟨some 6, .mv (.t 51), none⟩,
  ⟨some 7, .mv (.t 52), none⟩] env H none [] Q := w_reg
def F_ref14_Decoder4 : List IStmt := [
  ⟨some 53, .mv (.t 6), none⟩,
  ⟨some 54, .bld [.slice none 0 0, .bool false] [(0, 1, (.t 53))], none⟩,
  ⟨some 8, .alloc 2 [.slice none 0 0, .bool false], none⟩,
  ⟨none, .store 2 (.t 8) (.t 54), none⟩]
theorem F_ref14_Decoder4_W {T : Tab} {env : Env} {H : Heap} {Q : Post} : W T (.reg F_ref14_Decoder4) env H Q ↔ WR T F_ref14_Decoder4 [
  ⟨some 53, .mv (.t 6), none⟩,
  ⟨some 54, .bld [.slice none 0 0, .bool false] [(0, 1, (.t 53))], none⟩,
  ⟨some 8, .alloc 2 [.slice none 0 0, .bool false], none⟩,
  ⟨none, .store 2 (.t 8) (.t 54), none⟩] env H none [] Q := w_reg
def F_ref14_Decoder5 : List IStmt := [
  ⟨some 56, .loadN 2 (.t 8), none⟩,
  ⟨some 57, .callc 42 [(.t 56)], none⟩,
  ⟨some 55, .mv (.t 57), none⟩,
  ⟨some 58, .ext (.t 55) 0, none⟩,
  ⟨some 59, .ext (.t 55) 1, none⟩,
  ⟨none, .store 2 (.t 8) (.t 58), none⟩,
  ⟨some 9, .mv (.t 59), none⟩]
theorem F_ref14_Decoder5_W {T : Tab} {env : Env} {H : Heap} {Q : Post} : W T (.reg F_ref14_Decoder5) env H Q ↔ WR T F_ref14_Decoder5 [
  ⟨some 56, .loadN 2 (.t 8), none⟩,
  ⟨some 57, .callc 42 [(.t 56)], none⟩,
  ⟨some 55, .mv (.t 57), none⟩,
  ⟨some 58, .ext (.t 55) 0, none⟩,
  ⟨some 59, .ext (.t 55) 1, none⟩,
  ⟨none, .store 2 (.t 8) (.t 58), none⟩,
  ⟨some 9, .mv (.t 59), none⟩] env H none [] Q := w_reg
def F_ref14_Decoder6 : List IStmt := [
  ⟨some 61, .loadN 2 (.t 8), none⟩,
  ⟨some 62, .callc 42 [(.t 61)], none⟩,
  ⟨some 60, .mv (.t 62), none⟩,
  ⟨some 63, .ext (.t 60) 0, none⟩,
  ⟨some 64, .ext (.t 60) 1, none⟩,
  ⟨none, .store 2 (.t 8) (.t 63), none⟩,
  ⟨some 10, .mv (.t 64), none⟩]
theorem F_ref14_Decoder6_W {T : Tab} {env : Env} {H : Heap} {Q : Post} : W T (.reg F_ref14_Decoder6) env H Q ↔ WR T F_ref14_Decoder6 [
  ⟨some 61, .loadN 2 (.t 8), none⟩,
  ⟨some 62, .callc 42 [(.t 61)], none⟩,
  ⟨some 60, .mv (.t 62), none⟩,
  ⟨some 63, .ext (.t 60) 0, none⟩,
  ⟨some 64, .ext (.t 60) 1, none⟩,
  ⟨none, .store 2 (.t 8) (.t 63), none⟩,
  ⟨some 10, .mv (.t 64), none⟩] env H none [] Q := w_reg
def F_ref14_Decoder7 : List IStmt := [
  ⟨some 65, .fa 1 (.t 8), none⟩,
  ⟨some 66, .load (.t 65), none⟩,
  ⟨some 67, .mv (.t 66), none⟩,
  ⟨some 68, .mv (.t 9), some (2, false)⟩,
  ⟨some 69, .bin .lss (.t 68) (.c (.int .i64 0)), some (2, false)⟩,
  ⟨some 70, .pick (.t 67) (.c (.bool true)) (.t 69), none⟩,
  ⟨some 71, .mv (.t 70), none⟩,
  ⟨some 72, .mv (.t 9), some (6, false)⟩,
  ⟨some 73, .bin .gtr (.t 72) (.c (.int .i64 512)), some (6, false)⟩,
  ⟨some 74, .pick (.t 71) (.c (.bool true)) (.t 73), none⟩]
theorem F_ref14_Decoder7_W {T : Tab} {env : Env} {H : Heap} {Q : Post} : W T (.reg F_ref14_Decoder7) env H Q ↔ WR T F_ref14_Decoder7 [
  ⟨some 65, .fa 1 (.t 8), none⟩,
  ⟨some 66, .load (.t 65), none⟩,
  ⟨some 67, .mv (.t 66), none⟩,
  ⟨some 68, .mv (.t 9), some (2, false)⟩,
  ⟨some 69, .bin .lss (.t 68) (.c (.int .i64 0)), some (2, false)⟩,
  ⟨some 70, .pick (.t 67) (.c (.bool true)) (.t 69), none⟩,
  ⟨some 71, .mv (.t 70), none⟩,
  ⟨some 72, .mv (.t 9), some (6, false)⟩,
  ⟨some 73, .bin .gtr (.t 72) (.c (.int .i64 512)), some (6, false)⟩,
  ⟨some 74, .pick (.t 71) (.c (.bool true)) (.t 73), none⟩] env H none [] Q := w_reg
theorem F_ref14_Decoder7_g2 {env : Env} : yieldI F_ref14_Decoder7 env 2 = bOf (env 67) := rfl
theorem F_ref14_Decoder7_g6 {env : Env} : yieldI F_ref14_Decoder7 env 6 = bOf (env 71) := rfl
def F_ref14_Decoder8 : List IStmt := [
  ⟨some 4, .mv (.c (.slice none 0 0)), none⟩,
  ⟨some 5, .mv (.c (.int .i64 140)), none⟩]
theorem F_ref14_Decoder8_W {T : Tab} {env : Env} {H : Heap} {Q : Post} : W T (.reg F_ref14_Decoder8) env H Q ↔ WR T F_ref14_Decoder8 [
  ⟨some 4, .mv (.c (.slice none 0 0)), none⟩,
  ⟨some 5, .mv (.c (.int .i64 140)), none⟩] env H none [] Q := w_reg
def F_ref14_Decoder9 : List IStmt := [
  ⟨some 11, .mv (.c (.slice none 0 0)), none⟩]
theorem F_ref14_Decoder9_W {T : Tab} {env : Env} {H : Heap} {Q : Post} : W T (.reg F_ref14_Decoder9) env H Q ↔ WR T F_ref14_Decoder9 [
  ⟨some 11, .mv (.c (.slice none 0 0)), none⟩] env H none [] Q := w_reg
def F_ref14_Decoder10 : List IStmt := [
  ⟨some 12, .mv (.c (.int .i64 0)), none⟩]
theorem F_ref14_Decoder10_W {T : Tab} {env : Env} {H : Heap} {Q : Post} : W T (.reg F_ref14_Decoder10) env H Q ↔ WR T F_ref14_Decoder10 [
  ⟨some 12, .mv (.c (.int .i64 0)), none⟩] env H none [] Q := w_reg
def F_ref14_Decoder11 : List IStmt := [
  ⟨some 75, .mv (.t 11), none⟩,
  ⟨some 76, .len 1 (.t 75), none⟩,
  ⟨some 77, .mv (.t 9), none⟩,
  ⟨some 78, .bin .lss (.t 76) (.t 77), none⟩]
theorem F_ref14_Decoder11_W {T : Tab} {env : Env} {H : Heap} {Q : Post} : W T (.reg F_ref14_Decoder11) env H Q ↔ WR T F_ref14_Decoder11 [
  ⟨some 75, .mv (.t 11), none⟩,
  ⟨some 76, .len 1 (.t 75), none⟩,
  ⟨some 77, .mv (.t 9), none⟩,
  ⟨some 78, .bin .lss (.t 76) (.t 77), none⟩] env H none [] Q := w_reg
def F_ref14_Decoder12 : List IStmt := [
  ⟨some 13, .mv (.c (.int .i64 0)), none⟩,
  ⟨some 14, .mv (.c (.int .i64 0)), none⟩]
theorem F_ref14_Decoder12_W {T : Tab} {env : Env} {H : Heap} {Q : Post} : W T (.reg F_ref14_Decoder12) env H Q ↔ WR T F_ref14_Decoder12 [
  ⟨some 13, .mv (.c (.int .i64 0)), none⟩,
  ⟨some 14, .mv (.c (.int .i64 0)), none⟩] env H none [] Q := w_reg
def F_ref14_Decoder13 : List IStmt := [
  ⟨some 80, .loadN 2 (.t 8), none⟩,
  ⟨some 81, .callc 42 [(.t 80)], none⟩,
  ⟨some 79, .mv (.t 81), none⟩,
  ⟨some 82, .ext (.t 79) 0, none⟩,
  ⟨some 83, .ext (.t 79) 1, none⟩,
  ⟨none, .store 2 (.t 8) (.t 82), none⟩,
  ⟨some 13, .mv (.t 83), none⟩]
theorem F_ref14_Decoder13_W {T : Tab} {env : Env} {H : Heap} {Q : Post} : W T (.reg F_ref14_Decoder13) env H Q ↔ WR T F_ref14_Decoder13 [
  ⟨some 80, .loadN 2 (.t 8), none⟩,
  ⟨some 81, .callc 42 [(.t 80)], none⟩,
  ⟨some 79, .mv (.t 81), none⟩,
  ⟨some 82, .ext (.t 79) 0, none⟩,
  ⟨some 83, .ext (.t 79) 1, none⟩,
  ⟨none, .store 2 (.t 8) (.t 82), none⟩,
  ⟨some 13, .mv (.t 83), none⟩] env H none [] Q := w_reg
def F_ref14_Decoder14 : List IStmt := [
  ⟨some 85, .loadN 2 (.t 8), none⟩,
  ⟨some 86, .callc 42 [(.t 85)], none⟩,
  ⟨some 84, .mv (.t 86), none⟩,
  ⟨some 87, .ext (.t 84) 0, none⟩,
  ⟨some 88, .ext (.t 84) 1, none⟩,
  ⟨none, .store 2 (.t 8) (.t 87), none⟩,
  ⟨some 14, .mv (.t 88), none⟩]
theorem F_ref14_Decoder14_W {T : Tab} {env : Env} {H : Heap} {Q : Post} : W T (.reg F_ref14_Decoder14) env H Q ↔ WR T F_ref14_Decoder14 [
  ⟨some 85, .loadN 2 (.t 8), none⟩,
  ⟨some 86, .callc 42 [(.t 85)], none⟩,
  ⟨some 84, .mv (.t 86), none⟩,
  ⟨some 87, .ext (.t 84) 0, none⟩,
  ⟨some 88, .ext (.t 84) 1, none⟩,
  ⟨none, .store 2 (.t 8) (.t 87), none⟩,
  ⟨some 14, .mv (.t 88), none⟩] env H none [] Q := w_reg
def F_ref14_Decoder15 : List IStmt := [
  ⟨some 89, .fa 1 (.t 8), none⟩,
  ⟨some 90, .load (.t 89), none⟩,
  ⟨some 91, .mv (.t 90), none⟩,
  ⟨some 92, .mv (.t 13), some (2, false)⟩,
  ⟨some 93, .bin .lss (.t 92) (.c (.int .i64 1)), some (2, false)⟩,
  ⟨some 94, .pick (.t 91) (.c (.bool true)) (.t 93), none⟩,
  ⟨some 95, .mv (.t 94), none⟩,
  ⟨some 96, .mv (.t 13), some (6, false)⟩,
  ⟨some 97, .mv (.t 9), some (6, false)⟩,
  ⟨some 98, .mv (.t 11), some (6, false)⟩,
  ⟨some 99, .len 1 (.t 98), some (6, false)⟩,
  ⟨some 100, .bin .sub (.t 97) (.t 99), some (6, false)⟩,
  ⟨some 101, .bin .gtr (.t 96) (.t 100), some (6, false)⟩,
  ⟨some 102, .pick (.t 95) (.c (.bool true)) (.t 101), none⟩,
  ⟨some 103, .mv (.t 102), none⟩,
  ⟨some 104, .mv (.t 14), some (14, false)⟩,
  ⟨some 105, .bin .lss (.t 104) (.c (.int .i64 0)), some (14, false)⟩,
  ⟨some 106, .pick (.t 103) (.c (.bool true)) (.t 105), none⟩,
  ⟨some 107, .mv (.t 106), none⟩,
  ⟨some 108, .mv (.t 14), some (18, false)⟩,
  ⟨some 109, .bin .gtr (.t 108) (.c (.int .i64 15)), some (18, false)⟩,
  ⟨some 110, .pick (.t 107) (.c (.bool true)) (.t 109), none⟩,
  ⟨some 111, .mv (.t 110), none⟩,
  ⟨some 112, .mv (.t 14), some (22, false)⟩,
  ⟨some 113, .callc 43 [(.t 112), (.c (.int .i64 8))], some (22, false)⟩,
  ⟨some 114, .mv (.t 113), some (22, false)⟩,
  ⟨some 115, .mv (.t 1), some (25, true)⟩,
  ⟨some 116, .un .not (.t 115), some (25, true)⟩,
  ⟨some 117, .pick (.t 114) (.t 116) (.c (.bool false)), some (22, false)⟩,
  ⟨some 118, .pick (.t 111) (.c (.bool true)) (.t 117), none⟩]
theorem F_ref14_Decoder15_W {T : Tab} {env : Env} {H : Heap} {Q : Post} : W T (.reg F_ref14_Decoder15) env H Q ↔ WR T F_ref14_Decoder15 [
  ⟨some 89, .fa 1 (.t 8), none⟩,
  ⟨some 90, .load (.t 89), none⟩,
  ⟨some 91, .mv (.t 90), none⟩,
  ⟨some 92, .mv (.t 13), some (2, false)⟩,
  ⟨some 93, .bin .lss (.t 92) (.c (.int .i64 1)), some (2, false)⟩,
  ⟨some 94, .pick (.t 91) (.c (.bool true)) (.t 93), none⟩,
  ⟨some 95, .mv (.t 94), none⟩,
  ⟨some 96, .mv (.t 13), some (6, false)⟩,
  ⟨some 97, .mv (.t 9), some (6, false)⟩,
  ⟨some 98, .mv (.t 11), some (6, false)⟩,
  ⟨some 99, .len 1 (.t 98), some (6, false)⟩,
  ⟨some 100, .bin .sub (.t 97) (.t 99), some (6, false)⟩,
  ⟨some 101, .bin .gtr (.t 96) (.t 100), some (6, false)⟩,
  ⟨some 102, .pick (.t 95) (.c (.bool true)) (.t 101), none⟩,
  ⟨some 103, .mv (.t 102), none⟩,
  ⟨some 104, .mv (.t 14), some (14, false)⟩,
  ⟨some 105, .bin .lss (.t 104) (.c (.int .i64 0)), some (14, false)⟩,
  ⟨some 106, .pick (.t 103) (.c (.bool true)) (.t 105), none⟩,
  ⟨some 107, .mv (.t 106), none⟩,
  ⟨some 108, .mv (.t 14), some (18, false)⟩,
  ⟨some 109, .bin .gtr (.t 108) (.c (.int .i64 15)), some (18, false)⟩,
  ⟨some 110, .pick (.t 107) (.c (.bool true)) (.t 109), none⟩,
  ⟨some 111, .mv (.t 110), none⟩,
  ⟨some 112, .mv (.t 14), some (22, false)⟩,
  ⟨some 113, .callc 43 [(.t 112), (.c (.int .i64 8))], some (22, false)⟩,
  ⟨some 114, .mv (.t 113), some (22, false)⟩,
  ⟨some 115, .mv (.t 1), some (25, true)⟩,
  ⟨some 116, .un .not (.t 115), some (25, true)⟩,
  ⟨some 117, .pick (.t 114) (.t 116) (.c (.bool false)), some (22, false)⟩,
  ⟨some 118, .pick (.t 111) (.c (.bool true)) (.t 117), none⟩] env H none [] Q := w_reg
theorem F_ref14_Decoder15_g2 {env : Env} : yieldI F_ref14_Decoder15 env 2 = bOf (env 91) := rfl
theorem F_ref14_Decoder15_g6 {env : Env} : yieldI F_ref14_Decoder15 env 6 = bOf (env 95) := rfl
theorem F_ref14_Decoder15_g14 {env : Env} : yieldI F_ref14_Decoder15 env 14 = bOf (env 103) := rfl
theorem F_ref14_Decoder15_g18 {env : Env} : yieldI F_ref14_Decoder15 env 18 = bOf (env 107) := rfl
theorem F_ref14_Decoder15_g22 {env : Env} : yieldI F_ref14_Decoder15 env 22 = bOf (env 111) := rfl
theorem F_ref14_Decoder15_g25 {env : Env} : yieldI F_ref14_Decoder15 env 25 = bOf (env 114) := rfl
def F_ref14_Decoder16 : List IStmt := [
  ⟨some 4, .mv (.c (.slice none 0 0)), none⟩,
  ⟨some 5, .mv (.c (.int .i64 140)), none⟩]
theorem F_ref14_Decoder16_W {T : Tab} {env : Env} {H : Heap} {Q : Post} : W T (.reg F_ref14_Decoder16) env H Q ↔ WR T F_ref14_Decoder16 [
  ⟨some 4, .mv (.c (.slice none 0 0)), none⟩,
  ⟨some 5, .mv (.c (.int .i64 140)), none⟩] env H none [] Q := w_reg
def F_ref14_Decoder17 : List IStmt := [
  ⟨some 15, .mv (.c (.int .i64 0)), none⟩,
  ⟨some 16, .mv (.c (.int .i64 0)), none⟩,
  ⟨some 17, .mv (.c (.int .i64 0)), none⟩]
theorem F_ref14_Decoder17_W {T : Tab} {env : Env} {H : Heap} {Q : Post} : W T (.reg F_ref14_Decoder17) env H Q ↔ WR T F_ref14_Decoder17 [
  ⟨some 15, .mv (.c (.int .i64 0)), none⟩,
  ⟨some 16, .mv (.c (.int .i64 0)), none⟩,
  ⟨some 17, .mv (.c (.int .i64 0)), none⟩] env H none [] Q := w_reg
def F_ref14_Decoder18 : List IStmt := [
  ⟨some 119, .mv (.t 14), none⟩,
  ⟨some 120, .callc 43 [(.t 119), (.c (.int .i64 2))], none⟩]
theorem F_ref14_Decoder18_W {T : Tab} {env : Env} {H : Heap} {Q : Post} : W T (.reg F_ref14_Decoder18) env H Q ↔ WR T F_ref14_Decoder18 [
  ⟨some 119, .mv (.t 14), none⟩,
  ⟨some 120, .callc 43 [(.t 119), (.c (.int .i64 2))], none⟩] env H none [] Q := w_reg
def F_ref14_Decoder19 : List IStmt := [
  ⟨some 122, .loadN 2 (.t 8), none⟩,
  ⟨some 123, .callc 42 [(.t 122)], none⟩,
  ⟨some 121, .mv (.t 123), none⟩,
  ⟨some 124, .ext (.t 121) 0, none⟩,
  ⟨some 125, .ext (.t 121) 1, none⟩,
  ⟨none, .store 2 (.t 8) (.t 124), none⟩,
  ⟨some 15, .mv (.t 125), none⟩]
theorem F_ref14_Decoder19_W {T : Tab} {env : Env} {H : Heap} {Q : Post} : W T (.reg F_ref14_Decoder19) env H Q ↔ WR T F_ref14_Decoder19 [
  ⟨some 122, .loadN 2 (.t 8), none⟩,
  ⟨some 123, .callc 42 [(.t 122)], none⟩,
  ⟨some 121, .mv (.t 123), none⟩,
  ⟨some 124, .ext (.t 121) 0, none⟩,
  ⟨some 125, .ext (.t 121) 1, none⟩,
  ⟨none, .store 2 (.t 8) (.t 124), none⟩,
  ⟨some 15, .mv (.t 125), none⟩] env H none [] Q := w_reg
def F_ref14_Decoder20 : List IStmt := [
  ⟨some 126, .mv (.t 14), none⟩,
  ⟨some 127, .callc 43 [(.t 126), (.c (.int .i64 1))], none⟩]
theorem F_ref14_Decoder20_W {T : Tab} {env : Env} {H : Heap} {Q : Post} : W T (.reg F_ref14_Decoder20) env H Q ↔ WR T F_ref14_Decoder20 [
  ⟨some 126, .mv (.t 14), none⟩,
  ⟨some 127, .callc 43 [(.t 126), (.c (.int .i64 1))], none⟩] env H none [] Q := w_reg
def F_ref14_Decoder21 : List IStmt := [
  ⟨some 129, .loadN 2 (.t 8), none⟩,
  ⟨some 130, .callc 42 [(.t 129)], none⟩,
  ⟨some 128, .mv (.t 130), none⟩,
  ⟨some 131, .ext (.t 128) 0, none⟩,
  ⟨some 132, .ext (.t 128) 1, none⟩,
  ⟨none, .store 2 (.t 8) (.t 131), none⟩,
  ⟨some 16, .mv (.t 132), none⟩]
theorem F_ref14_Decoder21_W {T : Tab} {env : Env} {H : Heap} {Q : Post} : W T (.reg F_ref14_Decoder21) env H Q ↔ WR T F_ref14_Decoder21 [
  ⟨some 129, .loadN 2 (.t 8), none⟩,
  ⟨some 130, .callc 42 [(.t 129)], none⟩,
  ⟨some 128, .mv (.t 130), none⟩,
  ⟨some 131, .ext (.t 128) 0, none⟩,
  ⟨some 132, .ext (.t 128) 1, none⟩,
  ⟨none, .store 2 (.t 8) (.t 131), none⟩,
  ⟨some 16, .mv (.t 132), none⟩] env H none [] Q := w_reg
def F_ref14_Decoder22 : List IStmt := [
  ⟨some 133, .mv (.t 14), none⟩,
  ⟨some 134, .callc 43 [(.t 133), (.c (.int .i64 8))], none⟩,
  ⟨some 135, .mv (.t 134), none⟩,
  ⟨some 136, .mv (.t 14), some (2, true)⟩,
  ⟨some 137, .callc 43 [(.t 136), (.c (.int .i64 4))], some (2, true)⟩,
  ⟨some 138, .pick (.t 135) (.t 137) (.c (.bool false)), none⟩]
theorem F_ref14_Decoder22_W {T : Tab} {env : Env} {H : Heap} {Q : Post} : W T (.reg F_ref14_Decoder22) env H Q ↔ WR T F_ref14_Decoder22 [
  ⟨some 133, .mv (.t 14), none⟩,
  ⟨some 134, .callc 43 [(.t 133), (.c (.int .i64 8))], none⟩,
  ⟨some 135, .mv (.t 134), none⟩,
  ⟨some 136, .mv (.t 14), some (2, true)⟩,
  ⟨some 137, .callc 43 [(.t 136), (.c (.int .i64 4))], some (2, true)⟩,
  ⟨some 138, .pick (.t 135) (.t 137) (.c (.bool false)), none⟩] env H none [] Q := w_reg
theorem F_ref14_Decoder22_g2 {env : Env} : yieldI F_ref14_Decoder22 env 2 = bOf (env 135) := rfl
def F_ref14_Decoder23 : List IStmt := [
  ⟨some 140, .loadN 2 (.t 8), none⟩,
  ⟨some 141, .callc 42 [(.t 140)], none⟩,
  ⟨some 139, .mv (.t 141), none⟩,
  ⟨some 142, .ext (.t 139) 0, none⟩,
  ⟨some 143, .ext (.t 139) 1, none⟩,
  ⟨none, .store 2 (.t 8) (.t 142), none⟩,
  ⟨some 17, .mv (.t 143), none⟩]
theorem F_ref14_Decoder23_W {T : Tab} {env : Env} {H : Heap} {Q : Post} : W T (.reg F_ref14_Decoder23) env H Q ↔ WR T F_ref14_Decoder23 [
  ⟨some 140, .loadN 2 (.t 8), none⟩,
  ⟨some 141, .callc 42 [(.t 140)], none⟩,
  ⟨some 139, .mv (.t 141), none⟩,
  ⟨some 142, .ext (.t 139) 0, none⟩,
  ⟨some 143, .ext (.t 139) 1, none⟩,
  ⟨none, .store 2 (.t 8) (.t 142), none⟩,
  ⟨some 17, .mv (.t 143), none⟩] env H none [] Q := w_reg
def F_ref14_Decoder24 : List IStmt := [
  ⟨some 144, .mv (.t 12), none⟩,
  ⟨some 145, .mv (.t 17), none⟩,
  ⟨some 146, .bin .add (.t 144) (.t 145), none⟩,
  ⟨some 12, .mv (.t 146), none⟩]
theorem F_ref14_Decoder24_W {T : Tab} {env : Env} {H : Heap} {Q : Post} : W T (.reg F_ref14_Decoder24) env H Q ↔ WR T F_ref14_Decoder24 [
  ⟨some 144, .mv (.t 12), none⟩,
  ⟨some 145, .mv (.t 17), none⟩,
  ⟨some 146, .bin .add (.t 144) (.t 145), none⟩,
  ⟨some 12, .mv (.t 146), none⟩] env H none [] Q := w_reg
def F_ref14_Decoder25 : List IStmt := [
  ⟨some 147, .mv (.t 14), none⟩,
  ⟨some 148, .callc 43 [(.t 147), (.c (.int .i64 8))], none⟩,
  ⟨some 149, .un .not (.t 148), none⟩]
theorem F_ref14_Decoder25_W {T : Tab} {env : Env} {H : Heap} {Q : Post} : W T (.reg F_ref14_Decoder25) env H Q ↔ WR T F_ref14_Decoder25 [
  ⟨some 147, .mv (.t 14), none⟩,
  ⟨some 148, .callc 43 [(.t 147), (.c (.int .i64 8))], none⟩,
  ⟨some 149, .un .not (.t 148), none⟩] env H none [] Q := w_reg
def F_ref14_Decoder26 : List IStmt := [
  ⟨some 12, .mv (.c (.int .i64 0)), none⟩]
theorem F_ref14_Decoder26_W {T : Tab} {env : Env} {H : Heap} {Q : Post} : W T (.reg F_ref14_Decoder26) env H Q ↔ WR T F_ref14_Decoder26 [
  ⟨some 12, .mv (.c (.int .i64 0)), none⟩] env H none [] Q := w_reg
def F_ref14_Decoder27 : List IStmt := [
  ⟨some 18, .mv (.c (.int .i64 0)), none⟩]
theorem F_ref14_Decoder27_W {T : Tab} {env : Env} {H : Heap} {Q : Post} : W T (.reg F_ref14_Decoder27) env H Q ↔ WR T F_ref14_Decoder27 [
  ⟨some 18, .mv (.c (.int .i64 0)), none⟩] env H none [] Q := w_reg
def F_ref14_Decoder28 : List IStmt := [
  ⟨some 150, .mv (.t 18), none⟩,
  ⟨some 151, .mv (.t 13), none⟩,
  ⟨some 152, .bin .lss (.t 150) (.t 151), none⟩]
theorem F_ref14_Decoder28_W {T : Tab} {env : Env} {H : Heap} {Q : Post} : W T (.reg F_ref14_Decoder28) env H Q ↔ WR T F_ref14_Decoder28 [
  ⟨some 150, .mv (.t 18), none⟩,
  ⟨some 151, .mv (.t 13), none⟩,
  ⟨some 152, .bin .lss (.t 150) (.t 151), none⟩] env H none [] Q := w_reg
def F_ref14_Decoder30 : List IStmt := [
  ⟨some 155, .mv (.t 14), none⟩,
  ⟨some 156, .callc 43 [(.t 155), (.c (.int .i64 2))], none⟩,
  ⟨some 157, .un .not (.t 156), none⟩]
theorem F_ref14_Decoder30_W {T : Tab} {env : Env} {H : Heap} {Q : Post} : W T (.reg F_ref14_Decoder30) env H Q ↔ WR T F_ref14_Decoder30 [
  ⟨some 155, .mv (.t 14), none⟩,
  ⟨some 156, .callc 43 [(.t 155), (.c (.int .i64 2))], none⟩,
  ⟨some 157, .un .not (.t 156), none⟩] env H none [] Q := w_reg
def F_ref14_Decoder31 : List IStmt := [
  ⟨some 159, .loadN 2 (.t 8), none⟩,
  ⟨some 160, .callc 42 [(.t 159)], none⟩,
  ⟨some 158, .mv (.t 160), none⟩,
  ⟨some 161, .ext (.t 158) 0, none⟩,
  ⟨some 162, .ext (.t 158) 1, none⟩,
  ⟨none, .store 2 (.t 8) (.t 161), none⟩,
  ⟨some 15, .mv (.t 162), none⟩]
theorem F_ref14_Decoder31_W {T : Tab} {env : Env} {H : Heap} {Q : Post} : W T (.reg F_ref14_Decoder31) env H Q ↔ WR T F_ref14_Decoder31 [
  ⟨some 159, .loadN 2 (.t 8), none⟩,
  ⟨some 160, .callc 42 [(.t 159)], none⟩,
  ⟨some 158, .mv (.t 160), none⟩,
  ⟨some 161, .ext (.t 158) 0, none⟩,
  ⟨some 162, .ext (.t 158) 1, none⟩,
  ⟨none, .store 2 (.t 8) (.t 161), none⟩,
  ⟨some 15, .mv (.t 162), none⟩] env H none [] Q := w_reg
def F_ref14_Decoder32 : List IStmt := [
  ⟨some 163, .mv (.t 14), none⟩,
  ⟨some 164, .callc 43 [(.t 163), (.c (.int .i64 1))], none⟩,
  ⟨some 165, .un .not (.t 164), none⟩]
theorem F_ref14_Decoder32_W {T : Tab} {env : Env} {H : Heap} {Q : Post} : W T (.reg F_ref14_Decoder32) env H Q ↔ WR T F_ref14_Decoder32 [
  ⟨some 163, .mv (.t 14), none⟩,
  ⟨some 164, .callc 43 [(.t 163), (.c (.int .i64 1))], none⟩,
  ⟨some 165, .un .not (.t 164), none⟩] env H none [] Q := w_reg
def F_ref14_Decoder33 : List IStmt := [
  ⟨some 167, .loadN 2 (.t 8), none⟩,
  ⟨some 168, .callc 42 [(.t 167)], none⟩,
  ⟨some 166, .mv (.t 168), none⟩,
  ⟨some 169, .ext (.t 166) 0, none⟩,
  ⟨some 170, .ext (.t 166) 1, none⟩,
  ⟨none, .store 2 (.t 8) (.t 169), none⟩,
  ⟨some 16, .mv (.t 170), none⟩]
theorem F_ref14_Decoder33_W {T : Tab} {env : Env} {H : Heap} {Q : Post} : W T (.reg F_ref14_Decoder33) env H Q ↔ WR T F_ref14_Decoder33 [
  ⟨some 167, .loadN 2 (.t 8), none⟩,
  ⟨some 168, .callc 42 [(.t 167)], none⟩,
  ⟨some 166, .mv (.t 168), none⟩,
  ⟨some 169, .ext (.t 166) 0, none⟩,
  ⟨some 170, .ext (.t 166) 1, none⟩,
  ⟨none, .store 2 (.t 8) (.t 169), none⟩,
  ⟨some 16, .mv (.t 170), none⟩] env H none [] Q := w_reg
def F_ref14_Decoder34 : List IStmt := [
  ⟨some 171, .mv (.t 14), none⟩,
  ⟨some 172, .callc 43 [(.t 171), (.c (.int .i64 8))], none⟩,
  ⟨some 173, .mv (.t 172), none⟩,
  ⟨some 174, .mv (.t 14), some (2, true)⟩,
  ⟨some 175, .callc 43 [(.t 174), (.c (.int .i64 4))], some (2, true)⟩,
  ⟨some 176, .un .not (.t 175), some (2, true)⟩,
  ⟨some 177, .pick (.t 173) (.t 176) (.c (.bool false)), none⟩]
theorem F_ref14_Decoder34_W {T : Tab} {env : Env} {H : Heap} {Q : Post} : W T (.reg F_ref14_Decoder34) env H Q ↔ WR T F_ref14_Decoder34 [
  ⟨some 171, .mv (.t 14), none⟩,
  ⟨some 172, .callc 43 [(.t 171), (.c (.int .i64 8))], none⟩,
  ⟨some 173, .mv (.t 172), none⟩,
  ⟨some 174, .mv (.t 14), some (2, true)⟩,
  ⟨some 175, .callc 43 [(.t 174), (.c (.int .i64 4))], some (2, true)⟩,
  ⟨some 176, .un .not (.t 175), some (2, true)⟩,
  ⟨some 177, .pick (.t 173) (.t 176) (.c (.bool false)), none⟩] env H none [] Q := w_reg
theorem F_ref14_Decoder34_g2 {env : Env} : yieldI F_ref14_Decoder34 env 2 = bOf (env 173) := rfl
def F_ref14_Decoder35 : List IStmt := [
  ⟨some 179, .loadN 2 (.t 8), none⟩,
  ⟨some 180, .callc 42 [(.t 179)], none⟩,
  ⟨some 178, .mv (.t 180), none⟩,
  ⟨some 181, .ext (.t 178) 0, none⟩,
  ⟨some 182, .ext (.t 178) 1, none⟩,
  ⟨none, .store 2 (.t 8) (.t 181), none⟩,
  ⟨some 17, .mv (.t 182), none⟩]
theorem F_ref14_Decoder35_W {T : Tab} {env : Env} {H : Heap} {Q : Post} : W T (.reg F_ref14_Decoder35) env H Q ↔ WR T F_ref14_Decoder35 [
  ⟨some 179, .loadN 2 (.t 8), none⟩,
  ⟨some 180, .callc 42 [(.t 179)], none⟩,
  ⟨some 178, .mv (.t 180), none⟩,
  ⟨some 181, .ext (.t 178) 0, none⟩,
  ⟨some 182, .ext (.t 178) 1, none⟩,
  ⟨none, .store 2 (.t 8) (.t 181), none⟩,
  ⟨some 17, .mv (.t 182), none⟩] env H none [] Q := w_reg
def F_ref14_Decoder36 : List IStmt := [
  ⟨some 183, .mv (.t 12), none⟩,
  ⟨some 184, .mv (.t 17), none⟩,
  ⟨some 185, .bin .add (.t 183) (.t 184), none⟩,
  ⟨some 12, .mv (.t 185), none⟩]
theorem F_ref14_Decoder36_W {T : Tab} {env : Env} {H : Heap} {Q : Post} : W T (.reg F_ref14_Decoder36) env H Q ↔ WR T F_ref14_Decoder36 [
  ⟨some 183, .mv (.t 12), none⟩,
  ⟨some 184, .mv (.t 17), none⟩,
  ⟨some 185, .bin .add (.t 183) (.t 184), none⟩,
  ⟨some 12, .mv (.t 185), none⟩] env H none [] Q := w_reg
def F_ref14_Decoder37 : List IStmt := [
  ⟨some 186, .mv (.t 10), none⟩,
  ⟨some 187, .mv (.t 15), none⟩,
  ⟨some 188, .bin .add (.t 186) (.t 187), none⟩,
  ⟨some 10, .mv (.t 188), none⟩]
theorem F_ref14_Decoder37_W {T : Tab} {env : Env} {H : Heap} {Q : Post} : W T (.reg F_ref14_Decoder37) env H Q ↔ WR T F_ref14_Decoder37 [
  ⟨some 186, .mv (.t 10), none⟩,
  ⟨some 187, .mv (.t 15), none⟩,
  ⟨some 188, .bin .add (.t 186) (.t 187), none⟩,
  ⟨some 10, .mv (.t 188), none⟩] env H none [] Q := w_reg
def F_ref14_Decoder38 : List IStmt := [
  ⟨some 189, .mv (.t 10), none⟩,
  ⟨some 190, .conv .u64 (.t 189), none⟩,
  ⟨some 191, .mv (.t 16), none⟩,
  ⟨some 192, .conv .u64 (.t 191), none⟩,
  ⟨some 193, .bin .rem (.t 192) (.c (.int .u64 4294967296)), none⟩,
  ⟨some 194, .conv .u32 (.t 193), none⟩,
  ⟨some 195, .mv (.t 16), none⟩,
  ⟨some 196, .conv .u64 (.t 195), none⟩,
  ⟨some 197, .bin .quo (.t 196) (.c (.int .u64 4294967296)), none⟩,
  ⟨some 198, .conv .u32 (.t 197), none⟩,
  ⟨some 199, .mv (.t 1), none⟩,
  ⟨some 200, .bld [.int .u64 0, .int .u32 0, .int .u32 0, .int .i64 0, .bool false] [(0, 1, (.t 190)), (1, 1, (.t 194)), (2, 1, (.t 198)), (4, 1, (.t 199))], none⟩,
  ⟨some 19, .alloc 5 [.int .u64 0, .int .u32 0, .int .u32 0, .int .i64 0, .bool false], none⟩,
  ⟨none, .store 5 (.t 19) (.t 200), none⟩]
theorem F_ref14_Decoder38_W {T : Tab} {env : Env} {H : Heap} {Q : Post} : W T (.reg F_ref14_Decoder38) env H Q ↔ WR T F_ref14_Decoder38 [
  ⟨some 189, .mv (.t 10), none⟩,
  ⟨some 190, .conv .u64 (.t 189), none⟩,
  ⟨some 191, .mv (.t 16), none⟩,
  ⟨some 192, .conv .u64 (.t 191), none⟩,
  ⟨some 193, .bin .rem (.t 192) (.c (.int .u64 4294967296)), none⟩,
  ⟨some 194, .conv .u32 (.t 193), none⟩,
  ⟨some 195, .mv (.t 16), none⟩,
  ⟨some 196, .conv .u64 (.t 195), none⟩,
  ⟨some 197, .bin .quo (.t 196) (.c (.int .u64 4294967296)), none⟩,
  ⟨some 198, .conv .u32 (.t 197), none⟩,
  ⟨some 199, .mv (.t 1), none⟩,
  ⟨some 200, .bld [.int .u64 0, .int .u32 0, .int .u32 0, .int .i64 0, .bool false] [(0, 1, (.t 190)), (1, 1, (.t 194)), (2, 1, (.t 198)), (4, 1, (.t 199))], none⟩,
  ⟨some 19, .alloc 5 [.int .u64 0, .int .u32 0, .int .u32 0, .int .i64 0, .bool false], none⟩,
  ⟨none, .store 5 (.t 19) (.t 200), none⟩] env H none [] Q := w_reg
def F_ref14_Decoder39 : List IStmt := [
  ⟨some 201, .mv (.t 1), none⟩]
theorem F_ref14_Decoder39_W {T : Tab} {env : Env} {H : Heap} {Q : Post} : W T (.reg F_ref14_Decoder39) env H Q ↔ WR T F_ref14_Decoder39 [
  ⟨some 201, .mv (.t 1), none⟩] env H none [] Q := w_reg
def F_ref14_Decoder40 : List IStmt := [
  ⟨some 202, .mv (.t 12), none⟩,
  ⟨some 203, .fa 3 (.t 19), none⟩,
  ⟨none, .store 1 (.t 203) (.t 202), none⟩]
theorem F_ref14_Decoder40_W {T : Tab} {env : Env} {H : Heap} {Q : Post} : W T (.reg F_ref14_Decoder40) env H Q ↔ WR T F_ref14_Decoder40 [
  ⟨some 202, .mv (.t 12), none⟩,
  ⟨some 203, .fa 3 (.t 19), none⟩,
  ⟨none, .store 1 (.t 203) (.t 202), none⟩] env H none [] Q := w_reg
def F_ref14_Decoder41 : List IStmt := [
  ⟨some 204, .mv (.t 11), none⟩,
  ⟨some 205, .loadN 5 (.t 19), none⟩,
  ⟨some 206, .bsli 5 1 [.int .u64 0, .int .u32 0, .int .u32 0, .int .i64 0, .bool false] [(0, (.t 205))], none⟩,
  ⟨some 207, .app 5 32 (.t 204) (.t 206), none⟩,
  ⟨some 11, .mv (.t 207), none⟩]
theorem F_ref14_Decoder41_W {T : Tab} {env : Env} {H : Heap} {Q : Post} : W T (.reg F_ref14_Decoder41) env H Q ↔ WR T F_ref14_Decoder41 [
  ⟨some 204, .mv (.t 11), none⟩,
  ⟨some 205, .loadN 5 (.t 19), none⟩,
  ⟨some 206, .bsli 5 1 [.int .u64 0, .int .u32 0, .int .u32 0, .int .i64 0, .bool false] [(0, (.t 205))], none⟩,
  ⟨some 207, .app 5 32 (.t 204) (.t 206), none⟩,
  ⟨some 11, .mv (.t 207), none⟩] env H none [] Q := w_reg
def F_ref14_Decoder29 : List IStmt := [
  ⟨some 153, .mv (.t 18), none⟩,
  ⟨some 154, .bin .add (.t 153) (.c (.int .i64 1)), none⟩,
  ⟨some 18, .mv (.t 154), none⟩]
theorem F_ref14_Decoder29_W {T : Tab} {env : Env} {H : Heap} {Q : Post} : W T (.reg F_ref14_Decoder29) env H Q ↔ WR T F_ref14_Decoder29 [
  ⟨some 153, .mv (.t 18), none⟩,
  ⟨some 154, .bin .add (.t 153) (.c (.int .i64 1)), none⟩,
  ⟨some 18, .mv (.t 154), none⟩] env H none [] Q := w_reg
def F_ref14_Decodel1 : ICode := (.seq (.seq (.reg F_ref14_Decoder28) (.cond (.t 152) .skip (.exit 2))) (.seq (.block 3 (.seq (.seq (.reg F_ref14_Decoder30) (.cond (.t 157) (.reg F_ref14_Decoder31) .skip)) (.seq (.seq (.reg F_ref14_Decoder32) (.cond (.t 165) (.reg F_ref14_Decoder33) .skip)) (.seq (.seq (.reg F_ref14_Decoder34) (.cond (.t 177) (.seq (.reg F_ref14_Decoder35) (.reg F_ref14_Decoder36)) .skip)) (.seq (.reg F_ref14_Decoder37) (.seq (.reg F_ref14_Decoder38) (.seq (.seq (.reg F_ref14_Decoder39) (.cond (.t 201) (.reg F_ref14_Decoder40) .skip)) (.reg F_ref14_Decoder41)))))))) (.reg F_ref14_Decoder29)))
theorem F_ref14_Decodel1_W {T : Tab} {env : Env} {H : Heap} {Q : Post} : W T F_ref14_Decodel1 env H Q ↔ W T (.seq (.seq (.reg F_ref14_Decoder28) (.cond (.t 152) .skip (.exit 2))) (.seq (.block 3 (.seq (.seq (.reg F_ref14_Decoder30) (.cond (.t 157) (.reg F_ref14_Decoder31) .skip)) (.seq (.seq (.reg F_ref14_Decoder32) (.cond (.t 165) (.reg F_ref14_Decoder33) .skip)) (.seq (.seq (.reg F_ref14_Decoder34) (.cond (.t 177) (.seq (.reg F_ref14_Decoder35) (.reg F_ref14_Decoder36)) .skip)) (.seq (.reg F_ref14_Decoder37) (.seq (.reg F_ref14_Decoder38) (.seq (.seq (.reg F_ref14_Decoder39) (.cond (.t 201) (.reg F_ref14_Decoder40) .skip)) (.reg F_ref14_Decoder41)))))))) (.reg F_ref14_Decoder29))) env H Q := Iff.rfl
def F_ref14_Decoder42 : List IStmt := [
  ⟨some 208, .fa 1 (.t 8), none⟩,
  ⟨some 209, .load (.t 208), none⟩]
theorem F_ref14_Decoder42_W {T : Tab} {env : Env} {H : Heap} {Q : Post} : W T (.reg F_ref14_Decoder42) env H Q ↔ WR T F_ref14_Decoder42 [
  ⟨some 208, .fa 1 (.t 8), none⟩,
  ⟨some 209, .load (.t 208), none⟩] env H none [] Q := w_reg
def F_ref14_Decoder43 : List IStmt := [
  ⟨some 4, .mv (.c (.slice none 0 0)), none⟩,
  ⟨some 5, .mv (.c (.int .i64 140)), none⟩]
theorem F_ref14_Decoder43_W {T : Tab} {env : Env} {H : Heap} {Q : Post} : W T (.reg F_ref14_Decoder43) env H Q ↔ WR T F_ref14_Decoder43 [
  ⟨some 4, .mv (.c (.slice none 0 0)), none⟩,
  ⟨some 5, .mv (.c (.int .i64 140)), none⟩] env H none [] Q := w_reg
def F_ref14_Decodel0 : ICode := (.seq (.seq (.reg F_ref14_Decoder11) (.cond (.t 78) .skip (.exit 0))) (.block 1 (.seq (.reg F_ref14_Decoder12) (.seq (.reg F_ref14_Decoder13) (.seq (.reg F_ref14_Decoder14) (.seq (.seq (.reg F_ref14_Decoder15) (.cond (.t 118) (.seq (.reg F_ref14_Decoder16) .ret) .skip)) (.seq (.reg F_ref14_Decoder17) (.seq (.seq (.reg F_ref14_Decoder18) (.cond (.t 120) (.reg F_ref14_Decoder19) .skip)) (.seq (.seq (.reg F_ref14_Decoder20) (.cond (.t 127) (.reg F_ref14_Decoder21) .skip)) (.seq (.seq (.reg F_ref14_Decoder22) (.cond (.t 138) (.seq (.reg F_ref14_Decoder23) (.reg F_ref14_Decoder24)) .skip)) (.seq (.seq (.reg F_ref14_Decoder25) (.cond (.t 149) (.reg F_ref14_Decoder26) .skip)) (.seq (.seq (.reg F_ref14_Decoder27) (.block 2 (.loop F_ref14_Decodel1))) (.seq (.reg F_ref14_Decoder42) (.cond (.t 209) (.seq (.reg F_ref14_Decoder43) .ret) .skip))))))))))))))
theorem F_ref14_Decodel0_W {T : Tab} {env : Env} {H : Heap} {Q : Post} : W T F_ref14_Decodel0 env H Q ↔ W T (.seq (.seq (.reg F_ref14_Decoder11) (.cond (.t 78) .skip (.exit 0))) (.block 1 (.seq (.reg F_ref14_Decoder12) (.seq (.reg F_ref14_Decoder13) (.seq (.reg F_ref14_Decoder14) (.seq (.seq (.reg F_ref14_Decoder15) (.cond (.t 118) (.seq (.reg F_ref14_Decoder16) .ret) .skip)) (.seq (.reg F_ref14_Decoder17) (.seq (.seq (.reg F_ref14_Decoder18) (.cond (.t 120) (.reg F_ref14_Decoder19) .skip)) (.seq (.seq (.reg F_ref14_Decoder20) (.cond (.t 127) (.reg F_ref14_Decoder21) .skip)) (.seq (.seq (.reg F_ref14_Decoder22) (.cond (.t 138) (.seq (.reg F_ref14_Decoder23) (.reg F_ref14_Decoder24)) .skip)) (.seq (.seq (.reg F_ref14_Decoder25) (.cond (.t 149) (.reg F_ref14_Decoder26) .skip)) (.seq (.seq (.reg F_ref14_Decoder27) (.block 2 (.loop F_ref14_Decodel1))) (.seq (.reg F_ref14_Decoder42) (.cond (.t 209) (.seq (.reg F_ref14_Decoder43) .ret) .skip)))))))))))))) env H Q := Iff.rfl
def F_ref14_Decoder44 : List IStmt := [
  ⟨some 210, .fa 0 (.t 8), none⟩,
  ⟨some 211, .load (.t 210), none⟩,
  ⟨some 212, .len 1 (.t 211), none⟩,
  ⟨some 213, .bin .gtr (.t 212) (.c (.int .i64 0)), none⟩,
  ⟨some 214, .mv (.t 213), none⟩,
  ⟨some 215, .mv (.t 7), some (4, false)⟩,
  ⟨some 216, .un .not (.t 215), some (4, false)⟩,
  ⟨some 217, .pick (.t 214) (.c (.bool true)) (.t 216), none⟩]
theorem F_ref14_Decoder44_W {T : Tab} {env : Env} {H : Heap} {Q : Post} : W T (.reg F_ref14_Decoder44) env H Q ↔ WR T F_ref14_Decoder44 [
  ⟨some 210, .fa 0 (.t 8), none⟩,
  ⟨some 211, .load (.t 210), none⟩,
  ⟨some 212, .len 1 (.t 211), none⟩,
  ⟨some 213, .bin .gtr (.t 212) (.c (.int .i64 0)), none⟩,
  ⟨some 214, .mv (.t 213), none⟩,
  ⟨some 215, .mv (.t 7), some (4, false)⟩,
  ⟨some 216, .un .not (.t 215), some (4, false)⟩,
  ⟨some 217, .pick (.t 214) (.c (.bool true)) (.t 216), none⟩] env H none [] Q := w_reg
theorem F_ref14_Decoder44_g4 {env : Env} : yieldI F_ref14_Decoder44 env 4 = bOf (env 214) := rfl
def F_ref14_Decoder45 : List IStmt := [
  ⟨some 4, .mv (.c (.slice none 0 0)), none⟩,
  ⟨some 5, .mv (.c (.int .i64 140)), none⟩]
theorem F_ref14_Decoder45_W {T : Tab} {env : Env} {H : Heap} {Q : Post} : W T (.reg F_ref14_Decoder45) env H Q ↔ WR T F_ref14_Decoder45 [
  ⟨some 4, .mv (.c (.slice none 0 0)), none⟩,
  ⟨some 5, .mv (.c (.int .i64 140)), none⟩] env H none [] Q := w_reg
def F_ref14_Decoder46 : List IStmt := [
  ⟨some 218, .mv (.t 11), none⟩,
  ⟨some 4, .mv (.t 218), none⟩,
  ⟨some 5, .mv (.c (.int .i64 0)), none⟩]
theorem F_ref14_Decoder46_W {T : Tab} {env : Env} {H : Heap} {Q : Post} : W T (.reg F_ref14_Decoder46) env H Q ↔ WR T F_ref14_Decoder46 [
  ⟨some 218, .mv (.t 11), none⟩,
  ⟨some 4, .mv (.t 218), none⟩,
  ⟨some 5, .mv (.c (.int .i64 0)), none⟩] env H none [] Q := w_reg
def F_ref14_Decodec : ICode := (.seq (.reg F_ref14_Decoder0) (.seq (.seq (.reg F_ref14_Decoder1) (.cond (.t 46) (.seq (.reg F_ref14_Decoder2) .ret) .skip)) (.seq (.reg F_ref14_Decoder3) (.seq (.reg F_ref14_Decoder4) (.seq (.reg F_ref14_Decoder5) (.seq (.reg F_ref14_Decoder6) (.seq (.seq (.reg F_ref14_Decoder7) (.cond (.t 74) (.seq (.reg F_ref14_Decoder8) .ret) .skip)) (.seq (.reg F_ref14_Decoder9) (.seq (.reg F_ref14_Decoder10) (.seq (.block 0 (.loop F_ref14_Decodel0)) (.seq (.seq (.reg F_ref14_Decoder44) (.cond (.t 217) (.seq (.reg F_ref14_Decoder45) .ret) .skip)) (.seq (.reg F_ref14_Decoder46) .ret))))))))))))
theorem F_ref14_Decodec_W {T : Tab} {env : Env} {H : Heap} {Q : Post} : W T F_ref14_Decodec env H Q ↔ W T (.seq (.reg F_ref14_Decoder0) (.seq (.seq (.reg F_ref14_Decoder1) (.cond (.t 46) (.seq (.reg F_ref14_Decoder2) .ret) .skip)) (.seq (.reg F_ref14_Decoder3) (.seq (.reg F_ref14_Decoder4) (.seq (.reg F_ref14_Decoder5) (.seq (.reg F_ref14_Decoder6) (.seq (.seq (.reg F_ref14_Decoder7) (.cond (.t 74) (.seq (.reg F_ref14_Decoder8) .ret) .skip)) (.seq (.reg F_ref14_Decoder9) (.seq (.reg F_ref14_Decoder10) (.seq (.block 0 (.loop F_ref14_Decodel0)) (.seq (.seq (.reg F_ref14_Decoder44) (.cond (.t 217) (.seq (.reg F_ref14_Decoder45) .ret) .skip)) (.seq (.reg F_ref14_Decoder46) .ret)))))))))))) env H Q := Iff.rfl
def F_ref14_Decode : IFn := ⟨219, [.tmp 4, .tmp 5], F_ref14_Decodec⟩
set_option maxRecDepth 1000000 in
theorem F_ref14_Decode_chk : chkF Try.prog 26 F_ref14_Decode = true := by kernel_rfl

/-! ### ref14_Encode -/
def F_ref14_Encoder0 : List IStmt := [
  ⟨some 4, .mv (.c (.slice none 0 0)), none⟩,
  ⟨some 5, .mv (.c (.int .i64 0)), none⟩]
theorem F_ref14_Encoder0_W {T : Tab} {env : Env} {H : Heap} {Q : Post} : W T (.reg F_ref14_Encoder0) env H Q ↔ WR T F_ref14_Encoder0 [
  ⟨some 4, .mv (.c (.slice none 0 0)), none⟩,
  ⟨some 5, .mv (.c (.int .i64 0)), none⟩] env H none [] Q := w_reg
def F_ref14_Encoder1 : List IStmt := [
  ⟨some 15, .mv (.t 0), none⟩,
  ⟨some 16, .len 1 (.t 15), none⟩,
  ⟨some 17, .bin .gtr (.t 16) (.c (.int .i64 512)), none⟩]
theorem F_ref14_Encoder1_W {T : Tab} {env : Env} {H : Heap} {Q : Post} : W T (.reg F_ref14_Encoder1) env H Q ↔ WR T F_ref14_Encoder1 [
  ⟨some 15, .mv (.t 0), none⟩,
  ⟨some 16, .len 1 (.t 15), none⟩,
  ⟨some 17, .bin .gtr (.t 16) (.c (.int .i64 512)), none⟩] env H none [] Q := w_reg
def F_ref14_Encoder2 : List IStmt := [
  ⟨some 4, .mv (.c (.slice none 0 0)), none⟩,
  ⟨some 5, .mv (.c (.int .i64 140)), none⟩]
theorem F_ref14_Encoder2_W {T : Tab} {env : Env} {H : Heap} {Q : Post} : W T (.reg F_ref14_Encoder2) env H Q ↔ WR T F_ref14_Encoder2 [
  ⟨some 4, .mv (.c (.slice none 0 0)), none⟩,
  ⟨some 5, .mv (.c (.int .i64 140)), none⟩] env H none [] Q := w_reg
def F_ref14_Encoder3 : List IStmt := [
  ⟨some 18, .mv (.t 0), none⟩,
  ⟨some 19, .len 1 (.t 18), none⟩,
  ⟨some 20, .bsl 1 2 [.int .i64 0] [(0, (.t 19)), (1, (.c (.int .i64 0)))], none⟩,
  ⟨some 6, .mv (.t 20), none⟩]
theorem F_ref14_Encoder3_W {T : Tab} {env : Env} {H : Heap} {Q : Post} : W T (.reg F_ref14_Encoder3) env H Q ↔ WR T F_ref14_Encoder3 [
  ⟨some 18, .mv (.t 0), none⟩,
  ⟨some 19, .len 1 (.t 18), none⟩,
  ⟨some 20, .bsl 1 2 [.int .i64 0] [(0, (.t 19)), (1, (.c (.int .i64 0)))], none⟩,
  ⟨some 6, .mv (.t 20), none⟩] env H none [] Q := w_reg
def F_ref14_Encoder4 : List IStmt := [
  ⟨some 7, .mv (.c (.int .u64 0)), none⟩,
  ⟨some 8, .mv (.c (.int .i64 0)), none⟩]
theorem F_ref14_Encoder4_W {T : Tab} {env : Env} {H : Heap} {Q : Post} : W T (.reg F_ref14_Encoder4) env H Q ↔ WR T F_ref14_Encoder4 [
  ⟨some 7, .mv (.c (.int .u64 0)), none⟩,
  ⟨some 8, .mv (.c (.int .i64 0)), none⟩] env H none [] Q := w_reg
def F_ref14_Encoder5 : List IStmt := [
  ⟨some 9, .mv (.c (.int .i64 0)), none⟩]
theorem F_ref14_Encoder5_W {T : Tab} {env : Env} {H : Heap} {Q : Post} : W T (.reg F_ref14_Encoder5) env H Q ↔ WR T F_ref14_Encoder5 [
  ⟨some 9, .mv (.c (.int .i64 0)), none⟩] env H none [] Q := w_reg
def F_ref14_Encoder6 : List IStmt := [
  ⟨some 21, .mv (.t 9), none⟩,
  ⟨some 22, .mv (.t 0), none⟩,
  ⟨some 23, .len 1 (.t 22), none⟩,
  ⟨some 24, .bin .lss (.t 21) (.t 23), none⟩]
theorem F_ref14_Encoder6_W {T : Tab} {env : Env} {H : Heap} {Q : Post} : W T (.reg F_ref14_Encoder6) env H Q ↔ WR T F_ref14_Encoder6 [
  ⟨some 21, .mv (.t 9), none⟩,
  ⟨some 22, .mv (.t 0), none⟩,
  ⟨some 23, .len 1 (.t 22), none⟩,
  ⟨some 24, .bin .lss (.t 21) (.t 23), none⟩] env H none [] Q := w_reg
def F_ref14_Encoder8 : List IStmt := [
  ⟨some 27, .mv (.t 0), none⟩,
  ⟨some 28, .mv (.t 9), none⟩,
  ⟨some 29, .ixa 5 (.t 27) (.t 28), none⟩,
  ⟨some 30, .fa 4 (.t 29), none⟩,
  ⟨some 31, .load (.t 30), none⟩,
  ⟨some 32, .mv (.t 1), none⟩,
  ⟨some 33, .eqb true (.t 31) (.t 32), none⟩,
  ⟨some 34, .mv (.t 33), none⟩,
  ⟨some 35, .mv (.t 1), some (7, false)⟩,
  ⟨some 36, .un .not (.t 35), some (7, false)⟩,
  ⟨some 37, .mv (.t 36), some (7, false)⟩,
  ⟨some 38, .mv (.t 0), some (10, true)⟩,
  ⟨some 39, .mv (.t 9), some (10, true)⟩,
  ⟨some 40, .ixa 5 (.t 38) (.t 39), some (10, true)⟩,
  ⟨some 41, .fa 3 (.t 40), some (10, true)⟩,
  ⟨some 42, .load (.t 41), some (10, true)⟩,
  ⟨some 43, .bin .neq (.t 42) (.c (.int .i64 0)), some (10, true)⟩,
  ⟨some 44, .pick (.t 37) (.t 43) (.c (.bool false)), some (7, false)⟩,
  ⟨some 45, .pick (.t 34) (.c (.bool true)) (.t 44), none⟩]
theorem F_ref14_Encoder8_W {T : Tab} {env : Env} {H : Heap} {Q : Post} : W T (.reg F_ref14_Encoder8) env H Q ↔ WR T F_ref14_Encoder8 [
  ⟨some 27, .mv (.t 0), none⟩,
  ⟨some 28, .mv (.t 9), none⟩,
  ⟨some 29, .ixa 5 (.t 27) (.t 28), none⟩,
  ⟨some 30, .fa 4 (.t 29), none⟩,
  ⟨some 31, .load (.t 30), none⟩,
  ⟨some 32, .mv (.t 1), none⟩,
  ⟨some 33, .eqb true (.t 31) (.t 32), none⟩,
  ⟨some 34, .mv (.t 33), none⟩,
  ⟨some 35, .mv (.t 1), some (7, false)⟩,
  ⟨some 36, .un .not (.t 35), some (7, false)⟩,
  ⟨some 37, .mv (.t 36), some (7, false)⟩,
  ⟨some 38, .mv (.t 0), some (10, true)⟩,
  ⟨some 39, .mv (.t 9), some (10, true)⟩,
  ⟨some 40, .ixa 5 (.t 38) (.t 39), some (10, true)⟩,
  ⟨some 41, .fa 3 (.t 40), some (10, true)⟩,
  ⟨some 42, .load (.t 41), some (10, true)⟩,
  ⟨some 43, .bin .neq (.t 42) (.c (.int .i64 0)), some (10, true)⟩,
  ⟨some 44, .pick (.t 37) (.t 43) (.c (.bool false)), some (7, false)⟩,
  ⟨some 45, .pick (.t 34) (.c (.bool true)) (.t 44), none⟩] env H none [] Q := w_reg
theorem F_ref14_Encoder8_g7 {env : Env} : yieldI F_ref14_Encoder8 env 7 = bOf (env 34) := rfl
theorem F_ref14_Encoder8_g10 {env : Env} : yieldI F_ref14_Encoder8 env 10 = bOf (env 37) := rfl
def F_ref14_Encoder9 : List IStmt := [
  ⟨some 4, .mv (.c (.slice none 0 0)), none⟩,
  ⟨some 5, .mv (.c (.int .i64 140)), none⟩]
theorem F_ref14_Encoder9_W {T : Tab} {env : Env} {H : Heap} {Q : Post} : W T (.reg F_ref14_Encoder9) env H Q ↔ WR T F_ref14_Encoder9 [
  ⟨some 4, .mv (.c (.slice none 0 0)), none⟩,
  ⟨some 5, .mv (.c (.int .i64 140)), none⟩] env H none [] Q := w_reg
def F_ref14_Encoder10 : List IStmt := [
  ⟨some 46, .mv (.t 9), none⟩,
  ⟨some 47, .bin .eql (.t 46) (.c (.int .i64 0)), none⟩,
  ⟨some 48, .mv (.t 47), none⟩,
  ⟨some 49, .mv (.t 0), some (2, false)⟩,
  ⟨some 50, .mv (.t 9), some (2, false)⟩,
  ⟨some 51, .ixa 5 (.t 49) (.t 50), some (2, false)⟩,
  ⟨some 52, .fa 1 (.t 51), some (2, false)⟩,
  ⟨some 53, .load (.t 52), some (2, false)⟩,
  ⟨some 54, .mv (.t 0), some (2, false)⟩,
  ⟨some 55, .mv (.t 9), some (2, false)⟩,
  ⟨some 56, .bin .sub (.t 55) (.c (.int .i64 1)), some (2, false)⟩,
  ⟨some 57, .ixa 5 (.t 54) (.t 56), some (2, false)⟩,
  ⟨some 58, .fa 1 (.t 57), some (2, false)⟩,
  ⟨some 59, .load (.t 58), some (2, false)⟩,
  ⟨some 60, .bin .neq (.t 53) (.t 59), some (2, false)⟩,
  ⟨some 61, .pick (.t 48) (.c (.bool true)) (.t 60), none⟩,
  ⟨some 62, .mv (.t 61), none⟩,
  ⟨some 63, .mv (.t 0), some (16, false)⟩,
  ⟨some 64, .mv (.t 9), some (16, false)⟩,
  ⟨some 65, .ixa 5 (.t 63) (.t 64), some (16, false)⟩,
  ⟨some 66, .fa 2 (.t 65), some (16, false)⟩,
  ⟨some 67, .load (.t 66), some (16, false)⟩,
  ⟨some 68, .mv (.t 0), some (16, false)⟩,
  ⟨some 69, .mv (.t 9), some (16, false)⟩,
  ⟨some 70, .bin .sub (.t 69) (.c (.int .i64 1)), some (16, false)⟩,
  ⟨some 71, .ixa 5 (.t 68) (.t 70), some (16, false)⟩,
  ⟨some 72, .fa 2 (.t 71), some (16, false)⟩,
  ⟨some 73, .load (.t 72), some (16, false)⟩,
  ⟨some 74, .bin .neq (.t 67) (.t 73), some (16, false)⟩,
  ⟨some 75, .pick (.t 62) (.c (.bool true)) (.t 74), none⟩]
theorem F_ref14_Encoder10_g2 {env : Env} : yieldI F_ref14_Encoder10 env 2 = bOf (env 48) := rfl
theorem F_ref14_Encoder10_g16 {env : Env} : yieldI F_ref14_Encoder10 env 16 = bOf (env 62) := rfl
theorem F_ref14_Encoder10_W {T : Tab} {env : Env} {H : Heap} {Q : Post} : W T (.dreg F_ref14_Encoder10 []) env H Q ↔ WR T F_ref14_Encoder10 [
  ⟨some 46, .mv (.t 9), none⟩,
  ⟨some 47, .bin .eql (.t 46) (.c (.int .i64 0)), none⟩,
  ⟨some 48, .mv (.t 47), none⟩,
  ⟨some 49, .mv (.t 0), some (2, false)⟩,
  ⟨some 50, .mv (.t 9), some (2, false)⟩,
  ⟨some 51, .ixa 5 (.t 49) (.t 50), some (2, false)⟩,
  ⟨some 52, .fa 1 (.t 51), some (2, false)⟩,
  ⟨some 53, .load (.t 52), some (2, false)⟩,
  ⟨some 54, .mv (.t 0), some (2, false)⟩,
  ⟨some 55, .mv (.t 9), some (2, false)⟩,
  ⟨some 56, .bin .sub (.t 55) (.c (.int .i64 1)), some (2, false)⟩,
  ⟨some 57, .ixa 5 (.t 54) (.t 56), some (2, false)⟩,
  ⟨some 58, .fa 1 (.t 57), some (2, false)⟩,
  ⟨some 59, .load (.t 58), some (2, false)⟩,
  ⟨some 60, .bin .neq (.t 53) (.t 59), some (2, false)⟩,
  ⟨some 61, .pick (.t 48) (.c (.bool true)) (.t 60), none⟩,
  ⟨some 62, .mv (.t 61), none⟩,
  ⟨some 63, .mv (.t 0), some (16, false)⟩,
  ⟨some 64, .mv (.t 9), some (16, false)⟩,
  ⟨some 65, .ixa 5 (.t 63) (.t 64), some (16, false)⟩,
  ⟨some 66, .fa 2 (.t 65), some (16, false)⟩,
  ⟨some 67, .load (.t 66), some (16, false)⟩,
  ⟨some 68, .mv (.t 0), some (16, false)⟩,
  ⟨some 69, .mv (.t 9), some (16, false)⟩,
  ⟨some 70, .bin .sub (.t 69) (.c (.int .i64 1)), some (16, false)⟩,
  ⟨some 71, .ixa 5 (.t 68) (.t 70), some (16, false)⟩,
  ⟨some 72, .fa 2 (.t 71), some (16, false)⟩,
  ⟨some 73, .load (.t 72), some (16, false)⟩,
  ⟨some 74, .bin .neq (.t 67) (.t 73), some (16, false)⟩,
  ⟨some 75, .pick (.t 62) (.c (.bool true)) (.t 74), none⟩] env H none [] Q := w_dreg0
def F_ref14_Encoder11 : List IStmt := [
  ⟨some 10, .mv (.c (.int .i64 1)), none⟩]
theorem F_ref14_Encoder11_W {T : Tab} {env : Env} {H : Heap} {Q : Post} : W T (.reg F_ref14_Encoder11) env H Q ↔ WR T F_ref14_Encoder11 [
  ⟨some 10, .mv (.c (.int .i64 1)), none⟩] env H none [] Q := w_reg
def F_ref14_Encoder12 : List IStmt := [
  ⟨some 76, .mv (.t 9), none⟩,
  ⟨some 77, .bin .add (.t 76) (.c (.int .i64 1)), none⟩,
  ⟨some 11, .mv (.t 77), none⟩]
theorem F_ref14_Encoder12_W {T : Tab} {env : Env} {H : Heap} {Q : Post} : W T (.reg F_ref14_Encoder12) env H Q ↔ WR T F_ref14_Encoder12 [
  ⟨some 76, .mv (.t 9), none⟩,
  ⟨some 77, .bin .add (.t 76) (.c (.int .i64 1)), none⟩,
  ⟨some 11, .mv (.t 77), none⟩] env H none [] Q := w_reg
def F_ref14_Encoder13 : List IStmt := [
  ⟨some 78, .mv (.t 11), none⟩,
  ⟨some 79, .mv (.t 0), none⟩,
  ⟨some 80, .len 1 (.t 79), none⟩,
  ⟨some 81, .bin .lss (.t 78) (.t 80), none⟩,
  ⟨some 82, .mv (.t 81), none⟩,
  ⟨some 83, .mv (.t 0), some (4, true)⟩,
  ⟨some 84, .mv (.t 11), some (4, true)⟩,
  ⟨some 85, .ixa 5 (.t 83) (.t 84), some (4, true)⟩,
  ⟨some 86, .fa 1 (.t 85), some (4, true)⟩,
  ⟨some 87, .load (.t 86), some (4, true)⟩,
  ⟨some 88, .mv (.t 0), some (4, true)⟩,
  ⟨some 89, .mv (.t 9), some (4, true)⟩,
  ⟨some 90, .ixa 5 (.t 88) (.t 89), some (4, true)⟩,
  ⟨some 91, .fa 1 (.t 90), some (4, true)⟩,
  ⟨some 92, .load (.t 91), some (4, true)⟩,
  ⟨some 93, .bin .eql (.t 87) (.t 92), some (4, true)⟩,
  ⟨some 94, .pick (.t 82) (.t 93) (.c (.bool false)), none⟩,
  ⟨some 95, .mv (.t 94), none⟩,
  ⟨some 96, .mv (.t 0), some (17, true)⟩,
  ⟨some 97, .mv (.t 11), some (17, true)⟩,
  ⟨some 98, .ixa 5 (.t 96) (.t 97), some (17, true)⟩,
  ⟨some 99, .fa 2 (.t 98), some (17, true)⟩,
  ⟨some 100, .load (.t 99), some (17, true)⟩,
  ⟨some 101, .mv (.t 0), some (17, true)⟩,
  ⟨some 102, .mv (.t 9), some (17, true)⟩,
  ⟨some 103, .ixa 5 (.t 101) (.t 102), some (17, true)⟩,
  ⟨some 104, .fa 2 (.t 103), some (17, true)⟩,
  ⟨some 105, .load (.t 104), some (17, true)⟩,
  ⟨some 106, .bin .eql (.t 100) (.t 105), some (17, true)⟩,
  ⟨some 107, .pick (.t 95) (.t 106) (.c (.bool false)), none⟩]
theorem F_ref14_Encoder13_g4 {env : Env} : yieldI F_ref14_Encoder13 env 4 = bOf (env 82) := rfl
theorem F_ref14_Encoder13_g17 {env : Env} : yieldI F_ref14_Encoder13 env 17 = bOf (env 95) := rfl
theorem F_ref14_Encoder13_W {T : Tab} {env : Env} {H : Heap} {Q : Post} : W T (.dreg F_ref14_Encoder13 []) env H Q ↔ WR T F_ref14_Encoder13 [
  ⟨some 78, .mv (.t 11), none⟩,
  ⟨some 79, .mv (.t 0), none⟩,
  ⟨some 80, .len 1 (.t 79), none⟩,
  ⟨some 81, .bin .lss (.t 78) (.t 80), none⟩,
  ⟨some 82, .mv (.t 81), none⟩,
  ⟨some 83, .mv (.t 0), some (4, true)⟩,
  ⟨some 84, .mv (.t 11), some (4, true)⟩,
  ⟨some 85, .ixa 5 (.t 83) (.t 84), some (4, true)⟩,
  ⟨some 86, .fa 1 (.t 85), some (4, true)⟩,
  ⟨some 87, .load (.t 86), some (4, true)⟩,
  ⟨some 88, .mv (.t 0), some (4, true)⟩,
  ⟨some 89, .mv (.t 9), some (4, true)⟩,
  ⟨some 90, .ixa 5 (.t 88) (.t 89), some (4, true)⟩,
  ⟨some 91, .fa 1 (.t 90), some (4, true)⟩,
  ⟨some 92, .load (.t 91), some (4, true)⟩,
  ⟨some 93, .bin .eql (.t 87) (.t 92), some (4, true)⟩,
  ⟨some 94, .pick (.t 82) (.t 93) (.c (.bool false)), none⟩,
  ⟨some 95, .mv (.t 94), none⟩,
  ⟨some 96, .mv (.t 0), some (17, true)⟩,
  ⟨some 97, .mv (.t 11), some (17, true)⟩,
  ⟨some 98, .ixa 5 (.t 96) (.t 97), some (17, true)⟩,
  ⟨some 99, .fa 2 (.t 98), some (17, true)⟩,
  ⟨some 100, .load (.t 99), some (17, true)⟩,
  ⟨some 101, .mv (.t 0), some (17, true)⟩,
  ⟨some 102, .mv (.t 9), some (17, true)⟩,
  ⟨some 103, .ixa 5 (.t 101) (.t 102), some (17, true)⟩,
  ⟨some 104, .fa 2 (.t 103), some (17, true)⟩,
  ⟨some 105, .load (.t 104), some (17, true)⟩,
  ⟨some 106, .bin .eql (.t 100) (.t 105), some (17, true)⟩,
  ⟨some 107, .pick (.t 95) (.t 106) (.c (.bool false)), none⟩] env H none [] Q := w_dreg0
def F_ref14_Encoder15 : List IStmt := [
  ⟨some 110, .mv (.t 10), none⟩,
  ⟨some 111, .bin .add (.t 110) (.c (.int .i64 1)), none⟩,
  ⟨some 10, .mv (.t 111), none⟩]
theorem F_ref14_Encoder15_W {T : Tab} {env : Env} {H : Heap} {Q : Post} : W T (.reg F_ref14_Encoder15) env H Q ↔ WR T F_ref14_Encoder15 [
  ⟨some 110, .mv (.t 10), none⟩,
  ⟨some 111, .bin .add (.t 110) (.c (.int .i64 1)), none⟩,
  ⟨some 10, .mv (.t 111), none⟩] env H none [] Q := w_reg
def F_ref14_Encoder14 : List IStmt := [
  ⟨some 108, .mv (.t 11), none⟩,
  ⟨some 109, .bin .add (.t 108) (.c (.int .i64 1)), none⟩,
  ⟨some 11, .mv (.t 109), none⟩]
theorem F_ref14_Encoder14_W {T : Tab} {env : Env} {H : Heap} {Q : Post} : W T (.reg F_ref14_Encoder14) env H Q ↔ WR T F_ref14_Encoder14 [
  ⟨some 108, .mv (.t 11), none⟩,
  ⟨some 109, .bin .add (.t 108) (.c (.int .i64 1)), none⟩,
  ⟨some 11, .mv (.t 109), none⟩] env H none [] Q := w_reg
def F_ref14_Encodel1 : ICode := (.seq (.seq (.dreg F_ref14_Encoder13 []) (.cond (.t 107) .skip (.exit 2))) (.seq (.block 3 (.reg F_ref14_Encoder15)) (.reg F_ref14_Encoder14)))
theorem F_ref14_Encodel1_W {T : Tab} {env : Env} {H : Heap} {Q : Post} : W T F_ref14_Encodel1 env H Q ↔ W T (.seq (.seq (.dreg F_ref14_Encoder13 []) (.cond (.t 107) .skip (.exit 2))) (.seq (.block 3 (.reg F_ref14_Encoder15)) (.reg F_ref14_Encoder14))) env H Q := Iff.rfl
def F_ref14_Encoder16 : List IStmt := [
  ⟨some 12, .mv (.c (.int .i64 1)), none⟩]
theorem F_ref14_Encoder16_W {T : Tab} {env : Env} {H : Heap} {Q : Post} : W T (.reg F_ref14_Encoder16) env H Q ↔ WR T F_ref14_Encoder16 [
  ⟨some 12, .mv (.c (.int .i64 1)), none⟩] env H none [] Q := w_reg
def F_ref14_Encoder17 : List IStmt := [
  ⟨some 112, .mv (.t 1), none⟩]
theorem F_ref14_Encoder17_W {T : Tab} {env : Env} {H : Heap} {Q : Post} : W T (.reg F_ref14_Encoder17) env H Q ↔ WR T F_ref14_Encoder17 [
  ⟨some 112, .mv (.t 1), none⟩] env H none [] Q := w_reg
def F_ref14_Encoder18 : List IStmt := [
  ⟨some 12, .mv (.c (.int .i64 9)), none⟩]
theorem F_ref14_Encoder18_W {T : Tab} {env : Env} {H : Heap} {Q : Post} : W T (.reg F_ref14_Encoder18) env H Q ↔ WR T F_ref14_Encoder18 [
  ⟨some 12, .mv (.c (.int .i64 9)), none⟩] env H none [] Q := w_reg
def F_ref14_Encoder19 : List IStmt := [
  ⟨some 113, .mv (.t 6), none⟩,
  ⟨some 114, .mv (.t 10), none⟩,
  ⟨some 115, .mv (.t 12), none⟩,
  ⟨some 116, .mv (.t 0), none⟩,
  ⟨some 117, .mv (.t 9), none⟩,
  ⟨some 118, .ixa 5 (.t 116) (.t 117), none⟩,
  ⟨some 119, .fa 2 (.t 118), none⟩,
  ⟨some 120, .load (.t 119), none⟩,
  ⟨some 121, .conv .u64 (.t 120), none⟩,
  ⟨some 122, .bin .mul (.t 121) (.c (.int .u64 4294967296)), none⟩,
  ⟨some 123, .mv (.t 0), none⟩,
  ⟨some 124, .mv (.t 9), none⟩,
  ⟨some 125, .ixa 5 (.t 123) (.t 124), none⟩,
  ⟨some 126, .fa 1 (.t 125), none⟩,
  ⟨some 127, .load (.t 126), none⟩,
  ⟨some 128, .conv .u64 (.t 127), none⟩,
  ⟨some 129, .bin .add (.t 122) (.t 128), none⟩,
  ⟨some 130, .conv .i64 (.t 129), none⟩,
  ⟨some 131, .bsli 1 3 [.int .i64 0] [(0, (.t 114)), (1, (.t 115)), (2, (.t 130))], none⟩,
  ⟨some 132, .app 1 8 (.t 113) (.t 131), none⟩,
  ⟨some 6, .mv (.t 132), none⟩]
theorem F_ref14_Encoder19_W {T : Tab} {env : Env} {H : Heap} {Q : Post} : W T (.dreg F_ref14_Encoder19 []) env H Q ↔ WR T F_ref14_Encoder19 [
  ⟨some 113, .mv (.t 6), none⟩,
  ⟨some 114, .mv (.t 10), none⟩,
  ⟨some 115, .mv (.t 12), none⟩,
  ⟨some 116, .mv (.t 0), none⟩,
  ⟨some 117, .mv (.t 9), none⟩,
  ⟨some 118, .ixa 5 (.t 116) (.t 117), none⟩,
  ⟨some 119, .fa 2 (.t 118), none⟩,
  ⟨some 120, .load (.t 119), none⟩,
  ⟨some 121, .conv .u64 (.t 120), none⟩,
  ⟨some 122, .bin .mul (.t 121) (.c (.int .u64 4294967296)), none⟩,
  ⟨some 123, .mv (.t 0), none⟩,
  ⟨some 124, .mv (.t 9), none⟩,
  ⟨some 125, .ixa 5 (.t 123) (.t 124), none⟩,
  ⟨some 126, .fa 1 (.t 125), none⟩,
  ⟨some 127, .load (.t 126), none⟩,
  ⟨some 128, .conv .u64 (.t 127), none⟩,
  ⟨some 129, .bin .add (.t 122) (.t 128), none⟩,
  ⟨some 130, .conv .i64 (.t 129), none⟩,
  ⟨some 131, .bsli 1 3 [.int .i64 0] [(0, (.t 114)), (1, (.t 115)), (2, (.t 130))], none⟩,
  ⟨some 132, .app 1 8 (.t 113) (.t 131), none⟩,
  ⟨some 6, .mv (.t 132), none⟩] env H none [] Q := w_dreg0
def F_ref14_Encoder20 : List IStmt := [
  ⟨some 133, .mv (.t 6), none⟩,
  ⟨some 134, .mv (.t 0), none⟩,
  ⟨some 135, .mv (.t 9), none⟩,
  ⟨some 136, .ixa 5 (.t 134) (.t 135), none⟩,
  ⟨some 137, .fa 0 (.t 136), none⟩,
  ⟨some 138, .load (.t 137), none⟩,
  ⟨some 139, .mv (.t 7), none⟩,
  ⟨some 140, .bin .sub (.t 138) (.t 139), none⟩,
  ⟨some 141, .conv .i64 (.t 140), none⟩,
  ⟨some 142, .bsli 1 1 [.int .i64 0] [(0, (.t 141))], none⟩,
  ⟨some 143, .app 1 8 (.t 133) (.t 142), none⟩,
  ⟨some 6, .mv (.t 143), none⟩]
theorem F_ref14_Encoder20_W {T : Tab} {env : Env} {H : Heap} {Q : Post} : W T (.reg F_ref14_Encoder20) env H Q ↔ WR T F_ref14_Encoder20 [
  ⟨some 133, .mv (.t 6), none⟩,
  ⟨some 134, .mv (.t 0), none⟩,
  ⟨some 135, .mv (.t 9), none⟩,
  ⟨some 136, .ixa 5 (.t 134) (.t 135), none⟩,
  ⟨some 137, .fa 0 (.t 136), none⟩,
  ⟨some 138, .load (.t 137), none⟩,
  ⟨some 139, .mv (.t 7), none⟩,
  ⟨some 140, .bin .sub (.t 138) (.t 139), none⟩,
  ⟨some 141, .conv .i64 (.t 140), none⟩,
  ⟨some 142, .bsli 1 1 [.int .i64 0] [(0, (.t 141))], none⟩,
  ⟨some 143, .app 1 8 (.t 133) (.t 142), none⟩,
  ⟨some 6, .mv (.t 143), none⟩] env H none [] Q := w_reg
def F_ref14_Encoder21 : List IStmt := [
  ⟨some 144, .mv (.t 0), none⟩,
  ⟨some 145, .mv (.t 9), none⟩,
  ⟨some 146, .ixa 5 (.t 144) (.t 145), none⟩,
  ⟨some 147, .fa 0 (.t 146), none⟩,
  ⟨some 148, .load (.t 147), none⟩,
  ⟨some 7, .mv (.t 148), none⟩]
theorem F_ref14_Encoder21_W {T : Tab} {env : Env} {H : Heap} {Q : Post} : W T (.reg F_ref14_Encoder21) env H Q ↔ WR T F_ref14_Encoder21 [
  ⟨some 144, .mv (.t 0), none⟩,
  ⟨some 145, .mv (.t 9), none⟩,
  ⟨some 146, .ixa 5 (.t 144) (.t 145), none⟩,
  ⟨some 147, .fa 0 (.t 146), none⟩,
  ⟨some 148, .load (.t 147), none⟩,
  ⟨some 7, .mv (.t 148), none⟩] env H none [] Q := w_reg
def F_ref14_Encoder22 : List IStmt := [
  ⟨some 149, .mv (.t 1), none⟩]
theorem F_ref14_Encoder22_W {T : Tab} {env : Env} {H : Heap} {Q : Post} : W T (.reg F_ref14_Encoder22) env H Q ↔ WR T F_ref14_Encoder22 [
  ⟨some 149, .mv (.t 1), none⟩] env H none [] Q := w_reg
def F_ref14_Encoder23 : List IStmt := [
  ⟨some 150, .mv (.t 6), none⟩,
  ⟨some 151, .mv (.t 0), none⟩,
  ⟨some 152, .mv (.t 9), none⟩,
  ⟨some 153, .ixa 5 (.t 151) (.t 152), none⟩,
  ⟨some 154, .fa 3 (.t 153), none⟩,
  ⟨some 155, .load (.t 154), none⟩,
  ⟨some 156, .mv (.t 8), none⟩,
  ⟨some 157, .bin .sub (.t 155) (.t 156), none⟩,
  ⟨some 158, .bsli 1 1 [.int .i64 0] [(0, (.t 157))], none⟩,
  ⟨some 159, .app 1 8 (.t 150) (.t 158), none⟩,
  ⟨some 6, .mv (.t 159), none⟩]
theorem F_ref14_Encoder23_W {T : Tab} {env : Env} {H : Heap} {Q : Post} : W T (.reg F_ref14_Encoder23) env H Q ↔ WR T F_ref14_Encoder23 [
  ⟨some 150, .mv (.t 6), none⟩,
  ⟨some 151, .mv (.t 0), none⟩,
  ⟨some 152, .mv (.t 9), none⟩,
  ⟨some 153, .ixa 5 (.t 151) (.t 152), none⟩,
  ⟨some 154, .fa 3 (.t 153), none⟩,
  ⟨some 155, .load (.t 154), none⟩,
  ⟨some 156, .mv (.t 8), none⟩,
  ⟨some 157, .bin .sub (.t 155) (.t 156), none⟩,
  ⟨some 158, .bsli 1 1 [.int .i64 0] [(0, (.t 157))], none⟩,
  ⟨some 159, .app 1 8 (.t 150) (.t 158), none⟩,
  ⟨some 6, .mv (.t 159), none⟩] env H none [] Q := w_reg
def F_ref14_Encoder24 : List IStmt := [
  ⟨some 160, .mv (.t 0), none⟩,
  ⟨some 161, .mv (.t 9), none⟩,
  ⟨some 162, .ixa 5 (.t 160) (.t 161), none⟩,
  ⟨some 163, .fa 3 (.t 162), none⟩,
  ⟨some 164, .load (.t 163), none⟩,
  ⟨some 8, .mv (.t 164), none⟩]
theorem F_ref14_Encoder24_W {T : Tab} {env : Env} {H : Heap} {Q : Post} : W T (.reg F_ref14_Encoder24) env H Q ↔ WR T F_ref14_Encoder24 [
  ⟨some 160, .mv (.t 0), none⟩,
  ⟨some 161, .mv (.t 9), none⟩,
  ⟨some 162, .ixa 5 (.t 160) (.t 161), none⟩,
  ⟨some 163, .fa 3 (.t 162), none⟩,
  ⟨some 164, .load (.t 163), none⟩,
  ⟨some 8, .mv (.t 164), none⟩] env H none [] Q := w_reg
def F_ref14_Encoder7 : List IStmt := [
  ⟨some 25, .mv (.t 9), none⟩,
  ⟨some 26, .bin .add (.t 25) (.c (.int .i64 1)), none⟩,
  ⟨some 9, .mv (.t 26), none⟩]
theorem F_ref14_Encoder7_W {T : Tab} {env : Env} {H : Heap} {Q : Post} : W T (.reg F_ref14_Encoder7) env H Q ↔ WR T F_ref14_Encoder7 [
  ⟨some 25, .mv (.t 9), none⟩,
  ⟨some 26, .bin .add (.t 25) (.c (.int .i64 1)), none⟩,
  ⟨some 9, .mv (.t 26), none⟩] env H none [] Q := w_reg
def F_ref14_Encodel0 : ICode := (.seq (.seq (.reg F_ref14_Encoder6) (.cond (.t 24) .skip (.exit 0))) (.seq (.block 1 (.seq (.seq (.reg F_ref14_Encoder8) (.cond (.t 45) (.seq (.reg F_ref14_Encoder9) .ret) .skip)) (.seq (.seq (.dreg F_ref14_Encoder10 []) (.cond (.t 75) (.seq (.reg F_ref14_Encoder11) (.seq (.seq (.reg F_ref14_Encoder12) (.block 2 (.loop F_ref14_Encodel1))) (.seq (.reg F_ref14_Encoder16) (.seq (.seq (.reg F_ref14_Encoder17) (.cond (.t 112) (.reg F_ref14_Encoder18) .skip)) (.dreg F_ref14_Encoder19 []))))) .skip)) (.seq (.reg F_ref14_Encoder20) (.seq (.reg F_ref14_Encoder21) (.seq (.reg F_ref14_Encoder22) (.cond (.t 149) (.seq (.reg F_ref14_Encoder23) (.reg F_ref14_Encoder24)) .skip))))))) (.reg F_ref14_Encoder7)))
theorem F_ref14_Encodel0_W {T : Tab} {env : Env} {H : Heap} {Q : Post} : W T F_ref14_Encodel0 env H Q ↔ W T (.seq (.seq (.reg F_ref14_Encoder6) (.cond (.t 24) .skip (.exit 0))) (.seq (.block 1 (.seq (.seq (.reg F_ref14_Encoder8) (.cond (.t 45) (.seq (.reg F_ref14_Encoder9) .ret) .skip)) (.seq (.seq (.dreg F_ref14_Encoder10 []) (.cond (.t 75) (.seq (.reg F_ref14_Encoder11) (.seq (.seq (.reg F_ref14_Encoder12) (.block 2 (.loop F_ref14_Encodel1))) (.seq (.reg F_ref14_Encoder16) (.seq (.seq (.reg F_ref14_Encoder17) (.cond (.t 112) (.reg F_ref14_Encoder18) .skip)) (.dreg F_ref14_Encoder19 []))))) .skip)) (.seq (.reg F_ref14_Encoder20) (.seq (.reg F_ref14_Encoder21) (.seq (.reg F_ref14_Encoder22) (.cond (.t 149) (.seq (.reg F_ref14_Encoder23) (.reg F_ref14_Encoder24)) .skip))))))) (.reg F_ref14_Encoder7))) env H Q := Iff.rfl
def F_ref14_Encoder25 : List IStmt := [
  ⟨some 165, .bsl 1 4 [.int .u8 0] [(0, (.c (.int .u8 65))), (1, (.c (.int .u8 80))), (2, (.c (.int .u8 83))), (3, (.c (.int .u8 50)))], none⟩,
  ⟨some 166, .cvsl (.t 165), none⟩,
  ⟨some 13, .mv (.t 166), none⟩]
theorem F_ref14_Encoder25_W {T : Tab} {env : Env} {H : Heap} {Q : Post} : W T (.reg F_ref14_Encoder25) env H Q ↔ WR T F_ref14_Encoder25 [
  ⟨some 165, .bsl 1 4 [.int .u8 0] [(0, (.c (.int .u8 65))), (1, (.c (.int .u8 80))), (2, (.c (.int .u8 83))), (3, (.c (.int .u8 50)))], none⟩,
  ⟨some 166, .cvsl (.t 165), none⟩,
  ⟨some 13, .mv (.t 166), none⟩] env H none [] Q := w_reg
def F_ref14_Encoder26 : List IStmt := [
  ⟨some 14, .mv (.c (.int .i64 0)), none⟩]
theorem F_ref14_Encoder26_W {T : Tab} {env : Env} {H : Heap} {Q : Post} : W T (.reg F_ref14_Encoder26) env H Q ↔ WR T F_ref14_Encoder26 [
  ⟨some 14, .mv (.c (.int .i64 0)), none⟩] env H none [] Q := w_reg
def F_ref14_Encoder27 : List IStmt := [
  ⟨some 167, .mv (.t 14), none⟩,
  ⟨some 168, .mv (.t 6), none⟩,
  ⟨some 169, .len 1 (.t 168), none⟩,
  ⟨some 170, .bin .lss (.t 167) (.t 169), none⟩]
theorem F_ref14_Encoder27_W {T : Tab} {env : Env} {H : Heap} {Q : Post} : W T (.reg F_ref14_Encoder27) env H Q ↔ WR T F_ref14_Encoder27 [
  ⟨some 167, .mv (.t 14), none⟩,
  ⟨some 168, .mv (.t 6), none⟩,
  ⟨some 169, .len 1 (.t 168), none⟩,
  ⟨some 170, .bin .lss (.t 167) (.t 169), none⟩] env H none [] Q := w_reg
def F_ref14_Encoder29 : List IStmt := [
  ⟨some 173, .mv (.t 13), none⟩,
  ⟨some 174, .mv (.t 6), none⟩,
  ⟨some 175, .mv (.t 14), none⟩,
  ⟨some 176, .ixa 1 (.t 174) (.t 175), none⟩,
  ⟨some 177, .load (.t 176), none⟩,
  ⟨some 178, .callc 15 [(.t 177)], none⟩,
  ⟨some 179, .app 1 1 (.t 173) (.t 178), none⟩,
  ⟨some 13, .mv (.t 179), none⟩]
theorem F_ref14_Encoder29_W {T : Tab} {env : Env} {H : Heap} {Q : Post} : W T (.reg F_ref14_Encoder29) env H Q ↔ WR T F_ref14_Encoder29 [
  ⟨some 173, .mv (.t 13), none⟩,
  ⟨some 174, .mv (.t 6), none⟩,
  ⟨some 175, .mv (.t 14), none⟩,
  ⟨some 176, .ixa 1 (.t 174) (.t 175), none⟩,
  ⟨some 177, .load (.t 176), none⟩,
  ⟨some 178, .callc 15 [(.t 177)], none⟩,
  ⟨some 179, .app 1 1 (.t 173) (.t 178), none⟩,
  ⟨some 13, .mv (.t 179), none⟩] env H none [] Q := w_reg
def F_ref14_Encoder28 : List IStmt := [
  ⟨some 171, .mv (.t 14), none⟩,
  ⟨some 172, .bin .add (.t 171) (.c (.int .i64 1)), none⟩,
  ⟨some 14, .mv (.t 172), none⟩]
theorem F_ref14_Encoder28_W {T : Tab} {env : Env} {H : Heap} {Q : Post} : W T (.reg F_ref14_Encoder28) env H Q ↔ WR T F_ref14_Encoder28 [
  ⟨some 171, .mv (.t 14), none⟩,
  ⟨some 172, .bin .add (.t 171) (.c (.int .i64 1)), none⟩,
  ⟨some 14, .mv (.t 172), none⟩] env H none [] Q := w_reg
def F_ref14_Encodel2 : ICode := (.seq (.seq (.reg F_ref14_Encoder27) (.cond (.t 170) .skip (.exit 4))) (.seq (.block 5 (.reg F_ref14_Encoder29)) (.reg F_ref14_Encoder28)))
theorem F_ref14_Encodel2_W {T : Tab} {env : Env} {H : Heap} {Q : Post} : W T F_ref14_Encodel2 env H Q ↔ W T (.seq (.seq (.reg F_ref14_Encoder27) (.cond (.t 170) .skip (.exit 4))) (.seq (.block 5 (.reg F_ref14_Encoder29)) (.reg F_ref14_Encoder28))) env H Q := Iff.rfl
def F_ref14_Encoder30 : List IStmt := [
  ⟨some 180, .mv (.t 13), none⟩,
  ⟨some 4, .mv (.t 180), none⟩,
  ⟨some 5, .mv (.c (.int .i64 0)), none⟩]
theorem F_ref14_Encoder30_W {T : Tab} {env : Env} {H : Heap} {Q : Post} : W T (.reg F_ref14_Encoder30) env H Q ↔ WR T F_ref14_Encoder30 [
  ⟨some 180, .mv (.t 13), none⟩,
  ⟨some 4, .mv (.t 180), none⟩,
  ⟨some 5, .mv (.c (.int .i64 0)), none⟩] env H none [] Q := w_reg
def F_ref14_Encodec : ICode := (.seq (.reg F_ref14_Encoder0) (.seq (.seq (.reg F_ref14_Encoder1) (.cond (.t 17) (.seq (.reg F_ref14_Encoder2) .ret) .skip)) (.seq (.reg F_ref14_Encoder3) (.seq (.reg F_ref14_Encoder4) (.seq (.seq (.reg F_ref14_Encoder5) (.block 0 (.loop F_ref14_Encodel0))) (.seq (.reg F_ref14_Encoder25) (.seq (.seq (.reg F_ref14_Encoder26) (.block 4 (.loop F_ref14_Encodel2))) (.seq (.reg F_ref14_Encoder30) .ret))))))))
theorem F_ref14_Encodec_W {T : Tab} {env : Env} {H : Heap} {Q : Post} : W T F_ref14_Encodec env H Q ↔ W T (.seq (.reg F_ref14_Encoder0) (.seq (.seq (.reg F_ref14_Encoder1) (.cond (.t 17) (.seq (.reg F_ref14_Encoder2) .ret) .skip)) (.seq (.reg F_ref14_Encoder3) (.seq (.reg F_ref14_Encoder4) (.seq (.seq (.reg F_ref14_Encoder5) (.block 0 (.loop F_ref14_Encodel0))) (.seq (.reg F_ref14_Encoder25) (.seq (.seq (.reg F_ref14_Encoder26) (.block 4 (.loop F_ref14_Encodel2))) (.seq (.reg F_ref14_Encoder30) .ret)))))))) env H Q := Iff.rfl
def F_ref14_Encode : IFn := ⟨181, [.tmp 4, .tmp 5], F_ref14_Encodec⟩
set_option maxRecDepth 1000000 in
theorem F_ref14_Encode_chk : chkF Try.prog 30 F_ref14_Encode = true := by kernel_rfl

/-! ### ref12_Same -/
def F_ref12_Samer0 : List IStmt := [
  ⟨some 4, .mv (.c (.bool false)), none⟩]
theorem F_ref12_Samer0_W {T : Tab} {env : Env} {H : Heap} {Q : Post} : W T (.reg F_ref12_Samer0) env H Q ↔ WR T F_ref12_Samer0 [
  ⟨some 4, .mv (.c (.bool false)), none⟩] env H none [] Q := w_reg
def F_ref12_Samer1 : List IStmt := [
  ⟨some 6, .mv (.t 0), none⟩,
  ⟨some 7, .len 1 (.t 6), none⟩,
  ⟨some 8, .mv (.t 1), none⟩,
  ⟨some 9, .len 1 (.t 8), none⟩,
  ⟨some 10, .bin .neq (.t 7) (.t 9), none⟩]
theorem F_ref12_Samer1_W {T : Tab} {env : Env} {H : Heap} {Q : Post} : W T (.reg F_ref12_Samer1) env H Q ↔ WR T F_ref12_Samer1 [
  ⟨some 6, .mv (.t 0), none⟩,
  ⟨some 7, .len 1 (.t 6), none⟩,
  ⟨some 8, .mv (.t 1), none⟩,
  ⟨some 9, .len 1 (.t 8), none⟩,
  ⟨some 10, .bin .neq (.t 7) (.t 9), none⟩] env H none [] Q := w_reg
def F_ref12_Samer2 : List IStmt := [
  ⟨some 4, .mv (.c (.bool false)), none⟩]
theorem F_ref12_Samer2_W {T : Tab} {env : Env} {H : Heap} {Q : Post} : W T (.reg F_ref12_Samer2) env H Q ↔ WR T F_ref12_Samer2 [
  ⟨some 4, .mv (.c (.bool false)), none⟩] env H none [] Q := w_reg
def F_ref12_Samer3 : List IStmt := [
  ⟨some 5, .mv (.c (.int .i64 0)), none⟩]
theorem F_ref12_Samer3_W {T : Tab} {env : Env} {H : Heap} {Q : Post} : W T (.reg F_ref12_Samer3) env H Q ↔ WR T F_ref12_Samer3 [
  ⟨some 5, .mv (.c (.int .i64 0)), none⟩] env H none [] Q := w_reg
def F_ref12_Samer4 : List IStmt := [
  ⟨some 11, .mv (.t 5), none⟩,
  ⟨some 12, .mv (.t 0), none⟩,
  ⟨some 13, .len 1 (.t 12), none⟩,
  ⟨some 14, .bin .lss (.t 11) (.t 13), none⟩]
theorem F_ref12_Samer4_W {T : Tab} {env : Env} {H : Heap} {Q : Post} : W T (.reg F_ref12_Samer4) env H Q ↔ WR T F_ref12_Samer4 [
  ⟨some 11, .mv (.t 5), none⟩,
  ⟨some 12, .mv (.t 0), none⟩,
  ⟨some 13, .len 1 (.t 12), none⟩,
  ⟨some 14, .bin .lss (.t 11) (.t 13), none⟩] env H none [] Q := w_reg
def F_ref12_Samer6 : List IStmt := [
  ⟨some 17, .mv (.t 0), none⟩,
  ⟨some 18, .mv (.t 5), none⟩,
  ⟨some 19, .ixa 5 (.t 17) (.t 18), none⟩,
  ⟨some 20, .loadN 5 (.t 19), none⟩,
  ⟨some 21, .mv (.t 1), none⟩,
  ⟨some 22, .mv (.t 5), none⟩,
  ⟨some 23, .ixa 5 (.t 21) (.t 22), none⟩,
  ⟨some 24, .loadN 5 (.t 23), none⟩,
  ⟨some 25, .eqs [0, 0, 0, 0, 1] true (.t 20) (.t 24), none⟩]
theorem F_ref12_Samer6_W {T : Tab} {env : Env} {H : Heap} {Q : Post} : W T (.dreg F_ref12_Samer6 []) env H Q ↔ WR T F_ref12_Samer6 [
  ⟨some 17, .mv (.t 0), none⟩,
  ⟨some 18, .mv (.t 5), none⟩,
  ⟨some 19, .ixa 5 (.t 17) (.t 18), none⟩,
  ⟨some 20, .loadN 5 (.t 19), none⟩,
  ⟨some 21, .mv (.t 1), none⟩,
  ⟨some 22, .mv (.t 5), none⟩,
  ⟨some 23, .ixa 5 (.t 21) (.t 22), none⟩,
  ⟨some 24, .loadN 5 (.t 23), none⟩,
  ⟨some 25, .eqs [0, 0, 0, 0, 1] true (.t 20) (.t 24), none⟩] env H none [] Q := w_dreg0
def F_ref12_Samer7 : List IStmt := [
  ⟨some 4, .mv (.c (.bool false)), none⟩]
theorem F_ref12_Samer7_W {T : Tab} {env : Env} {H : Heap} {Q : Post} : W T (.reg F_ref12_Samer7) env H Q ↔ WR T F_ref12_Samer7 [
  ⟨some 4, .mv (.c (.bool false)), none⟩] env H none [] Q := w_reg
def F_ref12_Samer5 : List IStmt := [
  ⟨some 15, .mv (.t 5), none⟩,
  ⟨some 16, .bin .add (.t 15) (.c (.int .i64 1)), none⟩,
  ⟨some 5, .mv (.t 16), none⟩]
theorem F_ref12_Samer5_W {T : Tab} {env : Env} {H : Heap} {Q : Post} : W T (.reg F_ref12_Samer5) env H Q ↔ WR T F_ref12_Samer5 [
  ⟨some 15, .mv (.t 5), none⟩,
  ⟨some 16, .bin .add (.t 15) (.c (.int .i64 1)), none⟩,
  ⟨some 5, .mv (.t 16), none⟩] env H none [] Q := w_reg
def F_ref12_Samel0 : ICode := (.seq (.seq (.reg F_ref12_Samer4) (.cond (.t 14) .skip (.exit 0))) (.seq (.block 1 (.seq (.dreg F_ref12_Samer6 []) (.cond (.t 25) (.seq (.reg F_ref12_Samer7) .ret) .skip))) (.reg F_ref12_Samer5)))
theorem F_ref12_Samel0_W {T : Tab} {env : Env} {H : Heap} {Q : Post} : W T F_ref12_Samel0 env H Q ↔ W T (.seq (.seq (.reg F_ref12_Samer4) (.cond (.t 14) .skip (.exit 0))) (.seq (.block 1 (.seq (.dreg F_ref12_Samer6 []) (.cond (.t 25) (.seq (.reg F_ref12_Samer7) .ret) .skip))) (.reg F_ref12_Samer5))) env H Q := Iff.rfl
def F_ref12_Samer8 : List IStmt := [
  ⟨some 4, .mv (.c (.bool true)), none⟩]
theorem F_ref12_Samer8_W {T : Tab} {env : Env} {H : Heap} {Q : Post} : W T (.reg F_ref12_Samer8) env H Q ↔ WR T F_ref12_Samer8 [
  ⟨some 4, .mv (.c (.bool true)), none⟩] env H none [] Q := w_reg
def F_ref12_Samec : ICode := (.seq (.reg F_ref12_Samer0) (.seq (.seq (.reg F_ref12_Samer1) (.cond (.t 10) (.seq (.reg F_ref12_Samer2) .ret) .skip)) (.seq (.seq (.reg F_ref12_Samer3) (.block 0 (.loop F_ref12_Samel0))) (.seq (.reg F_ref12_Samer8) .ret))))
theorem F_ref12_Samec_W {T : Tab} {env : Env} {H : Heap} {Q : Post} : W T F_ref12_Samec env H Q ↔ W T (.seq (.reg F_ref12_Samer0) (.seq (.seq (.reg F_ref12_Samer1) (.cond (.t 10) (.seq (.reg F_ref12_Samer2) .ret) .skip)) (.seq (.seq (.reg F_ref12_Samer3) (.block 0 (.loop F_ref12_Samel0))) (.seq (.reg F_ref12_Samer8) .ret)))) env H Q := Iff.rfl
def F_ref12_Same : IFn := ⟨26, [.tmp 4], F_ref12_Samec⟩
set_option maxRecDepth 1000000 in
theorem F_ref12_Same_chk : chkF Try.prog 27 F_ref12_Same = true := by kernel_rfl

/-! ### law14_alive -/
def F_law14_aliver0 : List IStmt := [
  ⟨some 0, .mv (.c (.bool false)), none⟩]
theorem F_law14_aliver0_W {T : Tab} {env : Env} {H : Heap} {Q : Post} : W T (.reg F_law14_aliver0) env H Q ↔ WR T F_law14_aliver0 [
  ⟨some 0, .mv (.c (.bool false)), none⟩] env H none [] Q := w_reg
def F_law14_aliver1 : List IStmt := [
  ⟨some 8, .bld [.int .u64 0, .int .u32 0, .int .u32 0, .int .i64 0, .bool false] [(0, 1, (.c (.int .u64 16))), (1, 1, (.c (.int .u32 8))), (3, 1, (.c (.int .i64 3))), (4, 1, (.c (.bool true)))], none⟩,
  ⟨some 9, .bsli 5 1 [.int .u64 0, .int .u32 0, .int .u32 0, .int .i64 0, .bool false] [(0, (.t 8))], none⟩,
  ⟨some 10, .callc 29 [(.t 9), (.c (.bool true))], none⟩,
  ⟨some 7, .mv (.t 10), none⟩,
  ⟨some 11, .ext (.t 7) 0, none⟩,
  ⟨some 12, .ext (.t 7) 1, none⟩,
  ⟨some 1, .mv (.t 11), none⟩,
  ⟨some 2, .mv (.t 12), none⟩]
theorem F_law14_aliver1_W {T : Tab} {env : Env} {H : Heap} {Q : Post} : W T (.reg F_law14_aliver1) env H Q ↔ WR T F_law14_aliver1 [
  ⟨some 8, .bld [.int .u64 0, .int .u32 0, .int .u32 0, .int .i64 0, .bool false] [(0, 1, (.c (.int .u64 16))), (1, 1, (.c (.int .u32 8))), (3, 1, (.c (.int .i64 3))), (4, 1, (.c (.bool true)))], none⟩,
  ⟨some 9, .bsli 5 1 [.int .u64 0, .int .u32 0, .int .u32 0, .int .i64 0, .bool false] [(0, (.t 8))], none⟩,
  ⟨some 10, .callc 29 [(.t 9), (.c (.bool true))], none⟩,
  ⟨some 7, .mv (.t 10), none⟩,
  ⟨some 11, .ext (.t 7) 0, none⟩,
  ⟨some 12, .ext (.t 7) 1, none⟩,
  ⟨some 1, .mv (.t 11), none⟩,
  ⟨some 2, .mv (.t 12), none⟩] env H none [] Q := w_reg
def F_law14_aliver2 : List IStmt := [
  ⟨some 14, .bsl 1 11 [.int .u8 0] [(0, (.c (.int .u8 65))), (1, (.c (.int .u8 80))), (2, (.c (.int .u8 83))), (3, (.c (.int .u8 50))), (4, (.c (.int .u8 2))), (5, (.c (.int .u8 0))), (6, (.c (.int .u8 2))), (7, (.c (.int .u8 3))), (8, (.c (.int .u8 8))), (9, (.c (.int .u8 6))), (10, (.c (.int .u8 0)))], none⟩,
  ⟨some 15, .cvslf (.t 14), none⟩,
  ⟨some 16, .callc 25 [(.t 15), (.c (.bool false))], none⟩,
  ⟨some 13, .mv (.t 16), none⟩,
  ⟨some 17, .ext (.t 13) 0, none⟩,
  ⟨some 18, .ext (.t 13) 1, none⟩,
  ⟨some 3, .mv (.t 17), none⟩,
  ⟨some 4, .mv (.t 18), none⟩]
theorem F_law14_aliver2_W {T : Tab} {env : Env} {H : Heap} {Q : Post} : W T (.reg F_law14_aliver2) env H Q ↔ WR T F_law14_aliver2 [
  ⟨some 14, .bsl 1 11 [.int .u8 0] [(0, (.c (.int .u8 65))), (1, (.c (.int .u8 80))), (2, (.c (.int .u8 83))), (3, (.c (.int .u8 50))), (4, (.c (.int .u8 2))), (5, (.c (.int .u8 0))), (6, (.c (.int .u8 2))), (7, (.c (.int .u8 3))), (8, (.c (.int .u8 8))), (9, (.c (.int .u8 6))), (10, (.c (.int .u8 0)))], none⟩,
  ⟨some 15, .cvslf (.t 14), none⟩,
  ⟨some 16, .callc 25 [(.t 15), (.c (.bool false))], none⟩,
  ⟨some 13, .mv (.t 16), none⟩,
  ⟨some 17, .ext (.t 13) 0, none⟩,
  ⟨some 18, .ext (.t 13) 1, none⟩,
  ⟨some 3, .mv (.t 17), none⟩,
  ⟨some 4, .mv (.t 18), none⟩] env H none [] Q := w_reg
def F_law14_aliver3 : List IStmt := [
  ⟨some 20, .callc 25 [(.c (.slice none 0 0)), (.c (.bool true))], none⟩,
  ⟨some 19, .mv (.t 20), none⟩,
  ⟨some 21, .ext (.t 19) 0, none⟩,
  ⟨some 22, .ext (.t 19) 1, none⟩,
  ⟨some 5, .mv (.t 21), none⟩,
  ⟨some 6, .mv (.t 22), none⟩]
theorem F_law14_aliver3_W {T : Tab} {env : Env} {H : Heap} {Q : Post} : W T (.reg F_law14_aliver3) env H Q ↔ WR T F_law14_aliver3 [
  ⟨some 20, .callc 25 [(.c (.slice none 0 0)), (.c (.bool true))], none⟩,
  ⟨some 19, .mv (.t 20), none⟩,
  ⟨some 21, .ext (.t 19) 0, none⟩,
  ⟨some 22, .ext (.t 19) 1, none⟩,
  ⟨some 5, .mv (.t 21), none⟩,
  ⟨some 6, .mv (.t 22), none⟩] env H none [] Q := w_reg
def F_law14_aliver4 : List IStmt := [
  ⟨some 23, .mv (.t 2), none⟩,
  ⟨some 24, .bin .eql (.t 23) (.c (.int .i64 0)), none⟩,
  ⟨some 25, .mv (.t 24), none⟩,
  ⟨some 26, .mv (.t 1), some (2, true)⟩,
  ⟨some 27, .b2s (.t 26), some (2, true)⟩,
  ⟨some 28, .bin .eql (.t 27) (.c (.string ⟨#[65, 80, 83, 50, 1, 0, 1, 9, 8, 16, 3]⟩)), some (2, true)⟩,
  ⟨some 29, .pick (.t 25) (.t 28) (.c (.bool false)), none⟩,
  ⟨some 30, .mv (.t 29), none⟩,
  ⟨some 31, .mv (.t 4), some (7, true)⟩,
  ⟨some 32, .bin .eql (.t 31) (.c (.int .i64 140)), some (7, true)⟩,
  ⟨some 33, .pick (.t 30) (.t 32) (.c (.bool false)), none⟩,
  ⟨some 34, .mv (.t 33), none⟩,
  ⟨some 35, .mv (.t 3), some (11, true)⟩,
  ⟨some 36, .len 1 (.t 35), some (11, true)⟩,
  ⟨some 37, .bin .eql (.t 36) (.c (.int .i64 0)), some (11, true)⟩,
  ⟨some 38, .pick (.t 34) (.t 37) (.c (.bool false)), none⟩,
  ⟨some 39, .mv (.t 38), none⟩,
  ⟨some 40, .mv (.t 6), some (16, true)⟩,
  ⟨some 41, .bin .eql (.t 40) (.c (.int .i64 140)), some (16, true)⟩,
  ⟨some 42, .pick (.t 39) (.t 41) (.c (.bool false)), none⟩,
  ⟨some 0, .mv (.t 42), none⟩]
theorem F_law14_aliver4_W {T : Tab} {env : Env} {H : Heap} {Q : Post} : W T (.reg F_law14_aliver4) env H Q ↔ WR T F_law14_aliver4 [
  ⟨some 23, .mv (.t 2), none⟩,
  ⟨some 24, .bin .eql (.t 23) (.c (.int .i64 0)), none⟩,
  ⟨some 25, .mv (.t 24), none⟩,
  ⟨some 26, .mv (.t 1), some (2, true)⟩,
  ⟨some 27, .b2s (.t 26), some (2, true)⟩,
  ⟨some 28, .bin .eql (.t 27) (.c (.string ⟨#[65, 80, 83, 50, 1, 0, 1, 9, 8, 16, 3]⟩)), some (2, true)⟩,
  ⟨some 29, .pick (.t 25) (.t 28) (.c (.bool false)), none⟩,
  ⟨some 30, .mv (.t 29), none⟩,
  ⟨some 31, .mv (.t 4), some (7, true)⟩,
  ⟨some 32, .bin .eql (.t 31) (.c (.int .i64 140)), some (7, true)⟩,
  ⟨some 33, .pick (.t 30) (.t 32) (.c (.bool false)), none⟩,
  ⟨some 34, .mv (.t 33), none⟩,
  ⟨some 35, .mv (.t 3), some (11, true)⟩,
  ⟨some 36, .len 1 (.t 35), some (11, true)⟩,
  ⟨some 37, .bin .eql (.t 36) (.c (.int .i64 0)), some (11, true)⟩,
  ⟨some 38, .pick (.t 34) (.t 37) (.c (.bool false)), none⟩,
  ⟨some 39, .mv (.t 38), none⟩,
  ⟨some 40, .mv (.t 6), some (16, true)⟩,
  ⟨some 41, .bin .eql (.t 40) (.c (.int .i64 140)), some (16, true)⟩,
  ⟨some 42, .pick (.t 39) (.t 41) (.c (.bool false)), none⟩,
  ⟨some 0, .mv (.t 42), none⟩] env H none [] Q := w_reg
theorem F_law14_aliver4_g2 {env : Env} : yieldI F_law14_aliver4 env 2 = bOf (env 25) := rfl
theorem F_law14_aliver4_g7 {env : Env} : yieldI F_law14_aliver4 env 7 = bOf (env 30) := rfl
theorem F_law14_aliver4_g11 {env : Env} : yieldI F_law14_aliver4 env 11 = bOf (env 34) := rfl
theorem F_law14_aliver4_g16 {env : Env} : yieldI F_law14_aliver4 env 16 = bOf (env 39) := rfl
def F_law14_alivec : ICode := (.seq (.reg F_law14_aliver0) (.seq (.reg F_law14_aliver1) (.seq (.reg F_law14_aliver2) (.seq (.reg F_law14_aliver3) (.seq (.reg F_law14_aliver4) .ret)))))
theorem F_law14_alivec_W {T : Tab} {env : Env} {H : Heap} {Q : Post} : W T F_law14_alivec env H Q ↔ W T (.seq (.reg F_law14_aliver0) (.seq (.reg F_law14_aliver1) (.seq (.reg F_law14_aliver2) (.seq (.reg F_law14_aliver3) (.seq (.reg F_law14_aliver4) .ret))))) env H Q := Iff.rfl
def F_law14_alive : IFn := ⟨43, [.tmp 0], F_law14_alivec⟩
set_option maxRecDepth 1000000 in
theorem F_law14_alive_chk : chkF Try.prog 28 F_law14_alive = true := by kernel_rfl

/-! ### law14_ApsReads -/
def F_law14_ApsReadsr0 : List IStmt := [
  ⟨some 4, .mv (.c (.bool false)), none⟩]
theorem F_law14_ApsReadsr0_W {T : Tab} {env : Env} {H : Heap} {Q : Post} : W T (.reg F_law14_ApsReadsr0) env H Q ↔ WR T F_law14_ApsReadsr0 [
  ⟨some 4, .mv (.c (.bool false)), none⟩] env H none [] Q := w_reg
def F_law14_ApsReadsr1 : List IStmt := [
  ⟨some 9, .mv (.t 0), none⟩,
  ⟨some 10, .len 1 (.t 9), none⟩,
  ⟨some 11, .bin .gtr (.t 10) (.c (.int .i64 20000)), none⟩]
theorem F_law14_ApsReadsr1_W {T : Tab} {env : Env} {H : Heap} {Q : Post} : W T (.reg F_law14_ApsReadsr1) env H Q ↔ WR T F_law14_ApsReadsr1 [
  ⟨some 9, .mv (.t 0), none⟩,
  ⟨some 10, .len 1 (.t 9), none⟩,
  ⟨some 11, .bin .gtr (.t 10) (.c (.int .i64 20000)), none⟩] env H none [] Q := w_reg
def F_law14_ApsReadsr2 : List IStmt := [
  ⟨some 4, .mv (.c (.bool true)), none⟩]
theorem F_law14_ApsReadsr2_W {T : Tab} {env : Env} {H : Heap} {Q : Post} : W T (.reg F_law14_ApsReadsr2) env H Q ↔ WR T F_law14_ApsReadsr2 [
  ⟨some 4, .mv (.c (.bool true)), none⟩] env H none [] Q := w_reg
def F_law14_ApsReadsr3 : List IStmt := [
  ⟨some 13, .mv (.t 0), none⟩,
  ⟨some 14, .mv (.t 1), none⟩,
  ⟨some 15, .callc 25 [(.t 13), (.t 14)], none⟩,
  ⟨some 12, .mv (.t 15), none⟩,
  ⟨some 16, .ext (.t 12) 0, none⟩,
  ⟨some 17, .ext (.t 12) 1, none⟩,
  ⟨some 5, .mv (.t 16), none⟩,
  ⟨some 6, .mv (.t 17), none⟩]
theorem F_law14_ApsReadsr3_W {T : Tab} {env : Env} {H : Heap} {Q : Post} : W T (.reg F_law14_ApsReadsr3) env H Q ↔ WR T F_law14_ApsReadsr3 [
  ⟨some 13, .mv (.t 0), none⟩,
  ⟨some 14, .mv (.t 1), none⟩,
  ⟨some 15, .callc 25 [(.t 13), (.t 14)], none⟩,
  ⟨some 12, .mv (.t 15), none⟩,
  ⟨some 16, .ext (.t 12) 0, none⟩,
  ⟨some 17, .ext (.t 12) 1, none⟩,
  ⟨some 5, .mv (.t 16), none⟩,
  ⟨some 6, .mv (.t 17), none⟩] env H none [] Q := w_reg
def F_law14_ApsReadsr4 : List IStmt := [
  ⟨some 19, .mv (.t 0), none⟩,
  ⟨some 20, .mv (.t 1), none⟩,
  ⟨some 21, .callc 26 [(.t 19), (.t 20)], none⟩,
  ⟨some 18, .mv (.t 21), none⟩,
  ⟨some 22, .ext (.t 18) 0, none⟩,
  ⟨some 23, .ext (.t 18) 1, none⟩,
  ⟨some 7, .mv (.t 22), none⟩,
  ⟨some 8, .mv (.t 23), none⟩]
theorem F_law14_ApsReadsr4_W {T : Tab} {env : Env} {H : Heap} {Q : Post} : W T (.reg F_law14_ApsReadsr4) env H Q ↔ WR T F_law14_ApsReadsr4 [
  ⟨some 19, .mv (.t 0), none⟩,
  ⟨some 20, .mv (.t 1), none⟩,
  ⟨some 21, .callc 26 [(.t 19), (.t 20)], none⟩,
  ⟨some 18, .mv (.t 21), none⟩,
  ⟨some 22, .ext (.t 18) 0, none⟩,
  ⟨some 23, .ext (.t 18) 1, none⟩,
  ⟨some 7, .mv (.t 22), none⟩,
  ⟨some 8, .mv (.t 23), none⟩] env H none [] Q := w_reg
def F_law14_ApsReadsr5 : List IStmt := [
  ⟨some 24, .mv (.t 6), none⟩,
  ⟨some 25, .mv (.t 8), none⟩,
  ⟨some 26, .bin .eql (.t 24) (.t 25), none⟩,
  ⟨some 27, .mv (.t 26), none⟩,
  ⟨some 28, .mv (.t 5), some (3, true)⟩,
  ⟨some 29, .mv (.t 7), some (3, true)⟩,
  ⟨some 30, .callc 27 [(.t 28), (.t 29)], some (3, true)⟩,
  ⟨some 31, .pick (.t 27) (.t 30) (.c (.bool false)), none⟩,
  ⟨some 32, .mv (.t 31), none⟩,
  ⟨some 33, .callc 28 [], some (8, true)⟩,
  ⟨some 34, .pick (.t 32) (.t 33) (.c (.bool false)), none⟩,
  ⟨some 4, .mv (.t 34), none⟩]
theorem F_law14_ApsReadsr5_W {T : Tab} {env : Env} {H : Heap} {Q : Post} : W T (.reg F_law14_ApsReadsr5) env H Q ↔ WR T F_law14_ApsReadsr5 [
  ⟨some 24, .mv (.t 6), none⟩,
  ⟨some 25, .mv (.t 8), none⟩,
  ⟨some 26, .bin .eql (.t 24) (.t 25), none⟩,
  ⟨some 27, .mv (.t 26), none⟩,
  ⟨some 28, .mv (.t 5), some (3, true)⟩,
  ⟨some 29, .mv (.t 7), some (3, true)⟩,
  ⟨some 30, .callc 27 [(.t 28), (.t 29)], some (3, true)⟩,
  ⟨some 31, .pick (.t 27) (.t 30) (.c (.bool false)), none⟩,
  ⟨some 32, .mv (.t 31), none⟩,
  ⟨some 33, .callc 28 [], some (8, true)⟩,
  ⟨some 34, .pick (.t 32) (.t 33) (.c (.bool false)), none⟩,
  ⟨some 4, .mv (.t 34), none⟩] env H none [] Q := w_reg
theorem F_law14_ApsReadsr5_g3 {env : Env} : yieldI F_law14_ApsReadsr5 env 3 = bOf (env 27) := rfl
theorem F_law14_ApsReadsr5_g8 {env : Env} : yieldI F_law14_ApsReadsr5 env 8 = bOf (env 32) := rfl
def F_law14_ApsReadsc : ICode := (.seq (.reg F_law14_ApsReadsr0) (.seq (.seq (.reg F_law14_ApsReadsr1) (.cond (.t 11) (.seq (.reg F_law14_ApsReadsr2) .ret) .skip)) (.seq (.reg F_law14_ApsReadsr3) (.seq (.reg F_law14_ApsReadsr4) (.seq (.reg F_law14_ApsReadsr5) .ret)))))
theorem F_law14_ApsReadsc_W {T : Tab} {env : Env} {H : Heap} {Q : Post} : W T F_law14_ApsReadsc env H Q ↔ W T (.seq (.reg F_law14_ApsReadsr0) (.seq (.seq (.reg F_law14_ApsReadsr1) (.cond (.t 11) (.seq (.reg F_law14_ApsReadsr2) .ret) .skip)) (.seq (.reg F_law14_ApsReadsr3) (.seq (.reg F_law14_ApsReadsr4) (.seq (.reg F_law14_ApsReadsr5) .ret))))) env H Q := Iff.rfl
def F_law14_ApsReads : IFn := ⟨35, [.tmp 4], F_law14_ApsReadsc⟩
set_option maxRecDepth 1000000 in
theorem F_law14_ApsReads_chk : chkF Try.prog 8 F_law14_ApsReads = true := by kernel_rfl

/-! ### law14_ApsWrites -/
def F_law14_ApsWritesr0 : List IStmt := [
  ⟨some 4, .mv (.c (.bool false)), none⟩]
theorem F_law14_ApsWritesr0_W {T : Tab} {env : Env} {H : Heap} {Q : Post} : W T (.reg F_law14_ApsWritesr0) env H Q ↔ WR T F_law14_ApsWritesr0 [
  ⟨some 4, .mv (.c (.bool false)), none⟩] env H none [] Q := w_reg
def F_law14_ApsWritesr1 : List IStmt := [
  ⟨some 9, .mv (.t 0), none⟩,
  ⟨some 10, .len 1 (.t 9), none⟩,
  ⟨some 11, .bin .gtr (.t 10) (.c (.int .i64 1000)), none⟩]
theorem F_law14_ApsWritesr1_W {T : Tab} {env : Env} {H : Heap} {Q : Post} : W T (.reg F_law14_ApsWritesr1) env H Q ↔ WR T F_law14_ApsWritesr1 [
  ⟨some 9, .mv (.t 0), none⟩,
  ⟨some 10, .len 1 (.t 9), none⟩,
  ⟨some 11, .bin .gtr (.t 10) (.c (.int .i64 1000)), none⟩] env H none [] Q := w_reg
def F_law14_ApsWritesr2 : List IStmt := [
  ⟨some 4, .mv (.c (.bool true)), none⟩]
theorem F_law14_ApsWritesr2_W {T : Tab} {env : Env} {H : Heap} {Q : Post} : W T (.reg F_law14_ApsWritesr2) env H Q ↔ WR T F_law14_ApsWritesr2 [
  ⟨some 4, .mv (.c (.bool true)), none⟩] env H none [] Q := w_reg
def F_law14_ApsWritesr3 : List IStmt := [
  ⟨some 13, .mv (.t 0), none⟩,
  ⟨some 14, .mv (.t 1), none⟩,
  ⟨some 15, .callc 29 [(.t 13), (.t 14)], none⟩,
  ⟨some 12, .mv (.t 15), none⟩,
  ⟨some 16, .ext (.t 12) 0, none⟩,
  ⟨some 17, .ext (.t 12) 1, none⟩,
  ⟨some 5, .mv (.t 16), none⟩,
  ⟨some 6, .mv (.t 17), none⟩]
theorem F_law14_ApsWritesr3_W {T : Tab} {env : Env} {H : Heap} {Q : Post} : W T (.reg F_law14_ApsWritesr3) env H Q ↔ WR T F_law14_ApsWritesr3 [
  ⟨some 13, .mv (.t 0), none⟩,
  ⟨some 14, .mv (.t 1), none⟩,
  ⟨some 15, .callc 29 [(.t 13), (.t 14)], none⟩,
  ⟨some 12, .mv (.t 15), none⟩,
  ⟨some 16, .ext (.t 12) 0, none⟩,
  ⟨some 17, .ext (.t 12) 1, none⟩,
  ⟨some 5, .mv (.t 16), none⟩,
  ⟨some 6, .mv (.t 17), none⟩] env H none [] Q := w_reg
def F_law14_ApsWritesr4 : List IStmt := [
  ⟨some 19, .mv (.t 0), none⟩,
  ⟨some 20, .mv (.t 1), none⟩,
  ⟨some 21, .callc 30 [(.t 19), (.t 20)], none⟩,
  ⟨some 18, .mv (.t 21), none⟩,
  ⟨some 22, .ext (.t 18) 0, none⟩,
  ⟨some 23, .ext (.t 18) 1, none⟩,
  ⟨some 7, .mv (.t 22), none⟩,
  ⟨some 8, .mv (.t 23), none⟩]
theorem F_law14_ApsWritesr4_W {T : Tab} {env : Env} {H : Heap} {Q : Post} : W T (.reg F_law14_ApsWritesr4) env H Q ↔ WR T F_law14_ApsWritesr4 [
  ⟨some 19, .mv (.t 0), none⟩,
  ⟨some 20, .mv (.t 1), none⟩,
  ⟨some 21, .callc 30 [(.t 19), (.t 20)], none⟩,
  ⟨some 18, .mv (.t 21), none⟩,
  ⟨some 22, .ext (.t 18) 0, none⟩,
  ⟨some 23, .ext (.t 18) 1, none⟩,
  ⟨some 7, .mv (.t 22), none⟩,
  ⟨some 8, .mv (.t 23), none⟩] env H none [] Q := w_reg
def F_law14_ApsWritesr5 : List IStmt := [
  ⟨some 24, .mv (.t 5), none⟩,
  ⟨some 25, .b2s (.t 24), none⟩,
  ⟨some 26, .mv (.t 7), none⟩,
  ⟨some 27, .b2s (.t 26), none⟩,
  ⟨some 28, .bin .eql (.t 25) (.t 27), none⟩,
  ⟨some 29, .mv (.t 28), none⟩,
  ⟨some 30, .mv (.t 6), some (5, true)⟩,
  ⟨some 31, .mv (.t 8), some (5, true)⟩,
  ⟨some 32, .bin .eql (.t 30) (.t 31), some (5, true)⟩,
  ⟨some 33, .pick (.t 29) (.t 32) (.c (.bool false)), none⟩,
  ⟨some 34, .mv (.t 33), none⟩,
  ⟨some 35, .callc 28 [], some (10, true)⟩,
  ⟨some 36, .pick (.t 34) (.t 35) (.c (.bool false)), none⟩,
  ⟨some 4, .mv (.t 36), none⟩]
theorem F_law14_ApsWritesr5_W {T : Tab} {env : Env} {H : Heap} {Q : Post} : W T (.reg F_law14_ApsWritesr5) env H Q ↔ WR T F_law14_ApsWritesr5 [
  ⟨some 24, .mv (.t 5), none⟩,
  ⟨some 25, .b2s (.t 24), none⟩,
  ⟨some 26, .mv (.t 7), none⟩,
  ⟨some 27, .b2s (.t 26), none⟩,
  ⟨some 28, .bin .eql (.t 25) (.t 27), none⟩,
  ⟨some 29, .mv (.t 28), none⟩,
  ⟨some 30, .mv (.t 6), some (5, true)⟩,
  ⟨some 31, .mv (.t 8), some (5, true)⟩,
  ⟨some 32, .bin .eql (.t 30) (.t 31), some (5, true)⟩,
  ⟨some 33, .pick (.t 29) (.t 32) (.c (.bool false)), none⟩,
  ⟨some 34, .mv (.t 33), none⟩,
  ⟨some 35, .callc 28 [], some (10, true)⟩,
  ⟨some 36, .pick (.t 34) (.t 35) (.c (.bool false)), none⟩,
  ⟨some 4, .mv (.t 36), none⟩] env H none [] Q := w_reg
theorem F_law14_ApsWritesr5_g5 {env : Env} : yieldI F_law14_ApsWritesr5 env 5 = bOf (env 29) := rfl
theorem F_law14_ApsWritesr5_g10 {env : Env} : yieldI F_law14_ApsWritesr5 env 10 = bOf (env 34) := rfl
def F_law14_ApsWritesc : ICode := (.seq (.reg F_law14_ApsWritesr0) (.seq (.seq (.reg F_law14_ApsWritesr1) (.cond (.t 11) (.seq (.reg F_law14_ApsWritesr2) .ret) .skip)) (.seq (.reg F_law14_ApsWritesr3) (.seq (.reg F_law14_ApsWritesr4) (.seq (.reg F_law14_ApsWritesr5) .ret)))))
theorem F_law14_ApsWritesc_W {T : Tab} {env : Env} {H : Heap} {Q : Post} : W T F_law14_ApsWritesc env H Q ↔ W T (.seq (.reg F_law14_ApsWritesr0) (.seq (.seq (.reg F_law14_ApsWritesr1) (.cond (.t 11) (.seq (.reg F_law14_ApsWritesr2) .ret) .skip)) (.seq (.reg F_law14_ApsWritesr3) (.seq (.reg F_law14_ApsWritesr4) (.seq (.reg F_law14_ApsWritesr5) .ret))))) env H Q := Iff.rfl
def F_law14_ApsWrites : IFn := ⟨37, [.tmp 4], F_law14_ApsWritesc⟩
set_option maxRecDepth 1000000 in
theorem F_law14_ApsWrites_chk : chkF Try.prog 9 F_law14_ApsWrites = true := by kernel_rfl

/-! ### law14_ApsBack -/
def F_law14_ApsBackr0 : List IStmt := [
  ⟨some 6, .mv (.c (.bool false)), none⟩]
theorem F_law14_ApsBackr0_W {T : Tab} {env : Env} {H : Heap} {Q : Post} : W T (.reg F_law14_ApsBackr0) env H Q ↔ WR T F_law14_ApsBackr0 [
  ⟨some 6, .mv (.c (.bool false)), none⟩] env H none [] Q := w_reg
def F_law14_ApsBackr1 : List IStmt := [
  ⟨some 17, .mv (.t 0), none⟩,
  ⟨some 18, .len 1 (.t 17), none⟩,
  ⟨some 19, .bin .gtr (.t 18) (.c (.int .i64 1000)), none⟩,
  ⟨some 20, .mv (.t 19), none⟩,
  ⟨some 21, .mv (.t 1), some (3, false)⟩,
  ⟨some 22, .len 1 (.t 21), some (3, false)⟩,
  ⟨some 23, .bin .gtr (.t 22) (.c (.int .i64 20000)), some (3, false)⟩,
  ⟨some 24, .pick (.t 20) (.c (.bool true)) (.t 23), none⟩]
theorem F_law14_ApsBackr1_W {T : Tab} {env : Env} {H : Heap} {Q : Post} : W T (.reg F_law14_ApsBackr1) env H Q ↔ WR T F_law14_ApsBackr1 [
  ⟨some 17, .mv (.t 0), none⟩,
  ⟨some 18, .len 1 (.t 17), none⟩,
  ⟨some 19, .bin .gtr (.t 18) (.c (.int .i64 1000)), none⟩,
  ⟨some 20, .mv (.t 19), none⟩,
  ⟨some 21, .mv (.t 1), some (3, false)⟩,
  ⟨some 22, .len 1 (.t 21), some (3, false)⟩,
  ⟨some 23, .bin .gtr (.t 22) (.c (.int .i64 20000)), some (3, false)⟩,
  ⟨some 24, .pick (.t 20) (.c (.bool true)) (.t 23), none⟩] env H none [] Q := w_reg
theorem F_law14_ApsBackr1_g3 {env : Env} : yieldI F_law14_ApsBackr1 env 3 = bOf (env 20) := rfl
def F_law14_ApsBackr2 : List IStmt := [
  ⟨some 6, .mv (.c (.bool true)), none⟩]
theorem F_law14_ApsBackr2_W {T : Tab} {env : Env} {H : Heap} {Q : Post} : W T (.reg F_law14_ApsBackr2) env H Q ↔ WR T F_law14_ApsBackr2 [
  ⟨some 6, .mv (.c (.bool true)), none⟩] env H none [] Q := w_reg
def F_law14_ApsBackr3 : List IStmt := [
  ⟨some 26, .mv (.t 0), none⟩,
  ⟨some 27, .mv (.t 2), none⟩,
  ⟨some 28, .callc 29 [(.t 26), (.t 27)], none⟩,
  ⟨some 25, .mv (.t 28), none⟩,
  ⟨some 29, .ext (.t 25) 0, none⟩,
  ⟨some 30, .ext (.t 25) 1, none⟩,
  ⟨some 7, .mv (.t 29), none⟩,
  ⟨some 8, .mv (.t 30), none⟩]
theorem F_law14_ApsBackr3_W {T : Tab} {env : Env} {H : Heap} {Q : Post} : W T (.reg F_law14_ApsBackr3) env H Q ↔ WR T F_law14_ApsBackr3 [
  ⟨some 26, .mv (.t 0), none⟩,
  ⟨some 27, .mv (.t 2), none⟩,
  ⟨some 28, .callc 29 [(.t 26), (.t 27)], none⟩,
  ⟨some 25, .mv (.t 28), none⟩,
  ⟨some 29, .ext (.t 25) 0, none⟩,
  ⟨some 30, .ext (.t 25) 1, none⟩,
  ⟨some 7, .mv (.t 29), none⟩,
  ⟨some 8, .mv (.t 30), none⟩] env H none [] Q := w_reg
def F_law14_ApsBackr4 : List IStmt := [
  ⟨some 32, .mv (.t 7), none⟩,
  ⟨some 33, .mv (.t 2), none⟩,
  ⟨some 34, .callc 25 [(.t 32), (.t 33)], none⟩,
  ⟨some 31, .mv (.t 34), none⟩,
  ⟨some 35, .ext (.t 31) 0, none⟩,
  ⟨some 36, .ext (.t 31) 1, none⟩,
  ⟨some 9, .mv (.t 35), none⟩,
  ⟨some 10, .mv (.t 36), none⟩]
theorem F_law14_ApsBackr4_W {T : Tab} {env : Env} {H : Heap} {Q : Post} : W T (.reg F_law14_ApsBackr4) env H Q ↔ WR T F_law14_ApsBackr4 [
  ⟨some 32, .mv (.t 7), none⟩,
  ⟨some 33, .mv (.t 2), none⟩,
  ⟨some 34, .callc 25 [(.t 32), (.t 33)], none⟩,
  ⟨some 31, .mv (.t 34), none⟩,
  ⟨some 35, .ext (.t 31) 0, none⟩,
  ⟨some 36, .ext (.t 31) 1, none⟩,
  ⟨some 9, .mv (.t 35), none⟩,
  ⟨some 10, .mv (.t 36), none⟩] env H none [] Q := w_reg
def F_law14_ApsBackr5 : List IStmt := [
  ⟨some 37, .mv (.t 8), none⟩,
  ⟨some 38, .bin .eql (.t 37) (.c (.int .i64 0)), none⟩,
  ⟨some 39, .mv (.t 38), none⟩,
  ⟨some 40, .mv (.t 10), some (2, true)⟩,
  ⟨some 41, .bin .neq (.t 40) (.c (.int .i64 0)), some (2, true)⟩,
  ⟨some 42, .mv (.t 41), some (2, true)⟩,
  ⟨some 43, .mv (.t 9), some (5, false)⟩,
  ⟨some 44, .mv (.t 0), some (5, false)⟩,
  ⟨some 45, .callc 27 [(.t 43), (.t 44)], some (5, false)⟩,
  ⟨some 46, .un .not (.t 45), some (5, false)⟩,
  ⟨some 47, .pick (.t 42) (.c (.bool true)) (.t 46), some (2, true)⟩,
  ⟨some 48, .pick (.t 39) (.t 47) (.c (.bool false)), none⟩,
  ⟨some 49, .mv (.t 48), none⟩,
  ⟨some 50, .mv (.t 8), some (12, false)⟩,
  ⟨some 51, .bin .neq (.t 50) (.c (.int .i64 0)), some (12, false)⟩,
  ⟨some 52, .mv (.t 51), some (12, false)⟩,
  ⟨some 53, .mv (.t 7), some (15, true)⟩,
  ⟨some 54, .len 1 (.t 53), some (15, true)⟩,
  ⟨some 55, .bin .gtr (.t 54) (.c (.int .i64 0)), some (15, true)⟩,
  ⟨some 56, .pick (.t 52) (.t 55) (.c (.bool false)), some (12, false)⟩,
  ⟨some 57, .pick (.t 49) (.c (.bool true)) (.t 56), none⟩]
theorem F_law14_ApsBackr5_W {T : Tab} {env : Env} {H : Heap} {Q : Post} : W T (.reg F_law14_ApsBackr5) env H Q ↔ WR T F_law14_ApsBackr5 [
  ⟨some 37, .mv (.t 8), none⟩,
  ⟨some 38, .bin .eql (.t 37) (.c (.int .i64 0)), none⟩,
  ⟨some 39, .mv (.t 38), none⟩,
  ⟨some 40, .mv (.t 10), some (2, true)⟩,
  ⟨some 41, .bin .neq (.t 40) (.c (.int .i64 0)), some (2, true)⟩,
  ⟨some 42, .mv (.t 41), some (2, true)⟩,
  ⟨some 43, .mv (.t 9), some (5, false)⟩,
  ⟨some 44, .mv (.t 0), some (5, false)⟩,
  ⟨some 45, .callc 27 [(.t 43), (.t 44)], some (5, false)⟩,
  ⟨some 46, .un .not (.t 45), some (5, false)⟩,
  ⟨some 47, .pick (.t 42) (.c (.bool true)) (.t 46), some (2, true)⟩,
  ⟨some 48, .pick (.t 39) (.t 47) (.c (.bool false)), none⟩,
  ⟨some 49, .mv (.t 48), none⟩,
  ⟨some 50, .mv (.t 8), some (12, false)⟩,
  ⟨some 51, .bin .neq (.t 50) (.c (.int .i64 0)), some (12, false)⟩,
  ⟨some 52, .mv (.t 51), some (12, false)⟩,
  ⟨some 53, .mv (.t 7), some (15, true)⟩,
  ⟨some 54, .len 1 (.t 53), some (15, true)⟩,
  ⟨some 55, .bin .gtr (.t 54) (.c (.int .i64 0)), some (15, true)⟩,
  ⟨some 56, .pick (.t 52) (.t 55) (.c (.bool false)), some (12, false)⟩,
  ⟨some 57, .pick (.t 49) (.c (.bool true)) (.t 56), none⟩] env H none [] Q := w_reg
theorem F_law14_ApsBackr5_g2 {env : Env} : yieldI F_law14_ApsBackr5 env 2 = bOf (env 39) := rfl
theorem F_law14_ApsBackr5_g5 {env : Env} : yieldI F_law14_ApsBackr5 env 5 = bOf (env 42) := rfl
theorem F_law14_ApsBackr5_g12 {env : Env} : yieldI F_law14_ApsBackr5 env 12 = bOf (env 49) := rfl
theorem F_law14_ApsBackr5_g15 {env : Env} : yieldI F_law14_ApsBackr5 env 15 = bOf (env 52) := rfl
def F_law14_ApsBackr6 : List IStmt := [
  ⟨some 6, .mv (.c (.bool false)), none⟩]
theorem F_law14_ApsBackr6_W {T : Tab} {env : Env} {H : Heap} {Q : Post} : W T (.reg F_law14_ApsBackr6) env H Q ↔ WR T F_law14_ApsBackr6 [
  ⟨some 6, .mv (.c (.bool false)), none⟩] env H none [] Q := w_reg
def F_law14_ApsBackr7 : List IStmt := [
  ⟨some 59, .mv (.t 1), none⟩,
  ⟨some 60, .mv (.t 2), none⟩,
  ⟨some 61, .callc 25 [(.t 59), (.t 60)], none⟩,
  ⟨some 58, .mv (.t 61), none⟩,
  ⟨some 62, .ext (.t 58) 0, none⟩,
  ⟨some 63, .ext (.t 58) 1, none⟩,
  ⟨some 11, .mv (.t 62), none⟩,
  ⟨some 12, .mv (.t 63), none⟩]
theorem F_law14_ApsBackr7_W {T : Tab} {env : Env} {H : Heap} {Q : Post} : W T (.reg F_law14_ApsBackr7) env H Q ↔ WR T F_law14_ApsBackr7 [
  ⟨some 59, .mv (.t 1), none⟩,
  ⟨some 60, .mv (.t 2), none⟩,
  ⟨some 61, .callc 25 [(.t 59), (.t 60)], none⟩,
  ⟨some 58, .mv (.t 61), none⟩,
  ⟨some 62, .ext (.t 58) 0, none⟩,
  ⟨some 63, .ext (.t 58) 1, none⟩,
  ⟨some 11, .mv (.t 62), none⟩,
  ⟨some 12, .mv (.t 63), none⟩] env H none [] Q := w_reg
def F_law14_ApsBackr8 : List IStmt := [
  ⟨some 64, .mv (.t 12), none⟩,
  ⟨some 65, .bin .neq (.t 64) (.c (.int .i64 0)), none⟩]
theorem F_law14_ApsBackr8_W {T : Tab} {env : Env} {H : Heap} {Q : Post} : W T (.reg F_law14_ApsBackr8) env H Q ↔ WR T F_law14_ApsBackr8 [
  ⟨some 64, .mv (.t 12), none⟩,
  ⟨some 65, .bin .neq (.t 64) (.c (.int .i64 0)), none⟩] env H none [] Q := w_reg
def F_law14_ApsBackr9 : List IStmt := [
  ⟨some 66, .mv (.t 11), none⟩,
  ⟨some 67, .len 1 (.t 66), none⟩,
  ⟨some 68, .bin .eql (.t 67) (.c (.int .i64 0)), none⟩,
  ⟨some 69, .mv (.t 68), none⟩,
  ⟨some 70, .callc 28 [], some (3, true)⟩,
  ⟨some 71, .pick (.t 69) (.t 70) (.c (.bool false)), none⟩,
  ⟨some 6, .mv (.t 71), none⟩]
theorem F_law14_ApsBackr9_W {T : Tab} {env : Env} {H : Heap} {Q : Post} : W T (.reg F_law14_ApsBackr9) env H Q ↔ WR T F_law14_ApsBackr9 [
  ⟨some 66, .mv (.t 11), none⟩,
  ⟨some 67, .len 1 (.t 66), none⟩,
  ⟨some 68, .bin .eql (.t 67) (.c (.int .i64 0)), none⟩,
  ⟨some 69, .mv (.t 68), none⟩,
  ⟨some 70, .callc 28 [], some (3, true)⟩,
  ⟨some 71, .pick (.t 69) (.t 70) (.c (.bool false)), none⟩,
  ⟨some 6, .mv (.t 71), none⟩] env H none [] Q := w_reg
theorem F_law14_ApsBackr9_g3 {env : Env} : yieldI F_law14_ApsBackr9 env 3 = bOf (env 69) := rfl
def F_law14_ApsBackr10 : List IStmt := [
  ⟨some 73, .mv (.t 11), none⟩,
  ⟨some 74, .mv (.t 2), none⟩,
  ⟨some 75, .callc 29 [(.t 73), (.t 74)], none⟩,
  ⟨some 72, .mv (.t 75), none⟩,
  ⟨some 76, .ext (.t 72) 0, none⟩,
  ⟨some 77, .ext (.t 72) 1, none⟩,
  ⟨some 13, .mv (.t 76), none⟩,
  ⟨some 14, .mv (.t 77), none⟩]
theorem F_law14_ApsBackr10_W {T : Tab} {env : Env} {H : Heap} {Q : Post} : W T (.reg F_law14_ApsBackr10) env H Q ↔ WR T F_law14_ApsBackr10 [
  ⟨some 73, .mv (.t 11), none⟩,
  ⟨some 74, .mv (.t 2), none⟩,
  ⟨some 75, .callc 29 [(.t 73), (.t 74)], none⟩,
  ⟨some 72, .mv (.t 75), none⟩,
  ⟨some 76, .ext (.t 72) 0, none⟩,
  ⟨some 77, .ext (.t 72) 1, none⟩,
  ⟨some 13, .mv (.t 76), none⟩,
  ⟨some 14, .mv (.t 77), none⟩] env H none [] Q := w_reg
def F_law14_ApsBackr11 : List IStmt := [
  ⟨some 79, .mv (.t 13), none⟩,
  ⟨some 80, .mv (.t 2), none⟩,
  ⟨some 81, .callc 25 [(.t 79), (.t 80)], none⟩,
  ⟨some 78, .mv (.t 81), none⟩,
  ⟨some 82, .ext (.t 78) 0, none⟩,
  ⟨some 83, .ext (.t 78) 1, none⟩,
  ⟨some 15, .mv (.t 82), none⟩,
  ⟨some 16, .mv (.t 83), none⟩]
theorem F_law14_ApsBackr11_W {T : Tab} {env : Env} {H : Heap} {Q : Post} : W T (.reg F_law14_ApsBackr11) env H Q ↔ WR T F_law14_ApsBackr11 [
  ⟨some 79, .mv (.t 13), none⟩,
  ⟨some 80, .mv (.t 2), none⟩,
  ⟨some 81, .callc 25 [(.t 79), (.t 80)], none⟩,
  ⟨some 78, .mv (.t 81), none⟩,
  ⟨some 82, .ext (.t 78) 0, none⟩,
  ⟨some 83, .ext (.t 78) 1, none⟩,
  ⟨some 15, .mv (.t 82), none⟩,
  ⟨some 16, .mv (.t 83), none⟩] env H none [] Q := w_reg
def F_law14_ApsBackr12 : List IStmt := [
  ⟨some 84, .mv (.t 14), none⟩,
  ⟨some 85, .bin .eql (.t 84) (.c (.int .i64 0)), none⟩,
  ⟨some 86, .mv (.t 85), none⟩,
  ⟨some 87, .mv (.t 16), some (2, true)⟩,
  ⟨some 88, .bin .eql (.t 87) (.c (.int .i64 0)), some (2, true)⟩,
  ⟨some 89, .pick (.t 86) (.t 88) (.c (.bool false)), none⟩,
  ⟨some 90, .mv (.t 89), none⟩,
  ⟨some 91, .mv (.t 15), some (6, true)⟩,
  ⟨some 92, .mv (.t 11), some (6, true)⟩,
  ⟨some 93, .callc 27 [(.t 91), (.t 92)], some (6, true)⟩,
  ⟨some 94, .pick (.t 90) (.t 93) (.c (.bool false)), none⟩,
  ⟨some 95, .mv (.t 94), none⟩,
  ⟨some 96, .callc 28 [], some (11, true)⟩,
  ⟨some 97, .pick (.t 95) (.t 96) (.c (.bool false)), none⟩,
  ⟨some 6, .mv (.t 97), none⟩]
theorem F_law14_ApsBackr12_W {T : Tab} {env : Env} {H : Heap} {Q : Post} : W T (.reg F_law14_ApsBackr12) env H Q ↔ WR T F_law14_ApsBackr12 [
  ⟨some 84, .mv (.t 14), none⟩,
  ⟨some 85, .bin .eql (.t 84) (.c (.int .i64 0)), none⟩,
  ⟨some 86, .mv (.t 85), none⟩,
  ⟨some 87, .mv (.t 16), some (2, true)⟩,
  ⟨some 88, .bin .eql (.t 87) (.c (.int .i64 0)), some (2, true)⟩,
  ⟨some 89, .pick (.t 86) (.t 88) (.c (.bool false)), none⟩,
  ⟨some 90, .mv (.t 89), none⟩,
  ⟨some 91, .mv (.t 15), some (6, true)⟩,
  ⟨some 92, .mv (.t 11), some (6, true)⟩,
  ⟨some 93, .callc 27 [(.t 91), (.t 92)], some (6, true)⟩,
  ⟨some 94, .pick (.t 90) (.t 93) (.c (.bool false)), none⟩,
  ⟨some 95, .mv (.t 94), none⟩,
  ⟨some 96, .callc 28 [], some (11, true)⟩,
  ⟨some 97, .pick (.t 95) (.t 96) (.c (.bool false)), none⟩,
  ⟨some 6, .mv (.t 97), none⟩] env H none [] Q := w_reg
theorem F_law14_ApsBackr12_g2 {env : Env} : yieldI F_law14_ApsBackr12 env 2 = bOf (env 86) := rfl
theorem F_law14_ApsBackr12_g6 {env : Env} : yieldI F_law14_ApsBackr12 env 6 = bOf (env 90) := rfl
theorem F_law14_ApsBackr12_g11 {env : Env} : yieldI F_law14_ApsBackr12 env 11 = bOf (env 95) := rfl
def F_law14_ApsBackc : ICode := (.seq (.reg F_law14_ApsBackr0) (.seq (.seq (.reg F_law14_ApsBackr1) (.cond (.t 24) (.seq (.reg F_law14_ApsBackr2) .ret) .skip)) (.seq (.reg F_law14_ApsBackr3) (.seq (.reg F_law14_ApsBackr4) (.seq (.seq (.reg F_law14_ApsBackr5) (.cond (.t 57) (.seq (.reg F_law14_ApsBackr6) .ret) .skip)) (.seq (.reg F_law14_ApsBackr7) (.seq (.seq (.reg F_law14_ApsBackr8) (.cond (.t 65) (.seq (.reg F_law14_ApsBackr9) .ret) .skip)) (.seq (.reg F_law14_ApsBackr10) (.seq (.reg F_law14_ApsBackr11) (.seq (.reg F_law14_ApsBackr12) .ret))))))))))
theorem F_law14_ApsBackc_W {T : Tab} {env : Env} {H : Heap} {Q : Post} : W T F_law14_ApsBackc env H Q ↔ W T (.seq (.reg F_law14_ApsBackr0) (.seq (.seq (.reg F_law14_ApsBackr1) (.cond (.t 24) (.seq (.reg F_law14_ApsBackr2) .ret) .skip)) (.seq (.reg F_law14_ApsBackr3) (.seq (.reg F_law14_ApsBackr4) (.seq (.seq (.reg F_law14_ApsBackr5) (.cond (.t 57) (.seq (.reg F_law14_ApsBackr6) .ret) .skip)) (.seq (.reg F_law14_ApsBackr7) (.seq (.seq (.reg F_law14_ApsBackr8) (.cond (.t 65) (.seq (.reg F_law14_ApsBackr9) .ret) .skip)) (.seq (.reg F_law14_ApsBackr10) (.seq (.reg F_law14_ApsBackr11) (.seq (.reg F_law14_ApsBackr12) .ret)))))))))) env H Q := Iff.rfl
def F_law14_ApsBack : IFn := ⟨98, [.tmp 6], F_law14_ApsBackc⟩
set_option maxRecDepth 1000000 in
theorem F_law14_ApsBack_chk : chkF Try.prog 10 F_law14_ApsBack = true := by kernel_rfl

/-- The functions, by number. -/
def TAps_l : List (Nat × IFn) := TLeb_l ++ [(25, F_aps_Decode), (40, F_aps_state_group), (60, F_aps_state_one), (45, F_aps_info), (29, F_aps_Encode), (44, F_aps_Encode_1), (41, F_ref14_numbers), (42, F_ref14_take), (43, F_ref14_has), (26, F_ref14_Decode), (30, F_ref14_Encode), (27, F_ref12_Same), (28, F_law14_alive), (8, F_law14_ApsReads), (9, F_law14_ApsWrites), (10, F_law14_ApsBack)]
def TAps : Tab := tabOf TAps_l
theorem TAps_chk : ∀ p ∈ TAps_l, chkF Try.prog p.1 p.2 = true := by
  intro p hp
  simp only [TAps_l, List.mem_append, List.mem_cons, List.not_mem_nil, or_false] at hp
  rcases hp with (hp) | rfl | rfl | rfl | rfl | rfl | rfl | rfl | rfl | rfl | rfl | rfl | rfl | rfl | rfl | rfl | rfl
  · exact TLeb_chk p hp
  · exact F_aps_Decode_chk
  · exact F_aps_state_group_chk
  · exact F_aps_state_one_chk
  · exact F_aps_info_chk
  · exact F_aps_Encode_chk
  · exact F_aps_Encode_1_chk
  · exact F_ref14_numbers_chk
  · exact F_ref14_take_chk
  · exact F_ref14_has_chk
  · exact F_ref14_Decode_chk
  · exact F_ref14_Encode_chk
  · exact F_ref12_Same_chk
  · exact F_law14_alive_chk
  · exact F_law14_ApsReads_chk
  · exact F_law14_ApsWrites_chk
  · exact F_law14_ApsBack_chk
theorem TAps_good : Good Try.prog TAps := good_tab (by kernel_rfl) TAps_chk

end Go.Proofs.Ytdkdifjjpbfohaa
