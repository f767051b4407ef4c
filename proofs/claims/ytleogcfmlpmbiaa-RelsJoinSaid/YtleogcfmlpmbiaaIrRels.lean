/- The small language's text of functions of the given program, and the check that it stands for them. Printed by a program. -/
import Derived.Test.YtleogcfmlpmbiaaFw24
import Derived.Test.YtleogcfmlpmbiaaChecked
import Derived.Test.YtleogcfmlpmbiaaIrLe
import Derived.KernelRfl
namespace Go.Proofs.Ytleogcfmlpmbiaa
open Go Fw

/-! ### rels_size -/
def F_rels_sizer0 : List IStmt := [
  ⟨some 2, .mv (.c (.int .i64 0)), none⟩]
theorem F_rels_sizer0_W {T : Tab} {env : Env} {H : Heap} {Q : Post} : W T (.reg F_rels_sizer0) env H Q ↔ WR T F_rels_sizer0 [
  ⟨some 2, .mv (.c (.int .i64 0)), none⟩] env H none [] Q := w_reg
def F_rels_sizer1 : List IStmt := [
  ⟨some 3, .mv (.t 0), none⟩]
theorem F_rels_sizer1_W {T : Tab} {env : Env} {H : Heap} {Q : Post} : W T (.reg F_rels_sizer1) env H Q ↔ WR T F_rels_sizer1 [
  ⟨some 3, .mv (.t 0), none⟩] env H none [] Q := w_reg
def F_rels_sizer2 : List IStmt := [
  ⟨some 2, .mv (.c (.int .i64 24)), none⟩]
theorem F_rels_sizer2_W {T : Tab} {env : Env} {H : Heap} {Q : Post} : W T (.reg F_rels_sizer2) env H Q ↔ WR T F_rels_sizer2 [
  ⟨some 2, .mv (.c (.int .i64 24)), none⟩] env H none [] Q := w_reg
def F_rels_sizer3 : List IStmt := [
  ⟨some 2, .mv (.c (.int .i64 16)), none⟩]
theorem F_rels_sizer3_W {T : Tab} {env : Env} {H : Heap} {Q : Post} : W T (.reg F_rels_sizer3) env H Q ↔ WR T F_rels_sizer3 [
  ⟨some 2, .mv (.c (.int .i64 16)), none⟩] env H none [] Q := w_reg
def F_rels_sizec : ICode := (.seq (.reg F_rels_sizer0) (.seq (.seq (.reg F_rels_sizer1) (.cond (.t 3) (.seq (.reg F_rels_sizer2) .ret) .skip)) (.seq (.reg F_rels_sizer3) .ret)))
theorem F_rels_sizec_W {T : Tab} {env : Env} {H : Heap} {Q : Post} : W T F_rels_sizec env H Q ↔ W T (.seq (.reg F_rels_sizer0) (.seq (.seq (.reg F_rels_sizer1) (.cond (.t 3) (.seq (.reg F_rels_sizer2) .ret) .skip)) (.seq (.reg F_rels_sizer3) .ret))) env H Q := Iff.rfl
def F_rels_size : IFn := ⟨4, [.tmp 2], F_rels_sizec⟩
set_option maxRecDepth 1000000 in
theorem F_rels_size_chk : chkF Try.prog 53 F_rels_size = true := by kernel_rfl

/-! ### rels_Decode -/
def F_rels_Decoder0 : List IStmt := [
  ⟨some 4, .mv (.c (.slice none 0 0)), none⟩,
  ⟨some 5, .mv (.c (.int .i64 0)), none⟩]
theorem F_rels_Decoder0_W {T : Tab} {env : Env} {H : Heap} {Q : Post} : W T (.reg F_rels_Decoder0) env H Q ↔ WR T F_rels_Decoder0 [
  ⟨some 4, .mv (.c (.slice none 0 0)), none⟩,
  ⟨some 5, .mv (.c (.int .i64 0)), none⟩] env H none [] Q := w_reg
def F_rels_Decoder1 : List IStmt := [
  ⟨some 12, .mv (.t 1), none⟩,
  ⟨some 13, .callc 53 [(.t 12)], none⟩,
  ⟨some 6, .mv (.t 13), none⟩]
theorem F_rels_Decoder1_W {T : Tab} {env : Env} {H : Heap} {Q : Post} : W T (.reg F_rels_Decoder1) env H Q ↔ WR T F_rels_Decoder1 [
  ⟨some 12, .mv (.t 1), none⟩,
  ⟨some 13, .callc 53 [(.t 12)], none⟩,
  ⟨some 6, .mv (.t 13), none⟩] env H none [] Q := w_reg
def F_rels_Decoder2 : List IStmt := [
  ⟨some 14, .mv (.t 0), none⟩,
  ⟨some 15, .len 1 (.t 14), none⟩,
  ⟨some 16, .mv (.t 6), none⟩,
  ⟨some 17, .bin .rem (.t 15) (.t 16), none⟩,
  ⟨some 18, .bin .neq (.t 17) (.c (.int .i64 0)), none⟩,
  ⟨some 19, .mv (.t 18), none⟩,
  ⟨some 20, .mv (.t 0), some (5, false)⟩,
  ⟨some 21, .len 1 (.t 20), some (5, false)⟩,
  ⟨some 22, .mv (.t 6), some (5, false)⟩,
  ⟨some 23, .bin .quo (.t 21) (.t 22), some (5, false)⟩,
  ⟨some 24, .bin .gtr (.t 23) (.c (.int .i64 512)), some (5, false)⟩,
  ⟨some 25, .pick (.t 19) (.c (.bool true)) (.t 24), none⟩]
theorem F_rels_Decoder2_W {T : Tab} {env : Env} {H : Heap} {Q : Post} : W T (.reg F_rels_Decoder2) env H Q ↔ WR T F_rels_Decoder2 [
  ⟨some 14, .mv (.t 0), none⟩,
  ⟨some 15, .len 1 (.t 14), none⟩,
  ⟨some 16, .mv (.t 6), none⟩,
  ⟨some 17, .bin .rem (.t 15) (.t 16), none⟩,
  ⟨some 18, .bin .neq (.t 17) (.c (.int .i64 0)), none⟩,
  ⟨some 19, .mv (.t 18), none⟩,
  ⟨some 20, .mv (.t 0), some (5, false)⟩,
  ⟨some 21, .len 1 (.t 20), some (5, false)⟩,
  ⟨some 22, .mv (.t 6), some (5, false)⟩,
  ⟨some 23, .bin .quo (.t 21) (.t 22), some (5, false)⟩,
  ⟨some 24, .bin .gtr (.t 23) (.c (.int .i64 512)), some (5, false)⟩,
  ⟨some 25, .pick (.t 19) (.c (.bool true)) (.t 24), none⟩] env H none [] Q := w_reg
theorem F_rels_Decoder2_g5 {env : Env} : yieldI F_rels_Decoder2 env 5 = bOf (env 19) := rfl
def F_rels_Decoder3 : List IStmt := [
  ⟨some 4, .mv (.c (.slice none 0 0)), none⟩,
  ⟨some 5, .mv (.c (.int .i64 120)), none⟩]
theorem F_rels_Decoder3_W {T : Tab} {env : Env} {H : Heap} {Q : Post} : W T (.reg F_rels_Decoder3) env H Q ↔ WR T F_rels_Decoder3 [
  ⟨some 4, .mv (.c (.slice none 0 0)), none⟩,
  ⟨some 5, .mv (.c (.int .i64 120)), none⟩] env H none [] Q := w_reg
def F_rels_Decoder4 : List IStmt := [
  ⟨some 7, .mv (.c (.slice none 0 0)), none⟩]
theorem F_rels_Decoder4_W {T : Tab} {env : Env} {H : Heap} {Q : Post} : W T (.reg F_rels_Decoder4) env H Q ↔ WR T F_rels_Decoder4 [
  ⟨some 7, .mv (.c (.slice none 0 0)), none⟩] env H none [] Q := w_reg
def F_rels_Decoder5 : List IStmt := [
  ⟨some 8, .mv (.c (.int .i64 0)), none⟩]
theorem F_rels_Decoder5_W {T : Tab} {env : Env} {H : Heap} {Q : Post} : W T (.reg F_rels_Decoder5) env H Q ↔ WR T F_rels_Decoder5 [
  ⟨some 8, .mv (.c (.int .i64 0)), none⟩] env H none [] Q := w_reg
def F_rels_Decoder6 : List IStmt := [
  ⟨some 26, .mv (.t 8), none⟩,
  ⟨some 27, .mv (.t 0), none⟩,
  ⟨some 28, .len 1 (.t 27), none⟩,
  ⟨some 29, .bin .lss (.t 26) (.t 28), none⟩]
theorem F_rels_Decoder6_W {T : Tab} {env : Env} {H : Heap} {Q : Post} : W T (.reg F_rels_Decoder6) env H Q ↔ WR T F_rels_Decoder6 [
  ⟨some 26, .mv (.t 8), none⟩,
  ⟨some 27, .mv (.t 0), none⟩,
  ⟨some 28, .len 1 (.t 27), none⟩,
  ⟨some 29, .bin .lss (.t 26) (.t 28), none⟩] env H none [] Q := w_reg
def F_rels_Decoder8 : List IStmt := [
  ⟨some 33, .mv (.t 1), none⟩,
  ⟨some 34, .bld [.int .u64 0, .int .u32 0, .int .u32 0, .int .i64 0, .bool false] [(4, 1, (.t 33))], none⟩,
  ⟨some 9, .alloc 5 [.int .u64 0, .int .u32 0, .int .u32 0, .int .i64 0, .bool false], none⟩,
  ⟨none, .store 5 (.t 9) (.t 34), none⟩]
theorem F_rels_Decoder8_W {T : Tab} {env : Env} {H : Heap} {Q : Post} : W T (.reg F_rels_Decoder8) env H Q ↔ WR T F_rels_Decoder8 [
  ⟨some 33, .mv (.t 1), none⟩,
  ⟨some 34, .bld [.int .u64 0, .int .u32 0, .int .u32 0, .int .i64 0, .bool false] [(4, 1, (.t 33))], none⟩,
  ⟨some 9, .alloc 5 [.int .u64 0, .int .u32 0, .int .u32 0, .int .i64 0, .bool false], none⟩,
  ⟨none, .store 5 (.t 9) (.t 34), none⟩] env H none [] Q := w_reg
def F_rels_Decoder9 : List IStmt := [
  ⟨some 36, .mv (.t 0), none⟩,
  ⟨some 37, .mv (.t 8), none⟩,
  ⟨some 38, .conv .u64 (.t 37), none⟩,
  ⟨some 39, .callc 35 [(.t 36), (.t 38)], none⟩,
  ⟨some 35, .mv (.t 39), none⟩,
  ⟨some 40, .ext (.t 35) 0, none⟩,
  ⟨some 41, .ext (.t 35) 1, none⟩,
  ⟨some 42, .fa 0 (.t 9), none⟩,
  ⟨none, .store 1 (.t 42) (.t 40), none⟩]
theorem F_rels_Decoder9_W {T : Tab} {env : Env} {H : Heap} {Q : Post} : W T (.reg F_rels_Decoder9) env H Q ↔ WR T F_rels_Decoder9 [
  ⟨some 36, .mv (.t 0), none⟩,
  ⟨some 37, .mv (.t 8), none⟩,
  ⟨some 38, .conv .u64 (.t 37), none⟩,
  ⟨some 39, .callc 35 [(.t 36), (.t 38)], none⟩,
  ⟨some 35, .mv (.t 39), none⟩,
  ⟨some 40, .ext (.t 35) 0, none⟩,
  ⟨some 41, .ext (.t 35) 1, none⟩,
  ⟨some 42, .fa 0 (.t 9), none⟩,
  ⟨none, .store 1 (.t 42) (.t 40), none⟩] env H none [] Q := w_reg
def F_rels_Decoder10 : List IStmt := [
  ⟨some 44, .mv (.t 0), none⟩,
  ⟨some 45, .mv (.t 8), none⟩,
  ⟨some 46, .conv .u64 (.t 45), none⟩,
  ⟨some 47, .bin .add (.t 46) (.c (.int .u64 8)), none⟩,
  ⟨some 48, .callc 34 [(.t 44), (.t 47)], none⟩,
  ⟨some 43, .mv (.t 48), none⟩,
  ⟨some 49, .ext (.t 43) 0, none⟩,
  ⟨some 50, .ext (.t 43) 1, none⟩,
  ⟨some 51, .fa 1 (.t 9), none⟩,
  ⟨none, .store 1 (.t 51) (.t 49), none⟩]
theorem F_rels_Decoder10_W {T : Tab} {env : Env} {H : Heap} {Q : Post} : W T (.reg F_rels_Decoder10) env H Q ↔ WR T F_rels_Decoder10 [
  ⟨some 44, .mv (.t 0), none⟩,
  ⟨some 45, .mv (.t 8), none⟩,
  ⟨some 46, .conv .u64 (.t 45), none⟩,
  ⟨some 47, .bin .add (.t 46) (.c (.int .u64 8)), none⟩,
  ⟨some 48, .callc 34 [(.t 44), (.t 47)], none⟩,
  ⟨some 43, .mv (.t 48), none⟩,
  ⟨some 49, .ext (.t 43) 0, none⟩,
  ⟨some 50, .ext (.t 43) 1, none⟩,
  ⟨some 51, .fa 1 (.t 9), none⟩,
  ⟨none, .store 1 (.t 51) (.t 49), none⟩] env H none [] Q := w_reg
def F_rels_Decoder11 : List IStmt := [
  ⟨some 53, .mv (.t 0), none⟩,
  ⟨some 54, .mv (.t 8), none⟩,
  ⟨some 55, .conv .u64 (.t 54), none⟩,
  ⟨some 56, .bin .add (.t 55) (.c (.int .u64 12)), none⟩,
  ⟨some 57, .callc 34 [(.t 53), (.t 56)], none⟩,
  ⟨some 52, .mv (.t 57), none⟩,
  ⟨some 58, .ext (.t 52) 0, none⟩,
  ⟨some 59, .ext (.t 52) 1, none⟩,
  ⟨some 60, .fa 2 (.t 9), none⟩,
  ⟨none, .store 1 (.t 60) (.t 58), none⟩]
theorem F_rels_Decoder11_W {T : Tab} {env : Env} {H : Heap} {Q : Post} : W T (.reg F_rels_Decoder11) env H Q ↔ WR T F_rels_Decoder11 [
  ⟨some 53, .mv (.t 0), none⟩,
  ⟨some 54, .mv (.t 8), none⟩,
  ⟨some 55, .conv .u64 (.t 54), none⟩,
  ⟨some 56, .bin .add (.t 55) (.c (.int .u64 12)), none⟩,
  ⟨some 57, .callc 34 [(.t 53), (.t 56)], none⟩,
  ⟨some 52, .mv (.t 57), none⟩,
  ⟨some 58, .ext (.t 52) 0, none⟩,
  ⟨some 59, .ext (.t 52) 1, none⟩,
  ⟨some 60, .fa 2 (.t 9), none⟩,
  ⟨none, .store 1 (.t 60) (.t 58), none⟩] env H none [] Q := w_reg
def F_rels_Decoder12 : List IStmt := [
  ⟨some 61, .mv (.t 1), none⟩]
theorem F_rels_Decoder12_W {T : Tab} {env : Env} {H : Heap} {Q : Post} : W T (.reg F_rels_Decoder12) env H Q ↔ WR T F_rels_Decoder12 [
  ⟨some 61, .mv (.t 1), none⟩] env H none [] Q := w_reg
def F_rels_Decoder13 : List IStmt := [
  ⟨some 63, .mv (.t 0), none⟩,
  ⟨some 64, .mv (.t 8), none⟩,
  ⟨some 65, .conv .u64 (.t 64), none⟩,
  ⟨some 66, .bin .add (.t 65) (.c (.int .u64 16)), none⟩,
  ⟨some 67, .callc 35 [(.t 63), (.t 66)], none⟩,
  ⟨some 62, .mv (.t 67), none⟩,
  ⟨some 68, .ext (.t 62) 0, none⟩,
  ⟨some 69, .ext (.t 62) 1, none⟩,
  ⟨some 10, .mv (.t 68), none⟩,
  ⟨some 11, .mv (.t 69), none⟩]
theorem F_rels_Decoder13_W {T : Tab} {env : Env} {H : Heap} {Q : Post} : W T (.reg F_rels_Decoder13) env H Q ↔ WR T F_rels_Decoder13 [
  ⟨some 63, .mv (.t 0), none⟩,
  ⟨some 64, .mv (.t 8), none⟩,
  ⟨some 65, .conv .u64 (.t 64), none⟩,
  ⟨some 66, .bin .add (.t 65) (.c (.int .u64 16)), none⟩,
  ⟨some 67, .callc 35 [(.t 63), (.t 66)], none⟩,
  ⟨some 62, .mv (.t 67), none⟩,
  ⟨some 68, .ext (.t 62) 0, none⟩,
  ⟨some 69, .ext (.t 62) 1, none⟩,
  ⟨some 10, .mv (.t 68), none⟩,
  ⟨some 11, .mv (.t 69), none⟩] env H none [] Q := w_reg
def F_rels_Decoder14 : List IStmt := [
  ⟨some 70, .mv (.t 10), none⟩,
  ⟨some 71, .conv .i64 (.t 70), none⟩,
  ⟨some 72, .fa 3 (.t 9), none⟩,
  ⟨none, .store 1 (.t 72) (.t 71), none⟩]
theorem F_rels_Decoder14_W {T : Tab} {env : Env} {H : Heap} {Q : Post} : W T (.reg F_rels_Decoder14) env H Q ↔ WR T F_rels_Decoder14 [
  ⟨some 70, .mv (.t 10), none⟩,
  ⟨some 71, .conv .i64 (.t 70), none⟩,
  ⟨some 72, .fa 3 (.t 9), none⟩,
  ⟨none, .store 1 (.t 72) (.t 71), none⟩] env H none [] Q := w_reg
def F_rels_Decoder15 : List IStmt := [
  ⟨some 73, .mv (.t 7), none⟩,
  ⟨some 74, .loadN 5 (.t 9), none⟩,
  ⟨some 75, .bsli 5 1 [.int .u64 0, .int .u32 0, .int .u32 0, .int .i64 0, .bool false] [(0, (.t 74))], none⟩,
  ⟨some 76, .app 5 32 (.t 73) (.t 75), none⟩,
  ⟨some 7, .mv (.t 76), none⟩]
theorem F_rels_Decoder15_W {T : Tab} {env : Env} {H : Heap} {Q : Post} : W T (.reg F_rels_Decoder15) env H Q ↔ WR T F_rels_Decoder15 [
  ⟨some 73, .mv (.t 7), none⟩,
  ⟨some 74, .loadN 5 (.t 9), none⟩,
  ⟨some 75, .bsli 5 1 [.int .u64 0, .int .u32 0, .int .u32 0, .int .i64 0, .bool false] [(0, (.t 74))], none⟩,
  ⟨some 76, .app 5 32 (.t 73) (.t 75), none⟩,
  ⟨some 7, .mv (.t 76), none⟩] env H none [] Q := w_reg
def F_rels_Decoder7 : List IStmt := [
  ⟨some 30, .mv (.t 8), none⟩,
  ⟨some 31, .mv (.t 6), none⟩,
  ⟨some 32, .bin .add (.t 30) (.t 31), none⟩,
  ⟨some 8, .mv (.t 32), none⟩]
theorem F_rels_Decoder7_W {T : Tab} {env : Env} {H : Heap} {Q : Post} : W T (.reg F_rels_Decoder7) env H Q ↔ WR T F_rels_Decoder7 [
  ⟨some 30, .mv (.t 8), none⟩,
  ⟨some 31, .mv (.t 6), none⟩,
  ⟨some 32, .bin .add (.t 30) (.t 31), none⟩,
  ⟨some 8, .mv (.t 32), none⟩] env H none [] Q := w_reg
def F_rels_Decodel0 : ICode := (.seq (.seq (.reg F_rels_Decoder6) (.cond (.t 29) .skip (.exit 0))) (.seq (.block 1 (.seq (.reg F_rels_Decoder8) (.seq (.reg F_rels_Decoder9) (.seq (.reg F_rels_Decoder10) (.seq (.reg F_rels_Decoder11) (.seq (.seq (.reg F_rels_Decoder12) (.cond (.t 61) (.seq (.reg F_rels_Decoder13) (.reg F_rels_Decoder14)) .skip)) (.reg F_rels_Decoder15))))))) (.reg F_rels_Decoder7)))
theorem F_rels_Decodel0_W {T : Tab} {env : Env} {H : Heap} {Q : Post} : W T F_rels_Decodel0 env H Q ↔ W T (.seq (.seq (.reg F_rels_Decoder6) (.cond (.t 29) .skip (.exit 0))) (.seq (.block 1 (.seq (.reg F_rels_Decoder8) (.seq (.reg F_rels_Decoder9) (.seq (.reg F_rels_Decoder10) (.seq (.reg F_rels_Decoder11) (.seq (.seq (.reg F_rels_Decoder12) (.cond (.t 61) (.seq (.reg F_rels_Decoder13) (.reg F_rels_Decoder14)) .skip)) (.reg F_rels_Decoder15))))))) (.reg F_rels_Decoder7))) env H Q := Iff.rfl
def F_rels_Decoder16 : List IStmt := [
  ⟨some 77, .mv (.t 7), none⟩,
  ⟨some 4, .mv (.t 77), none⟩,
  ⟨some 5, .mv (.c (.int .i64 0)), none⟩]
theorem F_rels_Decoder16_W {T : Tab} {env : Env} {H : Heap} {Q : Post} : W T (.reg F_rels_Decoder16) env H Q ↔ WR T F_rels_Decoder16 [
  ⟨some 77, .mv (.t 7), none⟩,
  ⟨some 4, .mv (.t 77), none⟩,
  ⟨some 5, .mv (.c (.int .i64 0)), none⟩] env H none [] Q := w_reg
def F_rels_Decodec : ICode := (.seq (.reg F_rels_Decoder0) (.seq (.reg F_rels_Decoder1) (.seq (.seq (.reg F_rels_Decoder2) (.cond (.t 25) (.seq (.reg F_rels_Decoder3) .ret) .skip)) (.seq (.reg F_rels_Decoder4) (.seq (.seq (.reg F_rels_Decoder5) (.block 0 (.loop F_rels_Decodel0))) (.seq (.reg F_rels_Decoder16) .ret))))))
theorem F_rels_Decodec_W {T : Tab} {env : Env} {H : Heap} {Q : Post} : W T F_rels_Decodec env H Q ↔ W T (.seq (.reg F_rels_Decoder0) (.seq (.reg F_rels_Decoder1) (.seq (.seq (.reg F_rels_Decoder2) (.cond (.t 25) (.seq (.reg F_rels_Decoder3) .ret) .skip)) (.seq (.reg F_rels_Decoder4) (.seq (.seq (.reg F_rels_Decoder5) (.block 0 (.loop F_rels_Decodel0))) (.seq (.reg F_rels_Decoder16) .ret)))))) env H Q := Iff.rfl
def F_rels_Decode : IFn := ⟨78, [.tmp 4, .tmp 5], F_rels_Decodec⟩
set_option maxRecDepth 1000000 in
theorem F_rels_Decode_chk : chkF Try.prog 30 F_rels_Decode = true := by kernel_rfl

/-! ### rels_Encode -/
def F_rels_Encoder0 : List IStmt := [
  ⟨some 4, .mv (.c (.slice none 0 0)), none⟩,
  ⟨some 5, .mv (.c (.int .i64 0)), none⟩]
theorem F_rels_Encoder0_W {T : Tab} {env : Env} {H : Heap} {Q : Post} : W T (.reg F_rels_Encoder0) env H Q ↔ WR T F_rels_Encoder0 [
  ⟨some 4, .mv (.c (.slice none 0 0)), none⟩,
  ⟨some 5, .mv (.c (.int .i64 0)), none⟩] env H none [] Q := w_reg
def F_rels_Encoder1 : List IStmt := [
  ⟨some 9, .mv (.t 0), none⟩,
  ⟨some 10, .len 1 (.t 9), none⟩,
  ⟨some 11, .bin .gtr (.t 10) (.c (.int .i64 512)), none⟩]
theorem F_rels_Encoder1_W {T : Tab} {env : Env} {H : Heap} {Q : Post} : W T (.reg F_rels_Encoder1) env H Q ↔ WR T F_rels_Encoder1 [
  ⟨some 9, .mv (.t 0), none⟩,
  ⟨some 10, .len 1 (.t 9), none⟩,
  ⟨some 11, .bin .gtr (.t 10) (.c (.int .i64 512)), none⟩] env H none [] Q := w_reg
def F_rels_Encoder2 : List IStmt := [
  ⟨some 4, .mv (.c (.slice none 0 0)), none⟩,
  ⟨some 5, .mv (.c (.int .i64 120)), none⟩]
theorem F_rels_Encoder2_W {T : Tab} {env : Env} {H : Heap} {Q : Post} : W T (.reg F_rels_Encoder2) env H Q ↔ WR T F_rels_Encoder2 [
  ⟨some 4, .mv (.c (.slice none 0 0)), none⟩,
  ⟨some 5, .mv (.c (.int .i64 120)), none⟩] env H none [] Q := w_reg
def F_rels_Encoder3 : List IStmt := [
  ⟨some 12, .call 20 [], none⟩,
  ⟨some 6, .mv (.t 12), none⟩]
theorem F_rels_Encoder3_W {T : Tab} {env : Env} {H : Heap} {Q : Post} : W T (.reg F_rels_Encoder3) env H Q ↔ WR T F_rels_Encoder3 [
  ⟨some 12, .call 20 [], none⟩,
  ⟨some 6, .mv (.t 12), none⟩] env H none [] Q := w_reg
def F_rels_Encoder4 : List IStmt := [
  ⟨some 13, .mv (.t 0), none⟩,
  ⟨some 14, .len 1 (.t 13), none⟩,
  ⟨some 15, .mv (.c (.int .i64 0)), none⟩]
theorem F_rels_Encoder4_W {T : Tab} {env : Env} {H : Heap} {Q : Post} : W T (.reg F_rels_Encoder4) env H Q ↔ WR T F_rels_Encoder4 [
  ⟨some 13, .mv (.t 0), none⟩,
  ⟨some 14, .len 1 (.t 13), none⟩,
  ⟨some 15, .mv (.c (.int .i64 0)), none⟩] env H none [] Q := w_reg
def F_rels_Encoder5 : List IStmt := [
  ⟨some 16, .bin .lss (.t 15) (.t 14), none⟩]
theorem F_rels_Encoder5_W {T : Tab} {env : Env} {H : Heap} {Q : Post} : W T (.reg F_rels_Encoder5) env H Q ↔ WR T F_rels_Encoder5 [
  ⟨some 16, .bin .lss (.t 15) (.t 14), none⟩] env H none [] Q := w_reg
def F_rels_Encoder6 : List IStmt := [
  ⟨some 17, .ixa 5 (.t 13) (.t 15), none⟩,
  ⟨some 18, .loadN 5 (.t 17), none⟩,
  ⟨some 8, .alloc 5 [.int .u64 0, .int .u32 0, .int .u32 0, .int .i64 0, .bool false], none⟩,
  ⟨none, .store 5 (.t 8) (.t 18), none⟩]
theorem F_rels_Encoder6_W {T : Tab} {env : Env} {H : Heap} {Q : Post} : W T (.reg F_rels_Encoder6) env H Q ↔ WR T F_rels_Encoder6 [
  ⟨some 17, .ixa 5 (.t 13) (.t 15), none⟩,
  ⟨some 18, .loadN 5 (.t 17), none⟩,
  ⟨some 8, .alloc 5 [.int .u64 0, .int .u32 0, .int .u32 0, .int .i64 0, .bool false], none⟩,
  ⟨none, .store 5 (.t 8) (.t 18), none⟩] env H none [] Q := w_reg
def F_rels_Encoder7 : List IStmt := [
  ⟨some 19, .fa 4 (.t 8), none⟩,
  ⟨some 20, .load (.t 19), none⟩,
  ⟨some 21, .mv (.t 1), none⟩,
  ⟨some 22, .eqb true (.t 20) (.t 21), none⟩,
  ⟨some 23, .mv (.t 22), none⟩,
  ⟨some 24, .mv (.t 1), some (4, false)⟩,
  ⟨some 25, .un .not (.t 24), some (4, false)⟩,
  ⟨some 26, .mv (.t 25), some (4, false)⟩,
  ⟨some 27, .fa 3 (.t 8), some (7, true)⟩,
  ⟨some 28, .load (.t 27), some (7, true)⟩,
  ⟨some 29, .bin .neq (.t 28) (.c (.int .i64 0)), some (7, true)⟩,
  ⟨some 30, .pick (.t 26) (.t 29) (.c (.bool false)), some (4, false)⟩,
  ⟨some 31, .pick (.t 23) (.c (.bool true)) (.t 30), none⟩]
theorem F_rels_Encoder7_W {T : Tab} {env : Env} {H : Heap} {Q : Post} : W T (.reg F_rels_Encoder7) env H Q ↔ WR T F_rels_Encoder7 [
  ⟨some 19, .fa 4 (.t 8), none⟩,
  ⟨some 20, .load (.t 19), none⟩,
  ⟨some 21, .mv (.t 1), none⟩,
  ⟨some 22, .eqb true (.t 20) (.t 21), none⟩,
  ⟨some 23, .mv (.t 22), none⟩,
  ⟨some 24, .mv (.t 1), some (4, false)⟩,
  ⟨some 25, .un .not (.t 24), some (4, false)⟩,
  ⟨some 26, .mv (.t 25), some (4, false)⟩,
  ⟨some 27, .fa 3 (.t 8), some (7, true)⟩,
  ⟨some 28, .load (.t 27), some (7, true)⟩,
  ⟨some 29, .bin .neq (.t 28) (.c (.int .i64 0)), some (7, true)⟩,
  ⟨some 30, .pick (.t 26) (.t 29) (.c (.bool false)), some (4, false)⟩,
  ⟨some 31, .pick (.t 23) (.c (.bool true)) (.t 30), none⟩] env H none [] Q := w_reg
theorem F_rels_Encoder7_g4 {env : Env} : yieldI F_rels_Encoder7 env 4 = bOf (env 23) := rfl
theorem F_rels_Encoder7_g7 {env : Env} : yieldI F_rels_Encoder7 env 7 = bOf (env 26) := rfl
def F_rels_Encoder8 : List IStmt := [
  ⟨some 4, .mv (.c (.slice none 0 0)), none⟩,
  ⟨some 5, .mv (.c (.int .i64 120)), none⟩]
theorem F_rels_Encoder8_W {T : Tab} {env : Env} {H : Heap} {Q : Post} : W T (.reg F_rels_Encoder8) env H Q ↔ WR T F_rels_Encoder8 [
  ⟨some 4, .mv (.c (.slice none 0 0)), none⟩,
  ⟨some 5, .mv (.c (.int .i64 120)), none⟩] env H none [] Q := w_reg
def F_rels_Encoder9 : List IStmt := [
  ⟨some 32, .mv (.t 6), none⟩,
  ⟨some 33, .fa 0 (.t 8), none⟩,
  ⟨some 34, .load (.t 33), none⟩,
  ⟨some 35, .call 23 [(.t 32), (.t 34)], none⟩]
theorem F_rels_Encoder9_W {T : Tab} {env : Env} {H : Heap} {Q : Post} : W T (.reg F_rels_Encoder9) env H Q ↔ WR T F_rels_Encoder9 [
  ⟨some 32, .mv (.t 6), none⟩,
  ⟨some 33, .fa 0 (.t 8), none⟩,
  ⟨some 34, .load (.t 33), none⟩,
  ⟨some 35, .call 23 [(.t 32), (.t 34)], none⟩] env H none [] Q := w_reg
def F_rels_Encoder10 : List IStmt := [
  ⟨some 36, .mv (.t 6), none⟩,
  ⟨some 37, .fa 1 (.t 8), none⟩,
  ⟨some 38, .load (.t 37), none⟩,
  ⟨some 39, .call 22 [(.t 36), (.t 38)], none⟩]
theorem F_rels_Encoder10_W {T : Tab} {env : Env} {H : Heap} {Q : Post} : W T (.reg F_rels_Encoder10) env H Q ↔ WR T F_rels_Encoder10 [
  ⟨some 36, .mv (.t 6), none⟩,
  ⟨some 37, .fa 1 (.t 8), none⟩,
  ⟨some 38, .load (.t 37), none⟩,
  ⟨some 39, .call 22 [(.t 36), (.t 38)], none⟩] env H none [] Q := w_reg
def F_rels_Encoder11 : List IStmt := [
  ⟨some 40, .mv (.t 6), none⟩,
  ⟨some 41, .fa 2 (.t 8), none⟩,
  ⟨some 42, .load (.t 41), none⟩,
  ⟨some 43, .call 22 [(.t 40), (.t 42)], none⟩]
theorem F_rels_Encoder11_W {T : Tab} {env : Env} {H : Heap} {Q : Post} : W T (.reg F_rels_Encoder11) env H Q ↔ WR T F_rels_Encoder11 [
  ⟨some 40, .mv (.t 6), none⟩,
  ⟨some 41, .fa 2 (.t 8), none⟩,
  ⟨some 42, .load (.t 41), none⟩,
  ⟨some 43, .call 22 [(.t 40), (.t 42)], none⟩] env H none [] Q := w_reg
def F_rels_Encoder12 : List IStmt := [
  ⟨some 44, .mv (.t 1), none⟩]
theorem F_rels_Encoder12_W {T : Tab} {env : Env} {H : Heap} {Q : Post} : W T (.reg F_rels_Encoder12) env H Q ↔ WR T F_rels_Encoder12 [
  ⟨some 44, .mv (.t 1), none⟩] env H none [] Q := w_reg
def F_rels_Encoder13 : List IStmt := [
  ⟨some 45, .mv (.t 6), none⟩,
  ⟨some 46, .fa 3 (.t 8), none⟩,
  ⟨some 47, .load (.t 46), none⟩,
  ⟨some 48, .conv .u64 (.t 47), none⟩,
  ⟨some 49, .call 23 [(.t 45), (.t 48)], none⟩]
theorem F_rels_Encoder13_W {T : Tab} {env : Env} {H : Heap} {Q : Post} : W T (.reg F_rels_Encoder13) env H Q ↔ WR T F_rels_Encoder13 [
  ⟨some 45, .mv (.t 6), none⟩,
  ⟨some 46, .fa 3 (.t 8), none⟩,
  ⟨some 47, .load (.t 46), none⟩,
  ⟨some 48, .conv .u64 (.t 47), none⟩,
  ⟨some 49, .call 23 [(.t 45), (.t 48)], none⟩] env H none [] Q := w_reg
def F_rels_Encoder14 : List IStmt := [
  ⟨some 50, .bin .add (.t 15) (.c (.int .i64 1)), none⟩,
  ⟨some 15, .mv (.t 50), none⟩]
theorem F_rels_Encoder14_W {T : Tab} {env : Env} {H : Heap} {Q : Post} : W T (.reg F_rels_Encoder14) env H Q ↔ WR T F_rels_Encoder14 [
  ⟨some 50, .bin .add (.t 15) (.c (.int .i64 1)), none⟩,
  ⟨some 15, .mv (.t 50), none⟩] env H none [] Q := w_reg
def F_rels_Encodel0 : ICode := (.seq (.reg F_rels_Encoder5) (.seq (.cond (.t 16) .skip (.exit 0)) (.seq (.block 1 (.seq (.reg F_rels_Encoder6) (.seq (.seq (.reg F_rels_Encoder7) (.cond (.t 31) (.seq (.reg F_rels_Encoder8) .ret) .skip)) (.seq (.reg F_rels_Encoder9) (.seq (.reg F_rels_Encoder10) (.seq (.reg F_rels_Encoder11) (.seq (.reg F_rels_Encoder12) (.cond (.t 44) (.reg F_rels_Encoder13) .skip)))))))) (.reg F_rels_Encoder14))))
theorem F_rels_Encodel0_W {T : Tab} {env : Env} {H : Heap} {Q : Post} : W T F_rels_Encodel0 env H Q ↔ W T (.seq (.reg F_rels_Encoder5) (.seq (.cond (.t 16) .skip (.exit 0)) (.seq (.block 1 (.seq (.reg F_rels_Encoder6) (.seq (.seq (.reg F_rels_Encoder7) (.cond (.t 31) (.seq (.reg F_rels_Encoder8) .ret) .skip)) (.seq (.reg F_rels_Encoder9) (.seq (.reg F_rels_Encoder10) (.seq (.reg F_rels_Encoder11) (.seq (.reg F_rels_Encoder12) (.cond (.t 44) (.reg F_rels_Encoder13) .skip)))))))) (.reg F_rels_Encoder14)))) env H Q := Iff.rfl
def F_rels_Encoder15 : List IStmt := [
  ⟨some 51, .mv (.t 6), none⟩,
  ⟨some 52, .callf 27 [(.t 51)], none⟩,
  ⟨some 4, .mv (.t 52), none⟩,
  ⟨some 5, .mv (.c (.int .i64 0)), none⟩]
theorem F_rels_Encoder15_W {T : Tab} {env : Env} {H : Heap} {Q : Post} : W T (.reg F_rels_Encoder15) env H Q ↔ WR T F_rels_Encoder15 [
  ⟨some 51, .mv (.t 6), none⟩,
  ⟨some 52, .callf 27 [(.t 51)], none⟩,
  ⟨some 4, .mv (.t 52), none⟩,
  ⟨some 5, .mv (.c (.int .i64 0)), none⟩] env H none [] Q := w_reg
def F_rels_Encodec : ICode := (.seq (.reg F_rels_Encoder0) (.seq (.seq (.reg F_rels_Encoder1) (.cond (.t 11) (.seq (.reg F_rels_Encoder2) .ret) .skip)) (.seq (.reg F_rels_Encoder3) (.seq (.seq (.reg F_rels_Encoder4) (.block 0 (.loop F_rels_Encodel0))) (.seq (.reg F_rels_Encoder15) .ret)))))
theorem F_rels_Encodec_W {T : Tab} {env : Env} {H : Heap} {Q : Post} : W T F_rels_Encodec env H Q ↔ W T (.seq (.reg F_rels_Encoder0) (.seq (.seq (.reg F_rels_Encoder1) (.cond (.t 11) (.seq (.reg F_rels_Encoder2) .ret) .skip)) (.seq (.reg F_rels_Encoder3) (.seq (.seq (.reg F_rels_Encoder4) (.block 0 (.loop F_rels_Encodel0))) (.seq (.reg F_rels_Encoder15) .ret))))) env H Q := Iff.rfl
def F_rels_Encode : IFn := ⟨53, [.tmp 4, .tmp 5], F_rels_Encodec⟩
set_option maxRecDepth 1000000 in
theorem F_rels_Encode_chk : chkF Try.prog 29 F_rels_Encode = true := by kernel_rfl

/-! ### rels_Same -/
def F_rels_Samer0 : List IStmt := [
  ⟨some 4, .mv (.c (.bool false)), none⟩]
theorem F_rels_Samer0_W {T : Tab} {env : Env} {H : Heap} {Q : Post} : W T (.reg F_rels_Samer0) env H Q ↔ WR T F_rels_Samer0 [
  ⟨some 4, .mv (.c (.bool false)), none⟩] env H none [] Q := w_reg
def F_rels_Samer1 : List IStmt := [
  ⟨some 7, .mv (.t 0), none⟩,
  ⟨some 8, .len 1 (.t 7), none⟩,
  ⟨some 9, .mv (.t 1), none⟩,
  ⟨some 10, .len 1 (.t 9), none⟩,
  ⟨some 11, .bin .neq (.t 8) (.t 10), none⟩]
theorem F_rels_Samer1_W {T : Tab} {env : Env} {H : Heap} {Q : Post} : W T (.reg F_rels_Samer1) env H Q ↔ WR T F_rels_Samer1 [
  ⟨some 7, .mv (.t 0), none⟩,
  ⟨some 8, .len 1 (.t 7), none⟩,
  ⟨some 9, .mv (.t 1), none⟩,
  ⟨some 10, .len 1 (.t 9), none⟩,
  ⟨some 11, .bin .neq (.t 8) (.t 10), none⟩] env H none [] Q := w_reg
def F_rels_Samer2 : List IStmt := [
  ⟨some 4, .mv (.c (.bool false)), none⟩]
theorem F_rels_Samer2_W {T : Tab} {env : Env} {H : Heap} {Q : Post} : W T (.reg F_rels_Samer2) env H Q ↔ WR T F_rels_Samer2 [
  ⟨some 4, .mv (.c (.bool false)), none⟩] env H none [] Q := w_reg
def F_rels_Samer3 : List IStmt := [
  ⟨some 12, .mv (.t 0), none⟩,
  ⟨some 13, .len 1 (.t 12), none⟩,
  ⟨some 14, .mv (.c (.int .i64 0)), none⟩]
theorem F_rels_Samer3_W {T : Tab} {env : Env} {H : Heap} {Q : Post} : W T (.reg F_rels_Samer3) env H Q ↔ WR T F_rels_Samer3 [
  ⟨some 12, .mv (.t 0), none⟩,
  ⟨some 13, .len 1 (.t 12), none⟩,
  ⟨some 14, .mv (.c (.int .i64 0)), none⟩] env H none [] Q := w_reg
def F_rels_Samer4 : List IStmt := [
  ⟨some 15, .bin .lss (.t 14) (.t 13), none⟩]
theorem F_rels_Samer4_W {T : Tab} {env : Env} {H : Heap} {Q : Post} : W T (.reg F_rels_Samer4) env H Q ↔ WR T F_rels_Samer4 [
  ⟨some 15, .bin .lss (.t 14) (.t 13), none⟩] env H none [] Q := w_reg
def F_rels_Samer5 : List IStmt := [
  ⟨some 16, .mv (.t 14), none⟩,
  ⟨some 17, .ixa 5 (.t 12) (.t 14), none⟩,
  ⟨some 18, .loadN 5 (.t 17), none⟩,
  ⟨some 6, .alloc 5 [.int .u64 0, .int .u32 0, .int .u32 0, .int .i64 0, .bool false], none⟩,
  ⟨some 5, .mv (.t 16), none⟩,
  ⟨none, .store 5 (.t 6) (.t 18), none⟩]
theorem F_rels_Samer5_W {T : Tab} {env : Env} {H : Heap} {Q : Post} : W T (.reg F_rels_Samer5) env H Q ↔ WR T F_rels_Samer5 [
  ⟨some 16, .mv (.t 14), none⟩,
  ⟨some 17, .ixa 5 (.t 12) (.t 14), none⟩,
  ⟨some 18, .loadN 5 (.t 17), none⟩,
  ⟨some 6, .alloc 5 [.int .u64 0, .int .u32 0, .int .u32 0, .int .i64 0, .bool false], none⟩,
  ⟨some 5, .mv (.t 16), none⟩,
  ⟨none, .store 5 (.t 6) (.t 18), none⟩] env H none [] Q := w_reg
def F_rels_Samer6 : List IStmt := [
  ⟨some 19, .loadN 5 (.t 6), none⟩,
  ⟨some 20, .mv (.t 1), none⟩,
  ⟨some 21, .mv (.t 5), none⟩,
  ⟨some 22, .ixa 5 (.t 20) (.t 21), none⟩,
  ⟨some 23, .loadN 5 (.t 22), none⟩,
  ⟨some 24, .eqs [0, 0, 0, 0, 1] true (.t 19) (.t 23), none⟩]
theorem F_rels_Samer6_W {T : Tab} {env : Env} {H : Heap} {Q : Post} : W T (.dreg F_rels_Samer6 []) env H Q ↔ WR T F_rels_Samer6 [
  ⟨some 19, .loadN 5 (.t 6), none⟩,
  ⟨some 20, .mv (.t 1), none⟩,
  ⟨some 21, .mv (.t 5), none⟩,
  ⟨some 22, .ixa 5 (.t 20) (.t 21), none⟩,
  ⟨some 23, .loadN 5 (.t 22), none⟩,
  ⟨some 24, .eqs [0, 0, 0, 0, 1] true (.t 19) (.t 23), none⟩] env H none [] Q := w_dreg0
def F_rels_Samer7 : List IStmt := [
  ⟨some 4, .mv (.c (.bool false)), none⟩]
theorem F_rels_Samer7_W {T : Tab} {env : Env} {H : Heap} {Q : Post} : W T (.reg F_rels_Samer7) env H Q ↔ WR T F_rels_Samer7 [
  ⟨some 4, .mv (.c (.bool false)), none⟩] env H none [] Q := w_reg
def F_rels_Samer8 : List IStmt := [
  ⟨some 25, .bin .add (.t 14) (.c (.int .i64 1)), none⟩,
  ⟨some 14, .mv (.t 25), none⟩]
theorem F_rels_Samer8_W {T : Tab} {env : Env} {H : Heap} {Q : Post} : W T (.reg F_rels_Samer8) env H Q ↔ WR T F_rels_Samer8 [
  ⟨some 25, .bin .add (.t 14) (.c (.int .i64 1)), none⟩,
  ⟨some 14, .mv (.t 25), none⟩] env H none [] Q := w_reg
def F_rels_Samel0 : ICode := (.seq (.reg F_rels_Samer4) (.seq (.cond (.t 15) .skip (.exit 0)) (.seq (.block 1 (.seq (.reg F_rels_Samer5) (.seq (.dreg F_rels_Samer6 []) (.cond (.t 24) (.seq (.reg F_rels_Samer7) .ret) .skip)))) (.reg F_rels_Samer8))))
theorem F_rels_Samel0_W {T : Tab} {env : Env} {H : Heap} {Q : Post} : W T F_rels_Samel0 env H Q ↔ W T (.seq (.reg F_rels_Samer4) (.seq (.cond (.t 15) .skip (.exit 0)) (.seq (.block 1 (.seq (.reg F_rels_Samer5) (.seq (.dreg F_rels_Samer6 []) (.cond (.t 24) (.seq (.reg F_rels_Samer7) .ret) .skip)))) (.reg F_rels_Samer8)))) env H Q := Iff.rfl
def F_rels_Samer9 : List IStmt := [
  ⟨some 4, .mv (.c (.bool true)), none⟩]
theorem F_rels_Samer9_W {T : Tab} {env : Env} {H : Heap} {Q : Post} : W T (.reg F_rels_Samer9) env H Q ↔ WR T F_rels_Samer9 [
  ⟨some 4, .mv (.c (.bool true)), none⟩] env H none [] Q := w_reg
def F_rels_Samec : ICode := (.seq (.reg F_rels_Samer0) (.seq (.seq (.reg F_rels_Samer1) (.cond (.t 11) (.seq (.reg F_rels_Samer2) .ret) .skip)) (.seq (.seq (.reg F_rels_Samer3) (.block 0 (.loop F_rels_Samel0))) (.seq (.reg F_rels_Samer9) .ret))))
theorem F_rels_Samec_W {T : Tab} {env : Env} {H : Heap} {Q : Post} : W T F_rels_Samec env H Q ↔ W T (.seq (.reg F_rels_Samer0) (.seq (.seq (.reg F_rels_Samer1) (.cond (.t 11) (.seq (.reg F_rels_Samer2) .ret) .skip)) (.seq (.seq (.reg F_rels_Samer3) (.block 0 (.loop F_rels_Samel0))) (.seq (.reg F_rels_Samer9) .ret)))) env H Q := Iff.rfl
def F_rels_Same : IFn := ⟨26, [.tmp 4], F_rels_Samec⟩
set_option maxRecDepth 1000000 in
theorem F_rels_Same_chk : chkF Try.prog 44 F_rels_Same = true := by kernel_rfl

/-! ### ref08_N -/
def F_ref08_Nr0 : List IStmt := [
  ⟨some 6, .mv (.c (.int .u64 0)), none⟩]
theorem F_ref08_Nr0_W {T : Tab} {env : Env} {H : Heap} {Q : Post} : W T (.reg F_ref08_Nr0) env H Q ↔ WR T F_ref08_Nr0 [
  ⟨some 6, .mv (.c (.int .u64 0)), none⟩] env H none [] Q := w_reg
def F_ref08_Nr1 : List IStmt := [
  ⟨some 10, .mv (.t 0), none⟩,
  ⟨some 11, .mv (.t 1), none⟩,
  ⟨some 12, .mv (.t 2), none⟩,
  ⟨some 13, .callc 37 [(.t 10), (.t 11), (.t 12)], none⟩,
  ⟨some 9, .mv (.t 13), none⟩,
  ⟨some 14, .ext (.t 9) 0, none⟩,
  ⟨some 15, .ext (.t 9) 1, none⟩,
  ⟨some 7, .mv (.t 14), none⟩,
  ⟨some 8, .mv (.t 15), none⟩]
theorem F_ref08_Nr1_W {T : Tab} {env : Env} {H : Heap} {Q : Post} : W T (.reg F_ref08_Nr1) env H Q ↔ WR T F_ref08_Nr1 [
  ⟨some 10, .mv (.t 0), none⟩,
  ⟨some 11, .mv (.t 1), none⟩,
  ⟨some 12, .mv (.t 2), none⟩,
  ⟨some 13, .callc 37 [(.t 10), (.t 11), (.t 12)], none⟩,
  ⟨some 9, .mv (.t 13), none⟩,
  ⟨some 14, .ext (.t 9) 0, none⟩,
  ⟨some 15, .ext (.t 9) 1, none⟩,
  ⟨some 7, .mv (.t 14), none⟩,
  ⟨some 8, .mv (.t 15), none⟩] env H none [] Q := w_reg
def F_ref08_Nr2 : List IStmt := [
  ⟨some 16, .mv (.t 7), none⟩,
  ⟨some 6, .mv (.t 16), none⟩]
theorem F_ref08_Nr2_W {T : Tab} {env : Env} {H : Heap} {Q : Post} : W T (.reg F_ref08_Nr2) env H Q ↔ WR T F_ref08_Nr2 [
  ⟨some 16, .mv (.t 7), none⟩,
  ⟨some 6, .mv (.t 16), none⟩] env H none [] Q := w_reg
def F_ref08_Nc : ICode := (.seq (.reg F_ref08_Nr0) (.seq (.reg F_ref08_Nr1) (.seq (.reg F_ref08_Nr2) .ret)))
theorem F_ref08_Nc_W {T : Tab} {env : Env} {H : Heap} {Q : Post} : W T F_ref08_Nc env H Q ↔ W T (.seq (.reg F_ref08_Nr0) (.seq (.reg F_ref08_Nr1) (.seq (.reg F_ref08_Nr2) .ret))) env H Q := Iff.rfl
def F_ref08_N : IFn := ⟨17, [.tmp 6], F_ref08_Nc⟩
set_option maxRecDepth 1000000 in
theorem F_ref08_N_chk : chkF Try.prog 56 F_ref08_N = true := by kernel_rfl

/-! ### ref12_Decode -/
def F_ref12_Decoder0 : List IStmt := [
  ⟨some 4, .mv (.c (.slice none 0 0)), none⟩,
  ⟨some 5, .mv (.c (.int .i64 0)), none⟩]
theorem F_ref12_Decoder0_W {T : Tab} {env : Env} {H : Heap} {Q : Post} : W T (.reg F_ref12_Decoder0) env H Q ↔ WR T F_ref12_Decoder0 [
  ⟨some 4, .mv (.c (.slice none 0 0)), none⟩,
  ⟨some 5, .mv (.c (.int .i64 0)), none⟩] env H none [] Q := w_reg
def F_ref12_Decoder1 : List IStmt := [
  ⟨some 6, .mv (.c (.int .u64 16)), none⟩]
theorem F_ref12_Decoder1_W {T : Tab} {env : Env} {H : Heap} {Q : Post} : W T (.reg F_ref12_Decoder1) env H Q ↔ WR T F_ref12_Decoder1 [
  ⟨some 6, .mv (.c (.int .u64 16)), none⟩] env H none [] Q := w_reg
def F_ref12_Decoder2 : List IStmt := [
  ⟨some 11, .mv (.t 1), none⟩]
theorem F_ref12_Decoder2_W {T : Tab} {env : Env} {H : Heap} {Q : Post} : W T (.reg F_ref12_Decoder2) env H Q ↔ WR T F_ref12_Decoder2 [
  ⟨some 11, .mv (.t 1), none⟩] env H none [] Q := w_reg
def F_ref12_Decoder3 : List IStmt := [
  ⟨some 6, .mv (.c (.int .u64 24)), none⟩]
theorem F_ref12_Decoder3_W {T : Tab} {env : Env} {H : Heap} {Q : Post} : W T (.reg F_ref12_Decoder3) env H Q ↔ WR T F_ref12_Decoder3 [
  ⟨some 6, .mv (.c (.int .u64 24)), none⟩] env H none [] Q := w_reg
def F_ref12_Decoder4 : List IStmt := [
  ⟨some 12, .mv (.t 0), none⟩,
  ⟨some 13, .len 1 (.t 12), none⟩,
  ⟨some 14, .conv .u64 (.t 13), none⟩,
  ⟨some 15, .mv (.t 6), none⟩,
  ⟨some 16, .bin .quo (.t 14) (.t 15), none⟩,
  ⟨some 7, .mv (.t 16), none⟩]
theorem F_ref12_Decoder4_W {T : Tab} {env : Env} {H : Heap} {Q : Post} : W T (.reg F_ref12_Decoder4) env H Q ↔ WR T F_ref12_Decoder4 [
  ⟨some 12, .mv (.t 0), none⟩,
  ⟨some 13, .len 1 (.t 12), none⟩,
  ⟨some 14, .conv .u64 (.t 13), none⟩,
  ⟨some 15, .mv (.t 6), none⟩,
  ⟨some 16, .bin .quo (.t 14) (.t 15), none⟩,
  ⟨some 7, .mv (.t 16), none⟩] env H none [] Q := w_reg
def F_ref12_Decoder5 : List IStmt := [
  ⟨some 17, .mv (.t 7), none⟩,
  ⟨some 18, .mv (.t 6), none⟩,
  ⟨some 19, .bin .mul (.t 17) (.t 18), none⟩,
  ⟨some 20, .mv (.t 0), none⟩,
  ⟨some 21, .len 1 (.t 20), none⟩,
  ⟨some 22, .conv .u64 (.t 21), none⟩,
  ⟨some 23, .bin .neq (.t 19) (.t 22), none⟩,
  ⟨some 24, .mv (.t 23), none⟩,
  ⟨some 25, .mv (.t 7), some (7, false)⟩,
  ⟨some 26, .bin .gtr (.t 25) (.c (.int .u64 512)), some (7, false)⟩,
  ⟨some 27, .pick (.t 24) (.c (.bool true)) (.t 26), none⟩]
theorem F_ref12_Decoder5_W {T : Tab} {env : Env} {H : Heap} {Q : Post} : W T (.reg F_ref12_Decoder5) env H Q ↔ WR T F_ref12_Decoder5 [
  ⟨some 17, .mv (.t 7), none⟩,
  ⟨some 18, .mv (.t 6), none⟩,
  ⟨some 19, .bin .mul (.t 17) (.t 18), none⟩,
  ⟨some 20, .mv (.t 0), none⟩,
  ⟨some 21, .len 1 (.t 20), none⟩,
  ⟨some 22, .conv .u64 (.t 21), none⟩,
  ⟨some 23, .bin .neq (.t 19) (.t 22), none⟩,
  ⟨some 24, .mv (.t 23), none⟩,
  ⟨some 25, .mv (.t 7), some (7, false)⟩,
  ⟨some 26, .bin .gtr (.t 25) (.c (.int .u64 512)), some (7, false)⟩,
  ⟨some 27, .pick (.t 24) (.c (.bool true)) (.t 26), none⟩] env H none [] Q := w_reg
theorem F_ref12_Decoder5_g7 {env : Env} : yieldI F_ref12_Decoder5 env 7 = bOf (env 24) := rfl
def F_ref12_Decoder6 : List IStmt := [
  ⟨some 4, .mv (.c (.slice none 0 0)), none⟩,
  ⟨some 5, .mv (.c (.int .i64 120)), none⟩]
theorem F_ref12_Decoder6_W {T : Tab} {env : Env} {H : Heap} {Q : Post} : W T (.reg F_ref12_Decoder6) env H Q ↔ WR T F_ref12_Decoder6 [
  ⟨some 4, .mv (.c (.slice none 0 0)), none⟩,
  ⟨some 5, .mv (.c (.int .i64 120)), none⟩] env H none [] Q := w_reg
def F_ref12_Decoder7 : List IStmt := [
  ⟨some 8, .mv (.c (.slice none 0 0)), none⟩]
theorem F_ref12_Decoder7_W {T : Tab} {env : Env} {H : Heap} {Q : Post} : W T (.reg F_ref12_Decoder7) env H Q ↔ WR T F_ref12_Decoder7 [
  ⟨some 8, .mv (.c (.slice none 0 0)), none⟩] env H none [] Q := w_reg
def F_ref12_Decoder8 : List IStmt := [
  ⟨some 9, .mv (.c (.int .u64 0)), none⟩]
theorem F_ref12_Decoder8_W {T : Tab} {env : Env} {H : Heap} {Q : Post} : W T (.reg F_ref12_Decoder8) env H Q ↔ WR T F_ref12_Decoder8 [
  ⟨some 9, .mv (.c (.int .u64 0)), none⟩] env H none [] Q := w_reg
def F_ref12_Decoder9 : List IStmt := [
  ⟨some 28, .mv (.t 9), none⟩,
  ⟨some 29, .mv (.t 7), none⟩,
  ⟨some 30, .bin .lss (.t 28) (.t 29), none⟩]
theorem F_ref12_Decoder9_W {T : Tab} {env : Env} {H : Heap} {Q : Post} : W T (.reg F_ref12_Decoder9) env H Q ↔ WR T F_ref12_Decoder9 [
  ⟨some 28, .mv (.t 9), none⟩,
  ⟨some 29, .mv (.t 7), none⟩,
  ⟨some 30, .bin .lss (.t 28) (.t 29), none⟩] env H none [] Q := w_reg
def F_ref12_Decoder11 : List IStmt := [
  ⟨some 33, .mv (.t 0), none⟩,
  ⟨some 34, .mv (.t 9), none⟩,
  ⟨some 35, .mv (.t 6), none⟩,
  ⟨some 36, .bin .mul (.t 34) (.t 35), none⟩,
  ⟨some 37, .callc 56 [(.t 33), (.t 36), (.c (.int .i64 8))], none⟩,
  ⟨some 38, .mv (.t 0), none⟩,
  ⟨some 39, .mv (.t 9), none⟩,
  ⟨some 40, .mv (.t 6), none⟩,
  ⟨some 41, .bin .mul (.t 39) (.t 40), none⟩,
  ⟨some 42, .bin .add (.t 41) (.c (.int .u64 8)), none⟩,
  ⟨some 43, .callc 56 [(.t 38), (.t 42), (.c (.int .i64 4))], none⟩,
  ⟨some 44, .conv .u32 (.t 43), none⟩,
  ⟨some 45, .mv (.t 0), none⟩,
  ⟨some 46, .mv (.t 9), none⟩,
  ⟨some 47, .mv (.t 6), none⟩,
  ⟨some 48, .bin .mul (.t 46) (.t 47), none⟩,
  ⟨some 49, .bin .add (.t 48) (.c (.int .u64 12)), none⟩,
  ⟨some 50, .callc 56 [(.t 45), (.t 49), (.c (.int .i64 4))], none⟩,
  ⟨some 51, .conv .u32 (.t 50), none⟩,
  ⟨some 52, .mv (.t 1), none⟩,
  ⟨some 53, .bld [.int .u64 0, .int .u32 0, .int .u32 0, .int .i64 0, .bool false] [(0, 1, (.t 37)), (1, 1, (.t 44)), (2, 1, (.t 51)), (4, 1, (.t 52))], none⟩,
  ⟨some 10, .alloc 5 [.int .u64 0, .int .u32 0, .int .u32 0, .int .i64 0, .bool false], none⟩,
  ⟨none, .store 5 (.t 10) (.t 53), none⟩]
theorem F_ref12_Decoder11_W {T : Tab} {env : Env} {H : Heap} {Q : Post} : W T (.reg F_ref12_Decoder11) env H Q ↔ WR T F_ref12_Decoder11 [
  ⟨some 33, .mv (.t 0), none⟩,
  ⟨some 34, .mv (.t 9), none⟩,
  ⟨some 35, .mv (.t 6), none⟩,
  ⟨some 36, .bin .mul (.t 34) (.t 35), none⟩,
  ⟨some 37, .callc 56 [(.t 33), (.t 36), (.c (.int .i64 8))], none⟩,
  ⟨some 38, .mv (.t 0), none⟩,
  ⟨some 39, .mv (.t 9), none⟩,
  ⟨some 40, .mv (.t 6), none⟩,
  ⟨some 41, .bin .mul (.t 39) (.t 40), none⟩,
  ⟨some 42, .bin .add (.t 41) (.c (.int .u64 8)), none⟩,
  ⟨some 43, .callc 56 [(.t 38), (.t 42), (.c (.int .i64 4))], none⟩,
  ⟨some 44, .conv .u32 (.t 43), none⟩,
  ⟨some 45, .mv (.t 0), none⟩,
  ⟨some 46, .mv (.t 9), none⟩,
  ⟨some 47, .mv (.t 6), none⟩,
  ⟨some 48, .bin .mul (.t 46) (.t 47), none⟩,
  ⟨some 49, .bin .add (.t 48) (.c (.int .u64 12)), none⟩,
  ⟨some 50, .callc 56 [(.t 45), (.t 49), (.c (.int .i64 4))], none⟩,
  ⟨some 51, .conv .u32 (.t 50), none⟩,
  ⟨some 52, .mv (.t 1), none⟩,
  ⟨some 53, .bld [.int .u64 0, .int .u32 0, .int .u32 0, .int .i64 0, .bool false] [(0, 1, (.t 37)), (1, 1, (.t 44)), (2, 1, (.t 51)), (4, 1, (.t 52))], none⟩,
  ⟨some 10, .alloc 5 [.int .u64 0, .int .u32 0, .int .u32 0, .int .i64 0, .bool false], none⟩,
  ⟨none, .store 5 (.t 10) (.t 53), none⟩] env H none [] Q := w_reg
def F_ref12_Decoder12 : List IStmt := [
  ⟨some 54, .mv (.t 1), none⟩]
theorem F_ref12_Decoder12_W {T : Tab} {env : Env} {H : Heap} {Q : Post} : W T (.reg F_ref12_Decoder12) env H Q ↔ WR T F_ref12_Decoder12 [
  ⟨some 54, .mv (.t 1), none⟩] env H none [] Q := w_reg
def F_ref12_Decoder13 : List IStmt := [
  ⟨some 55, .mv (.t 0), none⟩,
  ⟨some 56, .mv (.t 9), none⟩,
  ⟨some 57, .mv (.t 6), none⟩,
  ⟨some 58, .bin .mul (.t 56) (.t 57), none⟩,
  ⟨some 59, .bin .add (.t 58) (.c (.int .u64 16)), none⟩,
  ⟨some 60, .callc 56 [(.t 55), (.t 59), (.c (.int .i64 8))], none⟩,
  ⟨some 61, .conv .i64 (.t 60), none⟩,
  ⟨some 62, .fa 3 (.t 10), none⟩,
  ⟨none, .store 1 (.t 62) (.t 61), none⟩]
theorem F_ref12_Decoder13_W {T : Tab} {env : Env} {H : Heap} {Q : Post} : W T (.reg F_ref12_Decoder13) env H Q ↔ WR T F_ref12_Decoder13 [
  ⟨some 55, .mv (.t 0), none⟩,
  ⟨some 56, .mv (.t 9), none⟩,
  ⟨some 57, .mv (.t 6), none⟩,
  ⟨some 58, .bin .mul (.t 56) (.t 57), none⟩,
  ⟨some 59, .bin .add (.t 58) (.c (.int .u64 16)), none⟩,
  ⟨some 60, .callc 56 [(.t 55), (.t 59), (.c (.int .i64 8))], none⟩,
  ⟨some 61, .conv .i64 (.t 60), none⟩,
  ⟨some 62, .fa 3 (.t 10), none⟩,
  ⟨none, .store 1 (.t 62) (.t 61), none⟩] env H none [] Q := w_reg
def F_ref12_Decoder14 : List IStmt := [
  ⟨some 63, .mv (.t 8), none⟩,
  ⟨some 64, .loadN 5 (.t 10), none⟩,
  ⟨some 65, .bsli 5 1 [.int .u64 0, .int .u32 0, .int .u32 0, .int .i64 0, .bool false] [(0, (.t 64))], none⟩,
  ⟨some 66, .app 5 32 (.t 63) (.t 65), none⟩,
  ⟨some 8, .mv (.t 66), none⟩]
theorem F_ref12_Decoder14_W {T : Tab} {env : Env} {H : Heap} {Q : Post} : W T (.reg F_ref12_Decoder14) env H Q ↔ WR T F_ref12_Decoder14 [
  ⟨some 63, .mv (.t 8), none⟩,
  ⟨some 64, .loadN 5 (.t 10), none⟩,
  ⟨some 65, .bsli 5 1 [.int .u64 0, .int .u32 0, .int .u32 0, .int .i64 0, .bool false] [(0, (.t 64))], none⟩,
  ⟨some 66, .app 5 32 (.t 63) (.t 65), none⟩,
  ⟨some 8, .mv (.t 66), none⟩] env H none [] Q := w_reg
def F_ref12_Decoder10 : List IStmt := [
  ⟨some 31, .mv (.t 9), none⟩,
  ⟨some 32, .bin .add (.t 31) (.c (.int .u64 1)), none⟩,
  ⟨some 9, .mv (.t 32), none⟩]
theorem F_ref12_Decoder10_W {T : Tab} {env : Env} {H : Heap} {Q : Post} : W T (.reg F_ref12_Decoder10) env H Q ↔ WR T F_ref12_Decoder10 [
  ⟨some 31, .mv (.t 9), none⟩,
  ⟨some 32, .bin .add (.t 31) (.c (.int .u64 1)), none⟩,
  ⟨some 9, .mv (.t 32), none⟩] env H none [] Q := w_reg
def F_ref12_Decodel0 : ICode := (.seq (.seq (.reg F_ref12_Decoder9) (.cond (.t 30) .skip (.exit 0))) (.seq (.block 1 (.seq (.reg F_ref12_Decoder11) (.seq (.seq (.reg F_ref12_Decoder12) (.cond (.t 54) (.reg F_ref12_Decoder13) .skip)) (.reg F_ref12_Decoder14)))) (.reg F_ref12_Decoder10)))
theorem F_ref12_Decodel0_W {T : Tab} {env : Env} {H : Heap} {Q : Post} : W T F_ref12_Decodel0 env H Q ↔ W T (.seq (.seq (.reg F_ref12_Decoder9) (.cond (.t 30) .skip (.exit 0))) (.seq (.block 1 (.seq (.reg F_ref12_Decoder11) (.seq (.seq (.reg F_ref12_Decoder12) (.cond (.t 54) (.reg F_ref12_Decoder13) .skip)) (.reg F_ref12_Decoder14)))) (.reg F_ref12_Decoder10))) env H Q := Iff.rfl
def F_ref12_Decoder15 : List IStmt := [
  ⟨some 67, .mv (.t 8), none⟩,
  ⟨some 4, .mv (.t 67), none⟩,
  ⟨some 5, .mv (.c (.int .i64 0)), none⟩]
theorem F_ref12_Decoder15_W {T : Tab} {env : Env} {H : Heap} {Q : Post} : W T (.reg F_ref12_Decoder15) env H Q ↔ WR T F_ref12_Decoder15 [
  ⟨some 67, .mv (.t 8), none⟩,
  ⟨some 4, .mv (.t 67), none⟩,
  ⟨some 5, .mv (.c (.int .i64 0)), none⟩] env H none [] Q := w_reg
def F_ref12_Decodec : ICode := (.seq (.reg F_ref12_Decoder0) (.seq (.reg F_ref12_Decoder1) (.seq (.seq (.reg F_ref12_Decoder2) (.cond (.t 11) (.reg F_ref12_Decoder3) .skip)) (.seq (.reg F_ref12_Decoder4) (.seq (.seq (.reg F_ref12_Decoder5) (.cond (.t 27) (.seq (.reg F_ref12_Decoder6) .ret) .skip)) (.seq (.reg F_ref12_Decoder7) (.seq (.seq (.reg F_ref12_Decoder8) (.block 0 (.loop F_ref12_Decodel0))) (.seq (.reg F_ref12_Decoder15) .ret))))))))
theorem F_ref12_Decodec_W {T : Tab} {env : Env} {H : Heap} {Q : Post} : W T F_ref12_Decodec env H Q ↔ W T (.seq (.reg F_ref12_Decoder0) (.seq (.reg F_ref12_Decoder1) (.seq (.seq (.reg F_ref12_Decoder2) (.cond (.t 11) (.reg F_ref12_Decoder3) .skip)) (.seq (.reg F_ref12_Decoder4) (.seq (.seq (.reg F_ref12_Decoder5) (.cond (.t 27) (.seq (.reg F_ref12_Decoder6) .ret) .skip)) (.seq (.reg F_ref12_Decoder7) (.seq (.seq (.reg F_ref12_Decoder8) (.block 0 (.loop F_ref12_Decodel0))) (.seq (.reg F_ref12_Decoder15) .ret)))))))) env H Q := Iff.rfl
def F_ref12_Decode : IFn := ⟨68, [.tmp 4, .tmp 5], F_ref12_Decodec⟩
set_option maxRecDepth 1000000 in
theorem F_ref12_Decode_chk : chkF Try.prog 43 F_ref12_Decode = true := by kernel_rfl

/-! ### ref12_Encode -/
def F_ref12_Encoder0 : List IStmt := [
  ⟨some 4, .mv (.c (.slice none 0 0)), none⟩,
  ⟨some 5, .mv (.c (.int .i64 0)), none⟩]
theorem F_ref12_Encoder0_W {T : Tab} {env : Env} {H : Heap} {Q : Post} : W T (.reg F_ref12_Encoder0) env H Q ↔ WR T F_ref12_Encoder0 [
  ⟨some 4, .mv (.c (.slice none 0 0)), none⟩,
  ⟨some 5, .mv (.c (.int .i64 0)), none⟩] env H none [] Q := w_reg
def F_ref12_Encoder1 : List IStmt := [
  ⟨some 9, .mv (.t 0), none⟩,
  ⟨some 10, .len 1 (.t 9), none⟩,
  ⟨some 11, .bin .gtr (.t 10) (.c (.int .i64 512)), none⟩]
theorem F_ref12_Encoder1_W {T : Tab} {env : Env} {H : Heap} {Q : Post} : W T (.reg F_ref12_Encoder1) env H Q ↔ WR T F_ref12_Encoder1 [
  ⟨some 9, .mv (.t 0), none⟩,
  ⟨some 10, .len 1 (.t 9), none⟩,
  ⟨some 11, .bin .gtr (.t 10) (.c (.int .i64 512)), none⟩] env H none [] Q := w_reg
def F_ref12_Encoder2 : List IStmt := [
  ⟨some 4, .mv (.c (.slice none 0 0)), none⟩,
  ⟨some 5, .mv (.c (.int .i64 120)), none⟩]
theorem F_ref12_Encoder2_W {T : Tab} {env : Env} {H : Heap} {Q : Post} : W T (.reg F_ref12_Encoder2) env H Q ↔ WR T F_ref12_Encoder2 [
  ⟨some 4, .mv (.c (.slice none 0 0)), none⟩,
  ⟨some 5, .mv (.c (.int .i64 120)), none⟩] env H none [] Q := w_reg
def F_ref12_Encoder3 : List IStmt := [
  ⟨some 6, .mv (.c (.slice none 0 0)), none⟩]
theorem F_ref12_Encoder3_W {T : Tab} {env : Env} {H : Heap} {Q : Post} : W T (.reg F_ref12_Encoder3) env H Q ↔ WR T F_ref12_Encoder3 [
  ⟨some 6, .mv (.c (.slice none 0 0)), none⟩] env H none [] Q := w_reg
def F_ref12_Encoder4 : List IStmt := [
  ⟨some 7, .mv (.c (.int .i64 0)), none⟩]
theorem F_ref12_Encoder4_W {T : Tab} {env : Env} {H : Heap} {Q : Post} : W T (.reg F_ref12_Encoder4) env H Q ↔ WR T F_ref12_Encoder4 [
  ⟨some 7, .mv (.c (.int .i64 0)), none⟩] env H none [] Q := w_reg
def F_ref12_Encoder5 : List IStmt := [
  ⟨some 12, .mv (.t 7), none⟩,
  ⟨some 13, .mv (.t 0), none⟩,
  ⟨some 14, .len 1 (.t 13), none⟩,
  ⟨some 15, .bin .lss (.t 12) (.t 14), none⟩]
theorem F_ref12_Encoder5_W {T : Tab} {env : Env} {H : Heap} {Q : Post} : W T (.reg F_ref12_Encoder5) env H Q ↔ WR T F_ref12_Encoder5 [
  ⟨some 12, .mv (.t 7), none⟩,
  ⟨some 13, .mv (.t 0), none⟩,
  ⟨some 14, .len 1 (.t 13), none⟩,
  ⟨some 15, .bin .lss (.t 12) (.t 14), none⟩] env H none [] Q := w_reg
def F_ref12_Encoder7 : List IStmt := [
  ⟨some 18, .mv (.t 0), none⟩,
  ⟨some 19, .mv (.t 7), none⟩,
  ⟨some 20, .ixa 5 (.t 18) (.t 19), none⟩,
  ⟨some 21, .loadN 5 (.t 20), none⟩,
  ⟨some 8, .alloc 5 [.int .u64 0, .int .u32 0, .int .u32 0, .int .i64 0, .bool false], none⟩,
  ⟨none, .store 5 (.t 8) (.t 21), none⟩]
theorem F_ref12_Encoder7_W {T : Tab} {env : Env} {H : Heap} {Q : Post} : W T (.reg F_ref12_Encoder7) env H Q ↔ WR T F_ref12_Encoder7 [
  ⟨some 18, .mv (.t 0), none⟩,
  ⟨some 19, .mv (.t 7), none⟩,
  ⟨some 20, .ixa 5 (.t 18) (.t 19), none⟩,
  ⟨some 21, .loadN 5 (.t 20), none⟩,
  ⟨some 8, .alloc 5 [.int .u64 0, .int .u32 0, .int .u32 0, .int .i64 0, .bool false], none⟩,
  ⟨none, .store 5 (.t 8) (.t 21), none⟩] env H none [] Q := w_reg
def F_ref12_Encoder8 : List IStmt := [
  ⟨some 22, .fa 4 (.t 8), none⟩,
  ⟨some 23, .load (.t 22), none⟩,
  ⟨some 24, .mv (.t 1), none⟩,
  ⟨some 25, .eqb true (.t 23) (.t 24), none⟩,
  ⟨some 26, .mv (.t 25), none⟩,
  ⟨some 27, .fa 3 (.t 8), some (4, false)⟩,
  ⟨some 28, .load (.t 27), some (4, false)⟩,
  ⟨some 29, .bin .neq (.t 28) (.c (.int .i64 0)), some (4, false)⟩,
  ⟨some 30, .mv (.t 29), some (4, false)⟩,
  ⟨some 31, .mv (.t 1), some (8, true)⟩,
  ⟨some 32, .un .not (.t 31), some (8, true)⟩,
  ⟨some 33, .pick (.t 30) (.t 32) (.c (.bool false)), some (4, false)⟩,
  ⟨some 34, .pick (.t 26) (.c (.bool true)) (.t 33), none⟩]
theorem F_ref12_Encoder8_W {T : Tab} {env : Env} {H : Heap} {Q : Post} : W T (.reg F_ref12_Encoder8) env H Q ↔ WR T F_ref12_Encoder8 [
  ⟨some 22, .fa 4 (.t 8), none⟩,
  ⟨some 23, .load (.t 22), none⟩,
  ⟨some 24, .mv (.t 1), none⟩,
  ⟨some 25, .eqb true (.t 23) (.t 24), none⟩,
  ⟨some 26, .mv (.t 25), none⟩,
  ⟨some 27, .fa 3 (.t 8), some (4, false)⟩,
  ⟨some 28, .load (.t 27), some (4, false)⟩,
  ⟨some 29, .bin .neq (.t 28) (.c (.int .i64 0)), some (4, false)⟩,
  ⟨some 30, .mv (.t 29), some (4, false)⟩,
  ⟨some 31, .mv (.t 1), some (8, true)⟩,
  ⟨some 32, .un .not (.t 31), some (8, true)⟩,
  ⟨some 33, .pick (.t 30) (.t 32) (.c (.bool false)), some (4, false)⟩,
  ⟨some 34, .pick (.t 26) (.c (.bool true)) (.t 33), none⟩] env H none [] Q := w_reg
theorem F_ref12_Encoder8_g4 {env : Env} : yieldI F_ref12_Encoder8 env 4 = bOf (env 26) := rfl
theorem F_ref12_Encoder8_g8 {env : Env} : yieldI F_ref12_Encoder8 env 8 = bOf (env 30) := rfl
def F_ref12_Encoder9 : List IStmt := [
  ⟨some 4, .mv (.c (.slice none 0 0)), none⟩,
  ⟨some 5, .mv (.c (.int .i64 120)), none⟩]
theorem F_ref12_Encoder9_W {T : Tab} {env : Env} {H : Heap} {Q : Post} : W T (.reg F_ref12_Encoder9) env H Q ↔ WR T F_ref12_Encoder9 [
  ⟨some 4, .mv (.c (.slice none 0 0)), none⟩,
  ⟨some 5, .mv (.c (.int .i64 120)), none⟩] env H none [] Q := w_reg
def F_ref12_Encoder10 : List IStmt := [
  ⟨some 35, .mv (.t 6), none⟩,
  ⟨some 36, .fa 0 (.t 8), none⟩,
  ⟨some 37, .load (.t 36), none⟩,
  ⟨some 38, .call 39 [(.t 35), (.t 37), (.c (.int .i64 8))], none⟩,
  ⟨some 6, .mv (.t 38), none⟩]
theorem F_ref12_Encoder10_W {T : Tab} {env : Env} {H : Heap} {Q : Post} : W T (.reg F_ref12_Encoder10) env H Q ↔ WR T F_ref12_Encoder10 [
  ⟨some 35, .mv (.t 6), none⟩,
  ⟨some 36, .fa 0 (.t 8), none⟩,
  ⟨some 37, .load (.t 36), none⟩,
  ⟨some 38, .call 39 [(.t 35), (.t 37), (.c (.int .i64 8))], none⟩,
  ⟨some 6, .mv (.t 38), none⟩] env H none [] Q := w_reg
def F_ref12_Encoder11 : List IStmt := [
  ⟨some 39, .mv (.t 6), none⟩,
  ⟨some 40, .fa 1 (.t 8), none⟩,
  ⟨some 41, .load (.t 40), none⟩,
  ⟨some 42, .conv .u64 (.t 41), none⟩,
  ⟨some 43, .call 39 [(.t 39), (.t 42), (.c (.int .i64 4))], none⟩,
  ⟨some 6, .mv (.t 43), none⟩]
theorem F_ref12_Encoder11_W {T : Tab} {env : Env} {H : Heap} {Q : Post} : W T (.reg F_ref12_Encoder11) env H Q ↔ WR T F_ref12_Encoder11 [
  ⟨some 39, .mv (.t 6), none⟩,
  ⟨some 40, .fa 1 (.t 8), none⟩,
  ⟨some 41, .load (.t 40), none⟩,
  ⟨some 42, .conv .u64 (.t 41), none⟩,
  ⟨some 43, .call 39 [(.t 39), (.t 42), (.c (.int .i64 4))], none⟩,
  ⟨some 6, .mv (.t 43), none⟩] env H none [] Q := w_reg
def F_ref12_Encoder12 : List IStmt := [
  ⟨some 44, .mv (.t 6), none⟩,
  ⟨some 45, .fa 2 (.t 8), none⟩,
  ⟨some 46, .load (.t 45), none⟩,
  ⟨some 47, .conv .u64 (.t 46), none⟩,
  ⟨some 48, .call 39 [(.t 44), (.t 47), (.c (.int .i64 4))], none⟩,
  ⟨some 6, .mv (.t 48), none⟩]
theorem F_ref12_Encoder12_W {T : Tab} {env : Env} {H : Heap} {Q : Post} : W T (.reg F_ref12_Encoder12) env H Q ↔ WR T F_ref12_Encoder12 [
  ⟨some 44, .mv (.t 6), none⟩,
  ⟨some 45, .fa 2 (.t 8), none⟩,
  ⟨some 46, .load (.t 45), none⟩,
  ⟨some 47, .conv .u64 (.t 46), none⟩,
  ⟨some 48, .call 39 [(.t 44), (.t 47), (.c (.int .i64 4))], none⟩,
  ⟨some 6, .mv (.t 48), none⟩] env H none [] Q := w_reg
def F_ref12_Encoder13 : List IStmt := [
  ⟨some 49, .mv (.t 1), none⟩]
theorem F_ref12_Encoder13_W {T : Tab} {env : Env} {H : Heap} {Q : Post} : W T (.reg F_ref12_Encoder13) env H Q ↔ WR T F_ref12_Encoder13 [
  ⟨some 49, .mv (.t 1), none⟩] env H none [] Q := w_reg
def F_ref12_Encoder14 : List IStmt := [
  ⟨some 50, .mv (.t 6), none⟩,
  ⟨some 51, .fa 3 (.t 8), none⟩,
  ⟨some 52, .load (.t 51), none⟩,
  ⟨some 53, .conv .u64 (.t 52), none⟩,
  ⟨some 54, .call 39 [(.t 50), (.t 53), (.c (.int .i64 8))], none⟩,
  ⟨some 6, .mv (.t 54), none⟩]
theorem F_ref12_Encoder14_W {T : Tab} {env : Env} {H : Heap} {Q : Post} : W T (.reg F_ref12_Encoder14) env H Q ↔ WR T F_ref12_Encoder14 [
  ⟨some 50, .mv (.t 6), none⟩,
  ⟨some 51, .fa 3 (.t 8), none⟩,
  ⟨some 52, .load (.t 51), none⟩,
  ⟨some 53, .conv .u64 (.t 52), none⟩,
  ⟨some 54, .call 39 [(.t 50), (.t 53), (.c (.int .i64 8))], none⟩,
  ⟨some 6, .mv (.t 54), none⟩] env H none [] Q := w_reg
def F_ref12_Encoder6 : List IStmt := [
  ⟨some 16, .mv (.t 7), none⟩,
  ⟨some 17, .bin .add (.t 16) (.c (.int .i64 1)), none⟩,
  ⟨some 7, .mv (.t 17), none⟩]
theorem F_ref12_Encoder6_W {T : Tab} {env : Env} {H : Heap} {Q : Post} : W T (.reg F_ref12_Encoder6) env H Q ↔ WR T F_ref12_Encoder6 [
  ⟨some 16, .mv (.t 7), none⟩,
  ⟨some 17, .bin .add (.t 16) (.c (.int .i64 1)), none⟩,
  ⟨some 7, .mv (.t 17), none⟩] env H none [] Q := w_reg
def F_ref12_Encodel0 : ICode := (.seq (.seq (.reg F_ref12_Encoder5) (.cond (.t 15) .skip (.exit 0))) (.seq (.block 1 (.seq (.reg F_ref12_Encoder7) (.seq (.seq (.reg F_ref12_Encoder8) (.cond (.t 34) (.seq (.reg F_ref12_Encoder9) .ret) .skip)) (.seq (.reg F_ref12_Encoder10) (.seq (.reg F_ref12_Encoder11) (.seq (.reg F_ref12_Encoder12) (.seq (.reg F_ref12_Encoder13) (.cond (.t 49) (.reg F_ref12_Encoder14) .skip)))))))) (.reg F_ref12_Encoder6)))
theorem F_ref12_Encodel0_W {T : Tab} {env : Env} {H : Heap} {Q : Post} : W T F_ref12_Encodel0 env H Q ↔ W T (.seq (.seq (.reg F_ref12_Encoder5) (.cond (.t 15) .skip (.exit 0))) (.seq (.block 1 (.seq (.reg F_ref12_Encoder7) (.seq (.seq (.reg F_ref12_Encoder8) (.cond (.t 34) (.seq (.reg F_ref12_Encoder9) .ret) .skip)) (.seq (.reg F_ref12_Encoder10) (.seq (.reg F_ref12_Encoder11) (.seq (.reg F_ref12_Encoder12) (.seq (.reg F_ref12_Encoder13) (.cond (.t 49) (.reg F_ref12_Encoder14) .skip)))))))) (.reg F_ref12_Encoder6))) env H Q := Iff.rfl
def F_ref12_Encoder15 : List IStmt := [
  ⟨some 55, .mv (.t 6), none⟩,
  ⟨some 4, .mv (.t 55), none⟩,
  ⟨some 5, .mv (.c (.int .i64 0)), none⟩]
theorem F_ref12_Encoder15_W {T : Tab} {env : Env} {H : Heap} {Q : Post} : W T (.reg F_ref12_Encoder15) env H Q ↔ WR T F_ref12_Encoder15 [
  ⟨some 55, .mv (.t 6), none⟩,
  ⟨some 4, .mv (.t 55), none⟩,
  ⟨some 5, .mv (.c (.int .i64 0)), none⟩] env H none [] Q := w_reg
def F_ref12_Encodec : ICode := (.seq (.reg F_ref12_Encoder0) (.seq (.seq (.reg F_ref12_Encoder1) (.cond (.t 11) (.seq (.reg F_ref12_Encoder2) .ret) .skip)) (.seq (.reg F_ref12_Encoder3) (.seq (.seq (.reg F_ref12_Encoder4) (.block 0 (.loop F_ref12_Encodel0))) (.seq (.reg F_ref12_Encoder15) .ret)))))
theorem F_ref12_Encodec_W {T : Tab} {env : Env} {H : Heap} {Q : Post} : W T F_ref12_Encodec env H Q ↔ W T (.seq (.reg F_ref12_Encoder0) (.seq (.seq (.reg F_ref12_Encoder1) (.cond (.t 11) (.seq (.reg F_ref12_Encoder2) .ret) .skip)) (.seq (.reg F_ref12_Encoder3) (.seq (.seq (.reg F_ref12_Encoder4) (.block 0 (.loop F_ref12_Encodel0))) (.seq (.reg F_ref12_Encoder15) .ret))))) env H Q := Iff.rfl
def F_ref12_Encode : IFn := ⟨56, [.tmp 4, .tmp 5], F_ref12_Encodec⟩
set_option maxRecDepth 1000000 in
theorem F_ref12_Encode_chk : chkF Try.prog 45 F_ref12_Encode = true := by kernel_rfl

/-! ### ref12_Same -/
def F_ref12_Samer0 : List IStmt := [
  ⟨some 4, .mv (.c (.bool false)), none⟩]
theorem F_ref12_Samer0_W {T : Tab} {env : Env} {H : Heap} {Q : Post} : W T (.reg F_ref12_Samer0) env H Q ↔ WR T F_ref12_Samer0 [
  ⟨some 4, .mv (.c (.bool false)), none⟩] env H none [] Q := w_reg
def F_ref12_Samer1 : List IStmt := [
  ⟨some 6, .mv (.t 0), none⟩,
  ⟨some 7, .len 1 (.t 6), none⟩,
  ⟨some 8, .mv (.t 1), none⟩,
  ⟨some 9, .len 1 (.t 8), none⟩,
  ⟨some 10, .bin .neq (.t 7) (.t 9), none⟩]
theorem F_ref12_Samer1_W {T : Tab} {env : Env} {H : Heap} {Q : Post} : W T (.reg F_ref12_Samer1) env H Q ↔ WR T F_ref12_Samer1 [
  ⟨some 6, .mv (.t 0), none⟩,
  ⟨some 7, .len 1 (.t 6), none⟩,
  ⟨some 8, .mv (.t 1), none⟩,
  ⟨some 9, .len 1 (.t 8), none⟩,
  ⟨some 10, .bin .neq (.t 7) (.t 9), none⟩] env H none [] Q := w_reg
def F_ref12_Samer2 : List IStmt := [
  ⟨some 4, .mv (.c (.bool false)), none⟩]
theorem F_ref12_Samer2_W {T : Tab} {env : Env} {H : Heap} {Q : Post} : W T (.reg F_ref12_Samer2) env H Q ↔ WR T F_ref12_Samer2 [
  ⟨some 4, .mv (.c (.bool false)), none⟩] env H none [] Q := w_reg
def F_ref12_Samer3 : List IStmt := [
  ⟨some 5, .mv (.c (.int .i64 0)), none⟩]
theorem F_ref12_Samer3_W {T : Tab} {env : Env} {H : Heap} {Q : Post} : W T (.reg F_ref12_Samer3) env H Q ↔ WR T F_ref12_Samer3 [
  ⟨some 5, .mv (.c (.int .i64 0)), none⟩] env H none [] Q := w_reg
def F_ref12_Samer4 : List IStmt := [
  ⟨some 11, .mv (.t 5), none⟩,
  ⟨some 12, .mv (.t 0), none⟩,
  ⟨some 13, .len 1 (.t 12), none⟩,
  ⟨some 14, .bin .lss (.t 11) (.t 13), none⟩]
theorem F_ref12_Samer4_W {T : Tab} {env : Env} {H : Heap} {Q : Post} : W T (.reg F_ref12_Samer4) env H Q ↔ WR T F_ref12_Samer4 [
  ⟨some 11, .mv (.t 5), none⟩,
  ⟨some 12, .mv (.t 0), none⟩,
  ⟨some 13, .len 1 (.t 12), none⟩,
  ⟨some 14, .bin .lss (.t 11) (.t 13), none⟩] env H none [] Q := w_reg
def F_ref12_Samer6 : List IStmt := [
  ⟨some 17, .mv (.t 0), none⟩,
  ⟨some 18, .mv (.t 5), none⟩,
  ⟨some 19, .ixa 5 (.t 17) (.t 18), none⟩,
  ⟨some 20, .loadN 5 (.t 19), none⟩,
  ⟨some 21, .mv (.t 1), none⟩,
  ⟨some 22, .mv (.t 5), none⟩,
  ⟨some 23, .ixa 5 (.t 21) (.t 22), none⟩,
  ⟨some 24, .loadN 5 (.t 23), none⟩,
  ⟨some 25, .eqs [0, 0, 0, 0, 1] true (.t 20) (.t 24), none⟩]
theorem F_ref12_Samer6_W {T : Tab} {env : Env} {H : Heap} {Q : Post} : W T (.dreg F_ref12_Samer6 []) env H Q ↔ WR T F_ref12_Samer6 [
  ⟨some 17, .mv (.t 0), none⟩,
  ⟨some 18, .mv (.t 5), none⟩,
  ⟨some 19, .ixa 5 (.t 17) (.t 18), none⟩,
  ⟨some 20, .loadN 5 (.t 19), none⟩,
  ⟨some 21, .mv (.t 1), none⟩,
  ⟨some 22, .mv (.t 5), none⟩,
  ⟨some 23, .ixa 5 (.t 21) (.t 22), none⟩,
  ⟨some 24, .loadN 5 (.t 23), none⟩,
  ⟨some 25, .eqs [0, 0, 0, 0, 1] true (.t 20) (.t 24), none⟩] env H none [] Q := w_dreg0
def F_ref12_Samer7 : List IStmt := [
  ⟨some 4, .mv (.c (.bool false)), none⟩]
theorem F_ref12_Samer7_W {T : Tab} {env : Env} {H : Heap} {Q : Post} : W T (.reg F_ref12_Samer7) env H Q ↔ WR T F_ref12_Samer7 [
  ⟨some 4, .mv (.c (.bool false)), none⟩] env H none [] Q := w_reg
def F_ref12_Samer5 : List IStmt := [
  ⟨some 15, .mv (.t 5), none⟩,
  ⟨some 16, .bin .add (.t 15) (.c (.int .i64 1)), none⟩,
  ⟨some 5, .mv (.t 16), none⟩]
theorem F_ref12_Samer5_W {T : Tab} {env : Env} {H : Heap} {Q : Post} : W T (.reg F_ref12_Samer5) env H Q ↔ WR T F_ref12_Samer5 [
  ⟨some 15, .mv (.t 5), none⟩,
  ⟨some 16, .bin .add (.t 15) (.c (.int .i64 1)), none⟩,
  ⟨some 5, .mv (.t 16), none⟩] env H none [] Q := w_reg
def F_ref12_Samel0 : ICode := (.seq (.seq (.reg F_ref12_Samer4) (.cond (.t 14) .skip (.exit 0))) (.seq (.block 1 (.seq (.dreg F_ref12_Samer6 []) (.cond (.t 25) (.seq (.reg F_ref12_Samer7) .ret) .skip))) (.reg F_ref12_Samer5)))
theorem F_ref12_Samel0_W {T : Tab} {env : Env} {H : Heap} {Q : Post} : W T F_ref12_Samel0 env H Q ↔ W T (.seq (.seq (.reg F_ref12_Samer4) (.cond (.t 14) .skip (.exit 0))) (.seq (.block 1 (.seq (.dreg F_ref12_Samer6 []) (.cond (.t 25) (.seq (.reg F_ref12_Samer7) .ret) .skip))) (.reg F_ref12_Samer5))) env H Q := Iff.rfl
def F_ref12_Samer8 : List IStmt := [
  ⟨some 4, .mv (.c (.bool true)), none⟩]
theorem F_ref12_Samer8_W {T : Tab} {env : Env} {H : Heap} {Q : Post} : W T (.reg F_ref12_Samer8) env H Q ↔ WR T F_ref12_Samer8 [
  ⟨some 4, .mv (.c (.bool true)), none⟩] env H none [] Q := w_reg
def F_ref12_Samec : ICode := (.seq (.reg F_ref12_Samer0) (.seq (.seq (.reg F_ref12_Samer1) (.cond (.t 10) (.seq (.reg F_ref12_Samer2) .ret) .skip)) (.seq (.seq (.reg F_ref12_Samer3) (.block 0 (.loop F_ref12_Samel0))) (.seq (.reg F_ref12_Samer8) .ret))))
theorem F_ref12_Samec_W {T : Tab} {env : Env} {H : Heap} {Q : Post} : W T F_ref12_Samec env H Q ↔ W T (.seq (.reg F_ref12_Samer0) (.seq (.seq (.reg F_ref12_Samer1) (.cond (.t 10) (.seq (.reg F_ref12_Samer2) .ret) .skip)) (.seq (.seq (.reg F_ref12_Samer3) (.block 0 (.loop F_ref12_Samel0))) (.seq (.reg F_ref12_Samer8) .ret)))) env H Q := Iff.rfl
def F_ref12_Same : IFn := ⟨26, [.tmp 4], F_ref12_Samec⟩
set_option maxRecDepth 1000000 in
theorem F_ref12_Same_chk : chkF Try.prog 31 F_ref12_Same = true := by kernel_rfl

/-! ### law12_alive -/
def F_law12_aliver0 : List IStmt := [
  ⟨some 0, .mv (.c (.bool false)), none⟩]
theorem F_law12_aliver0_W {T : Tab} {env : Env} {H : Heap} {Q : Post} : W T (.reg F_law12_aliver0) env H Q ↔ WR T F_law12_aliver0 [
  ⟨some 0, .mv (.c (.bool false)), none⟩] env H none [] Q := w_reg
def F_law12_aliver1 : List IStmt := [
  ⟨some 6, .bld [.int .u64 0, .int .u32 0, .int .u32 0, .int .i64 0, .bool false] [(0, 1, (.c (.int .u64 8))), (1, 1, (.c (.int .u32 8))), (3, 1, (.c (.int .i64 16))), (4, 1, (.c (.bool true)))], none⟩,
  ⟨some 7, .bsli 5 1 [.int .u64 0, .int .u32 0, .int .u32 0, .int .i64 0, .bool false] [(0, (.t 6))], none⟩,
  ⟨some 8, .callc 29 [(.t 7), (.c (.bool true))], none⟩,
  ⟨some 5, .mv (.t 8), none⟩,
  ⟨some 9, .ext (.t 5) 0, none⟩,
  ⟨some 10, .ext (.t 5) 1, none⟩,
  ⟨some 1, .mv (.t 9), none⟩,
  ⟨some 2, .mv (.t 10), none⟩]
theorem F_law12_aliver1_W {T : Tab} {env : Env} {H : Heap} {Q : Post} : W T (.reg F_law12_aliver1) env H Q ↔ WR T F_law12_aliver1 [
  ⟨some 6, .bld [.int .u64 0, .int .u32 0, .int .u32 0, .int .i64 0, .bool false] [(0, 1, (.c (.int .u64 8))), (1, 1, (.c (.int .u32 8))), (3, 1, (.c (.int .i64 16))), (4, 1, (.c (.bool true)))], none⟩,
  ⟨some 7, .bsli 5 1 [.int .u64 0, .int .u32 0, .int .u32 0, .int .i64 0, .bool false] [(0, (.t 6))], none⟩,
  ⟨some 8, .callc 29 [(.t 7), (.c (.bool true))], none⟩,
  ⟨some 5, .mv (.t 8), none⟩,
  ⟨some 9, .ext (.t 5) 0, none⟩,
  ⟨some 10, .ext (.t 5) 1, none⟩,
  ⟨some 1, .mv (.t 9), none⟩,
  ⟨some 2, .mv (.t 10), none⟩] env H none [] Q := w_reg
def F_law12_aliver2 : List IStmt := [
  ⟨some 12, .mks 1 (.int .u8 0) (.c (.int .i64 15)) (.c (.int .i64 15)), none⟩,
  ⟨some 13, .call 30 [(.t 12), (.c (.bool false))], none⟩,
  ⟨some 11, .mv (.t 13), none⟩,
  ⟨some 14, .ext (.t 11) 0, none⟩,
  ⟨some 15, .ext (.t 11) 1, none⟩,
  ⟨some 3, .mv (.t 14), none⟩,
  ⟨some 4, .mv (.t 15), none⟩]
theorem F_law12_aliver2_W {T : Tab} {env : Env} {H : Heap} {Q : Post} : W T (.reg F_law12_aliver2) env H Q ↔ WR T F_law12_aliver2 [
  ⟨some 12, .mks 1 (.int .u8 0) (.c (.int .i64 15)) (.c (.int .i64 15)), none⟩,
  ⟨some 13, .call 30 [(.t 12), (.c (.bool false))], none⟩,
  ⟨some 11, .mv (.t 13), none⟩,
  ⟨some 14, .ext (.t 11) 0, none⟩,
  ⟨some 15, .ext (.t 11) 1, none⟩,
  ⟨some 3, .mv (.t 14), none⟩,
  ⟨some 4, .mv (.t 15), none⟩] env H none [] Q := w_reg
def F_law12_aliver3 : List IStmt := [
  ⟨some 16, .mv (.t 2), none⟩,
  ⟨some 17, .bin .eql (.t 16) (.c (.int .i64 0)), none⟩,
  ⟨some 18, .mv (.t 17), none⟩,
  ⟨some 19, .mv (.t 1), some (2, true)⟩,
  ⟨some 20, .len 1 (.t 19), some (2, true)⟩,
  ⟨some 21, .bin .eql (.t 20) (.c (.int .i64 24)), some (2, true)⟩,
  ⟨some 22, .pick (.t 18) (.t 21) (.c (.bool false)), none⟩,
  ⟨some 23, .mv (.t 22), none⟩,
  ⟨some 24, .mv (.t 1), some (7, true)⟩,
  ⟨some 25, .ixa 1 (.t 24) (.c (.int .i64 0)), some (7, true)⟩,
  ⟨some 26, .load (.t 25), some (7, true)⟩,
  ⟨some 27, .bin .eql (.t 26) (.c (.int .u8 8)), some (7, true)⟩,
  ⟨some 28, .pick (.t 23) (.t 27) (.c (.bool false)), none⟩,
  ⟨some 29, .mv (.t 28), none⟩,
  ⟨some 30, .mv (.t 1), some (13, true)⟩,
  ⟨some 31, .ixa 1 (.t 30) (.c (.int .i64 8)), some (13, true)⟩,
  ⟨some 32, .load (.t 31), some (13, true)⟩,
  ⟨some 33, .bin .eql (.t 32) (.c (.int .u8 8)), some (13, true)⟩,
  ⟨some 34, .pick (.t 29) (.t 33) (.c (.bool false)), none⟩,
  ⟨some 35, .mv (.t 34), none⟩,
  ⟨some 36, .mv (.t 1), some (19, true)⟩,
  ⟨some 37, .ixa 1 (.t 36) (.c (.int .i64 16)), some (19, true)⟩,
  ⟨some 38, .load (.t 37), some (19, true)⟩,
  ⟨some 39, .bin .eql (.t 38) (.c (.int .u8 16)), some (19, true)⟩,
  ⟨some 40, .pick (.t 35) (.t 39) (.c (.bool false)), none⟩,
  ⟨some 41, .mv (.t 40), none⟩,
  ⟨some 42, .mv (.t 4), some (25, true)⟩,
  ⟨some 43, .bin .eql (.t 42) (.c (.int .i64 120)), some (25, true)⟩,
  ⟨some 44, .pick (.t 41) (.t 43) (.c (.bool false)), none⟩,
  ⟨some 0, .mv (.t 44), none⟩]
theorem F_law12_aliver3_W {T : Tab} {env : Env} {H : Heap} {Q : Post} : W T (.reg F_law12_aliver3) env H Q ↔ WR T F_law12_aliver3 [
  ⟨some 16, .mv (.t 2), none⟩,
  ⟨some 17, .bin .eql (.t 16) (.c (.int .i64 0)), none⟩,
  ⟨some 18, .mv (.t 17), none⟩,
  ⟨some 19, .mv (.t 1), some (2, true)⟩,
  ⟨some 20, .len 1 (.t 19), some (2, true)⟩,
  ⟨some 21, .bin .eql (.t 20) (.c (.int .i64 24)), some (2, true)⟩,
  ⟨some 22, .pick (.t 18) (.t 21) (.c (.bool false)), none⟩,
  ⟨some 23, .mv (.t 22), none⟩,
  ⟨some 24, .mv (.t 1), some (7, true)⟩,
  ⟨some 25, .ixa 1 (.t 24) (.c (.int .i64 0)), some (7, true)⟩,
  ⟨some 26, .load (.t 25), some (7, true)⟩,
  ⟨some 27, .bin .eql (.t 26) (.c (.int .u8 8)), some (7, true)⟩,
  ⟨some 28, .pick (.t 23) (.t 27) (.c (.bool false)), none⟩,
  ⟨some 29, .mv (.t 28), none⟩,
  ⟨some 30, .mv (.t 1), some (13, true)⟩,
  ⟨some 31, .ixa 1 (.t 30) (.c (.int .i64 8)), some (13, true)⟩,
  ⟨some 32, .load (.t 31), some (13, true)⟩,
  ⟨some 33, .bin .eql (.t 32) (.c (.int .u8 8)), some (13, true)⟩,
  ⟨some 34, .pick (.t 29) (.t 33) (.c (.bool false)), none⟩,
  ⟨some 35, .mv (.t 34), none⟩,
  ⟨some 36, .mv (.t 1), some (19, true)⟩,
  ⟨some 37, .ixa 1 (.t 36) (.c (.int .i64 16)), some (19, true)⟩,
  ⟨some 38, .load (.t 37), some (19, true)⟩,
  ⟨some 39, .bin .eql (.t 38) (.c (.int .u8 16)), some (19, true)⟩,
  ⟨some 40, .pick (.t 35) (.t 39) (.c (.bool false)), none⟩,
  ⟨some 41, .mv (.t 40), none⟩,
  ⟨some 42, .mv (.t 4), some (25, true)⟩,
  ⟨some 43, .bin .eql (.t 42) (.c (.int .i64 120)), some (25, true)⟩,
  ⟨some 44, .pick (.t 41) (.t 43) (.c (.bool false)), none⟩,
  ⟨some 0, .mv (.t 44), none⟩] env H none [] Q := w_reg
theorem F_law12_aliver3_g2 {env : Env} : yieldI F_law12_aliver3 env 2 = bOf (env 18) := rfl
theorem F_law12_aliver3_g7 {env : Env} : yieldI F_law12_aliver3 env 7 = bOf (env 23) := rfl
theorem F_law12_aliver3_g13 {env : Env} : yieldI F_law12_aliver3 env 13 = bOf (env 29) := rfl
theorem F_law12_aliver3_g19 {env : Env} : yieldI F_law12_aliver3 env 19 = bOf (env 35) := rfl
theorem F_law12_aliver3_g25 {env : Env} : yieldI F_law12_aliver3 env 25 = bOf (env 41) := rfl
def F_law12_alivec : ICode := (.seq (.reg F_law12_aliver0) (.seq (.reg F_law12_aliver1) (.seq (.reg F_law12_aliver2) (.seq (.reg F_law12_aliver3) .ret))))
theorem F_law12_alivec_W {T : Tab} {env : Env} {H : Heap} {Q : Post} : W T F_law12_alivec env H Q ↔ W T (.seq (.reg F_law12_aliver0) (.seq (.reg F_law12_aliver1) (.seq (.reg F_law12_aliver2) (.seq (.reg F_law12_aliver3) .ret)))) env H Q := Iff.rfl
def F_law12_alive : IFn := ⟨45, [.tmp 0], F_law12_alivec⟩
set_option maxRecDepth 1000000 in
theorem F_law12_alive_chk : chkF Try.prog 32 F_law12_alive = true := by kernel_rfl

/-! ### law12_RelsBack -/
def F_law12_RelsBackr0 : List IStmt := [
  ⟨some 6, .mv (.c (.bool false)), none⟩]
theorem F_law12_RelsBackr0_W {T : Tab} {env : Env} {H : Heap} {Q : Post} : W T (.reg F_law12_RelsBackr0) env H Q ↔ WR T F_law12_RelsBackr0 [
  ⟨some 6, .mv (.c (.bool false)), none⟩] env H none [] Q := w_reg
def F_law12_RelsBackr1 : List IStmt := [
  ⟨some 15, .mv (.t 0), none⟩,
  ⟨some 16, .len 1 (.t 15), none⟩,
  ⟨some 17, .bin .gtr (.t 16) (.c (.int .i64 1000)), none⟩,
  ⟨some 18, .mv (.t 17), none⟩,
  ⟨some 19, .mv (.t 1), some (3, false)⟩,
  ⟨some 20, .len 1 (.t 19), some (3, false)⟩,
  ⟨some 21, .bin .gtr (.t 20) (.c (.int .i64 20000)), some (3, false)⟩,
  ⟨some 22, .pick (.t 18) (.c (.bool true)) (.t 21), none⟩]
theorem F_law12_RelsBackr1_W {T : Tab} {env : Env} {H : Heap} {Q : Post} : W T (.reg F_law12_RelsBackr1) env H Q ↔ WR T F_law12_RelsBackr1 [
  ⟨some 15, .mv (.t 0), none⟩,
  ⟨some 16, .len 1 (.t 15), none⟩,
  ⟨some 17, .bin .gtr (.t 16) (.c (.int .i64 1000)), none⟩,
  ⟨some 18, .mv (.t 17), none⟩,
  ⟨some 19, .mv (.t 1), some (3, false)⟩,
  ⟨some 20, .len 1 (.t 19), some (3, false)⟩,
  ⟨some 21, .bin .gtr (.t 20) (.c (.int .i64 20000)), some (3, false)⟩,
  ⟨some 22, .pick (.t 18) (.c (.bool true)) (.t 21), none⟩] env H none [] Q := w_reg
theorem F_law12_RelsBackr1_g3 {env : Env} : yieldI F_law12_RelsBackr1 env 3 = bOf (env 18) := rfl
def F_law12_RelsBackr2 : List IStmt := [
  ⟨some 6, .mv (.c (.bool true)), none⟩]
theorem F_law12_RelsBackr2_W {T : Tab} {env : Env} {H : Heap} {Q : Post} : W T (.reg F_law12_RelsBackr2) env H Q ↔ WR T F_law12_RelsBackr2 [
  ⟨some 6, .mv (.c (.bool true)), none⟩] env H none [] Q := w_reg
def F_law12_RelsBackr3 : List IStmt := [
  ⟨some 24, .mv (.t 0), none⟩,
  ⟨some 25, .mv (.t 2), none⟩,
  ⟨some 26, .callc 29 [(.t 24), (.t 25)], none⟩,
  ⟨some 23, .mv (.t 26), none⟩,
  ⟨some 27, .ext (.t 23) 0, none⟩,
  ⟨some 28, .ext (.t 23) 1, none⟩,
  ⟨some 7, .mv (.t 27), none⟩,
  ⟨some 8, .mv (.t 28), none⟩]
theorem F_law12_RelsBackr3_W {T : Tab} {env : Env} {H : Heap} {Q : Post} : W T (.reg F_law12_RelsBackr3) env H Q ↔ WR T F_law12_RelsBackr3 [
  ⟨some 24, .mv (.t 0), none⟩,
  ⟨some 25, .mv (.t 2), none⟩,
  ⟨some 26, .callc 29 [(.t 24), (.t 25)], none⟩,
  ⟨some 23, .mv (.t 26), none⟩,
  ⟨some 27, .ext (.t 23) 0, none⟩,
  ⟨some 28, .ext (.t 23) 1, none⟩,
  ⟨some 7, .mv (.t 27), none⟩,
  ⟨some 8, .mv (.t 28), none⟩] env H none [] Q := w_reg
def F_law12_RelsBackr4 : List IStmt := [
  ⟨some 30, .mv (.t 7), none⟩,
  ⟨some 31, .mv (.t 2), none⟩,
  ⟨some 32, .callc 30 [(.t 30), (.t 31)], none⟩,
  ⟨some 29, .mv (.t 32), none⟩,
  ⟨some 33, .ext (.t 29) 0, none⟩,
  ⟨some 34, .ext (.t 29) 1, none⟩,
  ⟨some 9, .mv (.t 33), none⟩,
  ⟨some 10, .mv (.t 34), none⟩]
theorem F_law12_RelsBackr4_W {T : Tab} {env : Env} {H : Heap} {Q : Post} : W T (.reg F_law12_RelsBackr4) env H Q ↔ WR T F_law12_RelsBackr4 [
  ⟨some 30, .mv (.t 7), none⟩,
  ⟨some 31, .mv (.t 2), none⟩,
  ⟨some 32, .callc 30 [(.t 30), (.t 31)], none⟩,
  ⟨some 29, .mv (.t 32), none⟩,
  ⟨some 33, .ext (.t 29) 0, none⟩,
  ⟨some 34, .ext (.t 29) 1, none⟩,
  ⟨some 9, .mv (.t 33), none⟩,
  ⟨some 10, .mv (.t 34), none⟩] env H none [] Q := w_reg
def F_law12_RelsBackr5 : List IStmt := [
  ⟨some 35, .mv (.t 8), none⟩,
  ⟨some 36, .bin .eql (.t 35) (.c (.int .i64 0)), none⟩,
  ⟨some 37, .mv (.t 36), none⟩,
  ⟨some 38, .mv (.t 10), some (2, true)⟩,
  ⟨some 39, .bin .neq (.t 38) (.c (.int .i64 0)), some (2, true)⟩,
  ⟨some 40, .mv (.t 39), some (2, true)⟩,
  ⟨some 41, .mv (.t 9), some (5, false)⟩,
  ⟨some 42, .mv (.t 0), some (5, false)⟩,
  ⟨some 43, .callc 31 [(.t 41), (.t 42)], some (5, false)⟩,
  ⟨some 44, .un .not (.t 43), some (5, false)⟩,
  ⟨some 45, .pick (.t 40) (.c (.bool true)) (.t 44), some (2, true)⟩,
  ⟨some 46, .pick (.t 37) (.t 45) (.c (.bool false)), none⟩,
  ⟨some 47, .mv (.t 46), none⟩,
  ⟨some 48, .mv (.t 8), some (12, false)⟩,
  ⟨some 49, .bin .neq (.t 48) (.c (.int .i64 0)), some (12, false)⟩,
  ⟨some 50, .mv (.t 49), some (12, false)⟩,
  ⟨some 51, .mv (.t 7), some (15, true)⟩,
  ⟨some 52, .len 1 (.t 51), some (15, true)⟩,
  ⟨some 53, .bin .gtr (.t 52) (.c (.int .i64 0)), some (15, true)⟩,
  ⟨some 54, .pick (.t 50) (.t 53) (.c (.bool false)), some (12, false)⟩,
  ⟨some 55, .pick (.t 47) (.c (.bool true)) (.t 54), none⟩]
theorem F_law12_RelsBackr5_W {T : Tab} {env : Env} {H : Heap} {Q : Post} : W T (.reg F_law12_RelsBackr5) env H Q ↔ WR T F_law12_RelsBackr5 [
  ⟨some 35, .mv (.t 8), none⟩,
  ⟨some 36, .bin .eql (.t 35) (.c (.int .i64 0)), none⟩,
  ⟨some 37, .mv (.t 36), none⟩,
  ⟨some 38, .mv (.t 10), some (2, true)⟩,
  ⟨some 39, .bin .neq (.t 38) (.c (.int .i64 0)), some (2, true)⟩,
  ⟨some 40, .mv (.t 39), some (2, true)⟩,
  ⟨some 41, .mv (.t 9), some (5, false)⟩,
  ⟨some 42, .mv (.t 0), some (5, false)⟩,
  ⟨some 43, .callc 31 [(.t 41), (.t 42)], some (5, false)⟩,
  ⟨some 44, .un .not (.t 43), some (5, false)⟩,
  ⟨some 45, .pick (.t 40) (.c (.bool true)) (.t 44), some (2, true)⟩,
  ⟨some 46, .pick (.t 37) (.t 45) (.c (.bool false)), none⟩,
  ⟨some 47, .mv (.t 46), none⟩,
  ⟨some 48, .mv (.t 8), some (12, false)⟩,
  ⟨some 49, .bin .neq (.t 48) (.c (.int .i64 0)), some (12, false)⟩,
  ⟨some 50, .mv (.t 49), some (12, false)⟩,
  ⟨some 51, .mv (.t 7), some (15, true)⟩,
  ⟨some 52, .len 1 (.t 51), some (15, true)⟩,
  ⟨some 53, .bin .gtr (.t 52) (.c (.int .i64 0)), some (15, true)⟩,
  ⟨some 54, .pick (.t 50) (.t 53) (.c (.bool false)), some (12, false)⟩,
  ⟨some 55, .pick (.t 47) (.c (.bool true)) (.t 54), none⟩] env H none [] Q := w_reg
theorem F_law12_RelsBackr5_g2 {env : Env} : yieldI F_law12_RelsBackr5 env 2 = bOf (env 37) := rfl
theorem F_law12_RelsBackr5_g5 {env : Env} : yieldI F_law12_RelsBackr5 env 5 = bOf (env 40) := rfl
theorem F_law12_RelsBackr5_g12 {env : Env} : yieldI F_law12_RelsBackr5 env 12 = bOf (env 47) := rfl
theorem F_law12_RelsBackr5_g15 {env : Env} : yieldI F_law12_RelsBackr5 env 15 = bOf (env 50) := rfl
def F_law12_RelsBackr6 : List IStmt := [
  ⟨some 6, .mv (.c (.bool false)), none⟩]
theorem F_law12_RelsBackr6_W {T : Tab} {env : Env} {H : Heap} {Q : Post} : W T (.reg F_law12_RelsBackr6) env H Q ↔ WR T F_law12_RelsBackr6 [
  ⟨some 6, .mv (.c (.bool false)), none⟩] env H none [] Q := w_reg
def F_law12_RelsBackr7 : List IStmt := [
  ⟨some 57, .mv (.t 1), none⟩,
  ⟨some 58, .mv (.t 2), none⟩,
  ⟨some 59, .callc 30 [(.t 57), (.t 58)], none⟩,
  ⟨some 56, .mv (.t 59), none⟩,
  ⟨some 60, .ext (.t 56) 0, none⟩,
  ⟨some 61, .ext (.t 56) 1, none⟩,
  ⟨some 11, .mv (.t 60), none⟩,
  ⟨some 12, .mv (.t 61), none⟩]
theorem F_law12_RelsBackr7_W {T : Tab} {env : Env} {H : Heap} {Q : Post} : W T (.reg F_law12_RelsBackr7) env H Q ↔ WR T F_law12_RelsBackr7 [
  ⟨some 57, .mv (.t 1), none⟩,
  ⟨some 58, .mv (.t 2), none⟩,
  ⟨some 59, .callc 30 [(.t 57), (.t 58)], none⟩,
  ⟨some 56, .mv (.t 59), none⟩,
  ⟨some 60, .ext (.t 56) 0, none⟩,
  ⟨some 61, .ext (.t 56) 1, none⟩,
  ⟨some 11, .mv (.t 60), none⟩,
  ⟨some 12, .mv (.t 61), none⟩] env H none [] Q := w_reg
def F_law12_RelsBackr8 : List IStmt := [
  ⟨some 62, .mv (.t 12), none⟩,
  ⟨some 63, .bin .neq (.t 62) (.c (.int .i64 0)), none⟩]
theorem F_law12_RelsBackr8_W {T : Tab} {env : Env} {H : Heap} {Q : Post} : W T (.reg F_law12_RelsBackr8) env H Q ↔ WR T F_law12_RelsBackr8 [
  ⟨some 62, .mv (.t 12), none⟩,
  ⟨some 63, .bin .neq (.t 62) (.c (.int .i64 0)), none⟩] env H none [] Q := w_reg
def F_law12_RelsBackr9 : List IStmt := [
  ⟨some 64, .mv (.t 11), none⟩,
  ⟨some 65, .len 1 (.t 64), none⟩,
  ⟨some 66, .bin .eql (.t 65) (.c (.int .i64 0)), none⟩,
  ⟨some 67, .mv (.t 66), none⟩,
  ⟨some 68, .callc 32 [], some (3, true)⟩,
  ⟨some 69, .pick (.t 67) (.t 68) (.c (.bool false)), none⟩,
  ⟨some 6, .mv (.t 69), none⟩]
theorem F_law12_RelsBackr9_W {T : Tab} {env : Env} {H : Heap} {Q : Post} : W T (.reg F_law12_RelsBackr9) env H Q ↔ WR T F_law12_RelsBackr9 [
  ⟨some 64, .mv (.t 11), none⟩,
  ⟨some 65, .len 1 (.t 64), none⟩,
  ⟨some 66, .bin .eql (.t 65) (.c (.int .i64 0)), none⟩,
  ⟨some 67, .mv (.t 66), none⟩,
  ⟨some 68, .callc 32 [], some (3, true)⟩,
  ⟨some 69, .pick (.t 67) (.t 68) (.c (.bool false)), none⟩,
  ⟨some 6, .mv (.t 69), none⟩] env H none [] Q := w_reg
theorem F_law12_RelsBackr9_g3 {env : Env} : yieldI F_law12_RelsBackr9 env 3 = bOf (env 67) := rfl
def F_law12_RelsBackr10 : List IStmt := [
  ⟨some 71, .mv (.t 11), none⟩,
  ⟨some 72, .mv (.t 2), none⟩,
  ⟨some 73, .callc 29 [(.t 71), (.t 72)], none⟩,
  ⟨some 70, .mv (.t 73), none⟩,
  ⟨some 74, .ext (.t 70) 0, none⟩,
  ⟨some 75, .ext (.t 70) 1, none⟩,
  ⟨some 13, .mv (.t 74), none⟩,
  ⟨some 14, .mv (.t 75), none⟩]
theorem F_law12_RelsBackr10_W {T : Tab} {env : Env} {H : Heap} {Q : Post} : W T (.reg F_law12_RelsBackr10) env H Q ↔ WR T F_law12_RelsBackr10 [
  ⟨some 71, .mv (.t 11), none⟩,
  ⟨some 72, .mv (.t 2), none⟩,
  ⟨some 73, .callc 29 [(.t 71), (.t 72)], none⟩,
  ⟨some 70, .mv (.t 73), none⟩,
  ⟨some 74, .ext (.t 70) 0, none⟩,
  ⟨some 75, .ext (.t 70) 1, none⟩,
  ⟨some 13, .mv (.t 74), none⟩,
  ⟨some 14, .mv (.t 75), none⟩] env H none [] Q := w_reg
def F_law12_RelsBackr11 : List IStmt := [
  ⟨some 76, .mv (.t 14), none⟩,
  ⟨some 77, .bin .eql (.t 76) (.c (.int .i64 0)), none⟩,
  ⟨some 78, .mv (.t 77), none⟩,
  ⟨some 79, .mv (.t 13), some (2, true)⟩,
  ⟨some 80, .b2s (.t 79), some (2, true)⟩,
  ⟨some 81, .mv (.t 1), some (2, true)⟩,
  ⟨some 82, .b2s (.t 81), some (2, true)⟩,
  ⟨some 83, .bin .eql (.t 80) (.t 82), some (2, true)⟩,
  ⟨some 84, .pick (.t 78) (.t 83) (.c (.bool false)), none⟩,
  ⟨some 85, .mv (.t 84), none⟩,
  ⟨some 86, .callc 32 [], some (9, true)⟩,
  ⟨some 87, .pick (.t 85) (.t 86) (.c (.bool false)), none⟩,
  ⟨some 6, .mv (.t 87), none⟩]
theorem F_law12_RelsBackr11_W {T : Tab} {env : Env} {H : Heap} {Q : Post} : W T (.reg F_law12_RelsBackr11) env H Q ↔ WR T F_law12_RelsBackr11 [
  ⟨some 76, .mv (.t 14), none⟩,
  ⟨some 77, .bin .eql (.t 76) (.c (.int .i64 0)), none⟩,
  ⟨some 78, .mv (.t 77), none⟩,
  ⟨some 79, .mv (.t 13), some (2, true)⟩,
  ⟨some 80, .b2s (.t 79), some (2, true)⟩,
  ⟨some 81, .mv (.t 1), some (2, true)⟩,
  ⟨some 82, .b2s (.t 81), some (2, true)⟩,
  ⟨some 83, .bin .eql (.t 80) (.t 82), some (2, true)⟩,
  ⟨some 84, .pick (.t 78) (.t 83) (.c (.bool false)), none⟩,
  ⟨some 85, .mv (.t 84), none⟩,
  ⟨some 86, .callc 32 [], some (9, true)⟩,
  ⟨some 87, .pick (.t 85) (.t 86) (.c (.bool false)), none⟩,
  ⟨some 6, .mv (.t 87), none⟩] env H none [] Q := w_reg
theorem F_law12_RelsBackr11_g2 {env : Env} : yieldI F_law12_RelsBackr11 env 2 = bOf (env 78) := rfl
theorem F_law12_RelsBackr11_g9 {env : Env} : yieldI F_law12_RelsBackr11 env 9 = bOf (env 85) := rfl
def F_law12_RelsBackc : ICode := (.seq (.reg F_law12_RelsBackr0) (.seq (.seq (.reg F_law12_RelsBackr1) (.cond (.t 22) (.seq (.reg F_law12_RelsBackr2) .ret) .skip)) (.seq (.reg F_law12_RelsBackr3) (.seq (.reg F_law12_RelsBackr4) (.seq (.seq (.reg F_law12_RelsBackr5) (.cond (.t 55) (.seq (.reg F_law12_RelsBackr6) .ret) .skip)) (.seq (.reg F_law12_RelsBackr7) (.seq (.seq (.reg F_law12_RelsBackr8) (.cond (.t 63) (.seq (.reg F_law12_RelsBackr9) .ret) .skip)) (.seq (.reg F_law12_RelsBackr10) (.seq (.reg F_law12_RelsBackr11) .ret)))))))))
theorem F_law12_RelsBackc_W {T : Tab} {env : Env} {H : Heap} {Q : Post} : W T F_law12_RelsBackc env H Q ↔ W T (.seq (.reg F_law12_RelsBackr0) (.seq (.seq (.reg F_law12_RelsBackr1) (.cond (.t 22) (.seq (.reg F_law12_RelsBackr2) .ret) .skip)) (.seq (.reg F_law12_RelsBackr3) (.seq (.reg F_law12_RelsBackr4) (.seq (.seq (.reg F_law12_RelsBackr5) (.cond (.t 55) (.seq (.reg F_law12_RelsBackr6) .ret) .skip)) (.seq (.reg F_law12_RelsBackr7) (.seq (.seq (.reg F_law12_RelsBackr8) (.cond (.t 63) (.seq (.reg F_law12_RelsBackr9) .ret) .skip)) (.seq (.reg F_law12_RelsBackr10) (.seq (.reg F_law12_RelsBackr11) .ret))))))))) env H Q := Iff.rfl
def F_law12_RelsBack : IFn := ⟨88, [.tmp 6], F_law12_RelsBackc⟩
set_option maxRecDepth 1000000 in
theorem F_law12_RelsBack_chk : chkF Try.prog 5 F_law12_RelsBack = true := by kernel_rfl

/-! ### law12_RelsReads -/
def F_law12_RelsReadsr0 : List IStmt := [
  ⟨some 4, .mv (.c (.bool false)), none⟩]
theorem F_law12_RelsReadsr0_W {T : Tab} {env : Env} {H : Heap} {Q : Post} : W T (.reg F_law12_RelsReadsr0) env H Q ↔ WR T F_law12_RelsReadsr0 [
  ⟨some 4, .mv (.c (.bool false)), none⟩] env H none [] Q := w_reg
def F_law12_RelsReadsr1 : List IStmt := [
  ⟨some 9, .mv (.t 0), none⟩,
  ⟨some 10, .len 1 (.t 9), none⟩,
  ⟨some 11, .bin .gtr (.t 10) (.c (.int .i64 20000)), none⟩]
theorem F_law12_RelsReadsr1_W {T : Tab} {env : Env} {H : Heap} {Q : Post} : W T (.reg F_law12_RelsReadsr1) env H Q ↔ WR T F_law12_RelsReadsr1 [
  ⟨some 9, .mv (.t 0), none⟩,
  ⟨some 10, .len 1 (.t 9), none⟩,
  ⟨some 11, .bin .gtr (.t 10) (.c (.int .i64 20000)), none⟩] env H none [] Q := w_reg
def F_law12_RelsReadsr2 : List IStmt := [
  ⟨some 4, .mv (.c (.bool true)), none⟩]
theorem F_law12_RelsReadsr2_W {T : Tab} {env : Env} {H : Heap} {Q : Post} : W T (.reg F_law12_RelsReadsr2) env H Q ↔ WR T F_law12_RelsReadsr2 [
  ⟨some 4, .mv (.c (.bool true)), none⟩] env H none [] Q := w_reg
def F_law12_RelsReadsr3 : List IStmt := [
  ⟨some 13, .mv (.t 0), none⟩,
  ⟨some 14, .mv (.t 1), none⟩,
  ⟨some 15, .callc 30 [(.t 13), (.t 14)], none⟩,
  ⟨some 12, .mv (.t 15), none⟩,
  ⟨some 16, .ext (.t 12) 0, none⟩,
  ⟨some 17, .ext (.t 12) 1, none⟩,
  ⟨some 5, .mv (.t 16), none⟩,
  ⟨some 6, .mv (.t 17), none⟩]
theorem F_law12_RelsReadsr3_W {T : Tab} {env : Env} {H : Heap} {Q : Post} : W T (.reg F_law12_RelsReadsr3) env H Q ↔ WR T F_law12_RelsReadsr3 [
  ⟨some 13, .mv (.t 0), none⟩,
  ⟨some 14, .mv (.t 1), none⟩,
  ⟨some 15, .callc 30 [(.t 13), (.t 14)], none⟩,
  ⟨some 12, .mv (.t 15), none⟩,
  ⟨some 16, .ext (.t 12) 0, none⟩,
  ⟨some 17, .ext (.t 12) 1, none⟩,
  ⟨some 5, .mv (.t 16), none⟩,
  ⟨some 6, .mv (.t 17), none⟩] env H none [] Q := w_reg
def F_law12_RelsReadsr4 : List IStmt := [
  ⟨some 19, .mv (.t 0), none⟩,
  ⟨some 20, .mv (.t 1), none⟩,
  ⟨some 21, .callc 43 [(.t 19), (.t 20)], none⟩,
  ⟨some 18, .mv (.t 21), none⟩,
  ⟨some 22, .ext (.t 18) 0, none⟩,
  ⟨some 23, .ext (.t 18) 1, none⟩,
  ⟨some 7, .mv (.t 22), none⟩,
  ⟨some 8, .mv (.t 23), none⟩]
theorem F_law12_RelsReadsr4_W {T : Tab} {env : Env} {H : Heap} {Q : Post} : W T (.reg F_law12_RelsReadsr4) env H Q ↔ WR T F_law12_RelsReadsr4 [
  ⟨some 19, .mv (.t 0), none⟩,
  ⟨some 20, .mv (.t 1), none⟩,
  ⟨some 21, .callc 43 [(.t 19), (.t 20)], none⟩,
  ⟨some 18, .mv (.t 21), none⟩,
  ⟨some 22, .ext (.t 18) 0, none⟩,
  ⟨some 23, .ext (.t 18) 1, none⟩,
  ⟨some 7, .mv (.t 22), none⟩,
  ⟨some 8, .mv (.t 23), none⟩] env H none [] Q := w_reg
def F_law12_RelsReadsr5 : List IStmt := [
  ⟨some 24, .mv (.t 6), none⟩,
  ⟨some 25, .mv (.t 8), none⟩,
  ⟨some 26, .bin .eql (.t 24) (.t 25), none⟩,
  ⟨some 27, .mv (.t 26), none⟩,
  ⟨some 28, .mv (.t 5), some (3, true)⟩,
  ⟨some 29, .mv (.t 7), some (3, true)⟩,
  ⟨some 30, .callc 31 [(.t 28), (.t 29)], some (3, true)⟩,
  ⟨some 31, .pick (.t 27) (.t 30) (.c (.bool false)), none⟩,
  ⟨some 32, .mv (.t 31), none⟩,
  ⟨some 33, .mv (.t 5), some (8, true)⟩,
  ⟨some 34, .mv (.t 7), some (8, true)⟩,
  ⟨some 35, .callc 44 [(.t 33), (.t 34)], some (8, true)⟩,
  ⟨some 36, .pick (.t 32) (.t 35) (.c (.bool false)), none⟩,
  ⟨some 37, .mv (.t 36), none⟩,
  ⟨some 38, .callc 32 [], some (13, true)⟩,
  ⟨some 39, .pick (.t 37) (.t 38) (.c (.bool false)), none⟩,
  ⟨some 4, .mv (.t 39), none⟩]
theorem F_law12_RelsReadsr5_W {T : Tab} {env : Env} {H : Heap} {Q : Post} : W T (.reg F_law12_RelsReadsr5) env H Q ↔ WR T F_law12_RelsReadsr5 [
  ⟨some 24, .mv (.t 6), none⟩,
  ⟨some 25, .mv (.t 8), none⟩,
  ⟨some 26, .bin .eql (.t 24) (.t 25), none⟩,
  ⟨some 27, .mv (.t 26), none⟩,
  ⟨some 28, .mv (.t 5), some (3, true)⟩,
  ⟨some 29, .mv (.t 7), some (3, true)⟩,
  ⟨some 30, .callc 31 [(.t 28), (.t 29)], some (3, true)⟩,
  ⟨some 31, .pick (.t 27) (.t 30) (.c (.bool false)), none⟩,
  ⟨some 32, .mv (.t 31), none⟩,
  ⟨some 33, .mv (.t 5), some (8, true)⟩,
  ⟨some 34, .mv (.t 7), some (8, true)⟩,
  ⟨some 35, .callc 44 [(.t 33), (.t 34)], some (8, true)⟩,
  ⟨some 36, .pick (.t 32) (.t 35) (.c (.bool false)), none⟩,
  ⟨some 37, .mv (.t 36), none⟩,
  ⟨some 38, .callc 32 [], some (13, true)⟩,
  ⟨some 39, .pick (.t 37) (.t 38) (.c (.bool false)), none⟩,
  ⟨some 4, .mv (.t 39), none⟩] env H none [] Q := w_reg
theorem F_law12_RelsReadsr5_g3 {env : Env} : yieldI F_law12_RelsReadsr5 env 3 = bOf (env 27) := rfl
theorem F_law12_RelsReadsr5_g8 {env : Env} : yieldI F_law12_RelsReadsr5 env 8 = bOf (env 32) := rfl
theorem F_law12_RelsReadsr5_g13 {env : Env} : yieldI F_law12_RelsReadsr5 env 13 = bOf (env 37) := rfl
def F_law12_RelsReadsc : ICode := (.seq (.reg F_law12_RelsReadsr0) (.seq (.seq (.reg F_law12_RelsReadsr1) (.cond (.t 11) (.seq (.reg F_law12_RelsReadsr2) .ret) .skip)) (.seq (.reg F_law12_RelsReadsr3) (.seq (.reg F_law12_RelsReadsr4) (.seq (.reg F_law12_RelsReadsr5) .ret)))))
theorem F_law12_RelsReadsc_W {T : Tab} {env : Env} {H : Heap} {Q : Post} : W T F_law12_RelsReadsc env H Q ↔ W T (.seq (.reg F_law12_RelsReadsr0) (.seq (.seq (.reg F_law12_RelsReadsr1) (.cond (.t 11) (.seq (.reg F_law12_RelsReadsr2) .ret) .skip)) (.seq (.reg F_law12_RelsReadsr3) (.seq (.reg F_law12_RelsReadsr4) (.seq (.reg F_law12_RelsReadsr5) .ret))))) env H Q := Iff.rfl
def F_law12_RelsReads : IFn := ⟨40, [.tmp 4], F_law12_RelsReadsc⟩
set_option maxRecDepth 1000000 in
theorem F_law12_RelsReads_chk : chkF Try.prog 9 F_law12_RelsReads = true := by kernel_rfl

/-! ### law12_RelsWrites -/
def F_law12_RelsWritesr0 : List IStmt := [
  ⟨some 6, .mv (.c (.bool false)), none⟩]
theorem F_law12_RelsWritesr0_W {T : Tab} {env : Env} {H : Heap} {Q : Post} : W T (.reg F_law12_RelsWritesr0) env H Q ↔ WR T F_law12_RelsWritesr0 [
  ⟨some 6, .mv (.c (.bool false)), none⟩] env H none [] Q := w_reg
def F_law12_RelsWritesr1 : List IStmt := [
  ⟨some 11, .mv (.t 0), none⟩,
  ⟨some 12, .len 1 (.t 11), none⟩,
  ⟨some 13, .bin .gtr (.t 12) (.c (.int .i64 1000)), none⟩,
  ⟨some 14, .mv (.t 13), none⟩,
  ⟨some 15, .mv (.t 1), some (3, false)⟩,
  ⟨some 16, .len 1 (.t 15), some (3, false)⟩,
  ⟨some 17, .bin .gtr (.t 16) (.c (.int .i64 1000)), some (3, false)⟩,
  ⟨some 18, .pick (.t 14) (.c (.bool true)) (.t 17), none⟩]
theorem F_law12_RelsWritesr1_W {T : Tab} {env : Env} {H : Heap} {Q : Post} : W T (.reg F_law12_RelsWritesr1) env H Q ↔ WR T F_law12_RelsWritesr1 [
  ⟨some 11, .mv (.t 0), none⟩,
  ⟨some 12, .len 1 (.t 11), none⟩,
  ⟨some 13, .bin .gtr (.t 12) (.c (.int .i64 1000)), none⟩,
  ⟨some 14, .mv (.t 13), none⟩,
  ⟨some 15, .mv (.t 1), some (3, false)⟩,
  ⟨some 16, .len 1 (.t 15), some (3, false)⟩,
  ⟨some 17, .bin .gtr (.t 16) (.c (.int .i64 1000)), some (3, false)⟩,
  ⟨some 18, .pick (.t 14) (.c (.bool true)) (.t 17), none⟩] env H none [] Q := w_reg
theorem F_law12_RelsWritesr1_g3 {env : Env} : yieldI F_law12_RelsWritesr1 env 3 = bOf (env 14) := rfl
def F_law12_RelsWritesr2 : List IStmt := [
  ⟨some 6, .mv (.c (.bool true)), none⟩]
theorem F_law12_RelsWritesr2_W {T : Tab} {env : Env} {H : Heap} {Q : Post} : W T (.reg F_law12_RelsWritesr2) env H Q ↔ WR T F_law12_RelsWritesr2 [
  ⟨some 6, .mv (.c (.bool true)), none⟩] env H none [] Q := w_reg
def F_law12_RelsWritesr3 : List IStmt := [
  ⟨some 20, .mv (.t 0), none⟩,
  ⟨some 21, .mv (.t 2), none⟩,
  ⟨some 22, .callc 29 [(.t 20), (.t 21)], none⟩,
  ⟨some 19, .mv (.t 22), none⟩,
  ⟨some 23, .ext (.t 19) 0, none⟩,
  ⟨some 24, .ext (.t 19) 1, none⟩,
  ⟨some 7, .mv (.t 23), none⟩,
  ⟨some 8, .mv (.t 24), none⟩]
theorem F_law12_RelsWritesr3_W {T : Tab} {env : Env} {H : Heap} {Q : Post} : W T (.reg F_law12_RelsWritesr3) env H Q ↔ WR T F_law12_RelsWritesr3 [
  ⟨some 20, .mv (.t 0), none⟩,
  ⟨some 21, .mv (.t 2), none⟩,
  ⟨some 22, .callc 29 [(.t 20), (.t 21)], none⟩,
  ⟨some 19, .mv (.t 22), none⟩,
  ⟨some 23, .ext (.t 19) 0, none⟩,
  ⟨some 24, .ext (.t 19) 1, none⟩,
  ⟨some 7, .mv (.t 23), none⟩,
  ⟨some 8, .mv (.t 24), none⟩] env H none [] Q := w_reg
def F_law12_RelsWritesr4 : List IStmt := [
  ⟨some 26, .mv (.t 0), none⟩,
  ⟨some 27, .mv (.t 2), none⟩,
  ⟨some 28, .callc 45 [(.t 26), (.t 27)], none⟩,
  ⟨some 25, .mv (.t 28), none⟩,
  ⟨some 29, .ext (.t 25) 0, none⟩,
  ⟨some 30, .ext (.t 25) 1, none⟩,
  ⟨some 9, .mv (.t 29), none⟩,
  ⟨some 10, .mv (.t 30), none⟩]
theorem F_law12_RelsWritesr4_W {T : Tab} {env : Env} {H : Heap} {Q : Post} : W T (.reg F_law12_RelsWritesr4) env H Q ↔ WR T F_law12_RelsWritesr4 [
  ⟨some 26, .mv (.t 0), none⟩,
  ⟨some 27, .mv (.t 2), none⟩,
  ⟨some 28, .callc 45 [(.t 26), (.t 27)], none⟩,
  ⟨some 25, .mv (.t 28), none⟩,
  ⟨some 29, .ext (.t 25) 0, none⟩,
  ⟨some 30, .ext (.t 25) 1, none⟩,
  ⟨some 9, .mv (.t 29), none⟩,
  ⟨some 10, .mv (.t 30), none⟩] env H none [] Q := w_reg
def F_law12_RelsWritesr5 : List IStmt := [
  ⟨some 31, .mv (.t 7), none⟩,
  ⟨some 32, .b2s (.t 31), none⟩,
  ⟨some 33, .mv (.t 9), none⟩,
  ⟨some 34, .b2s (.t 33), none⟩,
  ⟨some 35, .bin .eql (.t 32) (.t 34), none⟩,
  ⟨some 36, .mv (.t 35), none⟩,
  ⟨some 37, .mv (.t 8), some (5, true)⟩,
  ⟨some 38, .mv (.t 10), some (5, true)⟩,
  ⟨some 39, .bin .eql (.t 37) (.t 38), some (5, true)⟩,
  ⟨some 40, .pick (.t 36) (.t 39) (.c (.bool false)), none⟩,
  ⟨some 41, .mv (.t 40), none⟩,
  ⟨some 42, .mv (.t 0), some (10, true)⟩,
  ⟨some 43, .mv (.t 1), some (10, true)⟩,
  ⟨some 44, .callc 44 [(.t 42), (.t 43)], some (10, true)⟩,
  ⟨some 45, .mv (.t 0), some (10, true)⟩,
  ⟨some 46, .mv (.t 1), some (10, true)⟩,
  ⟨some 47, .callc 31 [(.t 45), (.t 46)], some (10, true)⟩,
  ⟨some 48, .eqb false (.t 44) (.t 47), some (10, true)⟩,
  ⟨some 49, .pick (.t 41) (.t 48) (.c (.bool false)), none⟩,
  ⟨some 50, .mv (.t 49), none⟩,
  ⟨some 51, .mv (.t 0), some (19, true)⟩,
  ⟨some 52, .mv (.t 0), some (19, true)⟩,
  ⟨some 53, .callc 44 [(.t 51), (.t 52)], some (19, true)⟩,
  ⟨some 54, .pick (.t 50) (.t 53) (.c (.bool false)), none⟩,
  ⟨some 55, .mv (.t 54), none⟩,
  ⟨some 56, .callc 32 [], some (24, true)⟩,
  ⟨some 57, .pick (.t 55) (.t 56) (.c (.bool false)), none⟩,
  ⟨some 6, .mv (.t 57), none⟩]
theorem F_law12_RelsWritesr5_W {T : Tab} {env : Env} {H : Heap} {Q : Post} : W T (.reg F_law12_RelsWritesr5) env H Q ↔ WR T F_law12_RelsWritesr5 [
  ⟨some 31, .mv (.t 7), none⟩,
  ⟨some 32, .b2s (.t 31), none⟩,
  ⟨some 33, .mv (.t 9), none⟩,
  ⟨some 34, .b2s (.t 33), none⟩,
  ⟨some 35, .bin .eql (.t 32) (.t 34), none⟩,
  ⟨some 36, .mv (.t 35), none⟩,
  ⟨some 37, .mv (.t 8), some (5, true)⟩,
  ⟨some 38, .mv (.t 10), some (5, true)⟩,
  ⟨some 39, .bin .eql (.t 37) (.t 38), some (5, true)⟩,
  ⟨some 40, .pick (.t 36) (.t 39) (.c (.bool false)), none⟩,
  ⟨some 41, .mv (.t 40), none⟩,
  ⟨some 42, .mv (.t 0), some (10, true)⟩,
  ⟨some 43, .mv (.t 1), some (10, true)⟩,
  ⟨some 44, .callc 44 [(.t 42), (.t 43)], some (10, true)⟩,
  ⟨some 45, .mv (.t 0), some (10, true)⟩,
  ⟨some 46, .mv (.t 1), some (10, true)⟩,
  ⟨some 47, .callc 31 [(.t 45), (.t 46)], some (10, true)⟩,
  ⟨some 48, .eqb false (.t 44) (.t 47), some (10, true)⟩,
  ⟨some 49, .pick (.t 41) (.t 48) (.c (.bool false)), none⟩,
  ⟨some 50, .mv (.t 49), none⟩,
  ⟨some 51, .mv (.t 0), some (19, true)⟩,
  ⟨some 52, .mv (.t 0), some (19, true)⟩,
  ⟨some 53, .callc 44 [(.t 51), (.t 52)], some (19, true)⟩,
  ⟨some 54, .pick (.t 50) (.t 53) (.c (.bool false)), none⟩,
  ⟨some 55, .mv (.t 54), none⟩,
  ⟨some 56, .callc 32 [], some (24, true)⟩,
  ⟨some 57, .pick (.t 55) (.t 56) (.c (.bool false)), none⟩,
  ⟨some 6, .mv (.t 57), none⟩] env H none [] Q := w_reg
theorem F_law12_RelsWritesr5_g5 {env : Env} : yieldI F_law12_RelsWritesr5 env 5 = bOf (env 36) := rfl
theorem F_law12_RelsWritesr5_g10 {env : Env} : yieldI F_law12_RelsWritesr5 env 10 = bOf (env 41) := rfl
theorem F_law12_RelsWritesr5_g19 {env : Env} : yieldI F_law12_RelsWritesr5 env 19 = bOf (env 50) := rfl
theorem F_law12_RelsWritesr5_g24 {env : Env} : yieldI F_law12_RelsWritesr5 env 24 = bOf (env 55) := rfl
def F_law12_RelsWritesc : ICode := (.seq (.reg F_law12_RelsWritesr0) (.seq (.seq (.reg F_law12_RelsWritesr1) (.cond (.t 18) (.seq (.reg F_law12_RelsWritesr2) .ret) .skip)) (.seq (.reg F_law12_RelsWritesr3) (.seq (.reg F_law12_RelsWritesr4) (.seq (.reg F_law12_RelsWritesr5) .ret)))))
theorem F_law12_RelsWritesc_W {T : Tab} {env : Env} {H : Heap} {Q : Post} : W T F_law12_RelsWritesc env H Q ↔ W T (.seq (.reg F_law12_RelsWritesr0) (.seq (.seq (.reg F_law12_RelsWritesr1) (.cond (.t 18) (.seq (.reg F_law12_RelsWritesr2) .ret) .skip)) (.seq (.reg F_law12_RelsWritesr3) (.seq (.reg F_law12_RelsWritesr4) (.seq (.reg F_law12_RelsWritesr5) .ret))))) env H Q := Iff.rfl
def F_law12_RelsWrites : IFn := ⟨58, [.tmp 6], F_law12_RelsWritesc⟩
set_option maxRecDepth 1000000 in
theorem F_law12_RelsWrites_chk : chkF Try.prog 10 F_law12_RelsWrites = true := by kernel_rfl

/-! ### law12_RelsJoin -/
def F_law12_RelsJoinr0 : List IStmt := [
  ⟨some 6, .mv (.c (.bool false)), none⟩]
theorem F_law12_RelsJoinr0_W {T : Tab} {env : Env} {H : Heap} {Q : Post} : W T (.reg F_law12_RelsJoinr0) env H Q ↔ WR T F_law12_RelsJoinr0 [
  ⟨some 6, .mv (.c (.bool false)), none⟩] env H none [] Q := w_reg
def F_law12_RelsJoinr1 : List IStmt := [
  ⟨some 13, .mv (.t 0), none⟩,
  ⟨some 14, .len 1 (.t 13), none⟩,
  ⟨some 15, .bin .gtr (.t 14) (.c (.int .i64 10000)), none⟩,
  ⟨some 16, .mv (.t 15), none⟩,
  ⟨some 17, .mv (.t 1), some (3, false)⟩,
  ⟨some 18, .len 1 (.t 17), some (3, false)⟩,
  ⟨some 19, .bin .gtr (.t 18) (.c (.int .i64 10000)), some (3, false)⟩,
  ⟨some 20, .pick (.t 16) (.c (.bool true)) (.t 19), none⟩]
theorem F_law12_RelsJoinr1_W {T : Tab} {env : Env} {H : Heap} {Q : Post} : W T (.reg F_law12_RelsJoinr1) env H Q ↔ WR T F_law12_RelsJoinr1 [
  ⟨some 13, .mv (.t 0), none⟩,
  ⟨some 14, .len 1 (.t 13), none⟩,
  ⟨some 15, .bin .gtr (.t 14) (.c (.int .i64 10000)), none⟩,
  ⟨some 16, .mv (.t 15), none⟩,
  ⟨some 17, .mv (.t 1), some (3, false)⟩,
  ⟨some 18, .len 1 (.t 17), some (3, false)⟩,
  ⟨some 19, .bin .gtr (.t 18) (.c (.int .i64 10000)), some (3, false)⟩,
  ⟨some 20, .pick (.t 16) (.c (.bool true)) (.t 19), none⟩] env H none [] Q := w_reg
theorem F_law12_RelsJoinr1_g3 {env : Env} : yieldI F_law12_RelsJoinr1 env 3 = bOf (env 16) := rfl
def F_law12_RelsJoinr2 : List IStmt := [
  ⟨some 6, .mv (.c (.bool true)), none⟩]
theorem F_law12_RelsJoinr2_W {T : Tab} {env : Env} {H : Heap} {Q : Post} : W T (.reg F_law12_RelsJoinr2) env H Q ↔ WR T F_law12_RelsJoinr2 [
  ⟨some 6, .mv (.c (.bool true)), none⟩] env H none [] Q := w_reg
def F_law12_RelsJoinr3 : List IStmt := [
  ⟨some 22, .mv (.t 0), none⟩,
  ⟨some 23, .mv (.t 2), none⟩,
  ⟨some 24, .callc 30 [(.t 22), (.t 23)], none⟩,
  ⟨some 21, .mv (.t 24), none⟩,
  ⟨some 25, .ext (.t 21) 0, none⟩,
  ⟨some 26, .ext (.t 21) 1, none⟩,
  ⟨some 7, .mv (.t 25), none⟩,
  ⟨some 8, .mv (.t 26), none⟩]
theorem F_law12_RelsJoinr3_W {T : Tab} {env : Env} {H : Heap} {Q : Post} : W T (.reg F_law12_RelsJoinr3) env H Q ↔ WR T F_law12_RelsJoinr3 [
  ⟨some 22, .mv (.t 0), none⟩,
  ⟨some 23, .mv (.t 2), none⟩,
  ⟨some 24, .callc 30 [(.t 22), (.t 23)], none⟩,
  ⟨some 21, .mv (.t 24), none⟩,
  ⟨some 25, .ext (.t 21) 0, none⟩,
  ⟨some 26, .ext (.t 21) 1, none⟩,
  ⟨some 7, .mv (.t 25), none⟩,
  ⟨some 8, .mv (.t 26), none⟩] env H none [] Q := w_reg
def F_law12_RelsJoinr4 : List IStmt := [
  ⟨some 28, .mv (.t 1), none⟩,
  ⟨some 29, .mv (.t 2), none⟩,
  ⟨some 30, .callc 30 [(.t 28), (.t 29)], none⟩,
  ⟨some 27, .mv (.t 30), none⟩,
  ⟨some 31, .ext (.t 27) 0, none⟩,
  ⟨some 32, .ext (.t 27) 1, none⟩,
  ⟨some 9, .mv (.t 31), none⟩,
  ⟨some 10, .mv (.t 32), none⟩]
theorem F_law12_RelsJoinr4_W {T : Tab} {env : Env} {H : Heap} {Q : Post} : W T (.reg F_law12_RelsJoinr4) env H Q ↔ WR T F_law12_RelsJoinr4 [
  ⟨some 28, .mv (.t 1), none⟩,
  ⟨some 29, .mv (.t 2), none⟩,
  ⟨some 30, .callc 30 [(.t 28), (.t 29)], none⟩,
  ⟨some 27, .mv (.t 30), none⟩,
  ⟨some 31, .ext (.t 27) 0, none⟩,
  ⟨some 32, .ext (.t 27) 1, none⟩,
  ⟨some 9, .mv (.t 31), none⟩,
  ⟨some 10, .mv (.t 32), none⟩] env H none [] Q := w_reg
def F_law12_RelsJoinr5 : List IStmt := [
  ⟨some 34, .bslz 1, none⟩,
  ⟨some 35, .mv (.t 0), none⟩,
  ⟨some 36, .app 1 1 (.t 34) (.t 35), none⟩,
  ⟨some 37, .mv (.t 1), none⟩,
  ⟨some 38, .appf 1 1 (.t 36) (.t 37), none⟩,
  ⟨some 39, .mv (.t 2), none⟩,
  ⟨some 40, .callc 30 [(.t 38), (.t 39)], none⟩,
  ⟨some 33, .mv (.t 40), none⟩,
  ⟨some 41, .ext (.t 33) 0, none⟩,
  ⟨some 42, .ext (.t 33) 1, none⟩,
  ⟨some 11, .mv (.t 41), none⟩,
  ⟨some 12, .mv (.t 42), none⟩]
theorem F_law12_RelsJoinr5_W {T : Tab} {env : Env} {H : Heap} {Q : Post} : W T (.reg F_law12_RelsJoinr5) env H Q ↔ WR T F_law12_RelsJoinr5 [
  ⟨some 34, .bslz 1, none⟩,
  ⟨some 35, .mv (.t 0), none⟩,
  ⟨some 36, .app 1 1 (.t 34) (.t 35), none⟩,
  ⟨some 37, .mv (.t 1), none⟩,
  ⟨some 38, .appf 1 1 (.t 36) (.t 37), none⟩,
  ⟨some 39, .mv (.t 2), none⟩,
  ⟨some 40, .callc 30 [(.t 38), (.t 39)], none⟩,
  ⟨some 33, .mv (.t 40), none⟩,
  ⟨some 41, .ext (.t 33) 0, none⟩,
  ⟨some 42, .ext (.t 33) 1, none⟩,
  ⟨some 11, .mv (.t 41), none⟩,
  ⟨some 12, .mv (.t 42), none⟩] env H none [] Q := w_reg
def F_law12_RelsJoinr6 : List IStmt := [
  ⟨some 43, .mv (.t 8), none⟩,
  ⟨some 44, .bin .neq (.t 43) (.c (.int .i64 0)), none⟩,
  ⟨some 45, .mv (.t 44), none⟩,
  ⟨some 46, .mv (.t 10), some (2, false)⟩,
  ⟨some 47, .bin .neq (.t 46) (.c (.int .i64 0)), some (2, false)⟩,
  ⟨some 48, .pick (.t 45) (.c (.bool true)) (.t 47), none⟩]
theorem F_law12_RelsJoinr6_W {T : Tab} {env : Env} {H : Heap} {Q : Post} : W T (.reg F_law12_RelsJoinr6) env H Q ↔ WR T F_law12_RelsJoinr6 [
  ⟨some 43, .mv (.t 8), none⟩,
  ⟨some 44, .bin .neq (.t 43) (.c (.int .i64 0)), none⟩,
  ⟨some 45, .mv (.t 44), none⟩,
  ⟨some 46, .mv (.t 10), some (2, false)⟩,
  ⟨some 47, .bin .neq (.t 46) (.c (.int .i64 0)), some (2, false)⟩,
  ⟨some 48, .pick (.t 45) (.c (.bool true)) (.t 47), none⟩] env H none [] Q := w_reg
theorem F_law12_RelsJoinr6_g2 {env : Env} : yieldI F_law12_RelsJoinr6 env 2 = bOf (env 45) := rfl
def F_law12_RelsJoinr7 : List IStmt := [
  ⟨some 49, .callc 32 [], none⟩,
  ⟨some 6, .mv (.t 49), none⟩]
theorem F_law12_RelsJoinr7_W {T : Tab} {env : Env} {H : Heap} {Q : Post} : W T (.reg F_law12_RelsJoinr7) env H Q ↔ WR T F_law12_RelsJoinr7 [
  ⟨some 49, .callc 32 [], none⟩,
  ⟨some 6, .mv (.t 49), none⟩] env H none [] Q := w_reg
def F_law12_RelsJoinr8 : List IStmt := [
  ⟨some 50, .mv (.t 7), none⟩,
  ⟨some 51, .len 1 (.t 50), none⟩,
  ⟨some 52, .mv (.t 9), none⟩,
  ⟨some 53, .len 1 (.t 52), none⟩,
  ⟨some 54, .bin .add (.t 51) (.t 53), none⟩,
  ⟨some 55, .bin .gtr (.t 54) (.c (.int .i64 512)), none⟩]
theorem F_law12_RelsJoinr8_W {T : Tab} {env : Env} {H : Heap} {Q : Post} : W T (.reg F_law12_RelsJoinr8) env H Q ↔ WR T F_law12_RelsJoinr8 [
  ⟨some 50, .mv (.t 7), none⟩,
  ⟨some 51, .len 1 (.t 50), none⟩,
  ⟨some 52, .mv (.t 9), none⟩,
  ⟨some 53, .len 1 (.t 52), none⟩,
  ⟨some 54, .bin .add (.t 51) (.t 53), none⟩,
  ⟨some 55, .bin .gtr (.t 54) (.c (.int .i64 512)), none⟩] env H none [] Q := w_reg
def F_law12_RelsJoinr9 : List IStmt := [
  ⟨some 56, .mv (.t 12), none⟩,
  ⟨some 57, .bin .eql (.t 56) (.c (.int .i64 120)), none⟩,
  ⟨some 58, .mv (.t 57), none⟩,
  ⟨some 59, .mv (.t 11), some (2, true)⟩,
  ⟨some 60, .len 1 (.t 59), some (2, true)⟩,
  ⟨some 61, .bin .eql (.t 60) (.c (.int .i64 0)), some (2, true)⟩,
  ⟨some 62, .pick (.t 58) (.t 61) (.c (.bool false)), none⟩,
  ⟨some 63, .mv (.t 62), none⟩,
  ⟨some 64, .callc 32 [], some (7, true)⟩,
  ⟨some 65, .pick (.t 63) (.t 64) (.c (.bool false)), none⟩,
  ⟨some 6, .mv (.t 65), none⟩]
theorem F_law12_RelsJoinr9_W {T : Tab} {env : Env} {H : Heap} {Q : Post} : W T (.reg F_law12_RelsJoinr9) env H Q ↔ WR T F_law12_RelsJoinr9 [
  ⟨some 56, .mv (.t 12), none⟩,
  ⟨some 57, .bin .eql (.t 56) (.c (.int .i64 120)), none⟩,
  ⟨some 58, .mv (.t 57), none⟩,
  ⟨some 59, .mv (.t 11), some (2, true)⟩,
  ⟨some 60, .len 1 (.t 59), some (2, true)⟩,
  ⟨some 61, .bin .eql (.t 60) (.c (.int .i64 0)), some (2, true)⟩,
  ⟨some 62, .pick (.t 58) (.t 61) (.c (.bool false)), none⟩,
  ⟨some 63, .mv (.t 62), none⟩,
  ⟨some 64, .callc 32 [], some (7, true)⟩,
  ⟨some 65, .pick (.t 63) (.t 64) (.c (.bool false)), none⟩,
  ⟨some 6, .mv (.t 65), none⟩] env H none [] Q := w_reg
theorem F_law12_RelsJoinr9_g2 {env : Env} : yieldI F_law12_RelsJoinr9 env 2 = bOf (env 58) := rfl
theorem F_law12_RelsJoinr9_g7 {env : Env} : yieldI F_law12_RelsJoinr9 env 7 = bOf (env 63) := rfl
def F_law12_RelsJoinr10 : List IStmt := [
  ⟨some 66, .mv (.t 12), none⟩,
  ⟨some 67, .bin .eql (.t 66) (.c (.int .i64 0)), none⟩,
  ⟨some 68, .mv (.t 67), none⟩,
  ⟨some 69, .mv (.t 11), some (2, true)⟩,
  ⟨some 70, .bslz 5, some (2, true)⟩,
  ⟨some 71, .mv (.t 7), some (2, true)⟩,
  ⟨some 72, .app 5 32 (.t 70) (.t 71), some (2, true)⟩,
  ⟨some 73, .mv (.t 9), some (2, true)⟩,
  ⟨some 74, .appf 5 32 (.t 72) (.t 73), some (2, true)⟩,
  ⟨some 75, .callc 44 [(.t 69), (.t 74)], some (2, true)⟩,
  ⟨some 76, .pick (.t 68) (.t 75) (.c (.bool false)), none⟩,
  ⟨some 77, .mv (.t 76), none⟩,
  ⟨some 78, .callc 32 [], some (11, true)⟩,
  ⟨some 79, .pick (.t 77) (.t 78) (.c (.bool false)), none⟩,
  ⟨some 6, .mv (.t 79), none⟩]
theorem F_law12_RelsJoinr10_W {T : Tab} {env : Env} {H : Heap} {Q : Post} : W T (.reg F_law12_RelsJoinr10) env H Q ↔ WR T F_law12_RelsJoinr10 [
  ⟨some 66, .mv (.t 12), none⟩,
  ⟨some 67, .bin .eql (.t 66) (.c (.int .i64 0)), none⟩,
  ⟨some 68, .mv (.t 67), none⟩,
  ⟨some 69, .mv (.t 11), some (2, true)⟩,
  ⟨some 70, .bslz 5, some (2, true)⟩,
  ⟨some 71, .mv (.t 7), some (2, true)⟩,
  ⟨some 72, .app 5 32 (.t 70) (.t 71), some (2, true)⟩,
  ⟨some 73, .mv (.t 9), some (2, true)⟩,
  ⟨some 74, .appf 5 32 (.t 72) (.t 73), some (2, true)⟩,
  ⟨some 75, .callc 44 [(.t 69), (.t 74)], some (2, true)⟩,
  ⟨some 76, .pick (.t 68) (.t 75) (.c (.bool false)), none⟩,
  ⟨some 77, .mv (.t 76), none⟩,
  ⟨some 78, .callc 32 [], some (11, true)⟩,
  ⟨some 79, .pick (.t 77) (.t 78) (.c (.bool false)), none⟩,
  ⟨some 6, .mv (.t 79), none⟩] env H none [] Q := w_reg
theorem F_law12_RelsJoinr10_g2 {env : Env} : yieldI F_law12_RelsJoinr10 env 2 = bOf (env 68) := rfl
theorem F_law12_RelsJoinr10_g11 {env : Env} : yieldI F_law12_RelsJoinr10 env 11 = bOf (env 77) := rfl
def F_law12_RelsJoinc : ICode := (.seq (.reg F_law12_RelsJoinr0) (.seq (.seq (.reg F_law12_RelsJoinr1) (.cond (.t 20) (.seq (.reg F_law12_RelsJoinr2) .ret) .skip)) (.seq (.reg F_law12_RelsJoinr3) (.seq (.reg F_law12_RelsJoinr4) (.seq (.reg F_law12_RelsJoinr5) (.seq (.seq (.reg F_law12_RelsJoinr6) (.cond (.t 48) (.seq (.reg F_law12_RelsJoinr7) .ret) .skip)) (.seq (.seq (.reg F_law12_RelsJoinr8) (.cond (.t 55) (.seq (.reg F_law12_RelsJoinr9) .ret) .skip)) (.seq (.reg F_law12_RelsJoinr10) .ret))))))))
theorem F_law12_RelsJoinc_W {T : Tab} {env : Env} {H : Heap} {Q : Post} : W T F_law12_RelsJoinc env H Q ↔ W T (.seq (.reg F_law12_RelsJoinr0) (.seq (.seq (.reg F_law12_RelsJoinr1) (.cond (.t 20) (.seq (.reg F_law12_RelsJoinr2) .ret) .skip)) (.seq (.reg F_law12_RelsJoinr3) (.seq (.reg F_law12_RelsJoinr4) (.seq (.reg F_law12_RelsJoinr5) (.seq (.seq (.reg F_law12_RelsJoinr6) (.cond (.t 48) (.seq (.reg F_law12_RelsJoinr7) .ret) .skip)) (.seq (.seq (.reg F_law12_RelsJoinr8) (.cond (.t 55) (.seq (.reg F_law12_RelsJoinr9) .ret) .skip)) (.seq (.reg F_law12_RelsJoinr10) .ret)))))))) env H Q := Iff.rfl
def F_law12_RelsJoin : IFn := ⟨80, [.tmp 6], F_law12_RelsJoinc⟩
set_option maxRecDepth 1000000 in
theorem F_law12_RelsJoin_chk : chkF Try.prog 11 F_law12_RelsJoin = true := by kernel_rfl

/-- The functions, by number. -/
def TRels_l : List (Nat × IFn) := TLe_l ++ [(53, F_rels_size), (30, F_rels_Decode), (29, F_rels_Encode), (44, F_rels_Same), (56, F_ref08_N), (43, F_ref12_Decode), (45, F_ref12_Encode), (31, F_ref12_Same), (32, F_law12_alive), (5, F_law12_RelsBack), (9, F_law12_RelsReads), (10, F_law12_RelsWrites), (11, F_law12_RelsJoin)]
def TRels : Tab := tabOf TRels_l
theorem TRels_chk : ∀ p ∈ TRels_l, chkF Try.prog p.1 p.2 = true := by
  intro p hp
  simp only [TRels_l, List.mem_append, List.mem_cons, List.not_mem_nil, or_false] at hp
  rcases hp with (hp) | rfl | rfl | rfl | rfl | rfl | rfl | rfl | rfl | rfl | rfl | rfl | rfl | rfl
  · exact TLe_chk p hp
  · exact F_rels_size_chk
  · exact F_rels_Decode_chk
  · exact F_rels_Encode_chk
  · exact F_rels_Same_chk
  · exact F_ref08_N_chk
  · exact F_ref12_Decode_chk
  · exact F_ref12_Encode_chk
  · exact F_ref12_Same_chk
  · exact F_law12_alive_chk
  · exact F_law12_RelsBack_chk
  · exact F_law12_RelsReads_chk
  · exact F_law12_RelsWrites_chk
  · exact F_law12_RelsJoin_chk
theorem TRels_good : Good Try.prog TRels := good_tab (by kernel_rfl) TRels_chk

end Go.Proofs.Ytleogcfmlpmbiaa
