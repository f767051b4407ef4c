/- The small language's text of functions of the given program, and the check that it stands for them. Printed by a program. -/
import Derived.Test.YtiekjbejgmdkkaaFw21
import Derived.Test.YtiekjbejgmdkkaaChecked
import Derived.KernelRfl
namespace Go.Proofs.Ytiekjbejgmdkkaa
open Go Fw

/-! ### law01_NumSums -/
def F_law01_NumSumsr0 : List IStmt := [
  ⟨some 4, .mv (.c (.bool false)), none⟩]
theorem F_law01_NumSumsr0_W {T : Tab} {env : Env} {H : Heap} {Q : Post} : W T (.reg F_law01_NumSumsr0) env H Q ↔ WR T F_law01_NumSumsr0 [
  ⟨some 4, .mv (.c (.bool false)), none⟩] env H none [] Q := w_reg
def F_law01_NumSumsr1 : List IStmt := [
  ⟨some 18, .mv (.t 0), none⟩,
  ⟨some 19, .mv (.t 1), none⟩,
  ⟨some 20, .call 13 [(.t 18), (.t 19)], none⟩,
  ⟨some 17, .mv (.t 20), none⟩,
  ⟨some 21, .ext (.t 17) 0, none⟩,
  ⟨some 22, .ext (.t 17) 1, none⟩,
  ⟨some 5, .mv (.t 21), none⟩,
  ⟨some 6, .mv (.t 22), none⟩]
theorem F_law01_NumSumsr1_W {T : Tab} {env : Env} {H : Heap} {Q : Post} : W T (.reg F_law01_NumSumsr1) env H Q ↔ WR T F_law01_NumSumsr1 [
  ⟨some 18, .mv (.t 0), none⟩,
  ⟨some 19, .mv (.t 1), none⟩,
  ⟨some 20, .call 13 [(.t 18), (.t 19)], none⟩,
  ⟨some 17, .mv (.t 20), none⟩,
  ⟨some 21, .ext (.t 17) 0, none⟩,
  ⟨some 22, .ext (.t 17) 1, none⟩,
  ⟨some 5, .mv (.t 21), none⟩,
  ⟨some 6, .mv (.t 22), none⟩] env H none [] Q := w_reg
def F_law01_NumSumsr2 : List IStmt := [
  ⟨some 24, .mv (.t 0), none⟩,
  ⟨some 25, .mv (.t 1), none⟩,
  ⟨some 26, .call 14 [(.t 24), (.t 25)], none⟩,
  ⟨some 23, .mv (.t 26), none⟩,
  ⟨some 27, .ext (.t 23) 0, none⟩,
  ⟨some 28, .ext (.t 23) 1, none⟩,
  ⟨some 7, .mv (.t 27), none⟩,
  ⟨some 8, .mv (.t 28), none⟩]
theorem F_law01_NumSumsr2_W {T : Tab} {env : Env} {H : Heap} {Q : Post} : W T (.reg F_law01_NumSumsr2) env H Q ↔ WR T F_law01_NumSumsr2 [
  ⟨some 24, .mv (.t 0), none⟩,
  ⟨some 25, .mv (.t 1), none⟩,
  ⟨some 26, .call 14 [(.t 24), (.t 25)], none⟩,
  ⟨some 23, .mv (.t 26), none⟩,
  ⟨some 27, .ext (.t 23) 0, none⟩,
  ⟨some 28, .ext (.t 23) 1, none⟩,
  ⟨some 7, .mv (.t 27), none⟩,
  ⟨some 8, .mv (.t 28), none⟩] env H none [] Q := w_reg
def F_law01_NumSumsr3 : List IStmt := [
  ⟨some 30, .mv (.t 0), none⟩,
  ⟨some 31, .mv (.t 1), none⟩,
  ⟨some 32, .call 15 [(.t 30), (.t 31)], none⟩,
  ⟨some 29, .mv (.t 32), none⟩,
  ⟨some 33, .ext (.t 29) 0, none⟩,
  ⟨some 34, .ext (.t 29) 1, none⟩,
  ⟨some 9, .mv (.t 33), none⟩,
  ⟨some 10, .mv (.t 34), none⟩]
theorem F_law01_NumSumsr3_W {T : Tab} {env : Env} {H : Heap} {Q : Post} : W T (.reg F_law01_NumSumsr3) env H Q ↔ WR T F_law01_NumSumsr3 [
  ⟨some 30, .mv (.t 0), none⟩,
  ⟨some 31, .mv (.t 1), none⟩,
  ⟨some 32, .call 15 [(.t 30), (.t 31)], none⟩,
  ⟨some 29, .mv (.t 32), none⟩,
  ⟨some 33, .ext (.t 29) 0, none⟩,
  ⟨some 34, .ext (.t 29) 1, none⟩,
  ⟨some 9, .mv (.t 33), none⟩,
  ⟨some 10, .mv (.t 34), none⟩] env H none [] Q := w_reg
def F_law01_NumSumsr4 : List IStmt := [
  ⟨some 36, .mv (.t 0), none⟩,
  ⟨some 37, .mv (.t 1), none⟩,
  ⟨some 38, .call 16 [(.t 36), (.t 37)], none⟩,
  ⟨some 35, .mv (.t 38), none⟩,
  ⟨some 39, .ext (.t 35) 0, none⟩,
  ⟨some 40, .ext (.t 35) 1, none⟩,
  ⟨some 11, .mv (.t 39), none⟩,
  ⟨some 12, .mv (.t 40), none⟩]
theorem F_law01_NumSumsr4_W {T : Tab} {env : Env} {H : Heap} {Q : Post} : W T (.reg F_law01_NumSumsr4) env H Q ↔ WR T F_law01_NumSumsr4 [
  ⟨some 36, .mv (.t 0), none⟩,
  ⟨some 37, .mv (.t 1), none⟩,
  ⟨some 38, .call 16 [(.t 36), (.t 37)], none⟩,
  ⟨some 35, .mv (.t 38), none⟩,
  ⟨some 39, .ext (.t 35) 0, none⟩,
  ⟨some 40, .ext (.t 35) 1, none⟩,
  ⟨some 11, .mv (.t 39), none⟩,
  ⟨some 12, .mv (.t 40), none⟩] env H none [] Q := w_reg
def F_law01_NumSumsr5 : List IStmt := [
  ⟨some 42, .mv (.t 0), none⟩,
  ⟨some 43, .mv (.t 1), none⟩,
  ⟨some 44, .call 17 [(.t 42), (.t 43)], none⟩,
  ⟨some 41, .mv (.t 44), none⟩,
  ⟨some 45, .ext (.t 41) 0, none⟩,
  ⟨some 46, .ext (.t 41) 1, none⟩,
  ⟨some 13, .mv (.t 45), none⟩,
  ⟨some 14, .mv (.t 46), none⟩]
theorem F_law01_NumSumsr5_W {T : Tab} {env : Env} {H : Heap} {Q : Post} : W T (.reg F_law01_NumSumsr5) env H Q ↔ WR T F_law01_NumSumsr5 [
  ⟨some 42, .mv (.t 0), none⟩,
  ⟨some 43, .mv (.t 1), none⟩,
  ⟨some 44, .call 17 [(.t 42), (.t 43)], none⟩,
  ⟨some 41, .mv (.t 44), none⟩,
  ⟨some 45, .ext (.t 41) 0, none⟩,
  ⟨some 46, .ext (.t 41) 1, none⟩,
  ⟨some 13, .mv (.t 45), none⟩,
  ⟨some 14, .mv (.t 46), none⟩] env H none [] Q := w_reg
def F_law01_NumSumsr6 : List IStmt := [
  ⟨some 47, .mv (.t 5), none⟩,
  ⟨some 48, .mv (.t 7), none⟩,
  ⟨some 49, .bin .neq (.t 47) (.t 48), none⟩,
  ⟨some 50, .mv (.t 49), none⟩,
  ⟨some 51, .mv (.t 6), some (3, false)⟩,
  ⟨some 52, .mv (.t 8), some (3, false)⟩,
  ⟨some 53, .eqb true (.t 51) (.t 52), some (3, false)⟩,
  ⟨some 54, .pick (.t 50) (.c (.bool true)) (.t 53), none⟩,
  ⟨some 55, .mv (.t 54), none⟩,
  ⟨some 56, .mv (.t 9), some (8, false)⟩,
  ⟨some 57, .mv (.t 11), some (8, false)⟩,
  ⟨some 58, .bin .neq (.t 56) (.t 57), some (8, false)⟩,
  ⟨some 59, .pick (.t 55) (.c (.bool true)) (.t 58), none⟩,
  ⟨some 60, .mv (.t 59), none⟩,
  ⟨some 61, .mv (.t 10), some (13, false)⟩,
  ⟨some 62, .mv (.t 12), some (13, false)⟩,
  ⟨some 63, .eqb true (.t 61) (.t 62), some (13, false)⟩,
  ⟨some 64, .pick (.t 60) (.c (.bool true)) (.t 63), none⟩,
  ⟨some 65, .mv (.t 64), none⟩,
  ⟨some 66, .mv (.t 14), some (18, false)⟩,
  ⟨some 67, .mv (.t 0), some (18, false)⟩,
  ⟨some 68, .mv (.t 1), some (18, false)⟩,
  ⟨some 69, .bin .geq (.t 67) (.t 68), some (18, false)⟩,
  ⟨some 70, .eqb true (.t 66) (.t 69), some (18, false)⟩,
  ⟨some 71, .pick (.t 65) (.c (.bool true)) (.t 70), none⟩]
theorem F_law01_NumSumsr6_W {T : Tab} {env : Env} {H : Heap} {Q : Post} : W T (.reg F_law01_NumSumsr6) env H Q ↔ WR T F_law01_NumSumsr6 [
  ⟨some 47, .mv (.t 5), none⟩,
  ⟨some 48, .mv (.t 7), none⟩,
  ⟨some 49, .bin .neq (.t 47) (.t 48), none⟩,
  ⟨some 50, .mv (.t 49), none⟩,
  ⟨some 51, .mv (.t 6), some (3, false)⟩,
  ⟨some 52, .mv (.t 8), some (3, false)⟩,
  ⟨some 53, .eqb true (.t 51) (.t 52), some (3, false)⟩,
  ⟨some 54, .pick (.t 50) (.c (.bool true)) (.t 53), none⟩,
  ⟨some 55, .mv (.t 54), none⟩,
  ⟨some 56, .mv (.t 9), some (8, false)⟩,
  ⟨some 57, .mv (.t 11), some (8, false)⟩,
  ⟨some 58, .bin .neq (.t 56) (.t 57), some (8, false)⟩,
  ⟨some 59, .pick (.t 55) (.c (.bool true)) (.t 58), none⟩,
  ⟨some 60, .mv (.t 59), none⟩,
  ⟨some 61, .mv (.t 10), some (13, false)⟩,
  ⟨some 62, .mv (.t 12), some (13, false)⟩,
  ⟨some 63, .eqb true (.t 61) (.t 62), some (13, false)⟩,
  ⟨some 64, .pick (.t 60) (.c (.bool true)) (.t 63), none⟩,
  ⟨some 65, .mv (.t 64), none⟩,
  ⟨some 66, .mv (.t 14), some (18, false)⟩,
  ⟨some 67, .mv (.t 0), some (18, false)⟩,
  ⟨some 68, .mv (.t 1), some (18, false)⟩,
  ⟨some 69, .bin .geq (.t 67) (.t 68), some (18, false)⟩,
  ⟨some 70, .eqb true (.t 66) (.t 69), some (18, false)⟩,
  ⟨some 71, .pick (.t 65) (.c (.bool true)) (.t 70), none⟩] env H none [] Q := w_reg
theorem F_law01_NumSumsr6_g3 {env : Env} : yieldI F_law01_NumSumsr6 env 3 = bOf (env 50) := rfl
theorem F_law01_NumSumsr6_g8 {env : Env} : yieldI F_law01_NumSumsr6 env 8 = bOf (env 55) := rfl
theorem F_law01_NumSumsr6_g13 {env : Env} : yieldI F_law01_NumSumsr6 env 13 = bOf (env 60) := rfl
theorem F_law01_NumSumsr6_g18 {env : Env} : yieldI F_law01_NumSumsr6 env 18 = bOf (env 65) := rfl
def F_law01_NumSumsr7 : List IStmt := [
  ⟨some 4, .mv (.c (.bool false)), none⟩]
theorem F_law01_NumSumsr7_W {T : Tab} {env : Env} {H : Heap} {Q : Post} : W T (.reg F_law01_NumSumsr7) env H Q ↔ WR T F_law01_NumSumsr7 [
  ⟨some 4, .mv (.c (.bool false)), none⟩] env H none [] Q := w_reg
def F_law01_NumSumsr8 : List IStmt := [
  ⟨some 72, .mv (.t 14), none⟩]
theorem F_law01_NumSumsr8_W {T : Tab} {env : Env} {H : Heap} {Q : Post} : W T (.reg F_law01_NumSumsr8) env H Q ↔ WR T F_law01_NumSumsr8 [
  ⟨some 72, .mv (.t 14), none⟩] env H none [] Q := w_reg
def F_law01_NumSumsr9 : List IStmt := [
  ⟨some 74, .mv (.t 13), none⟩,
  ⟨some 75, .mv (.t 1), none⟩,
  ⟨some 76, .call 13 [(.t 74), (.t 75)], none⟩,
  ⟨some 73, .mv (.t 76), none⟩,
  ⟨some 77, .ext (.t 73) 0, none⟩,
  ⟨some 78, .ext (.t 73) 1, none⟩,
  ⟨some 15, .mv (.t 77), none⟩,
  ⟨some 16, .mv (.t 78), none⟩]
theorem F_law01_NumSumsr9_W {T : Tab} {env : Env} {H : Heap} {Q : Post} : W T (.reg F_law01_NumSumsr9) env H Q ↔ WR T F_law01_NumSumsr9 [
  ⟨some 74, .mv (.t 13), none⟩,
  ⟨some 75, .mv (.t 1), none⟩,
  ⟨some 76, .call 13 [(.t 74), (.t 75)], none⟩,
  ⟨some 73, .mv (.t 76), none⟩,
  ⟨some 77, .ext (.t 73) 0, none⟩,
  ⟨some 78, .ext (.t 73) 1, none⟩,
  ⟨some 15, .mv (.t 77), none⟩,
  ⟨some 16, .mv (.t 78), none⟩] env H none [] Q := w_reg
def F_law01_NumSumsr10 : List IStmt := [
  ⟨some 79, .mv (.t 16), none⟩,
  ⟨some 80, .mv (.t 79), none⟩,
  ⟨some 81, .mv (.t 15), some (1, true)⟩,
  ⟨some 82, .mv (.t 0), some (1, true)⟩,
  ⟨some 83, .bin .eql (.t 81) (.t 82), some (1, true)⟩,
  ⟨some 84, .pick (.t 80) (.t 83) (.c (.bool false)), none⟩,
  ⟨some 85, .mv (.t 84), none⟩,
  ⟨some 86, .call 12 [], some (6, true)⟩,
  ⟨some 87, .pick (.t 85) (.t 86) (.c (.bool false)), none⟩,
  ⟨some 4, .mv (.t 87), none⟩]
theorem F_law01_NumSumsr10_W {T : Tab} {env : Env} {H : Heap} {Q : Post} : W T (.reg F_law01_NumSumsr10) env H Q ↔ WR T F_law01_NumSumsr10 [
  ⟨some 79, .mv (.t 16), none⟩,
  ⟨some 80, .mv (.t 79), none⟩,
  ⟨some 81, .mv (.t 15), some (1, true)⟩,
  ⟨some 82, .mv (.t 0), some (1, true)⟩,
  ⟨some 83, .bin .eql (.t 81) (.t 82), some (1, true)⟩,
  ⟨some 84, .pick (.t 80) (.t 83) (.c (.bool false)), none⟩,
  ⟨some 85, .mv (.t 84), none⟩,
  ⟨some 86, .call 12 [], some (6, true)⟩,
  ⟨some 87, .pick (.t 85) (.t 86) (.c (.bool false)), none⟩,
  ⟨some 4, .mv (.t 87), none⟩] env H none [] Q := w_reg
theorem F_law01_NumSumsr10_g1 {env : Env} : yieldI F_law01_NumSumsr10 env 1 = bOf (env 80) := rfl
theorem F_law01_NumSumsr10_g6 {env : Env} : yieldI F_law01_NumSumsr10 env 6 = bOf (env 85) := rfl
def F_law01_NumSumsr11 : List IStmt := [
  ⟨some 88, .mv (.t 13), none⟩,
  ⟨some 89, .bin .eql (.t 88) (.c (.int .u64 0)), none⟩,
  ⟨some 90, .mv (.t 89), none⟩,
  ⟨some 91, .call 12 [], some (2, true)⟩,
  ⟨some 92, .pick (.t 90) (.t 91) (.c (.bool false)), none⟩,
  ⟨some 4, .mv (.t 92), none⟩]
theorem F_law01_NumSumsr11_W {T : Tab} {env : Env} {H : Heap} {Q : Post} : W T (.reg F_law01_NumSumsr11) env H Q ↔ WR T F_law01_NumSumsr11 [
  ⟨some 88, .mv (.t 13), none⟩,
  ⟨some 89, .bin .eql (.t 88) (.c (.int .u64 0)), none⟩,
  ⟨some 90, .mv (.t 89), none⟩,
  ⟨some 91, .call 12 [], some (2, true)⟩,
  ⟨some 92, .pick (.t 90) (.t 91) (.c (.bool false)), none⟩,
  ⟨some 4, .mv (.t 92), none⟩] env H none [] Q := w_reg
theorem F_law01_NumSumsr11_g2 {env : Env} : yieldI F_law01_NumSumsr11 env 2 = bOf (env 90) := rfl
def F_law01_NumSumsc : ICode := (.seq (.reg F_law01_NumSumsr0) (.seq (.reg F_law01_NumSumsr1) (.seq (.reg F_law01_NumSumsr2) (.seq (.reg F_law01_NumSumsr3) (.seq (.reg F_law01_NumSumsr4) (.seq (.reg F_law01_NumSumsr5) (.seq (.seq (.reg F_law01_NumSumsr6) (.cond (.t 71) (.seq (.reg F_law01_NumSumsr7) .ret) .skip)) (.seq (.seq (.reg F_law01_NumSumsr8) (.cond (.t 72) (.seq (.reg F_law01_NumSumsr9) (.seq (.reg F_law01_NumSumsr10) .ret)) .skip)) (.seq (.reg F_law01_NumSumsr11) .ret)))))))))
theorem F_law01_NumSumsc_W {T : Tab} {env : Env} {H : Heap} {Q : Post} : W T F_law01_NumSumsc env H Q ↔ W T (.seq (.reg F_law01_NumSumsr0) (.seq (.reg F_law01_NumSumsr1) (.seq (.reg F_law01_NumSumsr2) (.seq (.reg F_law01_NumSumsr3) (.seq (.reg F_law01_NumSumsr4) (.seq (.reg F_law01_NumSumsr5) (.seq (.seq (.reg F_law01_NumSumsr6) (.cond (.t 71) (.seq (.reg F_law01_NumSumsr7) .ret) .skip)) (.seq (.seq (.reg F_law01_NumSumsr8) (.cond (.t 72) (.seq (.reg F_law01_NumSumsr9) (.seq (.reg F_law01_NumSumsr10) .ret)) .skip)) (.seq (.reg F_law01_NumSumsr11) .ret))))))))) env H Q := Iff.rfl
def F_law01_NumSums : IFn := ⟨93, [.tmp 4], F_law01_NumSumsc⟩
theorem F_law01_NumSums_chk : chkF Try.prog 4 F_law01_NumSums = true := by kernel_rfl

/-! ### num_Add -/
def F_num_Addr0 : List IStmt := [
  ⟨some 4, .mv (.c (.int .u64 0)), none⟩,
  ⟨some 5, .mv (.c (.bool false)), none⟩]
theorem F_num_Addr0_W {T : Tab} {env : Env} {H : Heap} {Q : Post} : W T (.reg F_num_Addr0) env H Q ↔ WR T F_num_Addr0 [
  ⟨some 4, .mv (.c (.int .u64 0)), none⟩,
  ⟨some 5, .mv (.c (.bool false)), none⟩] env H none [] Q := w_reg
def F_num_Addr1 : List IStmt := [
  ⟨some 6, .mv (.t 0), none⟩,
  ⟨some 7, .mv (.t 1), none⟩,
  ⟨some 8, .bin .sub (.c (.int .u64 18446744073709551615)) (.t 7), none⟩,
  ⟨some 9, .bin .gtr (.t 6) (.t 8), none⟩]
theorem F_num_Addr1_W {T : Tab} {env : Env} {H : Heap} {Q : Post} : W T (.reg F_num_Addr1) env H Q ↔ WR T F_num_Addr1 [
  ⟨some 6, .mv (.t 0), none⟩,
  ⟨some 7, .mv (.t 1), none⟩,
  ⟨some 8, .bin .sub (.c (.int .u64 18446744073709551615)) (.t 7), none⟩,
  ⟨some 9, .bin .gtr (.t 6) (.t 8), none⟩] env H none [] Q := w_reg
def F_num_Addr2 : List IStmt := [
  ⟨some 4, .mv (.c (.int .u64 0)), none⟩,
  ⟨some 5, .mv (.c (.bool false)), none⟩]
theorem F_num_Addr2_W {T : Tab} {env : Env} {H : Heap} {Q : Post} : W T (.reg F_num_Addr2) env H Q ↔ WR T F_num_Addr2 [
  ⟨some 4, .mv (.c (.int .u64 0)), none⟩,
  ⟨some 5, .mv (.c (.bool false)), none⟩] env H none [] Q := w_reg
def F_num_Addr3 : List IStmt := [
  ⟨some 10, .mv (.t 0), none⟩,
  ⟨some 11, .mv (.t 1), none⟩,
  ⟨some 12, .bin .add (.t 10) (.t 11), none⟩,
  ⟨some 4, .mv (.t 12), none⟩,
  ⟨some 5, .mv (.c (.bool true)), none⟩]
theorem F_num_Addr3_W {T : Tab} {env : Env} {H : Heap} {Q : Post} : W T (.reg F_num_Addr3) env H Q ↔ WR T F_num_Addr3 [
  ⟨some 10, .mv (.t 0), none⟩,
  ⟨some 11, .mv (.t 1), none⟩,
  ⟨some 12, .bin .add (.t 10) (.t 11), none⟩,
  ⟨some 4, .mv (.t 12), none⟩,
  ⟨some 5, .mv (.c (.bool true)), none⟩] env H none [] Q := w_reg
def F_num_Addc : ICode := (.seq (.reg F_num_Addr0) (.seq (.seq (.reg F_num_Addr1) (.cond (.t 9) (.seq (.reg F_num_Addr2) .ret) .skip)) (.seq (.reg F_num_Addr3) .ret)))
theorem F_num_Addc_W {T : Tab} {env : Env} {H : Heap} {Q : Post} : W T F_num_Addc env H Q ↔ W T (.seq (.reg F_num_Addr0) (.seq (.seq (.reg F_num_Addr1) (.cond (.t 9) (.seq (.reg F_num_Addr2) .ret) .skip)) (.seq (.reg F_num_Addr3) .ret))) env H Q := Iff.rfl
def F_num_Add : IFn := ⟨13, [.tmp 4, .tmp 5], F_num_Addc⟩
theorem F_num_Add_chk : chkF Try.prog 13 F_num_Add = true := by kernel_rfl

/-! ### ref01_Add -/
def F_ref01_Addr0 : List IStmt := [
  ⟨some 4, .mv (.c (.int .u64 0)), none⟩,
  ⟨some 5, .mv (.c (.bool false)), none⟩]
theorem F_ref01_Addr0_W {T : Tab} {env : Env} {H : Heap} {Q : Post} : W T (.reg F_ref01_Addr0) env H Q ↔ WR T F_ref01_Addr0 [
  ⟨some 4, .mv (.c (.int .u64 0)), none⟩,
  ⟨some 5, .mv (.c (.bool false)), none⟩] env H none [] Q := w_reg
def F_ref01_Addr1 : List IStmt := [
  ⟨some 7, .mv (.t 0), none⟩,
  ⟨some 8, .mv (.t 1), none⟩,
  ⟨some 9, .call 35 [(.t 7), (.t 8)], none⟩,
  ⟨some 6, .alloc 2 [.int .u64 0, .int .u64 0], none⟩,
  ⟨none, .store 2 (.t 6) (.t 9), none⟩]
theorem F_ref01_Addr1_W {T : Tab} {env : Env} {H : Heap} {Q : Post} : W T (.reg F_ref01_Addr1) env H Q ↔ WR T F_ref01_Addr1 [
  ⟨some 7, .mv (.t 0), none⟩,
  ⟨some 8, .mv (.t 1), none⟩,
  ⟨some 9, .call 35 [(.t 7), (.t 8)], none⟩,
  ⟨some 6, .alloc 2 [.int .u64 0, .int .u64 0], none⟩,
  ⟨none, .store 2 (.t 6) (.t 9), none⟩] env H none [] Q := w_reg
def F_ref01_Addr2 : List IStmt := [
  ⟨some 10, .fa 0 (.t 6), none⟩,
  ⟨some 11, .load (.t 10), none⟩,
  ⟨some 12, .bin .neq (.t 11) (.c (.int .u64 0)), none⟩]
theorem F_ref01_Addr2_W {T : Tab} {env : Env} {H : Heap} {Q : Post} : W T (.reg F_ref01_Addr2) env H Q ↔ WR T F_ref01_Addr2 [
  ⟨some 10, .fa 0 (.t 6), none⟩,
  ⟨some 11, .load (.t 10), none⟩,
  ⟨some 12, .bin .neq (.t 11) (.c (.int .u64 0)), none⟩] env H none [] Q := w_reg
def F_ref01_Addr3 : List IStmt := [
  ⟨some 4, .mv (.c (.int .u64 0)), none⟩,
  ⟨some 5, .mv (.c (.bool false)), none⟩]
theorem F_ref01_Addr3_W {T : Tab} {env : Env} {H : Heap} {Q : Post} : W T (.reg F_ref01_Addr3) env H Q ↔ WR T F_ref01_Addr3 [
  ⟨some 4, .mv (.c (.int .u64 0)), none⟩,
  ⟨some 5, .mv (.c (.bool false)), none⟩] env H none [] Q := w_reg
def F_ref01_Addr4 : List IStmt := [
  ⟨some 13, .fa 1 (.t 6), none⟩,
  ⟨some 14, .load (.t 13), none⟩,
  ⟨some 4, .mv (.t 14), none⟩,
  ⟨some 5, .mv (.c (.bool true)), none⟩]
theorem F_ref01_Addr4_W {T : Tab} {env : Env} {H : Heap} {Q : Post} : W T (.reg F_ref01_Addr4) env H Q ↔ WR T F_ref01_Addr4 [
  ⟨some 13, .fa 1 (.t 6), none⟩,
  ⟨some 14, .load (.t 13), none⟩,
  ⟨some 4, .mv (.t 14), none⟩,
  ⟨some 5, .mv (.c (.bool true)), none⟩] env H none [] Q := w_reg
def F_ref01_Addc : ICode := (.seq (.reg F_ref01_Addr0) (.seq (.reg F_ref01_Addr1) (.seq (.seq (.reg F_ref01_Addr2) (.cond (.t 12) (.seq (.reg F_ref01_Addr3) .ret) .skip)) (.seq (.reg F_ref01_Addr4) .ret))))
theorem F_ref01_Addc_W {T : Tab} {env : Env} {H : Heap} {Q : Post} : W T F_ref01_Addc env H Q ↔ W T (.seq (.reg F_ref01_Addr0) (.seq (.reg F_ref01_Addr1) (.seq (.seq (.reg F_ref01_Addr2) (.cond (.t 12) (.seq (.reg F_ref01_Addr3) .ret) .skip)) (.seq (.reg F_ref01_Addr4) .ret)))) env H Q := Iff.rfl
def F_ref01_Add : IFn := ⟨15, [.tmp 4, .tmp 5], F_ref01_Addc⟩
theorem F_ref01_Add_chk : chkF Try.prog 14 F_ref01_Add = true := by kernel_rfl

/-! ### num_Mul -/
def F_num_Mulr0 : List IStmt := [
  ⟨some 4, .mv (.c (.int .u64 0)), none⟩,
  ⟨some 5, .mv (.c (.bool false)), none⟩]
theorem F_num_Mulr0_W {T : Tab} {env : Env} {H : Heap} {Q : Post} : W T (.reg F_num_Mulr0) env H Q ↔ WR T F_num_Mulr0 [
  ⟨some 4, .mv (.c (.int .u64 0)), none⟩,
  ⟨some 5, .mv (.c (.bool false)), none⟩] env H none [] Q := w_reg
def F_num_Mulr1 : List IStmt := [
  ⟨some 6, .mv (.t 0), none⟩,
  ⟨some 7, .bin .neq (.t 6) (.c (.int .u64 0)), none⟩,
  ⟨some 8, .mv (.t 7), none⟩,
  ⟨some 9, .mv (.t 1), some (2, true)⟩,
  ⟨some 10, .mv (.t 0), some (2, true)⟩,
  ⟨some 11, .bin .quo (.c (.int .u64 18446744073709551615)) (.t 10), some (2, true)⟩,
  ⟨some 12, .bin .gtr (.t 9) (.t 11), some (2, true)⟩,
  ⟨some 13, .pick (.t 8) (.t 12) (.c (.bool false)), none⟩]
theorem F_num_Mulr1_W {T : Tab} {env : Env} {H : Heap} {Q : Post} : W T (.reg F_num_Mulr1) env H Q ↔ WR T F_num_Mulr1 [
  ⟨some 6, .mv (.t 0), none⟩,
  ⟨some 7, .bin .neq (.t 6) (.c (.int .u64 0)), none⟩,
  ⟨some 8, .mv (.t 7), none⟩,
  ⟨some 9, .mv (.t 1), some (2, true)⟩,
  ⟨some 10, .mv (.t 0), some (2, true)⟩,
  ⟨some 11, .bin .quo (.c (.int .u64 18446744073709551615)) (.t 10), some (2, true)⟩,
  ⟨some 12, .bin .gtr (.t 9) (.t 11), some (2, true)⟩,
  ⟨some 13, .pick (.t 8) (.t 12) (.c (.bool false)), none⟩] env H none [] Q := w_reg
theorem F_num_Mulr1_g2 {env : Env} : yieldI F_num_Mulr1 env 2 = bOf (env 8) := rfl
def F_num_Mulr2 : List IStmt := [
  ⟨some 4, .mv (.c (.int .u64 0)), none⟩,
  ⟨some 5, .mv (.c (.bool false)), none⟩]
theorem F_num_Mulr2_W {T : Tab} {env : Env} {H : Heap} {Q : Post} : W T (.reg F_num_Mulr2) env H Q ↔ WR T F_num_Mulr2 [
  ⟨some 4, .mv (.c (.int .u64 0)), none⟩,
  ⟨some 5, .mv (.c (.bool false)), none⟩] env H none [] Q := w_reg
def F_num_Mulr3 : List IStmt := [
  ⟨some 14, .mv (.t 0), none⟩,
  ⟨some 15, .mv (.t 1), none⟩,
  ⟨some 16, .bin .mul (.t 14) (.t 15), none⟩,
  ⟨some 4, .mv (.t 16), none⟩,
  ⟨some 5, .mv (.c (.bool true)), none⟩]
theorem F_num_Mulr3_W {T : Tab} {env : Env} {H : Heap} {Q : Post} : W T (.reg F_num_Mulr3) env H Q ↔ WR T F_num_Mulr3 [
  ⟨some 14, .mv (.t 0), none⟩,
  ⟨some 15, .mv (.t 1), none⟩,
  ⟨some 16, .bin .mul (.t 14) (.t 15), none⟩,
  ⟨some 4, .mv (.t 16), none⟩,
  ⟨some 5, .mv (.c (.bool true)), none⟩] env H none [] Q := w_reg
def F_num_Mulc : ICode := (.seq (.reg F_num_Mulr0) (.seq (.seq (.reg F_num_Mulr1) (.cond (.t 13) (.seq (.reg F_num_Mulr2) .ret) .skip)) (.seq (.reg F_num_Mulr3) .ret)))
theorem F_num_Mulc_W {T : Tab} {env : Env} {H : Heap} {Q : Post} : W T F_num_Mulc env H Q ↔ W T (.seq (.reg F_num_Mulr0) (.seq (.seq (.reg F_num_Mulr1) (.cond (.t 13) (.seq (.reg F_num_Mulr2) .ret) .skip)) (.seq (.reg F_num_Mulr3) .ret))) env H Q := Iff.rfl
def F_num_Mul : IFn := ⟨17, [.tmp 4, .tmp 5], F_num_Mulc⟩
theorem F_num_Mul_chk : chkF Try.prog 15 F_num_Mul = true := by kernel_rfl

/-! ### ref01_Mul -/
def F_ref01_Mulr0 : List IStmt := [
  ⟨some 4, .mv (.c (.int .u64 0)), none⟩,
  ⟨some 5, .mv (.c (.bool false)), none⟩]
theorem F_ref01_Mulr0_W {T : Tab} {env : Env} {H : Heap} {Q : Post} : W T (.reg F_ref01_Mulr0) env H Q ↔ WR T F_ref01_Mulr0 [
  ⟨some 4, .mv (.c (.int .u64 0)), none⟩,
  ⟨some 5, .mv (.c (.bool false)), none⟩] env H none [] Q := w_reg
def F_ref01_Mulr1 : List IStmt := [
  ⟨some 6, .mv (.c (.int .u64 0)), none⟩,
  ⟨some 7, .mv (.c (.bool true)), none⟩]
theorem F_ref01_Mulr1_W {T : Tab} {env : Env} {H : Heap} {Q : Post} : W T (.reg F_ref01_Mulr1) env H Q ↔ WR T F_ref01_Mulr1 [
  ⟨some 6, .mv (.c (.int .u64 0)), none⟩,
  ⟨some 7, .mv (.c (.bool true)), none⟩] env H none [] Q := w_reg
def F_ref01_Mulr2 : List IStmt := [
  ⟨some 14, .mv (.t 0), none⟩,
  ⟨some 8, .mv (.t 14), none⟩,
  ⟨some 9, .mv (.c (.bool true)), none⟩]
theorem F_ref01_Mulr2_W {T : Tab} {env : Env} {H : Heap} {Q : Post} : W T (.reg F_ref01_Mulr2) env H Q ↔ WR T F_ref01_Mulr2 [
  ⟨some 14, .mv (.t 0), none⟩,
  ⟨some 8, .mv (.t 14), none⟩,
  ⟨some 9, .mv (.c (.bool true)), none⟩] env H none [] Q := w_reg
def F_ref01_Mulr3 : List IStmt := [
  ⟨some 15, .mv (.t 1), none⟩,
  ⟨some 16, .bin .gtr (.t 15) (.c (.int .u64 0)), none⟩]
theorem F_ref01_Mulr3_W {T : Tab} {env : Env} {H : Heap} {Q : Post} : W T (.reg F_ref01_Mulr3) env H Q ↔ WR T F_ref01_Mulr3 [
  ⟨some 15, .mv (.t 1), none⟩,
  ⟨some 16, .bin .gtr (.t 15) (.c (.int .u64 0)), none⟩] env H none [] Q := w_reg
def F_ref01_Mulr4 : List IStmt := [
  ⟨some 17, .mv (.t 1), none⟩,
  ⟨some 18, .bin .rem (.t 17) (.c (.int .u64 2)), none⟩,
  ⟨some 19, .bin .eql (.t 18) (.c (.int .u64 1)), none⟩]
theorem F_ref01_Mulr4_W {T : Tab} {env : Env} {H : Heap} {Q : Post} : W T (.reg F_ref01_Mulr4) env H Q ↔ WR T F_ref01_Mulr4 [
  ⟨some 17, .mv (.t 1), none⟩,
  ⟨some 18, .bin .rem (.t 17) (.c (.int .u64 2)), none⟩,
  ⟨some 19, .bin .eql (.t 18) (.c (.int .u64 1)), none⟩] env H none [] Q := w_reg
def F_ref01_Mulr5 : List IStmt := [
  ⟨some 21, .mv (.t 6), none⟩,
  ⟨some 22, .mv (.t 8), none⟩,
  ⟨some 23, .call 14 [(.t 21), (.t 22)], none⟩,
  ⟨some 20, .mv (.t 23), none⟩,
  ⟨some 24, .ext (.t 20) 0, none⟩,
  ⟨some 25, .ext (.t 20) 1, none⟩,
  ⟨some 10, .mv (.t 24), none⟩,
  ⟨some 11, .mv (.t 25), none⟩]
theorem F_ref01_Mulr5_W {T : Tab} {env : Env} {H : Heap} {Q : Post} : W T (.reg F_ref01_Mulr5) env H Q ↔ WR T F_ref01_Mulr5 [
  ⟨some 21, .mv (.t 6), none⟩,
  ⟨some 22, .mv (.t 8), none⟩,
  ⟨some 23, .call 14 [(.t 21), (.t 22)], none⟩,
  ⟨some 20, .mv (.t 23), none⟩,
  ⟨some 24, .ext (.t 20) 0, none⟩,
  ⟨some 25, .ext (.t 20) 1, none⟩,
  ⟨some 10, .mv (.t 24), none⟩,
  ⟨some 11, .mv (.t 25), none⟩] env H none [] Q := w_reg
def F_ref01_Mulr6 : List IStmt := [
  ⟨some 26, .mv (.t 11), none⟩,
  ⟨some 27, .un .not (.t 26), none⟩,
  ⟨some 28, .mv (.t 27), none⟩,
  ⟨some 29, .mv (.t 9), some (2, false)⟩,
  ⟨some 30, .un .not (.t 29), some (2, false)⟩,
  ⟨some 31, .pick (.t 28) (.c (.bool true)) (.t 30), none⟩]
theorem F_ref01_Mulr6_W {T : Tab} {env : Env} {H : Heap} {Q : Post} : W T (.reg F_ref01_Mulr6) env H Q ↔ WR T F_ref01_Mulr6 [
  ⟨some 26, .mv (.t 11), none⟩,
  ⟨some 27, .un .not (.t 26), none⟩,
  ⟨some 28, .mv (.t 27), none⟩,
  ⟨some 29, .mv (.t 9), some (2, false)⟩,
  ⟨some 30, .un .not (.t 29), some (2, false)⟩,
  ⟨some 31, .pick (.t 28) (.c (.bool true)) (.t 30), none⟩] env H none [] Q := w_reg
theorem F_ref01_Mulr6_g2 {env : Env} : yieldI F_ref01_Mulr6 env 2 = bOf (env 28) := rfl
def F_ref01_Mulr7 : List IStmt := [
  ⟨some 7, .mv (.c (.bool false)), none⟩]
theorem F_ref01_Mulr7_W {T : Tab} {env : Env} {H : Heap} {Q : Post} : W T (.reg F_ref01_Mulr7) env H Q ↔ WR T F_ref01_Mulr7 [
  ⟨some 7, .mv (.c (.bool false)), none⟩] env H none [] Q := w_reg
def F_ref01_Mulr8 : List IStmt := [
  ⟨some 32, .mv (.t 10), none⟩,
  ⟨some 6, .mv (.t 32), none⟩]
theorem F_ref01_Mulr8_W {T : Tab} {env : Env} {H : Heap} {Q : Post} : W T (.reg F_ref01_Mulr8) env H Q ↔ WR T F_ref01_Mulr8 [
  ⟨some 32, .mv (.t 10), none⟩,
  ⟨some 6, .mv (.t 32), none⟩] env H none [] Q := w_reg
def F_ref01_Mulr9 : List IStmt := [
  ⟨some 33, .mv (.t 1), none⟩,
  ⟨some 34, .bin .quo (.t 33) (.c (.int .u64 2)), none⟩,
  ⟨some 1, .mv (.t 34), none⟩]
theorem F_ref01_Mulr9_W {T : Tab} {env : Env} {H : Heap} {Q : Post} : W T (.reg F_ref01_Mulr9) env H Q ↔ WR T F_ref01_Mulr9 [
  ⟨some 33, .mv (.t 1), none⟩,
  ⟨some 34, .bin .quo (.t 33) (.c (.int .u64 2)), none⟩,
  ⟨some 1, .mv (.t 34), none⟩] env H none [] Q := w_reg
def F_ref01_Mulr10 : List IStmt := [
  ⟨some 36, .mv (.t 8), none⟩,
  ⟨some 37, .mv (.t 8), none⟩,
  ⟨some 38, .call 14 [(.t 36), (.t 37)], none⟩,
  ⟨some 35, .mv (.t 38), none⟩,
  ⟨some 39, .ext (.t 35) 0, none⟩,
  ⟨some 40, .ext (.t 35) 1, none⟩,
  ⟨some 12, .mv (.t 39), none⟩,
  ⟨some 13, .mv (.t 40), none⟩]
theorem F_ref01_Mulr10_W {T : Tab} {env : Env} {H : Heap} {Q : Post} : W T (.reg F_ref01_Mulr10) env H Q ↔ WR T F_ref01_Mulr10 [
  ⟨some 36, .mv (.t 8), none⟩,
  ⟨some 37, .mv (.t 8), none⟩,
  ⟨some 38, .call 14 [(.t 36), (.t 37)], none⟩,
  ⟨some 35, .mv (.t 38), none⟩,
  ⟨some 39, .ext (.t 35) 0, none⟩,
  ⟨some 40, .ext (.t 35) 1, none⟩,
  ⟨some 12, .mv (.t 39), none⟩,
  ⟨some 13, .mv (.t 40), none⟩] env H none [] Q := w_reg
def F_ref01_Mulr11 : List IStmt := [
  ⟨some 41, .mv (.t 13), none⟩,
  ⟨some 42, .un .not (.t 41), none⟩]
theorem F_ref01_Mulr11_W {T : Tab} {env : Env} {H : Heap} {Q : Post} : W T (.reg F_ref01_Mulr11) env H Q ↔ WR T F_ref01_Mulr11 [
  ⟨some 41, .mv (.t 13), none⟩,
  ⟨some 42, .un .not (.t 41), none⟩] env H none [] Q := w_reg
def F_ref01_Mulr12 : List IStmt := [
  ⟨some 9, .mv (.c (.bool false)), none⟩]
theorem F_ref01_Mulr12_W {T : Tab} {env : Env} {H : Heap} {Q : Post} : W T (.reg F_ref01_Mulr12) env H Q ↔ WR T F_ref01_Mulr12 [
  ⟨some 9, .mv (.c (.bool false)), none⟩] env H none [] Q := w_reg
def F_ref01_Mulr13 : List IStmt := [
  ⟨some 43, .mv (.t 12), none⟩,
  ⟨some 8, .mv (.t 43), none⟩]
theorem F_ref01_Mulr13_W {T : Tab} {env : Env} {H : Heap} {Q : Post} : W T (.reg F_ref01_Mulr13) env H Q ↔ WR T F_ref01_Mulr13 [
  ⟨some 43, .mv (.t 12), none⟩,
  ⟨some 8, .mv (.t 43), none⟩] env H none [] Q := w_reg
def F_ref01_Mull0 : ICode := (.seq (.seq (.reg F_ref01_Mulr3) (.cond (.t 16) .skip (.exit 0))) (.block 1 (.seq (.seq (.reg F_ref01_Mulr4) (.cond (.t 19) (.seq (.reg F_ref01_Mulr5) (.seq (.seq (.reg F_ref01_Mulr6) (.cond (.t 31) (.reg F_ref01_Mulr7) .skip)) (.reg F_ref01_Mulr8))) .skip)) (.seq (.reg F_ref01_Mulr9) (.seq (.reg F_ref01_Mulr10) (.seq (.seq (.reg F_ref01_Mulr11) (.cond (.t 42) (.reg F_ref01_Mulr12) .skip)) (.reg F_ref01_Mulr13)))))))
theorem F_ref01_Mull0_W {T : Tab} {env : Env} {H : Heap} {Q : Post} : W T F_ref01_Mull0 env H Q ↔ W T (.seq (.seq (.reg F_ref01_Mulr3) (.cond (.t 16) .skip (.exit 0))) (.block 1 (.seq (.seq (.reg F_ref01_Mulr4) (.cond (.t 19) (.seq (.reg F_ref01_Mulr5) (.seq (.seq (.reg F_ref01_Mulr6) (.cond (.t 31) (.reg F_ref01_Mulr7) .skip)) (.reg F_ref01_Mulr8))) .skip)) (.seq (.reg F_ref01_Mulr9) (.seq (.reg F_ref01_Mulr10) (.seq (.seq (.reg F_ref01_Mulr11) (.cond (.t 42) (.reg F_ref01_Mulr12) .skip)) (.reg F_ref01_Mulr13))))))) env H Q := Iff.rfl
def F_ref01_Mulr14 : List IStmt := [
  ⟨some 44, .mv (.t 0), none⟩,
  ⟨some 45, .bin .eql (.t 44) (.c (.int .u64 0)), none⟩]
theorem F_ref01_Mulr14_W {T : Tab} {env : Env} {H : Heap} {Q : Post} : W T (.reg F_ref01_Mulr14) env H Q ↔ WR T F_ref01_Mulr14 [
  ⟨some 44, .mv (.t 0), none⟩,
  ⟨some 45, .bin .eql (.t 44) (.c (.int .u64 0)), none⟩] env H none [] Q := w_reg
def F_ref01_Mulr15 : List IStmt := [
  ⟨some 4, .mv (.c (.int .u64 0)), none⟩,
  ⟨some 5, .mv (.c (.bool true)), none⟩]
theorem F_ref01_Mulr15_W {T : Tab} {env : Env} {H : Heap} {Q : Post} : W T (.reg F_ref01_Mulr15) env H Q ↔ WR T F_ref01_Mulr15 [
  ⟨some 4, .mv (.c (.int .u64 0)), none⟩,
  ⟨some 5, .mv (.c (.bool true)), none⟩] env H none [] Q := w_reg
def F_ref01_Mulr16 : List IStmt := [
  ⟨some 46, .mv (.t 7), none⟩,
  ⟨some 47, .un .not (.t 46), none⟩]
theorem F_ref01_Mulr16_W {T : Tab} {env : Env} {H : Heap} {Q : Post} : W T (.reg F_ref01_Mulr16) env H Q ↔ WR T F_ref01_Mulr16 [
  ⟨some 46, .mv (.t 7), none⟩,
  ⟨some 47, .un .not (.t 46), none⟩] env H none [] Q := w_reg
def F_ref01_Mulr17 : List IStmt := [
  ⟨some 4, .mv (.c (.int .u64 0)), none⟩,
  ⟨some 5, .mv (.c (.bool false)), none⟩]
theorem F_ref01_Mulr17_W {T : Tab} {env : Env} {H : Heap} {Q : Post} : W T (.reg F_ref01_Mulr17) env H Q ↔ WR T F_ref01_Mulr17 [
  ⟨some 4, .mv (.c (.int .u64 0)), none⟩,
  ⟨some 5, .mv (.c (.bool false)), none⟩] env H none [] Q := w_reg
def F_ref01_Mulr18 : List IStmt := [
  ⟨some 48, .mv (.t 6), none⟩,
  ⟨some 4, .mv (.t 48), none⟩,
  ⟨some 5, .mv (.c (.bool true)), none⟩]
theorem F_ref01_Mulr18_W {T : Tab} {env : Env} {H : Heap} {Q : Post} : W T (.reg F_ref01_Mulr18) env H Q ↔ WR T F_ref01_Mulr18 [
  ⟨some 48, .mv (.t 6), none⟩,
  ⟨some 4, .mv (.t 48), none⟩,
  ⟨some 5, .mv (.c (.bool true)), none⟩] env H none [] Q := w_reg
def F_ref01_Mulc : ICode := (.seq (.reg F_ref01_Mulr0) (.seq (.reg F_ref01_Mulr1) (.seq (.reg F_ref01_Mulr2) (.seq (.block 0 (.loop F_ref01_Mull0)) (.seq (.seq (.reg F_ref01_Mulr14) (.cond (.t 45) (.seq (.reg F_ref01_Mulr15) .ret) .skip)) (.seq (.seq (.reg F_ref01_Mulr16) (.cond (.t 47) (.seq (.reg F_ref01_Mulr17) .ret) .skip)) (.seq (.reg F_ref01_Mulr18) .ret)))))))
theorem F_ref01_Mulc_W {T : Tab} {env : Env} {H : Heap} {Q : Post} : W T F_ref01_Mulc env H Q ↔ W T (.seq (.reg F_ref01_Mulr0) (.seq (.reg F_ref01_Mulr1) (.seq (.reg F_ref01_Mulr2) (.seq (.block 0 (.loop F_ref01_Mull0)) (.seq (.seq (.reg F_ref01_Mulr14) (.cond (.t 45) (.seq (.reg F_ref01_Mulr15) .ret) .skip)) (.seq (.seq (.reg F_ref01_Mulr16) (.cond (.t 47) (.seq (.reg F_ref01_Mulr17) .ret) .skip)) (.seq (.reg F_ref01_Mulr18) .ret))))))) env H Q := Iff.rfl
def F_ref01_Mul : IFn := ⟨49, [.tmp 4, .tmp 5], F_ref01_Mulc⟩
theorem F_ref01_Mul_chk : chkF Try.prog 16 F_ref01_Mul = true := by kernel_rfl

/-! ### num_Sub -/
def F_num_Subr0 : List IStmt := [
  ⟨some 4, .mv (.c (.int .u64 0)), none⟩,
  ⟨some 5, .mv (.c (.bool false)), none⟩]
theorem F_num_Subr0_W {T : Tab} {env : Env} {H : Heap} {Q : Post} : W T (.reg F_num_Subr0) env H Q ↔ WR T F_num_Subr0 [
  ⟨some 4, .mv (.c (.int .u64 0)), none⟩,
  ⟨some 5, .mv (.c (.bool false)), none⟩] env H none [] Q := w_reg
def F_num_Subr1 : List IStmt := [
  ⟨some 6, .mv (.t 0), none⟩,
  ⟨some 7, .mv (.t 1), none⟩,
  ⟨some 8, .bin .lss (.t 6) (.t 7), none⟩]
theorem F_num_Subr1_W {T : Tab} {env : Env} {H : Heap} {Q : Post} : W T (.reg F_num_Subr1) env H Q ↔ WR T F_num_Subr1 [
  ⟨some 6, .mv (.t 0), none⟩,
  ⟨some 7, .mv (.t 1), none⟩,
  ⟨some 8, .bin .lss (.t 6) (.t 7), none⟩] env H none [] Q := w_reg
def F_num_Subr2 : List IStmt := [
  ⟨some 4, .mv (.c (.int .u64 0)), none⟩,
  ⟨some 5, .mv (.c (.bool false)), none⟩]
theorem F_num_Subr2_W {T : Tab} {env : Env} {H : Heap} {Q : Post} : W T (.reg F_num_Subr2) env H Q ↔ WR T F_num_Subr2 [
  ⟨some 4, .mv (.c (.int .u64 0)), none⟩,
  ⟨some 5, .mv (.c (.bool false)), none⟩] env H none [] Q := w_reg
def F_num_Subr3 : List IStmt := [
  ⟨some 9, .mv (.t 0), none⟩,
  ⟨some 10, .mv (.t 1), none⟩,
  ⟨some 11, .bin .sub (.t 9) (.t 10), none⟩,
  ⟨some 4, .mv (.t 11), none⟩,
  ⟨some 5, .mv (.c (.bool true)), none⟩]
theorem F_num_Subr3_W {T : Tab} {env : Env} {H : Heap} {Q : Post} : W T (.reg F_num_Subr3) env H Q ↔ WR T F_num_Subr3 [
  ⟨some 9, .mv (.t 0), none⟩,
  ⟨some 10, .mv (.t 1), none⟩,
  ⟨some 11, .bin .sub (.t 9) (.t 10), none⟩,
  ⟨some 4, .mv (.t 11), none⟩,
  ⟨some 5, .mv (.c (.bool true)), none⟩] env H none [] Q := w_reg
def F_num_Subc : ICode := (.seq (.reg F_num_Subr0) (.seq (.seq (.reg F_num_Subr1) (.cond (.t 8) (.seq (.reg F_num_Subr2) .ret) .skip)) (.seq (.reg F_num_Subr3) .ret)))
theorem F_num_Subc_W {T : Tab} {env : Env} {H : Heap} {Q : Post} : W T F_num_Subc env H Q ↔ W T (.seq (.reg F_num_Subr0) (.seq (.seq (.reg F_num_Subr1) (.cond (.t 8) (.seq (.reg F_num_Subr2) .ret) .skip)) (.seq (.reg F_num_Subr3) .ret))) env H Q := Iff.rfl
def F_num_Sub : IFn := ⟨12, [.tmp 4, .tmp 5], F_num_Subc⟩
theorem F_num_Sub_chk : chkF Try.prog 17 F_num_Sub = true := by kernel_rfl

/-! ### law01_alive -/
def F_law01_aliver0 : List IStmt := [
  ⟨some 0, .mv (.c (.bool false)), none⟩]
theorem F_law01_aliver0_W {T : Tab} {env : Env} {H : Heap} {Q : Post} : W T (.reg F_law01_aliver0) env H Q ↔ WR T F_law01_aliver0 [
  ⟨some 0, .mv (.c (.bool false)), none⟩] env H none [] Q := w_reg
def F_law01_aliver1 : List IStmt := [
  ⟨some 6, .call 19 [(.c (.int .u64 257)), (.c (.int .u64 256))], none⟩,
  ⟨some 5, .mv (.t 6), none⟩,
  ⟨some 7, .ext (.t 5) 0, none⟩,
  ⟨some 8, .ext (.t 5) 1, none⟩,
  ⟨some 1, .mv (.t 7), none⟩,
  ⟨some 2, .mv (.t 8), none⟩]
theorem F_law01_aliver1_W {T : Tab} {env : Env} {H : Heap} {Q : Post} : W T (.reg F_law01_aliver1) env H Q ↔ WR T F_law01_aliver1 [
  ⟨some 6, .call 19 [(.c (.int .u64 257)), (.c (.int .u64 256))], none⟩,
  ⟨some 5, .mv (.t 6), none⟩,
  ⟨some 7, .ext (.t 5) 0, none⟩,
  ⟨some 8, .ext (.t 5) 1, none⟩,
  ⟨some 1, .mv (.t 7), none⟩,
  ⟨some 2, .mv (.t 8), none⟩] env H none [] Q := w_reg
def F_law01_aliver2 : List IStmt := [
  ⟨some 10, .call 27 [(.c (.string ⟨#[48, 120, 49, 48, 48, 48]⟩))], none⟩,
  ⟨some 9, .mv (.t 10), none⟩,
  ⟨some 11, .ext (.t 9) 0, none⟩,
  ⟨some 12, .ext (.t 9) 1, none⟩,
  ⟨some 3, .mv (.t 11), none⟩,
  ⟨some 4, .mv (.t 12), none⟩]
theorem F_law01_aliver2_W {T : Tab} {env : Env} {H : Heap} {Q : Post} : W T (.reg F_law01_aliver2) env H Q ↔ WR T F_law01_aliver2 [
  ⟨some 10, .call 27 [(.c (.string ⟨#[48, 120, 49, 48, 48, 48]⟩))], none⟩,
  ⟨some 9, .mv (.t 10), none⟩,
  ⟨some 11, .ext (.t 9) 0, none⟩,
  ⟨some 12, .ext (.t 9) 1, none⟩,
  ⟨some 3, .mv (.t 11), none⟩,
  ⟨some 4, .mv (.t 12), none⟩] env H none [] Q := w_reg
def F_law01_aliver3 : List IStmt := [
  ⟨some 13, .mv (.t 2), none⟩,
  ⟨some 14, .bin .eql (.t 13) (.c (.int .i64 0)), none⟩,
  ⟨some 15, .mv (.t 14), none⟩,
  ⟨some 16, .mv (.t 1), some (2, true)⟩,
  ⟨some 17, .bin .eql (.t 16) (.c (.int .u64 512)), some (2, true)⟩,
  ⟨some 18, .pick (.t 15) (.t 17) (.c (.bool false)), none⟩,
  ⟨some 19, .mv (.t 18), none⟩,
  ⟨some 20, .mv (.t 4), some (6, true)⟩,
  ⟨some 21, .bin .eql (.t 20) (.c (.int .i64 0)), some (6, true)⟩,
  ⟨some 22, .pick (.t 19) (.t 21) (.c (.bool false)), none⟩,
  ⟨some 23, .mv (.t 22), none⟩,
  ⟨some 24, .mv (.t 3), some (10, true)⟩,
  ⟨some 25, .bin .eql (.t 24) (.c (.int .u64 4096)), some (10, true)⟩,
  ⟨some 26, .pick (.t 23) (.t 25) (.c (.bool false)), none⟩,
  ⟨some 27, .mv (.t 26), none⟩,
  ⟨some 28, .call 23 [(.c (.int .u64 10)), (.c (.int .u64 5)), (.c (.int .u64 8)), (.c (.int .u64 7))], some (14, true)⟩,
  ⟨some 29, .pick (.t 27) (.t 28) (.c (.bool false)), none⟩,
  ⟨some 30, .mv (.t 29), none⟩,
  ⟨some 31, .call 23 [(.c (.int .u64 10)), (.c (.int .u64 6)), (.c (.int .u64 8)), (.c (.int .u64 7))], some (17, true)⟩,
  ⟨some 32, .un .not (.t 31), some (17, true)⟩,
  ⟨some 33, .pick (.t 30) (.t 32) (.c (.bool false)), none⟩,
  ⟨some 34, .mv (.t 33), none⟩,
  ⟨some 35, .call 33 [(.c (.int .i64 7))], some (21, true)⟩,
  ⟨some 36, .bin .eql (.t 35) (.c (.string ⟨#[55]⟩)), some (21, true)⟩,
  ⟨some 37, .pick (.t 34) (.t 36) (.c (.bool false)), none⟩,
  ⟨some 0, .mv (.t 37), none⟩]
theorem F_law01_aliver3_W {T : Tab} {env : Env} {H : Heap} {Q : Post} : W T (.reg F_law01_aliver3) env H Q ↔ WR T F_law01_aliver3 [
  ⟨some 13, .mv (.t 2), none⟩,
  ⟨some 14, .bin .eql (.t 13) (.c (.int .i64 0)), none⟩,
  ⟨some 15, .mv (.t 14), none⟩,
  ⟨some 16, .mv (.t 1), some (2, true)⟩,
  ⟨some 17, .bin .eql (.t 16) (.c (.int .u64 512)), some (2, true)⟩,
  ⟨some 18, .pick (.t 15) (.t 17) (.c (.bool false)), none⟩,
  ⟨some 19, .mv (.t 18), none⟩,
  ⟨some 20, .mv (.t 4), some (6, true)⟩,
  ⟨some 21, .bin .eql (.t 20) (.c (.int .i64 0)), some (6, true)⟩,
  ⟨some 22, .pick (.t 19) (.t 21) (.c (.bool false)), none⟩,
  ⟨some 23, .mv (.t 22), none⟩,
  ⟨some 24, .mv (.t 3), some (10, true)⟩,
  ⟨some 25, .bin .eql (.t 24) (.c (.int .u64 4096)), some (10, true)⟩,
  ⟨some 26, .pick (.t 23) (.t 25) (.c (.bool false)), none⟩,
  ⟨some 27, .mv (.t 26), none⟩,
  ⟨some 28, .call 23 [(.c (.int .u64 10)), (.c (.int .u64 5)), (.c (.int .u64 8)), (.c (.int .u64 7))], some (14, true)⟩,
  ⟨some 29, .pick (.t 27) (.t 28) (.c (.bool false)), none⟩,
  ⟨some 30, .mv (.t 29), none⟩,
  ⟨some 31, .call 23 [(.c (.int .u64 10)), (.c (.int .u64 6)), (.c (.int .u64 8)), (.c (.int .u64 7))], some (17, true)⟩,
  ⟨some 32, .un .not (.t 31), some (17, true)⟩,
  ⟨some 33, .pick (.t 30) (.t 32) (.c (.bool false)), none⟩,
  ⟨some 34, .mv (.t 33), none⟩,
  ⟨some 35, .call 33 [(.c (.int .i64 7))], some (21, true)⟩,
  ⟨some 36, .bin .eql (.t 35) (.c (.string ⟨#[55]⟩)), some (21, true)⟩,
  ⟨some 37, .pick (.t 34) (.t 36) (.c (.bool false)), none⟩,
  ⟨some 0, .mv (.t 37), none⟩] env H none [] Q := w_reg
theorem F_law01_aliver3_g2 {env : Env} : yieldI F_law01_aliver3 env 2 = bOf (env 15) := rfl
theorem F_law01_aliver3_g6 {env : Env} : yieldI F_law01_aliver3 env 6 = bOf (env 19) := rfl
theorem F_law01_aliver3_g10 {env : Env} : yieldI F_law01_aliver3 env 10 = bOf (env 23) := rfl
theorem F_law01_aliver3_g14 {env : Env} : yieldI F_law01_aliver3 env 14 = bOf (env 27) := rfl
theorem F_law01_aliver3_g17 {env : Env} : yieldI F_law01_aliver3 env 17 = bOf (env 30) := rfl
theorem F_law01_aliver3_g21 {env : Env} : yieldI F_law01_aliver3 env 21 = bOf (env 34) := rfl
def F_law01_alivec : ICode := (.seq (.reg F_law01_aliver0) (.seq (.reg F_law01_aliver1) (.seq (.reg F_law01_aliver2) (.seq (.reg F_law01_aliver3) .ret))))
theorem F_law01_alivec_W {T : Tab} {env : Env} {H : Heap} {Q : Post} : W T F_law01_alivec env H Q ↔ W T (.seq (.reg F_law01_aliver0) (.seq (.reg F_law01_aliver1) (.seq (.reg F_law01_aliver2) (.seq (.reg F_law01_aliver3) .ret)))) env H Q := Iff.rfl
def F_law01_alive : IFn := ⟨38, [.tmp 0], F_law01_alivec⟩
theorem F_law01_alive_chk : chkF Try.prog 12 F_law01_alive = true := by kernel_rfl

/-! ### num_Inside -/
def F_num_Insider0 : List IStmt := [
  ⟨some 8, .mv (.c (.bool false)), none⟩]
theorem F_num_Insider0_W {T : Tab} {env : Env} {H : Heap} {Q : Post} : W T (.reg F_num_Insider0) env H Q ↔ WR T F_num_Insider0 [
  ⟨some 8, .mv (.c (.bool false)), none⟩] env H none [] Q := w_reg
def F_num_Insider1 : List IStmt := [
  ⟨some 12, .mv (.t 0), none⟩,
  ⟨some 13, .mv (.t 2), none⟩,
  ⟨some 14, .call 17 [(.t 12), (.t 13)], none⟩,
  ⟨some 11, .mv (.t 14), none⟩,
  ⟨some 15, .ext (.t 11) 0, none⟩,
  ⟨some 16, .ext (.t 11) 1, none⟩,
  ⟨some 9, .mv (.t 15), none⟩,
  ⟨some 10, .mv (.t 16), none⟩]
theorem F_num_Insider1_W {T : Tab} {env : Env} {H : Heap} {Q : Post} : W T (.reg F_num_Insider1) env H Q ↔ WR T F_num_Insider1 [
  ⟨some 12, .mv (.t 0), none⟩,
  ⟨some 13, .mv (.t 2), none⟩,
  ⟨some 14, .call 17 [(.t 12), (.t 13)], none⟩,
  ⟨some 11, .mv (.t 14), none⟩,
  ⟨some 15, .ext (.t 11) 0, none⟩,
  ⟨some 16, .ext (.t 11) 1, none⟩,
  ⟨some 9, .mv (.t 15), none⟩,
  ⟨some 10, .mv (.t 16), none⟩] env H none [] Q := w_reg
def F_num_Insider2 : List IStmt := [
  ⟨some 17, .mv (.t 10), none⟩,
  ⟨some 18, .mv (.t 17), none⟩,
  ⟨some 19, .mv (.t 9), some (1, true)⟩,
  ⟨some 20, .mv (.t 3), some (1, true)⟩,
  ⟨some 21, .bin .leq (.t 19) (.t 20), some (1, true)⟩,
  ⟨some 22, .pick (.t 18) (.t 21) (.c (.bool false)), none⟩,
  ⟨some 23, .mv (.t 22), none⟩,
  ⟨some 24, .mv (.t 1), some (6, true)⟩,
  ⟨some 25, .mv (.t 3), some (6, true)⟩,
  ⟨some 26, .mv (.t 9), some (6, true)⟩,
  ⟨some 27, .bin .sub (.t 25) (.t 26), some (6, true)⟩,
  ⟨some 28, .bin .leq (.t 24) (.t 27), some (6, true)⟩,
  ⟨some 29, .pick (.t 23) (.t 28) (.c (.bool false)), none⟩,
  ⟨some 8, .mv (.t 29), none⟩]
theorem F_num_Insider2_W {T : Tab} {env : Env} {H : Heap} {Q : Post} : W T (.reg F_num_Insider2) env H Q ↔ WR T F_num_Insider2 [
  ⟨some 17, .mv (.t 10), none⟩,
  ⟨some 18, .mv (.t 17), none⟩,
  ⟨some 19, .mv (.t 9), some (1, true)⟩,
  ⟨some 20, .mv (.t 3), some (1, true)⟩,
  ⟨some 21, .bin .leq (.t 19) (.t 20), some (1, true)⟩,
  ⟨some 22, .pick (.t 18) (.t 21) (.c (.bool false)), none⟩,
  ⟨some 23, .mv (.t 22), none⟩,
  ⟨some 24, .mv (.t 1), some (6, true)⟩,
  ⟨some 25, .mv (.t 3), some (6, true)⟩,
  ⟨some 26, .mv (.t 9), some (6, true)⟩,
  ⟨some 27, .bin .sub (.t 25) (.t 26), some (6, true)⟩,
  ⟨some 28, .bin .leq (.t 24) (.t 27), some (6, true)⟩,
  ⟨some 29, .pick (.t 23) (.t 28) (.c (.bool false)), none⟩,
  ⟨some 8, .mv (.t 29), none⟩] env H none [] Q := w_reg
theorem F_num_Insider2_g1 {env : Env} : yieldI F_num_Insider2 env 1 = bOf (env 18) := rfl
theorem F_num_Insider2_g6 {env : Env} : yieldI F_num_Insider2 env 6 = bOf (env 23) := rfl
def F_num_Insidec : ICode := (.seq (.reg F_num_Insider0) (.seq (.reg F_num_Insider1) (.seq (.reg F_num_Insider2) .ret)))
theorem F_num_Insidec_W {T : Tab} {env : Env} {H : Heap} {Q : Post} : W T F_num_Insidec env H Q ↔ W T (.seq (.reg F_num_Insider0) (.seq (.reg F_num_Insider1) (.seq (.reg F_num_Insider2) .ret))) env H Q := Iff.rfl
def F_num_Inside : IFn := ⟨30, [.tmp 8], F_num_Insidec⟩
theorem F_num_Inside_chk : chkF Try.prog 23 F_num_Inside = true := by kernel_rfl

/-! ### num_Apart -/
def F_num_Apartr0 : List IStmt := [
  ⟨some 8, .mv (.c (.bool false)), none⟩]
theorem F_num_Apartr0_W {T : Tab} {env : Env} {H : Heap} {Q : Post} : W T (.reg F_num_Apartr0) env H Q ↔ WR T F_num_Apartr0 [
  ⟨some 8, .mv (.c (.bool false)), none⟩] env H none [] Q := w_reg
def F_num_Apartr1 : List IStmt := [
  ⟨some 9, .mv (.t 1), none⟩,
  ⟨some 10, .bin .eql (.t 9) (.c (.int .u64 0)), none⟩,
  ⟨some 11, .mv (.t 10), none⟩,
  ⟨some 12, .mv (.t 3), some (2, false)⟩,
  ⟨some 13, .bin .eql (.t 12) (.c (.int .u64 0)), some (2, false)⟩,
  ⟨some 14, .pick (.t 11) (.c (.bool true)) (.t 13), none⟩]
theorem F_num_Apartr1_W {T : Tab} {env : Env} {H : Heap} {Q : Post} : W T (.reg F_num_Apartr1) env H Q ↔ WR T F_num_Apartr1 [
  ⟨some 9, .mv (.t 1), none⟩,
  ⟨some 10, .bin .eql (.t 9) (.c (.int .u64 0)), none⟩,
  ⟨some 11, .mv (.t 10), none⟩,
  ⟨some 12, .mv (.t 3), some (2, false)⟩,
  ⟨some 13, .bin .eql (.t 12) (.c (.int .u64 0)), some (2, false)⟩,
  ⟨some 14, .pick (.t 11) (.c (.bool true)) (.t 13), none⟩] env H none [] Q := w_reg
theorem F_num_Apartr1_g2 {env : Env} : yieldI F_num_Apartr1 env 2 = bOf (env 11) := rfl
def F_num_Apartr2 : List IStmt := [
  ⟨some 8, .mv (.c (.bool true)), none⟩]
theorem F_num_Apartr2_W {T : Tab} {env : Env} {H : Heap} {Q : Post} : W T (.reg F_num_Apartr2) env H Q ↔ WR T F_num_Apartr2 [
  ⟨some 8, .mv (.c (.bool true)), none⟩] env H none [] Q := w_reg
def F_num_Apartr3 : List IStmt := [
  ⟨some 15, .mv (.t 0), none⟩,
  ⟨some 16, .mv (.t 2), none⟩,
  ⟨some 17, .bin .geq (.t 15) (.t 16), none⟩]
theorem F_num_Apartr3_W {T : Tab} {env : Env} {H : Heap} {Q : Post} : W T (.reg F_num_Apartr3) env H Q ↔ WR T F_num_Apartr3 [
  ⟨some 15, .mv (.t 0), none⟩,
  ⟨some 16, .mv (.t 2), none⟩,
  ⟨some 17, .bin .geq (.t 15) (.t 16), none⟩] env H none [] Q := w_reg
def F_num_Apartr4 : List IStmt := [
  ⟨some 18, .mv (.t 0), none⟩,
  ⟨some 19, .mv (.t 2), none⟩,
  ⟨some 20, .bin .sub (.t 18) (.t 19), none⟩,
  ⟨some 21, .mv (.t 3), none⟩,
  ⟨some 22, .bin .geq (.t 20) (.t 21), none⟩,
  ⟨some 8, .mv (.t 22), none⟩]
theorem F_num_Apartr4_W {T : Tab} {env : Env} {H : Heap} {Q : Post} : W T (.reg F_num_Apartr4) env H Q ↔ WR T F_num_Apartr4 [
  ⟨some 18, .mv (.t 0), none⟩,
  ⟨some 19, .mv (.t 2), none⟩,
  ⟨some 20, .bin .sub (.t 18) (.t 19), none⟩,
  ⟨some 21, .mv (.t 3), none⟩,
  ⟨some 22, .bin .geq (.t 20) (.t 21), none⟩,
  ⟨some 8, .mv (.t 22), none⟩] env H none [] Q := w_reg
def F_num_Apartr5 : List IStmt := [
  ⟨some 23, .mv (.t 2), none⟩,
  ⟨some 24, .mv (.t 0), none⟩,
  ⟨some 25, .bin .sub (.t 23) (.t 24), none⟩,
  ⟨some 26, .mv (.t 1), none⟩,
  ⟨some 27, .bin .geq (.t 25) (.t 26), none⟩,
  ⟨some 8, .mv (.t 27), none⟩]
theorem F_num_Apartr5_W {T : Tab} {env : Env} {H : Heap} {Q : Post} : W T (.reg F_num_Apartr5) env H Q ↔ WR T F_num_Apartr5 [
  ⟨some 23, .mv (.t 2), none⟩,
  ⟨some 24, .mv (.t 0), none⟩,
  ⟨some 25, .bin .sub (.t 23) (.t 24), none⟩,
  ⟨some 26, .mv (.t 1), none⟩,
  ⟨some 27, .bin .geq (.t 25) (.t 26), none⟩,
  ⟨some 8, .mv (.t 27), none⟩] env H none [] Q := w_reg
def F_num_Apartc : ICode := (.seq (.reg F_num_Apartr0) (.seq (.seq (.reg F_num_Apartr1) (.cond (.t 14) (.seq (.reg F_num_Apartr2) .ret) .skip)) (.seq (.seq (.reg F_num_Apartr3) (.cond (.t 17) (.seq (.reg F_num_Apartr4) .ret) .skip)) (.seq (.reg F_num_Apartr5) .ret))))
theorem F_num_Apartc_W {T : Tab} {env : Env} {H : Heap} {Q : Post} : W T F_num_Apartc env H Q ↔ W T (.seq (.reg F_num_Apartr0) (.seq (.seq (.reg F_num_Apartr1) (.cond (.t 14) (.seq (.reg F_num_Apartr2) .ret) .skip)) (.seq (.seq (.reg F_num_Apartr3) (.cond (.t 17) (.seq (.reg F_num_Apartr4) .ret) .skip)) (.seq (.reg F_num_Apartr5) .ret)))) env H Q := Iff.rfl
def F_num_Apart : IFn := ⟨28, [.tmp 8], F_num_Apartc⟩
theorem F_num_Apart_chk : chkF Try.prog 25 F_num_Apart = true := by kernel_rfl

/-! ### ref01_Sum -/
def F_ref01_Sumr0 : List IStmt := [
  ⟨some 4, .alloc 2 [.int .u64 0, .int .u64 0], none⟩]
theorem F_ref01_Sumr0_W {T : Tab} {env : Env} {H : Heap} {Q : Post} : W T (.reg F_ref01_Sumr0) env H Q ↔ WR T F_ref01_Sumr0 [
  ⟨some 4, .alloc 2 [.int .u64 0, .int .u64 0], none⟩] env H none [] Q := w_reg
def F_ref01_Sumr1 : List IStmt := [
  ⟨some 6, .mv (.t 0), none⟩,
  ⟨some 7, .mv (.t 1), none⟩,
  ⟨some 8, .bin .add (.t 6) (.t 7), none⟩,
  ⟨some 5, .mv (.t 8), none⟩]
theorem F_ref01_Sumr1_W {T : Tab} {env : Env} {H : Heap} {Q : Post} : W T (.reg F_ref01_Sumr1) env H Q ↔ WR T F_ref01_Sumr1 [
  ⟨some 6, .mv (.t 0), none⟩,
  ⟨some 7, .mv (.t 1), none⟩,
  ⟨some 8, .bin .add (.t 6) (.t 7), none⟩,
  ⟨some 5, .mv (.t 8), none⟩] env H none [] Q := w_reg
def F_ref01_Sumr2 : List IStmt := [
  ⟨some 9, .mv (.t 5), none⟩,
  ⟨some 10, .mv (.t 0), none⟩,
  ⟨some 11, .bin .lss (.t 9) (.t 10), none⟩]
theorem F_ref01_Sumr2_W {T : Tab} {env : Env} {H : Heap} {Q : Post} : W T (.reg F_ref01_Sumr2) env H Q ↔ WR T F_ref01_Sumr2 [
  ⟨some 9, .mv (.t 5), none⟩,
  ⟨some 10, .mv (.t 0), none⟩,
  ⟨some 11, .bin .lss (.t 9) (.t 10), none⟩] env H none [] Q := w_reg
def F_ref01_Sumr3 : List IStmt := [
  ⟨some 12, .mv (.t 5), none⟩,
  ⟨some 13, .bld [.int .u64 0, .int .u64 0] [(0, 1, (.c (.int .u64 1))), (1, 1, (.t 12))], none⟩,
  ⟨none, .store 2 (.t 4) (.t 13), none⟩]
theorem F_ref01_Sumr3_W {T : Tab} {env : Env} {H : Heap} {Q : Post} : W T (.reg F_ref01_Sumr3) env H Q ↔ WR T F_ref01_Sumr3 [
  ⟨some 12, .mv (.t 5), none⟩,
  ⟨some 13, .bld [.int .u64 0, .int .u64 0] [(0, 1, (.c (.int .u64 1))), (1, 1, (.t 12))], none⟩,
  ⟨none, .store 2 (.t 4) (.t 13), none⟩] env H none [] Q := w_reg
def F_ref01_Sumr4 : List IStmt := [
  ⟨some 14, .mv (.t 5), none⟩,
  ⟨some 15, .bld [.int .u64 0, .int .u64 0] [(0, 1, (.c (.int .u64 0))), (1, 1, (.t 14))], none⟩,
  ⟨none, .store 2 (.t 4) (.t 15), none⟩]
theorem F_ref01_Sumr4_W {T : Tab} {env : Env} {H : Heap} {Q : Post} : W T (.reg F_ref01_Sumr4) env H Q ↔ WR T F_ref01_Sumr4 [
  ⟨some 14, .mv (.t 5), none⟩,
  ⟨some 15, .bld [.int .u64 0, .int .u64 0] [(0, 1, (.c (.int .u64 0))), (1, 1, (.t 14))], none⟩,
  ⟨none, .store 2 (.t 4) (.t 15), none⟩] env H none [] Q := w_reg
def F_ref01_Sumc : ICode := (.seq (.reg F_ref01_Sumr0) (.seq (.reg F_ref01_Sumr1) (.seq (.seq (.reg F_ref01_Sumr2) (.cond (.t 11) (.seq (.reg F_ref01_Sumr3) .ret) .skip)) (.seq (.reg F_ref01_Sumr4) .ret))))
theorem F_ref01_Sumc_W {T : Tab} {env : Env} {H : Heap} {Q : Post} : W T F_ref01_Sumc env H Q ↔ W T (.seq (.reg F_ref01_Sumr0) (.seq (.reg F_ref01_Sumr1) (.seq (.seq (.reg F_ref01_Sumr2) (.cond (.t 11) (.seq (.reg F_ref01_Sumr3) .ret) .skip)) (.seq (.reg F_ref01_Sumr4) .ret)))) env H Q := Iff.rfl
def F_ref01_Sum : IFn := ⟨16, [.cell 4 (some 2)], F_ref01_Sumc⟩
theorem F_ref01_Sum_chk : chkF Try.prog 35 F_ref01_Sum = true := by kernel_rfl

/-! ### num_Up -/
def F_num_Upr0 : List IStmt := [
  ⟨some 4, .mv (.c (.int .u64 0)), none⟩,
  ⟨some 5, .mv (.c (.int .i64 0)), none⟩]
theorem F_num_Upr0_W {T : Tab} {env : Env} {H : Heap} {Q : Post} : W T (.reg F_num_Upr0) env H Q ↔ WR T F_num_Upr0 [
  ⟨some 4, .mv (.c (.int .u64 0)), none⟩,
  ⟨some 5, .mv (.c (.int .i64 0)), none⟩] env H none [] Q := w_reg
def F_num_Upr1 : List IStmt := [
  ⟨some 8, .mv (.t 1), none⟩,
  ⟨some 9, .call 20 [(.t 8)], none⟩,
  ⟨some 10, .un .not (.t 9), none⟩]
theorem F_num_Upr1_W {T : Tab} {env : Env} {H : Heap} {Q : Post} : W T (.reg F_num_Upr1) env H Q ↔ WR T F_num_Upr1 [
  ⟨some 8, .mv (.t 1), none⟩,
  ⟨some 9, .call 20 [(.t 8)], none⟩,
  ⟨some 10, .un .not (.t 9), none⟩] env H none [] Q := w_reg
def F_num_Upr2 : List IStmt := [
  ⟨some 4, .mv (.c (.int .u64 0)), none⟩,
  ⟨some 5, .mv (.c (.int .i64 11)), none⟩]
theorem F_num_Upr2_W {T : Tab} {env : Env} {H : Heap} {Q : Post} : W T (.reg F_num_Upr2) env H Q ↔ WR T F_num_Upr2 [
  ⟨some 4, .mv (.c (.int .u64 0)), none⟩,
  ⟨some 5, .mv (.c (.int .i64 11)), none⟩] env H none [] Q := w_reg
def F_num_Upr3 : List IStmt := [
  ⟨some 12, .mv (.t 0), none⟩,
  ⟨some 13, .mv (.t 1), none⟩,
  ⟨some 14, .bin .sub (.t 13) (.c (.int .u64 1)), none⟩,
  ⟨some 15, .call 13 [(.t 12), (.t 14)], none⟩,
  ⟨some 11, .mv (.t 15), none⟩,
  ⟨some 16, .ext (.t 11) 0, none⟩,
  ⟨some 17, .ext (.t 11) 1, none⟩,
  ⟨some 6, .mv (.t 16), none⟩,
  ⟨some 7, .mv (.t 17), none⟩]
theorem F_num_Upr3_W {T : Tab} {env : Env} {H : Heap} {Q : Post} : W T (.reg F_num_Upr3) env H Q ↔ WR T F_num_Upr3 [
  ⟨some 12, .mv (.t 0), none⟩,
  ⟨some 13, .mv (.t 1), none⟩,
  ⟨some 14, .bin .sub (.t 13) (.c (.int .u64 1)), none⟩,
  ⟨some 15, .call 13 [(.t 12), (.t 14)], none⟩,
  ⟨some 11, .mv (.t 15), none⟩,
  ⟨some 16, .ext (.t 11) 0, none⟩,
  ⟨some 17, .ext (.t 11) 1, none⟩,
  ⟨some 6, .mv (.t 16), none⟩,
  ⟨some 7, .mv (.t 17), none⟩] env H none [] Q := w_reg
def F_num_Upr4 : List IStmt := [
  ⟨some 18, .mv (.t 7), none⟩,
  ⟨some 19, .un .not (.t 18), none⟩]
theorem F_num_Upr4_W {T : Tab} {env : Env} {H : Heap} {Q : Post} : W T (.reg F_num_Upr4) env H Q ↔ WR T F_num_Upr4 [
  ⟨some 18, .mv (.t 7), none⟩,
  ⟨some 19, .un .not (.t 18), none⟩] env H none [] Q := w_reg
def F_num_Upr5 : List IStmt := [
  ⟨some 4, .mv (.c (.int .u64 0)), none⟩,
  ⟨some 5, .mv (.c (.int .i64 10)), none⟩]
theorem F_num_Upr5_W {T : Tab} {env : Env} {H : Heap} {Q : Post} : W T (.reg F_num_Upr5) env H Q ↔ WR T F_num_Upr5 [
  ⟨some 4, .mv (.c (.int .u64 0)), none⟩,
  ⟨some 5, .mv (.c (.int .i64 10)), none⟩] env H none [] Q := w_reg
def F_num_Upr6 : List IStmt := [
  ⟨some 20, .mv (.t 6), none⟩,
  ⟨some 21, .mv (.t 1), none⟩,
  ⟨some 22, .bin .sub (.t 21) (.c (.int .u64 1)), none⟩,
  ⟨some 23, .bin .andNot (.t 20) (.t 22), none⟩,
  ⟨some 4, .mv (.t 23), none⟩,
  ⟨some 5, .mv (.c (.int .i64 0)), none⟩]
theorem F_num_Upr6_W {T : Tab} {env : Env} {H : Heap} {Q : Post} : W T (.reg F_num_Upr6) env H Q ↔ WR T F_num_Upr6 [
  ⟨some 20, .mv (.t 6), none⟩,
  ⟨some 21, .mv (.t 1), none⟩,
  ⟨some 22, .bin .sub (.t 21) (.c (.int .u64 1)), none⟩,
  ⟨some 23, .bin .andNot (.t 20) (.t 22), none⟩,
  ⟨some 4, .mv (.t 23), none⟩,
  ⟨some 5, .mv (.c (.int .i64 0)), none⟩] env H none [] Q := w_reg
def F_num_Upc : ICode := (.seq (.reg F_num_Upr0) (.seq (.seq (.reg F_num_Upr1) (.cond (.t 10) (.seq (.reg F_num_Upr2) .ret) .skip)) (.seq (.reg F_num_Upr3) (.seq (.seq (.reg F_num_Upr4) (.cond (.t 19) (.seq (.reg F_num_Upr5) .ret) .skip)) (.seq (.reg F_num_Upr6) .ret)))))
theorem F_num_Upc_W {T : Tab} {env : Env} {H : Heap} {Q : Post} : W T F_num_Upc env H Q ↔ W T (.seq (.reg F_num_Upr0) (.seq (.seq (.reg F_num_Upr1) (.cond (.t 10) (.seq (.reg F_num_Upr2) .ret) .skip)) (.seq (.reg F_num_Upr3) (.seq (.seq (.reg F_num_Upr4) (.cond (.t 19) (.seq (.reg F_num_Upr5) .ret) .skip)) (.seq (.reg F_num_Upr6) .ret))))) env H Q := Iff.rfl
def F_num_Up : IFn := ⟨24, [.tmp 4, .tmp 5], F_num_Upc⟩
theorem F_num_Up_chk : chkF Try.prog 19 F_num_Up = true := by kernel_rfl

/-! ### num_Text -/
def F_num_Textr0 : List IStmt := [
  ⟨some 2, .mv (.c (.string ⟨#[]⟩)), none⟩]
theorem F_num_Textr0_W {T : Tab} {env : Env} {H : Heap} {Q : Post} : W T (.reg F_num_Textr0) env H Q ↔ WR T F_num_Textr0 [
  ⟨some 2, .mv (.c (.string ⟨#[]⟩)), none⟩] env H none [] Q := w_reg
def F_num_Textr1 : List IStmt := [
  ⟨some 3, .mv (.c (.string ⟨#[]⟩)), none⟩]
theorem F_num_Textr1_W {T : Tab} {env : Env} {H : Heap} {Q : Post} : W T (.reg F_num_Textr1) env H Q ↔ WR T F_num_Textr1 [
  ⟨some 3, .mv (.c (.string ⟨#[]⟩)), none⟩] env H none [] Q := w_reg
def F_num_Textr2 : List IStmt := [
  ⟨some 4, .mv (.t 0), none⟩,
  ⟨some 5, .mx (.t 4) (.c (.int .i64 0)), none⟩,
  ⟨some 0, .mv (.t 5), none⟩]
theorem F_num_Textr2_W {T : Tab} {env : Env} {H : Heap} {Q : Post} : W T (.reg F_num_Textr2) env H Q ↔ WR T F_num_Textr2 [
  ⟨some 4, .mv (.t 0), none⟩,
  ⟨some 5, .mx (.t 4) (.c (.int .i64 0)), none⟩,
  ⟨some 0, .mv (.t 5), none⟩] env H none [] Q := w_reg
def F_num_Textr3 : List IStmt := [
  ⟨some 6, .mv (.t 0), none⟩,
  ⟨some 7, .bin .gtr (.t 6) (.c (.int .i64 0)), none⟩,
  ⟨some 8, .mv (.t 7), none⟩,
  ⟨some 9, .mv (.t 3), some (2, false)⟩,
  ⟨some 10, .bin .eql (.t 9) (.c (.string ⟨#[]⟩)), some (2, false)⟩,
  ⟨some 11, .pick (.t 8) (.c (.bool true)) (.t 10), none⟩]
theorem F_num_Textr3_W {T : Tab} {env : Env} {H : Heap} {Q : Post} : W T (.reg F_num_Textr3) env H Q ↔ WR T F_num_Textr3 [
  ⟨some 6, .mv (.t 0), none⟩,
  ⟨some 7, .bin .gtr (.t 6) (.c (.int .i64 0)), none⟩,
  ⟨some 8, .mv (.t 7), none⟩,
  ⟨some 9, .mv (.t 3), some (2, false)⟩,
  ⟨some 10, .bin .eql (.t 9) (.c (.string ⟨#[]⟩)), some (2, false)⟩,
  ⟨some 11, .pick (.t 8) (.c (.bool true)) (.t 10), none⟩] env H none [] Q := w_reg
theorem F_num_Textr3_g2 {env : Env} : yieldI F_num_Textr3 env 2 = bOf (env 8) := rfl
def F_num_Textr5 : List IStmt := [
  ⟨some 14, .mv (.t 0), none⟩,
  ⟨some 15, .bin .rem (.t 14) (.c (.int .i64 10)), none⟩,
  ⟨some 16, .bin .add (.c (.int .i64 48)) (.t 15), none⟩,
  ⟨some 17, .conv .u8 (.t 16), none⟩,
  ⟨some 18, .bsl 1 1 [.int .u8 0] [(0, (.t 17))], none⟩,
  ⟨some 19, .b2s (.t 18), none⟩,
  ⟨some 20, .mv (.t 3), none⟩,
  ⟨some 21, .bin .add (.t 19) (.t 20), none⟩,
  ⟨some 3, .mv (.t 21), none⟩]
theorem F_num_Textr5_W {T : Tab} {env : Env} {H : Heap} {Q : Post} : W T (.reg F_num_Textr5) env H Q ↔ WR T F_num_Textr5 [
  ⟨some 14, .mv (.t 0), none⟩,
  ⟨some 15, .bin .rem (.t 14) (.c (.int .i64 10)), none⟩,
  ⟨some 16, .bin .add (.c (.int .i64 48)) (.t 15), none⟩,
  ⟨some 17, .conv .u8 (.t 16), none⟩,
  ⟨some 18, .bsl 1 1 [.int .u8 0] [(0, (.t 17))], none⟩,
  ⟨some 19, .b2s (.t 18), none⟩,
  ⟨some 20, .mv (.t 3), none⟩,
  ⟨some 21, .bin .add (.t 19) (.t 20), none⟩,
  ⟨some 3, .mv (.t 21), none⟩] env H none [] Q := w_reg
def F_num_Textr4 : List IStmt := [
  ⟨some 12, .mv (.t 0), none⟩,
  ⟨some 13, .bin .quo (.t 12) (.c (.int .i64 10)), none⟩,
  ⟨some 0, .mv (.t 13), none⟩]
theorem F_num_Textr4_W {T : Tab} {env : Env} {H : Heap} {Q : Post} : W T (.reg F_num_Textr4) env H Q ↔ WR T F_num_Textr4 [
  ⟨some 12, .mv (.t 0), none⟩,
  ⟨some 13, .bin .quo (.t 12) (.c (.int .i64 10)), none⟩,
  ⟨some 0, .mv (.t 13), none⟩] env H none [] Q := w_reg
def F_num_Textl0 : ICode := (.seq (.seq (.reg F_num_Textr3) (.cond (.t 11) .skip (.exit 0))) (.seq (.block 1 (.reg F_num_Textr5)) (.reg F_num_Textr4)))
theorem F_num_Textl0_W {T : Tab} {env : Env} {H : Heap} {Q : Post} : W T F_num_Textl0 env H Q ↔ W T (.seq (.seq (.reg F_num_Textr3) (.cond (.t 11) .skip (.exit 0))) (.seq (.block 1 (.reg F_num_Textr5)) (.reg F_num_Textr4))) env H Q := Iff.rfl
def F_num_Textr6 : List IStmt := [
  ⟨some 22, .mv (.t 3), none⟩,
  ⟨some 2, .mv (.t 22), none⟩]
theorem F_num_Textr6_W {T : Tab} {env : Env} {H : Heap} {Q : Post} : W T (.reg F_num_Textr6) env H Q ↔ WR T F_num_Textr6 [
  ⟨some 22, .mv (.t 3), none⟩,
  ⟨some 2, .mv (.t 22), none⟩] env H none [] Q := w_reg
def F_num_Textc : ICode := (.seq (.reg F_num_Textr0) (.seq (.reg F_num_Textr1) (.seq (.seq (.reg F_num_Textr2) (.block 0 (.loop F_num_Textl0))) (.seq (.reg F_num_Textr6) .ret))))
theorem F_num_Textc_W {T : Tab} {env : Env} {H : Heap} {Q : Post} : W T F_num_Textc env H Q ↔ W T (.seq (.reg F_num_Textr0) (.seq (.reg F_num_Textr1) (.seq (.seq (.reg F_num_Textr2) (.block 0 (.loop F_num_Textl0))) (.seq (.reg F_num_Textr6) .ret)))) env H Q := Iff.rfl
def F_num_Text : IFn := ⟨23, [.tmp 2], F_num_Textc⟩
theorem F_num_Text_chk : chkF Try.prog 33 F_num_Text = true := by kernel_rfl

/-! ### ref01_Less -/
def F_ref01_Lessr0 : List IStmt := [
  ⟨some 2, .box 2 (.t 0), none⟩,
  ⟨some 3, .box 2 (.t 1), none⟩,
  ⟨some 4, .mv (.c (.bool false)), none⟩]
theorem F_ref01_Lessr0_W {T : Tab} {env : Env} {H : Heap} {Q : Post} : W T (.reg F_ref01_Lessr0) env H Q ↔ WR T F_ref01_Lessr0 [
  ⟨some 2, .box 2 (.t 0), none⟩,
  ⟨some 3, .box 2 (.t 1), none⟩,
  ⟨some 4, .mv (.c (.bool false)), none⟩] env H none [] Q := w_reg
def F_ref01_Lessr1 : List IStmt := [
  ⟨some 5, .fa 0 (.t 2), none⟩,
  ⟨some 6, .load (.t 5), none⟩,
  ⟨some 7, .fa 0 (.t 3), none⟩,
  ⟨some 8, .load (.t 7), none⟩,
  ⟨some 9, .bin .lss (.t 6) (.t 8), none⟩,
  ⟨some 10, .mv (.t 9), none⟩,
  ⟨some 11, .fa 0 (.t 2), some (5, false)⟩,
  ⟨some 12, .load (.t 11), some (5, false)⟩,
  ⟨some 13, .fa 0 (.t 3), some (5, false)⟩,
  ⟨some 14, .load (.t 13), some (5, false)⟩,
  ⟨some 15, .bin .eql (.t 12) (.t 14), some (5, false)⟩,
  ⟨some 16, .mv (.t 15), some (5, false)⟩,
  ⟨some 17, .fa 1 (.t 2), some (11, true)⟩,
  ⟨some 18, .load (.t 17), some (11, true)⟩,
  ⟨some 19, .fa 1 (.t 3), some (11, true)⟩,
  ⟨some 20, .load (.t 19), some (11, true)⟩,
  ⟨some 21, .bin .lss (.t 18) (.t 20), some (11, true)⟩,
  ⟨some 22, .pick (.t 16) (.t 21) (.c (.bool false)), some (5, false)⟩,
  ⟨some 23, .pick (.t 10) (.c (.bool true)) (.t 22), none⟩,
  ⟨some 4, .mv (.t 23), none⟩]
theorem F_ref01_Lessr1_W {T : Tab} {env : Env} {H : Heap} {Q : Post} : W T (.reg F_ref01_Lessr1) env H Q ↔ WR T F_ref01_Lessr1 [
  ⟨some 5, .fa 0 (.t 2), none⟩,
  ⟨some 6, .load (.t 5), none⟩,
  ⟨some 7, .fa 0 (.t 3), none⟩,
  ⟨some 8, .load (.t 7), none⟩,
  ⟨some 9, .bin .lss (.t 6) (.t 8), none⟩,
  ⟨some 10, .mv (.t 9), none⟩,
  ⟨some 11, .fa 0 (.t 2), some (5, false)⟩,
  ⟨some 12, .load (.t 11), some (5, false)⟩,
  ⟨some 13, .fa 0 (.t 3), some (5, false)⟩,
  ⟨some 14, .load (.t 13), some (5, false)⟩,
  ⟨some 15, .bin .eql (.t 12) (.t 14), some (5, false)⟩,
  ⟨some 16, .mv (.t 15), some (5, false)⟩,
  ⟨some 17, .fa 1 (.t 2), some (11, true)⟩,
  ⟨some 18, .load (.t 17), some (11, true)⟩,
  ⟨some 19, .fa 1 (.t 3), some (11, true)⟩,
  ⟨some 20, .load (.t 19), some (11, true)⟩,
  ⟨some 21, .bin .lss (.t 18) (.t 20), some (11, true)⟩,
  ⟨some 22, .pick (.t 16) (.t 21) (.c (.bool false)), some (5, false)⟩,
  ⟨some 23, .pick (.t 10) (.c (.bool true)) (.t 22), none⟩,
  ⟨some 4, .mv (.t 23), none⟩] env H none [] Q := w_reg
theorem F_ref01_Lessr1_g5 {env : Env} : yieldI F_ref01_Lessr1 env 5 = bOf (env 10) := rfl
theorem F_ref01_Lessr1_g11 {env : Env} : yieldI F_ref01_Lessr1 env 11 = bOf (env 16) := rfl
def F_ref01_Lessc : ICode := (.seq (.reg F_ref01_Lessr0) (.seq (.reg F_ref01_Lessr1) .ret))
theorem F_ref01_Lessc_W {T : Tab} {env : Env} {H : Heap} {Q : Post} : W T F_ref01_Lessc env H Q ↔ W T (.seq (.reg F_ref01_Lessr0) (.seq (.reg F_ref01_Lessr1) .ret)) env H Q := Iff.rfl
def F_ref01_Less : IFn := ⟨24, [.tmp 4], F_ref01_Lessc⟩
theorem F_ref01_Less_chk : chkF Try.prog 36 F_ref01_Less = true := by kernel_rfl

/-! ### num_digit -/
def F_num_digitr0 : List IStmt := [
  ⟨some 2, .mv (.c (.int .u64 0)), none⟩]
theorem F_num_digitr0_W {T : Tab} {env : Env} {H : Heap} {Q : Post} : W T (.reg F_num_digitr0) env H Q ↔ WR T F_num_digitr0 [
  ⟨some 2, .mv (.c (.int .u64 0)), none⟩] env H none [] Q := w_reg
def F_num_digitr1 : List IStmt := [
  ⟨some 4, .mv (.t 0), none⟩,
  ⟨some 5, .bin .geq (.t 4) (.c (.int .u8 48)), none⟩,
  ⟨some 6, .mv (.t 5), none⟩,
  ⟨some 7, .mv (.t 0), some (2, true)⟩,
  ⟨some 8, .bin .leq (.t 7) (.c (.int .u8 57)), some (2, true)⟩,
  ⟨some 9, .pick (.t 6) (.t 8) (.c (.bool false)), none⟩,
  ⟨some 3, .mv (.t 9), none⟩]
theorem F_num_digitr1_W {T : Tab} {env : Env} {H : Heap} {Q : Post} : W T (.reg F_num_digitr1) env H Q ↔ WR T F_num_digitr1 [
  ⟨some 4, .mv (.t 0), none⟩,
  ⟨some 5, .bin .geq (.t 4) (.c (.int .u8 48)), none⟩,
  ⟨some 6, .mv (.t 5), none⟩,
  ⟨some 7, .mv (.t 0), some (2, true)⟩,
  ⟨some 8, .bin .leq (.t 7) (.c (.int .u8 57)), some (2, true)⟩,
  ⟨some 9, .pick (.t 6) (.t 8) (.c (.bool false)), none⟩,
  ⟨some 3, .mv (.t 9), none⟩] env H none [] Q := w_reg
theorem F_num_digitr1_g2 {env : Env} : yieldI F_num_digitr1 env 2 = bOf (env 6) := rfl
def F_num_digitr2 : List IStmt := [
  ⟨some 10, .mv (.t 0), none⟩,
  ⟨some 11, .bin .sub (.t 10) (.c (.int .u8 48)), none⟩,
  ⟨some 12, .conv .u64 (.t 11), none⟩,
  ⟨some 2, .mv (.t 12), none⟩]
theorem F_num_digitr2_W {T : Tab} {env : Env} {H : Heap} {Q : Post} : W T (.reg F_num_digitr2) env H Q ↔ WR T F_num_digitr2 [
  ⟨some 10, .mv (.t 0), none⟩,
  ⟨some 11, .bin .sub (.t 10) (.c (.int .u8 48)), none⟩,
  ⟨some 12, .conv .u64 (.t 11), none⟩,
  ⟨some 2, .mv (.t 12), none⟩] env H none [] Q := w_reg
def F_num_digitr3 : List IStmt := [
  ⟨some 14, .mv (.t 0), none⟩,
  ⟨some 15, .bin .geq (.t 14) (.c (.int .u8 97)), none⟩,
  ⟨some 16, .mv (.t 15), none⟩,
  ⟨some 17, .mv (.t 0), some (2, true)⟩,
  ⟨some 18, .bin .leq (.t 17) (.c (.int .u8 102)), some (2, true)⟩,
  ⟨some 19, .pick (.t 16) (.t 18) (.c (.bool false)), none⟩,
  ⟨some 13, .mv (.t 19), none⟩]
theorem F_num_digitr3_W {T : Tab} {env : Env} {H : Heap} {Q : Post} : W T (.reg F_num_digitr3) env H Q ↔ WR T F_num_digitr3 [
  ⟨some 14, .mv (.t 0), none⟩,
  ⟨some 15, .bin .geq (.t 14) (.c (.int .u8 97)), none⟩,
  ⟨some 16, .mv (.t 15), none⟩,
  ⟨some 17, .mv (.t 0), some (2, true)⟩,
  ⟨some 18, .bin .leq (.t 17) (.c (.int .u8 102)), some (2, true)⟩,
  ⟨some 19, .pick (.t 16) (.t 18) (.c (.bool false)), none⟩,
  ⟨some 13, .mv (.t 19), none⟩] env H none [] Q := w_reg
theorem F_num_digitr3_g2 {env : Env} : yieldI F_num_digitr3 env 2 = bOf (env 16) := rfl
def F_num_digitr4 : List IStmt := [
  ⟨some 20, .mv (.t 0), none⟩,
  ⟨some 21, .bin .sub (.t 20) (.c (.int .u8 97)), none⟩,
  ⟨some 22, .conv .u64 (.t 21), none⟩,
  ⟨some 23, .bin .add (.t 22) (.c (.int .u64 10)), none⟩,
  ⟨some 2, .mv (.t 23), none⟩]
theorem F_num_digitr4_W {T : Tab} {env : Env} {H : Heap} {Q : Post} : W T (.reg F_num_digitr4) env H Q ↔ WR T F_num_digitr4 [
  ⟨some 20, .mv (.t 0), none⟩,
  ⟨some 21, .bin .sub (.t 20) (.c (.int .u8 97)), none⟩,
  ⟨some 22, .conv .u64 (.t 21), none⟩,
  ⟨some 23, .bin .add (.t 22) (.c (.int .u64 10)), none⟩,
  ⟨some 2, .mv (.t 23), none⟩] env H none [] Q := w_reg
def F_num_digitr5 : List IStmt := [
  ⟨some 2, .mv (.c (.int .u64 16)), none⟩]
theorem F_num_digitr5_W {T : Tab} {env : Env} {H : Heap} {Q : Post} : W T (.reg F_num_digitr5) env H Q ↔ WR T F_num_digitr5 [
  ⟨some 2, .mv (.c (.int .u64 16)), none⟩] env H none [] Q := w_reg
def F_num_digitc : ICode := (.seq (.reg F_num_digitr0) (.seq (.block 0 (.seq (.reg F_num_digitr1) (.cond (.t 3) (.seq (.reg F_num_digitr2) .ret) (.seq (.reg F_num_digitr3) (.cond (.t 13) (.seq (.reg F_num_digitr4) .ret) .skip))))) (.seq (.reg F_num_digitr5) .ret)))
theorem F_num_digitc_W {T : Tab} {env : Env} {H : Heap} {Q : Post} : W T F_num_digitc env H Q ↔ W T (.seq (.reg F_num_digitr0) (.seq (.block 0 (.seq (.reg F_num_digitr1) (.cond (.t 3) (.seq (.reg F_num_digitr2) .ret) (.seq (.reg F_num_digitr3) (.cond (.t 13) (.seq (.reg F_num_digitr4) .ret) .skip))))) (.seq (.reg F_num_digitr5) .ret))) env H Q := Iff.rfl
def F_num_digit : IFn := ⟨24, [.tmp 2], F_num_digitc⟩
theorem F_num_digit_chk : chkF Try.prog 37 F_num_digit = true := by kernel_rfl

/-! ### num_Power -/
def F_num_Powerr0 : List IStmt := [
  ⟨some 2, .mv (.c (.bool false)), none⟩]
theorem F_num_Powerr0_W {T : Tab} {env : Env} {H : Heap} {Q : Post} : W T (.reg F_num_Powerr0) env H Q ↔ WR T F_num_Powerr0 [
  ⟨some 2, .mv (.c (.bool false)), none⟩] env H none [] Q := w_reg
def F_num_Powerr1 : List IStmt := [
  ⟨some 3, .mv (.t 0), none⟩,
  ⟨some 4, .bin .neq (.t 3) (.c (.int .u64 0)), none⟩,
  ⟨some 5, .mv (.t 4), none⟩,
  ⟨some 6, .mv (.t 0), some (2, true)⟩,
  ⟨some 7, .mv (.t 0), some (2, true)⟩,
  ⟨some 8, .bin .sub (.t 7) (.c (.int .u64 1)), some (2, true)⟩,
  ⟨some 9, .bin .and (.t 6) (.t 8), some (2, true)⟩,
  ⟨some 10, .bin .eql (.t 9) (.c (.int .u64 0)), some (2, true)⟩,
  ⟨some 11, .pick (.t 5) (.t 10) (.c (.bool false)), none⟩,
  ⟨some 2, .mv (.t 11), none⟩]
theorem F_num_Powerr1_W {T : Tab} {env : Env} {H : Heap} {Q : Post} : W T (.reg F_num_Powerr1) env H Q ↔ WR T F_num_Powerr1 [
  ⟨some 3, .mv (.t 0), none⟩,
  ⟨some 4, .bin .neq (.t 3) (.c (.int .u64 0)), none⟩,
  ⟨some 5, .mv (.t 4), none⟩,
  ⟨some 6, .mv (.t 0), some (2, true)⟩,
  ⟨some 7, .mv (.t 0), some (2, true)⟩,
  ⟨some 8, .bin .sub (.t 7) (.c (.int .u64 1)), some (2, true)⟩,
  ⟨some 9, .bin .and (.t 6) (.t 8), some (2, true)⟩,
  ⟨some 10, .bin .eql (.t 9) (.c (.int .u64 0)), some (2, true)⟩,
  ⟨some 11, .pick (.t 5) (.t 10) (.c (.bool false)), none⟩,
  ⟨some 2, .mv (.t 11), none⟩] env H none [] Q := w_reg
theorem F_num_Powerr1_g2 {env : Env} : yieldI F_num_Powerr1 env 2 = bOf (env 5) := rfl
def F_num_Powerc : ICode := (.seq (.reg F_num_Powerr0) (.seq (.reg F_num_Powerr1) .ret))
theorem F_num_Powerc_W {T : Tab} {env : Env} {H : Heap} {Q : Post} : W T F_num_Powerc env H Q ↔ W T (.seq (.reg F_num_Powerr0) (.seq (.reg F_num_Powerr1) .ret)) env H Q := Iff.rfl
def F_num_Power : IFn := ⟨12, [.tmp 2], F_num_Powerc⟩
theorem F_num_Power_chk : chkF Try.prog 20 F_num_Power = true := by kernel_rfl

/-! ### num_ParseHex -/
def F_num_ParseHexr0 : List IStmt := [
  ⟨some 2, .mv (.c (.int .u64 0)), none⟩,
  ⟨some 3, .mv (.c (.int .i64 0)), none⟩]
theorem F_num_ParseHexr0_W {T : Tab} {env : Env} {H : Heap} {Q : Post} : W T (.reg F_num_ParseHexr0) env H Q ↔ WR T F_num_ParseHexr0 [
  ⟨some 2, .mv (.c (.int .u64 0)), none⟩,
  ⟨some 3, .mv (.c (.int .i64 0)), none⟩] env H none [] Q := w_reg
def F_num_ParseHexr1 : List IStmt := [
  ⟨some 7, .mv (.t 0), none⟩,
  ⟨some 8, .len 0 (.t 7), none⟩,
  ⟨some 9, .bin .lss (.t 8) (.c (.int .i64 3)), none⟩,
  ⟨some 10, .mv (.t 9), none⟩,
  ⟨some 11, .mv (.t 0), some (3, false)⟩,
  ⟨some 12, .len 0 (.t 11), some (3, false)⟩,
  ⟨some 13, .bin .gtr (.t 12) (.c (.int .i64 18)), some (3, false)⟩,
  ⟨some 14, .pick (.t 10) (.c (.bool true)) (.t 13), none⟩,
  ⟨some 15, .mv (.t 14), none⟩,
  ⟨some 16, .mv (.t 0), some (8, false)⟩,
  ⟨some 17, .sls (.t 16) none (some (.c (.int .i64 2))), some (8, false)⟩,
  ⟨some 18, .bin .neq (.t 17) (.c (.string ⟨#[48, 120]⟩)), some (8, false)⟩,
  ⟨some 19, .pick (.t 15) (.c (.bool true)) (.t 18), none⟩,
  ⟨some 20, .mv (.t 19), none⟩,
  ⟨some 21, .mv (.t 0), some (13, false)⟩,
  ⟨some 22, .ixs (.t 21) (.c (.int .i64 2)), some (13, false)⟩,
  ⟨some 23, .bin .eql (.t 22) (.c (.int .u8 48)), some (13, false)⟩,
  ⟨some 24, .mv (.t 23), some (13, false)⟩,
  ⟨some 25, .mv (.t 0), some (17, true)⟩,
  ⟨some 26, .len 0 (.t 25), some (17, true)⟩,
  ⟨some 27, .bin .gtr (.t 26) (.c (.int .i64 3)), some (17, true)⟩,
  ⟨some 28, .pick (.t 24) (.t 27) (.c (.bool false)), some (13, false)⟩,
  ⟨some 29, .pick (.t 20) (.c (.bool true)) (.t 28), none⟩]
theorem F_num_ParseHexr1_W {T : Tab} {env : Env} {H : Heap} {Q : Post} : W T (.reg F_num_ParseHexr1) env H Q ↔ WR T F_num_ParseHexr1 [
  ⟨some 7, .mv (.t 0), none⟩,
  ⟨some 8, .len 0 (.t 7), none⟩,
  ⟨some 9, .bin .lss (.t 8) (.c (.int .i64 3)), none⟩,
  ⟨some 10, .mv (.t 9), none⟩,
  ⟨some 11, .mv (.t 0), some (3, false)⟩,
  ⟨some 12, .len 0 (.t 11), some (3, false)⟩,
  ⟨some 13, .bin .gtr (.t 12) (.c (.int .i64 18)), some (3, false)⟩,
  ⟨some 14, .pick (.t 10) (.c (.bool true)) (.t 13), none⟩,
  ⟨some 15, .mv (.t 14), none⟩,
  ⟨some 16, .mv (.t 0), some (8, false)⟩,
  ⟨some 17, .sls (.t 16) none (some (.c (.int .i64 2))), some (8, false)⟩,
  ⟨some 18, .bin .neq (.t 17) (.c (.string ⟨#[48, 120]⟩)), some (8, false)⟩,
  ⟨some 19, .pick (.t 15) (.c (.bool true)) (.t 18), none⟩,
  ⟨some 20, .mv (.t 19), none⟩,
  ⟨some 21, .mv (.t 0), some (13, false)⟩,
  ⟨some 22, .ixs (.t 21) (.c (.int .i64 2)), some (13, false)⟩,
  ⟨some 23, .bin .eql (.t 22) (.c (.int .u8 48)), some (13, false)⟩,
  ⟨some 24, .mv (.t 23), some (13, false)⟩,
  ⟨some 25, .mv (.t 0), some (17, true)⟩,
  ⟨some 26, .len 0 (.t 25), some (17, true)⟩,
  ⟨some 27, .bin .gtr (.t 26) (.c (.int .i64 3)), some (17, true)⟩,
  ⟨some 28, .pick (.t 24) (.t 27) (.c (.bool false)), some (13, false)⟩,
  ⟨some 29, .pick (.t 20) (.c (.bool true)) (.t 28), none⟩] env H none [] Q := w_reg
theorem F_num_ParseHexr1_g3 {env : Env} : yieldI F_num_ParseHexr1 env 3 = bOf (env 10) := rfl
theorem F_num_ParseHexr1_g8 {env : Env} : yieldI F_num_ParseHexr1 env 8 = bOf (env 15) := rfl
theorem F_num_ParseHexr1_g13 {env : Env} : yieldI F_num_ParseHexr1 env 13 = bOf (env 20) := rfl
theorem F_num_ParseHexr1_g17 {env : Env} : yieldI F_num_ParseHexr1 env 17 = bOf (env 24) := rfl
def F_num_ParseHexr2 : List IStmt := [
  ⟨some 2, .mv (.c (.int .u64 0)), none⟩,
  ⟨some 3, .mv (.c (.int .i64 12)), none⟩]
theorem F_num_ParseHexr2_W {T : Tab} {env : Env} {H : Heap} {Q : Post} : W T (.reg F_num_ParseHexr2) env H Q ↔ WR T F_num_ParseHexr2 [
  ⟨some 2, .mv (.c (.int .u64 0)), none⟩,
  ⟨some 3, .mv (.c (.int .i64 12)), none⟩] env H none [] Q := w_reg
def F_num_ParseHexr3 : List IStmt := [
  ⟨some 4, .mv (.c (.int .u64 0)), none⟩]
theorem F_num_ParseHexr3_W {T : Tab} {env : Env} {H : Heap} {Q : Post} : W T (.reg F_num_ParseHexr3) env H Q ↔ WR T F_num_ParseHexr3 [
  ⟨some 4, .mv (.c (.int .u64 0)), none⟩] env H none [] Q := w_reg
def F_num_ParseHexr4 : List IStmt := [
  ⟨some 5, .mv (.c (.int .i64 2)), none⟩]
theorem F_num_ParseHexr4_W {T : Tab} {env : Env} {H : Heap} {Q : Post} : W T (.reg F_num_ParseHexr4) env H Q ↔ WR T F_num_ParseHexr4 [
  ⟨some 5, .mv (.c (.int .i64 2)), none⟩] env H none [] Q := w_reg
def F_num_ParseHexr5 : List IStmt := [
  ⟨some 30, .mv (.t 5), none⟩,
  ⟨some 31, .mv (.t 0), none⟩,
  ⟨some 32, .len 0 (.t 31), none⟩,
  ⟨some 33, .bin .lss (.t 30) (.t 32), none⟩]
theorem F_num_ParseHexr5_W {T : Tab} {env : Env} {H : Heap} {Q : Post} : W T (.reg F_num_ParseHexr5) env H Q ↔ WR T F_num_ParseHexr5 [
  ⟨some 30, .mv (.t 5), none⟩,
  ⟨some 31, .mv (.t 0), none⟩,
  ⟨some 32, .len 0 (.t 31), none⟩,
  ⟨some 33, .bin .lss (.t 30) (.t 32), none⟩] env H none [] Q := w_reg
def F_num_ParseHexr7 : List IStmt := [
  ⟨some 36, .mv (.t 0), none⟩,
  ⟨some 37, .mv (.t 5), none⟩,
  ⟨some 38, .ixs (.t 36) (.t 37), none⟩,
  ⟨some 39, .call 37 [(.t 38)], none⟩,
  ⟨some 6, .mv (.t 39), none⟩]
theorem F_num_ParseHexr7_W {T : Tab} {env : Env} {H : Heap} {Q : Post} : W T (.reg F_num_ParseHexr7) env H Q ↔ WR T F_num_ParseHexr7 [
  ⟨some 36, .mv (.t 0), none⟩,
  ⟨some 37, .mv (.t 5), none⟩,
  ⟨some 38, .ixs (.t 36) (.t 37), none⟩,
  ⟨some 39, .call 37 [(.t 38)], none⟩,
  ⟨some 6, .mv (.t 39), none⟩] env H none [] Q := w_reg
def F_num_ParseHexr8 : List IStmt := [
  ⟨some 40, .mv (.t 6), none⟩,
  ⟨some 41, .bin .eql (.t 40) (.c (.int .u64 16)), none⟩]
theorem F_num_ParseHexr8_W {T : Tab} {env : Env} {H : Heap} {Q : Post} : W T (.reg F_num_ParseHexr8) env H Q ↔ WR T F_num_ParseHexr8 [
  ⟨some 40, .mv (.t 6), none⟩,
  ⟨some 41, .bin .eql (.t 40) (.c (.int .u64 16)), none⟩] env H none [] Q := w_reg
def F_num_ParseHexr9 : List IStmt := [
  ⟨some 2, .mv (.c (.int .u64 0)), none⟩,
  ⟨some 3, .mv (.c (.int .i64 12)), none⟩]
theorem F_num_ParseHexr9_W {T : Tab} {env : Env} {H : Heap} {Q : Post} : W T (.reg F_num_ParseHexr9) env H Q ↔ WR T F_num_ParseHexr9 [
  ⟨some 2, .mv (.c (.int .u64 0)), none⟩,
  ⟨some 3, .mv (.c (.int .i64 12)), none⟩] env H none [] Q := w_reg
def F_num_ParseHexr10 : List IStmt := [
  ⟨some 42, .mv (.t 4), none⟩,
  ⟨some 43, .bin .shl (.t 42) (.c (.int .u64 4)), none⟩,
  ⟨some 44, .mv (.t 6), none⟩,
  ⟨some 45, .bin .or (.t 43) (.t 44), none⟩,
  ⟨some 4, .mv (.t 45), none⟩]
theorem F_num_ParseHexr10_W {T : Tab} {env : Env} {H : Heap} {Q : Post} : W T (.reg F_num_ParseHexr10) env H Q ↔ WR T F_num_ParseHexr10 [
  ⟨some 42, .mv (.t 4), none⟩,
  ⟨some 43, .bin .shl (.t 42) (.c (.int .u64 4)), none⟩,
  ⟨some 44, .mv (.t 6), none⟩,
  ⟨some 45, .bin .or (.t 43) (.t 44), none⟩,
  ⟨some 4, .mv (.t 45), none⟩] env H none [] Q := w_reg
def F_num_ParseHexr6 : List IStmt := [
  ⟨some 34, .mv (.t 5), none⟩,
  ⟨some 35, .bin .add (.t 34) (.c (.int .i64 1)), none⟩,
  ⟨some 5, .mv (.t 35), none⟩]
theorem F_num_ParseHexr6_W {T : Tab} {env : Env} {H : Heap} {Q : Post} : W T (.reg F_num_ParseHexr6) env H Q ↔ WR T F_num_ParseHexr6 [
  ⟨some 34, .mv (.t 5), none⟩,
  ⟨some 35, .bin .add (.t 34) (.c (.int .i64 1)), none⟩,
  ⟨some 5, .mv (.t 35), none⟩] env H none [] Q := w_reg
def F_num_ParseHexl0 : ICode := (.seq (.seq (.reg F_num_ParseHexr5) (.cond (.t 33) .skip (.exit 0))) (.seq (.block 1 (.seq (.reg F_num_ParseHexr7) (.seq (.seq (.reg F_num_ParseHexr8) (.cond (.t 41) (.seq (.reg F_num_ParseHexr9) .ret) .skip)) (.reg F_num_ParseHexr10)))) (.reg F_num_ParseHexr6)))
theorem F_num_ParseHexl0_W {T : Tab} {env : Env} {H : Heap} {Q : Post} : W T F_num_ParseHexl0 env H Q ↔ W T (.seq (.seq (.reg F_num_ParseHexr5) (.cond (.t 33) .skip (.exit 0))) (.seq (.block 1 (.seq (.reg F_num_ParseHexr7) (.seq (.seq (.reg F_num_ParseHexr8) (.cond (.t 41) (.seq (.reg F_num_ParseHexr9) .ret) .skip)) (.reg F_num_ParseHexr10)))) (.reg F_num_ParseHexr6))) env H Q := Iff.rfl
def F_num_ParseHexr11 : List IStmt := [
  ⟨some 46, .mv (.t 4), none⟩,
  ⟨some 2, .mv (.t 46), none⟩,
  ⟨some 3, .mv (.c (.int .i64 0)), none⟩]
theorem F_num_ParseHexr11_W {T : Tab} {env : Env} {H : Heap} {Q : Post} : W T (.reg F_num_ParseHexr11) env H Q ↔ WR T F_num_ParseHexr11 [
  ⟨some 46, .mv (.t 4), none⟩,
  ⟨some 2, .mv (.t 46), none⟩,
  ⟨some 3, .mv (.c (.int .i64 0)), none⟩] env H none [] Q := w_reg
def F_num_ParseHexc : ICode := (.seq (.reg F_num_ParseHexr0) (.seq (.seq (.reg F_num_ParseHexr1) (.cond (.t 29) (.seq (.reg F_num_ParseHexr2) .ret) .skip)) (.seq (.reg F_num_ParseHexr3) (.seq (.seq (.reg F_num_ParseHexr4) (.block 0 (.loop F_num_ParseHexl0))) (.seq (.reg F_num_ParseHexr11) .ret)))))
theorem F_num_ParseHexc_W {T : Tab} {env : Env} {H : Heap} {Q : Post} : W T F_num_ParseHexc env H Q ↔ W T (.seq (.reg F_num_ParseHexr0) (.seq (.seq (.reg F_num_ParseHexr1) (.cond (.t 29) (.seq (.reg F_num_ParseHexr2) .ret) .skip)) (.seq (.reg F_num_ParseHexr3) (.seq (.seq (.reg F_num_ParseHexr4) (.block 0 (.loop F_num_ParseHexl0))) (.seq (.reg F_num_ParseHexr11) .ret))))) env H Q := Iff.rfl
def F_num_ParseHex : IFn := ⟨47, [.tmp 2, .tmp 3], F_num_ParseHexc⟩
theorem F_num_ParseHex_chk : chkF Try.prog 27 F_num_ParseHex = true := by kernel_rfl

/-- The functions, by number. -/
def TNum_l : List (Nat × IFn) := [(4, F_law01_NumSums), (13, F_num_Add), (14, F_ref01_Add), (15, F_num_Mul), (16, F_ref01_Mul), (17, F_num_Sub), (12, F_law01_alive), (23, F_num_Inside), (25, F_num_Apart), (35, F_ref01_Sum), (19, F_num_Up), (33, F_num_Text), (36, F_ref01_Less), (37, F_num_digit), (20, F_num_Power), (27, F_num_ParseHex)]
def TNum : Tab := tabOf TNum_l
theorem TNum_chk : ∀ p ∈ TNum_l, chkF Try.prog p.1 p.2 = true := by
  intro p hp
  simp only [TNum_l, List.mem_cons, List.not_mem_nil, or_false] at hp
  rcases hp with rfl | rfl | rfl | rfl | rfl | rfl | rfl | rfl | rfl | rfl | rfl | rfl | rfl | rfl | rfl | rfl
  · exact F_law01_NumSums_chk
  · exact F_num_Add_chk
  · exact F_ref01_Add_chk
  · exact F_num_Mul_chk
  · exact F_ref01_Mul_chk
  · exact F_num_Sub_chk
  · exact F_law01_alive_chk
  · exact F_num_Inside_chk
  · exact F_num_Apart_chk
  · exact F_ref01_Sum_chk
  · exact F_num_Up_chk
  · exact F_num_Text_chk
  · exact F_ref01_Less_chk
  · exact F_num_digit_chk
  · exact F_num_Power_chk
  · exact F_num_ParseHex_chk
theorem TNum_good : Good Try.prog TNum := good_tab (by kernel_rfl) TNum_chk

end Go.Proofs.Ytiekjbejgmdkkaa
