/- The small language's text of functions of the given program, and the check that it stands for them. Printed by a program. -/
import Derived.Test.YtdkdifjjpbfohaaFwC
import Derived.Test.YtdkdifjjpbfohaaChecked
import Derived.Test.YtdkdifjjpbfohaaIrDya
import Derived.KernelRfl
namespace Go.Proofs.Ytdkdifjjpbfohaa
open Go Fw

/-! ### ref09_Same -/
def F_ref09_Samer0 : List IStmt := [
  ⟨some 2, .box 40 (.t 0), none⟩,
  ⟨some 3, .box 40 (.t 1), none⟩,
  ⟨some 4, .mv (.c (.bool false)), none⟩]
theorem F_ref09_Samer0_W {T : Tab} {env : Env} {H : Heap} {Q : Post} : W T (.reg F_ref09_Samer0) env H Q ↔ WR T F_ref09_Samer0 [
  ⟨some 2, .box 40 (.t 0), none⟩,
  ⟨some 3, .box 40 (.t 1), none⟩,
  ⟨some 4, .mv (.c (.bool false)), none⟩] env H none [] Q := w_reg
def F_ref09_Samer1 : List IStmt := [
  ⟨some 9, .fa 2 (.t 2), none⟩,
  ⟨some 10, .load (.t 9), none⟩,
  ⟨some 11, .len 1 (.t 10), none⟩,
  ⟨some 12, .fa 2 (.t 3), none⟩,
  ⟨some 13, .load (.t 12), none⟩,
  ⟨some 14, .len 1 (.t 13), none⟩,
  ⟨some 15, .bin .neq (.t 11) (.t 14), none⟩]
theorem F_ref09_Samer1_W {T : Tab} {env : Env} {H : Heap} {Q : Post} : W T (.reg F_ref09_Samer1) env H Q ↔ WR T F_ref09_Samer1 [
  ⟨some 9, .fa 2 (.t 2), none⟩,
  ⟨some 10, .load (.t 9), none⟩,
  ⟨some 11, .len 1 (.t 10), none⟩,
  ⟨some 12, .fa 2 (.t 3), none⟩,
  ⟨some 13, .load (.t 12), none⟩,
  ⟨some 14, .len 1 (.t 13), none⟩,
  ⟨some 15, .bin .neq (.t 11) (.t 14), none⟩] env H none [] Q := w_reg
def F_ref09_Samer2 : List IStmt := [
  ⟨some 4, .mv (.c (.bool false)), none⟩]
theorem F_ref09_Samer2_W {T : Tab} {env : Env} {H : Heap} {Q : Post} : W T (.reg F_ref09_Samer2) env H Q ↔ WR T F_ref09_Samer2 [
  ⟨some 4, .mv (.c (.bool false)), none⟩] env H none [] Q := w_reg
def F_ref09_Samer3 : List IStmt := [
  ⟨some 5, .mv (.c (.int .i64 0)), none⟩]
theorem F_ref09_Samer3_W {T : Tab} {env : Env} {H : Heap} {Q : Post} : W T (.reg F_ref09_Samer3) env H Q ↔ WR T F_ref09_Samer3 [
  ⟨some 5, .mv (.c (.int .i64 0)), none⟩] env H none [] Q := w_reg
def F_ref09_Samer4 : List IStmt := [
  ⟨some 16, .mv (.t 5), none⟩,
  ⟨some 17, .fa 2 (.t 2), none⟩,
  ⟨some 18, .load (.t 17), none⟩,
  ⟨some 19, .len 1 (.t 18), none⟩,
  ⟨some 20, .bin .lss (.t 16) (.t 19), none⟩]
theorem F_ref09_Samer4_W {T : Tab} {env : Env} {H : Heap} {Q : Post} : W T (.reg F_ref09_Samer4) env H Q ↔ WR T F_ref09_Samer4 [
  ⟨some 16, .mv (.t 5), none⟩,
  ⟨some 17, .fa 2 (.t 2), none⟩,
  ⟨some 18, .load (.t 17), none⟩,
  ⟨some 19, .len 1 (.t 18), none⟩,
  ⟨some 20, .bin .lss (.t 16) (.t 19), none⟩] env H none [] Q := w_reg
def F_ref09_Samer6 : List IStmt := [
  ⟨some 23, .fa 2 (.t 2), none⟩,
  ⟨some 24, .load (.t 23), none⟩,
  ⟨some 25, .mv (.t 5), none⟩,
  ⟨some 26, .ixa 1 (.t 24) (.t 25), none⟩,
  ⟨some 27, .load (.t 26), none⟩,
  ⟨some 28, .fa 2 (.t 3), none⟩,
  ⟨some 29, .load (.t 28), none⟩,
  ⟨some 30, .mv (.t 5), none⟩,
  ⟨some 31, .ixa 1 (.t 29) (.t 30), none⟩,
  ⟨some 32, .load (.t 31), none⟩,
  ⟨some 33, .bin .neq (.t 27) (.t 32), none⟩]
theorem F_ref09_Samer6_W {T : Tab} {env : Env} {H : Heap} {Q : Post} : W T (.dreg F_ref09_Samer6 []) env H Q ↔ WR T F_ref09_Samer6 [
  ⟨some 23, .fa 2 (.t 2), none⟩,
  ⟨some 24, .load (.t 23), none⟩,
  ⟨some 25, .mv (.t 5), none⟩,
  ⟨some 26, .ixa 1 (.t 24) (.t 25), none⟩,
  ⟨some 27, .load (.t 26), none⟩,
  ⟨some 28, .fa 2 (.t 3), none⟩,
  ⟨some 29, .load (.t 28), none⟩,
  ⟨some 30, .mv (.t 5), none⟩,
  ⟨some 31, .ixa 1 (.t 29) (.t 30), none⟩,
  ⟨some 32, .load (.t 31), none⟩,
  ⟨some 33, .bin .neq (.t 27) (.t 32), none⟩] env H none [] Q := w_dreg0
def F_ref09_Samer7 : List IStmt := [
  ⟨some 4, .mv (.c (.bool false)), none⟩]
theorem F_ref09_Samer7_W {T : Tab} {env : Env} {H : Heap} {Q : Post} : W T (.reg F_ref09_Samer7) env H Q ↔ WR T F_ref09_Samer7 [
  ⟨some 4, .mv (.c (.bool false)), none⟩] env H none [] Q := w_reg
def F_ref09_Samer5 : List IStmt := [
  ⟨some 21, .mv (.t 5), none⟩,
  ⟨some 22, .bin .add (.t 21) (.c (.int .i64 1)), none⟩,
  ⟨some 5, .mv (.t 22), none⟩]
theorem F_ref09_Samer5_W {T : Tab} {env : Env} {H : Heap} {Q : Post} : W T (.reg F_ref09_Samer5) env H Q ↔ WR T F_ref09_Samer5 [
  ⟨some 21, .mv (.t 5), none⟩,
  ⟨some 22, .bin .add (.t 21) (.c (.int .i64 1)), none⟩,
  ⟨some 5, .mv (.t 22), none⟩] env H none [] Q := w_reg
def F_ref09_Samel0 : ICode := (.seq (.seq (.reg F_ref09_Samer4) (.cond (.t 20) .skip (.exit 0))) (.seq (.block 1 (.seq (.dreg F_ref09_Samer6 []) (.cond (.t 33) (.seq (.reg F_ref09_Samer7) .ret) .skip))) (.reg F_ref09_Samer5)))
theorem F_ref09_Samel0_W {T : Tab} {env : Env} {H : Heap} {Q : Post} : W T F_ref09_Samel0 env H Q ↔ W T (.seq (.seq (.reg F_ref09_Samer4) (.cond (.t 20) .skip (.exit 0))) (.seq (.block 1 (.seq (.dreg F_ref09_Samer6 []) (.cond (.t 33) (.seq (.reg F_ref09_Samer7) .ret) .skip))) (.reg F_ref09_Samer5))) env H Q := Iff.rfl
def F_ref09_Samer8 : List IStmt := [
  ⟨some 34, .fa 0 (.t 2), none⟩,
  ⟨some 35, .load (.t 34), none⟩,
  ⟨some 36, .fa 0 (.t 3), none⟩,
  ⟨some 37, .load (.t 36), none⟩,
  ⟨some 38, .bin .eql (.t 35) (.t 37), none⟩,
  ⟨some 39, .mv (.t 38), none⟩,
  ⟨some 40, .fa 1 (.t 2), some (5, true)⟩,
  ⟨some 41, .load (.t 40), some (5, true)⟩,
  ⟨some 42, .fa 1 (.t 3), some (5, true)⟩,
  ⟨some 43, .load (.t 42), some (5, true)⟩,
  ⟨some 44, .bin .eql (.t 41) (.t 43), some (5, true)⟩,
  ⟨some 45, .pick (.t 39) (.t 44) (.c (.bool false)), none⟩,
  ⟨some 46, .mv (.t 45), none⟩,
  ⟨some 47, .fa 3 (.t 2), some (12, true)⟩,
  ⟨some 48, .load (.t 47), some (12, true)⟩,
  ⟨some 49, .fa 3 (.t 3), some (12, true)⟩,
  ⟨some 50, .load (.t 49), some (12, true)⟩,
  ⟨some 51, .eqb false (.t 48) (.t 50), some (12, true)⟩,
  ⟨some 52, .pick (.t 46) (.t 51) (.c (.bool false)), none⟩,
  ⟨some 53, .mv (.t 52), none⟩,
  ⟨some 54, .fa 4 (.t 2), some (19, true)⟩,
  ⟨some 55, .load (.t 54), some (19, true)⟩,
  ⟨some 56, .fa 4 (.t 3), some (19, true)⟩,
  ⟨some 57, .load (.t 56), some (19, true)⟩,
  ⟨some 58, .eqb false (.t 55) (.t 57), some (19, true)⟩,
  ⟨some 59, .pick (.t 53) (.t 58) (.c (.bool false)), none⟩,
  ⟨some 60, .mv (.t 59), none⟩,
  ⟨some 61, .fa 5 (.t 2), some (26, true)⟩,
  ⟨some 62, .load (.t 61), some (26, true)⟩,
  ⟨some 63, .fa 5 (.t 3), some (26, true)⟩,
  ⟨some 64, .load (.t 63), some (26, true)⟩,
  ⟨some 65, .eqb false (.t 62) (.t 64), some (26, true)⟩,
  ⟨some 66, .pick (.t 60) (.t 65) (.c (.bool false)), none⟩,
  ⟨some 67, .mv (.t 66), none⟩,
  ⟨some 68, .fa 32 (.t 2), some (33, true)⟩,
  ⟨some 69, .load (.t 68), some (33, true)⟩,
  ⟨some 70, .fa 32 (.t 3), some (33, true)⟩,
  ⟨some 71, .load (.t 70), some (33, true)⟩,
  ⟨some 72, .eqb false (.t 69) (.t 71), some (33, true)⟩,
  ⟨some 73, .pick (.t 67) (.t 72) (.c (.bool false)), none⟩,
  ⟨some 74, .mv (.t 73), none⟩,
  ⟨some 75, .fa 33 (.t 2), some (40, true)⟩,
  ⟨some 76, .load (.t 75), some (40, true)⟩,
  ⟨some 77, .fa 33 (.t 3), some (40, true)⟩,
  ⟨some 78, .load (.t 77), some (40, true)⟩,
  ⟨some 79, .eqb false (.t 76) (.t 78), some (40, true)⟩,
  ⟨some 80, .pick (.t 74) (.t 79) (.c (.bool false)), none⟩,
  ⟨some 6, .mv (.t 80), none⟩]
theorem F_ref09_Samer8_W {T : Tab} {env : Env} {H : Heap} {Q : Post} : W T (.reg F_ref09_Samer8) env H Q ↔ WR T F_ref09_Samer8 [
  ⟨some 34, .fa 0 (.t 2), none⟩,
  ⟨some 35, .load (.t 34), none⟩,
  ⟨some 36, .fa 0 (.t 3), none⟩,
  ⟨some 37, .load (.t 36), none⟩,
  ⟨some 38, .bin .eql (.t 35) (.t 37), none⟩,
  ⟨some 39, .mv (.t 38), none⟩,
  ⟨some 40, .fa 1 (.t 2), some (5, true)⟩,
  ⟨some 41, .load (.t 40), some (5, true)⟩,
  ⟨some 42, .fa 1 (.t 3), some (5, true)⟩,
  ⟨some 43, .load (.t 42), some (5, true)⟩,
  ⟨some 44, .bin .eql (.t 41) (.t 43), some (5, true)⟩,
  ⟨some 45, .pick (.t 39) (.t 44) (.c (.bool false)), none⟩,
  ⟨some 46, .mv (.t 45), none⟩,
  ⟨some 47, .fa 3 (.t 2), some (12, true)⟩,
  ⟨some 48, .load (.t 47), some (12, true)⟩,
  ⟨some 49, .fa 3 (.t 3), some (12, true)⟩,
  ⟨some 50, .load (.t 49), some (12, true)⟩,
  ⟨some 51, .eqb false (.t 48) (.t 50), some (12, true)⟩,
  ⟨some 52, .pick (.t 46) (.t 51) (.c (.bool false)), none⟩,
  ⟨some 53, .mv (.t 52), none⟩,
  ⟨some 54, .fa 4 (.t 2), some (19, true)⟩,
  ⟨some 55, .load (.t 54), some (19, true)⟩,
  ⟨some 56, .fa 4 (.t 3), some (19, true)⟩,
  ⟨some 57, .load (.t 56), some (19, true)⟩,
  ⟨some 58, .eqb false (.t 55) (.t 57), some (19, true)⟩,
  ⟨some 59, .pick (.t 53) (.t 58) (.c (.bool false)), none⟩,
  ⟨some 60, .mv (.t 59), none⟩,
  ⟨some 61, .fa 5 (.t 2), some (26, true)⟩,
  ⟨some 62, .load (.t 61), some (26, true)⟩,
  ⟨some 63, .fa 5 (.t 3), some (26, true)⟩,
  ⟨some 64, .load (.t 63), some (26, true)⟩,
  ⟨some 65, .eqb false (.t 62) (.t 64), some (26, true)⟩,
  ⟨some 66, .pick (.t 60) (.t 65) (.c (.bool false)), none⟩,
  ⟨some 67, .mv (.t 66), none⟩,
  ⟨some 68, .fa 32 (.t 2), some (33, true)⟩,
  ⟨some 69, .load (.t 68), some (33, true)⟩,
  ⟨some 70, .fa 32 (.t 3), some (33, true)⟩,
  ⟨some 71, .load (.t 70), some (33, true)⟩,
  ⟨some 72, .eqb false (.t 69) (.t 71), some (33, true)⟩,
  ⟨some 73, .pick (.t 67) (.t 72) (.c (.bool false)), none⟩,
  ⟨some 74, .mv (.t 73), none⟩,
  ⟨some 75, .fa 33 (.t 2), some (40, true)⟩,
  ⟨some 76, .load (.t 75), some (40, true)⟩,
  ⟨some 77, .fa 33 (.t 3), some (40, true)⟩,
  ⟨some 78, .load (.t 77), some (40, true)⟩,
  ⟨some 79, .eqb false (.t 76) (.t 78), some (40, true)⟩,
  ⟨some 80, .pick (.t 74) (.t 79) (.c (.bool false)), none⟩,
  ⟨some 6, .mv (.t 80), none⟩] env H none [] Q := w_reg
theorem F_ref09_Samer8_g5 {env : Env} : yieldI F_ref09_Samer8 env 5 = bOf (env 39) := rfl
theorem F_ref09_Samer8_g12 {env : Env} : yieldI F_ref09_Samer8 env 12 = bOf (env 46) := rfl
theorem F_ref09_Samer8_g19 {env : Env} : yieldI F_ref09_Samer8 env 19 = bOf (env 53) := rfl
theorem F_ref09_Samer8_g26 {env : Env} : yieldI F_ref09_Samer8 env 26 = bOf (env 60) := rfl
theorem F_ref09_Samer8_g33 {env : Env} : yieldI F_ref09_Samer8 env 33 = bOf (env 67) := rfl
theorem F_ref09_Samer8_g40 {env : Env} : yieldI F_ref09_Samer8 env 40 = bOf (env 74) := rfl
def F_ref09_Samer9 : List IStmt := [
  ⟨some 81, .fa 6 (.t 2), none⟩,
  ⟨some 82, .loadN 3 (.t 81), none⟩,
  ⟨some 83, .fa 6 (.t 3), none⟩,
  ⟨some 84, .loadN 3 (.t 83), none⟩,
  ⟨some 85, .eqs [1, 0, 0] false (.t 82) (.t 84), none⟩,
  ⟨some 86, .mv (.t 85), none⟩,
  ⟨some 87, .fa 17 (.t 2), some (5, true)⟩,
  ⟨some 88, .loadN 3 (.t 87), some (5, true)⟩,
  ⟨some 89, .fa 17 (.t 3), some (5, true)⟩,
  ⟨some 90, .loadN 3 (.t 89), some (5, true)⟩,
  ⟨some 91, .eqs [1, 0, 0] false (.t 88) (.t 90), some (5, true)⟩,
  ⟨some 92, .pick (.t 86) (.t 91) (.c (.bool false)), none⟩,
  ⟨some 93, .mv (.t 92), none⟩,
  ⟨some 94, .fa 20 (.t 2), some (12, true)⟩,
  ⟨some 95, .loadN 3 (.t 94), some (12, true)⟩,
  ⟨some 96, .fa 20 (.t 3), some (12, true)⟩,
  ⟨some 97, .loadN 3 (.t 96), some (12, true)⟩,
  ⟨some 98, .eqs [1, 0, 0] false (.t 95) (.t 97), some (12, true)⟩,
  ⟨some 99, .pick (.t 93) (.t 98) (.c (.bool false)), none⟩,
  ⟨some 100, .mv (.t 99), none⟩,
  ⟨some 101, .fa 23 (.t 2), some (19, true)⟩,
  ⟨some 102, .loadN 3 (.t 101), some (19, true)⟩,
  ⟨some 103, .fa 23 (.t 3), some (19, true)⟩,
  ⟨some 104, .loadN 3 (.t 103), some (19, true)⟩,
  ⟨some 105, .eqs [1, 0, 0] false (.t 102) (.t 104), some (19, true)⟩,
  ⟨some 106, .pick (.t 100) (.t 105) (.c (.bool false)), none⟩,
  ⟨some 107, .mv (.t 106), none⟩,
  ⟨some 108, .fa 26 (.t 2), some (26, true)⟩,
  ⟨some 109, .loadN 3 (.t 108), some (26, true)⟩,
  ⟨some 110, .fa 26 (.t 3), some (26, true)⟩,
  ⟨some 111, .loadN 3 (.t 110), some (26, true)⟩,
  ⟨some 112, .eqs [1, 0, 0] false (.t 109) (.t 111), some (26, true)⟩,
  ⟨some 113, .pick (.t 107) (.t 112) (.c (.bool false)), none⟩,
  ⟨some 114, .mv (.t 113), none⟩,
  ⟨some 115, .fa 29 (.t 2), some (33, true)⟩,
  ⟨some 116, .loadN 3 (.t 115), some (33, true)⟩,
  ⟨some 117, .fa 29 (.t 3), some (33, true)⟩,
  ⟨some 118, .loadN 3 (.t 117), some (33, true)⟩,
  ⟨some 119, .eqs [1, 0, 0] false (.t 116) (.t 118), some (33, true)⟩,
  ⟨some 120, .pick (.t 114) (.t 119) (.c (.bool false)), none⟩,
  ⟨some 121, .mv (.t 120), none⟩,
  ⟨some 122, .fa 34 (.t 2), some (40, true)⟩,
  ⟨some 123, .loadN 3 (.t 122), some (40, true)⟩,
  ⟨some 124, .fa 34 (.t 3), some (40, true)⟩,
  ⟨some 125, .loadN 3 (.t 124), some (40, true)⟩,
  ⟨some 126, .eqs [1, 0, 0] false (.t 123) (.t 125), some (40, true)⟩,
  ⟨some 127, .pick (.t 121) (.t 126) (.c (.bool false)), none⟩,
  ⟨some 128, .mv (.t 127), none⟩,
  ⟨some 129, .fa 37 (.t 2), some (47, true)⟩,
  ⟨some 130, .loadN 3 (.t 129), some (47, true)⟩,
  ⟨some 131, .fa 37 (.t 3), some (47, true)⟩,
  ⟨some 132, .loadN 3 (.t 131), some (47, true)⟩,
  ⟨some 133, .eqs [1, 0, 0] false (.t 130) (.t 132), some (47, true)⟩,
  ⟨some 134, .pick (.t 128) (.t 133) (.c (.bool false)), none⟩,
  ⟨some 7, .mv (.t 134), none⟩]
theorem F_ref09_Samer9_W {T : Tab} {env : Env} {H : Heap} {Q : Post} : W T (.reg F_ref09_Samer9) env H Q ↔ WR T F_ref09_Samer9 [
  ⟨some 81, .fa 6 (.t 2), none⟩,
  ⟨some 82, .loadN 3 (.t 81), none⟩,
  ⟨some 83, .fa 6 (.t 3), none⟩,
  ⟨some 84, .loadN 3 (.t 83), none⟩,
  ⟨some 85, .eqs [1, 0, 0] false (.t 82) (.t 84), none⟩,
  ⟨some 86, .mv (.t 85), none⟩,
  ⟨some 87, .fa 17 (.t 2), some (5, true)⟩,
  ⟨some 88, .loadN 3 (.t 87), some (5, true)⟩,
  ⟨some 89, .fa 17 (.t 3), some (5, true)⟩,
  ⟨some 90, .loadN 3 (.t 89), some (5, true)⟩,
  ⟨some 91, .eqs [1, 0, 0] false (.t 88) (.t 90), some (5, true)⟩,
  ⟨some 92, .pick (.t 86) (.t 91) (.c (.bool false)), none⟩,
  ⟨some 93, .mv (.t 92), none⟩,
  ⟨some 94, .fa 20 (.t 2), some (12, true)⟩,
  ⟨some 95, .loadN 3 (.t 94), some (12, true)⟩,
  ⟨some 96, .fa 20 (.t 3), some (12, true)⟩,
  ⟨some 97, .loadN 3 (.t 96), some (12, true)⟩,
  ⟨some 98, .eqs [1, 0, 0] false (.t 95) (.t 97), some (12, true)⟩,
  ⟨some 99, .pick (.t 93) (.t 98) (.c (.bool false)), none⟩,
  ⟨some 100, .mv (.t 99), none⟩,
  ⟨some 101, .fa 23 (.t 2), some (19, true)⟩,
  ⟨some 102, .loadN 3 (.t 101), some (19, true)⟩,
  ⟨some 103, .fa 23 (.t 3), some (19, true)⟩,
  ⟨some 104, .loadN 3 (.t 103), some (19, true)⟩,
  ⟨some 105, .eqs [1, 0, 0] false (.t 102) (.t 104), some (19, true)⟩,
  ⟨some 106, .pick (.t 100) (.t 105) (.c (.bool false)), none⟩,
  ⟨some 107, .mv (.t 106), none⟩,
  ⟨some 108, .fa 26 (.t 2), some (26, true)⟩,
  ⟨some 109, .loadN 3 (.t 108), some (26, true)⟩,
  ⟨some 110, .fa 26 (.t 3), some (26, true)⟩,
  ⟨some 111, .loadN 3 (.t 110), some (26, true)⟩,
  ⟨some 112, .eqs [1, 0, 0] false (.t 109) (.t 111), some (26, true)⟩,
  ⟨some 113, .pick (.t 107) (.t 112) (.c (.bool false)), none⟩,
  ⟨some 114, .mv (.t 113), none⟩,
  ⟨some 115, .fa 29 (.t 2), some (33, true)⟩,
  ⟨some 116, .loadN 3 (.t 115), some (33, true)⟩,
  ⟨some 117, .fa 29 (.t 3), some (33, true)⟩,
  ⟨some 118, .loadN 3 (.t 117), some (33, true)⟩,
  ⟨some 119, .eqs [1, 0, 0] false (.t 116) (.t 118), some (33, true)⟩,
  ⟨some 120, .pick (.t 114) (.t 119) (.c (.bool false)), none⟩,
  ⟨some 121, .mv (.t 120), none⟩,
  ⟨some 122, .fa 34 (.t 2), some (40, true)⟩,
  ⟨some 123, .loadN 3 (.t 122), some (40, true)⟩,
  ⟨some 124, .fa 34 (.t 3), some (40, true)⟩,
  ⟨some 125, .loadN 3 (.t 124), some (40, true)⟩,
  ⟨some 126, .eqs [1, 0, 0] false (.t 123) (.t 125), some (40, true)⟩,
  ⟨some 127, .pick (.t 121) (.t 126) (.c (.bool false)), none⟩,
  ⟨some 128, .mv (.t 127), none⟩,
  ⟨some 129, .fa 37 (.t 2), some (47, true)⟩,
  ⟨some 130, .loadN 3 (.t 129), some (47, true)⟩,
  ⟨some 131, .fa 37 (.t 3), some (47, true)⟩,
  ⟨some 132, .loadN 3 (.t 131), some (47, true)⟩,
  ⟨some 133, .eqs [1, 0, 0] false (.t 130) (.t 132), some (47, true)⟩,
  ⟨some 134, .pick (.t 128) (.t 133) (.c (.bool false)), none⟩,
  ⟨some 7, .mv (.t 134), none⟩] env H none [] Q := w_reg
theorem F_ref09_Samer9_g5 {env : Env} : yieldI F_ref09_Samer9 env 5 = bOf (env 86) := rfl
theorem F_ref09_Samer9_g12 {env : Env} : yieldI F_ref09_Samer9 env 12 = bOf (env 93) := rfl
theorem F_ref09_Samer9_g19 {env : Env} : yieldI F_ref09_Samer9 env 19 = bOf (env 100) := rfl
theorem F_ref09_Samer9_g26 {env : Env} : yieldI F_ref09_Samer9 env 26 = bOf (env 107) := rfl
theorem F_ref09_Samer9_g33 {env : Env} : yieldI F_ref09_Samer9 env 33 = bOf (env 114) := rfl
theorem F_ref09_Samer9_g40 {env : Env} : yieldI F_ref09_Samer9 env 40 = bOf (env 121) := rfl
theorem F_ref09_Samer9_g47 {env : Env} : yieldI F_ref09_Samer9 env 47 = bOf (env 128) := rfl
def F_ref09_Samer10 : List IStmt := [
  ⟨some 135, .fa 9 (.t 2), none⟩,
  ⟨some 136, .load (.t 135), none⟩,
  ⟨some 137, .fa 9 (.t 3), none⟩,
  ⟨some 138, .load (.t 137), none⟩,
  ⟨some 139, .bin .eql (.t 136) (.t 138), none⟩,
  ⟨some 140, .mv (.t 139), none⟩,
  ⟨some 141, .fa 10 (.t 2), some (5, true)⟩,
  ⟨some 142, .load (.t 141), some (5, true)⟩,
  ⟨some 143, .fa 10 (.t 3), some (5, true)⟩,
  ⟨some 144, .load (.t 143), some (5, true)⟩,
  ⟨some 145, .bin .eql (.t 142) (.t 144), some (5, true)⟩,
  ⟨some 146, .pick (.t 140) (.t 145) (.c (.bool false)), none⟩,
  ⟨some 147, .mv (.t 146), none⟩,
  ⟨some 148, .fa 11 (.t 2), some (12, true)⟩,
  ⟨some 149, .load (.t 148), some (12, true)⟩,
  ⟨some 150, .fa 11 (.t 3), some (12, true)⟩,
  ⟨some 151, .load (.t 150), some (12, true)⟩,
  ⟨some 152, .bin .eql (.t 149) (.t 151), some (12, true)⟩,
  ⟨some 153, .pick (.t 147) (.t 152) (.c (.bool false)), none⟩,
  ⟨some 154, .mv (.t 153), none⟩,
  ⟨some 155, .fa 12 (.t 2), some (19, true)⟩,
  ⟨some 156, .load (.t 155), some (19, true)⟩,
  ⟨some 157, .fa 12 (.t 3), some (19, true)⟩,
  ⟨some 158, .load (.t 157), some (19, true)⟩,
  ⟨some 159, .bin .eql (.t 156) (.t 158), some (19, true)⟩,
  ⟨some 160, .pick (.t 154) (.t 159) (.c (.bool false)), none⟩,
  ⟨some 8, .mv (.t 160), none⟩]
theorem F_ref09_Samer10_W {T : Tab} {env : Env} {H : Heap} {Q : Post} : W T (.reg F_ref09_Samer10) env H Q ↔ WR T F_ref09_Samer10 [
  ⟨some 135, .fa 9 (.t 2), none⟩,
  ⟨some 136, .load (.t 135), none⟩,
  ⟨some 137, .fa 9 (.t 3), none⟩,
  ⟨some 138, .load (.t 137), none⟩,
  ⟨some 139, .bin .eql (.t 136) (.t 138), none⟩,
  ⟨some 140, .mv (.t 139), none⟩,
  ⟨some 141, .fa 10 (.t 2), some (5, true)⟩,
  ⟨some 142, .load (.t 141), some (5, true)⟩,
  ⟨some 143, .fa 10 (.t 3), some (5, true)⟩,
  ⟨some 144, .load (.t 143), some (5, true)⟩,
  ⟨some 145, .bin .eql (.t 142) (.t 144), some (5, true)⟩,
  ⟨some 146, .pick (.t 140) (.t 145) (.c (.bool false)), none⟩,
  ⟨some 147, .mv (.t 146), none⟩,
  ⟨some 148, .fa 11 (.t 2), some (12, true)⟩,
  ⟨some 149, .load (.t 148), some (12, true)⟩,
  ⟨some 150, .fa 11 (.t 3), some (12, true)⟩,
  ⟨some 151, .load (.t 150), some (12, true)⟩,
  ⟨some 152, .bin .eql (.t 149) (.t 151), some (12, true)⟩,
  ⟨some 153, .pick (.t 147) (.t 152) (.c (.bool false)), none⟩,
  ⟨some 154, .mv (.t 153), none⟩,
  ⟨some 155, .fa 12 (.t 2), some (19, true)⟩,
  ⟨some 156, .load (.t 155), some (19, true)⟩,
  ⟨some 157, .fa 12 (.t 3), some (19, true)⟩,
  ⟨some 158, .load (.t 157), some (19, true)⟩,
  ⟨some 159, .bin .eql (.t 156) (.t 158), some (19, true)⟩,
  ⟨some 160, .pick (.t 154) (.t 159) (.c (.bool false)), none⟩,
  ⟨some 8, .mv (.t 160), none⟩] env H none [] Q := w_reg
theorem F_ref09_Samer10_g5 {env : Env} : yieldI F_ref09_Samer10 env 5 = bOf (env 140) := rfl
theorem F_ref09_Samer10_g12 {env : Env} : yieldI F_ref09_Samer10 env 12 = bOf (env 147) := rfl
theorem F_ref09_Samer10_g19 {env : Env} : yieldI F_ref09_Samer10 env 19 = bOf (env 154) := rfl
def F_ref09_Samer11 : List IStmt := [
  ⟨some 161, .mv (.t 6), none⟩,
  ⟨some 162, .mv (.t 161), none⟩,
  ⟨some 163, .mv (.t 7), some (1, true)⟩,
  ⟨some 164, .pick (.t 162) (.t 163) (.c (.bool false)), none⟩,
  ⟨some 165, .mv (.t 164), none⟩,
  ⟨some 166, .mv (.t 8), some (4, true)⟩,
  ⟨some 167, .pick (.t 165) (.t 166) (.c (.bool false)), none⟩,
  ⟨some 168, .mv (.t 167), none⟩,
  ⟨some 169, .fa 13 (.t 2), some (7, true)⟩,
  ⟨some 170, .load (.t 169), some (7, true)⟩,
  ⟨some 171, .fa 13 (.t 3), some (7, true)⟩,
  ⟨some 172, .load (.t 171), some (7, true)⟩,
  ⟨some 173, .bin .eql (.t 170) (.t 172), some (7, true)⟩,
  ⟨some 174, .pick (.t 168) (.t 173) (.c (.bool false)), none⟩,
  ⟨some 175, .mv (.t 174), none⟩,
  ⟨some 176, .fa 15 (.t 2), some (14, true)⟩,
  ⟨some 177, .load (.t 176), some (14, true)⟩,
  ⟨some 178, .fa 15 (.t 3), some (14, true)⟩,
  ⟨some 179, .load (.t 178), some (14, true)⟩,
  ⟨some 180, .bin .eql (.t 177) (.t 179), some (14, true)⟩,
  ⟨some 181, .pick (.t 175) (.t 180) (.c (.bool false)), none⟩,
  ⟨some 182, .mv (.t 181), none⟩,
  ⟨some 183, .fa 14 (.t 2), some (21, true)⟩,
  ⟨some 184, .load (.t 183), some (21, true)⟩,
  ⟨some 185, .fa 14 (.t 3), some (21, true)⟩,
  ⟨some 186, .load (.t 185), some (21, true)⟩,
  ⟨some 187, .bin .eql (.t 184) (.t 186), some (21, true)⟩,
  ⟨some 188, .pick (.t 182) (.t 187) (.c (.bool false)), none⟩,
  ⟨some 189, .mv (.t 188), none⟩,
  ⟨some 190, .fa 16 (.t 2), some (28, true)⟩,
  ⟨some 191, .load (.t 190), some (28, true)⟩,
  ⟨some 192, .fa 16 (.t 3), some (28, true)⟩,
  ⟨some 193, .load (.t 192), some (28, true)⟩,
  ⟨some 194, .bin .eql (.t 191) (.t 193), some (28, true)⟩,
  ⟨some 195, .pick (.t 189) (.t 194) (.c (.bool false)), none⟩,
  ⟨some 4, .mv (.t 195), none⟩]
theorem F_ref09_Samer11_W {T : Tab} {env : Env} {H : Heap} {Q : Post} : W T (.reg F_ref09_Samer11) env H Q ↔ WR T F_ref09_Samer11 [
  ⟨some 161, .mv (.t 6), none⟩,
  ⟨some 162, .mv (.t 161), none⟩,
  ⟨some 163, .mv (.t 7), some (1, true)⟩,
  ⟨some 164, .pick (.t 162) (.t 163) (.c (.bool false)), none⟩,
  ⟨some 165, .mv (.t 164), none⟩,
  ⟨some 166, .mv (.t 8), some (4, true)⟩,
  ⟨some 167, .pick (.t 165) (.t 166) (.c (.bool false)), none⟩,
  ⟨some 168, .mv (.t 167), none⟩,
  ⟨some 169, .fa 13 (.t 2), some (7, true)⟩,
  ⟨some 170, .load (.t 169), some (7, true)⟩,
  ⟨some 171, .fa 13 (.t 3), some (7, true)⟩,
  ⟨some 172, .load (.t 171), some (7, true)⟩,
  ⟨some 173, .bin .eql (.t 170) (.t 172), some (7, true)⟩,
  ⟨some 174, .pick (.t 168) (.t 173) (.c (.bool false)), none⟩,
  ⟨some 175, .mv (.t 174), none⟩,
  ⟨some 176, .fa 15 (.t 2), some (14, true)⟩,
  ⟨some 177, .load (.t 176), some (14, true)⟩,
  ⟨some 178, .fa 15 (.t 3), some (14, true)⟩,
  ⟨some 179, .load (.t 178), some (14, true)⟩,
  ⟨some 180, .bin .eql (.t 177) (.t 179), some (14, true)⟩,
  ⟨some 181, .pick (.t 175) (.t 180) (.c (.bool false)), none⟩,
  ⟨some 182, .mv (.t 181), none⟩,
  ⟨some 183, .fa 14 (.t 2), some (21, true)⟩,
  ⟨some 184, .load (.t 183), some (21, true)⟩,
  ⟨some 185, .fa 14 (.t 3), some (21, true)⟩,
  ⟨some 186, .load (.t 185), some (21, true)⟩,
  ⟨some 187, .bin .eql (.t 184) (.t 186), some (21, true)⟩,
  ⟨some 188, .pick (.t 182) (.t 187) (.c (.bool false)), none⟩,
  ⟨some 189, .mv (.t 188), none⟩,
  ⟨some 190, .fa 16 (.t 2), some (28, true)⟩,
  ⟨some 191, .load (.t 190), some (28, true)⟩,
  ⟨some 192, .fa 16 (.t 3), some (28, true)⟩,
  ⟨some 193, .load (.t 192), some (28, true)⟩,
  ⟨some 194, .bin .eql (.t 191) (.t 193), some (28, true)⟩,
  ⟨some 195, .pick (.t 189) (.t 194) (.c (.bool false)), none⟩,
  ⟨some 4, .mv (.t 195), none⟩] env H none [] Q := w_reg
theorem F_ref09_Samer11_g1 {env : Env} : yieldI F_ref09_Samer11 env 1 = bOf (env 162) := rfl
theorem F_ref09_Samer11_g4 {env : Env} : yieldI F_ref09_Samer11 env 4 = bOf (env 165) := rfl
theorem F_ref09_Samer11_g7 {env : Env} : yieldI F_ref09_Samer11 env 7 = bOf (env 168) := rfl
theorem F_ref09_Samer11_g14 {env : Env} : yieldI F_ref09_Samer11 env 14 = bOf (env 175) := rfl
theorem F_ref09_Samer11_g21 {env : Env} : yieldI F_ref09_Samer11 env 21 = bOf (env 182) := rfl
theorem F_ref09_Samer11_g28 {env : Env} : yieldI F_ref09_Samer11 env 28 = bOf (env 189) := rfl
def F_ref09_Samec : ICode := (.seq (.reg F_ref09_Samer0) (.seq (.seq (.reg F_ref09_Samer1) (.cond (.t 15) (.seq (.reg F_ref09_Samer2) .ret) .skip)) (.seq (.seq (.reg F_ref09_Samer3) (.block 0 (.loop F_ref09_Samel0))) (.seq (.reg F_ref09_Samer8) (.seq (.reg F_ref09_Samer9) (.seq (.reg F_ref09_Samer10) (.seq (.reg F_ref09_Samer11) .ret)))))))
theorem F_ref09_Samec_W {T : Tab} {env : Env} {H : Heap} {Q : Post} : W T F_ref09_Samec env H Q ↔ W T (.seq (.reg F_ref09_Samer0) (.seq (.seq (.reg F_ref09_Samer1) (.cond (.t 15) (.seq (.reg F_ref09_Samer2) .ret) .skip)) (.seq (.seq (.reg F_ref09_Samer3) (.block 0 (.loop F_ref09_Samel0))) (.seq (.reg F_ref09_Samer8) (.seq (.reg F_ref09_Samer9) (.seq (.reg F_ref09_Samer10) (.seq (.reg F_ref09_Samer11) .ret))))))) env H Q := Iff.rfl
def F_ref09_Same : IFn := ⟨196, [.tmp 4], F_ref09_Samec⟩
set_option maxRecDepth 1000000 in
theorem F_ref09_Same_chk : chkF Try.prog 34 F_ref09_Same = true := by kernel_rfl

/-! ### head_Off -/
def F_head_Offr0 : List IStmt := [
  ⟨some 3, .box 16 (.t 0), none⟩,
  ⟨some 6, .mv (.c (.int .u64 0)), none⟩,
  ⟨some 7, .mv (.c (.bool false)), none⟩]
theorem F_head_Offr0_W {T : Tab} {env : Env} {H : Heap} {Q : Post} : W T (.reg F_head_Offr0) env H Q ↔ WR T F_head_Offr0 [
  ⟨some 3, .box 16 (.t 0), none⟩,
  ⟨some 6, .mv (.c (.int .u64 0)), none⟩,
  ⟨some 7, .mv (.c (.bool false)), none⟩] env H none [] Q := w_reg
def F_head_Offr1 : List IStmt := [
  ⟨some 10, .fa 1 (.t 3), none⟩,
  ⟨some 11, .load (.t 10), none⟩,
  ⟨some 12, .len 1 (.t 11), none⟩,
  ⟨some 13, .mv (.c (.int .i64 0)), none⟩]
theorem F_head_Offr1_W {T : Tab} {env : Env} {H : Heap} {Q : Post} : W T (.reg F_head_Offr1) env H Q ↔ WR T F_head_Offr1 [
  ⟨some 10, .fa 1 (.t 3), none⟩,
  ⟨some 11, .load (.t 10), none⟩,
  ⟨some 12, .len 1 (.t 11), none⟩,
  ⟨some 13, .mv (.c (.int .i64 0)), none⟩] env H none [] Q := w_reg
def F_head_Offr2 : List IStmt := [
  ⟨some 14, .bin .lss (.t 13) (.t 12), none⟩]
theorem F_head_Offr2_W {T : Tab} {env : Env} {H : Heap} {Q : Post} : W T (.reg F_head_Offr2) env H Q ↔ WR T F_head_Offr2 [
  ⟨some 14, .bin .lss (.t 13) (.t 12), none⟩] env H none [] Q := w_reg
def F_head_Offr3 : List IStmt := [
  ⟨some 15, .ixa 7 (.t 11) (.t 13), none⟩,
  ⟨some 16, .loadN 7 (.t 15), none⟩,
  ⟨some 9, .alloc 7 [.int .u32 0, .int .u32 0, .int .u64 0, .int .u64 0, .int .u64 0, .int .u64 0, .int .u64 0], none⟩,
  ⟨none, .store 7 (.t 9) (.t 16), none⟩]
theorem F_head_Offr3_W {T : Tab} {env : Env} {H : Heap} {Q : Post} : W T (.reg F_head_Offr3) env H Q ↔ WR T F_head_Offr3 [
  ⟨some 15, .ixa 7 (.t 11) (.t 13), none⟩,
  ⟨some 16, .loadN 7 (.t 15), none⟩,
  ⟨some 9, .alloc 7 [.int .u32 0, .int .u32 0, .int .u64 0, .int .u64 0, .int .u64 0, .int .u64 0, .int .u64 0], none⟩,
  ⟨none, .store 7 (.t 9) (.t 16), none⟩] env H none [] Q := w_reg
def F_head_Offr4 : List IStmt := [
  ⟨some 17, .mv (.t 1), none⟩,
  ⟨some 18, .mv (.t 2), none⟩,
  ⟨some 19, .fa 3 (.t 9), none⟩,
  ⟨some 20, .load (.t 19), none⟩,
  ⟨some 21, .fa 4 (.t 9), none⟩,
  ⟨some 22, .load (.t 21), none⟩,
  ⟨some 23, .callc 74 [(.t 17), (.t 18), (.t 20), (.t 22)], none⟩]
theorem F_head_Offr4_W {T : Tab} {env : Env} {H : Heap} {Q : Post} : W T (.reg F_head_Offr4) env H Q ↔ WR T F_head_Offr4 [
  ⟨some 17, .mv (.t 1), none⟩,
  ⟨some 18, .mv (.t 2), none⟩,
  ⟨some 19, .fa 3 (.t 9), none⟩,
  ⟨some 20, .load (.t 19), none⟩,
  ⟨some 21, .fa 4 (.t 9), none⟩,
  ⟨some 22, .load (.t 21), none⟩,
  ⟨some 23, .callc 74 [(.t 17), (.t 18), (.t 20), (.t 22)], none⟩] env H none [] Q := w_reg
def F_head_Offr5 : List IStmt := [
  ⟨some 24, .fa 2 (.t 9), none⟩,
  ⟨some 25, .load (.t 24), none⟩,
  ⟨some 26, .mv (.t 1), none⟩,
  ⟨some 27, .fa 3 (.t 9), none⟩,
  ⟨some 28, .load (.t 27), none⟩,
  ⟨some 29, .bin .sub (.t 26) (.t 28), none⟩,
  ⟨some 30, .bin .add (.t 25) (.t 29), none⟩,
  ⟨some 6, .mv (.t 30), none⟩,
  ⟨some 7, .mv (.c (.bool true)), none⟩]
theorem F_head_Offr5_W {T : Tab} {env : Env} {H : Heap} {Q : Post} : W T (.reg F_head_Offr5) env H Q ↔ WR T F_head_Offr5 [
  ⟨some 24, .fa 2 (.t 9), none⟩,
  ⟨some 25, .load (.t 24), none⟩,
  ⟨some 26, .mv (.t 1), none⟩,
  ⟨some 27, .fa 3 (.t 9), none⟩,
  ⟨some 28, .load (.t 27), none⟩,
  ⟨some 29, .bin .sub (.t 26) (.t 28), none⟩,
  ⟨some 30, .bin .add (.t 25) (.t 29), none⟩,
  ⟨some 6, .mv (.t 30), none⟩,
  ⟨some 7, .mv (.c (.bool true)), none⟩] env H none [] Q := w_reg
def F_head_Offr6 : List IStmt := [
  ⟨some 31, .bin .add (.t 13) (.c (.int .i64 1)), none⟩,
  ⟨some 13, .mv (.t 31), none⟩]
theorem F_head_Offr6_W {T : Tab} {env : Env} {H : Heap} {Q : Post} : W T (.reg F_head_Offr6) env H Q ↔ WR T F_head_Offr6 [
  ⟨some 31, .bin .add (.t 13) (.c (.int .i64 1)), none⟩,
  ⟨some 13, .mv (.t 31), none⟩] env H none [] Q := w_reg
def F_head_Offl0 : ICode := (.seq (.reg F_head_Offr2) (.seq (.cond (.t 14) .skip (.exit 0)) (.seq (.block 1 (.seq (.reg F_head_Offr3) (.seq (.reg F_head_Offr4) (.cond (.t 23) (.seq (.reg F_head_Offr5) .ret) .skip)))) (.reg F_head_Offr6))))
theorem F_head_Offl0_W {T : Tab} {env : Env} {H : Heap} {Q : Post} : W T F_head_Offl0 env H Q ↔ W T (.seq (.reg F_head_Offr2) (.seq (.cond (.t 14) .skip (.exit 0)) (.seq (.block 1 (.seq (.reg F_head_Offr3) (.seq (.reg F_head_Offr4) (.cond (.t 23) (.seq (.reg F_head_Offr5) .ret) .skip)))) (.reg F_head_Offr6)))) env H Q := Iff.rfl
def F_head_Offr7 : List IStmt := [
  ⟨some 6, .mv (.c (.int .u64 0)), none⟩,
  ⟨some 7, .mv (.c (.bool false)), none⟩]
theorem F_head_Offr7_W {T : Tab} {env : Env} {H : Heap} {Q : Post} : W T (.reg F_head_Offr7) env H Q ↔ WR T F_head_Offr7 [
  ⟨some 6, .mv (.c (.int .u64 0)), none⟩,
  ⟨some 7, .mv (.c (.bool false)), none⟩] env H none [] Q := w_reg
def F_head_Offc : ICode := (.seq (.reg F_head_Offr0) (.seq (.seq (.reg F_head_Offr1) (.block 0 (.loop F_head_Offl0))) (.seq (.reg F_head_Offr7) .ret)))
theorem F_head_Offc_W {T : Tab} {env : Env} {H : Heap} {Q : Post} : W T F_head_Offc env H Q ↔ W T (.seq (.reg F_head_Offr0) (.seq (.seq (.reg F_head_Offr1) (.block 0 (.loop F_head_Offl0))) (.seq (.reg F_head_Offr7) .ret))) env H Q := Iff.rfl
def F_head_Off : IFn := ⟨32, [.tmp 6, .tmp 7], F_head_Offc⟩
set_option maxRecDepth 1000000 in
theorem F_head_Off_chk : chkF Try.prog 64 F_head_Off = true := by kernel_rfl

/-! ### head_Part -/
def F_head_Partr0 : List IStmt := [
  ⟨some 5, .box 16 (.t 1), none⟩,
  ⟨some 8, .mv (.c (.slice none 0 0)), none⟩,
  ⟨some 9, .mv (.c (.bool false)), none⟩]
theorem F_head_Partr0_W {T : Tab} {env : Env} {H : Heap} {Q : Post} : W T (.reg F_head_Partr0) env H Q ↔ WR T F_head_Partr0 [
  ⟨some 5, .box 16 (.t 1), none⟩,
  ⟨some 8, .mv (.c (.slice none 0 0)), none⟩,
  ⟨some 9, .mv (.c (.bool false)), none⟩] env H none [] Q := w_reg
def F_head_Partr1 : List IStmt := [
  ⟨some 15, .loadN 16 (.t 5), none⟩,
  ⟨some 16, .mv (.t 2), none⟩,
  ⟨some 17, .mv (.t 3), none⟩,
  ⟨some 18, .callc 64 [(.t 15), (.t 16), (.t 17)], none⟩,
  ⟨some 14, .mv (.t 18), none⟩,
  ⟨some 19, .ext (.t 14) 0, none⟩,
  ⟨some 20, .ext (.t 14) 1, none⟩,
  ⟨some 10, .mv (.t 19), none⟩,
  ⟨some 11, .mv (.t 20), none⟩]
theorem F_head_Partr1_W {T : Tab} {env : Env} {H : Heap} {Q : Post} : W T (.reg F_head_Partr1) env H Q ↔ WR T F_head_Partr1 [
  ⟨some 15, .loadN 16 (.t 5), none⟩,
  ⟨some 16, .mv (.t 2), none⟩,
  ⟨some 17, .mv (.t 3), none⟩,
  ⟨some 18, .callc 64 [(.t 15), (.t 16), (.t 17)], none⟩,
  ⟨some 14, .mv (.t 18), none⟩,
  ⟨some 19, .ext (.t 14) 0, none⟩,
  ⟨some 20, .ext (.t 14) 1, none⟩,
  ⟨some 10, .mv (.t 19), none⟩,
  ⟨some 11, .mv (.t 20), none⟩] env H none [] Q := w_reg
def F_head_Partr2 : List IStmt := [
  ⟨some 21, .mv (.t 11), none⟩,
  ⟨some 22, .un .not (.t 21), none⟩]
theorem F_head_Partr2_W {T : Tab} {env : Env} {H : Heap} {Q : Post} : W T (.reg F_head_Partr2) env H Q ↔ WR T F_head_Partr2 [
  ⟨some 21, .mv (.t 11), none⟩,
  ⟨some 22, .un .not (.t 21), none⟩] env H none [] Q := w_reg
def F_head_Partr3 : List IStmt := [
  ⟨some 8, .mv (.c (.slice none 0 0)), none⟩,
  ⟨some 9, .mv (.c (.bool false)), none⟩]
theorem F_head_Partr3_W {T : Tab} {env : Env} {H : Heap} {Q : Post} : W T (.reg F_head_Partr3) env H Q ↔ WR T F_head_Partr3 [
  ⟨some 8, .mv (.c (.slice none 0 0)), none⟩,
  ⟨some 9, .mv (.c (.bool false)), none⟩] env H none [] Q := w_reg
def F_head_Partr4 : List IStmt := [
  ⟨some 24, .mv (.t 0), none⟩,
  ⟨some 25, .mv (.t 10), none⟩,
  ⟨some 26, .mv (.t 3), none⟩,
  ⟨some 27, .callc 65 [(.t 24), (.t 25), (.t 26)], none⟩,
  ⟨some 23, .mv (.t 27), none⟩,
  ⟨some 28, .ext (.t 23) 0, none⟩,
  ⟨some 29, .ext (.t 23) 1, none⟩,
  ⟨some 12, .mv (.t 28), none⟩,
  ⟨some 13, .mv (.t 29), none⟩]
theorem F_head_Partr4_W {T : Tab} {env : Env} {H : Heap} {Q : Post} : W T (.reg F_head_Partr4) env H Q ↔ WR T F_head_Partr4 [
  ⟨some 24, .mv (.t 0), none⟩,
  ⟨some 25, .mv (.t 10), none⟩,
  ⟨some 26, .mv (.t 3), none⟩,
  ⟨some 27, .callc 65 [(.t 24), (.t 25), (.t 26)], none⟩,
  ⟨some 23, .mv (.t 27), none⟩,
  ⟨some 28, .ext (.t 23) 0, none⟩,
  ⟨some 29, .ext (.t 23) 1, none⟩,
  ⟨some 12, .mv (.t 28), none⟩,
  ⟨some 13, .mv (.t 29), none⟩] env H none [] Q := w_reg
def F_head_Partr5 : List IStmt := [
  ⟨some 30, .mv (.t 12), none⟩,
  ⟨some 31, .mv (.t 13), none⟩,
  ⟨some 32, .bin .eql (.t 31) (.c (.int .i64 0)), none⟩,
  ⟨some 8, .mv (.t 30), none⟩,
  ⟨some 9, .mv (.t 32), none⟩]
theorem F_head_Partr5_W {T : Tab} {env : Env} {H : Heap} {Q : Post} : W T (.reg F_head_Partr5) env H Q ↔ WR T F_head_Partr5 [
  ⟨some 30, .mv (.t 12), none⟩,
  ⟨some 31, .mv (.t 13), none⟩,
  ⟨some 32, .bin .eql (.t 31) (.c (.int .i64 0)), none⟩,
  ⟨some 8, .mv (.t 30), none⟩,
  ⟨some 9, .mv (.t 32), none⟩] env H none [] Q := w_reg
def F_head_Partc : ICode := (.seq (.reg F_head_Partr0) (.seq (.reg F_head_Partr1) (.seq (.seq (.reg F_head_Partr2) (.cond (.t 22) (.seq (.reg F_head_Partr3) .ret) .skip)) (.seq (.reg F_head_Partr4) (.seq (.reg F_head_Partr5) .ret)))))
theorem F_head_Partc_W {T : Tab} {env : Env} {H : Heap} {Q : Post} : W T F_head_Partc env H Q ↔ W T (.seq (.reg F_head_Partr0) (.seq (.reg F_head_Partr1) (.seq (.seq (.reg F_head_Partr2) (.cond (.t 22) (.seq (.reg F_head_Partr3) .ret) .skip)) (.seq (.reg F_head_Partr4) (.seq (.reg F_head_Partr5) .ret))))) env H Q := Iff.rfl
def F_head_Part : IFn := ⟨33, [.tmp 8, .tmp 9], F_head_Partc⟩
set_option maxRecDepth 1000000 in
theorem F_head_Part_chk : chkF Try.prog 55 F_head_Part = true := by kernel_rfl

/-! ### dyn_Strings -/
def F_dyn_Stringsr0 : List IStmt := [
  ⟨some 4, .box 16 (.t 1), none⟩,
  ⟨some 5, .box 40 (.t 2), none⟩,
  ⟨some 6, .mv (.c (.slice none 0 0)), none⟩,
  ⟨some 7, .mv (.c (.bool false)), none⟩]
theorem F_dyn_Stringsr0_W {T : Tab} {env : Env} {H : Heap} {Q : Post} : W T (.reg F_dyn_Stringsr0) env H Q ↔ WR T F_dyn_Stringsr0 [
  ⟨some 4, .box 16 (.t 1), none⟩,
  ⟨some 5, .box 40 (.t 2), none⟩,
  ⟨some 6, .mv (.c (.slice none 0 0)), none⟩,
  ⟨some 7, .mv (.c (.bool false)), none⟩] env H none [] Q := w_reg
def F_dyn_Stringsr1 : List IStmt := [
  ⟨some 8, .mv (.t 0), none⟩,
  ⟨some 9, .loadN 16 (.t 4), none⟩,
  ⟨some 10, .fa 6 (.t 5), none⟩,
  ⟨some 11, .fa 1 (.t 10), none⟩,
  ⟨some 12, .load (.t 11), none⟩,
  ⟨some 13, .fa 6 (.t 5), none⟩,
  ⟨some 14, .fa 2 (.t 13), none⟩,
  ⟨some 15, .load (.t 14), none⟩,
  ⟨some 16, .callc 55 [(.t 8), (.t 9), (.t 12), (.t 15)], none⟩,
  ⟨some 17, .ext (.t 16) 0, none⟩,
  ⟨some 18, .ext (.t 16) 1, none⟩,
  ⟨some 6, .mv (.t 17), none⟩,
  ⟨some 7, .mv (.t 18), none⟩]
theorem F_dyn_Stringsr1_W {T : Tab} {env : Env} {H : Heap} {Q : Post} : W T (.reg F_dyn_Stringsr1) env H Q ↔ WR T F_dyn_Stringsr1 [
  ⟨some 8, .mv (.t 0), none⟩,
  ⟨some 9, .loadN 16 (.t 4), none⟩,
  ⟨some 10, .fa 6 (.t 5), none⟩,
  ⟨some 11, .fa 1 (.t 10), none⟩,
  ⟨some 12, .load (.t 11), none⟩,
  ⟨some 13, .fa 6 (.t 5), none⟩,
  ⟨some 14, .fa 2 (.t 13), none⟩,
  ⟨some 15, .load (.t 14), none⟩,
  ⟨some 16, .callc 55 [(.t 8), (.t 9), (.t 12), (.t 15)], none⟩,
  ⟨some 17, .ext (.t 16) 0, none⟩,
  ⟨some 18, .ext (.t 16) 1, none⟩,
  ⟨some 6, .mv (.t 17), none⟩,
  ⟨some 7, .mv (.t 18), none⟩] env H none [] Q := w_reg
def F_dyn_Stringsc : ICode := (.seq (.reg F_dyn_Stringsr0) (.seq (.reg F_dyn_Stringsr1) .ret))
theorem F_dyn_Stringsc_W {T : Tab} {env : Env} {H : Heap} {Q : Post} : W T F_dyn_Stringsc env H Q ↔ W T (.seq (.reg F_dyn_Stringsr0) (.seq (.reg F_dyn_Stringsr1) .ret)) env H Q := Iff.rfl
def F_dyn_Strings : IFn := ⟨19, [.tmp 6, .tmp 7], F_dyn_Stringsc⟩
set_option maxRecDepth 1000000 in
theorem F_dyn_Strings_chk : chkF Try.prog 69 F_dyn_Strings = true := by kernel_rfl

/-! ### dyn_known -/
def F_dyn_knownr0 : List IStmt := [
  ⟨some 2, .mv (.c (.bool false)), none⟩]
theorem F_dyn_knownr0_W {T : Tab} {env : Env} {H : Heap} {Q : Post} : W T (.reg F_dyn_knownr0) env H Q ↔ WR T F_dyn_knownr0 [
  ⟨some 2, .mv (.c (.bool false)), none⟩] env H none [] Q := w_reg
def F_dyn_knownr1 : List IStmt := [
  ⟨some 3, .mv (.t 0), none⟩]
theorem F_dyn_knownr1_W {T : Tab} {env : Env} {H : Heap} {Q : Post} : W T (.reg F_dyn_knownr1) env H Q ↔ WR T F_dyn_knownr1 [
  ⟨some 3, .mv (.t 0), none⟩] env H none [] Q := w_reg
def F_dyn_knownr2 : List IStmt := [
  ⟨some 5, .bin .eql (.t 3) (.c (.int .u64 2)), none⟩,
  ⟨some 4, .mv (.t 5), none⟩]
theorem F_dyn_knownr2_W {T : Tab} {env : Env} {H : Heap} {Q : Post} : W T (.reg F_dyn_knownr2) env H Q ↔ WR T F_dyn_knownr2 [
  ⟨some 5, .bin .eql (.t 3) (.c (.int .u64 2)), none⟩,
  ⟨some 4, .mv (.t 5), none⟩] env H none [] Q := w_reg
def F_dyn_knownr3 : List IStmt := [
  ⟨some 6, .bin .eql (.t 3) (.c (.int .u64 4)), none⟩,
  ⟨some 4, .mv (.t 6), none⟩]
theorem F_dyn_knownr3_W {T : Tab} {env : Env} {H : Heap} {Q : Post} : W T (.reg F_dyn_knownr3) env H Q ↔ WR T F_dyn_knownr3 [
  ⟨some 6, .bin .eql (.t 3) (.c (.int .u64 4)), none⟩,
  ⟨some 4, .mv (.t 6), none⟩] env H none [] Q := w_reg
def F_dyn_knownr4 : List IStmt := [
  ⟨some 7, .bin .eql (.t 3) (.c (.int .u64 5)), none⟩,
  ⟨some 4, .mv (.t 7), none⟩]
theorem F_dyn_knownr4_W {T : Tab} {env : Env} {H : Heap} {Q : Post} : W T (.reg F_dyn_knownr4) env H Q ↔ WR T F_dyn_knownr4 [
  ⟨some 7, .bin .eql (.t 3) (.c (.int .u64 5)), none⟩,
  ⟨some 4, .mv (.t 7), none⟩] env H none [] Q := w_reg
def F_dyn_knownr5 : List IStmt := [
  ⟨some 8, .bin .eql (.t 3) (.c (.int .u64 6)), none⟩,
  ⟨some 4, .mv (.t 8), none⟩]
theorem F_dyn_knownr5_W {T : Tab} {env : Env} {H : Heap} {Q : Post} : W T (.reg F_dyn_knownr5) env H Q ↔ WR T F_dyn_knownr5 [
  ⟨some 8, .bin .eql (.t 3) (.c (.int .u64 6)), none⟩,
  ⟨some 4, .mv (.t 8), none⟩] env H none [] Q := w_reg
def F_dyn_knownr6 : List IStmt := [
  ⟨some 9, .bin .eql (.t 3) (.c (.int .u64 7)), none⟩,
  ⟨some 4, .mv (.t 9), none⟩]
theorem F_dyn_knownr6_W {T : Tab} {env : Env} {H : Heap} {Q : Post} : W T (.reg F_dyn_knownr6) env H Q ↔ WR T F_dyn_knownr6 [
  ⟨some 9, .bin .eql (.t 3) (.c (.int .u64 7)), none⟩,
  ⟨some 4, .mv (.t 9), none⟩] env H none [] Q := w_reg
def F_dyn_knownr7 : List IStmt := [
  ⟨some 10, .bin .eql (.t 3) (.c (.int .u64 8)), none⟩,
  ⟨some 4, .mv (.t 10), none⟩]
theorem F_dyn_knownr7_W {T : Tab} {env : Env} {H : Heap} {Q : Post} : W T (.reg F_dyn_knownr7) env H Q ↔ WR T F_dyn_knownr7 [
  ⟨some 10, .bin .eql (.t 3) (.c (.int .u64 8)), none⟩,
  ⟨some 4, .mv (.t 10), none⟩] env H none [] Q := w_reg
def F_dyn_knownr8 : List IStmt := [
  ⟨some 11, .bin .eql (.t 3) (.c (.int .u64 9)), none⟩,
  ⟨some 4, .mv (.t 11), none⟩]
theorem F_dyn_knownr8_W {T : Tab} {env : Env} {H : Heap} {Q : Post} : W T (.reg F_dyn_knownr8) env H Q ↔ WR T F_dyn_knownr8 [
  ⟨some 11, .bin .eql (.t 3) (.c (.int .u64 9)), none⟩,
  ⟨some 4, .mv (.t 11), none⟩] env H none [] Q := w_reg
def F_dyn_knownr9 : List IStmt := [
  ⟨some 12, .bin .eql (.t 3) (.c (.int .u64 10)), none⟩,
  ⟨some 4, .mv (.t 12), none⟩]
theorem F_dyn_knownr9_W {T : Tab} {env : Env} {H : Heap} {Q : Post} : W T (.reg F_dyn_knownr9) env H Q ↔ WR T F_dyn_knownr9 [
  ⟨some 12, .bin .eql (.t 3) (.c (.int .u64 10)), none⟩,
  ⟨some 4, .mv (.t 12), none⟩] env H none [] Q := w_reg
def F_dyn_knownr10 : List IStmt := [
  ⟨some 13, .bin .eql (.t 3) (.c (.int .u64 11)), none⟩,
  ⟨some 4, .mv (.t 13), none⟩]
theorem F_dyn_knownr10_W {T : Tab} {env : Env} {H : Heap} {Q : Post} : W T (.reg F_dyn_knownr10) env H Q ↔ WR T F_dyn_knownr10 [
  ⟨some 13, .bin .eql (.t 3) (.c (.int .u64 11)), none⟩,
  ⟨some 4, .mv (.t 13), none⟩] env H none [] Q := w_reg
def F_dyn_knownr11 : List IStmt := [
  ⟨some 14, .bin .eql (.t 3) (.c (.int .u64 14)), none⟩,
  ⟨some 4, .mv (.t 14), none⟩]
theorem F_dyn_knownr11_W {T : Tab} {env : Env} {H : Heap} {Q : Post} : W T (.reg F_dyn_knownr11) env H Q ↔ WR T F_dyn_knownr11 [
  ⟨some 14, .bin .eql (.t 3) (.c (.int .u64 14)), none⟩,
  ⟨some 4, .mv (.t 14), none⟩] env H none [] Q := w_reg
def F_dyn_knownr12 : List IStmt := [
  ⟨some 15, .bin .eql (.t 3) (.c (.int .u64 16)), none⟩,
  ⟨some 4, .mv (.t 15), none⟩]
theorem F_dyn_knownr12_W {T : Tab} {env : Env} {H : Heap} {Q : Post} : W T (.reg F_dyn_knownr12) env H Q ↔ WR T F_dyn_knownr12 [
  ⟨some 15, .bin .eql (.t 3) (.c (.int .u64 16)), none⟩,
  ⟨some 4, .mv (.t 15), none⟩] env H none [] Q := w_reg
def F_dyn_knownr13 : List IStmt := [
  ⟨some 16, .bin .eql (.t 3) (.c (.int .u64 17)), none⟩,
  ⟨some 4, .mv (.t 16), none⟩]
theorem F_dyn_knownr13_W {T : Tab} {env : Env} {H : Heap} {Q : Post} : W T (.reg F_dyn_knownr13) env H Q ↔ WR T F_dyn_knownr13 [
  ⟨some 16, .bin .eql (.t 3) (.c (.int .u64 17)), none⟩,
  ⟨some 4, .mv (.t 16), none⟩] env H none [] Q := w_reg
def F_dyn_knownr14 : List IStmt := [
  ⟨some 17, .bin .eql (.t 3) (.c (.int .u64 18)), none⟩,
  ⟨some 4, .mv (.t 17), none⟩]
theorem F_dyn_knownr14_W {T : Tab} {env : Env} {H : Heap} {Q : Post} : W T (.reg F_dyn_knownr14) env H Q ↔ WR T F_dyn_knownr14 [
  ⟨some 17, .bin .eql (.t 3) (.c (.int .u64 18)), none⟩,
  ⟨some 4, .mv (.t 17), none⟩] env H none [] Q := w_reg
def F_dyn_knownr15 : List IStmt := [
  ⟨some 18, .bin .eql (.t 3) (.c (.int .u64 19)), none⟩,
  ⟨some 4, .mv (.t 18), none⟩]
theorem F_dyn_knownr15_W {T : Tab} {env : Env} {H : Heap} {Q : Post} : W T (.reg F_dyn_knownr15) env H Q ↔ WR T F_dyn_knownr15 [
  ⟨some 18, .bin .eql (.t 3) (.c (.int .u64 19)), none⟩,
  ⟨some 4, .mv (.t 18), none⟩] env H none [] Q := w_reg
def F_dyn_knownr16 : List IStmt := [
  ⟨some 19, .bin .eql (.t 3) (.c (.int .u64 20)), none⟩,
  ⟨some 4, .mv (.t 19), none⟩]
theorem F_dyn_knownr16_W {T : Tab} {env : Env} {H : Heap} {Q : Post} : W T (.reg F_dyn_knownr16) env H Q ↔ WR T F_dyn_knownr16 [
  ⟨some 19, .bin .eql (.t 3) (.c (.int .u64 20)), none⟩,
  ⟨some 4, .mv (.t 19), none⟩] env H none [] Q := w_reg
def F_dyn_knownr17 : List IStmt := [
  ⟨some 20, .bin .eql (.t 3) (.c (.int .u64 23)), none⟩,
  ⟨some 4, .mv (.t 20), none⟩]
theorem F_dyn_knownr17_W {T : Tab} {env : Env} {H : Heap} {Q : Post} : W T (.reg F_dyn_knownr17) env H Q ↔ WR T F_dyn_knownr17 [
  ⟨some 20, .bin .eql (.t 3) (.c (.int .u64 23)), none⟩,
  ⟨some 4, .mv (.t 20), none⟩] env H none [] Q := w_reg
def F_dyn_knownr18 : List IStmt := [
  ⟨some 21, .bin .eql (.t 3) (.c (.int .u64 25)), none⟩,
  ⟨some 4, .mv (.t 21), none⟩]
theorem F_dyn_knownr18_W {T : Tab} {env : Env} {H : Heap} {Q : Post} : W T (.reg F_dyn_knownr18) env H Q ↔ WR T F_dyn_knownr18 [
  ⟨some 21, .bin .eql (.t 3) (.c (.int .u64 25)), none⟩,
  ⟨some 4, .mv (.t 21), none⟩] env H none [] Q := w_reg
def F_dyn_knownr19 : List IStmt := [
  ⟨some 22, .bin .eql (.t 3) (.c (.int .u64 26)), none⟩,
  ⟨some 4, .mv (.t 22), none⟩]
theorem F_dyn_knownr19_W {T : Tab} {env : Env} {H : Heap} {Q : Post} : W T (.reg F_dyn_knownr19) env H Q ↔ WR T F_dyn_knownr19 [
  ⟨some 22, .bin .eql (.t 3) (.c (.int .u64 26)), none⟩,
  ⟨some 4, .mv (.t 22), none⟩] env H none [] Q := w_reg
def F_dyn_knownr20 : List IStmt := [
  ⟨some 23, .bin .eql (.t 3) (.c (.int .u64 27)), none⟩,
  ⟨some 4, .mv (.t 23), none⟩]
theorem F_dyn_knownr20_W {T : Tab} {env : Env} {H : Heap} {Q : Post} : W T (.reg F_dyn_knownr20) env H Q ↔ WR T F_dyn_knownr20 [
  ⟨some 23, .bin .eql (.t 3) (.c (.int .u64 27)), none⟩,
  ⟨some 4, .mv (.t 23), none⟩] env H none [] Q := w_reg
def F_dyn_knownr21 : List IStmt := [
  ⟨some 24, .bin .eql (.t 3) (.c (.int .u64 28)), none⟩,
  ⟨some 4, .mv (.t 24), none⟩]
theorem F_dyn_knownr21_W {T : Tab} {env : Env} {H : Heap} {Q : Post} : W T (.reg F_dyn_knownr21) env H Q ↔ WR T F_dyn_knownr21 [
  ⟨some 24, .bin .eql (.t 3) (.c (.int .u64 28)), none⟩,
  ⟨some 4, .mv (.t 24), none⟩] env H none [] Q := w_reg
def F_dyn_knownr22 : List IStmt := [
  ⟨some 25, .bin .eql (.t 3) (.c (.int .u64 29)), none⟩,
  ⟨some 4, .mv (.t 25), none⟩]
theorem F_dyn_knownr22_W {T : Tab} {env : Env} {H : Heap} {Q : Post} : W T (.reg F_dyn_knownr22) env H Q ↔ WR T F_dyn_knownr22 [
  ⟨some 25, .bin .eql (.t 3) (.c (.int .u64 29)), none⟩,
  ⟨some 4, .mv (.t 25), none⟩] env H none [] Q := w_reg
def F_dyn_knownr23 : List IStmt := [
  ⟨some 26, .bin .eql (.t 3) (.c (.int .u64 30)), none⟩,
  ⟨some 4, .mv (.t 26), none⟩]
theorem F_dyn_knownr23_W {T : Tab} {env : Env} {H : Heap} {Q : Post} : W T (.reg F_dyn_knownr23) env H Q ↔ WR T F_dyn_knownr23 [
  ⟨some 26, .bin .eql (.t 3) (.c (.int .u64 30)), none⟩,
  ⟨some 4, .mv (.t 26), none⟩] env H none [] Q := w_reg
def F_dyn_knownr24 : List IStmt := [
  ⟨some 27, .bin .eql (.t 3) (.c (.int .u64 35)), none⟩,
  ⟨some 4, .mv (.t 27), none⟩]
theorem F_dyn_knownr24_W {T : Tab} {env : Env} {H : Heap} {Q : Post} : W T (.reg F_dyn_knownr24) env H Q ↔ WR T F_dyn_knownr24 [
  ⟨some 27, .bin .eql (.t 3) (.c (.int .u64 35)), none⟩,
  ⟨some 4, .mv (.t 27), none⟩] env H none [] Q := w_reg
def F_dyn_knownr25 : List IStmt := [
  ⟨some 28, .bin .eql (.t 3) (.c (.int .u64 36)), none⟩,
  ⟨some 4, .mv (.t 28), none⟩]
theorem F_dyn_knownr25_W {T : Tab} {env : Env} {H : Heap} {Q : Post} : W T (.reg F_dyn_knownr25) env H Q ↔ WR T F_dyn_knownr25 [
  ⟨some 28, .bin .eql (.t 3) (.c (.int .u64 36)), none⟩,
  ⟨some 4, .mv (.t 28), none⟩] env H none [] Q := w_reg
def F_dyn_knownr26 : List IStmt := [
  ⟨some 29, .bin .eql (.t 3) (.c (.int .u64 37)), none⟩,
  ⟨some 4, .mv (.t 29), none⟩]
theorem F_dyn_knownr26_W {T : Tab} {env : Env} {H : Heap} {Q : Post} : W T (.reg F_dyn_knownr26) env H Q ↔ WR T F_dyn_knownr26 [
  ⟨some 29, .bin .eql (.t 3) (.c (.int .u64 37)), none⟩,
  ⟨some 4, .mv (.t 29), none⟩] env H none [] Q := w_reg
def F_dyn_knownr27 : List IStmt := [
  ⟨some 2, .mv (.c (.bool true)), none⟩]
theorem F_dyn_knownr27_W {T : Tab} {env : Env} {H : Heap} {Q : Post} : W T (.reg F_dyn_knownr27) env H Q ↔ WR T F_dyn_knownr27 [
  ⟨some 2, .mv (.c (.bool true)), none⟩] env H none [] Q := w_reg
def F_dyn_knownr28 : List IStmt := [
  ⟨some 31, .bin .eql (.t 3) (.c (.int .u64 1610612751)), none⟩,
  ⟨some 30, .mv (.t 31), none⟩]
theorem F_dyn_knownr28_W {T : Tab} {env : Env} {H : Heap} {Q : Post} : W T (.reg F_dyn_knownr28) env H Q ↔ WR T F_dyn_knownr28 [
  ⟨some 31, .bin .eql (.t 3) (.c (.int .u64 1610612751)), none⟩,
  ⟨some 30, .mv (.t 31), none⟩] env H none [] Q := w_reg
def F_dyn_knownr29 : List IStmt := [
  ⟨some 32, .bin .eql (.t 3) (.c (.int .u64 1610612752)), none⟩,
  ⟨some 30, .mv (.t 32), none⟩]
theorem F_dyn_knownr29_W {T : Tab} {env : Env} {H : Heap} {Q : Post} : W T (.reg F_dyn_knownr29) env H Q ↔ WR T F_dyn_knownr29 [
  ⟨some 32, .bin .eql (.t 3) (.c (.int .u64 1610612752)), none⟩,
  ⟨some 30, .mv (.t 32), none⟩] env H none [] Q := w_reg
def F_dyn_knownr30 : List IStmt := [
  ⟨some 33, .bin .eql (.t 3) (.c (.int .u64 1610612753)), none⟩,
  ⟨some 30, .mv (.t 33), none⟩]
theorem F_dyn_knownr30_W {T : Tab} {env : Env} {H : Heap} {Q : Post} : W T (.reg F_dyn_knownr30) env H Q ↔ WR T F_dyn_knownr30 [
  ⟨some 33, .bin .eql (.t 3) (.c (.int .u64 1610612753)), none⟩,
  ⟨some 30, .mv (.t 33), none⟩] env H none [] Q := w_reg
def F_dyn_knownr31 : List IStmt := [
  ⟨some 34, .bin .eql (.t 3) (.c (.int .u64 1610612754)), none⟩,
  ⟨some 30, .mv (.t 34), none⟩]
theorem F_dyn_knownr31_W {T : Tab} {env : Env} {H : Heap} {Q : Post} : W T (.reg F_dyn_knownr31) env H Q ↔ WR T F_dyn_knownr31 [
  ⟨some 34, .bin .eql (.t 3) (.c (.int .u64 1610612754)), none⟩,
  ⟨some 30, .mv (.t 34), none⟩] env H none [] Q := w_reg
def F_dyn_knownr32 : List IStmt := [
  ⟨some 35, .bin .eql (.t 3) (.c (.int .u64 1879047925)), none⟩,
  ⟨some 30, .mv (.t 35), none⟩]
theorem F_dyn_knownr32_W {T : Tab} {env : Env} {H : Heap} {Q : Post} : W T (.reg F_dyn_knownr32) env H Q ↔ WR T F_dyn_knownr32 [
  ⟨some 35, .bin .eql (.t 3) (.c (.int .u64 1879047925)), none⟩,
  ⟨some 30, .mv (.t 35), none⟩] env H none [] Q := w_reg
def F_dyn_knownr33 : List IStmt := [
  ⟨some 36, .bin .eql (.t 3) (.c (.int .u64 1879048176)), none⟩,
  ⟨some 30, .mv (.t 36), none⟩]
theorem F_dyn_knownr33_W {T : Tab} {env : Env} {H : Heap} {Q : Post} : W T (.reg F_dyn_knownr33) env H Q ↔ WR T F_dyn_knownr33 [
  ⟨some 36, .bin .eql (.t 3) (.c (.int .u64 1879048176)), none⟩,
  ⟨some 30, .mv (.t 36), none⟩] env H none [] Q := w_reg
def F_dyn_knownr34 : List IStmt := [
  ⟨some 37, .bin .eql (.t 3) (.c (.int .u64 1879048187)), none⟩,
  ⟨some 30, .mv (.t 37), none⟩]
theorem F_dyn_knownr34_W {T : Tab} {env : Env} {H : Heap} {Q : Post} : W T (.reg F_dyn_knownr34) env H Q ↔ WR T F_dyn_knownr34 [
  ⟨some 37, .bin .eql (.t 3) (.c (.int .u64 1879048187)), none⟩,
  ⟨some 30, .mv (.t 37), none⟩] env H none [] Q := w_reg
def F_dyn_knownr35 : List IStmt := [
  ⟨some 38, .bin .eql (.t 3) (.c (.int .u64 1879048188)), none⟩,
  ⟨some 30, .mv (.t 38), none⟩]
theorem F_dyn_knownr35_W {T : Tab} {env : Env} {H : Heap} {Q : Post} : W T (.reg F_dyn_knownr35) env H Q ↔ WR T F_dyn_knownr35 [
  ⟨some 38, .bin .eql (.t 3) (.c (.int .u64 1879048188)), none⟩,
  ⟨some 30, .mv (.t 38), none⟩] env H none [] Q := w_reg
def F_dyn_knownr36 : List IStmt := [
  ⟨some 39, .bin .eql (.t 3) (.c (.int .u64 1879048189)), none⟩,
  ⟨some 30, .mv (.t 39), none⟩]
theorem F_dyn_knownr36_W {T : Tab} {env : Env} {H : Heap} {Q : Post} : W T (.reg F_dyn_knownr36) env H Q ↔ WR T F_dyn_knownr36 [
  ⟨some 39, .bin .eql (.t 3) (.c (.int .u64 1879048189)), none⟩,
  ⟨some 30, .mv (.t 39), none⟩] env H none [] Q := w_reg
def F_dyn_knownr37 : List IStmt := [
  ⟨some 40, .bin .eql (.t 3) (.c (.int .u64 1879048190)), none⟩,
  ⟨some 30, .mv (.t 40), none⟩]
theorem F_dyn_knownr37_W {T : Tab} {env : Env} {H : Heap} {Q : Post} : W T (.reg F_dyn_knownr37) env H Q ↔ WR T F_dyn_knownr37 [
  ⟨some 40, .bin .eql (.t 3) (.c (.int .u64 1879048190)), none⟩,
  ⟨some 30, .mv (.t 40), none⟩] env H none [] Q := w_reg
def F_dyn_knownr38 : List IStmt := [
  ⟨some 41, .bin .eql (.t 3) (.c (.int .u64 1879048191)), none⟩,
  ⟨some 30, .mv (.t 41), none⟩]
theorem F_dyn_knownr38_W {T : Tab} {env : Env} {H : Heap} {Q : Post} : W T (.reg F_dyn_knownr38) env H Q ↔ WR T F_dyn_knownr38 [
  ⟨some 41, .bin .eql (.t 3) (.c (.int .u64 1879048191)), none⟩,
  ⟨some 30, .mv (.t 41), none⟩] env H none [] Q := w_reg
def F_dyn_knownr39 : List IStmt := [
  ⟨some 2, .mv (.c (.bool true)), none⟩]
theorem F_dyn_knownr39_W {T : Tab} {env : Env} {H : Heap} {Q : Post} : W T (.reg F_dyn_knownr39) env H Q ↔ WR T F_dyn_knownr39 [
  ⟨some 2, .mv (.c (.bool true)), none⟩] env H none [] Q := w_reg
def F_dyn_knownr40 : List IStmt := [
  ⟨some 2, .mv (.c (.bool false)), none⟩]
theorem F_dyn_knownr40_W {T : Tab} {env : Env} {H : Heap} {Q : Post} : W T (.reg F_dyn_knownr40) env H Q ↔ WR T F_dyn_knownr40 [
  ⟨some 2, .mv (.c (.bool false)), none⟩] env H none [] Q := w_reg
def F_dyn_knownc : ICode := (.seq (.reg F_dyn_knownr0) (.seq (.seq (.reg F_dyn_knownr1) (.block 0 (.seq (.seq (.reg F_dyn_knownr2) (.cond (.t 4) .skip (.seq (.reg F_dyn_knownr3) (.cond (.t 4) .skip (.seq (.reg F_dyn_knownr4) (.cond (.t 4) .skip (.seq (.reg F_dyn_knownr5) (.cond (.t 4) .skip (.seq (.reg F_dyn_knownr6) (.cond (.t 4) .skip (.seq (.reg F_dyn_knownr7) (.cond (.t 4) .skip (.seq (.reg F_dyn_knownr8) (.cond (.t 4) .skip (.seq (.reg F_dyn_knownr9) (.cond (.t 4) .skip (.seq (.reg F_dyn_knownr10) (.cond (.t 4) .skip (.seq (.reg F_dyn_knownr11) (.cond (.t 4) .skip (.seq (.reg F_dyn_knownr12) (.cond (.t 4) .skip (.seq (.reg F_dyn_knownr13) (.cond (.t 4) .skip (.seq (.reg F_dyn_knownr14) (.cond (.t 4) .skip (.seq (.reg F_dyn_knownr15) (.cond (.t 4) .skip (.seq (.reg F_dyn_knownr16) (.cond (.t 4) .skip (.seq (.reg F_dyn_knownr17) (.cond (.t 4) .skip (.seq (.reg F_dyn_knownr18) (.cond (.t 4) .skip (.seq (.reg F_dyn_knownr19) (.cond (.t 4) .skip (.seq (.reg F_dyn_knownr20) (.cond (.t 4) .skip (.seq (.reg F_dyn_knownr21) (.cond (.t 4) .skip (.seq (.reg F_dyn_knownr22) (.cond (.t 4) .skip (.seq (.reg F_dyn_knownr23) (.cond (.t 4) .skip (.seq (.reg F_dyn_knownr24) (.cond (.t 4) .skip (.seq (.reg F_dyn_knownr25) (.cond (.t 4) .skip (.reg F_dyn_knownr26))))))))))))))))))))))))))))))))))))))))))))))))) (.cond (.t 4) (.seq (.reg F_dyn_knownr27) .ret) (.seq (.seq (.reg F_dyn_knownr28) (.cond (.t 30) .skip (.seq (.reg F_dyn_knownr29) (.cond (.t 30) .skip (.seq (.reg F_dyn_knownr30) (.cond (.t 30) .skip (.seq (.reg F_dyn_knownr31) (.cond (.t 30) .skip (.seq (.reg F_dyn_knownr32) (.cond (.t 30) .skip (.seq (.reg F_dyn_knownr33) (.cond (.t 30) .skip (.seq (.reg F_dyn_knownr34) (.cond (.t 30) .skip (.seq (.reg F_dyn_knownr35) (.cond (.t 30) .skip (.seq (.reg F_dyn_knownr36) (.cond (.t 30) .skip (.seq (.reg F_dyn_knownr37) (.cond (.t 30) .skip (.reg F_dyn_knownr38))))))))))))))))))))) (.cond (.t 30) (.seq (.reg F_dyn_knownr39) .ret) .skip)))))) (.seq (.reg F_dyn_knownr40) .ret)))
theorem F_dyn_knownc_W {T : Tab} {env : Env} {H : Heap} {Q : Post} : W T F_dyn_knownc env H Q ↔ W T (.seq (.reg F_dyn_knownr0) (.seq (.seq (.reg F_dyn_knownr1) (.block 0 (.seq (.seq (.reg F_dyn_knownr2) (.cond (.t 4) .skip (.seq (.reg F_dyn_knownr3) (.cond (.t 4) .skip (.seq (.reg F_dyn_knownr4) (.cond (.t 4) .skip (.seq (.reg F_dyn_knownr5) (.cond (.t 4) .skip (.seq (.reg F_dyn_knownr6) (.cond (.t 4) .skip (.seq (.reg F_dyn_knownr7) (.cond (.t 4) .skip (.seq (.reg F_dyn_knownr8) (.cond (.t 4) .skip (.seq (.reg F_dyn_knownr9) (.cond (.t 4) .skip (.seq (.reg F_dyn_knownr10) (.cond (.t 4) .skip (.seq (.reg F_dyn_knownr11) (.cond (.t 4) .skip (.seq (.reg F_dyn_knownr12) (.cond (.t 4) .skip (.seq (.reg F_dyn_knownr13) (.cond (.t 4) .skip (.seq (.reg F_dyn_knownr14) (.cond (.t 4) .skip (.seq (.reg F_dyn_knownr15) (.cond (.t 4) .skip (.seq (.reg F_dyn_knownr16) (.cond (.t 4) .skip (.seq (.reg F_dyn_knownr17) (.cond (.t 4) .skip (.seq (.reg F_dyn_knownr18) (.cond (.t 4) .skip (.seq (.reg F_dyn_knownr19) (.cond (.t 4) .skip (.seq (.reg F_dyn_knownr20) (.cond (.t 4) .skip (.seq (.reg F_dyn_knownr21) (.cond (.t 4) .skip (.seq (.reg F_dyn_knownr22) (.cond (.t 4) .skip (.seq (.reg F_dyn_knownr23) (.cond (.t 4) .skip (.seq (.reg F_dyn_knownr24) (.cond (.t 4) .skip (.seq (.reg F_dyn_knownr25) (.cond (.t 4) .skip (.reg F_dyn_knownr26))))))))))))))))))))))))))))))))))))))))))))))))) (.cond (.t 4) (.seq (.reg F_dyn_knownr27) .ret) (.seq (.seq (.reg F_dyn_knownr28) (.cond (.t 30) .skip (.seq (.reg F_dyn_knownr29) (.cond (.t 30) .skip (.seq (.reg F_dyn_knownr30) (.cond (.t 30) .skip (.seq (.reg F_dyn_knownr31) (.cond (.t 30) .skip (.seq (.reg F_dyn_knownr32) (.cond (.t 30) .skip (.seq (.reg F_dyn_knownr33) (.cond (.t 30) .skip (.seq (.reg F_dyn_knownr34) (.cond (.t 30) .skip (.seq (.reg F_dyn_knownr35) (.cond (.t 30) .skip (.seq (.reg F_dyn_knownr36) (.cond (.t 30) .skip (.seq (.reg F_dyn_knownr37) (.cond (.t 30) .skip (.reg F_dyn_knownr38))))))))))))))))))))) (.cond (.t 30) (.seq (.reg F_dyn_knownr39) .ret) .skip)))))) (.seq (.reg F_dyn_knownr40) .ret))) env H Q := Iff.rfl
def F_dyn_known : IFn := ⟨42, [.tmp 2], F_dyn_knownc⟩
set_option maxRecDepth 1000000 in
theorem F_dyn_known_chk : chkF Try.prog 66 F_dyn_known = true := by kernel_rfl

/-! ### dyn_Entries -/
def F_dyn_Entriesr0 : List IStmt := [
  ⟨some 2, .mv (.c (.slice none 0 0)), none⟩,
  ⟨some 3, .mv (.c (.int .i64 0)), none⟩]
theorem F_dyn_Entriesr0_W {T : Tab} {env : Env} {H : Heap} {Q : Post} : W T (.reg F_dyn_Entriesr0) env H Q ↔ WR T F_dyn_Entriesr0 [
  ⟨some 2, .mv (.c (.slice none 0 0)), none⟩,
  ⟨some 3, .mv (.c (.int .i64 0)), none⟩] env H none [] Q := w_reg
def F_dyn_Entriesr1 : List IStmt := [
  ⟨some 4, .mv (.c (.slice none 0 0)), none⟩]
theorem F_dyn_Entriesr1_W {T : Tab} {env : Env} {H : Heap} {Q : Post} : W T (.reg F_dyn_Entriesr1) env H Q ↔ WR T F_dyn_Entriesr1 [
  ⟨some 4, .mv (.c (.slice none 0 0)), none⟩] env H none [] Q := w_reg
def F_dyn_Entriesr2 : List IStmt := [
  ⟨some 10, .mv (.c (.int .i64 0)), none⟩]
theorem F_dyn_Entriesr2_W {T : Tab} {env : Env} {H : Heap} {Q : Post} : W T (.reg F_dyn_Entriesr2) env H Q ↔ WR T F_dyn_Entriesr2 [
  ⟨some 10, .mv (.c (.int .i64 0)), none⟩] env H none [] Q := w_reg
def F_dyn_Entriesr3 : List IStmt := [
  ⟨some 11, .bin .lss (.t 10) (.c (.int .i64 128)), none⟩]
theorem F_dyn_Entriesr3_W {T : Tab} {env : Env} {H : Heap} {Q : Post} : W T (.reg F_dyn_Entriesr3) env H Q ↔ WR T F_dyn_Entriesr3 [
  ⟨some 11, .bin .lss (.t 10) (.c (.int .i64 128)), none⟩] env H none [] Q := w_reg
def F_dyn_Entriesr4 : List IStmt := [
  ⟨some 12, .mv (.t 10), none⟩,
  ⟨some 5, .mv (.t 12), none⟩]
theorem F_dyn_Entriesr4_W {T : Tab} {env : Env} {H : Heap} {Q : Post} : W T (.reg F_dyn_Entriesr4) env H Q ↔ WR T F_dyn_Entriesr4 [
  ⟨some 12, .mv (.t 10), none⟩,
  ⟨some 5, .mv (.t 12), none⟩] env H none [] Q := w_reg
def F_dyn_Entriesr5 : List IStmt := [
  ⟨some 14, .mv (.t 0), none⟩,
  ⟨some 15, .mv (.t 5), none⟩,
  ⟨some 16, .conv .u64 (.t 15), none⟩,
  ⟨some 17, .bin .mul (.t 16) (.c (.int .u64 16)), none⟩,
  ⟨some 18, .callc 63 [(.t 14), (.t 17)], none⟩,
  ⟨some 13, .mv (.t 18), none⟩,
  ⟨some 19, .ext (.t 13) 0, none⟩,
  ⟨some 20, .ext (.t 13) 1, none⟩,
  ⟨some 6, .mv (.t 19), none⟩,
  ⟨some 7, .mv (.t 20), none⟩]
theorem F_dyn_Entriesr5_W {T : Tab} {env : Env} {H : Heap} {Q : Post} : W T (.reg F_dyn_Entriesr5) env H Q ↔ WR T F_dyn_Entriesr5 [
  ⟨some 14, .mv (.t 0), none⟩,
  ⟨some 15, .mv (.t 5), none⟩,
  ⟨some 16, .conv .u64 (.t 15), none⟩,
  ⟨some 17, .bin .mul (.t 16) (.c (.int .u64 16)), none⟩,
  ⟨some 18, .callc 63 [(.t 14), (.t 17)], none⟩,
  ⟨some 13, .mv (.t 18), none⟩,
  ⟨some 19, .ext (.t 13) 0, none⟩,
  ⟨some 20, .ext (.t 13) 1, none⟩,
  ⟨some 6, .mv (.t 19), none⟩,
  ⟨some 7, .mv (.t 20), none⟩] env H none [] Q := w_reg
def F_dyn_Entriesr6 : List IStmt := [
  ⟨some 22, .mv (.t 0), none⟩,
  ⟨some 23, .mv (.t 5), none⟩,
  ⟨some 24, .conv .u64 (.t 23), none⟩,
  ⟨some 25, .bin .mul (.t 24) (.c (.int .u64 16)), none⟩,
  ⟨some 26, .bin .add (.t 25) (.c (.int .u64 8)), none⟩,
  ⟨some 27, .callc 63 [(.t 22), (.t 26)], none⟩,
  ⟨some 21, .mv (.t 27), none⟩,
  ⟨some 28, .ext (.t 21) 0, none⟩,
  ⟨some 29, .ext (.t 21) 1, none⟩,
  ⟨some 8, .mv (.t 28), none⟩,
  ⟨some 9, .mv (.t 29), none⟩]
theorem F_dyn_Entriesr6_W {T : Tab} {env : Env} {H : Heap} {Q : Post} : W T (.reg F_dyn_Entriesr6) env H Q ↔ WR T F_dyn_Entriesr6 [
  ⟨some 22, .mv (.t 0), none⟩,
  ⟨some 23, .mv (.t 5), none⟩,
  ⟨some 24, .conv .u64 (.t 23), none⟩,
  ⟨some 25, .bin .mul (.t 24) (.c (.int .u64 16)), none⟩,
  ⟨some 26, .bin .add (.t 25) (.c (.int .u64 8)), none⟩,
  ⟨some 27, .callc 63 [(.t 22), (.t 26)], none⟩,
  ⟨some 21, .mv (.t 27), none⟩,
  ⟨some 28, .ext (.t 21) 0, none⟩,
  ⟨some 29, .ext (.t 21) 1, none⟩,
  ⟨some 8, .mv (.t 28), none⟩,
  ⟨some 9, .mv (.t 29), none⟩] env H none [] Q := w_reg
def F_dyn_Entriesr7 : List IStmt := [
  ⟨some 30, .mv (.t 7), none⟩,
  ⟨some 31, .bin .neq (.t 30) (.c (.int .i64 0)), none⟩,
  ⟨some 32, .mv (.t 31), none⟩,
  ⟨some 33, .mv (.t 9), some (2, false)⟩,
  ⟨some 34, .bin .neq (.t 33) (.c (.int .i64 0)), some (2, false)⟩,
  ⟨some 35, .pick (.t 32) (.c (.bool true)) (.t 34), none⟩]
theorem F_dyn_Entriesr7_W {T : Tab} {env : Env} {H : Heap} {Q : Post} : W T (.reg F_dyn_Entriesr7) env H Q ↔ WR T F_dyn_Entriesr7 [
  ⟨some 30, .mv (.t 7), none⟩,
  ⟨some 31, .bin .neq (.t 30) (.c (.int .i64 0)), none⟩,
  ⟨some 32, .mv (.t 31), none⟩,
  ⟨some 33, .mv (.t 9), some (2, false)⟩,
  ⟨some 34, .bin .neq (.t 33) (.c (.int .i64 0)), some (2, false)⟩,
  ⟨some 35, .pick (.t 32) (.c (.bool true)) (.t 34), none⟩] env H none [] Q := w_reg
theorem F_dyn_Entriesr7_g2 {env : Env} : yieldI F_dyn_Entriesr7 env 2 = bOf (env 32) := rfl
def F_dyn_Entriesr8 : List IStmt := [
  ⟨some 2, .mv (.c (.slice none 0 0)), none⟩,
  ⟨some 3, .mv (.c (.int .i64 90)), none⟩]
theorem F_dyn_Entriesr8_W {T : Tab} {env : Env} {H : Heap} {Q : Post} : W T (.reg F_dyn_Entriesr8) env H Q ↔ WR T F_dyn_Entriesr8 [
  ⟨some 2, .mv (.c (.slice none 0 0)), none⟩,
  ⟨some 3, .mv (.c (.int .i64 90)), none⟩] env H none [] Q := w_reg
def F_dyn_Entriesr9 : List IStmt := [
  ⟨some 36, .mv (.t 6), none⟩,
  ⟨some 37, .bin .eql (.t 36) (.c (.int .u64 0)), none⟩]
theorem F_dyn_Entriesr9_W {T : Tab} {env : Env} {H : Heap} {Q : Post} : W T (.reg F_dyn_Entriesr9) env H Q ↔ WR T F_dyn_Entriesr9 [
  ⟨some 36, .mv (.t 6), none⟩,
  ⟨some 37, .bin .eql (.t 36) (.c (.int .u64 0)), none⟩] env H none [] Q := w_reg
def F_dyn_Entriesr10 : List IStmt := [
  ⟨some 38, .mv (.t 4), none⟩,
  ⟨some 2, .mv (.t 38), none⟩,
  ⟨some 3, .mv (.c (.int .i64 0)), none⟩]
theorem F_dyn_Entriesr10_W {T : Tab} {env : Env} {H : Heap} {Q : Post} : W T (.reg F_dyn_Entriesr10) env H Q ↔ WR T F_dyn_Entriesr10 [
  ⟨some 38, .mv (.t 4), none⟩,
  ⟨some 2, .mv (.t 38), none⟩,
  ⟨some 3, .mv (.c (.int .i64 0)), none⟩] env H none [] Q := w_reg
def F_dyn_Entriesr11 : List IStmt := [
  ⟨some 39, .mv (.t 4), none⟩,
  ⟨some 40, .mv (.t 6), none⟩,
  ⟨some 41, .mv (.t 8), none⟩,
  ⟨some 42, .bld [.int .u64 0, .int .u64 0] [(0, 1, (.t 40)), (1, 1, (.t 41))], none⟩,
  ⟨some 43, .bsli 2 1 [.int .u64 0, .int .u64 0] [(0, (.t 42))], none⟩,
  ⟨some 44, .app 2 16 (.t 39) (.t 43), none⟩,
  ⟨some 4, .mv (.t 44), none⟩]
theorem F_dyn_Entriesr11_W {T : Tab} {env : Env} {H : Heap} {Q : Post} : W T (.reg F_dyn_Entriesr11) env H Q ↔ WR T F_dyn_Entriesr11 [
  ⟨some 39, .mv (.t 4), none⟩,
  ⟨some 40, .mv (.t 6), none⟩,
  ⟨some 41, .mv (.t 8), none⟩,
  ⟨some 42, .bld [.int .u64 0, .int .u64 0] [(0, 1, (.t 40)), (1, 1, (.t 41))], none⟩,
  ⟨some 43, .bsli 2 1 [.int .u64 0, .int .u64 0] [(0, (.t 42))], none⟩,
  ⟨some 44, .app 2 16 (.t 39) (.t 43), none⟩,
  ⟨some 4, .mv (.t 44), none⟩] env H none [] Q := w_reg
def F_dyn_Entriesr12 : List IStmt := [
  ⟨some 45, .bin .add (.t 10) (.c (.int .i64 1)), none⟩,
  ⟨some 10, .mv (.t 45), none⟩]
theorem F_dyn_Entriesr12_W {T : Tab} {env : Env} {H : Heap} {Q : Post} : W T (.reg F_dyn_Entriesr12) env H Q ↔ WR T F_dyn_Entriesr12 [
  ⟨some 45, .bin .add (.t 10) (.c (.int .i64 1)), none⟩,
  ⟨some 10, .mv (.t 45), none⟩] env H none [] Q := w_reg
def F_dyn_Entriesl0 : ICode := (.seq (.reg F_dyn_Entriesr3) (.seq (.cond (.t 11) .skip (.exit 0)) (.seq (.block 1 (.seq (.reg F_dyn_Entriesr4) (.seq (.reg F_dyn_Entriesr5) (.seq (.reg F_dyn_Entriesr6) (.seq (.seq (.reg F_dyn_Entriesr7) (.cond (.t 35) (.seq (.reg F_dyn_Entriesr8) .ret) .skip)) (.seq (.seq (.reg F_dyn_Entriesr9) (.cond (.t 37) (.seq (.reg F_dyn_Entriesr10) .ret) .skip)) (.reg F_dyn_Entriesr11))))))) (.reg F_dyn_Entriesr12))))
theorem F_dyn_Entriesl0_W {T : Tab} {env : Env} {H : Heap} {Q : Post} : W T F_dyn_Entriesl0 env H Q ↔ W T (.seq (.reg F_dyn_Entriesr3) (.seq (.cond (.t 11) .skip (.exit 0)) (.seq (.block 1 (.seq (.reg F_dyn_Entriesr4) (.seq (.reg F_dyn_Entriesr5) (.seq (.reg F_dyn_Entriesr6) (.seq (.seq (.reg F_dyn_Entriesr7) (.cond (.t 35) (.seq (.reg F_dyn_Entriesr8) .ret) .skip)) (.seq (.seq (.reg F_dyn_Entriesr9) (.cond (.t 37) (.seq (.reg F_dyn_Entriesr10) .ret) .skip)) (.reg F_dyn_Entriesr11))))))) (.reg F_dyn_Entriesr12)))) env H Q := Iff.rfl
def F_dyn_Entriesr13 : List IStmt := [
  ⟨some 2, .mv (.c (.slice none 0 0)), none⟩,
  ⟨some 3, .mv (.c (.int .i64 90)), none⟩]
theorem F_dyn_Entriesr13_W {T : Tab} {env : Env} {H : Heap} {Q : Post} : W T (.reg F_dyn_Entriesr13) env H Q ↔ WR T F_dyn_Entriesr13 [
  ⟨some 2, .mv (.c (.slice none 0 0)), none⟩,
  ⟨some 3, .mv (.c (.int .i64 90)), none⟩] env H none [] Q := w_reg
def F_dyn_Entriesc : ICode := (.seq (.reg F_dyn_Entriesr0) (.seq (.reg F_dyn_Entriesr1) (.seq (.seq (.reg F_dyn_Entriesr2) (.block 0 (.loop F_dyn_Entriesl0))) (.seq (.reg F_dyn_Entriesr13) .ret))))
theorem F_dyn_Entriesc_W {T : Tab} {env : Env} {H : Heap} {Q : Post} : W T F_dyn_Entriesc env H Q ↔ W T (.seq (.reg F_dyn_Entriesr0) (.seq (.reg F_dyn_Entriesr1) (.seq (.seq (.reg F_dyn_Entriesr2) (.block 0 (.loop F_dyn_Entriesl0))) (.seq (.reg F_dyn_Entriesr13) .ret)))) env H Q := Iff.rfl
def F_dyn_Entries : IFn := ⟨46, [.tmp 2, .tmp 3], F_dyn_Entriesc⟩
set_option maxRecDepth 1000000 in
theorem F_dyn_Entries_chk : chkF Try.prog 53 F_dyn_Entries = true := by kernel_rfl

/-! ### dyn_gather -/
def F_dyn_gatherr0 : List IStmt := [
  ⟨some 2, .mv (.c (.pointer none)), none⟩,
  ⟨some 3, .mv (.c (.int .i64 0)), none⟩]
theorem F_dyn_gatherr0_W {T : Tab} {env : Env} {H : Heap} {Q : Post} : W T (.reg F_dyn_gatherr0) env H Q ↔ WR T F_dyn_gatherr0 [
  ⟨some 2, .mv (.c (.pointer none)), none⟩,
  ⟨some 3, .mv (.c (.int .i64 0)), none⟩] env H none [] Q := w_reg
def F_dyn_gatherr1 : List IStmt := [
  ⟨some 10, .mkm, none⟩,
  ⟨some 11, .bld [.map none, .slice none 0 0] [(0, 1, (.t 10))], none⟩,
  ⟨some 12, .box 2 (.t 11), none⟩,
  ⟨some 4, .mv (.t 12), none⟩]
theorem F_dyn_gatherr1_W {T : Tab} {env : Env} {H : Heap} {Q : Post} : W T (.reg F_dyn_gatherr1) env H Q ↔ WR T F_dyn_gatherr1 [
  ⟨some 10, .mkm, none⟩,
  ⟨some 11, .bld [.map none, .slice none 0 0] [(0, 1, (.t 10))], none⟩,
  ⟨some 12, .box 2 (.t 11), none⟩,
  ⟨some 4, .mv (.t 12), none⟩] env H none [] Q := w_reg
def F_dyn_gatherr2 : List IStmt := [
  ⟨some 13, .mkm, none⟩,
  ⟨some 5, .mv (.t 13), none⟩]
theorem F_dyn_gatherr2_W {T : Tab} {env : Env} {H : Heap} {Q : Post} : W T (.reg F_dyn_gatherr2) env H Q ↔ WR T F_dyn_gatherr2 [
  ⟨some 13, .mkm, none⟩,
  ⟨some 5, .mv (.t 13), none⟩] env H none [] Q := w_reg
def F_dyn_gatherr3 : List IStmt := [
  ⟨some 14, .mv (.t 0), none⟩,
  ⟨some 15, .len 1 (.t 14), none⟩,
  ⟨some 16, .mv (.c (.int .i64 0)), none⟩]
theorem F_dyn_gatherr3_W {T : Tab} {env : Env} {H : Heap} {Q : Post} : W T (.reg F_dyn_gatherr3) env H Q ↔ WR T F_dyn_gatherr3 [
  ⟨some 14, .mv (.t 0), none⟩,
  ⟨some 15, .len 1 (.t 14), none⟩,
  ⟨some 16, .mv (.c (.int .i64 0)), none⟩] env H none [] Q := w_reg
def F_dyn_gatherr4 : List IStmt := [
  ⟨some 17, .bin .lss (.t 16) (.t 15), none⟩]
theorem F_dyn_gatherr4_W {T : Tab} {env : Env} {H : Heap} {Q : Post} : W T (.reg F_dyn_gatherr4) env H Q ↔ WR T F_dyn_gatherr4 [
  ⟨some 17, .bin .lss (.t 16) (.t 15), none⟩] env H none [] Q := w_reg
def F_dyn_gatherr5 : List IStmt := [
  ⟨some 18, .ixa 2 (.t 14) (.t 16), none⟩,
  ⟨some 19, .loadN 2 (.t 18), none⟩,
  ⟨some 7, .alloc 2 [.int .u64 0, .int .u64 0], none⟩,
  ⟨none, .store 2 (.t 7) (.t 19), none⟩]
theorem F_dyn_gatherr5_W {T : Tab} {env : Env} {H : Heap} {Q : Post} : W T (.reg F_dyn_gatherr5) env H Q ↔ WR T F_dyn_gatherr5 [
  ⟨some 18, .ixa 2 (.t 14) (.t 16), none⟩,
  ⟨some 19, .loadN 2 (.t 18), none⟩,
  ⟨some 7, .alloc 2 [.int .u64 0, .int .u64 0], none⟩,
  ⟨none, .store 2 (.t 7) (.t 19), none⟩] env H none [] Q := w_reg
def F_dyn_gatherr6 : List IStmt := [
  ⟨some 21, .fa 0 (.t 7), none⟩,
  ⟨some 22, .load (.t 21), none⟩,
  ⟨some 23, .bin .eql (.t 22) (.c (.int .u64 1)), none⟩,
  ⟨some 20, .mv (.t 23), none⟩]
theorem F_dyn_gatherr6_W {T : Tab} {env : Env} {H : Heap} {Q : Post} : W T (.reg F_dyn_gatherr6) env H Q ↔ WR T F_dyn_gatherr6 [
  ⟨some 21, .fa 0 (.t 7), none⟩,
  ⟨some 22, .load (.t 21), none⟩,
  ⟨some 23, .bin .eql (.t 22) (.c (.int .u64 1)), none⟩,
  ⟨some 20, .mv (.t 23), none⟩] env H none [] Q := w_reg
def F_dyn_gatherr7 : List IStmt := [
  ⟨some 24, .mv (.t 4), none⟩,
  ⟨some 25, .mv (.t 4), none⟩,
  ⟨some 26, .nilc (.t 25), none⟩,
  ⟨some 27, .fa 1 (.t 26), none⟩,
  ⟨some 28, .load (.t 27), none⟩,
  ⟨some 29, .fa 1 (.t 7), none⟩,
  ⟨some 30, .load (.t 29), none⟩,
  ⟨some 31, .bsli 1 1 [.int .u64 0] [(0, (.t 30))], none⟩,
  ⟨some 32, .app 1 8 (.t 28) (.t 31), none⟩,
  ⟨some 33, .nilc (.t 24), none⟩,
  ⟨some 34, .fa 1 (.t 33), none⟩,
  ⟨none, .store 1 (.t 34) (.t 32), none⟩]
theorem F_dyn_gatherr7_W {T : Tab} {env : Env} {H : Heap} {Q : Post} : W T (.dreg F_dyn_gatherr7 []) env H Q ↔ WR T F_dyn_gatherr7 [
  ⟨some 24, .mv (.t 4), none⟩,
  ⟨some 25, .mv (.t 4), none⟩,
  ⟨some 26, .nilc (.t 25), none⟩,
  ⟨some 27, .fa 1 (.t 26), none⟩,
  ⟨some 28, .load (.t 27), none⟩,
  ⟨some 29, .fa 1 (.t 7), none⟩,
  ⟨some 30, .load (.t 29), none⟩,
  ⟨some 31, .bsli 1 1 [.int .u64 0] [(0, (.t 30))], none⟩,
  ⟨some 32, .app 1 8 (.t 28) (.t 31), none⟩,
  ⟨some 33, .nilc (.t 24), none⟩,
  ⟨some 34, .fa 1 (.t 33), none⟩,
  ⟨none, .store 1 (.t 34) (.t 32), none⟩] env H none [] Q := w_dreg0
def F_dyn_gatherr8 : List IStmt := [
  ⟨some 36, .fa 0 (.t 7), none⟩,
  ⟨some 37, .load (.t 36), none⟩,
  ⟨some 38, .callc 66 [(.t 37)], none⟩,
  ⟨some 35, .mv (.t 38), none⟩]
theorem F_dyn_gatherr8_W {T : Tab} {env : Env} {H : Heap} {Q : Post} : W T (.reg F_dyn_gatherr8) env H Q ↔ WR T F_dyn_gatherr8 [
  ⟨some 36, .fa 0 (.t 7), none⟩,
  ⟨some 37, .load (.t 36), none⟩,
  ⟨some 38, .callc 66 [(.t 37)], none⟩,
  ⟨some 35, .mv (.t 38), none⟩] env H none [] Q := w_reg
def F_dyn_gatherr9 : List IStmt := [
  ⟨some 39, .mv (.t 5), none⟩,
  ⟨some 40, .fa 0 (.t 7), none⟩,
  ⟨some 41, .load (.t 40), none⟩,
  ⟨some 42, .lku 0 false false [.int .i64 0] (.t 39) (.t 41), none⟩,
  ⟨some 43, .bin .add (.t 42) (.c (.int .i64 1)), none⟩,
  ⟨none, .mup 0 (.t 39) (.t 41) (.t 43), none⟩]
theorem F_dyn_gatherr9_W {T : Tab} {env : Env} {H : Heap} {Q : Post} : W T (.reg F_dyn_gatherr9) env H Q ↔ WR T F_dyn_gatherr9 [
  ⟨some 39, .mv (.t 5), none⟩,
  ⟨some 40, .fa 0 (.t 7), none⟩,
  ⟨some 41, .load (.t 40), none⟩,
  ⟨some 42, .lku 0 false false [.int .i64 0] (.t 39) (.t 41), none⟩,
  ⟨some 43, .bin .add (.t 42) (.c (.int .i64 1)), none⟩,
  ⟨none, .mup 0 (.t 39) (.t 41) (.t 43), none⟩] env H none [] Q := w_reg
def F_dyn_gatherr10 : List IStmt := [
  ⟨some 44, .mv (.t 4), none⟩,
  ⟨some 45, .nilc (.t 44), none⟩,
  ⟨some 46, .fa 0 (.t 45), none⟩,
  ⟨some 47, .load (.t 46), none⟩,
  ⟨some 48, .fa 0 (.t 7), none⟩,
  ⟨some 49, .load (.t 48), none⟩,
  ⟨some 50, .fa 1 (.t 7), none⟩,
  ⟨some 51, .load (.t 50), none⟩,
  ⟨none, .mup 0 (.t 47) (.t 49) (.t 51), none⟩]
theorem F_dyn_gatherr10_W {T : Tab} {env : Env} {H : Heap} {Q : Post} : W T (.dreg F_dyn_gatherr10 []) env H Q ↔ WR T F_dyn_gatherr10 [
  ⟨some 44, .mv (.t 4), none⟩,
  ⟨some 45, .nilc (.t 44), none⟩,
  ⟨some 46, .fa 0 (.t 45), none⟩,
  ⟨some 47, .load (.t 46), none⟩,
  ⟨some 48, .fa 0 (.t 7), none⟩,
  ⟨some 49, .load (.t 48), none⟩,
  ⟨some 50, .fa 1 (.t 7), none⟩,
  ⟨some 51, .load (.t 50), none⟩,
  ⟨none, .mup 0 (.t 47) (.t 49) (.t 51), none⟩] env H none [] Q := w_dreg0
def F_dyn_gatherr11 : List IStmt := [
  ⟨some 52, .bin .add (.t 16) (.c (.int .i64 1)), none⟩,
  ⟨some 16, .mv (.t 52), none⟩]
theorem F_dyn_gatherr11_W {T : Tab} {env : Env} {H : Heap} {Q : Post} : W T (.reg F_dyn_gatherr11) env H Q ↔ WR T F_dyn_gatherr11 [
  ⟨some 52, .bin .add (.t 16) (.c (.int .i64 1)), none⟩,
  ⟨some 16, .mv (.t 52), none⟩] env H none [] Q := w_reg
def F_dyn_gatherl0 : ICode := (.seq (.reg F_dyn_gatherr4) (.seq (.cond (.t 17) .skip (.exit 0)) (.seq (.block 1 (.seq (.reg F_dyn_gatherr5) (.block 2 (.seq (.reg F_dyn_gatherr6) (.cond (.t 20) (.dreg F_dyn_gatherr7 []) (.seq (.reg F_dyn_gatherr8) (.cond (.t 35) (.seq (.reg F_dyn_gatherr9) (.dreg F_dyn_gatherr10 [])) .skip))))))) (.reg F_dyn_gatherr11))))
theorem F_dyn_gatherl0_W {T : Tab} {env : Env} {H : Heap} {Q : Post} : W T F_dyn_gatherl0 env H Q ↔ W T (.seq (.reg F_dyn_gatherr4) (.seq (.cond (.t 17) .skip (.exit 0)) (.seq (.block 1 (.seq (.reg F_dyn_gatherr5) (.block 2 (.seq (.reg F_dyn_gatherr6) (.cond (.t 20) (.dreg F_dyn_gatherr7 []) (.seq (.reg F_dyn_gatherr8) (.cond (.t 35) (.seq (.reg F_dyn_gatherr9) (.dreg F_dyn_gatherr10 [])) .skip))))))) (.reg F_dyn_gatherr11)))) env H Q := Iff.rfl
def F_dyn_gatherr16 : List IStmt := [
  ⟨some 2, .mv (.c (.pointer none)), none⟩,
  ⟨some 3, .mv (.c (.int .i64 90)), none⟩]
theorem F_dyn_gatherr16_W {T : Tab} {env : Env} {H : Heap} {Q : Post} : W T (.reg F_dyn_gatherr16) env H Q ↔ WR T F_dyn_gatherr16 [
  ⟨some 2, .mv (.c (.pointer none)), none⟩,
  ⟨some 3, .mv (.c (.int .i64 90)), none⟩] env H none [] Q := w_reg
def F_dyn_gatherm12 : MR := ⟨(.t 5), 53, 54, 55, 56, 57, 58, 9, 59, 60, .gtr, .int .i64 1, F_dyn_gatherr16⟩
def F_dyn_gatherr17 : List IStmt := [
  ⟨some 61, .mv (.t 4), none⟩,
  ⟨some 2, .mv (.t 61), none⟩,
  ⟨some 3, .mv (.c (.int .i64 0)), none⟩]
theorem F_dyn_gatherr17_W {T : Tab} {env : Env} {H : Heap} {Q : Post} : W T (.reg F_dyn_gatherr17) env H Q ↔ WR T F_dyn_gatherr17 [
  ⟨some 61, .mv (.t 4), none⟩,
  ⟨some 2, .mv (.t 61), none⟩,
  ⟨some 3, .mv (.c (.int .i64 0)), none⟩] env H none [] Q := w_reg
def F_dyn_gatherc : ICode := (.seq (.reg F_dyn_gatherr0) (.seq (.reg F_dyn_gatherr1) (.seq (.reg F_dyn_gatherr2) (.seq (.seq (.reg F_dyn_gatherr3) (.block 0 (.loop F_dyn_gatherl0))) (.seq (.mrange F_dyn_gatherm12) (.seq (.reg F_dyn_gatherr17) .ret))))))
theorem F_dyn_gatherc_W {T : Tab} {env : Env} {H : Heap} {Q : Post} : W T F_dyn_gatherc env H Q ↔ W T (.seq (.reg F_dyn_gatherr0) (.seq (.reg F_dyn_gatherr1) (.seq (.reg F_dyn_gatherr2) (.seq (.seq (.reg F_dyn_gatherr3) (.block 0 (.loop F_dyn_gatherl0))) (.seq (.mrange F_dyn_gatherm12) (.seq (.reg F_dyn_gatherr17) .ret)))))) env H Q := Iff.rfl
def F_dyn_gather : IFn := ⟨62, [.tmp 2, .tmp 3], F_dyn_gatherc⟩
set_option maxRecDepth 1000000 in
theorem F_dyn_gather_chk : chkF Try.prog 56 F_dyn_gather = true := by kernel_rfl

/-! ### dyn_table_has -/
def F_dyn_table_hasr0 : List IStmt := [
  ⟨some 4, .mv (.c (.bool false)), none⟩]
theorem F_dyn_table_hasr0_W {T : Tab} {env : Env} {H : Heap} {Q : Post} : W T (.reg F_dyn_table_hasr0) env H Q ↔ WR T F_dyn_table_hasr0 [
  ⟨some 4, .mv (.c (.bool false)), none⟩] env H none [] Q := w_reg
def F_dyn_table_hasr1 : List IStmt := [
  ⟨some 8, .mv (.t 0), none⟩,
  ⟨some 9, .nilc (.t 8), none⟩,
  ⟨some 10, .fa 0 (.t 9), none⟩,
  ⟨some 11, .load (.t 10), none⟩,
  ⟨some 12, .mv (.t 1), none⟩,
  ⟨some 13, .lku 0 false true [.int .u64 0] (.t 11) (.t 12), none⟩,
  ⟨some 7, .mv (.t 13), none⟩,
  ⟨some 14, .ext (.t 7) 0, none⟩,
  ⟨some 15, .ext (.t 7) 1, none⟩,
  ⟨some 5, .mv (.t 14), none⟩,
  ⟨some 6, .mv (.t 15), none⟩]
theorem F_dyn_table_hasr1_W {T : Tab} {env : Env} {H : Heap} {Q : Post} : W T (.reg F_dyn_table_hasr1) env H Q ↔ WR T F_dyn_table_hasr1 [
  ⟨some 8, .mv (.t 0), none⟩,
  ⟨some 9, .nilc (.t 8), none⟩,
  ⟨some 10, .fa 0 (.t 9), none⟩,
  ⟨some 11, .load (.t 10), none⟩,
  ⟨some 12, .mv (.t 1), none⟩,
  ⟨some 13, .lku 0 false true [.int .u64 0] (.t 11) (.t 12), none⟩,
  ⟨some 7, .mv (.t 13), none⟩,
  ⟨some 14, .ext (.t 7) 0, none⟩,
  ⟨some 15, .ext (.t 7) 1, none⟩,
  ⟨some 5, .mv (.t 14), none⟩,
  ⟨some 6, .mv (.t 15), none⟩] env H none [] Q := w_reg
def F_dyn_table_hasr2 : List IStmt := [
  ⟨some 16, .mv (.t 6), none⟩,
  ⟨some 4, .mv (.t 16), none⟩]
theorem F_dyn_table_hasr2_W {T : Tab} {env : Env} {H : Heap} {Q : Post} : W T (.reg F_dyn_table_hasr2) env H Q ↔ WR T F_dyn_table_hasr2 [
  ⟨some 16, .mv (.t 6), none⟩,
  ⟨some 4, .mv (.t 16), none⟩] env H none [] Q := w_reg
def F_dyn_table_hasc : ICode := (.seq (.reg F_dyn_table_hasr0) (.seq (.reg F_dyn_table_hasr1) (.seq (.reg F_dyn_table_hasr2) .ret)))
theorem F_dyn_table_hasc_W {T : Tab} {env : Env} {H : Heap} {Q : Post} : W T F_dyn_table_hasc env H Q ↔ W T (.seq (.reg F_dyn_table_hasr0) (.seq (.reg F_dyn_table_hasr1) (.seq (.reg F_dyn_table_hasr2) .ret))) env H Q := Iff.rfl
def F_dyn_table_has : IFn := ⟨17, [.tmp 4], F_dyn_table_hasc⟩
set_option maxRecDepth 1000000 in
theorem F_dyn_table_has_chk : chkF Try.prog 58 F_dyn_table_has = true := by kernel_rfl

/-! ### dyn_table_area -/
def F_dyn_table_arear0 : List IStmt := [
  ⟨some 8, .mv (.c (.bool false)), none⟩]
theorem F_dyn_table_arear0_W {T : Tab} {env : Env} {H : Heap} {Q : Post} : W T (.reg F_dyn_table_arear0) env H Q ↔ WR T F_dyn_table_arear0 [
  ⟨some 8, .mv (.c (.bool false)), none⟩] env H none [] Q := w_reg
def F_dyn_table_arear1 : List IStmt := [
  ⟨some 9, .mv (.t 3), none⟩,
  ⟨some 10, .mv (.t 0), none⟩,
  ⟨some 11, .mv (.t 1), none⟩,
  ⟨some 12, .call 58 [(.t 10), (.t 11)], none⟩,
  ⟨some 13, .mv (.t 0), none⟩,
  ⟨some 14, .nilc (.t 13), none⟩,
  ⟨some 15, .fa 0 (.t 14), none⟩,
  ⟨some 16, .load (.t 15), none⟩,
  ⟨some 17, .mv (.t 1), none⟩,
  ⟨some 18, .lku 0 false false [.int .u64 0] (.t 16) (.t 17), none⟩,
  ⟨some 19, .mv (.t 0), none⟩,
  ⟨some 20, .nilc (.t 19), none⟩,
  ⟨some 21, .fa 0 (.t 20), none⟩,
  ⟨some 22, .load (.t 21), none⟩,
  ⟨some 23, .mv (.t 2), none⟩,
  ⟨some 24, .lku 0 false false [.int .u64 0] (.t 22) (.t 23), none⟩,
  ⟨some 25, .bld [.bool false, .int .u64 0, .int .u64 0] [(0, 1, (.t 12)), (1, 1, (.t 18)), (2, 1, (.t 24))], none⟩,
  ⟨some 26, .nilc (.t 9), none⟩,
  ⟨none, .store 3 (.t 26) (.t 25), none⟩]
theorem F_dyn_table_arear1_W {T : Tab} {env : Env} {H : Heap} {Q : Post} : W T (.dreg F_dyn_table_arear1 [(7, 0), (9, 0), (13, 0), (15, 0)]) env H Q ↔ WR T F_dyn_table_arear1 [
  ⟨some 9, .mv (.t 3), none⟩,
  ⟨some 10, .mv (.t 0), none⟩,
  ⟨some 11, .mv (.t 1), none⟩,
  ⟨some 12, .call 58 [(.t 10), (.t 11)], none⟩,
  ⟨some 13, .mv (.t 0), none⟩,
  ⟨some 14, .nilc (.t 13), none⟩,
  ⟨some 15, .fa 0 (.t 14), none⟩,
  ⟨some 16, .load (.t 15), none⟩,
  ⟨some 17, .mv (.t 1), none⟩,
  ⟨some 18, .lku 0 false false [.int .u64 0] (.t 16) (.t 17), none⟩,
  ⟨some 19, .mv (.t 0), none⟩,
  ⟨some 20, .nilc (.t 19), none⟩,
  ⟨some 21, .fa 0 (.t 20), none⟩,
  ⟨some 22, .load (.t 21), none⟩,
  ⟨some 23, .mv (.t 2), none⟩,
  ⟨some 24, .lku 0 false false [.int .u64 0] (.t 22) (.t 23), none⟩,
  ⟨some 25, .bld [.bool false, .int .u64 0, .int .u64 0] [(0, 1, (.t 12)), (1, 1, (.t 18)), (2, 1, (.t 24))], none⟩,
  ⟨some 26, .nilc (.t 9), none⟩,
  ⟨none, .store 3 (.t 26) (.t 25), none⟩] env H (some []) [(7, 0), (9, 0), (13, 0), (15, 0)] Q := w_dreg
theorem F_dyn_table_arear1_len : F_dyn_table_arear1.length = 19 := rfl
theorem F_dyn_table_arear1_i7 : F_dyn_table_arear1[7]? = some ⟨some 16, .load (.t 15), none⟩ := rfl
theorem F_dyn_table_arear1_i9 : F_dyn_table_arear1[9]? = some ⟨some 18, .lku 0 false false [.int .u64 0] (.t 16) (.t 17), none⟩ := rfl
theorem F_dyn_table_arear1_i13 : F_dyn_table_arear1[13]? = some ⟨some 22, .load (.t 21), none⟩ := rfl
theorem F_dyn_table_arear1_i15 : F_dyn_table_arear1[15]? = some ⟨some 24, .lku 0 false false [.int .u64 0] (.t 22) (.t 23), none⟩ := rfl
def F_dyn_table_arear2 : List IStmt := [
  ⟨some 27, .mv (.t 0), none⟩,
  ⟨some 28, .mv (.t 1), none⟩,
  ⟨some 29, .call 58 [(.t 27), (.t 28)], none⟩,
  ⟨some 30, .mv (.t 0), none⟩,
  ⟨some 31, .mv (.t 2), none⟩,
  ⟨some 32, .call 58 [(.t 30), (.t 31)], none⟩,
  ⟨some 33, .eqb false (.t 29) (.t 32), none⟩,
  ⟨some 8, .mv (.t 33), none⟩]
theorem F_dyn_table_arear2_W {T : Tab} {env : Env} {H : Heap} {Q : Post} : W T (.reg F_dyn_table_arear2) env H Q ↔ WR T F_dyn_table_arear2 [
  ⟨some 27, .mv (.t 0), none⟩,
  ⟨some 28, .mv (.t 1), none⟩,
  ⟨some 29, .call 58 [(.t 27), (.t 28)], none⟩,
  ⟨some 30, .mv (.t 0), none⟩,
  ⟨some 31, .mv (.t 2), none⟩,
  ⟨some 32, .call 58 [(.t 30), (.t 31)], none⟩,
  ⟨some 33, .eqb false (.t 29) (.t 32), none⟩,
  ⟨some 8, .mv (.t 33), none⟩] env H none [] Q := w_reg
def F_dyn_table_areac : ICode := (.seq (.reg F_dyn_table_arear0) (.seq (.dreg F_dyn_table_arear1 [(7, 0), (9, 0), (13, 0), (15, 0)]) (.seq (.reg F_dyn_table_arear2) .ret)))
theorem F_dyn_table_areac_W {T : Tab} {env : Env} {H : Heap} {Q : Post} : W T F_dyn_table_areac env H Q ↔ W T (.seq (.reg F_dyn_table_arear0) (.seq (.dreg F_dyn_table_arear1 [(7, 0), (9, 0), (13, 0), (15, 0)]) (.seq (.reg F_dyn_table_arear2) .ret))) env H Q := Iff.rfl
def F_dyn_table_area : IFn := ⟨34, [.tmp 8], F_dyn_table_areac⟩
set_option maxRecDepth 1000000 in
theorem F_dyn_table_area_chk : chkF Try.prog 67 F_dyn_table_area = true := by kernel_rfl

/-! ### dyn_table_fixed -/
def F_dyn_table_fixedr0 : List IStmt := [
  ⟨some 6, .mv (.c (.bool false)), none⟩]
theorem F_dyn_table_fixedr0_W {T : Tab} {env : Env} {H : Heap} {Q : Post} : W T (.reg F_dyn_table_fixedr0) env H Q ↔ WR T F_dyn_table_fixedr0 [
  ⟨some 6, .mv (.c (.bool false)), none⟩] env H none [] Q := w_reg
def F_dyn_table_fixedr1 : List IStmt := [
  ⟨some 7, .mv (.t 0), none⟩,
  ⟨some 8, .mv (.t 1), none⟩,
  ⟨some 9, .call 58 [(.t 7), (.t 8)], none⟩,
  ⟨some 10, .un .not (.t 9), none⟩,
  ⟨some 11, .mv (.t 10), none⟩,
  ⟨some 12, .mv (.t 0), some (4, false)⟩,
  ⟨some 13, .nilc (.t 12), some (4, false)⟩,
  ⟨some 14, .fa 0 (.t 13), some (4, false)⟩,
  ⟨some 15, .load (.t 14), some (4, false)⟩,
  ⟨some 16, .mv (.t 1), some (4, false)⟩,
  ⟨some 17, .lku 0 false false [.int .u64 0] (.t 15) (.t 16), some (4, false)⟩,
  ⟨some 18, .mv (.t 2), some (4, false)⟩,
  ⟨some 19, .bin .eql (.t 17) (.t 18), some (4, false)⟩,
  ⟨some 20, .pick (.t 11) (.c (.bool true)) (.t 19), none⟩,
  ⟨some 6, .mv (.t 20), none⟩]
theorem F_dyn_table_fixedr1_W {T : Tab} {env : Env} {H : Heap} {Q : Post} : W T (.reg F_dyn_table_fixedr1) env H Q ↔ WR T F_dyn_table_fixedr1 [
  ⟨some 7, .mv (.t 0), none⟩,
  ⟨some 8, .mv (.t 1), none⟩,
  ⟨some 9, .call 58 [(.t 7), (.t 8)], none⟩,
  ⟨some 10, .un .not (.t 9), none⟩,
  ⟨some 11, .mv (.t 10), none⟩,
  ⟨some 12, .mv (.t 0), some (4, false)⟩,
  ⟨some 13, .nilc (.t 12), some (4, false)⟩,
  ⟨some 14, .fa 0 (.t 13), some (4, false)⟩,
  ⟨some 15, .load (.t 14), some (4, false)⟩,
  ⟨some 16, .mv (.t 1), some (4, false)⟩,
  ⟨some 17, .lku 0 false false [.int .u64 0] (.t 15) (.t 16), some (4, false)⟩,
  ⟨some 18, .mv (.t 2), some (4, false)⟩,
  ⟨some 19, .bin .eql (.t 17) (.t 18), some (4, false)⟩,
  ⟨some 20, .pick (.t 11) (.c (.bool true)) (.t 19), none⟩,
  ⟨some 6, .mv (.t 20), none⟩] env H none [] Q := w_reg
theorem F_dyn_table_fixedr1_g4 {env : Env} : yieldI F_dyn_table_fixedr1 env 4 = bOf (env 11) := rfl
def F_dyn_table_fixedc : ICode := (.seq (.reg F_dyn_table_fixedr0) (.seq (.reg F_dyn_table_fixedr1) .ret))
theorem F_dyn_table_fixedc_W {T : Tab} {env : Env} {H : Heap} {Q : Post} : W T F_dyn_table_fixedc env H Q ↔ W T (.seq (.reg F_dyn_table_fixedr0) (.seq (.reg F_dyn_table_fixedr1) .ret)) env H Q := Iff.rfl
def F_dyn_table_fixed : IFn := ⟨21, [.tmp 6], F_dyn_table_fixedc⟩
set_option maxRecDepth 1000000 in
theorem F_dyn_table_fixed_chk : chkF Try.prog 68 F_dyn_table_fixed = true := by kernel_rfl

/-! ### dyn_table_whole -/
def F_dyn_table_wholer0 : List IStmt := [
  ⟨some 4, .mv (.c (.bool false)), none⟩]
theorem F_dyn_table_wholer0_W {T : Tab} {env : Env} {H : Heap} {Q : Post} : W T (.reg F_dyn_table_wholer0) env H Q ↔ WR T F_dyn_table_wholer0 [
  ⟨some 4, .mv (.c (.bool false)), none⟩] env H none [] Q := w_reg
def F_dyn_table_wholer1 : List IStmt := [
  ⟨some 10, .bld [.bool false, .int .u64 0, .int .u64 0] [], none⟩,
  ⟨some 11, .bld [.bool false, .int .u64 0, .int .u64 0] [], none⟩,
  ⟨some 5, .alloc 3 [.bool false, .int .u64 0, .int .u64 0], none⟩,
  ⟨some 6, .alloc 3 [.bool false, .int .u64 0, .int .u64 0], none⟩,
  ⟨none, .store 3 (.t 5) (.t 10), none⟩,
  ⟨none, .store 3 (.t 6) (.t 11), none⟩]
theorem F_dyn_table_wholer1_W {T : Tab} {env : Env} {H : Heap} {Q : Post} : W T (.reg F_dyn_table_wholer1) env H Q ↔ WR T F_dyn_table_wholer1 [
  ⟨some 10, .bld [.bool false, .int .u64 0, .int .u64 0] [], none⟩,
  ⟨some 11, .bld [.bool false, .int .u64 0, .int .u64 0] [], none⟩,
  ⟨some 5, .alloc 3 [.bool false, .int .u64 0, .int .u64 0], none⟩,
  ⟨some 6, .alloc 3 [.bool false, .int .u64 0, .int .u64 0], none⟩,
  ⟨none, .store 3 (.t 5) (.t 10), none⟩,
  ⟨none, .store 3 (.t 6) (.t 11), none⟩] env H none [] Q := w_reg
def F_dyn_table_wholer2 : List IStmt := [
  ⟨some 12, .mv (.t 1), none⟩,
  ⟨some 13, .nilc (.t 12), none⟩,
  ⟨some 14, .fa 6 (.t 13), none⟩,
  ⟨some 15, .bld [.int .u64 0, .int .u64 0, .pointer none] [(0, 1, (.c (.int .u64 5))), (1, 1, (.c (.int .u64 10))), (2, 1, (.t 14))], none⟩,
  ⟨some 16, .mv (.t 1), none⟩,
  ⟨some 17, .nilc (.t 16), none⟩,
  ⟨some 18, .fa 17 (.t 17), none⟩,
  ⟨some 19, .bld [.int .u64 0, .int .u64 0, .pointer none] [(0, 1, (.c (.int .u64 17))), (1, 1, (.c (.int .u64 18))), (2, 1, (.t 18))], none⟩,
  ⟨some 20, .mv (.t 1), none⟩,
  ⟨some 21, .nilc (.t 20), none⟩,
  ⟨some 22, .fa 20 (.t 21), none⟩,
  ⟨some 23, .bld [.int .u64 0, .int .u64 0, .pointer none] [(0, 1, (.c (.int .u64 7))), (1, 1, (.c (.int .u64 8))), (2, 1, (.t 22))], none⟩,
  ⟨some 24, .mv (.t 1), none⟩,
  ⟨some 25, .nilc (.t 24), none⟩,
  ⟨some 26, .fa 23 (.t 25), none⟩,
  ⟨some 27, .bld [.int .u64 0, .int .u64 0, .pointer none] [(0, 1, (.c (.int .u64 23))), (1, 1, (.c (.int .u64 2))), (2, 1, (.t 26))], none⟩,
  ⟨some 28, .mv (.t 1), none⟩,
  ⟨some 29, .nilc (.t 28), none⟩,
  ⟨some 30, .fa 26 (.t 29), none⟩,
  ⟨some 31, .bld [.int .u64 0, .int .u64 0, .pointer none] [(0, 1, (.c (.int .u64 36))), (1, 1, (.c (.int .u64 35))), (2, 1, (.t 30))], none⟩,
  ⟨some 32, .bld [.int .u64 0, .int .u64 0, .pointer none] [(0, 1, (.c (.int .u64 1610612751))), (1, 1, (.c (.int .u64 1610612752))), (2, 1, (.t 5))], none⟩,
  ⟨some 33, .bld [.int .u64 0, .int .u64 0, .pointer none] [(0, 1, (.c (.int .u64 1610612753))), (1, 1, (.c (.int .u64 1610612754))), (2, 1, (.t 6))], none⟩,
  ⟨some 34, .mv (.t 1), none⟩,
  ⟨some 35, .nilc (.t 34), none⟩,
  ⟨some 36, .fa 34 (.t 35), none⟩,
  ⟨some 37, .bld [.int .u64 0, .int .u64 0, .pointer none] [(0, 1, (.c (.int .u64 25))), (1, 1, (.c (.int .u64 27))), (2, 1, (.t 36))], none⟩,
  ⟨some 38, .mv (.t 1), none⟩,
  ⟨some 39, .nilc (.t 38), none⟩,
  ⟨some 40, .fa 37 (.t 39), none⟩,
  ⟨some 41, .bld [.int .u64 0, .int .u64 0, .pointer none] [(0, 1, (.c (.int .u64 26))), (1, 1, (.c (.int .u64 28))), (2, 1, (.t 40))], none⟩,
  ⟨some 42, .bsli 3 9 [.int .u64 0, .int .u64 0, .pointer none] [(0, (.t 15)), (1, (.t 19)), (2, (.t 23)), (3, (.t 27)), (4, (.t 31)), (5, (.t 32)), (6, (.t 33)), (7, (.t 37)), (8, (.t 41))], none⟩,
  ⟨some 43, .len 1 (.t 42), none⟩,
  ⟨some 44, .mv (.c (.int .i64 0)), none⟩]
theorem F_dyn_table_wholer2_W {T : Tab} {env : Env} {H : Heap} {Q : Post} : W T (.dreg F_dyn_table_wholer2 []) env H Q ↔ WR T F_dyn_table_wholer2 [
  ⟨some 12, .mv (.t 1), none⟩,
  ⟨some 13, .nilc (.t 12), none⟩,
  ⟨some 14, .fa 6 (.t 13), none⟩,
  ⟨some 15, .bld [.int .u64 0, .int .u64 0, .pointer none] [(0, 1, (.c (.int .u64 5))), (1, 1, (.c (.int .u64 10))), (2, 1, (.t 14))], none⟩,
  ⟨some 16, .mv (.t 1), none⟩,
  ⟨some 17, .nilc (.t 16), none⟩,
  ⟨some 18, .fa 17 (.t 17), none⟩,
  ⟨some 19, .bld [.int .u64 0, .int .u64 0, .pointer none] [(0, 1, (.c (.int .u64 17))), (1, 1, (.c (.int .u64 18))), (2, 1, (.t 18))], none⟩,
  ⟨some 20, .mv (.t 1), none⟩,
  ⟨some 21, .nilc (.t 20), none⟩,
  ⟨some 22, .fa 20 (.t 21), none⟩,
  ⟨some 23, .bld [.int .u64 0, .int .u64 0, .pointer none] [(0, 1, (.c (.int .u64 7))), (1, 1, (.c (.int .u64 8))), (2, 1, (.t 22))], none⟩,
  ⟨some 24, .mv (.t 1), none⟩,
  ⟨some 25, .nilc (.t 24), none⟩,
  ⟨some 26, .fa 23 (.t 25), none⟩,
  ⟨some 27, .bld [.int .u64 0, .int .u64 0, .pointer none] [(0, 1, (.c (.int .u64 23))), (1, 1, (.c (.int .u64 2))), (2, 1, (.t 26))], none⟩,
  ⟨some 28, .mv (.t 1), none⟩,
  ⟨some 29, .nilc (.t 28), none⟩,
  ⟨some 30, .fa 26 (.t 29), none⟩,
  ⟨some 31, .bld [.int .u64 0, .int .u64 0, .pointer none] [(0, 1, (.c (.int .u64 36))), (1, 1, (.c (.int .u64 35))), (2, 1, (.t 30))], none⟩,
  ⟨some 32, .bld [.int .u64 0, .int .u64 0, .pointer none] [(0, 1, (.c (.int .u64 1610612751))), (1, 1, (.c (.int .u64 1610612752))), (2, 1, (.t 5))], none⟩,
  ⟨some 33, .bld [.int .u64 0, .int .u64 0, .pointer none] [(0, 1, (.c (.int .u64 1610612753))), (1, 1, (.c (.int .u64 1610612754))), (2, 1, (.t 6))], none⟩,
  ⟨some 34, .mv (.t 1), none⟩,
  ⟨some 35, .nilc (.t 34), none⟩,
  ⟨some 36, .fa 34 (.t 35), none⟩,
  ⟨some 37, .bld [.int .u64 0, .int .u64 0, .pointer none] [(0, 1, (.c (.int .u64 25))), (1, 1, (.c (.int .u64 27))), (2, 1, (.t 36))], none⟩,
  ⟨some 38, .mv (.t 1), none⟩,
  ⟨some 39, .nilc (.t 38), none⟩,
  ⟨some 40, .fa 37 (.t 39), none⟩,
  ⟨some 41, .bld [.int .u64 0, .int .u64 0, .pointer none] [(0, 1, (.c (.int .u64 26))), (1, 1, (.c (.int .u64 28))), (2, 1, (.t 40))], none⟩,
  ⟨some 42, .bsli 3 9 [.int .u64 0, .int .u64 0, .pointer none] [(0, (.t 15)), (1, (.t 19)), (2, (.t 23)), (3, (.t 27)), (4, (.t 31)), (5, (.t 32)), (6, (.t 33)), (7, (.t 37)), (8, (.t 41))], none⟩,
  ⟨some 43, .len 1 (.t 42), none⟩,
  ⟨some 44, .mv (.c (.int .i64 0)), none⟩] env H none [] Q := w_dreg0
def F_dyn_table_wholer3 : List IStmt := [
  ⟨some 45, .bin .lss (.t 44) (.t 43), none⟩]
theorem F_dyn_table_wholer3_W {T : Tab} {env : Env} {H : Heap} {Q : Post} : W T (.reg F_dyn_table_wholer3) env H Q ↔ WR T F_dyn_table_wholer3 [
  ⟨some 45, .bin .lss (.t 44) (.t 43), none⟩] env H none [] Q := w_reg
def F_dyn_table_wholer4 : List IStmt := [
  ⟨some 46, .ixa 3 (.t 42) (.t 44), none⟩,
  ⟨some 47, .loadN 3 (.t 46), none⟩,
  ⟨some 8, .alloc 3 [.int .u64 0, .int .u64 0, .pointer none], none⟩,
  ⟨none, .store 3 (.t 8) (.t 47), none⟩]
theorem F_dyn_table_wholer4_W {T : Tab} {env : Env} {H : Heap} {Q : Post} : W T (.reg F_dyn_table_wholer4) env H Q ↔ WR T F_dyn_table_wholer4 [
  ⟨some 46, .ixa 3 (.t 42) (.t 44), none⟩,
  ⟨some 47, .loadN 3 (.t 46), none⟩,
  ⟨some 8, .alloc 3 [.int .u64 0, .int .u64 0, .pointer none], none⟩,
  ⟨none, .store 3 (.t 8) (.t 47), none⟩] env H none [] Q := w_reg
def F_dyn_table_wholer5 : List IStmt := [
  ⟨some 48, .mv (.t 0), none⟩,
  ⟨some 49, .fa 0 (.t 8), none⟩,
  ⟨some 50, .load (.t 49), none⟩,
  ⟨some 51, .fa 1 (.t 8), none⟩,
  ⟨some 52, .load (.t 51), none⟩,
  ⟨some 53, .fa 2 (.t 8), none⟩,
  ⟨some 54, .load (.t 53), none⟩,
  ⟨some 55, .call 67 [(.t 48), (.t 50), (.t 52), (.t 54)], none⟩,
  ⟨some 56, .un .not (.t 55), none⟩]
theorem F_dyn_table_wholer5_W {T : Tab} {env : Env} {H : Heap} {Q : Post} : W T (.reg F_dyn_table_wholer5) env H Q ↔ WR T F_dyn_table_wholer5 [
  ⟨some 48, .mv (.t 0), none⟩,
  ⟨some 49, .fa 0 (.t 8), none⟩,
  ⟨some 50, .load (.t 49), none⟩,
  ⟨some 51, .fa 1 (.t 8), none⟩,
  ⟨some 52, .load (.t 51), none⟩,
  ⟨some 53, .fa 2 (.t 8), none⟩,
  ⟨some 54, .load (.t 53), none⟩,
  ⟨some 55, .call 67 [(.t 48), (.t 50), (.t 52), (.t 54)], none⟩,
  ⟨some 56, .un .not (.t 55), none⟩] env H none [] Q := w_reg
def F_dyn_table_wholer6 : List IStmt := [
  ⟨some 4, .mv (.c (.bool false)), none⟩]
theorem F_dyn_table_wholer6_W {T : Tab} {env : Env} {H : Heap} {Q : Post} : W T (.reg F_dyn_table_wholer6) env H Q ↔ WR T F_dyn_table_wholer6 [
  ⟨some 4, .mv (.c (.bool false)), none⟩] env H none [] Q := w_reg
def F_dyn_table_wholer7 : List IStmt := [
  ⟨some 57, .bin .add (.t 44) (.c (.int .i64 1)), none⟩,
  ⟨some 44, .mv (.t 57), none⟩]
theorem F_dyn_table_wholer7_W {T : Tab} {env : Env} {H : Heap} {Q : Post} : W T (.reg F_dyn_table_wholer7) env H Q ↔ WR T F_dyn_table_wholer7 [
  ⟨some 57, .bin .add (.t 44) (.c (.int .i64 1)), none⟩,
  ⟨some 44, .mv (.t 57), none⟩] env H none [] Q := w_reg
def F_dyn_table_wholel0 : ICode := (.seq (.reg F_dyn_table_wholer3) (.seq (.cond (.t 45) .skip (.exit 0)) (.seq (.block 1 (.seq (.reg F_dyn_table_wholer4) (.seq (.reg F_dyn_table_wholer5) (.cond (.t 56) (.seq (.reg F_dyn_table_wholer6) .ret) .skip)))) (.reg F_dyn_table_wholer7))))
theorem F_dyn_table_wholel0_W {T : Tab} {env : Env} {H : Heap} {Q : Post} : W T F_dyn_table_wholel0 env H Q ↔ W T (.seq (.reg F_dyn_table_wholer3) (.seq (.cond (.t 45) .skip (.exit 0)) (.seq (.block 1 (.seq (.reg F_dyn_table_wholer4) (.seq (.reg F_dyn_table_wholer5) (.cond (.t 56) (.seq (.reg F_dyn_table_wholer6) .ret) .skip)))) (.reg F_dyn_table_wholer7)))) env H Q := Iff.rfl
def F_dyn_table_wholer8 : List IStmt := [
  ⟨some 58, .fa 0 (.t 5), none⟩,
  ⟨some 59, .load (.t 58), none⟩,
  ⟨some 60, .mv (.t 59), none⟩,
  ⟨some 61, .fa 0 (.t 6), some (2, true)⟩,
  ⟨some 62, .load (.t 61), some (2, true)⟩,
  ⟨some 63, .pick (.t 60) (.t 62) (.c (.bool false)), none⟩,
  ⟨some 64, .mv (.t 63), none⟩,
  ⟨some 65, .mv (.t 1), some (6, false)⟩,
  ⟨some 66, .nilc (.t 65), some (6, false)⟩,
  ⟨some 67, .fa 6 (.t 66), some (6, false)⟩,
  ⟨some 68, .fa 0 (.t 67), some (6, false)⟩,
  ⟨some 69, .load (.t 68), some (6, false)⟩,
  ⟨some 70, .un .not (.t 69), some (6, false)⟩,
  ⟨some 71, .pick (.t 64) (.c (.bool true)) (.t 70), none⟩,
  ⟨some 72, .mv (.t 71), none⟩,
  ⟨some 73, .mv (.t 0), some (14, false)⟩,
  ⟨some 74, .call 58 [(.t 73), (.c (.int .u64 6))], some (14, false)⟩,
  ⟨some 75, .un .not (.t 74), some (14, false)⟩,
  ⟨some 76, .pick (.t 72) (.c (.bool true)) (.t 75), none⟩,
  ⟨some 77, .mv (.t 76), none⟩,
  ⟨some 78, .mv (.t 0), some (19, false)⟩,
  ⟨some 79, .call 58 [(.t 78), (.c (.int .u64 4))], some (19, false)⟩,
  ⟨some 80, .un .not (.t 79), some (19, false)⟩,
  ⟨some 81, .mv (.t 80), some (19, false)⟩,
  ⟨some 82, .mv (.t 0), some (23, true)⟩,
  ⟨some 83, .call 58 [(.t 82), (.c (.int .u64 1879047925))], some (23, true)⟩,
  ⟨some 84, .un .not (.t 83), some (23, true)⟩,
  ⟨some 85, .pick (.t 81) (.t 84) (.c (.bool false)), some (19, false)⟩,
  ⟨some 86, .pick (.t 77) (.c (.bool true)) (.t 85), none⟩]
theorem F_dyn_table_wholer8_W {T : Tab} {env : Env} {H : Heap} {Q : Post} : W T (.reg F_dyn_table_wholer8) env H Q ↔ WR T F_dyn_table_wholer8 [
  ⟨some 58, .fa 0 (.t 5), none⟩,
  ⟨some 59, .load (.t 58), none⟩,
  ⟨some 60, .mv (.t 59), none⟩,
  ⟨some 61, .fa 0 (.t 6), some (2, true)⟩,
  ⟨some 62, .load (.t 61), some (2, true)⟩,
  ⟨some 63, .pick (.t 60) (.t 62) (.c (.bool false)), none⟩,
  ⟨some 64, .mv (.t 63), none⟩,
  ⟨some 65, .mv (.t 1), some (6, false)⟩,
  ⟨some 66, .nilc (.t 65), some (6, false)⟩,
  ⟨some 67, .fa 6 (.t 66), some (6, false)⟩,
  ⟨some 68, .fa 0 (.t 67), some (6, false)⟩,
  ⟨some 69, .load (.t 68), some (6, false)⟩,
  ⟨some 70, .un .not (.t 69), some (6, false)⟩,
  ⟨some 71, .pick (.t 64) (.c (.bool true)) (.t 70), none⟩,
  ⟨some 72, .mv (.t 71), none⟩,
  ⟨some 73, .mv (.t 0), some (14, false)⟩,
  ⟨some 74, .call 58 [(.t 73), (.c (.int .u64 6))], some (14, false)⟩,
  ⟨some 75, .un .not (.t 74), some (14, false)⟩,
  ⟨some 76, .pick (.t 72) (.c (.bool true)) (.t 75), none⟩,
  ⟨some 77, .mv (.t 76), none⟩,
  ⟨some 78, .mv (.t 0), some (19, false)⟩,
  ⟨some 79, .call 58 [(.t 78), (.c (.int .u64 4))], some (19, false)⟩,
  ⟨some 80, .un .not (.t 79), some (19, false)⟩,
  ⟨some 81, .mv (.t 80), some (19, false)⟩,
  ⟨some 82, .mv (.t 0), some (23, true)⟩,
  ⟨some 83, .call 58 [(.t 82), (.c (.int .u64 1879047925))], some (23, true)⟩,
  ⟨some 84, .un .not (.t 83), some (23, true)⟩,
  ⟨some 85, .pick (.t 81) (.t 84) (.c (.bool false)), some (19, false)⟩,
  ⟨some 86, .pick (.t 77) (.c (.bool true)) (.t 85), none⟩] env H none [] Q := w_reg
theorem F_dyn_table_wholer8_g2 {env : Env} : yieldI F_dyn_table_wholer8 env 2 = bOf (env 60) := rfl
theorem F_dyn_table_wholer8_g6 {env : Env} : yieldI F_dyn_table_wholer8 env 6 = bOf (env 64) := rfl
theorem F_dyn_table_wholer8_g14 {env : Env} : yieldI F_dyn_table_wholer8 env 14 = bOf (env 72) := rfl
theorem F_dyn_table_wholer8_g19 {env : Env} : yieldI F_dyn_table_wholer8 env 19 = bOf (env 77) := rfl
theorem F_dyn_table_wholer8_g23 {env : Env} : yieldI F_dyn_table_wholer8 env 23 = bOf (env 81) := rfl
def F_dyn_table_wholer9 : List IStmt := [
  ⟨some 4, .mv (.c (.bool false)), none⟩]
theorem F_dyn_table_wholer9_W {T : Tab} {env : Env} {H : Heap} {Q : Post} : W T (.reg F_dyn_table_wholer9) env H Q ↔ WR T F_dyn_table_wholer9 [
  ⟨some 4, .mv (.c (.bool false)), none⟩] env H none [] Q := w_reg
def F_dyn_table_wholer10 : List IStmt := [
  ⟨some 87, .mv (.t 1), none⟩,
  ⟨some 88, .mv (.t 1), none⟩,
  ⟨some 89, .loadN 3 (.t 5), none⟩,
  ⟨some 90, .fa 0 (.t 6), none⟩,
  ⟨some 91, .load (.t 90), none⟩,
  ⟨some 92, .nilc (.t 87), none⟩,
  ⟨some 93, .fa 29 (.t 92), none⟩,
  ⟨none, .store 3 (.t 93) (.t 89), none⟩,
  ⟨some 94, .nilc (.t 88), none⟩,
  ⟨some 95, .fa 33 (.t 94), none⟩,
  ⟨none, .store 1 (.t 95) (.t 91), none⟩]
theorem F_dyn_table_wholer10_W {T : Tab} {env : Env} {H : Heap} {Q : Post} : W T (.reg F_dyn_table_wholer10) env H Q ↔ WR T F_dyn_table_wholer10 [
  ⟨some 87, .mv (.t 1), none⟩,
  ⟨some 88, .mv (.t 1), none⟩,
  ⟨some 89, .loadN 3 (.t 5), none⟩,
  ⟨some 90, .fa 0 (.t 6), none⟩,
  ⟨some 91, .load (.t 90), none⟩,
  ⟨some 92, .nilc (.t 87), none⟩,
  ⟨some 93, .fa 29 (.t 92), none⟩,
  ⟨none, .store 3 (.t 93) (.t 89), none⟩,
  ⟨some 94, .nilc (.t 88), none⟩,
  ⟨some 95, .fa 33 (.t 94), none⟩,
  ⟨none, .store 1 (.t 95) (.t 91), none⟩] env H none [] Q := w_reg
def F_dyn_table_wholer11 : List IStmt := [
  ⟨some 96, .fa 0 (.t 6), none⟩,
  ⟨some 97, .load (.t 96), none⟩]
theorem F_dyn_table_wholer11_W {T : Tab} {env : Env} {H : Heap} {Q : Post} : W T (.reg F_dyn_table_wholer11) env H Q ↔ WR T F_dyn_table_wholer11 [
  ⟨some 96, .fa 0 (.t 6), none⟩,
  ⟨some 97, .load (.t 96), none⟩] env H none [] Q := w_reg
def F_dyn_table_wholer12 : List IStmt := [
  ⟨some 98, .mv (.t 1), none⟩,
  ⟨some 99, .loadN 3 (.t 6), none⟩,
  ⟨some 100, .nilc (.t 98), none⟩,
  ⟨some 101, .fa 29 (.t 100), none⟩,
  ⟨none, .store 3 (.t 101) (.t 99), none⟩]
theorem F_dyn_table_wholer12_W {T : Tab} {env : Env} {H : Heap} {Q : Post} : W T (.reg F_dyn_table_wholer12) env H Q ↔ WR T F_dyn_table_wholer12 [
  ⟨some 98, .mv (.t 1), none⟩,
  ⟨some 99, .loadN 3 (.t 6), none⟩,
  ⟨some 100, .nilc (.t 98), none⟩,
  ⟨some 101, .fa 29 (.t 100), none⟩,
  ⟨none, .store 3 (.t 101) (.t 99), none⟩] env H none [] Q := w_reg
def F_dyn_table_wholer13 : List IStmt := [
  ⟨some 102, .mv (.t 0), none⟩,
  ⟨some 103, .nilc (.t 102), none⟩,
  ⟨some 104, .fa 0 (.t 103), none⟩,
  ⟨some 105, .load (.t 104), none⟩,
  ⟨some 106, .lku 0 false false [.int .u64 0] (.t 105) (.c (.int .u64 20)), none⟩,
  ⟨some 9, .mv (.t 106), none⟩]
theorem F_dyn_table_wholer13_W {T : Tab} {env : Env} {H : Heap} {Q : Post} : W T (.reg F_dyn_table_wholer13) env H Q ↔ WR T F_dyn_table_wholer13 [
  ⟨some 102, .mv (.t 0), none⟩,
  ⟨some 103, .nilc (.t 102), none⟩,
  ⟨some 104, .fa 0 (.t 103), none⟩,
  ⟨some 105, .load (.t 104), none⟩,
  ⟨some 106, .lku 0 false false [.int .u64 0] (.t 105) (.c (.int .u64 20)), none⟩,
  ⟨some 9, .mv (.t 106), none⟩] env H none [] Q := w_reg
def F_dyn_table_wholer14 : List IStmt := [
  ⟨some 107, .mv (.t 1), none⟩,
  ⟨some 108, .nilc (.t 107), none⟩,
  ⟨some 109, .fa 23 (.t 108), none⟩,
  ⟨some 110, .fa 0 (.t 109), none⟩,
  ⟨some 111, .load (.t 110), none⟩,
  ⟨some 112, .mv (.t 0), none⟩,
  ⟨some 113, .call 58 [(.t 112), (.c (.int .u64 20))], none⟩,
  ⟨some 114, .eqb true (.t 111) (.t 113), none⟩,
  ⟨some 115, .mv (.t 114), none⟩,
  ⟨some 116, .mv (.t 1), some (8, false)⟩,
  ⟨some 117, .nilc (.t 116), some (8, false)⟩,
  ⟨some 118, .fa 23 (.t 117), some (8, false)⟩,
  ⟨some 119, .fa 0 (.t 118), some (8, false)⟩,
  ⟨some 120, .load (.t 119), some (8, false)⟩,
  ⟨some 121, .mv (.t 120), some (8, false)⟩,
  ⟨some 122, .mv (.t 9), some (14, true)⟩,
  ⟨some 123, .bin .neq (.t 122) (.c (.int .u64 7)), some (14, true)⟩,
  ⟨some 124, .pick (.t 121) (.t 123) (.c (.bool false)), some (8, false)⟩,
  ⟨some 125, .mv (.t 124), some (8, false)⟩,
  ⟨some 126, .mv (.t 9), some (18, true)⟩,
  ⟨some 127, .bin .neq (.t 126) (.c (.int .u64 17)), some (18, true)⟩,
  ⟨some 128, .pick (.t 125) (.t 127) (.c (.bool false)), some (8, false)⟩,
  ⟨some 129, .pick (.t 115) (.c (.bool true)) (.t 128), none⟩]
theorem F_dyn_table_wholer14_g8 {env : Env} : yieldI F_dyn_table_wholer14 env 8 = bOf (env 115) := rfl
theorem F_dyn_table_wholer14_g14 {env : Env} : yieldI F_dyn_table_wholer14 env 14 = bOf (env 121) := rfl
theorem F_dyn_table_wholer14_g18 {env : Env} : yieldI F_dyn_table_wholer14 env 18 = bOf (env 125) := rfl
theorem F_dyn_table_wholer14_W {T : Tab} {env : Env} {H : Heap} {Q : Post} : W T (.dreg F_dyn_table_wholer14 [(4, 7)]) env H Q ↔ WR T F_dyn_table_wholer14 [
  ⟨some 107, .mv (.t 1), none⟩,
  ⟨some 108, .nilc (.t 107), none⟩,
  ⟨some 109, .fa 23 (.t 108), none⟩,
  ⟨some 110, .fa 0 (.t 109), none⟩,
  ⟨some 111, .load (.t 110), none⟩,
  ⟨some 112, .mv (.t 0), none⟩,
  ⟨some 113, .call 58 [(.t 112), (.c (.int .u64 20))], none⟩,
  ⟨some 114, .eqb true (.t 111) (.t 113), none⟩,
  ⟨some 115, .mv (.t 114), none⟩,
  ⟨some 116, .mv (.t 1), some (8, false)⟩,
  ⟨some 117, .nilc (.t 116), some (8, false)⟩,
  ⟨some 118, .fa 23 (.t 117), some (8, false)⟩,
  ⟨some 119, .fa 0 (.t 118), some (8, false)⟩,
  ⟨some 120, .load (.t 119), some (8, false)⟩,
  ⟨some 121, .mv (.t 120), some (8, false)⟩,
  ⟨some 122, .mv (.t 9), some (14, true)⟩,
  ⟨some 123, .bin .neq (.t 122) (.c (.int .u64 7)), some (14, true)⟩,
  ⟨some 124, .pick (.t 121) (.t 123) (.c (.bool false)), some (8, false)⟩,
  ⟨some 125, .mv (.t 124), some (8, false)⟩,
  ⟨some 126, .mv (.t 9), some (18, true)⟩,
  ⟨some 127, .bin .neq (.t 126) (.c (.int .u64 17)), some (18, true)⟩,
  ⟨some 128, .pick (.t 125) (.t 127) (.c (.bool false)), some (8, false)⟩,
  ⟨some 129, .pick (.t 115) (.c (.bool true)) (.t 128), none⟩] env H (some []) [(4, 7)] Q := w_dreg
theorem F_dyn_table_wholer14_len : F_dyn_table_wholer14.length = 23 := rfl
theorem F_dyn_table_wholer14_i4 : F_dyn_table_wholer14[4]? = some ⟨some 111, .load (.t 110), none⟩ := rfl
def F_dyn_table_wholer15 : List IStmt := [
  ⟨some 4, .mv (.c (.bool false)), none⟩]
theorem F_dyn_table_wholer15_W {T : Tab} {env : Env} {H : Heap} {Q : Post} : W T (.reg F_dyn_table_wholer15) env H Q ↔ WR T F_dyn_table_wholer15 [
  ⟨some 4, .mv (.c (.bool false)), none⟩] env H none [] Q := w_reg
def F_dyn_table_wholer16 : List IStmt := [
  ⟨some 130, .mv (.t 1), none⟩,
  ⟨some 131, .mv (.t 1), none⟩,
  ⟨some 132, .nilc (.t 131), none⟩,
  ⟨some 133, .fa 23 (.t 132), none⟩,
  ⟨some 134, .fa 0 (.t 133), none⟩,
  ⟨some 135, .load (.t 134), none⟩,
  ⟨some 136, .mv (.t 135), none⟩,
  ⟨some 137, .mv (.t 9), some (6, true)⟩,
  ⟨some 138, .bin .eql (.t 137) (.c (.int .u64 7)), some (6, true)⟩,
  ⟨some 139, .pick (.t 136) (.t 138) (.c (.bool false)), none⟩,
  ⟨some 140, .nilc (.t 130), none⟩,
  ⟨some 141, .fa 32 (.t 140), none⟩,
  ⟨none, .store 1 (.t 141) (.t 139), none⟩]
theorem F_dyn_table_wholer16_W {T : Tab} {env : Env} {H : Heap} {Q : Post} : W T (.reg F_dyn_table_wholer16) env H Q ↔ WR T F_dyn_table_wholer16 [
  ⟨some 130, .mv (.t 1), none⟩,
  ⟨some 131, .mv (.t 1), none⟩,
  ⟨some 132, .nilc (.t 131), none⟩,
  ⟨some 133, .fa 23 (.t 132), none⟩,
  ⟨some 134, .fa 0 (.t 133), none⟩,
  ⟨some 135, .load (.t 134), none⟩,
  ⟨some 136, .mv (.t 135), none⟩,
  ⟨some 137, .mv (.t 9), some (6, true)⟩,
  ⟨some 138, .bin .eql (.t 137) (.c (.int .u64 7)), some (6, true)⟩,
  ⟨some 139, .pick (.t 136) (.t 138) (.c (.bool false)), none⟩,
  ⟨some 140, .nilc (.t 130), none⟩,
  ⟨some 141, .fa 32 (.t 140), none⟩,
  ⟨none, .store 1 (.t 141) (.t 139), none⟩] env H none [] Q := w_reg
theorem F_dyn_table_wholer16_g6 {env : Env} : yieldI F_dyn_table_wholer16 env 6 = bOf (env 136) := rfl
def F_dyn_table_wholer17 : List IStmt := [
  ⟨some 142, .mv (.t 0), none⟩,
  ⟨some 143, .call 58 [(.t 142), (.c (.int .u64 1879048188))], none⟩,
  ⟨some 144, .mv (.t 0), none⟩,
  ⟨some 145, .call 58 [(.t 144), (.c (.int .u64 1879048189))], none⟩,
  ⟨some 146, .eqb true (.t 143) (.t 145), none⟩,
  ⟨some 147, .mv (.t 146), none⟩,
  ⟨some 148, .mv (.t 0), some (5, false)⟩,
  ⟨some 149, .call 58 [(.t 148), (.c (.int .u64 1879048190))], some (5, false)⟩,
  ⟨some 150, .mv (.t 0), some (5, false)⟩,
  ⟨some 151, .call 58 [(.t 150), (.c (.int .u64 1879048191))], some (5, false)⟩,
  ⟨some 152, .eqb true (.t 149) (.t 151), some (5, false)⟩,
  ⟨some 153, .pick (.t 147) (.c (.bool true)) (.t 152), none⟩]
theorem F_dyn_table_wholer17_W {T : Tab} {env : Env} {H : Heap} {Q : Post} : W T (.reg F_dyn_table_wholer17) env H Q ↔ WR T F_dyn_table_wholer17 [
  ⟨some 142, .mv (.t 0), none⟩,
  ⟨some 143, .call 58 [(.t 142), (.c (.int .u64 1879048188))], none⟩,
  ⟨some 144, .mv (.t 0), none⟩,
  ⟨some 145, .call 58 [(.t 144), (.c (.int .u64 1879048189))], none⟩,
  ⟨some 146, .eqb true (.t 143) (.t 145), none⟩,
  ⟨some 147, .mv (.t 146), none⟩,
  ⟨some 148, .mv (.t 0), some (5, false)⟩,
  ⟨some 149, .call 58 [(.t 148), (.c (.int .u64 1879048190))], some (5, false)⟩,
  ⟨some 150, .mv (.t 0), some (5, false)⟩,
  ⟨some 151, .call 58 [(.t 150), (.c (.int .u64 1879048191))], some (5, false)⟩,
  ⟨some 152, .eqb true (.t 149) (.t 151), some (5, false)⟩,
  ⟨some 153, .pick (.t 147) (.c (.bool true)) (.t 152), none⟩] env H none [] Q := w_reg
theorem F_dyn_table_wholer17_g5 {env : Env} : yieldI F_dyn_table_wholer17 env 5 = bOf (env 147) := rfl
def F_dyn_table_wholer18 : List IStmt := [
  ⟨some 4, .mv (.c (.bool false)), none⟩]
theorem F_dyn_table_wholer18_W {T : Tab} {env : Env} {H : Heap} {Q : Post} : W T (.reg F_dyn_table_wholer18) env H Q ↔ WR T F_dyn_table_wholer18 [
  ⟨some 4, .mv (.c (.bool false)), none⟩] env H none [] Q := w_reg
def F_dyn_table_wholer19 : List IStmt := [
  ⟨some 154, .mv (.t 0), none⟩,
  ⟨some 155, .call 68 [(.t 154), (.c (.int .u64 11)), (.c (.int .u64 24))], none⟩,
  ⟨some 156, .mv (.t 155), none⟩,
  ⟨some 157, .mv (.t 0), some (2, true)⟩,
  ⟨some 158, .call 68 [(.t 157), (.c (.int .u64 9)), (.c (.int .u64 24))], some (2, true)⟩,
  ⟨some 159, .pick (.t 156) (.t 158) (.c (.bool false)), none⟩,
  ⟨some 160, .mv (.t 159), none⟩,
  ⟨some 161, .mv (.t 0), some (6, true)⟩,
  ⟨some 162, .call 68 [(.t 161), (.c (.int .u64 19)), (.c (.int .u64 16))], some (6, true)⟩,
  ⟨some 163, .pick (.t 160) (.t 162) (.c (.bool false)), none⟩,
  ⟨some 164, .mv (.t 163), none⟩,
  ⟨some 165, .mv (.t 0), some (10, true)⟩,
  ⟨some 166, .call 68 [(.t 165), (.c (.int .u64 37)), (.c (.int .u64 8))], some (10, true)⟩,
  ⟨some 167, .pick (.t 164) (.t 166) (.c (.bool false)), none⟩,
  ⟨some 4, .mv (.t 167), none⟩]
theorem F_dyn_table_wholer19_W {T : Tab} {env : Env} {H : Heap} {Q : Post} : W T (.reg F_dyn_table_wholer19) env H Q ↔ WR T F_dyn_table_wholer19 [
  ⟨some 154, .mv (.t 0), none⟩,
  ⟨some 155, .call 68 [(.t 154), (.c (.int .u64 11)), (.c (.int .u64 24))], none⟩,
  ⟨some 156, .mv (.t 155), none⟩,
  ⟨some 157, .mv (.t 0), some (2, true)⟩,
  ⟨some 158, .call 68 [(.t 157), (.c (.int .u64 9)), (.c (.int .u64 24))], some (2, true)⟩,
  ⟨some 159, .pick (.t 156) (.t 158) (.c (.bool false)), none⟩,
  ⟨some 160, .mv (.t 159), none⟩,
  ⟨some 161, .mv (.t 0), some (6, true)⟩,
  ⟨some 162, .call 68 [(.t 161), (.c (.int .u64 19)), (.c (.int .u64 16))], some (6, true)⟩,
  ⟨some 163, .pick (.t 160) (.t 162) (.c (.bool false)), none⟩,
  ⟨some 164, .mv (.t 163), none⟩,
  ⟨some 165, .mv (.t 0), some (10, true)⟩,
  ⟨some 166, .call 68 [(.t 165), (.c (.int .u64 37)), (.c (.int .u64 8))], some (10, true)⟩,
  ⟨some 167, .pick (.t 164) (.t 166) (.c (.bool false)), none⟩,
  ⟨some 4, .mv (.t 167), none⟩] env H none [] Q := w_reg
theorem F_dyn_table_wholer19_g2 {env : Env} : yieldI F_dyn_table_wholer19 env 2 = bOf (env 156) := rfl
theorem F_dyn_table_wholer19_g6 {env : Env} : yieldI F_dyn_table_wholer19 env 6 = bOf (env 160) := rfl
theorem F_dyn_table_wholer19_g10 {env : Env} : yieldI F_dyn_table_wholer19 env 10 = bOf (env 164) := rfl
def F_dyn_table_wholec : ICode := (.seq (.reg F_dyn_table_wholer0) (.seq (.reg F_dyn_table_wholer1) (.seq (.seq (.dreg F_dyn_table_wholer2 []) (.block 0 (.loop F_dyn_table_wholel0))) (.seq (.seq (.reg F_dyn_table_wholer8) (.cond (.t 86) (.seq (.reg F_dyn_table_wholer9) .ret) .skip)) (.seq (.reg F_dyn_table_wholer10) (.seq (.seq (.reg F_dyn_table_wholer11) (.cond (.t 97) (.reg F_dyn_table_wholer12) .skip)) (.seq (.reg F_dyn_table_wholer13) (.seq (.seq (.dreg F_dyn_table_wholer14 [(4, 7)]) (.cond (.t 129) (.seq (.reg F_dyn_table_wholer15) .ret) .skip)) (.seq (.reg F_dyn_table_wholer16) (.seq (.seq (.reg F_dyn_table_wholer17) (.cond (.t 153) (.seq (.reg F_dyn_table_wholer18) .ret) .skip)) (.seq (.reg F_dyn_table_wholer19) .ret)))))))))))
theorem F_dyn_table_wholec_W {T : Tab} {env : Env} {H : Heap} {Q : Post} : W T F_dyn_table_wholec env H Q ↔ W T (.seq (.reg F_dyn_table_wholer0) (.seq (.reg F_dyn_table_wholer1) (.seq (.seq (.dreg F_dyn_table_wholer2 []) (.block 0 (.loop F_dyn_table_wholel0))) (.seq (.seq (.reg F_dyn_table_wholer8) (.cond (.t 86) (.seq (.reg F_dyn_table_wholer9) .ret) .skip)) (.seq (.reg F_dyn_table_wholer10) (.seq (.seq (.reg F_dyn_table_wholer11) (.cond (.t 97) (.reg F_dyn_table_wholer12) .skip)) (.seq (.reg F_dyn_table_wholer13) (.seq (.seq (.dreg F_dyn_table_wholer14 [(4, 7)]) (.cond (.t 129) (.seq (.reg F_dyn_table_wholer15) .ret) .skip)) (.seq (.reg F_dyn_table_wholer16) (.seq (.seq (.reg F_dyn_table_wholer17) (.cond (.t 153) (.seq (.reg F_dyn_table_wholer18) .ret) .skip)) (.seq (.reg F_dyn_table_wholer19) .ret))))))))))) env H Q := Iff.rfl
def F_dyn_table_whole : IFn := ⟨168, [.tmp 4], F_dyn_table_wholec⟩
set_option maxRecDepth 1000000 in
theorem F_dyn_table_whole_chk : chkF Try.prog 57 F_dyn_table_whole = true := by kernel_rfl

/-! ### dyn_table_texts -/
def F_dyn_table_textsr0 : List IStmt := [
  ⟨some 6, .box 16 (.t 2), none⟩,
  ⟨some 8, .mv (.c (.int .i64 0)), none⟩]
theorem F_dyn_table_textsr0_W {T : Tab} {env : Env} {H : Heap} {Q : Post} : W T (.reg F_dyn_table_textsr0) env H Q ↔ WR T F_dyn_table_textsr0 [
  ⟨some 6, .box 16 (.t 2), none⟩,
  ⟨some 8, .mv (.c (.int .i64 0)), none⟩] env H none [] Q := w_reg
def F_dyn_table_textsr1 : List IStmt := [
  ⟨some 20, .mv (.t 1), none⟩,
  ⟨some 21, .loadN 16 (.t 6), none⟩,
  ⟨some 22, .mv (.t 3), none⟩,
  ⟨some 23, .nilc (.t 22), none⟩,
  ⟨some 24, .loadN 40 (.t 23), none⟩,
  ⟨some 25, .callc 69 [(.t 20), (.t 21), (.t 24)], none⟩,
  ⟨some 19, .mv (.t 25), none⟩,
  ⟨some 26, .ext (.t 19) 0, none⟩,
  ⟨some 27, .ext (.t 19) 1, none⟩,
  ⟨some 9, .mv (.t 26), none⟩,
  ⟨some 10, .mv (.t 27), none⟩]
theorem F_dyn_table_textsr1_W {T : Tab} {env : Env} {H : Heap} {Q : Post} : W T (.dreg F_dyn_table_textsr1 []) env H Q ↔ WR T F_dyn_table_textsr1 [
  ⟨some 20, .mv (.t 1), none⟩,
  ⟨some 21, .loadN 16 (.t 6), none⟩,
  ⟨some 22, .mv (.t 3), none⟩,
  ⟨some 23, .nilc (.t 22), none⟩,
  ⟨some 24, .loadN 40 (.t 23), none⟩,
  ⟨some 25, .callc 69 [(.t 20), (.t 21), (.t 24)], none⟩,
  ⟨some 19, .mv (.t 25), none⟩,
  ⟨some 26, .ext (.t 19) 0, none⟩,
  ⟨some 27, .ext (.t 19) 1, none⟩,
  ⟨some 9, .mv (.t 26), none⟩,
  ⟨some 10, .mv (.t 27), none⟩] env H none [] Q := w_dreg0
def F_dyn_table_textsr2 : List IStmt := [
  ⟨some 28, .mv (.t 10), none⟩,
  ⟨some 29, .un .not (.t 28), none⟩]
theorem F_dyn_table_textsr2_W {T : Tab} {env : Env} {H : Heap} {Q : Post} : W T (.reg F_dyn_table_textsr2) env H Q ↔ WR T F_dyn_table_textsr2 [
  ⟨some 28, .mv (.t 10), none⟩,
  ⟨some 29, .un .not (.t 28), none⟩] env H none [] Q := w_reg
def F_dyn_table_textsr3 : List IStmt := [
  ⟨some 8, .mv (.c (.int .i64 91)), none⟩]
theorem F_dyn_table_textsr3_W {T : Tab} {env : Env} {H : Heap} {Q : Post} : W T (.reg F_dyn_table_textsr3) env H Q ↔ WR T F_dyn_table_textsr3 [
  ⟨some 8, .mv (.c (.int .i64 91)), none⟩] env H none [] Q := w_reg
def F_dyn_table_textsr4 : List IStmt := [
  ⟨some 30, .mv (.t 3), none⟩,
  ⟨some 31, .nilc (.t 30), none⟩,
  ⟨some 32, .fa 0 (.t 31), none⟩,
  ⟨some 33, .bld [.int .u64 0, .pointer none] [(0, 1, (.c (.int .u64 14))), (1, 1, (.t 32))], none⟩,
  ⟨some 34, .mv (.t 3), none⟩,
  ⟨some 35, .nilc (.t 34), none⟩,
  ⟨some 36, .fa 1 (.t 35), none⟩,
  ⟨some 37, .bld [.int .u64 0, .pointer none] [(0, 1, (.c (.int .u64 29))), (1, 1, (.t 36))], none⟩,
  ⟨some 38, .bsli 2 2 [.int .u64 0, .pointer none] [(0, (.t 33)), (1, (.t 37))], none⟩,
  ⟨some 39, .len 1 (.t 38), none⟩,
  ⟨some 40, .mv (.c (.int .i64 0)), none⟩]
theorem F_dyn_table_textsr4_W {T : Tab} {env : Env} {H : Heap} {Q : Post} : W T (.dreg F_dyn_table_textsr4 []) env H Q ↔ WR T F_dyn_table_textsr4 [
  ⟨some 30, .mv (.t 3), none⟩,
  ⟨some 31, .nilc (.t 30), none⟩,
  ⟨some 32, .fa 0 (.t 31), none⟩,
  ⟨some 33, .bld [.int .u64 0, .pointer none] [(0, 1, (.c (.int .u64 14))), (1, 1, (.t 32))], none⟩,
  ⟨some 34, .mv (.t 3), none⟩,
  ⟨some 35, .nilc (.t 34), none⟩,
  ⟨some 36, .fa 1 (.t 35), none⟩,
  ⟨some 37, .bld [.int .u64 0, .pointer none] [(0, 1, (.c (.int .u64 29))), (1, 1, (.t 36))], none⟩,
  ⟨some 38, .bsli 2 2 [.int .u64 0, .pointer none] [(0, (.t 33)), (1, (.t 37))], none⟩,
  ⟨some 39, .len 1 (.t 38), none⟩,
  ⟨some 40, .mv (.c (.int .i64 0)), none⟩] env H none [] Q := w_dreg0
def F_dyn_table_textsr5 : List IStmt := [
  ⟨some 41, .bin .lss (.t 40) (.t 39), none⟩]
theorem F_dyn_table_textsr5_W {T : Tab} {env : Env} {H : Heap} {Q : Post} : W T (.reg F_dyn_table_textsr5) env H Q ↔ WR T F_dyn_table_textsr5 [
  ⟨some 41, .bin .lss (.t 40) (.t 39), none⟩] env H none [] Q := w_reg
def F_dyn_table_textsr6 : List IStmt := [
  ⟨some 42, .ixa 2 (.t 38) (.t 40), none⟩,
  ⟨some 43, .loadN 2 (.t 42), none⟩,
  ⟨some 12, .alloc 2 [.int .u64 0, .pointer none], none⟩,
  ⟨none, .store 2 (.t 12) (.t 43), none⟩]
theorem F_dyn_table_textsr6_W {T : Tab} {env : Env} {H : Heap} {Q : Post} : W T (.reg F_dyn_table_textsr6) env H Q ↔ WR T F_dyn_table_textsr6 [
  ⟨some 42, .ixa 2 (.t 38) (.t 40), none⟩,
  ⟨some 43, .loadN 2 (.t 42), none⟩,
  ⟨some 12, .alloc 2 [.int .u64 0, .pointer none], none⟩,
  ⟨none, .store 2 (.t 12) (.t 43), none⟩] env H none [] Q := w_reg
def F_dyn_table_textsr7 : List IStmt := [
  ⟨some 44, .mv (.t 0), none⟩,
  ⟨some 45, .fa 0 (.t 12), none⟩,
  ⟨some 46, .load (.t 45), none⟩,
  ⟨some 47, .call 58 [(.t 44), (.t 46)], none⟩,
  ⟨some 48, .un .not (.t 47), none⟩]
theorem F_dyn_table_textsr7_W {T : Tab} {env : Env} {H : Heap} {Q : Post} : W T (.reg F_dyn_table_textsr7) env H Q ↔ WR T F_dyn_table_textsr7 [
  ⟨some 44, .mv (.t 0), none⟩,
  ⟨some 45, .fa 0 (.t 12), none⟩,
  ⟨some 46, .load (.t 45), none⟩,
  ⟨some 47, .call 58 [(.t 44), (.t 46)], none⟩,
  ⟨some 48, .un .not (.t 47), none⟩] env H none [] Q := w_reg
def F_dyn_table_textsr8 : List IStmt := [
  ⟨some 50, .mv (.t 9), none⟩,
  ⟨some 51, .mv (.t 0), none⟩,
  ⟨some 52, .nilc (.t 51), none⟩,
  ⟨some 53, .fa 0 (.t 52), none⟩,
  ⟨some 54, .load (.t 53), none⟩,
  ⟨some 55, .fa 0 (.t 12), none⟩,
  ⟨some 56, .load (.t 55), none⟩,
  ⟨some 57, .lku 0 false false [.int .u64 0] (.t 54) (.t 56), none⟩,
  ⟨some 58, .callc 70 [(.t 50), (.t 57)], none⟩,
  ⟨some 49, .mv (.t 58), none⟩,
  ⟨some 59, .ext (.t 49) 0, none⟩,
  ⟨some 60, .ext (.t 49) 1, none⟩,
  ⟨some 13, .mv (.t 59), none⟩,
  ⟨some 14, .mv (.t 60), none⟩]
theorem F_dyn_table_textsr8_W {T : Tab} {env : Env} {H : Heap} {Q : Post} : W T (.dreg F_dyn_table_textsr8 []) env H Q ↔ WR T F_dyn_table_textsr8 [
  ⟨some 50, .mv (.t 9), none⟩,
  ⟨some 51, .mv (.t 0), none⟩,
  ⟨some 52, .nilc (.t 51), none⟩,
  ⟨some 53, .fa 0 (.t 52), none⟩,
  ⟨some 54, .load (.t 53), none⟩,
  ⟨some 55, .fa 0 (.t 12), none⟩,
  ⟨some 56, .load (.t 55), none⟩,
  ⟨some 57, .lku 0 false false [.int .u64 0] (.t 54) (.t 56), none⟩,
  ⟨some 58, .callc 70 [(.t 50), (.t 57)], none⟩,
  ⟨some 49, .mv (.t 58), none⟩,
  ⟨some 59, .ext (.t 49) 0, none⟩,
  ⟨some 60, .ext (.t 49) 1, none⟩,
  ⟨some 13, .mv (.t 59), none⟩,
  ⟨some 14, .mv (.t 60), none⟩] env H none [] Q := w_dreg0
def F_dyn_table_textsr9 : List IStmt := [
  ⟨some 61, .mv (.t 14), none⟩,
  ⟨some 62, .bin .neq (.t 61) (.c (.int .i64 0)), none⟩]
theorem F_dyn_table_textsr9_W {T : Tab} {env : Env} {H : Heap} {Q : Post} : W T (.reg F_dyn_table_textsr9) env H Q ↔ WR T F_dyn_table_textsr9 [
  ⟨some 61, .mv (.t 14), none⟩,
  ⟨some 62, .bin .neq (.t 61) (.c (.int .i64 0)), none⟩] env H none [] Q := w_reg
def F_dyn_table_textsr10 : List IStmt := [
  ⟨some 8, .mv (.c (.int .i64 91)), none⟩]
theorem F_dyn_table_textsr10_W {T : Tab} {env : Env} {H : Heap} {Q : Post} : W T (.reg F_dyn_table_textsr10) env H Q ↔ WR T F_dyn_table_textsr10 [
  ⟨some 8, .mv (.c (.int .i64 91)), none⟩] env H none [] Q := w_reg
def F_dyn_table_textsr11 : List IStmt := [
  ⟨some 63, .fa 1 (.t 12), none⟩,
  ⟨some 64, .load (.t 63), none⟩,
  ⟨some 65, .mv (.t 13), none⟩,
  ⟨some 66, .nilc (.t 64), none⟩,
  ⟨none, .store 1 (.t 66) (.t 65), none⟩]
theorem F_dyn_table_textsr11_W {T : Tab} {env : Env} {H : Heap} {Q : Post} : W T (.reg F_dyn_table_textsr11) env H Q ↔ WR T F_dyn_table_textsr11 [
  ⟨some 63, .fa 1 (.t 12), none⟩,
  ⟨some 64, .load (.t 63), none⟩,
  ⟨some 65, .mv (.t 13), none⟩,
  ⟨some 66, .nilc (.t 64), none⟩,
  ⟨none, .store 1 (.t 66) (.t 65), none⟩] env H none [] Q := w_reg
def F_dyn_table_textsr12 : List IStmt := [
  ⟨some 67, .bin .add (.t 40) (.c (.int .i64 1)), none⟩,
  ⟨some 40, .mv (.t 67), none⟩]
theorem F_dyn_table_textsr12_W {T : Tab} {env : Env} {H : Heap} {Q : Post} : W T (.reg F_dyn_table_textsr12) env H Q ↔ WR T F_dyn_table_textsr12 [
  ⟨some 67, .bin .add (.t 40) (.c (.int .i64 1)), none⟩,
  ⟨some 40, .mv (.t 67), none⟩] env H none [] Q := w_reg
def F_dyn_table_textsl0 : ICode := (.seq (.reg F_dyn_table_textsr5) (.seq (.cond (.t 41) .skip (.exit 0)) (.seq (.block 1 (.seq (.reg F_dyn_table_textsr6) (.seq (.seq (.reg F_dyn_table_textsr7) (.cond (.t 48) (.exit 1) .skip)) (.seq (.dreg F_dyn_table_textsr8 []) (.seq (.seq (.reg F_dyn_table_textsr9) (.cond (.t 62) (.seq (.reg F_dyn_table_textsr10) .ret) .skip)) (.reg F_dyn_table_textsr11)))))) (.reg F_dyn_table_textsr12))))
theorem F_dyn_table_textsl0_W {T : Tab} {env : Env} {H : Heap} {Q : Post} : W T F_dyn_table_textsl0 env H Q ↔ W T (.seq (.reg F_dyn_table_textsr5) (.seq (.cond (.t 41) .skip (.exit 0)) (.seq (.block 1 (.seq (.reg F_dyn_table_textsr6) (.seq (.seq (.reg F_dyn_table_textsr7) (.cond (.t 48) (.exit 1) .skip)) (.seq (.dreg F_dyn_table_textsr8 []) (.seq (.seq (.reg F_dyn_table_textsr9) (.cond (.t 62) (.seq (.reg F_dyn_table_textsr10) .ret) .skip)) (.reg F_dyn_table_textsr11)))))) (.reg F_dyn_table_textsr12)))) env H Q := Iff.rfl
def F_dyn_table_textsr13 : List IStmt := [
  ⟨some 68, .mv (.t 0), none⟩,
  ⟨some 69, .nilc (.t 68), none⟩,
  ⟨some 70, .fa 1 (.t 69), none⟩,
  ⟨some 71, .load (.t 70), none⟩,
  ⟨some 72, .len 1 (.t 71), none⟩,
  ⟨some 73, .bin .gtr (.t 72) (.c (.int .i64 16)), none⟩]
theorem F_dyn_table_textsr13_W {T : Tab} {env : Env} {H : Heap} {Q : Post} : W T (.reg F_dyn_table_textsr13) env H Q ↔ WR T F_dyn_table_textsr13 [
  ⟨some 68, .mv (.t 0), none⟩,
  ⟨some 69, .nilc (.t 68), none⟩,
  ⟨some 70, .fa 1 (.t 69), none⟩,
  ⟨some 71, .load (.t 70), none⟩,
  ⟨some 72, .len 1 (.t 71), none⟩,
  ⟨some 73, .bin .gtr (.t 72) (.c (.int .i64 16)), none⟩] env H none [] Q := w_reg
def F_dyn_table_textsr14 : List IStmt := [
  ⟨some 8, .mv (.c (.int .i64 92)), none⟩]
theorem F_dyn_table_textsr14_W {T : Tab} {env : Env} {H : Heap} {Q : Post} : W T (.reg F_dyn_table_textsr14) env H Q ↔ WR T F_dyn_table_textsr14 [
  ⟨some 8, .mv (.c (.int .i64 92)), none⟩] env H none [] Q := w_reg
def F_dyn_table_textsr15 : List IStmt := [
  ⟨some 74, .mv (.t 0), none⟩,
  ⟨some 75, .nilc (.t 74), none⟩,
  ⟨some 76, .fa 1 (.t 75), none⟩,
  ⟨some 77, .load (.t 76), none⟩,
  ⟨some 78, .len 1 (.t 77), none⟩,
  ⟨some 79, .mv (.c (.int .i64 0)), none⟩]
theorem F_dyn_table_textsr15_W {T : Tab} {env : Env} {H : Heap} {Q : Post} : W T (.reg F_dyn_table_textsr15) env H Q ↔ WR T F_dyn_table_textsr15 [
  ⟨some 74, .mv (.t 0), none⟩,
  ⟨some 75, .nilc (.t 74), none⟩,
  ⟨some 76, .fa 1 (.t 75), none⟩,
  ⟨some 77, .load (.t 76), none⟩,
  ⟨some 78, .len 1 (.t 77), none⟩,
  ⟨some 79, .mv (.c (.int .i64 0)), none⟩] env H none [] Q := w_reg
def F_dyn_table_textsr16 : List IStmt := [
  ⟨some 80, .bin .lss (.t 79) (.t 78), none⟩]
theorem F_dyn_table_textsr16_W {T : Tab} {env : Env} {H : Heap} {Q : Post} : W T (.reg F_dyn_table_textsr16) env H Q ↔ WR T F_dyn_table_textsr16 [
  ⟨some 80, .bin .lss (.t 79) (.t 78), none⟩] env H none [] Q := w_reg
def F_dyn_table_textsr17 : List IStmt := [
  ⟨some 81, .ixa 1 (.t 77) (.t 79), none⟩,
  ⟨some 82, .load (.t 81), none⟩,
  ⟨some 16, .mv (.t 82), none⟩]
theorem F_dyn_table_textsr17_W {T : Tab} {env : Env} {H : Heap} {Q : Post} : W T (.reg F_dyn_table_textsr17) env H Q ↔ WR T F_dyn_table_textsr17 [
  ⟨some 81, .ixa 1 (.t 77) (.t 79), none⟩,
  ⟨some 82, .load (.t 81), none⟩,
  ⟨some 16, .mv (.t 82), none⟩] env H none [] Q := w_reg
def F_dyn_table_textsr18 : List IStmt := [
  ⟨some 84, .mv (.t 9), none⟩,
  ⟨some 85, .mv (.t 16), none⟩,
  ⟨some 86, .callc 70 [(.t 84), (.t 85)], none⟩,
  ⟨some 83, .mv (.t 86), none⟩,
  ⟨some 87, .ext (.t 83) 0, none⟩,
  ⟨some 88, .ext (.t 83) 1, none⟩,
  ⟨some 17, .mv (.t 87), none⟩,
  ⟨some 18, .mv (.t 88), none⟩]
theorem F_dyn_table_textsr18_W {T : Tab} {env : Env} {H : Heap} {Q : Post} : W T (.reg F_dyn_table_textsr18) env H Q ↔ WR T F_dyn_table_textsr18 [
  ⟨some 84, .mv (.t 9), none⟩,
  ⟨some 85, .mv (.t 16), none⟩,
  ⟨some 86, .callc 70 [(.t 84), (.t 85)], none⟩,
  ⟨some 83, .mv (.t 86), none⟩,
  ⟨some 87, .ext (.t 83) 0, none⟩,
  ⟨some 88, .ext (.t 83) 1, none⟩,
  ⟨some 17, .mv (.t 87), none⟩,
  ⟨some 18, .mv (.t 88), none⟩] env H none [] Q := w_reg
def F_dyn_table_textsr19 : List IStmt := [
  ⟨some 89, .mv (.t 18), none⟩,
  ⟨some 90, .bin .neq (.t 89) (.c (.int .i64 0)), none⟩]
theorem F_dyn_table_textsr19_W {T : Tab} {env : Env} {H : Heap} {Q : Post} : W T (.reg F_dyn_table_textsr19) env H Q ↔ WR T F_dyn_table_textsr19 [
  ⟨some 89, .mv (.t 18), none⟩,
  ⟨some 90, .bin .neq (.t 89) (.c (.int .i64 0)), none⟩] env H none [] Q := w_reg
def F_dyn_table_textsr20 : List IStmt := [
  ⟨some 8, .mv (.c (.int .i64 91)), none⟩]
theorem F_dyn_table_textsr20_W {T : Tab} {env : Env} {H : Heap} {Q : Post} : W T (.reg F_dyn_table_textsr20) env H Q ↔ WR T F_dyn_table_textsr20 [
  ⟨some 8, .mv (.c (.int .i64 91)), none⟩] env H none [] Q := w_reg
def F_dyn_table_textsr21 : List IStmt := [
  ⟨some 91, .mv (.t 17), none⟩,
  ⟨some 92, .bin .eql (.t 91) (.c (.string ⟨#[]⟩)), none⟩]
theorem F_dyn_table_textsr21_W {T : Tab} {env : Env} {H : Heap} {Q : Post} : W T (.reg F_dyn_table_textsr21) env H Q ↔ WR T F_dyn_table_textsr21 [
  ⟨some 91, .mv (.t 17), none⟩,
  ⟨some 92, .bin .eql (.t 91) (.c (.string ⟨#[]⟩)), none⟩] env H none [] Q := w_reg
def F_dyn_table_textsr22 : List IStmt := [
  ⟨some 8, .mv (.c (.int .i64 92)), none⟩]
theorem F_dyn_table_textsr22_W {T : Tab} {env : Env} {H : Heap} {Q : Post} : W T (.reg F_dyn_table_textsr22) env H Q ↔ WR T F_dyn_table_textsr22 [
  ⟨some 8, .mv (.c (.int .i64 92)), none⟩] env H none [] Q := w_reg
def F_dyn_table_textsr23 : List IStmt := [
  ⟨some 93, .mv (.t 3), none⟩,
  ⟨some 94, .mv (.t 3), none⟩,
  ⟨some 95, .nilc (.t 94), none⟩,
  ⟨some 96, .fa 2 (.t 95), none⟩,
  ⟨some 97, .load (.t 96), none⟩,
  ⟨some 98, .mv (.t 17), none⟩,
  ⟨some 99, .bsli 1 1 [.string ⟨#[]⟩] [(0, (.t 98))], none⟩,
  ⟨some 100, .app 1 16 (.t 97) (.t 99), none⟩,
  ⟨some 101, .nilc (.t 93), none⟩,
  ⟨some 102, .fa 2 (.t 101), none⟩,
  ⟨none, .store 1 (.t 102) (.t 100), none⟩]
theorem F_dyn_table_textsr23_W {T : Tab} {env : Env} {H : Heap} {Q : Post} : W T (.reg F_dyn_table_textsr23) env H Q ↔ WR T F_dyn_table_textsr23 [
  ⟨some 93, .mv (.t 3), none⟩,
  ⟨some 94, .mv (.t 3), none⟩,
  ⟨some 95, .nilc (.t 94), none⟩,
  ⟨some 96, .fa 2 (.t 95), none⟩,
  ⟨some 97, .load (.t 96), none⟩,
  ⟨some 98, .mv (.t 17), none⟩,
  ⟨some 99, .bsli 1 1 [.string ⟨#[]⟩] [(0, (.t 98))], none⟩,
  ⟨some 100, .app 1 16 (.t 97) (.t 99), none⟩,
  ⟨some 101, .nilc (.t 93), none⟩,
  ⟨some 102, .fa 2 (.t 101), none⟩,
  ⟨none, .store 1 (.t 102) (.t 100), none⟩] env H none [] Q := w_reg
def F_dyn_table_textsr24 : List IStmt := [
  ⟨some 103, .bin .add (.t 79) (.c (.int .i64 1)), none⟩,
  ⟨some 79, .mv (.t 103), none⟩]
theorem F_dyn_table_textsr24_W {T : Tab} {env : Env} {H : Heap} {Q : Post} : W T (.reg F_dyn_table_textsr24) env H Q ↔ WR T F_dyn_table_textsr24 [
  ⟨some 103, .bin .add (.t 79) (.c (.int .i64 1)), none⟩,
  ⟨some 79, .mv (.t 103), none⟩] env H none [] Q := w_reg
def F_dyn_table_textsl1 : ICode := (.seq (.reg F_dyn_table_textsr16) (.seq (.cond (.t 80) .skip (.exit 2)) (.seq (.block 3 (.seq (.reg F_dyn_table_textsr17) (.seq (.reg F_dyn_table_textsr18) (.seq (.seq (.reg F_dyn_table_textsr19) (.cond (.t 90) (.seq (.reg F_dyn_table_textsr20) .ret) .skip)) (.seq (.seq (.reg F_dyn_table_textsr21) (.cond (.t 92) (.seq (.reg F_dyn_table_textsr22) .ret) .skip)) (.reg F_dyn_table_textsr23)))))) (.reg F_dyn_table_textsr24))))
theorem F_dyn_table_textsl1_W {T : Tab} {env : Env} {H : Heap} {Q : Post} : W T F_dyn_table_textsl1 env H Q ↔ W T (.seq (.reg F_dyn_table_textsr16) (.seq (.cond (.t 80) .skip (.exit 2)) (.seq (.block 3 (.seq (.reg F_dyn_table_textsr17) (.seq (.reg F_dyn_table_textsr18) (.seq (.seq (.reg F_dyn_table_textsr19) (.cond (.t 90) (.seq (.reg F_dyn_table_textsr20) .ret) .skip)) (.seq (.seq (.reg F_dyn_table_textsr21) (.cond (.t 92) (.seq (.reg F_dyn_table_textsr22) .ret) .skip)) (.reg F_dyn_table_textsr23)))))) (.reg F_dyn_table_textsr24)))) env H Q := Iff.rfl
def F_dyn_table_textsr25 : List IStmt := [
  ⟨some 8, .mv (.c (.int .i64 0)), none⟩]
theorem F_dyn_table_textsr25_W {T : Tab} {env : Env} {H : Heap} {Q : Post} : W T (.reg F_dyn_table_textsr25) env H Q ↔ WR T F_dyn_table_textsr25 [
  ⟨some 8, .mv (.c (.int .i64 0)), none⟩] env H none [] Q := w_reg
def F_dyn_table_textsc : ICode := (.seq (.reg F_dyn_table_textsr0) (.seq (.dreg F_dyn_table_textsr1 []) (.seq (.seq (.reg F_dyn_table_textsr2) (.cond (.t 29) (.seq (.reg F_dyn_table_textsr3) .ret) .skip)) (.seq (.seq (.dreg F_dyn_table_textsr4 []) (.block 0 (.loop F_dyn_table_textsl0))) (.seq (.seq (.reg F_dyn_table_textsr13) (.cond (.t 73) (.seq (.reg F_dyn_table_textsr14) .ret) .skip)) (.seq (.seq (.reg F_dyn_table_textsr15) (.block 2 (.loop F_dyn_table_textsl1))) (.seq (.reg F_dyn_table_textsr25) .ret)))))))
theorem F_dyn_table_textsc_W {T : Tab} {env : Env} {H : Heap} {Q : Post} : W T F_dyn_table_textsc env H Q ↔ W T (.seq (.reg F_dyn_table_textsr0) (.seq (.dreg F_dyn_table_textsr1 []) (.seq (.seq (.reg F_dyn_table_textsr2) (.cond (.t 29) (.seq (.reg F_dyn_table_textsr3) .ret) .skip)) (.seq (.seq (.dreg F_dyn_table_textsr4 []) (.block 0 (.loop F_dyn_table_textsl0))) (.seq (.seq (.reg F_dyn_table_textsr13) (.cond (.t 73) (.seq (.reg F_dyn_table_textsr14) .ret) .skip)) (.seq (.seq (.reg F_dyn_table_textsr15) (.block 2 (.loop F_dyn_table_textsl1))) (.seq (.reg F_dyn_table_textsr25) .ret))))))) env H Q := Iff.rfl
def F_dyn_table_texts : IFn := ⟨104, [.tmp 8], F_dyn_table_textsc⟩
set_option maxRecDepth 1000000 in
theorem F_dyn_table_texts_chk : chkF Try.prog 59 F_dyn_table_texts = true := by kernel_rfl

/-! ### dyn_Parse -/
def F_dyn_Parser0 : List IStmt := [
  ⟨some 3, .box 16 (.t 1), none⟩,
  ⟨some 4, .alloc 40 [.string ⟨#[]⟩, .string ⟨#[]⟩, .slice none 0 0, .bool false, .bool false, .bool false, .bool false, .int .u64 0, .int .u64 0, .int .u64 0, .int .u64 0, .int .u64 0, .int .u64 0, .int .u64 0, .int .u64 0, .int .u64 0, .int .u64 0, .bool false, .int .u64 0, .int .u64 0, .bool false, .int .u64 0, .int .u64 0, .bool false, .int .u64 0, .int .u64 0, .bool false, .int .u64 0, .int .u64 0, .bool false, .int .u64 0, .int .u64 0, .bool false, .bool false, .bool false, .int .u64 0, .int .u64 0, .bool false, .int .u64 0, .int .u64 0], none⟩,
  ⟨some 5, .mv (.c (.int .i64 0)), none⟩]
theorem F_dyn_Parser0_W {T : Tab} {env : Env} {H : Heap} {Q : Post} : W T (.reg F_dyn_Parser0) env H Q ↔ WR T F_dyn_Parser0 [
  ⟨some 3, .box 16 (.t 1), none⟩,
  ⟨some 4, .alloc 40 [.string ⟨#[]⟩, .string ⟨#[]⟩, .slice none 0 0, .bool false, .bool false, .bool false, .bool false, .int .u64 0, .int .u64 0, .int .u64 0, .int .u64 0, .int .u64 0, .int .u64 0, .int .u64 0, .int .u64 0, .int .u64 0, .int .u64 0, .bool false, .int .u64 0, .int .u64 0, .bool false, .int .u64 0, .int .u64 0, .bool false, .int .u64 0, .int .u64 0, .bool false, .int .u64 0, .int .u64 0, .bool false, .int .u64 0, .int .u64 0, .bool false, .bool false, .bool false, .int .u64 0, .int .u64 0, .bool false, .int .u64 0, .int .u64 0], none⟩,
  ⟨some 5, .mv (.c (.int .i64 0)), none⟩] env H none [] Q := w_reg
def F_dyn_Parser1 : List IStmt := [
  ⟨some 14, .mv (.t 0), none⟩,
  ⟨some 15, .loadN 16 (.t 3), none⟩,
  ⟨some 16, .fa 2 (.t 3), none⟩,
  ⟨some 17, .fa 3 (.t 16), none⟩,
  ⟨some 18, .load (.t 17), none⟩,
  ⟨some 19, .fa 2 (.t 3), none⟩,
  ⟨some 20, .fa 4 (.t 19), none⟩,
  ⟨some 21, .load (.t 20), none⟩,
  ⟨some 22, .callc 55 [(.t 14), (.t 15), (.t 18), (.t 21)], none⟩,
  ⟨some 13, .mv (.t 22), none⟩,
  ⟨some 23, .ext (.t 13) 0, none⟩,
  ⟨some 24, .ext (.t 13) 1, none⟩,
  ⟨some 6, .mv (.t 23), none⟩,
  ⟨some 7, .mv (.t 24), none⟩]
theorem F_dyn_Parser1_W {T : Tab} {env : Env} {H : Heap} {Q : Post} : W T (.reg F_dyn_Parser1) env H Q ↔ WR T F_dyn_Parser1 [
  ⟨some 14, .mv (.t 0), none⟩,
  ⟨some 15, .loadN 16 (.t 3), none⟩,
  ⟨some 16, .fa 2 (.t 3), none⟩,
  ⟨some 17, .fa 3 (.t 16), none⟩,
  ⟨some 18, .load (.t 17), none⟩,
  ⟨some 19, .fa 2 (.t 3), none⟩,
  ⟨some 20, .fa 4 (.t 19), none⟩,
  ⟨some 21, .load (.t 20), none⟩,
  ⟨some 22, .callc 55 [(.t 14), (.t 15), (.t 18), (.t 21)], none⟩,
  ⟨some 13, .mv (.t 22), none⟩,
  ⟨some 23, .ext (.t 13) 0, none⟩,
  ⟨some 24, .ext (.t 13) 1, none⟩,
  ⟨some 6, .mv (.t 23), none⟩,
  ⟨some 7, .mv (.t 24), none⟩] env H none [] Q := w_reg
def F_dyn_Parser2 : List IStmt := [
  ⟨some 25, .mv (.t 7), none⟩,
  ⟨some 26, .un .not (.t 25), none⟩]
theorem F_dyn_Parser2_W {T : Tab} {env : Env} {H : Heap} {Q : Post} : W T (.reg F_dyn_Parser2) env H Q ↔ WR T F_dyn_Parser2 [
  ⟨some 25, .mv (.t 7), none⟩,
  ⟨some 26, .un .not (.t 25), none⟩] env H none [] Q := w_reg
def F_dyn_Parser3 : List IStmt := [
  ⟨some 27, .bld [.string ⟨#[]⟩, .string ⟨#[]⟩, .slice none 0 0, .bool false, .bool false, .bool false, .bool false, .int .u64 0, .int .u64 0, .int .u64 0, .int .u64 0, .int .u64 0, .int .u64 0, .int .u64 0, .int .u64 0, .int .u64 0, .int .u64 0, .bool false, .int .u64 0, .int .u64 0, .bool false, .int .u64 0, .int .u64 0, .bool false, .int .u64 0, .int .u64 0, .bool false, .int .u64 0, .int .u64 0, .bool false, .int .u64 0, .int .u64 0, .bool false, .bool false, .bool false, .int .u64 0, .int .u64 0, .bool false, .int .u64 0, .int .u64 0] [], none⟩,
  ⟨none, .store 40 (.t 4) (.t 27), none⟩,
  ⟨some 5, .mv (.c (.int .i64 86)), none⟩]
theorem F_dyn_Parser3_W {T : Tab} {env : Env} {H : Heap} {Q : Post} : W T (.reg F_dyn_Parser3) env H Q ↔ WR T F_dyn_Parser3 [
  ⟨some 27, .bld [.string ⟨#[]⟩, .string ⟨#[]⟩, .slice none 0 0, .bool false, .bool false, .bool false, .bool false, .int .u64 0, .int .u64 0, .int .u64 0, .int .u64 0, .int .u64 0, .int .u64 0, .int .u64 0, .int .u64 0, .int .u64 0, .int .u64 0, .bool false, .int .u64 0, .int .u64 0, .bool false, .int .u64 0, .int .u64 0, .bool false, .int .u64 0, .int .u64 0, .bool false, .int .u64 0, .int .u64 0, .bool false, .int .u64 0, .int .u64 0, .bool false, .bool false, .bool false, .int .u64 0, .int .u64 0, .bool false, .int .u64 0, .int .u64 0] [], none⟩,
  ⟨none, .store 40 (.t 4) (.t 27), none⟩,
  ⟨some 5, .mv (.c (.int .i64 86)), none⟩] env H none [] Q := w_reg
def F_dyn_Parser4 : List IStmt := [
  ⟨some 29, .mv (.t 6), none⟩,
  ⟨some 30, .callc 53 [(.t 29)], none⟩,
  ⟨some 28, .mv (.t 30), none⟩,
  ⟨some 31, .ext (.t 28) 0, none⟩,
  ⟨some 32, .ext (.t 28) 1, none⟩,
  ⟨some 8, .mv (.t 31), none⟩,
  ⟨some 9, .mv (.t 32), none⟩]
theorem F_dyn_Parser4_W {T : Tab} {env : Env} {H : Heap} {Q : Post} : W T (.reg F_dyn_Parser4) env H Q ↔ WR T F_dyn_Parser4 [
  ⟨some 29, .mv (.t 6), none⟩,
  ⟨some 30, .callc 53 [(.t 29)], none⟩,
  ⟨some 28, .mv (.t 30), none⟩,
  ⟨some 31, .ext (.t 28) 0, none⟩,
  ⟨some 32, .ext (.t 28) 1, none⟩,
  ⟨some 8, .mv (.t 31), none⟩,
  ⟨some 9, .mv (.t 32), none⟩] env H none [] Q := w_reg
def F_dyn_Parser5 : List IStmt := [
  ⟨some 33, .mv (.t 9), none⟩,
  ⟨some 34, .bin .neq (.t 33) (.c (.int .i64 0)), none⟩]
theorem F_dyn_Parser5_W {T : Tab} {env : Env} {H : Heap} {Q : Post} : W T (.reg F_dyn_Parser5) env H Q ↔ WR T F_dyn_Parser5 [
  ⟨some 33, .mv (.t 9), none⟩,
  ⟨some 34, .bin .neq (.t 33) (.c (.int .i64 0)), none⟩] env H none [] Q := w_reg
def F_dyn_Parser6 : List IStmt := [
  ⟨some 35, .bld [.string ⟨#[]⟩, .string ⟨#[]⟩, .slice none 0 0, .bool false, .bool false, .bool false, .bool false, .int .u64 0, .int .u64 0, .int .u64 0, .int .u64 0, .int .u64 0, .int .u64 0, .int .u64 0, .int .u64 0, .int .u64 0, .int .u64 0, .bool false, .int .u64 0, .int .u64 0, .bool false, .int .u64 0, .int .u64 0, .bool false, .int .u64 0, .int .u64 0, .bool false, .int .u64 0, .int .u64 0, .bool false, .int .u64 0, .int .u64 0, .bool false, .bool false, .bool false, .int .u64 0, .int .u64 0, .bool false, .int .u64 0, .int .u64 0] [], none⟩,
  ⟨some 36, .mv (.t 9), none⟩,
  ⟨none, .store 40 (.t 4) (.t 35), none⟩,
  ⟨some 5, .mv (.t 36), none⟩]
theorem F_dyn_Parser6_W {T : Tab} {env : Env} {H : Heap} {Q : Post} : W T (.reg F_dyn_Parser6) env H Q ↔ WR T F_dyn_Parser6 [
  ⟨some 35, .bld [.string ⟨#[]⟩, .string ⟨#[]⟩, .slice none 0 0, .bool false, .bool false, .bool false, .bool false, .int .u64 0, .int .u64 0, .int .u64 0, .int .u64 0, .int .u64 0, .int .u64 0, .int .u64 0, .int .u64 0, .int .u64 0, .int .u64 0, .bool false, .int .u64 0, .int .u64 0, .bool false, .int .u64 0, .int .u64 0, .bool false, .int .u64 0, .int .u64 0, .bool false, .int .u64 0, .int .u64 0, .bool false, .int .u64 0, .int .u64 0, .bool false, .bool false, .bool false, .int .u64 0, .int .u64 0, .bool false, .int .u64 0, .int .u64 0] [], none⟩,
  ⟨some 36, .mv (.t 9), none⟩,
  ⟨none, .store 40 (.t 4) (.t 35), none⟩,
  ⟨some 5, .mv (.t 36), none⟩] env H none [] Q := w_reg
def F_dyn_Parser7 : List IStmt := [
  ⟨some 38, .mv (.t 8), none⟩,
  ⟨some 39, .call 56 [(.t 38)], none⟩,
  ⟨some 37, .mv (.t 39), none⟩,
  ⟨some 40, .ext (.t 37) 0, none⟩,
  ⟨some 41, .ext (.t 37) 1, none⟩,
  ⟨some 10, .mv (.t 40), none⟩,
  ⟨some 9, .mv (.t 41), none⟩]
theorem F_dyn_Parser7_W {T : Tab} {env : Env} {H : Heap} {Q : Post} : W T (.reg F_dyn_Parser7) env H Q ↔ WR T F_dyn_Parser7 [
  ⟨some 38, .mv (.t 8), none⟩,
  ⟨some 39, .call 56 [(.t 38)], none⟩,
  ⟨some 37, .mv (.t 39), none⟩,
  ⟨some 40, .ext (.t 37) 0, none⟩,
  ⟨some 41, .ext (.t 37) 1, none⟩,
  ⟨some 10, .mv (.t 40), none⟩,
  ⟨some 9, .mv (.t 41), none⟩] env H none [] Q := w_reg
def F_dyn_Parser8 : List IStmt := [
  ⟨some 42, .mv (.t 9), none⟩,
  ⟨some 43, .bin .neq (.t 42) (.c (.int .i64 0)), none⟩]
theorem F_dyn_Parser8_W {T : Tab} {env : Env} {H : Heap} {Q : Post} : W T (.reg F_dyn_Parser8) env H Q ↔ WR T F_dyn_Parser8 [
  ⟨some 42, .mv (.t 9), none⟩,
  ⟨some 43, .bin .neq (.t 42) (.c (.int .i64 0)), none⟩] env H none [] Q := w_reg
def F_dyn_Parser9 : List IStmt := [
  ⟨some 44, .bld [.string ⟨#[]⟩, .string ⟨#[]⟩, .slice none 0 0, .bool false, .bool false, .bool false, .bool false, .int .u64 0, .int .u64 0, .int .u64 0, .int .u64 0, .int .u64 0, .int .u64 0, .int .u64 0, .int .u64 0, .int .u64 0, .int .u64 0, .bool false, .int .u64 0, .int .u64 0, .bool false, .int .u64 0, .int .u64 0, .bool false, .int .u64 0, .int .u64 0, .bool false, .int .u64 0, .int .u64 0, .bool false, .int .u64 0, .int .u64 0, .bool false, .bool false, .bool false, .int .u64 0, .int .u64 0, .bool false, .int .u64 0, .int .u64 0] [], none⟩,
  ⟨some 45, .mv (.t 9), none⟩,
  ⟨none, .store 40 (.t 4) (.t 44), none⟩,
  ⟨some 5, .mv (.t 45), none⟩]
theorem F_dyn_Parser9_W {T : Tab} {env : Env} {H : Heap} {Q : Post} : W T (.reg F_dyn_Parser9) env H Q ↔ WR T F_dyn_Parser9 [
  ⟨some 44, .bld [.string ⟨#[]⟩, .string ⟨#[]⟩, .slice none 0 0, .bool false, .bool false, .bool false, .bool false, .int .u64 0, .int .u64 0, .int .u64 0, .int .u64 0, .int .u64 0, .int .u64 0, .int .u64 0, .int .u64 0, .int .u64 0, .int .u64 0, .bool false, .int .u64 0, .int .u64 0, .bool false, .int .u64 0, .int .u64 0, .bool false, .int .u64 0, .int .u64 0, .bool false, .int .u64 0, .int .u64 0, .bool false, .int .u64 0, .int .u64 0, .bool false, .bool false, .bool false, .int .u64 0, .int .u64 0, .bool false, .int .u64 0, .int .u64 0] [], none⟩,
  ⟨some 45, .mv (.t 9), none⟩,
  ⟨none, .store 40 (.t 4) (.t 44), none⟩,
  ⟨some 5, .mv (.t 45), none⟩] env H none [] Q := w_reg
def F_dyn_Parser10 : List IStmt := [
  ⟨some 46, .bld [.string ⟨#[]⟩, .string ⟨#[]⟩, .slice none 0 0, .bool false, .bool false, .bool false, .bool false, .int .u64 0, .int .u64 0, .int .u64 0, .int .u64 0, .int .u64 0, .int .u64 0, .int .u64 0, .int .u64 0, .int .u64 0, .int .u64 0, .bool false, .int .u64 0, .int .u64 0, .bool false, .int .u64 0, .int .u64 0, .bool false, .int .u64 0, .int .u64 0, .bool false, .int .u64 0, .int .u64 0, .bool false, .int .u64 0, .int .u64 0, .bool false, .bool false, .bool false, .int .u64 0, .int .u64 0, .bool false, .int .u64 0, .int .u64 0] [], none⟩,
  ⟨some 11, .alloc 40 [.string ⟨#[]⟩, .string ⟨#[]⟩, .slice none 0 0, .bool false, .bool false, .bool false, .bool false, .int .u64 0, .int .u64 0, .int .u64 0, .int .u64 0, .int .u64 0, .int .u64 0, .int .u64 0, .int .u64 0, .int .u64 0, .int .u64 0, .bool false, .int .u64 0, .int .u64 0, .bool false, .int .u64 0, .int .u64 0, .bool false, .int .u64 0, .int .u64 0, .bool false, .int .u64 0, .int .u64 0, .bool false, .int .u64 0, .int .u64 0, .bool false, .bool false, .bool false, .int .u64 0, .int .u64 0, .bool false, .int .u64 0, .int .u64 0], none⟩,
  ⟨none, .store 40 (.t 11) (.t 46), none⟩]
theorem F_dyn_Parser10_W {T : Tab} {env : Env} {H : Heap} {Q : Post} : W T (.reg F_dyn_Parser10) env H Q ↔ WR T F_dyn_Parser10 [
  ⟨some 46, .bld [.string ⟨#[]⟩, .string ⟨#[]⟩, .slice none 0 0, .bool false, .bool false, .bool false, .bool false, .int .u64 0, .int .u64 0, .int .u64 0, .int .u64 0, .int .u64 0, .int .u64 0, .int .u64 0, .int .u64 0, .int .u64 0, .int .u64 0, .bool false, .int .u64 0, .int .u64 0, .bool false, .int .u64 0, .int .u64 0, .bool false, .int .u64 0, .int .u64 0, .bool false, .int .u64 0, .int .u64 0, .bool false, .int .u64 0, .int .u64 0, .bool false, .bool false, .bool false, .int .u64 0, .int .u64 0, .bool false, .int .u64 0, .int .u64 0] [], none⟩,
  ⟨some 11, .alloc 40 [.string ⟨#[]⟩, .string ⟨#[]⟩, .slice none 0 0, .bool false, .bool false, .bool false, .bool false, .int .u64 0, .int .u64 0, .int .u64 0, .int .u64 0, .int .u64 0, .int .u64 0, .int .u64 0, .int .u64 0, .int .u64 0, .int .u64 0, .bool false, .int .u64 0, .int .u64 0, .bool false, .int .u64 0, .int .u64 0, .bool false, .int .u64 0, .int .u64 0, .bool false, .int .u64 0, .int .u64 0, .bool false, .int .u64 0, .int .u64 0, .bool false, .bool false, .bool false, .int .u64 0, .int .u64 0, .bool false, .int .u64 0, .int .u64 0], none⟩,
  ⟨none, .store 40 (.t 11) (.t 46), none⟩] env H none [] Q := w_reg
def F_dyn_Parser11 : List IStmt := [
  ⟨some 47, .mv (.t 10), none⟩,
  ⟨some 48, .call 57 [(.t 47), (.t 11)], none⟩,
  ⟨some 49, .un .not (.t 48), none⟩]
theorem F_dyn_Parser11_W {T : Tab} {env : Env} {H : Heap} {Q : Post} : W T (.reg F_dyn_Parser11) env H Q ↔ WR T F_dyn_Parser11 [
  ⟨some 47, .mv (.t 10), none⟩,
  ⟨some 48, .call 57 [(.t 47), (.t 11)], none⟩,
  ⟨some 49, .un .not (.t 48), none⟩] env H none [] Q := w_reg
def F_dyn_Parser12 : List IStmt := [
  ⟨some 50, .bld [.string ⟨#[]⟩, .string ⟨#[]⟩, .slice none 0 0, .bool false, .bool false, .bool false, .bool false, .int .u64 0, .int .u64 0, .int .u64 0, .int .u64 0, .int .u64 0, .int .u64 0, .int .u64 0, .int .u64 0, .int .u64 0, .int .u64 0, .bool false, .int .u64 0, .int .u64 0, .bool false, .int .u64 0, .int .u64 0, .bool false, .int .u64 0, .int .u64 0, .bool false, .int .u64 0, .int .u64 0, .bool false, .int .u64 0, .int .u64 0, .bool false, .bool false, .bool false, .int .u64 0, .int .u64 0, .bool false, .int .u64 0, .int .u64 0] [], none⟩,
  ⟨none, .store 40 (.t 4) (.t 50), none⟩,
  ⟨some 5, .mv (.c (.int .i64 90)), none⟩]
theorem F_dyn_Parser12_W {T : Tab} {env : Env} {H : Heap} {Q : Post} : W T (.reg F_dyn_Parser12) env H Q ↔ WR T F_dyn_Parser12 [
  ⟨some 50, .bld [.string ⟨#[]⟩, .string ⟨#[]⟩, .slice none 0 0, .bool false, .bool false, .bool false, .bool false, .int .u64 0, .int .u64 0, .int .u64 0, .int .u64 0, .int .u64 0, .int .u64 0, .int .u64 0, .int .u64 0, .int .u64 0, .int .u64 0, .bool false, .int .u64 0, .int .u64 0, .bool false, .int .u64 0, .int .u64 0, .bool false, .int .u64 0, .int .u64 0, .bool false, .int .u64 0, .int .u64 0, .bool false, .int .u64 0, .int .u64 0, .bool false, .bool false, .bool false, .int .u64 0, .int .u64 0, .bool false, .int .u64 0, .int .u64 0] [], none⟩,
  ⟨none, .store 40 (.t 4) (.t 50), none⟩,
  ⟨some 5, .mv (.c (.int .i64 90)), none⟩] env H none [] Q := w_reg
def F_dyn_Parser13 : List IStmt := [
  ⟨some 51, .mv (.t 10), none⟩,
  ⟨some 52, .nilc (.t 51), none⟩,
  ⟨some 53, .fa 0 (.t 52), none⟩,
  ⟨some 54, .load (.t 53), none⟩,
  ⟨some 55, .lku 0 false false [.int .u64 0] (.t 54) (.c (.int .u64 6)), none⟩,
  ⟨some 56, .mv (.t 10), none⟩,
  ⟨some 57, .nilc (.t 56), none⟩,
  ⟨some 58, .fa 0 (.t 57), none⟩,
  ⟨some 59, .load (.t 58), none⟩,
  ⟨some 60, .lku 0 false false [.int .u64 0] (.t 59) (.c (.int .u64 4)), none⟩,
  ⟨some 61, .mv (.t 10), none⟩,
  ⟨some 62, .nilc (.t 61), none⟩,
  ⟨some 63, .fa 0 (.t 62), none⟩,
  ⟨some 64, .load (.t 63), none⟩,
  ⟨some 65, .lku 0 false false [.int .u64 0] (.t 64) (.c (.int .u64 1879047925)), none⟩,
  ⟨some 66, .mv (.t 10), none⟩,
  ⟨some 67, .nilc (.t 66), none⟩,
  ⟨some 68, .fa 0 (.t 67), none⟩,
  ⟨some 69, .load (.t 68), none⟩,
  ⟨some 70, .lku 0 false false [.int .u64 0] (.t 69) (.c (.int .u64 1879048176)), none⟩,
  ⟨some 71, .fa 9 (.t 11), none⟩,
  ⟨none, .store 1 (.t 71) (.t 55), none⟩,
  ⟨some 72, .fa 10 (.t 11), none⟩,
  ⟨none, .store 1 (.t 72) (.t 60), none⟩,
  ⟨some 73, .fa 11 (.t 11), none⟩,
  ⟨none, .store 1 (.t 73) (.t 65), none⟩,
  ⟨some 74, .fa 12 (.t 11), none⟩,
  ⟨none, .store 1 (.t 74) (.t 70), none⟩]
theorem F_dyn_Parser13_W {T : Tab} {env : Env} {H : Heap} {Q : Post} : W T (.dreg F_dyn_Parser13 []) env H Q ↔ WR T F_dyn_Parser13 [
  ⟨some 51, .mv (.t 10), none⟩,
  ⟨some 52, .nilc (.t 51), none⟩,
  ⟨some 53, .fa 0 (.t 52), none⟩,
  ⟨some 54, .load (.t 53), none⟩,
  ⟨some 55, .lku 0 false false [.int .u64 0] (.t 54) (.c (.int .u64 6)), none⟩,
  ⟨some 56, .mv (.t 10), none⟩,
  ⟨some 57, .nilc (.t 56), none⟩,
  ⟨some 58, .fa 0 (.t 57), none⟩,
  ⟨some 59, .load (.t 58), none⟩,
  ⟨some 60, .lku 0 false false [.int .u64 0] (.t 59) (.c (.int .u64 4)), none⟩,
  ⟨some 61, .mv (.t 10), none⟩,
  ⟨some 62, .nilc (.t 61), none⟩,
  ⟨some 63, .fa 0 (.t 62), none⟩,
  ⟨some 64, .load (.t 63), none⟩,
  ⟨some 65, .lku 0 false false [.int .u64 0] (.t 64) (.c (.int .u64 1879047925)), none⟩,
  ⟨some 66, .mv (.t 10), none⟩,
  ⟨some 67, .nilc (.t 66), none⟩,
  ⟨some 68, .fa 0 (.t 67), none⟩,
  ⟨some 69, .load (.t 68), none⟩,
  ⟨some 70, .lku 0 false false [.int .u64 0] (.t 69) (.c (.int .u64 1879048176)), none⟩,
  ⟨some 71, .fa 9 (.t 11), none⟩,
  ⟨none, .store 1 (.t 71) (.t 55), none⟩,
  ⟨some 72, .fa 10 (.t 11), none⟩,
  ⟨none, .store 1 (.t 72) (.t 60), none⟩,
  ⟨some 73, .fa 11 (.t 11), none⟩,
  ⟨none, .store 1 (.t 73) (.t 65), none⟩,
  ⟨some 74, .fa 12 (.t 11), none⟩,
  ⟨none, .store 1 (.t 74) (.t 70), none⟩] env H none [] Q := w_dreg0
def F_dyn_Parser14 : List IStmt := [
  ⟨some 75, .mv (.t 10), none⟩,
  ⟨some 76, .nilc (.t 75), none⟩,
  ⟨some 77, .fa 0 (.t 76), none⟩,
  ⟨some 78, .load (.t 77), none⟩,
  ⟨some 79, .lku 0 false false [.int .u64 0] (.t 78) (.c (.int .u64 1879048188)), none⟩,
  ⟨some 80, .mv (.t 10), none⟩,
  ⟨some 81, .nilc (.t 80), none⟩,
  ⟨some 82, .fa 0 (.t 81), none⟩,
  ⟨some 83, .load (.t 82), none⟩,
  ⟨some 84, .lku 0 false false [.int .u64 0] (.t 83) (.c (.int .u64 1879048189)), none⟩,
  ⟨some 85, .mv (.t 10), none⟩,
  ⟨some 86, .nilc (.t 85), none⟩,
  ⟨some 87, .fa 0 (.t 86), none⟩,
  ⟨some 88, .load (.t 87), none⟩,
  ⟨some 89, .lku 0 false false [.int .u64 0] (.t 88) (.c (.int .u64 1879048190)), none⟩,
  ⟨some 90, .mv (.t 10), none⟩,
  ⟨some 91, .nilc (.t 90), none⟩,
  ⟨some 92, .fa 0 (.t 91), none⟩,
  ⟨some 93, .load (.t 92), none⟩,
  ⟨some 94, .lku 0 false false [.int .u64 0] (.t 93) (.c (.int .u64 1879048191)), none⟩,
  ⟨some 95, .fa 13 (.t 11), none⟩,
  ⟨none, .store 1 (.t 95) (.t 79), none⟩,
  ⟨some 96, .fa 15 (.t 11), none⟩,
  ⟨none, .store 1 (.t 96) (.t 84), none⟩,
  ⟨some 97, .fa 14 (.t 11), none⟩,
  ⟨none, .store 1 (.t 97) (.t 89), none⟩,
  ⟨some 98, .fa 16 (.t 11), none⟩,
  ⟨none, .store 1 (.t 98) (.t 94), none⟩]
theorem F_dyn_Parser14_W {T : Tab} {env : Env} {H : Heap} {Q : Post} : W T (.dreg F_dyn_Parser14 []) env H Q ↔ WR T F_dyn_Parser14 [
  ⟨some 75, .mv (.t 10), none⟩,
  ⟨some 76, .nilc (.t 75), none⟩,
  ⟨some 77, .fa 0 (.t 76), none⟩,
  ⟨some 78, .load (.t 77), none⟩,
  ⟨some 79, .lku 0 false false [.int .u64 0] (.t 78) (.c (.int .u64 1879048188)), none⟩,
  ⟨some 80, .mv (.t 10), none⟩,
  ⟨some 81, .nilc (.t 80), none⟩,
  ⟨some 82, .fa 0 (.t 81), none⟩,
  ⟨some 83, .load (.t 82), none⟩,
  ⟨some 84, .lku 0 false false [.int .u64 0] (.t 83) (.c (.int .u64 1879048189)), none⟩,
  ⟨some 85, .mv (.t 10), none⟩,
  ⟨some 86, .nilc (.t 85), none⟩,
  ⟨some 87, .fa 0 (.t 86), none⟩,
  ⟨some 88, .load (.t 87), none⟩,
  ⟨some 89, .lku 0 false false [.int .u64 0] (.t 88) (.c (.int .u64 1879048190)), none⟩,
  ⟨some 90, .mv (.t 10), none⟩,
  ⟨some 91, .nilc (.t 90), none⟩,
  ⟨some 92, .fa 0 (.t 91), none⟩,
  ⟨some 93, .load (.t 92), none⟩,
  ⟨some 94, .lku 0 false false [.int .u64 0] (.t 93) (.c (.int .u64 1879048191)), none⟩,
  ⟨some 95, .fa 13 (.t 11), none⟩,
  ⟨none, .store 1 (.t 95) (.t 79), none⟩,
  ⟨some 96, .fa 15 (.t 11), none⟩,
  ⟨none, .store 1 (.t 96) (.t 84), none⟩,
  ⟨some 97, .fa 14 (.t 11), none⟩,
  ⟨none, .store 1 (.t 97) (.t 89), none⟩,
  ⟨some 98, .fa 16 (.t 11), none⟩,
  ⟨none, .store 1 (.t 98) (.t 94), none⟩] env H none [] Q := w_dreg0
def F_dyn_Parser15 : List IStmt := [
  ⟨some 99, .mv (.t 10), none⟩,
  ⟨some 100, .call 58 [(.t 99), (.c (.int .u64 16))], none⟩,
  ⟨some 101, .mv (.t 100), none⟩,
  ⟨some 102, .mv (.t 10), some (2, false)⟩,
  ⟨some 103, .nilc (.t 102), some (2, false)⟩,
  ⟨some 104, .fa 0 (.t 103), some (2, false)⟩,
  ⟨some 105, .load (.t 104), some (2, false)⟩,
  ⟨some 106, .lku 0 false false [.int .u64 0] (.t 105) (.c (.int .u64 30)), some (2, false)⟩,
  ⟨some 107, .bin .and (.t 106) (.c (.int .u64 2)), some (2, false)⟩,
  ⟨some 108, .bin .neq (.t 107) (.c (.int .u64 0)), some (2, false)⟩,
  ⟨some 109, .pick (.t 101) (.c (.bool true)) (.t 108), none⟩,
  ⟨some 110, .fa 3 (.t 11), none⟩,
  ⟨none, .store 1 (.t 110) (.t 109), none⟩]
theorem F_dyn_Parser15_W {T : Tab} {env : Env} {H : Heap} {Q : Post} : W T (.reg F_dyn_Parser15) env H Q ↔ WR T F_dyn_Parser15 [
  ⟨some 99, .mv (.t 10), none⟩,
  ⟨some 100, .call 58 [(.t 99), (.c (.int .u64 16))], none⟩,
  ⟨some 101, .mv (.t 100), none⟩,
  ⟨some 102, .mv (.t 10), some (2, false)⟩,
  ⟨some 103, .nilc (.t 102), some (2, false)⟩,
  ⟨some 104, .fa 0 (.t 103), some (2, false)⟩,
  ⟨some 105, .load (.t 104), some (2, false)⟩,
  ⟨some 106, .lku 0 false false [.int .u64 0] (.t 105) (.c (.int .u64 30)), some (2, false)⟩,
  ⟨some 107, .bin .and (.t 106) (.c (.int .u64 2)), some (2, false)⟩,
  ⟨some 108, .bin .neq (.t 107) (.c (.int .u64 0)), some (2, false)⟩,
  ⟨some 109, .pick (.t 101) (.c (.bool true)) (.t 108), none⟩,
  ⟨some 110, .fa 3 (.t 11), none⟩,
  ⟨none, .store 1 (.t 110) (.t 109), none⟩] env H none [] Q := w_reg
theorem F_dyn_Parser15_g2 {env : Env} : yieldI F_dyn_Parser15 env 2 = bOf (env 101) := rfl
def F_dyn_Parser16 : List IStmt := [
  ⟨some 111, .mv (.t 10), none⟩,
  ⟨some 112, .nilc (.t 111), none⟩,
  ⟨some 113, .fa 0 (.t 112), none⟩,
  ⟨some 114, .load (.t 113), none⟩,
  ⟨some 115, .lku 0 false false [.int .u64 0] (.t 114) (.c (.int .u64 1879048187)), none⟩,
  ⟨some 116, .bin .and (.t 115) (.c (.int .u64 2)), none⟩,
  ⟨some 117, .bin .neq (.t 116) (.c (.int .u64 0)), none⟩,
  ⟨some 118, .mv (.t 10), none⟩,
  ⟨some 119, .nilc (.t 118), none⟩,
  ⟨some 120, .fa 0 (.t 119), none⟩,
  ⟨some 121, .load (.t 120), none⟩,
  ⟨some 122, .lku 0 false false [.int .u64 0] (.t 121) (.c (.int .u64 1879048187)), none⟩,
  ⟨some 123, .bin .and (.t 122) (.c (.int .u64 8)), none⟩,
  ⟨some 124, .bin .neq (.t 123) (.c (.int .u64 0)), none⟩,
  ⟨some 125, .fa 4 (.t 11), none⟩,
  ⟨none, .store 1 (.t 125) (.t 117), none⟩,
  ⟨some 126, .fa 5 (.t 11), none⟩,
  ⟨none, .store 1 (.t 126) (.t 124), none⟩]
theorem F_dyn_Parser16_W {T : Tab} {env : Env} {H : Heap} {Q : Post} : W T (.dreg F_dyn_Parser16 []) env H Q ↔ WR T F_dyn_Parser16 [
  ⟨some 111, .mv (.t 10), none⟩,
  ⟨some 112, .nilc (.t 111), none⟩,
  ⟨some 113, .fa 0 (.t 112), none⟩,
  ⟨some 114, .load (.t 113), none⟩,
  ⟨some 115, .lku 0 false false [.int .u64 0] (.t 114) (.c (.int .u64 1879048187)), none⟩,
  ⟨some 116, .bin .and (.t 115) (.c (.int .u64 2)), none⟩,
  ⟨some 117, .bin .neq (.t 116) (.c (.int .u64 0)), none⟩,
  ⟨some 118, .mv (.t 10), none⟩,
  ⟨some 119, .nilc (.t 118), none⟩,
  ⟨some 120, .fa 0 (.t 119), none⟩,
  ⟨some 121, .load (.t 120), none⟩,
  ⟨some 122, .lku 0 false false [.int .u64 0] (.t 121) (.c (.int .u64 1879048187)), none⟩,
  ⟨some 123, .bin .and (.t 122) (.c (.int .u64 8)), none⟩,
  ⟨some 124, .bin .neq (.t 123) (.c (.int .u64 0)), none⟩,
  ⟨some 125, .fa 4 (.t 11), none⟩,
  ⟨none, .store 1 (.t 125) (.t 117), none⟩,
  ⟨some 126, .fa 5 (.t 11), none⟩,
  ⟨none, .store 1 (.t 126) (.t 124), none⟩] env H none [] Q := w_dreg0
def F_dyn_Parser17 : List IStmt := [
  ⟨some 127, .mv (.t 10), none⟩,
  ⟨some 128, .mv (.t 0), none⟩,
  ⟨some 129, .loadN 16 (.t 3), none⟩,
  ⟨some 130, .call 59 [(.t 127), (.t 128), (.t 129), (.t 11)], none⟩,
  ⟨some 12, .mv (.t 130), none⟩]
theorem F_dyn_Parser17_W {T : Tab} {env : Env} {H : Heap} {Q : Post} : W T (.reg F_dyn_Parser17) env H Q ↔ WR T F_dyn_Parser17 [
  ⟨some 127, .mv (.t 10), none⟩,
  ⟨some 128, .mv (.t 0), none⟩,
  ⟨some 129, .loadN 16 (.t 3), none⟩,
  ⟨some 130, .call 59 [(.t 127), (.t 128), (.t 129), (.t 11)], none⟩,
  ⟨some 12, .mv (.t 130), none⟩] env H none [] Q := w_reg
def F_dyn_Parser18 : List IStmt := [
  ⟨some 131, .mv (.t 12), none⟩,
  ⟨some 132, .bin .neq (.t 131) (.c (.int .i64 0)), none⟩]
theorem F_dyn_Parser18_W {T : Tab} {env : Env} {H : Heap} {Q : Post} : W T (.reg F_dyn_Parser18) env H Q ↔ WR T F_dyn_Parser18 [
  ⟨some 131, .mv (.t 12), none⟩,
  ⟨some 132, .bin .neq (.t 131) (.c (.int .i64 0)), none⟩] env H none [] Q := w_reg
def F_dyn_Parser19 : List IStmt := [
  ⟨some 133, .bld [.string ⟨#[]⟩, .string ⟨#[]⟩, .slice none 0 0, .bool false, .bool false, .bool false, .bool false, .int .u64 0, .int .u64 0, .int .u64 0, .int .u64 0, .int .u64 0, .int .u64 0, .int .u64 0, .int .u64 0, .int .u64 0, .int .u64 0, .bool false, .int .u64 0, .int .u64 0, .bool false, .int .u64 0, .int .u64 0, .bool false, .int .u64 0, .int .u64 0, .bool false, .int .u64 0, .int .u64 0, .bool false, .int .u64 0, .int .u64 0, .bool false, .bool false, .bool false, .int .u64 0, .int .u64 0, .bool false, .int .u64 0, .int .u64 0] [], none⟩,
  ⟨some 134, .mv (.t 12), none⟩,
  ⟨none, .store 40 (.t 4) (.t 133), none⟩,
  ⟨some 5, .mv (.t 134), none⟩]
theorem F_dyn_Parser19_W {T : Tab} {env : Env} {H : Heap} {Q : Post} : W T (.reg F_dyn_Parser19) env H Q ↔ WR T F_dyn_Parser19 [
  ⟨some 133, .bld [.string ⟨#[]⟩, .string ⟨#[]⟩, .slice none 0 0, .bool false, .bool false, .bool false, .bool false, .int .u64 0, .int .u64 0, .int .u64 0, .int .u64 0, .int .u64 0, .int .u64 0, .int .u64 0, .int .u64 0, .int .u64 0, .int .u64 0, .bool false, .int .u64 0, .int .u64 0, .bool false, .int .u64 0, .int .u64 0, .bool false, .int .u64 0, .int .u64 0, .bool false, .int .u64 0, .int .u64 0, .bool false, .int .u64 0, .int .u64 0, .bool false, .bool false, .bool false, .int .u64 0, .int .u64 0, .bool false, .int .u64 0, .int .u64 0] [], none⟩,
  ⟨some 134, .mv (.t 12), none⟩,
  ⟨none, .store 40 (.t 4) (.t 133), none⟩,
  ⟨some 5, .mv (.t 134), none⟩] env H none [] Q := w_reg
def F_dyn_Parser20 : List IStmt := [
  ⟨some 135, .loadN 40 (.t 11), none⟩,
  ⟨none, .store 40 (.t 4) (.t 135), none⟩,
  ⟨some 5, .mv (.c (.int .i64 0)), none⟩]
theorem F_dyn_Parser20_W {T : Tab} {env : Env} {H : Heap} {Q : Post} : W T (.reg F_dyn_Parser20) env H Q ↔ WR T F_dyn_Parser20 [
  ⟨some 135, .loadN 40 (.t 11), none⟩,
  ⟨none, .store 40 (.t 4) (.t 135), none⟩,
  ⟨some 5, .mv (.c (.int .i64 0)), none⟩] env H none [] Q := w_reg
def F_dyn_Parsec : ICode := (.seq (.reg F_dyn_Parser0) (.seq (.reg F_dyn_Parser1) (.seq (.seq (.reg F_dyn_Parser2) (.cond (.t 26) (.seq (.reg F_dyn_Parser3) .ret) .skip)) (.seq (.reg F_dyn_Parser4) (.seq (.seq (.reg F_dyn_Parser5) (.cond (.t 34) (.seq (.reg F_dyn_Parser6) .ret) .skip)) (.seq (.reg F_dyn_Parser7) (.seq (.seq (.reg F_dyn_Parser8) (.cond (.t 43) (.seq (.reg F_dyn_Parser9) .ret) .skip)) (.seq (.reg F_dyn_Parser10) (.seq (.seq (.reg F_dyn_Parser11) (.cond (.t 49) (.seq (.reg F_dyn_Parser12) .ret) .skip)) (.seq (.dreg F_dyn_Parser13 []) (.seq (.dreg F_dyn_Parser14 []) (.seq (.reg F_dyn_Parser15) (.seq (.dreg F_dyn_Parser16 []) (.seq (.seq (.reg F_dyn_Parser17) (.seq (.reg F_dyn_Parser18) (.cond (.t 132) (.seq (.reg F_dyn_Parser19) .ret) .skip))) (.seq (.reg F_dyn_Parser20) .ret)))))))))))))))
theorem F_dyn_Parsec_W {T : Tab} {env : Env} {H : Heap} {Q : Post} : W T F_dyn_Parsec env H Q ↔ W T (.seq (.reg F_dyn_Parser0) (.seq (.reg F_dyn_Parser1) (.seq (.seq (.reg F_dyn_Parser2) (.cond (.t 26) (.seq (.reg F_dyn_Parser3) .ret) .skip)) (.seq (.reg F_dyn_Parser4) (.seq (.seq (.reg F_dyn_Parser5) (.cond (.t 34) (.seq (.reg F_dyn_Parser6) .ret) .skip)) (.seq (.reg F_dyn_Parser7) (.seq (.seq (.reg F_dyn_Parser8) (.cond (.t 43) (.seq (.reg F_dyn_Parser9) .ret) .skip)) (.seq (.reg F_dyn_Parser10) (.seq (.seq (.reg F_dyn_Parser11) (.cond (.t 49) (.seq (.reg F_dyn_Parser12) .ret) .skip)) (.seq (.dreg F_dyn_Parser13 []) (.seq (.dreg F_dyn_Parser14 []) (.seq (.reg F_dyn_Parser15) (.seq (.dreg F_dyn_Parser16 []) (.seq (.seq (.reg F_dyn_Parser17) (.seq (.reg F_dyn_Parser18) (.cond (.t 132) (.seq (.reg F_dyn_Parser19) .ret) .skip))) (.seq (.reg F_dyn_Parser20) .ret))))))))))))))) env H Q := Iff.rfl
def F_dyn_Parse : IFn := ⟨136, [.cell 4 (some 40), .tmp 5], F_dyn_Parsec⟩
set_option maxRecDepth 1000000 in
theorem F_dyn_Parse_chk : chkF Try.prog 33 F_dyn_Parse = true := by kernel_rfl

/-! ### law09_alive -/
def F_law09_aliver0 : List IStmt := [
  ⟨some 0, .mv (.c (.bool false)), none⟩]
theorem F_law09_aliver0_W {T : Tab} {env : Env} {H : Heap} {Q : Post} : W T (.reg F_law09_aliver0) env H Q ↔ WR T F_law09_aliver0 [
  ⟨some 0, .mv (.c (.bool false)), none⟩] env H none [] Q := w_reg
def F_law09_aliver1 : List IStmt := [
  ⟨some 6, .call 52 [(.c (.slice none 0 0)), (.c (.int .u64 1)), (.c (.int .i64 8))], none⟩,
  ⟨some 1, .mv (.t 6), none⟩]
theorem F_law09_aliver1_W {T : Tab} {env : Env} {H : Heap} {Q : Post} : W T (.reg F_law09_aliver1) env H Q ↔ WR T F_law09_aliver1 [
  ⟨some 6, .call 52 [(.c (.slice none 0 0)), (.c (.int .u64 1)), (.c (.int .i64 8))], none⟩,
  ⟨some 1, .mv (.t 6), none⟩] env H none [] Q := w_reg
def F_law09_aliver2 : List IStmt := [
  ⟨some 7, .mv (.t 1), none⟩,
  ⟨some 8, .call 52 [(.t 7), (.c (.int .u64 77)), (.c (.int .i64 8))], none⟩,
  ⟨some 1, .mv (.t 8), none⟩]
theorem F_law09_aliver2_W {T : Tab} {env : Env} {H : Heap} {Q : Post} : W T (.reg F_law09_aliver2) env H Q ↔ WR T F_law09_aliver2 [
  ⟨some 7, .mv (.t 1), none⟩,
  ⟨some 8, .call 52 [(.t 7), (.c (.int .u64 77)), (.c (.int .i64 8))], none⟩,
  ⟨some 1, .mv (.t 8), none⟩] env H none [] Q := w_reg
def F_law09_aliver3 : List IStmt := [
  ⟨some 10, .mv (.t 1), none⟩,
  ⟨some 11, .callf 54 [(.t 10), (.c (.int .i64 16))], none⟩,
  ⟨some 12, .callc 53 [(.t 11)], none⟩,
  ⟨some 9, .mv (.t 12), none⟩,
  ⟨some 13, .ext (.t 9) 0, none⟩,
  ⟨some 14, .ext (.t 9) 1, none⟩,
  ⟨some 2, .mv (.t 13), none⟩,
  ⟨some 3, .mv (.t 14), none⟩]
theorem F_law09_aliver3_W {T : Tab} {env : Env} {H : Heap} {Q : Post} : W T (.reg F_law09_aliver3) env H Q ↔ WR T F_law09_aliver3 [
  ⟨some 10, .mv (.t 1), none⟩,
  ⟨some 11, .callf 54 [(.t 10), (.c (.int .i64 16))], none⟩,
  ⟨some 12, .callc 53 [(.t 11)], none⟩,
  ⟨some 9, .mv (.t 12), none⟩,
  ⟨some 13, .ext (.t 9) 0, none⟩,
  ⟨some 14, .ext (.t 9) 1, none⟩,
  ⟨some 2, .mv (.t 13), none⟩,
  ⟨some 3, .mv (.t 14), none⟩] env H none [] Q := w_reg
def F_law09_aliver4 : List IStmt := [
  ⟨some 16, .callc 53 [(.c (.slice none 0 0))], none⟩,
  ⟨some 15, .mv (.t 16), none⟩,
  ⟨some 17, .ext (.t 15) 0, none⟩,
  ⟨some 18, .ext (.t 15) 1, none⟩,
  ⟨some 4, .mv (.t 17), none⟩,
  ⟨some 5, .mv (.t 18), none⟩]
theorem F_law09_aliver4_W {T : Tab} {env : Env} {H : Heap} {Q : Post} : W T (.reg F_law09_aliver4) env H Q ↔ WR T F_law09_aliver4 [
  ⟨some 16, .callc 53 [(.c (.slice none 0 0))], none⟩,
  ⟨some 15, .mv (.t 16), none⟩,
  ⟨some 17, .ext (.t 15) 0, none⟩,
  ⟨some 18, .ext (.t 15) 1, none⟩,
  ⟨some 4, .mv (.t 17), none⟩,
  ⟨some 5, .mv (.t 18), none⟩] env H none [] Q := w_reg
def F_law09_aliver5 : List IStmt := [
  ⟨some 19, .mv (.t 3), none⟩,
  ⟨some 20, .bin .eql (.t 19) (.c (.int .i64 0)), none⟩,
  ⟨some 21, .mv (.t 20), none⟩,
  ⟨some 22, .mv (.t 2), some (2, true)⟩,
  ⟨some 23, .len 1 (.t 22), some (2, true)⟩,
  ⟨some 24, .bin .eql (.t 23) (.c (.int .i64 1)), some (2, true)⟩,
  ⟨some 25, .pick (.t 21) (.t 24) (.c (.bool false)), none⟩,
  ⟨some 26, .mv (.t 25), none⟩,
  ⟨some 27, .mv (.t 2), some (7, true)⟩,
  ⟨some 28, .ixa 2 (.t 27) (.c (.int .i64 0)), some (7, true)⟩,
  ⟨some 29, .loadN 2 (.t 28), some (7, true)⟩,
  ⟨some 30, .bld [.int .u64 0, .int .u64 0] [(0, 1, (.c (.int .u64 1))), (1, 1, (.c (.int .u64 77)))], some (7, true)⟩,
  ⟨some 31, .eqs [0, 0] false (.t 29) (.t 30), some (7, true)⟩,
  ⟨some 32, .pick (.t 26) (.t 31) (.c (.bool false)), none⟩,
  ⟨some 33, .mv (.t 32), none⟩,
  ⟨some 34, .mv (.t 5), some (14, true)⟩,
  ⟨some 35, .bin .eql (.t 34) (.c (.int .i64 90)), some (14, true)⟩,
  ⟨some 36, .pick (.t 33) (.t 35) (.c (.bool false)), none⟩,
  ⟨some 0, .mv (.t 36), none⟩]
theorem F_law09_aliver5_W {T : Tab} {env : Env} {H : Heap} {Q : Post} : W T (.reg F_law09_aliver5) env H Q ↔ WR T F_law09_aliver5 [
  ⟨some 19, .mv (.t 3), none⟩,
  ⟨some 20, .bin .eql (.t 19) (.c (.int .i64 0)), none⟩,
  ⟨some 21, .mv (.t 20), none⟩,
  ⟨some 22, .mv (.t 2), some (2, true)⟩,
  ⟨some 23, .len 1 (.t 22), some (2, true)⟩,
  ⟨some 24, .bin .eql (.t 23) (.c (.int .i64 1)), some (2, true)⟩,
  ⟨some 25, .pick (.t 21) (.t 24) (.c (.bool false)), none⟩,
  ⟨some 26, .mv (.t 25), none⟩,
  ⟨some 27, .mv (.t 2), some (7, true)⟩,
  ⟨some 28, .ixa 2 (.t 27) (.c (.int .i64 0)), some (7, true)⟩,
  ⟨some 29, .loadN 2 (.t 28), some (7, true)⟩,
  ⟨some 30, .bld [.int .u64 0, .int .u64 0] [(0, 1, (.c (.int .u64 1))), (1, 1, (.c (.int .u64 77)))], some (7, true)⟩,
  ⟨some 31, .eqs [0, 0] false (.t 29) (.t 30), some (7, true)⟩,
  ⟨some 32, .pick (.t 26) (.t 31) (.c (.bool false)), none⟩,
  ⟨some 33, .mv (.t 32), none⟩,
  ⟨some 34, .mv (.t 5), some (14, true)⟩,
  ⟨some 35, .bin .eql (.t 34) (.c (.int .i64 90)), some (14, true)⟩,
  ⟨some 36, .pick (.t 33) (.t 35) (.c (.bool false)), none⟩,
  ⟨some 0, .mv (.t 36), none⟩] env H none [] Q := w_reg
theorem F_law09_aliver5_g2 {env : Env} : yieldI F_law09_aliver5 env 2 = bOf (env 21) := rfl
theorem F_law09_aliver5_g7 {env : Env} : yieldI F_law09_aliver5 env 7 = bOf (env 26) := rfl
theorem F_law09_aliver5_g14 {env : Env} : yieldI F_law09_aliver5 env 14 = bOf (env 33) := rfl
def F_law09_alivec : ICode := (.seq (.reg F_law09_aliver0) (.seq (.reg F_law09_aliver1) (.seq (.reg F_law09_aliver2) (.seq (.reg F_law09_aliver3) (.seq (.reg F_law09_aliver4) (.seq (.reg F_law09_aliver5) .ret))))))
theorem F_law09_alivec_W {T : Tab} {env : Env} {H : Heap} {Q : Post} : W T F_law09_alivec env H Q ↔ W T (.seq (.reg F_law09_aliver0) (.seq (.reg F_law09_aliver1) (.seq (.reg F_law09_aliver2) (.seq (.reg F_law09_aliver3) (.seq (.reg F_law09_aliver4) (.seq (.reg F_law09_aliver5) .ret)))))) env H Q := Iff.rfl
def F_law09_alive : IFn := ⟨37, [.tmp 0], F_law09_alivec⟩
set_option maxRecDepth 1000000 in
theorem F_law09_alive_chk : chkF Try.prog 32 F_law09_alive = true := by kernel_rfl

/-! ### law09_DynNeeds -/
def F_law09_DynNeedsr0 : List IStmt := [
  ⟨some 2, .mv (.c (.bool false)), none⟩]
theorem F_law09_DynNeedsr0_W {T : Tab} {env : Env} {H : Heap} {Q : Post} : W T (.reg F_law09_DynNeedsr0) env H Q ↔ WR T F_law09_DynNeedsr0 [
  ⟨some 2, .mv (.c (.bool false)), none⟩] env H none [] Q := w_reg
def F_law09_DynNeedsr1 : List IStmt := [
  ⟨some 9, .mv (.t 0), none⟩,
  ⟨some 10, .len 1 (.t 9), none⟩,
  ⟨some 11, .bin .gtr (.t 10) (.c (.int .i64 262144)), none⟩]
theorem F_law09_DynNeedsr1_W {T : Tab} {env : Env} {H : Heap} {Q : Post} : W T (.reg F_law09_DynNeedsr1) env H Q ↔ WR T F_law09_DynNeedsr1 [
  ⟨some 9, .mv (.t 0), none⟩,
  ⟨some 10, .len 1 (.t 9), none⟩,
  ⟨some 11, .bin .gtr (.t 10) (.c (.int .i64 262144)), none⟩] env H none [] Q := w_reg
def F_law09_DynNeedsr2 : List IStmt := [
  ⟨some 2, .mv (.c (.bool true)), none⟩]
theorem F_law09_DynNeedsr2_W {T : Tab} {env : Env} {H : Heap} {Q : Post} : W T (.reg F_law09_DynNeedsr2) env H Q ↔ WR T F_law09_DynNeedsr2 [
  ⟨some 2, .mv (.c (.bool true)), none⟩] env H none [] Q := w_reg
def F_law09_DynNeedsr3 : List IStmt := [
  ⟨some 13, .mv (.t 0), none⟩,
  ⟨some 14, .callc 31 [(.t 13)], none⟩,
  ⟨some 12, .mv (.t 14), none⟩,
  ⟨some 15, .ext (.t 12) 0, none⟩,
  ⟨some 16, .ext (.t 12) 1, none⟩,
  ⟨some 3, .alloc 16 [.int .u16 0, .slice none 0 0, .int .u32 0, .int .u32 0, .int .u64 0, .int .u64 0, .int .u64 0, .int .u64 0, .int .u64 0, .int .u32 0, .int .u32 0, .int .u64 0, .int .u64 0, .int .u64 0, .int .u64 0, .int .u64 0], none⟩,
  ⟨none, .store 16 (.t 3) (.t 15), none⟩,
  ⟨some 4, .mv (.t 16), none⟩]
theorem F_law09_DynNeedsr3_W {T : Tab} {env : Env} {H : Heap} {Q : Post} : W T (.reg F_law09_DynNeedsr3) env H Q ↔ WR T F_law09_DynNeedsr3 [
  ⟨some 13, .mv (.t 0), none⟩,
  ⟨some 14, .callc 31 [(.t 13)], none⟩,
  ⟨some 12, .mv (.t 14), none⟩,
  ⟨some 15, .ext (.t 12) 0, none⟩,
  ⟨some 16, .ext (.t 12) 1, none⟩,
  ⟨some 3, .alloc 16 [.int .u16 0, .slice none 0 0, .int .u32 0, .int .u32 0, .int .u64 0, .int .u64 0, .int .u64 0, .int .u64 0, .int .u64 0, .int .u32 0, .int .u32 0, .int .u64 0, .int .u64 0, .int .u64 0, .int .u64 0, .int .u64 0], none⟩,
  ⟨none, .store 16 (.t 3) (.t 15), none⟩,
  ⟨some 4, .mv (.t 16), none⟩] env H none [] Q := w_reg
def F_law09_DynNeedsr4 : List IStmt := [
  ⟨some 17, .mv (.t 4), none⟩,
  ⟨some 18, .bin .neq (.t 17) (.c (.int .i64 0)), none⟩]
theorem F_law09_DynNeedsr4_W {T : Tab} {env : Env} {H : Heap} {Q : Post} : W T (.reg F_law09_DynNeedsr4) env H Q ↔ WR T F_law09_DynNeedsr4 [
  ⟨some 17, .mv (.t 4), none⟩,
  ⟨some 18, .bin .neq (.t 17) (.c (.int .i64 0)), none⟩] env H none [] Q := w_reg
def F_law09_DynNeedsr5 : List IStmt := [
  ⟨some 19, .callc 32 [], none⟩,
  ⟨some 2, .mv (.t 19), none⟩]
theorem F_law09_DynNeedsr5_W {T : Tab} {env : Env} {H : Heap} {Q : Post} : W T (.reg F_law09_DynNeedsr5) env H Q ↔ WR T F_law09_DynNeedsr5 [
  ⟨some 19, .callc 32 [], none⟩,
  ⟨some 2, .mv (.t 19), none⟩] env H none [] Q := w_reg
def F_law09_DynNeedsr6 : List IStmt := [
  ⟨some 21, .mv (.t 0), none⟩,
  ⟨some 22, .loadN 16 (.t 3), none⟩,
  ⟨some 23, .callc 33 [(.t 21), (.t 22)], none⟩,
  ⟨some 20, .mv (.t 23), none⟩,
  ⟨some 24, .ext (.t 20) 0, none⟩,
  ⟨some 25, .ext (.t 20) 1, none⟩,
  ⟨some 5, .alloc 40 [.string ⟨#[]⟩, .string ⟨#[]⟩, .slice none 0 0, .bool false, .bool false, .bool false, .bool false, .int .u64 0, .int .u64 0, .int .u64 0, .int .u64 0, .int .u64 0, .int .u64 0, .int .u64 0, .int .u64 0, .int .u64 0, .int .u64 0, .bool false, .int .u64 0, .int .u64 0, .bool false, .int .u64 0, .int .u64 0, .bool false, .int .u64 0, .int .u64 0, .bool false, .int .u64 0, .int .u64 0, .bool false, .int .u64 0, .int .u64 0, .bool false, .bool false, .bool false, .int .u64 0, .int .u64 0, .bool false, .int .u64 0, .int .u64 0], none⟩,
  ⟨none, .store 40 (.t 5) (.t 24), none⟩,
  ⟨some 6, .mv (.t 25), none⟩]
theorem F_law09_DynNeedsr6_W {T : Tab} {env : Env} {H : Heap} {Q : Post} : W T (.reg F_law09_DynNeedsr6) env H Q ↔ WR T F_law09_DynNeedsr6 [
  ⟨some 21, .mv (.t 0), none⟩,
  ⟨some 22, .loadN 16 (.t 3), none⟩,
  ⟨some 23, .callc 33 [(.t 21), (.t 22)], none⟩,
  ⟨some 20, .mv (.t 23), none⟩,
  ⟨some 24, .ext (.t 20) 0, none⟩,
  ⟨some 25, .ext (.t 20) 1, none⟩,
  ⟨some 5, .alloc 40 [.string ⟨#[]⟩, .string ⟨#[]⟩, .slice none 0 0, .bool false, .bool false, .bool false, .bool false, .int .u64 0, .int .u64 0, .int .u64 0, .int .u64 0, .int .u64 0, .int .u64 0, .int .u64 0, .int .u64 0, .int .u64 0, .int .u64 0, .bool false, .int .u64 0, .int .u64 0, .bool false, .int .u64 0, .int .u64 0, .bool false, .int .u64 0, .int .u64 0, .bool false, .int .u64 0, .int .u64 0, .bool false, .int .u64 0, .int .u64 0, .bool false, .bool false, .bool false, .int .u64 0, .int .u64 0, .bool false, .int .u64 0, .int .u64 0], none⟩,
  ⟨none, .store 40 (.t 5) (.t 24), none⟩,
  ⟨some 6, .mv (.t 25), none⟩] env H none [] Q := w_reg
def F_law09_DynNeedsr7 : List IStmt := [
  ⟨some 26, .mv (.t 6), none⟩,
  ⟨some 27, .bin .neq (.t 26) (.c (.int .i64 0)), none⟩]
theorem F_law09_DynNeedsr7_W {T : Tab} {env : Env} {H : Heap} {Q : Post} : W T (.reg F_law09_DynNeedsr7) env H Q ↔ WR T F_law09_DynNeedsr7 [
  ⟨some 26, .mv (.t 6), none⟩,
  ⟨some 27, .bin .neq (.t 26) (.c (.int .i64 0)), none⟩] env H none [] Q := w_reg
def F_law09_DynNeedsr8 : List IStmt := [
  ⟨some 28, .loadN 40 (.t 5), none⟩,
  ⟨some 29, .bld [.string ⟨#[]⟩, .string ⟨#[]⟩, .slice none 0 0, .bool false, .bool false, .bool false, .bool false, .int .u64 0, .int .u64 0, .int .u64 0, .int .u64 0, .int .u64 0, .int .u64 0, .int .u64 0, .int .u64 0, .int .u64 0, .int .u64 0, .bool false, .int .u64 0, .int .u64 0, .bool false, .int .u64 0, .int .u64 0, .bool false, .int .u64 0, .int .u64 0, .bool false, .int .u64 0, .int .u64 0, .bool false, .int .u64 0, .int .u64 0, .bool false, .bool false, .bool false, .int .u64 0, .int .u64 0, .bool false, .int .u64 0, .int .u64 0] [], none⟩,
  ⟨some 30, .callc 34 [(.t 28), (.t 29)], none⟩,
  ⟨some 31, .mv (.t 30), none⟩,
  ⟨some 32, .callc 32 [], some (3, true)⟩,
  ⟨some 33, .pick (.t 31) (.t 32) (.c (.bool false)), none⟩,
  ⟨some 2, .mv (.t 33), none⟩]
theorem F_law09_DynNeedsr8_W {T : Tab} {env : Env} {H : Heap} {Q : Post} : W T (.reg F_law09_DynNeedsr8) env H Q ↔ WR T F_law09_DynNeedsr8 [
  ⟨some 28, .loadN 40 (.t 5), none⟩,
  ⟨some 29, .bld [.string ⟨#[]⟩, .string ⟨#[]⟩, .slice none 0 0, .bool false, .bool false, .bool false, .bool false, .int .u64 0, .int .u64 0, .int .u64 0, .int .u64 0, .int .u64 0, .int .u64 0, .int .u64 0, .int .u64 0, .int .u64 0, .int .u64 0, .bool false, .int .u64 0, .int .u64 0, .bool false, .int .u64 0, .int .u64 0, .bool false, .int .u64 0, .int .u64 0, .bool false, .int .u64 0, .int .u64 0, .bool false, .int .u64 0, .int .u64 0, .bool false, .bool false, .bool false, .int .u64 0, .int .u64 0, .bool false, .int .u64 0, .int .u64 0] [], none⟩,
  ⟨some 30, .callc 34 [(.t 28), (.t 29)], none⟩,
  ⟨some 31, .mv (.t 30), none⟩,
  ⟨some 32, .callc 32 [], some (3, true)⟩,
  ⟨some 33, .pick (.t 31) (.t 32) (.c (.bool false)), none⟩,
  ⟨some 2, .mv (.t 33), none⟩] env H none [] Q := w_reg
theorem F_law09_DynNeedsr8_g3 {env : Env} : yieldI F_law09_DynNeedsr8 env 3 = bOf (env 31) := rfl
def F_law09_DynNeedsr9 : List IStmt := [
  ⟨some 34, .fa 2 (.t 5), none⟩,
  ⟨some 35, .load (.t 34), none⟩,
  ⟨some 36, .len 1 (.t 35), none⟩,
  ⟨some 37, .bin .gtr (.t 36) (.c (.int .i64 16)), none⟩,
  ⟨some 38, .mv (.t 37), none⟩,
  ⟨some 39, .fa 0 (.t 5), some (4, false)⟩,
  ⟨some 40, .load (.t 39), some (4, false)⟩,
  ⟨some 41, .callc 35 [(.t 40)], some (4, false)⟩,
  ⟨some 42, .un .not (.t 41), some (4, false)⟩,
  ⟨some 43, .pick (.t 38) (.c (.bool true)) (.t 42), none⟩,
  ⟨some 44, .mv (.t 43), none⟩,
  ⟨some 45, .fa 1 (.t 5), some (10, false)⟩,
  ⟨some 46, .load (.t 45), some (10, false)⟩,
  ⟨some 47, .callc 35 [(.t 46)], some (10, false)⟩,
  ⟨some 48, .un .not (.t 47), some (10, false)⟩,
  ⟨some 49, .pick (.t 44) (.c (.bool true)) (.t 48), none⟩,
  ⟨some 50, .mv (.t 49), none⟩,
  ⟨some 51, .fa 6 (.t 5), some (16, false)⟩,
  ⟨some 52, .fa 0 (.t 51), some (16, false)⟩,
  ⟨some 53, .load (.t 52), some (16, false)⟩,
  ⟨some 54, .un .not (.t 53), some (16, false)⟩,
  ⟨some 55, .pick (.t 50) (.c (.bool true)) (.t 54), none⟩]
theorem F_law09_DynNeedsr9_W {T : Tab} {env : Env} {H : Heap} {Q : Post} : W T (.reg F_law09_DynNeedsr9) env H Q ↔ WR T F_law09_DynNeedsr9 [
  ⟨some 34, .fa 2 (.t 5), none⟩,
  ⟨some 35, .load (.t 34), none⟩,
  ⟨some 36, .len 1 (.t 35), none⟩,
  ⟨some 37, .bin .gtr (.t 36) (.c (.int .i64 16)), none⟩,
  ⟨some 38, .mv (.t 37), none⟩,
  ⟨some 39, .fa 0 (.t 5), some (4, false)⟩,
  ⟨some 40, .load (.t 39), some (4, false)⟩,
  ⟨some 41, .callc 35 [(.t 40)], some (4, false)⟩,
  ⟨some 42, .un .not (.t 41), some (4, false)⟩,
  ⟨some 43, .pick (.t 38) (.c (.bool true)) (.t 42), none⟩,
  ⟨some 44, .mv (.t 43), none⟩,
  ⟨some 45, .fa 1 (.t 5), some (10, false)⟩,
  ⟨some 46, .load (.t 45), some (10, false)⟩,
  ⟨some 47, .callc 35 [(.t 46)], some (10, false)⟩,
  ⟨some 48, .un .not (.t 47), some (10, false)⟩,
  ⟨some 49, .pick (.t 44) (.c (.bool true)) (.t 48), none⟩,
  ⟨some 50, .mv (.t 49), none⟩,
  ⟨some 51, .fa 6 (.t 5), some (16, false)⟩,
  ⟨some 52, .fa 0 (.t 51), some (16, false)⟩,
  ⟨some 53, .load (.t 52), some (16, false)⟩,
  ⟨some 54, .un .not (.t 53), some (16, false)⟩,
  ⟨some 55, .pick (.t 50) (.c (.bool true)) (.t 54), none⟩] env H none [] Q := w_reg
theorem F_law09_DynNeedsr9_g4 {env : Env} : yieldI F_law09_DynNeedsr9 env 4 = bOf (env 38) := rfl
theorem F_law09_DynNeedsr9_g10 {env : Env} : yieldI F_law09_DynNeedsr9 env 10 = bOf (env 44) := rfl
theorem F_law09_DynNeedsr9_g16 {env : Env} : yieldI F_law09_DynNeedsr9 env 16 = bOf (env 50) := rfl
def F_law09_DynNeedsr10 : List IStmt := [
  ⟨some 2, .mv (.c (.bool false)), none⟩]
theorem F_law09_DynNeedsr10_W {T : Tab} {env : Env} {H : Heap} {Q : Post} : W T (.reg F_law09_DynNeedsr10) env H Q ↔ WR T F_law09_DynNeedsr10 [
  ⟨some 2, .mv (.c (.bool false)), none⟩] env H none [] Q := w_reg
def F_law09_DynNeedsr11 : List IStmt := [
  ⟨some 7, .mv (.c (.int .i64 0)), none⟩]
theorem F_law09_DynNeedsr11_W {T : Tab} {env : Env} {H : Heap} {Q : Post} : W T (.reg F_law09_DynNeedsr11) env H Q ↔ WR T F_law09_DynNeedsr11 [
  ⟨some 7, .mv (.c (.int .i64 0)), none⟩] env H none [] Q := w_reg
def F_law09_DynNeedsr12 : List IStmt := [
  ⟨some 56, .mv (.t 7), none⟩,
  ⟨some 57, .fa 2 (.t 5), none⟩,
  ⟨some 58, .load (.t 57), none⟩,
  ⟨some 59, .len 1 (.t 58), none⟩,
  ⟨some 60, .bin .lss (.t 56) (.t 59), none⟩]
theorem F_law09_DynNeedsr12_W {T : Tab} {env : Env} {H : Heap} {Q : Post} : W T (.reg F_law09_DynNeedsr12) env H Q ↔ WR T F_law09_DynNeedsr12 [
  ⟨some 56, .mv (.t 7), none⟩,
  ⟨some 57, .fa 2 (.t 5), none⟩,
  ⟨some 58, .load (.t 57), none⟩,
  ⟨some 59, .len 1 (.t 58), none⟩,
  ⟨some 60, .bin .lss (.t 56) (.t 59), none⟩] env H none [] Q := w_reg
def F_law09_DynNeedsr14 : List IStmt := [
  ⟨some 63, .fa 2 (.t 5), none⟩,
  ⟨some 64, .load (.t 63), none⟩,
  ⟨some 65, .mv (.t 7), none⟩,
  ⟨some 66, .ixa 1 (.t 64) (.t 65), none⟩,
  ⟨some 67, .load (.t 66), none⟩,
  ⟨some 68, .bin .eql (.t 67) (.c (.string ⟨#[]⟩)), none⟩,
  ⟨some 69, .mv (.t 68), none⟩,
  ⟨some 70, .fa 2 (.t 5), some (6, false)⟩,
  ⟨some 71, .load (.t 70), some (6, false)⟩,
  ⟨some 72, .mv (.t 7), some (6, false)⟩,
  ⟨some 73, .ixa 1 (.t 71) (.t 72), some (6, false)⟩,
  ⟨some 74, .load (.t 73), some (6, false)⟩,
  ⟨some 75, .callc 35 [(.t 74)], some (6, false)⟩,
  ⟨some 76, .un .not (.t 75), some (6, false)⟩,
  ⟨some 77, .pick (.t 69) (.c (.bool true)) (.t 76), none⟩]
theorem F_law09_DynNeedsr14_W {T : Tab} {env : Env} {H : Heap} {Q : Post} : W T (.reg F_law09_DynNeedsr14) env H Q ↔ WR T F_law09_DynNeedsr14 [
  ⟨some 63, .fa 2 (.t 5), none⟩,
  ⟨some 64, .load (.t 63), none⟩,
  ⟨some 65, .mv (.t 7), none⟩,
  ⟨some 66, .ixa 1 (.t 64) (.t 65), none⟩,
  ⟨some 67, .load (.t 66), none⟩,
  ⟨some 68, .bin .eql (.t 67) (.c (.string ⟨#[]⟩)), none⟩,
  ⟨some 69, .mv (.t 68), none⟩,
  ⟨some 70, .fa 2 (.t 5), some (6, false)⟩,
  ⟨some 71, .load (.t 70), some (6, false)⟩,
  ⟨some 72, .mv (.t 7), some (6, false)⟩,
  ⟨some 73, .ixa 1 (.t 71) (.t 72), some (6, false)⟩,
  ⟨some 74, .load (.t 73), some (6, false)⟩,
  ⟨some 75, .callc 35 [(.t 74)], some (6, false)⟩,
  ⟨some 76, .un .not (.t 75), some (6, false)⟩,
  ⟨some 77, .pick (.t 69) (.c (.bool true)) (.t 76), none⟩] env H none [] Q := w_reg
theorem F_law09_DynNeedsr14_g6 {env : Env} : yieldI F_law09_DynNeedsr14 env 6 = bOf (env 69) := rfl
def F_law09_DynNeedsr15 : List IStmt := [
  ⟨some 2, .mv (.c (.bool false)), none⟩]
theorem F_law09_DynNeedsr15_W {T : Tab} {env : Env} {H : Heap} {Q : Post} : W T (.reg F_law09_DynNeedsr15) env H Q ↔ WR T F_law09_DynNeedsr15 [
  ⟨some 2, .mv (.c (.bool false)), none⟩] env H none [] Q := w_reg
def F_law09_DynNeedsr13 : List IStmt := [
  ⟨some 61, .mv (.t 7), none⟩,
  ⟨some 62, .bin .add (.t 61) (.c (.int .i64 1)), none⟩,
  ⟨some 7, .mv (.t 62), none⟩]
theorem F_law09_DynNeedsr13_W {T : Tab} {env : Env} {H : Heap} {Q : Post} : W T (.reg F_law09_DynNeedsr13) env H Q ↔ WR T F_law09_DynNeedsr13 [
  ⟨some 61, .mv (.t 7), none⟩,
  ⟨some 62, .bin .add (.t 61) (.c (.int .i64 1)), none⟩,
  ⟨some 7, .mv (.t 62), none⟩] env H none [] Q := w_reg
def F_law09_DynNeedsl0 : ICode := (.seq (.seq (.reg F_law09_DynNeedsr12) (.cond (.t 60) .skip (.exit 0))) (.seq (.block 1 (.seq (.reg F_law09_DynNeedsr14) (.cond (.t 77) (.seq (.reg F_law09_DynNeedsr15) .ret) .skip))) (.reg F_law09_DynNeedsr13)))
theorem F_law09_DynNeedsl0_W {T : Tab} {env : Env} {H : Heap} {Q : Post} : W T F_law09_DynNeedsl0 env H Q ↔ W T (.seq (.seq (.reg F_law09_DynNeedsr12) (.cond (.t 60) .skip (.exit 0))) (.seq (.block 1 (.seq (.reg F_law09_DynNeedsr14) (.cond (.t 77) (.seq (.reg F_law09_DynNeedsr15) .ret) .skip))) (.reg F_law09_DynNeedsr13))) env H Q := Iff.rfl
def F_law09_DynNeedsr16 : List IStmt := [
  ⟨some 78, .bld [.bool false, .int .u64 0, .int .u64 0] [], none⟩,
  ⟨some 8, .alloc 3 [.bool false, .int .u64 0, .int .u64 0], none⟩,
  ⟨none, .store 3 (.t 8) (.t 78), none⟩]
theorem F_law09_DynNeedsr16_W {T : Tab} {env : Env} {H : Heap} {Q : Post} : W T (.reg F_law09_DynNeedsr16) env H Q ↔ WR T F_law09_DynNeedsr16 [
  ⟨some 78, .bld [.bool false, .int .u64 0, .int .u64 0] [], none⟩,
  ⟨some 8, .alloc 3 [.bool false, .int .u64 0, .int .u64 0], none⟩,
  ⟨none, .store 3 (.t 8) (.t 78), none⟩] env H none [] Q := w_reg
def F_law09_DynNeedsr17 : List IStmt := [
  ⟨some 79, .fa 17 (.t 5), none⟩,
  ⟨some 80, .fa 0 (.t 79), none⟩,
  ⟨some 81, .load (.t 80), none⟩,
  ⟨some 82, .mv (.t 81), none⟩,
  ⟨some 83, .fa 17 (.t 5), some (3, false)⟩,
  ⟨some 84, .loadN 3 (.t 83), some (3, false)⟩,
  ⟨some 85, .loadN 3 (.t 8), some (3, false)⟩,
  ⟨some 86, .eqs [1, 0, 0] false (.t 84) (.t 85), some (3, false)⟩,
  ⟨some 87, .pick (.t 82) (.c (.bool true)) (.t 86), none⟩,
  ⟨some 88, .mv (.t 87), none⟩,
  ⟨some 89, .fa 20 (.t 5), some (9, true)⟩,
  ⟨some 90, .fa 0 (.t 89), some (9, true)⟩,
  ⟨some 91, .load (.t 90), some (9, true)⟩,
  ⟨some 92, .mv (.t 91), some (9, true)⟩,
  ⟨some 93, .fa 20 (.t 5), some (13, false)⟩,
  ⟨some 94, .loadN 3 (.t 93), some (13, false)⟩,
  ⟨some 95, .loadN 3 (.t 8), some (13, false)⟩,
  ⟨some 96, .eqs [1, 0, 0] false (.t 94) (.t 95), some (13, false)⟩,
  ⟨some 97, .pick (.t 92) (.c (.bool true)) (.t 96), some (9, true)⟩,
  ⟨some 98, .pick (.t 88) (.t 97) (.c (.bool false)), none⟩,
  ⟨some 99, .mv (.t 98), none⟩,
  ⟨some 100, .fa 23 (.t 5), some (20, true)⟩,
  ⟨some 101, .fa 0 (.t 100), some (20, true)⟩,
  ⟨some 102, .load (.t 101), some (20, true)⟩,
  ⟨some 103, .mv (.t 102), some (20, true)⟩,
  ⟨some 104, .fa 23 (.t 5), some (24, false)⟩,
  ⟨some 105, .loadN 3 (.t 104), some (24, false)⟩,
  ⟨some 106, .loadN 3 (.t 8), some (24, false)⟩,
  ⟨some 107, .eqs [1, 0, 0] false (.t 105) (.t 106), some (24, false)⟩,
  ⟨some 108, .mv (.t 107), some (24, false)⟩,
  ⟨some 109, .fa 32 (.t 5), some (29, true)⟩,
  ⟨some 110, .load (.t 109), some (29, true)⟩,
  ⟨some 111, .un .not (.t 110), some (29, true)⟩,
  ⟨some 112, .pick (.t 108) (.t 111) (.c (.bool false)), some (24, false)⟩,
  ⟨some 113, .pick (.t 103) (.c (.bool true)) (.t 112), some (20, true)⟩,
  ⟨some 114, .pick (.t 99) (.t 113) (.c (.bool false)), none⟩,
  ⟨some 115, .mv (.t 114), none⟩,
  ⟨some 116, .fa 26 (.t 5), some (36, true)⟩,
  ⟨some 117, .fa 0 (.t 116), some (36, true)⟩,
  ⟨some 118, .load (.t 117), some (36, true)⟩,
  ⟨some 119, .mv (.t 118), some (36, true)⟩,
  ⟨some 120, .fa 26 (.t 5), some (40, false)⟩,
  ⟨some 121, .loadN 3 (.t 120), some (40, false)⟩,
  ⟨some 122, .loadN 3 (.t 8), some (40, false)⟩,
  ⟨some 123, .eqs [1, 0, 0] false (.t 121) (.t 122), some (40, false)⟩,
  ⟨some 124, .pick (.t 119) (.c (.bool true)) (.t 123), some (36, true)⟩,
  ⟨some 125, .pick (.t 115) (.t 124) (.c (.bool false)), none⟩,
  ⟨some 126, .mv (.t 125), none⟩,
  ⟨some 127, .fa 29 (.t 5), some (47, true)⟩,
  ⟨some 128, .fa 0 (.t 127), some (47, true)⟩,
  ⟨some 129, .load (.t 128), some (47, true)⟩,
  ⟨some 130, .mv (.t 129), some (47, true)⟩,
  ⟨some 131, .fa 29 (.t 5), some (51, false)⟩,
  ⟨some 132, .loadN 3 (.t 131), some (51, false)⟩,
  ⟨some 133, .loadN 3 (.t 8), some (51, false)⟩,
  ⟨some 134, .eqs [1, 0, 0] false (.t 132) (.t 133), some (51, false)⟩,
  ⟨some 135, .mv (.t 134), some (51, false)⟩,
  ⟨some 136, .fa 33 (.t 5), some (56, true)⟩,
  ⟨some 137, .load (.t 136), some (56, true)⟩,
  ⟨some 138, .un .not (.t 137), some (56, true)⟩,
  ⟨some 139, .pick (.t 135) (.t 138) (.c (.bool false)), some (51, false)⟩,
  ⟨some 140, .pick (.t 130) (.c (.bool true)) (.t 139), some (47, true)⟩,
  ⟨some 141, .pick (.t 126) (.t 140) (.c (.bool false)), none⟩,
  ⟨some 142, .mv (.t 141), none⟩,
  ⟨some 143, .callc 32 [], some (63, true)⟩,
  ⟨some 144, .pick (.t 142) (.t 143) (.c (.bool false)), none⟩,
  ⟨some 2, .mv (.t 144), none⟩]
theorem F_law09_DynNeedsr17_W {T : Tab} {env : Env} {H : Heap} {Q : Post} : W T (.reg F_law09_DynNeedsr17) env H Q ↔ WR T F_law09_DynNeedsr17 [
  ⟨some 79, .fa 17 (.t 5), none⟩,
  ⟨some 80, .fa 0 (.t 79), none⟩,
  ⟨some 81, .load (.t 80), none⟩,
  ⟨some 82, .mv (.t 81), none⟩,
  ⟨some 83, .fa 17 (.t 5), some (3, false)⟩,
  ⟨some 84, .loadN 3 (.t 83), some (3, false)⟩,
  ⟨some 85, .loadN 3 (.t 8), some (3, false)⟩,
  ⟨some 86, .eqs [1, 0, 0] false (.t 84) (.t 85), some (3, false)⟩,
  ⟨some 87, .pick (.t 82) (.c (.bool true)) (.t 86), none⟩,
  ⟨some 88, .mv (.t 87), none⟩,
  ⟨some 89, .fa 20 (.t 5), some (9, true)⟩,
  ⟨some 90, .fa 0 (.t 89), some (9, true)⟩,
  ⟨some 91, .load (.t 90), some (9, true)⟩,
  ⟨some 92, .mv (.t 91), some (9, true)⟩,
  ⟨some 93, .fa 20 (.t 5), some (13, false)⟩,
  ⟨some 94, .loadN 3 (.t 93), some (13, false)⟩,
  ⟨some 95, .loadN 3 (.t 8), some (13, false)⟩,
  ⟨some 96, .eqs [1, 0, 0] false (.t 94) (.t 95), some (13, false)⟩,
  ⟨some 97, .pick (.t 92) (.c (.bool true)) (.t 96), some (9, true)⟩,
  ⟨some 98, .pick (.t 88) (.t 97) (.c (.bool false)), none⟩,
  ⟨some 99, .mv (.t 98), none⟩,
  ⟨some 100, .fa 23 (.t 5), some (20, true)⟩,
  ⟨some 101, .fa 0 (.t 100), some (20, true)⟩,
  ⟨some 102, .load (.t 101), some (20, true)⟩,
  ⟨some 103, .mv (.t 102), some (20, true)⟩,
  ⟨some 104, .fa 23 (.t 5), some (24, false)⟩,
  ⟨some 105, .loadN 3 (.t 104), some (24, false)⟩,
  ⟨some 106, .loadN 3 (.t 8), some (24, false)⟩,
  ⟨some 107, .eqs [1, 0, 0] false (.t 105) (.t 106), some (24, false)⟩,
  ⟨some 108, .mv (.t 107), some (24, false)⟩,
  ⟨some 109, .fa 32 (.t 5), some (29, true)⟩,
  ⟨some 110, .load (.t 109), some (29, true)⟩,
  ⟨some 111, .un .not (.t 110), some (29, true)⟩,
  ⟨some 112, .pick (.t 108) (.t 111) (.c (.bool false)), some (24, false)⟩,
  ⟨some 113, .pick (.t 103) (.c (.bool true)) (.t 112), some (20, true)⟩,
  ⟨some 114, .pick (.t 99) (.t 113) (.c (.bool false)), none⟩,
  ⟨some 115, .mv (.t 114), none⟩,
  ⟨some 116, .fa 26 (.t 5), some (36, true)⟩,
  ⟨some 117, .fa 0 (.t 116), some (36, true)⟩,
  ⟨some 118, .load (.t 117), some (36, true)⟩,
  ⟨some 119, .mv (.t 118), some (36, true)⟩,
  ⟨some 120, .fa 26 (.t 5), some (40, false)⟩,
  ⟨some 121, .loadN 3 (.t 120), some (40, false)⟩,
  ⟨some 122, .loadN 3 (.t 8), some (40, false)⟩,
  ⟨some 123, .eqs [1, 0, 0] false (.t 121) (.t 122), some (40, false)⟩,
  ⟨some 124, .pick (.t 119) (.c (.bool true)) (.t 123), some (36, true)⟩,
  ⟨some 125, .pick (.t 115) (.t 124) (.c (.bool false)), none⟩,
  ⟨some 126, .mv (.t 125), none⟩,
  ⟨some 127, .fa 29 (.t 5), some (47, true)⟩,
  ⟨some 128, .fa 0 (.t 127), some (47, true)⟩,
  ⟨some 129, .load (.t 128), some (47, true)⟩,
  ⟨some 130, .mv (.t 129), some (47, true)⟩,
  ⟨some 131, .fa 29 (.t 5), some (51, false)⟩,
  ⟨some 132, .loadN 3 (.t 131), some (51, false)⟩,
  ⟨some 133, .loadN 3 (.t 8), some (51, false)⟩,
  ⟨some 134, .eqs [1, 0, 0] false (.t 132) (.t 133), some (51, false)⟩,
  ⟨some 135, .mv (.t 134), some (51, false)⟩,
  ⟨some 136, .fa 33 (.t 5), some (56, true)⟩,
  ⟨some 137, .load (.t 136), some (56, true)⟩,
  ⟨some 138, .un .not (.t 137), some (56, true)⟩,
  ⟨some 139, .pick (.t 135) (.t 138) (.c (.bool false)), some (51, false)⟩,
  ⟨some 140, .pick (.t 130) (.c (.bool true)) (.t 139), some (47, true)⟩,
  ⟨some 141, .pick (.t 126) (.t 140) (.c (.bool false)), none⟩,
  ⟨some 142, .mv (.t 141), none⟩,
  ⟨some 143, .callc 32 [], some (63, true)⟩,
  ⟨some 144, .pick (.t 142) (.t 143) (.c (.bool false)), none⟩,
  ⟨some 2, .mv (.t 144), none⟩] env H none [] Q := w_reg
theorem F_law09_DynNeedsr17_g3 {env : Env} : yieldI F_law09_DynNeedsr17 env 3 = bOf (env 82) := rfl
theorem F_law09_DynNeedsr17_g9 {env : Env} : yieldI F_law09_DynNeedsr17 env 9 = bOf (env 88) := rfl
theorem F_law09_DynNeedsr17_g13 {env : Env} : yieldI F_law09_DynNeedsr17 env 13 = bOf (env 92) := rfl
theorem F_law09_DynNeedsr17_g20 {env : Env} : yieldI F_law09_DynNeedsr17 env 20 = bOf (env 99) := rfl
theorem F_law09_DynNeedsr17_g24 {env : Env} : yieldI F_law09_DynNeedsr17 env 24 = bOf (env 103) := rfl
theorem F_law09_DynNeedsr17_g29 {env : Env} : yieldI F_law09_DynNeedsr17 env 29 = bOf (env 108) := rfl
theorem F_law09_DynNeedsr17_g36 {env : Env} : yieldI F_law09_DynNeedsr17 env 36 = bOf (env 115) := rfl
theorem F_law09_DynNeedsr17_g40 {env : Env} : yieldI F_law09_DynNeedsr17 env 40 = bOf (env 119) := rfl
theorem F_law09_DynNeedsr17_g47 {env : Env} : yieldI F_law09_DynNeedsr17 env 47 = bOf (env 126) := rfl
theorem F_law09_DynNeedsr17_g51 {env : Env} : yieldI F_law09_DynNeedsr17 env 51 = bOf (env 130) := rfl
theorem F_law09_DynNeedsr17_g56 {env : Env} : yieldI F_law09_DynNeedsr17 env 56 = bOf (env 135) := rfl
theorem F_law09_DynNeedsr17_g63 {env : Env} : yieldI F_law09_DynNeedsr17 env 63 = bOf (env 142) := rfl
def F_law09_DynNeedsc : ICode := (.seq (.reg F_law09_DynNeedsr0) (.seq (.seq (.reg F_law09_DynNeedsr1) (.cond (.t 11) (.seq (.reg F_law09_DynNeedsr2) .ret) .skip)) (.seq (.reg F_law09_DynNeedsr3) (.seq (.seq (.reg F_law09_DynNeedsr4) (.cond (.t 18) (.seq (.reg F_law09_DynNeedsr5) .ret) .skip)) (.seq (.reg F_law09_DynNeedsr6) (.seq (.seq (.reg F_law09_DynNeedsr7) (.cond (.t 27) (.seq (.reg F_law09_DynNeedsr8) .ret) .skip)) (.seq (.seq (.reg F_law09_DynNeedsr9) (.cond (.t 55) (.seq (.reg F_law09_DynNeedsr10) .ret) .skip)) (.seq (.seq (.reg F_law09_DynNeedsr11) (.block 0 (.loop F_law09_DynNeedsl0))) (.seq (.reg F_law09_DynNeedsr16) (.seq (.reg F_law09_DynNeedsr17) .ret))))))))))
theorem F_law09_DynNeedsc_W {T : Tab} {env : Env} {H : Heap} {Q : Post} : W T F_law09_DynNeedsc env H Q ↔ W T (.seq (.reg F_law09_DynNeedsr0) (.seq (.seq (.reg F_law09_DynNeedsr1) (.cond (.t 11) (.seq (.reg F_law09_DynNeedsr2) .ret) .skip)) (.seq (.reg F_law09_DynNeedsr3) (.seq (.seq (.reg F_law09_DynNeedsr4) (.cond (.t 18) (.seq (.reg F_law09_DynNeedsr5) .ret) .skip)) (.seq (.reg F_law09_DynNeedsr6) (.seq (.seq (.reg F_law09_DynNeedsr7) (.cond (.t 27) (.seq (.reg F_law09_DynNeedsr8) .ret) .skip)) (.seq (.seq (.reg F_law09_DynNeedsr9) (.cond (.t 55) (.seq (.reg F_law09_DynNeedsr10) .ret) .skip)) (.seq (.seq (.reg F_law09_DynNeedsr11) (.block 0 (.loop F_law09_DynNeedsl0))) (.seq (.reg F_law09_DynNeedsr16) (.seq (.reg F_law09_DynNeedsr17) .ret)))))))))) env H Q := Iff.rfl
def F_law09_DynNeeds : IFn := ⟨145, [.tmp 2], F_law09_DynNeedsc⟩
set_option maxRecDepth 1000000 in
theorem F_law09_DynNeeds_chk : chkF Try.prog 11 F_law09_DynNeeds = true := by kernel_rfl

/-- The functions, by number. -/
def TDyn_l : List (Nat × IFn) := TDya_l ++ [(34, F_ref09_Same), (64, F_head_Off), (55, F_head_Part), (69, F_dyn_Strings), (66, F_dyn_known), (53, F_dyn_Entries), (56, F_dyn_gather), (58, F_dyn_table_has), (67, F_dyn_table_area), (68, F_dyn_table_fixed), (57, F_dyn_table_whole), (59, F_dyn_table_texts), (33, F_dyn_Parse), (32, F_law09_alive), (11, F_law09_DynNeeds)]
def TDyn : Tab := tabOf TDyn_l
theorem TDyn_chk : ∀ p ∈ TDyn_l, chkF Try.prog p.1 p.2 = true := by
  intro p hp
  simp only [TDyn_l, List.mem_append, List.mem_cons, List.not_mem_nil, or_false] at hp
  rcases hp with (hp) | rfl | rfl | rfl | rfl | rfl | rfl | rfl | rfl | rfl | rfl | rfl | rfl | rfl | rfl | rfl
  · exact TDya_chk p hp
  · exact F_ref09_Same_chk
  · exact F_head_Off_chk
  · exact F_head_Part_chk
  · exact F_dyn_Strings_chk
  · exact F_dyn_known_chk
  · exact F_dyn_Entries_chk
  · exact F_dyn_gather_chk
  · exact F_dyn_table_has_chk
  · exact F_dyn_table_area_chk
  · exact F_dyn_table_fixed_chk
  · exact F_dyn_table_whole_chk
  · exact F_dyn_table_texts_chk
  · exact F_dyn_Parse_chk
  · exact F_law09_alive_chk
  · exact F_law09_DynNeeds_chk
theorem TDyn_good : Good Try.prog TDyn := good_tab (by kernel_rfl) TDyn_chk

end Go.Proofs.Ytdkdifjjpbfohaa
