/- The small language's text of functions of the given program, and the check that it stands for them. Printed by a program. -/
import Derived.Test.YtbhoaiacnoiocaaDoorFwC
import Derived.Test.YtbhoaiacnoiocaaDoorChecked
import Derived.Test.YtbhoaiacnoiocaaDoorCfNat
import Derived.KernelRfl
namespace Go.Proofs.YtbhoaiacnoiocaaDoor
open Go Fw

/-! ### ref18_Name -/
def F_ref18_Namer0 : List IStmt := [
  ⟨some 2, .mv (.c (.bool false)), none⟩]
theorem F_ref18_Namer0_W {T : Tab} {env : Env} {H : Heap} {Q : Post} : W T (.reg F_ref18_Namer0) env H Q ↔ WR T F_ref18_Namer0 [
  ⟨some 2, .mv (.c (.bool false)), none⟩] env H none [] Q := w_reg
def F_ref18_Namer1 : List IStmt := [
  ⟨some 3, .mv (.c (.int .i64 0)), none⟩]
theorem F_ref18_Namer1_W {T : Tab} {env : Env} {H : Heap} {Q : Post} : W T (.reg F_ref18_Namer1) env H Q ↔ WR T F_ref18_Namer1 [
  ⟨some 3, .mv (.c (.int .i64 0)), none⟩] env H none [] Q := w_reg
def F_ref18_Namer2 : List IStmt := [
  ⟨some 5, .mv (.t 3), none⟩,
  ⟨some 6, .mv (.t 0), none⟩,
  ⟨some 7, .len 0 (.t 6), none⟩,
  ⟨some 8, .bin .lss (.t 5) (.t 7), none⟩]
theorem F_ref18_Namer2_W {T : Tab} {env : Env} {H : Heap} {Q : Post} : W T (.reg F_ref18_Namer2) env H Q ↔ WR T F_ref18_Namer2 [
  ⟨some 5, .mv (.t 3), none⟩,
  ⟨some 6, .mv (.t 0), none⟩,
  ⟨some 7, .len 0 (.t 6), none⟩,
  ⟨some 8, .bin .lss (.t 5) (.t 7), none⟩] env H none [] Q := w_reg
def F_ref18_Namer4 : List IStmt := [
  ⟨some 11, .mv (.t 0), none⟩,
  ⟨some 12, .mv (.t 3), none⟩,
  ⟨some 13, .ixs (.t 11) (.t 12), none⟩,
  ⟨some 4, .mv (.t 13), none⟩]
theorem F_ref18_Namer4_W {T : Tab} {env : Env} {H : Heap} {Q : Post} : W T (.reg F_ref18_Namer4) env H Q ↔ WR T F_ref18_Namer4 [
  ⟨some 11, .mv (.t 0), none⟩,
  ⟨some 12, .mv (.t 3), none⟩,
  ⟨some 13, .ixs (.t 11) (.t 12), none⟩,
  ⟨some 4, .mv (.t 13), none⟩] env H none [] Q := w_reg
def F_ref18_Namer5 : List IStmt := [
  ⟨some 14, .mv (.t 4), none⟩,
  ⟨some 15, .bin .geq (.t 14) (.c (.int .u8 97)), none⟩,
  ⟨some 16, .mv (.t 15), none⟩,
  ⟨some 17, .mv (.t 4), some (2, true)⟩,
  ⟨some 18, .bin .leq (.t 17) (.c (.int .u8 122)), some (2, true)⟩,
  ⟨some 19, .pick (.t 16) (.t 18) (.c (.bool false)), none⟩,
  ⟨some 20, .mv (.t 19), none⟩,
  ⟨some 21, .mv (.t 4), some (6, false)⟩,
  ⟨some 22, .bin .geq (.t 21) (.c (.int .u8 65)), some (6, false)⟩,
  ⟨some 23, .mv (.t 22), some (6, false)⟩,
  ⟨some 24, .mv (.t 4), some (9, true)⟩,
  ⟨some 25, .bin .leq (.t 24) (.c (.int .u8 90)), some (9, true)⟩,
  ⟨some 26, .pick (.t 23) (.t 25) (.c (.bool false)), some (6, false)⟩,
  ⟨some 27, .pick (.t 20) (.c (.bool true)) (.t 26), none⟩,
  ⟨some 28, .mv (.t 27), none⟩,
  ⟨some 29, .mv (.t 4), some (14, false)⟩,
  ⟨some 30, .bin .geq (.t 29) (.c (.int .u8 48)), some (14, false)⟩,
  ⟨some 31, .mv (.t 30), some (14, false)⟩,
  ⟨some 32, .mv (.t 4), some (17, true)⟩,
  ⟨some 33, .bin .leq (.t 32) (.c (.int .u8 57)), some (17, true)⟩,
  ⟨some 34, .pick (.t 31) (.t 33) (.c (.bool false)), some (14, false)⟩,
  ⟨some 35, .pick (.t 28) (.c (.bool true)) (.t 34), none⟩,
  ⟨some 36, .mv (.t 35), none⟩,
  ⟨some 37, .mv (.t 4), some (22, false)⟩,
  ⟨some 38, .bin .eql (.t 37) (.c (.int .u8 46)), some (22, false)⟩,
  ⟨some 39, .pick (.t 36) (.c (.bool true)) (.t 38), none⟩,
  ⟨some 40, .mv (.t 39), none⟩,
  ⟨some 41, .mv (.t 4), some (26, false)⟩,
  ⟨some 42, .bin .eql (.t 41) (.c (.int .u8 95)), some (26, false)⟩,
  ⟨some 43, .pick (.t 40) (.c (.bool true)) (.t 42), none⟩,
  ⟨some 44, .mv (.t 43), none⟩,
  ⟨some 45, .mv (.t 4), some (30, false)⟩,
  ⟨some 46, .bin .eql (.t 45) (.c (.int .u8 45)), some (30, false)⟩,
  ⟨some 47, .pick (.t 44) (.c (.bool true)) (.t 46), none⟩,
  ⟨some 48, .un .not (.t 47), none⟩]
theorem F_ref18_Namer5_W {T : Tab} {env : Env} {H : Heap} {Q : Post} : W T (.reg F_ref18_Namer5) env H Q ↔ WR T F_ref18_Namer5 [
  ⟨some 14, .mv (.t 4), none⟩,
  ⟨some 15, .bin .geq (.t 14) (.c (.int .u8 97)), none⟩,
  ⟨some 16, .mv (.t 15), none⟩,
  ⟨some 17, .mv (.t 4), some (2, true)⟩,
  ⟨some 18, .bin .leq (.t 17) (.c (.int .u8 122)), some (2, true)⟩,
  ⟨some 19, .pick (.t 16) (.t 18) (.c (.bool false)), none⟩,
  ⟨some 20, .mv (.t 19), none⟩,
  ⟨some 21, .mv (.t 4), some (6, false)⟩,
  ⟨some 22, .bin .geq (.t 21) (.c (.int .u8 65)), some (6, false)⟩,
  ⟨some 23, .mv (.t 22), some (6, false)⟩,
  ⟨some 24, .mv (.t 4), some (9, true)⟩,
  ⟨some 25, .bin .leq (.t 24) (.c (.int .u8 90)), some (9, true)⟩,
  ⟨some 26, .pick (.t 23) (.t 25) (.c (.bool false)), some (6, false)⟩,
  ⟨some 27, .pick (.t 20) (.c (.bool true)) (.t 26), none⟩,
  ⟨some 28, .mv (.t 27), none⟩,
  ⟨some 29, .mv (.t 4), some (14, false)⟩,
  ⟨some 30, .bin .geq (.t 29) (.c (.int .u8 48)), some (14, false)⟩,
  ⟨some 31, .mv (.t 30), some (14, false)⟩,
  ⟨some 32, .mv (.t 4), some (17, true)⟩,
  ⟨some 33, .bin .leq (.t 32) (.c (.int .u8 57)), some (17, true)⟩,
  ⟨some 34, .pick (.t 31) (.t 33) (.c (.bool false)), some (14, false)⟩,
  ⟨some 35, .pick (.t 28) (.c (.bool true)) (.t 34), none⟩,
  ⟨some 36, .mv (.t 35), none⟩,
  ⟨some 37, .mv (.t 4), some (22, false)⟩,
  ⟨some 38, .bin .eql (.t 37) (.c (.int .u8 46)), some (22, false)⟩,
  ⟨some 39, .pick (.t 36) (.c (.bool true)) (.t 38), none⟩,
  ⟨some 40, .mv (.t 39), none⟩,
  ⟨some 41, .mv (.t 4), some (26, false)⟩,
  ⟨some 42, .bin .eql (.t 41) (.c (.int .u8 95)), some (26, false)⟩,
  ⟨some 43, .pick (.t 40) (.c (.bool true)) (.t 42), none⟩,
  ⟨some 44, .mv (.t 43), none⟩,
  ⟨some 45, .mv (.t 4), some (30, false)⟩,
  ⟨some 46, .bin .eql (.t 45) (.c (.int .u8 45)), some (30, false)⟩,
  ⟨some 47, .pick (.t 44) (.c (.bool true)) (.t 46), none⟩,
  ⟨some 48, .un .not (.t 47), none⟩] env H none [] Q := w_reg
theorem F_ref18_Namer5_g2 {env : Env} : yieldI F_ref18_Namer5 env 2 = bOf (env 16) := rfl
theorem F_ref18_Namer5_g6 {env : Env} : yieldI F_ref18_Namer5 env 6 = bOf (env 20) := rfl
theorem F_ref18_Namer5_g9 {env : Env} : yieldI F_ref18_Namer5 env 9 = bOf (env 23) := rfl
theorem F_ref18_Namer5_g14 {env : Env} : yieldI F_ref18_Namer5 env 14 = bOf (env 28) := rfl
theorem F_ref18_Namer5_g17 {env : Env} : yieldI F_ref18_Namer5 env 17 = bOf (env 31) := rfl
theorem F_ref18_Namer5_g22 {env : Env} : yieldI F_ref18_Namer5 env 22 = bOf (env 36) := rfl
theorem F_ref18_Namer5_g26 {env : Env} : yieldI F_ref18_Namer5 env 26 = bOf (env 40) := rfl
theorem F_ref18_Namer5_g30 {env : Env} : yieldI F_ref18_Namer5 env 30 = bOf (env 44) := rfl
def F_ref18_Namer6 : List IStmt := [
  ⟨some 2, .mv (.c (.bool false)), none⟩]
theorem F_ref18_Namer6_W {T : Tab} {env : Env} {H : Heap} {Q : Post} : W T (.reg F_ref18_Namer6) env H Q ↔ WR T F_ref18_Namer6 [
  ⟨some 2, .mv (.c (.bool false)), none⟩] env H none [] Q := w_reg
def F_ref18_Namer3 : List IStmt := [
  ⟨some 9, .mv (.t 3), none⟩,
  ⟨some 10, .bin .add (.t 9) (.c (.int .i64 1)), none⟩,
  ⟨some 3, .mv (.t 10), none⟩]
theorem F_ref18_Namer3_W {T : Tab} {env : Env} {H : Heap} {Q : Post} : W T (.reg F_ref18_Namer3) env H Q ↔ WR T F_ref18_Namer3 [
  ⟨some 9, .mv (.t 3), none⟩,
  ⟨some 10, .bin .add (.t 9) (.c (.int .i64 1)), none⟩,
  ⟨some 3, .mv (.t 10), none⟩] env H none [] Q := w_reg
def F_ref18_Namel0 : ICode := (.seq (.seq (.reg F_ref18_Namer2) (.cond (.t 8) .skip (.exit 0))) (.seq (.block 1 (.seq (.reg F_ref18_Namer4) (.seq (.reg F_ref18_Namer5) (.cond (.t 48) (.seq (.reg F_ref18_Namer6) .ret) .skip)))) (.reg F_ref18_Namer3)))
theorem F_ref18_Namel0_W {T : Tab} {env : Env} {H : Heap} {Q : Post} : W T F_ref18_Namel0 env H Q ↔ W T (.seq (.seq (.reg F_ref18_Namer2) (.cond (.t 8) .skip (.exit 0))) (.seq (.block 1 (.seq (.reg F_ref18_Namer4) (.seq (.reg F_ref18_Namer5) (.cond (.t 48) (.seq (.reg F_ref18_Namer6) .ret) .skip)))) (.reg F_ref18_Namer3))) env H Q := Iff.rfl
def F_ref18_Namer7 : List IStmt := [
  ⟨some 49, .mv (.t 0), none⟩,
  ⟨some 50, .len 0 (.t 49), none⟩,
  ⟨some 51, .bin .geq (.t 50) (.c (.int .i64 1)), none⟩,
  ⟨some 52, .mv (.t 51), none⟩,
  ⟨some 53, .mv (.t 0), some (3, true)⟩,
  ⟨some 54, .len 0 (.t 53), some (3, true)⟩,
  ⟨some 55, .bin .leq (.t 54) (.c (.int .i64 256)), some (3, true)⟩,
  ⟨some 56, .pick (.t 52) (.t 55) (.c (.bool false)), none⟩,
  ⟨some 2, .mv (.t 56), none⟩]
theorem F_ref18_Namer7_W {T : Tab} {env : Env} {H : Heap} {Q : Post} : W T (.reg F_ref18_Namer7) env H Q ↔ WR T F_ref18_Namer7 [
  ⟨some 49, .mv (.t 0), none⟩,
  ⟨some 50, .len 0 (.t 49), none⟩,
  ⟨some 51, .bin .geq (.t 50) (.c (.int .i64 1)), none⟩,
  ⟨some 52, .mv (.t 51), none⟩,
  ⟨some 53, .mv (.t 0), some (3, true)⟩,
  ⟨some 54, .len 0 (.t 53), some (3, true)⟩,
  ⟨some 55, .bin .leq (.t 54) (.c (.int .i64 256)), some (3, true)⟩,
  ⟨some 56, .pick (.t 52) (.t 55) (.c (.bool false)), none⟩,
  ⟨some 2, .mv (.t 56), none⟩] env H none [] Q := w_reg
theorem F_ref18_Namer7_g3 {env : Env} : yieldI F_ref18_Namer7 env 3 = bOf (env 52) := rfl
def F_ref18_Namec : ICode := (.seq (.reg F_ref18_Namer0) (.seq (.seq (.reg F_ref18_Namer1) (.block 0 (.loop F_ref18_Namel0))) (.seq (.reg F_ref18_Namer7) .ret)))
theorem F_ref18_Namec_W {T : Tab} {env : Env} {H : Heap} {Q : Post} : W T F_ref18_Namec env H Q ↔ W T (.seq (.reg F_ref18_Namer0) (.seq (.seq (.reg F_ref18_Namer1) (.block 0 (.loop F_ref18_Namel0))) (.seq (.reg F_ref18_Namer7) .ret))) env H Q := Iff.rfl
def F_ref18_Name : IFn := ⟨57, [.tmp 2], F_ref18_Namec⟩
set_option maxRecDepth 1000000 in
theorem F_ref18_Name_chk : chkF Tryd.prog 6 F_ref18_Name = true := by kernel_rfl

/-! ### ref18_Ends -/
def F_ref18_Endsr0 : List IStmt := [
  ⟨some 4, .mv (.c (.bool false)), none⟩]
theorem F_ref18_Endsr0_W {T : Tab} {env : Env} {H : Heap} {Q : Post} : W T (.reg F_ref18_Endsr0) env H Q ↔ WR T F_ref18_Endsr0 [
  ⟨some 4, .mv (.c (.bool false)), none⟩] env H none [] Q := w_reg
def F_ref18_Endsr1 : List IStmt := [
  ⟨some 5, .mv (.t 0), none⟩,
  ⟨some 6, .len 0 (.t 5), none⟩,
  ⟨some 7, .mv (.t 1), none⟩,
  ⟨some 8, .len 0 (.t 7), none⟩,
  ⟨some 9, .bin .geq (.t 6) (.t 8), none⟩,
  ⟨some 10, .mv (.t 9), none⟩,
  ⟨some 11, .mv (.t 0), some (5, true)⟩,
  ⟨some 12, .mv (.t 0), some (5, true)⟩,
  ⟨some 13, .len 0 (.t 12), some (5, true)⟩,
  ⟨some 14, .mv (.t 1), some (5, true)⟩,
  ⟨some 15, .len 0 (.t 14), some (5, true)⟩,
  ⟨some 16, .bin .sub (.t 13) (.t 15), some (5, true)⟩,
  ⟨some 17, .sls (.t 11) (some (.t 16)) none, some (5, true)⟩,
  ⟨some 18, .mv (.t 1), some (5, true)⟩,
  ⟨some 19, .bin .eql (.t 17) (.t 18), some (5, true)⟩,
  ⟨some 20, .pick (.t 10) (.t 19) (.c (.bool false)), none⟩,
  ⟨some 4, .mv (.t 20), none⟩]
theorem F_ref18_Endsr1_W {T : Tab} {env : Env} {H : Heap} {Q : Post} : W T (.reg F_ref18_Endsr1) env H Q ↔ WR T F_ref18_Endsr1 [
  ⟨some 5, .mv (.t 0), none⟩,
  ⟨some 6, .len 0 (.t 5), none⟩,
  ⟨some 7, .mv (.t 1), none⟩,
  ⟨some 8, .len 0 (.t 7), none⟩,
  ⟨some 9, .bin .geq (.t 6) (.t 8), none⟩,
  ⟨some 10, .mv (.t 9), none⟩,
  ⟨some 11, .mv (.t 0), some (5, true)⟩,
  ⟨some 12, .mv (.t 0), some (5, true)⟩,
  ⟨some 13, .len 0 (.t 12), some (5, true)⟩,
  ⟨some 14, .mv (.t 1), some (5, true)⟩,
  ⟨some 15, .len 0 (.t 14), some (5, true)⟩,
  ⟨some 16, .bin .sub (.t 13) (.t 15), some (5, true)⟩,
  ⟨some 17, .sls (.t 11) (some (.t 16)) none, some (5, true)⟩,
  ⟨some 18, .mv (.t 1), some (5, true)⟩,
  ⟨some 19, .bin .eql (.t 17) (.t 18), some (5, true)⟩,
  ⟨some 20, .pick (.t 10) (.t 19) (.c (.bool false)), none⟩,
  ⟨some 4, .mv (.t 20), none⟩] env H none [] Q := w_reg
theorem F_ref18_Endsr1_g5 {env : Env} : yieldI F_ref18_Endsr1 env 5 = bOf (env 10) := rfl
def F_ref18_Endsc : ICode := (.seq (.reg F_ref18_Endsr0) (.seq (.reg F_ref18_Endsr1) .ret))
theorem F_ref18_Endsc_W {T : Tab} {env : Env} {H : Heap} {Q : Post} : W T F_ref18_Endsc env H Q ↔ W T (.seq (.reg F_ref18_Endsr0) (.seq (.reg F_ref18_Endsr1) .ret)) env H Q := Iff.rfl
def F_ref18_Ends : IFn := ⟨21, [.tmp 4], F_ref18_Endsc⟩
set_option maxRecDepth 1000000 in
theorem F_ref18_Ends_chk : chkF Tryd.prog 7 F_ref18_Ends = true := by kernel_rfl

/-! ### conf_Parse -/
def F_conf_Parser0 : List IStmt := [
  ⟨some 2, .alloc 2 [.slice none 0 0, .slice none 0 0], none⟩,
  ⟨some 3, .mv (.c (.int .i64 0)), none⟩,
  ⟨some 4, .mv (.c (.int .i64 0)), none⟩]
theorem F_conf_Parser0_W {T : Tab} {env : Env} {H : Heap} {Q : Post} : W T (.reg F_conf_Parser0) env H Q ↔ WR T F_conf_Parser0 [
  ⟨some 2, .alloc 2 [.slice none 0 0, .slice none 0 0], none⟩,
  ⟨some 3, .mv (.c (.int .i64 0)), none⟩,
  ⟨some 4, .mv (.c (.int .i64 0)), none⟩] env H none [] Q := w_reg
def F_conf_Parser1 : List IStmt := [
  ⟨some 12, .mv (.t 0), none⟩,
  ⟨some 13, .len 0 (.t 12), none⟩,
  ⟨some 14, .bin .gtr (.t 13) (.c (.int .i64 16384)), none⟩]
theorem F_conf_Parser1_W {T : Tab} {env : Env} {H : Heap} {Q : Post} : W T (.reg F_conf_Parser1) env H Q ↔ WR T F_conf_Parser1 [
  ⟨some 12, .mv (.t 0), none⟩,
  ⟨some 13, .len 0 (.t 12), none⟩,
  ⟨some 14, .bin .gtr (.t 13) (.c (.int .i64 16384)), none⟩] env H none [] Q := w_reg
def F_conf_Parser2 : List IStmt := [
  ⟨some 15, .bld [.slice none 0 0, .slice none 0 0] [], none⟩,
  ⟨none, .store 2 (.t 2) (.t 15), none⟩,
  ⟨some 3, .mv (.c (.int .i64 0)), none⟩,
  ⟨some 4, .mv (.c (.int .i64 67)), none⟩]
theorem F_conf_Parser2_W {T : Tab} {env : Env} {H : Heap} {Q : Post} : W T (.reg F_conf_Parser2) env H Q ↔ WR T F_conf_Parser2 [
  ⟨some 15, .bld [.slice none 0 0, .slice none 0 0] [], none⟩,
  ⟨none, .store 2 (.t 2) (.t 15), none⟩,
  ⟨some 3, .mv (.c (.int .i64 0)), none⟩,
  ⟨some 4, .mv (.c (.int .i64 67)), none⟩] env H none [] Q := w_reg
def F_conf_Parser3 : List IStmt := [
  ⟨some 16, .bld [.slice none 0 0, .slice none 0 0] [], none⟩,
  ⟨some 5, .alloc 2 [.slice none 0 0, .slice none 0 0], none⟩,
  ⟨none, .store 2 (.t 5) (.t 16), none⟩]
theorem F_conf_Parser3_W {T : Tab} {env : Env} {H : Heap} {Q : Post} : W T (.reg F_conf_Parser3) env H Q ↔ WR T F_conf_Parser3 [
  ⟨some 16, .bld [.slice none 0 0, .slice none 0 0] [], none⟩,
  ⟨some 5, .alloc 2 [.slice none 0 0, .slice none 0 0], none⟩,
  ⟨none, .store 2 (.t 5) (.t 16), none⟩] env H none [] Q := w_reg
def F_conf_Parser4 : List IStmt := [
  ⟨some 17, .mv (.t 0), none⟩,
  ⟨some 18, .callc 14 [(.t 17), (.c (.string ⟨#[10]⟩))], none⟩,
  ⟨some 19, .len 1 (.t 18), none⟩,
  ⟨some 20, .mv (.c (.int .i64 0)), none⟩]
theorem F_conf_Parser4_W {T : Tab} {env : Env} {H : Heap} {Q : Post} : W T (.reg F_conf_Parser4) env H Q ↔ WR T F_conf_Parser4 [
  ⟨some 17, .mv (.t 0), none⟩,
  ⟨some 18, .callc 14 [(.t 17), (.c (.string ⟨#[10]⟩))], none⟩,
  ⟨some 19, .len 1 (.t 18), none⟩,
  ⟨some 20, .mv (.c (.int .i64 0)), none⟩] env H none [] Q := w_reg
def F_conf_Parser5 : List IStmt := [
  ⟨some 21, .bin .lss (.t 20) (.t 19), none⟩]
theorem F_conf_Parser5_W {T : Tab} {env : Env} {H : Heap} {Q : Post} : W T (.reg F_conf_Parser5) env H Q ↔ WR T F_conf_Parser5 [
  ⟨some 21, .bin .lss (.t 20) (.t 19), none⟩] env H none [] Q := w_reg
def F_conf_Parser6 : List IStmt := [
  ⟨some 22, .mv (.t 20), none⟩,
  ⟨some 23, .ixa 1 (.t 18) (.t 20), none⟩,
  ⟨some 24, .load (.t 23), none⟩,
  ⟨some 6, .mv (.t 22), none⟩,
  ⟨some 7, .mv (.t 24), none⟩]
theorem F_conf_Parser6_W {T : Tab} {env : Env} {H : Heap} {Q : Post} : W T (.reg F_conf_Parser6) env H Q ↔ WR T F_conf_Parser6 [
  ⟨some 22, .mv (.t 20), none⟩,
  ⟨some 23, .ixa 1 (.t 18) (.t 20), none⟩,
  ⟨some 24, .load (.t 23), none⟩,
  ⟨some 6, .mv (.t 22), none⟩,
  ⟨some 7, .mv (.t 24), none⟩] env H none [] Q := w_reg
def F_conf_Parser7 : List IStmt := [
  ⟨some 26, .mv (.t 7), none⟩,
  ⟨some 27, .callc 15 [(.t 26), (.c (.string ⟨#[35]⟩))], none⟩,
  ⟨some 25, .mv (.t 27), none⟩,
  ⟨some 28, .ext (.t 25) 0, none⟩,
  ⟨some 29, .ext (.t 25) 1, none⟩,
  ⟨some 30, .ext (.t 25) 2, none⟩,
  ⟨some 8, .mv (.t 28), none⟩,
  ⟨some 9, .mv (.t 29), none⟩,
  ⟨some 10, .mv (.t 30), none⟩]
theorem F_conf_Parser7_W {T : Tab} {env : Env} {H : Heap} {Q : Post} : W T (.reg F_conf_Parser7) env H Q ↔ WR T F_conf_Parser7 [
  ⟨some 26, .mv (.t 7), none⟩,
  ⟨some 27, .callc 15 [(.t 26), (.c (.string ⟨#[35]⟩))], none⟩,
  ⟨some 25, .mv (.t 27), none⟩,
  ⟨some 28, .ext (.t 25) 0, none⟩,
  ⟨some 29, .ext (.t 25) 1, none⟩,
  ⟨some 30, .ext (.t 25) 2, none⟩,
  ⟨some 8, .mv (.t 28), none⟩,
  ⟨some 9, .mv (.t 29), none⟩,
  ⟨some 10, .mv (.t 30), none⟩] env H none [] Q := w_reg
def F_conf_Parser8 : List IStmt := [
  ⟨some 31, .mv (.t 7), none⟩,
  ⟨some 32, .callc 16 [(.t 31)], none⟩,
  ⟨some 33, .un .not (.t 32), none⟩]
theorem F_conf_Parser8_W {T : Tab} {env : Env} {H : Heap} {Q : Post} : W T (.reg F_conf_Parser8) env H Q ↔ WR T F_conf_Parser8 [
  ⟨some 31, .mv (.t 7), none⟩,
  ⟨some 32, .callc 16 [(.t 31)], none⟩,
  ⟨some 33, .un .not (.t 32), none⟩] env H none [] Q := w_reg
def F_conf_Parser9 : List IStmt := [
  ⟨some 34, .bld [.slice none 0 0, .slice none 0 0] [], none⟩,
  ⟨some 35, .mv (.t 6), none⟩,
  ⟨some 36, .bin .add (.t 35) (.c (.int .i64 1)), none⟩,
  ⟨none, .store 2 (.t 2) (.t 34), none⟩,
  ⟨some 3, .mv (.t 36), none⟩,
  ⟨some 4, .mv (.c (.int .i64 180)), none⟩]
theorem F_conf_Parser9_W {T : Tab} {env : Env} {H : Heap} {Q : Post} : W T (.reg F_conf_Parser9) env H Q ↔ WR T F_conf_Parser9 [
  ⟨some 34, .bld [.slice none 0 0, .slice none 0 0] [], none⟩,
  ⟨some 35, .mv (.t 6), none⟩,
  ⟨some 36, .bin .add (.t 35) (.c (.int .i64 1)), none⟩,
  ⟨none, .store 2 (.t 2) (.t 34), none⟩,
  ⟨some 3, .mv (.t 36), none⟩,
  ⟨some 4, .mv (.c (.int .i64 180)), none⟩] env H none [] Q := w_reg
def F_conf_Parser10 : List IStmt := [
  ⟨some 37, .mv (.t 8), none⟩,
  ⟨some 38, .callc 17 [(.t 37)], none⟩,
  ⟨some 8, .mv (.t 38), none⟩]
theorem F_conf_Parser10_W {T : Tab} {env : Env} {H : Heap} {Q : Post} : W T (.reg F_conf_Parser10) env H Q ↔ WR T F_conf_Parser10 [
  ⟨some 37, .mv (.t 8), none⟩,
  ⟨some 38, .callc 17 [(.t 37)], none⟩,
  ⟨some 8, .mv (.t 38), none⟩] env H none [] Q := w_reg
def F_conf_Parser11 : List IStmt := [
  ⟨some 39, .mv (.t 8), none⟩,
  ⟨some 40, .bin .eql (.t 39) (.c (.string ⟨#[]⟩)), none⟩]
theorem F_conf_Parser11_W {T : Tab} {env : Env} {H : Heap} {Q : Post} : W T (.reg F_conf_Parser11) env H Q ↔ WR T F_conf_Parser11 [
  ⟨some 39, .mv (.t 8), none⟩,
  ⟨some 40, .bin .eql (.t 39) (.c (.string ⟨#[]⟩)), none⟩] env H none [] Q := w_reg
def F_conf_Parser12 : List IStmt := [
  ⟨some 41, .mv (.t 8), none⟩,
  ⟨some 42, .mv (.t 6), none⟩,
  ⟨some 43, .bin .add (.t 42) (.c (.int .i64 1)), none⟩,
  ⟨some 44, .call 18 [(.t 5), (.t 41), (.t 43)], none⟩,
  ⟨some 11, .mv (.t 44), none⟩]
theorem F_conf_Parser12_W {T : Tab} {env : Env} {H : Heap} {Q : Post} : W T (.reg F_conf_Parser12) env H Q ↔ WR T F_conf_Parser12 [
  ⟨some 41, .mv (.t 8), none⟩,
  ⟨some 42, .mv (.t 6), none⟩,
  ⟨some 43, .bin .add (.t 42) (.c (.int .i64 1)), none⟩,
  ⟨some 44, .call 18 [(.t 5), (.t 41), (.t 43)], none⟩,
  ⟨some 11, .mv (.t 44), none⟩] env H none [] Q := w_reg
def F_conf_Parser13 : List IStmt := [
  ⟨some 45, .mv (.t 11), none⟩,
  ⟨some 46, .bin .neq (.t 45) (.c (.int .i64 0)), none⟩]
theorem F_conf_Parser13_W {T : Tab} {env : Env} {H : Heap} {Q : Post} : W T (.reg F_conf_Parser13) env H Q ↔ WR T F_conf_Parser13 [
  ⟨some 45, .mv (.t 11), none⟩,
  ⟨some 46, .bin .neq (.t 45) (.c (.int .i64 0)), none⟩] env H none [] Q := w_reg
def F_conf_Parser14 : List IStmt := [
  ⟨some 47, .bld [.slice none 0 0, .slice none 0 0] [], none⟩,
  ⟨some 48, .mv (.t 6), none⟩,
  ⟨some 49, .bin .add (.t 48) (.c (.int .i64 1)), none⟩,
  ⟨some 50, .mv (.t 11), none⟩,
  ⟨none, .store 2 (.t 2) (.t 47), none⟩,
  ⟨some 3, .mv (.t 49), none⟩,
  ⟨some 4, .mv (.t 50), none⟩]
theorem F_conf_Parser14_W {T : Tab} {env : Env} {H : Heap} {Q : Post} : W T (.reg F_conf_Parser14) env H Q ↔ WR T F_conf_Parser14 [
  ⟨some 47, .bld [.slice none 0 0, .slice none 0 0] [], none⟩,
  ⟨some 48, .mv (.t 6), none⟩,
  ⟨some 49, .bin .add (.t 48) (.c (.int .i64 1)), none⟩,
  ⟨some 50, .mv (.t 11), none⟩,
  ⟨none, .store 2 (.t 2) (.t 47), none⟩,
  ⟨some 3, .mv (.t 49), none⟩,
  ⟨some 4, .mv (.t 50), none⟩] env H none [] Q := w_reg
def F_conf_Parser15 : List IStmt := [
  ⟨some 51, .bin .add (.t 20) (.c (.int .i64 1)), none⟩,
  ⟨some 20, .mv (.t 51), none⟩]
theorem F_conf_Parser15_W {T : Tab} {env : Env} {H : Heap} {Q : Post} : W T (.reg F_conf_Parser15) env H Q ↔ WR T F_conf_Parser15 [
  ⟨some 51, .bin .add (.t 20) (.c (.int .i64 1)), none⟩,
  ⟨some 20, .mv (.t 51), none⟩] env H none [] Q := w_reg
def F_conf_Parsel0 : ICode := (.seq (.reg F_conf_Parser5) (.seq (.cond (.t 21) .skip (.exit 0)) (.seq (.block 1 (.seq (.reg F_conf_Parser6) (.seq (.reg F_conf_Parser7) (.seq (.seq (.reg F_conf_Parser8) (.cond (.t 33) (.seq (.reg F_conf_Parser9) .ret) .skip)) (.seq (.reg F_conf_Parser10) (.seq (.seq (.reg F_conf_Parser11) (.cond (.t 40) (.exit 1) .skip)) (.seq (.reg F_conf_Parser12) (.seq (.reg F_conf_Parser13) (.cond (.t 46) (.seq (.reg F_conf_Parser14) .ret) .skip))))))))) (.reg F_conf_Parser15))))
theorem F_conf_Parsel0_W {T : Tab} {env : Env} {H : Heap} {Q : Post} : W T F_conf_Parsel0 env H Q ↔ W T (.seq (.reg F_conf_Parser5) (.seq (.cond (.t 21) .skip (.exit 0)) (.seq (.block 1 (.seq (.reg F_conf_Parser6) (.seq (.reg F_conf_Parser7) (.seq (.seq (.reg F_conf_Parser8) (.cond (.t 33) (.seq (.reg F_conf_Parser9) .ret) .skip)) (.seq (.reg F_conf_Parser10) (.seq (.seq (.reg F_conf_Parser11) (.cond (.t 40) (.exit 1) .skip)) (.seq (.reg F_conf_Parser12) (.seq (.reg F_conf_Parser13) (.cond (.t 46) (.seq (.reg F_conf_Parser14) .ret) .skip))))))))) (.reg F_conf_Parser15)))) env H Q := Iff.rfl
def F_conf_Parser16 : List IStmt := [
  ⟨some 52, .loadN 2 (.t 5), none⟩,
  ⟨none, .store 2 (.t 2) (.t 52), none⟩,
  ⟨some 3, .mv (.c (.int .i64 0)), none⟩,
  ⟨some 4, .mv (.c (.int .i64 0)), none⟩]
theorem F_conf_Parser16_W {T : Tab} {env : Env} {H : Heap} {Q : Post} : W T (.reg F_conf_Parser16) env H Q ↔ WR T F_conf_Parser16 [
  ⟨some 52, .loadN 2 (.t 5), none⟩,
  ⟨none, .store 2 (.t 2) (.t 52), none⟩,
  ⟨some 3, .mv (.c (.int .i64 0)), none⟩,
  ⟨some 4, .mv (.c (.int .i64 0)), none⟩] env H none [] Q := w_reg
def F_conf_Parsec : ICode := (.seq (.reg F_conf_Parser0) (.seq (.seq (.reg F_conf_Parser1) (.cond (.t 14) (.seq (.reg F_conf_Parser2) .ret) .skip)) (.seq (.reg F_conf_Parser3) (.seq (.seq (.reg F_conf_Parser4) (.block 0 (.loop F_conf_Parsel0))) (.seq (.reg F_conf_Parser16) .ret)))))
theorem F_conf_Parsec_W {T : Tab} {env : Env} {H : Heap} {Q : Post} : W T F_conf_Parsec env H Q ↔ W T (.seq (.reg F_conf_Parser0) (.seq (.seq (.reg F_conf_Parser1) (.cond (.t 14) (.seq (.reg F_conf_Parser2) .ret) .skip)) (.seq (.reg F_conf_Parser3) (.seq (.seq (.reg F_conf_Parser4) (.block 0 (.loop F_conf_Parsel0))) (.seq (.reg F_conf_Parser16) .ret))))) env H Q := Iff.rfl
def F_conf_Parse : IFn := ⟨53, [.cell 2 (some 2), .tmp 3, .tmp 4], F_conf_Parsec⟩
set_option maxRecDepth 1000000 in
theorem F_conf_Parse_chk : chkF Tryd.prog 8 F_conf_Parse = true := by kernel_rfl

/-! ### conf_File_line -/
def F_conf_File_liner0 : List IStmt := [
  ⟨some 6, .mv (.c (.int .i64 0)), none⟩]
theorem F_conf_File_liner0_W {T : Tab} {env : Env} {H : Heap} {Q : Post} : W T (.reg F_conf_File_liner0) env H Q ↔ WR T F_conf_File_liner0 [
  ⟨some 6, .mv (.c (.int .i64 0)), none⟩] env H none [] Q := w_reg
def F_conf_File_liner1 : List IStmt := [
  ⟨some 15, .mv (.t 1), none⟩,
  ⟨some 16, .ixs (.t 15) (.c (.int .i64 0)), none⟩,
  ⟨some 17, .bin .eql (.t 16) (.c (.int .u8 91)), none⟩]
theorem F_conf_File_liner1_W {T : Tab} {env : Env} {H : Heap} {Q : Post} : W T (.reg F_conf_File_liner1) env H Q ↔ WR T F_conf_File_liner1 [
  ⟨some 15, .mv (.t 1), none⟩,
  ⟨some 16, .ixs (.t 15) (.c (.int .i64 0)), none⟩,
  ⟨some 17, .bin .eql (.t 16) (.c (.int .u8 91)), none⟩] env H none [] Q := w_reg
def F_conf_File_liner2 : List IStmt := [
  ⟨some 18, .mv (.t 0), none⟩,
  ⟨some 19, .mv (.t 1), none⟩,
  ⟨some 20, .call 28 [(.t 18), (.t 19)], none⟩,
  ⟨some 6, .mv (.t 20), none⟩]
theorem F_conf_File_liner2_W {T : Tab} {env : Env} {H : Heap} {Q : Post} : W T (.reg F_conf_File_liner2) env H Q ↔ WR T F_conf_File_liner2 [
  ⟨some 18, .mv (.t 0), none⟩,
  ⟨some 19, .mv (.t 1), none⟩,
  ⟨some 20, .call 28 [(.t 18), (.t 19)], none⟩,
  ⟨some 6, .mv (.t 20), none⟩] env H none [] Q := w_reg
def F_conf_File_liner3 : List IStmt := [
  ⟨some 22, .mv (.t 1), none⟩,
  ⟨some 23, .callc 15 [(.t 22), (.c (.string ⟨#[61]⟩))], none⟩,
  ⟨some 21, .mv (.t 23), none⟩,
  ⟨some 24, .ext (.t 21) 0, none⟩,
  ⟨some 25, .ext (.t 21) 1, none⟩,
  ⟨some 26, .ext (.t 21) 2, none⟩,
  ⟨some 7, .mv (.t 24), none⟩,
  ⟨some 8, .mv (.t 25), none⟩,
  ⟨some 9, .mv (.t 26), none⟩]
theorem F_conf_File_liner3_W {T : Tab} {env : Env} {H : Heap} {Q : Post} : W T (.reg F_conf_File_liner3) env H Q ↔ WR T F_conf_File_liner3 [
  ⟨some 22, .mv (.t 1), none⟩,
  ⟨some 23, .callc 15 [(.t 22), (.c (.string ⟨#[61]⟩))], none⟩,
  ⟨some 21, .mv (.t 23), none⟩,
  ⟨some 24, .ext (.t 21) 0, none⟩,
  ⟨some 25, .ext (.t 21) 1, none⟩,
  ⟨some 26, .ext (.t 21) 2, none⟩,
  ⟨some 7, .mv (.t 24), none⟩,
  ⟨some 8, .mv (.t 25), none⟩,
  ⟨some 9, .mv (.t 26), none⟩] env H none [] Q := w_reg
def F_conf_File_liner4 : List IStmt := [
  ⟨some 27, .mv (.t 7), none⟩,
  ⟨some 28, .callc 29 [(.t 27), (.c (.string ⟨#[43]⟩))], none⟩,
  ⟨some 10, .mv (.t 28), none⟩]
theorem F_conf_File_liner4_W {T : Tab} {env : Env} {H : Heap} {Q : Post} : W T (.reg F_conf_File_liner4) env H Q ↔ WR T F_conf_File_liner4 [
  ⟨some 27, .mv (.t 7), none⟩,
  ⟨some 28, .callc 29 [(.t 27), (.c (.string ⟨#[43]⟩))], none⟩,
  ⟨some 10, .mv (.t 28), none⟩] env H none [] Q := w_reg
def F_conf_File_liner5 : List IStmt := [
  ⟨some 29, .mv (.t 7), none⟩,
  ⟨some 30, .callc 30 [(.t 29), (.c (.string ⟨#[43]⟩))], none⟩,
  ⟨some 31, .callc 17 [(.t 30)], none⟩,
  ⟨some 32, .mv (.t 8), none⟩,
  ⟨some 33, .callc 17 [(.t 32)], none⟩,
  ⟨some 34, .mv (.t 2), none⟩,
  ⟨some 35, .bld [.string ⟨#[]⟩, .string ⟨#[]⟩, .int .i64 0] [(0, 1, (.t 31)), (1, 1, (.t 33)), (2, 1, (.t 34))], none⟩,
  ⟨some 11, .alloc 3 [.string ⟨#[]⟩, .string ⟨#[]⟩, .int .i64 0], none⟩,
  ⟨none, .store 3 (.t 11) (.t 35), none⟩]
theorem F_conf_File_liner5_W {T : Tab} {env : Env} {H : Heap} {Q : Post} : W T (.reg F_conf_File_liner5) env H Q ↔ WR T F_conf_File_liner5 [
  ⟨some 29, .mv (.t 7), none⟩,
  ⟨some 30, .callc 30 [(.t 29), (.c (.string ⟨#[43]⟩))], none⟩,
  ⟨some 31, .callc 17 [(.t 30)], none⟩,
  ⟨some 32, .mv (.t 8), none⟩,
  ⟨some 33, .callc 17 [(.t 32)], none⟩,
  ⟨some 34, .mv (.t 2), none⟩,
  ⟨some 35, .bld [.string ⟨#[]⟩, .string ⟨#[]⟩, .int .i64 0] [(0, 1, (.t 31)), (1, 1, (.t 33)), (2, 1, (.t 34))], none⟩,
  ⟨some 11, .alloc 3 [.string ⟨#[]⟩, .string ⟨#[]⟩, .int .i64 0], none⟩,
  ⟨none, .store 3 (.t 11) (.t 35), none⟩] env H none [] Q := w_reg
def F_conf_File_liner6 : List IStmt := [
  ⟨some 36, .mv (.t 9), none⟩,
  ⟨some 37, .un .not (.t 36), none⟩,
  ⟨some 38, .mv (.t 37), none⟩,
  ⟨some 39, .fa 0 (.t 11), some (2, false)⟩,
  ⟨some 40, .load (.t 39), some (2, false)⟩,
  ⟨some 41, .callc 31 [(.t 40)], some (2, false)⟩,
  ⟨some 42, .un .not (.t 41), some (2, false)⟩,
  ⟨some 43, .pick (.t 38) (.c (.bool true)) (.t 42), none⟩]
theorem F_conf_File_liner6_W {T : Tab} {env : Env} {H : Heap} {Q : Post} : W T (.reg F_conf_File_liner6) env H Q ↔ WR T F_conf_File_liner6 [
  ⟨some 36, .mv (.t 9), none⟩,
  ⟨some 37, .un .not (.t 36), none⟩,
  ⟨some 38, .mv (.t 37), none⟩,
  ⟨some 39, .fa 0 (.t 11), some (2, false)⟩,
  ⟨some 40, .load (.t 39), some (2, false)⟩,
  ⟨some 41, .callc 31 [(.t 40)], some (2, false)⟩,
  ⟨some 42, .un .not (.t 41), some (2, false)⟩,
  ⟨some 43, .pick (.t 38) (.c (.bool true)) (.t 42), none⟩] env H none [] Q := w_reg
theorem F_conf_File_liner6_g2 {env : Env} : yieldI F_conf_File_liner6 env 2 = bOf (env 38) := rfl
def F_conf_File_liner7 : List IStmt := [
  ⟨some 6, .mv (.c (.int .i64 180)), none⟩]
theorem F_conf_File_liner7_W {T : Tab} {env : Env} {H : Heap} {Q : Post} : W T (.reg F_conf_File_liner7) env H Q ↔ WR T F_conf_File_liner7 [
  ⟨some 6, .mv (.c (.int .i64 180)), none⟩] env H none [] Q := w_reg
def F_conf_File_liner8 : List IStmt := [
  ⟨some 44, .mv (.t 0), none⟩,
  ⟨some 45, .nilc (.t 44), none⟩,
  ⟨some 46, .fa 1 (.t 45), none⟩,
  ⟨some 47, .load (.t 46), none⟩,
  ⟨some 48, .len 1 (.t 47), none⟩,
  ⟨some 12, .mv (.t 48), none⟩]
theorem F_conf_File_liner8_W {T : Tab} {env : Env} {H : Heap} {Q : Post} : W T (.reg F_conf_File_liner8) env H Q ↔ WR T F_conf_File_liner8 [
  ⟨some 44, .mv (.t 0), none⟩,
  ⟨some 45, .nilc (.t 44), none⟩,
  ⟨some 46, .fa 1 (.t 45), none⟩,
  ⟨some 47, .load (.t 46), none⟩,
  ⟨some 48, .len 1 (.t 47), none⟩,
  ⟨some 12, .mv (.t 48), none⟩] env H none [] Q := w_reg
def F_conf_File_liner9 : List IStmt := [
  ⟨some 49, .mv (.t 12), none⟩,
  ⟨some 50, .bin .gtr (.t 49) (.c (.int .i64 0)), none⟩]
theorem F_conf_File_liner9_W {T : Tab} {env : Env} {H : Heap} {Q : Post} : W T (.reg F_conf_File_liner9) env H Q ↔ WR T F_conf_File_liner9 [
  ⟨some 49, .mv (.t 12), none⟩,
  ⟨some 50, .bin .gtr (.t 49) (.c (.int .i64 0)), none⟩] env H none [] Q := w_reg
def F_conf_File_liner10 : List IStmt := [
  ⟨some 51, .mv (.t 0), none⟩,
  ⟨some 52, .nilc (.t 51), none⟩,
  ⟨some 53, .fa 1 (.t 52), none⟩,
  ⟨some 54, .load (.t 53), none⟩,
  ⟨some 55, .mv (.t 12), none⟩,
  ⟨some 56, .bin .sub (.t 55) (.c (.int .i64 1)), none⟩,
  ⟨some 57, .ixa 2 (.t 54) (.t 56), none⟩,
  ⟨some 58, .loadN 3 (.t 11), none⟩,
  ⟨some 59, .mv (.t 10), none⟩,
  ⟨some 60, .call 32 [(.t 57), (.t 58), (.t 59)], none⟩]
theorem F_conf_File_liner10_W {T : Tab} {env : Env} {H : Heap} {Q : Post} : W T (.dreg F_conf_File_liner10 []) env H Q ↔ WR T F_conf_File_liner10 [
  ⟨some 51, .mv (.t 0), none⟩,
  ⟨some 52, .nilc (.t 51), none⟩,
  ⟨some 53, .fa 1 (.t 52), none⟩,
  ⟨some 54, .load (.t 53), none⟩,
  ⟨some 55, .mv (.t 12), none⟩,
  ⟨some 56, .bin .sub (.t 55) (.c (.int .i64 1)), none⟩,
  ⟨some 57, .ixa 2 (.t 54) (.t 56), none⟩,
  ⟨some 58, .loadN 3 (.t 11), none⟩,
  ⟨some 59, .mv (.t 10), none⟩,
  ⟨some 60, .call 32 [(.t 57), (.t 58), (.t 59)], none⟩] env H none [] Q := w_dreg0
def F_conf_File_liner11 : List IStmt := [
  ⟨some 6, .mv (.c (.int .i64 0)), none⟩]
theorem F_conf_File_liner11_W {T : Tab} {env : Env} {H : Heap} {Q : Post} : W T (.reg F_conf_File_liner11) env H Q ↔ WR T F_conf_File_liner11 [
  ⟨some 6, .mv (.c (.int .i64 0)), none⟩] env H none [] Q := w_reg
def F_conf_File_liner12 : List IStmt := [
  ⟨some 62, .fa 0 (.t 11), none⟩,
  ⟨some 63, .load (.t 62), none⟩,
  ⟨some 64, .callc 33 [(.t 63), (.c (.string ⟨#[100, 105, 114, 46]⟩))], none⟩,
  ⟨some 61, .mv (.t 64), none⟩,
  ⟨some 65, .ext (.t 61) 0, none⟩,
  ⟨some 66, .ext (.t 61) 1, none⟩,
  ⟨some 13, .mv (.t 65), none⟩,
  ⟨some 14, .mv (.t 66), none⟩]
theorem F_conf_File_liner12_W {T : Tab} {env : Env} {H : Heap} {Q : Post} : W T (.reg F_conf_File_liner12) env H Q ↔ WR T F_conf_File_liner12 [
  ⟨some 62, .fa 0 (.t 11), none⟩,
  ⟨some 63, .load (.t 62), none⟩,
  ⟨some 64, .callc 33 [(.t 63), (.c (.string ⟨#[100, 105, 114, 46]⟩))], none⟩,
  ⟨some 61, .mv (.t 64), none⟩,
  ⟨some 65, .ext (.t 61) 0, none⟩,
  ⟨some 66, .ext (.t 61) 1, none⟩,
  ⟨some 13, .mv (.t 65), none⟩,
  ⟨some 14, .mv (.t 66), none⟩] env H none [] Q := w_reg
def F_conf_File_liner13 : List IStmt := [
  ⟨some 67, .mv (.t 14), none⟩,
  ⟨some 68, .un .not (.t 67), none⟩,
  ⟨some 69, .mv (.t 68), none⟩,
  ⟨some 70, .mv (.t 13), some (2, false)⟩,
  ⟨some 71, .bin .eql (.t 70) (.c (.string ⟨#[]⟩)), some (2, false)⟩,
  ⟨some 72, .pick (.t 69) (.c (.bool true)) (.t 71), none⟩,
  ⟨some 73, .mv (.t 72), none⟩,
  ⟨some 74, .mv (.t 10), some (6, false)⟩,
  ⟨some 75, .pick (.t 73) (.c (.bool true)) (.t 74), none⟩,
  ⟨some 76, .mv (.t 75), none⟩,
  ⟨some 77, .fa 1 (.t 11), some (9, false)⟩,
  ⟨some 78, .load (.t 77), some (9, false)⟩,
  ⟨some 79, .callc 34 [(.t 78)], some (9, false)⟩,
  ⟨some 80, .un .not (.t 79), some (9, false)⟩,
  ⟨some 81, .pick (.t 76) (.c (.bool true)) (.t 80), none⟩]
theorem F_conf_File_liner13_W {T : Tab} {env : Env} {H : Heap} {Q : Post} : W T (.reg F_conf_File_liner13) env H Q ↔ WR T F_conf_File_liner13 [
  ⟨some 67, .mv (.t 14), none⟩,
  ⟨some 68, .un .not (.t 67), none⟩,
  ⟨some 69, .mv (.t 68), none⟩,
  ⟨some 70, .mv (.t 13), some (2, false)⟩,
  ⟨some 71, .bin .eql (.t 70) (.c (.string ⟨#[]⟩)), some (2, false)⟩,
  ⟨some 72, .pick (.t 69) (.c (.bool true)) (.t 71), none⟩,
  ⟨some 73, .mv (.t 72), none⟩,
  ⟨some 74, .mv (.t 10), some (6, false)⟩,
  ⟨some 75, .pick (.t 73) (.c (.bool true)) (.t 74), none⟩,
  ⟨some 76, .mv (.t 75), none⟩,
  ⟨some 77, .fa 1 (.t 11), some (9, false)⟩,
  ⟨some 78, .load (.t 77), some (9, false)⟩,
  ⟨some 79, .callc 34 [(.t 78)], some (9, false)⟩,
  ⟨some 80, .un .not (.t 79), some (9, false)⟩,
  ⟨some 81, .pick (.t 76) (.c (.bool true)) (.t 80), none⟩] env H none [] Q := w_reg
theorem F_conf_File_liner13_g2 {env : Env} : yieldI F_conf_File_liner13 env 2 = bOf (env 69) := rfl
theorem F_conf_File_liner13_g6 {env : Env} : yieldI F_conf_File_liner13 env 6 = bOf (env 73) := rfl
theorem F_conf_File_liner13_g9 {env : Env} : yieldI F_conf_File_liner13 env 9 = bOf (env 76) := rfl
def F_conf_File_liner14 : List IStmt := [
  ⟨some 6, .mv (.c (.int .i64 180)), none⟩]
theorem F_conf_File_liner14_W {T : Tab} {env : Env} {H : Heap} {Q : Post} : W T (.reg F_conf_File_liner14) env H Q ↔ WR T F_conf_File_liner14 [
  ⟨some 6, .mv (.c (.int .i64 180)), none⟩] env H none [] Q := w_reg
def F_conf_File_liner15 : List IStmt := [
  ⟨some 82, .mv (.t 0), none⟩,
  ⟨some 83, .mv (.t 0), none⟩,
  ⟨some 84, .nilc (.t 83), none⟩,
  ⟨some 85, .fa 0 (.t 84), none⟩,
  ⟨some 86, .load (.t 85), none⟩,
  ⟨some 87, .mv (.t 13), none⟩,
  ⟨some 88, .fa 1 (.t 11), none⟩,
  ⟨some 89, .load (.t 88), none⟩,
  ⟨some 90, .mv (.t 2), none⟩,
  ⟨some 91, .bld [.string ⟨#[]⟩, .string ⟨#[]⟩, .int .i64 0] [(0, 1, (.t 87)), (1, 1, (.t 89)), (2, 1, (.t 90))], none⟩,
  ⟨some 92, .bsli 3 1 [.string ⟨#[]⟩, .string ⟨#[]⟩, .int .i64 0] [(0, (.t 91))], none⟩,
  ⟨some 93, .app 3 40 (.t 86) (.t 92), none⟩,
  ⟨some 94, .nilc (.t 82), none⟩,
  ⟨some 95, .fa 0 (.t 94), none⟩,
  ⟨none, .store 1 (.t 95) (.t 93), none⟩]
theorem F_conf_File_liner15_W {T : Tab} {env : Env} {H : Heap} {Q : Post} : W T (.dreg F_conf_File_liner15 []) env H Q ↔ WR T F_conf_File_liner15 [
  ⟨some 82, .mv (.t 0), none⟩,
  ⟨some 83, .mv (.t 0), none⟩,
  ⟨some 84, .nilc (.t 83), none⟩,
  ⟨some 85, .fa 0 (.t 84), none⟩,
  ⟨some 86, .load (.t 85), none⟩,
  ⟨some 87, .mv (.t 13), none⟩,
  ⟨some 88, .fa 1 (.t 11), none⟩,
  ⟨some 89, .load (.t 88), none⟩,
  ⟨some 90, .mv (.t 2), none⟩,
  ⟨some 91, .bld [.string ⟨#[]⟩, .string ⟨#[]⟩, .int .i64 0] [(0, 1, (.t 87)), (1, 1, (.t 89)), (2, 1, (.t 90))], none⟩,
  ⟨some 92, .bsli 3 1 [.string ⟨#[]⟩, .string ⟨#[]⟩, .int .i64 0] [(0, (.t 91))], none⟩,
  ⟨some 93, .app 3 40 (.t 86) (.t 92), none⟩,
  ⟨some 94, .nilc (.t 82), none⟩,
  ⟨some 95, .fa 0 (.t 94), none⟩,
  ⟨none, .store 1 (.t 95) (.t 93), none⟩] env H none [] Q := w_dreg0
def F_conf_File_liner16 : List IStmt := [
  ⟨some 6, .mv (.c (.int .i64 0)), none⟩]
theorem F_conf_File_liner16_W {T : Tab} {env : Env} {H : Heap} {Q : Post} : W T (.reg F_conf_File_liner16) env H Q ↔ WR T F_conf_File_liner16 [
  ⟨some 6, .mv (.c (.int .i64 0)), none⟩] env H none [] Q := w_reg
def F_conf_File_linec : ICode := (.seq (.reg F_conf_File_liner0) (.seq (.seq (.reg F_conf_File_liner1) (.cond (.t 17) (.seq (.reg F_conf_File_liner2) .ret) .skip)) (.seq (.reg F_conf_File_liner3) (.seq (.reg F_conf_File_liner4) (.seq (.reg F_conf_File_liner5) (.seq (.seq (.reg F_conf_File_liner6) (.cond (.t 43) (.seq (.reg F_conf_File_liner7) .ret) .skip)) (.seq (.seq (.reg F_conf_File_liner8) (.seq (.reg F_conf_File_liner9) (.cond (.t 50) (.seq (.dreg F_conf_File_liner10 []) (.seq (.reg F_conf_File_liner11) .ret)) .skip))) (.seq (.reg F_conf_File_liner12) (.seq (.seq (.reg F_conf_File_liner13) (.cond (.t 81) (.seq (.reg F_conf_File_liner14) .ret) .skip)) (.seq (.dreg F_conf_File_liner15 []) (.seq (.reg F_conf_File_liner16) .ret)))))))))))
theorem F_conf_File_linec_W {T : Tab} {env : Env} {H : Heap} {Q : Post} : W T F_conf_File_linec env H Q ↔ W T (.seq (.reg F_conf_File_liner0) (.seq (.seq (.reg F_conf_File_liner1) (.cond (.t 17) (.seq (.reg F_conf_File_liner2) .ret) .skip)) (.seq (.reg F_conf_File_liner3) (.seq (.reg F_conf_File_liner4) (.seq (.reg F_conf_File_liner5) (.seq (.seq (.reg F_conf_File_liner6) (.cond (.t 43) (.seq (.reg F_conf_File_liner7) .ret) .skip)) (.seq (.seq (.reg F_conf_File_liner8) (.seq (.reg F_conf_File_liner9) (.cond (.t 50) (.seq (.dreg F_conf_File_liner10 []) (.seq (.reg F_conf_File_liner11) .ret)) .skip))) (.seq (.reg F_conf_File_liner12) (.seq (.seq (.reg F_conf_File_liner13) (.cond (.t 81) (.seq (.reg F_conf_File_liner14) .ret) .skip)) (.seq (.dreg F_conf_File_liner15 []) (.seq (.reg F_conf_File_liner16) .ret))))))))))) env H Q := Iff.rfl
def F_conf_File_line : IFn := ⟨96, [.tmp 6], F_conf_File_linec⟩
set_option maxRecDepth 1000000 in
theorem F_conf_File_line_chk : chkF Tryd.prog 18 F_conf_File_line = true := by kernel_rfl

/-! ### conf_File_begin -/
def F_conf_File_beginr0 : List IStmt := [
  ⟨some 4, .mv (.c (.int .i64 0)), none⟩]
theorem F_conf_File_beginr0_W {T : Tab} {env : Env} {H : Heap} {Q : Post} : W T (.reg F_conf_File_beginr0) env H Q ↔ WR T F_conf_File_beginr0 [
  ⟨some 4, .mv (.c (.int .i64 0)), none⟩] env H none [] Q := w_reg
def F_conf_File_beginr1 : List IStmt := [
  ⟨some 10, .mv (.t 1), none⟩,
  ⟨some 11, .sls (.t 10) (some (.c (.int .i64 1))) none, none⟩,
  ⟨some 12, .callc 42 [(.t 11), (.c (.string ⟨#[93]⟩))], none⟩,
  ⟨some 9, .mv (.t 12), none⟩,
  ⟨some 13, .ext (.t 9) 0, none⟩,
  ⟨some 14, .ext (.t 9) 1, none⟩,
  ⟨some 5, .mv (.t 13), none⟩,
  ⟨some 6, .mv (.t 14), none⟩]
theorem F_conf_File_beginr1_W {T : Tab} {env : Env} {H : Heap} {Q : Post} : W T (.reg F_conf_File_beginr1) env H Q ↔ WR T F_conf_File_beginr1 [
  ⟨some 10, .mv (.t 1), none⟩,
  ⟨some 11, .sls (.t 10) (some (.c (.int .i64 1))) none, none⟩,
  ⟨some 12, .callc 42 [(.t 11), (.c (.string ⟨#[93]⟩))], none⟩,
  ⟨some 9, .mv (.t 12), none⟩,
  ⟨some 13, .ext (.t 9) 0, none⟩,
  ⟨some 14, .ext (.t 9) 1, none⟩,
  ⟨some 5, .mv (.t 13), none⟩,
  ⟨some 6, .mv (.t 14), none⟩] env H none [] Q := w_reg
def F_conf_File_beginr2 : List IStmt := [
  ⟨some 15, .mv (.t 6), none⟩,
  ⟨some 16, .un .not (.t 15), none⟩,
  ⟨some 17, .mv (.t 16), none⟩,
  ⟨some 18, .mv (.t 5), some (2, false)⟩,
  ⟨some 19, .callc 31 [(.t 18)], some (2, false)⟩,
  ⟨some 20, .un .not (.t 19), some (2, false)⟩,
  ⟨some 21, .pick (.t 17) (.c (.bool true)) (.t 20), none⟩]
theorem F_conf_File_beginr2_W {T : Tab} {env : Env} {H : Heap} {Q : Post} : W T (.reg F_conf_File_beginr2) env H Q ↔ WR T F_conf_File_beginr2 [
  ⟨some 15, .mv (.t 6), none⟩,
  ⟨some 16, .un .not (.t 15), none⟩,
  ⟨some 17, .mv (.t 16), none⟩,
  ⟨some 18, .mv (.t 5), some (2, false)⟩,
  ⟨some 19, .callc 31 [(.t 18)], some (2, false)⟩,
  ⟨some 20, .un .not (.t 19), some (2, false)⟩,
  ⟨some 21, .pick (.t 17) (.c (.bool true)) (.t 20), none⟩] env H none [] Q := w_reg
theorem F_conf_File_beginr2_g2 {env : Env} : yieldI F_conf_File_beginr2 env 2 = bOf (env 17) := rfl
def F_conf_File_beginr3 : List IStmt := [
  ⟨some 4, .mv (.c (.int .i64 181)), none⟩]
theorem F_conf_File_beginr3_W {T : Tab} {env : Env} {H : Heap} {Q : Post} : W T (.reg F_conf_File_beginr3) env H Q ↔ WR T F_conf_File_beginr3 [
  ⟨some 4, .mv (.c (.int .i64 181)), none⟩] env H none [] Q := w_reg
def F_conf_File_beginr4 : List IStmt := [
  ⟨some 22, .mv (.t 0), none⟩,
  ⟨some 23, .nilc (.t 22), none⟩,
  ⟨some 24, .fa 1 (.t 23), none⟩,
  ⟨some 25, .load (.t 24), none⟩,
  ⟨some 26, .len 1 (.t 25), none⟩,
  ⟨some 27, .mv (.c (.int .i64 0)), none⟩]
theorem F_conf_File_beginr4_W {T : Tab} {env : Env} {H : Heap} {Q : Post} : W T (.reg F_conf_File_beginr4) env H Q ↔ WR T F_conf_File_beginr4 [
  ⟨some 22, .mv (.t 0), none⟩,
  ⟨some 23, .nilc (.t 22), none⟩,
  ⟨some 24, .fa 1 (.t 23), none⟩,
  ⟨some 25, .load (.t 24), none⟩,
  ⟨some 26, .len 1 (.t 25), none⟩,
  ⟨some 27, .mv (.c (.int .i64 0)), none⟩] env H none [] Q := w_reg
def F_conf_File_beginr5 : List IStmt := [
  ⟨some 28, .bin .lss (.t 27) (.t 26), none⟩]
theorem F_conf_File_beginr5_W {T : Tab} {env : Env} {H : Heap} {Q : Post} : W T (.reg F_conf_File_beginr5) env H Q ↔ WR T F_conf_File_beginr5 [
  ⟨some 28, .bin .lss (.t 27) (.t 26), none⟩] env H none [] Q := w_reg
def F_conf_File_beginr6 : List IStmt := [
  ⟨some 29, .ixa 2 (.t 25) (.t 27), none⟩,
  ⟨some 30, .loadN 2 (.t 29), none⟩,
  ⟨some 8, .alloc 2 [.string ⟨#[]⟩, .slice none 0 0], none⟩,
  ⟨none, .store 2 (.t 8) (.t 30), none⟩]
theorem F_conf_File_beginr6_W {T : Tab} {env : Env} {H : Heap} {Q : Post} : W T (.reg F_conf_File_beginr6) env H Q ↔ WR T F_conf_File_beginr6 [
  ⟨some 29, .ixa 2 (.t 25) (.t 27), none⟩,
  ⟨some 30, .loadN 2 (.t 29), none⟩,
  ⟨some 8, .alloc 2 [.string ⟨#[]⟩, .slice none 0 0], none⟩,
  ⟨none, .store 2 (.t 8) (.t 30), none⟩] env H none [] Q := w_reg
def F_conf_File_beginr7 : List IStmt := [
  ⟨some 31, .fa 0 (.t 8), none⟩,
  ⟨some 32, .load (.t 31), none⟩,
  ⟨some 33, .mv (.t 5), none⟩,
  ⟨some 34, .bin .eql (.t 32) (.t 33), none⟩]
theorem F_conf_File_beginr7_W {T : Tab} {env : Env} {H : Heap} {Q : Post} : W T (.reg F_conf_File_beginr7) env H Q ↔ WR T F_conf_File_beginr7 [
  ⟨some 31, .fa 0 (.t 8), none⟩,
  ⟨some 32, .load (.t 31), none⟩,
  ⟨some 33, .mv (.t 5), none⟩,
  ⟨some 34, .bin .eql (.t 32) (.t 33), none⟩] env H none [] Q := w_reg
def F_conf_File_beginr8 : List IStmt := [
  ⟨some 4, .mv (.c (.int .i64 181)), none⟩]
theorem F_conf_File_beginr8_W {T : Tab} {env : Env} {H : Heap} {Q : Post} : W T (.reg F_conf_File_beginr8) env H Q ↔ WR T F_conf_File_beginr8 [
  ⟨some 4, .mv (.c (.int .i64 181)), none⟩] env H none [] Q := w_reg
def F_conf_File_beginr9 : List IStmt := [
  ⟨some 35, .bin .add (.t 27) (.c (.int .i64 1)), none⟩,
  ⟨some 27, .mv (.t 35), none⟩]
theorem F_conf_File_beginr9_W {T : Tab} {env : Env} {H : Heap} {Q : Post} : W T (.reg F_conf_File_beginr9) env H Q ↔ WR T F_conf_File_beginr9 [
  ⟨some 35, .bin .add (.t 27) (.c (.int .i64 1)), none⟩,
  ⟨some 27, .mv (.t 35), none⟩] env H none [] Q := w_reg
def F_conf_File_beginl0 : ICode := (.seq (.reg F_conf_File_beginr5) (.seq (.cond (.t 28) .skip (.exit 0)) (.seq (.block 1 (.seq (.reg F_conf_File_beginr6) (.seq (.reg F_conf_File_beginr7) (.cond (.t 34) (.seq (.reg F_conf_File_beginr8) .ret) .skip)))) (.reg F_conf_File_beginr9))))
theorem F_conf_File_beginl0_W {T : Tab} {env : Env} {H : Heap} {Q : Post} : W T F_conf_File_beginl0 env H Q ↔ W T (.seq (.reg F_conf_File_beginr5) (.seq (.cond (.t 28) .skip (.exit 0)) (.seq (.block 1 (.seq (.reg F_conf_File_beginr6) (.seq (.reg F_conf_File_beginr7) (.cond (.t 34) (.seq (.reg F_conf_File_beginr8) .ret) .skip)))) (.reg F_conf_File_beginr9)))) env H Q := Iff.rfl
def F_conf_File_beginr10 : List IStmt := [
  ⟨some 36, .mv (.t 0), none⟩,
  ⟨some 37, .mv (.t 0), none⟩,
  ⟨some 38, .nilc (.t 37), none⟩,
  ⟨some 39, .fa 1 (.t 38), none⟩,
  ⟨some 40, .load (.t 39), none⟩,
  ⟨some 41, .mv (.t 5), none⟩,
  ⟨some 42, .bld [.string ⟨#[]⟩, .slice none 0 0] [(0, 1, (.t 41))], none⟩,
  ⟨some 43, .bsli 2 1 [.string ⟨#[]⟩, .slice none 0 0] [(0, (.t 42))], none⟩,
  ⟨some 44, .app 2 40 (.t 40) (.t 43), none⟩,
  ⟨some 45, .nilc (.t 36), none⟩,
  ⟨some 46, .fa 1 (.t 45), none⟩,
  ⟨none, .store 1 (.t 46) (.t 44), none⟩]
theorem F_conf_File_beginr10_W {T : Tab} {env : Env} {H : Heap} {Q : Post} : W T (.reg F_conf_File_beginr10) env H Q ↔ WR T F_conf_File_beginr10 [
  ⟨some 36, .mv (.t 0), none⟩,
  ⟨some 37, .mv (.t 0), none⟩,
  ⟨some 38, .nilc (.t 37), none⟩,
  ⟨some 39, .fa 1 (.t 38), none⟩,
  ⟨some 40, .load (.t 39), none⟩,
  ⟨some 41, .mv (.t 5), none⟩,
  ⟨some 42, .bld [.string ⟨#[]⟩, .slice none 0 0] [(0, 1, (.t 41))], none⟩,
  ⟨some 43, .bsli 2 1 [.string ⟨#[]⟩, .slice none 0 0] [(0, (.t 42))], none⟩,
  ⟨some 44, .app 2 40 (.t 40) (.t 43), none⟩,
  ⟨some 45, .nilc (.t 36), none⟩,
  ⟨some 46, .fa 1 (.t 45), none⟩,
  ⟨none, .store 1 (.t 46) (.t 44), none⟩] env H none [] Q := w_reg
def F_conf_File_beginr11 : List IStmt := [
  ⟨some 4, .mv (.c (.int .i64 0)), none⟩]
theorem F_conf_File_beginr11_W {T : Tab} {env : Env} {H : Heap} {Q : Post} : W T (.reg F_conf_File_beginr11) env H Q ↔ WR T F_conf_File_beginr11 [
  ⟨some 4, .mv (.c (.int .i64 0)), none⟩] env H none [] Q := w_reg
def F_conf_File_beginc : ICode := (.seq (.reg F_conf_File_beginr0) (.seq (.reg F_conf_File_beginr1) (.seq (.seq (.reg F_conf_File_beginr2) (.cond (.t 21) (.seq (.reg F_conf_File_beginr3) .ret) .skip)) (.seq (.seq (.reg F_conf_File_beginr4) (.block 0 (.loop F_conf_File_beginl0))) (.seq (.reg F_conf_File_beginr10) (.seq (.reg F_conf_File_beginr11) .ret))))))
theorem F_conf_File_beginc_W {T : Tab} {env : Env} {H : Heap} {Q : Post} : W T F_conf_File_beginc env H Q ↔ W T (.seq (.reg F_conf_File_beginr0) (.seq (.reg F_conf_File_beginr1) (.seq (.seq (.reg F_conf_File_beginr2) (.cond (.t 21) (.seq (.reg F_conf_File_beginr3) .ret) .skip)) (.seq (.seq (.reg F_conf_File_beginr4) (.block 0 (.loop F_conf_File_beginl0))) (.seq (.reg F_conf_File_beginr10) (.seq (.reg F_conf_File_beginr11) .ret)))))) env H Q := Iff.rfl
def F_conf_File_begin : IFn := ⟨47, [.tmp 4], F_conf_File_beginc⟩
set_option maxRecDepth 1000000 in
theorem F_conf_File_begin_chk : chkF Tryd.prog 28 F_conf_File_begin = true := by kernel_rfl

/-! ### conf_Section_set -/
def F_conf_Section_setr0 : List IStmt := [
  ⟨some 4, .box 3 (.t 1), none⟩]
theorem F_conf_Section_setr0_W {T : Tab} {env : Env} {H : Heap} {Q : Post} : W T (.reg F_conf_Section_setr0) env H Q ↔ WR T F_conf_Section_setr0 [
  ⟨some 4, .box 3 (.t 1), none⟩] env H none [] Q := w_reg
def F_conf_Section_setr1 : List IStmt := [
  ⟨some 8, .mv (.t 0), none⟩,
  ⟨some 9, .nilc (.t 8), none⟩,
  ⟨some 10, .fa 1 (.t 9), none⟩,
  ⟨some 11, .load (.t 10), none⟩,
  ⟨some 12, .len 1 (.t 11), none⟩,
  ⟨some 13, .mv (.c (.int .i64 0)), none⟩]
theorem F_conf_Section_setr1_W {T : Tab} {env : Env} {H : Heap} {Q : Post} : W T (.reg F_conf_Section_setr1) env H Q ↔ WR T F_conf_Section_setr1 [
  ⟨some 8, .mv (.t 0), none⟩,
  ⟨some 9, .nilc (.t 8), none⟩,
  ⟨some 10, .fa 1 (.t 9), none⟩,
  ⟨some 11, .load (.t 10), none⟩,
  ⟨some 12, .len 1 (.t 11), none⟩,
  ⟨some 13, .mv (.c (.int .i64 0)), none⟩] env H none [] Q := w_reg
def F_conf_Section_setr2 : List IStmt := [
  ⟨some 14, .bin .lss (.t 13) (.t 12), none⟩]
theorem F_conf_Section_setr2_W {T : Tab} {env : Env} {H : Heap} {Q : Post} : W T (.reg F_conf_Section_setr2) env H Q ↔ WR T F_conf_Section_setr2 [
  ⟨some 14, .bin .lss (.t 13) (.t 12), none⟩] env H none [] Q := w_reg
def F_conf_Section_setr3 : List IStmt := [
  ⟨some 15, .mv (.t 13), none⟩,
  ⟨some 6, .mv (.t 15), none⟩]
theorem F_conf_Section_setr3_W {T : Tab} {env : Env} {H : Heap} {Q : Post} : W T (.reg F_conf_Section_setr3) env H Q ↔ WR T F_conf_Section_setr3 [
  ⟨some 15, .mv (.t 13), none⟩,
  ⟨some 6, .mv (.t 15), none⟩] env H none [] Q := w_reg
def F_conf_Section_setr4 : List IStmt := [
  ⟨some 16, .mv (.t 0), none⟩,
  ⟨some 17, .nilc (.t 16), none⟩,
  ⟨some 18, .fa 1 (.t 17), none⟩,
  ⟨some 19, .load (.t 18), none⟩,
  ⟨some 20, .mv (.t 6), none⟩,
  ⟨some 21, .ixa 3 (.t 19) (.t 20), none⟩,
  ⟨some 7, .mv (.t 21), none⟩]
theorem F_conf_Section_setr4_W {T : Tab} {env : Env} {H : Heap} {Q : Post} : W T (.reg F_conf_Section_setr4) env H Q ↔ WR T F_conf_Section_setr4 [
  ⟨some 16, .mv (.t 0), none⟩,
  ⟨some 17, .nilc (.t 16), none⟩,
  ⟨some 18, .fa 1 (.t 17), none⟩,
  ⟨some 19, .load (.t 18), none⟩,
  ⟨some 20, .mv (.t 6), none⟩,
  ⟨some 21, .ixa 3 (.t 19) (.t 20), none⟩,
  ⟨some 7, .mv (.t 21), none⟩] env H none [] Q := w_reg
def F_conf_Section_setr5 : List IStmt := [
  ⟨some 22, .mv (.t 7), none⟩,
  ⟨some 23, .nilc (.t 22), none⟩,
  ⟨some 24, .fa 0 (.t 23), none⟩,
  ⟨some 25, .load (.t 24), none⟩,
  ⟨some 26, .fa 0 (.t 4), none⟩,
  ⟨some 27, .load (.t 26), none⟩,
  ⟨some 28, .bin .neq (.t 25) (.t 27), none⟩]
theorem F_conf_Section_setr5_W {T : Tab} {env : Env} {H : Heap} {Q : Post} : W T (.dreg F_conf_Section_setr5 []) env H Q ↔ WR T F_conf_Section_setr5 [
  ⟨some 22, .mv (.t 7), none⟩,
  ⟨some 23, .nilc (.t 22), none⟩,
  ⟨some 24, .fa 0 (.t 23), none⟩,
  ⟨some 25, .load (.t 24), none⟩,
  ⟨some 26, .fa 0 (.t 4), none⟩,
  ⟨some 27, .load (.t 26), none⟩,
  ⟨some 28, .bin .neq (.t 25) (.t 27), none⟩] env H none [] Q := w_dreg0
def F_conf_Section_setr6 : List IStmt := [
  ⟨some 29, .mv (.t 2), none⟩,
  ⟨some 30, .mv (.t 29), none⟩,
  ⟨some 31, .mv (.t 7), some (1, true)⟩,
  ⟨some 32, .nilc (.t 31), some (1, true)⟩,
  ⟨some 33, .fa 1 (.t 32), some (1, true)⟩,
  ⟨some 34, .load (.t 33), some (1, true)⟩,
  ⟨some 35, .bin .neq (.t 34) (.c (.string ⟨#[]⟩)), some (1, true)⟩,
  ⟨some 36, .pick (.t 30) (.t 35) (.c (.bool false)), none⟩]
theorem F_conf_Section_setr6_W {T : Tab} {env : Env} {H : Heap} {Q : Post} : W T (.reg F_conf_Section_setr6) env H Q ↔ WR T F_conf_Section_setr6 [
  ⟨some 29, .mv (.t 2), none⟩,
  ⟨some 30, .mv (.t 29), none⟩,
  ⟨some 31, .mv (.t 7), some (1, true)⟩,
  ⟨some 32, .nilc (.t 31), some (1, true)⟩,
  ⟨some 33, .fa 1 (.t 32), some (1, true)⟩,
  ⟨some 34, .load (.t 33), some (1, true)⟩,
  ⟨some 35, .bin .neq (.t 34) (.c (.string ⟨#[]⟩)), some (1, true)⟩,
  ⟨some 36, .pick (.t 30) (.t 35) (.c (.bool false)), none⟩] env H none [] Q := w_reg
theorem F_conf_Section_setr6_g1 {env : Env} : yieldI F_conf_Section_setr6 env 1 = bOf (env 30) := rfl
def F_conf_Section_setr7 : List IStmt := [
  ⟨some 37, .mv (.t 7), none⟩,
  ⟨some 38, .nilc (.t 37), none⟩,
  ⟨some 39, .fa 1 (.t 38), none⟩,
  ⟨some 40, .load (.t 39), none⟩,
  ⟨some 41, .fa 0 (.t 4), none⟩,
  ⟨some 42, .load (.t 41), none⟩,
  ⟨some 43, .callc 45 [(.t 42)], none⟩,
  ⟨some 44, .bin .add (.t 40) (.t 43), none⟩,
  ⟨some 45, .fa 1 (.t 4), none⟩,
  ⟨some 46, .load (.t 45), none⟩,
  ⟨some 47, .bin .add (.t 44) (.t 46), none⟩,
  ⟨some 48, .fa 1 (.t 4), none⟩,
  ⟨none, .store 1 (.t 48) (.t 47), none⟩]
theorem F_conf_Section_setr7_W {T : Tab} {env : Env} {H : Heap} {Q : Post} : W T (.dreg F_conf_Section_setr7 []) env H Q ↔ WR T F_conf_Section_setr7 [
  ⟨some 37, .mv (.t 7), none⟩,
  ⟨some 38, .nilc (.t 37), none⟩,
  ⟨some 39, .fa 1 (.t 38), none⟩,
  ⟨some 40, .load (.t 39), none⟩,
  ⟨some 41, .fa 0 (.t 4), none⟩,
  ⟨some 42, .load (.t 41), none⟩,
  ⟨some 43, .callc 45 [(.t 42)], none⟩,
  ⟨some 44, .bin .add (.t 40) (.t 43), none⟩,
  ⟨some 45, .fa 1 (.t 4), none⟩,
  ⟨some 46, .load (.t 45), none⟩,
  ⟨some 47, .bin .add (.t 44) (.t 46), none⟩,
  ⟨some 48, .fa 1 (.t 4), none⟩,
  ⟨none, .store 1 (.t 48) (.t 47), none⟩] env H none [] Q := w_dreg0
def F_conf_Section_setr8 : List IStmt := [
  ⟨some 49, .mv (.t 7), none⟩,
  ⟨some 50, .loadN 3 (.t 4), none⟩,
  ⟨some 51, .nilc (.t 49), none⟩,
  ⟨none, .store 3 (.t 51) (.t 50), none⟩]
theorem F_conf_Section_setr8_W {T : Tab} {env : Env} {H : Heap} {Q : Post} : W T (.reg F_conf_Section_setr8) env H Q ↔ WR T F_conf_Section_setr8 [
  ⟨some 49, .mv (.t 7), none⟩,
  ⟨some 50, .loadN 3 (.t 4), none⟩,
  ⟨some 51, .nilc (.t 49), none⟩,
  ⟨none, .store 3 (.t 51) (.t 50), none⟩] env H none [] Q := w_reg
def F_conf_Section_setr9 : List IStmt := [
  ⟨some 52, .bin .add (.t 13) (.c (.int .i64 1)), none⟩,
  ⟨some 13, .mv (.t 52), none⟩]
theorem F_conf_Section_setr9_W {T : Tab} {env : Env} {H : Heap} {Q : Post} : W T (.reg F_conf_Section_setr9) env H Q ↔ WR T F_conf_Section_setr9 [
  ⟨some 52, .bin .add (.t 13) (.c (.int .i64 1)), none⟩,
  ⟨some 13, .mv (.t 52), none⟩] env H none [] Q := w_reg
def F_conf_Section_setl0 : ICode := (.seq (.reg F_conf_Section_setr2) (.seq (.cond (.t 14) .skip (.exit 0)) (.seq (.block 1 (.seq (.reg F_conf_Section_setr3) (.seq (.reg F_conf_Section_setr4) (.seq (.seq (.dreg F_conf_Section_setr5 []) (.cond (.t 28) (.exit 1) .skip)) (.seq (.seq (.reg F_conf_Section_setr6) (.cond (.t 36) (.dreg F_conf_Section_setr7 []) .skip)) (.seq (.reg F_conf_Section_setr8) .ret)))))) (.reg F_conf_Section_setr9))))
theorem F_conf_Section_setl0_W {T : Tab} {env : Env} {H : Heap} {Q : Post} : W T F_conf_Section_setl0 env H Q ↔ W T (.seq (.reg F_conf_Section_setr2) (.seq (.cond (.t 14) .skip (.exit 0)) (.seq (.block 1 (.seq (.reg F_conf_Section_setr3) (.seq (.reg F_conf_Section_setr4) (.seq (.seq (.dreg F_conf_Section_setr5 []) (.cond (.t 28) (.exit 1) .skip)) (.seq (.seq (.reg F_conf_Section_setr6) (.cond (.t 36) (.dreg F_conf_Section_setr7 []) .skip)) (.seq (.reg F_conf_Section_setr8) .ret)))))) (.reg F_conf_Section_setr9)))) env H Q := Iff.rfl
def F_conf_Section_setr10 : List IStmt := [
  ⟨some 53, .mv (.t 0), none⟩,
  ⟨some 54, .mv (.t 0), none⟩,
  ⟨some 55, .nilc (.t 54), none⟩,
  ⟨some 56, .fa 1 (.t 55), none⟩,
  ⟨some 57, .load (.t 56), none⟩,
  ⟨some 58, .loadN 3 (.t 4), none⟩,
  ⟨some 59, .bsli 3 1 [.string ⟨#[]⟩, .string ⟨#[]⟩, .int .i64 0] [(0, (.t 58))], none⟩,
  ⟨some 60, .app 3 40 (.t 57) (.t 59), none⟩,
  ⟨some 61, .nilc (.t 53), none⟩,
  ⟨some 62, .fa 1 (.t 61), none⟩,
  ⟨none, .store 1 (.t 62) (.t 60), none⟩]
theorem F_conf_Section_setr10_W {T : Tab} {env : Env} {H : Heap} {Q : Post} : W T (.dreg F_conf_Section_setr10 []) env H Q ↔ WR T F_conf_Section_setr10 [
  ⟨some 53, .mv (.t 0), none⟩,
  ⟨some 54, .mv (.t 0), none⟩,
  ⟨some 55, .nilc (.t 54), none⟩,
  ⟨some 56, .fa 1 (.t 55), none⟩,
  ⟨some 57, .load (.t 56), none⟩,
  ⟨some 58, .loadN 3 (.t 4), none⟩,
  ⟨some 59, .bsli 3 1 [.string ⟨#[]⟩, .string ⟨#[]⟩, .int .i64 0] [(0, (.t 58))], none⟩,
  ⟨some 60, .app 3 40 (.t 57) (.t 59), none⟩,
  ⟨some 61, .nilc (.t 53), none⟩,
  ⟨some 62, .fa 1 (.t 61), none⟩,
  ⟨none, .store 1 (.t 62) (.t 60), none⟩] env H none [] Q := w_dreg0
def F_conf_Section_setc : ICode := (.seq (.reg F_conf_Section_setr0) (.seq (.seq (.reg F_conf_Section_setr1) (.block 0 (.loop F_conf_Section_setl0))) (.dreg F_conf_Section_setr10 [])))
theorem F_conf_Section_setc_W {T : Tab} {env : Env} {H : Heap} {Q : Post} : W T F_conf_Section_setc env H Q ↔ W T (.seq (.reg F_conf_Section_setr0) (.seq (.seq (.reg F_conf_Section_setr1) (.block 0 (.loop F_conf_Section_setl0))) (.dreg F_conf_Section_setr10 []))) env H Q := Iff.rfl
def F_conf_Section_set : IFn := ⟨63, [], F_conf_Section_setc⟩
set_option maxRecDepth 1000000 in
theorem F_conf_Section_set_chk : chkF Tryd.prog 32 F_conf_Section_set = true := by kernel_rfl

/-! ### conf_between -/
def F_conf_betweenr0 : List IStmt := [
  ⟨some 2, .mv (.c (.string ⟨#[]⟩)), none⟩]
theorem F_conf_betweenr0_W {T : Tab} {env : Env} {H : Heap} {Q : Post} : W T (.reg F_conf_betweenr0) env H Q ↔ WR T F_conf_betweenr0 [
  ⟨some 2, .mv (.c (.string ⟨#[]⟩)), none⟩] env H none [] Q := w_reg
def F_conf_betweenr1 : List IStmt := [
  ⟨some 3, .mv (.t 0), none⟩,
  ⟨some 4, .bin .eql (.t 3) (.c (.string ⟨#[97, 100, 100, 105, 116, 105, 111, 110, 97, 108, 46, 110, 97, 109, 101, 115, 112, 97, 99, 101, 115]⟩)), none⟩,
  ⟨some 5, .mv (.t 4), none⟩,
  ⟨some 6, .mv (.t 0), some (2, false)⟩,
  ⟨some 7, .callc 29 [(.t 6), (.c (.string ⟨#[46, 108, 105, 110, 107, 115]⟩))], some (2, false)⟩,
  ⟨some 8, .pick (.t 5) (.c (.bool true)) (.t 7), none⟩]
theorem F_conf_betweenr1_W {T : Tab} {env : Env} {H : Heap} {Q : Post} : W T (.reg F_conf_betweenr1) env H Q ↔ WR T F_conf_betweenr1 [
  ⟨some 3, .mv (.t 0), none⟩,
  ⟨some 4, .bin .eql (.t 3) (.c (.string ⟨#[97, 100, 100, 105, 116, 105, 111, 110, 97, 108, 46, 110, 97, 109, 101, 115, 112, 97, 99, 101, 115]⟩)), none⟩,
  ⟨some 5, .mv (.t 4), none⟩,
  ⟨some 6, .mv (.t 0), some (2, false)⟩,
  ⟨some 7, .callc 29 [(.t 6), (.c (.string ⟨#[46, 108, 105, 110, 107, 115]⟩))], some (2, false)⟩,
  ⟨some 8, .pick (.t 5) (.c (.bool true)) (.t 7), none⟩] env H none [] Q := w_reg
theorem F_conf_betweenr1_g2 {env : Env} : yieldI F_conf_betweenr1 env 2 = bOf (env 5) := rfl
def F_conf_betweenr2 : List IStmt := [
  ⟨some 2, .mv (.c (.string ⟨#[44]⟩)), none⟩]
theorem F_conf_betweenr2_W {T : Tab} {env : Env} {H : Heap} {Q : Post} : W T (.reg F_conf_betweenr2) env H Q ↔ WR T F_conf_betweenr2 [
  ⟨some 2, .mv (.c (.string ⟨#[44]⟩)), none⟩] env H none [] Q := w_reg
def F_conf_betweenr3 : List IStmt := [
  ⟨some 2, .mv (.c (.string ⟨#[58]⟩)), none⟩]
theorem F_conf_betweenr3_W {T : Tab} {env : Env} {H : Heap} {Q : Post} : W T (.reg F_conf_betweenr3) env H Q ↔ WR T F_conf_betweenr3 [
  ⟨some 2, .mv (.c (.string ⟨#[58]⟩)), none⟩] env H none [] Q := w_reg
def F_conf_betweenc : ICode := (.seq (.reg F_conf_betweenr0) (.seq (.seq (.reg F_conf_betweenr1) (.cond (.t 8) (.seq (.reg F_conf_betweenr2) .ret) .skip)) (.seq (.reg F_conf_betweenr3) .ret)))
theorem F_conf_betweenc_W {T : Tab} {env : Env} {H : Heap} {Q : Post} : W T F_conf_betweenc env H Q ↔ W T (.seq (.reg F_conf_betweenr0) (.seq (.seq (.reg F_conf_betweenr1) (.cond (.t 8) (.seq (.reg F_conf_betweenr2) .ret) .skip)) (.seq (.reg F_conf_betweenr3) .ret))) env H Q := Iff.rfl
def F_conf_between : IFn := ⟨9, [.tmp 2], F_conf_betweenc⟩
set_option maxRecDepth 1000000 in
theorem F_conf_between_chk : chkF Tryd.prog 45 F_conf_between = true := by kernel_rfl

/-! ### conf_trim -/
def F_conf_trimr0 : List IStmt := [
  ⟨some 2, .mv (.c (.string ⟨#[]⟩)), none⟩]
theorem F_conf_trimr0_W {T : Tab} {env : Env} {H : Heap} {Q : Post} : W T (.reg F_conf_trimr0) env H Q ↔ WR T F_conf_trimr0 [
  ⟨some 2, .mv (.c (.string ⟨#[]⟩)), none⟩] env H none [] Q := w_reg
def F_conf_trimr1 : List IStmt := [
  ⟨some 3, .mv (.t 0), none⟩,
  ⟨some 4, .bin .neq (.t 3) (.c (.string ⟨#[]⟩)), none⟩,
  ⟨some 5, .mv (.t 4), none⟩,
  ⟨some 6, .mv (.t 0), some (2, true)⟩,
  ⟨some 7, .ixs (.t 6) (.c (.int .i64 0)), some (2, true)⟩,
  ⟨some 8, .callc 27 [(.t 7)], some (2, true)⟩,
  ⟨some 9, .pick (.t 5) (.t 8) (.c (.bool false)), none⟩]
theorem F_conf_trimr1_W {T : Tab} {env : Env} {H : Heap} {Q : Post} : W T (.reg F_conf_trimr1) env H Q ↔ WR T F_conf_trimr1 [
  ⟨some 3, .mv (.t 0), none⟩,
  ⟨some 4, .bin .neq (.t 3) (.c (.string ⟨#[]⟩)), none⟩,
  ⟨some 5, .mv (.t 4), none⟩,
  ⟨some 6, .mv (.t 0), some (2, true)⟩,
  ⟨some 7, .ixs (.t 6) (.c (.int .i64 0)), some (2, true)⟩,
  ⟨some 8, .callc 27 [(.t 7)], some (2, true)⟩,
  ⟨some 9, .pick (.t 5) (.t 8) (.c (.bool false)), none⟩] env H none [] Q := w_reg
theorem F_conf_trimr1_g2 {env : Env} : yieldI F_conf_trimr1 env 2 = bOf (env 5) := rfl
def F_conf_trimr2 : List IStmt := [
  ⟨some 10, .mv (.t 0), none⟩,
  ⟨some 11, .sls (.t 10) (some (.c (.int .i64 1))) none, none⟩,
  ⟨some 0, .mv (.t 11), none⟩]
theorem F_conf_trimr2_W {T : Tab} {env : Env} {H : Heap} {Q : Post} : W T (.reg F_conf_trimr2) env H Q ↔ WR T F_conf_trimr2 [
  ⟨some 10, .mv (.t 0), none⟩,
  ⟨some 11, .sls (.t 10) (some (.c (.int .i64 1))) none, none⟩,
  ⟨some 0, .mv (.t 11), none⟩] env H none [] Q := w_reg
def F_conf_triml0 : ICode := (.seq (.seq (.reg F_conf_trimr1) (.cond (.t 9) .skip (.exit 0))) (.block 1 (.reg F_conf_trimr2)))
theorem F_conf_triml0_W {T : Tab} {env : Env} {H : Heap} {Q : Post} : W T F_conf_triml0 env H Q ↔ W T (.seq (.seq (.reg F_conf_trimr1) (.cond (.t 9) .skip (.exit 0))) (.block 1 (.reg F_conf_trimr2))) env H Q := Iff.rfl
def F_conf_trimr3 : List IStmt := [
  ⟨some 12, .mv (.t 0), none⟩,
  ⟨some 13, .bin .neq (.t 12) (.c (.string ⟨#[]⟩)), none⟩,
  ⟨some 14, .mv (.t 13), none⟩,
  ⟨some 15, .mv (.t 0), some (2, true)⟩,
  ⟨some 16, .mv (.t 0), some (2, true)⟩,
  ⟨some 17, .len 0 (.t 16), some (2, true)⟩,
  ⟨some 18, .bin .sub (.t 17) (.c (.int .i64 1)), some (2, true)⟩,
  ⟨some 19, .ixs (.t 15) (.t 18), some (2, true)⟩,
  ⟨some 20, .callc 27 [(.t 19)], some (2, true)⟩,
  ⟨some 21, .pick (.t 14) (.t 20) (.c (.bool false)), none⟩]
theorem F_conf_trimr3_W {T : Tab} {env : Env} {H : Heap} {Q : Post} : W T (.reg F_conf_trimr3) env H Q ↔ WR T F_conf_trimr3 [
  ⟨some 12, .mv (.t 0), none⟩,
  ⟨some 13, .bin .neq (.t 12) (.c (.string ⟨#[]⟩)), none⟩,
  ⟨some 14, .mv (.t 13), none⟩,
  ⟨some 15, .mv (.t 0), some (2, true)⟩,
  ⟨some 16, .mv (.t 0), some (2, true)⟩,
  ⟨some 17, .len 0 (.t 16), some (2, true)⟩,
  ⟨some 18, .bin .sub (.t 17) (.c (.int .i64 1)), some (2, true)⟩,
  ⟨some 19, .ixs (.t 15) (.t 18), some (2, true)⟩,
  ⟨some 20, .callc 27 [(.t 19)], some (2, true)⟩,
  ⟨some 21, .pick (.t 14) (.t 20) (.c (.bool false)), none⟩] env H none [] Q := w_reg
theorem F_conf_trimr3_g2 {env : Env} : yieldI F_conf_trimr3 env 2 = bOf (env 14) := rfl
def F_conf_trimr4 : List IStmt := [
  ⟨some 22, .mv (.t 0), none⟩,
  ⟨some 23, .mv (.t 0), none⟩,
  ⟨some 24, .len 0 (.t 23), none⟩,
  ⟨some 25, .bin .sub (.t 24) (.c (.int .i64 1)), none⟩,
  ⟨some 26, .sls (.t 22) none (some (.t 25)), none⟩,
  ⟨some 0, .mv (.t 26), none⟩]
theorem F_conf_trimr4_W {T : Tab} {env : Env} {H : Heap} {Q : Post} : W T (.reg F_conf_trimr4) env H Q ↔ WR T F_conf_trimr4 [
  ⟨some 22, .mv (.t 0), none⟩,
  ⟨some 23, .mv (.t 0), none⟩,
  ⟨some 24, .len 0 (.t 23), none⟩,
  ⟨some 25, .bin .sub (.t 24) (.c (.int .i64 1)), none⟩,
  ⟨some 26, .sls (.t 22) none (some (.t 25)), none⟩,
  ⟨some 0, .mv (.t 26), none⟩] env H none [] Q := w_reg
def F_conf_triml1 : ICode := (.seq (.seq (.reg F_conf_trimr3) (.cond (.t 21) .skip (.exit 2))) (.block 3 (.reg F_conf_trimr4)))
theorem F_conf_triml1_W {T : Tab} {env : Env} {H : Heap} {Q : Post} : W T F_conf_triml1 env H Q ↔ W T (.seq (.seq (.reg F_conf_trimr3) (.cond (.t 21) .skip (.exit 2))) (.block 3 (.reg F_conf_trimr4))) env H Q := Iff.rfl
def F_conf_trimr5 : List IStmt := [
  ⟨some 27, .mv (.t 0), none⟩,
  ⟨some 2, .mv (.t 27), none⟩]
theorem F_conf_trimr5_W {T : Tab} {env : Env} {H : Heap} {Q : Post} : W T (.reg F_conf_trimr5) env H Q ↔ WR T F_conf_trimr5 [
  ⟨some 27, .mv (.t 0), none⟩,
  ⟨some 2, .mv (.t 27), none⟩] env H none [] Q := w_reg
def F_conf_trimc : ICode := (.seq (.reg F_conf_trimr0) (.seq (.block 0 (.loop F_conf_triml0)) (.seq (.block 2 (.loop F_conf_triml1)) (.seq (.reg F_conf_trimr5) .ret))))
theorem F_conf_trimc_W {T : Tab} {env : Env} {H : Heap} {Q : Post} : W T F_conf_trimc env H Q ↔ W T (.seq (.reg F_conf_trimr0) (.seq (.block 0 (.loop F_conf_triml0)) (.seq (.block 2 (.loop F_conf_triml1)) (.seq (.reg F_conf_trimr5) .ret)))) env H Q := Iff.rfl
def F_conf_trim : IFn := ⟨28, [.tmp 2], F_conf_trimc⟩
set_option maxRecDepth 1000000 in
theorem F_conf_trim_chk : chkF Tryd.prog 17 F_conf_trim = true := by kernel_rfl

/-! ### conf_blank -/
def F_conf_blankr0 : List IStmt := [
  ⟨some 2, .mv (.c (.bool false)), none⟩]
theorem F_conf_blankr0_W {T : Tab} {env : Env} {H : Heap} {Q : Post} : W T (.reg F_conf_blankr0) env H Q ↔ WR T F_conf_blankr0 [
  ⟨some 2, .mv (.c (.bool false)), none⟩] env H none [] Q := w_reg
def F_conf_blankr1 : List IStmt := [
  ⟨some 3, .mv (.t 0), none⟩,
  ⟨some 4, .bin .eql (.t 3) (.c (.int .u8 32)), none⟩,
  ⟨some 5, .mv (.t 4), none⟩,
  ⟨some 6, .mv (.t 0), some (2, false)⟩,
  ⟨some 7, .bin .eql (.t 6) (.c (.int .u8 9)), some (2, false)⟩,
  ⟨some 8, .pick (.t 5) (.c (.bool true)) (.t 7), none⟩,
  ⟨some 9, .mv (.t 8), none⟩,
  ⟨some 10, .mv (.t 0), some (6, false)⟩,
  ⟨some 11, .bin .eql (.t 10) (.c (.int .u8 13)), some (6, false)⟩,
  ⟨some 12, .pick (.t 9) (.c (.bool true)) (.t 11), none⟩,
  ⟨some 2, .mv (.t 12), none⟩]
theorem F_conf_blankr1_W {T : Tab} {env : Env} {H : Heap} {Q : Post} : W T (.reg F_conf_blankr1) env H Q ↔ WR T F_conf_blankr1 [
  ⟨some 3, .mv (.t 0), none⟩,
  ⟨some 4, .bin .eql (.t 3) (.c (.int .u8 32)), none⟩,
  ⟨some 5, .mv (.t 4), none⟩,
  ⟨some 6, .mv (.t 0), some (2, false)⟩,
  ⟨some 7, .bin .eql (.t 6) (.c (.int .u8 9)), some (2, false)⟩,
  ⟨some 8, .pick (.t 5) (.c (.bool true)) (.t 7), none⟩,
  ⟨some 9, .mv (.t 8), none⟩,
  ⟨some 10, .mv (.t 0), some (6, false)⟩,
  ⟨some 11, .bin .eql (.t 10) (.c (.int .u8 13)), some (6, false)⟩,
  ⟨some 12, .pick (.t 9) (.c (.bool true)) (.t 11), none⟩,
  ⟨some 2, .mv (.t 12), none⟩] env H none [] Q := w_reg
theorem F_conf_blankr1_g2 {env : Env} : yieldI F_conf_blankr1 env 2 = bOf (env 5) := rfl
theorem F_conf_blankr1_g6 {env : Env} : yieldI F_conf_blankr1 env 6 = bOf (env 9) := rfl
def F_conf_blankc : ICode := (.seq (.reg F_conf_blankr0) (.seq (.reg F_conf_blankr1) .ret))
theorem F_conf_blankc_W {T : Tab} {env : Env} {H : Heap} {Q : Post} : W T F_conf_blankc env H Q ↔ W T (.seq (.reg F_conf_blankr0) (.seq (.reg F_conf_blankr1) .ret)) env H Q := Iff.rfl
def F_conf_blank : IFn := ⟨13, [.tmp 2], F_conf_blankc⟩
set_option maxRecDepth 1000000 in
theorem F_conf_blank_chk : chkF Tryd.prog 27 F_conf_blank = true := by kernel_rfl

/-! ### conf_plain -/
def F_conf_plainr0 : List IStmt := [
  ⟨some 2, .mv (.c (.bool false)), none⟩]
theorem F_conf_plainr0_W {T : Tab} {env : Env} {H : Heap} {Q : Post} : W T (.reg F_conf_plainr0) env H Q ↔ WR T F_conf_plainr0 [
  ⟨some 2, .mv (.c (.bool false)), none⟩] env H none [] Q := w_reg
def F_conf_plainr1 : List IStmt := [
  ⟨some 4, .mv (.t 0), none⟩,
  ⟨some 5, .len 0 (.t 4), none⟩,
  ⟨some 6, .mv (.c (.int .i64 0)), none⟩]
theorem F_conf_plainr1_W {T : Tab} {env : Env} {H : Heap} {Q : Post} : W T (.reg F_conf_plainr1) env H Q ↔ WR T F_conf_plainr1 [
  ⟨some 4, .mv (.t 0), none⟩,
  ⟨some 5, .len 0 (.t 4), none⟩,
  ⟨some 6, .mv (.c (.int .i64 0)), none⟩] env H none [] Q := w_reg
def F_conf_plainr2 : List IStmt := [
  ⟨some 7, .bin .lss (.t 6) (.t 5), none⟩]
theorem F_conf_plainr2_W {T : Tab} {env : Env} {H : Heap} {Q : Post} : W T (.reg F_conf_plainr2) env H Q ↔ WR T F_conf_plainr2 [
  ⟨some 7, .bin .lss (.t 6) (.t 5), none⟩] env H none [] Q := w_reg
def F_conf_plainr3 : List IStmt := [
  ⟨some 8, .mv (.t 6), none⟩,
  ⟨some 3, .mv (.t 8), none⟩]
theorem F_conf_plainr3_W {T : Tab} {env : Env} {H : Heap} {Q : Post} : W T (.reg F_conf_plainr3) env H Q ↔ WR T F_conf_plainr3 [
  ⟨some 8, .mv (.t 6), none⟩,
  ⟨some 3, .mv (.t 8), none⟩] env H none [] Q := w_reg
def F_conf_plainr4 : List IStmt := [
  ⟨some 9, .mv (.t 0), none⟩,
  ⟨some 10, .mv (.t 3), none⟩,
  ⟨some 11, .ixs (.t 9) (.t 10), none⟩,
  ⟨some 12, .bin .lss (.t 11) (.c (.int .u8 32)), none⟩,
  ⟨some 13, .mv (.t 12), none⟩,
  ⟨some 14, .mv (.t 0), some (4, false)⟩,
  ⟨some 15, .mv (.t 3), some (4, false)⟩,
  ⟨some 16, .ixs (.t 14) (.t 15), some (4, false)⟩,
  ⟨some 17, .bin .gtr (.t 16) (.c (.int .u8 126)), some (4, false)⟩,
  ⟨some 18, .pick (.t 13) (.c (.bool true)) (.t 17), none⟩,
  ⟨some 19, .mv (.t 18), none⟩,
  ⟨some 20, .mv (.t 0), some (10, true)⟩,
  ⟨some 21, .mv (.t 3), some (10, true)⟩,
  ⟨some 22, .ixs (.t 20) (.t 21), some (10, true)⟩,
  ⟨some 23, .callc 27 [(.t 22)], some (10, true)⟩,
  ⟨some 24, .un .not (.t 23), some (10, true)⟩,
  ⟨some 25, .pick (.t 19) (.t 24) (.c (.bool false)), none⟩]
theorem F_conf_plainr4_W {T : Tab} {env : Env} {H : Heap} {Q : Post} : W T (.reg F_conf_plainr4) env H Q ↔ WR T F_conf_plainr4 [
  ⟨some 9, .mv (.t 0), none⟩,
  ⟨some 10, .mv (.t 3), none⟩,
  ⟨some 11, .ixs (.t 9) (.t 10), none⟩,
  ⟨some 12, .bin .lss (.t 11) (.c (.int .u8 32)), none⟩,
  ⟨some 13, .mv (.t 12), none⟩,
  ⟨some 14, .mv (.t 0), some (4, false)⟩,
  ⟨some 15, .mv (.t 3), some (4, false)⟩,
  ⟨some 16, .ixs (.t 14) (.t 15), some (4, false)⟩,
  ⟨some 17, .bin .gtr (.t 16) (.c (.int .u8 126)), some (4, false)⟩,
  ⟨some 18, .pick (.t 13) (.c (.bool true)) (.t 17), none⟩,
  ⟨some 19, .mv (.t 18), none⟩,
  ⟨some 20, .mv (.t 0), some (10, true)⟩,
  ⟨some 21, .mv (.t 3), some (10, true)⟩,
  ⟨some 22, .ixs (.t 20) (.t 21), some (10, true)⟩,
  ⟨some 23, .callc 27 [(.t 22)], some (10, true)⟩,
  ⟨some 24, .un .not (.t 23), some (10, true)⟩,
  ⟨some 25, .pick (.t 19) (.t 24) (.c (.bool false)), none⟩] env H none [] Q := w_reg
theorem F_conf_plainr4_g4 {env : Env} : yieldI F_conf_plainr4 env 4 = bOf (env 13) := rfl
theorem F_conf_plainr4_g10 {env : Env} : yieldI F_conf_plainr4 env 10 = bOf (env 19) := rfl
def F_conf_plainr5 : List IStmt := [
  ⟨some 2, .mv (.c (.bool false)), none⟩]
theorem F_conf_plainr5_W {T : Tab} {env : Env} {H : Heap} {Q : Post} : W T (.reg F_conf_plainr5) env H Q ↔ WR T F_conf_plainr5 [
  ⟨some 2, .mv (.c (.bool false)), none⟩] env H none [] Q := w_reg
def F_conf_plainr6 : List IStmt := [
  ⟨some 26, .bin .add (.t 6) (.c (.int .i64 1)), none⟩,
  ⟨some 6, .mv (.t 26), none⟩]
theorem F_conf_plainr6_W {T : Tab} {env : Env} {H : Heap} {Q : Post} : W T (.reg F_conf_plainr6) env H Q ↔ WR T F_conf_plainr6 [
  ⟨some 26, .bin .add (.t 6) (.c (.int .i64 1)), none⟩,
  ⟨some 6, .mv (.t 26), none⟩] env H none [] Q := w_reg
def F_conf_plainl0 : ICode := (.seq (.reg F_conf_plainr2) (.seq (.cond (.t 7) .skip (.exit 0)) (.seq (.block 1 (.seq (.reg F_conf_plainr3) (.seq (.reg F_conf_plainr4) (.cond (.t 25) (.seq (.reg F_conf_plainr5) .ret) .skip)))) (.reg F_conf_plainr6))))
theorem F_conf_plainl0_W {T : Tab} {env : Env} {H : Heap} {Q : Post} : W T F_conf_plainl0 env H Q ↔ W T (.seq (.reg F_conf_plainr2) (.seq (.cond (.t 7) .skip (.exit 0)) (.seq (.block 1 (.seq (.reg F_conf_plainr3) (.seq (.reg F_conf_plainr4) (.cond (.t 25) (.seq (.reg F_conf_plainr5) .ret) .skip)))) (.reg F_conf_plainr6)))) env H Q := Iff.rfl
def F_conf_plainr7 : List IStmt := [
  ⟨some 2, .mv (.c (.bool true)), none⟩]
theorem F_conf_plainr7_W {T : Tab} {env : Env} {H : Heap} {Q : Post} : W T (.reg F_conf_plainr7) env H Q ↔ WR T F_conf_plainr7 [
  ⟨some 2, .mv (.c (.bool true)), none⟩] env H none [] Q := w_reg
def F_conf_plainc : ICode := (.seq (.reg F_conf_plainr0) (.seq (.seq (.reg F_conf_plainr1) (.block 0 (.loop F_conf_plainl0))) (.seq (.reg F_conf_plainr7) .ret)))
theorem F_conf_plainc_W {T : Tab} {env : Env} {H : Heap} {Q : Post} : W T F_conf_plainc env H Q ↔ W T (.seq (.reg F_conf_plainr0) (.seq (.seq (.reg F_conf_plainr1) (.block 0 (.loop F_conf_plainl0))) (.seq (.reg F_conf_plainr7) .ret))) env H Q := Iff.rfl
def F_conf_plain : IFn := ⟨27, [.tmp 2], F_conf_plainc⟩
set_option maxRecDepth 1000000 in
theorem F_conf_plain_chk : chkF Tryd.prog 16 F_conf_plain = true := by kernel_rfl

/-! ### conf_good -/
def F_conf_goodr0 : List IStmt := [
  ⟨some 2, .mv (.c (.bool false)), none⟩]
theorem F_conf_goodr0_W {T : Tab} {env : Env} {H : Heap} {Q : Post} : W T (.reg F_conf_goodr0) env H Q ↔ WR T F_conf_goodr0 [
  ⟨some 2, .mv (.c (.bool false)), none⟩] env H none [] Q := w_reg
def F_conf_goodr1 : List IStmt := [
  ⟨some 6, .mv (.t 0), none⟩,
  ⟨some 7, .len 0 (.t 6), none⟩,
  ⟨some 8, .mv (.c (.int .i64 0)), none⟩]
theorem F_conf_goodr1_W {T : Tab} {env : Env} {H : Heap} {Q : Post} : W T (.reg F_conf_goodr1) env H Q ↔ WR T F_conf_goodr1 [
  ⟨some 6, .mv (.t 0), none⟩,
  ⟨some 7, .len 0 (.t 6), none⟩,
  ⟨some 8, .mv (.c (.int .i64 0)), none⟩] env H none [] Q := w_reg
def F_conf_goodr2 : List IStmt := [
  ⟨some 9, .bin .lss (.t 8) (.t 7), none⟩]
theorem F_conf_goodr2_W {T : Tab} {env : Env} {H : Heap} {Q : Post} : W T (.reg F_conf_goodr2) env H Q ↔ WR T F_conf_goodr2 [
  ⟨some 9, .bin .lss (.t 8) (.t 7), none⟩] env H none [] Q := w_reg
def F_conf_goodr3 : List IStmt := [
  ⟨some 10, .mv (.t 8), none⟩,
  ⟨some 3, .mv (.t 10), none⟩]
theorem F_conf_goodr3_W {T : Tab} {env : Env} {H : Heap} {Q : Post} : W T (.reg F_conf_goodr3) env H Q ↔ WR T F_conf_goodr3 [
  ⟨some 10, .mv (.t 8), none⟩,
  ⟨some 3, .mv (.t 10), none⟩] env H none [] Q := w_reg
def F_conf_goodr4 : List IStmt := [
  ⟨some 11, .mv (.t 0), none⟩,
  ⟨some 12, .mv (.t 3), none⟩,
  ⟨some 13, .ixs (.t 11) (.t 12), none⟩,
  ⟨some 4, .mv (.t 13), none⟩]
theorem F_conf_goodr4_W {T : Tab} {env : Env} {H : Heap} {Q : Post} : W T (.reg F_conf_goodr4) env H Q ↔ WR T F_conf_goodr4 [
  ⟨some 11, .mv (.t 0), none⟩,
  ⟨some 12, .mv (.t 3), none⟩,
  ⟨some 13, .ixs (.t 11) (.t 12), none⟩,
  ⟨some 4, .mv (.t 13), none⟩] env H none [] Q := w_reg
def F_conf_goodr5 : List IStmt := [
  ⟨some 14, .mv (.t 4), none⟩,
  ⟨some 15, .bin .geq (.t 14) (.c (.int .u8 97)), none⟩,
  ⟨some 16, .mv (.t 15), none⟩,
  ⟨some 17, .mv (.t 4), some (2, true)⟩,
  ⟨some 18, .bin .leq (.t 17) (.c (.int .u8 122)), some (2, true)⟩,
  ⟨some 19, .pick (.t 16) (.t 18) (.c (.bool false)), none⟩,
  ⟨some 20, .mv (.t 19), none⟩,
  ⟨some 21, .mv (.t 4), some (6, false)⟩,
  ⟨some 22, .bin .geq (.t 21) (.c (.int .u8 65)), some (6, false)⟩,
  ⟨some 23, .mv (.t 22), some (6, false)⟩,
  ⟨some 24, .mv (.t 4), some (9, true)⟩,
  ⟨some 25, .bin .leq (.t 24) (.c (.int .u8 90)), some (9, true)⟩,
  ⟨some 26, .pick (.t 23) (.t 25) (.c (.bool false)), some (6, false)⟩,
  ⟨some 27, .pick (.t 20) (.c (.bool true)) (.t 26), none⟩,
  ⟨some 28, .mv (.t 27), none⟩,
  ⟨some 29, .mv (.t 4), some (14, false)⟩,
  ⟨some 30, .bin .geq (.t 29) (.c (.int .u8 48)), some (14, false)⟩,
  ⟨some 31, .mv (.t 30), some (14, false)⟩,
  ⟨some 32, .mv (.t 4), some (17, true)⟩,
  ⟨some 33, .bin .leq (.t 32) (.c (.int .u8 57)), some (17, true)⟩,
  ⟨some 34, .pick (.t 31) (.t 33) (.c (.bool false)), some (14, false)⟩,
  ⟨some 35, .pick (.t 28) (.c (.bool true)) (.t 34), none⟩,
  ⟨some 5, .mv (.t 35), none⟩]
theorem F_conf_goodr5_W {T : Tab} {env : Env} {H : Heap} {Q : Post} : W T (.reg F_conf_goodr5) env H Q ↔ WR T F_conf_goodr5 [
  ⟨some 14, .mv (.t 4), none⟩,
  ⟨some 15, .bin .geq (.t 14) (.c (.int .u8 97)), none⟩,
  ⟨some 16, .mv (.t 15), none⟩,
  ⟨some 17, .mv (.t 4), some (2, true)⟩,
  ⟨some 18, .bin .leq (.t 17) (.c (.int .u8 122)), some (2, true)⟩,
  ⟨some 19, .pick (.t 16) (.t 18) (.c (.bool false)), none⟩,
  ⟨some 20, .mv (.t 19), none⟩,
  ⟨some 21, .mv (.t 4), some (6, false)⟩,
  ⟨some 22, .bin .geq (.t 21) (.c (.int .u8 65)), some (6, false)⟩,
  ⟨some 23, .mv (.t 22), some (6, false)⟩,
  ⟨some 24, .mv (.t 4), some (9, true)⟩,
  ⟨some 25, .bin .leq (.t 24) (.c (.int .u8 90)), some (9, true)⟩,
  ⟨some 26, .pick (.t 23) (.t 25) (.c (.bool false)), some (6, false)⟩,
  ⟨some 27, .pick (.t 20) (.c (.bool true)) (.t 26), none⟩,
  ⟨some 28, .mv (.t 27), none⟩,
  ⟨some 29, .mv (.t 4), some (14, false)⟩,
  ⟨some 30, .bin .geq (.t 29) (.c (.int .u8 48)), some (14, false)⟩,
  ⟨some 31, .mv (.t 30), some (14, false)⟩,
  ⟨some 32, .mv (.t 4), some (17, true)⟩,
  ⟨some 33, .bin .leq (.t 32) (.c (.int .u8 57)), some (17, true)⟩,
  ⟨some 34, .pick (.t 31) (.t 33) (.c (.bool false)), some (14, false)⟩,
  ⟨some 35, .pick (.t 28) (.c (.bool true)) (.t 34), none⟩,
  ⟨some 5, .mv (.t 35), none⟩] env H none [] Q := w_reg
theorem F_conf_goodr5_g2 {env : Env} : yieldI F_conf_goodr5 env 2 = bOf (env 16) := rfl
theorem F_conf_goodr5_g6 {env : Env} : yieldI F_conf_goodr5 env 6 = bOf (env 20) := rfl
theorem F_conf_goodr5_g9 {env : Env} : yieldI F_conf_goodr5 env 9 = bOf (env 23) := rfl
theorem F_conf_goodr5_g14 {env : Env} : yieldI F_conf_goodr5 env 14 = bOf (env 28) := rfl
theorem F_conf_goodr5_g17 {env : Env} : yieldI F_conf_goodr5 env 17 = bOf (env 31) := rfl
def F_conf_goodr6 : List IStmt := [
  ⟨some 36, .mv (.t 5), none⟩,
  ⟨some 37, .un .not (.t 36), none⟩,
  ⟨some 38, .mv (.t 37), none⟩,
  ⟨some 39, .mv (.t 4), some (2, true)⟩,
  ⟨some 40, .bin .neq (.t 39) (.c (.int .u8 46)), some (2, true)⟩,
  ⟨some 41, .pick (.t 38) (.t 40) (.c (.bool false)), none⟩,
  ⟨some 42, .mv (.t 41), none⟩,
  ⟨some 43, .mv (.t 4), some (6, true)⟩,
  ⟨some 44, .bin .neq (.t 43) (.c (.int .u8 95)), some (6, true)⟩,
  ⟨some 45, .pick (.t 42) (.t 44) (.c (.bool false)), none⟩,
  ⟨some 46, .mv (.t 45), none⟩,
  ⟨some 47, .mv (.t 4), some (10, true)⟩,
  ⟨some 48, .bin .neq (.t 47) (.c (.int .u8 45)), some (10, true)⟩,
  ⟨some 49, .pick (.t 46) (.t 48) (.c (.bool false)), none⟩]
theorem F_conf_goodr6_W {T : Tab} {env : Env} {H : Heap} {Q : Post} : W T (.reg F_conf_goodr6) env H Q ↔ WR T F_conf_goodr6 [
  ⟨some 36, .mv (.t 5), none⟩,
  ⟨some 37, .un .not (.t 36), none⟩,
  ⟨some 38, .mv (.t 37), none⟩,
  ⟨some 39, .mv (.t 4), some (2, true)⟩,
  ⟨some 40, .bin .neq (.t 39) (.c (.int .u8 46)), some (2, true)⟩,
  ⟨some 41, .pick (.t 38) (.t 40) (.c (.bool false)), none⟩,
  ⟨some 42, .mv (.t 41), none⟩,
  ⟨some 43, .mv (.t 4), some (6, true)⟩,
  ⟨some 44, .bin .neq (.t 43) (.c (.int .u8 95)), some (6, true)⟩,
  ⟨some 45, .pick (.t 42) (.t 44) (.c (.bool false)), none⟩,
  ⟨some 46, .mv (.t 45), none⟩,
  ⟨some 47, .mv (.t 4), some (10, true)⟩,
  ⟨some 48, .bin .neq (.t 47) (.c (.int .u8 45)), some (10, true)⟩,
  ⟨some 49, .pick (.t 46) (.t 48) (.c (.bool false)), none⟩] env H none [] Q := w_reg
theorem F_conf_goodr6_g2 {env : Env} : yieldI F_conf_goodr6 env 2 = bOf (env 38) := rfl
theorem F_conf_goodr6_g6 {env : Env} : yieldI F_conf_goodr6 env 6 = bOf (env 42) := rfl
theorem F_conf_goodr6_g10 {env : Env} : yieldI F_conf_goodr6 env 10 = bOf (env 46) := rfl
def F_conf_goodr7 : List IStmt := [
  ⟨some 2, .mv (.c (.bool false)), none⟩]
theorem F_conf_goodr7_W {T : Tab} {env : Env} {H : Heap} {Q : Post} : W T (.reg F_conf_goodr7) env H Q ↔ WR T F_conf_goodr7 [
  ⟨some 2, .mv (.c (.bool false)), none⟩] env H none [] Q := w_reg
def F_conf_goodr8 : List IStmt := [
  ⟨some 50, .bin .add (.t 8) (.c (.int .i64 1)), none⟩,
  ⟨some 8, .mv (.t 50), none⟩]
theorem F_conf_goodr8_W {T : Tab} {env : Env} {H : Heap} {Q : Post} : W T (.reg F_conf_goodr8) env H Q ↔ WR T F_conf_goodr8 [
  ⟨some 50, .bin .add (.t 8) (.c (.int .i64 1)), none⟩,
  ⟨some 8, .mv (.t 50), none⟩] env H none [] Q := w_reg
def F_conf_goodl0 : ICode := (.seq (.reg F_conf_goodr2) (.seq (.cond (.t 9) .skip (.exit 0)) (.seq (.block 1 (.seq (.reg F_conf_goodr3) (.seq (.reg F_conf_goodr4) (.seq (.reg F_conf_goodr5) (.seq (.reg F_conf_goodr6) (.cond (.t 49) (.seq (.reg F_conf_goodr7) .ret) .skip)))))) (.reg F_conf_goodr8))))
theorem F_conf_goodl0_W {T : Tab} {env : Env} {H : Heap} {Q : Post} : W T F_conf_goodl0 env H Q ↔ W T (.seq (.reg F_conf_goodr2) (.seq (.cond (.t 9) .skip (.exit 0)) (.seq (.block 1 (.seq (.reg F_conf_goodr3) (.seq (.reg F_conf_goodr4) (.seq (.reg F_conf_goodr5) (.seq (.reg F_conf_goodr6) (.cond (.t 49) (.seq (.reg F_conf_goodr7) .ret) .skip)))))) (.reg F_conf_goodr8)))) env H Q := Iff.rfl
def F_conf_goodr9 : List IStmt := [
  ⟨some 51, .mv (.t 0), none⟩,
  ⟨some 52, .bin .neq (.t 51) (.c (.string ⟨#[]⟩)), none⟩,
  ⟨some 53, .mv (.t 52), none⟩,
  ⟨some 54, .mv (.t 0), some (2, true)⟩,
  ⟨some 55, .len 0 (.t 54), some (2, true)⟩,
  ⟨some 56, .bin .leq (.t 55) (.c (.int .i64 256)), some (2, true)⟩,
  ⟨some 57, .pick (.t 53) (.t 56) (.c (.bool false)), none⟩,
  ⟨some 2, .mv (.t 57), none⟩]
theorem F_conf_goodr9_W {T : Tab} {env : Env} {H : Heap} {Q : Post} : W T (.reg F_conf_goodr9) env H Q ↔ WR T F_conf_goodr9 [
  ⟨some 51, .mv (.t 0), none⟩,
  ⟨some 52, .bin .neq (.t 51) (.c (.string ⟨#[]⟩)), none⟩,
  ⟨some 53, .mv (.t 52), none⟩,
  ⟨some 54, .mv (.t 0), some (2, true)⟩,
  ⟨some 55, .len 0 (.t 54), some (2, true)⟩,
  ⟨some 56, .bin .leq (.t 55) (.c (.int .i64 256)), some (2, true)⟩,
  ⟨some 57, .pick (.t 53) (.t 56) (.c (.bool false)), none⟩,
  ⟨some 2, .mv (.t 57), none⟩] env H none [] Q := w_reg
theorem F_conf_goodr9_g2 {env : Env} : yieldI F_conf_goodr9 env 2 = bOf (env 53) := rfl
def F_conf_goodc : ICode := (.seq (.reg F_conf_goodr0) (.seq (.seq (.reg F_conf_goodr1) (.block 0 (.loop F_conf_goodl0))) (.seq (.reg F_conf_goodr9) .ret)))
theorem F_conf_goodc_W {T : Tab} {env : Env} {H : Heap} {Q : Post} : W T F_conf_goodc env H Q ↔ W T (.seq (.reg F_conf_goodr0) (.seq (.seq (.reg F_conf_goodr1) (.block 0 (.loop F_conf_goodl0))) (.seq (.reg F_conf_goodr9) .ret))) env H Q := Iff.rfl
def F_conf_good : IFn := ⟨58, [.tmp 2], F_conf_goodc⟩
set_option maxRecDepth 1000000 in
theorem F_conf_good_chk : chkF Tryd.prog 31 F_conf_good = true := by kernel_rfl

/-! ### conf_Section_Get -/
def F_conf_Section_Getr0 : List IStmt := [
  ⟨some 2, .box 2 (.t 0), none⟩,
  ⟨some 4, .mv (.c (.string ⟨#[]⟩)), none⟩,
  ⟨some 5, .mv (.c (.bool false)), none⟩]
theorem F_conf_Section_Getr0_W {T : Tab} {env : Env} {H : Heap} {Q : Post} : W T (.reg F_conf_Section_Getr0) env H Q ↔ WR T F_conf_Section_Getr0 [
  ⟨some 2, .box 2 (.t 0), none⟩,
  ⟨some 4, .mv (.c (.string ⟨#[]⟩)), none⟩,
  ⟨some 5, .mv (.c (.bool false)), none⟩] env H none [] Q := w_reg
def F_conf_Section_Getr1 : List IStmt := [
  ⟨some 8, .fa 1 (.t 2), none⟩,
  ⟨some 9, .load (.t 8), none⟩,
  ⟨some 10, .len 1 (.t 9), none⟩,
  ⟨some 11, .mv (.c (.int .i64 0)), none⟩]
theorem F_conf_Section_Getr1_W {T : Tab} {env : Env} {H : Heap} {Q : Post} : W T (.reg F_conf_Section_Getr1) env H Q ↔ WR T F_conf_Section_Getr1 [
  ⟨some 8, .fa 1 (.t 2), none⟩,
  ⟨some 9, .load (.t 8), none⟩,
  ⟨some 10, .len 1 (.t 9), none⟩,
  ⟨some 11, .mv (.c (.int .i64 0)), none⟩] env H none [] Q := w_reg
def F_conf_Section_Getr2 : List IStmt := [
  ⟨some 12, .bin .lss (.t 11) (.t 10), none⟩]
theorem F_conf_Section_Getr2_W {T : Tab} {env : Env} {H : Heap} {Q : Post} : W T (.reg F_conf_Section_Getr2) env H Q ↔ WR T F_conf_Section_Getr2 [
  ⟨some 12, .bin .lss (.t 11) (.t 10), none⟩] env H none [] Q := w_reg
def F_conf_Section_Getr3 : List IStmt := [
  ⟨some 13, .ixa 3 (.t 9) (.t 11), none⟩,
  ⟨some 14, .loadN 3 (.t 13), none⟩,
  ⟨some 7, .alloc 3 [.string ⟨#[]⟩, .string ⟨#[]⟩, .int .i64 0], none⟩,
  ⟨none, .store 3 (.t 7) (.t 14), none⟩]
theorem F_conf_Section_Getr3_W {T : Tab} {env : Env} {H : Heap} {Q : Post} : W T (.reg F_conf_Section_Getr3) env H Q ↔ WR T F_conf_Section_Getr3 [
  ⟨some 13, .ixa 3 (.t 9) (.t 11), none⟩,
  ⟨some 14, .loadN 3 (.t 13), none⟩,
  ⟨some 7, .alloc 3 [.string ⟨#[]⟩, .string ⟨#[]⟩, .int .i64 0], none⟩,
  ⟨none, .store 3 (.t 7) (.t 14), none⟩] env H none [] Q := w_reg
def F_conf_Section_Getr4 : List IStmt := [
  ⟨some 15, .fa 0 (.t 7), none⟩,
  ⟨some 16, .load (.t 15), none⟩,
  ⟨some 17, .mv (.t 1), none⟩,
  ⟨some 18, .bin .eql (.t 16) (.t 17), none⟩]
theorem F_conf_Section_Getr4_W {T : Tab} {env : Env} {H : Heap} {Q : Post} : W T (.reg F_conf_Section_Getr4) env H Q ↔ WR T F_conf_Section_Getr4 [
  ⟨some 15, .fa 0 (.t 7), none⟩,
  ⟨some 16, .load (.t 15), none⟩,
  ⟨some 17, .mv (.t 1), none⟩,
  ⟨some 18, .bin .eql (.t 16) (.t 17), none⟩] env H none [] Q := w_reg
def F_conf_Section_Getr5 : List IStmt := [
  ⟨some 19, .fa 1 (.t 7), none⟩,
  ⟨some 20, .load (.t 19), none⟩,
  ⟨some 4, .mv (.t 20), none⟩,
  ⟨some 5, .mv (.c (.bool true)), none⟩]
theorem F_conf_Section_Getr5_W {T : Tab} {env : Env} {H : Heap} {Q : Post} : W T (.reg F_conf_Section_Getr5) env H Q ↔ WR T F_conf_Section_Getr5 [
  ⟨some 19, .fa 1 (.t 7), none⟩,
  ⟨some 20, .load (.t 19), none⟩,
  ⟨some 4, .mv (.t 20), none⟩,
  ⟨some 5, .mv (.c (.bool true)), none⟩] env H none [] Q := w_reg
def F_conf_Section_Getr6 : List IStmt := [
  ⟨some 21, .bin .add (.t 11) (.c (.int .i64 1)), none⟩,
  ⟨some 11, .mv (.t 21), none⟩]
theorem F_conf_Section_Getr6_W {T : Tab} {env : Env} {H : Heap} {Q : Post} : W T (.reg F_conf_Section_Getr6) env H Q ↔ WR T F_conf_Section_Getr6 [
  ⟨some 21, .bin .add (.t 11) (.c (.int .i64 1)), none⟩,
  ⟨some 11, .mv (.t 21), none⟩] env H none [] Q := w_reg
def F_conf_Section_Getl0 : ICode := (.seq (.reg F_conf_Section_Getr2) (.seq (.cond (.t 12) .skip (.exit 0)) (.seq (.block 1 (.seq (.reg F_conf_Section_Getr3) (.seq (.reg F_conf_Section_Getr4) (.cond (.t 18) (.seq (.reg F_conf_Section_Getr5) .ret) .skip)))) (.reg F_conf_Section_Getr6))))
theorem F_conf_Section_Getl0_W {T : Tab} {env : Env} {H : Heap} {Q : Post} : W T F_conf_Section_Getl0 env H Q ↔ W T (.seq (.reg F_conf_Section_Getr2) (.seq (.cond (.t 12) .skip (.exit 0)) (.seq (.block 1 (.seq (.reg F_conf_Section_Getr3) (.seq (.reg F_conf_Section_Getr4) (.cond (.t 18) (.seq (.reg F_conf_Section_Getr5) .ret) .skip)))) (.reg F_conf_Section_Getr6)))) env H Q := Iff.rfl
def F_conf_Section_Getr7 : List IStmt := [
  ⟨some 4, .mv (.c (.string ⟨#[]⟩)), none⟩,
  ⟨some 5, .mv (.c (.bool false)), none⟩]
theorem F_conf_Section_Getr7_W {T : Tab} {env : Env} {H : Heap} {Q : Post} : W T (.reg F_conf_Section_Getr7) env H Q ↔ WR T F_conf_Section_Getr7 [
  ⟨some 4, .mv (.c (.string ⟨#[]⟩)), none⟩,
  ⟨some 5, .mv (.c (.bool false)), none⟩] env H none [] Q := w_reg
def F_conf_Section_Getc : ICode := (.seq (.reg F_conf_Section_Getr0) (.seq (.seq (.reg F_conf_Section_Getr1) (.block 0 (.loop F_conf_Section_Getl0))) (.seq (.reg F_conf_Section_Getr7) .ret)))
theorem F_conf_Section_Getc_W {T : Tab} {env : Env} {H : Heap} {Q : Post} : W T F_conf_Section_Getc env H Q ↔ W T (.seq (.reg F_conf_Section_Getr0) (.seq (.seq (.reg F_conf_Section_Getr1) (.block 0 (.loop F_conf_Section_Getl0))) (.seq (.reg F_conf_Section_Getr7) .ret))) env H Q := Iff.rfl
def F_conf_Section_Get : IFn := ⟨22, [.tmp 4, .tmp 5], F_conf_Section_Getc⟩
set_option maxRecDepth 1000000 in
theorem F_conf_Section_Get_chk : chkF Tryd.prog 10 F_conf_Section_Get = true := by kernel_rfl

/-! ### conf_Choose -/
def F_conf_Chooser0 : List IStmt := [
  ⟨some 2, .box 2 (.t 0), none⟩,
  ⟨some 4, .alloc 2 [.string ⟨#[]⟩, .slice none 0 0], none⟩,
  ⟨some 5, .mv (.c (.int .i64 0)), none⟩]
theorem F_conf_Chooser0_W {T : Tab} {env : Env} {H : Heap} {Q : Post} : W T (.reg F_conf_Chooser0) env H Q ↔ WR T F_conf_Chooser0 [
  ⟨some 2, .box 2 (.t 0), none⟩,
  ⟨some 4, .alloc 2 [.string ⟨#[]⟩, .slice none 0 0], none⟩,
  ⟨some 5, .mv (.c (.int .i64 0)), none⟩] env H none [] Q := w_reg
def F_conf_Chooser1 : List IStmt := [
  ⟨some 13, .mv (.t 1), none⟩,
  ⟨some 14, .callc 35 [(.t 13)], none⟩,
  ⟨some 12, .mv (.t 14), none⟩,
  ⟨some 15, .ext (.t 12) 0, none⟩,
  ⟨some 16, .ext (.t 12) 1, none⟩,
  ⟨some 6, .mv (.t 15), none⟩,
  ⟨some 7, .mv (.t 16), none⟩]
theorem F_conf_Chooser1_W {T : Tab} {env : Env} {H : Heap} {Q : Post} : W T (.reg F_conf_Chooser1) env H Q ↔ WR T F_conf_Chooser1 [
  ⟨some 13, .mv (.t 1), none⟩,
  ⟨some 14, .callc 35 [(.t 13)], none⟩,
  ⟨some 12, .mv (.t 14), none⟩,
  ⟨some 15, .ext (.t 12) 0, none⟩,
  ⟨some 16, .ext (.t 12) 1, none⟩,
  ⟨some 6, .mv (.t 15), none⟩,
  ⟨some 7, .mv (.t 16), none⟩] env H none [] Q := w_reg
def F_conf_Chooser2 : List IStmt := [
  ⟨some 17, .mv (.t 7), none⟩,
  ⟨some 18, .bin .neq (.t 17) (.c (.int .i64 0)), none⟩]
theorem F_conf_Chooser2_W {T : Tab} {env : Env} {H : Heap} {Q : Post} : W T (.reg F_conf_Chooser2) env H Q ↔ WR T F_conf_Chooser2 [
  ⟨some 17, .mv (.t 7), none⟩,
  ⟨some 18, .bin .neq (.t 17) (.c (.int .i64 0)), none⟩] env H none [] Q := w_reg
def F_conf_Chooser3 : List IStmt := [
  ⟨some 19, .bld [.string ⟨#[]⟩, .slice none 0 0] [], none⟩,
  ⟨some 20, .mv (.t 7), none⟩,
  ⟨none, .store 2 (.t 4) (.t 19), none⟩,
  ⟨some 5, .mv (.t 20), none⟩]
theorem F_conf_Chooser3_W {T : Tab} {env : Env} {H : Heap} {Q : Post} : W T (.reg F_conf_Chooser3) env H Q ↔ WR T F_conf_Chooser3 [
  ⟨some 19, .bld [.string ⟨#[]⟩, .slice none 0 0] [], none⟩,
  ⟨some 20, .mv (.t 7), none⟩,
  ⟨none, .store 2 (.t 4) (.t 19), none⟩,
  ⟨some 5, .mv (.t 20), none⟩] env H none [] Q := w_reg
def F_conf_Chooser4 : List IStmt := [
  ⟨some 21, .fa 0 (.t 2), none⟩,
  ⟨some 22, .load (.t 21), none⟩,
  ⟨some 23, .len 1 (.t 22), none⟩,
  ⟨some 24, .mv (.c (.int .i64 0)), none⟩]
theorem F_conf_Chooser4_W {T : Tab} {env : Env} {H : Heap} {Q : Post} : W T (.reg F_conf_Chooser4) env H Q ↔ WR T F_conf_Chooser4 [
  ⟨some 21, .fa 0 (.t 2), none⟩,
  ⟨some 22, .load (.t 21), none⟩,
  ⟨some 23, .len 1 (.t 22), none⟩,
  ⟨some 24, .mv (.c (.int .i64 0)), none⟩] env H none [] Q := w_reg
def F_conf_Chooser5 : List IStmt := [
  ⟨some 25, .bin .lss (.t 24) (.t 23), none⟩]
theorem F_conf_Chooser5_W {T : Tab} {env : Env} {H : Heap} {Q : Post} : W T (.reg F_conf_Chooser5) env H Q ↔ WR T F_conf_Chooser5 [
  ⟨some 25, .bin .lss (.t 24) (.t 23), none⟩] env H none [] Q := w_reg
def F_conf_Chooser6 : List IStmt := [
  ⟨some 26, .ixa 3 (.t 22) (.t 24), none⟩,
  ⟨some 27, .loadN 3 (.t 26), none⟩,
  ⟨some 9, .alloc 3 [.string ⟨#[]⟩, .string ⟨#[]⟩, .int .i64 0], none⟩,
  ⟨none, .store 3 (.t 9) (.t 27), none⟩]
theorem F_conf_Chooser6_W {T : Tab} {env : Env} {H : Heap} {Q : Post} : W T (.reg F_conf_Chooser6) env H Q ↔ WR T F_conf_Chooser6 [
  ⟨some 26, .ixa 3 (.t 22) (.t 24), none⟩,
  ⟨some 27, .loadN 3 (.t 26), none⟩,
  ⟨some 9, .alloc 3 [.string ⟨#[]⟩, .string ⟨#[]⟩, .int .i64 0], none⟩,
  ⟨none, .store 3 (.t 9) (.t 27), none⟩] env H none [] Q := w_reg
def F_conf_Chooser7 : List IStmt := [
  ⟨some 28, .mv (.t 6), none⟩,
  ⟨some 29, .fa 1 (.t 9), none⟩,
  ⟨some 30, .load (.t 29), none⟩,
  ⟨some 31, .callc 36 [(.t 28), (.t 30)], none⟩,
  ⟨some 32, .un .not (.t 31), none⟩]
theorem F_conf_Chooser7_W {T : Tab} {env : Env} {H : Heap} {Q : Post} : W T (.reg F_conf_Chooser7) env H Q ↔ WR T F_conf_Chooser7 [
  ⟨some 28, .mv (.t 6), none⟩,
  ⟨some 29, .fa 1 (.t 9), none⟩,
  ⟨some 30, .load (.t 29), none⟩,
  ⟨some 31, .callc 36 [(.t 28), (.t 30)], none⟩,
  ⟨some 32, .un .not (.t 31), none⟩] env H none [] Q := w_reg
def F_conf_Chooser8 : List IStmt := [
  ⟨some 33, .fa 1 (.t 2), none⟩,
  ⟨some 34, .load (.t 33), none⟩,
  ⟨some 35, .len 1 (.t 34), none⟩,
  ⟨some 36, .mv (.c (.int .i64 0)), none⟩]
theorem F_conf_Chooser8_W {T : Tab} {env : Env} {H : Heap} {Q : Post} : W T (.reg F_conf_Chooser8) env H Q ↔ WR T F_conf_Chooser8 [
  ⟨some 33, .fa 1 (.t 2), none⟩,
  ⟨some 34, .load (.t 33), none⟩,
  ⟨some 35, .len 1 (.t 34), none⟩,
  ⟨some 36, .mv (.c (.int .i64 0)), none⟩] env H none [] Q := w_reg
def F_conf_Chooser9 : List IStmt := [
  ⟨some 37, .bin .lss (.t 36) (.t 35), none⟩]
theorem F_conf_Chooser9_W {T : Tab} {env : Env} {H : Heap} {Q : Post} : W T (.reg F_conf_Chooser9) env H Q ↔ WR T F_conf_Chooser9 [
  ⟨some 37, .bin .lss (.t 36) (.t 35), none⟩] env H none [] Q := w_reg
def F_conf_Chooser10 : List IStmt := [
  ⟨some 38, .ixa 2 (.t 34) (.t 36), none⟩,
  ⟨some 39, .loadN 2 (.t 38), none⟩,
  ⟨some 11, .alloc 2 [.string ⟨#[]⟩, .slice none 0 0], none⟩,
  ⟨none, .store 2 (.t 11) (.t 39), none⟩]
theorem F_conf_Chooser10_W {T : Tab} {env : Env} {H : Heap} {Q : Post} : W T (.reg F_conf_Chooser10) env H Q ↔ WR T F_conf_Chooser10 [
  ⟨some 38, .ixa 2 (.t 34) (.t 36), none⟩,
  ⟨some 39, .loadN 2 (.t 38), none⟩,
  ⟨some 11, .alloc 2 [.string ⟨#[]⟩, .slice none 0 0], none⟩,
  ⟨none, .store 2 (.t 11) (.t 39), none⟩] env H none [] Q := w_reg
def F_conf_Chooser11 : List IStmt := [
  ⟨some 40, .fa 0 (.t 11), none⟩,
  ⟨some 41, .load (.t 40), none⟩,
  ⟨some 42, .fa 0 (.t 9), none⟩,
  ⟨some 43, .load (.t 42), none⟩,
  ⟨some 44, .bin .eql (.t 41) (.t 43), none⟩]
theorem F_conf_Chooser11_W {T : Tab} {env : Env} {H : Heap} {Q : Post} : W T (.reg F_conf_Chooser11) env H Q ↔ WR T F_conf_Chooser11 [
  ⟨some 40, .fa 0 (.t 11), none⟩,
  ⟨some 41, .load (.t 40), none⟩,
  ⟨some 42, .fa 0 (.t 9), none⟩,
  ⟨some 43, .load (.t 42), none⟩,
  ⟨some 44, .bin .eql (.t 41) (.t 43), none⟩] env H none [] Q := w_reg
def F_conf_Chooser12 : List IStmt := [
  ⟨some 45, .fa 0 (.t 11), none⟩,
  ⟨some 46, .load (.t 45), none⟩,
  ⟨some 47, .fa 1 (.t 11), none⟩,
  ⟨some 48, .load (.t 47), none⟩,
  ⟨some 49, .cpy 3 40 (.t 48), none⟩,
  ⟨some 50, .bld [.string ⟨#[]⟩, .slice none 0 0] [(0, 1, (.t 46)), (1, 1, (.t 49))], none⟩,
  ⟨none, .store 2 (.t 4) (.t 50), none⟩,
  ⟨some 5, .mv (.c (.int .i64 0)), none⟩]
theorem F_conf_Chooser12_W {T : Tab} {env : Env} {H : Heap} {Q : Post} : W T (.dreg F_conf_Chooser12 []) env H Q ↔ WR T F_conf_Chooser12 [
  ⟨some 45, .fa 0 (.t 11), none⟩,
  ⟨some 46, .load (.t 45), none⟩,
  ⟨some 47, .fa 1 (.t 11), none⟩,
  ⟨some 48, .load (.t 47), none⟩,
  ⟨some 49, .cpy 3 40 (.t 48), none⟩,
  ⟨some 50, .bld [.string ⟨#[]⟩, .slice none 0 0] [(0, 1, (.t 46)), (1, 1, (.t 49))], none⟩,
  ⟨none, .store 2 (.t 4) (.t 50), none⟩,
  ⟨some 5, .mv (.c (.int .i64 0)), none⟩] env H none [] Q := w_dreg0
def F_conf_Chooser13 : List IStmt := [
  ⟨some 51, .bin .add (.t 36) (.c (.int .i64 1)), none⟩,
  ⟨some 36, .mv (.t 51), none⟩]
theorem F_conf_Chooser13_W {T : Tab} {env : Env} {H : Heap} {Q : Post} : W T (.reg F_conf_Chooser13) env H Q ↔ WR T F_conf_Chooser13 [
  ⟨some 51, .bin .add (.t 36) (.c (.int .i64 1)), none⟩,
  ⟨some 36, .mv (.t 51), none⟩] env H none [] Q := w_reg
def F_conf_Choosel1 : ICode := (.seq (.reg F_conf_Chooser9) (.seq (.cond (.t 37) .skip (.exit 2)) (.seq (.block 3 (.seq (.reg F_conf_Chooser10) (.seq (.reg F_conf_Chooser11) (.cond (.t 44) (.seq (.dreg F_conf_Chooser12 []) .ret) .skip)))) (.reg F_conf_Chooser13))))
theorem F_conf_Choosel1_W {T : Tab} {env : Env} {H : Heap} {Q : Post} : W T F_conf_Choosel1 env H Q ↔ W T (.seq (.reg F_conf_Chooser9) (.seq (.cond (.t 37) .skip (.exit 2)) (.seq (.block 3 (.seq (.reg F_conf_Chooser10) (.seq (.reg F_conf_Chooser11) (.cond (.t 44) (.seq (.dreg F_conf_Chooser12 []) .ret) .skip)))) (.reg F_conf_Chooser13)))) env H Q := Iff.rfl
def F_conf_Chooser14 : List IStmt := [
  ⟨some 52, .bld [.string ⟨#[]⟩, .slice none 0 0] [], none⟩,
  ⟨none, .store 2 (.t 4) (.t 52), none⟩,
  ⟨some 5, .mv (.c (.int .i64 181)), none⟩]
theorem F_conf_Chooser14_W {T : Tab} {env : Env} {H : Heap} {Q : Post} : W T (.reg F_conf_Chooser14) env H Q ↔ WR T F_conf_Chooser14 [
  ⟨some 52, .bld [.string ⟨#[]⟩, .slice none 0 0] [], none⟩,
  ⟨none, .store 2 (.t 4) (.t 52), none⟩,
  ⟨some 5, .mv (.c (.int .i64 181)), none⟩] env H none [] Q := w_reg
def F_conf_Chooser15 : List IStmt := [
  ⟨some 53, .bin .add (.t 24) (.c (.int .i64 1)), none⟩,
  ⟨some 24, .mv (.t 53), none⟩]
theorem F_conf_Chooser15_W {T : Tab} {env : Env} {H : Heap} {Q : Post} : W T (.reg F_conf_Chooser15) env H Q ↔ WR T F_conf_Chooser15 [
  ⟨some 53, .bin .add (.t 24) (.c (.int .i64 1)), none⟩,
  ⟨some 24, .mv (.t 53), none⟩] env H none [] Q := w_reg
def F_conf_Choosel0 : ICode := (.seq (.reg F_conf_Chooser5) (.seq (.cond (.t 25) .skip (.exit 0)) (.seq (.block 1 (.seq (.reg F_conf_Chooser6) (.seq (.seq (.reg F_conf_Chooser7) (.cond (.t 32) (.exit 1) .skip)) (.seq (.seq (.reg F_conf_Chooser8) (.block 2 (.loop F_conf_Choosel1))) (.seq (.reg F_conf_Chooser14) .ret))))) (.reg F_conf_Chooser15))))
theorem F_conf_Choosel0_W {T : Tab} {env : Env} {H : Heap} {Q : Post} : W T F_conf_Choosel0 env H Q ↔ W T (.seq (.reg F_conf_Chooser5) (.seq (.cond (.t 25) .skip (.exit 0)) (.seq (.block 1 (.seq (.reg F_conf_Chooser6) (.seq (.seq (.reg F_conf_Chooser7) (.cond (.t 32) (.exit 1) .skip)) (.seq (.seq (.reg F_conf_Chooser8) (.block 2 (.loop F_conf_Choosel1))) (.seq (.reg F_conf_Chooser14) .ret))))) (.reg F_conf_Chooser15)))) env H Q := Iff.rfl
def F_conf_Chooser16 : List IStmt := [
  ⟨some 54, .bld [.string ⟨#[]⟩, .slice none 0 0] [], none⟩,
  ⟨none, .store 2 (.t 4) (.t 54), none⟩,
  ⟨some 5, .mv (.c (.int .i64 181)), none⟩]
theorem F_conf_Chooser16_W {T : Tab} {env : Env} {H : Heap} {Q : Post} : W T (.reg F_conf_Chooser16) env H Q ↔ WR T F_conf_Chooser16 [
  ⟨some 54, .bld [.string ⟨#[]⟩, .slice none 0 0] [], none⟩,
  ⟨none, .store 2 (.t 4) (.t 54), none⟩,
  ⟨some 5, .mv (.c (.int .i64 181)), none⟩] env H none [] Q := w_reg
def F_conf_Choosec : ICode := (.seq (.reg F_conf_Chooser0) (.seq (.reg F_conf_Chooser1) (.seq (.seq (.reg F_conf_Chooser2) (.cond (.t 18) (.seq (.reg F_conf_Chooser3) .ret) .skip)) (.seq (.seq (.reg F_conf_Chooser4) (.block 0 (.loop F_conf_Choosel0))) (.seq (.reg F_conf_Chooser16) .ret)))))
theorem F_conf_Choosec_W {T : Tab} {env : Env} {H : Heap} {Q : Post} : W T F_conf_Choosec env H Q ↔ W T (.seq (.reg F_conf_Chooser0) (.seq (.reg F_conf_Chooser1) (.seq (.seq (.reg F_conf_Chooser2) (.cond (.t 18) (.seq (.reg F_conf_Chooser3) .ret) .skip)) (.seq (.seq (.reg F_conf_Chooser4) (.block 0 (.loop F_conf_Choosel0))) (.seq (.reg F_conf_Chooser16) .ret))))) env H Q := Iff.rfl
def F_conf_Choose : IFn := ⟨55, [.cell 4 (some 2), .tmp 5], F_conf_Choosec⟩
set_option maxRecDepth 1000000 in
theorem F_conf_Choose_chk : chkF Tryd.prog 19 F_conf_Choose = true := by kernel_rfl

/-! ### path_Clean -/
def F_path_Cleanr0 : List IStmt := [
  ⟨some 2, .mv (.c (.string ⟨#[]⟩)), none⟩,
  ⟨some 3, .mv (.c (.int .i64 0)), none⟩]
theorem F_path_Cleanr0_W {T : Tab} {env : Env} {H : Heap} {Q : Post} : W T (.reg F_path_Cleanr0) env H Q ↔ WR T F_path_Cleanr0 [
  ⟨some 2, .mv (.c (.string ⟨#[]⟩)), none⟩,
  ⟨some 3, .mv (.c (.int .i64 0)), none⟩] env H none [] Q := w_reg
def F_path_Cleanr1 : List IStmt := [
  ⟨some 7, .mv (.t 0), none⟩,
  ⟨some 8, .callc 47 [(.t 7)], none⟩,
  ⟨some 9, .un .not (.t 8), none⟩,
  ⟨some 10, .mv (.t 9), none⟩,
  ⟨some 11, .mv (.t 0), some (3, false)⟩,
  ⟨some 12, .bin .eql (.t 11) (.c (.string ⟨#[]⟩)), some (3, false)⟩,
  ⟨some 13, .pick (.t 10) (.c (.bool true)) (.t 12), none⟩,
  ⟨some 14, .mv (.t 13), none⟩,
  ⟨some 15, .mv (.t 0), some (7, false)⟩,
  ⟨some 16, .ixs (.t 15) (.c (.int .i64 0)), some (7, false)⟩,
  ⟨some 17, .bin .neq (.t 16) (.c (.int .u8 47)), some (7, false)⟩,
  ⟨some 18, .pick (.t 14) (.c (.bool true)) (.t 17), none⟩]
theorem F_path_Cleanr1_W {T : Tab} {env : Env} {H : Heap} {Q : Post} : W T (.reg F_path_Cleanr1) env H Q ↔ WR T F_path_Cleanr1 [
  ⟨some 7, .mv (.t 0), none⟩,
  ⟨some 8, .callc 47 [(.t 7)], none⟩,
  ⟨some 9, .un .not (.t 8), none⟩,
  ⟨some 10, .mv (.t 9), none⟩,
  ⟨some 11, .mv (.t 0), some (3, false)⟩,
  ⟨some 12, .bin .eql (.t 11) (.c (.string ⟨#[]⟩)), some (3, false)⟩,
  ⟨some 13, .pick (.t 10) (.c (.bool true)) (.t 12), none⟩,
  ⟨some 14, .mv (.t 13), none⟩,
  ⟨some 15, .mv (.t 0), some (7, false)⟩,
  ⟨some 16, .ixs (.t 15) (.c (.int .i64 0)), some (7, false)⟩,
  ⟨some 17, .bin .neq (.t 16) (.c (.int .u8 47)), some (7, false)⟩,
  ⟨some 18, .pick (.t 14) (.c (.bool true)) (.t 17), none⟩] env H none [] Q := w_reg
theorem F_path_Cleanr1_g3 {env : Env} : yieldI F_path_Cleanr1 env 3 = bOf (env 10) := rfl
theorem F_path_Cleanr1_g7 {env : Env} : yieldI F_path_Cleanr1 env 7 = bOf (env 14) := rfl
def F_path_Cleanr2 : List IStmt := [
  ⟨some 2, .mv (.c (.string ⟨#[]⟩)), none⟩,
  ⟨some 3, .mv (.c (.int .i64 40)), none⟩]
theorem F_path_Cleanr2_W {T : Tab} {env : Env} {H : Heap} {Q : Post} : W T (.reg F_path_Cleanr2) env H Q ↔ WR T F_path_Cleanr2 [
  ⟨some 2, .mv (.c (.string ⟨#[]⟩)), none⟩,
  ⟨some 3, .mv (.c (.int .i64 40)), none⟩] env H none [] Q := w_reg
def F_path_Cleanr3 : List IStmt := [
  ⟨some 4, .mv (.c (.slice none 0 0)), none⟩]
theorem F_path_Cleanr3_W {T : Tab} {env : Env} {H : Heap} {Q : Post} : W T (.reg F_path_Cleanr3) env H Q ↔ WR T F_path_Cleanr3 [
  ⟨some 4, .mv (.c (.slice none 0 0)), none⟩] env H none [] Q := w_reg
def F_path_Cleanr4 : List IStmt := [
  ⟨some 19, .mv (.t 0), none⟩,
  ⟨some 20, .callc 48 [(.t 19)], none⟩,
  ⟨some 21, .len 1 (.t 20), none⟩,
  ⟨some 22, .mv (.c (.int .i64 0)), none⟩]
theorem F_path_Cleanr4_W {T : Tab} {env : Env} {H : Heap} {Q : Post} : W T (.reg F_path_Cleanr4) env H Q ↔ WR T F_path_Cleanr4 [
  ⟨some 19, .mv (.t 0), none⟩,
  ⟨some 20, .callc 48 [(.t 19)], none⟩,
  ⟨some 21, .len 1 (.t 20), none⟩,
  ⟨some 22, .mv (.c (.int .i64 0)), none⟩] env H none [] Q := w_reg
def F_path_Cleanr5 : List IStmt := [
  ⟨some 23, .bin .lss (.t 22) (.t 21), none⟩]
theorem F_path_Cleanr5_W {T : Tab} {env : Env} {H : Heap} {Q : Post} : W T (.reg F_path_Cleanr5) env H Q ↔ WR T F_path_Cleanr5 [
  ⟨some 23, .bin .lss (.t 22) (.t 21), none⟩] env H none [] Q := w_reg
def F_path_Cleanr6 : List IStmt := [
  ⟨some 24, .ixa 1 (.t 20) (.t 22), none⟩,
  ⟨some 25, .load (.t 24), none⟩,
  ⟨some 6, .mv (.t 25), none⟩]
theorem F_path_Cleanr6_W {T : Tab} {env : Env} {H : Heap} {Q : Post} : W T (.reg F_path_Cleanr6) env H Q ↔ WR T F_path_Cleanr6 [
  ⟨some 24, .ixa 1 (.t 20) (.t 22), none⟩,
  ⟨some 25, .load (.t 24), none⟩,
  ⟨some 6, .mv (.t 25), none⟩] env H none [] Q := w_reg
def F_path_Cleanr7 : List IStmt := [
  ⟨some 27, .mv (.t 6), none⟩,
  ⟨some 28, .bin .neq (.t 27) (.c (.string ⟨#[46, 46]⟩)), none⟩,
  ⟨some 26, .mv (.t 28), none⟩]
theorem F_path_Cleanr7_W {T : Tab} {env : Env} {H : Heap} {Q : Post} : W T (.reg F_path_Cleanr7) env H Q ↔ WR T F_path_Cleanr7 [
  ⟨some 27, .mv (.t 6), none⟩,
  ⟨some 28, .bin .neq (.t 27) (.c (.string ⟨#[46, 46]⟩)), none⟩,
  ⟨some 26, .mv (.t 28), none⟩] env H none [] Q := w_reg
def F_path_Cleanr8 : List IStmt := [
  ⟨some 29, .mv (.t 4), none⟩,
  ⟨some 30, .mv (.t 6), none⟩,
  ⟨some 31, .bsli 1 1 [.string ⟨#[]⟩] [(0, (.t 30))], none⟩,
  ⟨some 32, .app 1 16 (.t 29) (.t 31), none⟩,
  ⟨some 4, .mv (.t 32), none⟩]
theorem F_path_Cleanr8_W {T : Tab} {env : Env} {H : Heap} {Q : Post} : W T (.reg F_path_Cleanr8) env H Q ↔ WR T F_path_Cleanr8 [
  ⟨some 29, .mv (.t 4), none⟩,
  ⟨some 30, .mv (.t 6), none⟩,
  ⟨some 31, .bsli 1 1 [.string ⟨#[]⟩] [(0, (.t 30))], none⟩,
  ⟨some 32, .app 1 16 (.t 29) (.t 31), none⟩,
  ⟨some 4, .mv (.t 32), none⟩] env H none [] Q := w_reg
def F_path_Cleanr9 : List IStmt := [
  ⟨some 34, .mv (.t 4), none⟩,
  ⟨some 35, .len 1 (.t 34), none⟩,
  ⟨some 36, .bin .gtr (.t 35) (.c (.int .i64 0)), none⟩,
  ⟨some 33, .mv (.t 36), none⟩]
theorem F_path_Cleanr9_W {T : Tab} {env : Env} {H : Heap} {Q : Post} : W T (.reg F_path_Cleanr9) env H Q ↔ WR T F_path_Cleanr9 [
  ⟨some 34, .mv (.t 4), none⟩,
  ⟨some 35, .len 1 (.t 34), none⟩,
  ⟨some 36, .bin .gtr (.t 35) (.c (.int .i64 0)), none⟩,
  ⟨some 33, .mv (.t 36), none⟩] env H none [] Q := w_reg
def F_path_Cleanr10 : List IStmt := [
  ⟨some 37, .mv (.t 4), none⟩,
  ⟨some 38, .mv (.t 4), none⟩,
  ⟨some 39, .len 1 (.t 38), none⟩,
  ⟨some 40, .bin .sub (.t 39) (.c (.int .i64 1)), none⟩,
  ⟨some 41, .sle 1 (.t 37) none (some (.t 40)) none, none⟩,
  ⟨some 4, .mv (.t 41), none⟩]
theorem F_path_Cleanr10_W {T : Tab} {env : Env} {H : Heap} {Q : Post} : W T (.reg F_path_Cleanr10) env H Q ↔ WR T F_path_Cleanr10 [
  ⟨some 37, .mv (.t 4), none⟩,
  ⟨some 38, .mv (.t 4), none⟩,
  ⟨some 39, .len 1 (.t 38), none⟩,
  ⟨some 40, .bin .sub (.t 39) (.c (.int .i64 1)), none⟩,
  ⟨some 41, .sle 1 (.t 37) none (some (.t 40)) none, none⟩,
  ⟨some 4, .mv (.t 41), none⟩] env H none [] Q := w_reg
def F_path_Cleanr11 : List IStmt := [
  ⟨some 42, .bin .add (.t 22) (.c (.int .i64 1)), none⟩,
  ⟨some 22, .mv (.t 42), none⟩]
theorem F_path_Cleanr11_W {T : Tab} {env : Env} {H : Heap} {Q : Post} : W T (.reg F_path_Cleanr11) env H Q ↔ WR T F_path_Cleanr11 [
  ⟨some 42, .bin .add (.t 22) (.c (.int .i64 1)), none⟩,
  ⟨some 22, .mv (.t 42), none⟩] env H none [] Q := w_reg
def F_path_Cleanl0 : ICode := (.seq (.reg F_path_Cleanr5) (.seq (.cond (.t 23) .skip (.exit 0)) (.seq (.block 1 (.seq (.reg F_path_Cleanr6) (.block 2 (.seq (.reg F_path_Cleanr7) (.cond (.t 26) (.reg F_path_Cleanr8) (.seq (.reg F_path_Cleanr9) (.cond (.t 33) (.reg F_path_Cleanr10) .skip))))))) (.reg F_path_Cleanr11))))
theorem F_path_Cleanl0_W {T : Tab} {env : Env} {H : Heap} {Q : Post} : W T F_path_Cleanl0 env H Q ↔ W T (.seq (.reg F_path_Cleanr5) (.seq (.cond (.t 23) .skip (.exit 0)) (.seq (.block 1 (.seq (.reg F_path_Cleanr6) (.block 2 (.seq (.reg F_path_Cleanr7) (.cond (.t 26) (.reg F_path_Cleanr8) (.seq (.reg F_path_Cleanr9) (.cond (.t 33) (.reg F_path_Cleanr10) .skip))))))) (.reg F_path_Cleanr11)))) env H Q := Iff.rfl
def F_path_Cleanr12 : List IStmt := [
  ⟨some 43, .mv (.t 4), none⟩,
  ⟨some 44, .calll 49 [(.t 43), (.c (.string ⟨#[47]⟩))], none⟩,
  ⟨some 45, .bin .add (.c (.string ⟨#[47]⟩)) (.t 44), none⟩,
  ⟨some 2, .mv (.t 45), none⟩,
  ⟨some 3, .mv (.c (.int .i64 0)), none⟩]
theorem F_path_Cleanr12_W {T : Tab} {env : Env} {H : Heap} {Q : Post} : W T (.reg F_path_Cleanr12) env H Q ↔ WR T F_path_Cleanr12 [
  ⟨some 43, .mv (.t 4), none⟩,
  ⟨some 44, .calll 49 [(.t 43), (.c (.string ⟨#[47]⟩))], none⟩,
  ⟨some 45, .bin .add (.c (.string ⟨#[47]⟩)) (.t 44), none⟩,
  ⟨some 2, .mv (.t 45), none⟩,
  ⟨some 3, .mv (.c (.int .i64 0)), none⟩] env H none [] Q := w_reg
def F_path_Cleanc : ICode := (.seq (.reg F_path_Cleanr0) (.seq (.seq (.reg F_path_Cleanr1) (.cond (.t 18) (.seq (.reg F_path_Cleanr2) .ret) .skip)) (.seq (.reg F_path_Cleanr3) (.seq (.seq (.reg F_path_Cleanr4) (.block 0 (.loop F_path_Cleanl0))) (.seq (.reg F_path_Cleanr12) .ret)))))
theorem F_path_Cleanc_W {T : Tab} {env : Env} {H : Heap} {Q : Post} : W T F_path_Cleanc env H Q ↔ W T (.seq (.reg F_path_Cleanr0) (.seq (.seq (.reg F_path_Cleanr1) (.cond (.t 18) (.seq (.reg F_path_Cleanr2) .ret) .skip)) (.seq (.reg F_path_Cleanr3) (.seq (.seq (.reg F_path_Cleanr4) (.block 0 (.loop F_path_Cleanl0))) (.seq (.reg F_path_Cleanr12) .ret))))) env H Q := Iff.rfl
def F_path_Clean : IFn := ⟨46, [.tmp 2, .tmp 3], F_path_Cleanc⟩
set_option maxRecDepth 1000000 in
theorem F_path_Clean_chk : chkF Tryd.prog 35 F_path_Clean = true := by kernel_rfl

/-! ### path_IsClean -/
def F_path_IsCleanr0 : List IStmt := [
  ⟨some 2, .mv (.c (.bool false)), none⟩]
theorem F_path_IsCleanr0_W {T : Tab} {env : Env} {H : Heap} {Q : Post} : W T (.reg F_path_IsCleanr0) env H Q ↔ WR T F_path_IsCleanr0 [
  ⟨some 2, .mv (.c (.bool false)), none⟩] env H none [] Q := w_reg
def F_path_IsCleanr1 : List IStmt := [
  ⟨some 6, .mv (.t 0), none⟩,
  ⟨some 7, .callc 35 [(.t 6)], none⟩,
  ⟨some 5, .mv (.t 7), none⟩,
  ⟨some 8, .ext (.t 5) 0, none⟩,
  ⟨some 9, .ext (.t 5) 1, none⟩,
  ⟨some 3, .mv (.t 8), none⟩,
  ⟨some 4, .mv (.t 9), none⟩]
theorem F_path_IsCleanr1_W {T : Tab} {env : Env} {H : Heap} {Q : Post} : W T (.reg F_path_IsCleanr1) env H Q ↔ WR T F_path_IsCleanr1 [
  ⟨some 6, .mv (.t 0), none⟩,
  ⟨some 7, .callc 35 [(.t 6)], none⟩,
  ⟨some 5, .mv (.t 7), none⟩,
  ⟨some 8, .ext (.t 5) 0, none⟩,
  ⟨some 9, .ext (.t 5) 1, none⟩,
  ⟨some 3, .mv (.t 8), none⟩,
  ⟨some 4, .mv (.t 9), none⟩] env H none [] Q := w_reg
def F_path_IsCleanr2 : List IStmt := [
  ⟨some 10, .mv (.t 4), none⟩,
  ⟨some 11, .bin .eql (.t 10) (.c (.int .i64 0)), none⟩,
  ⟨some 12, .mv (.t 11), none⟩,
  ⟨some 13, .mv (.t 3), some (2, true)⟩,
  ⟨some 14, .mv (.t 0), some (2, true)⟩,
  ⟨some 15, .bin .eql (.t 13) (.t 14), some (2, true)⟩,
  ⟨some 16, .pick (.t 12) (.t 15) (.c (.bool false)), none⟩,
  ⟨some 2, .mv (.t 16), none⟩]
theorem F_path_IsCleanr2_W {T : Tab} {env : Env} {H : Heap} {Q : Post} : W T (.reg F_path_IsCleanr2) env H Q ↔ WR T F_path_IsCleanr2 [
  ⟨some 10, .mv (.t 4), none⟩,
  ⟨some 11, .bin .eql (.t 10) (.c (.int .i64 0)), none⟩,
  ⟨some 12, .mv (.t 11), none⟩,
  ⟨some 13, .mv (.t 3), some (2, true)⟩,
  ⟨some 14, .mv (.t 0), some (2, true)⟩,
  ⟨some 15, .bin .eql (.t 13) (.t 14), some (2, true)⟩,
  ⟨some 16, .pick (.t 12) (.t 15) (.c (.bool false)), none⟩,
  ⟨some 2, .mv (.t 16), none⟩] env H none [] Q := w_reg
theorem F_path_IsCleanr2_g2 {env : Env} : yieldI F_path_IsCleanr2 env 2 = bOf (env 12) := rfl
def F_path_IsCleanc : ICode := (.seq (.reg F_path_IsCleanr0) (.seq (.reg F_path_IsCleanr1) (.seq (.reg F_path_IsCleanr2) .ret)))
theorem F_path_IsCleanc_W {T : Tab} {env : Env} {H : Heap} {Q : Post} : W T F_path_IsCleanc env H Q ↔ W T (.seq (.reg F_path_IsCleanr0) (.seq (.reg F_path_IsCleanr1) (.seq (.reg F_path_IsCleanr2) .ret))) env H Q := Iff.rfl
def F_path_IsClean : IFn := ⟨17, [.tmp 2], F_path_IsCleanc⟩
set_option maxRecDepth 1000000 in
theorem F_path_IsClean_chk : chkF Tryd.prog 34 F_path_IsClean = true := by kernel_rfl

/-! ### path_Under -/
def F_path_Underr0 : List IStmt := [
  ⟨some 4, .mv (.c (.bool false)), none⟩]
theorem F_path_Underr0_W {T : Tab} {env : Env} {H : Heap} {Q : Post} : W T (.reg F_path_Underr0) env H Q ↔ WR T F_path_Underr0 [
  ⟨some 4, .mv (.c (.bool false)), none⟩] env H none [] Q := w_reg
def F_path_Underr1 : List IStmt := [
  ⟨some 5, .mv (.t 1), none⟩,
  ⟨some 6, .bin .eql (.t 5) (.c (.string ⟨#[47]⟩)), none⟩]
theorem F_path_Underr1_W {T : Tab} {env : Env} {H : Heap} {Q : Post} : W T (.reg F_path_Underr1) env H Q ↔ WR T F_path_Underr1 [
  ⟨some 5, .mv (.t 1), none⟩,
  ⟨some 6, .bin .eql (.t 5) (.c (.string ⟨#[47]⟩)), none⟩] env H none [] Q := w_reg
def F_path_Underr2 : List IStmt := [
  ⟨some 7, .mv (.t 0), none⟩,
  ⟨some 8, .callc 50 [(.t 7), (.c (.string ⟨#[47]⟩))], none⟩,
  ⟨some 4, .mv (.t 8), none⟩]
theorem F_path_Underr2_W {T : Tab} {env : Env} {H : Heap} {Q : Post} : W T (.reg F_path_Underr2) env H Q ↔ WR T F_path_Underr2 [
  ⟨some 7, .mv (.t 0), none⟩,
  ⟨some 8, .callc 50 [(.t 7), (.c (.string ⟨#[47]⟩))], none⟩,
  ⟨some 4, .mv (.t 8), none⟩] env H none [] Q := w_reg
def F_path_Underr3 : List IStmt := [
  ⟨some 9, .mv (.t 0), none⟩,
  ⟨some 10, .mv (.t 1), none⟩,
  ⟨some 11, .bin .eql (.t 9) (.t 10), none⟩,
  ⟨some 12, .mv (.t 11), none⟩,
  ⟨some 13, .mv (.t 0), some (3, false)⟩,
  ⟨some 14, .mv (.t 1), some (3, false)⟩,
  ⟨some 15, .bin .add (.t 14) (.c (.string ⟨#[47]⟩)), some (3, false)⟩,
  ⟨some 16, .callc 50 [(.t 13), (.t 15)], some (3, false)⟩,
  ⟨some 17, .pick (.t 12) (.c (.bool true)) (.t 16), none⟩,
  ⟨some 4, .mv (.t 17), none⟩]
theorem F_path_Underr3_W {T : Tab} {env : Env} {H : Heap} {Q : Post} : W T (.reg F_path_Underr3) env H Q ↔ WR T F_path_Underr3 [
  ⟨some 9, .mv (.t 0), none⟩,
  ⟨some 10, .mv (.t 1), none⟩,
  ⟨some 11, .bin .eql (.t 9) (.t 10), none⟩,
  ⟨some 12, .mv (.t 11), none⟩,
  ⟨some 13, .mv (.t 0), some (3, false)⟩,
  ⟨some 14, .mv (.t 1), some (3, false)⟩,
  ⟨some 15, .bin .add (.t 14) (.c (.string ⟨#[47]⟩)), some (3, false)⟩,
  ⟨some 16, .callc 50 [(.t 13), (.t 15)], some (3, false)⟩,
  ⟨some 17, .pick (.t 12) (.c (.bool true)) (.t 16), none⟩,
  ⟨some 4, .mv (.t 17), none⟩] env H none [] Q := w_reg
theorem F_path_Underr3_g3 {env : Env} : yieldI F_path_Underr3 env 3 = bOf (env 12) := rfl
def F_path_Underc : ICode := (.seq (.reg F_path_Underr0) (.seq (.seq (.reg F_path_Underr1) (.cond (.t 6) (.seq (.reg F_path_Underr2) .ret) .skip)) (.seq (.reg F_path_Underr3) .ret)))
theorem F_path_Underc_W {T : Tab} {env : Env} {H : Heap} {Q : Post} : W T F_path_Underc env H Q ↔ W T (.seq (.reg F_path_Underr0) (.seq (.seq (.reg F_path_Underr1) (.cond (.t 6) (.seq (.reg F_path_Underr2) .ret) .skip)) (.seq (.reg F_path_Underr3) .ret))) env H Q := Iff.rfl
def F_path_Under : IFn := ⟨18, [.tmp 4], F_path_Underc⟩
set_option maxRecDepth 1000000 in
theorem F_path_Under_chk : chkF Tryd.prog 36 F_path_Under = true := by kernel_rfl

/-! ### path_Parts -/
def F_path_Partsr0 : List IStmt := [
  ⟨some 2, .mv (.c (.slice none 0 0)), none⟩]
theorem F_path_Partsr0_W {T : Tab} {env : Env} {H : Heap} {Q : Post} : W T (.reg F_path_Partsr0) env H Q ↔ WR T F_path_Partsr0 [
  ⟨some 2, .mv (.c (.slice none 0 0)), none⟩] env H none [] Q := w_reg
def F_path_Partsr1 : List IStmt := [
  ⟨some 3, .mv (.c (.slice none 0 0)), none⟩]
theorem F_path_Partsr1_W {T : Tab} {env : Env} {H : Heap} {Q : Post} : W T (.reg F_path_Partsr1) env H Q ↔ WR T F_path_Partsr1 [
  ⟨some 3, .mv (.c (.slice none 0 0)), none⟩] env H none [] Q := w_reg
def F_path_Partsr2 : List IStmt := [
  ⟨some 6, .mv (.t 0), none⟩,
  ⟨some 7, .callc 14 [(.t 6), (.c (.string ⟨#[47]⟩))], none⟩,
  ⟨some 8, .len 1 (.t 7), none⟩,
  ⟨some 9, .mv (.c (.int .i64 0)), none⟩]
theorem F_path_Partsr2_W {T : Tab} {env : Env} {H : Heap} {Q : Post} : W T (.reg F_path_Partsr2) env H Q ↔ WR T F_path_Partsr2 [
  ⟨some 6, .mv (.t 0), none⟩,
  ⟨some 7, .callc 14 [(.t 6), (.c (.string ⟨#[47]⟩))], none⟩,
  ⟨some 8, .len 1 (.t 7), none⟩,
  ⟨some 9, .mv (.c (.int .i64 0)), none⟩] env H none [] Q := w_reg
def F_path_Partsr3 : List IStmt := [
  ⟨some 10, .bin .lss (.t 9) (.t 8), none⟩]
theorem F_path_Partsr3_W {T : Tab} {env : Env} {H : Heap} {Q : Post} : W T (.reg F_path_Partsr3) env H Q ↔ WR T F_path_Partsr3 [
  ⟨some 10, .bin .lss (.t 9) (.t 8), none⟩] env H none [] Q := w_reg
def F_path_Partsr4 : List IStmt := [
  ⟨some 11, .ixa 1 (.t 7) (.t 9), none⟩,
  ⟨some 12, .load (.t 11), none⟩,
  ⟨some 5, .mv (.t 12), none⟩]
theorem F_path_Partsr4_W {T : Tab} {env : Env} {H : Heap} {Q : Post} : W T (.reg F_path_Partsr4) env H Q ↔ WR T F_path_Partsr4 [
  ⟨some 11, .ixa 1 (.t 7) (.t 9), none⟩,
  ⟨some 12, .load (.t 11), none⟩,
  ⟨some 5, .mv (.t 12), none⟩] env H none [] Q := w_reg
def F_path_Partsr5 : List IStmt := [
  ⟨some 13, .mv (.t 5), none⟩,
  ⟨some 14, .bin .neq (.t 13) (.c (.string ⟨#[]⟩)), none⟩,
  ⟨some 15, .mv (.t 14), none⟩,
  ⟨some 16, .mv (.t 5), some (2, true)⟩,
  ⟨some 17, .bin .neq (.t 16) (.c (.string ⟨#[46]⟩)), some (2, true)⟩,
  ⟨some 18, .pick (.t 15) (.t 17) (.c (.bool false)), none⟩]
theorem F_path_Partsr5_W {T : Tab} {env : Env} {H : Heap} {Q : Post} : W T (.reg F_path_Partsr5) env H Q ↔ WR T F_path_Partsr5 [
  ⟨some 13, .mv (.t 5), none⟩,
  ⟨some 14, .bin .neq (.t 13) (.c (.string ⟨#[]⟩)), none⟩,
  ⟨some 15, .mv (.t 14), none⟩,
  ⟨some 16, .mv (.t 5), some (2, true)⟩,
  ⟨some 17, .bin .neq (.t 16) (.c (.string ⟨#[46]⟩)), some (2, true)⟩,
  ⟨some 18, .pick (.t 15) (.t 17) (.c (.bool false)), none⟩] env H none [] Q := w_reg
theorem F_path_Partsr5_g2 {env : Env} : yieldI F_path_Partsr5 env 2 = bOf (env 15) := rfl
def F_path_Partsr6 : List IStmt := [
  ⟨some 19, .mv (.t 3), none⟩,
  ⟨some 20, .mv (.t 5), none⟩,
  ⟨some 21, .bsli 1 1 [.string ⟨#[]⟩] [(0, (.t 20))], none⟩,
  ⟨some 22, .app 1 16 (.t 19) (.t 21), none⟩,
  ⟨some 3, .mv (.t 22), none⟩]
theorem F_path_Partsr6_W {T : Tab} {env : Env} {H : Heap} {Q : Post} : W T (.reg F_path_Partsr6) env H Q ↔ WR T F_path_Partsr6 [
  ⟨some 19, .mv (.t 3), none⟩,
  ⟨some 20, .mv (.t 5), none⟩,
  ⟨some 21, .bsli 1 1 [.string ⟨#[]⟩] [(0, (.t 20))], none⟩,
  ⟨some 22, .app 1 16 (.t 19) (.t 21), none⟩,
  ⟨some 3, .mv (.t 22), none⟩] env H none [] Q := w_reg
def F_path_Partsr7 : List IStmt := [
  ⟨some 23, .bin .add (.t 9) (.c (.int .i64 1)), none⟩,
  ⟨some 9, .mv (.t 23), none⟩]
theorem F_path_Partsr7_W {T : Tab} {env : Env} {H : Heap} {Q : Post} : W T (.reg F_path_Partsr7) env H Q ↔ WR T F_path_Partsr7 [
  ⟨some 23, .bin .add (.t 9) (.c (.int .i64 1)), none⟩,
  ⟨some 9, .mv (.t 23), none⟩] env H none [] Q := w_reg
def F_path_Partsl0 : ICode := (.seq (.reg F_path_Partsr3) (.seq (.cond (.t 10) .skip (.exit 0)) (.seq (.block 1 (.seq (.reg F_path_Partsr4) (.seq (.reg F_path_Partsr5) (.cond (.t 18) (.reg F_path_Partsr6) .skip)))) (.reg F_path_Partsr7))))
theorem F_path_Partsl0_W {T : Tab} {env : Env} {H : Heap} {Q : Post} : W T F_path_Partsl0 env H Q ↔ W T (.seq (.reg F_path_Partsr3) (.seq (.cond (.t 10) .skip (.exit 0)) (.seq (.block 1 (.seq (.reg F_path_Partsr4) (.seq (.reg F_path_Partsr5) (.cond (.t 18) (.reg F_path_Partsr6) .skip)))) (.reg F_path_Partsr7)))) env H Q := Iff.rfl
def F_path_Partsr8 : List IStmt := [
  ⟨some 24, .mv (.t 3), none⟩,
  ⟨some 2, .mv (.t 24), none⟩]
theorem F_path_Partsr8_W {T : Tab} {env : Env} {H : Heap} {Q : Post} : W T (.reg F_path_Partsr8) env H Q ↔ WR T F_path_Partsr8 [
  ⟨some 24, .mv (.t 3), none⟩,
  ⟨some 2, .mv (.t 24), none⟩] env H none [] Q := w_reg
def F_path_Partsc : ICode := (.seq (.reg F_path_Partsr0) (.seq (.reg F_path_Partsr1) (.seq (.seq (.reg F_path_Partsr2) (.block 0 (.loop F_path_Partsl0))) (.seq (.reg F_path_Partsr8) .ret))))
theorem F_path_Partsc_W {T : Tab} {env : Env} {H : Heap} {Q : Post} : W T F_path_Partsc env H Q ↔ W T (.seq (.reg F_path_Partsr0) (.seq (.reg F_path_Partsr1) (.seq (.seq (.reg F_path_Partsr2) (.block 0 (.loop F_path_Partsl0))) (.seq (.reg F_path_Partsr8) .ret)))) env H Q := Iff.rfl
def F_path_Parts : IFn := ⟨25, [.tmp 2], F_path_Partsc⟩
set_option maxRecDepth 1000000 in
theorem F_path_Parts_chk : chkF Tryd.prog 48 F_path_Parts = true := by kernel_rfl

/-! ### path_good -/
def F_path_goodr0 : List IStmt := [
  ⟨some 2, .mv (.c (.bool false)), none⟩]
theorem F_path_goodr0_W {T : Tab} {env : Env} {H : Heap} {Q : Post} : W T (.reg F_path_goodr0) env H Q ↔ WR T F_path_goodr0 [
  ⟨some 2, .mv (.c (.bool false)), none⟩] env H none [] Q := w_reg
def F_path_goodr1 : List IStmt := [
  ⟨some 4, .mv (.t 0), none⟩,
  ⟨some 5, .len 0 (.t 4), none⟩,
  ⟨some 6, .bin .gtr (.t 5) (.c (.int .i64 256)), none⟩]
theorem F_path_goodr1_W {T : Tab} {env : Env} {H : Heap} {Q : Post} : W T (.reg F_path_goodr1) env H Q ↔ WR T F_path_goodr1 [
  ⟨some 4, .mv (.t 0), none⟩,
  ⟨some 5, .len 0 (.t 4), none⟩,
  ⟨some 6, .bin .gtr (.t 5) (.c (.int .i64 256)), none⟩] env H none [] Q := w_reg
def F_path_goodr2 : List IStmt := [
  ⟨some 2, .mv (.c (.bool false)), none⟩]
theorem F_path_goodr2_W {T : Tab} {env : Env} {H : Heap} {Q : Post} : W T (.reg F_path_goodr2) env H Q ↔ WR T F_path_goodr2 [
  ⟨some 2, .mv (.c (.bool false)), none⟩] env H none [] Q := w_reg
def F_path_goodr3 : List IStmt := [
  ⟨some 7, .mv (.t 0), none⟩,
  ⟨some 8, .len 0 (.t 7), none⟩,
  ⟨some 9, .mv (.c (.int .i64 0)), none⟩]
theorem F_path_goodr3_W {T : Tab} {env : Env} {H : Heap} {Q : Post} : W T (.reg F_path_goodr3) env H Q ↔ WR T F_path_goodr3 [
  ⟨some 7, .mv (.t 0), none⟩,
  ⟨some 8, .len 0 (.t 7), none⟩,
  ⟨some 9, .mv (.c (.int .i64 0)), none⟩] env H none [] Q := w_reg
def F_path_goodr4 : List IStmt := [
  ⟨some 10, .bin .lss (.t 9) (.t 8), none⟩]
theorem F_path_goodr4_W {T : Tab} {env : Env} {H : Heap} {Q : Post} : W T (.reg F_path_goodr4) env H Q ↔ WR T F_path_goodr4 [
  ⟨some 10, .bin .lss (.t 9) (.t 8), none⟩] env H none [] Q := w_reg
def F_path_goodr5 : List IStmt := [
  ⟨some 11, .mv (.t 9), none⟩,
  ⟨some 3, .mv (.t 11), none⟩]
theorem F_path_goodr5_W {T : Tab} {env : Env} {H : Heap} {Q : Post} : W T (.reg F_path_goodr5) env H Q ↔ WR T F_path_goodr5 [
  ⟨some 11, .mv (.t 9), none⟩,
  ⟨some 3, .mv (.t 11), none⟩] env H none [] Q := w_reg
def F_path_goodr6 : List IStmt := [
  ⟨some 12, .mv (.t 0), none⟩,
  ⟨some 13, .mv (.t 3), none⟩,
  ⟨some 14, .ixs (.t 12) (.t 13), none⟩,
  ⟨some 15, .bin .lss (.t 14) (.c (.int .u8 33)), none⟩,
  ⟨some 16, .mv (.t 15), none⟩,
  ⟨some 17, .mv (.t 0), some (4, false)⟩,
  ⟨some 18, .mv (.t 3), some (4, false)⟩,
  ⟨some 19, .ixs (.t 17) (.t 18), some (4, false)⟩,
  ⟨some 20, .bin .gtr (.t 19) (.c (.int .u8 126)), some (4, false)⟩,
  ⟨some 21, .pick (.t 16) (.c (.bool true)) (.t 20), none⟩]
theorem F_path_goodr6_W {T : Tab} {env : Env} {H : Heap} {Q : Post} : W T (.reg F_path_goodr6) env H Q ↔ WR T F_path_goodr6 [
  ⟨some 12, .mv (.t 0), none⟩,
  ⟨some 13, .mv (.t 3), none⟩,
  ⟨some 14, .ixs (.t 12) (.t 13), none⟩,
  ⟨some 15, .bin .lss (.t 14) (.c (.int .u8 33)), none⟩,
  ⟨some 16, .mv (.t 15), none⟩,
  ⟨some 17, .mv (.t 0), some (4, false)⟩,
  ⟨some 18, .mv (.t 3), some (4, false)⟩,
  ⟨some 19, .ixs (.t 17) (.t 18), some (4, false)⟩,
  ⟨some 20, .bin .gtr (.t 19) (.c (.int .u8 126)), some (4, false)⟩,
  ⟨some 21, .pick (.t 16) (.c (.bool true)) (.t 20), none⟩] env H none [] Q := w_reg
theorem F_path_goodr6_g4 {env : Env} : yieldI F_path_goodr6 env 4 = bOf (env 16) := rfl
def F_path_goodr7 : List IStmt := [
  ⟨some 2, .mv (.c (.bool false)), none⟩]
theorem F_path_goodr7_W {T : Tab} {env : Env} {H : Heap} {Q : Post} : W T (.reg F_path_goodr7) env H Q ↔ WR T F_path_goodr7 [
  ⟨some 2, .mv (.c (.bool false)), none⟩] env H none [] Q := w_reg
def F_path_goodr8 : List IStmt := [
  ⟨some 22, .bin .add (.t 9) (.c (.int .i64 1)), none⟩,
  ⟨some 9, .mv (.t 22), none⟩]
theorem F_path_goodr8_W {T : Tab} {env : Env} {H : Heap} {Q : Post} : W T (.reg F_path_goodr8) env H Q ↔ WR T F_path_goodr8 [
  ⟨some 22, .bin .add (.t 9) (.c (.int .i64 1)), none⟩,
  ⟨some 9, .mv (.t 22), none⟩] env H none [] Q := w_reg
def F_path_goodl0 : ICode := (.seq (.reg F_path_goodr4) (.seq (.cond (.t 10) .skip (.exit 0)) (.seq (.block 1 (.seq (.reg F_path_goodr5) (.seq (.reg F_path_goodr6) (.cond (.t 21) (.seq (.reg F_path_goodr7) .ret) .skip)))) (.reg F_path_goodr8))))
theorem F_path_goodl0_W {T : Tab} {env : Env} {H : Heap} {Q : Post} : W T F_path_goodl0 env H Q ↔ W T (.seq (.reg F_path_goodr4) (.seq (.cond (.t 10) .skip (.exit 0)) (.seq (.block 1 (.seq (.reg F_path_goodr5) (.seq (.reg F_path_goodr6) (.cond (.t 21) (.seq (.reg F_path_goodr7) .ret) .skip)))) (.reg F_path_goodr8)))) env H Q := Iff.rfl
def F_path_goodr9 : List IStmt := [
  ⟨some 2, .mv (.c (.bool true)), none⟩]
theorem F_path_goodr9_W {T : Tab} {env : Env} {H : Heap} {Q : Post} : W T (.reg F_path_goodr9) env H Q ↔ WR T F_path_goodr9 [
  ⟨some 2, .mv (.c (.bool true)), none⟩] env H none [] Q := w_reg
def F_path_goodc : ICode := (.seq (.reg F_path_goodr0) (.seq (.seq (.reg F_path_goodr1) (.cond (.t 6) (.seq (.reg F_path_goodr2) .ret) .skip)) (.seq (.seq (.reg F_path_goodr3) (.block 0 (.loop F_path_goodl0))) (.seq (.reg F_path_goodr9) .ret))))
theorem F_path_goodc_W {T : Tab} {env : Env} {H : Heap} {Q : Post} : W T F_path_goodc env H Q ↔ W T (.seq (.reg F_path_goodr0) (.seq (.seq (.reg F_path_goodr1) (.cond (.t 6) (.seq (.reg F_path_goodr2) .ret) .skip)) (.seq (.seq (.reg F_path_goodr3) (.block 0 (.loop F_path_goodl0))) (.seq (.reg F_path_goodr9) .ret)))) env H Q := Iff.rfl
def F_path_good : IFn := ⟨23, [.tmp 2], F_path_goodc⟩
set_option maxRecDepth 1000000 in
theorem F_path_good_chk : chkF Tryd.prog 47 F_path_good = true := by kernel_rfl

/-! ### strings_Split -/
def F_strings_Splitr0 : List IStmt := [
  ⟨some 4, .mv (.c (.slice none 0 0)), none⟩]
theorem F_strings_Splitr0_W {T : Tab} {env : Env} {H : Heap} {Q : Post} : W T (.reg F_strings_Splitr0) env H Q ↔ WR T F_strings_Splitr0 [
  ⟨some 4, .mv (.c (.slice none 0 0)), none⟩] env H none [] Q := w_reg
def F_strings_Splitr1 : List IStmt := [
  ⟨some 5, .mv (.t 0), none⟩,
  ⟨some 6, .mv (.t 1), none⟩,
  ⟨some 7, .callc 25 [(.t 5), (.t 6), (.c (.int .i64 0)), (.c (.int .i64 (-1)))], none⟩,
  ⟨some 4, .mv (.t 7), none⟩]
theorem F_strings_Splitr1_W {T : Tab} {env : Env} {H : Heap} {Q : Post} : W T (.reg F_strings_Splitr1) env H Q ↔ WR T F_strings_Splitr1 [
  ⟨some 5, .mv (.t 0), none⟩,
  ⟨some 6, .mv (.t 1), none⟩,
  ⟨some 7, .callc 25 [(.t 5), (.t 6), (.c (.int .i64 0)), (.c (.int .i64 (-1)))], none⟩,
  ⟨some 4, .mv (.t 7), none⟩] env H none [] Q := w_reg
def F_strings_Splitc : ICode := (.seq (.reg F_strings_Splitr0) (.seq (.reg F_strings_Splitr1) .ret))
theorem F_strings_Splitc_W {T : Tab} {env : Env} {H : Heap} {Q : Post} : W T F_strings_Splitc env H Q ↔ W T (.seq (.reg F_strings_Splitr0) (.seq (.reg F_strings_Splitr1) .ret)) env H Q := Iff.rfl
def F_strings_Split : IFn := ⟨8, [.tmp 4], F_strings_Splitc⟩
set_option maxRecDepth 1000000 in
theorem F_strings_Split_chk : chkF Tryd.prog 14 F_strings_Split = true := by kernel_rfl

/-! ### strings_genSplit -/
def F_strings_genSplitr0 : List IStmt := [
  ⟨some 8, .mv (.c (.slice none 0 0)), none⟩]
theorem F_strings_genSplitr0_W {T : Tab} {env : Env} {H : Heap} {Q : Post} : W T (.reg F_strings_genSplitr0) env H Q ↔ WR T F_strings_genSplitr0 [
  ⟨some 8, .mv (.c (.slice none 0 0)), none⟩] env H none [] Q := w_reg
def F_strings_genSplitr1 : List IStmt := [
  ⟨some 12, .mv (.t 3), none⟩,
  ⟨some 13, .bin .eql (.t 12) (.c (.int .i64 0)), none⟩]
theorem F_strings_genSplitr1_W {T : Tab} {env : Env} {H : Heap} {Q : Post} : W T (.reg F_strings_genSplitr1) env H Q ↔ WR T F_strings_genSplitr1 [
  ⟨some 12, .mv (.t 3), none⟩,
  ⟨some 13, .bin .eql (.t 12) (.c (.int .i64 0)), none⟩] env H none [] Q := w_reg
def F_strings_genSplitr2 : List IStmt := [
  ⟨some 8, .mv (.c (.slice none 0 0)), none⟩]
theorem F_strings_genSplitr2_W {T : Tab} {env : Env} {H : Heap} {Q : Post} : W T (.reg F_strings_genSplitr2) env H Q ↔ WR T F_strings_genSplitr2 [
  ⟨some 8, .mv (.c (.slice none 0 0)), none⟩] env H none [] Q := w_reg
def F_strings_genSplitr3 : List IStmt := [
  ⟨some 14, .mv (.t 1), none⟩,
  ⟨some 15, .bin .eql (.t 14) (.c (.string ⟨#[]⟩)), none⟩]
theorem F_strings_genSplitr3_W {T : Tab} {env : Env} {H : Heap} {Q : Post} : W T (.reg F_strings_genSplitr3) env H Q ↔ WR T F_strings_genSplitr3 [
  ⟨some 14, .mv (.t 1), none⟩,
  ⟨some 15, .bin .eql (.t 14) (.c (.string ⟨#[]⟩)), none⟩] env H none [] Q := w_reg
def F_strings_genSplitr4 : List IStmt := [
  ⟨some 16, .mv (.t 0), none⟩,
  ⟨some 17, .mv (.t 3), none⟩,
  ⟨some 18, .callc 38 [(.t 16), (.t 17)], none⟩,
  ⟨some 8, .mv (.t 18), none⟩]
theorem F_strings_genSplitr4_W {T : Tab} {env : Env} {H : Heap} {Q : Post} : W T (.reg F_strings_genSplitr4) env H Q ↔ WR T F_strings_genSplitr4 [
  ⟨some 16, .mv (.t 0), none⟩,
  ⟨some 17, .mv (.t 3), none⟩,
  ⟨some 18, .callc 38 [(.t 16), (.t 17)], none⟩,
  ⟨some 8, .mv (.t 18), none⟩] env H none [] Q := w_reg
def F_strings_genSplitr5 : List IStmt := [
  ⟨some 19, .mv (.t 3), none⟩,
  ⟨some 20, .bin .lss (.t 19) (.c (.int .i64 0)), none⟩]
theorem F_strings_genSplitr5_W {T : Tab} {env : Env} {H : Heap} {Q : Post} : W T (.reg F_strings_genSplitr5) env H Q ↔ WR T F_strings_genSplitr5 [
  ⟨some 19, .mv (.t 3), none⟩,
  ⟨some 20, .bin .lss (.t 19) (.c (.int .i64 0)), none⟩] env H none [] Q := w_reg
def F_strings_genSplitr6 : List IStmt := [
  ⟨some 21, .mv (.t 0), none⟩,
  ⟨some 22, .mv (.t 1), none⟩,
  ⟨some 23, .callc 39 [(.t 21), (.t 22)], none⟩,
  ⟨some 24, .bin .add (.t 23) (.c (.int .i64 1)), none⟩,
  ⟨some 3, .mv (.t 24), none⟩]
theorem F_strings_genSplitr6_W {T : Tab} {env : Env} {H : Heap} {Q : Post} : W T (.reg F_strings_genSplitr6) env H Q ↔ WR T F_strings_genSplitr6 [
  ⟨some 21, .mv (.t 0), none⟩,
  ⟨some 22, .mv (.t 1), none⟩,
  ⟨some 23, .callc 39 [(.t 21), (.t 22)], none⟩,
  ⟨some 24, .bin .add (.t 23) (.c (.int .i64 1)), none⟩,
  ⟨some 3, .mv (.t 24), none⟩] env H none [] Q := w_reg
def F_strings_genSplitr7 : List IStmt := [
  ⟨some 25, .mv (.t 3), none⟩,
  ⟨some 26, .mv (.t 0), none⟩,
  ⟨some 27, .len 0 (.t 26), none⟩,
  ⟨some 28, .bin .add (.t 27) (.c (.int .i64 1)), none⟩,
  ⟨some 29, .mn (.t 25) (.t 28), none⟩,
  ⟨some 3, .mv (.t 29), none⟩]
theorem F_strings_genSplitr7_W {T : Tab} {env : Env} {H : Heap} {Q : Post} : W T (.reg F_strings_genSplitr7) env H Q ↔ WR T F_strings_genSplitr7 [
  ⟨some 25, .mv (.t 3), none⟩,
  ⟨some 26, .mv (.t 0), none⟩,
  ⟨some 27, .len 0 (.t 26), none⟩,
  ⟨some 28, .bin .add (.t 27) (.c (.int .i64 1)), none⟩,
  ⟨some 29, .mn (.t 25) (.t 28), none⟩,
  ⟨some 3, .mv (.t 29), none⟩] env H none [] Q := w_reg
def F_strings_genSplitr8 : List IStmt := [
  ⟨some 30, .mv (.t 3), none⟩,
  ⟨some 31, .mks 16 (.string ⟨#[]⟩) (.t 30) (.t 30), none⟩,
  ⟨some 9, .mv (.t 31), none⟩]
theorem F_strings_genSplitr8_W {T : Tab} {env : Env} {H : Heap} {Q : Post} : W T (.reg F_strings_genSplitr8) env H Q ↔ WR T F_strings_genSplitr8 [
  ⟨some 30, .mv (.t 3), none⟩,
  ⟨some 31, .mks 16 (.string ⟨#[]⟩) (.t 30) (.t 30), none⟩,
  ⟨some 9, .mv (.t 31), none⟩] env H none [] Q := w_reg
def F_strings_genSplitr9 : List IStmt := [
  ⟨some 32, .mv (.t 3), none⟩,
  ⟨some 33, .bin .sub (.t 32) (.c (.int .i64 1)), none⟩,
  ⟨some 3, .mv (.t 33), none⟩]
theorem F_strings_genSplitr9_W {T : Tab} {env : Env} {H : Heap} {Q : Post} : W T (.reg F_strings_genSplitr9) env H Q ↔ WR T F_strings_genSplitr9 [
  ⟨some 32, .mv (.t 3), none⟩,
  ⟨some 33, .bin .sub (.t 32) (.c (.int .i64 1)), none⟩,
  ⟨some 3, .mv (.t 33), none⟩] env H none [] Q := w_reg
def F_strings_genSplitr10 : List IStmt := [
  ⟨some 10, .mv (.c (.int .i64 0)), none⟩]
theorem F_strings_genSplitr10_W {T : Tab} {env : Env} {H : Heap} {Q : Post} : W T (.reg F_strings_genSplitr10) env H Q ↔ WR T F_strings_genSplitr10 [
  ⟨some 10, .mv (.c (.int .i64 0)), none⟩] env H none [] Q := w_reg
def F_strings_genSplitr11 : List IStmt := [
  ⟨some 34, .mv (.t 10), none⟩,
  ⟨some 35, .mv (.t 3), none⟩,
  ⟨some 36, .bin .lss (.t 34) (.t 35), none⟩]
theorem F_strings_genSplitr11_W {T : Tab} {env : Env} {H : Heap} {Q : Post} : W T (.reg F_strings_genSplitr11) env H Q ↔ WR T F_strings_genSplitr11 [
  ⟨some 34, .mv (.t 10), none⟩,
  ⟨some 35, .mv (.t 3), none⟩,
  ⟨some 36, .bin .lss (.t 34) (.t 35), none⟩] env H none [] Q := w_reg
def F_strings_genSplitr12 : List IStmt := [
  ⟨some 37, .mv (.t 0), none⟩,
  ⟨some 38, .mv (.t 1), none⟩,
  ⟨some 39, .callc 40 [(.t 37), (.t 38)], none⟩,
  ⟨some 11, .mv (.t 39), none⟩]
theorem F_strings_genSplitr12_W {T : Tab} {env : Env} {H : Heap} {Q : Post} : W T (.reg F_strings_genSplitr12) env H Q ↔ WR T F_strings_genSplitr12 [
  ⟨some 37, .mv (.t 0), none⟩,
  ⟨some 38, .mv (.t 1), none⟩,
  ⟨some 39, .callc 40 [(.t 37), (.t 38)], none⟩,
  ⟨some 11, .mv (.t 39), none⟩] env H none [] Q := w_reg
def F_strings_genSplitr13 : List IStmt := [
  ⟨some 40, .mv (.t 11), none⟩,
  ⟨some 41, .bin .lss (.t 40) (.c (.int .i64 0)), none⟩]
theorem F_strings_genSplitr13_W {T : Tab} {env : Env} {H : Heap} {Q : Post} : W T (.reg F_strings_genSplitr13) env H Q ↔ WR T F_strings_genSplitr13 [
  ⟨some 40, .mv (.t 11), none⟩,
  ⟨some 41, .bin .lss (.t 40) (.c (.int .i64 0)), none⟩] env H none [] Q := w_reg
def F_strings_genSplitr14 : List IStmt := [
  ⟨some 42, .mv (.t 9), none⟩,
  ⟨some 43, .mv (.t 10), none⟩,
  ⟨some 44, .mv (.t 0), none⟩,
  ⟨some 45, .mv (.t 11), none⟩,
  ⟨some 46, .mv (.t 2), none⟩,
  ⟨some 47, .bin .add (.t 45) (.t 46), none⟩,
  ⟨some 48, .sls (.t 44) none (some (.t 47)), none⟩,
  ⟨some 49, .ixa 1 (.t 42) (.t 43), none⟩,
  ⟨none, .store 1 (.t 49) (.t 48), none⟩]
theorem F_strings_genSplitr14_W {T : Tab} {env : Env} {H : Heap} {Q : Post} : W T (.reg F_strings_genSplitr14) env H Q ↔ WR T F_strings_genSplitr14 [
  ⟨some 42, .mv (.t 9), none⟩,
  ⟨some 43, .mv (.t 10), none⟩,
  ⟨some 44, .mv (.t 0), none⟩,
  ⟨some 45, .mv (.t 11), none⟩,
  ⟨some 46, .mv (.t 2), none⟩,
  ⟨some 47, .bin .add (.t 45) (.t 46), none⟩,
  ⟨some 48, .sls (.t 44) none (some (.t 47)), none⟩,
  ⟨some 49, .ixa 1 (.t 42) (.t 43), none⟩,
  ⟨none, .store 1 (.t 49) (.t 48), none⟩] env H none [] Q := w_reg
def F_strings_genSplitr15 : List IStmt := [
  ⟨some 50, .mv (.t 0), none⟩,
  ⟨some 51, .mv (.t 11), none⟩,
  ⟨some 52, .mv (.t 1), none⟩,
  ⟨some 53, .len 0 (.t 52), none⟩,
  ⟨some 54, .bin .add (.t 51) (.t 53), none⟩,
  ⟨some 55, .sls (.t 50) (some (.t 54)) none, none⟩,
  ⟨some 0, .mv (.t 55), none⟩]
theorem F_strings_genSplitr15_W {T : Tab} {env : Env} {H : Heap} {Q : Post} : W T (.reg F_strings_genSplitr15) env H Q ↔ WR T F_strings_genSplitr15 [
  ⟨some 50, .mv (.t 0), none⟩,
  ⟨some 51, .mv (.t 11), none⟩,
  ⟨some 52, .mv (.t 1), none⟩,
  ⟨some 53, .len 0 (.t 52), none⟩,
  ⟨some 54, .bin .add (.t 51) (.t 53), none⟩,
  ⟨some 55, .sls (.t 50) (some (.t 54)) none, none⟩,
  ⟨some 0, .mv (.t 55), none⟩] env H none [] Q := w_reg
def F_strings_genSplitr16 : List IStmt := [
  ⟨some 56, .mv (.t 10), none⟩,
  ⟨some 57, .bin .add (.t 56) (.c (.int .i64 1)), none⟩,
  ⟨some 10, .mv (.t 57), none⟩]
theorem F_strings_genSplitr16_W {T : Tab} {env : Env} {H : Heap} {Q : Post} : W T (.reg F_strings_genSplitr16) env H Q ↔ WR T F_strings_genSplitr16 [
  ⟨some 56, .mv (.t 10), none⟩,
  ⟨some 57, .bin .add (.t 56) (.c (.int .i64 1)), none⟩,
  ⟨some 10, .mv (.t 57), none⟩] env H none [] Q := w_reg
def F_strings_genSplitl0 : ICode := (.seq (.seq (.reg F_strings_genSplitr11) (.cond (.t 36) .skip (.exit 0))) (.block 1 (.seq (.reg F_strings_genSplitr12) (.seq (.seq (.reg F_strings_genSplitr13) (.cond (.t 41) (.exit 0) .skip)) (.seq (.reg F_strings_genSplitr14) (.seq (.reg F_strings_genSplitr15) (.reg F_strings_genSplitr16)))))))
theorem F_strings_genSplitl0_W {T : Tab} {env : Env} {H : Heap} {Q : Post} : W T F_strings_genSplitl0 env H Q ↔ W T (.seq (.seq (.reg F_strings_genSplitr11) (.cond (.t 36) .skip (.exit 0))) (.block 1 (.seq (.reg F_strings_genSplitr12) (.seq (.seq (.reg F_strings_genSplitr13) (.cond (.t 41) (.exit 0) .skip)) (.seq (.reg F_strings_genSplitr14) (.seq (.reg F_strings_genSplitr15) (.reg F_strings_genSplitr16))))))) env H Q := Iff.rfl
def F_strings_genSplitr17 : List IStmt := [
  ⟨some 58, .mv (.t 9), none⟩,
  ⟨some 59, .mv (.t 10), none⟩,
  ⟨some 60, .mv (.t 0), none⟩,
  ⟨some 61, .ixa 1 (.t 58) (.t 59), none⟩,
  ⟨none, .store 1 (.t 61) (.t 60), none⟩]
theorem F_strings_genSplitr17_W {T : Tab} {env : Env} {H : Heap} {Q : Post} : W T (.reg F_strings_genSplitr17) env H Q ↔ WR T F_strings_genSplitr17 [
  ⟨some 58, .mv (.t 9), none⟩,
  ⟨some 59, .mv (.t 10), none⟩,
  ⟨some 60, .mv (.t 0), none⟩,
  ⟨some 61, .ixa 1 (.t 58) (.t 59), none⟩,
  ⟨none, .store 1 (.t 61) (.t 60), none⟩] env H none [] Q := w_reg
def F_strings_genSplitr18 : List IStmt := [
  ⟨some 62, .mv (.t 9), none⟩,
  ⟨some 63, .mv (.t 10), none⟩,
  ⟨some 64, .bin .add (.t 63) (.c (.int .i64 1)), none⟩,
  ⟨some 65, .sle 1 (.t 62) none (some (.t 64)) none, none⟩,
  ⟨some 8, .mv (.t 65), none⟩]
theorem F_strings_genSplitr18_W {T : Tab} {env : Env} {H : Heap} {Q : Post} : W T (.reg F_strings_genSplitr18) env H Q ↔ WR T F_strings_genSplitr18 [
  ⟨some 62, .mv (.t 9), none⟩,
  ⟨some 63, .mv (.t 10), none⟩,
  ⟨some 64, .bin .add (.t 63) (.c (.int .i64 1)), none⟩,
  ⟨some 65, .sle 1 (.t 62) none (some (.t 64)) none, none⟩,
  ⟨some 8, .mv (.t 65), none⟩] env H none [] Q := w_reg
def F_strings_genSplitc : ICode := (.seq (.reg F_strings_genSplitr0) (.seq (.seq (.reg F_strings_genSplitr1) (.cond (.t 13) (.seq (.reg F_strings_genSplitr2) .ret) .skip)) (.seq (.seq (.reg F_strings_genSplitr3) (.cond (.t 15) (.seq (.reg F_strings_genSplitr4) .ret) .skip)) (.seq (.seq (.reg F_strings_genSplitr5) (.cond (.t 20) (.reg F_strings_genSplitr6) .skip)) (.seq (.reg F_strings_genSplitr7) (.seq (.reg F_strings_genSplitr8) (.seq (.reg F_strings_genSplitr9) (.seq (.reg F_strings_genSplitr10) (.seq (.block 0 (.loop F_strings_genSplitl0)) (.seq (.reg F_strings_genSplitr17) (.seq (.reg F_strings_genSplitr18) .ret)))))))))))
theorem F_strings_genSplitc_W {T : Tab} {env : Env} {H : Heap} {Q : Post} : W T F_strings_genSplitc env H Q ↔ W T (.seq (.reg F_strings_genSplitr0) (.seq (.seq (.reg F_strings_genSplitr1) (.cond (.t 13) (.seq (.reg F_strings_genSplitr2) .ret) .skip)) (.seq (.seq (.reg F_strings_genSplitr3) (.cond (.t 15) (.seq (.reg F_strings_genSplitr4) .ret) .skip)) (.seq (.seq (.reg F_strings_genSplitr5) (.cond (.t 20) (.reg F_strings_genSplitr6) .skip)) (.seq (.reg F_strings_genSplitr7) (.seq (.reg F_strings_genSplitr8) (.seq (.reg F_strings_genSplitr9) (.seq (.reg F_strings_genSplitr10) (.seq (.block 0 (.loop F_strings_genSplitl0)) (.seq (.reg F_strings_genSplitr17) (.seq (.reg F_strings_genSplitr18) .ret))))))))))) env H Q := Iff.rfl
def F_strings_genSplit : IFn := ⟨66, [.tmp 8], F_strings_genSplitc⟩
set_option maxRecDepth 1000000 in
theorem F_strings_genSplit_chk : chkF Tryd.prog 25 F_strings_genSplit = true := by kernel_rfl

/-! ### strings_Index -/
def F_strings_Indexr0 : List IStmt := [
  ⟨some 4, .mv (.c (.int .i64 0)), none⟩]
theorem F_strings_Indexr0_W {T : Tab} {env : Env} {H : Heap} {Q : Post} : W T (.reg F_strings_Indexr0) env H Q ↔ WR T F_strings_Indexr0 [
  ⟨some 4, .mv (.c (.int .i64 0)), none⟩] env H none [] Q := w_reg
def F_strings_Indexr1 : List IStmt := [
  ⟨some 5, .mv (.t 0), none⟩,
  ⟨some 6, .mv (.t 1), none⟩,
  ⟨some 7, .callc 41 [(.t 5), (.t 6)], none⟩,
  ⟨some 4, .mv (.t 7), none⟩]
theorem F_strings_Indexr1_W {T : Tab} {env : Env} {H : Heap} {Q : Post} : W T (.reg F_strings_Indexr1) env H Q ↔ WR T F_strings_Indexr1 [
  ⟨some 5, .mv (.t 0), none⟩,
  ⟨some 6, .mv (.t 1), none⟩,
  ⟨some 7, .callc 41 [(.t 5), (.t 6)], none⟩,
  ⟨some 4, .mv (.t 7), none⟩] env H none [] Q := w_reg
def F_strings_Indexc : ICode := (.seq (.reg F_strings_Indexr0) (.seq (.reg F_strings_Indexr1) .ret))
theorem F_strings_Indexc_W {T : Tab} {env : Env} {H : Heap} {Q : Post} : W T F_strings_Indexc env H Q ↔ W T (.seq (.reg F_strings_Indexr0) (.seq (.reg F_strings_Indexr1) .ret)) env H Q := Iff.rfl
def F_strings_Index : IFn := ⟨8, [.tmp 4], F_strings_Indexc⟩
set_option maxRecDepth 1000000 in
theorem F_strings_Index_chk : chkF Tryd.prog 40 F_strings_Index = true := by kernel_rfl

/-! ### strings_Cut -/
def F_strings_Cutr0 : List IStmt := [
  ⟨some 4, .mv (.c (.string ⟨#[]⟩)), none⟩,
  ⟨some 5, .mv (.c (.string ⟨#[]⟩)), none⟩,
  ⟨some 6, .mv (.c (.bool false)), none⟩]
theorem F_strings_Cutr0_W {T : Tab} {env : Env} {H : Heap} {Q : Post} : W T (.reg F_strings_Cutr0) env H Q ↔ WR T F_strings_Cutr0 [
  ⟨some 4, .mv (.c (.string ⟨#[]⟩)), none⟩,
  ⟨some 5, .mv (.c (.string ⟨#[]⟩)), none⟩,
  ⟨some 6, .mv (.c (.bool false)), none⟩] env H none [] Q := w_reg
def F_strings_Cutr1 : List IStmt := [
  ⟨some 7, .mv (.t 0), none⟩,
  ⟨some 8, .mv (.t 1), none⟩,
  ⟨some 9, .callc 26 [(.t 7), (.t 8)], none⟩,
  ⟨some 10, .ext (.t 9) 0, none⟩,
  ⟨some 11, .ext (.t 9) 1, none⟩,
  ⟨some 12, .ext (.t 9) 2, none⟩,
  ⟨some 4, .mv (.t 10), none⟩,
  ⟨some 5, .mv (.t 11), none⟩,
  ⟨some 6, .mv (.t 12), none⟩]
theorem F_strings_Cutr1_W {T : Tab} {env : Env} {H : Heap} {Q : Post} : W T (.reg F_strings_Cutr1) env H Q ↔ WR T F_strings_Cutr1 [
  ⟨some 7, .mv (.t 0), none⟩,
  ⟨some 8, .mv (.t 1), none⟩,
  ⟨some 9, .callc 26 [(.t 7), (.t 8)], none⟩,
  ⟨some 10, .ext (.t 9) 0, none⟩,
  ⟨some 11, .ext (.t 9) 1, none⟩,
  ⟨some 12, .ext (.t 9) 2, none⟩,
  ⟨some 4, .mv (.t 10), none⟩,
  ⟨some 5, .mv (.t 11), none⟩,
  ⟨some 6, .mv (.t 12), none⟩] env H none [] Q := w_reg
def F_strings_Cutc : ICode := (.seq (.reg F_strings_Cutr0) (.seq (.reg F_strings_Cutr1) .ret))
theorem F_strings_Cutc_W {T : Tab} {env : Env} {H : Heap} {Q : Post} : W T F_strings_Cutc env H Q ↔ W T (.seq (.reg F_strings_Cutr0) (.seq (.reg F_strings_Cutr1) .ret)) env H Q := Iff.rfl
def F_strings_Cut : IFn := ⟨13, [.tmp 4, .tmp 5, .tmp 6], F_strings_Cutc⟩
set_option maxRecDepth 1000000 in
theorem F_strings_Cut_chk : chkF Tryd.prog 15 F_strings_Cut = true := by kernel_rfl

/-! ### internal_stringslite_Cut -/
def F_internal_stringslite_Cutr0 : List IStmt := [
  ⟨some 4, .mv (.c (.string ⟨#[]⟩)), none⟩,
  ⟨some 5, .mv (.c (.string ⟨#[]⟩)), none⟩,
  ⟨some 6, .mv (.c (.bool false)), none⟩]
theorem F_internal_stringslite_Cutr0_W {T : Tab} {env : Env} {H : Heap} {Q : Post} : W T (.reg F_internal_stringslite_Cutr0) env H Q ↔ WR T F_internal_stringslite_Cutr0 [
  ⟨some 4, .mv (.c (.string ⟨#[]⟩)), none⟩,
  ⟨some 5, .mv (.c (.string ⟨#[]⟩)), none⟩,
  ⟨some 6, .mv (.c (.bool false)), none⟩] env H none [] Q := w_reg
def F_internal_stringslite_Cutr1 : List IStmt := [
  ⟨some 8, .mv (.t 0), none⟩,
  ⟨some 9, .mv (.t 1), none⟩,
  ⟨some 10, .callc 41 [(.t 8), (.t 9)], none⟩,
  ⟨some 7, .mv (.t 10), none⟩]
theorem F_internal_stringslite_Cutr1_W {T : Tab} {env : Env} {H : Heap} {Q : Post} : W T (.reg F_internal_stringslite_Cutr1) env H Q ↔ WR T F_internal_stringslite_Cutr1 [
  ⟨some 8, .mv (.t 0), none⟩,
  ⟨some 9, .mv (.t 1), none⟩,
  ⟨some 10, .callc 41 [(.t 8), (.t 9)], none⟩,
  ⟨some 7, .mv (.t 10), none⟩] env H none [] Q := w_reg
def F_internal_stringslite_Cutr2 : List IStmt := [
  ⟨some 11, .mv (.t 7), none⟩,
  ⟨some 12, .bin .geq (.t 11) (.c (.int .i64 0)), none⟩]
theorem F_internal_stringslite_Cutr2_W {T : Tab} {env : Env} {H : Heap} {Q : Post} : W T (.reg F_internal_stringslite_Cutr2) env H Q ↔ WR T F_internal_stringslite_Cutr2 [
  ⟨some 11, .mv (.t 7), none⟩,
  ⟨some 12, .bin .geq (.t 11) (.c (.int .i64 0)), none⟩] env H none [] Q := w_reg
def F_internal_stringslite_Cutr3 : List IStmt := [
  ⟨some 13, .mv (.t 0), none⟩,
  ⟨some 14, .mv (.t 7), none⟩,
  ⟨some 15, .sls (.t 13) none (some (.t 14)), none⟩,
  ⟨some 16, .mv (.t 0), none⟩,
  ⟨some 17, .mv (.t 7), none⟩,
  ⟨some 18, .mv (.t 1), none⟩,
  ⟨some 19, .len 0 (.t 18), none⟩,
  ⟨some 20, .bin .add (.t 17) (.t 19), none⟩,
  ⟨some 21, .sls (.t 16) (some (.t 20)) none, none⟩,
  ⟨some 4, .mv (.t 15), none⟩,
  ⟨some 5, .mv (.t 21), none⟩,
  ⟨some 6, .mv (.c (.bool true)), none⟩]
theorem F_internal_stringslite_Cutr3_W {T : Tab} {env : Env} {H : Heap} {Q : Post} : W T (.dreg F_internal_stringslite_Cutr3 []) env H Q ↔ WR T F_internal_stringslite_Cutr3 [
  ⟨some 13, .mv (.t 0), none⟩,
  ⟨some 14, .mv (.t 7), none⟩,
  ⟨some 15, .sls (.t 13) none (some (.t 14)), none⟩,
  ⟨some 16, .mv (.t 0), none⟩,
  ⟨some 17, .mv (.t 7), none⟩,
  ⟨some 18, .mv (.t 1), none⟩,
  ⟨some 19, .len 0 (.t 18), none⟩,
  ⟨some 20, .bin .add (.t 17) (.t 19), none⟩,
  ⟨some 21, .sls (.t 16) (some (.t 20)) none, none⟩,
  ⟨some 4, .mv (.t 15), none⟩,
  ⟨some 5, .mv (.t 21), none⟩,
  ⟨some 6, .mv (.c (.bool true)), none⟩] env H none [] Q := w_dreg0
def F_internal_stringslite_Cutr4 : List IStmt := [
  ⟨some 22, .mv (.t 0), none⟩,
  ⟨some 4, .mv (.t 22), none⟩,
  ⟨some 5, .mv (.c (.string ⟨#[]⟩)), none⟩,
  ⟨some 6, .mv (.c (.bool false)), none⟩]
theorem F_internal_stringslite_Cutr4_W {T : Tab} {env : Env} {H : Heap} {Q : Post} : W T (.reg F_internal_stringslite_Cutr4) env H Q ↔ WR T F_internal_stringslite_Cutr4 [
  ⟨some 22, .mv (.t 0), none⟩,
  ⟨some 4, .mv (.t 22), none⟩,
  ⟨some 5, .mv (.c (.string ⟨#[]⟩)), none⟩,
  ⟨some 6, .mv (.c (.bool false)), none⟩] env H none [] Q := w_reg
def F_internal_stringslite_Cutc : ICode := (.seq (.reg F_internal_stringslite_Cutr0) (.seq (.seq (.reg F_internal_stringslite_Cutr1) (.seq (.reg F_internal_stringslite_Cutr2) (.cond (.t 12) (.seq (.dreg F_internal_stringslite_Cutr3 []) .ret) .skip))) (.seq (.reg F_internal_stringslite_Cutr4) .ret)))
theorem F_internal_stringslite_Cutc_W {T : Tab} {env : Env} {H : Heap} {Q : Post} : W T F_internal_stringslite_Cutc env H Q ↔ W T (.seq (.reg F_internal_stringslite_Cutr0) (.seq (.seq (.reg F_internal_stringslite_Cutr1) (.seq (.reg F_internal_stringslite_Cutr2) (.cond (.t 12) (.seq (.dreg F_internal_stringslite_Cutr3 []) .ret) .skip))) (.seq (.reg F_internal_stringslite_Cutr4) .ret))) env H Q := Iff.rfl
def F_internal_stringslite_Cut : IFn := ⟨23, [.tmp 4, .tmp 5, .tmp 6], F_internal_stringslite_Cutc⟩
set_option maxRecDepth 1000000 in
theorem F_internal_stringslite_Cut_chk : chkF Tryd.prog 26 F_internal_stringslite_Cut = true := by kernel_rfl

/-! ### strings_HasSuffix -/
def F_strings_HasSuffixr0 : List IStmt := [
  ⟨some 4, .mv (.c (.bool false)), none⟩]
theorem F_strings_HasSuffixr0_W {T : Tab} {env : Env} {H : Heap} {Q : Post} : W T (.reg F_strings_HasSuffixr0) env H Q ↔ WR T F_strings_HasSuffixr0 [
  ⟨some 4, .mv (.c (.bool false)), none⟩] env H none [] Q := w_reg
def F_strings_HasSuffixr1 : List IStmt := [
  ⟨some 5, .mv (.t 0), none⟩,
  ⟨some 6, .mv (.t 1), none⟩,
  ⟨some 7, .callc 43 [(.t 5), (.t 6)], none⟩,
  ⟨some 4, .mv (.t 7), none⟩]
theorem F_strings_HasSuffixr1_W {T : Tab} {env : Env} {H : Heap} {Q : Post} : W T (.reg F_strings_HasSuffixr1) env H Q ↔ WR T F_strings_HasSuffixr1 [
  ⟨some 5, .mv (.t 0), none⟩,
  ⟨some 6, .mv (.t 1), none⟩,
  ⟨some 7, .callc 43 [(.t 5), (.t 6)], none⟩,
  ⟨some 4, .mv (.t 7), none⟩] env H none [] Q := w_reg
def F_strings_HasSuffixc : ICode := (.seq (.reg F_strings_HasSuffixr0) (.seq (.reg F_strings_HasSuffixr1) .ret))
theorem F_strings_HasSuffixc_W {T : Tab} {env : Env} {H : Heap} {Q : Post} : W T F_strings_HasSuffixc env H Q ↔ W T (.seq (.reg F_strings_HasSuffixr0) (.seq (.reg F_strings_HasSuffixr1) .ret)) env H Q := Iff.rfl
def F_strings_HasSuffix : IFn := ⟨8, [.tmp 4], F_strings_HasSuffixc⟩
set_option maxRecDepth 1000000 in
theorem F_strings_HasSuffix_chk : chkF Tryd.prog 29 F_strings_HasSuffix = true := by kernel_rfl

/-! ### internal_stringslite_HasSuffix -/
def F_internal_stringslite_HasSuffixr0 : List IStmt := [
  ⟨some 4, .mv (.c (.bool false)), none⟩]
theorem F_internal_stringslite_HasSuffixr0_W {T : Tab} {env : Env} {H : Heap} {Q : Post} : W T (.reg F_internal_stringslite_HasSuffixr0) env H Q ↔ WR T F_internal_stringslite_HasSuffixr0 [
  ⟨some 4, .mv (.c (.bool false)), none⟩] env H none [] Q := w_reg
def F_internal_stringslite_HasSuffixr1 : List IStmt := [
  ⟨some 5, .mv (.t 0), none⟩,
  ⟨some 6, .len 0 (.t 5), none⟩,
  ⟨some 7, .mv (.t 1), none⟩,
  ⟨some 8, .len 0 (.t 7), none⟩,
  ⟨some 9, .bin .geq (.t 6) (.t 8), none⟩,
  ⟨some 10, .mv (.t 9), none⟩,
  ⟨some 11, .mv (.t 0), some (5, true)⟩,
  ⟨some 12, .mv (.t 0), some (5, true)⟩,
  ⟨some 13, .len 0 (.t 12), some (5, true)⟩,
  ⟨some 14, .mv (.t 1), some (5, true)⟩,
  ⟨some 15, .len 0 (.t 14), some (5, true)⟩,
  ⟨some 16, .bin .sub (.t 13) (.t 15), some (5, true)⟩,
  ⟨some 17, .sls (.t 11) (some (.t 16)) none, some (5, true)⟩,
  ⟨some 18, .mv (.t 1), some (5, true)⟩,
  ⟨some 19, .bin .eql (.t 17) (.t 18), some (5, true)⟩,
  ⟨some 20, .pick (.t 10) (.t 19) (.c (.bool false)), none⟩,
  ⟨some 4, .mv (.t 20), none⟩]
theorem F_internal_stringslite_HasSuffixr1_W {T : Tab} {env : Env} {H : Heap} {Q : Post} : W T (.reg F_internal_stringslite_HasSuffixr1) env H Q ↔ WR T F_internal_stringslite_HasSuffixr1 [
  ⟨some 5, .mv (.t 0), none⟩,
  ⟨some 6, .len 0 (.t 5), none⟩,
  ⟨some 7, .mv (.t 1), none⟩,
  ⟨some 8, .len 0 (.t 7), none⟩,
  ⟨some 9, .bin .geq (.t 6) (.t 8), none⟩,
  ⟨some 10, .mv (.t 9), none⟩,
  ⟨some 11, .mv (.t 0), some (5, true)⟩,
  ⟨some 12, .mv (.t 0), some (5, true)⟩,
  ⟨some 13, .len 0 (.t 12), some (5, true)⟩,
  ⟨some 14, .mv (.t 1), some (5, true)⟩,
  ⟨some 15, .len 0 (.t 14), some (5, true)⟩,
  ⟨some 16, .bin .sub (.t 13) (.t 15), some (5, true)⟩,
  ⟨some 17, .sls (.t 11) (some (.t 16)) none, some (5, true)⟩,
  ⟨some 18, .mv (.t 1), some (5, true)⟩,
  ⟨some 19, .bin .eql (.t 17) (.t 18), some (5, true)⟩,
  ⟨some 20, .pick (.t 10) (.t 19) (.c (.bool false)), none⟩,
  ⟨some 4, .mv (.t 20), none⟩] env H none [] Q := w_reg
theorem F_internal_stringslite_HasSuffixr1_g5 {env : Env} : yieldI F_internal_stringslite_HasSuffixr1 env 5 = bOf (env 10) := rfl
def F_internal_stringslite_HasSuffixc : ICode := (.seq (.reg F_internal_stringslite_HasSuffixr0) (.seq (.reg F_internal_stringslite_HasSuffixr1) .ret))
theorem F_internal_stringslite_HasSuffixc_W {T : Tab} {env : Env} {H : Heap} {Q : Post} : W T F_internal_stringslite_HasSuffixc env H Q ↔ W T (.seq (.reg F_internal_stringslite_HasSuffixr0) (.seq (.reg F_internal_stringslite_HasSuffixr1) .ret)) env H Q := Iff.rfl
def F_internal_stringslite_HasSuffix : IFn := ⟨21, [.tmp 4], F_internal_stringslite_HasSuffixc⟩
set_option maxRecDepth 1000000 in
theorem F_internal_stringslite_HasSuffix_chk : chkF Tryd.prog 43 F_internal_stringslite_HasSuffix = true := by kernel_rfl

/-! ### strings_TrimSuffix -/
def F_strings_TrimSuffixr0 : List IStmt := [
  ⟨some 4, .mv (.c (.string ⟨#[]⟩)), none⟩]
theorem F_strings_TrimSuffixr0_W {T : Tab} {env : Env} {H : Heap} {Q : Post} : W T (.reg F_strings_TrimSuffixr0) env H Q ↔ WR T F_strings_TrimSuffixr0 [
  ⟨some 4, .mv (.c (.string ⟨#[]⟩)), none⟩] env H none [] Q := w_reg
def F_strings_TrimSuffixr1 : List IStmt := [
  ⟨some 5, .mv (.t 0), none⟩,
  ⟨some 6, .mv (.t 1), none⟩,
  ⟨some 7, .callc 44 [(.t 5), (.t 6)], none⟩,
  ⟨some 4, .mv (.t 7), none⟩]
theorem F_strings_TrimSuffixr1_W {T : Tab} {env : Env} {H : Heap} {Q : Post} : W T (.reg F_strings_TrimSuffixr1) env H Q ↔ WR T F_strings_TrimSuffixr1 [
  ⟨some 5, .mv (.t 0), none⟩,
  ⟨some 6, .mv (.t 1), none⟩,
  ⟨some 7, .callc 44 [(.t 5), (.t 6)], none⟩,
  ⟨some 4, .mv (.t 7), none⟩] env H none [] Q := w_reg
def F_strings_TrimSuffixc : ICode := (.seq (.reg F_strings_TrimSuffixr0) (.seq (.reg F_strings_TrimSuffixr1) .ret))
theorem F_strings_TrimSuffixc_W {T : Tab} {env : Env} {H : Heap} {Q : Post} : W T F_strings_TrimSuffixc env H Q ↔ W T (.seq (.reg F_strings_TrimSuffixr0) (.seq (.reg F_strings_TrimSuffixr1) .ret)) env H Q := Iff.rfl
def F_strings_TrimSuffix : IFn := ⟨8, [.tmp 4], F_strings_TrimSuffixc⟩
set_option maxRecDepth 1000000 in
theorem F_strings_TrimSuffix_chk : chkF Tryd.prog 30 F_strings_TrimSuffix = true := by kernel_rfl

/-! ### internal_stringslite_TrimSuffix -/
def F_internal_stringslite_TrimSuffixr0 : List IStmt := [
  ⟨some 4, .mv (.c (.string ⟨#[]⟩)), none⟩]
theorem F_internal_stringslite_TrimSuffixr0_W {T : Tab} {env : Env} {H : Heap} {Q : Post} : W T (.reg F_internal_stringslite_TrimSuffixr0) env H Q ↔ WR T F_internal_stringslite_TrimSuffixr0 [
  ⟨some 4, .mv (.c (.string ⟨#[]⟩)), none⟩] env H none [] Q := w_reg
def F_internal_stringslite_TrimSuffixr1 : List IStmt := [
  ⟨some 5, .mv (.t 0), none⟩,
  ⟨some 6, .mv (.t 1), none⟩,
  ⟨some 7, .callc 43 [(.t 5), (.t 6)], none⟩]
theorem F_internal_stringslite_TrimSuffixr1_W {T : Tab} {env : Env} {H : Heap} {Q : Post} : W T (.reg F_internal_stringslite_TrimSuffixr1) env H Q ↔ WR T F_internal_stringslite_TrimSuffixr1 [
  ⟨some 5, .mv (.t 0), none⟩,
  ⟨some 6, .mv (.t 1), none⟩,
  ⟨some 7, .callc 43 [(.t 5), (.t 6)], none⟩] env H none [] Q := w_reg
def F_internal_stringslite_TrimSuffixr2 : List IStmt := [
  ⟨some 8, .mv (.t 0), none⟩,
  ⟨some 9, .mv (.t 0), none⟩,
  ⟨some 10, .len 0 (.t 9), none⟩,
  ⟨some 11, .mv (.t 1), none⟩,
  ⟨some 12, .len 0 (.t 11), none⟩,
  ⟨some 13, .bin .sub (.t 10) (.t 12), none⟩,
  ⟨some 14, .sls (.t 8) none (some (.t 13)), none⟩,
  ⟨some 4, .mv (.t 14), none⟩]
theorem F_internal_stringslite_TrimSuffixr2_W {T : Tab} {env : Env} {H : Heap} {Q : Post} : W T (.reg F_internal_stringslite_TrimSuffixr2) env H Q ↔ WR T F_internal_stringslite_TrimSuffixr2 [
  ⟨some 8, .mv (.t 0), none⟩,
  ⟨some 9, .mv (.t 0), none⟩,
  ⟨some 10, .len 0 (.t 9), none⟩,
  ⟨some 11, .mv (.t 1), none⟩,
  ⟨some 12, .len 0 (.t 11), none⟩,
  ⟨some 13, .bin .sub (.t 10) (.t 12), none⟩,
  ⟨some 14, .sls (.t 8) none (some (.t 13)), none⟩,
  ⟨some 4, .mv (.t 14), none⟩] env H none [] Q := w_reg
def F_internal_stringslite_TrimSuffixr3 : List IStmt := [
  ⟨some 15, .mv (.t 0), none⟩,
  ⟨some 4, .mv (.t 15), none⟩]
theorem F_internal_stringslite_TrimSuffixr3_W {T : Tab} {env : Env} {H : Heap} {Q : Post} : W T (.reg F_internal_stringslite_TrimSuffixr3) env H Q ↔ WR T F_internal_stringslite_TrimSuffixr3 [
  ⟨some 15, .mv (.t 0), none⟩,
  ⟨some 4, .mv (.t 15), none⟩] env H none [] Q := w_reg
def F_internal_stringslite_TrimSuffixc : ICode := (.seq (.reg F_internal_stringslite_TrimSuffixr0) (.seq (.seq (.reg F_internal_stringslite_TrimSuffixr1) (.cond (.t 7) (.seq (.reg F_internal_stringslite_TrimSuffixr2) .ret) .skip)) (.seq (.reg F_internal_stringslite_TrimSuffixr3) .ret)))
theorem F_internal_stringslite_TrimSuffixc_W {T : Tab} {env : Env} {H : Heap} {Q : Post} : W T F_internal_stringslite_TrimSuffixc env H Q ↔ W T (.seq (.reg F_internal_stringslite_TrimSuffixr0) (.seq (.seq (.reg F_internal_stringslite_TrimSuffixr1) (.cond (.t 7) (.seq (.reg F_internal_stringslite_TrimSuffixr2) .ret) .skip)) (.seq (.reg F_internal_stringslite_TrimSuffixr3) .ret))) env H Q := Iff.rfl
def F_internal_stringslite_TrimSuffix : IFn := ⟨16, [.tmp 4], F_internal_stringslite_TrimSuffixc⟩
set_option maxRecDepth 1000000 in
theorem F_internal_stringslite_TrimSuffix_chk : chkF Tryd.prog 44 F_internal_stringslite_TrimSuffix = true := by kernel_rfl

/-! ### strings_CutPrefix -/
def F_strings_CutPrefixr0 : List IStmt := [
  ⟨some 4, .mv (.c (.string ⟨#[]⟩)), none⟩,
  ⟨some 5, .mv (.c (.bool false)), none⟩]
theorem F_strings_CutPrefixr0_W {T : Tab} {env : Env} {H : Heap} {Q : Post} : W T (.reg F_strings_CutPrefixr0) env H Q ↔ WR T F_strings_CutPrefixr0 [
  ⟨some 4, .mv (.c (.string ⟨#[]⟩)), none⟩,
  ⟨some 5, .mv (.c (.bool false)), none⟩] env H none [] Q := w_reg
def F_strings_CutPrefixr1 : List IStmt := [
  ⟨some 6, .mv (.t 0), none⟩,
  ⟨some 7, .mv (.t 1), none⟩,
  ⟨some 8, .callc 46 [(.t 6), (.t 7)], none⟩,
  ⟨some 9, .ext (.t 8) 0, none⟩,
  ⟨some 10, .ext (.t 8) 1, none⟩,
  ⟨some 4, .mv (.t 9), none⟩,
  ⟨some 5, .mv (.t 10), none⟩]
theorem F_strings_CutPrefixr1_W {T : Tab} {env : Env} {H : Heap} {Q : Post} : W T (.reg F_strings_CutPrefixr1) env H Q ↔ WR T F_strings_CutPrefixr1 [
  ⟨some 6, .mv (.t 0), none⟩,
  ⟨some 7, .mv (.t 1), none⟩,
  ⟨some 8, .callc 46 [(.t 6), (.t 7)], none⟩,
  ⟨some 9, .ext (.t 8) 0, none⟩,
  ⟨some 10, .ext (.t 8) 1, none⟩,
  ⟨some 4, .mv (.t 9), none⟩,
  ⟨some 5, .mv (.t 10), none⟩] env H none [] Q := w_reg
def F_strings_CutPrefixc : ICode := (.seq (.reg F_strings_CutPrefixr0) (.seq (.reg F_strings_CutPrefixr1) .ret))
theorem F_strings_CutPrefixc_W {T : Tab} {env : Env} {H : Heap} {Q : Post} : W T F_strings_CutPrefixc env H Q ↔ W T (.seq (.reg F_strings_CutPrefixr0) (.seq (.reg F_strings_CutPrefixr1) .ret)) env H Q := Iff.rfl
def F_strings_CutPrefix : IFn := ⟨11, [.tmp 4, .tmp 5], F_strings_CutPrefixc⟩
set_option maxRecDepth 1000000 in
theorem F_strings_CutPrefix_chk : chkF Tryd.prog 33 F_strings_CutPrefix = true := by kernel_rfl

/-! ### internal_stringslite_CutPrefix -/
def F_internal_stringslite_CutPrefixr0 : List IStmt := [
  ⟨some 4, .mv (.c (.string ⟨#[]⟩)), none⟩,
  ⟨some 5, .mv (.c (.bool false)), none⟩]
theorem F_internal_stringslite_CutPrefixr0_W {T : Tab} {env : Env} {H : Heap} {Q : Post} : W T (.reg F_internal_stringslite_CutPrefixr0) env H Q ↔ WR T F_internal_stringslite_CutPrefixr0 [
  ⟨some 4, .mv (.c (.string ⟨#[]⟩)), none⟩,
  ⟨some 5, .mv (.c (.bool false)), none⟩] env H none [] Q := w_reg
def F_internal_stringslite_CutPrefixr1 : List IStmt := [
  ⟨some 6, .mv (.t 0), none⟩,
  ⟨some 7, .mv (.t 1), none⟩,
  ⟨some 8, .callc 60 [(.t 6), (.t 7)], none⟩,
  ⟨some 9, .un .not (.t 8), none⟩]
theorem F_internal_stringslite_CutPrefixr1_W {T : Tab} {env : Env} {H : Heap} {Q : Post} : W T (.reg F_internal_stringslite_CutPrefixr1) env H Q ↔ WR T F_internal_stringslite_CutPrefixr1 [
  ⟨some 6, .mv (.t 0), none⟩,
  ⟨some 7, .mv (.t 1), none⟩,
  ⟨some 8, .callc 60 [(.t 6), (.t 7)], none⟩,
  ⟨some 9, .un .not (.t 8), none⟩] env H none [] Q := w_reg
def F_internal_stringslite_CutPrefixr2 : List IStmt := [
  ⟨some 10, .mv (.t 0), none⟩,
  ⟨some 4, .mv (.t 10), none⟩,
  ⟨some 5, .mv (.c (.bool false)), none⟩]
theorem F_internal_stringslite_CutPrefixr2_W {T : Tab} {env : Env} {H : Heap} {Q : Post} : W T (.reg F_internal_stringslite_CutPrefixr2) env H Q ↔ WR T F_internal_stringslite_CutPrefixr2 [
  ⟨some 10, .mv (.t 0), none⟩,
  ⟨some 4, .mv (.t 10), none⟩,
  ⟨some 5, .mv (.c (.bool false)), none⟩] env H none [] Q := w_reg
def F_internal_stringslite_CutPrefixr3 : List IStmt := [
  ⟨some 11, .mv (.t 0), none⟩,
  ⟨some 12, .mv (.t 1), none⟩,
  ⟨some 13, .len 0 (.t 12), none⟩,
  ⟨some 14, .sls (.t 11) (some (.t 13)) none, none⟩,
  ⟨some 4, .mv (.t 14), none⟩,
  ⟨some 5, .mv (.c (.bool true)), none⟩]
theorem F_internal_stringslite_CutPrefixr3_W {T : Tab} {env : Env} {H : Heap} {Q : Post} : W T (.reg F_internal_stringslite_CutPrefixr3) env H Q ↔ WR T F_internal_stringslite_CutPrefixr3 [
  ⟨some 11, .mv (.t 0), none⟩,
  ⟨some 12, .mv (.t 1), none⟩,
  ⟨some 13, .len 0 (.t 12), none⟩,
  ⟨some 14, .sls (.t 11) (some (.t 13)) none, none⟩,
  ⟨some 4, .mv (.t 14), none⟩,
  ⟨some 5, .mv (.c (.bool true)), none⟩] env H none [] Q := w_reg
def F_internal_stringslite_CutPrefixc : ICode := (.seq (.reg F_internal_stringslite_CutPrefixr0) (.seq (.seq (.reg F_internal_stringslite_CutPrefixr1) (.cond (.t 9) (.seq (.reg F_internal_stringslite_CutPrefixr2) .ret) .skip)) (.seq (.reg F_internal_stringslite_CutPrefixr3) .ret)))
theorem F_internal_stringslite_CutPrefixc_W {T : Tab} {env : Env} {H : Heap} {Q : Post} : W T F_internal_stringslite_CutPrefixc env H Q ↔ W T (.seq (.reg F_internal_stringslite_CutPrefixr0) (.seq (.seq (.reg F_internal_stringslite_CutPrefixr1) (.cond (.t 9) (.seq (.reg F_internal_stringslite_CutPrefixr2) .ret) .skip)) (.seq (.reg F_internal_stringslite_CutPrefixr3) .ret))) env H Q := Iff.rfl
def F_internal_stringslite_CutPrefix : IFn := ⟨15, [.tmp 4, .tmp 5], F_internal_stringslite_CutPrefixc⟩
set_option maxRecDepth 1000000 in
theorem F_internal_stringslite_CutPrefix_chk : chkF Tryd.prog 46 F_internal_stringslite_CutPrefix = true := by kernel_rfl

/-! ### strings_CutSuffix -/
def F_strings_CutSuffixr0 : List IStmt := [
  ⟨some 4, .mv (.c (.string ⟨#[]⟩)), none⟩,
  ⟨some 5, .mv (.c (.bool false)), none⟩]
theorem F_strings_CutSuffixr0_W {T : Tab} {env : Env} {H : Heap} {Q : Post} : W T (.reg F_strings_CutSuffixr0) env H Q ↔ WR T F_strings_CutSuffixr0 [
  ⟨some 4, .mv (.c (.string ⟨#[]⟩)), none⟩,
  ⟨some 5, .mv (.c (.bool false)), none⟩] env H none [] Q := w_reg
def F_strings_CutSuffixr1 : List IStmt := [
  ⟨some 6, .mv (.t 0), none⟩,
  ⟨some 7, .mv (.t 1), none⟩,
  ⟨some 8, .callc 59 [(.t 6), (.t 7)], none⟩,
  ⟨some 9, .ext (.t 8) 0, none⟩,
  ⟨some 10, .ext (.t 8) 1, none⟩,
  ⟨some 4, .mv (.t 9), none⟩,
  ⟨some 5, .mv (.t 10), none⟩]
theorem F_strings_CutSuffixr1_W {T : Tab} {env : Env} {H : Heap} {Q : Post} : W T (.reg F_strings_CutSuffixr1) env H Q ↔ WR T F_strings_CutSuffixr1 [
  ⟨some 6, .mv (.t 0), none⟩,
  ⟨some 7, .mv (.t 1), none⟩,
  ⟨some 8, .callc 59 [(.t 6), (.t 7)], none⟩,
  ⟨some 9, .ext (.t 8) 0, none⟩,
  ⟨some 10, .ext (.t 8) 1, none⟩,
  ⟨some 4, .mv (.t 9), none⟩,
  ⟨some 5, .mv (.t 10), none⟩] env H none [] Q := w_reg
def F_strings_CutSuffixc : ICode := (.seq (.reg F_strings_CutSuffixr0) (.seq (.reg F_strings_CutSuffixr1) .ret))
theorem F_strings_CutSuffixc_W {T : Tab} {env : Env} {H : Heap} {Q : Post} : W T F_strings_CutSuffixc env H Q ↔ W T (.seq (.reg F_strings_CutSuffixr0) (.seq (.reg F_strings_CutSuffixr1) .ret)) env H Q := Iff.rfl
def F_strings_CutSuffix : IFn := ⟨11, [.tmp 4, .tmp 5], F_strings_CutSuffixc⟩
set_option maxRecDepth 1000000 in
theorem F_strings_CutSuffix_chk : chkF Tryd.prog 42 F_strings_CutSuffix = true := by kernel_rfl

/-! ### internal_stringslite_CutSuffix -/
def F_internal_stringslite_CutSuffixr0 : List IStmt := [
  ⟨some 4, .mv (.c (.string ⟨#[]⟩)), none⟩,
  ⟨some 5, .mv (.c (.bool false)), none⟩]
theorem F_internal_stringslite_CutSuffixr0_W {T : Tab} {env : Env} {H : Heap} {Q : Post} : W T (.reg F_internal_stringslite_CutSuffixr0) env H Q ↔ WR T F_internal_stringslite_CutSuffixr0 [
  ⟨some 4, .mv (.c (.string ⟨#[]⟩)), none⟩,
  ⟨some 5, .mv (.c (.bool false)), none⟩] env H none [] Q := w_reg
def F_internal_stringslite_CutSuffixr1 : List IStmt := [
  ⟨some 6, .mv (.t 0), none⟩,
  ⟨some 7, .mv (.t 1), none⟩,
  ⟨some 8, .callc 43 [(.t 6), (.t 7)], none⟩,
  ⟨some 9, .un .not (.t 8), none⟩]
theorem F_internal_stringslite_CutSuffixr1_W {T : Tab} {env : Env} {H : Heap} {Q : Post} : W T (.reg F_internal_stringslite_CutSuffixr1) env H Q ↔ WR T F_internal_stringslite_CutSuffixr1 [
  ⟨some 6, .mv (.t 0), none⟩,
  ⟨some 7, .mv (.t 1), none⟩,
  ⟨some 8, .callc 43 [(.t 6), (.t 7)], none⟩,
  ⟨some 9, .un .not (.t 8), none⟩] env H none [] Q := w_reg
def F_internal_stringslite_CutSuffixr2 : List IStmt := [
  ⟨some 10, .mv (.t 0), none⟩,
  ⟨some 4, .mv (.t 10), none⟩,
  ⟨some 5, .mv (.c (.bool false)), none⟩]
theorem F_internal_stringslite_CutSuffixr2_W {T : Tab} {env : Env} {H : Heap} {Q : Post} : W T (.reg F_internal_stringslite_CutSuffixr2) env H Q ↔ WR T F_internal_stringslite_CutSuffixr2 [
  ⟨some 10, .mv (.t 0), none⟩,
  ⟨some 4, .mv (.t 10), none⟩,
  ⟨some 5, .mv (.c (.bool false)), none⟩] env H none [] Q := w_reg
def F_internal_stringslite_CutSuffixr3 : List IStmt := [
  ⟨some 11, .mv (.t 0), none⟩,
  ⟨some 12, .mv (.t 0), none⟩,
  ⟨some 13, .len 0 (.t 12), none⟩,
  ⟨some 14, .mv (.t 1), none⟩,
  ⟨some 15, .len 0 (.t 14), none⟩,
  ⟨some 16, .bin .sub (.t 13) (.t 15), none⟩,
  ⟨some 17, .sls (.t 11) none (some (.t 16)), none⟩,
  ⟨some 4, .mv (.t 17), none⟩,
  ⟨some 5, .mv (.c (.bool true)), none⟩]
theorem F_internal_stringslite_CutSuffixr3_W {T : Tab} {env : Env} {H : Heap} {Q : Post} : W T (.reg F_internal_stringslite_CutSuffixr3) env H Q ↔ WR T F_internal_stringslite_CutSuffixr3 [
  ⟨some 11, .mv (.t 0), none⟩,
  ⟨some 12, .mv (.t 0), none⟩,
  ⟨some 13, .len 0 (.t 12), none⟩,
  ⟨some 14, .mv (.t 1), none⟩,
  ⟨some 15, .len 0 (.t 14), none⟩,
  ⟨some 16, .bin .sub (.t 13) (.t 15), none⟩,
  ⟨some 17, .sls (.t 11) none (some (.t 16)), none⟩,
  ⟨some 4, .mv (.t 17), none⟩,
  ⟨some 5, .mv (.c (.bool true)), none⟩] env H none [] Q := w_reg
def F_internal_stringslite_CutSuffixc : ICode := (.seq (.reg F_internal_stringslite_CutSuffixr0) (.seq (.seq (.reg F_internal_stringslite_CutSuffixr1) (.cond (.t 9) (.seq (.reg F_internal_stringslite_CutSuffixr2) .ret) .skip)) (.seq (.reg F_internal_stringslite_CutSuffixr3) .ret)))
theorem F_internal_stringslite_CutSuffixc_W {T : Tab} {env : Env} {H : Heap} {Q : Post} : W T F_internal_stringslite_CutSuffixc env H Q ↔ W T (.seq (.reg F_internal_stringslite_CutSuffixr0) (.seq (.seq (.reg F_internal_stringslite_CutSuffixr1) (.cond (.t 9) (.seq (.reg F_internal_stringslite_CutSuffixr2) .ret) .skip)) (.seq (.reg F_internal_stringslite_CutSuffixr3) .ret))) env H Q := Iff.rfl
def F_internal_stringslite_CutSuffix : IFn := ⟨18, [.tmp 4, .tmp 5], F_internal_stringslite_CutSuffixc⟩
set_option maxRecDepth 1000000 in
theorem F_internal_stringslite_CutSuffix_chk : chkF Tryd.prog 59 F_internal_stringslite_CutSuffix = true := by kernel_rfl

/-! ### strings_HasPrefix -/
def F_strings_HasPrefixr0 : List IStmt := [
  ⟨some 4, .mv (.c (.bool false)), none⟩]
theorem F_strings_HasPrefixr0_W {T : Tab} {env : Env} {H : Heap} {Q : Post} : W T (.reg F_strings_HasPrefixr0) env H Q ↔ WR T F_strings_HasPrefixr0 [
  ⟨some 4, .mv (.c (.bool false)), none⟩] env H none [] Q := w_reg
def F_strings_HasPrefixr1 : List IStmt := [
  ⟨some 5, .mv (.t 0), none⟩,
  ⟨some 6, .mv (.t 1), none⟩,
  ⟨some 7, .callc 60 [(.t 5), (.t 6)], none⟩,
  ⟨some 4, .mv (.t 7), none⟩]
theorem F_strings_HasPrefixr1_W {T : Tab} {env : Env} {H : Heap} {Q : Post} : W T (.reg F_strings_HasPrefixr1) env H Q ↔ WR T F_strings_HasPrefixr1 [
  ⟨some 5, .mv (.t 0), none⟩,
  ⟨some 6, .mv (.t 1), none⟩,
  ⟨some 7, .callc 60 [(.t 5), (.t 6)], none⟩,
  ⟨some 4, .mv (.t 7), none⟩] env H none [] Q := w_reg
def F_strings_HasPrefixc : ICode := (.seq (.reg F_strings_HasPrefixr0) (.seq (.reg F_strings_HasPrefixr1) .ret))
theorem F_strings_HasPrefixc_W {T : Tab} {env : Env} {H : Heap} {Q : Post} : W T F_strings_HasPrefixc env H Q ↔ W T (.seq (.reg F_strings_HasPrefixr0) (.seq (.reg F_strings_HasPrefixr1) .ret)) env H Q := Iff.rfl
def F_strings_HasPrefix : IFn := ⟨8, [.tmp 4], F_strings_HasPrefixc⟩
set_option maxRecDepth 1000000 in
theorem F_strings_HasPrefix_chk : chkF Tryd.prog 50 F_strings_HasPrefix = true := by kernel_rfl

/-! ### internal_stringslite_HasPrefix -/
def F_internal_stringslite_HasPrefixr0 : List IStmt := [
  ⟨some 4, .mv (.c (.bool false)), none⟩]
theorem F_internal_stringslite_HasPrefixr0_W {T : Tab} {env : Env} {H : Heap} {Q : Post} : W T (.reg F_internal_stringslite_HasPrefixr0) env H Q ↔ WR T F_internal_stringslite_HasPrefixr0 [
  ⟨some 4, .mv (.c (.bool false)), none⟩] env H none [] Q := w_reg
def F_internal_stringslite_HasPrefixr1 : List IStmt := [
  ⟨some 5, .mv (.t 0), none⟩,
  ⟨some 6, .len 0 (.t 5), none⟩,
  ⟨some 7, .mv (.t 1), none⟩,
  ⟨some 8, .len 0 (.t 7), none⟩,
  ⟨some 9, .bin .geq (.t 6) (.t 8), none⟩,
  ⟨some 10, .mv (.t 9), none⟩,
  ⟨some 11, .mv (.t 0), some (5, true)⟩,
  ⟨some 12, .mv (.t 1), some (5, true)⟩,
  ⟨some 13, .len 0 (.t 12), some (5, true)⟩,
  ⟨some 14, .sls (.t 11) none (some (.t 13)), some (5, true)⟩,
  ⟨some 15, .mv (.t 1), some (5, true)⟩,
  ⟨some 16, .bin .eql (.t 14) (.t 15), some (5, true)⟩,
  ⟨some 17, .pick (.t 10) (.t 16) (.c (.bool false)), none⟩,
  ⟨some 4, .mv (.t 17), none⟩]
theorem F_internal_stringslite_HasPrefixr1_W {T : Tab} {env : Env} {H : Heap} {Q : Post} : W T (.reg F_internal_stringslite_HasPrefixr1) env H Q ↔ WR T F_internal_stringslite_HasPrefixr1 [
  ⟨some 5, .mv (.t 0), none⟩,
  ⟨some 6, .len 0 (.t 5), none⟩,
  ⟨some 7, .mv (.t 1), none⟩,
  ⟨some 8, .len 0 (.t 7), none⟩,
  ⟨some 9, .bin .geq (.t 6) (.t 8), none⟩,
  ⟨some 10, .mv (.t 9), none⟩,
  ⟨some 11, .mv (.t 0), some (5, true)⟩,
  ⟨some 12, .mv (.t 1), some (5, true)⟩,
  ⟨some 13, .len 0 (.t 12), some (5, true)⟩,
  ⟨some 14, .sls (.t 11) none (some (.t 13)), some (5, true)⟩,
  ⟨some 15, .mv (.t 1), some (5, true)⟩,
  ⟨some 16, .bin .eql (.t 14) (.t 15), some (5, true)⟩,
  ⟨some 17, .pick (.t 10) (.t 16) (.c (.bool false)), none⟩,
  ⟨some 4, .mv (.t 17), none⟩] env H none [] Q := w_reg
theorem F_internal_stringslite_HasPrefixr1_g5 {env : Env} : yieldI F_internal_stringslite_HasPrefixr1 env 5 = bOf (env 10) := rfl
def F_internal_stringslite_HasPrefixc : ICode := (.seq (.reg F_internal_stringslite_HasPrefixr0) (.seq (.reg F_internal_stringslite_HasPrefixr1) .ret))
theorem F_internal_stringslite_HasPrefixc_W {T : Tab} {env : Env} {H : Heap} {Q : Post} : W T F_internal_stringslite_HasPrefixc env H Q ↔ W T (.seq (.reg F_internal_stringslite_HasPrefixr0) (.seq (.reg F_internal_stringslite_HasPrefixr1) .ret)) env H Q := Iff.rfl
def F_internal_stringslite_HasPrefix : IFn := ⟨18, [.tmp 4], F_internal_stringslite_HasPrefixc⟩
set_option maxRecDepth 1000000 in
theorem F_internal_stringslite_HasPrefix_chk : chkF Tryd.prog 60 F_internal_stringslite_HasPrefix = true := by kernel_rfl

/-! ### law18_alive -/
def F_law18_aliver0 : List IStmt := [
  ⟨some 0, .mv (.c (.bool false)), none⟩]
theorem F_law18_aliver0_W {T : Tab} {env : Env} {H : Heap} {Q : Post} : W T (.reg F_law18_aliver0) env H Q ↔ WR T F_law18_aliver0 [
  ⟨some 0, .mv (.c (.bool false)), none⟩] env H none [] Q := w_reg
def F_law18_aliver1 : List IStmt := [
  ⟨some 12, .callc 8 [(.c (.string ⟨#[100, 105, 114, 46, 97, 32, 61, 32, 47, 115, 121, 115, 116, 101, 109, 10, 91, 97, 93, 10, 120, 32, 61, 32, 49, 32, 35, 32, 111, 110, 101, 10, 120, 32, 43, 61, 32, 50, 10]⟩))], none⟩,
  ⟨some 11, .mv (.t 12), none⟩,
  ⟨some 13, .ext (.t 11) 0, none⟩,
  ⟨some 14, .ext (.t 11) 1, none⟩,
  ⟨some 15, .ext (.t 11) 2, none⟩,
  ⟨some 1, .alloc 2 [.slice none 0 0, .slice none 0 0], none⟩,
  ⟨none, .store 2 (.t 1) (.t 13), none⟩,
  ⟨some 2, .mv (.t 14), none⟩,
  ⟨some 3, .mv (.t 15), none⟩]
theorem F_law18_aliver1_W {T : Tab} {env : Env} {H : Heap} {Q : Post} : W T (.reg F_law18_aliver1) env H Q ↔ WR T F_law18_aliver1 [
  ⟨some 12, .callc 8 [(.c (.string ⟨#[100, 105, 114, 46, 97, 32, 61, 32, 47, 115, 121, 115, 116, 101, 109, 10, 91, 97, 93, 10, 120, 32, 61, 32, 49, 32, 35, 32, 111, 110, 101, 10, 120, 32, 43, 61, 32, 50, 10]⟩))], none⟩,
  ⟨some 11, .mv (.t 12), none⟩,
  ⟨some 13, .ext (.t 11) 0, none⟩,
  ⟨some 14, .ext (.t 11) 1, none⟩,
  ⟨some 15, .ext (.t 11) 2, none⟩,
  ⟨some 1, .alloc 2 [.slice none 0 0, .slice none 0 0], none⟩,
  ⟨none, .store 2 (.t 1) (.t 13), none⟩,
  ⟨some 2, .mv (.t 14), none⟩,
  ⟨some 3, .mv (.t 15), none⟩] env H none [] Q := w_reg
def F_law18_aliver2 : List IStmt := [
  ⟨some 17, .loadN 2 (.t 1), none⟩,
  ⟨some 18, .callc 19 [(.t 17), (.c (.string ⟨#[47, 115, 121, 115, 116, 101, 109, 47, 98, 105, 110, 47, 97, 112, 112]⟩))], none⟩,
  ⟨some 16, .mv (.t 18), none⟩,
  ⟨some 19, .ext (.t 16) 0, none⟩,
  ⟨some 20, .ext (.t 16) 1, none⟩,
  ⟨some 4, .alloc 2 [.string ⟨#[]⟩, .slice none 0 0], none⟩,
  ⟨none, .store 2 (.t 4) (.t 19), none⟩,
  ⟨some 5, .mv (.t 20), none⟩]
theorem F_law18_aliver2_W {T : Tab} {env : Env} {H : Heap} {Q : Post} : W T (.reg F_law18_aliver2) env H Q ↔ WR T F_law18_aliver2 [
  ⟨some 17, .loadN 2 (.t 1), none⟩,
  ⟨some 18, .callc 19 [(.t 17), (.c (.string ⟨#[47, 115, 121, 115, 116, 101, 109, 47, 98, 105, 110, 47, 97, 112, 112]⟩))], none⟩,
  ⟨some 16, .mv (.t 18), none⟩,
  ⟨some 19, .ext (.t 16) 0, none⟩,
  ⟨some 20, .ext (.t 16) 1, none⟩,
  ⟨some 4, .alloc 2 [.string ⟨#[]⟩, .slice none 0 0], none⟩,
  ⟨none, .store 2 (.t 4) (.t 19), none⟩,
  ⟨some 5, .mv (.t 20), none⟩] env H none [] Q := w_reg
def F_law18_aliver3 : List IStmt := [
  ⟨some 22, .loadN 2 (.t 4), none⟩,
  ⟨some 23, .callc 10 [(.t 22), (.c (.string ⟨#[120]⟩))], none⟩,
  ⟨some 21, .mv (.t 23), none⟩,
  ⟨some 24, .ext (.t 21) 0, none⟩,
  ⟨some 25, .ext (.t 21) 1, none⟩,
  ⟨some 6, .mv (.t 24), none⟩,
  ⟨some 7, .mv (.t 25), none⟩]
theorem F_law18_aliver3_W {T : Tab} {env : Env} {H : Heap} {Q : Post} : W T (.reg F_law18_aliver3) env H Q ↔ WR T F_law18_aliver3 [
  ⟨some 22, .loadN 2 (.t 4), none⟩,
  ⟨some 23, .callc 10 [(.t 22), (.c (.string ⟨#[120]⟩))], none⟩,
  ⟨some 21, .mv (.t 23), none⟩,
  ⟨some 24, .ext (.t 21) 0, none⟩,
  ⟨some 25, .ext (.t 21) 1, none⟩,
  ⟨some 6, .mv (.t 24), none⟩,
  ⟨some 7, .mv (.t 25), none⟩] env H none [] Q := w_reg
def F_law18_aliver4 : List IStmt := [
  ⟨some 27, .callc 8 [(.c (.string ⟨#[10, 120]⟩))], none⟩,
  ⟨some 26, .mv (.t 27), none⟩,
  ⟨some 28, .ext (.t 26) 0, none⟩,
  ⟨some 29, .ext (.t 26) 1, none⟩,
  ⟨some 30, .ext (.t 26) 2, none⟩,
  ⟨some 8, .alloc 2 [.slice none 0 0, .slice none 0 0], none⟩,
  ⟨none, .store 2 (.t 8) (.t 28), none⟩,
  ⟨some 9, .mv (.t 29), none⟩,
  ⟨some 10, .mv (.t 30), none⟩]
theorem F_law18_aliver4_W {T : Tab} {env : Env} {H : Heap} {Q : Post} : W T (.reg F_law18_aliver4) env H Q ↔ WR T F_law18_aliver4 [
  ⟨some 27, .callc 8 [(.c (.string ⟨#[10, 120]⟩))], none⟩,
  ⟨some 26, .mv (.t 27), none⟩,
  ⟨some 28, .ext (.t 26) 0, none⟩,
  ⟨some 29, .ext (.t 26) 1, none⟩,
  ⟨some 30, .ext (.t 26) 2, none⟩,
  ⟨some 8, .alloc 2 [.slice none 0 0, .slice none 0 0], none⟩,
  ⟨none, .store 2 (.t 8) (.t 28), none⟩,
  ⟨some 9, .mv (.t 29), none⟩,
  ⟨some 10, .mv (.t 30), none⟩] env H none [] Q := w_reg
def F_law18_aliver5 : List IStmt := [
  ⟨some 31, .mv (.t 3), none⟩,
  ⟨some 32, .bin .eql (.t 31) (.c (.int .i64 0)), none⟩,
  ⟨some 33, .mv (.t 32), none⟩,
  ⟨some 34, .mv (.t 2), some (2, true)⟩,
  ⟨some 35, .bin .eql (.t 34) (.c (.int .i64 0)), some (2, true)⟩,
  ⟨some 36, .pick (.t 33) (.t 35) (.c (.bool false)), none⟩,
  ⟨some 37, .mv (.t 36), none⟩,
  ⟨some 38, .mv (.t 5), some (6, true)⟩,
  ⟨some 39, .bin .eql (.t 38) (.c (.int .i64 0)), some (6, true)⟩,
  ⟨some 40, .pick (.t 37) (.t 39) (.c (.bool false)), none⟩,
  ⟨some 41, .mv (.t 40), none⟩,
  ⟨some 42, .fa 0 (.t 4), some (10, true)⟩,
  ⟨some 43, .load (.t 42), some (10, true)⟩,
  ⟨some 44, .bin .eql (.t 43) (.c (.string ⟨#[97]⟩)), some (10, true)⟩,
  ⟨some 45, .pick (.t 41) (.t 44) (.c (.bool false)), none⟩,
  ⟨some 46, .mv (.t 45), none⟩,
  ⟨some 47, .mv (.t 7), some (15, true)⟩,
  ⟨some 48, .pick (.t 46) (.t 47) (.c (.bool false)), none⟩,
  ⟨some 49, .mv (.t 48), none⟩,
  ⟨some 50, .mv (.t 6), some (18, true)⟩,
  ⟨some 51, .bin .eql (.t 50) (.c (.string ⟨#[49, 58, 50]⟩)), some (18, true)⟩,
  ⟨some 52, .pick (.t 49) (.t 51) (.c (.bool false)), none⟩,
  ⟨some 53, .mv (.t 52), none⟩,
  ⟨some 54, .mv (.t 10), some (22, true)⟩,
  ⟨some 55, .bin .eql (.t 54) (.c (.int .i64 180)), some (22, true)⟩,
  ⟨some 56, .pick (.t 53) (.t 55) (.c (.bool false)), none⟩,
  ⟨some 57, .mv (.t 56), none⟩,
  ⟨some 58, .mv (.t 9), some (26, true)⟩,
  ⟨some 59, .bin .eql (.t 58) (.c (.int .i64 2)), some (26, true)⟩,
  ⟨some 60, .pick (.t 57) (.t 59) (.c (.bool false)), none⟩,
  ⟨some 0, .mv (.t 60), none⟩]
theorem F_law18_aliver5_W {T : Tab} {env : Env} {H : Heap} {Q : Post} : W T (.reg F_law18_aliver5) env H Q ↔ WR T F_law18_aliver5 [
  ⟨some 31, .mv (.t 3), none⟩,
  ⟨some 32, .bin .eql (.t 31) (.c (.int .i64 0)), none⟩,
  ⟨some 33, .mv (.t 32), none⟩,
  ⟨some 34, .mv (.t 2), some (2, true)⟩,
  ⟨some 35, .bin .eql (.t 34) (.c (.int .i64 0)), some (2, true)⟩,
  ⟨some 36, .pick (.t 33) (.t 35) (.c (.bool false)), none⟩,
  ⟨some 37, .mv (.t 36), none⟩,
  ⟨some 38, .mv (.t 5), some (6, true)⟩,
  ⟨some 39, .bin .eql (.t 38) (.c (.int .i64 0)), some (6, true)⟩,
  ⟨some 40, .pick (.t 37) (.t 39) (.c (.bool false)), none⟩,
  ⟨some 41, .mv (.t 40), none⟩,
  ⟨some 42, .fa 0 (.t 4), some (10, true)⟩,
  ⟨some 43, .load (.t 42), some (10, true)⟩,
  ⟨some 44, .bin .eql (.t 43) (.c (.string ⟨#[97]⟩)), some (10, true)⟩,
  ⟨some 45, .pick (.t 41) (.t 44) (.c (.bool false)), none⟩,
  ⟨some 46, .mv (.t 45), none⟩,
  ⟨some 47, .mv (.t 7), some (15, true)⟩,
  ⟨some 48, .pick (.t 46) (.t 47) (.c (.bool false)), none⟩,
  ⟨some 49, .mv (.t 48), none⟩,
  ⟨some 50, .mv (.t 6), some (18, true)⟩,
  ⟨some 51, .bin .eql (.t 50) (.c (.string ⟨#[49, 58, 50]⟩)), some (18, true)⟩,
  ⟨some 52, .pick (.t 49) (.t 51) (.c (.bool false)), none⟩,
  ⟨some 53, .mv (.t 52), none⟩,
  ⟨some 54, .mv (.t 10), some (22, true)⟩,
  ⟨some 55, .bin .eql (.t 54) (.c (.int .i64 180)), some (22, true)⟩,
  ⟨some 56, .pick (.t 53) (.t 55) (.c (.bool false)), none⟩,
  ⟨some 57, .mv (.t 56), none⟩,
  ⟨some 58, .mv (.t 9), some (26, true)⟩,
  ⟨some 59, .bin .eql (.t 58) (.c (.int .i64 2)), some (26, true)⟩,
  ⟨some 60, .pick (.t 57) (.t 59) (.c (.bool false)), none⟩,
  ⟨some 0, .mv (.t 60), none⟩] env H none [] Q := w_reg
theorem F_law18_aliver5_g2 {env : Env} : yieldI F_law18_aliver5 env 2 = bOf (env 33) := rfl
theorem F_law18_aliver5_g6 {env : Env} : yieldI F_law18_aliver5 env 6 = bOf (env 37) := rfl
theorem F_law18_aliver5_g10 {env : Env} : yieldI F_law18_aliver5 env 10 = bOf (env 41) := rfl
theorem F_law18_aliver5_g15 {env : Env} : yieldI F_law18_aliver5 env 15 = bOf (env 46) := rfl
theorem F_law18_aliver5_g18 {env : Env} : yieldI F_law18_aliver5 env 18 = bOf (env 49) := rfl
theorem F_law18_aliver5_g22 {env : Env} : yieldI F_law18_aliver5 env 22 = bOf (env 53) := rfl
theorem F_law18_aliver5_g26 {env : Env} : yieldI F_law18_aliver5 env 26 = bOf (env 57) := rfl
def F_law18_alivec : ICode := (.seq (.reg F_law18_aliver0) (.seq (.reg F_law18_aliver1) (.seq (.reg F_law18_aliver2) (.seq (.reg F_law18_aliver3) (.seq (.reg F_law18_aliver4) (.seq (.reg F_law18_aliver5) .ret))))))
theorem F_law18_alivec_W {T : Tab} {env : Env} {H : Heap} {Q : Post} : W T F_law18_alivec env H Q ↔ W T (.seq (.reg F_law18_aliver0) (.seq (.reg F_law18_aliver1) (.seq (.reg F_law18_aliver2) (.seq (.reg F_law18_aliver3) (.seq (.reg F_law18_aliver4) (.seq (.reg F_law18_aliver5) .ret)))))) env H Q := Iff.rfl
def F_law18_alive : IFn := ⟨61, [.tmp 0], F_law18_alivec⟩
set_option maxRecDepth 1000000 in
theorem F_law18_alive_chk : chkF Tryd.prog 9 F_law18_alive = true := by kernel_rfl

/-! ### law18_ConfLast -/
def F_law18_ConfLastr0 : List IStmt := [
  ⟨some 1, .box 4 (.t 0), none⟩,
  ⟨some 2, .mv (.c (.bool false)), none⟩]
theorem F_law18_ConfLastr0_W {T : Tab} {env : Env} {H : Heap} {Q : Post} : W T (.reg F_law18_ConfLastr0) env H Q ↔ WR T F_law18_ConfLastr0 [
  ⟨some 1, .box 4 (.t 0), none⟩,
  ⟨some 2, .mv (.c (.bool false)), none⟩] env H none [] Q := w_reg
def F_law18_ConfLastr1 : List IStmt := [
  ⟨some 25, .fa 0 (.t 1), none⟩,
  ⟨some 26, .load (.t 25), none⟩,
  ⟨some 27, .fa 1 (.t 1), none⟩,
  ⟨some 28, .load (.t 27), none⟩,
  ⟨some 29, .fa 2 (.t 1), none⟩,
  ⟨some 30, .load (.t 29), none⟩,
  ⟨some 31, .fa 3 (.t 1), none⟩,
  ⟨some 32, .load (.t 31), none⟩,
  ⟨some 3, .mv (.t 26), none⟩,
  ⟨some 4, .mv (.t 28), none⟩,
  ⟨some 5, .mv (.t 30), none⟩,
  ⟨some 6, .mv (.t 32), none⟩]
theorem F_law18_ConfLastr1_W {T : Tab} {env : Env} {H : Heap} {Q : Post} : W T (.dreg F_law18_ConfLastr1 []) env H Q ↔ WR T F_law18_ConfLastr1 [
  ⟨some 25, .fa 0 (.t 1), none⟩,
  ⟨some 26, .load (.t 25), none⟩,
  ⟨some 27, .fa 1 (.t 1), none⟩,
  ⟨some 28, .load (.t 27), none⟩,
  ⟨some 29, .fa 2 (.t 1), none⟩,
  ⟨some 30, .load (.t 29), none⟩,
  ⟨some 31, .fa 3 (.t 1), none⟩,
  ⟨some 32, .load (.t 31), none⟩,
  ⟨some 3, .mv (.t 26), none⟩,
  ⟨some 4, .mv (.t 28), none⟩,
  ⟨some 5, .mv (.t 30), none⟩,
  ⟨some 6, .mv (.t 32), none⟩] env H none [] Q := w_dreg0
def F_law18_ConfLastr2 : List IStmt := [
  ⟨some 33, .mv (.t 3), none⟩,
  ⟨some 34, .len 0 (.t 33), none⟩,
  ⟨some 35, .bin .gtr (.t 34) (.c (.int .i64 8000)), none⟩,
  ⟨some 36, .mv (.t 35), none⟩,
  ⟨some 37, .mv (.t 4), some (3, false)⟩,
  ⟨some 38, .len 0 (.t 37), some (3, false)⟩,
  ⟨some 39, .bin .gtr (.t 38) (.c (.int .i64 100)), some (3, false)⟩,
  ⟨some 40, .pick (.t 36) (.c (.bool true)) (.t 39), none⟩,
  ⟨some 41, .mv (.t 40), none⟩,
  ⟨some 42, .mv (.t 5), some (8, false)⟩,
  ⟨some 43, .len 0 (.t 42), some (8, false)⟩,
  ⟨some 44, .bin .gtr (.t 43) (.c (.int .i64 1000)), some (8, false)⟩,
  ⟨some 45, .pick (.t 41) (.c (.bool true)) (.t 44), none⟩,
  ⟨some 46, .mv (.t 45), none⟩,
  ⟨some 47, .mv (.t 4), some (13, false)⟩,
  ⟨some 48, .callc 6 [(.t 47)], some (13, false)⟩,
  ⟨some 49, .un .not (.t 48), some (13, false)⟩,
  ⟨some 50, .pick (.t 46) (.c (.bool true)) (.t 49), none⟩,
  ⟨some 51, .mv (.t 50), none⟩,
  ⟨some 52, .mv (.t 4), some (18, false)⟩,
  ⟨some 53, .callc 7 [(.t 52), (.c (.string ⟨#[46, 108, 105, 110, 107, 115]⟩))], some (18, false)⟩,
  ⟨some 54, .pick (.t 51) (.c (.bool true)) (.t 53), none⟩,
  ⟨some 55, .mv (.t 54), none⟩,
  ⟨some 56, .mv (.t 4), some (22, false)⟩,
  ⟨some 57, .bin .eql (.t 56) (.c (.string ⟨#[97, 100, 100, 105, 116, 105, 111, 110, 97, 108, 46, 110, 97, 109, 101, 115, 112, 97, 99, 101, 115]⟩)), some (22, false)⟩,
  ⟨some 58, .pick (.t 55) (.c (.bool true)) (.t 57), none⟩]
theorem F_law18_ConfLastr2_W {T : Tab} {env : Env} {H : Heap} {Q : Post} : W T (.reg F_law18_ConfLastr2) env H Q ↔ WR T F_law18_ConfLastr2 [
  ⟨some 33, .mv (.t 3), none⟩,
  ⟨some 34, .len 0 (.t 33), none⟩,
  ⟨some 35, .bin .gtr (.t 34) (.c (.int .i64 8000)), none⟩,
  ⟨some 36, .mv (.t 35), none⟩,
  ⟨some 37, .mv (.t 4), some (3, false)⟩,
  ⟨some 38, .len 0 (.t 37), some (3, false)⟩,
  ⟨some 39, .bin .gtr (.t 38) (.c (.int .i64 100)), some (3, false)⟩,
  ⟨some 40, .pick (.t 36) (.c (.bool true)) (.t 39), none⟩,
  ⟨some 41, .mv (.t 40), none⟩,
  ⟨some 42, .mv (.t 5), some (8, false)⟩,
  ⟨some 43, .len 0 (.t 42), some (8, false)⟩,
  ⟨some 44, .bin .gtr (.t 43) (.c (.int .i64 1000)), some (8, false)⟩,
  ⟨some 45, .pick (.t 41) (.c (.bool true)) (.t 44), none⟩,
  ⟨some 46, .mv (.t 45), none⟩,
  ⟨some 47, .mv (.t 4), some (13, false)⟩,
  ⟨some 48, .callc 6 [(.t 47)], some (13, false)⟩,
  ⟨some 49, .un .not (.t 48), some (13, false)⟩,
  ⟨some 50, .pick (.t 46) (.c (.bool true)) (.t 49), none⟩,
  ⟨some 51, .mv (.t 50), none⟩,
  ⟨some 52, .mv (.t 4), some (18, false)⟩,
  ⟨some 53, .callc 7 [(.t 52), (.c (.string ⟨#[46, 108, 105, 110, 107, 115]⟩))], some (18, false)⟩,
  ⟨some 54, .pick (.t 51) (.c (.bool true)) (.t 53), none⟩,
  ⟨some 55, .mv (.t 54), none⟩,
  ⟨some 56, .mv (.t 4), some (22, false)⟩,
  ⟨some 57, .bin .eql (.t 56) (.c (.string ⟨#[97, 100, 100, 105, 116, 105, 111, 110, 97, 108, 46, 110, 97, 109, 101, 115, 112, 97, 99, 101, 115]⟩)), some (22, false)⟩,
  ⟨some 58, .pick (.t 55) (.c (.bool true)) (.t 57), none⟩] env H none [] Q := w_reg
theorem F_law18_ConfLastr2_g3 {env : Env} : yieldI F_law18_ConfLastr2 env 3 = bOf (env 36) := rfl
theorem F_law18_ConfLastr2_g8 {env : Env} : yieldI F_law18_ConfLastr2 env 8 = bOf (env 41) := rfl
theorem F_law18_ConfLastr2_g13 {env : Env} : yieldI F_law18_ConfLastr2 env 13 = bOf (env 46) := rfl
theorem F_law18_ConfLastr2_g18 {env : Env} : yieldI F_law18_ConfLastr2 env 18 = bOf (env 51) := rfl
theorem F_law18_ConfLastr2_g22 {env : Env} : yieldI F_law18_ConfLastr2 env 22 = bOf (env 55) := rfl
def F_law18_ConfLastr3 : List IStmt := [
  ⟨some 2, .mv (.c (.bool true)), none⟩]
theorem F_law18_ConfLastr3_W {T : Tab} {env : Env} {H : Heap} {Q : Post} : W T (.reg F_law18_ConfLastr3) env H Q ↔ WR T F_law18_ConfLastr3 [
  ⟨some 2, .mv (.c (.bool true)), none⟩] env H none [] Q := w_reg
def F_law18_ConfLastr4 : List IStmt := [
  ⟨some 7, .mv (.c (.int .i64 0)), none⟩]
theorem F_law18_ConfLastr4_W {T : Tab} {env : Env} {H : Heap} {Q : Post} : W T (.reg F_law18_ConfLastr4) env H Q ↔ WR T F_law18_ConfLastr4 [
  ⟨some 7, .mv (.c (.int .i64 0)), none⟩] env H none [] Q := w_reg
def F_law18_ConfLastr5 : List IStmt := [
  ⟨some 59, .mv (.t 7), none⟩,
  ⟨some 60, .mv (.t 5), none⟩,
  ⟨some 61, .len 0 (.t 60), none⟩,
  ⟨some 62, .bin .lss (.t 59) (.t 61), none⟩]
theorem F_law18_ConfLastr5_W {T : Tab} {env : Env} {H : Heap} {Q : Post} : W T (.reg F_law18_ConfLastr5) env H Q ↔ WR T F_law18_ConfLastr5 [
  ⟨some 59, .mv (.t 7), none⟩,
  ⟨some 60, .mv (.t 5), none⟩,
  ⟨some 61, .len 0 (.t 60), none⟩,
  ⟨some 62, .bin .lss (.t 59) (.t 61), none⟩] env H none [] Q := w_reg
def F_law18_ConfLastr7 : List IStmt := [
  ⟨some 65, .mv (.t 5), none⟩,
  ⟨some 66, .mv (.t 7), none⟩,
  ⟨some 67, .ixs (.t 65) (.t 66), none⟩,
  ⟨some 68, .bin .leq (.t 67) (.c (.int .u8 32)), none⟩,
  ⟨some 69, .mv (.t 68), none⟩,
  ⟨some 70, .mv (.t 5), some (4, false)⟩,
  ⟨some 71, .mv (.t 7), some (4, false)⟩,
  ⟨some 72, .ixs (.t 70) (.t 71), some (4, false)⟩,
  ⟨some 73, .bin .gtr (.t 72) (.c (.int .u8 126)), some (4, false)⟩,
  ⟨some 74, .pick (.t 69) (.c (.bool true)) (.t 73), none⟩,
  ⟨some 75, .mv (.t 74), none⟩,
  ⟨some 76, .mv (.t 5), some (10, false)⟩,
  ⟨some 77, .mv (.t 7), some (10, false)⟩,
  ⟨some 78, .ixs (.t 76) (.t 77), some (10, false)⟩,
  ⟨some 79, .bin .eql (.t 78) (.c (.int .u8 35)), some (10, false)⟩,
  ⟨some 80, .pick (.t 75) (.c (.bool true)) (.t 79), none⟩]
theorem F_law18_ConfLastr7_W {T : Tab} {env : Env} {H : Heap} {Q : Post} : W T (.reg F_law18_ConfLastr7) env H Q ↔ WR T F_law18_ConfLastr7 [
  ⟨some 65, .mv (.t 5), none⟩,
  ⟨some 66, .mv (.t 7), none⟩,
  ⟨some 67, .ixs (.t 65) (.t 66), none⟩,
  ⟨some 68, .bin .leq (.t 67) (.c (.int .u8 32)), none⟩,
  ⟨some 69, .mv (.t 68), none⟩,
  ⟨some 70, .mv (.t 5), some (4, false)⟩,
  ⟨some 71, .mv (.t 7), some (4, false)⟩,
  ⟨some 72, .ixs (.t 70) (.t 71), some (4, false)⟩,
  ⟨some 73, .bin .gtr (.t 72) (.c (.int .u8 126)), some (4, false)⟩,
  ⟨some 74, .pick (.t 69) (.c (.bool true)) (.t 73), none⟩,
  ⟨some 75, .mv (.t 74), none⟩,
  ⟨some 76, .mv (.t 5), some (10, false)⟩,
  ⟨some 77, .mv (.t 7), some (10, false)⟩,
  ⟨some 78, .ixs (.t 76) (.t 77), some (10, false)⟩,
  ⟨some 79, .bin .eql (.t 78) (.c (.int .u8 35)), some (10, false)⟩,
  ⟨some 80, .pick (.t 75) (.c (.bool true)) (.t 79), none⟩] env H none [] Q := w_reg
theorem F_law18_ConfLastr7_g4 {env : Env} : yieldI F_law18_ConfLastr7 env 4 = bOf (env 69) := rfl
theorem F_law18_ConfLastr7_g10 {env : Env} : yieldI F_law18_ConfLastr7 env 10 = bOf (env 75) := rfl
def F_law18_ConfLastr8 : List IStmt := [
  ⟨some 2, .mv (.c (.bool true)), none⟩]
theorem F_law18_ConfLastr8_W {T : Tab} {env : Env} {H : Heap} {Q : Post} : W T (.reg F_law18_ConfLastr8) env H Q ↔ WR T F_law18_ConfLastr8 [
  ⟨some 2, .mv (.c (.bool true)), none⟩] env H none [] Q := w_reg
def F_law18_ConfLastr6 : List IStmt := [
  ⟨some 63, .mv (.t 7), none⟩,
  ⟨some 64, .bin .add (.t 63) (.c (.int .i64 1)), none⟩,
  ⟨some 7, .mv (.t 64), none⟩]
theorem F_law18_ConfLastr6_W {T : Tab} {env : Env} {H : Heap} {Q : Post} : W T (.reg F_law18_ConfLastr6) env H Q ↔ WR T F_law18_ConfLastr6 [
  ⟨some 63, .mv (.t 7), none⟩,
  ⟨some 64, .bin .add (.t 63) (.c (.int .i64 1)), none⟩,
  ⟨some 7, .mv (.t 64), none⟩] env H none [] Q := w_reg
def F_law18_ConfLastl0 : ICode := (.seq (.seq (.reg F_law18_ConfLastr5) (.cond (.t 62) .skip (.exit 0))) (.seq (.block 1 (.seq (.reg F_law18_ConfLastr7) (.cond (.t 80) (.seq (.reg F_law18_ConfLastr8) .ret) .skip))) (.reg F_law18_ConfLastr6)))
theorem F_law18_ConfLastl0_W {T : Tab} {env : Env} {H : Heap} {Q : Post} : W T F_law18_ConfLastl0 env H Q ↔ W T (.seq (.seq (.reg F_law18_ConfLastr5) (.cond (.t 62) .skip (.exit 0))) (.seq (.block 1 (.seq (.reg F_law18_ConfLastr7) (.cond (.t 80) (.seq (.reg F_law18_ConfLastr8) .ret) .skip))) (.reg F_law18_ConfLastr6))) env H Q := Iff.rfl
def F_law18_ConfLastr9 : List IStmt := [
  ⟨some 8, .mv (.c (.string ⟨#[32, 61, 32]⟩)), none⟩]
theorem F_law18_ConfLastr9_W {T : Tab} {env : Env} {H : Heap} {Q : Post} : W T (.reg F_law18_ConfLastr9) env H Q ↔ WR T F_law18_ConfLastr9 [
  ⟨some 8, .mv (.c (.string ⟨#[32, 61, 32]⟩)), none⟩] env H none [] Q := w_reg
def F_law18_ConfLastr10 : List IStmt := [
  ⟨some 81, .mv (.t 6), none⟩]
theorem F_law18_ConfLastr10_W {T : Tab} {env : Env} {H : Heap} {Q : Post} : W T (.reg F_law18_ConfLastr10) env H Q ↔ WR T F_law18_ConfLastr10 [
  ⟨some 81, .mv (.t 6), none⟩] env H none [] Q := w_reg
def F_law18_ConfLastr11 : List IStmt := [
  ⟨some 8, .mv (.c (.string ⟨#[32, 43, 61, 32]⟩)), none⟩]
theorem F_law18_ConfLastr11_W {T : Tab} {env : Env} {H : Heap} {Q : Post} : W T (.reg F_law18_ConfLastr11) env H Q ↔ WR T F_law18_ConfLastr11 [
  ⟨some 8, .mv (.c (.string ⟨#[32, 43, 61, 32]⟩)), none⟩] env H none [] Q := w_reg
def F_law18_ConfLastr12 : List IStmt := [
  ⟨some 83, .mv (.t 3), none⟩,
  ⟨some 84, .callc 8 [(.t 83)], none⟩,
  ⟨some 82, .mv (.t 84), none⟩,
  ⟨some 85, .ext (.t 82) 0, none⟩,
  ⟨some 86, .ext (.t 82) 1, none⟩,
  ⟨some 87, .ext (.t 82) 2, none⟩,
  ⟨some 9, .alloc 2 [.slice none 0 0, .slice none 0 0], none⟩,
  ⟨none, .store 2 (.t 9) (.t 85), none⟩,
  ⟨some 10, .mv (.t 86), none⟩,
  ⟨some 11, .mv (.t 87), none⟩]
theorem F_law18_ConfLastr12_W {T : Tab} {env : Env} {H : Heap} {Q : Post} : W T (.reg F_law18_ConfLastr12) env H Q ↔ WR T F_law18_ConfLastr12 [
  ⟨some 83, .mv (.t 3), none⟩,
  ⟨some 84, .callc 8 [(.t 83)], none⟩,
  ⟨some 82, .mv (.t 84), none⟩,
  ⟨some 85, .ext (.t 82) 0, none⟩,
  ⟨some 86, .ext (.t 82) 1, none⟩,
  ⟨some 87, .ext (.t 82) 2, none⟩,
  ⟨some 9, .alloc 2 [.slice none 0 0, .slice none 0 0], none⟩,
  ⟨none, .store 2 (.t 9) (.t 85), none⟩,
  ⟨some 10, .mv (.t 86), none⟩,
  ⟨some 11, .mv (.t 87), none⟩] env H none [] Q := w_reg
def F_law18_ConfLastr13 : List IStmt := [
  ⟨some 89, .mv (.t 3), none⟩,
  ⟨some 90, .bin .add (.t 89) (.c (.string ⟨#[10]⟩)), none⟩,
  ⟨some 91, .mv (.t 4), none⟩,
  ⟨some 92, .bin .add (.t 90) (.t 91), none⟩,
  ⟨some 93, .mv (.t 8), none⟩,
  ⟨some 94, .bin .add (.t 92) (.t 93), none⟩,
  ⟨some 95, .mv (.t 5), none⟩,
  ⟨some 96, .bin .add (.t 94) (.t 95), none⟩,
  ⟨some 97, .bin .add (.t 96) (.c (.string ⟨#[10]⟩)), none⟩,
  ⟨some 98, .callc 8 [(.t 97)], none⟩,
  ⟨some 88, .mv (.t 98), none⟩,
  ⟨some 99, .ext (.t 88) 0, none⟩,
  ⟨some 100, .ext (.t 88) 1, none⟩,
  ⟨some 101, .ext (.t 88) 2, none⟩,
  ⟨some 12, .alloc 2 [.slice none 0 0, .slice none 0 0], none⟩,
  ⟨none, .store 2 (.t 12) (.t 99), none⟩,
  ⟨some 13, .mv (.t 100), none⟩,
  ⟨some 14, .mv (.t 101), none⟩]
theorem F_law18_ConfLastr13_W {T : Tab} {env : Env} {H : Heap} {Q : Post} : W T (.reg F_law18_ConfLastr13) env H Q ↔ WR T F_law18_ConfLastr13 [
  ⟨some 89, .mv (.t 3), none⟩,
  ⟨some 90, .bin .add (.t 89) (.c (.string ⟨#[10]⟩)), none⟩,
  ⟨some 91, .mv (.t 4), none⟩,
  ⟨some 92, .bin .add (.t 90) (.t 91), none⟩,
  ⟨some 93, .mv (.t 8), none⟩,
  ⟨some 94, .bin .add (.t 92) (.t 93), none⟩,
  ⟨some 95, .mv (.t 5), none⟩,
  ⟨some 96, .bin .add (.t 94) (.t 95), none⟩,
  ⟨some 97, .bin .add (.t 96) (.c (.string ⟨#[10]⟩)), none⟩,
  ⟨some 98, .callc 8 [(.t 97)], none⟩,
  ⟨some 88, .mv (.t 98), none⟩,
  ⟨some 99, .ext (.t 88) 0, none⟩,
  ⟨some 100, .ext (.t 88) 1, none⟩,
  ⟨some 101, .ext (.t 88) 2, none⟩,
  ⟨some 12, .alloc 2 [.slice none 0 0, .slice none 0 0], none⟩,
  ⟨none, .store 2 (.t 12) (.t 99), none⟩,
  ⟨some 13, .mv (.t 100), none⟩,
  ⟨some 14, .mv (.t 101), none⟩] env H none [] Q := w_reg
def F_law18_ConfLastr14 : List IStmt := [
  ⟨some 102, .mv (.t 11), none⟩,
  ⟨some 103, .bin .neq (.t 102) (.c (.int .i64 0)), none⟩,
  ⟨some 104, .mv (.t 103), none⟩,
  ⟨some 105, .fa 1 (.t 9), some (2, false)⟩,
  ⟨some 106, .load (.t 105), some (2, false)⟩,
  ⟨some 107, .len 1 (.t 106), some (2, false)⟩,
  ⟨some 108, .bin .eql (.t 107) (.c (.int .i64 0)), some (2, false)⟩,
  ⟨some 109, .pick (.t 104) (.c (.bool true)) (.t 108), none⟩]
theorem F_law18_ConfLastr14_W {T : Tab} {env : Env} {H : Heap} {Q : Post} : W T (.reg F_law18_ConfLastr14) env H Q ↔ WR T F_law18_ConfLastr14 [
  ⟨some 102, .mv (.t 11), none⟩,
  ⟨some 103, .bin .neq (.t 102) (.c (.int .i64 0)), none⟩,
  ⟨some 104, .mv (.t 103), none⟩,
  ⟨some 105, .fa 1 (.t 9), some (2, false)⟩,
  ⟨some 106, .load (.t 105), some (2, false)⟩,
  ⟨some 107, .len 1 (.t 106), some (2, false)⟩,
  ⟨some 108, .bin .eql (.t 107) (.c (.int .i64 0)), some (2, false)⟩,
  ⟨some 109, .pick (.t 104) (.c (.bool true)) (.t 108), none⟩] env H none [] Q := w_reg
theorem F_law18_ConfLastr14_g2 {env : Env} : yieldI F_law18_ConfLastr14 env 2 = bOf (env 104) := rfl
def F_law18_ConfLastr15 : List IStmt := [
  ⟨some 110, .callc 9 [], none⟩,
  ⟨some 2, .mv (.t 110), none⟩]
theorem F_law18_ConfLastr15_W {T : Tab} {env : Env} {H : Heap} {Q : Post} : W T (.reg F_law18_ConfLastr15) env H Q ↔ WR T F_law18_ConfLastr15 [
  ⟨some 110, .callc 9 [], none⟩,
  ⟨some 2, .mv (.t 110), none⟩] env H none [] Q := w_reg
def F_law18_ConfLastr16 : List IStmt := [
  ⟨some 111, .mv (.t 14), none⟩,
  ⟨some 112, .bin .neq (.t 111) (.c (.int .i64 0)), none⟩,
  ⟨some 113, .mv (.t 112), none⟩,
  ⟨some 114, .fa 1 (.t 12), some (2, false)⟩,
  ⟨some 115, .load (.t 114), some (2, false)⟩,
  ⟨some 116, .len 1 (.t 115), some (2, false)⟩,
  ⟨some 117, .fa 1 (.t 9), some (2, false)⟩,
  ⟨some 118, .load (.t 117), some (2, false)⟩,
  ⟨some 119, .len 1 (.t 118), some (2, false)⟩,
  ⟨some 120, .bin .neq (.t 116) (.t 119), some (2, false)⟩,
  ⟨some 121, .pick (.t 113) (.c (.bool true)) (.t 120), none⟩]
theorem F_law18_ConfLastr16_W {T : Tab} {env : Env} {H : Heap} {Q : Post} : W T (.reg F_law18_ConfLastr16) env H Q ↔ WR T F_law18_ConfLastr16 [
  ⟨some 111, .mv (.t 14), none⟩,
  ⟨some 112, .bin .neq (.t 111) (.c (.int .i64 0)), none⟩,
  ⟨some 113, .mv (.t 112), none⟩,
  ⟨some 114, .fa 1 (.t 12), some (2, false)⟩,
  ⟨some 115, .load (.t 114), some (2, false)⟩,
  ⟨some 116, .len 1 (.t 115), some (2, false)⟩,
  ⟨some 117, .fa 1 (.t 9), some (2, false)⟩,
  ⟨some 118, .load (.t 117), some (2, false)⟩,
  ⟨some 119, .len 1 (.t 118), some (2, false)⟩,
  ⟨some 120, .bin .neq (.t 116) (.t 119), some (2, false)⟩,
  ⟨some 121, .pick (.t 113) (.c (.bool true)) (.t 120), none⟩] env H none [] Q := w_reg
theorem F_law18_ConfLastr16_g2 {env : Env} : yieldI F_law18_ConfLastr16 env 2 = bOf (env 113) := rfl
def F_law18_ConfLastr17 : List IStmt := [
  ⟨some 2, .mv (.c (.bool false)), none⟩]
theorem F_law18_ConfLastr17_W {T : Tab} {env : Env} {H : Heap} {Q : Post} : W T (.reg F_law18_ConfLastr17) env H Q ↔ WR T F_law18_ConfLastr17 [
  ⟨some 2, .mv (.c (.bool false)), none⟩] env H none [] Q := w_reg
def F_law18_ConfLastr18 : List IStmt := [
  ⟨some 122, .fa 1 (.t 9), none⟩,
  ⟨some 123, .load (.t 122), none⟩,
  ⟨some 124, .len 1 (.t 123), none⟩,
  ⟨some 125, .bin .sub (.t 124) (.c (.int .i64 1)), none⟩,
  ⟨some 15, .mv (.t 125), none⟩]
theorem F_law18_ConfLastr18_W {T : Tab} {env : Env} {H : Heap} {Q : Post} : W T (.reg F_law18_ConfLastr18) env H Q ↔ WR T F_law18_ConfLastr18 [
  ⟨some 122, .fa 1 (.t 9), none⟩,
  ⟨some 123, .load (.t 122), none⟩,
  ⟨some 124, .len 1 (.t 123), none⟩,
  ⟨some 125, .bin .sub (.t 124) (.c (.int .i64 1)), none⟩,
  ⟨some 15, .mv (.t 125), none⟩] env H none [] Q := w_reg
def F_law18_ConfLastr19 : List IStmt := [
  ⟨some 127, .fa 1 (.t 9), none⟩,
  ⟨some 128, .load (.t 127), none⟩,
  ⟨some 129, .mv (.t 15), none⟩,
  ⟨some 130, .ixa 2 (.t 128) (.t 129), none⟩,
  ⟨some 131, .loadN 2 (.t 130), none⟩,
  ⟨some 132, .mv (.t 4), none⟩,
  ⟨some 133, .callc 10 [(.t 131), (.t 132)], none⟩,
  ⟨some 126, .mv (.t 133), none⟩,
  ⟨some 134, .ext (.t 126) 0, none⟩,
  ⟨some 135, .ext (.t 126) 1, none⟩,
  ⟨some 16, .mv (.t 134), none⟩,
  ⟨some 17, .mv (.t 135), none⟩]
theorem F_law18_ConfLastr19_W {T : Tab} {env : Env} {H : Heap} {Q : Post} : W T (.reg F_law18_ConfLastr19) env H Q ↔ WR T F_law18_ConfLastr19 [
  ⟨some 127, .fa 1 (.t 9), none⟩,
  ⟨some 128, .load (.t 127), none⟩,
  ⟨some 129, .mv (.t 15), none⟩,
  ⟨some 130, .ixa 2 (.t 128) (.t 129), none⟩,
  ⟨some 131, .loadN 2 (.t 130), none⟩,
  ⟨some 132, .mv (.t 4), none⟩,
  ⟨some 133, .callc 10 [(.t 131), (.t 132)], none⟩,
  ⟨some 126, .mv (.t 133), none⟩,
  ⟨some 134, .ext (.t 126) 0, none⟩,
  ⟨some 135, .ext (.t 126) 1, none⟩,
  ⟨some 16, .mv (.t 134), none⟩,
  ⟨some 17, .mv (.t 135), none⟩] env H none [] Q := w_reg
def F_law18_ConfLastr20 : List IStmt := [
  ⟨some 137, .fa 1 (.t 12), none⟩,
  ⟨some 138, .load (.t 137), none⟩,
  ⟨some 139, .mv (.t 15), none⟩,
  ⟨some 140, .ixa 2 (.t 138) (.t 139), none⟩,
  ⟨some 141, .loadN 2 (.t 140), none⟩,
  ⟨some 142, .mv (.t 4), none⟩,
  ⟨some 143, .callc 10 [(.t 141), (.t 142)], none⟩,
  ⟨some 136, .mv (.t 143), none⟩,
  ⟨some 144, .ext (.t 136) 0, none⟩,
  ⟨some 145, .ext (.t 136) 1, none⟩,
  ⟨some 18, .mv (.t 144), none⟩,
  ⟨some 19, .mv (.t 145), none⟩]
theorem F_law18_ConfLastr20_W {T : Tab} {env : Env} {H : Heap} {Q : Post} : W T (.reg F_law18_ConfLastr20) env H Q ↔ WR T F_law18_ConfLastr20 [
  ⟨some 137, .fa 1 (.t 12), none⟩,
  ⟨some 138, .load (.t 137), none⟩,
  ⟨some 139, .mv (.t 15), none⟩,
  ⟨some 140, .ixa 2 (.t 138) (.t 139), none⟩,
  ⟨some 141, .loadN 2 (.t 140), none⟩,
  ⟨some 142, .mv (.t 4), none⟩,
  ⟨some 143, .callc 10 [(.t 141), (.t 142)], none⟩,
  ⟨some 136, .mv (.t 143), none⟩,
  ⟨some 144, .ext (.t 136) 0, none⟩,
  ⟨some 145, .ext (.t 136) 1, none⟩,
  ⟨some 18, .mv (.t 144), none⟩,
  ⟨some 19, .mv (.t 145), none⟩] env H none [] Q := w_reg
def F_law18_ConfLastr21 : List IStmt := [
  ⟨some 146, .mv (.t 5), none⟩,
  ⟨some 20, .mv (.t 146), none⟩]
theorem F_law18_ConfLastr21_W {T : Tab} {env : Env} {H : Heap} {Q : Post} : W T (.reg F_law18_ConfLastr21) env H Q ↔ WR T F_law18_ConfLastr21 [
  ⟨some 146, .mv (.t 5), none⟩,
  ⟨some 20, .mv (.t 146), none⟩] env H none [] Q := w_reg
def F_law18_ConfLastr22 : List IStmt := [
  ⟨some 147, .mv (.t 6), none⟩,
  ⟨some 148, .mv (.t 147), none⟩,
  ⟨some 149, .mv (.t 17), some (1, true)⟩,
  ⟨some 150, .pick (.t 148) (.t 149) (.c (.bool false)), none⟩,
  ⟨some 151, .mv (.t 150), none⟩,
  ⟨some 152, .mv (.t 16), some (4, true)⟩,
  ⟨some 153, .bin .neq (.t 152) (.c (.string ⟨#[]⟩)), some (4, true)⟩,
  ⟨some 154, .pick (.t 151) (.t 153) (.c (.bool false)), none⟩]
theorem F_law18_ConfLastr22_W {T : Tab} {env : Env} {H : Heap} {Q : Post} : W T (.reg F_law18_ConfLastr22) env H Q ↔ WR T F_law18_ConfLastr22 [
  ⟨some 147, .mv (.t 6), none⟩,
  ⟨some 148, .mv (.t 147), none⟩,
  ⟨some 149, .mv (.t 17), some (1, true)⟩,
  ⟨some 150, .pick (.t 148) (.t 149) (.c (.bool false)), none⟩,
  ⟨some 151, .mv (.t 150), none⟩,
  ⟨some 152, .mv (.t 16), some (4, true)⟩,
  ⟨some 153, .bin .neq (.t 152) (.c (.string ⟨#[]⟩)), some (4, true)⟩,
  ⟨some 154, .pick (.t 151) (.t 153) (.c (.bool false)), none⟩] env H none [] Q := w_reg
theorem F_law18_ConfLastr22_g1 {env : Env} : yieldI F_law18_ConfLastr22 env 1 = bOf (env 148) := rfl
theorem F_law18_ConfLastr22_g4 {env : Env} : yieldI F_law18_ConfLastr22 env 4 = bOf (env 151) := rfl
def F_law18_ConfLastr23 : List IStmt := [
  ⟨some 155, .mv (.t 16), none⟩,
  ⟨some 156, .bin .add (.t 155) (.c (.string ⟨#[58]⟩)), none⟩,
  ⟨some 157, .mv (.t 5), none⟩,
  ⟨some 158, .bin .add (.t 156) (.t 157), none⟩,
  ⟨some 20, .mv (.t 158), none⟩]
theorem F_law18_ConfLastr23_W {T : Tab} {env : Env} {H : Heap} {Q : Post} : W T (.reg F_law18_ConfLastr23) env H Q ↔ WR T F_law18_ConfLastr23 [
  ⟨some 155, .mv (.t 16), none⟩,
  ⟨some 156, .bin .add (.t 155) (.c (.string ⟨#[58]⟩)), none⟩,
  ⟨some 157, .mv (.t 5), none⟩,
  ⟨some 158, .bin .add (.t 156) (.t 157), none⟩,
  ⟨some 20, .mv (.t 158), none⟩] env H none [] Q := w_reg
def F_law18_ConfLastr24 : List IStmt := [
  ⟨some 159, .mv (.t 14), none⟩,
  ⟨some 160, .bin .neq (.t 159) (.c (.int .i64 0)), none⟩,
  ⟨some 161, .mv (.t 160), none⟩,
  ⟨some 162, .mv (.t 13), some (2, false)⟩,
  ⟨some 163, .bin .neq (.t 162) (.c (.int .i64 0)), some (2, false)⟩,
  ⟨some 164, .pick (.t 161) (.c (.bool true)) (.t 163), none⟩,
  ⟨some 165, .mv (.t 164), none⟩,
  ⟨some 166, .mv (.t 19), some (6, false)⟩,
  ⟨some 167, .un .not (.t 166), some (6, false)⟩,
  ⟨some 168, .pick (.t 165) (.c (.bool true)) (.t 167), none⟩,
  ⟨some 169, .mv (.t 168), none⟩,
  ⟨some 170, .mv (.t 18), some (10, false)⟩,
  ⟨some 171, .mv (.t 20), some (10, false)⟩,
  ⟨some 172, .bin .neq (.t 170) (.t 171), some (10, false)⟩,
  ⟨some 173, .pick (.t 169) (.c (.bool true)) (.t 172), none⟩]
theorem F_law18_ConfLastr24_W {T : Tab} {env : Env} {H : Heap} {Q : Post} : W T (.reg F_law18_ConfLastr24) env H Q ↔ WR T F_law18_ConfLastr24 [
  ⟨some 159, .mv (.t 14), none⟩,
  ⟨some 160, .bin .neq (.t 159) (.c (.int .i64 0)), none⟩,
  ⟨some 161, .mv (.t 160), none⟩,
  ⟨some 162, .mv (.t 13), some (2, false)⟩,
  ⟨some 163, .bin .neq (.t 162) (.c (.int .i64 0)), some (2, false)⟩,
  ⟨some 164, .pick (.t 161) (.c (.bool true)) (.t 163), none⟩,
  ⟨some 165, .mv (.t 164), none⟩,
  ⟨some 166, .mv (.t 19), some (6, false)⟩,
  ⟨some 167, .un .not (.t 166), some (6, false)⟩,
  ⟨some 168, .pick (.t 165) (.c (.bool true)) (.t 167), none⟩,
  ⟨some 169, .mv (.t 168), none⟩,
  ⟨some 170, .mv (.t 18), some (10, false)⟩,
  ⟨some 171, .mv (.t 20), some (10, false)⟩,
  ⟨some 172, .bin .neq (.t 170) (.t 171), some (10, false)⟩,
  ⟨some 173, .pick (.t 169) (.c (.bool true)) (.t 172), none⟩] env H none [] Q := w_reg
theorem F_law18_ConfLastr24_g2 {env : Env} : yieldI F_law18_ConfLastr24 env 2 = bOf (env 161) := rfl
theorem F_law18_ConfLastr24_g6 {env : Env} : yieldI F_law18_ConfLastr24 env 6 = bOf (env 165) := rfl
theorem F_law18_ConfLastr24_g10 {env : Env} : yieldI F_law18_ConfLastr24 env 10 = bOf (env 169) := rfl
def F_law18_ConfLastr25 : List IStmt := [
  ⟨some 2, .mv (.c (.bool false)), none⟩]
theorem F_law18_ConfLastr25_W {T : Tab} {env : Env} {H : Heap} {Q : Post} : W T (.reg F_law18_ConfLastr25) env H Q ↔ WR T F_law18_ConfLastr25 [
  ⟨some 2, .mv (.c (.bool false)), none⟩] env H none [] Q := w_reg
def F_law18_ConfLastr26 : List IStmt := [
  ⟨some 21, .mv (.c (.int .i64 0)), none⟩]
theorem F_law18_ConfLastr26_W {T : Tab} {env : Env} {H : Heap} {Q : Post} : W T (.reg F_law18_ConfLastr26) env H Q ↔ WR T F_law18_ConfLastr26 [
  ⟨some 21, .mv (.c (.int .i64 0)), none⟩] env H none [] Q := w_reg
def F_law18_ConfLastr27 : List IStmt := [
  ⟨some 174, .mv (.t 21), none⟩,
  ⟨some 175, .fa 1 (.t 9), none⟩,
  ⟨some 176, .load (.t 175), none⟩,
  ⟨some 177, .mv (.t 15), none⟩,
  ⟨some 178, .ixa 2 (.t 176) (.t 177), none⟩,
  ⟨some 179, .fa 1 (.t 178), none⟩,
  ⟨some 180, .load (.t 179), none⟩,
  ⟨some 181, .len 1 (.t 180), none⟩,
  ⟨some 182, .bin .lss (.t 174) (.t 181), none⟩]
theorem F_law18_ConfLastr27_W {T : Tab} {env : Env} {H : Heap} {Q : Post} : W T (.reg F_law18_ConfLastr27) env H Q ↔ WR T F_law18_ConfLastr27 [
  ⟨some 174, .mv (.t 21), none⟩,
  ⟨some 175, .fa 1 (.t 9), none⟩,
  ⟨some 176, .load (.t 175), none⟩,
  ⟨some 177, .mv (.t 15), none⟩,
  ⟨some 178, .ixa 2 (.t 176) (.t 177), none⟩,
  ⟨some 179, .fa 1 (.t 178), none⟩,
  ⟨some 180, .load (.t 179), none⟩,
  ⟨some 181, .len 1 (.t 180), none⟩,
  ⟨some 182, .bin .lss (.t 174) (.t 181), none⟩] env H none [] Q := w_reg
def F_law18_ConfLastr29 : List IStmt := [
  ⟨some 185, .fa 1 (.t 9), none⟩,
  ⟨some 186, .load (.t 185), none⟩,
  ⟨some 187, .mv (.t 15), none⟩,
  ⟨some 188, .ixa 2 (.t 186) (.t 187), none⟩,
  ⟨some 189, .fa 1 (.t 188), none⟩,
  ⟨some 190, .load (.t 189), none⟩,
  ⟨some 191, .mv (.t 21), none⟩,
  ⟨some 192, .ixa 3 (.t 190) (.t 191), none⟩,
  ⟨some 193, .loadN 3 (.t 192), none⟩,
  ⟨some 22, .alloc 3 [.string ⟨#[]⟩, .string ⟨#[]⟩, .int .i64 0], none⟩,
  ⟨none, .store 3 (.t 22) (.t 193), none⟩]
theorem F_law18_ConfLastr29_W {T : Tab} {env : Env} {H : Heap} {Q : Post} : W T (.reg F_law18_ConfLastr29) env H Q ↔ WR T F_law18_ConfLastr29 [
  ⟨some 185, .fa 1 (.t 9), none⟩,
  ⟨some 186, .load (.t 185), none⟩,
  ⟨some 187, .mv (.t 15), none⟩,
  ⟨some 188, .ixa 2 (.t 186) (.t 187), none⟩,
  ⟨some 189, .fa 1 (.t 188), none⟩,
  ⟨some 190, .load (.t 189), none⟩,
  ⟨some 191, .mv (.t 21), none⟩,
  ⟨some 192, .ixa 3 (.t 190) (.t 191), none⟩,
  ⟨some 193, .loadN 3 (.t 192), none⟩,
  ⟨some 22, .alloc 3 [.string ⟨#[]⟩, .string ⟨#[]⟩, .int .i64 0], none⟩,
  ⟨none, .store 3 (.t 22) (.t 193), none⟩] env H none [] Q := w_reg
def F_law18_ConfLastr30 : List IStmt := [
  ⟨some 195, .fa 1 (.t 12), none⟩,
  ⟨some 196, .load (.t 195), none⟩,
  ⟨some 197, .mv (.t 15), none⟩,
  ⟨some 198, .ixa 2 (.t 196) (.t 197), none⟩,
  ⟨some 199, .loadN 2 (.t 198), none⟩,
  ⟨some 200, .fa 0 (.t 22), none⟩,
  ⟨some 201, .load (.t 200), none⟩,
  ⟨some 202, .callc 10 [(.t 199), (.t 201)], none⟩,
  ⟨some 194, .mv (.t 202), none⟩,
  ⟨some 203, .ext (.t 194) 0, none⟩,
  ⟨some 204, .ext (.t 194) 1, none⟩,
  ⟨some 23, .mv (.t 203), none⟩,
  ⟨some 24, .mv (.t 204), none⟩]
theorem F_law18_ConfLastr30_W {T : Tab} {env : Env} {H : Heap} {Q : Post} : W T (.dreg F_law18_ConfLastr30 []) env H Q ↔ WR T F_law18_ConfLastr30 [
  ⟨some 195, .fa 1 (.t 12), none⟩,
  ⟨some 196, .load (.t 195), none⟩,
  ⟨some 197, .mv (.t 15), none⟩,
  ⟨some 198, .ixa 2 (.t 196) (.t 197), none⟩,
  ⟨some 199, .loadN 2 (.t 198), none⟩,
  ⟨some 200, .fa 0 (.t 22), none⟩,
  ⟨some 201, .load (.t 200), none⟩,
  ⟨some 202, .callc 10 [(.t 199), (.t 201)], none⟩,
  ⟨some 194, .mv (.t 202), none⟩,
  ⟨some 203, .ext (.t 194) 0, none⟩,
  ⟨some 204, .ext (.t 194) 1, none⟩,
  ⟨some 23, .mv (.t 203), none⟩,
  ⟨some 24, .mv (.t 204), none⟩] env H none [] Q := w_dreg0
def F_law18_ConfLastr31 : List IStmt := [
  ⟨some 205, .fa 0 (.t 22), none⟩,
  ⟨some 206, .load (.t 205), none⟩,
  ⟨some 207, .mv (.t 4), none⟩,
  ⟨some 208, .bin .neq (.t 206) (.t 207), none⟩,
  ⟨some 209, .mv (.t 208), none⟩,
  ⟨some 210, .mv (.t 24), some (4, true)⟩,
  ⟨some 211, .un .not (.t 210), some (4, true)⟩,
  ⟨some 212, .mv (.t 211), some (4, true)⟩,
  ⟨some 213, .mv (.t 23), some (7, false)⟩,
  ⟨some 214, .fa 1 (.t 22), some (7, false)⟩,
  ⟨some 215, .load (.t 214), some (7, false)⟩,
  ⟨some 216, .bin .neq (.t 213) (.t 215), some (7, false)⟩,
  ⟨some 217, .pick (.t 212) (.c (.bool true)) (.t 216), some (4, true)⟩,
  ⟨some 218, .pick (.t 209) (.t 217) (.c (.bool false)), none⟩]
theorem F_law18_ConfLastr31_W {T : Tab} {env : Env} {H : Heap} {Q : Post} : W T (.reg F_law18_ConfLastr31) env H Q ↔ WR T F_law18_ConfLastr31 [
  ⟨some 205, .fa 0 (.t 22), none⟩,
  ⟨some 206, .load (.t 205), none⟩,
  ⟨some 207, .mv (.t 4), none⟩,
  ⟨some 208, .bin .neq (.t 206) (.t 207), none⟩,
  ⟨some 209, .mv (.t 208), none⟩,
  ⟨some 210, .mv (.t 24), some (4, true)⟩,
  ⟨some 211, .un .not (.t 210), some (4, true)⟩,
  ⟨some 212, .mv (.t 211), some (4, true)⟩,
  ⟨some 213, .mv (.t 23), some (7, false)⟩,
  ⟨some 214, .fa 1 (.t 22), some (7, false)⟩,
  ⟨some 215, .load (.t 214), some (7, false)⟩,
  ⟨some 216, .bin .neq (.t 213) (.t 215), some (7, false)⟩,
  ⟨some 217, .pick (.t 212) (.c (.bool true)) (.t 216), some (4, true)⟩,
  ⟨some 218, .pick (.t 209) (.t 217) (.c (.bool false)), none⟩] env H none [] Q := w_reg
theorem F_law18_ConfLastr31_g4 {env : Env} : yieldI F_law18_ConfLastr31 env 4 = bOf (env 209) := rfl
theorem F_law18_ConfLastr31_g7 {env : Env} : yieldI F_law18_ConfLastr31 env 7 = bOf (env 212) := rfl
def F_law18_ConfLastr32 : List IStmt := [
  ⟨some 2, .mv (.c (.bool false)), none⟩]
theorem F_law18_ConfLastr32_W {T : Tab} {env : Env} {H : Heap} {Q : Post} : W T (.reg F_law18_ConfLastr32) env H Q ↔ WR T F_law18_ConfLastr32 [
  ⟨some 2, .mv (.c (.bool false)), none⟩] env H none [] Q := w_reg
def F_law18_ConfLastr28 : List IStmt := [
  ⟨some 183, .mv (.t 21), none⟩,
  ⟨some 184, .bin .add (.t 183) (.c (.int .i64 1)), none⟩,
  ⟨some 21, .mv (.t 184), none⟩]
theorem F_law18_ConfLastr28_W {T : Tab} {env : Env} {H : Heap} {Q : Post} : W T (.reg F_law18_ConfLastr28) env H Q ↔ WR T F_law18_ConfLastr28 [
  ⟨some 183, .mv (.t 21), none⟩,
  ⟨some 184, .bin .add (.t 183) (.c (.int .i64 1)), none⟩,
  ⟨some 21, .mv (.t 184), none⟩] env H none [] Q := w_reg
def F_law18_ConfLastl1 : ICode := (.seq (.seq (.reg F_law18_ConfLastr27) (.cond (.t 182) .skip (.exit 2))) (.seq (.block 3 (.seq (.reg F_law18_ConfLastr29) (.seq (.dreg F_law18_ConfLastr30 []) (.seq (.reg F_law18_ConfLastr31) (.cond (.t 218) (.seq (.reg F_law18_ConfLastr32) .ret) .skip))))) (.reg F_law18_ConfLastr28)))
theorem F_law18_ConfLastl1_W {T : Tab} {env : Env} {H : Heap} {Q : Post} : W T F_law18_ConfLastl1 env H Q ↔ W T (.seq (.seq (.reg F_law18_ConfLastr27) (.cond (.t 182) .skip (.exit 2))) (.seq (.block 3 (.seq (.reg F_law18_ConfLastr29) (.seq (.dreg F_law18_ConfLastr30 []) (.seq (.reg F_law18_ConfLastr31) (.cond (.t 218) (.seq (.reg F_law18_ConfLastr32) .ret) .skip))))) (.reg F_law18_ConfLastr28))) env H Q := Iff.rfl
def F_law18_ConfLastr33 : List IStmt := [
  ⟨some 219, .callc 9 [], none⟩,
  ⟨some 2, .mv (.t 219), none⟩]
theorem F_law18_ConfLastr33_W {T : Tab} {env : Env} {H : Heap} {Q : Post} : W T (.reg F_law18_ConfLastr33) env H Q ↔ WR T F_law18_ConfLastr33 [
  ⟨some 219, .callc 9 [], none⟩,
  ⟨some 2, .mv (.t 219), none⟩] env H none [] Q := w_reg
def F_law18_ConfLastc : ICode := (.seq (.reg F_law18_ConfLastr0) (.seq (.dreg F_law18_ConfLastr1 []) (.seq (.seq (.reg F_law18_ConfLastr2) (.cond (.t 58) (.seq (.reg F_law18_ConfLastr3) .ret) .skip)) (.seq (.seq (.reg F_law18_ConfLastr4) (.block 0 (.loop F_law18_ConfLastl0))) (.seq (.reg F_law18_ConfLastr9) (.seq (.seq (.reg F_law18_ConfLastr10) (.cond (.t 81) (.reg F_law18_ConfLastr11) .skip)) (.seq (.reg F_law18_ConfLastr12) (.seq (.reg F_law18_ConfLastr13) (.seq (.seq (.reg F_law18_ConfLastr14) (.cond (.t 109) (.seq (.reg F_law18_ConfLastr15) .ret) .skip)) (.seq (.seq (.reg F_law18_ConfLastr16) (.cond (.t 121) (.seq (.reg F_law18_ConfLastr17) .ret) .skip)) (.seq (.reg F_law18_ConfLastr18) (.seq (.reg F_law18_ConfLastr19) (.seq (.reg F_law18_ConfLastr20) (.seq (.reg F_law18_ConfLastr21) (.seq (.seq (.reg F_law18_ConfLastr22) (.cond (.t 154) (.reg F_law18_ConfLastr23) .skip)) (.seq (.seq (.reg F_law18_ConfLastr24) (.cond (.t 173) (.seq (.reg F_law18_ConfLastr25) .ret) .skip)) (.seq (.seq (.reg F_law18_ConfLastr26) (.block 2 (.loop F_law18_ConfLastl1))) (.seq (.reg F_law18_ConfLastr33) .ret))))))))))))))))))
theorem F_law18_ConfLastc_W {T : Tab} {env : Env} {H : Heap} {Q : Post} : W T F_law18_ConfLastc env H Q ↔ W T (.seq (.reg F_law18_ConfLastr0) (.seq (.dreg F_law18_ConfLastr1 []) (.seq (.seq (.reg F_law18_ConfLastr2) (.cond (.t 58) (.seq (.reg F_law18_ConfLastr3) .ret) .skip)) (.seq (.seq (.reg F_law18_ConfLastr4) (.block 0 (.loop F_law18_ConfLastl0))) (.seq (.reg F_law18_ConfLastr9) (.seq (.seq (.reg F_law18_ConfLastr10) (.cond (.t 81) (.reg F_law18_ConfLastr11) .skip)) (.seq (.reg F_law18_ConfLastr12) (.seq (.reg F_law18_ConfLastr13) (.seq (.seq (.reg F_law18_ConfLastr14) (.cond (.t 109) (.seq (.reg F_law18_ConfLastr15) .ret) .skip)) (.seq (.seq (.reg F_law18_ConfLastr16) (.cond (.t 121) (.seq (.reg F_law18_ConfLastr17) .ret) .skip)) (.seq (.reg F_law18_ConfLastr18) (.seq (.reg F_law18_ConfLastr19) (.seq (.reg F_law18_ConfLastr20) (.seq (.reg F_law18_ConfLastr21) (.seq (.seq (.reg F_law18_ConfLastr22) (.cond (.t 154) (.reg F_law18_ConfLastr23) .skip)) (.seq (.seq (.reg F_law18_ConfLastr24) (.cond (.t 173) (.seq (.reg F_law18_ConfLastr25) .ret) .skip)) (.seq (.seq (.reg F_law18_ConfLastr26) (.block 2 (.loop F_law18_ConfLastl1))) (.seq (.reg F_law18_ConfLastr33) .ret)))))))))))))))))) env H Q := Iff.rfl
def F_law18_ConfLast : IFn := ⟨220, [.tmp 2], F_law18_ConfLastc⟩
set_option maxRecDepth 1000000 in
theorem F_law18_ConfLast_chk : chkF Tryd.prog 3 F_law18_ConfLast = true := by kernel_rfl

/-- The functions, by number. -/
def TCf_l : List (Nat × IFn) := [(6, F_ref18_Name), (7, F_ref18_Ends), (8, F_conf_Parse), (18, F_conf_File_line), (28, F_conf_File_begin), (32, F_conf_Section_set), (45, F_conf_between), (17, F_conf_trim), (27, F_conf_blank), (16, F_conf_plain), (31, F_conf_good), (10, F_conf_Section_Get), (19, F_conf_Choose), (35, F_path_Clean), (34, F_path_IsClean), (36, F_path_Under), (48, F_path_Parts), (47, F_path_good), (14, F_strings_Split), (25, F_strings_genSplit), (40, F_strings_Index), (15, F_strings_Cut), (26, F_internal_stringslite_Cut), (29, F_strings_HasSuffix), (43, F_internal_stringslite_HasSuffix), (30, F_strings_TrimSuffix), (44, F_internal_stringslite_TrimSuffix), (33, F_strings_CutPrefix), (46, F_internal_stringslite_CutPrefix), (42, F_strings_CutSuffix), (59, F_internal_stringslite_CutSuffix), (50, F_strings_HasPrefix), (60, F_internal_stringslite_HasPrefix), (9, F_law18_alive), (3, F_law18_ConfLast)]
def TCf : Tab := tabN TCf_l natCf
theorem TCf_chk : ∀ p ∈ TCf_l, chkF Tryd.prog p.1 p.2 = true := by
  intro p hp
  simp only [TCf_l, List.mem_cons, List.not_mem_nil, or_false] at hp
  rcases hp with rfl | rfl | rfl | rfl | rfl | rfl | rfl | rfl | rfl | rfl | rfl | rfl | rfl | rfl | rfl | rfl | rfl | rfl | rfl | rfl | rfl | rfl | rfl | rfl | rfl | rfl | rfl | rfl | rfl | rfl | rfl | rfl | rfl | rfl | rfl
  · exact F_ref18_Name_chk
  · exact F_ref18_Ends_chk
  · exact F_conf_Parse_chk
  · exact F_conf_File_line_chk
  · exact F_conf_File_begin_chk
  · exact F_conf_Section_set_chk
  · exact F_conf_between_chk
  · exact F_conf_trim_chk
  · exact F_conf_blank_chk
  · exact F_conf_plain_chk
  · exact F_conf_good_chk
  · exact F_conf_Section_Get_chk
  · exact F_conf_Choose_chk
  · exact F_path_Clean_chk
  · exact F_path_IsClean_chk
  · exact F_path_Under_chk
  · exact F_path_Parts_chk
  · exact F_path_good_chk
  · exact F_strings_Split_chk
  · exact F_strings_genSplit_chk
  · exact F_strings_Index_chk
  · exact F_strings_Cut_chk
  · exact F_internal_stringslite_Cut_chk
  · exact F_strings_HasSuffix_chk
  · exact F_internal_stringslite_HasSuffix_chk
  · exact F_strings_TrimSuffix_chk
  · exact F_internal_stringslite_TrimSuffix_chk
  · exact F_strings_CutPrefix_chk
  · exact F_internal_stringslite_CutPrefix_chk
  · exact F_strings_CutSuffix_chk
  · exact F_internal_stringslite_CutSuffix_chk
  · exact F_strings_HasPrefix_chk
  · exact F_internal_stringslite_HasPrefix_chk
  · exact F_law18_alive_chk
  · exact F_law18_ConfLast_chk
theorem TCf_good : Fw.Good Tryd.prog TCf := good_tabN (by kernel_rfl) TCf_chk natCf_ok

end Go.Proofs.YtbhoaiacnoiocaaDoor
