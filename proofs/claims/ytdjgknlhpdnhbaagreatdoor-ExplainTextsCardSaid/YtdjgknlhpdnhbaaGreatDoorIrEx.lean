/- The small language's text of functions of the given program, and the check that it stands for them. Printed by a program. -/
import Derived.Test.YtdjgknlhpdnhbaaGreatDoorFwC
import Derived.Test.YtdjgknlhpdnhbaaGreatDoorChecked
import Derived.Test.YtdjgknlhpdnhbaaGreatDoorIrEt
import Derived.Test.YtdjgknlhpdnhbaaGreatDoorIrEr
import Derived.Test.YtdjgknlhpdnhbaaGreatDoorIrEi
import Derived.Test.YtdjgknlhpdnhbaaGreatDoorEtNat
import Derived.KernelRfl
namespace Go.Proofs.YtdjgknlhpdnhbaaGreatDoor
open Go Fw
namespace TinyEx
def M (d t : Nat) : IStmt := ⟨some d, .mv (.t t), none⟩
def L (d t : Nat) : IStmt := ⟨some d, .load (.t t), none⟩
def A (d o t : Nat) : IStmt := ⟨some d, .fa o (.t t), none⟩
def N (d t : Nat) : IStmt := ⟨some d, .nilc (.t t), none⟩
def X (d t i : Nat) : IStmt := ⟨some d, .ext (.t t) i, none⟩
def P (d : Nat) (o : IOp) : IStmt := ⟨some d, o, none⟩
def U (n a b : Nat) : IStmt := ⟨none, .store n (.t a) (.t b), none⟩
def I (k : IntKind) (n : Int) : Opd := .c (.int k n)
def B (b : Bool) : Opd := .c (.bool b)
end TinyEx
open TinyEx

/-! ### path_good -/
def F_path_goodl0 : ICode := (.seq (.reg [ P 10 (.bin .lss (.t 9) (.t 8))]) (.seq (.cond (.t 10) .skip (.exit 0)) (.seq (.block 1 (.seq (.reg [ M 11 9,M 3 11]) (.seq (.reg [ M 12 0,M 13 3,P 14 (.ixs (.t 12) (.t 13)),P 15 (.bin .lss (.t 14) (I .u8 33)),M 16 15,⟨some 17,.mv (.t 0),some (4,false)⟩,⟨some 18,.mv (.t 3),some (4,false)⟩,⟨some 19,.ixs (.t 17) (.t 18),some (4,false)⟩,⟨some 20,.bin .gtr (.t 19) (I .u8 126),some (4,false)⟩,P 21 (.pick (.t 16) (B true) (.t 20))]) (.cond (.t 21) (.seq (.reg [ P 2 (.mv (B false))]) .ret) .skip)))) (.reg [ P 22 (.bin .add (.t 9) (I .i64 1)),M 9 22]))))
def F_path_goodc : ICode := (.seq (.reg [ P 2 (.mv (B false))]) (.seq (.seq (.reg [ M 4 0,P 5 (.len 0 (.t 4)),P 6 (.bin .gtr (.t 5) (I .i64 256))]) (.cond (.t 6) (.seq (.reg [ P 2 (.mv (B false))]) .ret) .skip)) (.seq (.seq (.reg [ M 7 0,P 8 (.len 0 (.t 7)),P 9 (.mv (I .i64 0))]) (.block 0 (.loop F_path_goodl0))) (.seq (.reg [ P 2 (.mv (B true))]) .ret))))
def F_path_good : IFn := ⟨23, [.tmp 2], F_path_goodc⟩
set_option maxRecDepth 1000000 in
theorem F_path_good_chk : chkF Tryz.prog 45 F_path_good = true := by kernel_rfl

/-! ### strings_genSplit -/
def F_strings_genSplitl0 : ICode := (.seq (.seq (.reg [ M 34 10,M 35 3,P 36 (.bin .lss (.t 34) (.t 35))]) (.cond (.t 36) .skip (.exit 0))) (.block 1 (.seq (.reg [ M 37 0,M 38 1,P 39 (.callc 88 [(.t 37),(.t 38)]),M 11 39]) (.seq (.seq (.reg [ M 40 11,P 41 (.bin .lss (.t 40) (I .i64 0))]) (.cond (.t 41) (.exit 0) .skip)) (.seq (.reg [ M 42 9,M 43 10,M 44 0,M 45 11,M 46 2,P 47 (.bin .add (.t 45) (.t 46)),P 48 (.sls (.t 44) none (some (.t 47))),P 49 (.ixa 1 (.t 42) (.t 43)),U 1 49 48]) (.seq (.reg [ M 50 0,M 51 11,M 52 1,P 53 (.len 0 (.t 52)),P 54 (.bin .add (.t 51) (.t 53)),P 55 (.sls (.t 50) (some (.t 54)) none),M 0 55]) (.reg [ M 56 10,P 57 (.bin .add (.t 56) (I .i64 1)),M 10 57])))))))
def F_strings_genSplitc : ICode := (.seq (.reg [ P 8 (.mv (.c (.slice none 0 0)))]) (.seq (.seq (.reg [ M 12 3,P 13 (.bin .eql (.t 12) (I .i64 0))]) (.cond (.t 13) (.seq (.reg [ P 8 (.mv (.c (.slice none 0 0)))]) .ret) .skip)) (.seq (.seq (.reg [ M 14 1,P 15 (.bin .eql (.t 14) (.c (.string ⟨#[]⟩)))]) (.cond (.t 15) (.seq (.reg [ M 16 0,M 17 3,P 18 (.callc 146 [(.t 16),(.t 17)]),M 8 18]) .ret) .skip)) (.seq (.seq (.reg [ M 19 3,P 20 (.bin .lss (.t 19) (I .i64 0))]) (.cond (.t 20) (.reg [ M 21 0,M 22 1,P 23 (.callc 147 [(.t 21),(.t 22)]),P 24 (.bin .add (.t 23) (I .i64 1)),M 3 24]) .skip)) (.seq (.reg [ M 25 3,M 26 0,P 27 (.len 0 (.t 26)),P 28 (.bin .add (.t 27) (I .i64 1)),P 29 (.mn (.t 25) (.t 28)),M 3 29]) (.seq (.reg [ M 30 3,P 31 (.mks 16 (.string ⟨#[]⟩) (.t 30) (.t 30)),M 9 31]) (.seq (.reg [ M 32 3,P 33 (.bin .sub (.t 32) (I .i64 1)),M 3 33]) (.seq (.reg [ P 10 (.mv (I .i64 0))]) (.seq (.block 0 (.loop F_strings_genSplitl0)) (.seq (.reg [ M 58 9,M 59 10,M 60 0,P 61 (.ixa 1 (.t 58) (.t 59)),U 1 61 60]) (.seq (.reg [ M 62 9,M 63 10,P 64 (.bin .add (.t 63) (I .i64 1)),P 65 (.sle 1 (.t 62) none (some (.t 64)) none),M 8 65]) .ret)))))))))))
def F_strings_genSplit : IFn := ⟨66, [.tmp 8], F_strings_genSplitc⟩
set_option maxRecDepth 1000000 in
theorem F_strings_genSplit_chk : chkF Tryz.prog 121 F_strings_genSplit = true := by kernel_rfl

/-! ### strings_Split -/
def F_strings_Splitc : ICode := (.seq (.reg [ P 4 (.mv (.c (.slice none 0 0)))]) (.seq (.reg [ M 5 0,M 6 1,P 7 (.callc 121 [(.t 5),(.t 6),(I .i64 0),(I .i64 (-1))]),M 4 7]) .ret))
def F_strings_Split : IFn := ⟨8, [.tmp 4], F_strings_Splitc⟩
set_option maxRecDepth 1000000 in
theorem F_strings_Split_chk : chkF Tryz.prog 102 F_strings_Split = true := by kernel_rfl

/-! ### path_Parts -/
def F_path_Partsl0 : ICode := (.seq (.reg [ P 10 (.bin .lss (.t 9) (.t 8))]) (.seq (.cond (.t 10) .skip (.exit 0)) (.seq (.block 1 (.seq (.reg [ P 11 (.ixa 1 (.t 7) (.t 9)),L 12 11,M 5 12]) (.seq (.reg [ M 13 5,P 14 (.bin .neq (.t 13) (.c (.string ⟨#[]⟩))),M 15 14,⟨some 16,.mv (.t 5),some (2,true)⟩,⟨some 17,.bin .neq (.t 16) (.c (.string ⟨#[46]⟩)),some (2,true)⟩,P 18 (.pick (.t 15) (.t 17) (B false))]) (.cond (.t 18) (.reg [ M 19 3,M 20 5,P 21 (.bsli 1 1 [.string ⟨#[]⟩] [(0,(.t 20))]),P 22 (.app 1 16 (.t 19) (.t 21)),M 3 22]) .skip)))) (.reg [ P 23 (.bin .add (.t 9) (I .i64 1)),M 9 23]))))
def F_path_Partsc : ICode := (.seq (.reg [ P 2 (.mv (.c (.slice none 0 0)))]) (.seq (.reg [ P 3 (.mv (.c (.slice none 0 0)))]) (.seq (.seq (.reg [ M 6 0,P 7 (.callc 102 [(.t 6),(.c (.string ⟨#[47]⟩))]),P 8 (.len 1 (.t 7)),P 9 (.mv (I .i64 0))]) (.block 0 (.loop F_path_Partsl0))) (.seq (.reg [ M 24 3,M 2 24]) .ret))))
def F_path_Parts : IFn := ⟨25, [.tmp 2], F_path_Partsc⟩
set_option maxRecDepth 1000000 in
theorem F_path_Parts_chk : chkF Tryz.prog 69 F_path_Parts = true := by kernel_rfl

/-! ### path_Clean -/
def F_path_Cleanl0 : ICode := (.seq (.reg [ P 23 (.bin .lss (.t 22) (.t 21))]) (.seq (.cond (.t 23) .skip (.exit 0)) (.seq (.block 1 (.seq (.reg [ P 24 (.ixa 1 (.t 20) (.t 22)),L 25 24,M 6 25]) (.block 2 (.seq (.reg [ M 27 6,P 28 (.bin .neq (.t 27) (.c (.string ⟨#[46,46]⟩))),M 26 28]) (.cond (.t 26) (.reg [ M 29 4,M 30 6,P 31 (.bsli 1 1 [.string ⟨#[]⟩] [(0,(.t 30))]),P 32 (.app 1 16 (.t 29) (.t 31)),M 4 32]) (.seq (.reg [ M 34 4,P 35 (.len 1 (.t 34)),P 36 (.bin .gtr (.t 35) (I .i64 0)),M 33 36]) (.cond (.t 33) (.reg [ M 37 4,M 38 4,P 39 (.len 1 (.t 38)),P 40 (.bin .sub (.t 39) (I .i64 1)),P 41 (.sle 1 (.t 37) none (some (.t 40)) none),M 4 41]) .skip))))))) (.reg [ P 42 (.bin .add (.t 22) (I .i64 1)),M 22 42]))))
def F_path_Cleanc : ICode := (.seq (.reg [ P 2 (.mv (.c (.string ⟨#[]⟩))),P 3 (.mv (I .i64 0))]) (.seq (.seq (.reg [ M 7 0,P 8 (.callc 45 [(.t 7)]),P 9 (.un .not (.t 8)),M 10 9,⟨some 11,.mv (.t 0),some (3,false)⟩,⟨some 12,.bin .eql (.t 11) (.c (.string ⟨#[]⟩)),some (3,false)⟩,P 13 (.pick (.t 10) (B true) (.t 12)),M 14 13,⟨some 15,.mv (.t 0),some (7,false)⟩,⟨some 16,.ixs (.t 15) (I .i64 0),some (7,false)⟩,⟨some 17,.bin .neq (.t 16) (I .u8 47),some (7,false)⟩,P 18 (.pick (.t 14) (B true) (.t 17))]) (.cond (.t 18) (.seq (.reg [ P 2 (.mv (.c (.string ⟨#[]⟩))),P 3 (.mv (I .i64 40))]) .ret) .skip)) (.seq (.reg [ P 4 (.mv (.c (.slice none 0 0)))]) (.seq (.seq (.reg [ M 19 0,P 20 (.callc 69 [(.t 19)]),P 21 (.len 1 (.t 20)),P 22 (.mv (I .i64 0))]) (.block 0 (.loop F_path_Cleanl0))) (.seq (.reg [ M 43 4,P 44 (.calll 70 [(.t 43),(.c (.string ⟨#[47]⟩))]),P 45 (.bin .add (.c (.string ⟨#[47]⟩)) (.t 44)),M 2 45,P 3 (.mv (I .i64 0))]) .ret)))))
def F_path_Clean : IFn := ⟨46, [.tmp 2, .tmp 3], F_path_Cleanc⟩
set_option maxRecDepth 1000000 in
theorem F_path_Clean_chk : chkF Tryz.prog 43 F_path_Clean = true := by kernel_rfl

/-! ### path_IsClean -/
def F_path_IsCleanc : ICode := (.seq (.reg [ P 2 (.mv (B false))]) (.seq (.reg [ M 6 0,P 7 (.callc 43 [(.t 6)]),M 5 7,X 8 5 0,X 9 5 1,M 3 8,M 4 9]) (.seq (.reg [ M 10 4,P 11 (.bin .eql (.t 10) (I .i64 0)),M 12 11,⟨some 13,.mv (.t 3),some (2,true)⟩,⟨some 14,.mv (.t 0),some (2,true)⟩,⟨some 15,.bin .eql (.t 13) (.t 14),some (2,true)⟩,P 16 (.pick (.t 12) (.t 15) (B false)),M 2 16]) .ret)))
def F_path_IsClean : IFn := ⟨17, [.tmp 2], F_path_IsCleanc⟩
set_option maxRecDepth 1000000 in
theorem F_path_IsClean_chk : chkF Tryz.prog 26 F_path_IsClean = true := by kernel_rfl

/-! ### internal_stringslite_HasPrefix -/
def F_internal_stringslite_HasPrefixc : ICode := (.seq (.reg [ P 4 (.mv (B false))]) (.seq (.reg [ M 5 0,P 6 (.len 0 (.t 5)),M 7 1,P 8 (.len 0 (.t 7)),P 9 (.bin .geq (.t 6) (.t 8)),M 10 9,⟨some 11,.mv (.t 0),some (5,true)⟩,⟨some 12,.mv (.t 1),some (5,true)⟩,⟨some 13,.len 0 (.t 12),some (5,true)⟩,⟨some 14,.sls (.t 11) none (some (.t 13)),some (5,true)⟩,⟨some 15,.mv (.t 1),some (5,true)⟩,⟨some 16,.bin .eql (.t 14) (.t 15),some (5,true)⟩,P 17 (.pick (.t 10) (.t 16) (B false)),M 4 17]) .ret))
def F_internal_stringslite_HasPrefix : IFn := ⟨18, [.tmp 4], F_internal_stringslite_HasPrefixc⟩
set_option maxRecDepth 1000000 in
theorem F_internal_stringslite_HasPrefix_chk : chkF Tryz.prog 71 F_internal_stringslite_HasPrefix = true := by kernel_rfl

/-! ### strings_HasPrefix -/
def F_strings_HasPrefixc : ICode := (.seq (.reg [ P 4 (.mv (B false))]) (.seq (.reg [ M 5 0,M 6 1,P 7 (.callc 71 [(.t 5),(.t 6)]),M 4 7]) .ret))
def F_strings_HasPrefix : IFn := ⟨8, [.tmp 4], F_strings_HasPrefixc⟩
set_option maxRecDepth 1000000 in
theorem F_strings_HasPrefix_chk : chkF Tryz.prog 44 F_strings_HasPrefix = true := by kernel_rfl

/-! ### path_Join -/
def F_path_Joinc : ICode := (.seq (.reg [ P 4 (.mv (.c (.string ⟨#[]⟩))),P 5 (.mv (I .i64 0))]) (.seq (.seq (.reg [ M 6 1,P 7 (.callc 44 [(.t 6),(.c (.string ⟨#[47]⟩))])]) (.cond (.t 7) (.seq (.reg [ M 8 1,P 9 (.callc 43 [(.t 8)]),X 10 9 0,X 11 9 1,M 4 10,M 5 11]) .ret) .skip)) (.seq (.seq (.reg [ M 12 0,P 13 (.callc 45 [(.t 12)]),P 14 (.un .not (.t 13)),M 15 14,⟨some 16,.mv (.t 1),some (3,false)⟩,⟨some 17,.callc 45 [(.t 16)],some (3,false)⟩,⟨some 18,.un .not (.t 17),some (3,false)⟩,P 19 (.pick (.t 15) (B true) (.t 18))]) (.cond (.t 19) (.seq (.reg [ P 4 (.mv (.c (.string ⟨#[]⟩))),P 5 (.mv (I .i64 40))]) .ret) .skip)) (.seq (.reg [ M 20 0,P 21 (.bin .add (.t 20) (.c (.string ⟨#[47]⟩))),M 22 1,P 23 (.bin .add (.t 21) (.t 22)),P 24 (.callc 43 [(.t 23)]),X 25 24 0,X 26 24 1,M 4 25,M 5 26]) .ret))))
def F_path_Join : IFn := ⟨27, [.tmp 4, .tmp 5], F_path_Joinc⟩
set_option maxRecDepth 1000000 in
theorem F_path_Join_chk : chkF Tryz.prog 27 F_path_Join = true := by kernel_rfl

/-! ### vfs_fits -/
def F_vfs_fitsc : ICode := (.seq (.reg [ P 1 (.box 4 (.t 0)),P 2 (.mv (I .i64 0))]) (.seq (.seq (.reg [ A 5 0 1,L 6 5,P 7 (.callc 26 [(.t 6)]),P 8 (.un .not (.t 7)),M 9 8,⟨some 10,.fa 0 (.t 1),some (4,false)⟩,⟨some 11,.load (.t 10),some (4,false)⟩,⟨some 12,.bin .eql (.t 11) (.c (.string ⟨#[47]⟩)),some (4,false)⟩,P 13 (.pick (.t 9) (B true) (.t 12))]) (.cond (.t 13) (.seq (.reg [ P 2 (.mv (I .i64 40))]) .ret) .skip)) (.seq (.seq (.reg [ A 14 1 1,L 15 14]) (.block 0 (.seq (.reg [ P 17 (.bin .eql (.t 15) (I .i64 1)),M 16 17]) (.cond (.t 16) (.seq (.reg [ A 18 2 1,L 19 18,P 20 (.len 1 (.t 19)),P 21 (.bin .gtr (.t 20) (I .i64 0)),M 22 21,⟨some 23,.fa 3 (.t 1),some (4,false)⟩,⟨some 24,.load (.t 23),some (4,false)⟩,⟨some 25,.bin .neq (.t 24) (.c (.string ⟨#[]⟩)),some (4,false)⟩,P 26 (.pick (.t 22) (B true) (.t 25))]) (.cond (.t 26) (.seq (.reg [ P 2 (.mv (I .i64 60))]) .ret) .skip)) (.seq (.reg [ P 28 (.bin .eql (.t 15) (I .i64 2)),M 27 28]) (.cond (.t 27) (.seq (.seq (.reg [ A 29 3 1,L 30 29,P 31 (.bin .neq (.t 30) (.c (.string ⟨#[]⟩)))]) (.cond (.t 31) (.seq (.reg [ P 2 (.mv (I .i64 60))]) .ret) .skip)) (.seq (.reg [ A 32 2 1,L 33 32,P 34 (.len 1 (.t 33)),P 35 (.bin .gtr (.t 34) (I .i64 262144))]) (.cond (.t 35) (.seq (.reg [ P 2 (.mv (I .i64 67))]) .ret) .skip))) (.seq (.reg [ P 37 (.bin .eql (.t 15) (I .i64 3)),M 36 37]) (.cond (.t 36) (.seq (.seq (.reg [ A 38 2 1,L 39 38,P 40 (.len 1 (.t 39)),P 41 (.bin .gtr (.t 40) (I .i64 0)),M 42 41,⟨some 43,.fa 3 (.t 1),some (4,false)⟩,⟨some 44,.load (.t 43),some (4,false)⟩,⟨some 45,.bin .eql (.t 44) (.c (.string ⟨#[]⟩)),some (4,false)⟩,P 46 (.pick (.t 42) (B true) (.t 45))]) (.cond (.t 46) (.seq (.reg [ P 2 (.mv (I .i64 60))]) .ret) .skip)) (.seq (.reg [ A 48 3 1,L 49 48,P 50 (.callc 27 [(.c (.string ⟨#[47]⟩)),(.t 49)]),M 47 50,X 51 47 0,X 52 47 1,M 3 51,M 4 52]) (.seq (.reg [ M 53 4,P 54 (.bin .neq (.t 53) (I .i64 0))]) (.cond (.t 54) (.seq (.reg [ P 2 (.mv (I .i64 40))]) .ret) .skip)))) (.seq (.reg [ P 2 (.mv (I .i64 60))]) .ret))))))))) (.seq (.reg [ P 2 (.mv (I .i64 0))]) .ret))))
def F_vfs_fits : IFn := ⟨55, [.tmp 2], F_vfs_fitsc⟩
set_option maxRecDepth 1000000 in
theorem F_vfs_fits_chk : chkF Tryz.prog 18 F_vfs_fits = true := by kernel_rfl

/-! ### internal_bytealg_LastIndexByteString -/
def F_internal_bytealg_LastIndexByteStringl0 : ICode := (.seq (.seq (.reg [ M 9 5,P 10 (.bin .geq (.t 9) (I .i64 0))]) (.cond (.t 10) .skip (.exit 0))) (.seq (.block 1 (.seq (.reg [ M 13 0,M 14 5,P 15 (.ixs (.t 13) (.t 14)),M 16 1,P 17 (.bin .eql (.t 15) (.t 16))]) (.cond (.t 17) (.seq (.reg [ M 18 5,M 4 18]) .ret) .skip))) (.reg [ M 11 5,P 12 (.bin .sub (.t 11) (I .i64 1)),M 5 12])))
def F_internal_bytealg_LastIndexByteStringc : ICode := (.seq (.reg [ P 4 (.mv (I .i64 0))]) (.seq (.seq (.reg [ M 6 0,P 7 (.len 0 (.t 6)),P 8 (.bin .sub (.t 7) (I .i64 1)),M 5 8]) (.block 0 (.loop F_internal_bytealg_LastIndexByteStringl0))) (.seq (.reg [ P 4 (.mv (I .i64 (-1)))]) .ret)))
def F_internal_bytealg_LastIndexByteString : IFn := ⟨19, [.tmp 4], F_internal_bytealg_LastIndexByteStringc⟩
set_option maxRecDepth 1000000 in
theorem F_internal_bytealg_LastIndexByteString_chk : chkF Tryz.prog 46 F_internal_bytealg_LastIndexByteString = true := by kernel_rfl

/-! ### strings_LastIndexByte -/
def F_strings_LastIndexBytec : ICode := (.seq (.reg [ P 4 (.mv (I .i64 0))]) (.seq (.reg [ M 5 0,M 6 1,P 7 (.callc 46 [(.t 5),(.t 6)]),M 4 7]) .ret))
def F_strings_LastIndexByte : IFn := ⟨8, [.tmp 4], F_strings_LastIndexBytec⟩
set_option maxRecDepth 1000000 in
theorem F_strings_LastIndexByte_chk : chkF Tryz.prog 28 F_strings_LastIndexByte = true := by kernel_rfl

/-! ### path_Up -/
def F_path_Upc : ICode := (.seq (.reg [ P 2 (.mv (.c (.string ⟨#[]⟩)))]) (.seq (.reg [ M 4 0,P 5 (.callc 28 [(.t 4),(I .u8 47)]),M 3 5]) (.seq (.seq (.reg [ M 6 3,P 7 (.bin .leq (.t 6) (I .i64 0))]) (.cond (.t 7) (.seq (.reg [ P 2 (.mv (.c (.string ⟨#[47]⟩)))]) .ret) .skip)) (.seq (.reg [ M 8 0,M 9 3,P 10 (.sls (.t 8) none (some (.t 9))),M 2 10]) .ret))))
def F_path_Up : IFn := ⟨11, [.tmp 2], F_path_Upc⟩
set_option maxRecDepth 1000000 in
theorem F_path_Up_chk : chkF Tryz.prog 19 F_path_Up = true := by kernel_rfl

/-! ### vfs_New -/
def F_vfs_Newl0 : ICode := (.seq (.reg [ P 26 (.bin .lss (.t 25) (.t 24))]) (.seq (.cond (.t 26) .skip (.exit 0)) (.seq (.block 1 (.seq (.reg [ P 27 (.ixa 4 (.t 23) (.t 25)),P 28 (.loadN 4 (.t 27)),P 6 (.alloc 4 [.string ⟨#[]⟩,.int .i64 0,.slice none 0 0,.string ⟨#[]⟩]),U 4 6 28]) (.seq (.seq (.reg [ P 29 (.loadN 4 (.t 6)),P 30 (.callc 18 [(.t 29)]),M 7 30]) (.seq (.reg [ M 31 7,P 32 (.bin .neq (.t 31) (I .i64 0))]) (.cond (.t 32) (.seq (.reg [ M 33 7,P 2 (.mv (.c (.pointer none))),M 3 33]) .ret) .skip))) (.seq (.seq (.dreg [ M 35 4,N 36 35,A 37 1 36,L 38 37,A 39 0 6,L 40 39,P 41 (.lku 2 false true [.int .i64 0] (.t 38) (.t 40)),M 34 41,X 42 34 0,X 43 34 1,M 8 42,M 9 43] []) (.seq (.reg [ M 44 9]) (.cond (.t 44) (.seq (.reg [ P 2 (.mv (.c (.pointer none))),P 3 (.mv (I .i64 61))]) .ret) .skip))) (.seq (.reg [ A 45 2 6,L 46 45,P 47 (.cpy 1 1 (.t 46)),A 48 2 6,U 1 48 47]) (.seq (.dreg [ M 49 4,N 50 49,A 51 1 50,L 52 51,A 53 0 6,L 54 53,M 55 4,N 56 55,A 57 0 56,L 58 57,P 59 (.len 1 (.t 58)),⟨none,.mup 2 (.t 52) (.t 54) (.t 59),none⟩] []) (.dreg [ M 60 4,M 61 4,N 62 61,A 63 0 62,L 64 63,P 65 (.loadN 4 (.t 6)),P 66 (.bsli 4 1 [.string ⟨#[]⟩,.int .i64 0,.slice none 0 0,.string ⟨#[]⟩] [(0,(.t 65))]),P 67 (.app 4 64 (.t 64) (.t 66)),N 68 60,A 69 0 68,U 1 69 67] []))))))) (.reg [ P 70 (.bin .add (.t 25) (I .i64 1)),M 25 70]))))
def F_vfs_Newl1 : ICode := (.seq (.reg [ P 78 (.bin .lss (.t 77) (.t 76))]) (.seq (.cond (.t 78) .skip (.exit 2)) (.seq (.block 3 (.seq (.reg [ P 79 (.ixa 4 (.t 75) (.t 77)),P 80 (.loadN 4 (.t 79)),P 11 (.alloc 4 [.string ⟨#[]⟩,.int .i64 0,.slice none 0 0,.string ⟨#[]⟩]),U 4 11 80]) (.seq (.dreg [ M 82 4,N 83 82,A 84 1 83,L 85 84,A 86 0 11,L 87 86,P 88 (.callc 19 [(.t 87)]),P 89 (.lku 2 false true [.int .i64 0] (.t 85) (.t 88)),M 81 89,X 90 81 0,X 91 81 1,M 12 90,M 13 91] []) (.seq (.reg [ M 92 13,P 93 (.un .not (.t 92)),M 94 93,⟨some 95,.mv (.t 4),some (2,false)⟩,⟨some 96,.nilc (.t 95),some (2,false)⟩,⟨some 97,.fa 0 (.t 96),some (2,false)⟩,⟨some 98,.load (.t 97),some (2,false)⟩,⟨some 99,.mv (.t 12),some (2,false)⟩,⟨some 100,.ixa 4 (.t 98) (.t 99),some (2,false)⟩,⟨some 101,.fa 1 (.t 100),some (2,false)⟩,⟨some 102,.load (.t 101),some (2,false)⟩,⟨some 103,.bin .neq (.t 102) (I .i64 1),some (2,false)⟩,P 104 (.pick (.t 94) (B true) (.t 103))]) (.cond (.t 104) (.seq (.reg [ P 2 (.mv (.c (.pointer none))),P 3 (.mv (I .i64 62))]) .ret) .skip))))) (.reg [ P 105 (.bin .add (.t 77) (I .i64 1)),M 77 105]))))
def F_vfs_Newc : ICode := (.seq (.reg [ P 2 (.mv (.c (.pointer none))),P 3 (.mv (I .i64 0))]) (.seq (.seq (.reg [ M 14 0,P 15 (.len 1 (.t 14)),P 16 (.bin .gtr (.t 15) (I .i64 256))]) (.cond (.t 16) (.seq (.reg [ P 2 (.mv (.c (.pointer none))),P 3 (.mv (I .i64 68))]) .ret) .skip)) (.seq (.reg [ P 17 (.bld [.string ⟨#[]⟩,.int .i64 0,.slice none 0 0,.string ⟨#[]⟩] [(0,1,(.c (.string ⟨#[47]⟩))),(1,1,(I .i64 1))]),P 18 (.bsl 4 1 [.string ⟨#[]⟩,.int .i64 0,.slice none 0 0,.string ⟨#[]⟩] [(0,(.t 17))]),P 19 (.mkm),⟨none,.mup 2 (.t 19) (.c (.string ⟨#[47]⟩)) (I .i64 0),none⟩,M 20 19,P 21 (.bld [.slice none 0 0,.map none] [(0,1,(.t 18)),(1,1,(.t 20))]),P 22 (.box 2 (.t 21)),M 4 22]) (.seq (.seq (.reg [ M 23 0,P 24 (.len 1 (.t 23)),P 25 (.mv (I .i64 0))]) (.block 0 (.loop F_vfs_Newl0))) (.seq (.seq (.reg [ M 71 4,N 72 71,A 73 0 72,L 74 73,P 75 (.sle 4 (.t 74) (some (I .i64 1)) none none),P 76 (.len 1 (.t 75)),P 77 (.mv (I .i64 0))]) (.block 2 (.loop F_vfs_Newl1))) (.seq (.reg [ M 106 4,M 2 106,P 3 (.mv (I .i64 0))]) .ret))))))
def F_vfs_New : IFn := ⟨107, [.tmp 2, .tmp 3], F_vfs_Newc⟩
set_option maxRecDepth 1000000 in
theorem F_vfs_New_chk : chkF Tryz.prog 13 F_vfs_New = true := by kernel_rfl

/-! ### table_New -/
def F_table_Newc : ICode := (.seq (.reg [ P 2 (.mv (.c (.pointer none))),P 3 (.mv (I .i64 0))]) (.seq (.seq (.reg [ M 4 0,P 5 (.bin .lss (.t 4) (I .i64 1)),M 6 5,⟨some 7,.mv (.t 0),some (2,false)⟩,⟨some 8,.bin .gtr (.t 7) (I .i64 64),some (2,false)⟩,P 9 (.pick (.t 6) (B true) (.t 8))]) (.cond (.t 9) (.seq (.reg [ P 2 (.mv (.c (.pointer none))),P 3 (.mv (I .i64 221))]) .ret) .skip)) (.seq (.reg [ M 10 0,P 11 (.mkm),P 12 (.bld [.int .i64 0,.int .i64 0,.slice none 0 0,.map none] [(0,1,(.t 10)),(1,1,(I .i64 1)),(3,1,(.t 11))]),P 13 (.box 4 (.t 12)),M 2 13,P 3 (.mv (I .i64 0))]) .ret)))
def F_table_New : IFn := ⟨14, [.tmp 2, .tmp 3], F_table_Newc⟩
set_option maxRecDepth 1000000 in
theorem F_table_New_chk : chkF Tryz.prog 14 F_table_New = true := by kernel_rfl

/-! ### slices_Clone_int_int -/
def F_slices_Clone_int_intc : ICode := (.seq (.reg [ P 2 (.mv (.c (.slice none 0 0)))]) (.seq (.seq (.reg [ M 3 0,P 4 (.eqn 1 false (.t 3) (.c (.slice none 0 0)))]) (.cond (.t 4) (.seq (.reg [ P 2 (.mv (.c (.slice none 0 0)))]) .ret) .skip)) (.seq (.reg [ P 5 (.bslz 1),M 6 0,P 7 (.appf 1 8 (.t 5) (.t 6)),M 2 7]) .ret)))
def F_slices_Clone_int_int : IFn := ⟨8, [.tmp 2], F_slices_Clone_int_intc⟩
set_option maxRecDepth 1000000 in
theorem F_slices_Clone_int_int_chk : chkF Tryz.prog 29 F_slices_Clone_int_int = true := by kernel_rfl

/-! ### table_Table_Copy -/
def F_table_Table_Copyl0 : ICode := (.seq (.reg [ P 24 (.bin .lss (.t 23) (.t 22))]) (.seq (.cond (.t 24) .skip (.exit 0)) (.seq (.block 1 (.seq (.reg [ P 25 (.ixa 1 (.t 21) (.t 23)),L 26 25,M 5 26]) (.seq (.reg [ M 27 5,N 28 27,P 29 (.loadN 73 (.t 28)),P 6 (.alloc 73 [.int .i64 0,.int .i64 0,.int .i64 0,.int .u64 0,.int .u64 0,.string ⟨#[]⟩,.int .u16 0,.slice none 0 0,.int .u32 0,.int .u32 0,.int .u64 0,.int .u64 0,.int .u64 0,.int .u64 0,.int .u64 0,.int .u32 0,.int .u32 0,.int .u64 0,.int .u64 0,.int .u64 0,.int .u64 0,.int .u64 0,.string ⟨#[]⟩,.string ⟨#[]⟩,.slice none 0 0,.bool false,.bool false,.bool false,.bool false,.int .u64 0,.int .u64 0,.int .u64 0,.int .u64 0,.int .u64 0,.int .u64 0,.int .u64 0,.int .u64 0,.int .u64 0,.int .u64 0,.bool false,.int .u64 0,.int .u64 0,.bool false,.int .u64 0,.int .u64 0,.bool false,.int .u64 0,.int .u64 0,.bool false,.int .u64 0,.int .u64 0,.bool false,.int .u64 0,.int .u64 0,.bool false,.bool false,.bool false,.int .u64 0,.int .u64 0,.bool false,.int .u64 0,.int .u64 0,.slice none 0 0,.slice none 0 0,.int .i64 0,.int .i64 0,.int .u64 0,.slice none 0 0,.slice none 0 0,.int .i64 0,.int .i64 0,.bool false,.bool false]),U 73 6 29]) (.seq (.dreg [ M 30 5,N 31 30,A 32 67 31,L 33 32,P 34 (.call 29 [(.t 33)]),M 35 5,N 36 35,A 37 68 36,L 38 37,P 39 (.call 29 [(.t 38)]),A 40 67 6,U 1 40 34,A 41 68 6,U 1 41 39] [(8, 0)]) (.seq (.reg [ M 42 3,M 43 3,N 44 43,A 45 2 44,L 46 45,P 47 (.bsli 1 1 [.pointer none] [(0,(.t 6))]),P 48 (.app 1 8 (.t 46) (.t 47)),N 49 42,A 50 2 49,U 1 50 48]) (.dreg [ M 51 3,N 52 51,A 53 3 52,L 54 53,A 55 0 6,L 56 55,⟨none,.mup 0 (.t 54) (.t 56) (.t 6),none⟩] [])))))) (.reg [ P 57 (.bin .add (.t 23) (I .i64 1)),M 23 57]))))
def F_table_Table_Copyc : ICode := (.seq (.reg [ P 2 (.mv (.c (.pointer none)))]) (.seq (.dreg [ M 7 0,N 8 7,A 9 0 8,L 10 9,M 11 0,N 12 11,A 13 1 12,L 14 13,P 15 (.mkm),P 16 (.bld [.int .i64 0,.int .i64 0,.slice none 0 0,.map none] [(0,1,(.t 10)),(1,1,(.t 14)),(3,1,(.t 15))]),P 17 (.box 4 (.t 16)),M 3 17] [(3, 9), (7, 9)]) (.seq (.seq (.reg [ M 18 0,N 19 18,A 20 2 19,L 21 20,P 22 (.len 1 (.t 21)),P 23 (.mv (I .i64 0))]) (.block 0 (.loop F_table_Table_Copyl0))) (.seq (.reg [ M 58 3,M 2 58]) .ret))))
def F_table_Table_Copy : IFn := ⟨59, [.tmp 2], F_table_Table_Copyc⟩
set_option maxRecDepth 1000000 in
theorem F_table_Table_Copy_chk : chkF Tryz.prog 20 F_table_Table_Copy = true := by kernel_rfl

/-! ### table_Table_Next -/
def F_table_Table_Nextc : ICode := (.seq (.reg [ P 2 (.mv (I .i64 0))]) (.seq (.reg [ M 3 0,N 4 3,A 5 1 4,L 6 5,M 2 6]) .ret))
def F_table_Table_Next : IFn := ⟨7, [.tmp 2], F_table_Table_Nextc⟩
set_option maxRecDepth 1000000 in
theorem F_table_Table_Next_chk : chkF Tryz.prog 21 F_table_Table_Next = true := by kernel_rfl

/-! ### table_Table_Get -/
def F_table_Table_Getc : ICode := (.seq (.reg [ P 4 (.mv (.c (.pointer none)))]) (.seq (.reg [ M 5 0,N 6 5,A 7 3 6,L 8 7,M 9 1,P 10 (.lku 0 false false [.pointer none] (.t 8) (.t 9)),M 4 10]) .ret))
def F_table_Table_Get : IFn := ⟨11, [.tmp 4], F_table_Table_Getc⟩
set_option maxRecDepth 1000000 in
theorem F_table_Table_Get_chk : chkF Tryz.prog 23 F_table_Table_Get = true := by kernel_rfl

/-! ### strings_Index -/
def F_strings_Indexc : ICode := (.seq (.reg [ P 4 (.mv (I .i64 0))]) (.seq (.reg [ M 5 0,M 6 1,P 7 (.callc 118 [(.t 5),(.t 6)]),M 4 7]) .ret))
def F_strings_Index : IFn := ⟨8, [.tmp 4], F_strings_Indexc⟩
set_option maxRecDepth 1000000 in
theorem F_strings_Index_chk : chkF Tryz.prog 88 F_strings_Index = true := by kernel_rfl

/-! ### strings_Contains -/
def F_strings_Containsc : ICode := (.seq (.reg [ P 4 (.mv (B false))]) (.seq (.reg [ M 5 0,M 6 1,P 7 (.callc 88 [(.t 5),(.t 6)]),P 8 (.bin .geq (.t 7) (I .i64 0)),M 4 8]) .ret))
def F_strings_Contains : IFn := ⟨9, [.tmp 4], F_strings_Containsc⟩
set_option maxRecDepth 1000000 in
theorem F_strings_Contains_chk : chkF Tryz.prog 54 F_strings_Contains = true := by kernel_rfl

/-! ### search_HasPath -/
def F_search_HasPathc : ICode := (.seq (.reg [ P 2 (.mv (B false))]) (.seq (.reg [ M 3 0,P 4 (.callc 54 [(.t 3),(.c (.string ⟨#[47]⟩))]),M 2 4]) .ret))
def F_search_HasPath : IFn := ⟨5, [.tmp 2], F_search_HasPathc⟩
set_option maxRecDepth 1000000 in
theorem F_search_HasPath_chk : chkF Tryz.prog 32 F_search_HasPath = true := by kernel_rfl

/-! ### explain_teller_tell -/
def F_explain_teller_tellc : ICode := (.seq (.reg [ P 8 (.box 3 (.t 2))]) (.dreg [ M 12 0,M 13 0,N 14 13,A 15 10 14,L 16 15,M 17 0,N 18 17,A 19 0 18,A 20 1 19,L 21 20,M 22 1,P 23 (.ixa 7 (.t 21) (.t 22)),A 24 0 23,L 25 24,A 26 1 8,L 27 26,A 28 2 8,L 29 28,M 30 3,M 31 4,M 32 5,P 33 (.bld [.string ⟨#[]⟩,.string ⟨#[]⟩,.int .i64 0,.string ⟨#[]⟩,.int .i64 0,.int .i64 0] [(0,1,(.t 25)),(1,1,(.t 27)),(2,1,(.t 29)),(3,1,(.t 30)),(4,1,(.t 31)),(5,1,(.t 32))]),P 34 (.bsli 6 1 [.string ⟨#[]⟩,.string ⟨#[]⟩,.int .i64 0,.string ⟨#[]⟩,.int .i64 0,.int .i64 0] [(0,(.t 33))]),P 35 (.app 6 72 (.t 16) (.t 34)),N 36 12,A 37 10 36,U 1 37 35] []))
def F_explain_teller_tell : IFn := ⟨38, [], F_explain_teller_tellc⟩
set_option maxRecDepth 1000000 in
theorem F_explain_teller_tell_chk : chkF Tryz.prog 35 F_explain_teller_tell = true := by kernel_rfl

/-! ### policy_has -/
def F_policy_hasl0 : ICode := (.seq (.reg [ P 10 (.bin .lss (.t 9) (.t 8))]) (.seq (.cond (.t 10) .skip (.exit 0)) (.seq (.block 1 (.seq (.reg [ P 11 (.ixa 1 (.t 7) (.t 9)),L 12 11,M 6 12]) (.seq (.reg [ M 13 6,M 14 1,P 15 (.bin .eql (.t 13) (.t 14))]) (.cond (.t 15) (.seq (.reg [ P 4 (.mv (B true))]) .ret) .skip)))) (.reg [ P 16 (.bin .add (.t 9) (I .i64 1)),M 9 16]))))
def F_policy_hasc : ICode := (.seq (.reg [ P 4 (.mv (B false))]) (.seq (.seq (.reg [ M 7 0,P 8 (.len 1 (.t 7)),P 9 (.mv (I .i64 0))]) (.block 0 (.loop F_policy_hasl0))) (.seq (.reg [ P 4 (.mv (B false))]) .ret)))
def F_policy_has : IFn := ⟨17, [.tmp 4], F_policy_hasc⟩
set_option maxRecDepth 1000000 in
theorem F_policy_has_chk : chkF Tryz.prog 55 F_policy_has = true := by kernel_rfl

/-! ### policy_Allowed -/
def F_policy_Allowedc : ICode := (.seq (.reg [ P 2 (.box 7 (.t 0)),P 4 (.mv (B false))]) (.seq (.reg [ A 5 5 2,L 6 5,P 7 (.len 1 (.t 6)),P 8 (.bin .eql (.t 7) (I .i64 0)),M 9 8,⟨some 10,.fa 5 (.t 2),some (4,false)⟩,⟨some 11,.load (.t 10),some (4,false)⟩,⟨some 12,.mv (.t 1),some (4,false)⟩,⟨some 13,.calll 55 [(.t 11),(.t 12)],some (4,false)⟩,P 14 (.pick (.t 9) (B true) (.t 13)),M 4 14]) .ret))
def F_policy_Allowed : IFn := ⟨15, [.tmp 4], F_policy_Allowedc⟩
set_option maxRecDepth 1000000 in
theorem F_policy_Allowed_chk : chkF Tryz.prog 47 F_policy_Allowed = true := by kernel_rfl

/-! ### table_Table_first -/
def F_table_Table_firstl0 : ICode := (.seq (.reg [ P 13 (.bin .lss (.t 12) (.t 11))]) (.seq (.cond (.t 13) .skip (.exit 0)) (.seq (.block 1 (.seq (.reg [ P 14 (.ixa 1 (.t 10) (.t 12)),L 15 14,M 6 15]) (.seq (.reg [ M 16 1,M 17 6,P 18 (.callv (.t 16) [(.t 17)])]) (.cond (.t 18) (.seq (.reg [ M 19 6,M 4 19]) .ret) .skip)))) (.reg [ P 20 (.bin .add (.t 12) (I .i64 1)),M 12 20]))))
def F_table_Table_firstc : ICode := (.seq (.reg [ P 4 (.mv (.c (.pointer none)))]) (.seq (.seq (.reg [ M 7 0,N 8 7,A 9 2 8,L 10 9,P 11 (.len 1 (.t 10)),P 12 (.mv (I .i64 0))]) (.block 0 (.loop F_table_Table_firstl0))) (.seq (.reg [ P 4 (.mv (.c (.pointer none)))]) .ret)))
def F_table_Table_first : IFn := ⟨21, [.tmp 4], F_table_Table_firstc⟩
set_option maxRecDepth 1000000 in
theorem F_table_Table_first_chk : chkF Tryz.prog 72 F_table_Table_first = true := by kernel_rfl

/-! ### table_Inst_Name -/
def F_table_Inst_Namel0 : ICode := (.seq (.seq (.reg [ M 23 3,P 24 (.bin .gtr (.t 23) (I .i64 0)),M 25 24,⟨some 26,.mv (.t 0),some (2,true)⟩,⟨some 27,.nilc (.t 26),some (2,true)⟩,⟨some 28,.fa 2 (.t 27),some (2,true)⟩,⟨some 29,.fa 3 (.t 28),some (2,true)⟩,⟨some 30,.load (.t 29),some (2,true)⟩,⟨some 31,.mv (.t 3),some (2,true)⟩,⟨some 32,.bin .sub (.t 31) (I .i64 1),some (2,true)⟩,⟨some 33,.ixs (.t 30) (.t 32),some (2,true)⟩,⟨some 34,.bin .neq (.t 33) (I .u8 47),some (2,true)⟩,P 35 (.pick (.t 25) (.t 34) (B false))]) (.cond (.t 35) .skip (.exit 0))) (.block 1 (.reg [ M 36 3,P 37 (.bin .sub (.t 36) (I .i64 1)),M 3 37])))
def F_table_Inst_Namec : ICode := (.seq (.reg [ P 2 (.mv (.c (.string ⟨#[]⟩)))]) (.seq (.seq (.reg [ M 4 0,N 5 4,A 6 6 5,A 7 16 6,A 8 0 7,L 9 8,P 10 (.bin .neq (.t 9) (.c (.string ⟨#[]⟩)))]) (.cond (.t 10) (.seq (.reg [ M 11 0,N 12 11,A 13 6 12,A 14 16 13,A 15 0 14,L 16 15,M 2 16]) .ret) .skip)) (.seq (.reg [ M 17 0,N 18 17,A 19 2 18,A 20 3 19,L 21 20,P 22 (.len 0 (.t 21)),M 3 22]) (.seq (.block 0 (.loop F_table_Inst_Namel0)) (.seq (.reg [ M 38 0,N 39 38,A 40 2 39,A 41 3 40,L 42 41,M 43 3,P 44 (.sls (.t 42) (some (.t 43)) none),M 2 44]) .ret)))))
def F_table_Inst_Name : IFn := ⟨45, [.tmp 2], F_table_Inst_Namec⟩
set_option maxRecDepth 1000000 in
theorem F_table_Inst_Name_chk : chkF Tryz.prog 74 F_table_Inst_Name = true := by kernel_rfl

/-! ### table_Table_ByName_1 -/
def F_table_Table_ByName_1c : ICode := (.seq (.reg [ P 4 (.mv (B false))]) (.seq (.dreg [ M 5 0,N 6 5,A 7 1 6,L 8 7,L 9 1,P 10 (.bin .eql (.t 8) (.t 9)),M 11 10,⟨some 12,.mv (.t 0),some (6,true)⟩,⟨some 13,.call 74 [(.t 12)],some (6,true)⟩,⟨some 14,.load (.t 2),some (6,true)⟩,⟨some 15,.bin .eql (.t 13) (.t 14),some (6,true)⟩,P 16 (.pick (.t 11) (.t 15) (B false)),M 4 16] [(9, 0)]) .ret))
def F_table_Table_ByName_1 : IFn := ⟨17, [.tmp 4], F_table_Table_ByName_1c⟩
set_option maxRecDepth 1000000 in
theorem F_table_Table_ByName_1_chk : chkF Tryz.prog 73 F_table_Table_ByName_1 = true := by kernel_rfl

/-! ### table_Table_ByName -/
def F_table_Table_ByNamec : ICode := (.seq (.reg [ P 4 (.box 1 (.t 1)),P 5 (.box 1 (.t 2)),P 6 (.mv (.c (.pointer none)))]) (.seq (.reg [ M 7 0,P 8 (.mkf 73 [] [(.t 4),(.t 5)]),P 9 (.call 72 [(.t 7),(.t 8)]),M 6 9]) .ret))
def F_table_Table_ByName : IFn := ⟨10, [.tmp 6], F_table_Table_ByNamec⟩
set_option maxRecDepth 1000000 in
theorem F_table_Table_ByName_chk : chkF Tryz.prog 48 F_table_Table_ByName = true := by kernel_rfl

/-! ### path_List -/
def F_path_Listl0 : ICode := (.seq (.reg [ P 10 (.bin .lss (.t 9) (.t 8))]) (.seq (.cond (.t 10) .skip (.exit 0)) (.seq (.block 1 (.seq (.reg [ P 11 (.ixa 1 (.t 7) (.t 9)),L 12 11,M 5 12]) (.seq (.reg [ M 13 5,P 14 (.bin .neq (.t 13) (.c (.string ⟨#[]⟩)))]) (.cond (.t 14) (.reg [ M 15 3,M 16 5,P 17 (.bsli 1 1 [.string ⟨#[]⟩] [(0,(.t 16))]),P 18 (.app 1 16 (.t 15) (.t 17)),M 3 18]) .skip)))) (.reg [ P 19 (.bin .add (.t 9) (I .i64 1)),M 9 19]))))
def F_path_Listc : ICode := (.seq (.reg [ P 2 (.mv (.c (.slice none 0 0)))]) (.seq (.reg [ P 3 (.mv (.c (.slice none 0 0)))]) (.seq (.seq (.reg [ M 6 0,P 7 (.callc 102 [(.t 6),(.c (.string ⟨#[58]⟩))]),P 8 (.len 1 (.t 7)),P 9 (.mv (I .i64 0))]) (.block 0 (.loop F_path_Listl0))) (.seq (.reg [ M 20 3,M 2 20]) .ret))))
def F_path_List : IFn := ⟨21, [.tmp 2], F_path_Listc⟩
set_option maxRecDepth 1000000 in
theorem F_path_List_chk : chkF Tryz.prog 75 F_path_List = true := by kernel_rfl

/-! ### internal_stringslite_Cut -/
def F_internal_stringslite_Cutc : ICode := (.seq (.reg [ P 4 (.mv (.c (.string ⟨#[]⟩))),P 5 (.mv (.c (.string ⟨#[]⟩))),P 6 (.mv (B false))]) (.seq (.seq (.reg [ M 8 0,M 9 1,P 10 (.callc 118 [(.t 8),(.t 9)]),M 7 10]) (.seq (.reg [ M 11 7,P 12 (.bin .geq (.t 11) (I .i64 0))]) (.cond (.t 12) (.seq (.dreg [ M 13 0,M 14 7,P 15 (.sls (.t 13) none (some (.t 14))),M 16 0,M 17 7,M 18 1,P 19 (.len 0 (.t 18)),P 20 (.bin .add (.t 17) (.t 19)),P 21 (.sls (.t 16) (some (.t 20)) none),M 4 15,M 5 21,P 6 (.mv (B true))] []) .ret) .skip))) (.seq (.reg [ M 22 0,M 4 22,P 5 (.mv (.c (.string ⟨#[]⟩))),P 6 (.mv (B false))]) .ret)))
def F_internal_stringslite_Cut : IFn := ⟨23, [.tmp 4, .tmp 5, .tmp 6], F_internal_stringslite_Cutc⟩
set_option maxRecDepth 1000000 in
theorem F_internal_stringslite_Cut_chk : chkF Tryz.prog 125 F_internal_stringslite_Cut = true := by kernel_rfl

/-! ### strings_Cut -/
def F_strings_Cutc : ICode := (.seq (.reg [ P 4 (.mv (.c (.string ⟨#[]⟩))),P 5 (.mv (.c (.string ⟨#[]⟩))),P 6 (.mv (B false))]) (.seq (.reg [ M 7 0,M 8 1,P 9 (.callc 125 [(.t 7),(.t 8)]),X 10 9 0,X 11 9 1,X 12 9 2,M 4 10,M 5 11,M 6 12]) .ret))
def F_strings_Cut : IFn := ⟨13, [.tmp 4, .tmp 5, .tmp 6], F_strings_Cutc⟩
set_option maxRecDepth 1000000 in
theorem F_strings_Cut_chk : chkF Tryz.prog 108 F_strings_Cut = true := by kernel_rfl

/-! ### path_Archive -/
def F_path_Archivec : ICode := (.seq (.reg [ P 2 (.mv (.c (.string ⟨#[]⟩))),P 3 (.mv (.c (.string ⟨#[]⟩))),P 4 (.mv (B false))]) (.seq (.reg [ M 5 0,P 6 (.callc 108 [(.t 5),(.c (.string ⟨#[33,47]⟩))]),X 7 6 0,X 8 6 1,X 9 6 2,M 2 7,M 3 8,M 4 9]) .ret))
def F_path_Archive : IFn := ⟨10, [.tmp 2, .tmp 3, .tmp 4], F_path_Archivec⟩
set_option maxRecDepth 1000000 in
theorem F_path_Archive_chk : chkF Tryz.prog 79 F_path_Archive = true := by kernel_rfl

/-! ### internal_stringslite_HasSuffix -/
def F_internal_stringslite_HasSuffixc : ICode := (.seq (.reg [ P 4 (.mv (B false))]) (.seq (.reg [ M 5 0,P 6 (.len 0 (.t 5)),M 7 1,P 8 (.len 0 (.t 7)),P 9 (.bin .geq (.t 6) (.t 8)),M 10 9,⟨some 11,.mv (.t 0),some (5,true)⟩,⟨some 12,.mv (.t 0),some (5,true)⟩,⟨some 13,.len 0 (.t 12),some (5,true)⟩,⟨some 14,.mv (.t 1),some (5,true)⟩,⟨some 15,.len 0 (.t 14),some (5,true)⟩,⟨some 16,.bin .sub (.t 13) (.t 15),some (5,true)⟩,⟨some 17,.sls (.t 11) (some (.t 16)) none,some (5,true)⟩,⟨some 18,.mv (.t 1),some (5,true)⟩,⟨some 19,.bin .eql (.t 17) (.t 18),some (5,true)⟩,P 20 (.pick (.t 10) (.t 19) (B false)),M 4 20]) .ret))
def F_internal_stringslite_HasSuffix : IFn := ⟨21, [.tmp 4], F_internal_stringslite_HasSuffixc⟩
set_option maxRecDepth 1000000 in
theorem F_internal_stringslite_HasSuffix_chk : chkF Tryz.prog 124 F_internal_stringslite_HasSuffix = true := by kernel_rfl

/-! ### strings_HasSuffix -/
def F_strings_HasSuffixc : ICode := (.seq (.reg [ P 4 (.mv (B false))]) (.seq (.reg [ M 5 0,M 6 1,P 7 (.callc 124 [(.t 5),(.t 6)]),M 4 7]) .ret))
def F_strings_HasSuffix : IFn := ⟨8, [.tmp 4], F_strings_HasSuffixc⟩
set_option maxRecDepth 1000000 in
theorem F_strings_HasSuffix_chk : chkF Tryz.prog 107 F_strings_HasSuffix = true := by kernel_rfl

/-! ### search_below -/
def F_search_belowc : ICode := (.seq (.reg [ P 4 (.mv (.c (.string ⟨#[]⟩)))]) (.seq (.seq (.reg [ M 5 0,P 6 (.callc 107 [(.t 5),(.c (.string ⟨#[47]⟩))])]) (.cond (.t 6) (.seq (.reg [ M 7 0,M 8 1,P 9 (.bin .add (.t 7) (.t 8)),M 4 9]) .ret) .skip)) (.seq (.reg [ M 10 0,P 11 (.bin .add (.t 10) (.c (.string ⟨#[47]⟩))),M 12 1,P 13 (.bin .add (.t 11) (.t 12)),M 4 13]) .ret)))
def F_search_below : IFn := ⟨14, [.tmp 4], F_search_belowc⟩
set_option maxRecDepth 1000000 in
theorem F_search_below_chk : chkF Tryz.prog 78 F_search_below = true := by kernel_rfl

/-! ### search_Places -/
def F_search_Placesl0 : ICode := (.seq (.reg [ P 23 (.bin .lss (.t 22) (.t 21))]) (.seq (.cond (.t 23) .skip (.exit 0)) (.seq (.block 1 (.seq (.reg [ P 24 (.ixa 1 (.t 20) (.t 22)),L 25 24,M 7 25]) (.seq (.seq (.reg [ M 27 7,P 28 (.callc 76 [(.t 27),(.c (.string ⟨#[36,79,82,73,71,73,78]⟩))]),M 26 28,X 29 26 0,X 30 26 1,M 8 29,M 9 30]) (.seq (.reg [ M 31 9,M 32 31,⟨some 33,.fa 2 (.t 3),some (1,true)⟩,⟨some 34,.load (.t 33),some (1,true)⟩,⟨some 35,.bin .neq (.t 34) (.c (.string ⟨#[]⟩)),some (1,true)⟩,P 36 (.pick (.t 32) (.t 35) (B false))]) (.cond (.t 36) (.reg [ A 37 2 3,L 38 37,P 39 (.callc 77 [(.t 38)]),M 40 8,P 41 (.bin .add (.t 39) (.t 40)),M 7 41]) .skip))) (.reg [ M 42 5,M 43 7,A 44 0 3,L 45 44,P 46 (.callc 78 [(.t 43),(.t 45)]),P 47 (.bsli 1 1 [.string ⟨#[]⟩] [(0,(.t 46))]),P 48 (.app 1 16 (.t 42) (.t 47)),M 5 48])))) (.reg [ P 49 (.bin .add (.t 22) (I .i64 1)),M 22 49]))))
def F_search_Placesl1 : ICode := (.seq (.reg [ P 54 (.bin .lss (.t 53) (.t 52))]) (.seq (.cond (.t 54) .skip (.exit 2)) (.seq (.block 3 (.seq (.reg [ P 55 (.ixa 1 (.t 51) (.t 53)),L 56 55,M 11 56]) (.reg [ M 57 5,M 58 11,A 59 0 3,L 60 59,P 61 (.callc 78 [(.t 58),(.t 60)]),P 62 (.bsli 1 1 [.string ⟨#[]⟩] [(0,(.t 61))]),P 63 (.app 1 16 (.t 57) (.t 62)),M 5 63]))) (.reg [ P 64 (.bin .add (.t 53) (I .i64 1)),M 53 64]))))
def F_search_Placesc : ICode := (.seq (.reg [ P 2 (.box 7 (.t 0)),P 3 (.box 3 (.t 1)),P 4 (.mv (.c (.slice none 0 0)))]) (.seq (.seq (.reg [ A 12 0 3,L 13 12,P 14 (.callc 32 [(.t 13)])]) (.cond (.t 14) (.seq (.reg [ A 15 0 3,L 16 15,P 17 (.bsli 1 1 [.string ⟨#[]⟩] [(0,(.t 16))]),M 4 17]) .ret) .skip)) (.seq (.reg [ P 5 (.mv (.c (.slice none 0 0)))]) (.seq (.seq (.reg [ A 18 1 3,L 19 18,P 20 (.callc 75 [(.t 19)]),P 21 (.len 1 (.t 20)),P 22 (.mv (I .i64 0))]) (.block 0 (.loop F_search_Placesl0))) (.seq (.seq (.reg [ A 50 3 2,L 51 50,P 52 (.len 1 (.t 51)),P 53 (.mv (I .i64 0))]) (.block 2 (.loop F_search_Placesl1))) (.seq (.reg [ M 65 5,M 4 65]) .ret))))))
def F_search_Places : IFn := ⟨66, [.tmp 4], F_search_Placesc⟩
set_option maxRecDepth 1000000 in
theorem F_search_Places_chk : chkF Tryz.prog 49 F_search_Places = true := by kernel_rfl

/-! ### vfs_walk_step -/
def F_vfs_walk_stepc : ICode := (.seq (.reg [ P 4 (.mv (I .i64 0)),P 5 (.mv (B false)),P 6 (.mv (I .i64 0))]) (.seq (.reg [ M 11 0,N 12 11,A 13 0 12,L 14 13,N 15 14,A 16 1 15,L 17 16,M 18 1,P 19 (.lku 2 false true [.int .i64 0] (.t 17) (.t 18)),M 10 19,X 20 10 0,X 21 10 1,M 7 20,M 8 21]) (.seq (.seq (.reg [ M 22 8,P 23 (.un .not (.t 22))]) (.cond (.t 23) (.seq (.reg [ P 4 (.mv (I .i64 0)),P 5 (.mv (B false)),P 6 (.mv (I .i64 63))]) .ret) .skip)) (.seq (.reg [ M 24 0,N 25 24,A 26 0 25,L 27 26,N 28 27,A 29 0 28,L 30 29,M 31 7,P 32 (.ixa 4 (.t 30) (.t 31)),P 33 (.loadN 4 (.t 32)),P 9 (.alloc 4 [.string ⟨#[]⟩,.int .i64 0,.slice none 0 0,.string ⟨#[]⟩]),U 4 9 33]) (.seq (.seq (.reg [ A 34 1 9,L 35 34]) (.block 0 (.seq (.reg [ P 44 (.bin .eql (.t 35) (I .i64 1)),M 43 44]) (.cond (.t 43) (.reg [ M 45 0,M 46 1,N 47 45,A 48 1 47,U 1 48 46]) (.seq (.reg [ P 50 (.bin .eql (.t 35) (I .i64 3)),M 49 50]) (.cond (.t 49) (.seq (.reg [ M 51 0,N 52 51,A 53 3 52,L 54 53,P 55 (.bin .add (.t 54) (I .i64 1)),N 56 51,A 57 3 56,U 1 57 55]) (.seq (.seq (.reg [ M 58 0,N 59 58,A 60 3 59,L 61 60,P 62 (.bin .gtr (.t 61) (I .i64 8))]) (.cond (.t 62) (.seq (.reg [ P 4 (.mv (I .i64 0)),P 5 (.mv (B false)),P 6 (.mv (I .i64 64))]) .ret) .skip)) (.seq (.seq (.reg [ A 63 3 9,L 64 63,P 65 (.ixs (.t 64) (I .i64 0)),P 66 (.bin .eql (.t 65) (I .u8 47))]) (.cond (.t 66) (.reg [ M 67 0,N 68 67,A 69 1 68,⟨none,.store 1 (.t 69) (.c (.string ⟨#[47]⟩)),none⟩]) .skip)) (.dreg [ M 70 0,A 71 3 9,L 72 71,P 73 (.call 69 [(.t 72)]),M 74 0,N 75 74,A 76 2 75,L 77 76,P 78 (.app 1 16 (.t 73) (.t 77)),N 79 70,A 80 2 79,U 1 80 78] [(7, 0)])))) (.seq (.seq (.reg [ M 36 0,N 37 36,A 38 2 37,L 39 38,P 40 (.len 1 (.t 39)),P 41 (.bin .gtr (.t 40) (I .i64 0))]) (.cond (.t 41) (.seq (.reg [ P 4 (.mv (I .i64 0)),P 5 (.mv (B false)),P 6 (.mv (I .i64 65))]) .ret) .skip)) (.seq (.reg [ M 42 7,M 4 42,P 5 (.mv (B true)),P 6 (.mv (I .i64 0))]) .ret)))))))) (.seq (.reg [ P 4 (.mv (I .i64 0)),P 5 (.mv (B false)),P 6 (.mv (I .i64 0))]) .ret))))))
def F_vfs_walk_step : IFn := ⟨81, [.tmp 4, .tmp 5, .tmp 6], F_vfs_walk_stepc⟩
set_option maxRecDepth 1000000 in
theorem F_vfs_walk_step_chk : chkF Tryz.prog 126 F_vfs_walk_step = true := by kernel_rfl

/-! ### vfs_below -/
def F_vfs_belowc : ICode := (.seq (.reg [ P 4 (.mv (.c (.string ⟨#[]⟩)))]) (.seq (.seq (.reg [ M 5 0,P 6 (.bin .eql (.t 5) (.c (.string ⟨#[47]⟩)))]) (.cond (.t 6) (.seq (.reg [ M 7 1,P 8 (.bin .add (.c (.string ⟨#[47]⟩)) (.t 7)),M 4 8]) .ret) .skip)) (.seq (.reg [ M 9 0,P 10 (.bin .add (.t 9) (.c (.string ⟨#[47]⟩))),M 11 1,P 12 (.bin .add (.t 10) (.t 11)),M 4 12]) .ret)))
def F_vfs_below : IFn := ⟨13, [.tmp 4], F_vfs_belowc⟩
set_option maxRecDepth 1000000 in
theorem F_vfs_below_chk : chkF Tryz.prog 127 F_vfs_below = true := by kernel_rfl

/-! ### vfs_FS_Resolve -/
def F_vfs_FS_Resolvel0 : ICode := (.seq (.seq (.reg [ M 27 9,N 28 27,A 29 2 28,L 30 29,P 31 (.len 1 (.t 30)),P 32 (.bin .gtr (.t 31) (I .i64 0))]) (.cond (.t 32) .skip (.exit 0))) (.block 1 (.seq (.reg [ M 33 9,N 34 33,A 35 2 34,L 36 35,P 37 (.ixa 1 (.t 36) (I .i64 0)),L 38 37,M 10 38]) (.seq (.reg [ M 39 9,M 40 9,N 41 40,A 42 2 41,L 43 42,P 44 (.sle 1 (.t 43) (some (I .i64 1)) none none),N 45 39,A 46 2 45,U 1 46 44]) (.seq (.seq (.reg [ M 47 10,P 48 (.bin .eql (.t 47) (.c (.string ⟨#[46,46]⟩)))]) (.cond (.t 48) (.seq (.reg [ M 49 9,M 50 9,N 51 50,A 52 1 51,L 53 52,P 54 (.callc 19 [(.t 53)]),N 55 49,A 56 1 55,U 1 56 54]) (.exit 1)) .skip)) (.seq (.reg [ M 58 9,M 59 9,N 60 59,A 61 1 60,L 62 61,M 63 10,P 64 (.callc 127 [(.t 62),(.t 63)]),P 65 (.call 126 [(.t 58),(.t 64)]),M 57 65,X 66 57 0,X 67 57 1,X 68 57 2,M 11 66,M 12 67,M 13 68]) (.seq (.seq (.reg [ M 69 13,P 70 (.bin .neq (.t 69) (I .i64 0))]) (.cond (.t 70) (.seq (.reg [ M 71 13,P 4 (.mv (I .i64 0)),P 5 (.mv (.c (.string ⟨#[]⟩))),M 6 71]) .ret) .skip)) (.seq (.reg [ M 72 12]) (.cond (.t 72) (.seq (.dreg [ M 73 11,M 74 0,N 75 74,A 76 0 75,L 77 76,M 78 11,P 79 (.ixa 4 (.t 77) (.t 78)),A 80 0 79,L 81 80,M 4 73,M 5 81,P 6 (.mv (I .i64 0))] []) .ret) .skip)))))))))
def F_vfs_FS_Resolvec : ICode := (.seq (.reg [ P 4 (.mv (I .i64 0)),P 5 (.mv (.c (.string ⟨#[]⟩))),P 6 (.mv (I .i64 0))]) (.seq (.seq (.reg [ M 15 1,P 16 (.callc 43 [(.t 15)]),M 14 16,X 17 14 0,X 18 14 1,M 7 17,M 8 18]) (.seq (.reg [ M 19 8,P 20 (.bin .neq (.t 19) (I .i64 0))]) (.cond (.t 20) (.seq (.reg [ M 21 8,P 4 (.mv (I .i64 0)),P 5 (.mv (.c (.string ⟨#[]⟩))),M 6 21]) .ret) .skip))) (.seq (.reg [ M 22 0,M 23 1,P 24 (.callc 69 [(.t 23)]),P 25 (.bld [.pointer none,.string ⟨#[]⟩,.slice none 0 0,.int .i64 0] [(0,1,(.t 22)),(1,1,(.c (.string ⟨#[47]⟩))),(2,1,(.t 24))]),P 26 (.box 4 (.t 25)),M 9 26]) (.seq (.block 0 (.loop F_vfs_FS_Resolvel0)) (.seq (.dreg [ M 82 0,N 83 82,A 84 1 83,L 85 84,M 86 9,N 87 86,A 88 1 87,L 89 88,P 90 (.lku 2 false false [.int .i64 0] (.t 85) (.t 89)),M 91 9,N 92 91,A 93 1 92,L 94 93,M 4 90,M 5 94,P 6 (.mv (I .i64 0))] []) .ret)))))
def F_vfs_FS_Resolve : IFn := ⟨95, [.tmp 4, .tmp 5, .tmp 6], F_vfs_FS_Resolvec⟩
set_option maxRecDepth 1000000 in
theorem F_vfs_FS_Resolve_chk : chkF Tryz.prog 109 F_vfs_FS_Resolve = true := by kernel_rfl

/-! ### vfs_FS_Open -/
def F_vfs_FS_Openc : ICode := (.seq (.reg [ P 4 (.mv (I .i64 0)),P 5 (.mv (.c (.string ⟨#[]⟩))),P 6 (.mv (.c (.slice none 0 0))),P 7 (.mv (I .i64 0))]) (.seq (.reg [ M 12 0,M 13 1,P 14 (.call 109 [(.t 12),(.t 13)]),M 11 14,X 15 11 0,X 16 11 1,X 17 11 2,M 8 15,M 9 16,M 10 17]) (.seq (.seq (.reg [ M 18 10,P 19 (.bin .neq (.t 18) (I .i64 0))]) (.cond (.t 19) (.seq (.reg [ M 20 10,P 4 (.mv (I .i64 0)),P 5 (.mv (.c (.string ⟨#[]⟩))),P 6 (.mv (.c (.slice none 0 0))),M 7 20]) .ret) .skip)) (.seq (.seq (.reg [ M 21 0,N 22 21,A 23 0 22,L 24 23,M 25 8,P 26 (.ixa 4 (.t 24) (.t 25)),A 27 1 26,L 28 27,P 29 (.bin .neq (.t 28) (I .i64 2))]) (.cond (.t 29) (.seq (.reg [ P 4 (.mv (I .i64 0)),P 5 (.mv (.c (.string ⟨#[]⟩))),P 6 (.mv (.c (.slice none 0 0))),P 7 (.mv (I .i64 66))]) .ret) .skip)) (.seq (.reg [ M 30 8,M 31 9,M 32 0,N 33 32,A 34 0 33,L 35 34,M 36 8,P 37 (.ixa 4 (.t 35) (.t 36)),A 38 2 37,L 39 38,P 40 (.cpy 1 1 (.t 39)),M 4 30,M 5 31,M 6 40,P 7 (.mv (I .i64 0))]) .ret)))))
def F_vfs_FS_Open : IFn := ⟨41, [.tmp 4, .tmp 5, .tmp 6, .tmp 7], F_vfs_FS_Openc⟩
set_option maxRecDepth 1000000 in
theorem F_vfs_FS_Open_chk : chkF Tryz.prog 80 F_vfs_FS_Open = true := by kernel_rfl

/-! ### search_At -/
def F_search_Atc : ICode := (.seq (.reg [ P 4 (.alloc 4 [.int .i64 0,.int .u64 0,.int .u64 0,.string ⟨#[]⟩]),P 5 (.mv (.c (.slice none 0 0))),P 6 (.mv (I .i64 0))]) (.seq (.reg [ M 17 1,P 18 (.callc 79 [(.t 17)]),M 16 18,X 19 16 0,X 20 16 1,X 21 16 2,M 7 19,M 8 20,M 9 21]) (.seq (.reg [ M 23 0,M 24 7,P 25 (.callf 80 [(.t 23),(.t 24)]),M 22 25,X 26 22 0,X 27 22 1,X 28 22 2,X 29 22 3,M 10 26,M 11 27,M 12 28,M 13 29]) (.seq (.seq (.reg [ M 30 13,P 31 (.bin .neq (.t 30) (I .i64 0))]) (.cond (.t 31) (.seq (.reg [ P 32 (.bld [.int .i64 0,.int .u64 0,.int .u64 0,.string ⟨#[]⟩] []),M 33 13,U 4 4 32,P 5 (.mv (.c (.slice none 0 0))),M 6 33]) .ret) .skip)) (.seq (.seq (.reg [ M 34 9,P 35 (.un .not (.t 34))]) (.cond (.t 35) (.seq (.reg [ M 36 10,M 37 12,P 38 (.len 1 (.t 37)),P 39 (.conv .u64 (.t 38)),M 40 11,P 41 (.bld [.int .i64 0,.int .u64 0,.int .u64 0,.string ⟨#[]⟩] [(0,1,(.t 36)),(2,1,(.t 39)),(3,1,(.t 40))]),M 42 12,U 4 4 41,M 5 42,P 6 (.mv (I .i64 0))]) .ret) .skip)) (.seq (.reg [ M 44 12,M 45 8,P 46 (.callc 81 [(.t 44),(.t 45)]),M 43 46,X 47 43 0,X 48 43 1,X 49 43 2,M 14 47,M 15 48,M 13 49]) (.seq (.seq (.reg [ M 50 13,P 51 (.bin .neq (.t 50) (I .i64 0))]) (.cond (.t 51) (.seq (.reg [ P 52 (.bld [.int .i64 0,.int .u64 0,.int .u64 0,.string ⟨#[]⟩] []),M 53 13,U 4 4 52,P 5 (.mv (.c (.slice none 0 0))),M 6 53]) .ret) .skip)) (.seq (.dreg [ M 54 10,M 55 14,M 56 15,M 57 11,P 58 (.bin .add (.t 57) (.c (.string ⟨#[33,47]⟩))),M 59 8,P 60 (.bin .add (.t 58) (.t 59)),P 61 (.bld [.int .i64 0,.int .u64 0,.int .u64 0,.string ⟨#[]⟩] [(0,1,(.t 54)),(1,1,(.t 55)),(2,1,(.t 56)),(3,1,(.t 60))]),M 62 12,M 63 14,M 64 14,M 65 15,P 66 (.bin .add (.t 64) (.t 65)),M 67 14,M 68 15,P 69 (.bin .add (.t 67) (.t 68)),P 70 (.sle 1 (.t 62) (some (.t 63)) (some (.t 66)) (some (.t 69))),U 4 4 61,M 5 70,P 6 (.mv (I .i64 0))] [(16, 18)]) .ret))))))))
def F_search_At : IFn := ⟨71, [.cell 4 (some 4), .tmp 5, .tmp 6], F_search_Atc⟩
set_option maxRecDepth 1000000 in
theorem F_search_At_chk : chkF Tryz.prog 50 F_search_At = true := by kernel_rfl

/-! ### path_Base -/
def F_path_Basec : ICode := (.seq (.reg [ P 2 (.mv (.c (.string ⟨#[]⟩)))]) (.seq (.reg [ M 3 0,M 4 0,P 5 (.callc 28 [(.t 4),(I .u8 47)]),P 6 (.bin .add (.t 5) (I .i64 1)),P 7 (.sls (.t 3) (some (.t 6)) none),M 2 7]) .ret))
def F_path_Base : IFn := ⟨8, [.tmp 2], F_path_Basec⟩
set_option maxRecDepth 1000000 in
theorem F_path_Base_chk : chkF Tryz.prog 52 F_path_Base = true := by kernel_rfl

/-! ### policy_Accessible -/
def F_policy_Accessiblel0 : ICode := (.seq (.reg [ P 20 (.bin .lss (.t 19) (.t 18))]) (.seq (.cond (.t 20) .skip (.exit 0)) (.seq (.block 1 (.seq (.reg [ P 21 (.ixa 1 (.t 17) (.t 19)),L 22 21,M 10 22]) (.seq (.reg [ M 23 3,M 24 10,P 25 (.callc 82 [(.t 23),(.t 24)])]) (.cond (.t 25) (.seq (.reg [ P 8 (.mv (B true))]) .ret) .skip)))) (.reg [ P 26 (.bin .add (.t 19) (I .i64 1)),M 19 26]))))
def F_policy_Accessiblel1 : ICode := (.seq (.reg [ P 31 (.bin .lss (.t 30) (.t 29))]) (.seq (.cond (.t 31) .skip (.exit 2)) (.seq (.block 3 (.seq (.reg [ P 32 (.ixa 1 (.t 28) (.t 30)),L 33 32,M 12 33]) (.seq (.reg [ M 34 3,M 35 12,P 36 (.callc 83 [(.t 34),(.t 35)])]) (.cond (.t 36) (.seq (.reg [ P 8 (.mv (B true))]) .ret) .skip)))) (.reg [ P 37 (.bin .add (.t 30) (I .i64 1)),M 30 37]))))
def F_policy_Accessiblec : ICode := (.seq (.reg [ P 4 (.box 7 (.t 0)),P 5 (.box 7 (.t 1)),P 8 (.mv (B false))]) (.seq (.seq (.reg [ A 13 1 4,L 14 13,P 15 (.un .not (.t 14))]) (.cond (.t 15) (.seq (.reg [ P 8 (.mv (B true))]) .ret) .skip)) (.seq (.seq (.reg [ A 16 3 4,L 17 16,P 18 (.len 1 (.t 17)),P 19 (.mv (I .i64 0))]) (.block 0 (.loop F_policy_Accessiblel0))) (.seq (.seq (.reg [ A 27 4 4,L 28 27,P 29 (.len 1 (.t 28)),P 30 (.mv (I .i64 0))]) (.block 2 (.loop F_policy_Accessiblel1))) (.seq (.reg [ M 38 2,M 39 38,⟨some 40,.loadN 7 (.t 5),some (1,true)⟩,⟨some 41,.mv (.t 3),some (1,true)⟩,⟨some 42,.callc 84 [(.t 40),(.t 41)],some (1,true)⟩,P 43 (.pick (.t 39) (.t 42) (B false)),M 8 43]) .ret)))))
def F_policy_Accessible : IFn := ⟨44, [.tmp 8], F_policy_Accessiblec⟩
set_option maxRecDepth 1000000 in
theorem F_policy_Accessible_chk : chkF Tryz.prog 51 F_policy_Accessible = true := by kernel_rfl

/-! ### table_Table_ByFile_1 -/
def F_table_Table_ByFile_1c : ICode := (.seq (.reg [ P 5 (.mv (B false))]) (.seq (.dreg [ M 6 0,N 7 6,A 8 1 7,L 9 8,L 10 1,P 11 (.bin .eql (.t 9) (.t 10)),M 12 11,⟨some 13,.mv (.t 0),some (6,true)⟩,⟨some 14,.nilc (.t 13),some (6,true)⟩,⟨some 15,.fa 2 (.t 14),some (6,true)⟩,⟨some 16,.fa 0 (.t 15),some (6,true)⟩,⟨some 17,.load (.t 16),some (6,true)⟩,⟨some 18,.load (.t 2),some (6,true)⟩,⟨some 19,.bin .eql (.t 17) (.t 18),some (6,true)⟩,P 20 (.pick (.t 12) (.t 19) (B false)),M 21 20,⟨some 22,.mv (.t 0),some (15,true)⟩,⟨some 23,.nilc (.t 22),some (15,true)⟩,⟨some 24,.fa 2 (.t 23),some (15,true)⟩,⟨some 25,.fa 1 (.t 24),some (15,true)⟩,⟨some 26,.load (.t 25),some (15,true)⟩,⟨some 27,.load (.t 3),some (15,true)⟩,⟨some 28,.bin .eql (.t 26) (.t 27),some (15,true)⟩,P 29 (.pick (.t 21) (.t 28) (B false)),M 5 29] []) .ret))
def F_table_Table_ByFile_1 : IFn := ⟨30, [.tmp 5], F_table_Table_ByFile_1c⟩
set_option maxRecDepth 1000000 in
theorem F_table_Table_ByFile_1_chk : chkF Tryz.prog 114 F_table_Table_ByFile_1 = true := by kernel_rfl

/-! ### table_Table_ByFile -/
def F_table_Table_ByFilec : ICode := (.seq (.reg [ P 5 (.box 1 (.t 1)),P 6 (.box 1 (.t 2)),P 7 (.box 1 (.t 3)),P 8 (.mv (.c (.pointer none)))]) (.seq (.reg [ M 9 0,P 10 (.mkf 114 [] [(.t 5),(.t 6),(.t 7)]),P 11 (.call 72 [(.t 9),(.t 10)]),M 8 11]) .ret))
def F_table_Table_ByFile : IFn := ⟨12, [.tmp 8], F_table_Table_ByFilec⟩
set_option maxRecDepth 1000000 in
theorem F_table_Table_ByFile_chk : chkF Tryz.prog 85 F_table_Table_ByFile = true := by kernel_rfl

/-! ### table_Table_Add -/
def F_table_Table_Addc : ICode := (.seq (.reg [ P 3 (.box 73 (.t 1)),P 4 (.mv (I .i64 0)),P 5 (.mv (I .i64 0))]) (.seq (.seq (.dreg [ M 6 0,N 7 6,A 8 2 7,L 9 8,P 10 (.len 1 (.t 9)),M 11 0,N 12 11,A 13 0 12,L 14 13,P 15 (.bin .eql (.t 10) (.t 14))] []) (.cond (.t 15) (.seq (.reg [ P 4 (.mv (I .i64 0)),P 5 (.mv (I .i64 221))]) .ret) .skip)) (.seq (.reg [ M 16 0,N 17 16,A 18 1 17,L 19 18,A 20 0 3,U 1 20 19]) (.seq (.reg [ A 21 67 3,L 22 21,P 23 (.call 29 [(.t 22)]),A 24 67 3,U 1 24 23]) (.seq (.reg [ A 25 68 3,L 26 25,P 27 (.call 29 [(.t 26)]),A 28 68 3,U 1 28 27]) (.seq (.reg [ M 29 0,N 30 29,A 31 1 30,L 32 31,P 33 (.bin .add (.t 32) (I .i64 1)),N 34 29,A 35 1 34,U 1 35 33]) (.seq (.reg [ M 36 0,M 37 0,N 38 37,A 39 2 38,L 40 39,P 41 (.bsli 1 1 [.pointer none] [(0,(.t 3))]),P 42 (.app 1 8 (.t 40) (.t 41)),N 43 36,A 44 2 43,U 1 44 42]) (.seq (.dreg [ M 45 0,N 46 45,A 47 3 46,L 48 47,A 49 0 3,L 50 49,⟨none,.mup 0 (.t 48) (.t 50) (.t 3),none⟩] []) (.seq (.reg [ A 51 0 3,L 52 51,M 4 52,P 5 (.mv (I .i64 0))]) .ret)))))))))
def F_table_Table_Add : IFn := ⟨53, [.tmp 4, .tmp 5], F_table_Table_Addc⟩
set_option maxRecDepth 1000000 in
theorem F_table_Table_Add_chk : chkF Tryz.prog 87 F_table_Table_Add = true := by kernel_rfl

/-! ### explain_teller_file -/
def F_explain_teller_filec : ICode := (.seq (.reg [ P 8 (.box 3 (.t 2)),P 10 (.box 4 (.t 4)),P 12 (.mv (I .i64 0)),P 13 (.mv (I .i64 0))]) (.seq (.seq (.dreg [ M 18 0,N 19 18,A 20 9 19,L 21 20,M 22 1,A 23 0 10,L 24 23,A 25 1 10,L 26 25,P 27 (.call 85 [(.t 21),(.t 22),(.t 24),(.t 26)]),M 14 27] []) (.seq (.reg [ M 28 14,P 29 (.eqn 0 true (.t 28) (.c (.pointer none)))]) (.cond (.t 29) (.seq (.dreg [ M 30 0,M 31 1,P 32 (.loadN 3 (.t 8)),M 33 3,M 34 14,N 35 34,A 36 0 35,L 37 36,P 38 (.call 35 [(.t 30),(.t 31),(.t 32),(.t 33),(I .i64 5),(.t 37)])] []) (.seq (.reg [ M 39 14,N 40 39,A 41 0 40,L 42 41,M 12 42,P 13 (.mv (I .i64 0))]) .ret)) .skip))) (.seq (.reg [ M 44 5,P 45 (.callc 86 [(.t 44)]),M 43 45,X 46 43 0,X 47 43 1,P 15 (.alloc 60 [.int .u16 0,.slice none 0 0,.int .u32 0,.int .u32 0,.int .u64 0,.int .u64 0,.int .u64 0,.int .u64 0,.int .u64 0,.int .u32 0,.int .u32 0,.int .u64 0,.int .u64 0,.int .u64 0,.int .u64 0,.int .u64 0,.string ⟨#[]⟩,.string ⟨#[]⟩,.slice none 0 0,.bool false,.bool false,.bool false,.bool false,.int .u64 0,.int .u64 0,.int .u64 0,.int .u64 0,.int .u64 0,.int .u64 0,.int .u64 0,.int .u64 0,.int .u64 0,.int .u64 0,.bool false,.int .u64 0,.int .u64 0,.bool false,.int .u64 0,.int .u64 0,.bool false,.int .u64 0,.int .u64 0,.bool false,.int .u64 0,.int .u64 0,.bool false,.int .u64 0,.int .u64 0,.bool false,.bool false,.bool false,.int .u64 0,.int .u64 0,.bool false,.int .u64 0,.int .u64 0,.slice none 0 0,.slice none 0 0,.int .i64 0,.int .i64 0]),U 60 15 46,M 16 47]) (.seq (.seq (.dreg [ M 48 16,P 49 (.bin .eql (.t 48) (I .i64 0)),M 50 49,⟨some 51,.fa 0 (.t 15),some (2,true)⟩,⟨some 52,.fa 0 (.t 51),some (2,true)⟩,⟨some 53,.load (.t 52),some (2,true)⟩,⟨some 54,.mv (.t 0),some (2,true)⟩,⟨some 55,.nilc (.t 54),some (2,true)⟩,⟨some 56,.fa 0 (.t 55),some (2,true)⟩,⟨some 57,.fa 2 (.t 56),some (2,true)⟩,⟨some 58,.fa 0 (.t 57),some (2,true)⟩,⟨some 59,.load (.t 58),some (2,true)⟩,⟨some 60,.bin .neq (.t 53) (.t 59),some (2,true)⟩,P 61 (.pick (.t 50) (.t 60) (B false))] []) (.cond (.t 61) (.reg [ P 16 (.mv (I .i64 83))]) .skip)) (.seq (.reg [ P 17 (.mv (I .i64 0))]) (.seq (.seq (.reg [ M 62 16,P 63 (.bin .eql (.t 62) (I .i64 0))]) (.cond (.t 63) (.dreg [ M 65 0,N 66 65,A 67 9 66,L 68 67,M 69 1,P 70 (.loadN 4 (.t 10)),P 71 (.loadN 60 (.t 15)),P 72 (.bld [.int .i64 0,.int .i64 0,.int .i64 0,.int .u64 0,.int .u64 0,.string ⟨#[]⟩,.int .u16 0,.slice none 0 0,.int .u32 0,.int .u32 0,.int .u64 0,.int .u64 0,.int .u64 0,.int .u64 0,.int .u64 0,.int .u32 0,.int .u32 0,.int .u64 0,.int .u64 0,.int .u64 0,.int .u64 0,.int .u64 0,.string ⟨#[]⟩,.string ⟨#[]⟩,.slice none 0 0,.bool false,.bool false,.bool false,.bool false,.int .u64 0,.int .u64 0,.int .u64 0,.int .u64 0,.int .u64 0,.int .u64 0,.int .u64 0,.int .u64 0,.int .u64 0,.int .u64 0,.bool false,.int .u64 0,.int .u64 0,.bool false,.int .u64 0,.int .u64 0,.bool false,.int .u64 0,.int .u64 0,.bool false,.int .u64 0,.int .u64 0,.bool false,.int .u64 0,.int .u64 0,.bool false,.bool false,.bool false,.int .u64 0,.int .u64 0,.bool false,.int .u64 0,.int .u64 0,.slice none 0 0,.slice none 0 0,.int .i64 0,.int .i64 0,.int .u64 0,.slice none 0 0,.slice none 0 0,.int .i64 0,.int .i64 0,.bool false,.bool false] [(1,1,(.t 69)),(2,4,(.t 70)),(6,60,(.t 71))]),P 73 (.call 87 [(.t 68),(.t 72)]),M 64 73,X 74 64 0,X 75 64 1,M 17 74,M 16 75] []) .skip)) (.seq (.seq (.reg [ M 76 16,P 77 (.bin .neq (.t 76) (I .i64 0))]) (.cond (.t 77) (.seq (.reg [ M 78 0,M 79 1,P 80 (.loadN 3 (.t 8)),M 81 3,P 82 (.call 35 [(.t 78),(.t 79),(.t 80),(.t 81),(I .i64 7),(I .i64 0)])]) (.seq (.reg [ M 83 16,P 12 (.mv (I .i64 0)),M 13 83]) .ret)) .skip)) (.seq (.reg [ M 84 0,M 85 1,P 86 (.loadN 3 (.t 8)),M 87 3,M 88 17,P 89 (.call 35 [(.t 84),(.t 85),(.t 86),(.t 87),(I .i64 6),(.t 88)])]) (.seq (.reg [ M 90 17,M 12 90,P 13 (.mv (I .i64 0))]) .ret)))))))))
def F_explain_teller_file : IFn := ⟨91, [.tmp 12, .tmp 13], F_explain_teller_filec⟩
set_option maxRecDepth 1000000 in
theorem F_explain_teller_file_chk : chkF Tryz.prog 53 F_explain_teller_file = true := by kernel_rfl

/-! ### explain_teller_own -/
def F_explain_teller_ownl0 : ICode := (.seq (.reg [ P 66 (.bin .lss (.t 65) (.t 64))]) (.seq (.cond (.t 66) .skip (.exit 0)) (.seq (.block 1 (.seq (.reg [ P 67 (.ixa 1 (.t 63) (.t 65)),L 68 67,M 14 68]) (.seq (.reg [ M 70 0,N 71 70,A 72 0 71,A 73 0 72,L 74 73,M 75 14,P 76 (.callf 50 [(.t 74),(.t 75)]),M 69 76,X 77 69 0,X 78 69 1,X 79 69 2,P 15 (.alloc 4 [.int .i64 0,.int .u64 0,.int .u64 0,.string ⟨#[]⟩]),U 4 15 77,M 16 78,M 17 79]) (.block 2 (.seq (.reg [ M 90 17,P 91 (.bin .neq (.t 90) (I .i64 0)),M 89 91]) (.cond (.t 89) (.seq (.reg [ M 92 0,M 93 1,P 94 (.loadN 3 (.t 6)),M 95 14,P 96 (.call 35 [(.t 92),(.t 93),(.t 94),(.t 95),(I .i64 3),(I .i64 0)])]) (.seq (.reg [ A 97 1 6,L 98 97,P 99 (.callc 32 [(.t 98)])]) (.cond (.t 99) (.seq (.reg [ M 100 17,P 8 (.mv (I .i64 0)),M 9 100]) .ret) .skip))) (.seq (.dreg [ P 102 (.loadN 7 (.t 10)),M 103 0,N 104 103,A 105 0 104,A 106 2 105,P 107 (.loadN 7 (.t 106)),M 108 1,P 109 (.bin .eql (.t 108) (I .i64 0)),A 110 3 15,L 111 110,P 112 (.callc 51 [(.t 102),(.t 107),(.t 109),(.t 111)]),P 113 (.un .not (.t 112)),M 114 113,⟨some 115,.fa 1 (.t 6),some (12,false)⟩,⟨some 116,.load (.t 115),some (12,false)⟩,⟨some 117,.callc 32 [(.t 116)],some (12,false)⟩,⟨some 118,.mv (.t 117),some (12,false)⟩,⟨some 119,.loadN 7 (.t 10),some (16,true)⟩,⟨some 120,.fa 3 (.t 15),some (16,true)⟩,⟨some 121,.load (.t 120),some (16,true)⟩,⟨some 122,.callc 52 [(.t 121)],some (16,true)⟩,⟨some 123,.callc 47 [(.t 119),(.t 122)],some (16,true)⟩,⟨some 124,.un .not (.t 123),some (16,true)⟩,⟨some 125,.pick (.t 118) (.t 124) (B false),some (12,false)⟩,P 126 (.pick (.t 114) (B true) (.t 125)),M 101 126] []) (.cond (.t 101) (.seq (.reg [ M 127 0,M 128 1,P 129 (.loadN 3 (.t 6)),M 130 14,P 131 (.call 35 [(.t 127),(.t 128),(.t 129),(.t 130),(I .i64 4),(I .i64 0)])]) (.reg [ P 12 (.mv (I .i64 200))])) (.seq (.reg [ M 80 0,M 81 1,P 82 (.loadN 3 (.t 6)),M 83 14,P 84 (.loadN 4 (.t 15)),M 85 16,P 86 (.call 53 [(.t 80),(.t 81),(.t 82),(.t 83),(.t 84),(.t 85)]),X 87 86 0,X 88 86 1,M 8 87,M 9 88]) .ret))))))))) (.reg [ P 132 (.bin .add (.t 65) (I .i64 1)),M 65 132]))))
def F_explain_teller_ownc : ICode := (.seq (.reg [ P 6 (.box 3 (.t 2)),P 7 (.box 3 (.t 3)),P 8 (.mv (I .i64 0)),P 9 (.mv (I .i64 0))]) (.seq (.reg [ M 18 0,N 19 18,A 20 0 19,A 21 1 20,L 22 21,M 23 1,P 24 (.ixa 7 (.t 22) (.t 23)),P 25 (.loadN 7 (.t 24)),P 10 (.alloc 7 [.string ⟨#[]⟩,.bool false,.bool false,.slice none 0 0,.slice none 0 0,.slice none 0 0,.slice none 0 0]),U 7 10 25]) (.seq (.seq (.reg [ A 26 1 6,L 27 26,P 28 (.callc 32 [(.t 27)]),P 29 (.un .not (.t 28))]) (.cond (.t 29) (.seq (.seq (.reg [ P 30 (.loadN 7 (.t 10)),A 31 1 6,L 32 31,P 33 (.callc 47 [(.t 30),(.t 32)]),P 34 (.un .not (.t 33))]) (.cond (.t 34) (.seq (.reg [ M 35 0,M 36 1,P 37 (.loadN 3 (.t 6)),P 38 (.call 35 [(.t 35),(.t 36),(.t 37),(.c (.string ⟨#[]⟩)),(I .i64 2),(I .i64 0)])]) (.seq (.reg [ P 8 (.mv (I .i64 0)),P 9 (.mv (I .i64 200))]) .ret)) .skip)) (.seq (.dreg [ M 39 0,N 40 39,A 41 9 40,L 42 41,M 43 1,A 44 1 6,L 45 44,P 46 (.call 48 [(.t 42),(.t 43),(.t 45)]),M 11 46] []) (.seq (.reg [ M 47 11,P 48 (.eqn 0 true (.t 47) (.c (.pointer none)))]) (.cond (.t 48) (.seq (.dreg [ M 49 0,M 50 1,P 51 (.loadN 3 (.t 6)),M 52 11,N 53 52,A 54 0 53,L 55 54,P 56 (.call 35 [(.t 49),(.t 50),(.t 51),(.c (.string ⟨#[]⟩)),(I .i64 1),(.t 55)])] []) (.seq (.reg [ M 57 11,N 58 57,A 59 0 58,L 60 59,M 8 60,P 9 (.mv (I .i64 0))]) .ret)) .skip)))) .skip)) (.seq (.reg [ P 12 (.mv (I .i64 210))]) (.seq (.seq (.reg [ P 61 (.loadN 7 (.t 10)),P 62 (.loadN 3 (.t 7)),P 63 (.callc 49 [(.t 61),(.t 62)]),P 64 (.len 1 (.t 63)),P 65 (.mv (I .i64 0))]) (.block 0 (.loop F_explain_teller_ownl0))) (.seq (.reg [ M 133 12,P 8 (.mv (I .i64 0)),M 9 133]) .ret))))))
def F_explain_teller_own : IFn := ⟨134, [.tmp 8, .tmp 9], F_explain_teller_ownc⟩
set_option maxRecDepth 1000000 in
theorem F_explain_teller_own_chk : chkF Tryz.prog 30 F_explain_teller_own = true := by kernel_rfl

/-! ### explain_soft -/
def F_explain_softc : ICode := (.seq (.reg [ P 2 (.mv (B false))]) (.seq (.reg [ M 3 0,P 4 (.bin .eql (.t 3) (I .i64 210)),M 5 4,⟨some 6,.mv (.t 0),some (2,false)⟩,⟨some 7,.bin .eql (.t 6) (I .i64 200),some (2,false)⟩,P 8 (.pick (.t 5) (B true) (.t 7)),M 2 8]) .ret))
def F_explain_soft : IFn := ⟨9, [.tmp 2], F_explain_softc⟩
set_option maxRecDepth 1000000 in
theorem F_explain_soft_chk : chkF Tryz.prog 31 F_explain_soft = true := by kernel_rfl

/-! ### explain_teller_space -/
def F_explain_teller_spacel0 : ICode := (.seq (.reg [ P 14 (.bin .lss (.t 13) (.t 12))]) (.seq (.cond (.t 14) .skip (.exit 0)) (.seq (.block 1 (.seq (.reg [ M 15 13,P 16 (.ixa 7 (.t 11) (.t 13)),P 17 (.loadN 7 (.t 16)),P 6 (.alloc 7 [.string ⟨#[]⟩,.bool false,.bool false,.slice none 0 0,.slice none 0 0,.slice none 0 0,.slice none 0 0]),M 5 15,U 7 6 17]) (.seq (.reg [ A 18 0 6,L 19 18,M 20 1,P 21 (.bin .eql (.t 19) (.t 20))]) (.cond (.t 21) (.seq (.reg [ M 22 5,M 4 22]) .ret) .skip)))) (.reg [ P 23 (.bin .add (.t 13) (I .i64 1)),M 13 23]))))
def F_explain_teller_spacec : ICode := (.seq (.reg [ P 4 (.mv (I .i64 0))]) (.seq (.seq (.reg [ M 7 0,N 8 7,A 9 0 8,A 10 1 9,L 11 10,P 12 (.len 1 (.t 11)),P 13 (.mv (I .i64 0))]) (.block 0 (.loop F_explain_teller_spacel0))) (.seq (.reg [ P 4 (.mv (I .i64 (-1)))]) .ret)))
def F_explain_teller_space : IFn := ⟨24, [.tmp 4], F_explain_teller_spacec⟩
set_option maxRecDepth 1000000 in
theorem F_explain_teller_space_chk : chkF Tryz.prog 33 F_explain_teller_space = true := by kernel_rfl

/-! ### policy_Through -/
def F_policy_Throughc : ICode := (.seq (.reg [ P 2 (.box 3 (.t 0)),P 4 (.mv (B false))]) (.seq (.reg [ A 5 2 2,L 6 5,M 7 6,⟨some 8,.fa 1 (.t 2),some (2,false)⟩,⟨some 9,.load (.t 8),some (2,false)⟩,⟨some 10,.mv (.t 1),some (2,false)⟩,⟨some 11,.calll 55 [(.t 9),(.t 10)],some (2,false)⟩,P 12 (.pick (.t 7) (B true) (.t 11)),M 4 12]) .ret))
def F_policy_Through : IFn := ⟨13, [.tmp 4], F_policy_Throughc⟩
set_option maxRecDepth 1000000 in
theorem F_policy_Through_chk : chkF Tryz.prog 34 F_policy_Through = true := by kernel_rfl

/-! ### explain_teller_get -/
def F_explain_teller_getl0 : ICode := (.seq (.reg [ P 76 (.bin .lss (.t 75) (.t 74))]) (.seq (.cond (.t 76) .skip (.exit 0)) (.seq (.block 1 (.seq (.reg [ P 77 (.ixa 3 (.t 73) (.t 75)),P 78 (.loadN 3 (.t 77)),P 11 (.alloc 3 [.string ⟨#[]⟩,.slice none 0 0,.bool false]),U 3 11 78]) (.seq (.reg [ M 79 0,A 80 0 11,L 81 80,P 82 (.call 33 [(.t 79),(.t 81)]),M 12 82]) (.seq (.seq (.reg [ M 83 12,P 84 (.bin .lss (.t 83) (I .i64 0)),M 85 84,⟨some 86,.loadN 3 (.t 11),some (2,false)⟩,⟨some 87,.fa 1 (.t 3),some (2,false)⟩,⟨some 88,.load (.t 87),some (2,false)⟩,⟨some 89,.callc 34 [(.t 86),(.t 88)],some (2,false)⟩,⟨some 90,.un .not (.t 89),some (2,false)⟩,P 91 (.pick (.t 85) (B true) (.t 90))]) (.cond (.t 91) (.exit 1) .skip)) (.seq (.reg [ M 92 0,A 93 0 3,L 94 93,P 95 (.loadN 3 (.t 3)),A 96 0 11,L 97 96,P 98 (.call 35 [(.t 92),(.t 94),(.t 95),(.t 97),(I .i64 8),(I .i64 0)])]) (.seq (.reg [ M 100 0,M 101 12,P 102 (.loadN 3 (.t 3)),A 103 1 3,L 104 103,P 105 (.bld [.string ⟨#[]⟩,.string ⟨#[]⟩,.string ⟨#[]⟩] [(0,1,(.t 104))]),P 106 (.call 30 [(.t 100),(.t 101),(.t 102),(.t 105)]),M 99 106,X 107 99 0,X 108 99 1,M 13 107,M 14 108]) (.seq (.seq (.reg [ M 109 14,P 110 (.bin .eql (.t 109) (I .i64 0))]) (.cond (.t 110) (.seq (.reg [ M 111 13,M 4 111,P 5 (.mv (B true))]) .ret) .skip)) (.seq (.reg [ M 112 14,P 113 (.callc 31 [(.t 112)]),P 114 (.un .not (.t 113))]) (.cond (.t 114) (.seq (.reg [ M 115 0,M 116 14,N 117 115,A 118 11 117,U 1 118 116]) (.seq (.reg [ P 4 (.mv (I .i64 0)),P 5 (.mv (B false))]) .ret)) .skip))))))))) (.reg [ P 119 (.bin .add (.t 75) (I .i64 1)),M 75 119]))))
def F_explain_teller_getc : ICode := (.seq (.reg [ P 3 (.box 3 (.t 1)),P 4 (.mv (I .i64 0)),P 5 (.mv (B false))]) (.seq (.reg [ A 15 1 3,L 16 15,P 17 (.bld [.string ⟨#[]⟩,.string ⟨#[]⟩,.string ⟨#[]⟩] [(0,1,(.t 16))]),P 6 (.alloc 3 [.string ⟨#[]⟩,.string ⟨#[]⟩,.string ⟨#[]⟩]),U 3 6 17]) (.seq (.seq (.dreg [ M 18 0,N 19 18,A 20 9 19,L 21 20,A 22 2 3,L 23 22,P 24 (.call 23 [(.t 21),(.t 23)]),M 7 24] []) (.seq (.reg [ M 25 7,P 26 (.eqn 0 true (.t 25) (.c (.pointer none)))]) (.cond (.t 26) (.dreg [ M 27 7,N 28 27,A 29 6 28,A 30 16 29,A 31 1 30,L 32 31,M 33 7,N 34 33,A 35 2 34,A 36 3 35,L 37 36,A 38 1 6,U 1 38 32,A 39 2 6,U 1 39 37] [(10, 13)]) .skip))) (.seq (.reg [ M 41 0,A 42 0 3,L 43 42,P 44 (.loadN 3 (.t 3)),P 45 (.loadN 3 (.t 6)),P 46 (.call 30 [(.t 41),(.t 43),(.t 44),(.t 45)]),M 40 46,X 47 40 0,X 48 40 1,M 8 47,M 9 48]) (.seq (.seq (.reg [ M 49 9,P 50 (.bin .eql (.t 49) (I .i64 0))]) (.cond (.t 50) (.seq (.reg [ M 51 8,M 4 51,P 5 (.mv (B true))]) .ret) .skip)) (.seq (.reg [ M 52 0,M 53 9,N 54 52,A 55 11 54,U 1 55 53]) (.seq (.seq (.reg [ M 56 9,P 57 (.callc 31 [(.t 56)]),P 58 (.un .not (.t 57)),M 59 58,⟨some 60,.fa 1 (.t 3),some (3,false)⟩,⟨some 61,.load (.t 60),some (3,false)⟩,⟨some 62,.callc 32 [(.t 61)],some (3,false)⟩,P 63 (.pick (.t 59) (B true) (.t 62))]) (.cond (.t 63) (.seq (.reg [ P 4 (.mv (I .i64 0)),P 5 (.mv (B false))]) .ret) .skip)) (.seq (.seq (.dreg [ M 64 0,N 65 64,A 66 0 65,A 67 1 66,L 68 67,A 69 0 3,L 70 69,P 71 (.ixa 7 (.t 68) (.t 70)),A 72 6 71,L 73 72,P 74 (.len 1 (.t 73)),P 75 (.mv (I .i64 0))] []) (.block 0 (.loop F_explain_teller_getl0))) (.seq (.reg [ P 4 (.mv (I .i64 0)),P 5 (.mv (B false))]) .ret)))))))))
def F_explain_teller_get : IFn := ⟨120, [.tmp 4, .tmp 5], F_explain_teller_getc⟩
set_option maxRecDepth 1000000 in
theorem F_explain_teller_get_chk : chkF Tryz.prog 22 F_explain_teller_get = true := by kernel_rfl

/-! ### table_Table_Need -/
def F_table_Table_Needc : ICode := (.seq (.reg [ P 6 (.mv (B false))]) (.seq (.reg [ M 8 0,M 9 1,P 10 (.call 23 [(.t 8),(.t 9)]),M 7 10]) (.seq (.seq (.reg [ M 11 7,P 12 (.eqn 0 false (.t 11) (.c (.pointer none))),M 13 12,⟨some 14,.mv (.t 0),some (2,false)⟩,⟨some 15,.mv (.t 2),some (2,false)⟩,⟨some 16,.call 23 [(.t 14),(.t 15)],some (2,false)⟩,⟨some 17,.eqn 0 false (.t 16) (.c (.pointer none)),some (2,false)⟩,P 18 (.pick (.t 13) (B true) (.t 17))]) (.cond (.t 18) (.seq (.reg [ P 6 (.mv (B false))]) .ret) .skip)) (.seq (.reg [ M 19 7,M 20 7,N 21 20,A 22 67 21,L 23 22,M 24 2,P 25 (.bsli 1 1 [.int .i64 0] [(0,(.t 24))]),P 26 (.app 1 8 (.t 23) (.t 25)),N 27 19,A 28 67 27,U 1 28 26]) (.seq (.reg [ P 6 (.mv (B true))]) .ret)))))
def F_table_Table_Need : IFn := ⟨29, [.tmp 6], F_table_Table_Needc⟩
set_option maxRecDepth 1000000 in
theorem F_table_Table_Need_chk : chkF Tryz.prog 24 F_table_Table_Need = true := by kernel_rfl

/-! ### explain_All -/
def F_explain_Alll1 : ICode := (.seq (.reg [ P 82 (.bin .lss (.t 81) (.t 80))]) (.seq (.cond (.t 82) .skip (.exit 2)) (.seq (.block 3 (.seq (.reg [ P 83 (.ixa 1 (.t 79) (.t 81)),L 84 83,M 18 84]) (.seq (.reg [ M 86 11,M 87 16,N 88 87,A 89 1 88,L 90 89,M 91 18,M 92 15,P 93 (.bld [.int .i64 0,.string ⟨#[]⟩,.int .i64 0] [(0,1,(.t 90)),(1,1,(.t 91)),(2,1,(.t 92))]),P 94 (.call 22 [(.t 86),(.t 93)]),M 85 94,X 95 85 0,X 96 85 1,M 19 95,M 20 96]) (.seq (.seq (.reg [ M 97 20,P 98 (.un .not (.t 97))]) (.cond (.t 98) (.seq (.dreg [ M 99 11,N 100 99,A 101 10 100,L 102 101,M 103 11,N 104 103,A 105 11 104,L 106 105,M 8 102,P 9 (.mv (I .i64 0)),M 10 106] []) .ret) .skip)) (.reg [ M 107 11,N 108 107,A 109 9 108,L 110 109,M 111 15,M 112 19,P 113 (.call 24 [(.t 110),(.t 111),(.t 112)])]))))) (.reg [ P 114 (.bin .add (.t 81) (I .i64 1)),M 81 114]))))
def F_explain_Alll0 : ICode := (.seq (.seq (.reg [ M 59 15,M 60 11,N 61 60,A 62 9 61,L 63 62,P 64 (.call 21 [(.t 63)]),P 65 (.bin .lss (.t 59) (.t 64))]) (.cond (.t 65) .skip (.exit 0))) (.seq (.block 1 (.seq (.reg [ M 68 11,N 69 68,A 70 9 69,L 71 70,M 72 15,P 73 (.call 23 [(.t 71),(.t 72)]),M 16 73]) (.seq (.reg [ M 74 16,N 75 74,A 76 6 75,A 77 16 76,A 78 2 77,L 79 78,P 80 (.len 1 (.t 79)),P 81 (.mv (I .i64 0))]) (.block 2 (.loop F_explain_Alll1))))) (.reg [ M 66 15,P 67 (.bin .add (.t 66) (I .i64 1)),M 15 67])))
def F_explain_Allc : ICode := (.seq (.reg [ P 4 (.box 9 (.t 0)),P 8 (.mv (.c (.slice none 0 0))),P 9 (.mv (I .i64 0)),P 10 (.mv (I .i64 0))]) (.seq (.seq (.reg [ M 21 2,P 22 (.bin .lss (.t 21) (I .i64 0)),M 23 22,⟨some 24,.mv (.t 2),some (2,false)⟩,⟨some 25,.fa 1 (.t 4),some (2,false)⟩,⟨some 26,.load (.t 25),some (2,false)⟩,⟨some 27,.len 1 (.t 26),some (2,false)⟩,⟨some 28,.bin .geq (.t 24) (.t 27),some (2,false)⟩,P 29 (.pick (.t 23) (B true) (.t 28))]) (.cond (.t 29) (.seq (.reg [ P 8 (.mv (.c (.slice none 0 0))),P 9 (.mv (I .i64 0)),P 10 (.mv (I .i64 191))]) .ret) .skip)) (.seq (.dreg [ P 30 (.loadN 9 (.t 4)),M 31 1,P 32 (.call 20 [(.t 31)]),P 33 (.bld [.pointer none,.slice none 0 0,.int .u16 0,.int .i64 0,.slice none 0 0,.int .i64 0,.string ⟨#[]⟩,.int .i64 0,.int .i64 0,.pointer none,.slice none 0 0,.int .i64 0] [(0,9,(.t 30)),(9,1,(.t 32))]),P 34 (.box 12 (.t 33)),M 11 34] [(0, 3)]) (.seq (.reg [ M 35 11,N 36 35,A 37 9 36,L 38 37,P 39 (.call 21 [(.t 38)]),M 12 39]) (.seq (.reg [ M 41 11,M 42 2,M 43 3,P 44 (.bld [.int .i64 0,.string ⟨#[]⟩,.int .i64 0] [(0,1,(.t 42)),(1,1,(.t 43)),(2,1,(I .i64 0))]),P 45 (.call 22 [(.t 41),(.t 44)]),M 40 45,X 46 40 0,X 47 40 1,M 13 46,M 14 47]) (.seq (.seq (.reg [ M 48 14,P 49 (.un .not (.t 48))]) (.cond (.t 49) (.seq (.dreg [ M 50 11,N 51 50,A 52 10 51,L 53 52,M 54 11,N 55 54,A 56 11 55,L 57 56,M 8 53,P 9 (.mv (I .i64 0)),M 10 57] []) .ret) .skip)) (.seq (.seq (.reg [ M 58 12,M 15 58]) (.block 0 (.loop F_explain_Alll0))) (.seq (.reg [ M 115 11,N 116 115,A 117 10 116,L 118 117,M 119 13,M 8 118,M 9 119,P 10 (.mv (I .i64 0))]) .ret))))))))
def F_explain_All : IFn := ⟨120, [.tmp 8, .tmp 9, .tmp 10], F_explain_Allc⟩
set_option maxRecDepth 1000000 in
theorem F_explain_All_chk : chkF Tryz.prog 15 F_explain_All = true := by kernel_rfl

/-! ### table_Table_Len -/
def F_table_Table_Lenc : ICode := (.seq (.reg [ P 2 (.mv (I .i64 0))]) (.seq (.reg [ M 3 0,N 4 3,A 5 2 4,L 6 5,P 7 (.len 1 (.t 6)),M 2 7]) .ret))
def F_table_Table_Len : IFn := ⟨8, [.tmp 2], F_table_Table_Lenc⟩
set_option maxRecDepth 1000000 in
theorem F_table_Table_Len_chk : chkF Tryz.prog 16 F_table_Table_Len = true := by kernel_rfl

/-! ### law31_alive -/
def F_law31_alivec : ICode := (.seq (.reg [ P 0 (.mv (B false))]) (.seq (.reg [ P 11 (.callc 12 []),M 10 11,X 12 10 0,X 13 10 1,P 2 (.alloc 7 [.int .u16 0,.int .i64 0,.slice none 0 0,.int .i64 0,.string ⟨#[]⟩,.int .i64 0,.int .i64 0]),M 1 12,U 7 2 13]) (.seq (.reg [ M 15 1,P 16 (.call 13 [(.t 15)]),M 14 16,X 17 14 0,X 18 14 1,M 3 17,M 4 18]) (.seq (.reg [ P 20 (.call 14 [(I .i64 9)]),M 19 20,X 21 19 0,X 22 19 1,M 5 21,M 6 22]) (.seq (.seq (.reg [ M 23 4,P 24 (.bin .neq (.t 23) (I .i64 0)),M 25 24,⟨some 26,.mv (.t 6),some (2,false)⟩,⟨some 27,.bin .neq (.t 26) (I .i64 0),some (2,false)⟩,P 28 (.pick (.t 25) (B true) (.t 27)),M 29 28,⟨some 30,.mv (.t 3),some (6,false)⟩,⟨some 31,.eqn 0 false (.t 30) (.c (.pointer none)),some (6,false)⟩,P 32 (.pick (.t 29) (B true) (.t 31)),M 33 32,⟨some 34,.mv (.t 5),some (10,false)⟩,⟨some 35,.eqn 0 false (.t 34) (.c (.pointer none)),some (10,false)⟩,P 36 (.pick (.t 33) (B true) (.t 35))]) (.cond (.t 36) (.seq (.reg [ P 0 (.mv (B false))]) .ret) .skip)) (.seq (.reg [ M 38 3,P 39 (.bsli 1 1 [.string ⟨#[]⟩] [(0,(.c (.string ⟨#[47,108,105,98]⟩)))]),P 40 (.bld [.string ⟨#[]⟩,.bool false,.bool false,.slice none 0 0,.slice none 0 0,.slice none 0 0,.slice none 0 0] [(0,1,(.c (.string ⟨#[100,101,102,97,117,108,116]⟩))),(3,1,(.t 39))]),P 41 (.bsli 7 1 [.string ⟨#[]⟩,.bool false,.bool false,.slice none 0 0,.slice none 0 0,.slice none 0 0,.slice none 0 0] [(0,(.t 40))]),P 42 (.loadN 7 (.t 2)),P 43 (.bld [.pointer none,.slice none 0 0,.int .u16 0,.int .i64 0,.slice none 0 0,.int .i64 0,.string ⟨#[]⟩,.int .i64 0,.int .i64 0] [(0,1,(.t 38)),(1,1,(.t 41)),(2,7,(.t 42))]),M 44 5,P 45 (.callf 15 [(.t 43),(.t 44),(I .i64 0),(.c (.string ⟨#[97,46,115,111]⟩))]),M 37 45,X 46 37 0,X 47 37 1,X 48 37 2,M 7 46,M 8 47,M 9 48]) (.seq (.reg [ M 49 9,P 50 (.bin .eql (.t 49) (I .i64 0)),M 51 50,⟨some 52,.mv (.t 8),some (2,true)⟩,⟨some 53,.bin .eql (.t 52) (I .i64 1),some (2,true)⟩,P 54 (.pick (.t 51) (.t 53) (B false)),M 55 54,⟨some 56,.mv (.t 7),some (6,true)⟩,⟨some 57,.len 1 (.t 56),some (6,true)⟩,⟨some 58,.bin .eql (.t 57) (I .i64 3),some (6,true)⟩,P 59 (.pick (.t 55) (.t 58) (B false)),M 60 59,⟨some 61,.mv (.t 7),some (11,true)⟩,⟨some 62,.sle 6 (.t 61) none (some (I .i64 1)) none,some (11,true)⟩,⟨some 63,.callc 5 [(.t 62)],some (11,true)⟩,⟨some 64,.bin .eql (.t 63) (.c (.string ⟨#[100,101,102,97,117,108,116,32,97,46,115,111,32,48,32,110,101,119,32,49,32,47,108,105,98,47,97,46,115,111,10]⟩)),some (11,true)⟩,P 65 (.pick (.t 60) (.t 64) (B false)),M 66 65,⟨some 67,.mv (.t 7),some (17,true)⟩,⟨some 68,.ixa 6 (.t 67) (I .i64 2),some (17,true)⟩,⟨some 69,.fa 4 (.t 68),some (17,true)⟩,⟨some 70,.load (.t 69),some (17,true)⟩,⟨some 71,.bin .eql (.t 70) (I .i64 1),some (17,true)⟩,P 72 (.pick (.t 66) (.t 71) (B false)),M 73 72,⟨some 74,.mv (.t 5),some (24,true)⟩,⟨some 75,.call 16 [(.t 74)],some (24,true)⟩,⟨some 76,.bin .eql (.t 75) (I .i64 0),some (24,true)⟩,P 77 (.pick (.t 73) (.t 76) (B false)),M 0 77]) .ret)))))))
def F_law31_alive : IFn := ⟨78, [.tmp 0], F_law31_alivec⟩
set_option maxRecDepth 1000000 in
theorem F_law31_alive_chk : chkF Tryz.prog 8 F_law31_alive = true := by kernel_rfl

/-- The functions, by number. -/
def TEx_l : List (Nat × IFn) := TEt_l ++ TEr_l ++ TEi_l ++ [(45, F_path_good), (121, F_strings_genSplit), (102, F_strings_Split), (69, F_path_Parts), (43, F_path_Clean), (26, F_path_IsClean), (71, F_internal_stringslite_HasPrefix), (44, F_strings_HasPrefix), (27, F_path_Join), (18, F_vfs_fits), (46, F_internal_bytealg_LastIndexByteString), (28, F_strings_LastIndexByte), (19, F_path_Up), (13, F_vfs_New), (14, F_table_New), (29, F_slices_Clone_int_int), (20, F_table_Table_Copy), (21, F_table_Table_Next), (23, F_table_Table_Get), (88, F_strings_Index), (54, F_strings_Contains), (32, F_search_HasPath), (35, F_explain_teller_tell), (55, F_policy_has), (47, F_policy_Allowed), (72, F_table_Table_first), (74, F_table_Inst_Name), (73, F_table_Table_ByName_1), (48, F_table_Table_ByName), (75, F_path_List), (125, F_internal_stringslite_Cut), (108, F_strings_Cut), (79, F_path_Archive), (124, F_internal_stringslite_HasSuffix), (107, F_strings_HasSuffix), (78, F_search_below), (49, F_search_Places), (126, F_vfs_walk_step), (127, F_vfs_below), (109, F_vfs_FS_Resolve), (80, F_vfs_FS_Open), (50, F_search_At), (52, F_path_Base), (51, F_policy_Accessible), (114, F_table_Table_ByFile_1), (85, F_table_Table_ByFile), (87, F_table_Table_Add), (53, F_explain_teller_file), (30, F_explain_teller_own), (31, F_explain_soft), (33, F_explain_teller_space), (34, F_policy_Through), (22, F_explain_teller_get), (24, F_table_Table_Need), (15, F_explain_All), (16, F_table_Table_Len), (8, F_law31_alive)]
def TEx : Tab := tabN TEx_l natEt
theorem TEx_chk : ∀ p ∈ TEx_l, chkF Tryz.prog p.1 p.2 = true := by
  intro p hp
  simp only [TEx_l, List.mem_append, List.mem_cons, List.not_mem_nil, or_false] at hp
  rcases hp with (((hp) | hp) | hp) | rfl | rfl | rfl | rfl | rfl | rfl | rfl | rfl | rfl | rfl | rfl | rfl | rfl | rfl | rfl | rfl | rfl | rfl | rfl | rfl | rfl | rfl | rfl | rfl | rfl | rfl | rfl | rfl | rfl | rfl | rfl | rfl | rfl | rfl | rfl | rfl | rfl | rfl | rfl | rfl | rfl | rfl | rfl | rfl | rfl | rfl | rfl | rfl | rfl | rfl | rfl | rfl | rfl | rfl | rfl | rfl | rfl
  · exact TEt_chk p hp
  · exact TEr_chk p hp
  · exact TEi_chk p hp
  · exact F_path_good_chk
  · exact F_strings_genSplit_chk
  · exact F_strings_Split_chk
  · exact F_path_Parts_chk
  · exact F_path_Clean_chk
  · exact F_path_IsClean_chk
  · exact F_internal_stringslite_HasPrefix_chk
  · exact F_strings_HasPrefix_chk
  · exact F_path_Join_chk
  · exact F_vfs_fits_chk
  · exact F_internal_bytealg_LastIndexByteString_chk
  · exact F_strings_LastIndexByte_chk
  · exact F_path_Up_chk
  · exact F_vfs_New_chk
  · exact F_table_New_chk
  · exact F_slices_Clone_int_int_chk
  · exact F_table_Table_Copy_chk
  · exact F_table_Table_Next_chk
  · exact F_table_Table_Get_chk
  · exact F_strings_Index_chk
  · exact F_strings_Contains_chk
  · exact F_search_HasPath_chk
  · exact F_explain_teller_tell_chk
  · exact F_policy_has_chk
  · exact F_policy_Allowed_chk
  · exact F_table_Table_first_chk
  · exact F_table_Inst_Name_chk
  · exact F_table_Table_ByName_1_chk
  · exact F_table_Table_ByName_chk
  · exact F_path_List_chk
  · exact F_internal_stringslite_Cut_chk
  · exact F_strings_Cut_chk
  · exact F_path_Archive_chk
  · exact F_internal_stringslite_HasSuffix_chk
  · exact F_strings_HasSuffix_chk
  · exact F_search_below_chk
  · exact F_search_Places_chk
  · exact F_vfs_walk_step_chk
  · exact F_vfs_below_chk
  · exact F_vfs_FS_Resolve_chk
  · exact F_vfs_FS_Open_chk
  · exact F_search_At_chk
  · exact F_path_Base_chk
  · exact F_policy_Accessible_chk
  · exact F_table_Table_ByFile_1_chk
  · exact F_table_Table_ByFile_chk
  · exact F_table_Table_Add_chk
  · exact F_explain_teller_file_chk
  · exact F_explain_teller_own_chk
  · exact F_explain_soft_chk
  · exact F_explain_teller_space_chk
  · exact F_policy_Through_chk
  · exact F_explain_teller_get_chk
  · exact F_table_Table_Need_chk
  · exact F_explain_All_chk
  · exact F_table_Table_Len_chk
  · exact F_law31_alive_chk
theorem TEx_good : Fw.Good Tryz.prog TEx := good_tabN (by kernel_rfl) TEx_chk natEt_ok

end Go.Proofs.YtdjgknlhpdnhbaaGreatDoor
