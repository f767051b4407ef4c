/- The small language's text of functions of the given program, and the check that it stands for them. Printed by a program. -/
import Derived.Test.YtdajdgjacajemaaGreatFwC
import Derived.Test.YtdajdgjacajemaaGreatChecked
import Derived.KernelRfl
namespace Go.Proofs.YtdajdgjacajemaaGreat
open Go Fw
/-- The type of a byte here, and those of a Builder and of what is a Builder alone. -/
abbrev T8 : Nat := 5
abbrev TBs : List Nat := [82, 83, 84]

/-! ### strings_Builder_copyCheck -/
def F_strings_Builder_copyCheckr0b : List IStmt := [
 ⟨some 2, .mv (.t 0), none⟩,
 ⟨some 3, .nilc (.t 2), none⟩,
 ⟨some 4, .fa 0 (.t 3), none⟩,
 ⟨some 5, .load (.t 4), none⟩,
 ⟨some 6, .eqn 0 false (.t 5) (.c (.pointer none)), none⟩]
def F_strings_Builder_copyCheckr0 : List IStmt := F_strings_Builder_copyCheckr0b
theorem F_strings_Builder_copyCheckr0_W {T : Tab} {env : Env} {H : Heap} {Q : Post} : W T (.reg F_strings_Builder_copyCheckr0) env H Q ↔ WR T F_strings_Builder_copyCheckr0 F_strings_Builder_copyCheckr0b env H none [] Q := w_reg
def F_strings_Builder_copyCheckr1b : List IStmt := [
 ⟨some 7, .mv (.t 0), none⟩,
 ⟨some 8, .mv (.t 0), none⟩,
 ⟨some 9, .xop .cvu (.t 8) (.t 8), none⟩,
 ⟨some 10, .xop .noesc (.t 9) (.t 9), none⟩,
 ⟨some 11, .xop (.cvq [82, 83, 84] 2) (.t 10) (.t 10), none⟩,
 ⟨some 12, .nilc (.t 7), none⟩,
 ⟨some 13, .fa 0 (.t 12), none⟩,
 ⟨none, .store 1 (.t 13) (.t 11), none⟩]
def F_strings_Builder_copyCheckr1 : List IStmt := F_strings_Builder_copyCheckr1b
theorem F_strings_Builder_copyCheckr1_W {T : Tab} {env : Env} {H : Heap} {Q : Post} : W T (.reg F_strings_Builder_copyCheckr1) env H Q ↔ WR T F_strings_Builder_copyCheckr1 F_strings_Builder_copyCheckr1b env H none [] Q := w_reg
def F_strings_Builder_copyCheckr2b : List IStmt := [
 ⟨some 14, .mv (.t 0), none⟩,
 ⟨some 15, .nilc (.t 14), none⟩,
 ⟨some 16, .fa 0 (.t 15), none⟩,
 ⟨some 17, .load (.t 16), none⟩,
 ⟨some 18, .mv (.t 0), none⟩,
 ⟨some 19, .xop .nep (.t 17) (.t 18), none⟩]
def F_strings_Builder_copyCheckr2 : List IStmt := F_strings_Builder_copyCheckr2b
theorem F_strings_Builder_copyCheckr2_W {T : Tab} {env : Env} {H : Heap} {Q : Post} : W T (.reg F_strings_Builder_copyCheckr2) env H Q ↔ WR T F_strings_Builder_copyCheckr2 F_strings_Builder_copyCheckr2b env H none [] Q := w_reg
def F_strings_Builder_copyCheckcb : ICode := (.seq (.reg F_strings_Builder_copyCheckr0) (.cond (.t 6) (.reg F_strings_Builder_copyCheckr1) (.seq (.reg F_strings_Builder_copyCheckr2) (.cond (.t 19) .stuckC .skip))))
def F_strings_Builder_copyCheckc : ICode := F_strings_Builder_copyCheckcb
theorem F_strings_Builder_copyCheckc_W {T : Tab} {env : Env} {H : Heap} {Q : Post} : W T F_strings_Builder_copyCheckc env H Q ↔ W T F_strings_Builder_copyCheckcb env H Q := Iff.rfl
def F_strings_Builder_copyCheck : IFn := ⟨20, [], F_strings_Builder_copyCheckc⟩
set_option linter.defProp false in
set_option maxRecDepth 100000 in
def N_strings_Builder_copyCheckP := And.intro F_strings_Builder_copyCheckr0b.eq_1 (And.intro @F_strings_Builder_copyCheckr0_W (And.intro F_strings_Builder_copyCheckr1b.eq_1 (And.intro @F_strings_Builder_copyCheckr1_W (And.intro F_strings_Builder_copyCheckr2b.eq_1 (And.intro @F_strings_Builder_copyCheckr2_W (And.intro @F_strings_Builder_copyCheckc_W (F_strings_Builder_copyCheckcb.eq_1)))))))
theorem N_strings_Builder_copyCheck : type_of% N_strings_Builder_copyCheckP := N_strings_Builder_copyCheckP
set_option maxRecDepth 1000000 in
theorem F_strings_Builder_copyCheck_chk : chkF Tryz.prog 97 F_strings_Builder_copyCheck = true := by kernel_rfl

/-! ### strings_Builder_WriteString -/
def F_strings_Builder_WriteStringr0b : List IStmt := [
 ⟨some 4, .mv (.c (.int .i64 0)), none⟩,
 ⟨some 5, .mv (.c (.nilIface)), none⟩]
def F_strings_Builder_WriteStringr0 : List IStmt := F_strings_Builder_WriteStringr0b
theorem F_strings_Builder_WriteStringr0_W {T : Tab} {env : Env} {H : Heap} {Q : Post} : W T (.reg F_strings_Builder_WriteStringr0) env H Q ↔ WR T F_strings_Builder_WriteStringr0 F_strings_Builder_WriteStringr0b env H none [] Q := w_reg
def F_strings_Builder_WriteStringr1b : List IStmt := [
 ⟨some 6, .mv (.t 0), none⟩,
 ⟨some 7, .call 97 [(.t 6)], none⟩]
def F_strings_Builder_WriteStringr1 : List IStmt := F_strings_Builder_WriteStringr1b
theorem F_strings_Builder_WriteStringr1_W {T : Tab} {env : Env} {H : Heap} {Q : Post} : W T (.reg F_strings_Builder_WriteStringr1) env H Q ↔ WR T F_strings_Builder_WriteStringr1 F_strings_Builder_WriteStringr1b env H none [] Q := w_reg
def F_strings_Builder_WriteStringr2b : List IStmt := [
 ⟨some 8, .mv (.t 0), none⟩,
 ⟨some 9, .mv (.t 0), none⟩,
 ⟨some 10, .nilc (.t 9), none⟩,
 ⟨some 11, .fa 1 (.t 10), none⟩,
 ⟨some 12, .load (.t 11), none⟩,
 ⟨some 13, .mv (.t 1), none⟩,
 ⟨some 14, .xop (.appB 5) (.t 12) (.t 13), none⟩,
 ⟨some 15, .nilc (.t 8), none⟩,
 ⟨some 16, .fa 1 (.t 15), none⟩,
 ⟨none, .store 1 (.t 16) (.t 14), none⟩]
def F_strings_Builder_WriteStringr2 : List IStmt := F_strings_Builder_WriteStringr2b
theorem F_strings_Builder_WriteStringr2_W {T : Tab} {env : Env} {H : Heap} {Q : Post} : W T (.reg F_strings_Builder_WriteStringr2) env H Q ↔ WR T F_strings_Builder_WriteStringr2 F_strings_Builder_WriteStringr2b env H none [] Q := w_reg
def F_strings_Builder_WriteStringr3b : List IStmt := [
 ⟨some 17, .mv (.t 1), none⟩,
 ⟨some 18, .len 0 (.t 17), none⟩,
 ⟨some 4, .mv (.t 18), none⟩,
 ⟨some 5, .mv (.c (.nilIface)), none⟩]
def F_strings_Builder_WriteStringr3 : List IStmt := F_strings_Builder_WriteStringr3b
theorem F_strings_Builder_WriteStringr3_W {T : Tab} {env : Env} {H : Heap} {Q : Post} : W T (.reg F_strings_Builder_WriteStringr3) env H Q ↔ WR T F_strings_Builder_WriteStringr3 F_strings_Builder_WriteStringr3b env H none [] Q := w_reg
def F_strings_Builder_WriteStringcb : ICode := (.seq (.reg F_strings_Builder_WriteStringr0) (.seq (.reg F_strings_Builder_WriteStringr1) (.seq (.reg F_strings_Builder_WriteStringr2) (.seq (.reg F_strings_Builder_WriteStringr3) .ret))))
def F_strings_Builder_WriteStringc : ICode := F_strings_Builder_WriteStringcb
theorem F_strings_Builder_WriteStringc_W {T : Tab} {env : Env} {H : Heap} {Q : Post} : W T F_strings_Builder_WriteStringc env H Q ↔ W T F_strings_Builder_WriteStringcb env H Q := Iff.rfl
def F_strings_Builder_WriteString : IFn := ⟨19, [.tmp 4, .tmp 5], F_strings_Builder_WriteStringc⟩
set_option linter.defProp false in
set_option maxRecDepth 100000 in
def N_strings_Builder_WriteStringP := And.intro F_strings_Builder_WriteStringr0b.eq_1 (And.intro @F_strings_Builder_WriteStringr0_W (And.intro F_strings_Builder_WriteStringr1b.eq_1 (And.intro @F_strings_Builder_WriteStringr1_W (And.intro F_strings_Builder_WriteStringr2b.eq_1 (And.intro @F_strings_Builder_WriteStringr2_W (And.intro F_strings_Builder_WriteStringr3b.eq_1 (And.intro @F_strings_Builder_WriteStringr3_W (And.intro @F_strings_Builder_WriteStringc_W (F_strings_Builder_WriteStringcb.eq_1)))))))))
theorem N_strings_Builder_WriteString : type_of% N_strings_Builder_WriteStringP := N_strings_Builder_WriteStringP
set_option maxRecDepth 1000000 in
theorem F_strings_Builder_WriteString_chk : chkF Tryz.prog 67 F_strings_Builder_WriteString = true := by kernel_rfl

/-! ### strings_Builder_WriteByte -/
def F_strings_Builder_WriteByter0b : List IStmt := [
 ⟨some 4, .mv (.c (.nilIface)), none⟩]
def F_strings_Builder_WriteByter0 : List IStmt := F_strings_Builder_WriteByter0b
theorem F_strings_Builder_WriteByter0_W {T : Tab} {env : Env} {H : Heap} {Q : Post} : W T (.reg F_strings_Builder_WriteByter0) env H Q ↔ WR T F_strings_Builder_WriteByter0 F_strings_Builder_WriteByter0b env H none [] Q := w_reg
def F_strings_Builder_WriteByter1b : List IStmt := [
 ⟨some 5, .mv (.t 0), none⟩,
 ⟨some 6, .call 97 [(.t 5)], none⟩]
def F_strings_Builder_WriteByter1 : List IStmt := F_strings_Builder_WriteByter1b
theorem F_strings_Builder_WriteByter1_W {T : Tab} {env : Env} {H : Heap} {Q : Post} : W T (.reg F_strings_Builder_WriteByter1) env H Q ↔ WR T F_strings_Builder_WriteByter1 F_strings_Builder_WriteByter1b env H none [] Q := w_reg
def F_strings_Builder_WriteByter2b : List IStmt := [
 ⟨some 7, .mv (.t 0), none⟩,
 ⟨some 8, .mv (.t 0), none⟩,
 ⟨some 9, .nilc (.t 8), none⟩,
 ⟨some 10, .fa 1 (.t 9), none⟩,
 ⟨some 11, .load (.t 10), none⟩,
 ⟨some 12, .mv (.t 1), none⟩,
 ⟨some 13, .bsli 1 1 [.int .u8 0] [(0, (.t 12))], none⟩,
 ⟨some 14, .xop (.appB 5) (.t 11) (.t 13), none⟩,
 ⟨some 15, .nilc (.t 7), none⟩,
 ⟨some 16, .fa 1 (.t 15), none⟩,
 ⟨none, .store 1 (.t 16) (.t 14), none⟩]
def F_strings_Builder_WriteByter2 : List IStmt := F_strings_Builder_WriteByter2b
theorem F_strings_Builder_WriteByter2_W {T : Tab} {env : Env} {H : Heap} {Q : Post} : W T (.reg F_strings_Builder_WriteByter2) env H Q ↔ WR T F_strings_Builder_WriteByter2 F_strings_Builder_WriteByter2b env H none [] Q := w_reg
def F_strings_Builder_WriteByter3b : List IStmt := [
 ⟨some 4, .mv (.c (.nilIface)), none⟩]
def F_strings_Builder_WriteByter3 : List IStmt := F_strings_Builder_WriteByter3b
theorem F_strings_Builder_WriteByter3_W {T : Tab} {env : Env} {H : Heap} {Q : Post} : W T (.reg F_strings_Builder_WriteByter3) env H Q ↔ WR T F_strings_Builder_WriteByter3 F_strings_Builder_WriteByter3b env H none [] Q := w_reg
def F_strings_Builder_WriteBytecb : ICode := (.seq (.reg F_strings_Builder_WriteByter0) (.seq (.reg F_strings_Builder_WriteByter1) (.seq (.reg F_strings_Builder_WriteByter2) (.seq (.reg F_strings_Builder_WriteByter3) .ret))))
def F_strings_Builder_WriteBytec : ICode := F_strings_Builder_WriteBytecb
theorem F_strings_Builder_WriteBytec_W {T : Tab} {env : Env} {H : Heap} {Q : Post} : W T F_strings_Builder_WriteBytec env H Q ↔ W T F_strings_Builder_WriteBytecb env H Q := Iff.rfl
def F_strings_Builder_WriteByte : IFn := ⟨17, [.tmp 4], F_strings_Builder_WriteBytec⟩
set_option linter.defProp false in
set_option maxRecDepth 100000 in
def N_strings_Builder_WriteByteP := And.intro F_strings_Builder_WriteByter0b.eq_1 (And.intro @F_strings_Builder_WriteByter0_W (And.intro F_strings_Builder_WriteByter1b.eq_1 (And.intro @F_strings_Builder_WriteByter1_W (And.intro F_strings_Builder_WriteByter2b.eq_1 (And.intro @F_strings_Builder_WriteByter2_W (And.intro F_strings_Builder_WriteByter3b.eq_1 (And.intro @F_strings_Builder_WriteByter3_W (And.intro @F_strings_Builder_WriteBytec_W (F_strings_Builder_WriteBytecb.eq_1)))))))))
theorem N_strings_Builder_WriteByte : type_of% N_strings_Builder_WriteByteP := N_strings_Builder_WriteByteP
set_option maxRecDepth 1000000 in
theorem F_strings_Builder_WriteByte_chk : chkF Tryz.prog 66 F_strings_Builder_WriteByte = true := by kernel_rfl

/-! ### strings_Builder_String -/
def F_strings_Builder_Stringr0b : List IStmt := [
 ⟨some 2, .mv (.c (.string ⟨#[]⟩)), none⟩]
def F_strings_Builder_Stringr0 : List IStmt := F_strings_Builder_Stringr0b
theorem F_strings_Builder_Stringr0_W {T : Tab} {env : Env} {H : Heap} {Q : Post} : W T (.reg F_strings_Builder_Stringr0) env H Q ↔ WR T F_strings_Builder_Stringr0 F_strings_Builder_Stringr0b env H none [] Q := w_reg
def F_strings_Builder_Stringr1b : List IStmt := [
 ⟨some 3, .mv (.t 0), none⟩,
 ⟨some 4, .nilc (.t 3), none⟩,
 ⟨some 5, .fa 1 (.t 4), none⟩,
 ⟨some 6, .load (.t 5), none⟩,
 ⟨some 7, .xop .usd (.t 6) (.t 6), none⟩,
 ⟨some 8, .mv (.t 0), none⟩,
 ⟨some 9, .nilc (.t 8), none⟩,
 ⟨some 10, .fa 1 (.t 9), none⟩,
 ⟨some 11, .load (.t 10), none⟩,
 ⟨some 12, .xop .lenb (.t 11) (.t 11), none⟩,
 ⟨some 13, .xop (.ust 5) (.t 7) (.t 12), none⟩,
 ⟨some 2, .mv (.t 13), none⟩]
def F_strings_Builder_Stringr1 : List IStmt := F_strings_Builder_Stringr1b
theorem F_strings_Builder_Stringr1_W {T : Tab} {env : Env} {H : Heap} {Q : Post} : W T (.dreg F_strings_Builder_Stringr1 []) env H Q ↔ WR T F_strings_Builder_Stringr1 F_strings_Builder_Stringr1b env H none [] Q := w_dreg0
def F_strings_Builder_Stringcb : ICode := (.seq (.reg F_strings_Builder_Stringr0) (.seq (.dreg F_strings_Builder_Stringr1 []) .ret))
def F_strings_Builder_Stringc : ICode := F_strings_Builder_Stringcb
theorem F_strings_Builder_Stringc_W {T : Tab} {env : Env} {H : Heap} {Q : Post} : W T F_strings_Builder_Stringc env H Q ↔ W T F_strings_Builder_Stringcb env H Q := Iff.rfl
def F_strings_Builder_String : IFn := ⟨14, [.tmp 2], F_strings_Builder_Stringc⟩
set_option linter.defProp false in
set_option maxRecDepth 100000 in
def N_strings_Builder_StringP := And.intro F_strings_Builder_Stringr0b.eq_1 (And.intro @F_strings_Builder_Stringr0_W (And.intro F_strings_Builder_Stringr1b.eq_1 (And.intro @F_strings_Builder_Stringr1_W (And.intro @F_strings_Builder_Stringc_W (F_strings_Builder_Stringcb.eq_1)))))
theorem N_strings_Builder_String : type_of% N_strings_Builder_StringP := N_strings_Builder_StringP
set_option maxRecDepth 1000000 in
theorem F_strings_Builder_String_chk : chkF Tryz.prog 42 F_strings_Builder_String = true := by kernel_rfl

/-- The functions, by number. -/
def TBld_l : List (Nat × IFn) := [(97, F_strings_Builder_copyCheck), (67, F_strings_Builder_WriteString), (66, F_strings_Builder_WriteByte), (42, F_strings_Builder_String)]
def TBld : Tab := tabOf TBld_l
theorem TBld_chk : ∀ p ∈ TBld_l, chkF Tryz.prog p.1 p.2 = true := by
  intro p hp
  simp only [TBld_l, List.mem_cons, List.not_mem_nil, or_false] at hp
  rcases hp with rfl | rfl | rfl | rfl
  · exact F_strings_Builder_copyCheck_chk
  · exact F_strings_Builder_WriteString_chk
  · exact F_strings_Builder_WriteByte_chk
  · exact F_strings_Builder_String_chk
theorem TBld_good : Good Tryz.prog TBld := good_tab (by kernel_rfl) TBld_chk

end Go.Proofs.YtdajdgjacajemaaGreat
