/- The small language's text of functions of the given program, and the check that it stands for them. Printed by a program. -/
import Derived.Test.YtbhoaiacnoiocaaDoorFwC
import Derived.Test.YtbhoaiacnoiocaaDoorChecked
import Derived.KernelRfl
namespace Go.Proofs.YtbhoaiacnoiocaaDoor
open Go Fw
/-- The type of a byte here, and those of a Builder and of what is a Builder alone. -/
abbrev T8 : Nat := 5
abbrev TBs : List Nat := [60]

/-! ### strings_Builder_copyCheck -/
def F_strings_Builder_copyCheckr0 : List IStmt := [
  ⟨some 2, .mv (.t 0), none⟩,
  ⟨some 3, .nilc (.t 2), none⟩,
  ⟨some 4, .fa 0 (.t 3), none⟩,
  ⟨some 5, .load (.t 4), none⟩,
  ⟨some 6, .eqn 0 false (.t 5) (.c (.pointer none)), none⟩]
theorem F_strings_Builder_copyCheckr0_W {T : Tab} {env : Env} {H : Heap} {Q : Post} : W T (.reg F_strings_Builder_copyCheckr0) env H Q ↔ WR T F_strings_Builder_copyCheckr0 [
  ⟨some 2, .mv (.t 0), none⟩,
  ⟨some 3, .nilc (.t 2), none⟩,
  ⟨some 4, .fa 0 (.t 3), none⟩,
  ⟨some 5, .load (.t 4), none⟩,
  ⟨some 6, .eqn 0 false (.t 5) (.c (.pointer none)), none⟩] env H none [] Q := w_reg
def F_strings_Builder_copyCheckr1 : List IStmt := [
  ⟨some 7, .mv (.t 0), none⟩,
  ⟨some 8, .mv (.t 0), none⟩,
  ⟨some 9, .xop .cvu (.t 8) (.t 8), none⟩,
  ⟨some 10, .xop .noesc (.t 9) (.t 9), none⟩,
  ⟨some 11, .xop (.cvq [60] 2) (.t 10) (.t 10), none⟩,
  ⟨some 12, .nilc (.t 7), none⟩,
  ⟨some 13, .fa 0 (.t 12), none⟩,
  ⟨none, .store 1 (.t 13) (.t 11), none⟩]
theorem F_strings_Builder_copyCheckr1_W {T : Tab} {env : Env} {H : Heap} {Q : Post} : W T (.reg F_strings_Builder_copyCheckr1) env H Q ↔ WR T F_strings_Builder_copyCheckr1 [
  ⟨some 7, .mv (.t 0), none⟩,
  ⟨some 8, .mv (.t 0), none⟩,
  ⟨some 9, .xop .cvu (.t 8) (.t 8), none⟩,
  ⟨some 10, .xop .noesc (.t 9) (.t 9), none⟩,
  ⟨some 11, .xop (.cvq [60] 2) (.t 10) (.t 10), none⟩,
  ⟨some 12, .nilc (.t 7), none⟩,
  ⟨some 13, .fa 0 (.t 12), none⟩,
  ⟨none, .store 1 (.t 13) (.t 11), none⟩] env H none [] Q := w_reg
def F_strings_Builder_copyCheckr2 : List IStmt := [
  ⟨some 14, .mv (.t 0), none⟩,
  ⟨some 15, .nilc (.t 14), none⟩,
  ⟨some 16, .fa 0 (.t 15), none⟩,
  ⟨some 17, .load (.t 16), none⟩,
  ⟨some 18, .mv (.t 0), none⟩,
  ⟨some 19, .xop .nep (.t 17) (.t 18), none⟩]
theorem F_strings_Builder_copyCheckr2_W {T : Tab} {env : Env} {H : Heap} {Q : Post} : W T (.reg F_strings_Builder_copyCheckr2) env H Q ↔ WR T F_strings_Builder_copyCheckr2 [
  ⟨some 14, .mv (.t 0), none⟩,
  ⟨some 15, .nilc (.t 14), none⟩,
  ⟨some 16, .fa 0 (.t 15), none⟩,
  ⟨some 17, .load (.t 16), none⟩,
  ⟨some 18, .mv (.t 0), none⟩,
  ⟨some 19, .xop .nep (.t 17) (.t 18), none⟩] env H none [] Q := w_reg
def F_strings_Builder_copyCheckc : ICode := (.seq (.reg F_strings_Builder_copyCheckr0) (.cond (.t 6) (.reg F_strings_Builder_copyCheckr1) (.seq (.reg F_strings_Builder_copyCheckr2) (.cond (.t 19) .stuckC .skip))))
theorem F_strings_Builder_copyCheckc_W {T : Tab} {env : Env} {H : Heap} {Q : Post} : W T F_strings_Builder_copyCheckc env H Q ↔ W T (.seq (.reg F_strings_Builder_copyCheckr0) (.cond (.t 6) (.reg F_strings_Builder_copyCheckr1) (.seq (.reg F_strings_Builder_copyCheckr2) (.cond (.t 19) .stuckC .skip)))) env H Q := Iff.rfl
def F_strings_Builder_copyCheck : IFn := ⟨20, [], F_strings_Builder_copyCheckc⟩
set_option maxRecDepth 1000000 in
theorem F_strings_Builder_copyCheck_chk : chkF Tryd.prog 37 F_strings_Builder_copyCheck = true := by kernel_rfl

/-! ### strings_Builder_WriteString -/
def F_strings_Builder_WriteStringr0 : List IStmt := [
  ⟨some 4, .mv (.c (.int .i64 0)), none⟩,
  ⟨some 5, .mv (.c (.nilIface)), none⟩]
theorem F_strings_Builder_WriteStringr0_W {T : Tab} {env : Env} {H : Heap} {Q : Post} : W T (.reg F_strings_Builder_WriteStringr0) env H Q ↔ WR T F_strings_Builder_WriteStringr0 [
  ⟨some 4, .mv (.c (.int .i64 0)), none⟩,
  ⟨some 5, .mv (.c (.nilIface)), none⟩] env H none [] Q := w_reg
def F_strings_Builder_WriteStringr1 : List IStmt := [
  ⟨some 6, .mv (.t 0), none⟩,
  ⟨some 7, .call 37 [(.t 6)], none⟩]
theorem F_strings_Builder_WriteStringr1_W {T : Tab} {env : Env} {H : Heap} {Q : Post} : W T (.reg F_strings_Builder_WriteStringr1) env H Q ↔ WR T F_strings_Builder_WriteStringr1 [
  ⟨some 6, .mv (.t 0), none⟩,
  ⟨some 7, .call 37 [(.t 6)], none⟩] env H none [] Q := w_reg
def F_strings_Builder_WriteStringr2 : List IStmt := [
  ⟨some 8, .mv (.t 0), none⟩,
  ⟨some 9, .mv (.t 0), none⟩,
  ⟨some 10, .nilc (.t 9), none⟩,
  ⟨some 11, .fa 1 (.t 10), none⟩,
  ⟨some 12, .load (.t 11), none⟩,
  ⟨some 13, .mv (.t 1), none⟩,
  ⟨some 14, .xop (.appB 5) (.t 12) (.t 13), none⟩,
  ⟨some 15, .nilc (.t 8), none⟩,
  ⟨some 16, .fa 1 (.t 15), none⟩,
  ⟨none, .store 1 (.t 16) (.t 14), none⟩]
theorem F_strings_Builder_WriteStringr2_W {T : Tab} {env : Env} {H : Heap} {Q : Post} : W T (.reg F_strings_Builder_WriteStringr2) env H Q ↔ WR T F_strings_Builder_WriteStringr2 [
  ⟨some 8, .mv (.t 0), none⟩,
  ⟨some 9, .mv (.t 0), none⟩,
  ⟨some 10, .nilc (.t 9), none⟩,
  ⟨some 11, .fa 1 (.t 10), none⟩,
  ⟨some 12, .load (.t 11), none⟩,
  ⟨some 13, .mv (.t 1), none⟩,
  ⟨some 14, .xop (.appB 5) (.t 12) (.t 13), none⟩,
  ⟨some 15, .nilc (.t 8), none⟩,
  ⟨some 16, .fa 1 (.t 15), none⟩,
  ⟨none, .store 1 (.t 16) (.t 14), none⟩] env H none [] Q := w_reg
def F_strings_Builder_WriteStringr3 : List IStmt := [
  ⟨some 17, .mv (.t 1), none⟩,
  ⟨some 18, .len 0 (.t 17), none⟩,
  ⟨some 4, .mv (.t 18), none⟩,
  ⟨some 5, .mv (.c (.nilIface)), none⟩]
theorem F_strings_Builder_WriteStringr3_W {T : Tab} {env : Env} {H : Heap} {Q : Post} : W T (.reg F_strings_Builder_WriteStringr3) env H Q ↔ WR T F_strings_Builder_WriteStringr3 [
  ⟨some 17, .mv (.t 1), none⟩,
  ⟨some 18, .len 0 (.t 17), none⟩,
  ⟨some 4, .mv (.t 18), none⟩,
  ⟨some 5, .mv (.c (.nilIface)), none⟩] env H none [] Q := w_reg
def F_strings_Builder_WriteStringc : ICode := (.seq (.reg F_strings_Builder_WriteStringr0) (.seq (.reg F_strings_Builder_WriteStringr1) (.seq (.reg F_strings_Builder_WriteStringr2) (.seq (.reg F_strings_Builder_WriteStringr3) .ret))))
theorem F_strings_Builder_WriteStringc_W {T : Tab} {env : Env} {H : Heap} {Q : Post} : W T F_strings_Builder_WriteStringc env H Q ↔ W T (.seq (.reg F_strings_Builder_WriteStringr0) (.seq (.reg F_strings_Builder_WriteStringr1) (.seq (.reg F_strings_Builder_WriteStringr2) (.seq (.reg F_strings_Builder_WriteStringr3) .ret)))) env H Q := Iff.rfl
def F_strings_Builder_WriteString : IFn := ⟨19, [.tmp 4, .tmp 5], F_strings_Builder_WriteStringc⟩
set_option maxRecDepth 1000000 in
theorem F_strings_Builder_WriteString_chk : chkF Tryd.prog 20 F_strings_Builder_WriteString = true := by kernel_rfl

/-! ### strings_Builder_String -/
def F_strings_Builder_Stringr0 : List IStmt := [
  ⟨some 2, .mv (.c (.string ⟨#[]⟩)), none⟩]
theorem F_strings_Builder_Stringr0_W {T : Tab} {env : Env} {H : Heap} {Q : Post} : W T (.reg F_strings_Builder_Stringr0) env H Q ↔ WR T F_strings_Builder_Stringr0 [
  ⟨some 2, .mv (.c (.string ⟨#[]⟩)), none⟩] env H none [] Q := w_reg
def F_strings_Builder_Stringr1 : List IStmt := [
  ⟨some 3, .mv (.t 0), none⟩,
  ⟨some 4, .nilc (.t 3), none⟩,
  ⟨some 5, .fa 1 (.t 4), none⟩,
  ⟨some 6, .load (.t 5), none⟩,
  ⟨some 7, .xop .usd (.t 6) (.t 6), none⟩,
  ⟨some 8, .mv (.t 0), none⟩,
  ⟨some 9, .nilc (.t 8), none⟩,
  ⟨some 10, .fa 1 (.t 9), none⟩,
  ⟨some 11, .load (.t 10), none⟩,
  ⟨some 12, .xop .lenb (.t 11) (.t 11), none⟩,
  ⟨some 13, .xop (.ust 5) (.t 7) (.t 12), none⟩,
  ⟨some 2, .mv (.t 13), none⟩]
theorem F_strings_Builder_Stringr1_W {T : Tab} {env : Env} {H : Heap} {Q : Post} : W T (.dreg F_strings_Builder_Stringr1 []) env H Q ↔ WR T F_strings_Builder_Stringr1 [
  ⟨some 3, .mv (.t 0), none⟩,
  ⟨some 4, .nilc (.t 3), none⟩,
  ⟨some 5, .fa 1 (.t 4), none⟩,
  ⟨some 6, .load (.t 5), none⟩,
  ⟨some 7, .xop .usd (.t 6) (.t 6), none⟩,
  ⟨some 8, .mv (.t 0), none⟩,
  ⟨some 9, .nilc (.t 8), none⟩,
  ⟨some 10, .fa 1 (.t 9), none⟩,
  ⟨some 11, .load (.t 10), none⟩,
  ⟨some 12, .xop .lenb (.t 11) (.t 11), none⟩,
  ⟨some 13, .xop (.ust 5) (.t 7) (.t 12), none⟩,
  ⟨some 2, .mv (.t 13), none⟩] env H none [] Q := w_dreg0
def F_strings_Builder_Stringc : ICode := (.seq (.reg F_strings_Builder_Stringr0) (.seq (.dreg F_strings_Builder_Stringr1 []) .ret))
theorem F_strings_Builder_Stringc_W {T : Tab} {env : Env} {H : Heap} {Q : Post} : W T F_strings_Builder_Stringc env H Q ↔ W T (.seq (.reg F_strings_Builder_Stringr0) (.seq (.dreg F_strings_Builder_Stringr1 []) .ret)) env H Q := Iff.rfl
def F_strings_Builder_String : IFn := ⟨14, [.tmp 2], F_strings_Builder_Stringc⟩
set_option maxRecDepth 1000000 in
theorem F_strings_Builder_String_chk : chkF Tryd.prog 21 F_strings_Builder_String = true := by kernel_rfl

/-- The functions, by number. -/
def TBld_l : List (Nat × IFn) := [(37, F_strings_Builder_copyCheck), (20, F_strings_Builder_WriteString), (21, F_strings_Builder_String)]
def TBld : Tab := tabOf TBld_l
theorem TBld_chk : ∀ p ∈ TBld_l, chkF Tryd.prog p.1 p.2 = true := by
  intro p hp
  simp only [TBld_l, List.mem_cons, List.not_mem_nil, or_false] at hp
  rcases hp with rfl | rfl | rfl
  · exact F_strings_Builder_copyCheck_chk
  · exact F_strings_Builder_WriteString_chk
  · exact F_strings_Builder_String_chk
theorem TBld_good : Good Tryd.prog TBld := good_tab (by kernel_rfl) TBld_chk

end Go.Proofs.YtbhoaiacnoiocaaDoor
