/- StDyn: structs as Lean structures, printed by structgen.py. -/
import Derived.Test.YtdkdifjjpbfohaaFwC
namespace Go.Proofs.Ytdkdifjjpbfohaa
open Go Fw
set_option linter.unusedSimpArgs false
set_option linter.unusedVariables false
structure S_api_Phdr where
  Typ : Int
  Flags : Int
  Off : Int
  Vaddr : Int
  Filesz : Int
  Memsz : Int
  Align : Int
deriving DecidableEq
def S_api_PhdrE : Enc S_api_Phdr where
  e s := [.int .u32 (s.Typ), .int .u32 (s.Flags), .int .u64 (s.Off), .int .u64 (s.Vaddr), .int .u64 (s.Filesz), .int .u64 (s.Memsz), .int .u64 (s.Align)]
  u := 7
  d := 0
  hu _ := by rfl
  hp k s := by
    have key : ∀ m, 0 ≤ m → ([.int .u32 (s.Typ), .int .u32 (s.Flags), .int .u64 (s.Off), .int .u64 (s.Vaddr), .int .u64 (s.Filesz), .int .u64 (s.Memsz), .int .u64 (s.Align)]).all (pureV m) = true := fun m hm => by
      simp [pure_int, pure_bool, pure_string, bltN, byteE_d, intE_d, boolE_d, strE_d, slE_d]
      try omega
    exact key _ (Nat.le_add_left _ _)
  ho s := by simp [oneC_int, oneC_bool, oneC_string, oneC_sl, Enc.ho]
theorem S_api_PhdrE_u : S_api_PhdrE.u = 7 := rfl
theorem S_api_PhdrE_d : S_api_PhdrE.d = 0 := rfl
theorem S_api_PhdrE_e {s : S_api_Phdr} : S_api_PhdrE.e s = [.int .u32 (s.Typ), .int .u32 (s.Flags), .int .u64 (s.Off), .int .u64 (s.Vaddr), .int .u64 (s.Filesz), .int .u64 (s.Memsz), .int .u64 (s.Align)] := rfl
def S_api_Phdr.wf (s : S_api_Phdr) : Prop := (fun n => (Lit.int .u32 n).wf = true) s.Typ ∧ (fun n => (Lit.int .u32 n).wf = true) s.Flags ∧ (fun n => (Lit.int .u64 n).wf = true) s.Off ∧ (fun n => (Lit.int .u64 n).wf = true) s.Vaddr ∧ (fun n => (Lit.int .u64 n).wf = true) s.Filesz ∧ (fun n => (Lit.int .u64 n).wf = true) s.Memsz ∧ (fun n => (Lit.int .u64 n).wf = true) s.Align
theorem opn_api_Phdr {H : Type} {P : Program} {enc : TypeId × Value → H} {W : World} {t : TypeId} {fs : Array Field} (ht : P.underlying t = some (.struct fs)) (hc : P.cellsOf t = 7)
    (h0 : FOpn P enc W fs 0 0 (intE .u32) (fun n => (Lit.int .u32 n).wf = true))
    (h1 : FOpn P enc W fs 1 1 (intE .u32) (fun n => (Lit.int .u32 n).wf = true))
    (h2 : FOpn P enc W fs 2 2 (intE .u64) (fun n => (Lit.int .u64 n).wf = true))
    (h3 : FOpn P enc W fs 3 3 (intE .u64) (fun n => (Lit.int .u64 n).wf = true))
    (h4 : FOpn P enc W fs 4 4 (intE .u64) (fun n => (Lit.int .u64 n).wf = true))
    (h5 : FOpn P enc W fs 5 5 (intE .u64) (fun n => (Lit.int .u64 n).wf = true))
    (h6 : FOpn P enc W fs 6 6 (intE .u64) (fun n => (Lit.int .u64 n).wf = true))
    : Opn P enc W t S_api_PhdrE S_api_Phdr.wf := fun fuel cs x h => by
  have hl := opn_len ht h
  rw [hc] at hl
  obtain ⟨a0, w0, u0⟩ := opn_field ht h h0
  obtain ⟨a1, w1, u1⟩ := opn_field ht h h1
  obtain ⟨a2, w2, u2⟩ := opn_field ht h h2
  obtain ⟨a3, w3, u3⟩ := opn_field ht h h3
  obtain ⟨a4, w4, u4⟩ := opn_field ht h h4
  obtain ⟨a5, w5, u5⟩ := opn_field ht h h5
  obtain ⟨a6, w6, u6⟩ := opn_field ht h h6
  refine ⟨⟨a0, a1, a2, a3, a4, a5, a6⟩, ⟨w0, w1, w2, w3, w4, w5, w6⟩, vrs_all ?_⟩
  exact (vrs_next u0 rfl (vrs_next u1 rfl (vrs_next u2 rfl (vrs_next u3 rfl (vrs_next u4 rfl (vrs_next u5 rfl (vrs_next u6 rfl (vrs_end hl))))))))
structure S_dyn_Entry where
  Tag : Int
  Value : Int
deriving DecidableEq
def S_dyn_EntryE : Enc S_dyn_Entry where
  e s := [.int .u64 (s.Tag), .int .u64 (s.Value)]
  u := 2
  d := 0
  hu _ := by rfl
  hp k s := by
    have key : ∀ m, 0 ≤ m → ([.int .u64 (s.Tag), .int .u64 (s.Value)]).all (pureV m) = true := fun m hm => by
      simp [pure_int, pure_bool, pure_string, bltN, byteE_d, intE_d, boolE_d, strE_d, slE_d]
      try omega
    exact key _ (Nat.le_add_left _ _)
  ho s := by simp [oneC_int, oneC_bool, oneC_string, oneC_sl, Enc.ho]
theorem S_dyn_EntryE_u : S_dyn_EntryE.u = 2 := rfl
theorem S_dyn_EntryE_d : S_dyn_EntryE.d = 0 := rfl
theorem S_dyn_EntryE_e {s : S_dyn_Entry} : S_dyn_EntryE.e s = [.int .u64 (s.Tag), .int .u64 (s.Value)] := rfl
def S_dyn_Entry.wf (s : S_dyn_Entry) : Prop := (fun n => (Lit.int .u64 n).wf = true) s.Tag ∧ (fun n => (Lit.int .u64 n).wf = true) s.Value
theorem opn_dyn_Entry {H : Type} {P : Program} {enc : TypeId × Value → H} {W : World} {t : TypeId} {fs : Array Field} (ht : P.underlying t = some (.struct fs)) (hc : P.cellsOf t = 2)
    (h0 : FOpn P enc W fs 0 0 (intE .u64) (fun n => (Lit.int .u64 n).wf = true))
    (h1 : FOpn P enc W fs 1 1 (intE .u64) (fun n => (Lit.int .u64 n).wf = true))
    : Opn P enc W t S_dyn_EntryE S_dyn_Entry.wf := fun fuel cs x h => by
  have hl := opn_len ht h
  rw [hc] at hl
  obtain ⟨a0, w0, u0⟩ := opn_field ht h h0
  obtain ⟨a1, w1, u1⟩ := opn_field ht h h1
  refine ⟨⟨a0, a1⟩, ⟨w0, w1⟩, vrs_all ?_⟩
  exact (vrs_next u0 rfl (vrs_next u1 rfl (vrs_end hl)))
end Go.Proofs.Ytdkdifjjpbfohaa
