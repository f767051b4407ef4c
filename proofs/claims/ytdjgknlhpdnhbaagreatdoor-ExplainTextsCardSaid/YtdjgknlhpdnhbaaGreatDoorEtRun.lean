/- The chapter's example is run: two files made, their images read, and all of it told. Printed by genetrun.py. -/
import Derived.Test.YtdjgknlhpdnhbaaGreatDoorFwC
import Derived.Test.YtdjgknlhpdnhbaaGreatDoorIrEx
namespace Go.Proofs.YtdjgknlhpdnhbaaGreatDoor
open Go Fw
/-- The natives at plain arguments. -/
def natEtR (f : Nat) (args : List Value) : Option Value :=
  match natEt f args with
  | some (.int k n) => bif args.all (pureV 6) && (TEx.fns f).isNone then some (.int k n) else none
  | some (.string s) => bif args.all (pureV 6) && (TEx.fns f).isNone then some (.string s) else none
  | _ => none
theorem natEtR_sn : SN TEx natEtR := by
  intro f args v h
  unfold natEtR at h
  split at h
  · rename_i k n e
    cases hb : args.all (pureV 6) && (TEx.fns f).isNone with
    | false => rw [hb] at h; cases h
    | true =>
      rw [hb] at h
      obtain rfl := Option.some.inj h
      rw [Bool.and_eq_true] at hb
      exact FnV_nat hb.1 (Option.isNone_iff_eq_none.1 hb.2) e rfl
  · rename_i s e
    cases hb : args.all (pureV 6) && (TEx.fns f).isNone with
    | false => rw [hb] at h; cases h
    | true =>
      rw [hb] at h
      obtain rfl := Option.some.inj h
      rw [Bool.and_eq_true] at hb
      exact FnV_nat hb.1 (Option.isNone_iff_eq_none.1 hb.2) e rfl
  · cases h
/-- The natives, where the table has no text. -/
def natEtX (f : Nat) (args : List Value) : Option Value := bif (TEx.fns f).isNone then natEt f args else none
theorem natEtX_sx : SX TEx natEtX := by
  intro f args v h
  unfold natEtX at h
  cases hf : (TEx.fns f).isNone with
  | false => rw [hf] at h; cases h
  | true => rw [hf] at h; exact ⟨Option.isNone_iff_eq_none.1 hf, h⟩
def natK (l : List (Nat × List Value × Value)) (f : Nat) (args : List Value) : Option Value := (knows l f args).or (natEtR f args)
theorem natK_sn {l : List (Nat × List Value × Value)} (h : ∀ p ∈ l, FnV TEx p.1 p.2.1 p.2.2) : SN TEx (natK l) := by
  intro f args v hv
  unfold natK at hv
  cases hk : knows l f args with
  | some u => rw [hk] at hv; obtain rfl := Option.some.inj hv; exact SN_knows h f args _ hk
  | none => rw [hk] at hv; exact natEtR_sn f args v hv
theorem known_cons {f : Nat} {a : List Value} {v : Value} {l : List (Nat × List Value × Value)} (h : FnV TEx f a v) (hl : ∀ p ∈ l, FnV TEx p.1 p.2.1 p.2.2) : ∀ p ∈ (f, a, v) :: l, FnV TEx p.1 p.2.1 p.2.2 := by
  intro p hp
  rcases List.mem_cons.1 hp with rfl | hp
  · exact h
  · exact hl p hp
def etB0 : List Value := ([127, 69, 76, 70, 2, 1, 1, 0, 0, 0, 0, 0, 0, 0, 0, 0, 3, 0, 62, 0, 1, 0, 0, 0, 0, 0, 0, 0, 0, 0, 0, 0, 64, 0, 0, 0, 0, 0, 0, 0, 0, 0, 0, 0, 0, 0, 0, 0, 0, 0, 0, 0, 64, 0, 56, 0, 3, 0, 0, 0, 0, 0, 0, 0, 1, 0, 0, 0, 4, 0, 0, 0, 0, 0, 0, 0, 0, 0, 0, 0, 0, 0, 0, 0, 0, 0, 0, 0, 0, 0, 0, 0, 0, 0, 0, 0, 0, 2, 0, 0, 0, 0, 0, 0, 0, 2, 0, 0, 0, 0, 0, 0, 8, 0, 0, 0, 0, 0, 0, 0, 1, 0, 0, 0, 6, 0, 0, 0, 0, 2, 0, 0, 0, 0, 0, 0, 0, 2, 0, 0, 0, 0, 0, 0, 0, 2, 0, 0, 0, 0, 0, 0, 0, 1, 0, 0, 0, 0, 0, 0, 0, 1, 0, 0, 0, 0, 0, 0, 8, 0, 0, 0, 0, 0, 0, 0, 2, 0, 0, 0, 6, 0, 0, 0, 0, 2, 0, 0, 0, 0, 0, 0, 0, 2, 0, 0, 0, 0, 0, 0, 0, 2, 0, 0, 0, 0, 0, 0, 128, 0, 0, 0, 0, 0, 0, 0, 128, 0, 0, 0, 0, 0, 0, 0, 8, 0, 0, 0, 0, 0, 0, 0, 0, 0, 0, 0, 0, 0, 0, 0, 0, 0, 0, 0, 0, 0, 0, 0, 0, 0, 0, 0, 0, 0, 0, 0, 0, 0, 0, 0, 0, 0, 0, 0, 0, 0, 0, 0, 0, 0, 0, 0, 0, 0, 0, 0, 0, 0, 0, 0, 0, 0, 0, 0, 0, 0, 0, 0, 0, 98, 46, 115, 111, 0, 97, 46, 115, 111, 0, 0, 0, 0, 0, 0, 0, 0, 0, 0, 0, 0, 0, 0, 0, 0, 0, 0, 0, 0, 0, 0, 0, 0, 0, 0, 0, 0, 0, 0, 2, 0, 0, 0, 1, 0, 0, 0, 0, 0, 0, 0, 0, 0, 0, 0, 0, 0, 0, 0, 0, 0, 0, 0, 0, 0, 0, 0, 0, 0, 0, 0, 0, 0, 0, 0, 0, 0, 0, 0, 0, 0, 0, 0, 0, 0, 0, 0, 0, 0, 0, 0, 0, 0, 0, 0, 0, 0, 0, 0, 0, 0, 0, 0, 0, 0, 0, 0, 0, 0, 0, 0, 0, 0, 0, 0, 0, 0, 0, 0, 0, 0, 0, 0, 0, 0, 0, 0, 0, 0, 0, 0, 0, 0, 0, 0, 0, 0, 0, 0, 0, 0, 0, 0, 0, 0, 0, 0, 0, 0, 0, 0, 0, 0, 0, 0, 0, 0, 0, 0, 0, 0, 0, 0, 0, 0, 0, 0, 0, 0, 0, 0, 0, 0, 0, 0, 0, 0, 0, 0, 0, 0, 0, 0, 0, 0, 0, 0, 0, 0, 0, 0, 0, 0, 0, 0, 0, 0, 0, 0, 0, 0, 0, 0, 0, 0, 0, 0, 0, 0, 0, 0, 0, 0, 0, 0, 0, 0, 0, 0, 0, 0, 0, 0, 14, 0, 0, 0, 0, 0, 0, 0, 6, 0, 0, 0, 0, 0, 0, 0, 5, 0, 0, 0, 0, 0, 0, 0, 32, 1, 0, 0, 0, 0, 0, 0, 10, 0, 0, 0, 0, 0, 0, 0, 11, 0, 0, 0, 0, 0, 0, 0, 1, 0, 0, 0, 0, 0, 0, 0, 1, 0, 0, 0, 0, 0, 0, 0, 6, 0, 0, 0, 0, 0, 0, 0, 48, 1, 0, 0, 0, 0, 0, 0, 4, 0, 0, 0, 0, 0, 0, 0, 72, 1, 0, 0, 0, 0, 0, 0, 251, 255, 255, 111, 0, 0, 0, 0, 0, 0, 0, 0, 0, 0, 0, 0, 0, 0, 0, 0, 0, 0, 0, 0, 0, 0, 0, 0, 0, 0, 0, 0, 0, 0, 0, 0, 0, 0, 0, 0, 0, 0, 0, 0, 0, 0, 0, 0, 0, 0, 0, 0, 0, 0, 0, 0, 0, 0, 0, 0, 0, 0, 0, 0, 0, 0, 0, 0, 0, 0, 0, 0, 0, 0, 0, 0, 0, 0, 0, 0, 0, 0, 0, 0, 0, 0, 0, 0, 0, 0, 0, 0, 0, 0, 0, 0, 0, 0, 0, 0, 0, 0, 0, 0, 0, 0, 0, 0, 0, 0, 0, 0, 0, 0, 0, 0, 0, 0, 0, 0, 0, 0, 0, 0, 0, 0, 0, 0, 0, 0, 0, 0, 0, 0, 0, 0, 0, 0, 0, 0, 0, 0, 0, 0, 0, 0, 0, 0, 0, 0, 0, 0, 0, 0, 0, 0, 0, 0, 0, 0] : List Int).map (.int .u8 ·)
def etB1 : List Value := ([127, 69, 76, 70, 2, 1, 1, 0, 0, 0, 0, 0, 0, 0, 0, 0, 3, 0, 62, 0, 1, 0, 0, 0, 0, 0, 0, 0, 0, 0, 0, 0, 64, 0, 0, 0, 0, 0, 0, 0, 0, 0, 0, 0, 0, 0, 0, 0, 0, 0, 0, 0, 64, 0, 56, 0, 3, 0, 0, 0, 0, 0, 0, 0, 1, 0, 0, 0, 4, 0, 0, 0, 0, 0, 0, 0, 0, 0, 0, 0, 0, 0, 0, 0, 0, 0, 0, 0, 0, 0, 0, 0, 0, 0, 0, 0, 0, 2, 0, 0, 0, 0, 0, 0, 0, 2, 0, 0, 0, 0, 0, 0, 8, 0, 0, 0, 0, 0, 0, 0, 1, 0, 0, 0, 6, 0, 0, 0, 0, 2, 0, 0, 0, 0, 0, 0, 0, 2, 0, 0, 0, 0, 0, 0, 0, 2, 0, 0, 0, 0, 0, 0, 0, 1, 0, 0, 0, 0, 0, 0, 0, 1, 0, 0, 0, 0, 0, 0, 8, 0, 0, 0, 0, 0, 0, 0, 2, 0, 0, 0, 6, 0, 0, 0, 0, 2, 0, 0, 0, 0, 0, 0, 0, 2, 0, 0, 0, 0, 0, 0, 0, 2, 0, 0, 0, 0, 0, 0, 128, 0, 0, 0, 0, 0, 0, 0, 128, 0, 0, 0, 0, 0, 0, 0, 8, 0, 0, 0, 0, 0, 0, 0, 0, 0, 0, 0, 0, 0, 0, 0, 0, 0, 0, 0, 0, 0, 0, 0, 0, 0, 0, 0, 0, 0, 0, 0, 0, 0, 0, 0, 0, 0, 0, 0, 0, 0, 0, 0, 0, 0, 0, 0, 0, 0, 0, 0, 0, 0, 0, 0, 0, 0, 0, 0, 0, 0, 0, 0, 0, 97, 46, 115, 111, 0, 98, 46, 115, 111, 0, 0, 0, 0, 0, 0, 0, 0, 0, 0, 0, 0, 0, 0, 0, 0, 0, 0, 0, 0, 0, 0, 0, 0, 0, 0, 0, 0, 0, 0, 2, 0, 0, 0, 1, 0, 0, 0, 0, 0, 0, 0, 0, 0, 0, 0, 0, 0, 0, 0, 0, 0, 0, 0, 0, 0, 0, 0, 0, 0, 0, 0, 0, 0, 0, 0, 0, 0, 0, 0, 0, 0, 0, 0, 0, 0, 0, 0, 0, 0, 0, 0, 0, 0, 0, 0, 0, 0, 0, 0, 0, 0, 0, 0, 0, 0, 0, 0, 0, 0, 0, 0, 0, 0, 0, 0, 0, 0, 0, 0, 0, 0, 0, 0, 0, 0, 0, 0, 0, 0, 0, 0, 0, 0, 0, 0, 0, 0, 0, 0, 0, 0, 0, 0, 0, 0, 0, 0, 0, 0, 0, 0, 0, 0, 0, 0, 0, 0, 0, 0, 0, 0, 0, 0, 0, 0, 0, 0, 0, 0, 0, 0, 0, 0, 0, 0, 0, 0, 0, 0, 0, 0, 0, 0, 0, 0, 0, 0, 0, 0, 0, 0, 0, 0, 0, 0, 0, 0, 0, 0, 0, 0, 0, 0, 0, 0, 0, 0, 0, 0, 0, 0, 0, 0, 0, 0, 0, 0, 0, 0, 0, 0, 0, 0, 14, 0, 0, 0, 0, 0, 0, 0, 6, 0, 0, 0, 0, 0, 0, 0, 5, 0, 0, 0, 0, 0, 0, 0, 32, 1, 0, 0, 0, 0, 0, 0, 10, 0, 0, 0, 0, 0, 0, 0, 11, 0, 0, 0, 0, 0, 0, 0, 1, 0, 0, 0, 0, 0, 0, 0, 1, 0, 0, 0, 0, 0, 0, 0, 6, 0, 0, 0, 0, 0, 0, 0, 48, 1, 0, 0, 0, 0, 0, 0, 4, 0, 0, 0, 0, 0, 0, 0, 72, 1, 0, 0, 0, 0, 0, 0, 251, 255, 255, 111, 0, 0, 0, 0, 0, 0, 0, 0, 0, 0, 0, 0, 0, 0, 0, 0, 0, 0, 0, 0, 0, 0, 0, 0, 0, 0, 0, 0, 0, 0, 0, 0, 0, 0, 0, 0, 0, 0, 0, 0, 0, 0, 0, 0, 0, 0, 0, 0, 0, 0, 0, 0, 0, 0, 0, 0, 0, 0, 0, 0, 0, 0, 0, 0, 0, 0, 0, 0, 0, 0, 0, 0, 0, 0, 0, 0, 0, 0, 0, 0, 0, 0, 0, 0, 0, 0, 0, 0, 0, 0, 0, 0, 0, 0, 0, 0, 0, 0, 0, 0, 0, 0, 0, 0, 0, 0, 0, 0, 0, 0, 0, 0, 0, 0, 0, 0, 0, 0, 0, 0, 0, 0, 0, 0, 0, 0, 0, 0, 0, 0, 0, 0, 0, 0, 0, 0, 0, 0, 0, 0, 0, 0, 0, 0, 0, 0, 0, 0, 0, 0, 0, 0, 0, 0, 0, 0] : List Int).map (.int .u8 ·)
def etA0 : List Value := [.string ⟨#[97, 46, 115, 111]⟩, immV 1 [.string ⟨#[98, 46, 115, 111]⟩]]
def etV0 : Value := immV 768 etB0
def etA1 : List Value := [.string ⟨#[98, 46, 115, 111]⟩, immV 1 [.string ⟨#[97, 46, 115, 111]⟩]]
def etV1 : Value := immV 768 etB1
def etA2 : List Value := []
def etV2 : Value := .tuple #[immV 3 [.string ⟨#[47, 108, 105, 98]⟩, .int .i64 1, .slice none 0 0, .string ⟨#[]⟩, .string ⟨#[47, 108, 105, 98, 47, 97, 46, 115, 111]⟩, .int .i64 2, immV 768 etB0, .string ⟨#[]⟩, .string ⟨#[47, 108, 105, 98, 47, 98, 46, 115, 111]⟩, .int .i64 2, immV 768 etB1, .string ⟨#[]⟩], .agg #[.int .u16 62, .int .i64 0, .slice none 0 0, .int .i64 0, .string ⟨#[]⟩, .int .i64 100, .int .i64 9]]
def etA3 : List Value := [immV 768 etB0]
def etV3 : Value := .tuple #[.agg #[.int .u16 62, immV 2 [.int .u32 1, .int .u32 4, .int .u64 0, .int .u64 0, .int .u64 512, .int .u64 512, .int .u64 8, .int .u32 1, .int .u32 6, .int .u64 512, .int .u64 512, .int .u64 256, .int .u64 256, .int .u64 8], .int .u32 2, .int .u32 6, .int .u64 512, .int .u64 512, .int .u64 128, .int .u64 128, .int .u64 8, .int .u32 0, .int .u32 0, .int .u64 0, .int .u64 0, .int .u64 0, .int .u64 0, .int .u64 0, .string ⟨#[97, 46, 115, 111]⟩, .string ⟨#[]⟩, immV 1 [.string ⟨#[98, 46, 115, 111]⟩], .bool false, .bool false, .bool false, .bool true, .int .u64 288, .int .u64 11, .int .u64 304, .int .u64 328, .int .u64 0, .int .u64 0, .int .u64 0, .int .u64 0, .int .u64 0, .int .u64 0, .bool false, .int .u64 0, .int .u64 0, .bool false, .int .u64 0, .int .u64 0, .bool false, .int .u64 0, .int .u64 0, .bool false, .int .u64 0, .int .u64 0, .bool false, .int .u64 0, .int .u64 0, .bool false, .bool false, .bool false, .int .u64 0, .int .u64 0, .bool false, .int .u64 0, .int .u64 0, immV 1 [.string ⟨#[]⟩, .string ⟨#[]⟩, .bool false, .int .i64 0, .bool false, .int .u64 0, .int .u64 0], .slice none 0 0, .int .i64 0, .int .i64 0], .int .i64 0]
def etA4 : List Value := [immV 768 etB1]
def etV4 : Value := .tuple #[.agg #[.int .u16 62, immV 2 [.int .u32 1, .int .u32 4, .int .u64 0, .int .u64 0, .int .u64 512, .int .u64 512, .int .u64 8, .int .u32 1, .int .u32 6, .int .u64 512, .int .u64 512, .int .u64 256, .int .u64 256, .int .u64 8], .int .u32 2, .int .u32 6, .int .u64 512, .int .u64 512, .int .u64 128, .int .u64 128, .int .u64 8, .int .u32 0, .int .u32 0, .int .u64 0, .int .u64 0, .int .u64 0, .int .u64 0, .int .u64 0, .string ⟨#[98, 46, 115, 111]⟩, .string ⟨#[]⟩, immV 1 [.string ⟨#[97, 46, 115, 111]⟩], .bool false, .bool false, .bool false, .bool true, .int .u64 288, .int .u64 11, .int .u64 304, .int .u64 328, .int .u64 0, .int .u64 0, .int .u64 0, .int .u64 0, .int .u64 0, .int .u64 0, .bool false, .int .u64 0, .int .u64 0, .bool false, .int .u64 0, .int .u64 0, .bool false, .int .u64 0, .int .u64 0, .bool false, .int .u64 0, .int .u64 0, .bool false, .int .u64 0, .int .u64 0, .bool false, .bool false, .bool false, .int .u64 0, .int .u64 0, .bool false, .int .u64 0, .int .u64 0, immV 1 [.string ⟨#[]⟩, .string ⟨#[]⟩, .bool false, .int .i64 0, .bool false, .int .u64 0, .int .u64 0], .slice none 0 0, .int .i64 0, .int .i64 0], .int .i64 0]
def etK0 : List (Nat × List Value × Value) := []
theorem etK0_ok : ∀ p ∈ etK0, FnV TEx p.1 p.2.1 p.2.2 := fun _ hp => absurd hp List.not_mem_nil
theorem et_run0 : FnV TEx 17 etA0 etV0 := FnV_runX (natx := natEtX) (lkp := TEx.fns) natEtX_sx (fun _ _ h => h) (natK_sn etK0_ok) 3 1000 (by kernel_rfl) (by kernel_rfl)
def etK1 : List (Nat × List Value × Value) := (17, etA0, etV0) :: etK0
theorem etK1_ok : ∀ p ∈ etK1, FnV TEx p.1 p.2.1 p.2.2 := known_cons et_run0 etK0_ok
theorem et_run1 : FnV TEx 17 etA1 etV1 := FnV_runX (natx := natEtX) (lkp := TEx.fns) natEtX_sx (fun _ _ h => h) (natK_sn etK1_ok) 3 1000 (by kernel_rfl) (by kernel_rfl)
def etK2 : List (Nat × List Value × Value) := (17, etA1, etV1) :: etK1
theorem etK2_ok : ∀ p ∈ etK2, FnV TEx p.1 p.2.1 p.2.2 := known_cons et_run1 etK1_ok
theorem et_run2 : FnV TEx 12 etA2 etV2 := FnV_runX (natx := natEtX) (lkp := TEx.fns) natEtX_sx (fun _ _ h => h) (natK_sn etK2_ok) 3 1000 (by kernel_rfl) (by kernel_rfl)
def etK3 : List (Nat × List Value × Value) := (12, etA2, etV2) :: etK2
theorem etK3_ok : ∀ p ∈ etK3, FnV TEx p.1 p.2.1 p.2.2 := known_cons et_run2 etK2_ok
theorem et_run3 : FnV TEx 86 etA3 etV3 := FnV_runX (natx := natEtX) (lkp := TEx.fns) natEtX_sx (fun _ _ h => h) (natK_sn etK3_ok) 3 1000 (by kernel_rfl) (by kernel_rfl)
def etK4 : List (Nat × List Value × Value) := (86, etA3, etV3) :: etK3
theorem etK4_ok : ∀ p ∈ etK4, FnV TEx p.1 p.2.1 p.2.2 := known_cons et_run3 etK3_ok
theorem et_run4 : FnV TEx 86 etA4 etV4 := FnV_runX (natx := natEtX) (lkp := TEx.fns) natEtX_sx (fun _ _ h => h) (natK_sn etK4_ok) 3 1000 (by kernel_rfl) (by kernel_rfl)
def etK5 : List (Nat × List Value × Value) := (86, etA4, etV4) :: etK4
theorem etK5_ok : ∀ p ∈ etK5, FnV TEx p.1 p.2.1 p.2.2 := known_cons et_run4 etK4_ok
theorem et_alive : FnV TEx 8 [] (.bool true) := FnV_runX (natx := natEtX) (lkp := TEx.fns) natEtX_sx (fun _ _ h => h) (natK_sn etK5_ok) 3 1000 rfl (by kernel_rfl)
end Go.Proofs.YtdjgknlhpdnhbaaGreatDoor
