/- The chapter's example is run: what is made of it, where its data are, and all else. -/
import Derived.Test.YtdjgknlhpdnhbaaGreatFwC
import Derived.Test.YtdjgknlhpdnhbaaGreatIrIm
namespace Go.Proofs.YtdjgknlhpdnhbaaGreat
open Go Fw
/-- The example's Spec, and its file. -/
def aSp : Value := .agg #[.int .u16 183, .string ⟨#[97, 46, 115, 111]⟩, .string ⟨#[]⟩, immV 1 [.string ⟨#[98, 46, 115, 111]⟩], .bool false, .bool false, .bool false,
  immV 1 [.string ⟨#[102]⟩, .string ⟨#[]⟩, .bool false, .int .i64 1, .bool false, .int .u64 0, .int .u64 0], .slice none 0 0, .slice none 0 0, immV 3 [.int .u8 120, .int .u8 121, .int .u8 122], .int .i64 0, .int .i64 0, .bool false, .bool false, .bool false, .int .i64 0, .int .i64 0]
def aB : List Value := ([127, 69, 76, 70, 2, 1, 1, 0, 0, 0, 0, 0, 0, 0, 0, 0, 3, 0, 183, 0, 1, 0, 0, 0, 0, 0, 0, 0, 0, 0, 0, 0, 64, 0, 0, 0, 0, 0, 0, 0, 0, 0, 0, 0, 0, 0, 0, 0, 0, 0, 0, 0, 64, 0, 56, 0, 3, 0, 0, 0,
 0, 0, 0, 0, 1, 0, 0, 0, 4, 0, 0, 0, 0, 0, 0, 0, 0, 0, 0, 0, 0, 0, 0, 0, 0, 0, 0, 0, 0, 0, 0, 0, 0, 0, 0, 0, 0, 2, 0, 0, 0, 0, 0, 0, 0, 2, 0, 0, 0, 0, 0, 0, 0, 1, 0, 0, 0, 0, 0, 0,
 1, 0, 0, 0, 6, 0, 0, 0, 0, 2, 0, 0, 0, 0, 0, 0, 0, 2, 0, 0, 0, 0, 0, 0, 0, 2, 0, 0, 0, 0, 0, 0, 3, 1, 0, 0, 0, 0, 0, 0, 3, 1, 0, 0, 0, 0, 0, 0, 0, 1, 0, 0, 0, 0, 0, 0, 2, 0, 0, 0,
 6, 0, 0, 0, 0, 2, 0, 0, 0, 0, 0, 0, 0, 2, 0, 0, 0, 0, 0, 0, 0, 2, 0, 0, 0, 0, 0, 0, 128, 0, 0, 0, 0, 0, 0, 0, 128, 0, 0, 0, 0, 0, 0, 0, 8, 0, 0, 0, 0, 0, 0, 0, 0, 97, 46, 115, 111, 0, 98, 46,
 115, 111, 0, 102, 0, 0, 0, 0, 0, 0, 0, 0, 0, 0, 0, 0, 0, 0, 0, 0, 0, 0, 0, 0, 0, 0, 0, 0, 0, 0, 0, 0, 11, 0, 0, 0, 17, 0, 0, 0, 0, 0, 0, 0, 0, 0, 0, 0, 0, 0, 0, 0, 0, 0, 0, 0, 3, 0, 0, 0,
 2, 0, 0, 0, 0, 0, 0, 0, 0, 0, 0, 0, 0, 0, 0, 0, 0, 0, 0, 0, 0, 0, 0, 0, 0, 0, 0, 0, 0, 0, 0, 0, 0, 0, 0, 0, 0, 0, 0, 0, 0, 0, 0, 0, 0, 0, 0, 0, 0, 0, 0, 0, 0, 0, 0, 0, 0, 0, 0, 0,
 0, 0, 0, 0, 0, 0, 0, 0, 0, 0, 0, 0, 0, 0, 0, 0, 0, 0, 0, 0, 0, 0, 0, 0, 0, 0, 0, 0, 0, 0, 0, 0, 0, 0, 0, 0, 0, 0, 0, 0, 0, 0, 0, 0, 0, 0, 0, 0, 0, 0, 0, 0, 0, 0, 0, 0, 0, 0, 0, 0,
 0, 0, 0, 0, 0, 0, 0, 0, 0, 0, 0, 0, 0, 0, 0, 0, 0, 0, 0, 0, 0, 0, 0, 0, 0, 0, 0, 0, 0, 0, 0, 0, 0, 0, 0, 0, 0, 0, 0, 0, 0, 0, 0, 0, 0, 0, 0, 0, 0, 0, 0, 0, 0, 0, 0, 0, 0, 0, 0, 0,
 0, 0, 0, 0, 0, 0, 0, 0, 0, 0, 0, 0, 0, 0, 0, 0, 0, 0, 0, 0, 0, 0, 0, 0, 0, 0, 0, 0, 0, 0, 0, 0, 5, 0, 0, 0, 0, 0, 0, 0, 232, 0, 0, 0, 0, 0, 0, 0, 10, 0, 0, 0, 0, 0, 0, 0, 13, 0, 0, 0,
 0, 0, 0, 0, 14, 0, 0, 0, 0, 0, 0, 0, 1, 0, 0, 0, 0, 0, 0, 0, 1, 0, 0, 0, 0, 0, 0, 0, 6, 0, 0, 0, 0, 0, 0, 0, 6, 0, 0, 0, 0, 0, 0, 0, 248, 0, 0, 0, 0, 0, 0, 0, 11, 0, 0, 0, 0, 0, 0, 0,
 24, 0, 0, 0, 0, 0, 0, 0, 4, 0, 0, 0, 0, 0, 0, 0, 40, 1, 0, 0, 0, 0, 0, 0, 0, 0, 0, 0, 0, 0, 0, 0, 0, 0, 0, 0, 0, 0, 0, 0, 0, 0, 0, 0, 0, 0, 0, 0, 0, 0, 0, 0, 0, 0, 0, 0, 0, 0, 0, 0,
 0, 0, 0, 0, 0, 0, 0, 0, 0, 0, 0, 0, 0, 0, 0, 0, 0, 0, 0, 0, 0, 0, 0, 0, 0, 0, 0, 0, 0, 0, 0, 0, 0, 0, 0, 0, 0, 0, 0, 0, 0, 0, 0, 0, 0, 0, 0, 0, 0, 0, 0, 0, 0, 0, 0, 0, 0, 0, 0, 0,
 0, 0, 0, 0, 0, 0, 0, 0, 0, 0, 0, 0, 0, 0, 0, 0, 0, 0, 0, 0, 0, 0, 0, 0, 0, 0, 0, 0, 0, 0, 0, 0, 0, 0, 0, 0, 0, 0, 0, 0, 0, 0, 0, 0, 0, 0, 0, 0, 120, 121, 122] : List Int).map (.int .u8 ·)
def aK : List (Nat × List Value × Value) := [(12, [aSp], .int .u64 768)]
def aL : List (Nat × List Value × Value) := [(12, [aSp], .int .u64 768), (11, [aSp], .tuple #[immV 771 aB, .int .i64 0])]
theorem a_dat : FnV TIm 12 [aSp] (.int .u64 768) := FnV_runK (lkp := TIm.fns) (fun _ _ h => h) SN_none 3 1000 (by kernel_rfl) (by kernel_rfl)
theorem a_k : ∀ p ∈ aK, FnV TIm p.1 p.2.1 p.2.2 := by
  intro p hp
  simp only [aK, List.mem_cons, List.not_mem_nil, or_false] at hp
  subst hp
  exact a_dat
theorem a_mk : FnV TIm 11 [aSp] (.tuple #[immV 771 aB, .int .i64 0]) := FnV_runK (lkp := TIm.fns) (fun _ _ h => h) (SN_knows a_k) 3 1000 (by kernel_rfl) (by kernel_rfl)
theorem a_l : ∀ p ∈ aL, FnV TIm p.1 p.2.1 p.2.2 := by
  intro p hp
  simp only [aL, List.mem_cons, List.not_mem_nil, or_false] at hp
  rcases hp with rfl | rfl
  · exact a_dat
  · exact a_mk
theorem mr_alive : FnV TIm 10 [] (.bool true) := FnV_runK (lkp := TIm.fns) (fun _ _ h => h) (SN_knows a_l) 3 1000 rfl (by kernel_rfl)
end Go.Proofs.YtdjgknlhpdnhbaaGreat
