/- DumpWrites: the row, out of the call by the evaluator. -/
import Derived.Test.YtdajdgjacajemaaGreatRows
import Derived.Test.YtdajdgjacajemaaGreatDE
import Derived.WalkKit
import Derived.ProofKit
import Derived.OpenShut
import Derived.ShutString
import Derived.ChangeOld
import Derived.Below
import Derived.SizedLaws
import Derived.Carry
namespace Go.Proofs.YtdajdgjacajemaaGreat.dumpWrites
open Go.ChangeShapes Go.WideShapes Go.ChangeAt Go.RowKit Fw
set_option linter.unusedVariables false
theorem own : ownKnob Tryz.prog.godebug = none := by kernel_rfl
theorem laidOut : laidOutB Tryz.prog = true := by kernel_rfl
set_option maxRecDepth 100000 in
theorem lifted (os : Os) (started : os.Started) (H : Type) (enc : TypeId × Value → H) :
    ReturnsInHanded {} Tryz.checked os 5 .any (Rows.dumpWritesSpec.pre6 enc Tryz.prog Tryz.f5 Rows.dumpWritesRow.domain false) (Rows.dumpWritesSpec.post enc Tryz.prog Tryz.f5 false true false false) := by
  refine returnsInHanded_of_change_sized (C := Tryz.checked) own started (by kernel_rfl) Tryz.func5
    (ChangeSpec.witness6 (enc := enc) (C := Tryz.checked) false ⟨#[], #[.agg #[.int .u16 0, .slice none 0 0, .int .u32 0, .int .u32 0, .int .u64 0, .int .u64 0, .int .u64 0, .int .u64 0, .int .u64 0, .int .u32 0, .int .u32 0, .int .u64 0, .int .u64 0, .int .u64 0, .int .u64 0, .int .u64 0, .string ByteArray.empty, .string ByteArray.empty, .slice none 0 0, .bool false, .bool false, .bool false, .bool false, .int .u64 0, .int .u64 0, .int .u64 0, .int .u64 0, .int .u64 0, .int .u64 0, .int .u64 0, .int .u64 0, .int .u64 0, .int .u64 0, .bool false, .int .u64 0, .int .u64 0, .bool false, .int .u64 0, .int .u64 0, .bool false, .int .u64 0, .int .u64 0, .bool false, .int .u64 0, .int .u64 0, .bool false, .int .u64 0, .int .u64 0, .bool false, .bool false, .bool false, .int .u64 0, .int .u64 0, .bool false, .int .u64 0, .int .u64 0, .slice none 0 0, .slice none 0 0, .int .i64 0, .int .i64 0], .int .u16 0], []⟩ 8 (by kernel_rfl) (by kernel_rfl) (by kernel_rfl) (by kernel_rfl)) ?_
  intro W base args ds gs before hval0 hW hcnd hsz0 _
  have hval : ∀ (j : Nat) t v, Tryz.f5.params[j]? = some t → args[j]? = some v → Value.okWide Tryz.prog W .any base t v := hval0
  have hW' := hW
  obtain ⟨p, q, hA0, hV, rfl, hfz, hnd⟩ := hW
  have hA : DataW.TrodAll enc Tryz.prog W 0 (fun _ => true) true Tryz.f5.params.toList args.toList ds p := hA0
  rw [Tryz.params5] at hA hval
  obtain ⟨v0, vs0, d0, ds0, p0, q0, hargs, rfl, rfl, h0, r0⟩ := trodAll_cons hA
  obtain ⟨v1, vs1, d1, ds1, p1, q1, rfl, rfl, rfl, h1, r1⟩ := trodAll_cons r0
  obtain ⟨rfl, rfl, rfl⟩ := trodAll_nil r1
  obtain rfl : args = #[v0, v1] := by cases args; simp_all
  obtain ⟨rfl, rfl⟩ := trodVars_none hV
  obtain ⟨b0, rfl, _⟩ := okWide_struct Tryz.underlying39 (hval 0 39 v0 rfl rfl)
  have k0 := h0
  have lt0 : ∀ x ∈ p0, x.block < W.heap.size := by obtain ⟨m, hm⟩ := k0; exact DataW.trod_lt m _ _ _ hm
  obtain ⟨fuel0, hf0⟩ := h0
  obtain ⟨a0, w0, u0⟩ := (opn_api_Lib Tryz.underlying39 (by kernel_rfl) ⟨_, rfl, rfl, by kernel_rfl, (opn_api_Heads Tryz.underlying30 (by kernel_rfl) ⟨_, rfl, rfl, by kernel_rfl, (opn_int Tryz.underlying23)⟩ ⟨_, rfl, rfl, by kernel_rfl, (opn_slice Tryz.underlying24 (by kernel_rfl) (by decide) ((opn_api_Phdr Tryz.underlying28 (by kernel_rfl) ⟨_, rfl, rfl, by kernel_rfl, (opn_int Tryz.underlying25)⟩ ⟨_, rfl, rfl, by kernel_rfl, (opn_int Tryz.underlying25)⟩ ⟨_, rfl, rfl, by kernel_rfl, (opn_int Tryz.underlying26)⟩ ⟨_, rfl, rfl, by kernel_rfl, (opn_int Tryz.underlying26)⟩ ⟨_, rfl, rfl, by kernel_rfl, (opn_int Tryz.underlying26)⟩ ⟨_, rfl, rfl, by kernel_rfl, (opn_int Tryz.underlying26)⟩ ⟨_, rfl, rfl, by kernel_rfl, (opn_int Tryz.underlying26)⟩)))⟩ ⟨_, rfl, rfl, by kernel_rfl, (opn_api_Phdr Tryz.underlying28 (by kernel_rfl) ⟨_, rfl, rfl, by kernel_rfl, (opn_int Tryz.underlying25)⟩ ⟨_, rfl, rfl, by kernel_rfl, (opn_int Tryz.underlying25)⟩ ⟨_, rfl, rfl, by kernel_rfl, (opn_int Tryz.underlying26)⟩ ⟨_, rfl, rfl, by kernel_rfl, (opn_int Tryz.underlying26)⟩ ⟨_, rfl, rfl, by kernel_rfl, (opn_int Tryz.underlying26)⟩ ⟨_, rfl, rfl, by kernel_rfl, (opn_int Tryz.underlying26)⟩ ⟨_, rfl, rfl, by kernel_rfl, (opn_int Tryz.underlying26)⟩)⟩ ⟨_, rfl, rfl, by kernel_rfl, (opn_api_Phdr Tryz.underlying28 (by kernel_rfl) ⟨_, rfl, rfl, by kernel_rfl, (opn_int Tryz.underlying25)⟩ ⟨_, rfl, rfl, by kernel_rfl, (opn_int Tryz.underlying25)⟩ ⟨_, rfl, rfl, by kernel_rfl, (opn_int Tryz.underlying26)⟩ ⟨_, rfl, rfl, by kernel_rfl, (opn_int Tryz.underlying26)⟩ ⟨_, rfl, rfl, by kernel_rfl, (opn_int Tryz.underlying26)⟩ ⟨_, rfl, rfl, by kernel_rfl, (opn_int Tryz.underlying26)⟩ ⟨_, rfl, rfl, by kernel_rfl, (opn_int Tryz.underlying26)⟩)⟩)⟩ ⟨_, rfl, rfl, by kernel_rfl, (opn_api_Dyn Tryz.underlying35 (by kernel_rfl) ⟨_, rfl, rfl, by kernel_rfl, (opn_string Tryz.underlying9)⟩ ⟨_, rfl, rfl, by kernel_rfl, (opn_string Tryz.underlying9)⟩ ⟨_, rfl, rfl, by kernel_rfl, (opn_slice Tryz.underlying31 (by kernel_rfl) (by decide) (opn_string Tryz.underlying9))⟩ ⟨_, rfl, rfl, by kernel_rfl, (opn_bool Tryz.underlying4)⟩ ⟨_, rfl, rfl, by kernel_rfl, (opn_bool Tryz.underlying4)⟩ ⟨_, rfl, rfl, by kernel_rfl, (opn_bool Tryz.underlying4)⟩ ⟨_, rfl, rfl, by kernel_rfl, (opn_api_Area Tryz.underlying33 (by kernel_rfl) ⟨_, rfl, rfl, by kernel_rfl, (opn_bool Tryz.underlying4)⟩ ⟨_, rfl, rfl, by kernel_rfl, (opn_int Tryz.underlying26)⟩ ⟨_, rfl, rfl, by kernel_rfl, (opn_int Tryz.underlying26)⟩)⟩ ⟨_, rfl, rfl, by kernel_rfl, (opn_int Tryz.underlying26)⟩ ⟨_, rfl, rfl, by kernel_rfl, (opn_int Tryz.underlying26)⟩ ⟨_, rfl, rfl, by kernel_rfl, (opn_int Tryz.underlying26)⟩ ⟨_, rfl, rfl, by kernel_rfl, (opn_int Tryz.underlying26)⟩ ⟨_, rfl, rfl, by kernel_rfl, (opn_int Tryz.underlying26)⟩ ⟨_, rfl, rfl, by kernel_rfl, (opn_int Tryz.underlying26)⟩ ⟨_, rfl, rfl, by kernel_rfl, (opn_int Tryz.underlying26)⟩ ⟨_, rfl, rfl, by kernel_rfl, (opn_int Tryz.underlying26)⟩ ⟨_, rfl, rfl, by kernel_rfl, (opn_api_Area Tryz.underlying33 (by kernel_rfl) ⟨_, rfl, rfl, by kernel_rfl, (opn_bool Tryz.underlying4)⟩ ⟨_, rfl, rfl, by kernel_rfl, (opn_int Tryz.underlying26)⟩ ⟨_, rfl, rfl, by kernel_rfl, (opn_int Tryz.underlying26)⟩)⟩ ⟨_, rfl, rfl, by kernel_rfl, (opn_api_Area Tryz.underlying33 (by kernel_rfl) ⟨_, rfl, rfl, by kernel_rfl, (opn_bool Tryz.underlying4)⟩ ⟨_, rfl, rfl, by kernel_rfl, (opn_int Tryz.underlying26)⟩ ⟨_, rfl, rfl, by kernel_rfl, (opn_int Tryz.underlying26)⟩)⟩ ⟨_, rfl, rfl, by kernel_rfl, (opn_api_Area Tryz.underlying33 (by kernel_rfl) ⟨_, rfl, rfl, by kernel_rfl, (opn_bool Tryz.underlying4)⟩ ⟨_, rfl, rfl, by kernel_rfl, (opn_int Tryz.underlying26)⟩ ⟨_, rfl, rfl, by kernel_rfl, (opn_int Tryz.underlying26)⟩)⟩ ⟨_, rfl, rfl, by kernel_rfl, (opn_api_Area Tryz.underlying33 (by kernel_rfl) ⟨_, rfl, rfl, by kernel_rfl, (opn_bool Tryz.underlying4)⟩ ⟨_, rfl, rfl, by kernel_rfl, (opn_int Tryz.underlying26)⟩ ⟨_, rfl, rfl, by kernel_rfl, (opn_int Tryz.underlying26)⟩)⟩ ⟨_, rfl, rfl, by kernel_rfl, (opn_api_Area Tryz.underlying33 (by kernel_rfl) ⟨_, rfl, rfl, by kernel_rfl, (opn_bool Tryz.underlying4)⟩ ⟨_, rfl, rfl, by kernel_rfl, (opn_int Tryz.underlying26)⟩ ⟨_, rfl, rfl, by kernel_rfl, (opn_int Tryz.underlying26)⟩)⟩ ⟨_, rfl, rfl, by kernel_rfl, (opn_bool Tryz.underlying4)⟩ ⟨_, rfl, rfl, by kernel_rfl, (opn_bool Tryz.underlying4)⟩ ⟨_, rfl, rfl, by kernel_rfl, (opn_api_Area Tryz.underlying33 (by kernel_rfl) ⟨_, rfl, rfl, by kernel_rfl, (opn_bool Tryz.underlying4)⟩ ⟨_, rfl, rfl, by kernel_rfl, (opn_int Tryz.underlying26)⟩ ⟨_, rfl, rfl, by kernel_rfl, (opn_int Tryz.underlying26)⟩)⟩ ⟨_, rfl, rfl, by kernel_rfl, (opn_api_Area Tryz.underlying33 (by kernel_rfl) ⟨_, rfl, rfl, by kernel_rfl, (opn_bool Tryz.underlying4)⟩ ⟨_, rfl, rfl, by kernel_rfl, (opn_int Tryz.underlying26)⟩ ⟨_, rfl, rfl, by kernel_rfl, (opn_int Tryz.underlying26)⟩)⟩)⟩ ⟨_, rfl, rfl, by kernel_rfl, (opn_slice Tryz.underlying36 (by kernel_rfl) (by decide) ((opn_api_Sym Tryz.underlying47 (by kernel_rfl) ⟨_, rfl, rfl, by kernel_rfl, (opn_string Tryz.underlying9)⟩ ⟨_, rfl, rfl, by kernel_rfl, (opn_string Tryz.underlying9)⟩ ⟨_, rfl, rfl, by kernel_rfl, (opn_bool Tryz.underlying4)⟩ ⟨_, rfl, rfl, by kernel_rfl, (opn_int Tryz.underlying3)⟩ ⟨_, rfl, rfl, by kernel_rfl, (opn_bool Tryz.underlying4)⟩ ⟨_, rfl, rfl, by kernel_rfl, (opn_int Tryz.underlying26)⟩ ⟨_, rfl, rfl, by kernel_rfl, (opn_int Tryz.underlying26)⟩)))⟩ ⟨_, rfl, rfl, by kernel_rfl, (opn_slice Tryz.underlying37 (by kernel_rfl) (by decide) ((opn_api_Rel Tryz.underlying49 (by kernel_rfl) ⟨_, rfl, rfl, by kernel_rfl, (opn_int Tryz.underlying26)⟩ ⟨_, rfl, rfl, by kernel_rfl, (opn_int Tryz.underlying25)⟩ ⟨_, rfl, rfl, by kernel_rfl, (opn_int Tryz.underlying25)⟩ ⟨_, rfl, rfl, by kernel_rfl, (opn_int Tryz.underlying2)⟩ ⟨_, rfl, rfl, by kernel_rfl, (opn_bool Tryz.underlying4)⟩)))⟩ ⟨_, rfl, rfl, by kernel_rfl, (opn_int Tryz.underlying3)⟩ ⟨_, rfl, rfl, by kernel_rfl, (opn_int Tryz.underlying3)⟩) _ _ _ hf0
  obtain ⟨b1, rfl⟩ := okWide_int Tryz.underlying23 (hval 1 23 v1 rfl rfl)
  have k1 := h1
  have lt1 : ∀ x ∈ p1, x.block < W.heap.size := by obtain ⟨m, hm⟩ := k1; exact DataW.trod_lt m _ _ _ hm
  obtain ⟨fuel1, hf1⟩ := h1
  obtain ⟨a1, w1, u1⟩ := opn_int Tryz.underlying23 _ _ _ hf1
  clear hA0 hval0
  refine (calls_true TDu_good (dumpWrites_t a0 a1 w0 w1) (KP_none (by kernel_rfl)) (VRs.cons (VRs.agg u0) (VRs.cons (u1.2 0 _ _ rfl rfl) (VRs.nil _ _))) (rel_W W) (fun i e h => by simp at h)).mono fun e W' ⟨he, bel⟩ => ?_
  subst he
  exact ⟨_, rfl, _, _, _, [], _, [], hW', trodAll_mk1 (shut_bool Tryz.underlying4 _), (trodAll_cons_mk (Below.trod laidOut (by kernel_rfl) (of_decide_eq_true (by kernel_rfl)) k0 bel lt0) (trodAll_cons_mk (Below.trod laidOut (by kernel_rfl) (of_decide_eq_true (by kernel_rfl)) k1 bel lt1) trodAll_mk0)), rfl, bel.frame _, fun h => by cases h⟩
theorem over : Rows.dumpWritesRow.holds Tryz.pinned (OpenSpec.ofChange Rows.dumpWritesSpec) :=
  OpenClaim.holds_of_wide 5 Tryz.f5 rfl rfl rfl rfl rfl rfl rfl ⟨rfl, rfl, rfl, rfl, rfl⟩ rfl rfl rfl rfl rfl (by kernel_rfl) Tryz.func5 (by kernel_rfl)
    (of_decide_eq_true (by kernel_rfl)) (by unfold Func.isWrapper; first | (rw [if_pos (by decide +kernel)]; kernel_rfl) | (rw [if_neg (by decide +kernel)]; exact ⟨rfl, rfl⟩))
    (fun os started H enc _ => lifted os started H enc)
theorem proved : Rows.DumpWritesSaid := over
#print axioms proved
end Go.Proofs.YtdajdgjacajemaaGreat.dumpWrites
namespace Go.Proofs.YtdajdgjacajemaaGreat
/-- The row, under a short name, for the claim. -/
theorem dumpWrites_holds : Rows.DumpWritesSaid := dumpWrites.proved
end Go.Proofs.YtdajdgjacajemaaGreat
