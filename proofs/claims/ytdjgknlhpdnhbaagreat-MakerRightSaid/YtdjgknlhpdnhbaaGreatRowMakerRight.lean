/- MakerRight: the row, out of the call by the evaluator. -/
import Derived.Test.YtdjgknlhpdnhbaaGreatRows
import Derived.Test.YtdjgknlhpdnhbaaGreatDC
import Derived.WalkKit
import Derived.ProofKit
import Derived.OpenShut
import Derived.ShutString
import Derived.ChangeOld
import Derived.Below
import Derived.SizedLaws
import Derived.Carry
namespace Go.Proofs.YtdjgknlhpdnhbaaGreat.makerRight
open Go.ChangeShapes Go.WideShapes Go.ChangeAt Go.RowKit Fw
set_option linter.unusedVariables false
theorem own : ownKnob Tryz.prog.godebug = none := by kernel_rfl
theorem laidOut : laidOutB Tryz.prog = true := by kernel_rfl
set_option maxRecDepth 100000 in
theorem lifted (os : Os) (started : os.Started) (H : Type) (enc : TypeId × Value → H) :
    ReturnsInHanded {} Tryz.checked os 3 .any (Rows.makerRightSpec.pre6 enc Tryz.prog Tryz.f3 Rows.makerRightRow.domain false) (Rows.makerRightSpec.post enc Tryz.prog Tryz.f3 false true false false) := by
  refine returnsInHanded_of_change_sized (C := Tryz.checked) own started (by kernel_rfl) Tryz.func3
    (ChangeSpec.witness6 (enc := enc) (C := Tryz.checked) false ⟨#[], #[.agg #[.int .u16 0, .string ByteArray.empty, .string ByteArray.empty, .slice none 0 0, .bool false, .bool false, .bool false, .slice none 0 0, .slice none 0 0, .slice none 0 0, .slice none 0 0, .int .i64 0, .int .i64 0, .bool false, .bool false, .bool false, .int .i64 0, .int .i64 0]], []⟩ 8 (by kernel_rfl) (by kernel_rfl) (by kernel_rfl) (by kernel_rfl)) ?_
  intro W base args ds gs before hval0 hW hcnd hsz0 _
  have hval : ∀ (j : Nat) t v, Tryz.f3.params[j]? = some t → args[j]? = some v → Value.okWide Tryz.prog W .any base t v := hval0
  have hW' := hW
  obtain ⟨p, q, hA0, hV, rfl, hfz, hnd⟩ := hW
  have hA : DataW.TrodAll enc Tryz.prog W 0 (fun _ => true) true Tryz.f3.params.toList args.toList ds p := hA0
  rw [Tryz.params3] at hA hval
  obtain ⟨v0, vs0, d0, ds0, p0, q0, hargs, rfl, rfl, h0, r0⟩ := trodAll_cons hA
  obtain ⟨rfl, rfl, rfl⟩ := trodAll_nil r0
  obtain rfl : args = #[v0] := by cases args; simp_all
  obtain ⟨rfl, rfl⟩ := trodVars_none hV
  obtain ⟨b0, rfl, _⟩ := okWide_struct Tryz.underlying29 (hval 0 29 v0 rfl rfl)
  have k0 := h0
  have lt0 : ∀ x ∈ p0, x.block < W.heap.size := by obtain ⟨m, hm⟩ := k0; exact DataW.trod_lt m _ _ _ hm
  obtain ⟨fuel0, hf0⟩ := h0
  obtain ⟨a0, w0, u0⟩ := (opn_api_Spec Tryz.underlying29 (by kernel_rfl) ⟨_, rfl, rfl, by kernel_rfl, (opn_int Tryz.underlying22)⟩ ⟨_, rfl, rfl, by kernel_rfl, (opn_string Tryz.underlying9)⟩ ⟨_, rfl, rfl, by kernel_rfl, (opn_string Tryz.underlying9)⟩ ⟨_, rfl, rfl, by kernel_rfl, (opn_slice Tryz.underlying23 (by kernel_rfl) (by decide) (opn_string Tryz.underlying9))⟩ ⟨_, rfl, rfl, by kernel_rfl, (opn_bool Tryz.underlying4)⟩ ⟨_, rfl, rfl, by kernel_rfl, (opn_bool Tryz.underlying4)⟩ ⟨_, rfl, rfl, by kernel_rfl, (opn_bool Tryz.underlying4)⟩ ⟨_, rfl, rfl, by kernel_rfl, (opn_slice Tryz.underlying24 (by kernel_rfl) (by decide) ((opn_api_Sym Tryz.underlying61 (by kernel_rfl) ⟨_, rfl, rfl, by kernel_rfl, (opn_string Tryz.underlying9)⟩ ⟨_, rfl, rfl, by kernel_rfl, (opn_string Tryz.underlying9)⟩ ⟨_, rfl, rfl, by kernel_rfl, (opn_bool Tryz.underlying4)⟩ ⟨_, rfl, rfl, by kernel_rfl, (opn_int Tryz.underlying3)⟩ ⟨_, rfl, rfl, by kernel_rfl, (opn_bool Tryz.underlying4)⟩ ⟨_, rfl, rfl, by kernel_rfl, (opn_int Tryz.underlying35)⟩ ⟨_, rfl, rfl, by kernel_rfl, (opn_int Tryz.underlying35)⟩)))⟩ ⟨_, rfl, rfl, by kernel_rfl, (opn_slice Tryz.underlying25 (by kernel_rfl) (by decide) ((opn_api_Rel Tryz.underlying66 (by kernel_rfl) ⟨_, rfl, rfl, by kernel_rfl, (opn_int Tryz.underlying35)⟩ ⟨_, rfl, rfl, by kernel_rfl, (opn_int Tryz.underlying39)⟩ ⟨_, rfl, rfl, by kernel_rfl, (opn_int Tryz.underlying39)⟩ ⟨_, rfl, rfl, by kernel_rfl, (opn_int Tryz.underlying2)⟩ ⟨_, rfl, rfl, by kernel_rfl, (opn_bool Tryz.underlying4)⟩)))⟩ ⟨_, rfl, rfl, by kernel_rfl, (opn_slice Tryz.underlying26 (by kernel_rfl) (by decide) (opn_int Tryz.underlying35))⟩ ⟨_, rfl, rfl, by kernel_rfl, (opn_slice Tryz.underlying27 (by kernel_rfl) (by decide) (opn_byte Tryz.underlying5))⟩ ⟨_, rfl, rfl, by kernel_rfl, (opn_int Tryz.underlying3)⟩ ⟨_, rfl, rfl, by kernel_rfl, (opn_int Tryz.underlying3)⟩ ⟨_, rfl, rfl, by kernel_rfl, (opn_bool Tryz.underlying4)⟩ ⟨_, rfl, rfl, by kernel_rfl, (opn_bool Tryz.underlying4)⟩ ⟨_, rfl, rfl, by kernel_rfl, (opn_bool Tryz.underlying4)⟩ ⟨_, rfl, rfl, by kernel_rfl, (opn_int Tryz.underlying3)⟩ ⟨_, rfl, rfl, by kernel_rfl, (opn_int Tryz.underlying3)⟩) _ _ _ hf0
  clear hA0 hval0
  refine (calls_true TIm_good (makerRight_t a0 w0) (KP_none (by kernel_rfl)) (VRs.cons (VRs.agg u0) (VRs.nil _ _)) (rel_W W) (fun i e h => by simp at h)).mono fun e W' ⟨he, bel⟩ => ?_
  subst he
  exact ⟨_, rfl, _, _, _, [], _, [], hW', trodAll_mk1 (shut_bool Tryz.underlying4 _), (trodAll_cons_mk (Below.trod laidOut (by kernel_rfl) (of_decide_eq_true (by kernel_rfl)) k0 bel lt0) trodAll_mk0), rfl, bel.frame _, fun h => by cases h⟩
theorem over : Rows.makerRightRow.holds Tryz.pinned (OpenSpec.ofChange Rows.makerRightSpec) :=
  OpenClaim.holds_of_wide 3 Tryz.f3 rfl rfl rfl rfl rfl rfl rfl ⟨rfl, rfl, rfl, rfl, rfl⟩ rfl rfl rfl rfl rfl (by kernel_rfl) Tryz.func3 (by kernel_rfl)
    (of_decide_eq_true (by kernel_rfl)) (by unfold Func.isWrapper; first | (rw [if_pos (by decide +kernel)]; kernel_rfl) | (rw [if_neg (by decide +kernel)]; exact ⟨rfl, rfl⟩))
    (fun os started H enc _ => lifted os started H enc)
theorem proved : Rows.MakerRightSaid := over
#print axioms proved
end Go.Proofs.YtdjgknlhpdnhbaaGreat.makerRight
namespace Go.Proofs.YtdjgknlhpdnhbaaGreat
/-- The row, under a short name, for the claim. -/
theorem makerRight_holds : Rows.MakerRightSaid := makerRight.proved
end Go.Proofs.YtdjgknlhpdnhbaaGreat
