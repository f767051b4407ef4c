/- ScriptAnswers: the row, out of the call by the evaluator. -/
import Derived.Test.YtfhhfanapgjcgaaDoorRows
import Derived.Test.YtfhhfanapgjcgaaDoorTie
import Derived.Test.YtfhhfanapgjcgaaDoorCards
import Derived.Test.YtfhhfanapgjcgaaDoorDA
import Derived.WalkKit
import Derived.ProofKit
import Derived.OpenShut
import Derived.ShutString
import Derived.ChangeOld
import Derived.Below
import Derived.SizedLaws
import Derived.Carry
import Derived.LaidMore
import Derived.Lay
import Derived.SevenTiedAt
import Derived.Stop.Joined
import Derived.Deep.DeepHandedRow
import Derived.Shelf.Vars
namespace Go.Proofs.YtfhhfanapgjcgaaDoor.scriptAnswers
open Go.ChangeShapes Go.WideShapes Go.ChangeAt Go.RowKit Fw
set_option linter.unusedVariables false
theorem own : ownKnob Tryd.prog.godebug = none := by kernel_rfl
theorem laidOut : laidOutB Tryd.prog = true := by kernel_rfl
abbrev LAID : List (String × DataW Unit) := [("unicode/utf8.acceptRanges", Rows.laid_unicode_utf8_acceptRanges), ("unicode/utf8.first", Rows.laid_unicode_utf8_first)]
theorem kp {W : World} (h : W.ShapedOpen Tryd.prog) : KP Tryd.prog (ρW W) := KP_W fun g hg => by
  obtain rfl : 0 = g := Option.some.inj ((show Tryd.prog.globalNamed "internal/bytealg.MaxLen" = some 0 by kernel_rfl).symm.trans hg)
  exact Go.Proofs.cell_of_shapedOpen_int (zero := #[.int .i64 0]) h (of_decide_eq_true (by kernel_rfl)) (by kernel_rfl) rfl (by kernel_rfl) (by kernel_rfl) Tryd.underlying3
set_option maxRecDepth 100000 in
theorem reads (os : Os) {H : Type} (enc : TypeId × Value → H) : ∃ places, DataW.whole enc Tryd.prog ((World.laidAll Tryd.prog os LAID).forCall (fun _ _ => 0) ⟨#[], #[.agg #[.int .i64 0, .string ByteArray.empty, .string ByteArray.empty, .string ByteArray.empty, .int .i64 0, .slice none 0 0, .int .i64 0, .int .u64 0, .string ByteArray.empty, .bool false, .bool false, .slice none 0 0, .slice none 0 0, .slice none 0 0, .slice none 0 0, .string ByteArray.empty, .slice none 0 0, .bool false], .agg #[.int .i64 0, .int .i64 0, .int .i64 0, .int .u64 0, .string ByteArray.empty]], []⟩).memory Tryd.f3.params.toList Rows.scriptAnswersSpec.vars false #[.agg #[.int .i64 0, .string ByteArray.empty, .string ByteArray.empty, .string ByteArray.empty, .int .i64 0, .slice none 0 0, .int .i64 0, .int .u64 0, .string ByteArray.empty, .bool false, .bool false, .slice none 0 0, .slice none 0 0, .slice none 0 0, .slice none 0 0, .string ByteArray.empty, .slice none 0 0, .bool false], .agg #[.int .i64 0, .int .i64 0, .int .i64 0, .int .u64 0, .string ByteArray.empty]].toList 8 = some ([.agg [.lit (.int .i64 0), .lit (.string []), .lit (.string []), .lit (.string []), .lit (.int .i64 0), .nil, .lit (.int .i64 0), .lit (.int .u64 0), .agg [.lit (.string []), .lit (.bool false), .lit (.bool false), .nil, .nil, .nil, .nil], .agg [.lit (.string []), .nil, .lit (.bool false)]], .agg [.lit (.int .i64 0), .lit (.int .i64 0), .lit (.int .i64 0), .lit (.int .u64 0), .lit (.string [])]], [], places) := ⟨[], by kernel_rfl⟩
set_option maxRecDepth 100000 in
theorem lifted (os : Os) (started : os.Started) (H : Type) (enc : TypeId × Value → H) (F : Stop.Interp) :
    ReturnsInHanded {} Tryd.checked os 3 .any ((OpenSpec.ofChange Rows.scriptAnswersSpec).preRow enc Tryd.prog Tryd.f3 Rows.scriptAnswersRow.domain false Rows.scriptAnswersRow.laid) (((OpenSpec.ofChange Rows.scriptAnswersSpec).at F).post enc Tryd.prog Tryd.f3 false true false false) := by
  obtain ⟨places, hx⟩ := reads os enc
  refine returnsInHanded_of_row (C := Tryd.checked) (s := OpenSpec.ofChange Rows.scriptAnswersSpec) own started (by kernel_rfl) Tryd.func3
    ⟨World.laidAll Tryd.prog os LAID, fun _ _ => 0, ⟨#[], #[.agg #[.int .i64 0, .string ByteArray.empty, .string ByteArray.empty, .string ByteArray.empty, .int .i64 0, .slice none 0 0, .int .i64 0, .int .u64 0, .string ByteArray.empty, .bool false, .bool false, .slice none 0 0, .slice none 0 0, .slice none 0 0, .slice none 0 0, .string ByteArray.empty, .slice none 0 0, .bool false], .agg #[.int .i64 0, .int .i64 0, .int .i64 0, .int .u64 0, .string ByteArray.empty]], []⟩, World.laidAll_os _ _ _, World.shaped_of_ZipB (by kernel_rfl) (by kernel_rfl), rfl, (Input.okWide_of_okWideB (base := 0) (by kernel_rfl)).2,
      OpenSpec.preRow_of_cond 8 hx (by kernel_rfl) (fun k hk => by cases hk) (by kernel_rfl) (by show laidMetH Tryd.prog LAID _; rw [MakeChecks.laidMetH_plain _ _ _ (by kernel_rfl)]; exact laidMet_laidAll _ (by kernel_rfl) (by kernel_rfl)),
      by simp only [Assume.holds]; exact ⟨by simp, by simp, by simp, by simp, by simp⟩⟩ ?_
  intro W base args ds gs before hval0 hW _ hk _ hL hSh _
  have hval : ∀ (j : Nat) t v, Tryd.f3.params[j]? = some t → args[j]? = some v → Value.okWide Tryd.prog W .any base t v := hval0
  have hW' := hW
  obtain ⟨p, q, hA0, hV, rfl, hfz, hnd⟩ := hW
  have hA : DataW.TrodAll enc Tryd.prog W 0 (fun _ => true) true Tryd.f3.params.toList args.toList ds p := hA0
  rw [Tryd.params3] at hA hval
  obtain ⟨v0, vs0, d0, ds0, p0, q0, hargs, rfl, rfl, h0, r0⟩ := trodAll_cons hA
  obtain ⟨v1, vs1, d1, ds1, p1, q1, rfl, rfl, rfl, h1, r1⟩ := trodAll_cons r0
  obtain ⟨rfl, rfl, rfl⟩ := trodAll_nil r1
  obtain rfl : args = #[v0, v1] := by cases args; simp_all
  obtain ⟨rfl, rfl⟩ := trodVars_none hV
  obtain ⟨b0, rfl, _⟩ := okWide_struct Tryd.underlying32 (hval 0 32 v0 rfl rfl)
  have k0 := h0
  have lt0 : ∀ x ∈ p0, x.block < W.heap.size := by obtain ⟨m, hm⟩ := k0; exact DataW.trod_lt m _ _ _ hm
  obtain ⟨fuel0, hf0⟩ := h0
  obtain ⟨a0, w0, u0⟩ := (opn_api_Req Tryd.underlying32 (by kernel_rfl) ⟨_, rfl, rfl, by kernel_rfl, (opn_int Tryd.underlying22)⟩ ⟨_, rfl, rfl, by kernel_rfl, (opn_string Tryd.underlying9)⟩ ⟨_, rfl, rfl, by kernel_rfl, (opn_string Tryd.underlying9)⟩ ⟨_, rfl, rfl, by kernel_rfl, (opn_string Tryd.underlying9)⟩ ⟨_, rfl, rfl, by kernel_rfl, (opn_int Tryd.underlying3)⟩ ⟨_, rfl, rfl, by kernel_rfl, (opn_slice Tryd.underlying23 (by kernel_rfl) (by decide) (opn_int Tryd.underlying24))⟩ ⟨_, rfl, rfl, by kernel_rfl, (opn_int Tryd.underlying3)⟩ ⟨_, rfl, rfl, by kernel_rfl, (opn_int Tryd.underlying24)⟩ ⟨_, rfl, rfl, by kernel_rfl, (opn_api_Space Tryd.underlying28 (by kernel_rfl) ⟨_, rfl, rfl, by kernel_rfl, (opn_string Tryd.underlying9)⟩ ⟨_, rfl, rfl, by kernel_rfl, (opn_bool Tryd.underlying4)⟩ ⟨_, rfl, rfl, by kernel_rfl, (opn_bool Tryd.underlying4)⟩ ⟨_, rfl, rfl, by kernel_rfl, (opn_slice Tryd.underlying25 (by kernel_rfl) (by decide) (opn_string Tryd.underlying9))⟩ ⟨_, rfl, rfl, by kernel_rfl, (opn_slice Tryd.underlying25 (by kernel_rfl) (by decide) (opn_string Tryd.underlying9))⟩ ⟨_, rfl, rfl, by kernel_rfl, (opn_slice Tryd.underlying25 (by kernel_rfl) (by decide) (opn_string Tryd.underlying9))⟩ ⟨_, rfl, rfl, by kernel_rfl, (opn_slice Tryd.underlying26 (by kernel_rfl) (by decide) ((opn_api_LinkTo Tryd.underlying30 (by kernel_rfl) ⟨_, rfl, rfl, by kernel_rfl, (opn_string Tryd.underlying9)⟩ ⟨_, rfl, rfl, by kernel_rfl, (opn_slice Tryd.underlying25 (by kernel_rfl) (by decide) (opn_string Tryd.underlying9))⟩ ⟨_, rfl, rfl, by kernel_rfl, (opn_bool Tryd.underlying4)⟩)))⟩)⟩ ⟨_, rfl, rfl, by kernel_rfl, (opn_api_LinkTo Tryd.underlying30 (by kernel_rfl) ⟨_, rfl, rfl, by kernel_rfl, (opn_string Tryd.underlying9)⟩ ⟨_, rfl, rfl, by kernel_rfl, (opn_slice Tryd.underlying25 (by kernel_rfl) (by decide) (opn_string Tryd.underlying9))⟩ ⟨_, rfl, rfl, by kernel_rfl, (opn_bool Tryd.underlying4)⟩)⟩) _ _ _ hf0
  obtain ⟨b1, rfl, _⟩ := okWide_struct Tryd.underlying35 (hval 1 35 v1 rfl rfl)
  have k1 := h1
  have lt1 : ∀ x ∈ p1, x.block < W.heap.size := by obtain ⟨m, hm⟩ := k1; exact DataW.trod_lt m _ _ _ hm
  obtain ⟨fuel1, hf1⟩ := h1
  obtain ⟨a1, w1, u1⟩ := (opn_api_Ans Tryd.underlying35 (by kernel_rfl) ⟨_, rfl, rfl, by kernel_rfl, (opn_int Tryd.underlying33)⟩ ⟨_, rfl, rfl, by kernel_rfl, (opn_int Tryd.underlying3)⟩ ⟨_, rfl, rfl, by kernel_rfl, (opn_int Tryd.underlying3)⟩ ⟨_, rfl, rfl, by kernel_rfl, (opn_int Tryd.underlying24)⟩ ⟨_, rfl, rfl, by kernel_rfl, (opn_string Tryd.underlying9)⟩) _ _ _ hf1
  clear hA0 hval0
  refine (calls_true TSb_good (answers_t a0 a1 w1) (kp hSh) (VRs.cons (VRs.agg u0) (VRs.cons (VRs.agg u1) (VRs.nil _ _))) (rel_W W) (fun i e h => by simp at h)).mono fun e W' ⟨he, bel⟩ => ?_
  subst he
  exact ⟨_, rfl, _, _, _, [], _, [], hW', trodAll_mk1 (shut_bool Tryd.underlying4 _), (trodAll_cons_mk (Below.trod laidOut (by kernel_rfl) (of_decide_eq_true (by kernel_rfl)) k0 bel lt0) (trodAll_cons_mk (Below.trod laidOut (by kernel_rfl) (of_decide_eq_true (by kernel_rfl)) k1 bel lt1) trodAll_mk0)), rfl, bel.frame _, fun h => by cases h⟩
theorem holds : Rows.ScriptAnswersSaid :=
  OpenClaim.holds_of_cond 3 Tryd.f3 rfl rfl rfl rfl rfl rfl rfl ⟨rfl, rfl, rfl, rfl, rfl⟩ rfl rfl rfl rfl rfl (by kernel_rfl) Tryd.func3 (by kernel_rfl)
    (of_decide_eq_true (by kernel_rfl)) (by unfold Func.isWrapper; first | (rw [if_pos (by decide +kernel)]; kernel_rfl) | (rw [if_neg (by decide +kernel)]; exact ⟨rfl, rfl⟩))
    (fun os started H enc _ F => by rw [OpenClaim.pre_eq_preRow]; exact lifted os started H enc F)
theorem card_holds : Rows.ScriptAnswersCardSaid :=
  Claim7.holds_tied_plain_at .later [] [.data, .pinned] true (true, "84ed1ababf363f981d50085c27f255f3cd0281a183667a70c87b55dc6242885e") true holds (fun _ h => by cases h) (by kernel_rfl) (fun _ h => by cases h) scriptAnswers_row_tie rfl ⟨rfl, rfl⟩ (by kernel_rfl) rfl
    (fun f fn hf hfn => by
      obtain rfl : f = 3 := Option.some.inj ((show Tryd.prog.funcNamed "messuage/messuagelaw28.ScriptAnswers" = some 3 by kernel_rfl).symm.trans hf) |>.symm
      obtain rfl : fn = Tryd.f3 := (Option.some.inj (Tryd.func3.symm.trans hfn)).symm
      exact ⟨by kernel_rfl, fun j t ht => by
        rw [Tryd.params3] at ht
        have hm : t ∈ [32, 35] := by simpa using Array.mem_of_getElem? ht
        have hall : ([32, 35].all fun u => !Tryd.prog.wantsStandIn u) = true := by kernel_rfl
        exact (show Tryd.prog.wantsStandIn t = false by simpa using List.all_eq_true.1 hall t hm)⟩)
    (by kernel_rfl)
#print axioms card_holds
end Go.Proofs.YtfhhfanapgjcgaaDoor.scriptAnswers
namespace Go.Proofs.YtfhhfanapgjcgaaDoor
/-- The card, under a short name, for the claim. -/
theorem scriptAnswers_holds : Rows.ScriptAnswersCardSaid := scriptAnswers.card_holds
end Go.Proofs.YtfhhfanapgjcgaaDoor
