/- read at the example's lines. -/
import Derived.Test.YtfhhfanapgjcgaaDoorSA
import Derived.Test.YtfhhfanapgjcgaaDoorFwC
import Derived.Test.YtfhhfanapgjcgaaDoorIrSw
import Derived.KernelRfl
import Derived.Test.YtfhhfanapgjcgaaDoorScNat
namespace Go.Proofs.YtfhhfanapgjcgaaDoor
open Go Fw
set_option linter.unusedSimpArgs false
set_option linter.unusedVariables false
set_option linter.unusedSectionVars false
theorem read_run {ws v : Value} (hp : pureV 6 ws = true) (h : ((kRet res36 (kC (fun _ _ => none) (kF (fun _ _ => none) TSw.fns (fun _ _ => none) 3 200) 200 3 ic36r (ofE 3 (env1 ws)) H36)).bind fun r => frz 8 r.2 r.1) = some v) (H : Heap) :
    AC Tryd.prog 36 [ws] H v H := by
  obtain ⟨⟨u, H'⟩, h1, h2⟩ := Option.bind_eq_some_iff.1 h
  exact callc_ok (read_ret TSw_good (W_runX (natx := fun _ _ => none) (fun _ _ _ h => nomatch h) (fun _ _ h => h) SN_none 3 200 h1)) (by rw [List.all_cons, hp]; rfl) h2
def l1 : Value := immV 6 [.string ⟨#[111, 112, 101, 110]⟩, .string ⟨#[100, 101, 102, 97, 117, 108, 116]⟩, .string ⟨#[108, 105, 98, 97, 46, 115, 111]⟩, .string ⟨#[103, 108, 111, 98, 97, 108]⟩, .string ⟨#[97, 116]⟩, .string ⟨#[48, 120, 49, 48, 48, 48]⟩]
def l2 : Value := immV 4 [.string ⟨#[115, 121, 109]⟩, .string ⟨#[49]⟩, .string ⟨#[102]⟩, .string ⟨#[86, 49]⟩]
def l3 : Value := immV 2 [.string ⟨#[99, 108, 111, 115, 101]⟩, .string ⟨#[49]⟩]
def l4 : Value := immV 2 [.string ⟨#[111, 112, 101, 110]⟩, .string ⟨#[120]⟩]
def q1 : Value := .tuple #[.agg #[.int .i64 1, .string ⟨#[100, 101, 102, 97, 117, 108, 116]⟩, .string ⟨#[108, 105, 98, 97, 46, 115, 111]⟩, .string ⟨#[]⟩, .int .i64 1, immV 1 [.int .u64 4096], .int .i64 0, .int .u64 0, .string ⟨#[]⟩, .bool false, .bool false, .slice none 0 0, .slice none 0 0, .slice none 0 0, .slice none 0 0, .string ⟨#[]⟩, .slice none 0 0, .bool false], .bool true]
def q2 : Value := .tuple #[.agg #[.int .i64 2, .string ⟨#[]⟩, .string ⟨#[102]⟩, .string ⟨#[86, 49]⟩, .int .i64 0, .slice none 0 0, .int .i64 1, .int .u64 0, .string ⟨#[]⟩, .bool false, .bool false, .slice none 0 0, .slice none 0 0, .slice none 0 0, .slice none 0 0, .string ⟨#[]⟩, .slice none 0 0, .bool false], .bool true]
def q3 : Value := .tuple #[.agg #[.int .i64 4, .string ⟨#[]⟩, .string ⟨#[]⟩, .string ⟨#[]⟩, .int .i64 0, .slice none 0 0, .int .i64 1, .int .u64 0, .string ⟨#[]⟩, .bool false, .bool false, .slice none 0 0, .slice none 0 0, .slice none 0 0, .slice none 0 0, .string ⟨#[]⟩, .slice none 0 0, .bool false], .bool true]
theorem rd1 (H : Heap) : AC Tryd.prog 36 [l1] H q1 H := read_run (by kernel_rfl) (by kernel_rfl) H
theorem rd2 (H : Heap) : AC Tryd.prog 36 [l2] H q2 H := read_run (by kernel_rfl) (by kernel_rfl) H
theorem rd3 (H : Heap) : AC Tryd.prog 36 [l3] H q3 H := read_run (by kernel_rfl) (by kernel_rfl) H
end Go.Proofs.YtfhhfanapgjcgaaDoor
/- read at a line whose reader panics. -/
namespace Go.Proofs.YtfhhfanapgjcgaaDoor
open Go Fw
set_option linter.unusedSimpArgs false
set_option linter.unusedVariables false
set_option linter.unusedSectionVars false
theorem f_mustT (H : Heap) : Ev TSw 89 [.bool true] H fun v h => v = .tuple #[] ∧ h = H := by
  rw [Ev_fn (show TSw 89 = some F_script_must from rfl) rfl]
  simp only [F_script_must, fws, seval, cond_true, cond_false, if_true, if_false, unV, isNil, optI, iV, stepI, evalR, IntKind.bits, ini, N_script_must]
  exact ⟨trivial, trivial⟩
theorem cz_mustF (H : Heap) : CZ Tryd.prog 89 [.bool false] H (fun _ _ => False) (fun v h => v = wrongV ∧ h = H) := by
  refine CZ_fn (fn := F_script_must) F_script_must_chk rfl ?_
  show WZi Tryd.prog 6 [] (.seq (.reg F_script_mustr0) (.cond (.t 3) (.reg F_script_mustr1) .skip)) (ini [.bool false]) H _ _
  refine wz_seq (wz_w TSw_good ?_)
  simp only [fws, seval, cond_true, cond_false, if_true, if_false, unV, isNil, optI, iV, stepI, evalR, IntKind.bits, ini, N_script_must]
  refine .inl ⟨trivial, ?_⟩
  refine wz_true rfl ?_
  refine wz_reg ?_
  show WZR _ _ _ F_script_mustr1 ([⟨some 4, .bld [] [], none⟩, ⟨some 5, .mki 89 (.t 4), none⟩] ++ [⟨none, .xop .pnc (.t 5) (.t 5), none⟩]) _ _ _ _
  refine wzr_pre TSw_good ?_
  simp only [fws, seval, cond_true, cond_false, if_true, if_false, unV, isNil, optI, iV, stepI, evalR, IntKind.bits, ini, fwh, lk, cellsAt, tagOf, spotOf, rdN, spl, fillL, zr]
  exact wzr_panic ⟨89, .agg #[], rfl⟩ ⟨rfl, rfl⟩
/-- The next word, where there is one. -/
theorem ev_next {b : Nat} {H : Heap} {m : Int} {V V2 p : Value} {s : Value} (hb : H[b]? = some ⟨0, .cells false 1 [V]⟩) (hln : ∀ H, lenI H 1 V = some (.int .i64 m, H)) (hm : (0 : Int) < m)
    (hix : ∀ H, ixaI H 1 V (.int .i64 0) = some (p, H)) (hld : ∀ H, loadI H p = some (s, H)) (hsl : ∀ H, sleI H 1 V (some (.int .i64 1)) none none = some (V2, H)) (hce : V2.cells = #[V2]) (hone : oneAll V2 = true) :
    Ev TSw 71 [.pointer (some ⟨b, 0, none⟩)] H fun v h => v = s ∧ h = H.set b ⟨0, .cells false 1 [V2]⟩ := by
  have k1 : decide (V2.cells.size = 1) = true := by rw [hce]; rfl
  have k2 : spl [V] 0 V2.cells.toList = [V2] := by rw [hce]; rfl
  rw [Ev_fn (show TSw 71 = some F_script_reader_next from rfl) rfl]
  simp only [F_script_reader_next, fws, seval, cond_true, cond_false, if_true, if_false, unV, isNil, optI, iV, stepI, evalR, IntKind.bits, ini, fwh, lk, cellsAt, tagOf, spotOf, rdN, spl, fillL, zr, fwi, F_script_reader_nextr0b, F_script_reader_nextr0_W, F_script_reader_nextr1b, F_script_reader_nextr1_W, F_script_reader_nextr2b, F_script_reader_nextr3b, F_script_reader_nextr4b, F_script_reader_nextcb, F_script_reader_nextc_W, hb, hm, hln]
  refine (f_mustT H).mono fun v h ⟨h1, h2⟩ => ?_
  subst h1 h2
  simp only [fws, seval, cond_true, cond_false, if_true, if_false, unV, isNil, optI, iV, stepI, evalR, IntKind.bits, ini, fwh, lk, cellsAt, tagOf, spotOf, rdN, spl, fillL, zr, fwi, N_script_reader_next, hb, hm, hln, hix, hld, hsl, hone, k1, k2]
  exact ⟨trivial, trivial⟩
/-- No next word: the reader panics. -/
theorem cz_next {b : Nat} {H : Heap} {V : Value} (hb : H[b]? = some ⟨0, .cells false 1 [V]⟩) (hln : ∀ H, lenI H 1 V = some (.int .i64 0, H)) :
    CZ Tryd.prog 71 [.pointer (some ⟨b, 0, none⟩)] H (fun _ _ => False) (fun v h => v = wrongV ∧ h = H) := by
  refine CZ_fn (fn := F_script_reader_next) F_script_reader_next_chk rfl ?_
  show WZi Tryd.prog 26 [] (.seq (.reg F_script_reader_nextr0) (.seq (.reg F_script_reader_nextr1) (.seq (.reg F_script_reader_nextr2) (.seq (.reg F_script_reader_nextr3) (.seq (.reg F_script_reader_nextr4) .ret))))) (ini [.pointer (some ⟨b, 0, none⟩)]) H _ _
  refine wz_seq (wz_w TSw_good ?_)
  simp only [fws, seval, cond_true, cond_false, if_true, if_false, unV, isNil, optI, iV, stepI, evalR, IntKind.bits, ini, N_script_reader_next]
  refine .inl ⟨trivial, ?_⟩
  refine wz_seq (wz_reg ?_)
  show WZR _ _ _ F_script_reader_nextr1 ([⟨some 4, .mv (.t 0), none⟩, ⟨some 5, .nilc (.t 4), none⟩, ⟨some 6, .fa 0 (.t 5), none⟩, ⟨some 7, .load (.t 6), none⟩, ⟨some 8, .len 1 (.t 7), none⟩, ⟨some 9, .bin .gtr (.t 8) (.c (.int .i64 0)), none⟩] ++ [⟨some 10, .call 89 [.t 9], none⟩]) _ _ _ _
  have q0 : ¬ ((0 : Int) < 0) := by decide
  refine wzr_pre TSw_good ?_
  simp only [fws, seval, cond_true, cond_false, if_true, if_false, unV, isNil, optI, iV, stepI, evalR, IntKind.bits, ini, fwh, lk, cellsAt, tagOf, spotOf, rdN, spl, fillL, zr, fwi, hb, hln, q0]
  refine wzr_call ?_
  exact (cz_mustF H).mono (fun v h hf => hf.elim) fun v h hq => hq
def rE (V : Value) : Entry := ⟨0, .cells false 1 [V]⟩
def zE : Entry := ⟨0, .cells false 18 Z18⟩
def oE : Entry := ⟨0, .cells false 1 [.bool false]⟩
def V1w : Value := immV 1 [.string ⟨#[120]⟩]
def V0w : Value := immV 0 []
def K1 : Heap := [zE, oE, rE l4, zE]
def K2 : Heap := [zE, oE, rE V1w, zE]
def K3 : Heap := [zE, oE, rE V1w, zE, zE]
def K4 : Heap := [zE, oE, rE V0w, zE, zE]
def pR : Value := .pointer (some ⟨2, 0, none⟩)
theorem nx1 : Ev TSw 71 [pR] K1 fun v h => v = .string ⟨#[111, 112, 101, 110]⟩ ∧ h = K2 :=
  ev_next (b := 2) (m := 2) (V := l4) (V2 := V1w) (p := iptrV [.string ⟨#[111, 112, 101, 110]⟩, .string ⟨#[120]⟩]) rfl (fun _ => rfl) (by decide) (fun _ => rfl) (fun _ => rfl) (fun _ => rfl) rfl (by kernel_rfl)
theorem nx2 : Ev TSw 71 [pR] K3 fun v h => v = .string ⟨#[120]⟩ ∧ h = K4 :=
  ev_next (b := 2) (m := 1) (V := V1w) (V2 := V0w) (p := iptrV [.string ⟨#[120]⟩]) rfl (fun _ => rfl) (by decide) (fun _ => rfl) (fun _ => rfl) (fun _ => rfl) rfl (by kernel_rfl)
theorem nx3 : CZ Tryd.prog 71 [pR] K4 (fun _ _ => False) (fun v h => v = wrongV ∧ h = K4) := cz_next (b := 2) (V := V0w) rfl fun _ => rfl
theorem cz_open : CZ Tryd.prog 72 [pR] K2 (fun _ _ => False) (fun v h => v = wrongV ∧ h = K4) := by
  refine CZ_fn (fn := F_script_reader_open) F_script_reader_open_chk rfl ?_
  refine wz_seq (wz_w TSw_good ?_)
  simp only [fws, seval, cond_true, cond_false, if_true, if_false, unV, isNil, optI, iV, stepI, evalR, IntKind.bits, ini, fwh, lk, cellsAt, tagOf, spotOf, rdN, spl, fillL, zr, N_script_reader_open]
  refine .inl ⟨trivial, ?_⟩
  refine wz_seq (wz_reg ?_)
  refine wzr_pre (l1 := [⟨some 7, .mv (.t 0), none⟩, ⟨some 8, .call 71 [.t 7], none⟩, ⟨some 9, .mv (.t 0), none⟩]) TSw_good ?_
  simp only [fws, seval, cond_true, cond_false, if_true, if_false, unV, isNil, optI, iV, stepI, evalR, IntKind.bits, ini, fwh, lk, cellsAt, tagOf, spotOf, rdN, spl, fillL, zr]
  refine nx2.mono fun v h ⟨h1, h2⟩ => ?_
  subst h1 h2
  simp only [fws, seval, cond_true, cond_false, if_true, if_false, unV, isNil, optI, iV, stepI, evalR, IntKind.bits, ini, fwh, lk, cellsAt, tagOf, spotOf, rdN, spl, fillL, zr]
  exact wzr_call (nx3.mono (fun v h hf => hf.elim) fun v h hq => hq)
theorem cz_request : CZ Tryd.prog 54 [pR] [zE, oE, rE l4] (fun _ _ => False) (fun v h => v = wrongV ∧ h = K4) := by
  refine CZ_fn (fn := F_script_reader_request) F_script_reader_request_chk rfl ?_
  refine wz_seq (wz_w TSw_good ?_)
  simp only [fws, seval, cond_true, cond_false, if_true, if_false, unV, isNil, optI, iV, stepI, evalR, IntKind.bits, ini, fwh, lk, cellsAt, tagOf, spotOf, rdN, spl, fillL, zr, N_script_reader_request]
  refine .inl ⟨trivial, ?_⟩
  refine wz_seq (wz_seq (wz_w TSw_good ?_))
  simp only [fws, seval, cond_true, cond_false, if_true, if_false, unV, isNil, optI, iV, stepI, evalR, IntKind.bits, ini, fwh, lk, cellsAt, tagOf, spotOf, rdN, spl, fillL, zr, N_script_reader_request]
  refine nx1.mono fun v h ⟨h1, h2⟩ => ?_
  subst h1 h2
  simp only [fws, seval, cond_true, cond_false, if_true, if_false, unV, isNil, optI, iV, stepI, evalR, IntKind.bits, ini, fwh, lk, cellsAt, tagOf, spotOf, rdN, spl, fillL, zr]
  refine .inl ⟨trivial, ?_⟩
  refine wz_block (wz_seq (wz_w TSw_good ?_))
  have e0 : strEq ⟨#[111, 112, 101, 110]⟩ ⟨#[111, 112, 101, 110]⟩ = true := rfl
  simp only [fws, seval, cond_true, cond_false, if_true, if_false, unV, isNil, optI, iV, stepI, evalR, IntKind.bits, ini, fwh, lk, cellsAt, tagOf, spotOf, rdN, spl, fillL, zr, N_script_reader_request, e0]
  refine .inl ⟨trivial, ?_⟩
  refine wz_true rfl ?_
  refine wz_seq (wz_reg ?_)
  refine wzr_pre (l1 := [⟨some 8, .mv (.t 0), none⟩]) TSw_good ?_
  simp only [fws, seval, cond_true, cond_false, if_true, if_false, unV, isNil, optI, iV, stepI, evalR, IntKind.bits, ini, fwh, lk, cellsAt, tagOf, spotOf, rdN, spl, fillL, zr]
  exact wzr_call (cz_open.mono (fun v h hf => hf.elim) fun v h hq => hq)
theorem rd4 (H : Heap) : AC Tryd.prog 36 [l4] H zeroV H := by
  refine read_pan TSw_good (by kernel_rfl) (fun ds => ?_) H
  refine wz_seq (wz_w TSw_good ?_)
  have v0 : env1 l4 0 = l4 := rfl
  have k3 : oneC l4 = true := rfl
  have k1 : decide (l4.cells.size = 1) = true := rfl
  have k2 : spl [.slice none 0 0] 0 l4.cells.toList = [l4] := rfl
  simp only [ic36r2, w_reg, fws, seval, cond_true, cond_false, if_true, if_false, unV, isNil, optI, iV, stepI, evalR, IntKind.bits, ini, fwh, lk, cellsAt, tagOf, spotOf, rdN, spl, fillL, zr, fwi, v0, k1, k2, k3]
  refine .inl ⟨trivial, ?_⟩
  refine wz_seq (wz_reg ?_)
  refine wzr_pre (l1 := [⟨some 9, .mv (.t 4), none⟩]) TSw_good ?_
  simp only [fws, seval, cond_true, cond_false, if_true, if_false, unV, isNil, optI, iV, stepI, evalR, IntKind.bits, ini, fwh, lk, cellsAt, tagOf, spotOf, rdN, spl, fillL, zr]
  refine wzr_call (cz_request.mono (fun v h hf => hf.elim) fun v h hq => ?_)
  obtain ⟨rfl, rfl⟩ := hq
  exact ⟨rfl, rfl, rfl, ⟨Z18, rfl, rfl⟩, .bool false, rfl⟩
end Go.Proofs.YtfhhfanapgjcgaaDoor
/- What is known of read, and what the library answers: the natives of the second table. -/
namespace Go.Proofs.YtfhhfanapgjcgaaDoor
open Go Fw
theorem knows_ac {P : Program} : ∀ {l : List (Nat × List Value × Value)}, (∀ p ∈ l, ∀ H, AC P p.1 p.2.1 H p.2.2 H) → ∀ f args u, knows l f args = some u → ∀ H, AC P f args H u H
  | [], _ => fun _ _ _ h => nomatch h
  | (g, xs, v) :: l, hl => fun f args u h => by
    simp only [knows] at h
    cases hb : (Nat.beq g f && listEq (vEq 8) xs args) with
    | true =>
      rw [hb, cond_true] at h
      obtain rfl := Option.some.inj h
      rw [Bool.and_eq_true] at hb
      have e1 := Nat.eq_of_beq_eq_true hb.1
      have e2 := listEq_ok (vEq_ok 8) hb.2
      subst e1 e2
      exact hl (g, xs, v) List.mem_cons_self
    | false =>
      rw [hb, cond_false] at h
      exact knows_ac (fun p hp => hl p (List.mem_cons_of_mem _ hp)) f args u h
def rdK : List (Nat × List Value × Value) := [(36, [l1], q1), (36, [l2], q2), (36, [l3], q3), (36, [l4], zeroV)]
theorem rdK_ok : ∀ p ∈ rdK, ∀ H, AC Tryd.prog p.1 p.2.1 H p.2.2 H := by
  intro p hp
  simp only [rdK, List.mem_cons, List.not_mem_nil, or_false] at hp
  rcases hp with rfl | rfl | rfl | rfl
  · exact rd1
  · exact rd2
  · exact rd3
  · exact rd4
def natSa (f : Nat) (args : List Value) : Option Value := (knows rdK f args).or (natSc f args)
theorem natSa_ok : NatOk Tryd.prog natSa := by
  intro f args v h H
  unfold natSa at h
  cases hk : knows rdK f args with
  | some u => rw [hk] at h; obtain rfl := Option.some.inj h; exact knows_ac rdK_ok f args _ hk H
  | none => rw [hk] at h; exact natSc_ok f args v h H
end Go.Proofs.YtfhhfanapgjcgaaDoor
