import Derived.Test.YtfhhfanapgjcgaaDoorChecked
import Derived.Test.YtfhhfanapgjcgaaDoorFwC
namespace Go.Proofs.YtfhhfanapgjcgaaDoor
open Go Fw
set_option linter.unusedSimpArgs false
set_option linter.unusedVariables false
noncomputable def o53 : Array Oper := match Tryd.f53.body with | some (.seq (.region _ ops _) _) => ops | _ => #[]
noncomputable def c53 : Code := match Tryd.f53.body with | some (.seq _ c) => c | _ => .skip
theorem b53 : Tryd.f53.body = some (.seq (.region 0 o53 false) c53) := rfl
noncomputable def o53g (i : Nat) : Oper := o53.getD i default
theorem z53 : o53.size = 8 := by kernel_rfl
theorem run_rec (a : Act) (w : World) : (execOp a.eval (o53g 0)).run Tryd.prog w = .ok .recover w := by
  simp [o53g, o53, Tryd.f53, go_sem]
theorem run_ta1 (a : Act) (w : World) (h : a.eval (.tmp 5) = .nilIface) : (execOp a.eval (o53g 1)).run Tryd.prog w = .ok (.value (.tuple #[.agg #[], .bool false])) w := by
  show (execOp a.eval ⟨some 6, .typeAssert (.tmp 5) 20 89 true, _, _, _, _⟩).run Tryd.prog w = _
  simp [execOp, h, Instr.typeAssert, Sem.run_bind, run_underlying Tryd.underlying89, Result.andThen_ok, Sem.run_pure, Tryd.zeroValue89]
theorem run_ta2 (a : Act) (w : World) (v : Value) (h : a.eval (.tmp 5) = .iface 89 v) : (execOp a.eval (o53g 1)).run Tryd.prog w = .ok (.value (.tuple #[v, .bool true])) w := by
  show (execOp a.eval ⟨some 6, .typeAssert (.tmp 5) 20 89 true, _, _, _, _⟩).run Tryd.prog w = _
  simp [execOp, h, Instr.typeAssert, Sem.run_bind, run_underlying Tryd.underlying89, Result.andThen_ok, Sem.run_pure, Tryd.zeroValue89]
theorem run_mv (a : Act) (w : World) (v : Value) (h : a.eval (.tmp 6) = v) : (execOp a.eval (o53g 2)).run Tryd.prog w = .ok (.value v) w := by
  show (execOp a.eval ⟨some 4, .move (.tmp 6), _, _, _, _⟩).run Tryd.prog w = _
  simp [execOp, h]
theorem run_x0 (a : Act) (w : World) (v b : Value) (h : a.eval (.tmp 4) = .tuple #[v, b]) : (execOp a.eval (o53g 3)).run Tryd.prog w = .ok (.value v) w := by
  show (execOp a.eval ⟨some 7, .extract (.tmp 4) 0, _, _, _, _⟩).run Tryd.prog w = _
  simp [execOp, h, Instr.extract]
theorem run_x1 (a : Act) (w : World) (v b : Value) (h : a.eval (.tmp 4) = .tuple #[v, b]) : (execOp a.eval (o53g 4)).run Tryd.prog w = .ok (.value b) w := by
  show (execOp a.eval ⟨some 8, .extract (.tmp 4) 1, _, _, _, _⟩).run Tryd.prog w = _
  simp [execOp, h, Instr.extract]
theorem run_al (a : Act) (w : World) : ∃ w', (execOp a.eval (o53g 5)).run Tryd.prog w = .ok (.value (.pointer (some ⟨w.heap.size, 0, none⟩))) w' ∧ w' = { w with heap := w.heap.push (.cells #[] 89) } := by
  refine ⟨_, ?_, rfl⟩
  show (execOp a.eval ⟨some 2, .alloc 89, _, _, _, _⟩).run Tryd.prog w = _
  simp [execOp, go_sem, Tryd.zeroValue89]
theorem run_st (a : Act) (w : World) (b : Nat) (h : a.eval (.tmp 2) = .pointer (some ⟨b, 0, none⟩)) (h7 : a.eval (.tmp 7) = .agg #[]) (_ : w.heap[b]? = some (.cells #[] 89)) : (execOp a.eval (o53g 6)).run Tryd.prog w = .ok .skip w := by
  show (execOp a.eval ⟨none, .store 89 (.tmp 2) (.tmp 7), _, _, _, _⟩).run Tryd.prog w = _
  simp only [Act.eval] at h h7
  have h' : a.tmps[2]?.getD undef = .pointer (some ⟨b, 0, none⟩) := by simpa using h
  have h7' : a.tmps[7]?.getD undef = .agg #[] := by simpa using h7
  simp [execOp, h', h7', go_sem, storeCells]
theorem run_as (a : Act) (w : World) (v : Value) (h : a.eval (.tmp 8) = v) : (execOp a.eval (o53g 7)).run Tryd.prog w = .ok (.value v) w := by
  show (execOp a.eval ⟨some 3, .assign (.tmp 8), _, _, _, _⟩).run Tryd.prog w = _
  simp [execOp, h]

theorem g53_0 : o53[0]? = some (o53g 0) := by kernel_rfl
theorem n53_0 : (o53g 0).guard.isNone = true := by kernel_rfl
theorem d53_0 : (o53g 0).dst = some 5 := by kernel_rfl
theorem g53_1 : o53[1]? = some (o53g 1) := by kernel_rfl
theorem n53_1 : (o53g 1).guard.isNone = true := by kernel_rfl
theorem d53_1 : (o53g 1).dst = some 6 := by kernel_rfl
theorem g53_2 : o53[2]? = some (o53g 2) := by kernel_rfl
theorem n53_2 : (o53g 2).guard.isNone = true := by kernel_rfl
theorem d53_2 : (o53g 2).dst = some 4 := by kernel_rfl
theorem g53_3 : o53[3]? = some (o53g 3) := by kernel_rfl
theorem n53_3 : (o53g 3).guard.isNone = true := by kernel_rfl
theorem d53_3 : (o53g 3).dst = some 7 := by kernel_rfl
theorem g53_4 : o53[4]? = some (o53g 4) := by kernel_rfl
theorem n53_4 : (o53g 4).guard.isNone = true := by kernel_rfl
theorem d53_4 : (o53g 4).dst = some 8 := by kernel_rfl
theorem g53_5 : o53[5]? = some (o53g 5) := by kernel_rfl
theorem n53_5 : (o53g 5).guard.isNone = true := by kernel_rfl
theorem d53_5 : (o53g 5).dst = some 2 := by kernel_rfl
theorem g53_6 : o53[6]? = some (o53g 6) := by kernel_rfl
theorem n53_6 : (o53g 6).guard.isNone = true := by kernel_rfl
theorem d53_6 : (o53g 6).dst = none := by kernel_rfl
theorem g53_7 : o53[7]? = some (o53g 7) := by kernel_rfl
theorem n53_7 : (o53g 7).guard.isNone = true := by kernel_rfl
theorem d53_7 : (o53g 7).dst = some 3 := by kernel_rfl
attribute [local irreducible] o53 o53g c53
def pushZ (w : World) : World := { w with heap := w.heap.push (.cells #[] 89) }
theorem ev_put {a : Act} {d t : Nat} {v : Value} (h : a.tmps.size = 11) (hd : d < 11) : (a.put (some d) v).eval (.tmp t) = if t = d then v else a.eval (.tmp t) := put_at (by omega)
theorem sz_put {a : Act} {d : Option Nat} {v : Value} (h : a.tmps.size = 11) : (a.put d v).tmps.size = 11 := by rw [put_size]; exact h
theorem reg0 {Q : Exit → Act → List Go.Frame → World → Prop} {a : Act} {cs : List Go.Frame} {w : World} {r : Value} {b : Bool} (hs : a.tmps.size = 11)
    (hta : ∀ (a : Act) (w : World), a.eval (.tmp 5) = r → (execOp a.eval (o53g 1)).run Tryd.prog w = .ok (.value (.tuple #[.agg #[], .bool b])) w)
    (hk : ∀ a', a'.tmps.size = 11 → a'.defers = a.defers → (∀ t, a'.eval (.tmp t) = if t = 3 then .bool b else if t = 2 then .pointer (some ⟨w.heap.size, 0, none⟩) else if t = 8 then .bool b else if t = 7 then .agg #[] else
      if t = 4 then .tuple #[.agg #[], .bool b] else if t = 6 then .tuple #[.agg #[], .bool b] else if t = 5 then r else a.eval (.tmp t)) → Q .normal a' cs (pushZ w)) :
    wpOpsS Tryd.prog o53 Q [1, 2, 3, 4, 5, 6, 7] (a.put (some 5) r) cs w := by
  have s1 : (a.put (some 5) r).tmps.size = 11 := sz_put hs
  generalize h1 : a.put (some 5) r = a1 at s1 ⊢
  refine wpsV g53_1 n53_1 (hta _ _ (by rw [← h1, ev_put hs (by decide), if_pos rfl])) ?_
  rw [d53_1]
  have s2 : (a1.put (some 6) (.tuple #[.agg #[], .bool b])).tmps.size = 11 := sz_put s1
  generalize h2 : a1.put (some 6) (.tuple #[.agg #[], .bool b]) = a2 at s2 ⊢
  refine wpsV g53_2 n53_2 (run_mv _ _ _ (by rw [← h2, ev_put s1 (by decide), if_pos rfl])) ?_
  rw [d53_2]
  have s3 : (a2.put (some 4) (.tuple #[.agg #[], .bool b])).tmps.size = 11 := sz_put s2
  generalize h3 : a2.put (some 4) (.tuple #[.agg #[], .bool b]) = a3 at s3 ⊢
  have e3 : a3.eval (.tmp 4) = .tuple #[.agg #[], .bool b] := by rw [← h3, ev_put s2 (by decide), if_pos rfl]
  refine wpsV g53_3 n53_3 (run_x0 _ _ _ _ e3) ?_
  rw [d53_3]
  have s4 : (a3.put (some 7) (.agg #[])).tmps.size = 11 := sz_put s3
  generalize h4 : a3.put (some 7) (.agg #[]) = a4 at s4 ⊢
  have e4 : a4.eval (.tmp 4) = .tuple #[.agg #[], .bool b] := by rw [← h4, ev_put s3 (by decide), if_neg (by decide)]; exact e3
  refine wpsV g53_4 n53_4 (run_x1 _ _ _ _ e4) ?_
  rw [d53_4]
  have s5 : (a4.put (some 8) (.bool b)).tmps.size = 11 := sz_put s4
  generalize h5 : a4.put (some 8) (.bool b) = a5 at s5 ⊢
  obtain ⟨w', q1, q2⟩ := run_al a5 w
  refine wpsV g53_5 n53_5 q1 ?_
  subst q2
  rw [d53_5]
  have s6 : (a5.put (some 2) (.pointer (some ⟨w.heap.size, 0, none⟩))).tmps.size = 11 := sz_put s5
  generalize h6 : a5.put (some 2) (.pointer (some ⟨w.heap.size, 0, none⟩)) = a6 at s6 ⊢
  have e6 : a6.eval (.tmp 2) = .pointer (some ⟨w.heap.size, 0, none⟩) := by rw [← h6, ev_put s5 (by decide), if_pos rfl]
  have e7 : a6.eval (.tmp 7) = .agg #[] := by
    rw [← h6, ev_put s5 (by decide), if_neg (by decide), ← h5, ev_put s4 (by decide), if_neg (by decide), ← h4, ev_put s3 (by decide), if_pos rfl]
  have e8 : a6.eval (.tmp 8) = .bool b := by
    rw [← h6, ev_put s5 (by decide), if_neg (by decide), ← h5, ev_put s4 (by decide), if_pos rfl]
  refine wpsK g53_6 n53_6 (run_st _ _ _ e6 e7 (by show (w.heap.push _)[w.heap.size]? = _; simp)) ?_
  rw [d53_6, show a6.put none undef = a6 from rfl]
  refine wpsV g53_7 n53_7 (run_as _ _ _ e8) ?_
  rw [d53_7]
  refine hk _ (sz_put s6) ?_ fun t => ?_
  · rw [put_defers', ← h6, put_defers', ← h5, put_defers', ← h4, put_defers', ← h3, put_defers', ← h2, put_defers', ← h1, put_defers']
  · rw [ev_put s6 (by decide), ← h6, ev_put s5 (by decide), ← h5, ev_put s4 (by decide), ← h4, ev_put s3 (by decide), ← h3, ev_put s2 (by decide), ← h2, ev_put s1 (by decide), ← h1, ev_put hs (by decide)]

theorem ge2 {t : Nat} (h0 : ¬ t = 0) (h1 : ¬ t = 1) : 2 ≤ t := by omega
def icc : ICode := .seq (.reg [⟨some 9, .mv (.t 3), none⟩]) (.cond (.t 9) (.reg [⟨some 10, .bld [.int .i64 0, .string ⟨#[]⟩, .string ⟨#[]⟩, .string ⟨#[]⟩, .int .i64 0, .slice none 0 0, .int .i64 0, .int .u64 0, .string ⟨#[]⟩, .bool false, .bool false, .slice none 0 0, .slice none 0 0, .slice none 0 0, .slice none 0 0, .string ⟨#[]⟩, .slice none 0 0, .bool false] [], none⟩,
  ⟨none, .store 18 (.t 0) (.t 10), none⟩, ⟨none, .store 1 (.t 1) (.c (.bool false)), none⟩]) .skip)
theorem icc_chk : chkC Tryd.prog 11 c53 icc = true := by kernel_rfl
def env53 (x o : Value) (b : Bool) : Env := fun t => if t = 3 then .bool b else if t = 2 then .chan (some 0) else if t = 8 then .bool b else if t = 7 then .agg #[] else
      if t = 4 then .chan (some 0) else if t = 6 then .chan (some 0) else if t = 5 then .chan (some 0) else if t = 0 then x else if t = 1 then o else undef
theorem mrw_push (w : World) : MRW w (pushZ w) := ⟨fun b hb => by show (w.heap.push _)[b]? = _; rw [Array.getElem?_push]; rw [if_neg (by omega)], by show (w.heap.push _).size = _; simp, rfl, rfl, rfl⟩
/-- The closure, out of what it does in the small language. -/
theorem catch_ok {T : Tab} (hT : Good Tryd.prog T) {p q x o r : Value} {b : Bool} {u u' : Go.FrameMode} {ρ : RP} {H H' : Heap} {w : World} (hr : Rel ρ H w) (hkp : KP Tryd.prog ρ) (hx : VR ρ H x p) (ho : VR ρ H o q)
    (hta : ∀ (a : Act) (w : World), a.eval (.tmp 5) = r → (execOp a.eval (o53g 1)).run Tryd.prog w = .ok (.value (.tuple #[.agg #[], .bool b])) w) (hrn : notAgg r = true)
    (hrec : ∀ (c₀ : Go.Frame) (cs : List Go.Frame), c₀.mode = u → (recoverD (c₀ :: cs) = none ∧ r = .nilIface ∧ u' = u) ∨ recoverD (c₀ :: cs) = some (r, { c₀ with mode := u' } :: cs))
    (hev : W T icc (env53 x o b) H fun y e h => y = .normal ∧ h = H') :
    CallsD Tryd.prog 53 #[p, q] u w fun e u2 w' => e = .returned (.tuple #[]) ∧ u2 = u' ∧ ∃ ρ', Rel ρ' H' w' ∧ Fr ρ H w ρ' H' w' := by
  refine callsD_of_wpS Tryd.func53 b53 fun c₀ cs hu => ?_
  apply wpS_seq
  apply wpS_region
  rw [z53]
  show wpOpsS Tryd.prog o53 _ [0, 1, 2, 3, 4, 5, 6, 7] _ _ w
  have key : ∀ cs', cs' = { c₀ with mode := u' } :: cs → ∀ a : Act, a = { tmps := #[p, q] ++ Array.replicate (Tryd.f53.ntmps - 2) undef, defers := [] } → wpOpsS Tryd.prog o53 (Exit.thenS (c53.wpS Tryd.prog (bodyPostS Tryd.prog Tryd.f53 c₀ cs fun e u2 w' => e = .returned (.tuple #[]) ∧ u2 = u' ∧ ∃ ρ', Rel ρ' H' w' ∧ Fr ρ H w ρ' H' w'))
      (bodyPostS Tryd.prog Tryd.f53 c₀ cs fun e u2 w' => e = .returned (.tuple #[]) ∧ u2 = u' ∧ ∃ ρ', Rel ρ' H' w' ∧ Fr ρ H w ρ' H' w')) [1, 2, 3, 4, 5, 6, 7] (a.put (some 5) r) cs' w := by
    intro cs' hcs a ha
    have hs : a.tmps.size = 11 := by rw [ha]; simp [Tryd.ntmps53]
    refine reg0 hs hta fun a' s' hd hall => ?_
    show c53.wpS Tryd.prog _ a' _ _
    refine wpS_of_wp ?_
    have he : EnvR ρ H 11 (env53 x o b) a' := by
      intro t ht
      rw [hall t]
      have h9 : ∀ t, 2 ≤ t → t < 11 → a.eval (.tmp t) = undef := fun t h1 h2 => by
        rw [ha]
        show (#[p, q] ++ Array.replicate (Tryd.f53.ntmps - 2) undef).getD t undef = undef
        rw [Array.getD_eq_getD_getElem?, Array.getElem?_append_right (show (#[p, q] : Array Value).size ≤ t from h1), Array.getElem?_replicate]
        split <;> rfl
      have h0 : a.eval (.tmp 0) = p := by rw [ha]; simp [Act.eval]
      have h1 : a.eval (.tmp 1) = q := by rw [ha]; simp [Act.eval]
      unfold env53
      by_cases e3 : t = 3
      · rw [if_pos e3, if_pos e3]; exact .plain _ rfl
      rw [if_neg e3, if_neg e3]
      by_cases e2 : t = 2
      · rw [if_pos e2, if_pos e2]; exact .any _ _ rfl
      rw [if_neg e2, if_neg e2]
      by_cases e8 : t = 8
      · rw [if_pos e8, if_pos e8]; exact .plain _ rfl
      rw [if_neg e8, if_neg e8]
      by_cases e7 : t = 7
      · rw [if_pos e7, if_pos e7]; exact .agg _ _ rfl fun j h => by simp at h
      rw [if_neg e7, if_neg e7]
      by_cases e4 : t = 4
      · rw [if_pos e4, if_pos e4]; exact .any _ _ rfl
      rw [if_neg e4, if_neg e4]
      by_cases e6 : t = 6
      · rw [if_pos e6, if_pos e6]; exact .any _ _ rfl
      rw [if_neg e6, if_neg e6]
      by_cases e5 : t = 5
      · rw [if_pos e5, if_pos e5]; exact .any _ _ hrn
      rw [if_neg e5, if_neg e5]
      by_cases e0 : t = 0
      · rw [if_pos e0, e0, h0]; exact hx
      rw [if_neg e0]
      by_cases e1 : t = 1
      · rw [if_pos e1, e1, h1]; exact ho
      rw [if_neg e1, h9 t (ge2 e0 e1) ht]
      exact VR.undef
    have hm := mrw_push w
    have hda : a'.defers = [] := by rw [hd, ha]
    refine wz_w (ds := []) (R := fun _ _ _ => False) hT hev c53 icc_chk ρ H w ρ a' (pushZ w) ⟨hm.rel hr, he, s', hda, hm.fr ρ H, hkp⟩ _ (fun y e h a2 w2 ρ2 hq hat => ?_) (fun v v' e' h a2 w2 ρ2 hq => hq.elim)
    obtain ⟨rfl, rfl⟩ := hq
    refine ⟨hat.defers, u', hcs, .tuple #[], ?_, rfl, rfl, ρ2, hat.rel, hat.fr⟩
    simp [results, Tryd.results53]
  rcases hrec c₀ cs hu with ⟨h1, h2, h3⟩ | h1
  · refine wpsN g53_0 n53_0 (run_rec _ _) h1 ?_
    rw [d53_0]
    subst h2 h3
    exact key _ (by rw [← hu]) _ rfl
  · refine wpsR g53_0 n53_0 (run_rec _ _) h1 ?_
    rw [d53_0]
    exact key _ rfl _ rfl
end Go.Proofs.YtfhhfanapgjcgaaDoor
namespace Go.Proofs.YtfhhfanapgjcgaaDoor
open Go Fw
set_option linter.unusedSimpArgs false
noncomputable def c36a : Code := match Tryd.f36.body with | some (.seq c _) => c | _ => .skip
noncomputable def o36 : Array Oper := match Tryd.f36.body with | some (.seq _ (.seq (.region _ ops _) _)) => ops | _ => #[]
noncomputable def c36r : Code := match Tryd.f36.body with | some (.seq _ (.seq _ c)) => c | _ => .skip
theorem b36 : Tryd.f36.body = some (.seq c36a (.seq (.region 1 o36 false) c36r)) := rfl
noncomputable def o36g (i : Nat) : Oper := o36.getD i default
theorem z36 : o36.size = 2 := by kernel_rfl
theorem g36_0 : o36[0]? = some (o36g 0) := by kernel_rfl
theorem g36_1 : o36[1]? = some (o36g 1) := by kernel_rfl
theorem n36_0 : (o36g 0).guard.isNone = true := by kernel_rfl
theorem n36_1 : (o36g 1).guard.isNone = true := by kernel_rfl
theorem d36_0 : (o36g 0).dst = some 5 := by kernel_rfl
theorem d36_1 : (o36g 1).dst = none := by kernel_rfl
theorem run_mf (a : Act) (w : World) : (execOp a.eval (o36g 0)).run Tryd.prog w = .ok (.value (.func (.func 53) #[] #[a.eval (.tmp 2), a.eval (.tmp 3)])) w := by
  show (execOp a.eval ⟨some 5, .makeFunc (.func 53) #[] #[.tmp 2, .tmp 3], _, _, _, _⟩).run Tryd.prog w = _
  have hmf : ∀ (fn : Fn) (first cap : Array Value) (w : World), (Instr.makeFunc fn first cap).run Tryd.prog w = .ok (.func fn first cap) w := fun _ _ _ _ => rfl
  simp [execOp, hmf]
theorem run_df (a : Act) (w : World) (p q : Value) (h : a.eval (.tmp 5) = .func (.func 53) #[] #[p, q]) : (execOp a.eval (o36g 1)).run Tryd.prog w = .ok (.defer { target := .fn (.func 53) #[p, q], args := #[] }) w := by
  show (execOp a.eval ⟨none, .defer { callee := .value (.tmp 5), args := #[], argTypes := #[] }, _, _, _, _⟩).run Tryd.prog w = _
  have h' : a.tmps[5]?.getD undef = .func (.func 53) #[] #[p, q] := by simpa [Act.eval] using h
  simp [execOp, go_sem, h']
def Z18 : List Value := [.int .i64 0, .string ⟨#[]⟩, .string ⟨#[]⟩, .string ⟨#[]⟩, .int .i64 0, .slice none 0 0, .int .i64 0, .int .u64 0, .string ⟨#[]⟩, .bool false, .bool false, .slice none 0 0, .slice none 0 0, .slice none 0 0, .slice none 0 0, .string ⟨#[]⟩, .slice none 0 0, .bool false]
def ic36a : ICode := .reg [⟨some 2, .alloc 18 Z18, none⟩, ⟨some 3, .alloc 1 [.bool false], none⟩]
theorem ic36a_chk : chkC Tryd.prog 18 c36a ic36a = true := by kernel_rfl
def ic36r2 : ICode := .reg [⟨some 6, .mv (.t 0), none⟩, ⟨some 7, .bld [.slice none 0 0] [(0, 1, .t 6)], none⟩, ⟨some 8, .box 1 (.t 7), none⟩, ⟨some 4, .mv (.t 8), none⟩]
def ic36r3 : ICode := .reg [⟨some 9, .mv (.t 4), none⟩, ⟨some 10, .call 54 [.t 9], none⟩, ⟨none, .store 18 (.t 2) (.t 10), none⟩]
def ic36r4 : ICode := .dreg [⟨some 11, .loadN 18 (.t 2), none⟩, ⟨some 12, .mv (.t 4), none⟩, ⟨some 13, .nilc (.t 12), none⟩, ⟨some 14, .fa 0 (.t 13), none⟩, ⟨some 15, .load (.t 14), none⟩, ⟨some 16, .len 1 (.t 15), none⟩,
  ⟨some 17, .bin .eql (.t 16) (.c (.int .i64 0)), none⟩, ⟨none, .store 18 (.t 2) (.t 11), none⟩, ⟨none, .store 1 (.t 3) (.t 17), none⟩] [(4, 8)]
def ic36r : ICode := .seq ic36r2 (.seq ic36r3 (.seq ic36r4 .ret))
theorem ic36r_chk : chkC Tryd.prog 18 c36r ic36r = true := by kernel_rfl

attribute [local irreducible] c36a o36 c36r o36g
theorem wpD {P : Program} {ops : Array Oper} {Q : Exit → Act → World → Prop} {i : Nat} {K : Act → World → Prop} {a : Act} {w w' : World} {o : Oper} {d : Deferred} (ho : ops[i]? = some o) (hg : o.guard.isNone = true) (hd : o.dst = none)
    (hr : (execOp a.eval o).run P w = .ok (.defer d) w') (hk : K { a with defers := d :: a.defers } w') : wpOp P ops Q i K a w := by
  unfold wpOp
  rw [ho]
  simp only []
  have hw : Region.wanted o (yielded ops a.tmps) = true := by
    unfold Region.wanted
    cases h : o.guard with
    | none => rfl
    | some g => rw [h] at hg; cases hg
  rw [if_pos hw]
  left
  unfold Oper.wp
  rw [hr]
  simp only [Oper.upon]
  rw [hd]
  exact hk
def pX : Value := .pointer (some ⟨0, 0, none⟩)
def pO : Value := .pointer (some ⟨1, 0, none⟩)
def H36 : Heap := [⟨0, .cells false 18 Z18⟩, ⟨0, .cells false 1 [.bool false]⟩]
def env0 (ws : Value) : Env := upd (upd (ini [ws]) 2 pX) 3 pO
def env1 (ws : Value) : Env := upd (env0 ws) 5 (.chan (some 0))
def res36 : List IRes := [.cell 2 (some 18), .cell 3 none]
theorem chk_res : chkR Tryd.prog 18 Tryd.f36.results.toList res36 = true := by kernel_rfl
theorem start {T : Tab} (ws : Value) : W T ic36a (ini [ws]) [] fun x e h => x = .normal ∧ e = env0 ws ∧ h = H36 := ⟨1, .normal, env0 ws, H36, rfl, rfl, rfl, rfl⟩
/-- The frame of the function: its own part, then the deferred closure. -/
theorem read_wp {T : Tab} (hT : Good Tryd.prog T) {ws ws' : Value} {ρ : RP} {w : World} (hK : KP Tryd.prog ρ) (hws : VR ρ [] ws ws') (hr : Rel ρ [] w) {Q : Post} {R : PostE} {B : Ending → World → Prop}
    (hz : ∀ ds, WZi Tryd.prog 18 ds ic36r (env1 ws) H36 Q R)
    (hQ : ∀ y e h a' w' ρ' p q, Q y e h → VR ρ' h pX p → VR ρ' h pO q → EnvR ρ' h 18 e a' → Rel ρ' h w' → Fr ρ [] w ρ' h w' → a'.defers = [{ target := .fn (.func 53) #[p, q], args := #[] }] → bodyPostD Tryd.prog Tryd.f36 B y.to a' w')
    (hR : ∀ v v' e h a' w' ρ' p q, R v e h → VR ρ' h v v' → VR ρ' h pX p → VR ρ' h pO q → EnvR ρ' h 18 e a' → Rel ρ' h w' → Fr ρ [] w ρ' h w' → a'.defers = [{ target := .fn (.func 53) #[p, q], args := #[] }] → bodyPostD Tryd.prog Tryd.f36 B (.panic (panE v')) a' w') :
    Calls Tryd.prog 36 #[ws'] w B := by
  refine calls_of_wp_defers Tryd.func36 b36 ?_
  refine wp_seq ?_
  refine wz_w (ds := []) (R := fun _ _ _ => False) hT (start ws) c36a ic36a_chk ρ [] w ρ _ w ⟨hr, ?_, by simp [Tryd.ntmps36], rfl, Fr.refl _ _ _, hK⟩ _ (fun y e h a2 w2 ρ2 hq hat => ?_) (fun v v' e' h a2 w2 ρ2 hq => hq.elim)
  · intro t ht
    simp only [Act.eval]
    generalize Tryd.f36.ntmps - (#[ws'] : Array Value).size = m
    rcases Nat.eq_zero_or_pos t with rfl | h0
    · have e : (#[ws'] ++ Array.replicate m undef).getD 0 undef = ws' := by
        rw [Array.getD_eq_getD_getElem?, Array.getElem?_append_left (show 0 < (#[ws'] : Array Value).size from Nat.one_pos)]
        rfl
      rw [e]
      exact hws
    · rw [Array.getD_eq_getD_getElem?, Array.getElem?_append_right (show (#[ws'] : Array Value).size ≤ t from h0), Array.getElem?_replicate]
      have : ini [ws] t = undef := by
        unfold ini
        rw [List.getD_eq_getElem?_getD, List.getElem?_eq_none (show ([ws] : List Value).length ≤ t from h0)]
        rfl
      rw [this]
      split <;> exact VR.undef
  obtain ⟨rfl, rfl, rfl⟩ := hq
  show (Code.seq (.region 1 o36 false) c36r).wp Tryd.prog _ a2 w2
  refine wp_seq (wp_region ?_)
  rw [z36]
  show wpOps Tryd.prog o36 _ [0, 1] a2 w2
  rw [wpOps_cons]
  refine wp1 g36_0 n36_0 d36_0 (run_mf a2 w2) ?_
  rw [wpOps_cons]
  have hp := hat.env 2 (by decide)
  have hq := hat.env 3 (by decide)
  have hsz := hat.size
  have e5 : (a2.put (some 5) (.func (.func 53) #[] #[a2.eval (.tmp 2), a2.eval (.tmp 3)])).eval (.tmp 5) = .func (.func 53) #[] #[a2.eval (.tmp 2), a2.eval (.tmp 3)] := by rw [put_at (by rw [hsz]; decide), if_pos rfl]
  refine wpD g36_1 n36_1 d36_1 (run_df _ _ _ _ e5) ?_
  show c36r.wp Tryd.prog _ _ w2
  have hE : EnvR ρ2 H36 18 (env1 ws) { a2.put (some 5) (.func (.func 53) #[] #[a2.eval (.tmp 2), a2.eval (.tmp 3)]) with defers := { target := .fn (.func 53) #[a2.eval (.tmp 2), a2.eval (.tmp 3)], args := #[] } :: (a2.put (some 5) (.func (.func 53) #[] #[a2.eval (.tmp 2), a2.eval (.tmp 3)])).defers } := by
    intro t ht
    show VR ρ2 H36 (upd (env0 ws) 5 (.chan (some 0)) t) ((a2.put (some 5) (.func (.func 53) #[] #[a2.eval (.tmp 2), a2.eval (.tmp 3)])).eval (.tmp t))
    rw [put_at (by rw [hsz]; decide)]
    unfold upd
    by_cases h5 : t = 5
    · rw [if_pos h5, if_pos h5]; exact .any _ _ rfl
    · rw [if_neg h5, if_neg h5]; exact hat.env t ht
  have hde : (a2.put (some 5) (.func (.func 53) #[] #[a2.eval (.tmp 2), a2.eval (.tmp 3)])).defers = [] := by rw [put_defers']; exact hat.defers
  rw [hde] at hE ⊢
  refine hz [{ target := .fn (.func 53) #[a2.eval (.tmp 2), a2.eval (.tmp 3)], args := #[] }] c36r ic36r_chk ρ2 H36 w2 ρ2 _ w2 ⟨hat.rel, hE, by show (a2.put _ _).tmps.size = _; rw [put_size]; exact hsz, rfl, Fr.refl _ _ _, hat.kp⟩ _ (fun y e h a3 w3 ρ3 hq3 hat3 => ?_) (fun v v' e' h a3 w3 ρ3 g1 g2 g3 g4 g5 g6 g7 => ?_)
  · exact hQ y e h a3 w3 ρ3 _ _ hq3 (hat3.fr.vr _ _ hp) (hat3.fr.vr _ _ hq) hat3.env hat3.rel (hat.fr.trans hat3.fr) hat3.defers
  · exact hR v v' e' h a3 w3 ρ3 _ _ g1 g2 (g4.vr _ _ hp) (g4.vr _ _ hq) g5 g3 (hat.fr.trans g4) g6

/-- Read, and it is a request: the results as they stand. -/
theorem read_ret {T : Tab} (hT : Good Tryd.prog T) {ws u : Value} {H' : Heap} (hev : W T ic36r (env1 ws) H36 fun y e h => (y = .normal ∨ y = .ret) ∧ h = H' ∧ ∃ vs, evalR e h res36 = some vs ∧ one vs = u) : AC Tryd.prog 36 [ws] [] u H' := by
  refine ⟨by kernel_rfl, fun ρ w args' hK hargs hr => ?_⟩
  obtain ⟨ws', r1, rfl, h1, h2⟩ := hargs.head
  obtain rfl := h2.nil_inv
  refine read_wp hT hK h1 hr (R := fun _ _ _ => False) (fun ds => wz_w hT hev) (fun y e h a' w' ρ' p q hq hp hq' hE hR hF hd => ?_) (fun v v' e h a' w' ρ' p q hq => hq.elim)
  obtain ⟨hy, rfl, vs, hv, rfl⟩ := hq
  suffices key : Leaves Tryd.prog Tryd.f36 a'.tmps (fun e w' => ∃ v' ρ', e = .returned v' ∧ VR ρ' h (one vs) v' ∧ Rel ρ' h w' ∧ Fr ρ [] w ρ' h w') a'.defers .returning w' by
    rcases hy with rfl | rfl <;> exact key
  rw [hd]
  refine leaves_cons (f := 53) (args := #[p, q]) (by simp) (by simp [go_sem]) ?_
  refine (catch_ok (b := false) (u' := .returning) hT hR (hK.fr hF.vr) hp hq' run_ta1 rfl (fun c₀ cs hc => .inl ⟨by simp [recoverD, hc], rfl, rfl⟩) (H' := h) ⟨1, .normal, _, h, rfl, rfl, rfl⟩).mono fun e2 u2 w2 hh => ?_
  obtain ⟨rfl, rfl, ρ2, k1, k2⟩ := hh
  show Leaves Tryd.prog Tryd.f36 a'.tmps _ [] (settle .returning) w2
  obtain ⟨v', g1, g2⟩ := results_ok k1 (fun t ht => k2.vr _ _ (hE t ht)) chk_res hv
  exact ⟨v', g1, v', ρ2, rfl, g2, k1, hF.trans k2⟩
end Go.Proofs.YtfhhfanapgjcgaaDoor
/- read: where a reader panics, the closure turns it into a refusal. -/
namespace Go.Proofs.YtfhhfanapgjcgaaDoor
open Go Fw
set_option linter.unusedSimpArgs false
set_option linter.unusedVariables false
set_option linter.unusedSectionVars false
theorem iface_inv {ρ : RP} {H : Heap} {t : TypeId} {x v : Value} (h : VR ρ H (.iface t x) v) : ∃ x', v = .iface t x' ∧ VR ρ H x x' := by
  cases h with
  | plain _ h => cases h
  | iface _ _ x' h => exact ⟨x', rfl, h⟩
theorem agg0_inv {ρ : RP} {H : Heap} {v : Value} (h : VR ρ H (.agg #[]) v) : v = .agg #[] := by
  cases h with
  | plain _ h => rfl
  | agg _ cs' h1 h2 =>
    have : cs' = #[] := Array.size_eq_zero_iff.1 h1.symm
    rw [this]
def wrongV : Value := .iface 89 (.agg #[])
def zeroV : Value := .tuple #[.agg Z18.toArray, .bool false]
def afterH (h : Heap) : Heap := (h.set 0 ⟨0, .cells false 18 Z18⟩).set 1 ⟨0, .cells false 1 [.bool false]⟩
theorem icc_true {T : Tab} {h : Heap} {cs : List Value} {c : Value} (c1 : h[0]? = some ⟨0, .cells false 18 cs⟩) (c2 : cs.length = 18) (c3 : h[1]? = some ⟨0, .cells false 1 [c]⟩) :
    W T icc (env53 pX pO true) h fun y e h2 => y = .normal ∧ h2 = afterH h := by
  have l1 : (h.set 0 ⟨0, .cells false 18 Z18⟩)[1]? = some ⟨0, .cells false 1 [c]⟩ := by rw [List.getElem?_set_ne (by decide), c3]
  have s0 : spl cs 0 Z18 = Z18 := by
    have hz : Z18.length = 18 := rfl
    rw [spl_eq Z18 cs 0 (by omega), List.take_zero, List.nil_append, List.drop_of_length_le (by omega), List.append_nil]
  have t1 : decide (0 + 18 ≤ cs.length) = true := by rw [c2]; rfl
  have t2 : spl [c] 0 [.bool false] = [.bool false] := rfl
  unfold Z18 at s0 l1
  have v0 : env53 (.pointer (some ⟨0, 0, none⟩)) (.pointer (some ⟨1, 0, none⟩)) true 0 = (.pointer (some ⟨0, 0, none⟩)) := rfl
  have v1 : env53 (.pointer (some ⟨0, 0, none⟩)) (.pointer (some ⟨1, 0, none⟩)) true 1 = (.pointer (some ⟨1, 0, none⟩)) := rfl
  have v3 : env53 (.pointer (some ⟨0, 0, none⟩)) (.pointer (some ⟨1, 0, none⟩)) true 3 = .bool true := rfl
  show W T icc (env53 (.pointer (some ⟨0, 0, none⟩)) (.pointer (some ⟨1, 0, none⟩)) true) h _
  simp only [icc, w_reg, fws, seval, cond_true, cond_false, if_true, if_false, unV, isNil, optI, iV, stepI, evalR, IntKind.bits, ini, fwh, lk, cellsAt, tagOf, spotOf, rdN, spl, fillL, zr, fwi, v0, v1, v3, c1, t1, s0, l1, t2, decide_true]
  exact ⟨trivial, rfl⟩
/-- Read, and a reader panics: no request. -/
theorem read_pan {T : Tab} (hT : Good Tryd.prog T) {ws : Value} (hp : pureV 6 ws = true)
    (hz : ∀ ds, WZi Tryd.prog 18 ds ic36r (env1 ws) H36 (fun _ _ _ => False) fun v e h => v = wrongV ∧ e 2 = pX ∧ e 3 = pO ∧ (∃ cs, h[0]? = some ⟨0, .cells false 18 cs⟩ ∧ cs.length = 18) ∧ ∃ c, h[1]? = some ⟨0, .cells false 1 [c]⟩) (H : Heap) :
    AC Tryd.prog 36 [ws] H zeroV H := by
  refine callc_ex (by kernel_rfl) (fun ρ w args' hK hargs hr => ?_) (by rw [List.all_cons, hp]; rfl)
  obtain ⟨ws', r1, rfl, h1, h2⟩ := hargs.head
  obtain rfl := h2.nil_inv
  refine read_wp hT hK h1 hr hz (fun y e h a' w' ρ' p q hq => hq.elim) (fun v v' e h a' w' ρ' p q hq hv hp hq' hE hR hF hd => ?_)
  obtain ⟨rfl, e2, e3, ⟨cs, c1, c2⟩, c, c3⟩ := hq
  obtain ⟨x', rfl, hx⟩ := iface_inv hv
  obtain rfl := agg0_inv hx
  show Leaves Tryd.prog Tryd.f36 a'.tmps _ a'.defers (.panicking (panE (.iface 89 (.agg #[])))) w'
  rw [hd]
  refine leaves_cons (f := 53) (args := #[p, q]) (by simp) (by simp [go_sem]) ?_
  refine (catch_ok (b := true) (r := .iface 89 (.agg #[])) (u' := .panicking [{ v := .iface 89 (.agg #[]), recovered := true }]) hT hR (hK.fr hF.vr) hp hq' (fun a w h => run_ta2 a w _ h) rfl (fun c₀ cs hc => .inr (by simp [recoverD, hc])) (H' := afterH h) (icc_true c1 c2 c3)).mono fun e2' u2 w2 hh => ?_
  obtain ⟨rfl, rfl, ρ2, k1, k2⟩ := hh
  show Leaves Tryd.prog Tryd.f36 a'.tmps _ [] (settle (.panicking [{ v := .iface 89 (.agg #[]), recovered := true }])) w2
  have hset : settle (.panicking [{ v := .iface 89 (.agg #[]), recovered := true }]) = .returning := by simp [settle]
  rw [hset]
  have hi0 : 0 < h.length := (List.getElem?_eq_some_iff.1 c1).1
  have hi1 : 1 < h.length := (List.getElem?_eq_some_iff.1 c3).1
  have m0 : (afterH h)[0]? = some ⟨0, .cells false 18 Z18⟩ := by
    unfold afterH
    rw [List.getElem?_set_ne (by decide), List.getElem?_set_self hi0]
  have m1 : (afterH h)[1]? = some ⟨0, .cells false 1 [.bool false]⟩ := by
    unfold afterH
    rw [List.getElem?_set_self (by rw [List.length_set]; exact hi1)]
  have hv2 : evalR e (afterH h) res36 = some [.agg Z18.toArray, .bool false] := by
    have q0 : lk (afterH h) ⟨0, 0, none⟩ = some ⟨0, .cells false 18 Z18⟩ := by unfold lk; rw [m0]; rfl
    have q1 : lk (afterH h) ⟨1, 0, none⟩ = some ⟨0, .cells false 1 [.bool false]⟩ := by unfold lk; rw [m1]; rfl
    have l0 : loadNI (afterH h) 18 pX = some (.agg Z18.toArray, afterH h) := by
      unfold loadNI pX cellsAt
      simp only [q0]
      rfl
    have l1 : loadI (afterH h) pO = some (.bool false, afterH h) := by
      unfold loadI pO cellsAt
      simp only [q1]
      rfl
    show (((loadNI (afterH h) 18 (e 2)).map (·.1)).bind fun v => (((loadI (afterH h) (e 3)).map (·.1)).bind fun v => (some []).map (v :: ·)).map (v :: ·)) = _
    rw [e2, e3, l0, l1]
    rfl
  obtain ⟨v', g1, g2⟩ := results_ok k1 (fun t ht => k2.vr _ _ (hE t ht)) chk_res hv2
  exact ⟨v', g1, zeroV, afterH h, v', ρ2, rfl, g2, k1, hF.trans k2, frz_pure rfl⟩
end Go.Proofs.YtfhhfanapgjcgaaDoor
