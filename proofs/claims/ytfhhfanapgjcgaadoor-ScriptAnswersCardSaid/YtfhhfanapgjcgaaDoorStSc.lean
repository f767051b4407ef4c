/- StSc: structs as Lean structures, printed by structgen.py. -/
import Derived.Test.YtfhhfanapgjcgaaDoorFwC
namespace Go.Proofs.YtfhhfanapgjcgaaDoor
open Go Fw
set_option linter.unusedSimpArgs false
set_option linter.unusedVariables false
structure S_api_LinkTo where
  To : List UInt8
  Libs : Option (List (List UInt8))
  All : Bool
deriving DecidableEq
set_option maxRecDepth 10000 in
def S_api_LinkToE : Enc S_api_LinkTo where
  e s := [strV (s.To), slV strE (s.Libs), .bool (s.All)]
  u := 3
  d := 1
  hu _ := by rfl
  hp k s := by
    have key : ∀ m, 1 ≤ m → (([strV (s.To), slV strE (s.Libs), .bool (s.All)] : List Value)).all (pureV m) = true := fun m hm => by
      have hsl0 : ∀ o, pureV m (slV strE o) = true := fun o => pure_sl (by rw [bltN, decide_eq_true_eq]; simp only [byteE_d, intE_d, boolE_d, strE_d, slE_d]; omega)
      simp [pure_int, pure_bool, pure_string, hsl0, bltN, byteE_d, intE_d, boolE_d, strE_d, slE_d]
      try omega
    exact key _ (Nat.le_add_left _ _)
  ho s := by
    show (([strV (s.To), slV strE (s.Libs), .bool (s.All)] : List Value)).all oneC = true
    simp [oneC_int, oneC_bool, oneC_string, oneC_sl]
theorem S_api_LinkToE_u : S_api_LinkToE.u = 3 := rfl
theorem S_api_LinkToE_d : S_api_LinkToE.d = 1 := rfl
theorem S_api_LinkToE_e {s : S_api_LinkTo} : S_api_LinkToE.e s = [strV (s.To), slV strE (s.Libs), .bool (s.All)] := rfl
def S_api_LinkTo.wf (s : S_api_LinkTo) : Prop := (fun s => s.length ≤ maxLen) s.To ∧ (fun o => (lst o).length ≤ maxLen ∧ ∀ x ∈ lst o, (fun s => s.length ≤ maxLen) x) s.Libs ∧ (fun _ => True) s.All
theorem opn_api_LinkTo {H : Type} {P : Program} {enc : TypeId × Value → H} {W : World} {t : TypeId} {fs : Array Field} (ht : P.underlying t = some (.struct fs)) (hc : P.cellsOf t = 3)
    (h0 : FOpn P enc W fs 0 0 strE (fun s => s.length ≤ maxLen))
    (h1 : FOpn P enc W fs 1 1 (slE strE) (fun o => (lst o).length ≤ maxLen ∧ ∀ x ∈ lst o, (fun s => s.length ≤ maxLen) x))
    (h2 : FOpn P enc W fs 2 2 boolE (fun _ => True))
    : Opn P enc W t S_api_LinkToE S_api_LinkTo.wf := fun fuel cs x h => by
  have hl := opn_len ht h
  rw [hc] at hl
  obtain ⟨a0, w0, u0⟩ := opn_field ht h h0
  obtain ⟨a1, w1, u1⟩ := opn_field ht h h1
  obtain ⟨a2, w2, u2⟩ := opn_field ht h h2
  refine ⟨⟨a0, a1, a2⟩, ⟨w0, w1, w2⟩, vrs_all ?_⟩
  exact (vrs_next u0 rfl (vrs_next u1 rfl (vrs_next u2 rfl (vrs_end hl))))
structure S_api_Space where
  Name : List UInt8
  Isolated : Bool
  Visible : Bool
  Search : Option (List (List UInt8))
  Permitted : Option (List (List UInt8))
  Allowed : Option (List (List UInt8))
  Links : Option (List S_api_LinkTo)
deriving DecidableEq
set_option maxRecDepth 10000 in
def S_api_SpaceE : Enc S_api_Space where
  e s := [strV (s.Name), .bool (s.Isolated), .bool (s.Visible), slV strE (s.Search), slV strE (s.Permitted), slV strE (s.Allowed), slV S_api_LinkToE (s.Links)]
  u := 7
  d := 2
  hu _ := by rfl
  hp k s := by
    have key : ∀ m, 2 ≤ m → (([strV (s.Name), .bool (s.Isolated), .bool (s.Visible), slV strE (s.Search), slV strE (s.Permitted), slV strE (s.Allowed), slV S_api_LinkToE (s.Links)] : List Value)).all (pureV m) = true := fun m hm => by
      have hsl0 : ∀ o, pureV m (slV S_api_LinkToE o) = true := fun o => pure_sl (by rw [bltN, decide_eq_true_eq]; simp only [byteE_d, intE_d, boolE_d, strE_d, slE_d, S_api_LinkToE_d]; omega)
      have hsl1 : ∀ o, pureV m (slV strE o) = true := fun o => pure_sl (by rw [bltN, decide_eq_true_eq]; simp only [byteE_d, intE_d, boolE_d, strE_d, slE_d, S_api_LinkToE_d]; omega)
      simp [pure_int, pure_bool, pure_string, hsl0, hsl1, bltN, byteE_d, intE_d, boolE_d, strE_d, slE_d, S_api_LinkToE_d]
      try omega
    exact key _ (Nat.le_add_left _ _)
  ho s := by
    show (([strV (s.Name), .bool (s.Isolated), .bool (s.Visible), slV strE (s.Search), slV strE (s.Permitted), slV strE (s.Allowed), slV S_api_LinkToE (s.Links)] : List Value)).all oneC = true
    simp [oneC_int, oneC_bool, oneC_string, oneC_sl]
theorem S_api_SpaceE_u : S_api_SpaceE.u = 7 := rfl
theorem S_api_SpaceE_d : S_api_SpaceE.d = 2 := rfl
theorem S_api_SpaceE_e {s : S_api_Space} : S_api_SpaceE.e s = [strV (s.Name), .bool (s.Isolated), .bool (s.Visible), slV strE (s.Search), slV strE (s.Permitted), slV strE (s.Allowed), slV S_api_LinkToE (s.Links)] := rfl
def S_api_Space.wf (s : S_api_Space) : Prop := (fun s => s.length ≤ maxLen) s.Name ∧ (fun _ => True) s.Isolated ∧ (fun _ => True) s.Visible ∧ (fun o => (lst o).length ≤ maxLen ∧ ∀ x ∈ lst o, (fun s => s.length ≤ maxLen) x) s.Search ∧ (fun o => (lst o).length ≤ maxLen ∧ ∀ x ∈ lst o, (fun s => s.length ≤ maxLen) x) s.Permitted ∧ (fun o => (lst o).length ≤ maxLen ∧ ∀ x ∈ lst o, (fun s => s.length ≤ maxLen) x) s.Allowed ∧ (fun o => (lst o).length ≤ maxLen ∧ ∀ x ∈ lst o, S_api_LinkTo.wf x) s.Links
theorem opn_api_Space {H : Type} {P : Program} {enc : TypeId × Value → H} {W : World} {t : TypeId} {fs : Array Field} (ht : P.underlying t = some (.struct fs)) (hc : P.cellsOf t = 7)
    (h0 : FOpn P enc W fs 0 0 strE (fun s => s.length ≤ maxLen))
    (h1 : FOpn P enc W fs 1 1 boolE (fun _ => True))
    (h2 : FOpn P enc W fs 2 2 boolE (fun _ => True))
    (h3 : FOpn P enc W fs 3 3 (slE strE) (fun o => (lst o).length ≤ maxLen ∧ ∀ x ∈ lst o, (fun s => s.length ≤ maxLen) x))
    (h4 : FOpn P enc W fs 4 4 (slE strE) (fun o => (lst o).length ≤ maxLen ∧ ∀ x ∈ lst o, (fun s => s.length ≤ maxLen) x))
    (h5 : FOpn P enc W fs 5 5 (slE strE) (fun o => (lst o).length ≤ maxLen ∧ ∀ x ∈ lst o, (fun s => s.length ≤ maxLen) x))
    (h6 : FOpn P enc W fs 6 6 (slE S_api_LinkToE) (fun o => (lst o).length ≤ maxLen ∧ ∀ x ∈ lst o, S_api_LinkTo.wf x))
    : Opn P enc W t S_api_SpaceE S_api_Space.wf := fun fuel cs x h => by
  have hl := opn_len ht h
  rw [hc] at hl
  obtain ⟨a0, w0, u0⟩ := opn_field ht h h0
  obtain ⟨a1, w1, u1⟩ := opn_field ht h h1
  obtain ⟨a2, w2, u2⟩ := opn_field ht h h2
  obtain ⟨a3, w3, u3⟩ := opn_field ht h h3
  obtain ⟨a4, w4, u4⟩ := opn_field ht h h4
  obtain ⟨a5, w5, u5⟩ := opn_field ht h h5
  obtain ⟨a6, w6, u6⟩ := opn_field ht h h6
  refine ⟨⟨a0, a1, a2, a3, a4, a5, a6⟩, ⟨w0, w1, w2, w3, w4, w5, w6⟩, vrs_all ?_⟩
  exact (vrs_next u0 rfl (vrs_next u1 rfl (vrs_next u2 rfl (vrs_next u3 rfl (vrs_next u4 rfl (vrs_next u5 rfl (vrs_next u6 rfl (vrs_end hl))))))))
structure S_api_Req where
  Kind : Int
  Space : List UInt8
  Name : List UInt8
  Ver : List UInt8
  Flags : Int
  Hints : Option (List Int)
  Handle : Int
  Off : Int
  Make : S_api_Space
  To : S_api_LinkTo
deriving DecidableEq
set_option maxRecDepth 10000 in
def S_api_ReqE : Enc S_api_Req where
  e s := (intE .i64).e s.Kind ++ (strE.e s.Space ++ (strE.e s.Name ++ (strE.e s.Ver ++ ((intE .i64).e s.Flags ++ ((slE (intE .u64)).e s.Hints ++ ((intE .i64).e s.Handle ++ ((intE .u64).e s.Off ++ (S_api_SpaceE.e s.Make ++ (S_api_LinkToE.e s.To ++ [])))))))))
  u := 18
  d := 2
  hu _ := by rfl
  hp k s := by
    have key : ∀ m, 2 ≤ m → (([.int .i64 (s.Kind), strV (s.Space), strV (s.Name), strV (s.Ver), .int .i64 (s.Flags), slV (intE .u64) (s.Hints), .int .i64 (s.Handle), .int .u64 (s.Off), strV (s.Make.Name), .bool (s.Make.Isolated), .bool (s.Make.Visible), slV strE (s.Make.Search), slV strE (s.Make.Permitted), slV strE (s.Make.Allowed), slV S_api_LinkToE (s.Make.Links), strV (s.To.To), slV strE (s.To.Libs), .bool (s.To.All)] : List Value)).all (pureV m) = true := fun m hm => by
      have hsl0 : ∀ o, pureV m (slV (intE .u64) o) = true := fun o => pure_sl (by rw [bltN, decide_eq_true_eq]; simp only [byteE_d, intE_d, boolE_d, strE_d, slE_d, S_api_LinkToE_d]; omega)
      have hsl1 : ∀ o, pureV m (slV S_api_LinkToE o) = true := fun o => pure_sl (by rw [bltN, decide_eq_true_eq]; simp only [byteE_d, intE_d, boolE_d, strE_d, slE_d, S_api_LinkToE_d]; omega)
      have hsl2 : ∀ o, pureV m (slV strE o) = true := fun o => pure_sl (by rw [bltN, decide_eq_true_eq]; simp only [byteE_d, intE_d, boolE_d, strE_d, slE_d, S_api_LinkToE_d]; omega)
      simp [pure_int, pure_bool, pure_string, hsl0, hsl1, hsl2, bltN, byteE_d, intE_d, boolE_d, strE_d, slE_d, S_api_LinkToE_d]
      try omega
    exact key _ (Nat.le_add_left _ _)
  ho s := by
    show (([.int .i64 (s.Kind), strV (s.Space), strV (s.Name), strV (s.Ver), .int .i64 (s.Flags), slV (intE .u64) (s.Hints), .int .i64 (s.Handle), .int .u64 (s.Off), strV (s.Make.Name), .bool (s.Make.Isolated), .bool (s.Make.Visible), slV strE (s.Make.Search), slV strE (s.Make.Permitted), slV strE (s.Make.Allowed), slV S_api_LinkToE (s.Make.Links), strV (s.To.To), slV strE (s.To.Libs), .bool (s.To.All)] : List Value)).all oneC = true
    simp [oneC_int, oneC_bool, oneC_string, oneC_sl]
theorem S_api_ReqE_u : S_api_ReqE.u = 18 := rfl
theorem S_api_ReqE_d : S_api_ReqE.d = 2 := rfl
theorem S_api_ReqE_e {s : S_api_Req} : S_api_ReqE.e s = [.int .i64 (s.Kind), strV (s.Space), strV (s.Name), strV (s.Ver), .int .i64 (s.Flags), slV (intE .u64) (s.Hints), .int .i64 (s.Handle), .int .u64 (s.Off), strV (s.Make.Name), .bool (s.Make.Isolated), .bool (s.Make.Visible), slV strE (s.Make.Search), slV strE (s.Make.Permitted), slV strE (s.Make.Allowed), slV S_api_LinkToE (s.Make.Links), strV (s.To.To), slV strE (s.To.Libs), .bool (s.To.All)] := rfl
def S_api_Req.wf (s : S_api_Req) : Prop := (fun n => (Lit.int .i64 n).wf = true) s.Kind ∧ (fun s => s.length ≤ maxLen) s.Space ∧ (fun s => s.length ≤ maxLen) s.Name ∧ (fun s => s.length ≤ maxLen) s.Ver ∧ (fun n => (Lit.int .i64 n).wf = true) s.Flags ∧ (fun o => (lst o).length ≤ maxLen ∧ ∀ x ∈ lst o, (fun n => (Lit.int .u64 n).wf = true) x) s.Hints ∧ (fun n => (Lit.int .i64 n).wf = true) s.Handle ∧ (fun n => (Lit.int .u64 n).wf = true) s.Off ∧ S_api_Space.wf s.Make ∧ S_api_LinkTo.wf s.To
theorem opn_api_Req {H : Type} {P : Program} {enc : TypeId × Value → H} {W : World} {t : TypeId} {fs : Array Field} (ht : P.underlying t = some (.struct fs)) (hc : P.cellsOf t = 18)
    (h0 : FOpn P enc W fs 0 0 (intE .i64) (fun n => (Lit.int .i64 n).wf = true))
    (h1 : FOpn P enc W fs 1 1 strE (fun s => s.length ≤ maxLen))
    (h2 : FOpn P enc W fs 2 2 strE (fun s => s.length ≤ maxLen))
    (h3 : FOpn P enc W fs 3 3 strE (fun s => s.length ≤ maxLen))
    (h4 : FOpn P enc W fs 4 4 (intE .i64) (fun n => (Lit.int .i64 n).wf = true))
    (h5 : FOpn P enc W fs 5 5 (slE (intE .u64)) (fun o => (lst o).length ≤ maxLen ∧ ∀ x ∈ lst o, (fun n => (Lit.int .u64 n).wf = true) x))
    (h6 : FOpn P enc W fs 6 6 (intE .i64) (fun n => (Lit.int .i64 n).wf = true))
    (h7 : FOpn P enc W fs 7 7 (intE .u64) (fun n => (Lit.int .u64 n).wf = true))
    (h8 : FOpn P enc W fs 8 8 S_api_SpaceE S_api_Space.wf)
    (h9 : FOpn P enc W fs 9 15 S_api_LinkToE S_api_LinkTo.wf)
    : Opn P enc W t S_api_ReqE S_api_Req.wf := fun fuel cs x h => by
  have hl := opn_len ht h
  rw [hc] at hl
  obtain ⟨a0, w0, u0⟩ := opn_field ht h h0
  obtain ⟨a1, w1, u1⟩ := opn_field ht h h1
  obtain ⟨a2, w2, u2⟩ := opn_field ht h h2
  obtain ⟨a3, w3, u3⟩ := opn_field ht h h3
  obtain ⟨a4, w4, u4⟩ := opn_field ht h h4
  obtain ⟨a5, w5, u5⟩ := opn_field ht h h5
  obtain ⟨a6, w6, u6⟩ := opn_field ht h h6
  obtain ⟨a7, w7, u7⟩ := opn_field ht h h7
  obtain ⟨a8, w8, u8⟩ := opn_field ht h h8
  obtain ⟨a9, w9, u9⟩ := opn_field ht h h9
  refine ⟨⟨a0, a1, a2, a3, a4, a5, a6, a7, a8, a9⟩, ⟨w0, w1, w2, w3, w4, w5, w6, w7, w8, w9⟩, vrs_all ?_⟩
  exact (vrs_next u0 rfl (vrs_next u1 rfl (vrs_next u2 rfl (vrs_next u3 rfl (vrs_next u4 rfl (vrs_next u5 rfl (vrs_next u6 rfl (vrs_next u7 rfl (vrs_next u8 rfl (vrs_next u9 rfl (vrs_end hl)))))))))))
structure S_api_Ans where
  Err : Int
  Handle : Int
  Inst : Int
  Off : Int
  Name : List UInt8
deriving DecidableEq
set_option maxRecDepth 10000 in
def S_api_AnsE : Enc S_api_Ans where
  e s := [.int .i64 (s.Err), .int .i64 (s.Handle), .int .i64 (s.Inst), .int .u64 (s.Off), strV (s.Name)]
  u := 5
  d := 0
  hu _ := by rfl
  hp k s := by
    have key : ∀ m, 0 ≤ m → (([.int .i64 (s.Err), .int .i64 (s.Handle), .int .i64 (s.Inst), .int .u64 (s.Off), strV (s.Name)] : List Value)).all (pureV m) = true := fun m hm => by
      simp [pure_int, pure_bool, pure_string, bltN, byteE_d, intE_d, boolE_d, strE_d, slE_d]
      try omega
    exact key _ (Nat.le_add_left _ _)
  ho s := by
    show (([.int .i64 (s.Err), .int .i64 (s.Handle), .int .i64 (s.Inst), .int .u64 (s.Off), strV (s.Name)] : List Value)).all oneC = true
    simp [oneC_int, oneC_bool, oneC_string, oneC_sl]
theorem S_api_AnsE_u : S_api_AnsE.u = 5 := rfl
theorem S_api_AnsE_d : S_api_AnsE.d = 0 := rfl
theorem S_api_AnsE_e {s : S_api_Ans} : S_api_AnsE.e s = [.int .i64 (s.Err), .int .i64 (s.Handle), .int .i64 (s.Inst), .int .u64 (s.Off), strV (s.Name)] := rfl
def S_api_Ans.wf (s : S_api_Ans) : Prop := (fun n => (Lit.int .i64 n).wf = true) s.Err ∧ (fun n => (Lit.int .i64 n).wf = true) s.Handle ∧ (fun n => (Lit.int .i64 n).wf = true) s.Inst ∧ (fun n => (Lit.int .u64 n).wf = true) s.Off ∧ (fun s => s.length ≤ maxLen) s.Name
theorem opn_api_Ans {H : Type} {P : Program} {enc : TypeId × Value → H} {W : World} {t : TypeId} {fs : Array Field} (ht : P.underlying t = some (.struct fs)) (hc : P.cellsOf t = 5)
    (h0 : FOpn P enc W fs 0 0 (intE .i64) (fun n => (Lit.int .i64 n).wf = true))
    (h1 : FOpn P enc W fs 1 1 (intE .i64) (fun n => (Lit.int .i64 n).wf = true))
    (h2 : FOpn P enc W fs 2 2 (intE .i64) (fun n => (Lit.int .i64 n).wf = true))
    (h3 : FOpn P enc W fs 3 3 (intE .u64) (fun n => (Lit.int .u64 n).wf = true))
    (h4 : FOpn P enc W fs 4 4 strE (fun s => s.length ≤ maxLen))
    : Opn P enc W t S_api_AnsE S_api_Ans.wf := fun fuel cs x h => by
  have hl := opn_len ht h
  rw [hc] at hl
  obtain ⟨a0, w0, u0⟩ := opn_field ht h h0
  obtain ⟨a1, w1, u1⟩ := opn_field ht h h1
  obtain ⟨a2, w2, u2⟩ := opn_field ht h h2
  obtain ⟨a3, w3, u3⟩ := opn_field ht h h3
  obtain ⟨a4, w4, u4⟩ := opn_field ht h h4
  refine ⟨⟨a0, a1, a2, a3, a4⟩, ⟨w0, w1, w2, w3, w4⟩, vrs_all ?_⟩
  exact (vrs_next u0 rfl (vrs_next u1 rfl (vrs_next u2 rfl (vrs_next u3 rfl (vrs_next u4 rfl (vrs_end hl))))))
end Go.Proofs.YtfhhfanapgjcgaaDoor
