/- Words: plain texts, rows of bytes, types of relocations. -/
import Derived.Laws.RangeAny
import Derived.Test.YtdjgknlhpdnhbaaGreatStMr
import Derived.Test.YtdjgknlhpdnhbaaGreatIrMr
namespace Go.Proofs.YtdjgknlhpdnhbaaGreat
open Go Fw
set_option linter.unusedSimpArgs false
set_option linter.unusedVariables false
set_option linter.unusedSectionVars false

abbrev isU64 (n : Int) : Prop := 0 ≤ n ∧ n < 18446744073709551616
theorem u64_of {n : Int} (h : (Lit.int .u64 n).wf = true) : isU64 n := by
  simp [Lit.wf, IntKind.min, IntKind.max, IntKind.bits, IntKind.signed] at h
  unfold isU64
  omega
def insI (at_ size from_ room : Int) : Bool := decide (from_ ≤ at_) && (decide (at_ - from_ ≤ room) && decide (size ≤ room - (at_ - from_)))
def aprI (at_ size from_ room : Int) : Bool := decide (size = 0) || (decide (room = 0) || (if from_ ≤ at_ then decide (room ≤ at_ - from_) else decide (size ≤ from_ - at_)))
theorem f_num_Sub {T : Tab} (h : T 113 = some F_num_Sub) {a b : Int} (ha : isU64 a) (hb : isU64 b) :
    FnV T 113 [.int .u64 a, .int .u64 b] (if a < b then .tuple #[.int .u64 0, .bool false] else .tuple #[.int .u64 (a - b), .bool true]) := by
  refine FnV_of rfl ?_
  rw [Ev_fn h rfl]
  simp only [isU64] at ha hb
  by_cases hab : a < b
  · simp only [F_num_Sub, fws, seval, cond_true, cond_false, if_true, if_false, unV, isNil, optI, iV, stepI, evalR, IntKind.bits, ini, N_num_Sub, hab]
    rfl
  · have w : IntKind.u64.wrap (a - b) = a - b := by rw [wrap_u64]; omega
    simp only [F_num_Sub, fws, seval, cond_true, cond_false, if_true, if_false, unV, isNil, optI, iV, stepI, evalR, IntKind.bits, ini, N_num_Sub, hab, w]
    rfl
theorem f_num_Inside {T : Tab} (h0 : T 113 = some F_num_Sub) (h : T 53 = some F_num_Inside) {a s f r : Int} (ha : isU64 a) (hs : isU64 s) (hf : isU64 f) (hr : isU64 r) :
    FnV T 53 [.int .u64 a, .int .u64 s, .int .u64 f, .int .u64 r] (.bool (insI a s f r)) := by
  refine FnV_of rfl ?_
  rw [Ev_fn h rfl]
  have c1 := f_num_Sub h0 ha hf
  simp only [isU64] at ha hs hf hr
  unfold insI
  by_cases hab : a < f
  · have e1 : ¬ f ≤ a := by omega
    rw [if_pos hab] at c1
    simp only [F_num_Inside, fws, seval, cond_true, cond_false, if_true, if_false, unV, isNil, optI, iV, stepI, evalR, IntKind.bits, ini, fwh, lk, cellsAt, tagOf, spotOf, rdN, spl, fillL, zr, fwi, N_num_Inside, CC_of c1, e1]
    rfl
  · have e1 : f ≤ a := by omega
    rw [if_neg hab] at c1
    by_cases e2 : a - f ≤ r
    · have w : IntKind.u64.wrap (r - (a - f)) = r - (a - f) := by rw [wrap_u64]; omega
      simp only [F_num_Inside, fws, seval, cond_true, cond_false, if_true, if_false, unV, isNil, optI, iV, stepI, evalR, IntKind.bits, ini, fwh, lk, cellsAt, tagOf, spotOf, rdN, spl, fillL, zr, fwi, N_num_Inside, CC_of c1, e1, e2, w]
      rfl
    · simp only [F_num_Inside, fws, seval, cond_true, cond_false, if_true, if_false, unV, isNil, optI, iV, stepI, evalR, IntKind.bits, ini, fwh, lk, cellsAt, tagOf, spotOf, rdN, spl, fillL, zr, fwi, N_num_Inside, CC_of c1, e1, e2]
      rfl
theorem f_num_Apart {T : Tab} (h : T 54 = some F_num_Apart) {a s f r : Int} (ha : isU64 a) (hs : isU64 s) (hf : isU64 f) (hr : isU64 r) :
    FnV T 54 [.int .u64 a, .int .u64 s, .int .u64 f, .int .u64 r] (.bool (aprI a s f r)) := by
  refine FnV_of rfl ?_
  rw [Ev_fn h rfl]
  simp only [isU64] at ha hs hf hr
  unfold aprI
  by_cases e1 : s = 0
  · simp only [F_num_Apart, fws, seval, cond_true, cond_false, if_true, if_false, unV, isNil, optI, iV, stepI, evalR, IntKind.bits, ini, N_num_Apart, e1]
    rfl
  · by_cases e2 : r = 0
    · simp only [F_num_Apart, fws, seval, cond_true, cond_false, if_true, if_false, unV, isNil, optI, iV, stepI, evalR, IntKind.bits, ini, N_num_Apart, e1, e2]
      rfl
    · by_cases e3 : f ≤ a
      · have w : IntKind.u64.wrap (a - f) = a - f := by rw [wrap_u64]; omega
        simp only [F_num_Apart, fws, seval, cond_true, cond_false, if_true, if_false, unV, isNil, optI, iV, stepI, evalR, IntKind.bits, ini, N_num_Apart, e1, e2, e3, w]
        rfl
      · have w : IntKind.u64.wrap (f - a) = f - a := by rw [wrap_u64]; omega
        simp only [F_num_Apart, fws, seval, cond_true, cond_false, if_true, if_false, unV, isNil, optI, iV, stepI, evalR, IntKind.bits, ini, N_num_Apart, e1, e2, e3, w]
        rfl
abbrev wideV (n : Int) : Value := .agg #[.int .u64 (n / 18446744073709551616), .int .u64 (n % 18446744073709551616)]
theorem f_ref01_Sum {T : Tab} (h : T 57 = some F_ref01_Sum) {a b : Int} (ha : isU64 a) (hb : isU64 b) : FnV T 57 [.int .u64 a, .int .u64 b] (wideV (a + b)) := by
  refine FnV_of rfl ?_
  rw [Ev_fn h rfl]
  simp only [isU64] at ha hb
  have w : IntKind.u64.wrap (a + b) = (a + b) % 18446744073709551616 := wrap_u64 _
  by_cases e : (a + b) % 18446744073709551616 < a
  · have e1 : (a + b) / 18446744073709551616 = 1 := by omega
    simp only [F_ref01_Sum, fws, seval, cond_true, cond_false, if_true, if_false, unV, isNil, optI, iV, stepI, evalR, IntKind.bits, ini, fwh, lk, cellsAt, tagOf, spotOf, rdN, spl, fillL, zr, fwi, N_ref01_Sum, w, e, wideV, e1]
    rfl
  · have e1 : (a + b) / 18446744073709551616 = 0 := by omega
    simp only [F_ref01_Sum, fws, seval, cond_true, cond_false, if_true, if_false, unV, isNil, optI, iV, stepI, evalR, IntKind.bits, ini, fwh, lk, cellsAt, tagOf, spotOf, rdN, spl, fillL, zr, fwi, N_ref01_Sum, w, e, wideV, e1]
    rfl
theorem f_ref01_Less {T : Tab} (h : T 56 = some F_ref01_Less) (m n : Int) : FnV T 56 [wideV m, wideV n] (.bool (decide (m < n))) := by
  refine FnV_of (by simp [pure_agg, pure_tup, pure_int, pure_bool, pure_string, pure_slN, pure_ptrN, pure_mapN, pure_imm, pure_immN, bltN, byteE_d, intE_d, boolE_d, strE_d]) ?_
  rw [Ev_fn h rfl]
  by_cases e1 : m / 18446744073709551616 < n / 18446744073709551616
  · have e2 : m < n := by omega
    simp only [F_ref01_Less, fws, seval, cond_true, cond_false, if_true, if_false, unV, isNil, optI, iV, stepI, evalR, IntKind.bits, ini, fwh, lk, cellsAt, tagOf, spotOf, rdN, spl, fillL, zr, fwi, N_ref01_Less, e1, e2]
    rfl
  · by_cases e2 : m / 18446744073709551616 = n / 18446744073709551616
    · have e4 : (m < n) = (m % 18446744073709551616 < n % 18446744073709551616) := by rw [eq_iff_iff]; omega
      have e3 : ¬ (n / 18446744073709551616 < n / 18446744073709551616) := by omega
      simp only [F_ref01_Less, fws, seval, cond_true, cond_false, if_true, if_false, unV, isNil, optI, iV, stepI, evalR, IntKind.bits, ini, fwh, lk, cellsAt, tagOf, spotOf, rdN, spl, fillL, zr, fwi, N_ref01_Less, e2, e3, e4]
      rfl
    · have e3 : ¬ m < n := by omega
      simp only [F_ref01_Less, fws, seval, cond_true, cond_false, if_true, if_false, unV, isNil, optI, iV, stepI, evalR, IntKind.bits, ini, fwh, lk, cellsAt, tagOf, spotOf, rdN, spl, fillL, zr, fwi, N_ref01_Less, e1, e2, e3]
      rfl
theorem f_ref01_LessS {T : Tab} (h : T 56 = some F_ref01_Less) {m : Int} (hm : isU64 m) (n : Int) : FnV T 56 [.agg #[.int .u64 0, .int .u64 m], wideV n] (.bool (decide (m < n))) := by
  have := f_ref01_Less h m n
  simp only [isU64] at hm
  have e1 : m / 18446744073709551616 = 0 := by omega
  have e2 : m % 18446744073709551616 = m := by omega
  simp only [wideV, e1, e2] at this
  exact this
theorem f_ref01_Inside {T : Tab} (h0 : T 57 = some F_ref01_Sum) (h1 : T 56 = some F_ref01_Less) (h : T 27 = some F_ref01_Inside) {a s f r : Int} (ha : isU64 a) (hs : isU64 s) (hf : isU64 f) (hr : isU64 r) :
    FnV T 27 [.int .u64 a, .int .u64 s, .int .u64 f, .int .u64 r] (.bool (insI a s f r)) := by
  refine FnV_of rfl ?_
  rw [Ev_fn h rfl]
  have c1 := f_ref01_Sum h0 hf hr
  have c2 := f_ref01_Sum h0 ha hs
  have c3 := f_ref01_Less h1 (f + r) (a + s)
  simp only [isU64] at ha hs hf hr
  have key : insI a s f r = (decide (f ≤ a) && !decide (f + r < a + s)) := by
    unfold insI
    rw [Bool.eq_iff_iff]
    simp only [Bool.and_eq_true, decide_eq_true_eq, Bool.not_eq_true', decide_eq_false_iff_not]
    omega
  rw [key]
  by_cases e1 : f ≤ a
  · simp only [F_ref01_Inside, fws, seval, cond_true, cond_false, if_true, if_false, unV, isNil, optI, iV, stepI, evalR, IntKind.bits, ini, fwh, lk, cellsAt, tagOf, spotOf, rdN, spl, fillL, zr, fwi, N_ref01_Inside, CC_of c1, CC_of c2, CC_of c3, e1]
    rfl
  · simp only [F_ref01_Inside, fws, seval, cond_true, cond_false, if_true, if_false, unV, isNil, optI, iV, stepI, evalR, IntKind.bits, ini, fwh, lk, cellsAt, tagOf, spotOf, rdN, spl, fillL, zr, fwi, N_ref01_Inside, e1]
    rfl
theorem f_ref01_Apart {T : Tab} (h0 : T 57 = some F_ref01_Sum) (h1 : T 56 = some F_ref01_Less) (h : T 28 = some F_ref01_Apart) {a s f r : Int} (ha : isU64 a) (hs : isU64 s) (hf : isU64 f) (hr : isU64 r) :
    FnV T 28 [.int .u64 a, .int .u64 s, .int .u64 f, .int .u64 r] (.bool (aprI a s f r)) := by
  refine FnV_of rfl ?_
  rw [Ev_fn h rfl]
  have c1 := f_ref01_Sum h0 hf hr
  have c2 := f_ref01_Sum h0 ha hs
  have c3 := f_ref01_LessS h1 ha (f + r)
  have c4 := f_ref01_LessS h1 hf (a + s)
  simp only [isU64] at ha hs hf hr
  by_cases e1 : s = 0
  · have key : aprI a s f r = true := by simp [aprI, e1]
    rw [key]
    simp only [F_ref01_Apart, fws, seval, cond_true, cond_false, if_true, if_false, unV, isNil, optI, iV, stepI, evalR, IntKind.bits, ini, fwh, lk, cellsAt, tagOf, spotOf, rdN, spl, fillL, zr, fwi, N_ref01_Apart, e1]
    rfl
  · by_cases e2 : r = 0
    · have key : aprI a s f r = true := by simp [aprI, e2]
      rw [key]
      simp only [F_ref01_Apart, fws, seval, cond_true, cond_false, if_true, if_false, unV, isNil, optI, iV, stepI, evalR, IntKind.bits, ini, fwh, lk, cellsAt, tagOf, spotOf, rdN, spl, fillL, zr, fwi, N_ref01_Apart, e1, e2]
      rfl
    · by_cases e3 : a < f + r
      · have key : aprI a s f r = !decide (f < a + s) := by
          unfold aprI
          rw [Bool.eq_iff_iff]
          simp only [e1, e2, decide_false, Bool.false_or, Bool.not_eq_true', decide_eq_false_iff_not]
          split <;> simp only [decide_eq_true_eq] <;> omega
        rw [key]
        simp only [F_ref01_Apart, fws, seval, cond_true, cond_false, if_true, if_false, unV, isNil, optI, iV, stepI, evalR, IntKind.bits, ini, fwh, lk, cellsAt, tagOf, spotOf, rdN, spl, fillL, zr, fwi, N_ref01_Apart, e1, e2, CC_of c1, CC_of c3, e3, CC_of c2, CC_of c4]
        rfl
      · have key : aprI a s f r = true := by
          unfold aprI
          rw [if_pos (by omega)]
          simp only [e1, e2, decide_false, Bool.false_or, decide_eq_true_eq]
          omega
        rw [key]
        simp only [F_ref01_Apart, fws, seval, cond_true, cond_false, if_true, if_false, unV, isNil, optI, iV, stepI, evalR, IntKind.bits, ini, fwh, lk, cellsAt, tagOf, spotOf, rdN, spl, fillL, zr, fwi, N_ref01_Apart, e1, e2, CC_of c1, CC_of c3, e3]
        rfl
def okc (c : UInt8) : Bool := decide (33 ≤ c.toNat) && decide (c.toNat ≤ 126)
def plain (l : List UInt8) : Bool := decide (l.length ≤ 64) && l.all okc
theorem lenI_str {H : Heap} {l : List UInt8} : lenI H 0 (strV l) = some (.int .i64 l.length, H) := rfl
theorem nxt_low {l : List UInt8} {i : Nat} (h : i < l.length) (hc : l[i].toNat < 128) : nxtI [⟨0, .iter ⟨l.toArray⟩ i⟩] (.pointer (some ⟨0, 0, none⟩)) = some (.tuple #[.bool true, .int .i64 i, .int .i32 l[i].toNat], [⟨0, .iter ⟨l.toArray⟩ (i + 1)⟩]) := by
  have hs : i < (⟨l.toArray⟩ : ByteArray).size := h
  have hd := decode_ascii ⟨l.toArray⟩ i hs hc
  show (if i < (⟨l.toArray⟩ : ByteArray).size then some (Value.tuple #[.bool true, .int .i64 i, .int .i32 (Utf8.decode ⟨l.toArray⟩ i).1], [(⟨0, .iter ⟨l.toArray⟩ (i + (Utf8.decode ⟨l.toArray⟩ i).2)⟩ : Entry)]) else some (.tuple #[.bool false], [⟨0, .iter ⟨l.toArray⟩ i⟩])) = _
  rw [if_pos hs, hd]
  rfl
theorem nxt_high {l : List UInt8} {i : Nat} (h : i < l.length) (hc : 128 ≤ l[i].toNat) : ∃ (r : Int) (w : Nat), 128 ≤ r ∧ nxtI [⟨0, .iter ⟨l.toArray⟩ i⟩] (.pointer (some ⟨0, 0, none⟩)) = some (.tuple #[.bool true, .int .i64 i, .int .i32 r], [⟨0, .iter ⟨l.toArray⟩ w⟩]) := by
  have hs : i < (⟨l.toArray⟩ : ByteArray).size := h
  have hd := decode_high ⟨l.toArray⟩ i hs hc
  refine ⟨(Utf8.decode ⟨l.toArray⟩ i).1, i + (Utf8.decode ⟨l.toArray⟩ i).2, by have := hd.1; omega, ?_⟩
  show (if i < (⟨l.toArray⟩ : ByteArray).size then some (Value.tuple #[.bool true, .int .i64 i, .int .i32 (Utf8.decode ⟨l.toArray⟩ i).1], [(⟨0, .iter ⟨l.toArray⟩ (i + (Utf8.decode ⟨l.toArray⟩ i).2)⟩ : Entry)]) else some (.tuple #[.bool false], [⟨0, .iter ⟨l.toArray⟩ i⟩])) = _
  rw [if_pos hs]
theorem nxt_end {l : List UInt8} : nxtI [⟨0, .iter ⟨l.toArray⟩ l.length⟩] (.pointer (some ⟨0, 0, none⟩)) = some (.tuple #[.bool false], [⟨0, .iter ⟨l.toArray⟩ l.length⟩]) := by
  show (if l.length < (⟨l.toArray⟩ : ByteArray).size then some (Value.tuple #[.bool true, .int .i64 l.length, .int .i32 (Utf8.decode ⟨l.toArray⟩ l.length).1], [(⟨0, .iter ⟨l.toArray⟩ (l.length + (Utf8.decode ⟨l.toArray⟩ l.length).2)⟩ : Entry)]) else some (.tuple #[.bool false], [⟨0, .iter ⟨l.toArray⟩ l.length⟩])) = _
  rw [if_neg (show ¬ l.length < (⟨l.toArray⟩ : ByteArray).size from Nat.lt_irrefl l.length)]
theorem loop_le_Plain {T : Tab} (l : List UInt8) : ∀ (m i : Nat) (env : Env), i + m = l.length → env 9 = .pointer (some ⟨0, 0, none⟩) →
    W T (.loop F_le_Plainl0) env [⟨0, .iter ⟨l.toArray⟩ i⟩] fun x e h => if (l.drop i).all okc = true then x = .exit 0 else x = .ret ∧ e 2 = .bool false := by
  intro m
  induction m with
  | zero =>
    intro i env hi v9
    have : i = l.length := by omega
    subst this
    rw [w_loop, List.drop_length]
    simp only [fws, seval, cond_true, cond_false, if_true, if_false, unV, isNil, optI, iV, stepI, evalR, IntKind.bits, ini, fwi, N_le_Plain, v9, nxt_end, List.toList_toArray, List.getElem?_cons_zero, List.all_nil]
  | succ m ih =>
    intro i env hi v9
    have hix : i < l.length := by omega
    have hd : (l.drop i).all okc = (okc l[i] && (l.drop (i + 1)).all okc) := by rw [List.drop_eq_getElem_cons hix]; rfl
    rw [hd, w_loop]
    by_cases h128 : l[i].toNat < 128
    · by_cases h33 : l[i].toNat < 33
      · have q : (((l[i]).toNat : Int) < 33) := by omega
        have ho : okc l[i] = false := by unfold okc; simp; omega
        simp only [fws, seval, cond_true, cond_false, if_true, if_false, unV, isNil, optI, iV, stepI, evalR, IntKind.bits, ini, fwi, N_le_Plain, v9, nxt_low hix h128, List.toList_toArray, List.getElem?_cons_zero, List.getElem?_cons_succ, q, ho, Bool.false_eq_true, if_false, and_self]
      · have q : ¬ (((l[i]).toNat : Int) < 33) := by omega
        by_cases h126 : 126 < l[i].toNat
        · have q2 : ((126 : Int) < (l[i]).toNat) := by omega
          have ho : okc l[i] = false := by unfold okc; simp; omega
          simp only [fws, seval, cond_true, cond_false, if_true, if_false, unV, isNil, optI, iV, stepI, evalR, IntKind.bits, ini, fwi, N_le_Plain, v9, nxt_low hix h128, List.toList_toArray, List.getElem?_cons_zero, List.getElem?_cons_succ, q, q2, ho, Bool.false_eq_true, if_false, and_self]
        · have q2 : ¬ ((126 : Int) < (l[i]).toNat) := by omega
          have ho : okc l[i] = true := by unfold okc; simp; omega
          simp only [fws, seval, cond_true, cond_false, if_true, if_false, unV, isNil, optI, iV, stepI, evalR, IntKind.bits, ini, fwi, N_le_Plain, v9, nxt_low hix h128, List.toList_toArray, List.getElem?_cons_zero, List.getElem?_cons_succ, q, q2, ho]
          refine ih (i + 1) _ (by omega) ?_
          (first | (simp only [fws, seval, cond_true, cond_false, if_true, if_false, unV, isNil, optI, iV, stepI, evalR, IntKind.bits, ini, *]; done) | (simp only [fws, seval, cond_true, cond_false, if_true, if_false, unV, isNil, optI, iV, stepI, evalR, IntKind.bits, ini]; rfl))
    · obtain ⟨r, w, hr, hn⟩ := nxt_high hix (by omega)
      have q : ¬ (r < 33) := by omega
      have q2 : ((126 : Int) < r) := by omega
      have ho : okc l[i] = false := by unfold okc; simp; omega
      simp only [fws, seval, cond_true, cond_false, if_true, if_false, unV, isNil, optI, iV, stepI, evalR, IntKind.bits, ini, fwi, N_le_Plain, v9, hn, List.toList_toArray, List.getElem?_cons_zero, List.getElem?_cons_succ, q, q2, ho, Bool.false_eq_true, if_false, and_self]
theorem f_le_Plain {T : Tab} (h : T 50 = some F_le_Plain) (l : List UInt8) : FnV T 50 [strV l] (.bool (plain l)) := by
  refine FnV_of rfl ?_
  rw [Ev_fn h rfl]
  unfold plain
  by_cases hl : 64 < l.length
  · have q : ((64 : Int) < l.length) := by omega
    have hd : decide (l.length ≤ 64) = false := by simp; omega
    rw [hd]
    simp only [F_le_Plain, fws, seval, cond_true, cond_false, if_true, if_false, unV, isNil, optI, iV, stepI, evalR, IntKind.bits, ini, fwi, N_le_Plain, lenI_str, q]
    rfl
  · have q : ¬ ((64 : Int) < l.length) := by omega
    have hd : decide (l.length ≤ 64) = true := by simp; omega
    rw [hd]
    simp only [F_le_Plain, fws, seval, cond_true, cond_false, if_true, if_false, unV, isNil, optI, iV, stepI, evalR, IntKind.bits, ini, fwh, lk, cellsAt, tagOf, spotOf, rdN, spl, fillL, zr, fwi, N_le_Plain, lenI_str, q]
    refine W.mono (loop_le_Plain l l.length 0 _ (Nat.zero_add _) ?_) fun x e h hq => ?_
    · (first | (simp only [fws, seval, cond_true, cond_false, if_true, if_false, unV, isNil, optI, iV, stepI, evalR, IntKind.bits, ini, *]; done) | (simp only [fws, seval, cond_true, cond_false, if_true, if_false, unV, isNil, optI, iV, stepI, evalR, IntKind.bits, ini]; rfl))
    rw [List.drop_zero] at hq
    by_cases ha : l.all okc = true
    · rw [if_pos ha] at hq
      subst hq
      rw [ha]
      simp only [fws, seval, cond_true, cond_false, if_true, if_false, unV, isNil, optI, iV, stepI, evalR, IntKind.bits, ini, N_le_Plain]
      exact frz_pure pure_bool
    · rw [if_neg ha] at hq
      obtain ⟨rfl, g⟩ := hq
      rw [Bool.eq_false_iff.2 ha]
      simp only [fws, seval, cond_true, cond_false, if_true, if_false, unV, isNil, optI, iV, stepI, evalR, IntKind.bits, ini, N_le_Plain, g]
      exact frz_pure pure_bool
theorem loop_ref02_Plain {T : Tab} (l : List UInt8) (hl : l.length ≤ 9223372036854775807) : ∀ (m i : Nat) (env : Env), i + m = l.length → env 0 = strV l → env 3 = .int .i64 i →
    W T (.loop F_ref02_Plainl0) env [] fun x e h => h = [] ∧ if (l.drop i).all okc = true then x = .exit 0 ∧ e 0 = strV l else x = .ret ∧ e 2 = .bool false := by
  intro m
  induction m with
  | zero =>
    intro i env hi v0 v3
    have h1 : ¬ ((i : Int) < l.length) := by omega
    rw [w_loop, List.drop_of_length_le (by omega)]
    simp only [fws, seval, cond_true, cond_false, if_true, if_false, unV, isNil, optI, iV, stepI, evalR, IntKind.bits, ini, fwi, N_ref02_Plain, v0, v3, lenI_str, h1, List.all_nil, and_self]
  | succ m ih =>
    intro i env hi v0 v3
    have h1 : ((i : Int) < l.length) := by omega
    have hix : i < l.length := by omega
    have h0 : (0 : Int) ≤ i := Int.natCast_nonneg _
    have hget : l.getD i 0 = l[i] := by rw [List.getD_eq_getElem?_getD, List.getElem?_eq_getElem hix]; rfl
    have w2 : IntKind.i64.wrap ((i : Int) + 1) = ((i + 1 : Nat) : Int) := by rw [wrapI64 (by omega) (by omega)]; rfl
    have hd : (l.drop i).all okc = (okc l[i] && (l.drop (i + 1)).all okc) := by rw [List.drop_eq_getElem_cons hix]; rfl
    rw [hd, w_loop]
    by_cases h33 : l[i].toNat < 33
    · have q : (((l[i]).toNat : Int) < 33) := by omega
      have ho : okc l[i] = false := by unfold okc; simp; omega
      simp only [fws, seval, cond_true, cond_false, if_true, if_false, unV, isNil, optI, iV, stepI, evalR, IntKind.bits, ini, fwi, N_ref02_Plain, v0, v3, lenI_str, h1, h0, hget, q, ho, Bool.false_eq_true, if_false, and_self]
    · have q : ¬ (((l[i]).toNat : Int) < 33) := by omega
      by_cases h126 : 126 < l[i].toNat
      · have q2 : ((126 : Int) < (l[i]).toNat) := by omega
        have ho : okc l[i] = false := by unfold okc; simp; omega
        simp only [fws, seval, cond_true, cond_false, if_true, if_false, unV, isNil, optI, iV, stepI, evalR, IntKind.bits, ini, fwi, N_ref02_Plain, v0, v3, lenI_str, h1, h0, hget, q, q2, ho, Bool.false_eq_true, if_false, and_self]
      · have q2 : ¬ ((126 : Int) < (l[i]).toNat) := by omega
        have ho : okc l[i] = true := by unfold okc; simp; omega
        simp only [fws, seval, cond_true, cond_false, if_true, if_false, unV, isNil, optI, iV, stepI, evalR, IntKind.bits, ini, fwi, N_ref02_Plain, v0, v3, lenI_str, h1, h0, hget, q, q2, ho, and_self, w2]
        refine ih (i + 1) _ (by omega) ?_ ?_
        all_goals (first | (simp only [fws, seval, cond_true, cond_false, if_true, if_false, unV, isNil, optI, iV, stepI, evalR, IntKind.bits, ini, *]; done) | (simp only [fws, seval, cond_true, cond_false, if_true, if_false, unV, isNil, optI, iV, stepI, evalR, IntKind.bits, ini]; rfl))
theorem f_ref02_Plain {T : Tab} (h : T 24 = some F_ref02_Plain) (l : List UInt8) (hl : l.length ≤ 9223372036854775807) : FnV T 24 [strV l] (.bool (plain l)) := by
  refine FnV_of rfl ?_
  rw [Ev_fn h rfl]
  unfold plain
  simp only [F_ref02_Plain, fws, seval, cond_true, cond_false, if_true, if_false, unV, isNil, optI, iV, stepI, evalR, IntKind.bits, ini, fwi, N_ref02_Plain]
  refine W.mono (loop_ref02_Plain l hl l.length 0 _ (Nat.zero_add _) ?_ ?_) fun x e h ⟨g0, hq⟩ => ?_
  · (first | (simp only [fws, seval, cond_true, cond_false, if_true, if_false, unV, isNil, optI, iV, stepI, evalR, IntKind.bits, ini, *]; done) | (simp only [fws, seval, cond_true, cond_false, if_true, if_false, unV, isNil, optI, iV, stepI, evalR, IntKind.bits, ini]; rfl))
  · (first | (simp only [fws, seval, cond_true, cond_false, if_true, if_false, unV, isNil, optI, iV, stepI, evalR, IntKind.bits, ini, *]; done) | (simp only [fws, seval, cond_true, cond_false, if_true, if_false, unV, isNil, optI, iV, stepI, evalR, IntKind.bits, ini]; rfl))
  subst g0
  rw [List.drop_zero] at hq
  by_cases ha : l.all okc = true
  · rw [if_pos ha] at hq
    obtain ⟨rfl, g⟩ := hq
    have e1 : decide ((l.length : Int) ≤ 64) = decide (l.length ≤ 64) := by
      by_cases h64 : l.length ≤ 64
      · have : ((l.length : Int) ≤ 64) := by omega
        simp [this, h64]
      · have : ¬ ((l.length : Int) ≤ 64) := by omega
        simp [this, h64]
    rw [ha]
    simp only [fws, seval, cond_true, cond_false, if_true, if_false, unV, isNil, optI, iV, stepI, evalR, IntKind.bits, ini, fwi, N_ref02_Plain, g, lenI_str, e1]
    rfl
  · rw [if_neg ha] at hq
    obtain ⟨rfl, g⟩ := hq
    rw [Bool.eq_false_iff.2 ha, Bool.and_false]
    simp only [fws, seval, cond_true, cond_false, if_true, if_false, unV, isNil, optI, iV, stepI, evalR, IntKind.bits, ini, N_ref02_Plain, g]
    rfl
theorem drop_at {α : Type} {L r : List α} {i : Nat} {c : α} (h : L.drop i = c :: r) : ∃ hi : i < L.length, L[i] = c ∧ L.drop (i + 1) = r := by
  have hi : i < L.length := by
    rcases Nat.lt_or_ge i L.length with q | q
    · exact q
    · rw [List.drop_of_length_le q] at h; cases h
  rw [List.drop_eq_getElem_cons hi] at h
  cases h
  exact ⟨hi, rfl, rfl⟩
theorem drop_end {α : Type} {L : List α} {i : Nat} (h : L.drop i = []) : L.length ≤ i := List.drop_eq_nil_iff.1 h
structure OfF (T : Tab) : Prop where
  ai : T 111 = some F_apply_intel
  aa : T 112 = some F_apply_arm
  ao : T 52 = some F_apply_Of
  ro : T 26 = some F_ref15_Of
section
variable {T : Tab}
/-! ### kinds -/
def intelM (k : Int) : Option Int := if k = 1 then some 1 else if k = 6 then some 3 else if k = 7 then some 3 else if k = 8 then some 2 else none
def armM (k : Int) : Option Int := if k = 257 then some 1 else if k = 1025 then some 1 else if k = 1026 then some 1 else if k = 1027 then some 2 else none
def ofM (m k : Int) : Option Int := if k = 0 then (if m = 62 then some 0 else if m = 183 then some 0 else none) else if m = 62 then intelM k else if m = 183 then armM k else none
def okV (o : Option Int) : Value := .tuple #[.int .i64 (o.getD 0), .bool o.isSome]
theorem f_intel (t : OfF T) (k : Int) : FnV T 111 [.int .u32 k] (okV (intelM k)) := by
  refine FnV_of (by simp [pure_agg, pure_tup, pure_int, pure_bool, pure_string, pure_slN, pure_ptrN, pure_mapN, pure_imm, pure_immN, bltN, byteE_d, intE_d, boolE_d, strE_d]) ?_
  rw [Ev_fn t.ai rfl]
  by_cases q1 : k = 1
  · subst q1; simp only [F_apply_intel, fws, seval, cond_true, cond_false, if_true, if_false, unV, isNil, optI, iV, stepI, evalR, IntKind.bits, ini, N_apply_intel]; rfl
  have d1 : decide (k = 1) = false := decide_eq_false q1
  by_cases q2 : k = 6
  · subst q2; simp only [F_apply_intel, fws, seval, cond_true, cond_false, if_true, if_false, unV, isNil, optI, iV, stepI, evalR, IntKind.bits, ini, N_apply_intel]; rfl
  have d2 : decide (k = 6) = false := decide_eq_false q2
  by_cases q3 : k = 7
  · subst q3; simp only [F_apply_intel, fws, seval, cond_true, cond_false, if_true, if_false, unV, isNil, optI, iV, stepI, evalR, IntKind.bits, ini, N_apply_intel]; rfl
  have d3 : decide (k = 7) = false := decide_eq_false q3
  by_cases q4 : k = 8
  · subst q4; simp only [F_apply_intel, fws, seval, cond_true, cond_false, if_true, if_false, unV, isNil, optI, iV, stepI, evalR, IntKind.bits, ini, N_apply_intel]; rfl
  have d4 : decide (k = 8) = false := decide_eq_false q4
  unfold intelM
  rw [if_neg q1, if_neg q2, if_neg q3, if_neg q4]
  simp only [F_apply_intel, fws, seval, cond_true, cond_false, if_true, if_false, unV, isNil, optI, iV, stepI, evalR, IntKind.bits, ini, N_apply_intel, d1, d2, d3, d4]
  rfl
theorem f_arm (t : OfF T) (k : Int) : FnV T 112 [.int .u32 k] (okV (armM k)) := by
  refine FnV_of (by simp [pure_agg, pure_tup, pure_int, pure_bool, pure_string, pure_slN, pure_ptrN, pure_mapN, pure_imm, pure_immN, bltN, byteE_d, intE_d, boolE_d, strE_d]) ?_
  rw [Ev_fn t.aa rfl]
  by_cases q1 : k = 257
  · subst q1; simp only [F_apply_arm, fws, seval, cond_true, cond_false, if_true, if_false, unV, isNil, optI, iV, stepI, evalR, IntKind.bits, ini, N_apply_arm]; rfl
  have d1 : decide (k = 257) = false := decide_eq_false q1
  by_cases q2 : k = 1025
  · subst q2; simp only [F_apply_arm, fws, seval, cond_true, cond_false, if_true, if_false, unV, isNil, optI, iV, stepI, evalR, IntKind.bits, ini, N_apply_arm]; rfl
  have d2 : decide (k = 1025) = false := decide_eq_false q2
  by_cases q3 : k = 1026
  · subst q3; simp only [F_apply_arm, fws, seval, cond_true, cond_false, if_true, if_false, unV, isNil, optI, iV, stepI, evalR, IntKind.bits, ini, N_apply_arm]; rfl
  have d3 : decide (k = 1026) = false := decide_eq_false q3
  by_cases q4 : k = 1027
  · subst q4; simp only [F_apply_arm, fws, seval, cond_true, cond_false, if_true, if_false, unV, isNil, optI, iV, stepI, evalR, IntKind.bits, ini, N_apply_arm]; rfl
  have d4 : decide (k = 1027) = false := decide_eq_false q4
  unfold armM
  rw [if_neg q1, if_neg q2, if_neg q3, if_neg q4]
  simp only [F_apply_arm, fws, seval, cond_true, cond_false, if_true, if_false, unV, isNil, optI, iV, stepI, evalR, IntKind.bits, ini, N_apply_arm, d1, d2, d3, d4]
  rfl
theorem f_of (t : OfF T) (m k : Int) : FnV T 52 [.int .u16 m, .int .u32 k] (okV (ofM m k)) := by
  refine FnV_of (by simp [pure_agg, pure_tup, pure_int, pure_bool, pure_string, pure_slN, pure_ptrN, pure_mapN, pure_imm, pure_immN, bltN, byteE_d, intE_d, boolE_d, strE_d]) ?_
  rw [Ev_fn t.ao rfl]
  have c1 := f_intel t k
  have c2 := f_arm t k
  unfold okV at c1 c2
  by_cases k0 : k = 0
  · subst k0
    by_cases m1 : m = 62
    · subst m1; simp only [F_apply_Of, fws, seval, cond_true, cond_false, if_true, if_false, unV, isNil, optI, iV, stepI, evalR, IntKind.bits, ini, N_apply_Of]; rfl
    have d1 : decide (m = 62) = false := decide_eq_false m1
    by_cases m2 : m = 183
    · subst m2; simp only [F_apply_Of, fws, seval, cond_true, cond_false, if_true, if_false, unV, isNil, optI, iV, stepI, evalR, IntKind.bits, ini, N_apply_Of]; rfl
    have d2 : decide (m = 183) = false := decide_eq_false m2
    simp only [F_apply_Of, fws, seval, cond_true, cond_false, if_true, if_false, unV, isNil, optI, iV, stepI, evalR, IntKind.bits, ini, N_apply_Of, d1, d2]
    unfold ofM
    rw [if_pos rfl, if_neg m1, if_neg m2]
    rfl
  have d0 : decide (k = 0) = false := decide_eq_false k0
  unfold ofM
  rw [if_neg k0]
  by_cases m1 : m = 62
  · subst m1; simp only [F_apply_Of, fws, seval, cond_true, cond_false, if_true, if_false, unV, isNil, optI, iV, stepI, evalR, IntKind.bits, ini, N_apply_Of, d0, CC_of c1, List.getElem?_cons_zero, List.getElem?_cons_succ]; rfl
  have d1 : decide (m = 62) = false := decide_eq_false m1
  rw [if_neg m1]
  by_cases m2 : m = 183
  · subst m2; simp only [F_apply_Of, fws, seval, cond_true, cond_false, if_true, if_false, unV, isNil, optI, iV, stepI, evalR, IntKind.bits, ini, N_apply_Of, d0, CC_of c2, List.getElem?_cons_zero, List.getElem?_cons_succ]; rfl
  have d2 : decide (m = 183) = false := decide_eq_false m2
  rw [if_neg m2]
  simp only [F_apply_Of, fws, seval, cond_true, cond_false, if_true, if_false, unV, isNil, optI, iV, stepI, evalR, IntKind.bits, ini, N_apply_Of, d0, d1, d2]
  rfl
theorem ofM_cases (m k : Int) : ofM m k = none ∨ ofM m k = some 0 ∨ ofM m k = some 1 ∨ ofM m k = some 2 ∨ ofM m k = some 3 := by
  unfold ofM intelM armM
  repeat' split
  all_goals simp
end
abbrev R3 := Int × Int × Int
def r3E : Enc R3 where
  e q := [immV 3 [.int .u64 q.1, .int .u64 q.2.1, .int .u64 q.2.2]]
  u := 1
  d := 1
  hu _ := rfl
  hp k q := by
    have : pureV (k + 1) (immV 3 [.int .u64 q.1, .int .u64 q.2.1, .int .u64 q.2.2]) = true := by cases k <;> rfl
    simp [this]
  ho _ := rfl
def rows15 : List R3 := [(62, 0, 0), (183, 0, 0), (62, 1, 1), (62, 6, 3), (62, 7, 3), (62, 8, 2), (183, 257, 1), (183, 1025, 1), (183, 1026, 1), (183, 1027, 2)]
def fndR : List R3 → Int → Int → Option Int
  | [], _, _ => none
  | q :: r, m, k => if q.1 = m ∧ q.2.1 = k then some q.2.2 else fndR r m k
theorem fnd_of (m k : Int) : fndR rows15 m k = ofM m k := by
  unfold ofM intelM armM rows15
  simp only [fndR]
  by_cases m1 : m = 62
  · subst m1
    by_cases k0 : k = 0
    · subst k0; simp
    · by_cases k1 : k = 1
      · subst k1; simp
      · by_cases k2 : k = 6
        · subst k2; simp
        · by_cases k3 : k = 7
          · subst k3; simp
          · by_cases k4 : k = 8
            · subst k4; simp
            · have e0 : ¬ (0 : Int) = k := fun h => k0 h.symm
              have e1 : ¬ (1 : Int) = k := fun h => k1 h.symm
              have e2 : ¬ (6 : Int) = k := fun h => k2 h.symm
              have e3 : ¬ (7 : Int) = k := fun h => k3 h.symm
              have e4 : ¬ (8 : Int) = k := fun h => k4 h.symm
              simp [k0, k1, k2, k3, k4, e0, e1, e2, e3, e4]
  · by_cases m2 : m = 183
    · subst m2
      by_cases k0 : k = 0
      · subst k0; simp
      · by_cases k1 : k = 257
        · subst k1; simp
        · by_cases k2 : k = 1025
          · subst k2; simp
          · by_cases k3 : k = 1026
            · subst k3; simp
            · by_cases k4 : k = 1027
              · subst k4; simp
              · have e0 : ¬ (0 : Int) = k := fun h => k0 h.symm
                have e1 : ¬ (257 : Int) = k := fun h => k1 h.symm
                have e2 : ¬ (1025 : Int) = k := fun h => k2 h.symm
                have e3 : ¬ (1026 : Int) = k := fun h => k3 h.symm
                have e4 : ¬ (1027 : Int) = k := fun h => k4 h.symm
                simp [k0, k1, k2, k3, k4, e0, e1, e2, e3, e4]
    · have e1 : ¬ (62 : Int) = m := fun h => m1 h.symm
      have e2 : ¬ (183 : Int) = m := fun h => m2 h.symm
      simp [m1, m2, e1, e2]
theorem rows15_ok : ∀ q ∈ rows15, 0 ≤ q.2.2 ∧ q.2.2 ≤ 3 := by
  intro q hq
  simp only [rows15, List.mem_cons, List.not_mem_nil, or_false] at hq
  rcases hq with rfl | rfl | rfl | rfl | rfl | rfl | rfl | rfl | rfl | rfl <;> decide
section
variable {T : Tab}
theorem loop_ref15 (m k : Int) : ∀ (r : List R3) (i : Nat) (env : Env), rows15.drop i = r → env 0 = .int .u64 m → env 1 = .int .u64 k → env 5 = imm r3E rows15 → env 6 = .int .i64 i →
    W T (.loop F_ref15_Ofl0) env [] fun x e h => h = [] ∧ match fndR r m k with | some c => x = .ret ∧ e 4 = .int .i64 c | none => x = .exit 0 := by
  have hL : rows15.length = 10 := rfl
  intro r
  induction r with
  | nil =>
    intro i env hr e0 e1 e5 e6
    have hi := drop_end hr
    have q : ¬ ((i : Int) < rows15.length) := by omega
    rw [w_loop]
    simp only [fws, seval, cond_true, cond_false, if_true, if_false, unV, isNil, optI, iV, stepI, evalR, IntKind.bits, ini, lenI_imm, N_ref15_Of, e5, e6, q]
    exact ⟨trivial, trivial⟩
  | cons p ps ih =>
    intro i env hr e0 e1 e5 e6
    obtain ⟨hi, hp, hr2⟩ := drop_at hr
    have hm := rows15_ok p (hp ▸ List.getElem_mem hi)
    obtain ⟨a, b, c⟩ := p
    simp only [] at hm
    have q : ((i : Int) < rows15.length) := by omega
    have hxx := fun H => ix_at (E := r3E) (l := rows15) (n := 1) rfl hi .i64 H
    have hld : ∀ H, loadI H (atI r3E rows15 i) = some (immV 3 [.int .u64 a, .int .u64 b, .int .u64 c], H) := fun H => by rw [at_cons hi, hp]; rfl
    have x0 : ∀ H, ixaI H 1 (immV 3 [.int .u64 a, .int .u64 b, .int .u64 c]) (.int .i64 0) = some (iptrV [.int .u64 a, .int .u64 b, .int .u64 c], H) := fun H => rfl
    have x1 : ∀ H, ixaI H 1 (immV 3 [.int .u64 a, .int .u64 b, .int .u64 c]) (.int .i64 1) = some (iptrV [.int .u64 b, .int .u64 c], H) := fun H => rfl
    have x2 : ∀ H, ixaI H 1 (immV 3 [.int .u64 a, .int .u64 b, .int .u64 c]) (.int .i64 2) = some (iptrV [.int .u64 c], H) := fun H => rfl
    have l0 : ∀ H (v : Value) (r : List Value), loadI H (iptrV (v :: r)) = (if notAgg v = true ∧ oneC v = true then some (v, H) else loadI H (iptrV (v :: r))) := fun H v r => by
      split
      · rename_i h
        cases v <;> first | rfl | simp [notAgg, oneC] at h
      · rfl
    have la : ∀ H (z : Int) (r : List Value), loadI H (iptrV (.int .u64 z :: r)) = some (.int .u64 z, H) := fun H z r => rfl
    have w2 : IntKind.i64.wrap ((i : Int) + 1) = ((i + 1 : Nat) : Int) := by rw [wrapI64 (by omega) (by omega)]; rfl
    have wc : IntKind.i64.wrap c = c := wrapI64 (by omega) (by omega)
    rw [w_loop]
    by_cases ha : a = m
    · have d1 : decide (a = m) = true := decide_eq_true ha
      by_cases hb : b = k
      · have d2 : decide (b = k) = true := decide_eq_true hb
        have ef : fndR ((a, b, c) :: ps) m k = some c := by rw [fndR, if_pos ⟨ha, hb⟩]
        rw [ef]
        simp only [fws, seval, cond_true, cond_false, if_true, if_false, unV, isNil, optI, iV, stepI, evalR, IntKind.bits, ini, lenI_imm, N_ref15_Of, e0, e1, e5, e6, q, hxx, hld, x0, x1, x2, la, d1, d2, wc]
        exact ⟨trivial, trivial, trivial⟩
      · have d2 : decide (b = k) = false := decide_eq_false hb
        have ef : fndR ((a, b, c) :: ps) m k = fndR ps m k := by rw [fndR, if_neg (fun h => hb h.2)]
        rw [ef]
        simp only [fws, seval, cond_true, cond_false, if_true, if_false, unV, isNil, optI, iV, stepI, evalR, IntKind.bits, ini, lenI_imm, N_ref15_Of, e0, e1, e5, e6, q, hxx, hld, x0, x1, x2, la, d1, d2, w2]
        refine ih (i + 1) _ hr2 ?_ ?_ ?_ ?_
        all_goals (first | assumption | rfl)
    · have d1 : decide (a = m) = false := decide_eq_false ha
      have ef : fndR ((a, b, c) :: ps) m k = fndR ps m k := by rw [fndR, if_neg (fun h => ha h.1)]
      rw [ef]
      simp only [fws, seval, cond_true, cond_false, if_true, if_false, unV, isNil, optI, iV, stepI, evalR, IntKind.bits, ini, lenI_imm, N_ref15_Of, e0, e1, e5, e6, q, hxx, hld, x0, x1, x2, la, d1, w2]
      refine ih (i + 1) _ hr2 ?_ ?_ ?_ ?_
      all_goals (first | assumption | rfl)
theorem f_ref15 (t : OfF T) (m k : Int) : FnV T 26 [.int .u64 m, .int .u64 k] (.int .i64 ((ofM m k).getD (-1))) := by
  rw [← fnd_of]
  refine FnV_of (by simp [pure_agg, pure_tup, pure_int, pure_bool, pure_string, pure_slN, pure_ptrN, pure_mapN, pure_imm, pure_immN, bltN, byteE_d, intE_d, boolE_d, strE_d]) ?_
  rw [Ev_fn t.ro rfl]
  simp only [F_ref15_Of, fws, seval, cond_true, cond_false, if_true, if_false, unV, isNil, optI, iV, stepI, evalR, IntKind.bits, ini, fwh, lk, cellsAt, tagOf, spotOf, rdN, spl, fillL, zr, F_ref15_Ofr0b, F_ref15_Ofr0_W, F_ref15_Ofr1b, F_ref15_Ofr1_W, F_ref15_Ofr2b, F_ref15_Ofr2_W, F_ref15_Ofr3b, F_ref15_Ofr3_W, F_ref15_Ofr5b, F_ref15_Ofr5_W, F_ref15_Ofr5_g8, F_ref15_Ofr6b, F_ref15_Ofr6_W, F_ref15_Ofr4b, F_ref15_Ofr4_W, F_ref15_Ofl0b, F_ref15_Ofr7b, F_ref15_Ofr7_W, F_ref15_Ofcb, F_ref15_Ofc_W]
  refine W.mono (loop_ref15 m k rows15 0 _ rfl ?_ ?_ ?_ ?_) fun x e h ⟨g1, g2⟩ => ?_
  · (first | assumption | rfl)
  · (first | assumption | rfl)
  · (first | assumption | rfl)
  · (first | assumption | rfl)
  subst g1
  cases hf : fndR rows15 m k with
  | some c =>
    rw [hf] at g2
    obtain ⟨rfl, g3⟩ := g2
    simp only [fws, seval, cond_true, cond_false, if_true, if_false, unV, isNil, optI, iV, stepI, evalR, IntKind.bits, ini, N_ref15_Of, g3]
    rfl
  | none =>
    rw [hf] at g2
    subst g2
    simp only [fws, seval, cond_true, cond_false, if_true, if_false, unV, isNil, optI, iV, stepI, evalR, IntKind.bits, ini, N_ref15_Of]
    rfl
end
end Go.Proofs.YtdjgknlhpdnhbaaGreat
/- Specs: names, versions. -/
namespace Go.Proofs.YtdjgknlhpdnhbaaGreat
open Go Fw
set_option linter.unusedSimpArgs false
set_option linter.unusedVariables false
set_option linter.unusedSectionVars false

abbrev p0 : Value := .pointer (some ⟨0, 0, none⟩)
abbrev spEn (s : S_api_Spec) : Entry := ⟨0, .cells false 18 [.int .u16 (s.Machine), strV (s.Soname), strV (s.Runpath), slV strE (s.Needed), .bool (s.Symbolic), .bool (s.Global), .bool (s.Nodelete), slV S_api_SymE (s.Syms), slV S_api_RelE (s.Rels), slV (intE .u64) (s.Relr), slV byteE (s.Data), .int .i64 (s.Zeros), .int .i64 (s.Relro), .bool (s.Gnu), .bool (s.Packed), .bool (s.Rela), .int .i64 (s.Init), .int .i64 (s.Fini)]⟩
abbrev spA (s : S_api_Spec) : Value := .agg (S_api_SpecE.e s).toArray
theorem boxE {α : Type} {E : Enc α} {u : Nat} {x : α} {o : Opd} {env : Env} {H : Heap} (ho : o.ev env = .agg (E.e x).toArray) : stepI env H (.box u o) = some (.pointer (some ⟨H.length, 0, none⟩), H ++ [⟨0, .cells false u (E.e x)⟩]) := by
  have h1 : oneAll (.agg (E.e x).toArray) = true := by
    have := E.ho x
    simpa [oneAll, Value.cells] using this
  simp only [stepI, ho, h1, cond_true]
  rfl
theorem pure_aggE {α : Type} {E : Enc α} (hd : E.d ≤ 5) (s : α) : pureV 6 (.agg (E.e s).toArray) = true := by
  have := E.hp (5 - E.d) s
  rw [Nat.sub_add_cancel hd] at this
  rw [pure_agg]
  simpa using this
theorem box_sp (s : S_api_Spec) : stepI (ini [spA s]) [] (.box 18 (.t 0)) = some (p0, [spEn s]) := boxE (E := S_api_SpecE) (H := []) rfl
theorem pure_sp (s : S_api_Spec) : [spA s].all (pureV 6) = true := by simp [pure_aggE (E := S_api_SpecE) (by decide)]
theorem ne_str {l : List UInt8} (h : l ≠ []) : strEq ⟨l.toArray⟩ ⟨#[]⟩ = false := by
  rw [show (⟨#[]⟩ : ByteArray) = ⟨([] : List UInt8).toArray⟩ from rfl, Fw.strEq_str]
  exact decide_eq_false h
theorem nil_str {l : List UInt8} (h : l = []) : strEq ⟨l.toArray⟩ ⟨#[]⟩ = true := by subst h; rfl

/-- A version: its name; is it the library's own? -/
abbrev Ver := List UInt8 × Bool
def verE : Enc Ver where
  e v := [strV v.1, .bool v.2]
  u := 2
  d := 0
  hu _ := rfl
  hp k v := by simp [pure_string, pure_bool]
  ho _ := rfl
theorem verE_u : verE.u = 2 := rfl
theorem verE_d : verE.d = 0 := rfl
theorem verE_e {v : Ver} : verE.e v = [strV v.1, .bool v.2] := rfl
theorem ce_ver (x y : Ver) : cellsEq [2, 1] [strV x.1, .bool x.2] [strV y.1, .bool y.2] = some (decide (x = y)) := by
  obtain ⟨a, b⟩ := x
  obtain ⟨c, d⟩ := y
  show some (strEq ⟨a.toArray⟩ ⟨c.toArray⟩ && ((b == d) && true)) = _
  rw [Fw.strEq_str, Bool.and_true]
  congr 1
  rw [Bool.eq_iff_iff]
  simp
def fndV (x : Ver) : List Ver → Nat → Int
  | [], _ => -1
  | y :: r, i => if y = x then i else fndV x r (i + 1)
theorem fndV_neg (x : Ver) : ∀ (l : List Ver) (i : Nat), (fndV x l i < 0 ↔ x ∉ l)
  | [], i => by simp [fndV]
  | y :: r, i => by
    rw [fndV]
    by_cases h : y = x
    · rw [if_pos h]
      simp [h]
    · rw [if_neg h, fndV_neg x r (i + 1)]
      simp [Ne.symm h]
structure MrF (T : Tab) : Prop where
  off : OfF T
  lp : T 50 = some F_le_Plain
  rp : T 24 = some F_ref02_Plain
  mt : T 21 = some F_maker_text
  mf : T 110 = some F_maker_find_maker_version
  mv : T 51 = some F_maker_versions
  ms : T 22 = some F_maker_symbols
  ns : T 113 = some F_num_Sub
  ni : T 53 = some F_num_Inside
  na : T 54 = some F_num_Apart
  mr : T 23 = some F_maker_relocations
  mR : T 8 = some F_maker_Right
  rw : T 114 = some F_ref17_Which
  rv : T 55 = some F_ref17_Versions
  rs : T 25 = some F_ref17_symbols
  rl : T 56 = some F_ref01_Less
  ru : T 57 = some F_ref01_Sum
  ri : T 27 = some F_ref01_Inside
  ra : T 28 = some F_ref01_Apart
  rR : T 9 = some F_ref17_Right
  gr : T 7 = some F_law17_great
section
variable {T : Tab}
theorem f_mtext (t : MrF T) (l : List UInt8) (b : Bool) : FnV T 21 [strV l, .bool b] (.bool (plain l && (decide (l ≠ []) || b))) := by
  refine FnV_of rfl ?_
  rw [Ev_fn t.mt rfl]
  have c := f_le_Plain t.lp l
  cases hp : plain l with
  | false =>
    rw [hp] at c
    simp only [F_maker_text, fws, seval, cond_true, cond_false, if_true, if_false, unV, isNil, optI, iV, stepI, evalR, IntKind.bits, ini, N_maker_text, CC_of c]
    rfl
  | true =>
    rw [hp] at c
    by_cases hl : l = []
    · have b0 := nil_str hl
      simp only [F_maker_text, fws, seval, cond_true, cond_false, if_true, if_false, unV, isNil, optI, iV, stepI, evalR, IntKind.bits, ini, N_maker_text, CC_of c, b0]
      subst hl
      cases b <;> rfl
    · have b0 := ne_str hl
      have hd : decide (l ≠ []) = true := by simp [hl]
      rw [hd]
      simp only [F_maker_text, fws, seval, cond_true, cond_false, if_true, if_false, unV, isNil, optI, iV, stepI, evalR, IntKind.bits, ini, N_maker_text, CC_of c, b0]
      rfl
/-! ### a version's place -/
theorem loop_mfind {x : Ver} {o : Option (List Ver)} (ho : (lst o).length ≤ 100000) : ∀ (r : List Ver) (i : Nat) (H : Heap) (env : Env), (lst o).drop i = r → (∀ l, (H ++ l)[0]? = some ⟨0, .cells false 2 [strV x.1, .bool x.2]⟩) →
    env 3 = p0 → env 7 = slV verE o → env 8 = .int .i64 (lst o).length → env 9 = .int .i64 i →
    W T (.loop F_maker_find_maker_versionl0) env H fun z e h => (z = .exit 0 ∧ fndV x r i = -1) ∨ (z = .ret ∧ e 4 = .int .i64 (fndV x r i)) := by
  intro r
  induction r with
  | nil =>
    intro i H env hr h0 v3 v7 v8 v9
    have hi := drop_end hr
    have q : ¬ ((i : Int) < (lst o).length) := by omega
    rw [w_loop]
    simp only [fws, seval, cond_true, cond_false, if_true, if_false, unV, isNil, optI, iV, stepI, evalR, IntKind.bits, ini, N_maker_find_maker_version, v8, v9, q]
    exact .inl ⟨trivial, rfl⟩
  | cons p ps ih =>
    intro i H env hr h0 v3 v7 v8 v9
    obtain ⟨hi, hp, hr2⟩ := drop_at hr
    have q : ((i : Int) < (lst o).length) := by omega
    have hxx := fun H => ix_sl (E := verE) (o := o) (n := 2) rfl hi .i64 H
    have hld := fun H => loadNI_at (E := verE) (n := 2) (H := H) rfl hi
    rw [hp, verE_e] at hld
    have w2 : IntKind.i64.wrap ((i : Int) + 1) = ((i + 1 : Nat) : Int) := by rw [wrapI64 (by omega) (by omega)]; rfl
    have ce := ce_ver x p
    rw [w_loop]
    by_cases hx : p = x
    · have d : decide (x = p) = true := decide_eq_true hx.symm
      simp only [fws, seval, cond_true, cond_false, if_true, if_false, unV, isNil, optI, iV, stepI, evalR, IntKind.bits, ini, fwh, lk, cellsAt, tagOf, spotOf, rdN, spl, fillL, zr, fwi, N_maker_find_maker_version, v3, v7, v8, v9, q, hxx, hld, h0, ce, d]
      refine .inr ⟨trivial, ?_⟩
      rw [fndV, if_pos hx]
    · have d : decide (x = p) = false := decide_eq_false (fun h => hx h.symm)
      simp only [fws, seval, cond_true, cond_false, if_true, if_false, unV, isNil, optI, iV, stepI, evalR, IntKind.bits, ini, fwh, lk, cellsAt, tagOf, spotOf, rdN, spl, fillL, zr, fwi, N_maker_find_maker_version, v3, v7, v8, v9, q, hxx, hld, h0, ce, d, w2]
      rw [fndV, if_neg hx]
      refine ih (i + 1) _ _ hr2 (fun l => ?_) ?_ ?_ ?_ ?_
      · rw [List.append_assoc]; exact h0 _
      all_goals (first | assumption | rfl)
theorem f_mfind (t : MrF T) (x : Ver) (o : Option (List Ver)) (ho : (lst o).length ≤ 100000) : FnV T 110 [slV verE o, .agg #[strV x.1, .bool x.2]] (.int .i64 (fndV x (lst o) 0)) := by
  refine FnV_of (by simp [pure_sl (E := verE) (o := o) (k := 6) rfl, pure_agg, pure_string, pure_bool]) ?_
  rw [Ev_fn t.mf rfl]
  simp only [F_maker_find_maker_version, fws, seval, cond_true, cond_false, if_true, if_false, unV, isNil, optI, iV, stepI, evalR, IntKind.bits, ini, fwh, lk, cellsAt, tagOf, spotOf, rdN, spl, fillL, zr, lenI_sl, F_maker_find_maker_versionr0b, F_maker_find_maker_versionr0_W, F_maker_find_maker_versionr1b, F_maker_find_maker_versionr1_W, F_maker_find_maker_versionr2b, F_maker_find_maker_versionr2_W, F_maker_find_maker_versionr3b, F_maker_find_maker_versionr3_W, F_maker_find_maker_versionr4b, F_maker_find_maker_versionr4_W, F_maker_find_maker_versionr5b, F_maker_find_maker_versionr5_W, F_maker_find_maker_versionr6b, F_maker_find_maker_versionr6_W, F_maker_find_maker_versionl0b, F_maker_find_maker_versionr7b, F_maker_find_maker_versionr7_W, F_maker_find_maker_versioncb, F_maker_find_maker_versionc_W]
  refine W.mono (loop_mfind (x := x) (o := o) ho (lst o) 0 _ _ rfl (fun l => rfl) ?_ ?_ ?_ ?_) fun z e h hz => ?_
  · (first | assumption | rfl)
  · (first | assumption | rfl)
  · (first | assumption | rfl)
  · (first | assumption | rfl)
  rcases hz with ⟨rfl, hz⟩ | ⟨rfl, hz⟩
  · rw [hz]
    simp only [fws, seval, cond_true, cond_false, if_true, if_false, unV, isNil, optI, iV, stepI, evalR, IntKind.bits, ini, N_maker_find_maker_version]
    rfl
  · simp only [fws, seval, cond_true, cond_false, if_true, if_false, unV, isNil, optI, iV, stepI, evalR, IntKind.bits, ini, N_maker_find_maker_version, hz]
    rfl
theorem loop_rwhich {x : Ver} {o : Option (List Ver)} (ho : (lst o).length ≤ 100000) : ∀ (r : List Ver) (i : Nat) (env : Env), (lst o).drop i = r →
    env 3 = p0 → env 0 = slV verE o → env 5 = .int .i64 i →
    W T (.loop F_ref17_Whichl0) env [⟨0, .cells false 2 [strV x.1, .bool x.2]⟩] fun z e h => (z = .exit 0 ∧ fndV x r i = -1) ∨ (z = .ret ∧ e 4 = .int .i64 (fndV x r i)) := by
  intro r
  induction r with
  | nil =>
    intro i env hr v3 v0 v5
    have hi := drop_end hr
    have q : ¬ ((i : Int) < (lst o).length) := by omega
    rw [w_loop]
    simp only [fws, seval, cond_true, cond_false, if_true, if_false, unV, isNil, optI, iV, stepI, evalR, IntKind.bits, ini, N_ref17_Which, v0, v5, lenI_sl, q]
    exact .inl ⟨trivial, rfl⟩
  | cons p ps ih =>
    intro i env hr v3 v0 v5
    obtain ⟨hi, hp, hr2⟩ := drop_at hr
    have q : ((i : Int) < (lst o).length) := by omega
    have hxx := fun H => ix_sl (E := verE) (o := o) (n := 2) rfl hi .i64 H
    have hld := fun H => loadNI_at (E := verE) (n := 2) (H := H) rfl hi
    rw [hp, verE_e] at hld
    have w2 : IntKind.i64.wrap ((i : Int) + 1) = ((i + 1 : Nat) : Int) := by rw [wrapI64 (by omega) (by omega)]; rfl
    have ce := ce_ver p x
    rw [w_loop]
    by_cases hx : p = x
    · have d : decide (p = x) = true := decide_eq_true hx
      simp only [fws, seval, cond_true, cond_false, if_true, if_false, unV, isNil, optI, iV, stepI, evalR, IntKind.bits, ini, fwh, lk, cellsAt, tagOf, spotOf, rdN, spl, fillL, zr, fwi, N_ref17_Which, v3, v0, v5, lenI_sl, q, hxx, hld, ce, d]
      refine .inr ⟨trivial, ?_⟩
      rw [fndV, if_pos hx]
    · have d : decide (p = x) = false := decide_eq_false hx
      simp only [fws, seval, cond_true, cond_false, if_true, if_false, unV, isNil, optI, iV, stepI, evalR, IntKind.bits, ini, fwh, lk, cellsAt, tagOf, spotOf, rdN, spl, fillL, zr, fwi, N_ref17_Which, v3, v0, v5, lenI_sl, q, hxx, hld, ce, d, w2]
      rw [fndV, if_neg hx]
      refine ih (i + 1) _ hr2 ?_ ?_ ?_
      all_goals (first | assumption | rfl)
theorem f_rwhich (t : MrF T) (x : Ver) (o : Option (List Ver)) (ho : (lst o).length ≤ 100000) : FnV T 114 [slV verE o, .agg #[strV x.1, .bool x.2]] (.int .i64 (fndV x (lst o) 0)) := by
  refine FnV_of (by simp [pure_sl (E := verE) (o := o) (k := 6) rfl, pure_agg, pure_string, pure_bool]) ?_
  rw [Ev_fn t.rw rfl]
  simp only [F_ref17_Which, fws, seval, cond_true, cond_false, if_true, if_false, unV, isNil, optI, iV, stepI, evalR, IntKind.bits, ini, fwh, lk, cellsAt, tagOf, spotOf, rdN, spl, fillL, zr, F_ref17_Whichr0b, F_ref17_Whichr0_W, F_ref17_Whichr1b, F_ref17_Whichr1_W, F_ref17_Whichr2b, F_ref17_Whichr2_W, F_ref17_Whichr4b, F_ref17_Whichr4_W, F_ref17_Whichr5b, F_ref17_Whichr5_W, F_ref17_Whichr3b, F_ref17_Whichr3_W, F_ref17_Whichl0b, F_ref17_Whichr6b, F_ref17_Whichr6_W, F_ref17_Whichcb, F_ref17_Whichc_W]
  refine W.mono (loop_rwhich (x := x) (o := o) ho (lst o) 0 _ rfl ?_ ?_ ?_) fun z e h hz => ?_
  · (first | assumption | rfl)
  · (first | assumption | rfl)
  · (first | assumption | rfl)
  rcases hz with ⟨rfl, hz⟩ | ⟨rfl, hz⟩
  · rw [hz]
    simp only [fws, seval, cond_true, cond_false, if_true, if_false, unV, isNil, optI, iV, stepI, evalR, IntKind.bits, ini, N_ref17_Which]
    rfl
  · simp only [fws, seval, cond_true, cond_false, if_true, if_false, unV, isNil, optI, iV, stepI, evalR, IntKind.bits, ini, N_ref17_Which, hz]
    rfl
end
end Go.Proofs.YtdjgknlhpdnhbaaGreat
/- All versions of a Spec, on both sides. -/
namespace Go.Proofs.YtdjgknlhpdnhbaaGreat
open Go Fw
set_option linter.unusedSimpArgs false
set_option linter.unusedVariables false
set_option linter.unusedSectionVars false

theorem Own.frzo {α : Type} {E : Enc α} {l : List α} {H : Heap} {v : Value} (h : Own E H v l) {k : Nat} (hk : E.d ≤ k) : ∃ o, lst o = l ∧ Fw.frz (k + 1) H v = some (slV E o) := by
  rcases h with ⟨rfl, rfl⟩ | ⟨b, tag, rfl, hH⟩
  · exact ⟨none, rfl, rfl⟩
  · refine ⟨some l, rfl, ?_⟩
    have h1 : pureV (k + 1) (own b tag l.length) = false := rfl
    simp only [Fw.frz, h1, cond_false]
    rw [own_lk (tag := tag) (o := .cells false E.u (E.cs l)) hH]
    simp only [List.drop_zero, rdN_cs rfl, Option.bind_some]
    rw [mapM_pure (cs_pure' hk)]
    rfl
/-- A heap with a Spec at its beginning, and a list that grows. -/
structure SO {α : Type} (E : Enc α) (s : S_api_Spec) (H : Heap) (v : Value) (l : List α) : Prop where
  z : H[0]? = some (spEn s)
  o : Own E H v l
  b : blkV v ≠ some 0
section
variable {α : Type} {E : Enc α} {s : S_api_Spec} {H : Heap} {v : Value} {l m : List α}
theorem SO.lt (h : SO E s H v l) : 0 < H.length := (List.getElem?_eq_some_iff.1 h.z).1
theorem SO.z' (h : SO E s H v l) (g : Heap) : (H ++ g)[0]? = some (spEn s) := by rw [List.getElem?_append_left h.lt]; exact h.z
theorem SO.mono (h : SO E s H v l) (g : Heap) : SO E s (H ++ g) v l := ⟨h.z' g, h.o.mono g, h.b⟩
theorem SO.app {n eb k : Nat} (hn : n = E.u) (h : SO E s H v l) (hk : k = m.length) (hb : (l.length + m.length) * eb ≤ 140737488355328) :
    ∃ v' H', appV n eb H v (E.cs m) k = some (v', H') ∧ SO E s H' v' (l ++ m) := by
  obtain ⟨v', H', a1, a2, a3⟩ := h.o.app hn hk hb
  refine ⟨v', H', a1, by rw [a3.same 0 h.lt h.b]; exact h.z, a2, ?_⟩
  rcases a3.blk with e | ⟨_, b, e, hb⟩
  · rw [e]; exact h.b
  · rw [e]
    intro q
    have := Option.some.inj q
    have := h.lt
    omega
end
def addV (acc : List Ver) (x : S_api_Sym) : List Ver := if x.Ver = [] then acc else if (x.Ver, x.Defined) ∈ acc then acc else acc ++ [(x.Ver, x.Defined)]
def versM (l : List S_api_Sym) : List Ver := l.foldl addV []
theorem addV_len (acc : List Ver) (x : S_api_Sym) : (addV acc x).length ≤ acc.length + 1 := by
  unfold addV
  split
  · omega
  · split
    · omega
    · simp
theorem addV_nil {acc : List Ver} {x : S_api_Sym} (h : x.Ver = []) : addV acc x = acc := by unfold addV; rw [if_pos h]
theorem addV_in {acc : List Ver} {x : S_api_Sym} (h : fndV (x.Ver, x.Defined) acc 0 < 0 → False) : addV acc x = acc := by
  unfold addV
  split
  · rfl
  · rw [if_pos (Classical.byContradiction fun q => h ((fndV_neg _ _ _).2 q))]
theorem addV_new {acc : List Ver} {x : S_api_Sym} (h0 : x.Ver ≠ []) (h : fndV (x.Ver, x.Defined) acc 0 < 0) : addV acc x = acc ++ [(x.Ver, x.Defined)] := by
  unfold addV
  rw [if_neg h0, if_neg ((fndV_neg _ _ _).1 h)]
abbrev syEn (x : S_api_Sym) : Entry := ⟨0, .cells false 7 [strV x.Name, strV x.Ver, .bool x.Hidden, .int .i64 x.Bind, .bool x.Defined, .int .u64 x.Value, .int .u64 x.Size]⟩
section
variable {T : Tab} {s : S_api_Spec}
theorem loop_mvers (t : MrF T) (hn : (lst s.Syms).length ≤ 300) : ∀ (r : List S_api_Sym) (i : Nat) (acc : List Ver) (v : Value) (H : Heap) (env : Env), (lst s.Syms).drop i = r → SO verE s H v acc → acc.length ≤ i →
    env 1 = p0 → env 3 = v → env 7 = slV S_api_SymE s.Syms → env 8 = .int .i64 (lst s.Syms).length → env 9 = .int .i64 i →
    W T (.loop F_maker_versionsl0) env H fun z e h => z = .exit 0 ∧ Own verE h (e 3) (r.foldl addV acc) := by
  intro r
  induction r with
  | nil =>
    intro i acc v H env hr hS ha v1 v3 v7 v8 v9
    have hi := drop_end hr
    have q : ¬ ((i : Int) < (lst s.Syms).length) := by omega
    rw [w_loop]
    simp only [fws, seval, cond_true, cond_false, if_true, if_false, unV, isNil, optI, iV, stepI, evalR, IntKind.bits, ini, N_maker_versions, v8, v9, q]
    refine ⟨trivial, ?_⟩
    show Own verE H (env 3) acc
    rw [v3]; exact hS.o
  | cons p ps ih =>
    intro i acc v H env hr hS ha v1 v3 v7 v8 v9
    obtain ⟨hi, hp, hr2⟩ := drop_at hr
    have q : ((i : Int) < (lst s.Syms).length) := by omega
    have hxx := fun H => ix_sl (E := S_api_SymE) (o := s.Syms) (n := 7) rfl hi .i64 H
    have hld := fun H => loadNI_at (E := S_api_SymE) (n := 7) (H := H) rfl hi
    rw [hp, S_api_SymE_e] at hld
    have w2 : IntKind.i64.wrap ((i : Int) + 1) = ((i + 1 : Nat) : Int) := by rw [wrapI64 (by omega) (by omega)]; rfl
    have hS1 := hS.mono [syEn p]
    rw [w_loop, List.foldl_cons]
    have hal := addV_len acc p
    by_cases hv : p.Ver = []
    · have b0 := nil_str hv
      rw [addV_nil hv] at hal ⊢
      simp only [fws, seval, cond_true, cond_false, if_true, if_false, unV, isNil, optI, iV, stepI, evalR, IntKind.bits, ini, fwh, lk, cellsAt, tagOf, spotOf, rdN, spl, fillL, zr, fwi, N_maker_versions, v1, v3, v7, v8, v9, q, hxx, hld, b0, w2]
      refine ih (i + 1) acc v _ _ hr2 hS1 (by omega) ?_ ?_ ?_ ?_ ?_
      all_goals (first | assumption | rfl)
    · have b0 := ne_str hv
      obtain ⟨o, ho, hfz⟩ := Own.frzo hS1.o (k := 7) (by decide)
      have c := f_mfind t (p.Ver, p.Defined) o (by rw [ho]; omega)
      rw [ho] at c
      have hfz2 : List.mapM (frz 8 (H ++ [syEn p])) [v, .agg #[strV p.Ver, .bool p.Defined]] = some [slV verE o, .agg #[strV p.Ver, .bool p.Defined]] := by
        simp only [List.mapM_cons, List.mapM_nil, hfz, frz_pure (show pureV 8 (.agg #[strV p.Ver, .bool p.Defined]) = true from rfl)]
        rfl
      by_cases hf : fndV (p.Ver, p.Defined) acc 0 < 0
      · obtain ⟨v', H', a1, a2⟩ := hS1.app (m := [(p.Ver, p.Defined)]) (n := 2) (eb := 24) (k := 1) rfl rfl (by simp; omega)
        have a1' : appV 2 24 (H ++ [syEn p]) v [strV p.Ver, .bool p.Defined] 1 = some (v', H') := a1
        have sr : ∀ H, srcOf H 2 (immV 1 [strV p.Ver, .bool p.Defined]) = some ([strV p.Ver, .bool p.Defined], 1) := fun H => rfl
        rw [addV_new hv hf] at hal ⊢
        simp only [fws, seval, cond_true, cond_false, if_true, if_false, unV, isNil, optI, iV, stepI, evalR, IntKind.bits, ini, fwh, lk, cellsAt, tagOf, spotOf, rdN, spl, fillL, zr, fwi, N_maker_versions, v1, v3, v7, v8, v9, q, hxx, hld, b0, w2, hfz2, CL_of c rfl, hf, sr, a1']
        refine ih (i + 1) _ v' _ _ hr2 a2 (by simp only [List.length_append, List.length_cons, List.length_nil]; omega) ?_ ?_ ?_ ?_ ?_
        all_goals (first | assumption | rfl)
      · rw [addV_in hf] at hal ⊢
        simp only [fws, seval, cond_true, cond_false, if_true, if_false, unV, isNil, optI, iV, stepI, evalR, IntKind.bits, ini, fwh, lk, cellsAt, tagOf, spotOf, rdN, spl, fillL, zr, fwi, N_maker_versions, v1, v3, v7, v8, v9, q, hxx, hld, b0, w2, hfz2, CL_of c rfl, hf]
        refine ih (i + 1) acc v _ _ hr2 hS1 (by omega) ?_ ?_ ?_ ?_ ?_
        all_goals (first | assumption | rfl)
theorem f_mvers (t : MrF T) (hn : (lst s.Syms).length ≤ 300) : ∃ o, lst o = versM (lst s.Syms) ∧ FnV T 51 [spA s] (slV verE o) := by
  have key : Ev T 51 [spA s] [] fun v h => Own verE h v (versM (lst s.Syms)) := by
    rw [Ev_fn t.mv rfl]
    simp only [F_maker_versions, fws, box_sp, F_maker_versionsr0b, F_maker_versionsr0_W, F_maker_versionsr1b, F_maker_versionsr1_W, F_maker_versionsr2b, F_maker_versionsr3b, F_maker_versionsr3_W, F_maker_versionsr4b, F_maker_versionsr4_W, F_maker_versionsr5b, F_maker_versionsr5_W, F_maker_versionsr5_g3, F_maker_versionsr6b, F_maker_versionsr6_W, F_maker_versionsr7b, F_maker_versionsr7_W, F_maker_versionsl0b, F_maker_versionsr8b, F_maker_versionsr8_W, F_maker_versionscb, F_maker_versionsc_W]
    simp only [fws, seval, cond_true, cond_false, if_true, if_false, unV, isNil, optI, iV, stepI, evalR, IntKind.bits, ini, fwh, lk, cellsAt, tagOf, spotOf, rdN, spl, fillL, zr, fwi, lenI_sl, F_maker_versionsr0b, F_maker_versionsr0_W, F_maker_versionsr1b, F_maker_versionsr1_W, F_maker_versionsr2b, F_maker_versionsr2_W, F_maker_versionsr3b, F_maker_versionsr3_W, F_maker_versionsr4b, F_maker_versionsr4_W, F_maker_versionsr5b, F_maker_versionsr5_W, F_maker_versionsr5_g3, F_maker_versionsr6b, F_maker_versionsr6_W, F_maker_versionsr7b, F_maker_versionsr7_W, F_maker_versionsl0b, F_maker_versionsr8b, F_maker_versionsr8_W, F_maker_versionscb, F_maker_versionsc_W]
    refine W.mono (loop_mvers t hn (lst s.Syms) 0 [] (.slice none 0 0) _ _ rfl ⟨rfl, Own.nil, by simp [blkV]⟩ (by simp) ?_ ?_ ?_ ?_ ?_) fun z e h ⟨g1, g2⟩ => ?_
    · (first | assumption | rfl)
    · (first | assumption | rfl)
    · (first | assumption | rfl)
    · (first | assumption | rfl)
    · (first | assumption | rfl)
    subst g1
    simp only [fws, seval, cond_true, cond_false, if_true, if_false, unV, isNil, optI, iV, stepI, evalR, IntKind.bits, ini, N_maker_versions]
    exact g2
  obtain ⟨n, v, h, h1, h2⟩ := key
  obtain ⟨o, ho, hf⟩ := Own.frzo h2 (k := 7) (by decide)
  exact ⟨o, ho, pure_sp s, n, v, h, h1, hf⟩
theorem loop_rvers (t : MrF T) (hn : (lst s.Syms).length ≤ 300) : ∀ (r : List S_api_Sym) (i : Nat) (acc : List Ver) (v : Value) (H : Heap) (env : Env), (lst s.Syms).drop i = r → SO verE s H v acc → acc.length ≤ i →
    env 1 = p0 → env 3 = v → env 4 = .int .i64 i →
    W T (.loop F_ref17_Versionsl0) env H fun z e h => z = .exit 0 ∧ Own verE h (e 3) (r.foldl addV acc) := by
  intro r
  induction r with
  | nil =>
    intro i acc v H env hr hS ha v1 v3 v4
    have hi := drop_end hr
    have q : ¬ ((i : Int) < (lst s.Syms).length) := by omega
    have hz := hS.z
    rw [w_loop]
    simp only [fws, seval, cond_true, cond_false, if_true, if_false, unV, isNil, optI, iV, stepI, evalR, IntKind.bits, ini, fwh, lk, cellsAt, tagOf, spotOf, rdN, spl, fillL, zr, fwi, N_ref17_Versions, v1, v4, hz, lenI_sl, q]
    refine ⟨trivial, ?_⟩
    show Own verE H (env 3) acc
    rw [v3]; exact hS.o
  | cons p ps ih =>
    intro i acc v H env hr hS ha v1 v3 v4
    obtain ⟨hi, hp, hr2⟩ := drop_at hr
    have q : ((i : Int) < (lst s.Syms).length) := by omega
    have hz := hS.z
    have hz' := hS.z'
    have hxx := fun H => ix_sl (E := S_api_SymE) (o := s.Syms) (n := 7) rfl hi .i64 H
    have hat : atI S_api_SymE (lst s.Syms) i = iptrV (S_api_SymE.e p ++ S_api_SymE.cs ((lst s.Syms).drop (i + 1))) := by rw [at_cons hi, hp]
    rw [S_api_SymE_e] at hat
    have w2 : IntKind.i64.wrap ((i : Int) + 1) = ((i + 1 : Nat) : Int) := by rw [wrapI64 (by omega) (by omega)]; rfl
    have hS1 := hS.mono [⟨0, .cells false 2 [strV p.Ver, .bool p.Defined]⟩]
    rw [w_loop, List.foldl_cons]
    have hal := addV_len acc p
    simp only [fws, seval, cond_true, cond_false, if_true, if_false, unV, isNil, optI, iV, stepI, evalR, IntKind.bits, ini, fwh, lk, cellsAt, tagOf, spotOf, rdN, spl, fillL, zr, fwi, F_ref17_Versionsr0b, F_ref17_Versionsr0_W, F_ref17_Versionsr1b, F_ref17_Versionsr1_W, F_ref17_Versionsr2b, F_ref17_Versionsr2_W, F_ref17_Versionsr3b, F_ref17_Versionsr3_W, F_ref17_Versionsr5b, F_ref17_Versionsr5_W, F_ref17_Versionsr5_len, F_ref17_Versionsr5_i1, F_ref17_Versionsr5_i5, F_ref17_Versionsr5_i7, F_ref17_Versionsr5_i11, F_ref17_Versionsr6b, F_ref17_Versionsr7b, F_ref17_Versionsr4b, F_ref17_Versionsr4_W, F_ref17_Versionsl0b, F_ref17_Versionsl0_W, F_ref17_Versionsr8b, F_ref17_Versionsr8_W, F_ref17_Versionscb, F_ref17_Versionsc_W, v1, v3, v4, hz, hz', lenI_sl, q, hxx, hat]
    refine WR_nilT rfl (by decide) ⟨fun c hc => ?_, ?_⟩
    · simp only [List.mem_cons, List.not_mem_nil, or_false] at hc
      rcases hc with rfl | rfl | rfl | rfl
      · intro _
        show (stepI _ _ (.load (.t 13))).map (·.1) = (stepI _ _ (.load (.t 13))).map (·.1)
        simp only [fws, seval, cond_true, cond_false, if_true, if_false, unV, isNil, optI, iV, stepI, evalR, IntKind.bits, ini, fwh, lk, cellsAt, tagOf, spotOf, rdN, spl, fillL, zr, fwi, hz, hz']
      · intro _
        show (stepI _ _ (.load (.t 17))).map (·.1) = (stepI _ _ (.load (.t 17))).map (·.1)
        simp only [fws, seval, cond_true, cond_false, if_true, if_false, unV, isNil, optI, iV, stepI, evalR, IntKind.bits, ini, fwh, lk, cellsAt, tagOf, spotOf, rdN, spl, fillL, zr, fwi]
      · intro _
        show (stepI _ _ (.load (.t 19))).map (·.1) = (stepI _ _ (.load (.t 19))).map (·.1)
        simp only [fws, seval, cond_true, cond_false, if_true, if_false, unV, isNil, optI, iV, stepI, evalR, IntKind.bits, ini, fwh, lk, cellsAt, tagOf, spotOf, rdN, spl, fillL, zr, fwi, hz, hz']
      · intro _
        show (stepI _ _ (.load (.t 23))).map (·.1) = (stepI _ _ (.load (.t 23))).map (·.1)
        simp only [fws, seval, cond_true, cond_false, if_true, if_false, unV, isNil, optI, iV, stepI, evalR, IntKind.bits, ini, fwh, lk, cellsAt, tagOf, spotOf, rdN, spl, fillL, zr, fwi]
    by_cases hv : p.Ver = []
    · have b0 := nil_str hv
      rw [addV_nil hv] at hal ⊢
      simp only [fws, seval, cond_true, cond_false, if_true, if_false, unV, isNil, optI, iV, stepI, evalR, IntKind.bits, ini, fwh, lk, cellsAt, tagOf, spotOf, rdN, spl, fillL, zr, fwi, N_ref17_Versions, v1, v3, v4, b0, w2]
      refine ih (i + 1) acc v _ _ hr2 hS1 (by omega) ?_ ?_ ?_
      all_goals (first | assumption | rfl)
    · have b0 := ne_str hv
      obtain ⟨o, ho, hfz⟩ := Own.frzo hS1.o (k := 7) (by decide)
      have c := f_rwhich t (p.Ver, p.Defined) o (by rw [ho]; omega)
      rw [ho] at c
      have hfz2 : List.mapM (frz 8 (H ++ [⟨0, .cells false 2 [strV p.Ver, .bool p.Defined]⟩])) [v, .agg #[strV p.Ver, .bool p.Defined]] = some [slV verE o, .agg #[strV p.Ver, .bool p.Defined]] := by
        simp only [List.mapM_cons, List.mapM_nil, hfz, frz_pure (show pureV 8 (.agg #[strV p.Ver, .bool p.Defined]) = true from rfl)]
        rfl
      by_cases hf : fndV (p.Ver, p.Defined) acc 0 < 0
      · obtain ⟨v', H', a1, a2⟩ := hS1.app (m := [(p.Ver, p.Defined)]) (n := 2) (eb := 24) (k := 1) rfl rfl (by simp; omega)
        have a1' : appV 2 24 (H ++ [⟨0, .cells false 2 [strV p.Ver, .bool p.Defined]⟩]) v [strV p.Ver, .bool p.Defined] 1 = some (v', H') := a1
        have sr : ∀ H, srcOf H 2 (immV 1 [strV p.Ver, .bool p.Defined]) = some ([strV p.Ver, .bool p.Defined], 1) := fun H => rfl
        rw [addV_new hv hf] at hal ⊢
        simp only [fws, seval, cond_true, cond_false, if_true, if_false, unV, isNil, optI, iV, stepI, evalR, IntKind.bits, ini, fwh, lk, cellsAt, tagOf, spotOf, rdN, spl, fillL, zr, fwi, N_ref17_Versions, v1, v3, v4, b0, w2, hfz2, CL_of c rfl, hf, sr, a1']
        refine ih (i + 1) _ v' _ _ hr2 a2 (by simp only [List.length_append, List.length_cons, List.length_nil]; omega) ?_ ?_ ?_
        all_goals (first | assumption | rfl)
      · rw [addV_in hf] at hal ⊢
        simp only [fws, seval, cond_true, cond_false, if_true, if_false, unV, isNil, optI, iV, stepI, evalR, IntKind.bits, ini, fwh, lk, cellsAt, tagOf, spotOf, rdN, spl, fillL, zr, fwi, N_ref17_Versions, v1, v3, v4, b0, w2, hfz2, CL_of c rfl, hf]
        refine ih (i + 1) acc v _ _ hr2 hS1 (by omega) ?_ ?_ ?_
        all_goals (first | assumption | rfl)
theorem f_rvers (t : MrF T) (hn : (lst s.Syms).length ≤ 300) : ∃ o, lst o = versM (lst s.Syms) ∧ FnV T 55 [spA s] (slV verE o) := by
  have key : Ev T 55 [spA s] [] fun v h => Own verE h v (versM (lst s.Syms)) := by
    rw [Ev_fn t.rv rfl]
    simp only [F_ref17_Versions, fws, box_sp, F_ref17_Versionsr0b, F_ref17_Versionsr0_W, F_ref17_Versionsr1b, F_ref17_Versionsr1_W, F_ref17_Versionsr2b, F_ref17_Versionsr3b, F_ref17_Versionsr3_W, F_ref17_Versionsr5b, F_ref17_Versionsr5_W, F_ref17_Versionsr5_len, F_ref17_Versionsr5_i1, F_ref17_Versionsr5_i5, F_ref17_Versionsr5_i7, F_ref17_Versionsr5_i11, F_ref17_Versionsr6b, F_ref17_Versionsr6_W, F_ref17_Versionsr6_g3, F_ref17_Versionsr7b, F_ref17_Versionsr7_W, F_ref17_Versionsr4b, F_ref17_Versionsr4_W, F_ref17_Versionsl0b, F_ref17_Versionsr8b, F_ref17_Versionsr8_W, F_ref17_Versionscb, F_ref17_Versionsc_W]
    simp only [fws, seval, cond_true, cond_false, if_true, if_false, unV, isNil, optI, iV, stepI, evalR, IntKind.bits, ini, fwh, lk, cellsAt, tagOf, spotOf, rdN, spl, fillL, zr, fwi, lenI_sl, F_ref17_Versionsr0b, F_ref17_Versionsr0_W, F_ref17_Versionsr1b, F_ref17_Versionsr1_W, F_ref17_Versionsr2b, F_ref17_Versionsr2_W, F_ref17_Versionsr3b, F_ref17_Versionsr3_W, F_ref17_Versionsr5b, F_ref17_Versionsr5_W, F_ref17_Versionsr5_len, F_ref17_Versionsr5_i1, F_ref17_Versionsr5_i5, F_ref17_Versionsr5_i7, F_ref17_Versionsr5_i11, F_ref17_Versionsr6b, F_ref17_Versionsr6_W, F_ref17_Versionsr6_g3, F_ref17_Versionsr7b, F_ref17_Versionsr7_W, F_ref17_Versionsr4b, F_ref17_Versionsr4_W, F_ref17_Versionsl0b, F_ref17_Versionsr8b, F_ref17_Versionsr8_W, F_ref17_Versionscb, F_ref17_Versionsc_W]
    refine W.mono (loop_rvers t hn (lst s.Syms) 0 [] (.slice none 0 0) _ _ rfl ⟨rfl, Own.nil, by simp [blkV]⟩ (by simp) ?_ ?_ ?_) fun z e h ⟨g1, g2⟩ => ?_
    · (first | assumption | rfl)
    · (first | assumption | rfl)
    · (first | assumption | rfl)
    subst g1
    simp only [fws, seval, cond_true, cond_false, if_true, if_false, unV, isNil, optI, iV, stepI, evalR, IntKind.bits, ini, N_ref17_Versions]
    exact g2
  obtain ⟨n, v, h, h1, h2⟩ := key
  obtain ⟨o, ho, hf⟩ := Own.frzo h2 (k := 7) (by decide)
  exact ⟨o, ho, pure_sp s, n, v, h, h1, hf⟩
end
end Go.Proofs.YtdjgknlhpdnhbaaGreat
