/- Steps as lines, on both sides. -/
import Derived.Test.YtdjgknlhpdnhbaaGreatDoorStEt
import Derived.Test.YtdjgknlhpdnhbaaGreatDoorFwC
import Derived.Test.YtdjgknlhpdnhbaaGreatDoorIrEt
import Derived.Test.YtdjgknlhpdnhbaaGreatDoorEtRun
namespace Go.Proofs.YtdjgknlhpdnhbaaGreatDoor
open Go Fw
set_option linter.unusedSimpArgs false
set_option linter.unusedVariables false
set_option linter.unusedSectionVars false

theorem ne_str {l : List UInt8} (h : l ≠ []) : strEq ⟨l.toArray⟩ ⟨#[]⟩ = false := by
  rw [show (⟨#[]⟩ : ByteArray) = ⟨([] : List UInt8).toArray⟩ from rfl, Fw.strEq_str]
  exact decide_eq_false h
theorem nil_str {l : List UInt8} (h : l = []) : strEq ⟨l.toArray⟩ ⟨#[]⟩ = true := by subst h; rfl
def dgC (n : Nat) : UInt8 := UInt8.ofNat (48 + n % 10)
def dgF : Nat → Nat → List UInt8 → List UInt8
  | 0, _, s => s
  | k + 1, n, s => if n = 0 then s else dgF k (n / 10) (dgC n :: s)
def textF (n : Int) : List UInt8 := if n ≤ 0 then [48] else dgF 20 n.toNat []
theorem dgF_len : ∀ (k n : Nat) (s : List UInt8), (dgF k n s).length ≤ s.length + k
  | 0, n, s => Nat.le_refl _
  | k + 1, n, s => by
    simp only [dgF]
    split
    · omega
    · have := dgF_len k (n / 10) (dgC n :: s)
      simp only [List.length_cons] at this
      omega
theorem textF_len (n : Int) : (textF n).length ≤ 20 := by
  unfold textF
  split
  · decide
  · have := dgF_len 20 n.toNat []
    simpa using this
section
variable {T : Tab}
theorem dg_val (n : Nat) : IntKind.u8.wrap (48 + ((n % 10 : Nat) : Int)) = ((dgC n).toNat : Int) := by
  have h : n % 10 < 10 := Nat.mod_lt _ (by decide)
  rw [wrap_u8]
  unfold dgC
  rw [UInt8.toNat_ofNat']
  omega
theorem loop_dgA : ∀ (k n : Nat) (s : List UInt8) (H : Heap) (env : Env), n < 10 ^ k → k ≤ 20 → n ≤ 9223372036854775807 → s ≠ [] ∨ 0 < n → s.length + k ≤ 1000 → env 0 = .int .i64 n → env 3 = strV s →
    W T (.loop F_num_Textl0) env H fun x e h => x = .exit 0 ∧ h = H ∧ e 3 = strV (dgF k n s) := by
  intro k
  induction k with
  | zero =>
    intro n s H env hn hk hb hs hl e0 e3
    have hn0 : n = 0 := by simpa using hn
    subst hn0
    have hs' : s ≠ [] := hs.resolve_right (by omega)
    have q : ¬ ((0 : Int) < ((0 : Nat) : Int)) := by decide
    have b0 := ne_str hs'
    rw [w_loop]
    simp only [fws, seval, cond_true, cond_false, if_true, if_false, unV, isNil, optI, iV, stepI, evalR, IntKind.bits, ini, fwi, N_num_Text, e0, e3, q, b0]
    exact ⟨trivial, trivial, rfl⟩
  | succ k ih =>
    intro n s H env hn hk hb hs hl e0 e3
    by_cases h0 : n = 0
    · subst h0
      have hs' : s ≠ [] := hs.resolve_right (by omega)
      have q : ¬ ((0 : Int) < ((0 : Nat) : Int)) := by decide
      have b0 := ne_str hs'
      rw [w_loop]
      simp only [fws, seval, cond_true, cond_false, if_true, if_false, unV, isNil, optI, iV, stepI, evalR, IntKind.bits, ini, fwi, N_num_Text, e0, e3, q, b0]
      exact ⟨trivial, trivial, rfl⟩
    · have q : ((0 : Int) < (n : Int)) := by omega
      have m1 : ((n : Int).tmod 10) = ((n % 10 : Nat) : Int) := by rw [tmodN (by omega)]; rfl
      have d1 : ((n : Int).tdiv 10) = ((n / 10 : Nat) : Int) := by rw [tdivN (by omega)]; rfl
      have w1 : IntKind.i64.wrap (48 + ((n % 10 : Nat) : Int)) = 48 + ((n % 10 : Nat) : Int) := by rw [wrapI64 (by omega) (by omega)]
      have w2 : IntKind.i64.wrap ((n / 10 : Nat) : Int) = ((n / 10 : Nat) : Int) := by rw [wrapI64 (by omega) (by omega)]
      have w3 := dg_val n
      have z1 : 1 + s.length ≤ 9223372036854775807 := by omega
      have hb2 : ∀ H, b2sI H (immV 1 [.int .u8 ((dgC n).toNat : Int)]) = some (strV [dgC n], H) := fun H => b2sI_imm (l := [dgC n])
      have t10 : ¬ ((10 : Int) = 0) := by decide
      rw [w_loop]
      simp only [fws, seval, cond_true, cond_false, if_true, if_false, unV, isNil, optI, iV, stepI, evalR, IntKind.bits, ini, fwh, lk, cellsAt, tagOf, spotOf, rdN, spl, fillL, zr, fwi, N_num_Text, e0, e3, q, m1, d1, w1, w2, w3, z1, hb2, t10]
      refine W.mono (ih (n / 10) (dgC n :: s) H _ (by rw [Nat.pow_succ] at hn; omega) (by omega) (by omega) (.inl (by simp)) (by simp only [List.length_cons]; omega) ?_ ?_) fun x e h ⟨r1, r2, r3⟩ => ⟨r1, r2, ?_⟩
      · (first | assumption | rfl)
      · (first | assumption | rfl)
      · rw [r3]
        simp only [dgF, if_neg h0]
theorem loop_dgB : ∀ (k n : Nat) (s : List UInt8) (H : Heap) (env : Env), n < 10 ^ k → k ≤ 20 → n ≤ 9223372036854775807 → s.length + k ≤ 1000 → env 0 = .int .i64 n → env 3 = strV s →
    W T (.loop F_ref01_Textl0) env H fun x e h => x = .exit 0 ∧ h = H ∧ e 3 = strV (dgF k n s) := by
  intro k
  induction k with
  | zero =>
    intro n s H env hn hk hb hl e0 e3
    have hn0 : n = 0 := by simpa using hn
    subst hn0
    have q : ¬ ((0 : Int) < ((0 : Nat) : Int)) := by decide
    rw [w_loop]
    simp only [fws, seval, cond_true, cond_false, if_true, if_false, unV, isNil, optI, iV, stepI, evalR, IntKind.bits, ini, fwi, N_ref01_Text, e0, e3, q]
    exact ⟨trivial, trivial, rfl⟩
  | succ k ih =>
    intro n s H env hn hk hb hl e0 e3
    by_cases h0 : n = 0
    · subst h0
      have q : ¬ ((0 : Int) < ((0 : Nat) : Int)) := by decide
      rw [w_loop]
      simp only [fws, seval, cond_true, cond_false, if_true, if_false, unV, isNil, optI, iV, stepI, evalR, IntKind.bits, ini, fwi, N_ref01_Text, e0, e3, q]
      exact ⟨trivial, trivial, rfl⟩
    · have q : ((0 : Int) < (n : Int)) := by omega
      have m1 : ((n : Int).tmod 10) = ((n % 10 : Nat) : Int) := by rw [tmodN (by omega)]; rfl
      have d1 : ((n : Int).tdiv 10) = ((n / 10 : Nat) : Int) := by rw [tdivN (by omega)]; rfl
      have w1 : IntKind.i64.wrap (48 + ((n % 10 : Nat) : Int)) = 48 + ((n % 10 : Nat) : Int) := by rw [wrapI64 (by omega) (by omega)]
      have w2 : IntKind.i64.wrap ((n / 10 : Nat) : Int) = ((n / 10 : Nat) : Int) := by rw [wrapI64 (by omega) (by omega)]
      have w3 := dg_val n
      have z1 : 1 + s.length ≤ 9223372036854775807 := by omega
      have hb2 : ∀ H, b2sI H (immV 1 [.int .u8 ((dgC n).toNat : Int)]) = some (strV [dgC n], H) := fun H => b2sI_imm (l := [dgC n])
      have t10 : ¬ ((10 : Int) = 0) := by decide
      rw [w_loop]
      simp only [fws, seval, cond_true, cond_false, if_true, if_false, unV, isNil, optI, iV, stepI, evalR, IntKind.bits, ini, fwh, lk, cellsAt, tagOf, spotOf, rdN, spl, fillL, zr, fwi, N_ref01_Text, e0, e3, q, m1, d1, w1, w2, w3, z1, hb2, t10]
      refine W.mono (ih (n / 10) (dgC n :: s) H _ (by rw [Nat.pow_succ] at hn; omega) (by omega) (by omega) (by simp only [List.length_cons]; omega) ?_ ?_) fun x e h ⟨r1, r2, r3⟩ => ⟨r1, r2, ?_⟩
      · (first | assumption | rfl)
      · (first | assumption | rfl)
      · rw [r3]
        simp only [dgF, if_neg h0]
theorem f_text (h : T 9 = some F_num_Text) (n : Int) (h1 : n ≤ 9223372036854775807) : FnV T 9 [.int .i64 n] (strV (textF n)) := by
  refine FnV_of rfl ?_
  rw [Ev_fn h rfl]
  unfold textF
  by_cases h0 : n ≤ 0
  · rw [if_pos h0]
    have q : (if (0 : Int) > n then (0 : Int) else n) = 0 := by split <;> omega
    have q1 : ¬ ((0 : Int) < 0) := by decide
    have w1 : IntKind.i64.wrap (48 : Int) = 48 := by decide
    have w2 : IntKind.u8.wrap (48 : Int) = 48 := by decide
    have m1 : ((0 : Int).tmod 10) = 0 := rfl
    have d1 : ((0 : Int).tdiv 10) = 0 := rfl
    have w3 : IntKind.i64.wrap (0 : Int) = 0 := by decide
    have b0 : strEq ⟨#[48]⟩ ⟨#[]⟩ = false := rfl
    have hb2 : ∀ H, b2sI H (immV 1 [.int .u8 48]) = some (strV [48], H) := fun H => b2sI_imm (l := [48])
    have t10 : ¬ ((10 : Int) = 0) := by decide
    simp only [F_num_Text, fws, seval, cond_true, cond_false, if_true, if_false, unV, isNil, optI, iV, stepI, evalR, IntKind.bits, ini, fwh, lk, cellsAt, tagOf, spotOf, rdN, spl, fillL, zr, fwi, F_num_Textr0b, F_num_Textr0_W, F_num_Textr1b, F_num_Textr1_W, F_num_Textr2b, F_num_Textr2_W, F_num_Textr3b, F_num_Textr3_W, F_num_Textr3_g2, F_num_Textr5b, F_num_Textr5_W, F_num_Textr4b, F_num_Textr4_W, F_num_Textl0b, F_num_Textr6b, F_num_Textr6_W, F_num_Textcb, F_num_Textc_W, q]
    rw [w_loop]
    simp only [fws, seval, cond_true, cond_false, if_true, if_false, unV, isNil, optI, iV, stepI, evalR, IntKind.bits, ini, fwh, lk, cellsAt, tagOf, spotOf, rdN, spl, fillL, zr, fwi, N_num_Text, q1, w1, w2, w3, m1, d1, b0, hb2, t10, (nil_str rfl)]
    rw [w_loop]
    simp only [fws, seval, cond_true, cond_false, if_true, if_false, unV, isNil, optI, iV, stepI, evalR, IntKind.bits, ini, fwh, lk, cellsAt, tagOf, spotOf, rdN, spl, fillL, zr, fwi, N_num_Text, q1, w1, w2, w3, m1, d1, b0, hb2, t10, (nil_str rfl)]
    rfl
  · rw [if_neg h0]
    have q : (if (0 : Int) > n then (0 : Int) else n) = ((n.toNat : Nat) : Int) := by split <;> omega
    simp only [F_num_Text, fws, seval, cond_true, cond_false, if_true, if_false, unV, isNil, optI, iV, stepI, evalR, IntKind.bits, ini, fwh, lk, cellsAt, tagOf, spotOf, rdN, spl, fillL, zr, fwi, F_num_Textr0b, F_num_Textr0_W, F_num_Textr1b, F_num_Textr1_W, F_num_Textr2b, F_num_Textr2_W, F_num_Textr3b, F_num_Textr3_W, F_num_Textr3_g2, F_num_Textr5b, F_num_Textr5_W, F_num_Textr4b, F_num_Textr4_W, F_num_Textl0b, F_num_Textr6b, F_num_Textr6_W, F_num_Textcb, F_num_Textc_W, q]
    refine W.mono (loop_dgA 20 n.toNat [] [] _ (by have : (10 : Nat) ^ 20 = 100000000000000000000 := by decide
                                                   omega) (Nat.le_refl _) (by omega) (.inr (by omega)) (by decide) ?_ ?_) fun x e h ⟨r1, r2, r3⟩ => ?_
    · (first | assumption | rfl)
    · (first | assumption | rfl)
    · subst r1 r2
      simp only [fws, seval, cond_true, cond_false, if_true, if_false, unV, isNil, optI, iV, stepI, evalR, IntKind.bits, ini, N_num_Text, r3]
      rfl
theorem f_rtext (h : T 11 = some F_ref01_Text) (n : Int) (h1 : n ≤ 9223372036854775807) : FnV T 11 [.int .i64 n] (strV (textF n)) := by
  refine FnV_of rfl ?_
  rw [Ev_fn h rfl]
  unfold textF
  by_cases h0 : n ≤ 0
  · rw [if_pos h0]
    simp only [F_ref01_Text, fws, seval, cond_true, cond_false, if_true, if_false, unV, isNil, optI, iV, stepI, evalR, IntKind.bits, ini, fwh, lk, cellsAt, tagOf, spotOf, rdN, spl, fillL, zr, fwi, F_ref01_Textr0b, F_ref01_Textr0_W, F_ref01_Textr1b, F_ref01_Textr1_W, F_ref01_Textr2b, F_ref01_Textr2_W, F_ref01_Textr3b, F_ref01_Textr3_W, F_ref01_Textr4b, F_ref01_Textr4_W, F_ref01_Textr5b, F_ref01_Textr5_W, F_ref01_Textr6b, F_ref01_Textr6_W, F_ref01_Textl0b, F_ref01_Textr7b, F_ref01_Textr7_W, F_ref01_Textcb, F_ref01_Textc_W, h0]
    rfl
  · rw [if_neg h0]
    have q : n = ((n.toNat : Nat) : Int) := by omega
    simp only [F_ref01_Text, fws, seval, cond_true, cond_false, if_true, if_false, unV, isNil, optI, iV, stepI, evalR, IntKind.bits, ini, fwh, lk, cellsAt, tagOf, spotOf, rdN, spl, fillL, zr, fwi, F_ref01_Textr0b, F_ref01_Textr0_W, F_ref01_Textr1b, F_ref01_Textr1_W, F_ref01_Textr2b, F_ref01_Textr2_W, F_ref01_Textr3b, F_ref01_Textr3_W, F_ref01_Textr4b, F_ref01_Textr4_W, F_ref01_Textr5b, F_ref01_Textr5_W, F_ref01_Textr6b, F_ref01_Textr6_W, F_ref01_Textl0b, F_ref01_Textr7b, F_ref01_Textr7_W, F_ref01_Textcb, F_ref01_Textc_W, h0]
    refine W.mono (loop_dgB 20 n.toNat [] [] _ (by have : (10 : Nat) ^ 20 = 100000000000000000000 := by decide
                                                   omega) (Nat.le_refl _) (by omega) (by decide) ?_ ?_) fun x e h ⟨r1, r2, r3⟩ => ?_
    · rw [← q]; (first | assumption | rfl)
    · (first | assumption | rfl)
    · subst r1 r2
      simp only [fws, seval, cond_true, cond_false, if_true, if_false, unV, isNil, optI, iV, stepI, evalR, IntKind.bits, ini, N_ref01_Text, r3]
      rfl
/-! ### the place of a sign -/
end
theorem drop_at {α : Type} {L r : List α} {i : Nat} {c : α} (h : L.drop i = c :: r) : ∃ hi : i < L.length, L[i] = c ∧ L.drop (i + 1) = r := by
  have hi : i < L.length := by
    rcases Nat.lt_or_ge i L.length with q | q
    · exact q
    · rw [List.drop_of_length_le q] at h; cases h
  rw [List.drop_eq_getElem_cons hi] at h
  cases h
  exact ⟨hi, rfl, rfl⟩
theorem drop_end {α : Type} {L : List α} {i : Nat} (h : L.drop i = []) : L.length ≤ i := List.drop_eq_nil_iff.1 h
theorem Own.frzo {α : Type} {E : Enc α} {l : List α} {H : Heap} {v : Value} (h : Own E H v l) {k : Nat} (hk : E.d ≤ k) : ∃ o, lst o = l ∧ Fw.frz (k + 1) H v = some (slV E o) := by
  rcases h with ⟨rfl, rfl⟩ | ⟨b, tag, rfl, hH⟩
  · exact ⟨none, rfl, rfl⟩
  · refine ⟨some l, rfl, ?_⟩
    have h1 : pureV (k + 1) (own b tag l.length) = false := rfl
    simp only [Fw.frz, h1, cond_false]
    rw [own_lk (tag := tag) (o := .cells false E.u (E.cs l)) hH]
    simp only [List.drop_zero, rdN_cs rfl, Option.bind_some]
    rw [mapM_pure (cs_pure' hk)]
    rfl

def wordM (n : Int) : List UInt8 :=
  if n = 1 then [116, 104, 101, 114, 101] else if n = 2 then [98, 97, 114, 114, 101, 100] else if n = 3 then [97, 98, 115, 101, 110, 116] else if n = 4 then [100, 101, 110, 105, 101, 100] else
  if n = 5 then [107, 110, 111, 119, 110] else if n = 6 then [110, 101, 119] else if n = 7 then [119, 114, 111, 110, 103] else if n = 8 then [108, 105, 110, 107] else [110, 111, 110, 101]
theorem wordM_len (n : Int) : (wordM n).length ≤ 6 := by
  unfold wordM
  repeat' split
  all_goals decide
def headM (x : S_explain_Step) : List UInt8 := ((((((x.Space ++ [32]) ++ x.Name) ++ [32]) ++ textF x.By) ++ [32]) ++ wordM x.What)
def instM (x : S_explain_Step) (s : List UInt8) : List UInt8 := if x.Inst = 0 then s else s ++ ([32] ++ textF x.Inst)
def placeM (x : S_explain_Step) (s : List UInt8) : List UInt8 := if x.Place = [] then s else s ++ ([32] ++ x.Place)
def lineM (s : List UInt8) (x : S_explain_Step) : List UInt8 := placeM x (instM x (s ++ headM x)) ++ [10]
def textM (l : List S_explain_Step) : List UInt8 := l.foldl lineM []
structure OkSt (x : S_explain_Step) : Prop where
  n : x.Name.length ≤ 1000
  s : x.Space.length ≤ 1000
  p : x.Place.length ≤ 1000
  b : x.By ≤ 9223372036854775807
  i : x.Inst ≤ 9223372036854775807
theorem headM_len {x : S_explain_Step} (h : OkSt x) : (headM x).length ≤ 2029 := by
  have h1 := h.n
  have h2 := h.s
  have h3 := textF_len x.By
  have h4 := wordM_len x.What
  simp only [headM, List.length_append, List.length_cons, List.length_nil]
  omega
theorem instM_len (x : S_explain_Step) (s : List UInt8) : (instM x s).length ≤ s.length + 21 := by
  have h3 := textF_len x.Inst
  unfold instM
  split
  · omega
  · simp only [List.length_append, List.length_cons, List.length_nil]; omega
theorem placeM_len {x : S_explain_Step} (h : OkSt x) (s : List UInt8) : (placeM x s).length ≤ s.length + 1001 := by
  have h3 := h.p
  unfold placeM
  split
  · omega
  · simp only [List.length_append, List.length_cons, List.length_nil]; omega
abbrev stEn (x : S_explain_Step) : Entry := ⟨0, .cells false 6 [strV x.Space, strV x.Name, .int .i64 x.By, strV x.Place, .int .i64 x.What, .int .i64 x.Inst]⟩
structure EtF (T : Tab) : Prop where
  tr : T 4 = some F_explain_Tried
  tx : T 9 = some F_num_Text
  wd : T 10 = some F_explain_word
  et : T 5 = some F_explain_Text
  rt : T 11 = some F_ref01_Text
  rx : T 6 = some F_ref31_Text
  st : T 7 = some F_law31_steps
section
variable {T : Tab}
theorem f_word (t : EtF T) (n : Int) : FnV T 10 [.int .i64 n] (strV (wordM n)) := by
  refine FnV_of (by simp [pure_agg, pure_tup, pure_int, pure_bool, pure_string, pure_slN, pure_ptrN, pure_mapN, pure_imm, pure_immN, bltN, byteE_d, intE_d, boolE_d, strE_d]) ?_
  rw [Ev_fn t.wd rfl]
  by_cases h1 : n < 1
  · have e : wordM n = [110, 111, 110, 101] := by
      unfold wordM
      rw [if_neg (by omega), if_neg (by omega), if_neg (by omega), if_neg (by omega), if_neg (by omega), if_neg (by omega), if_neg (by omega), if_neg (by omega)]
    rw [e]
    simp only [F_explain_word, fws, seval, cond_true, cond_false, if_true, if_false, unV, isNil, optI, iV, stepI, evalR, IntKind.bits, ini, fwh, lk, cellsAt, tagOf, spotOf, rdN, spl, fillL, zr, N_explain_word, h1]
    rfl
  · by_cases h2 : 8 < n
    · have e : wordM n = [110, 111, 110, 101] := by
        unfold wordM
        rw [if_neg (by omega), if_neg (by omega), if_neg (by omega), if_neg (by omega), if_neg (by omega), if_neg (by omega), if_neg (by omega), if_neg (by omega)]
      rw [e]
      simp only [F_explain_word, fws, seval, cond_true, cond_false, if_true, if_false, unV, isNil, optI, iV, stepI, evalR, IntKind.bits, ini, fwh, lk, cellsAt, tagOf, spotOf, rdN, spl, fillL, zr, N_explain_word, h1, h2]
      rfl
    · have hc : n = 1 ∨ n = 2 ∨ n = 3 ∨ n = 4 ∨ n = 5 ∨ n = 6 ∨ n = 7 ∨ n = 8 := by omega
      rcases hc with rfl | rfl | rfl | rfl | rfl | rfl | rfl | rfl
      all_goals
        simp only [F_explain_word, fws, seval, cond_true, cond_false, if_true, if_false, unV, isNil, optI, iV, stepI, evalR, IntKind.bits, ini, fwh, lk, cellsAt, tagOf, spotOf, rdN, spl, fillL, zr, fwi, N_explain_word, and_self]
        rfl
/-- Strings joined: the facts that a step wants. -/
def W9 : List Value := [strV [110, 111, 110, 101], strV [116, 104, 101, 114, 101], strV [98, 97, 114, 114, 101, 100], strV [97, 98, 115, 101, 110, 116], strV [100, 101, 110, 105, 101, 100], strV [107, 110, 111, 119, 110], strV [110, 101, 119], strV [119, 114, 111, 110, 103], strV [108, 105, 110, 107]]
def kW (n : Int) : Int := if n < 1 ∨ 8 < n then 0 else n
def qW (n : Int) : Value := iptrV (W9.drop (kW n).toNat)
theorem kW_cases (n : Int) : (kW n = 0 ∧ wordM n = [110, 111, 110, 101]) ∨ (n = 1 ∨ n = 2 ∨ n = 3 ∨ n = 4 ∨ n = 5 ∨ n = 6 ∨ n = 7 ∨ n = 8) := by
  by_cases h : n < 1 ∨ 8 < n
  · refine .inl ⟨if_pos h, ?_⟩
    unfold wordM
    rw [if_neg (by omega), if_neg (by omega), if_neg (by omega), if_neg (by omega), if_neg (by omega), if_neg (by omega), if_neg (by omega), if_neg (by omega)]
  · exact .inr (by omega)
theorem w9_ix (H : Heap) (n : Int) : ixaI H 1 (immV 9 W9) (.int .i64 (kW n)) = some (qW n, H) := by
  rcases kW_cases n with ⟨h, _⟩ | rfl | rfl | rfl | rfl | rfl | rfl | rfl | rfl
  · unfold qW; rw [h]; rfl
  all_goals rfl
theorem w9_ld (H : Heap) (n : Int) : loadI H (qW n) = some (strV (wordM n), H) := by
  rcases kW_cases n with ⟨h, h2⟩ | rfl | rfl | rfl | rfl | rfl | rfl | rfl | rfl
  · unfold qW; rw [h, h2]; rfl
  all_goals rfl
set_option maxHeartbeats 4000000 in
theorem loop_et (t : EtF T) {o : Option (List S_explain_Step)} (hn : (lst o).length ≤ 200) (hk : ∀ x ∈ lst o, OkSt x) : ∀ (r : List S_explain_Step) (i : Nat) (acc : List UInt8) (H : Heap) (env : Env), (lst o).drop i = r → acc.length ≤ 4000 * i →
    env 6 = slV S_explain_StepE o → env 7 = .int .i64 (lst o).length → env 8 = .int .i64 i → env 3 = strV acc →
    W T (.loop F_explain_Textl0) env H fun z e h => z = .exit 0 ∧ e 3 = strV (r.foldl lineM acc) := by
  intro r
  induction r with
  | nil =>
    intro i acc H env hr ha v6 v7 v8 v3
    have hi := drop_end hr
    have q : ¬ ((i : Int) < (lst o).length) := by omega
    rw [w_loop]
    simp only [fws, seval, cond_true, cond_false, if_true, if_false, unV, isNil, optI, iV, stepI, evalR, IntKind.bits, ini, N_explain_Text, v7, v8, q]
    exact ⟨trivial, v3⟩
  | cons p ps ih =>
    intro i acc H env hr ha v6 v7 v8 v3
    obtain ⟨hi, hp, hr2⟩ := drop_at hr
    have q : ((i : Int) < (lst o).length) := by omega
    have hxx := fun H => ix_sl (E := S_explain_StepE) (o := o) (n := 6) rfl hi .i64 H
    have hld := fun H => loadNI_at (E := S_explain_StepE) (n := 6) (H := H) rfl hi
    have hok : OkSt p := hk p (hp ▸ List.getElem_mem hi)
    rw [hp, S_explain_StepE_e] at hld
    have w2 : IntKind.i64.wrap ((i : Int) + 1) = ((i + 1 : Nat) : Int) := by rw [wrapI64 (by omega) (by omega)]; rfl
    have y0 : loadI (H ++ [stEn p]) (.pointer (some ⟨H.length, 0, none⟩)) = some (strV p.Space, H ++ [stEn p]) := by simp only [loadI_ptr, lk, cellsAt, tagOf, app_get0]; rfl
    have y1 : loadI (H ++ [stEn p]) (.pointer (some ⟨H.length, 1, none⟩)) = some (strV p.Name, H ++ [stEn p]) := by simp only [loadI_ptr, lk, cellsAt, tagOf, app_get0]; rfl
    have y2 : loadI (H ++ [stEn p]) (.pointer (some ⟨H.length, 2, none⟩)) = some (.int .i64 p.By, H ++ [stEn p]) := by simp only [loadI_ptr, lk, cellsAt, tagOf, app_get0]; rfl
    have y3 : loadI (H ++ [stEn p]) (.pointer (some ⟨H.length, 3, none⟩)) = some (strV p.Place, H ++ [stEn p]) := by simp only [loadI_ptr, lk, cellsAt, tagOf, app_get0]; rfl
    have y4 : loadI (H ++ [stEn p]) (.pointer (some ⟨H.length, 4, none⟩)) = some (.int .i64 p.What, H ++ [stEn p]) := by simp only [loadI_ptr, lk, cellsAt, tagOf, app_get0]; rfl
    have y5 : loadI (H ++ [stEn p]) (.pointer (some ⟨H.length, 5, none⟩)) = some (.int .i64 p.Inst, H ++ [stEn p]) := by simp only [loadI_ptr, lk, cellsAt, tagOf, app_get0]; rfl
    have c1 := f_text t.tx p.By hok.b
    have c2 := f_word t p.What
    have c3 := f_text t.tx p.Inst hok.i
    have h1 := hok.n
    have h2 := hok.s
    have h3 := textF_len p.By
    have h4 := wordM_len p.What
    have h5 := hok.p
    have h6 := textF_len p.Inst
    have h7 := headM_len hok
    have h8 := instM_len p (acc ++ headM p)
    have h9 := placeM_len hok (instM p (acc ++ headM p))
    have hlen : (acc ++ headM p).length = acc.length + (headM p).length := List.length_append
    have s32 : (⟨#[32]⟩ : ByteArray).size = 1 := rfl
    have s10 : (⟨#[10]⟩ : ByteArray).size = 1 := rfl
    have a32 : ∀ l : List UInt8, (⟨l.toArray⟩ : ByteArray) ++ ⟨#[32]⟩ = ⟨(l ++ [32]).toArray⟩ := fun l => append_str (m := [32])
    have b32 : ∀ l : List UInt8, (⟨#[32]⟩ : ByteArray) ++ ⟨l.toArray⟩ = ⟨([32] ++ l).toArray⟩ := fun l => append_str (l := [32])
    have a10 : ∀ l : List UInt8, (⟨l.toArray⟩ : ByteArray) ++ ⟨#[10]⟩ = ⟨(l ++ [10]).toArray⟩ := fun l => append_str (m := [10])
    have z1 : p.Space.length + 1 ≤ 9223372036854775807 := by omega
    have z2 : (p.Space ++ [32]).length + p.Name.length ≤ 9223372036854775807 := by simp only [List.length_append, List.length_cons, List.length_nil]; omega
    have z3 : ((p.Space ++ [32]) ++ p.Name).length + 1 ≤ 9223372036854775807 := by simp only [List.length_append, List.length_cons, List.length_nil]; omega
    have z4 : (((p.Space ++ [32]) ++ p.Name) ++ [32]).length + (textF p.By).length ≤ 9223372036854775807 := by simp only [List.length_append, List.length_cons, List.length_nil]; omega
    have z5 : ((((p.Space ++ [32]) ++ p.Name) ++ [32]) ++ textF p.By).length + 1 ≤ 9223372036854775807 := by simp only [List.length_append, List.length_cons, List.length_nil]; omega
    have z6 : (((((p.Space ++ [32]) ++ p.Name) ++ [32]) ++ textF p.By) ++ [32]).length + (wordM p.What).length ≤ 9223372036854775807 := by simp only [List.length_append, List.length_cons, List.length_nil]; omega
    have hh : ((((((p.Space ++ [32]) ++ p.Name) ++ [32]) ++ textF p.By) ++ [32]) ++ wordM p.What) = headM p := rfl
    have z7 : acc.length + (headM p).length ≤ 9223372036854775807 := by omega
    have z8 : 1 + (textF p.Inst).length ≤ 9223372036854775807 := by omega
    have z9 : (acc ++ headM p).length + ([32] ++ textF p.Inst).length ≤ 9223372036854775807 := by simp only [List.length_append, List.length_cons, List.length_nil] at hlen ⊢; omega
    have z10 : 1 + p.Place.length ≤ 9223372036854775807 := by omega
    have z11 : (instM p (acc ++ headM p)).length + ([32] ++ p.Place).length ≤ 9223372036854775807 := by simp only [List.length_append, List.length_cons, List.length_nil] at h8 ⊢; omega
    have z12 : (placeM p (instM p (acc ++ headM p))).length + 1 ≤ 9223372036854775807 := by simp only [List.length_append] at h8 h9 ⊢; omega
    have hfin : (lineM acc p).length ≤ 4000 * (i + 1) := by
      unfold lineM
      rw [List.length_append, List.length_cons, List.length_nil]
      omega
    rw [w_loop, List.foldl_cons]
    have key : ∀ (b1 b2 : Bool), decide (p.Inst = 0) = b1 → strEq ⟨p.Place.toArray⟩ ⟨#[]⟩ = b2 →
        (bif b1 then acc ++ headM p else (acc ++ headM p) ++ ([32] ++ textF p.Inst)) = instM p (acc ++ headM p) → (bif b2 then instM p (acc ++ headM p) else instM p (acc ++ headM p) ++ ([32] ++ p.Place)) = placeM p (instM p (acc ++ headM p)) →
        W T F_explain_Textl0 env H (seqQ T F_explain_Textl0.loop fun z e h => z = .exit 0 ∧ e 3 = strV (ps.foldl lineM (lineM acc p))) := by
      intro b1 b2 e1 e2 g1 g2
      have dropl : (placeM p (instM p (acc ++ headM p))) ++ [10] = lineM acc p := rfl
      generalize headM p = hd at *
      generalize hI : instM p (acc ++ hd) = ip at *
      generalize hP : placeM p ip = pp at *
      cases b1 <;> cases b2 <;> simp only [cond_true, cond_false] at g1 g2
      all_goals
        simp only [fws, seval, cond_true, cond_false, if_true, if_false, unV, isNil, optI, iV, stepI, evalR, IntKind.bits, ini, fwh, lk, cellsAt, tagOf, spotOf, rdN, spl, fillL, zr, F_explain_Textr0b, F_explain_Textr0_W, F_explain_Textr1b, F_explain_Textr1_W, F_explain_Textr2b, F_explain_Textr2_W, F_explain_Textr3b, F_explain_Textr3_W, F_explain_Textr4b, F_explain_Textr4_W, F_explain_Textr5b, F_explain_Textr6b, F_explain_Textr7b, F_explain_Textr8b, F_explain_Textr9b, F_explain_Textr10b, F_explain_Textr11b, F_explain_Textl0b, F_explain_Textl0_W, F_explain_Textr12b, F_explain_Textr12_W, F_explain_Textcb, F_explain_Textc_W, v6, v7, v8, q, hxx, hld]
        simp only [fws, seval, cond_true, cond_false, if_true, if_false, unV, isNil, optI, iV, stepI, evalR, IntKind.bits, ini, faI_ptr, Nat.zero_add, size_str, append_str, s32, s10, a32, b32, a10, N_explain_Text, v3, v8, y0, y1, y2, y3, y4, y5, CC_of c1, CC_of c2, CC_of c3, z1, z2, z3, z4, z5, z6, z7, z8, z9, z10, z11, z12, hh, e1, e2, g1, g2, dropl, w2]
        refine ih (i + 1) _ _ _ hr2 hfin ?_ ?_ ?_ ?_
        all_goals (first | assumption | rfl)
    by_cases e1 : p.Inst = 0
    · by_cases e2 : p.Place = []
      · exact key true true (decide_eq_true e1) (nil_str e2) (by unfold instM; rw [if_pos e1]; rfl) (by unfold placeM; rw [if_pos e2]; rfl)
      · exact key true false (decide_eq_true e1) (ne_str e2) (by unfold instM; rw [if_pos e1]; rfl) (by unfold placeM; rw [if_neg e2]; rfl)
    · by_cases e2 : p.Place = []
      · exact key false true (decide_eq_false e1) (nil_str e2) (by unfold instM; rw [if_neg e1]; rfl) (by unfold placeM; rw [if_pos e2]; rfl)
      · exact key false false (decide_eq_false e1) (ne_str e2) (by unfold instM; rw [if_neg e1]; rfl) (by unfold placeM; rw [if_neg e2]; rfl)
set_option maxHeartbeats 4000000 in
theorem loop_rt (t : EtF T) {o : Option (List S_explain_Step)} (hn : (lst o).length ≤ 200) (hk : ∀ x ∈ lst o, OkSt x) : ∀ (r : List S_explain_Step) (i : Nat) (acc : List UInt8) (H : Heap) (env : Env), (lst o).drop i = r → acc.length ≤ 4000 * i →
    env 0 = slV S_explain_StepE o → env 3 = immV 9 W9 → env 5 = .int .i64 i → env 4 = strV acc →
    W T (.loop F_ref31_Textl0) env H fun z e h => z = .exit 0 ∧ e 4 = strV (r.foldl lineM acc) := by
  intro r
  induction r with
  | nil =>
    intro i acc H env hr ha v0 v3 v5 v4
    have hi := drop_end hr
    have q : ¬ ((i : Int) < (lst o).length) := by omega
    rw [w_loop]
    simp only [fws, seval, cond_true, cond_false, if_true, if_false, unV, isNil, optI, iV, stepI, evalR, IntKind.bits, ini, lenI_sl, N_ref31_Text, v0, v5, q]
    exact ⟨trivial, v4⟩
  | cons p ps ih =>
    intro i acc H env hr ha v0 v3 v5 v4
    obtain ⟨hi, hp, hr2⟩ := drop_at hr
    have q : ((i : Int) < (lst o).length) := by omega
    have hxx := fun H => ix_sl (E := S_explain_StepE) (o := o) (n := 6) rfl hi .i64 H
    have hld := fun H => loadNI_at (E := S_explain_StepE) (n := 6) (H := H) rfl hi
    have hok : OkSt p := hk p (hp ▸ List.getElem_mem hi)
    rw [hp, S_explain_StepE_e] at hld
    have w2 : IntKind.i64.wrap ((i : Int) + 1) = ((i + 1 : Nat) : Int) := by rw [wrapI64 (by omega) (by omega)]; rfl
    have y0 : loadI (H ++ [stEn p]) (.pointer (some ⟨H.length, 0, none⟩)) = some (strV p.Space, H ++ [stEn p]) := by simp only [loadI_ptr, lk, cellsAt, tagOf, app_get0]; rfl
    have y1 : loadI (H ++ [stEn p]) (.pointer (some ⟨H.length, 1, none⟩)) = some (strV p.Name, H ++ [stEn p]) := by simp only [loadI_ptr, lk, cellsAt, tagOf, app_get0]; rfl
    have y2 : loadI (H ++ [stEn p]) (.pointer (some ⟨H.length, 2, none⟩)) = some (.int .i64 p.By, H ++ [stEn p]) := by simp only [loadI_ptr, lk, cellsAt, tagOf, app_get0]; rfl
    have y3 : loadI (H ++ [stEn p]) (.pointer (some ⟨H.length, 3, none⟩)) = some (strV p.Place, H ++ [stEn p]) := by simp only [loadI_ptr, lk, cellsAt, tagOf, app_get0]; rfl
    have y4 : loadI (H ++ [stEn p]) (.pointer (some ⟨H.length, 4, none⟩)) = some (.int .i64 p.What, H ++ [stEn p]) := by simp only [loadI_ptr, lk, cellsAt, tagOf, app_get0]; rfl
    have y5 : loadI (H ++ [stEn p]) (.pointer (some ⟨H.length, 5, none⟩)) = some (.int .i64 p.Inst, H ++ [stEn p]) := by simp only [loadI_ptr, lk, cellsAt, tagOf, app_get0]; rfl
    have c1 := f_rtext t.rt p.By hok.b
    have x1 := fun H => w9_ix H p.What
    have x2 := fun H => w9_ld H p.What
    have c3 := f_rtext t.rt p.Inst hok.i
    have h1 := hok.n
    have h2 := hok.s
    have h3 := textF_len p.By
    have h4 := wordM_len p.What
    have h5 := hok.p
    have h6 := textF_len p.Inst
    have h7 := headM_len hok
    have h8 := instM_len p (acc ++ headM p)
    have h9 := placeM_len hok (instM p (acc ++ headM p))
    have hlen : (acc ++ headM p).length = acc.length + (headM p).length := List.length_append
    have s32 : (⟨#[32]⟩ : ByteArray).size = 1 := rfl
    have s10 : (⟨#[10]⟩ : ByteArray).size = 1 := rfl
    have a32 : ∀ l : List UInt8, (⟨l.toArray⟩ : ByteArray) ++ ⟨#[32]⟩ = ⟨(l ++ [32]).toArray⟩ := fun l => append_str (m := [32])
    have b32 : ∀ l : List UInt8, (⟨#[32]⟩ : ByteArray) ++ ⟨l.toArray⟩ = ⟨([32] ++ l).toArray⟩ := fun l => append_str (l := [32])
    have a10 : ∀ l : List UInt8, (⟨l.toArray⟩ : ByteArray) ++ ⟨#[10]⟩ = ⟨(l ++ [10]).toArray⟩ := fun l => append_str (m := [10])
    have z1 : p.Space.length + 1 ≤ 9223372036854775807 := by omega
    have z2 : (p.Space ++ [32]).length + p.Name.length ≤ 9223372036854775807 := by simp only [List.length_append, List.length_cons, List.length_nil]; omega
    have z3 : ((p.Space ++ [32]) ++ p.Name).length + 1 ≤ 9223372036854775807 := by simp only [List.length_append, List.length_cons, List.length_nil]; omega
    have z4 : (((p.Space ++ [32]) ++ p.Name) ++ [32]).length + (textF p.By).length ≤ 9223372036854775807 := by simp only [List.length_append, List.length_cons, List.length_nil]; omega
    have z5 : ((((p.Space ++ [32]) ++ p.Name) ++ [32]) ++ textF p.By).length + 1 ≤ 9223372036854775807 := by simp only [List.length_append, List.length_cons, List.length_nil]; omega
    have z6 : (((((p.Space ++ [32]) ++ p.Name) ++ [32]) ++ textF p.By) ++ [32]).length + (wordM p.What).length ≤ 9223372036854775807 := by simp only [List.length_append, List.length_cons, List.length_nil]; omega
    have hh : ((((((p.Space ++ [32]) ++ p.Name) ++ [32]) ++ textF p.By) ++ [32]) ++ wordM p.What) = headM p := rfl
    have z7 : acc.length + (headM p).length ≤ 9223372036854775807 := by omega
    have z8 : 1 + (textF p.Inst).length ≤ 9223372036854775807 := by omega
    have z9 : (acc ++ headM p).length + ([32] ++ textF p.Inst).length ≤ 9223372036854775807 := by simp only [List.length_append, List.length_cons, List.length_nil] at hlen ⊢; omega
    have z10 : 1 + p.Place.length ≤ 9223372036854775807 := by omega
    have z11 : (instM p (acc ++ headM p)).length + ([32] ++ p.Place).length ≤ 9223372036854775807 := by simp only [List.length_append, List.length_cons, List.length_nil] at h8 ⊢; omega
    have z12 : (placeM p (instM p (acc ++ headM p))).length + 1 ≤ 9223372036854775807 := by simp only [List.length_append] at h8 h9 ⊢; omega
    have hfin : (lineM acc p).length ≤ 4000 * (i + 1) := by
      unfold lineM
      rw [List.length_append, List.length_cons, List.length_nil]
      omega
    rw [w_loop, List.foldl_cons]
    have key : ∀ (b1 b2 : Bool), decide (p.Inst = 0) = b1 → strEq ⟨p.Place.toArray⟩ ⟨#[]⟩ = b2 →
        (bif b1 then acc ++ headM p else (acc ++ headM p) ++ ([32] ++ textF p.Inst)) = instM p (acc ++ headM p) → (bif b2 then instM p (acc ++ headM p) else instM p (acc ++ headM p) ++ ([32] ++ p.Place)) = placeM p (instM p (acc ++ headM p)) →
        W T F_ref31_Textl0 env H (seqQ T F_ref31_Textl0.loop fun z e h => z = .exit 0 ∧ e 4 = strV (ps.foldl lineM (lineM acc p))) := by
      intro b1 b2 e1 e2 g1 g2
      have dropl : (placeM p (instM p (acc ++ headM p))) ++ [10] = lineM acc p := rfl
      generalize headM p = hd at *
      generalize hI : instM p (acc ++ hd) = ip at *
      generalize hP : placeM p ip = pp at *
      by_cases k1 : p.What < 1
      · have hk0 : kW p.What = 0 := by unfold kW; rw [if_pos (.inl k1)]
        rw [hk0] at x1
        cases b1 <;> cases b2 <;> simp only [cond_true, cond_false] at g1 g2
        all_goals
          simp only [fws, seval, cond_true, cond_false, if_true, if_false, unV, isNil, optI, iV, stepI, evalR, IntKind.bits, ini, fwh, lk, cellsAt, tagOf, spotOf, rdN, spl, fillL, zr, lenI_sl, F_ref31_Textr0b, F_ref31_Textr0_W, F_ref31_Textr1b, F_ref31_Textr1_W, F_ref31_Textr2b, F_ref31_Textr2_W, F_ref31_Textr3b, F_ref31_Textr3_W, F_ref31_Textr4b, F_ref31_Textr4_W, F_ref31_Textr6b, F_ref31_Textr6_W, F_ref31_Textr7b, F_ref31_Textr8b, F_ref31_Textr9b, F_ref31_Textr10b, F_ref31_Textr11b, F_ref31_Textr12b, F_ref31_Textr13b, F_ref31_Textr14b, F_ref31_Textr15b, F_ref31_Textr5b, F_ref31_Textl0b, F_ref31_Textl0_W, F_ref31_Textr16b, F_ref31_Textr16_W, F_ref31_Textcb, F_ref31_Textc_W, v0, v5, q, hxx, hld]
          simp only [fws, seval, cond_true, cond_false, if_true, if_false, unV, isNil, optI, iV, stepI, evalR, IntKind.bits, ini, faI_ptr, Nat.zero_add, size_str, append_str, s32, s10, a32, b32, a10, N_ref31_Text, v3, v4, v5, y0, y1, y2, y3, y4, y5, CC_of c1, CC_of c3, k1, x1, x2, z1, z2, z3, z4, z5, z6, z7, z8, z9, z10, z11, z12, hh, e1, e2, g1, g2, dropl, w2]
          refine ih (i + 1) _ _ _ hr2 hfin ?_ ?_ ?_ ?_
          all_goals (first | assumption | rfl)
      · by_cases k2 : 8 < p.What
        · have hk0 : kW p.What = 0 := by unfold kW; rw [if_pos (.inr k2)]
          rw [hk0] at x1
          cases b1 <;> cases b2 <;> simp only [cond_true, cond_false] at g1 g2
          all_goals
            simp only [fws, seval, cond_true, cond_false, if_true, if_false, unV, isNil, optI, iV, stepI, evalR, IntKind.bits, ini, fwh, lk, cellsAt, tagOf, spotOf, rdN, spl, fillL, zr, lenI_sl, F_ref31_Textr0b, F_ref31_Textr0_W, F_ref31_Textr1b, F_ref31_Textr1_W, F_ref31_Textr2b, F_ref31_Textr2_W, F_ref31_Textr3b, F_ref31_Textr3_W, F_ref31_Textr4b, F_ref31_Textr4_W, F_ref31_Textr6b, F_ref31_Textr6_W, F_ref31_Textr7b, F_ref31_Textr8b, F_ref31_Textr9b, F_ref31_Textr10b, F_ref31_Textr11b, F_ref31_Textr12b, F_ref31_Textr13b, F_ref31_Textr14b, F_ref31_Textr15b, F_ref31_Textr5b, F_ref31_Textl0b, F_ref31_Textl0_W, F_ref31_Textr16b, F_ref31_Textr16_W, F_ref31_Textcb, F_ref31_Textc_W, v0, v5, q, hxx, hld]
            simp only [fws, seval, cond_true, cond_false, if_true, if_false, unV, isNil, optI, iV, stepI, evalR, IntKind.bits, ini, faI_ptr, Nat.zero_add, size_str, append_str, s32, s10, a32, b32, a10, N_ref31_Text, v3, v4, v5, y0, y1, y2, y3, y4, y5, CC_of c1, CC_of c3, k1, k2, x1, x2, z1, z2, z3, z4, z5, z6, z7, z8, z9, z10, z11, z12, hh, e1, e2, g1, g2, dropl, w2]
            refine ih (i + 1) _ _ _ hr2 hfin ?_ ?_ ?_ ?_
            all_goals (first | assumption | rfl)
        · have hk0 : kW p.What = p.What := by unfold kW; rw [if_neg (by omega)]
          rw [hk0] at x1
          cases b1 <;> cases b2 <;> simp only [cond_true, cond_false] at g1 g2
          all_goals
            simp only [fws, seval, cond_true, cond_false, if_true, if_false, unV, isNil, optI, iV, stepI, evalR, IntKind.bits, ini, fwh, lk, cellsAt, tagOf, spotOf, rdN, spl, fillL, zr, lenI_sl, F_ref31_Textr0b, F_ref31_Textr0_W, F_ref31_Textr1b, F_ref31_Textr1_W, F_ref31_Textr2b, F_ref31_Textr2_W, F_ref31_Textr3b, F_ref31_Textr3_W, F_ref31_Textr4b, F_ref31_Textr4_W, F_ref31_Textr6b, F_ref31_Textr6_W, F_ref31_Textr7b, F_ref31_Textr8b, F_ref31_Textr9b, F_ref31_Textr10b, F_ref31_Textr11b, F_ref31_Textr12b, F_ref31_Textr13b, F_ref31_Textr14b, F_ref31_Textr15b, F_ref31_Textr5b, F_ref31_Textl0b, F_ref31_Textl0_W, F_ref31_Textr16b, F_ref31_Textr16_W, F_ref31_Textcb, F_ref31_Textc_W, v0, v5, q, hxx, hld]
            simp only [fws, seval, cond_true, cond_false, if_true, if_false, unV, isNil, optI, iV, stepI, evalR, IntKind.bits, ini, faI_ptr, Nat.zero_add, size_str, append_str, s32, s10, a32, b32, a10, N_ref31_Text, v3, v4, v5, y0, y1, y2, y3, y4, y5, CC_of c1, CC_of c3, k1, k2, x1, x2, z1, z2, z3, z4, z5, z6, z7, z8, z9, z10, z11, z12, hh, e1, e2, g1, g2, dropl, w2]
            refine ih (i + 1) _ _ _ hr2 hfin ?_ ?_ ?_ ?_
            all_goals (first | assumption | rfl)
    by_cases e1 : p.Inst = 0
    · by_cases e2 : p.Place = []
      · exact key true true (decide_eq_true e1) (nil_str e2) (by unfold instM; rw [if_pos e1]; rfl) (by unfold placeM; rw [if_pos e2]; rfl)
      · exact key true false (decide_eq_true e1) (ne_str e2) (by unfold instM; rw [if_pos e1]; rfl) (by unfold placeM; rw [if_neg e2]; rfl)
    · by_cases e2 : p.Place = []
      · exact key false true (decide_eq_false e1) (nil_str e2) (by unfold instM; rw [if_neg e1]; rfl) (by unfold placeM; rw [if_pos e2]; rfl)
      · exact key false false (decide_eq_false e1) (ne_str e2) (by unfold instM; rw [if_neg e1]; rfl) (by unfold placeM; rw [if_neg e2]; rfl)
theorem f_et (t : EtF T) {o : Option (List S_explain_Step)} (hn : (lst o).length ≤ 200) (hk : ∀ x ∈ lst o, OkSt x) : FnV T 5 [slV S_explain_StepE o] (strV (textM (lst o))) := by
  refine FnV_of (by simp [pure_sl (E := S_explain_StepE) (o := o) (k := 6) rfl]) ?_
  rw [Ev_fn t.et rfl]
  simp only [F_explain_Text, fws, seval, cond_true, cond_false, if_true, if_false, unV, isNil, optI, iV, stepI, evalR, IntKind.bits, ini, lenI_sl, F_explain_Textr0b, F_explain_Textr0_W, F_explain_Textr1b, F_explain_Textr1_W, F_explain_Textr2b, F_explain_Textr2_W, F_explain_Textr3b, F_explain_Textr3_W, F_explain_Textr4b, F_explain_Textr4_W, F_explain_Textr5b, F_explain_Textr5_W, F_explain_Textr6b, F_explain_Textr6_W, F_explain_Textr7b, F_explain_Textr7_W, F_explain_Textr8b, F_explain_Textr8_W, F_explain_Textr9b, F_explain_Textr9_W, F_explain_Textr10b, F_explain_Textr10_W, F_explain_Textr11b, F_explain_Textr11_W, F_explain_Textl0b, F_explain_Textr12b, F_explain_Textr12_W, F_explain_Textcb, F_explain_Textc_W]
  refine W.mono (loop_et t hn hk (lst o) 0 [] _ _ rfl (by simp) ?_ ?_ ?_ ?_) fun z e h ⟨g1, g2⟩ => ?_
  · (first | assumption | rfl)
  · (first | assumption | rfl)
  · (first | assumption | rfl)
  · (first | assumption | rfl)
  subst g1
  simp only [fws, seval, cond_true, cond_false, if_true, if_false, unV, isNil, optI, iV, stepI, evalR, IntKind.bits, ini, N_explain_Text, g2]
  rfl
theorem f_rt (t : EtF T) {o : Option (List S_explain_Step)} (hn : (lst o).length ≤ 200) (hk : ∀ x ∈ lst o, OkSt x) : FnV T 6 [slV S_explain_StepE o] (strV (textM (lst o))) := by
  refine FnV_of (by simp [pure_sl (E := S_explain_StepE) (o := o) (k := 6) rfl]) ?_
  rw [Ev_fn t.rx rfl]
  simp only [F_ref31_Text, fws, seval, cond_true, cond_false, if_true, if_false, unV, isNil, optI, iV, stepI, evalR, IntKind.bits, ini, fwh, lk, cellsAt, tagOf, spotOf, rdN, spl, fillL, zr, F_ref31_Textr0b, F_ref31_Textr0_W, F_ref31_Textr1b, F_ref31_Textr1_W, F_ref31_Textr2b, F_ref31_Textr2_W, F_ref31_Textr3b, F_ref31_Textr3_W, F_ref31_Textr4b, F_ref31_Textr4_W, F_ref31_Textr6b, F_ref31_Textr6_W, F_ref31_Textr7b, F_ref31_Textr7_W, F_ref31_Textr8b, F_ref31_Textr8_W, F_ref31_Textr8_g2, F_ref31_Textr9b, F_ref31_Textr9_W, F_ref31_Textr10b, F_ref31_Textr10_W, F_ref31_Textr11b, F_ref31_Textr11_W, F_ref31_Textr12b, F_ref31_Textr12_W, F_ref31_Textr13b, F_ref31_Textr13_W, F_ref31_Textr14b, F_ref31_Textr14_W, F_ref31_Textr15b, F_ref31_Textr15_W, F_ref31_Textr5b, F_ref31_Textr5_W, F_ref31_Textl0b, F_ref31_Textr16b, F_ref31_Textr16_W, F_ref31_Textcb, F_ref31_Textc_W]
  refine W.mono (loop_rt t hn hk (lst o) 0 [] _ _ rfl (by simp) ?_ ?_ ?_ ?_) fun z e h ⟨g1, g2⟩ => ?_
  · (first | assumption | rfl)
  · (first | assumption | rfl)
  · (first | assumption | rfl)
  · (first | assumption | rfl)
  subst g1
  simp only [fws, seval, cond_true, cond_false, if_true, if_false, unV, isNil, optI, iV, stepI, evalR, IntKind.bits, ini, N_ref31_Text, g2]
  rfl
end
end Go.Proofs.YtdjgknlhpdnhbaaGreatDoor
/- The counters, the list anew, and the whole law. -/
namespace Go.Proofs.YtdjgknlhpdnhbaaGreatDoor
open Go Fw
set_option linter.unusedSimpArgs false
set_option linter.unusedVariables false
set_option linter.unusedSectionVars false

def cA (n : Nat) (x : S_explain_Step) : Nat := if 3 ≤ x.What ∧ x.What ≤ 7 then n + 1 else n
def cN (n : Nat) (x : S_explain_Step) : Nat := if x.What = 3 then n + 1 else n
theorem cA_le (n : Nat) (x : S_explain_Step) : cA n x ≤ n + 1 := by unfold cA; split <;> omega
theorem cN_le (n : Nat) (x : S_explain_Step) : cN n x ≤ n + 1 := by unfold cN; split <;> omega
theorem lenI_str {H : Heap} {l : List UInt8} : lenI H 0 (strV l) = some (.int .i64 l.length, H) := rfl
section
variable {T : Tab}
set_option maxHeartbeats 4000000 in
theorem loop_tried {o : Option (List S_explain_Step)} (hn : (lst o).length ≤ 200) : ∀ (r : List S_explain_Step) (i a b : Nat) (H : Heap) (env : Env), (lst o).drop i = r → a ≤ i → b ≤ i →
    env 8 = slV S_explain_StepE o → env 9 = .int .i64 (lst o).length → env 10 = .int .i64 i → env 4 = .int .i64 a → env 5 = .int .i64 b →
    W T (.loop F_explain_Triedl0) env H fun z e h => z = .exit 0 ∧ e 4 = .int .i64 ((r.foldl cA a : Nat) : Int) ∧ e 5 = .int .i64 ((r.foldl cN b : Nat) : Int) := by
  intro r
  induction r with
  | nil =>
    intro i a b H env hr ha hb v8 v9 v10 v4 v5
    have hi := drop_end hr
    have q : ¬ ((i : Int) < (lst o).length) := by omega
    rw [w_loop]
    simp only [fws, seval, cond_true, cond_false, if_true, if_false, unV, isNil, optI, iV, stepI, evalR, IntKind.bits, ini, N_explain_Tried, v9, v10, q]
    exact ⟨trivial, v4, v5⟩
  | cons p ps ih =>
    intro i a b H env hr ha hb v8 v9 v10 v4 v5
    obtain ⟨hi, hp, hr2⟩ := drop_at hr
    have q : ((i : Int) < (lst o).length) := by omega
    have hxx := fun H => ix_sl (E := S_explain_StepE) (o := o) (n := 6) rfl hi .i64 H
    have hld := fun H => loadNI_at (E := S_explain_StepE) (n := 6) (H := H) rfl hi
    rw [hp, S_explain_StepE_e] at hld
    have w2 : IntKind.i64.wrap ((i : Int) + 1) = ((i + 1 : Nat) : Int) := by rw [wrapI64 (by omega) (by omega)]; rfl
    have wa : IntKind.i64.wrap ((a : Int) + 1) = ((a + 1 : Nat) : Int) := by rw [wrapI64 (by omega) (by omega)]; rfl
    have wb : IntKind.i64.wrap ((b : Int) + 1) = ((b + 1 : Nat) : Int) := by rw [wrapI64 (by omega) (by omega)]; rfl
    have y4 : loadI (H ++ [stEn p]) (.pointer (some ⟨H.length, 4, none⟩)) = some (.int .i64 p.What, H ++ [stEn p]) := by simp only [loadI_ptr, lk, cellsAt, tagOf, app_get0]; rfl
    rw [w_loop, List.foldl_cons, List.foldl_cons]
    by_cases k3 : p.What = 3
    · have d3 : decide (p.What = 3) = true := decide_eq_true k3
      have ea : cA a p = a + 1 := if_pos ⟨by omega, by omega⟩
      have eb : cN b p = b + 1 := if_pos k3
      rw [ea, eb]
      simp only [fws, seval, cond_true, cond_false, if_true, if_false, unV, isNil, optI, iV, stepI, evalR, IntKind.bits, ini, fwh, lk, cellsAt, tagOf, spotOf, rdN, spl, fillL, zr, F_explain_Triedr0b, F_explain_Triedr0_W, F_explain_Triedr1b, F_explain_Triedr1_W, F_explain_Triedr2b, F_explain_Triedr2_W, F_explain_Triedr3b, F_explain_Triedr3_W, F_explain_Triedr4b, F_explain_Triedr4_W, F_explain_Triedr5b, F_explain_Triedr6b, F_explain_Triedr7b, F_explain_Triedr8b, F_explain_Triedr9b, F_explain_Triedr9_W, F_explain_Triedr10b, F_explain_Triedr10_W, F_explain_Triedr11b, F_explain_Triedr11_W, F_explain_Triedr12b, F_explain_Triedr12_W, F_explain_Triedr13b, F_explain_Triedr13_W, F_explain_Triedr14b, F_explain_Triedl0b, F_explain_Triedl0_W, F_explain_Triedr15b, F_explain_Triedr15_W, F_explain_Triedcb, F_explain_Triedc_W, v8, v9, v10, q, hxx, hld]
      simp only [fws, seval, cond_true, cond_false, if_true, if_false, unV, isNil, optI, iV, stepI, evalR, IntKind.bits, ini, faI_ptr, Nat.zero_add, N_explain_Tried, v4, v5, v10, y4, d3, w2, wa, wb]
      refine ih (i + 1) (a + 1) (b + 1) _ _ hr2 (by omega) (by omega) ?_ ?_ ?_ ?_ ?_
      all_goals (first | assumption | rfl)
    · have d3 : decide (p.What = 3) = false := decide_eq_false k3
      have eb : cN b p = b := if_neg k3
      by_cases k4 : p.What = 4
      · have d4 : decide (p.What = 4) = true := decide_eq_true k4
        have ea : cA a p = a + 1 := if_pos ⟨by omega, by omega⟩
        rw [ea, eb]
        simp only [fws, seval, cond_true, cond_false, if_true, if_false, unV, isNil, optI, iV, stepI, evalR, IntKind.bits, ini, fwh, lk, cellsAt, tagOf, spotOf, rdN, spl, fillL, zr, F_explain_Triedr0b, F_explain_Triedr0_W, F_explain_Triedr1b, F_explain_Triedr1_W, F_explain_Triedr2b, F_explain_Triedr2_W, F_explain_Triedr3b, F_explain_Triedr3_W, F_explain_Triedr4b, F_explain_Triedr4_W, F_explain_Triedr5b, F_explain_Triedr6b, F_explain_Triedr7b, F_explain_Triedr7_W, F_explain_Triedr8b, F_explain_Triedr8_W, F_explain_Triedr9b, F_explain_Triedr10b, F_explain_Triedr10_W, F_explain_Triedr11b, F_explain_Triedr11_W, F_explain_Triedr12b, F_explain_Triedr12_W, F_explain_Triedr13b, F_explain_Triedr14b, F_explain_Triedl0b, F_explain_Triedl0_W, F_explain_Triedr15b, F_explain_Triedr15_W, F_explain_Triedcb, F_explain_Triedc_W, v8, v9, v10, q, hxx, hld]
        simp only [fws, seval, cond_true, cond_false, if_true, if_false, unV, isNil, optI, iV, stepI, evalR, IntKind.bits, ini, faI_ptr, Nat.zero_add, N_explain_Tried, v4, v5, v10, y4, d3, d4, w2, wa, wb]
        refine ih (i + 1) (a + 1) b _ _ hr2 (by omega) (by omega) ?_ ?_ ?_ ?_ ?_
        all_goals (first | assumption | rfl)
      · have d4 : decide (p.What = 4) = false := decide_eq_false k4
        by_cases k5 : p.What = 5
        · have d5 : decide (p.What = 5) = true := decide_eq_true k5
          have ea : cA a p = a + 1 := if_pos ⟨by omega, by omega⟩
          rw [ea, eb]
          simp only [fws, seval, cond_true, cond_false, if_true, if_false, unV, isNil, optI, iV, stepI, evalR, IntKind.bits, ini, fwh, lk, cellsAt, tagOf, spotOf, rdN, spl, fillL, zr, F_explain_Triedr0b, F_explain_Triedr0_W, F_explain_Triedr1b, F_explain_Triedr1_W, F_explain_Triedr2b, F_explain_Triedr2_W, F_explain_Triedr3b, F_explain_Triedr3_W, F_explain_Triedr4b, F_explain_Triedr4_W, F_explain_Triedr5b, F_explain_Triedr6b, F_explain_Triedr7b, F_explain_Triedr7_W, F_explain_Triedr8b, F_explain_Triedr8_W, F_explain_Triedr9b, F_explain_Triedr10b, F_explain_Triedr11b, F_explain_Triedr11_W, F_explain_Triedr12b, F_explain_Triedr12_W, F_explain_Triedr13b, F_explain_Triedr14b, F_explain_Triedl0b, F_explain_Triedl0_W, F_explain_Triedr15b, F_explain_Triedr15_W, F_explain_Triedcb, F_explain_Triedc_W, v8, v9, v10, q, hxx, hld]
          simp only [fws, seval, cond_true, cond_false, if_true, if_false, unV, isNil, optI, iV, stepI, evalR, IntKind.bits, ini, faI_ptr, Nat.zero_add, N_explain_Tried, v4, v5, v10, y4, d3, d4, d5, w2, wa, wb]
          refine ih (i + 1) (a + 1) b _ _ hr2 (by omega) (by omega) ?_ ?_ ?_ ?_ ?_
          all_goals (first | assumption | rfl)
        · have d5 : decide (p.What = 5) = false := decide_eq_false k5
          by_cases k6 : p.What = 6
          · have d6 : decide (p.What = 6) = true := decide_eq_true k6
            have ea : cA a p = a + 1 := if_pos ⟨by omega, by omega⟩
            rw [ea, eb]
            simp only [fws, seval, cond_true, cond_false, if_true, if_false, unV, isNil, optI, iV, stepI, evalR, IntKind.bits, ini, fwh, lk, cellsAt, tagOf, spotOf, rdN, spl, fillL, zr, F_explain_Triedr0b, F_explain_Triedr0_W, F_explain_Triedr1b, F_explain_Triedr1_W, F_explain_Triedr2b, F_explain_Triedr2_W, F_explain_Triedr3b, F_explain_Triedr3_W, F_explain_Triedr4b, F_explain_Triedr4_W, F_explain_Triedr5b, F_explain_Triedr6b, F_explain_Triedr7b, F_explain_Triedr7_W, F_explain_Triedr8b, F_explain_Triedr8_W, F_explain_Triedr9b, F_explain_Triedr10b, F_explain_Triedr11b, F_explain_Triedr12b, F_explain_Triedr12_W, F_explain_Triedr13b, F_explain_Triedr14b, F_explain_Triedl0b, F_explain_Triedl0_W, F_explain_Triedr15b, F_explain_Triedr15_W, F_explain_Triedcb, F_explain_Triedc_W, v8, v9, v10, q, hxx, hld]
            simp only [fws, seval, cond_true, cond_false, if_true, if_false, unV, isNil, optI, iV, stepI, evalR, IntKind.bits, ini, faI_ptr, Nat.zero_add, N_explain_Tried, v4, v5, v10, y4, d3, d4, d5, d6, w2, wa, wb]
            refine ih (i + 1) (a + 1) b _ _ hr2 (by omega) (by omega) ?_ ?_ ?_ ?_ ?_
            all_goals (first | assumption | rfl)
          · have d6 : decide (p.What = 6) = false := decide_eq_false k6
            by_cases k7 : p.What = 7
            · have d7 : decide (p.What = 7) = true := decide_eq_true k7
              have ea : cA a p = a + 1 := if_pos ⟨by omega, by omega⟩
              rw [ea, eb]
              simp only [fws, seval, cond_true, cond_false, if_true, if_false, unV, isNil, optI, iV, stepI, evalR, IntKind.bits, ini, fwh, lk, cellsAt, tagOf, spotOf, rdN, spl, fillL, zr, F_explain_Triedr0b, F_explain_Triedr0_W, F_explain_Triedr1b, F_explain_Triedr1_W, F_explain_Triedr2b, F_explain_Triedr2_W, F_explain_Triedr3b, F_explain_Triedr3_W, F_explain_Triedr4b, F_explain_Triedr4_W, F_explain_Triedr5b, F_explain_Triedr6b, F_explain_Triedr7b, F_explain_Triedr7_W, F_explain_Triedr8b, F_explain_Triedr8_W, F_explain_Triedr9b, F_explain_Triedr10b, F_explain_Triedr11b, F_explain_Triedr12b, F_explain_Triedr13b, F_explain_Triedr14b, F_explain_Triedl0b, F_explain_Triedl0_W, F_explain_Triedr15b, F_explain_Triedr15_W, F_explain_Triedcb, F_explain_Triedc_W, v8, v9, v10, q, hxx, hld]
              simp only [fws, seval, cond_true, cond_false, if_true, if_false, unV, isNil, optI, iV, stepI, evalR, IntKind.bits, ini, faI_ptr, Nat.zero_add, N_explain_Tried, v4, v5, v10, y4, d3, d4, d5, d6, d7, w2, wa, wb]
              refine ih (i + 1) (a + 1) b _ _ hr2 (by omega) (by omega) ?_ ?_ ?_ ?_ ?_
              all_goals (first | assumption | rfl)
            · have d7 : decide (p.What = 7) = false := decide_eq_false k7
              have ea : cA a p = a := if_neg (by omega)
              rw [ea, eb]
              simp only [fws, seval, cond_true, cond_false, if_true, if_false, unV, isNil, optI, iV, stepI, evalR, IntKind.bits, ini, fwh, lk, cellsAt, tagOf, spotOf, rdN, spl, fillL, zr, F_explain_Triedr0b, F_explain_Triedr0_W, F_explain_Triedr1b, F_explain_Triedr1_W, F_explain_Triedr2b, F_explain_Triedr2_W, F_explain_Triedr3b, F_explain_Triedr3_W, F_explain_Triedr4b, F_explain_Triedr4_W, F_explain_Triedr5b, F_explain_Triedr6b, F_explain_Triedr7b, F_explain_Triedr7_W, F_explain_Triedr8b, F_explain_Triedr8_W, F_explain_Triedr9b, F_explain_Triedr10b, F_explain_Triedr11b, F_explain_Triedr12b, F_explain_Triedr13b, F_explain_Triedr14b, F_explain_Triedl0b, F_explain_Triedl0_W, F_explain_Triedr15b, F_explain_Triedr15_W, F_explain_Triedcb, F_explain_Triedc_W, v8, v9, v10, q, hxx, hld]
              simp only [fws, seval, cond_true, cond_false, if_true, if_false, unV, isNil, optI, iV, stepI, evalR, IntKind.bits, ini, faI_ptr, Nat.zero_add, N_explain_Tried, v4, v5, v10, y4, d3, d4, d5, d6, d7, w2, wa, wb]
              refine ih (i + 1) a b _ _ hr2 (by omega) (by omega) ?_ ?_ ?_ ?_ ?_
              all_goals (first | assumption | rfl)
theorem f_tried (t : EtF T) {o : Option (List S_explain_Step)} (hn : (lst o).length ≤ 200) :
    FnV T 4 [slV S_explain_StepE o] (.tuple #[.int .i64 (((lst o).foldl cA 0 : Nat) : Int), .int .i64 (((lst o).foldl cN 0 : Nat) : Int)]) := by
  refine FnV_of (by simp [pure_sl (E := S_explain_StepE) (o := o) (k := 6) rfl]) ?_
  rw [Ev_fn t.tr rfl]
  simp only [F_explain_Tried, fws, seval, cond_true, cond_false, if_true, if_false, unV, isNil, optI, iV, stepI, evalR, IntKind.bits, ini, lenI_sl, F_explain_Triedr0b, F_explain_Triedr0_W, F_explain_Triedr1b, F_explain_Triedr1_W, F_explain_Triedr2b, F_explain_Triedr2_W, F_explain_Triedr3b, F_explain_Triedr3_W, F_explain_Triedr4b, F_explain_Triedr4_W, F_explain_Triedr5b, F_explain_Triedr5_W, F_explain_Triedr6b, F_explain_Triedr6_W, F_explain_Triedr7b, F_explain_Triedr7_W, F_explain_Triedr8b, F_explain_Triedr8_W, F_explain_Triedr9b, F_explain_Triedr9_W, F_explain_Triedr10b, F_explain_Triedr10_W, F_explain_Triedr11b, F_explain_Triedr11_W, F_explain_Triedr12b, F_explain_Triedr12_W, F_explain_Triedr13b, F_explain_Triedr13_W, F_explain_Triedr14b, F_explain_Triedr14_W, F_explain_Triedl0b, F_explain_Triedr15b, F_explain_Triedr15_W, F_explain_Triedcb, F_explain_Triedc_W]
  refine W.mono (loop_tried hn (lst o) 0 0 0 _ _ rfl (Nat.le_refl _) (Nat.le_refl _) ?_ ?_ ?_ ?_ ?_) fun z e h ⟨g1, g2, g3⟩ => ?_
  · (first | assumption | rfl)
  · (first | assumption | rfl)
  · (first | assumption | rfl)
  · (first | assumption | rfl)
  · (first | assumption | rfl)
  subst g1
  simp only [fws, seval, cond_true, cond_false, if_true, if_false, unV, isNil, optI, iV, stepI, evalR, IntKind.bits, ini, N_explain_Tried, g2, g3]
  rfl
theorem loop_st {o : Option (List S_explain_Step)} (hn : (lst o).length ≤ 200) : ∀ (r : List S_explain_Step) (i : Nat) (acc : List S_explain_Step) (v : Value) (H : Heap) (env : Env), (lst o).drop i = r → Own S_explain_StepE H v acc → acc.length ≤ i →
    env 0 = slV S_explain_StepE o → env 3 = v → env 4 = .int .i64 i →
    W T (.loop F_law31_stepsl0) env H fun z e h => z = .exit 0 ∧ Own S_explain_StepE h (e 3) (acc ++ r) := by
  intro r
  induction r with
  | nil =>
    intro i acc v H env hr hS ha v0 v3 v4
    have hi := drop_end hr
    have q : ¬ ((i : Int) < (lst o).length) := by omega
    rw [w_loop, List.append_nil]
    simp only [fws, seval, cond_true, cond_false, if_true, if_false, unV, isNil, optI, iV, stepI, evalR, IntKind.bits, ini, fwi, N_law31_steps, v0, v4, lenI_sl, q]
    refine ⟨trivial, ?_⟩
    show Own S_explain_StepE H (env 3) acc
    rw [v3]; exact hS
  | cons p ps ih =>
    intro i acc v H env hr hS ha v0 v3 v4
    obtain ⟨hi, hp, hr2⟩ := drop_at hr
    have q : ((i : Int) < (lst o).length) := by omega
    have hxx := fun H => ix_sl (E := S_explain_StepE) (o := o) (n := 6) rfl hi .i64 H
    have hat : atI S_explain_StepE (lst o) i = iptrV (S_explain_StepE.e p ++ S_explain_StepE.cs ((lst o).drop (i + 1))) := by rw [at_cons hi, hp]
    rw [S_explain_StepE_e] at hat
    have w2 : IntKind.i64.wrap ((i : Int) + 1) = ((i + 1 : Nat) : Int) := by rw [wrapI64 (by omega) (by omega)]; rfl
    have hl : acc.length ≤ 200 := by omega
    obtain ⟨v', H', a1, a2, _⟩ := hS.app (m := [p]) (n := 6) (eb := 72) (k := 1) rfl rfl (by simp only [List.length_cons, List.length_nil]; omega)
    have a1' : appV 6 72 H v [strV p.Space, strV p.Name, .int .i64 p.By, strV p.Place, .int .i64 p.What, .int .i64 p.Inst] 1 = some (v', H') := a1
    have sr : ∀ H, srcOf H 6 (immV 1 [strV p.Space, strV p.Name, .int .i64 p.By, strV p.Place, .int .i64 p.What, .int .i64 p.Inst]) = some ([strV p.Space, strV p.Name, .int .i64 p.By, strV p.Place, .int .i64 p.What, .int .i64 p.Inst], 1) := fun H => rfl
    have ecs : (acc ++ [p]) ++ ps = acc ++ p :: ps := by simp
    rw [w_loop]
    simp only [fws, seval, cond_true, cond_false, if_true, if_false, unV, isNil, optI, iV, stepI, evalR, IntKind.bits, ini, fwh, lk, cellsAt, tagOf, spotOf, rdN, spl, fillL, zr, fwi, N_law31_steps, v0, v3, v4, lenI_sl, q, hxx, hat, sr, a1', w2]
    rw [← ecs]
    refine ih (i + 1) _ v' _ _ hr2 a2 (by simp only [List.length_append, List.length_cons, List.length_nil]; omega) ?_ ?_ ?_
    all_goals (first | assumption | rfl)
theorem f_st (t : EtF T) {o : Option (List S_explain_Step)} (hn : (lst o).length ≤ 200) : ∃ o', lst o' = lst o ∧ FnV T 7 [slV S_explain_StepE o] (slV S_explain_StepE o') := by
  have key : Ev T 7 [slV S_explain_StepE o] [] fun v h => Own S_explain_StepE h v (lst o) := by
    rw [Ev_fn t.st rfl]
    simp only [F_law31_steps, fws, seval, cond_true, cond_false, if_true, if_false, unV, isNil, optI, iV, stepI, evalR, IntKind.bits, ini, fwh, lk, cellsAt, tagOf, spotOf, rdN, spl, fillL, zr, F_law31_stepsr0b, F_law31_stepsr0_W, F_law31_stepsr1b, F_law31_stepsr1_W, F_law31_stepsr2b, F_law31_stepsr2_W, F_law31_stepsr3b, F_law31_stepsr3_W, F_law31_stepsr5b, F_law31_stepsr5_W, F_law31_stepsr4b, F_law31_stepsr4_W, F_law31_stepsl0b, F_law31_stepsr6b, F_law31_stepsr6_W, F_law31_stepscb, F_law31_stepsc_W]
    refine W.mono (loop_st hn (lst o) 0 [] (.slice none 0 0) _ _ rfl Own.nil (by simp) ?_ ?_ ?_) fun z e h ⟨g1, g2⟩ => ?_
    · (first | assumption | rfl)
    · (first | assumption | rfl)
    · (first | assumption | rfl)
    subst g1
    simp only [fws, seval, cond_true, cond_false, if_true, if_false, unV, isNil, optI, iV, stepI, evalR, IntKind.bits, ini, N_law31_steps]
    exact g2
  obtain ⟨n, v, h, h1, h2⟩ := key
  obtain ⟨o', ho, hf⟩ := Own.frzo h2 (k := 7) (by decide)
  exact ⟨o', ho, by simp [pure_sl (E := S_explain_StepE) (o := o) (k := 6) rfl], n, v, h, h1, hf⟩
set_option maxHeartbeats 4000000 in
theorem loop_guard {o : Option (List S_explain_Step)} (hn : (lst o).length ≤ 200) (hw : ∀ x ∈ lst o, x.By ≤ 9223372036854775807 ∧ x.Inst ≤ 9223372036854775807) : ∀ (r : List S_explain_Step) (i a b : Nat) (H : Heap) (env : Env), (lst o).drop i = r → a ≤ i → b ≤ i →
    env 0 = slV S_explain_StepE o → env 5 = .int .i64 i → env 3 = .int .i64 a → env 4 = .int .i64 b →
    W T (.loop F_law31_ExplainTextsl0) env H fun z e h => (z = .ret ∧ e 2 = .bool true) ∨ (z = .exit 0 ∧ (∀ x ∈ r, OkSt x) ∧ e 0 = slV S_explain_StepE o ∧ e 3 = .int .i64 ((r.foldl cA a : Nat) : Int) ∧ e 4 = .int .i64 ((r.foldl cN b : Nat) : Int)) := by
  intro r
  induction r with
  | nil =>
    intro i a b H env hr ha hb v0 v5 v3 v4
    have hi := drop_end hr
    have q : ¬ ((i : Int) < (lst o).length) := by omega
    rw [w_loop]
    simp only [fws, seval, cond_true, cond_false, if_true, if_false, unV, isNil, optI, iV, stepI, evalR, IntKind.bits, ini, fwi, N_law31_ExplainTexts, v0, v5, lenI_sl, q]
    exact .inr ⟨trivial, fun x hx => (by cases hx), trivial, v3, v4⟩
  | cons p ps ih =>
    intro i a b H env hr ha hb v0 v5 v3 v4
    obtain ⟨hi, hp, hr2⟩ := drop_at hr
    have q : ((i : Int) < (lst o).length) := by omega
    have hxx := fun H => ix_sl (E := S_explain_StepE) (o := o) (n := 6) rfl hi .i64 H
    have hat : atI S_explain_StepE (lst o) i = iptrV (S_explain_StepE.e p ++ S_explain_StepE.cs ((lst o).drop (i + 1))) := by rw [at_cons hi, hp]
    rw [S_explain_StepE_e] at hat
    have hwp := hw p (hp ▸ List.getElem_mem hi)
    have w2 : IntKind.i64.wrap ((i : Int) + 1) = ((i + 1 : Nat) : Int) := by rw [wrapI64 (by omega) (by omega)]; rfl
    have wa : IntKind.i64.wrap ((a : Int) + 1) = ((a + 1 : Nat) : Int) := by rw [wrapI64 (by omega) (by omega)]; rfl
    have wb : IntKind.i64.wrap ((b : Int) + 1) = ((b + 1 : Nat) : Int) := by rw [wrapI64 (by omega) (by omega)]; rfl
    rw [w_loop, List.foldl_cons, List.foldl_cons]
    by_cases g1 : (1000 : Int) < p.Name.length
    · simp only [fws, seval, cond_true, cond_false, if_true, if_false, unV, isNil, optI, iV, stepI, evalR, IntKind.bits, ini, fwi, lenI_str, N_law31_ExplainTexts, v0, v5, lenI_sl, q, hxx, hat, g1]
      exact .inl ⟨trivial, trivial⟩
    by_cases g2 : (1000 : Int) < p.Space.length
    · simp only [fws, seval, cond_true, cond_false, if_true, if_false, unV, isNil, optI, iV, stepI, evalR, IntKind.bits, ini, fwi, lenI_str, N_law31_ExplainTexts, v0, v5, lenI_sl, q, hxx, hat, g1, g2]
      exact .inl ⟨trivial, trivial⟩
    by_cases g3 : (1000 : Int) < p.Place.length
    · simp only [fws, seval, cond_true, cond_false, if_true, if_false, unV, isNil, optI, iV, stepI, evalR, IntKind.bits, ini, fwi, lenI_str, N_law31_ExplainTexts, v0, v5, lenI_sl, q, hxx, hat, g1, g2, g3]
      exact .inl ⟨trivial, trivial⟩
    have hok : OkSt p := ⟨by omega, by omega, by omega, hwp.1, hwp.2⟩
    have fin : ∀ a' b' : Nat, cA a p = a' → cN b p = b' → ∀ (e : Env) (h : Heap), e 0 = slV S_explain_StepE o → e 5 = .int .i64 ((i + 1 : Nat) : Int) → e 3 = .int .i64 a' → e 4 = .int .i64 b' →
        W T (.loop F_law31_ExplainTextsl0) e h fun z e h => (z = .ret ∧ e 2 = .bool true) ∨ (z = .exit 0 ∧ (∀ x ∈ p :: ps, OkSt x) ∧ e 0 = slV S_explain_StepE o ∧ e 3 = .int .i64 ((ps.foldl cA (cA a p) : Nat) : Int) ∧ e 4 = .int .i64 ((ps.foldl cN (cN b p) : Nat) : Int)) := by
      intro a' b' ea eb e h e0 e5 e3 e4
      have la := cA_le a p
      have lb := cN_le b p
      rw [ea, eb]
      rw [ea] at la
      rw [eb] at lb
      refine W.mono (ih (i + 1) a' b' h e hr2 (by omega) (by omega) e0 e5 e3 e4) fun z e h hq => ?_
      rcases hq with hq | ⟨q1, q2, q3⟩
      · exact .inl hq
      · refine .inr ⟨q1, fun x hx => ?_, q3⟩
        rcases List.mem_cons.1 hx with rfl | hx
        · exact hok
        · exact q2 x hx
    by_cases k3 : p.What = 3
    · have d3 : decide (p.What = 3) = true := decide_eq_true k3
      have c1 : (3 : Int) ≤ p.What := by omega
      have c2 : p.What ≤ 7 := by omega
      simp only [fws, seval, cond_true, cond_false, if_true, if_false, unV, isNil, optI, iV, stepI, evalR, IntKind.bits, ini, fwi, lenI_str, N_law31_ExplainTexts, v0, v5, v3, v4, lenI_sl, q, hxx, hat, g1, g2, g3, c1, c2, d3, w2, wa, wb]
      refine fin (a + 1) (b + 1) (if_pos ⟨by omega, by omega⟩) (if_pos k3) _ _ ?_ ?_ ?_ ?_
      all_goals (first | assumption | rfl)
    have d3 : decide (p.What = 3) = false := decide_eq_false k3
    by_cases c1 : (3 : Int) ≤ p.What
    · by_cases c2 : p.What ≤ 7
      · simp only [fws, seval, cond_true, cond_false, if_true, if_false, unV, isNil, optI, iV, stepI, evalR, IntKind.bits, ini, fwi, lenI_str, N_law31_ExplainTexts, v0, v5, v3, v4, lenI_sl, q, hxx, hat, g1, g2, g3, c1, c2, d3, w2, wa, wb]
        refine fin (a + 1) b (if_pos ⟨by omega, by omega⟩) (if_neg k3) _ _ ?_ ?_ ?_ ?_
        all_goals (first | assumption | rfl)
      · simp only [fws, seval, cond_true, cond_false, if_true, if_false, unV, isNil, optI, iV, stepI, evalR, IntKind.bits, ini, fwi, lenI_str, N_law31_ExplainTexts, v0, v5, v3, v4, lenI_sl, q, hxx, hat, g1, g2, g3, c1, c2, d3, w2, wa, wb]
        refine fin a b (if_neg (by omega)) (if_neg k3) _ _ ?_ ?_ ?_ ?_
        all_goals (first | assumption | rfl)
    · simp only [fws, seval, cond_true, cond_false, if_true, if_false, unV, isNil, optI, iV, stepI, evalR, IntKind.bits, ini, fwi, lenI_str, N_law31_ExplainTexts, v0, v5, v3, v4, lenI_sl, q, hxx, hat, g1, g2, g3, c1, d3, w2, wa, wb]
      refine fin a b (if_neg (by omega)) (if_neg k3) _ _ ?_ ?_ ?_ ?_
      all_goals (first | assumption | rfl)
theorem f_explainTexts (t : EtF T) (hT : T 3 = some F_law31_ExplainTexts) (hal : FnV T 8 [] (.bool true)) {o : Option (List S_explain_Step)}
    (hw : ∀ x ∈ lst o, x.By ≤ 9223372036854775807 ∧ x.Inst ≤ 9223372036854775807) : Ev T 3 [slV S_explain_StepE o] [] fun v _ => v = .bool true := by
  rw [Ev_fn hT rfl]
  by_cases q : (200 : Int) < (lst o).length
  · simp only [F_law31_ExplainTexts, fws, seval, cond_true, cond_false, if_true, if_false, unV, isNil, optI, iV, stepI, evalR, IntKind.bits, ini, fwi, lenI_sl, F_law31_ExplainTextsr0b, F_law31_ExplainTextsr0_W, F_law31_ExplainTextsr1b, F_law31_ExplainTextsr1_W, F_law31_ExplainTextsr2b, F_law31_ExplainTextsr2_W, F_law31_ExplainTextsr3b, F_law31_ExplainTextsr3_W, F_law31_ExplainTextsr4b, F_law31_ExplainTextsr4_W, F_law31_ExplainTextsr5b, F_law31_ExplainTextsr5_W, F_law31_ExplainTextsr7b, F_law31_ExplainTextsr7_W, F_law31_ExplainTextsr7_g7, F_law31_ExplainTextsr7_g16, F_law31_ExplainTextsr8b, F_law31_ExplainTextsr8_W, F_law31_ExplainTextsr9b, F_law31_ExplainTextsr9_W, F_law31_ExplainTextsr9_g6, F_law31_ExplainTextsr10b, F_law31_ExplainTextsr10_W, F_law31_ExplainTextsr11b, F_law31_ExplainTextsr11_W, F_law31_ExplainTextsr12b, F_law31_ExplainTextsr12_W, F_law31_ExplainTextsr6b, F_law31_ExplainTextsr6_W, F_law31_ExplainTextsl0b, F_law31_ExplainTextsr13b, F_law31_ExplainTextsr13_W, F_law31_ExplainTextsr14b, F_law31_ExplainTextsr14_W, F_law31_ExplainTextsr14_g3, F_law31_ExplainTextsr14_g8, F_law31_ExplainTextsr14_g16, F_law31_ExplainTextscb, F_law31_ExplainTextsc_W, q]
  · have hn : (lst o).length ≤ 200 := by omega
    simp only [F_law31_ExplainTexts, fws, seval, cond_true, cond_false, if_true, if_false, unV, isNil, optI, iV, stepI, evalR, IntKind.bits, ini, fwi, lenI_sl, F_law31_ExplainTextsr0b, F_law31_ExplainTextsr0_W, F_law31_ExplainTextsr1b, F_law31_ExplainTextsr1_W, F_law31_ExplainTextsr2b, F_law31_ExplainTextsr2_W, F_law31_ExplainTextsr3b, F_law31_ExplainTextsr3_W, F_law31_ExplainTextsr4b, F_law31_ExplainTextsr4_W, F_law31_ExplainTextsr5b, F_law31_ExplainTextsr5_W, F_law31_ExplainTextsr7b, F_law31_ExplainTextsr7_W, F_law31_ExplainTextsr7_g7, F_law31_ExplainTextsr7_g16, F_law31_ExplainTextsr8b, F_law31_ExplainTextsr8_W, F_law31_ExplainTextsr9b, F_law31_ExplainTextsr9_W, F_law31_ExplainTextsr9_g6, F_law31_ExplainTextsr10b, F_law31_ExplainTextsr10_W, F_law31_ExplainTextsr11b, F_law31_ExplainTextsr11_W, F_law31_ExplainTextsr12b, F_law31_ExplainTextsr12_W, F_law31_ExplainTextsr6b, F_law31_ExplainTextsr6_W, F_law31_ExplainTextsl0b, F_law31_ExplainTextsr13b, F_law31_ExplainTextsr14b, F_law31_ExplainTextscb, F_law31_ExplainTextsc_W, q]
    refine W.mono (loop_guard hn hw (lst o) 0 0 0 _ _ rfl (Nat.le_refl _) (Nat.le_refl _) ?_ ?_ ?_ ?_) fun z e h hq => ?_
    · (first | assumption | rfl)
    · (first | assumption | rfl)
    · (first | assumption | rfl)
    · (first | assumption | rfl)
    rcases hq with ⟨g1, g2⟩ | ⟨g1, hk, g0, g3, g4⟩
    · subst g1
      simp only [fws, seval, cond_true, cond_false, if_true, if_false, unV, isNil, optI, iV, stepI, evalR, IntKind.bits, ini, g2]
    · subst g1
      obtain ⟨o', ho, c7⟩ := f_st t hn
      have c4 := f_tried t hn
      have c5 := f_et t hn hk
      have c6 := f_rt t (o := o') (by rw [ho]; exact hn) (by rw [ho]; exact hk)
      rw [ho] at c6
      have t0 : ∀ a b : Value, ([a, b] : List Value)[0]? = some a := fun _ _ => rfl
      have t1 : ∀ a b : Value, ([a, b] : List Value)[1]? = some b := fun _ _ => rfl
      simp only [fws, seval, cond_true, cond_false, if_true, if_false, unV, isNil, optI, iV, stepI, evalR, IntKind.bits, ini, fwi, N_law31_ExplainTexts, t0, t1, Option.map_some, g0, g3, g4, CC_of c4, CC_of c5, CC_of c6, CC_of c7, CC_of hal, Fw.strEq_str, decide_true]
end
end Go.Proofs.YtdjgknlhpdnhbaaGreatDoor
/- The law at its table. -/
namespace Go.Proofs.YtdjgknlhpdnhbaaGreatDoor
open Go Fw
theorem et_f : EtF TEx := ⟨by kernel_rfl, by kernel_rfl, by kernel_rfl, by kernel_rfl, by kernel_rfl, by kernel_rfl, by kernel_rfl⟩
theorem i64_le {n : Int} (h : (Lit.int .i64 n).wf = true) : n ≤ 9223372036854775807 := by
  simp [Lit.wf, IntKind.min, IntKind.max, IntKind.bits, IntKind.signed] at h
  omega
theorem explain_t (a : Option (List S_explain_Step)) (w : (lst a).length ≤ maxLen ∧ ∀ x ∈ lst a, S_explain_Step.wf x) : Ev TEx 3 [slV S_explain_StepE a] [] fun v _ => v = .bool true :=
  f_explainTexts et_f (by kernel_rfl) et_alive fun x hx => ⟨i64_le (w.2 x hx).2.2.1, i64_le (w.2 x hx).2.2.2.2.2⟩
end Go.Proofs.YtdjgknlhpdnhbaaGreatDoor
