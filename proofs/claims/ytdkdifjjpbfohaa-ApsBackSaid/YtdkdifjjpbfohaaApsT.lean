/- What is put is read (for groups of relocations). -/
import Derived.Test.YtdkdifjjpbfohaaApsQ
import Derived.Test.YtdkdifjjpbfohaaApsS
namespace Go.Proofs.Ytdkdifjjpbfohaa
open Go Fw
set_option linter.unusedSimpArgs false
set_option linter.unusedVariables false
set_option linter.unusedSectionVars false

abbrev isI64 (n : Int) : Prop := -9223372036854775808 ≤ n ∧ n < 9223372036854775808
theorem putS_len : ∀ (f : Nat) (n : Int), (putS f n).length ≤ f
  | 0, _ => Nat.le_refl _
  | f + 1, n => by
    rw [putS]
    split
    · simp
    · have := putS_len f (n / 128)
      simp only [List.length_cons]
      omega
/-- Only the last byte is below 128. -/
def lastLow (l : List UInt8) : Prop := ∀ i (h : i < l.length), (l[i].toNat < 128 ↔ i + 1 = l.length)
theorem lastLow_cons {c : UInt8} {l : List UInt8} (hc : 128 ≤ c.toNat) (hl : l ≠ []) (h : lastLow l) : lastLow (c :: l) := fun i hi => by
  have h0 : 0 < l.length := by cases l with | nil => exact absurd rfl hl | cons => simp
  cases i with
  | zero => simp only [List.getElem_cons_zero, List.length_cons]; omega
  | succ i =>
    simp only [List.length_cons] at hi
    have := h i (by omega)
    simp only [List.getElem_cons_succ, List.length_cons]
    omega
theorem putS_low : ∀ (f : Nat) (n : Int), -(64 * 128 ^ f) ≤ n → n < 64 * 128 ^ f → lastLow (putS (f + 1) n) := by
  intro f
  induction f with
  | zero =>
    intro n h1 h2
    rw [putS, if_pos (by omega)]
    intro i hi
    simp only [List.length_singleton] at hi
    have : i = 0 := by omega
    subst this
    simp [UInt8.toNat_ofNat']
    omega
  | succ f ih =>
    intro n h1 h2
    rw [putS]
    split
    · intro i hi
      simp only [List.length_singleton] at hi
      have : i = 0 := by omega
      subst this
      simp [UInt8.toNat_ofNat']
      omega
    · have hp : (128 : Int) ^ (f + 1) = 128 ^ f * 128 := Int.pow_succ ..
      rw [hp] at h1 h2
      refine lastLow_cons ?_ putS_ne (ih (n / 128) (by omega) (by omega))
      rw [UInt8.toNat_ofNat']
      omega
/-- A number's groups stand ahead of whatever follows. -/
theorem gr_low : ∀ (f : Nat) (g r : List UInt8), g ≠ [] → lastLow g → g.length ≤ f → gr f (g ++ r) = .ok g r
  | _, [], _, h, _, _ => absurd rfl h
  | 0, _ :: _, _, _, _, h => by simp at h
  | f + 1, [c], r, _, hl, _ => by
    have := hl 0 (by simp)
    simp at this
    simp [gr, this]
  | f + 1, c :: d :: g, r, _, hl, h => by
    have h0 := hl 0 (by simp)
    simp at h0
    have h1 : lastLow (d :: g) := fun i hi => by
      have := hl (i + 1) (by simpa using hi)
      simpa using this
    have h2 := gr_low f (d :: g) r (by simp) h1 (by simpa using h)
    have h3 : ¬ c.toNat < 128 := by omega
    rw [List.cons_append, gr, if_neg h3, h2]
    rfl
theorem lastB_low : ∀ (g : List UInt8), g ≠ [] → lastLow g → lastB g < 128
  | [], h, _ => absurd rfl h
  | [c], _, hl => by
    have := hl 0 (by simp)
    simp at this
    exact this
  | c :: d :: g, _, hl => by
    refine lastB_low (d :: g) (by simp) fun i hi => ?_
    have := hl (i + 1) (by simpa using hi)
    simpa using this
theorem sR_of {g r : List UInt8} (hg : g ≠ []) (hl : lastLow g) (h10 : g.length ≤ 10) {n : Int} (hv : sval g = n) (hn : isI64 n) : sR (g ++ r) = (n, g.length, 0) := by
  have hb := lastB_low g hg hl
  have hn1 := hn.1
  have hn2 := hn.2
  unfold sR
  rw [gr_low 10 g r hg hl h10]
  simp only []
  obtain ⟨v, h1, h2⟩ := val_last g hg
  rw [if_neg ?_, hv]
  rintro ⟨h3, h4, h5⟩
  unfold sval at hv
  rw [h3] at h1 h2 hv
  simp at h1 h2 hv
  split at hv <;> omega
theorem sval_cons {c : UInt8} {g : List UInt8} (h : g ≠ []) : sval (c :: g) = (c.toNat % 128 : Nat) + 128 * sval g := by
  cases g with
  | nil => exact absurd rfl h
  | cons d g =>
    have e : lastB (c :: d :: g) = lastB (d :: g) := rfl
    unfold sval
    rw [e]
    have e2 : (128 : Int) ^ (c :: d :: g).length = 128 ^ (d :: g).length * 128 := by rw [List.length_cons, Int.pow_succ]
    have e3 : val (c :: d :: g) = c.toNat % 128 + 128 * val (d :: g) := rfl
    rw [e2, e3]
    split <;> omega
theorem sval_putS : ∀ (f : Nat) (n : Int), -(64 * 128 ^ f) ≤ n → n < 64 * 128 ^ f → sval (putS (f + 1) n) = n
  | 0, n, h1, h2 => by
    simp at h1 h2
    rw [putS, if_pos (by omega)]
    simp only [sval, lastB, val, UInt8.toNat_ofNat', List.length_singleton]
    split <;> omega
  | f + 1, n, h1, h2 => by
    have hp : (128 : Int) ^ (f + 1) = 128 ^ f * 128 := Int.pow_succ ..
    rw [hp] at h1 h2
    rw [putS]
    split
    · simp only [sval, lastB, val, UInt8.toNat_ofNat', List.length_singleton]
      split <;> omega
    · rw [sval_cons putS_ne, sval_putS f (n / 128) (by omega) (by omega), UInt8.toNat_ofNat']; omega
theorem sR_put {n : Int} (hn : isI64 n) (r : List UInt8) : sR (putS 10 n ++ r) = (n, (putS 10 n).length, 0) := by
  have h1 := hn.1
  have h2 := hn.2
  exact sR_of putS_ne (putS_low 9 n (by omega) (by omega)) (putS_len 10 n) (sval_putS 9 n (by omega) (by omega)) hn
theorem nums_put : ∀ (ns : List Int) (f : Nat), (putL ns).length ≤ f → (∀ x ∈ ns, isI64r x) → nums f (putL ns) = (ns, true)
  | [], f, _, _ => by
    cases f with
    | zero => rfl
    | succ f => rw [nums, if_pos (show putL [] = [] from rfl)]
  | n :: ns, f, hf, hi => by
    have hn : isI64 n := hi n (by simp)
    have hs := sR_put hn (putL ns)
    have he : putL (n :: ns) = putS 10 n ++ putL ns := rfl
    have hpos : 0 < (putS 10 n).length := by cases h : putS 10 n with | nil => exact absurd h putS_ne | cons => simp
    rw [he, List.length_append] at hf
    obtain ⟨g, rfl⟩ : ∃ g, f = g + 1 := ⟨f - 1, by omega⟩
    rw [he, nums, hs, if_neg (fun h => absurd (List.append_eq_nil_iff.1 h).1 putS_ne)]
    rw [if_neg (fun h => h rfl)]
    have hd : (putS 10 n ++ putL ns).drop (putS 10 n).length = putL ns := List.drop_left
    show (n :: (nums g ((putS 10 n ++ putL ns).drop (putS 10 n).length)).1, (nums g ((putS 10 n ++ putL ns).drop (putS 10 n).length)).2) = _
    rw [hd, nums_put ns g (by omega) (fun x hx => hi x (by simp [hx]))]
/-- The numbers from a relocation on. -/
def restE (rela : Bool) (l : List S_api_Rel) : Nat → Nat → List Int
  | 0, _ => []
  | m + 1, i => (if isHd l i then hdL rela l i else []) ++ (elL rela l i ++ restE rela l m (i + 1))
theorem numsE_rest (rela : Bool) (l : List S_api_Rel) : ∀ (m i : Nat), numsE rela l (i + m) = numsE rela l i ++ restE rela l m i
  | 0, i => by rw [restE, List.append_nil, Nat.add_zero]
  | m + 1, i => by
    have := numsE_rest rela l m (i + 1)
    rw [show i + (m + 1) = i + 1 + m by omega, this, numsE, restE]
    simp only [List.append_assoc]
theorem rel_back (rela : Bool) {r : S_api_Rel} (hr : okRel r) (he : encOkR rela r = true) {a d : Int} (ha : IntKind.u64.wrap a = r.At) (hd : rela = true → d = r.Add) : relOf rela a (keyI r) d = r := by
  rcases r with ⟨ra, rb, rc, rd, re⟩
  obtain ⟨h1, h2, h3, h4⟩ := hr
  simp only at h1 h2 h3 h4
  have hk1 : IntKind.u32.wrap (keyI ⟨ra, rb, rc, rd, re⟩) = rb := by
    unfold keyI
    dsimp only
    rw [i64_lt (by omega) (by omega), wrap_u32]
    split <;> omega
  have hk2 : IntKind.u32.wrap ((IntKind.u64.wrap (keyI ⟨ra, rb, rc, rd, re⟩)).fdiv (2 ^ 32)) = rc := by
    unfold keyI
    dsimp only
    rw [i64_lt (by omega) (by omega), wrap_u64, wrap_u32]
    have e : ∀ x : Int, 0 ≤ x → x.fdiv (2 ^ 32) = x / 4294967296 := fun x hx => by
      rw [Int.fdiv_eq_ediv_of_nonneg _ (by decide)]
      rfl
    rw [e _ (by omega)]
    split <;> omega
  unfold relOf
  rw [hk1, hk2, ha]
  unfold encOkR at he
  cases rela with
  | false =>
    simp at he
    obtain ⟨rfl, rfl⟩ := he
    rfl
  | true =>
    simp at he
    subst he
    rw [if_pos rfl, hd rfl]
section
variable (rela : Bool) (l : List S_api_Rel) (hw : okRels l) (hok : l.all (encOkR rela) = true)
include hw hok
theorem rAt_ok {j : Nat} (hj : j < l.length) : okRel (rAt l j) ∧ encOkR rela (rAt l j) = true := by
  rw [rAt_lt hj]
  exact ⟨hw _ (List.getElem_mem hj), List.all_eq_true.1 hok _ (List.getElem_mem hj)⟩
/-- What the state of a reader knows of the relocation ahead. -/
structure AtS (g : GS) (j : Nat) : Prop where
  out : g.out = l.take j
  at_ : IntKind.u64.wrap g.at_ = pvAt l j
  add : rela = true → g.add = pvAdd l j
  bad : g.s.bad = false
theorem one_back {j k : Nat} (hj : j < l.length) {f : Nat} (hf : f = if rela then 9 else 1) {g : GS} {R : List Int} (hN : g.s.N = elL rela l j ++ R) (t : AtS rela l g j) (hk : k = j + 1) {key : Int} (hkey : keyI (rAt l j) = key) :
    (oneF rela f 0 key g).s.N = R ∧ AtS rela l (oneF rela f 0 key g) k := by
  subst hk
  obtain ⟨hr, he⟩ := rAt_ok rela l hw hok hj
  obtain ⟨t1, t2, t3, t4⟩ := t
  obtain ⟨⟨N, bad⟩, at_, add, out⟩ := g
  simp only at hN t1 t2 t3 t4
  subst t4 hN t1
  have hpv : pvAt l (j + 1) = (rAt l j).At := by unfold pvAt; rw [if_neg (by omega), Nat.add_sub_cancel]
  have hpd : pvAdd l (j + 1) = (rAt l j).Add := by unfold pvAdd; rw [if_neg (by omega), Nat.add_sub_cancel]
  have htk : l.take (j + 1) = l.take j ++ [rAt l j] := by rw [rAt_lt hj, List.take_add_one, List.getElem?_eq_getElem hj]; rfl
  have hat : IntKind.u64.wrap (IntKind.i64.wrap (at_ + IntKind.i64.wrap (IntKind.u64.wrap ((rAt l j).At - pvAt l j)))) = (rAt l j).At := by
    obtain ⟨h1, _⟩ := hr
    rw [← t2]
    unfold IntKind.wrap
    simp [IntKind.bits, IntKind.signed]
    omega
  unfold oneF oneS
  cases hrl : rela with
  | false =>
    subst hrl
    have hf1 : f = 1 := hf
    subst hf1
    have q2 : b2 1 = false := rfl
    have q1 : b1 1 = true := rfl
    have q8 : (b8 1 && !b4 1) = false := rfl
    simp only [q2, q1, q8, if_false, if_true, Bool.false_eq_true]
    refine ⟨rfl, ?_, ?_, (fun h => by cases h), rfl⟩
    · show l.take j ++ [_] = l.take (j + 1)
      rw [htk, ← hkey]
      congr 2
      exact rel_back false hr he hat (fun h => by cases h)
    · rw [hpv]; exact hat
  | true =>
    subst hrl
    have hf1 : f = 9 := hf
    subst hf1
    have q2 : b2 9 = false := rfl
    have q1 : b1 9 = true := rfl
    have q8 : (b8 9 && !b4 9) = true := rfl
    have hadd : IntKind.i64.wrap (add + IntKind.i64.wrap ((rAt l j).Add - pvAdd l j)) = (rAt l j).Add := by
      obtain ⟨_, _, _, h4⟩ := hr
      unfold isI64r at h4
      rw [t3 rfl]
      unfold IntKind.wrap
      simp [IntKind.bits, IntKind.signed]
      omega
    simp only [q2, q1, q8, if_false, if_true, Bool.false_eq_true]
    refine ⟨rfl, ?_, ?_, fun _ => ?_, rfl⟩
    · show l.take j ++ [_] = l.take (j + 1)
      rw [htk, ← hkey]
      congr 2
      exact rel_back true hr he hat (fun _ => hadd)
    · rw [hpv]; exact hat
    · rw [hpd]; exact hadd
theorem rows_back {i k : Nat} (hk : k ≤ l.length) {key : Int} (hkey : ∀ j, i ≤ j → j < k → keyI (rAt l j) = key) {f : Nat} (hf : f = if rela then 9 else 1) : ∀ (m j : Nat) (g : GS), j + m = k → i ≤ j → AtS rela l g j → g.s.N = (if m = 0 then restE rela l (l.length - k) k else elL rela l j ++ restE rela l (l.length - (j + 1)) (j + 1)) →
    (rowsS rela f 0 key m g).s.N = restE rela l (l.length - k) k ∧ AtS rela l (rowsS rela f 0 key m g) k
  | 0, j, g, hj, _, t, hN => by
    have : j = k := by omega
    subst this
    rw [if_pos rfl] at hN
    exact ⟨hN, t⟩
  | m + 1, j, g, hj, hij, t, hN => by
    rw [if_neg (by omega)] at hN
    obtain ⟨n1, n2⟩ := one_back rela l hw hok (j := j) (k := j + 1) (by omega) hf hN t rfl (hkey j hij (by omega))
    rw [rowsS]
    refine rows_back hk hkey hf m (j + 1) _ (by omega) (by omega) n2 ?_
    rw [n1]
    cases m with
    | zero =>
      have : j + 1 = k := by omega
      rw [if_pos rfl, this]
    | succ m =>
      rw [if_neg (by omega)]
      obtain ⟨q, hq⟩ : ∃ q, l.length - (j + 1) = q + 1 := ⟨l.length - (j + 1) - 1, by omega⟩
      have hnh : isHd l (j + 1) = false := by
        unfold isHd
        have e1 := hkey j hij (by omega)
        have e2 := hkey (j + 1) (by omega) (by omega)
        simp [e1, e2]
      have hq2 : l.length - (j + 1 + 1) = q := by omega
      rw [hq, restE, hnh, hq2, if_neg (by decide), List.nil_append]
theorem group_back {i : Nat} (hi : i < l.length) (h512 : l.length ≤ 512) (hd : isHd l i = true) {g : GS} (t : AtS rela l g i) (hN : g.s.N = restE rela l (l.length - i) i) :
    ∃ g', grpS rela ((l.length : Int) - i) g = some g' ∧ g'.s.N = restE rela l (l.length - runK l i) (runK l i) ∧ AtS rela l g' (runK l i) := by
  have hk1 := runK_gt hi
  have hk2 : runK l i ≤ l.length := goK_le _ _ (by omega)
  have hkin : ∀ j, i ≤ j → j < runK l i → keyI (rAt l j) = keyI (rAt l i) := fun j h1 h2 => goK_in _ _ j h1 h2
  obtain ⟨q, hq⟩ : ∃ q, l.length - i = q + 1 := ⟨l.length - i - 1, by omega⟩
  have hq2 : q = l.length - (i + 1) := by omega
  rw [hq, restE, hd, if_pos rfl, hq2] at hN
  obtain ⟨⟨N, bad⟩, at_, add, out⟩ := g
  obtain ⟨t1, t2, t3, t4⟩ := t
  simp only at hN t1 t2 t3 t4
  subst t4
  have hN : N = ((runK l i - i : Nat) : Int) :: flagsI rela :: keyI (rAt l i) :: (elL rela l i ++ restE rela l (l.length - (i + 1)) (i + 1)) := hN
  subst hN
  generalize hK : runK l i = K at *
  generalize hR : elL rela l i ++ restE rela l (l.length - (i + 1)) (i + 1) = R at *
  cases hrl : rela with
  | false =>
    subst hrl
    have hg : grpS false ((l.length : Int) - i) ⟨⟨((K - i : Nat) : Int) :: 1 :: keyI (rAt l i) :: R, false⟩, at_, add, out⟩ = (if badG ⟨keyI (rAt l i) :: R, false⟩ ((K - i : Nat) : Int) ((l.length : Int) - i) 1 false then none else
        if (rowsS false 1 0 (keyI (rAt l i)) ((K - i : Nat) : Int).toNat ⟨⟨R, false⟩, at_, 0, out⟩).s.bad then none else some (rowsS false 1 0 (keyI (rAt l i)) ((K - i : Nat) : Int).toNat ⟨⟨R, false⟩, at_, 0, out⟩)) := by
      unfold grpS badG
      simp only [tk, show (1 : Int).toNat = 1 from rfl, show b2 1 = false from rfl, show b1 1 = true from rfl, show b8 1 = false from rfl, show b4 1 = false from rfl, Bool.false_and, if_true, if_false, Bool.false_eq_true]
    have hnb : ¬ badG ⟨keyI (rAt l i) :: R, false⟩ ((K - i : Nat) : Int) ((l.length : Int) - i) 1 false := by
      rintro (h | h | h | h | h | ⟨h, _⟩)
      · cases h
      · omega
      · omega
      · omega
      · omega
      · have : b8 (1 : Int).toNat = false := rfl
        rw [this] at h; cases h
    obtain ⟨r1, r2⟩ := rows_back false l hw hok hk2 hkin (f := 1) rfl (K - i) i ⟨⟨R, false⟩, at_, 0, out⟩ (by omega) (Nat.le_refl _) ⟨t1, t2, (fun h => by cases h), rfl⟩ (by rw [if_neg (by omega)]; exact hR.symm)
    refine ⟨_, ?_, r1, r2⟩
    show grpS false _ ⟨⟨((K - i : Nat) : Int) :: 1 :: keyI (rAt l i) :: R, false⟩, at_, add, out⟩ = _
    rw [hg, if_neg hnb, Int.toNat_natCast, r2.bad]
    rfl
  | true =>
    subst hrl
    have hg : grpS true ((l.length : Int) - i) ⟨⟨((K - i : Nat) : Int) :: 9 :: keyI (rAt l i) :: R, false⟩, at_, add, out⟩ = (if badG ⟨keyI (rAt l i) :: R, false⟩ ((K - i : Nat) : Int) ((l.length : Int) - i) 9 true then none else
        if (rowsS true 9 0 (keyI (rAt l i)) ((K - i : Nat) : Int).toNat ⟨⟨R, false⟩, at_, add, out⟩).s.bad then none else some (rowsS true 9 0 (keyI (rAt l i)) ((K - i : Nat) : Int).toNat ⟨⟨R, false⟩, at_, add, out⟩)) := by
      unfold grpS badG
      simp only [tk, show (9 : Int).toNat = 9 from rfl, show b2 9 = false from rfl, show b1 9 = true from rfl, show b8 9 = true from rfl, show b4 9 = false from rfl, Bool.and_false, if_true, if_false, Bool.false_eq_true]
    have hnb : ¬ badG ⟨keyI (rAt l i) :: R, false⟩ ((K - i : Nat) : Int) ((l.length : Int) - i) 9 true := by
      rintro (h | h | h | h | h | ⟨_, h⟩)
      · cases h
      · omega
      · omega
      · omega
      · omega
      · cases h
    obtain ⟨r1, r2⟩ := rows_back true l hw hok hk2 hkin (f := 9) rfl (K - i) i ⟨⟨R, false⟩, at_, add, out⟩ (by omega) (Nat.le_refl _) ⟨t1, t2, t3, rfl⟩ (by rw [if_neg (by omega)]; exact hR.symm)
    refine ⟨_, ?_, r1, r2⟩
    show grpS true _ ⟨⟨((K - i : Nat) : Int) :: 9 :: keyI (rAt l i) :: R, false⟩, at_, add, out⟩ = _
    rw [hg, if_neg hnb, Int.toNat_natCast, r2.bad]
    rfl
theorem all_back (h512 : l.length ≤ 512) : ∀ (n i : Nat) (g : GS), l.length < i + n → i ≤ l.length → (i < l.length → isHd l i = true) → AtS rela l g i → g.s.N = restE rela l (l.length - i) i →
    ∃ g', allS rela l.length n g = some g' ∧ g'.s.N = [] ∧ g'.out = l
  | 0, i, g, h, _, _, _, _ => by omega
  | n + 1, i, g, h, hi, hh, t, hN => by
    have hlen : g.out.length = i := by rw [t.out, List.length_take]; omega
    rw [allS, hlen]
    rcases Nat.eq_or_lt_of_le hi with he | hlt
    · rw [if_neg (by omega)]
      subst he
      rw [Nat.sub_self] at hN
      exact ⟨g, rfl, hN, by rw [t.out, List.take_length]⟩
    · rw [if_pos hlt]
      have hd := hh hlt
      obtain ⟨g', h1, h2, h3⟩ := group_back rela l hw hok hlt h512 hd t hN
      rw [h1]
      have hk1 := runK_gt hlt
      have hk2 : runK l i ≤ l.length := goK_le _ _ (by omega)
      refine all_back h512 n (runK l i) g' (by omega) hk2 (fun hKl => ?_) h3 h2
      have e1 : keyI (rAt l (runK l i)) ≠ keyI (rAt l i) := goK_out _ _ (by omega) hKl
      have e2 : keyI (rAt l (runK l i - 1)) = keyI (rAt l i) := goK_in _ _ _ (show i ≤ _ by omega) (show runK l i - 1 < runK l i by omega)
      unfold isHd
      simp [e1, e2]
end
/-- What is written is read as it was. -/
theorem aps_back (rela : Bool) (l : List S_api_Rel) (hw : okRels l) (hok : encOk rela l = true) : apsD rela (apsB rela l) = some l := by
  have hok' := hok
  unfold encOk at hok'
  rw [Bool.and_eq_true, decide_eq_true_eq] at hok'
  obtain ⟨h512, hall⟩ := hok'
  have hB : apsB rela l = 65 :: 80 :: 83 :: 50 :: putL (numsE rela l l.length) := by unfold apsB; rw [hok]; rfl
  have hnum := nums_put (numsE rela l l.length) (putL (numsE rela l l.length)).length (Nat.le_refl _) (numsE_i64 rela l h512 _ (Nat.le_refl _))
  have hrest : numsE rela l l.length = (l.length : Int) :: 0 :: restE rela l l.length 0 := by
    have := numsE_rest rela l l.length 0
    rw [Nat.zero_add] at this
    rw [this]
    rfl
  have hD : apsD rela (apsB rela l) = (let x := nums (putL (numsE rela l l.length)).length (putL (numsE rela l l.length))
      let m := tk ⟨x.1, false⟩
      let a := tk m.1
      if a.1.bad = true ∨ m.2 < 0 ∨ 512 < m.2 then none else (allS rela m.2.toNat 513 ⟨a.1, a.2, 0, []⟩).bind fun g => if g.s.N = [] ∧ x.2 = true then some g.out else none) := by
    rw [hB]
    unfold apsD
    rw [if_neg (by intro h; rcases h with h | h; simp at h; omega; exact h rfl)]
    rfl
  rw [hD, hnum]
  simp only
  rw [hrest]
  rw [if_neg (by simp only [tk]; rintro (h | h | h); cases h; omega; omega)]
  simp only [tk, Int.toNat_natCast]
  obtain ⟨g', h1, h2, h3⟩ := all_back rela l hw hall h512 513 0 ⟨⟨restE rela l l.length 0, false⟩, 0, 0, []⟩ (by omega) (Nat.zero_le _) (fun _ => rfl) ⟨rfl, rfl, fun _ => rfl, rfl⟩ rfl
  rw [h1]
  simp [h2, h3]
end Go.Proofs.Ytdkdifjjpbfohaa
