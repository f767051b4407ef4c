/- Groups of relocations: a reader's state. -/
import Derived.Test.YtdkdifjjpbfohaaApsA
namespace Go.Proofs.Ytdkdifjjpbfohaa
open Go Fw
set_option linter.unusedSimpArgs false
set_option linter.unusedVariables false
set_option linter.unusedSectionVars false

abbrev RelE : Enc S_api_Rel := S_api_RelE
theorem one_own {α : Type} {E : Enc α} {H : Heap} {v : Value} {l : List α} (h : Own E H v l) : v.cells = #[v] ∧ oneAll v = true := by
  rcases h with ⟨_, rfl⟩ | ⟨b, tag, rfl, _⟩
  · exact ⟨rfl, oneAll_slice⟩
  · exact ⟨rfl, oneAll_slice⟩
structure GS where
  s : LS
  at_ : Int
  add : Int
  out : List S_api_Rel
abbrev stE (rela : Bool) (at_ add : Int) (u : Value) : Entry := ⟨0, .cells false 5 [.pointer (some ⟨0, 0, none⟩), .bool rela, .int .u64 (IntKind.u64.wrap at_), .int .i64 add, u]⟩
/-- The program's reader of groups: a reader of numbers at block 0, its own cells at block 1, its list somewhere. -/
structure Stt (H : Heap) (l : List UInt8) (fl rela : Bool) (g : GS) (u : Value) : Prop where
  rd : ∃ p fail, H[0]? = some (ro l p fail) ∧ rdOK l fl p fail g.s
  st : H[1]? = some (stE rela g.at_ g.add u)
  own : Own RelE H u g.out
  n0 : blkV u ≠ some 0
  n1 : blkV u ≠ some 1
section
variable {H : Heap} {l : List UInt8} {fl rela : Bool} {g : GS} {u : Value}
theorem Stt.cells (t : Stt H l fl rela g u) : cellsAt H ⟨1, 0, none⟩ = some [.pointer (some ⟨0, 0, none⟩), .bool rela, .int .u64 (IntKind.u64.wrap g.at_), .int .i64 g.add, u] ∧ cellsAt H ⟨1, 1, none⟩ = some [.bool rela, .int .u64 (IntKind.u64.wrap g.at_), .int .i64 g.add, u] ∧ cellsAt H ⟨1, 2, none⟩ = some [.int .u64 (IntKind.u64.wrap g.at_), .int .i64 g.add, u] ∧ cellsAt H ⟨1, 3, none⟩ = some [.int .i64 g.add, u] ∧ cellsAt H ⟨1, 4, none⟩ = some [u] := by
  have := t.st
  refine ⟨?_, ?_, ?_, ?_, ?_⟩ <;> simp only [fws, cond_true, cond_false, if_true, if_false, unV, isNil, optI, iV, stepI, evalR, reduceIte, reduceCtorEq, Nat.reduceEqDiff, Int.reduceLT, Int.reduceLE, Int.reduceToNat, Nat.reduceLT, Nat.reduceLeDiff, Int.reduceEq, Int.reduceNeg, IntKind.bits, Nat.reduceAdd, Nat.reduceMul, Nat.reducePow, Int.reducePow, ini, fwh, lk, cellsAt, tagOf, spotOf, rdN, spl, fillL, zr, this]
theorem Stt.look (t : Stt H l fl rela g u) (o : Nat) : lk H ⟨1, o, none⟩ = some (stE rela g.at_ g.add u) := by
  have := t.st
  simp only [fws, cond_true, cond_false, if_true, if_false, unV, isNil, optI, iV, stepI, evalR, reduceIte, reduceCtorEq, Nat.reduceEqDiff, Int.reduceLT, Int.reduceLE, Int.reduceToNat, Nat.reduceLT, Nat.reduceLeDiff, Int.reduceEq, Int.reduceNeg, IntKind.bits, Nat.reduceAdd, Nat.reduceMul, Nat.reducePow, Int.reducePow, ini, fwh, lk, cellsAt, tagOf, spotOf, rdN, spl, fillL, zr, this]
theorem Stt.lt (t : Stt H l fl rela g u) : 1 < H.length := (List.getElem?_eq_some_iff.1 t.st).1
theorem Stt.mono (t : Stt H l fl rela g u) (K : Heap) : Stt (H ++ K) l fl rela g u := by
  obtain ⟨p, fail, h1, h2⟩ := t.rd
  have := t.lt
  exact ⟨⟨p, fail, by rw [List.getElem?_append_left (by omega)]; exact h1, h2⟩, by rw [List.getElem?_append_left t.lt]; exact t.st, t.own.mono K, t.n0, t.n1⟩
/-- The state's cells are set. -/
theorem Stt.set (t : Stt H l fl rela g u) (at_ add : Int) : Stt (H.set 1 (stE rela at_ add u)) l fl rela ⟨g.s, at_, add, g.out⟩ u := by
  obtain ⟨p, fail, h1, h2⟩ := t.rd
  exact ⟨⟨p, fail, by rw [List.getElem?_set_ne (by decide)]; exact h1, h2⟩, List.getElem?_set_self t.lt, t.own.keep fun b hb => List.getElem?_set_ne (fun he => t.n1 (by rw [hb, he])), t.n0, t.n1⟩
theorem set_self {α : Type} {H : List α} {k : Nat} {e : α} (h : H[k]? = some e) : H.set k e = H := by
  apply List.ext_getElem?
  intro i
  rw [List.getElem?_set]
  split
  · rename_i he
    subst he
    rw [if_pos (List.getElem?_eq_some_iff.1 h).1, h]
  · rfl
/-- What stays, when the reader goes on. -/
abbrev RF (H h : Heap) : Prop := H.length = h.length ∧ ∀ q, q ≠ 0 → h[q]? = H[q]?
/-- A number is read. -/
theorem ev_S {T : Tab} (hg0 : T 39 = some F_leb_Reader_groups) (h : T 19 = some F_leb_Reader_S) (hl : l.length < 9223372036854775000) (t : Stt H l fl rela g u) :
    Ev T 19 [.pointer (some ⟨0, 0, none⟩)] H fun v h => v = .int .i64 (tk g.s).2 ∧ Stt h l fl rela ⟨(tk g.s).1, g.at_, g.add, g.out⟩ u ∧ RF H h := by
  obtain ⟨p, fail, h1, h2⟩ := t.rd
  have hH := set_self h1
  have hlt := t.lt
  have hset : ∀ p' fail', rdOK l fl p' fail' (tk g.s).1 → Stt (H.set 0 (ro l p' fail')) l fl rela ⟨(tk g.s).1, g.at_, g.add, g.out⟩ u ∧ RF H (H.set 0 (ro l p' fail')) := fun p' fail' hr =>
    ⟨⟨⟨p', fail', List.getElem?_set_self (by omega), hr⟩, by rw [List.getElem?_set_ne (by decide)]; exact t.st, t.own.keep fun b hb => List.getElem?_set_ne (fun he => t.n0 (by rw [hb, he])), t.n0, t.n1⟩, by simp, fun q hq => List.getElem?_set_ne (fun he => hq he.symm)⟩
  have c := ev_leb_S (T := T) hg0 h H 0 (by omega) l hl h2.1 fail
  rw [hH] at c
  refine c.mono fun v h' hv => ?_
  by_cases hf : fail = 0
  · subst hf
    rw [if_neg (fun h => h rfl)] at hv
    obtain ⟨rfl, rfl⟩ := hv
    obtain ⟨e1, e2⟩ := rd_next h2
    rw [e1]
    exact ⟨rfl, hset _ _ e2⟩
  · rw [if_pos hf] at hv
    obtain ⟨rfl, rfl⟩ := hv
    obtain ⟨hp, ⟨h3, _⟩ | ⟨_, h4⟩⟩ := h2
    · exact absurd h3 hf
    · have ht : tk g.s = (⟨[], true⟩, 0) := by unfold tk; rw [h4]
      have hs := hset p fail (by rw [ht]; exact ⟨hp, .inr ⟨hf, rfl⟩⟩)
      rw [hH] at hs
      exact ⟨by rw [ht], hs⟩
theorem ev_F {T : Tab} (h : T 22 = some F_leb_Reader_Fail) (t : Stt H l fl rela g u) :
    Ev T 22 [.pointer (some ⟨0, 0, none⟩)] H fun v h => (∃ n, v = .int .i64 n ∧ (n = 0 ↔ g.s.bad = false)) ∧ h = H := by
  obtain ⟨p, fail, h1, h2⟩ := t.rd
  have hlt := t.lt
  have c := ev_leb_Fail (T := T) h H 0 (by omega) l p fail
  rw [set_self h1] at c
  refine c.mono fun v h' ⟨e1, e2⟩ => ⟨⟨fail, e1, rd_bad h2⟩, e2⟩
theorem ev_L {T : Tab} (h : T 23 = some F_leb_Reader_Left) (hl : l.length < 9223372036854775000) (t : Stt H l fl rela g u) (hb : g.s.bad = false) :
    Ev T 23 [.pointer (some ⟨0, 0, none⟩)] H fun v h => (∃ n, v = .int .i64 n ∧ (n = 0 ↔ (g.s.N = [] ∧ fl = true))) ∧ h = H := by
  obtain ⟨p, fail, h1, h2⟩ := t.rd
  have hlt := t.lt
  have h0 : fail = 0 := (rd_bad h2).2 hb
  subst h0
  have c := ev_leb_Left (T := T) h H 0 (by omega) l hl h2.1 0
  rw [set_self h1] at c
  refine c.mono fun v h' ⟨e1, e2⟩ => ⟨⟨_, e1, ?_⟩, e2⟩
  rw [← rd_end h2]
  rw [if_neg (fun h => h rfl)]
  omega
def relOf (rela : Bool) (at_ info add : Int) : S_api_Rel := ⟨IntKind.u64.wrap at_, IntKind.u32.wrap info, IntKind.u32.wrap ((IntKind.u64.wrap info).fdiv (2 ^ 32)), if rela then add else 0, rela⟩
/-- A relocation of a group. -/
def oneS (rela b2 b1 ba : Bool) (step info : Int) (g : GS) : GS :=
  let p := if b2 then (g.s, step) else tk g.s
  let q := if b1 then (p.1, info) else tk p.1
  let r := if ba then tk q.1 else (q.1, 0)
  let at' := IntKind.i64.wrap (g.at_ + p.2)
  let add' := if ba then IntKind.i64.wrap (g.add + r.2) else g.add
  ⟨r.1, at', add', g.out ++ [relOf rela at' q.2 add']⟩
end
end Go.Proofs.Ytdkdifjjpbfohaa
