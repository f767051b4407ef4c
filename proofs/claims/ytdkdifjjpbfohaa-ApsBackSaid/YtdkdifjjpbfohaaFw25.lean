/- More on lists that grow: read and written at an index. -/
import Derived.Test.YtdkdifjjpbfohaaFw24
namespace Go.Proofs.Ytdkdifjjpbfohaa.Fw
open Go
set_option linter.unusedSimpArgs false
set_option linter.unusedVariables false

theorem spl_eq : ∀ (vs cs : List Value) (off : Nat), off + vs.length ≤ cs.length → spl cs off vs = cs.take off ++ vs ++ cs.drop (off + vs.length)
  | [], cs, off, h => by simp [spl]
  | v :: vs, cs, off, h => by
    simp only [List.length_cons] at h
    rw [spl, spl_eq vs (cs.set off v) (off + 1) (by rw [List.length_set]; omega)]
    have h1 : (cs.set off v).take (off + 1) = cs.take off ++ [v] := by
      rw [List.take_set, List.set_eq_take_append_cons_drop]
      rw [if_pos (by rw [List.length_take]; omega), List.take_take]
      simp
    have h2 : (cs.set off v).drop (off + 1 + vs.length) = cs.drop (off + (v :: vs).length) := by
      rw [List.drop_set_of_lt (by omega), List.length_cons]
      congr 1
      omega
    rw [h1, h2]
    simp
section
variable {α : Type} {E : Enc α} {l : List α} {H g : Heap} {v : Value}
theorem spl_cs {i : Nat} (hi : i < l.length) (x : α) : spl (E.cs l) (i * E.u) (E.e x) = E.cs (l.set i x) := by
  have h1 : i * E.u + (E.e x).length ≤ (E.cs l).length := by
    rw [E.hu, cs_length, ← Nat.succ_mul]
    exact Nat.mul_le_mul_right _ hi
  rw [spl_eq _ _ _ h1, cs_take, E.hu, ← Nat.succ_mul, cs_drop, List.set_eq_take_append_cons_drop, if_pos hi, cs_append, cs_cons, List.append_assoc]
theorem Acc.src {n : Nat} (hn : n = E.u) (h : Acc E g v H l) : srcOf H n v = some (E.cs l, l.length) := by
  subst hn
  rcases h with ⟨rfl, rfl, rfl⟩ | ⟨_, tag, rfl, rfl⟩
  · rfl
  · have hlk : lk (g ++ [oe E tag l]) ⟨g.length, 0, spotOf tag⟩ = some ⟨tag, .cells false E.u (E.cs l)⟩ := own_lk (H := g ++ [oe E tag l]) (tag := tag) (o := .cells false E.u (E.cs l)) (by simp [oe])
    simp only [srcOf, own, cellsAt, hlk, List.drop_zero, rdN_cs rfl, Option.map_some]
/-- An element of a list that grew, by its place. -/
theorem Acc.ix {n : Nat} (hn : n = E.u) (h : Acc E g v H l) {i : Nat} (hi : i < l.length) (k : IntKind) :
    ∃ a tag, ixaI H n v (.int k i) = some (.pointer (some a), H) ∧ lk H a = some ⟨tag, .cells false n (E.cs l)⟩ ∧ a.off = i * n ∧ (∀ m, m < n → a.off + m < (E.cs l).length) ∧
      ∀ x, Acc E g v (H.set a.block ⟨tag, .cells false n (spl (E.cs l) a.off (E.e x))⟩) (l.set i x) := by
  subst hn
  rcases h with ⟨rfl, _⟩ | ⟨hne, tag, rfl, rfl⟩
  · simp at hi
  · refine ⟨⟨g.length, i * E.u, spotOf tag⟩, tag, ?_, own_lk (H := g ++ [oe E tag l]) (tag := tag) (o := .cells false E.u (E.cs l)) (by simp [oe]), rfl, fun m hm => ?_, fun x => ?_⟩
    · simp only [ixaI, own]
      rw [if_pos ⟨by omega, by omega⟩]
      simp
    · rw [cs_length]
      have : (i + 1) * E.u ≤ l.length * E.u := Nat.mul_le_mul_right _ hi
      rw [Nat.succ_mul] at this
      show i * E.u + m < _
      omega
    · refine .inr ⟨fun h => ?_, tag, by rw [List.length_set], ?_⟩
      · have := congrArg List.length h
        rw [List.length_set] at this
        simp at this
        exact hne this
      · rw [spl_cs hi]
        simp [oe]
/-- An element of one cell: read, and written. -/
theorem Acc.ix1 (h1 : E.u = 1) (h : Acc E g v H l) {i : Nat} (hi : i < l.length) (k : IntKind) {f : α → Value} (hf : ∀ x, E.e x = [f x]) :
    ∃ a tag cs, ixaI H 1 v (.int k i) = some (.pointer (some a), H) ∧ loadI H (.pointer (some a)) = some (f l[i], H) ∧ lk H a = some ⟨tag, .cells false 1 cs⟩ ∧ a.off < cs.length ∧
      ∀ x, Acc E g v (H.set a.block ⟨tag, .cells false 1 (cs.set a.off (f x))⟩) (l.set i x) := by
  obtain ⟨a, tag, a1, a2, a3, a4, a5⟩ := h.ix h1.symm hi k
  refine ⟨a, tag, E.cs l, a1, ?_, a2, by have := a4 0 (by omega); omega, fun x => ?_⟩
  · rw [loadI_ptr]
    simp only [cellsAt, a2, a3]
    have h2 := cs_drop (E := E) l i
    rw [h1] at h2
    rw [h2, List.drop_eq_getElem_cons hi, cs_cons, hf]
    rfl
  · have := a5 x
    rw [hf] at this
    exact this
end
end Go.Proofs.Ytdkdifjjpbfohaa.Fw
