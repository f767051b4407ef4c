/- Lists that grow anywhere in the heap, each in a block of its own. -/
import Derived.Test.YtdkdifjjpbfohaaFw27
namespace Go.Proofs.Ytdkdifjjpbfohaa.Fw
open Go
set_option linter.unusedSimpArgs false
set_option linter.unusedVariables false

section
variable {α : Type} {E : Enc α} {l m : List α} {H : Heap} {v : Value}
/-- A list is nil, or lies in a block of its own. -/
def Own (E : Enc α) (H : Heap) (v : Value) (l : List α) : Prop := (l = [] ∧ v = .slice none 0 0) ∨ ∃ b tag, v = own b tag l.length ∧ H[b]? = some (oe E tag l)
def blkV : Value → Option Nat
  | .slice (some a) _ _ => some a.block
  | _ => none
theorem blkV_nil : blkV (.slice none 0 0) = none := rfl
theorem blkV_own {b tag n : Nat} : blkV (own b tag n) = some b := rfl
/-- What stays, when one list has changed. -/
structure Frame (H H' : Heap) (v v' : Value) : Prop where
  len : H.length ≤ H'.length
  same : ∀ q, q < H.length → blkV v ≠ some q → H'[q]? = H[q]?
  blk : blkV v' = blkV v ∨ (blkV v = none ∧ ∃ b, blkV v' = some b ∧ H.length ≤ b)
theorem Frame.refl (H : Heap) (v : Value) : Frame H H v v := ⟨Nat.le_refl _, fun _ _ _ => rfl, .inl rfl⟩
theorem Frame.trans {H1 H2 H3 : Heap} {v1 v2 v3 : Value} (h : Frame H1 H2 v1 v2) (k : Frame H2 H3 v2 v3) : Frame H1 H3 v1 v3 := by
  refine ⟨Nat.le_trans h.len k.len, fun q hq hv => ?_, ?_⟩
  · rw [k.same q (Nat.lt_of_lt_of_le hq h.len) ?_, h.same q hq hv]
    rcases h.blk with h1 | ⟨_, b, h2, h3⟩
    · rw [h1]; exact hv
    · rw [h2]; intro he; cases he; omega
  · rcases h.blk with h1 | ⟨h0, b, h2, h3⟩
    · rcases k.blk with k1 | ⟨k0, b, k2, k3⟩
      · exact .inl (k1.trans h1)
      · exact .inr ⟨h1.symm.trans k0, b, k2, Nat.le_trans h.len k3⟩
    · rcases k.blk with k1 | ⟨k0, b', k2, k3⟩
      · exact .inr ⟨h0, b, k1.trans h2, h3⟩
      · rw [h2] at k0; cases k0
theorem Own.nil : Own E H (.slice none 0 0) [] := .inl ⟨rfl, rfl⟩
theorem Own.lt (h : Own E H v l) {b : Nat} (hb : blkV v = some b) : b < H.length := by
  rcases h with ⟨_, rfl⟩ | ⟨b', tag, rfl, h⟩
  · cases hb
  · cases hb; exact (List.getElem?_eq_some_iff.1 h).1
theorem Own.keep (h : Own E H v l) {H' : Heap} (hs : ∀ b, blkV v = some b → H'[b]? = H[b]?) : Own E H' v l := by
  rcases h with h | ⟨b, tag, rfl, h⟩
  · exact .inl h
  · exact .inr ⟨b, tag, rfl, by rw [hs b rfl]; exact h⟩
theorem Own.mono (h : Own E H v l) (g : Heap) : Own E (H ++ g) v l := h.keep fun b hb => List.getElem?_append_left (h.lt hb)
theorem Own.len (h : Own E H v l) : lenI H 1 v = some (.int .i64 l.length, H) := by
  rcases h with ⟨rfl, rfl⟩ | ⟨b, tag, rfl, h⟩ <;> rfl
theorem Own.app {n eb k : Nat} (hn : n = E.u) (h : Own E H v l) (hk : k = m.length) (hb : (l.length + m.length) * eb ≤ 140737488355328) :
    ∃ v' H', appV n eb H v (E.cs m) k = some (v', H') ∧ Own E H' v' (l ++ m) ∧ Frame H H' v v' := by
  subst hn; subst hk
  rcases h with ⟨rfl, rfl⟩ | ⟨b, tag, rfl, hH⟩
  · cases hm : m with
    | nil => exact ⟨.slice none 0 0, H, rfl, .inl ⟨rfl, rfl⟩, Frame.refl _ _⟩
    | cons x m' =>
      rw [← hm]
      have h0 : Nat.beq m.length 0 = false := by rw [hm]; rfl
      refine ⟨own H.length 0 m.length, H ++ [oe E 0 m], ?_, .inr ⟨H.length, 0, by simp, by simp⟩, ⟨by simp, fun q hq _ => List.getElem?_append_left hq, .inr ⟨rfl, H.length, rfl, Nat.le_refl _⟩⟩⟩
      simp only [appV, h0, Nat.beq_refl, Bool.and_self, cond_true, cond_false]
      rw [if_pos (by simpa using hb)]
      rfl
  · have hlt := (List.getElem?_eq_some_iff.1 hH).1
    refine ⟨own b (tag + 1) (l ++ m).length, H.set b (oe E (tag + 1) (l ++ m)), ?_, .inr ⟨b, tag + 1, rfl, List.getElem?_set_self hlt⟩, ⟨by simp, fun q hq hv => List.getElem?_set_ne (fun h => hv (by rw [h]; rfl)), .inl rfl⟩⟩
    rw [app_own rfl hH hb]
    simp [oe, cs_append]
theorem Own.src {n : Nat} (hn : n = E.u) (h : Own E H v l) : srcOf H n v = some (E.cs l, l.length) := by
  subst hn
  rcases h with ⟨rfl, rfl⟩ | ⟨b, tag, rfl, hH⟩
  · rfl
  · have hlk : lk H ⟨b, 0, spotOf tag⟩ = some ⟨tag, .cells false E.u (E.cs l)⟩ := own_lk (tag := tag) (o := .cells false E.u (E.cs l)) hH
    simp only [srcOf, own, cellsAt, hlk, List.drop_zero, rdN_cs rfl, Option.map_some]
theorem Own.ix {n : Nat} (hn : n = E.u) (h : Own E H v l) {i : Nat} (hi : i < l.length) (k : IntKind) :
    ∃ a tag b, blkV v = some b ∧ ixaI H n v (.int k i) = some (.pointer (some a), H) ∧ a.block = b ∧ lk H a = some ⟨tag, .cells false n (E.cs l)⟩ ∧ a.off = i * n ∧
      ∀ x, Own E (H.set b ⟨tag, .cells false n (spl (E.cs l) a.off (E.e x))⟩) v (l.set i x) := by
  subst hn
  rcases h with ⟨rfl, _⟩ | ⟨b, tag, rfl, hH⟩
  · simp at hi
  · refine ⟨⟨b, i * E.u, spotOf tag⟩, tag, b, rfl, ?_, rfl, own_lk (tag := tag) (o := .cells false E.u (E.cs l)) hH, rfl, fun x => ?_⟩
    · simp only [ixaI, own]
      rw [if_pos ⟨by omega, by omega⟩]
      simp
    · refine .inr ⟨b, tag, by rw [List.length_set], ?_⟩
      rw [List.getElem?_set_self (List.getElem?_eq_some_iff.1 hH).1, spl_cs hi]
      rfl
/-- An element of one cell: read, and written. -/
theorem Own.ix1 (h1 : E.u = 1) (h : Own E H v l) {i : Nat} (hi : i < l.length) (k : IntKind) {f : α → Value} (hf : ∀ x, E.e x = [f x]) :
    ∃ a tag cs b, blkV v = some b ∧ ixaI H 1 v (.int k i) = some (.pointer (some a), H) ∧ loadI H (.pointer (some a)) = some (f l[i], H) ∧ a.block = b ∧ lk H a = some ⟨tag, .cells false 1 cs⟩ ∧ a.off + 1 ≤ cs.length ∧
      ∀ x, Own E (H.set b ⟨tag, .cells false 1 (cs.set a.off (f x))⟩) v (l.set i x) := by
  obtain ⟨a, tag, b, a0, a1, a2, a3, a4, a5⟩ := h.ix h1.symm hi k
  refine ⟨a, tag, E.cs l, b, a0, a1, ?_, a2, a3, ?_, fun x => ?_⟩
  · rw [loadI_ptr]
    simp only [cellsAt, a3, a4]
    have h2 := cs_drop (E := E) l i
    rw [h1] at h2
    rw [h2, List.drop_eq_getElem_cons hi, cs_cons, hf]
    rfl
  · rw [a4, cs_length, h1]; omega
  · have := a5 x
    rw [hf] at this
    exact this
/-- Frozen. -/
theorem Own.fz (hd : E.d ≤ 6) (h : Own E H v l) : ∃ o H2, lst o = l ∧ fzA H v = some (slV E o, H2) ∧ H.length ≤ H2.length ∧ ∀ q, blkV v ≠ some q → H2[q]? = H[q]? := by
  rcases h with ⟨rfl, rfl⟩ | ⟨b, tag, rfl, hH⟩
  · exact ⟨none, H, rfl, rfl, Nat.le_refl _, fun _ _ => rfl⟩
  · have hlk : lk H ⟨b, 0, spotOf tag⟩ = some ⟨tag, .cells false E.u (E.cs l)⟩ := own_lk (tag := tag) (o := .cells false E.u (E.cs l)) hH
    have h4 : pureV 7 (own b tag l.length) = false := rfl
    refine ⟨some l, H.set b ⟨tag + 1, .dead⟩, rfl, ?_, by simp, fun q hq => List.getElem?_set_ne (fun he => hq (by rw [he]; rfl))⟩
    show fzV H (own b tag l.length) = _
    unfold fzV
    rw [h4]
    simp only [cond_false, own, hlk, List.drop_zero, rdN_cs rfl, Option.bind_some, cs_pure' (E := E) (l := l) hd, cond_true]
    rfl
theorem Own.b2s {H : Heap} {v : Value} {l : List UInt8} (h : Own byteE H v l) : b2sI H v = some (strV l, H) := by
  rcases h with ⟨rfl, rfl⟩ | ⟨b, tag, rfl, hH⟩
  · rfl
  · have hlk : lk H ⟨b, 0, spotOf tag⟩ = some ⟨tag, .cells false 1 (byteE.cs l)⟩ := own_lk (tag := tag) (o := .cells false 1 (byteE.cs l)) hH
    have hr : rdN (byteE.cs l) l.length = some (byteE.cs l) := rdN_cs (by rw [byteE_u, Nat.mul_one])
    simp only [b2sI, own, cellsAt, hlk, List.drop_zero, hr, Option.bind_some, strOf_bytes, Option.map_some]
end
end Go.Proofs.Ytdkdifjjpbfohaa.Fw
