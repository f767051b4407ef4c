/- Structs as arguments, opened field by field. -/
import Derived.Test.YtdkdifjjpbfohaaFw26
namespace Go.Proofs.Ytdkdifjjpbfohaa.Fw
open Go
set_option linter.unusedSimpArgs false
set_option linter.unusedVariables false

section
variable {H : Type} {P : Program} {enc : TypeId × Value → H} {W : World} {t : TypeId}
/-- A field: where it lies, and how it opens. -/
def FOpn (P : Program) (enc : TypeId × Value → H) (W : World) (fs : Array Field) (i off : Nat) {α : Type} (E : Enc α) (wf : α → Prop) : Prop :=
  ∃ f : Field, fs[i]? = some f ∧ f.offset = off ∧ P.cellsOf f.type = E.u ∧ Opn P enc W f.type E wf
theorem opn_field {fs : Array Field} (ht : P.underlying t = some (.struct fs)) {fuel : Nat} {cs : List Value} {x : DataW H × List MemPlace} (h : DataW.trod enc P W 0 (fun _ => true) true fuel t cs = some x)
    {i off : Nat} {α : Type} {E : Enc α} {wf : α → Prop} (hf : FOpn P enc W fs i off E wf) : ∃ a, wf a ∧ VRs (ρW W) [] (E.e a) ((cs.drop off).take E.u) := by
  obtain ⟨xs, n, _, rfl, _, hlen, hfs⟩ := DataW.trod_struct ht h
  obtain ⟨f, h1, rfl, h2, h3⟩ := hf
  have h4 := hfs i f h1
  have h5 : i < xs.length := by
    rw [hlen]
    exact (Array.getElem?_eq_some_iff.1 h1).1
  rw [List.getElem?_eq_getElem h5, h2] at h4
  exact h3 n _ _ h4
theorem opn_len {fs : Array Field} (ht : P.underlying t = some (.struct fs)) {fuel : Nat} {cs : List Value} {x : DataW H × List MemPlace} (h : DataW.trod enc P W 0 (fun _ => true) true fuel t cs = some x) : cs.length = P.cellsOf t := by
  obtain ⟨xs, n, _, _, hl, _⟩ := DataW.trod_struct ht h
  exact hl
theorem vrs_append {ρ : RP} {G : Heap} : ∀ {a b a' b' : List Value}, VRs ρ G a a' → VRs ρ G b b' → VRs ρ G (a ++ b) (a' ++ b')
  | a, b, a', b', h1, h2 => by
    refine ⟨by rw [List.length_append, List.length_append, h1.1, h2.1], fun j v v' hv hv' => ?_⟩
    by_cases hj : j < a.length
    · rw [List.getElem?_append_left hj] at hv
      rw [List.getElem?_append_left (by have := h1.1; omega)] at hv'
      exact h1.2 j v v' hv hv'
    · have h3 := h1.1
      rw [List.getElem?_append_right (by omega)] at hv hv'
      rw [h3] at hv
      exact h2.2 _ v v' (by first | exact hv | (rw [h3]; exact hv)) hv'
/-- A field, and those behind it. -/
theorem vrs_next {ρ : RP} {G : Heap} {a b cs : List Value} {off k n : Nat} (h1 : VRs ρ G a ((cs.drop off).take k)) (hn : n = off + k) (h2 : VRs ρ G b (cs.drop n)) : VRs ρ G (a ++ b) (cs.drop off) := by
  have := vrs_append h1 h2
  rw [hn, ← List.drop_drop, List.take_append_drop] at this
  exact this
theorem vrs_end {ρ : RP} {G : Heap} {cs : List Value} {n : Nat} (h : cs.length = n) : VRs ρ G [] (cs.drop n) := by
  rw [List.drop_of_length_le (by omega)]
  exact VRs.nil _ _
theorem vrs_all {ρ : RP} {G : Heap} {a cs : List Value} (h : VRs ρ G a (cs.drop 0)) : VRs ρ G a cs := by rwa [List.drop_zero] at h
end
end Go.Proofs.Ytdkdifjjpbfohaa.Fw
