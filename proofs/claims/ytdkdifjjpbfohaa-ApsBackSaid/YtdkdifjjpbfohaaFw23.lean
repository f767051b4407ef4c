/- Arguments that a caller lays down, opened as typed lists. -/
import Derived.Test.YtdkdifjjpbfohaaFw22
import Derived.ChangeArms
import Derived.DataReads
namespace Go.Proofs.Ytdkdifjjpbfohaa.Fw
open Go
set_option linter.unusedSimpArgs false
set_option linter.unusedVariables false

/-! ### Slices, nil or not -/
section
variable {α : Type} {E : Enc α} {o : Option (List α)} {H : Heap}
def slV (E : Enc α) : Option (List α) → Value
  | none => .slice none 0 0
  | some l => imm E l
def lst (o : Option (List α)) : List α := o.getD []
theorem lst_some {l : List α} : lst (some l) = l := rfl
theorem lst_none : lst (none : Option (List α)) = [] := rfl
theorem lenI_sl : lenI H 1 (slV E o) = some (.int .i64 (lst o).length, H) := by cases o <;> rfl
theorem ix_sl {n : Nat} (hn : n = E.u) {i : Nat} (hi : i < (lst o).length) (k : IntKind) (H : Heap) : ixaI H n (slV E o) (.int k i) = some (atI E (lst o) i, H) := by
  cases o with
  | none => simp [lst] at hi
  | some l => exact ix_at hn hi k H
theorem srcOf_sl {n : Nat} (hn : n = E.u) : srcOf H n (slV E o) = some (E.cs (lst o), (lst o).length) := by
  cases o with
  | none => rfl
  | some l => exact srcOf_imm hn
theorem b2sI_sl {o : Option (List UInt8)} : b2sI H (slV byteE o) = some (strV (lst o), H) := by
  cases o with
  | none => rfl
  | some l => exact b2sI_imm
theorem isNil_sl : isNil 1 (slV E o) = some o.isNone := by cases o <;> rfl
theorem pure_sl {k : Nat} (h : Nat.blt E.d k = true) : pureV k (slV E o) = true := by
  cases o with
  | none => cases k <;> rfl
  | some l => exact pure_imm h
theorem cells_sl : (slV E o).cells = #[slV E o] := by cases o <;> rfl
theorem oneC_sl : oneC (slV E o) = true := by cases o <;> rfl
theorem oneAll_sl : oneAll (slV E o) = true := by simp [oneAll, cells_sl, oneC_sl]
/-- Slices as parts of others. -/
def slE (E : Enc α) : Enc (Option (List α)) where
  e o := [slV E o]
  u := 1
  d := E.d + 1
  hu _ := rfl
  hp k o := by
    simp only [List.all_cons, List.all_nil, Bool.and_true]
    exact pure_sl (by simp [Nat.blt])
  ho o := by simp [oneC_sl]
theorem slE_u : (slE E).u = 1 := rfl
theorem slE_d : (slE E).d = E.d + 1 := rfl
theorem slE_e : (slE E).e o = [slV E o] := rfl
end

/-! ### Opening -/
def fzW (W : World) (b : Nat) : Option (Array Value) :=
  match W.heap[b]? with
  | some (.cells c _ _) => some c
  | _ => none
/-- All that is there stays as it is. -/
def ρW (W : World) : RP := ⟨fun _ => ⟨0, 0, 0⟩, fzW W⟩
theorem rel_W (W : World) : Rel (ρW W) [] W := Rel.nil _ _ fun b c h => by
  simp only [ρW, fzW] at h
  split at h
  · rename_i c' t fr h4
    obtain rfl := Option.some.inj h
    exact ⟨t, fr, h4⟩
  · cases h
theorem cell_fzW {W : World} {a : Addr} {v : Value} (h : W.cell? a = some v) : a.spot = none ∧ ∃ c, fzW W a.block = some c ∧ c[a.off]? = some v := by
  unfold World.cell? at h
  unfold fzW
  split at h
  · rename_i c t fr h1
    split at h
    · cases h
    · rename_i hs
      refine ⟨by cases hh : a.spot with | none => rfl | some s => rw [hh] at hs; simp at hs, c, ?_, h⟩
      simp [h1]
  · cases h

section
variable {H : Type} {P : Program} {enc : TypeId × Value → H} {W : World} {t e : TypeId}
/-- A type's data open as values of a Lean type. -/
def Opn (P : Program) (enc : TypeId × Value → H) (W : World) (t : TypeId) {α : Type} (E : Enc α) (wf : α → Prop) : Prop :=
  ∀ fuel cs x, DataW.trod enc P W 0 (fun _ => true) true fuel t cs = some x → ∃ a, wf a ∧ VRs (ρW W) [] (E.e a) cs

theorem opn_int {k : IntKind} (ht : P.underlying t = some (.int k)) : Opn P enc W t (intE k) fun n => (Lit.int k n).wf = true := fun fuel cs x h => by
  obtain ⟨n', rfl, _, hw⟩ := DataW.trod_int ht h
  exact ⟨n', hw, VRs.cons (.plain _ rfl) (VRs.nil _ _)⟩
theorem opn_bool (ht : P.underlying t = some .bool) : Opn P enc W t boolE fun _ => True := fun fuel cs x h => by
  obtain ⟨b, rfl, _⟩ := DataW.trod_bool ht h
  exact ⟨b, trivial, VRs.cons (.plain _ rfl) (VRs.nil _ _)⟩
theorem opn_string (ht : P.underlying t = some .string) : Opn P enc W t strE fun s => s.length ≤ maxLen := fun fuel cs x h => by
  obtain ⟨s, rfl, _, hs⟩ := DataW.trod_string ht h
  refine ⟨s.data.toList, ?_, VRs.cons ?_ (VRs.nil _ _)⟩
  · show s.data.toList.length ≤ maxLen
    rw [Array.length_toList]; exact hs
  · show VR (ρW W) [] (.string ⟨s.data.toList.toArray⟩) (.string s)
    rw [Array.toArray_toList]
    exact .plain _ rfl
theorem byte_wf {n : Int} (h : (Lit.int .u8 n).wf = true) : 0 ≤ n ∧ n < 256 := by
  simp [Lit.wf, IntKind.min, IntKind.max, IntKind.bits, IntKind.signed] at h
  omega
theorem opn_byte (ht : P.underlying t = some (.int .u8)) : Opn P enc W t byteE fun _ => True := fun fuel cs x h => by
  obtain ⟨n, h1, h2⟩ := opn_int ht fuel cs x h
  obtain ⟨h3, h4⟩ := byte_wf h1
  refine ⟨UInt8.ofNat n.toNat, trivial, ?_⟩
  have := byte_one h3 h4
  rw [cs_one] at this
  rw [← this]
  exact h2
theorem opn_slice {α : Type} {E : Enc α} {wf : α → Prop} (ht : P.underlying t = some (.slice e)) (hu : P.cellsOf e = E.u) (hu0 : 0 < E.u) (he : Opn P enc W e E wf) :
    Opn P enc W t (slE E) fun o => (lst o).length ≤ maxLen ∧ ∀ x ∈ lst o, wf x := fun fuel cs x h => by
  rcases DataW.trod_slice ht h with ⟨rfl, _⟩ | ⟨a, len, cap, elems, rest, n, _, rfl, rfl, hb, hl, hm, hlen, hel, hsp, hns⟩
  · exact ⟨none, ⟨Nat.zero_le _, fun x hx => by simp [lst] at hx⟩, VRs.cons (.plain _ rfl) (VRs.nil _ _)⟩
  · rcases Nat.eq_zero_or_pos cap with h0 | h0
    · subst h0
      have hl0 : len = 0 := by omega
      subst hl0
      exact ⟨some [], ⟨Nat.zero_le _, fun x hx => by simp [lst] at hx⟩, VRs.cons (.imm0 a) (VRs.nil _ _)⟩
    · -- where all lie
      have hplace : a.spot = none ∧ ∃ c, fzW W a.block = some c := by
        have key : ∀ i y, ((elems ++ rest)[i]? = some y) → i < cap → ∃ v, W.cell? ((a.add (i * P.cellsOf e)).add 0) = some v := fun i y hy hi => by
          have : (W.cells? 0 (a.add (i * P.cellsOf e)) (P.cellsOf e)).bind (DataW.trod enc P W 0 (fun _ => true) true n e) = some y := by
            by_cases hil : i < len
            · rw [hel i hil, ← hy, List.getElem?_append_left (by omega)]
            · obtain ⟨hrl, hr⟩ := hsp rfl
              have := hr (i - len) (by omega)
              rw [show len + (i - len) = i by omega] at this
              rw [this, ← hy, List.getElem?_append_right (by omega), hlen]
          rw [Option.bind_eq_some_iff] at this
          obtain ⟨cs1, h2, _⟩ := this
          obtain ⟨_, h6, h7⟩ := World.cells?_some h2
          have h8 := h7 0 (by omega)
          rw [List.getElem?_eq_getElem (show 0 < cs1.length by omega)] at h8
          exact ⟨_, h8⟩
        obtain ⟨hrl, _⟩ := hsp rfl
        obtain ⟨v, hv⟩ := key 0 _ (List.getElem?_eq_getElem (show 0 < (elems ++ rest).length by simp; omega)) h0
        have h9 := cell_fzW hv
        have hs : a.spot = none := by
          have := h9.1
          simpa [Addr.add] using this
        refine ⟨hs, ?_⟩
        obtain ⟨_, c, hc, _⟩ := h9
        cases a with
        | mk b o s =>
          simp only at hs
          subst hs
          rw [addr_add, addr_add] at hc
          exact ⟨c, hc⟩
      obtain ⟨hsp0, c, hc⟩ := hplace
      -- each element, and where it lies
      have each : ∀ i, i < len → ∃ x, wf x ∧ ∃ c, fzW W a.block = some c ∧ ∀ (j : Nat) (h : j < (E.e x).length), ∃ v', c[a.off + i * E.u + j]? = some v' ∧ VR (ρW W) [] (E.e x)[j] v' := fun i hi => by
        have h1 := hel i hi
        have hi' : i < elems.length := by omega
        rw [List.getElem?_eq_getElem hi', Option.bind_eq_some_iff] at h1
        obtain ⟨cs1, h2, h3⟩ := h1
        obtain ⟨x, h4, h5⟩ := he n cs1 _ h3
        obtain ⟨_, h6, h7⟩ := World.cells?_some h2
        rw [hu] at h6
        have hx0 : 0 < (E.e x).length := by rw [E.hu]; exact hu0
        have hcell : ∀ j, j < E.u → ∃ v', cs1[j]? = some v' ∧ W.cell? ((a.add (i * P.cellsOf e)).add j) = some v' := fun j hj => by
          have hj1 : j < cs1.length := by omega
          refine ⟨cs1[j], List.getElem?_eq_getElem hj1, ?_⟩
          rw [h7 j (by rw [hu]; exact hj)]
          exact List.getElem?_eq_getElem hj1
        have hadd : ∀ j, (a.add (i * P.cellsOf e)).add j = ⟨a.block, a.off + i * E.u + j, none⟩ := fun j => by
          cases a with
          | mk b o s =>
            simp only at hsp0
            subst hsp0
            rw [addr_add, addr_add, hu]
        refine ⟨x, h4, c, hc, fun j hj => ?_⟩
        have hju : j < E.u := by rw [← E.hu x]; exact hj
        obtain ⟨v', e1, e2⟩ := hcell j hju
        rw [hadd] at e2
        obtain ⟨_, c2, hc2, hget⟩ := cell_fzW e2
        rw [hc] at hc2
        cases hc2
        exact ⟨v', hget, h5.2 j _ v' (List.getElem?_eq_getElem hj) e1⟩
      have hs := hsp0
      obtain ⟨f, hf⟩ : ∃ f : Nat → α, ∀ i, i < len → wf (f i) ∧ ∀ (j : Nat) (h : j < (E.e (f i)).length), ∃ v', c[a.off + i * E.u + j]? = some v' ∧ VR (ρW W) [] (E.e (f i))[j] v' := by
        classical
        rcases Nat.eq_zero_or_pos len with hz | hz
        · by_cases hα : Nonempty α
          · exact ⟨fun _ => Classical.choice hα, fun i hi => by omega⟩
          · exfalso
            obtain ⟨hrl, hr⟩ := hsp rfl
            have h1 := hr 0 (by omega)
            rw [List.getElem?_eq_getElem (show 0 < rest.length by omega), Option.bind_eq_some_iff] at h1
            obtain ⟨cs1, _, h3⟩ := h1
            obtain ⟨x, _⟩ := he n cs1 _ h3
            exact hα ⟨x⟩
        · obtain ⟨x0, _⟩ := each 0 hz
          refine ⟨fun i => if h : i < len then (each i h).choose else x0, fun i hi => ?_⟩
          simp only [dif_pos hi]
          obtain ⟨h1, c2, h2, h3⟩ := (each i hi).choose_spec
          rw [hc] at h2
          cases h2
          exact ⟨h1, h3⟩
      refine ⟨some ((List.range len).map f), ⟨by simp [lst]; omega, fun x hx => ?_⟩, VRs.cons ?_ (VRs.nil _ _)⟩
      · simp only [lst, Option.getD_some, List.mem_map, List.mem_range] at hx
        obtain ⟨i, hi, rfl⟩ := hx
        exact (hf i hi).1
      · have hlen2 : ((List.range len).map f).length = len := by simp
        have hgetc : ∀ (j : Nat) (hj : j < (E.cs ((List.range len).map f)).length), ∃ v', c[a.off + j]? = some v' ∧ VR (ρW W) [] (E.cs ((List.range len).map f))[j] v' := fun j hj => by
          have hj2 : j < len * E.u := by rw [cs_length, hlen2] at hj; exact hj
          have hi : j / E.u < len := Nat.div_lt_of_lt_mul (by rw [Nat.mul_comm]; exact hj2)
          have hr : j % E.u < E.u := Nat.mod_lt _ hu0
          have hjd : j = j / E.u * E.u + j % E.u := by rw [Nat.mul_comm]; exact (Nat.div_add_mod j E.u).symm
          obtain ⟨_, h1⟩ := hf (j / E.u) hi
          obtain ⟨v', h2, h3⟩ := h1 (j % E.u) (by rw [E.hu]; exact hr)
          refine ⟨v', by rw [← h2]; congr 1; omega, ?_⟩
          have hdrop := cs_drop (E := E) ((List.range len).map f) (j / E.u)
          have hg : (E.cs ((List.range len).map f))[j]? = some ((E.e (f (j / E.u)))[j % E.u]'(by rw [E.hu]; exact hr)) := by
            have h4 : ((E.cs ((List.range len).map f)).drop (j / E.u * E.u))[j % E.u]? = (E.cs ((List.range len).map f))[j]? := by
              rw [List.getElem?_drop]; congr 1; omega
            rw [← h4, hdrop, List.drop_eq_getElem_cons (by rw [hlen2]; exact hi), cs_cons, List.getElem?_append_left (by rw [E.hu]; exact hr)]
            simp
          rw [List.getElem?_eq_getElem hj] at hg
          rw [Option.some.inj hg]
          exact h3
        cases a with
        | mk b o s =>
          simp only at hs
          subst hs
          simp only [slV, imm, hlen2]
          refine .imm len _ b o cap c hc hl (fun j hj => ?_) (fun j hj => ?_) (fun j hj hj' => ?_)
          · obtain ⟨v', h1, _⟩ := hgetc j (by simpa using hj)
            exact (Array.getElem?_eq_some_iff.1 h1).1
          · have hall := cs_oneC (E := E) (l := (List.range len).map f)
            rw [List.all_eq_true] at hall
            exact hall _ (by simp)
          · obtain ⟨v', h1, h2⟩ := hgetc j (by simpa using hj)
            obtain ⟨h3, rfl⟩ := Array.getElem?_eq_some_iff.1 h1
            simpa using h2
end
end Go.Proofs.Ytdkdifjjpbfohaa.Fw
