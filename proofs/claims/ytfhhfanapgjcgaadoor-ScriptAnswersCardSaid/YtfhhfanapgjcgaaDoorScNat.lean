/- What the library answers here: three functions, by their contracts. -/
import Derived.Test.YtfhhfanapgjcgaaDoorFwC
import Derived.Test.YtfhhfanapgjcgaaDoorScSh
import Derived.Lib.Bytealg
import Derived.Lib.Join
import Derived.Test.YtfhhfanapgjcgaaDoorChecked
namespace Go.Proofs.YtfhhfanapgjcgaaDoor
open Go Fw
set_option linter.unusedSimpArgs false
set_option linter.unusedVariables false
set_option linter.unusedSectionVars false

/-- The place of the first such byte; below 0: there is none. -/
def idxB (l : List UInt8) (c : UInt8) : Int := Go.Lib.indexByte l c
def cntB (l : List UInt8) (c : UInt8) : Int := (Go.Lib.countByte l c : Nat)
def strL : List Value → Option (List (List UInt8))
  | [] => some []
  | .string s :: l => (strL l).map (s.data.toList :: ·)
  | _ => none
def one1 : List UInt8 → Option UInt8
  | [c] => some c
  | _ => none
/-- Strings in a row, joined. -/
def joinV (vs : List Value) (sep : List UInt8) : Option Value := (strL vs).map fun xs => .string ⟨(Go.Lib.join xs sep).toArray⟩
def natSc (f : Nat) (args : List Value) : Option Value :=
  match args with
  | [.string s, .string t] =>
    bif Nat.beq f 88 then (match one1 t.data.toList with
      | some c => some (.int .i64 (idxB s.data.toList c))
      | none => bif Nat.blt s.size 4294967281 then some (.int .i64 (Go.Lib.index s.data.toList t.data.toList)) else none)
    else bif Nat.beq f 68 then (one1 t.data.toList).map fun c => .int .i64 (cntB s.data.toList c)
    else none
  | [.func (.yield n) _ cs, .string t] =>
    bif Nat.beq f 78 && Nat.beq n cs.size && Nat.ble cs.size 4096 then
      (strL cs.toList).bind fun xs => bif Nat.ble (Go.Lib.join xs t.data.toList).length 1000000 then some (.string ⟨(Go.Lib.join xs t.data.toList).toArray⟩) else none
    else none
  | [.slice none 0 0, .string t] => bif Nat.beq f 78 then some (.string ⟨#[]⟩) else none
  | _ => none
theorem one1_eq {t : ByteArray} {c : UInt8} (h : one1 t.data.toList = some c) : t = ⟨#[c]⟩ := by
  obtain ⟨⟨l⟩⟩ := t
  match l, h with
  | [a], h => cases h; rfl
theorem strL_at : ∀ {l : List Value} {xs : List (List UInt8)}, strL l = some xs → xs.length = l.length ∧ ∀ (j : Nat) x, xs[j]? = some x → l[j]? = some (.string ⟨x.toArray⟩)
  | [], xs, h => by
    cases h
    exact ⟨rfl, fun j x hx => by simp at hx⟩
  | v :: l, xs, h => by
    cases v with
    | string s =>
      simp only [strL] at h
      obtain ⟨ys, h1, rfl⟩ := Option.map_eq_some_iff.1 h
      obtain ⟨i1, i2⟩ := strL_at h1
      refine ⟨by simp [i1], fun j x hx => ?_⟩
      cases j with
      | zero => simp at hx; subst hx; simp
      | succ j => simp at hx; simpa using i2 j x hx
    | _ => simp [strL] at h
theorem ac_join {n : Nat} {f cs : Array Value} {t : ByteArray} {xs : List (List UInt8)} (hn : n = cs.size) (h4 : cs.size ≤ 4096) (hx : strL cs.toList = some xs) (hl : (Go.Lib.join xs t.data.toList).length ≤ 1000000) (H : Heap) :
    AC Tryd.prog 78 [.func (.yield n) f cs, .string t] H (.string ⟨(Go.Lib.join xs t.data.toList).toArray⟩) H := by
  refine ⟨by kernel_rfl, fun ρ w args' _ h hr => ?_⟩
  obtain ⟨a1, r1, rfl, h1, h2⟩ := h.head
  obtain ⟨a2, r2, rfl, h3, h4'⟩ := h2.head
  have h5 := h4'.nil_inv
  subst h5
  have h6 := h3.string_inv
  subst h6
  obtain ⟨x0, x2⟩ := strL_at hx
  have x1 : xs.length = cs.size := x0.trans Array.length_toList
  obtain ⟨hf0, hi⟩ := h1.imm_inv
  rcases hi with ⟨b, off, c', c, rfl, q1, q2, q3, q4, q5⟩ | ⟨rfl, hcs, a, rfl⟩
  · have hcell : ∀ (j : Nat) x, (xs.map fun l => (⟨l.toArray⟩ : ByteArray))[j]? = some x → w.cell? ⟨b, off + j, none⟩ = some (.string x) := by
      intro j x hj
      rw [List.getElem?_map, Option.map_eq_some_iff] at hj
      obtain ⟨y, hy, rfl⟩ := hj
      have hz := x2 j y hy
      obtain ⟨hjs, hz'⟩ := List.getElem?_eq_some_iff.1 hz
      rw [Array.length_toList] at hjs
      have hoff := q3 j hjs
      rw [fz_cell hr q1 hoff]
      have hv := q5 j hjs hoff
      have he : cs[j] = .string ⟨y.toArray⟩ := by simpa using hz'
      rw [he] at hv
      rw [hv.string_inv]
    obtain ⟨⟨ct, cfr, hblk⟩, _⟩ := hr.fz b c q1
    have hbk : b < w.heap.size := (Array.getElem?_eq_some_iff.1 hblk).1
    have hmap : (xs.map fun l => (⟨l.toArray⟩ : ByteArray)).map (·.data.toList) = xs := by
      rw [List.map_map]
      conv => rhs; rw [← List.map_id xs]
      exact List.map_congr_left fun x _ => by simp
    have hc := Tryd.strings_Join b off c' (xs.map fun l => (⟨l.toArray⟩ : ByteArray)) t w hcell hbk (by rw [List.length_map]; omega) (by rw [List.length_map]; omega) (by rw [hmap]; omega)
    rw [hmap, List.length_map, x1, ← hn] at hc
    refine hc.mono fun e w' ⟨he, hw⟩ => ?_
    obtain ⟨k1, k2⟩ := hr.kept (ρ2 := ρ) (w' := w') rfl (fun b hb => hw.block b hb) (fun _ _ h => h) (fun _ _ h => .inl h)
    exact ⟨_, ρ, he, .plain _ rfl, k1, ⟨hw.os, hw.tape, hw.output, hw.size, fun b hb _ => hw.block b hb, fun i e h1 h2 => .inr ⟨i, e, h1, h2, rfl⟩, fun _ _ h => .inl h, k2⟩⟩
  · subst hcs
    have hx0 : xs = [] := List.eq_nil_of_length_eq_zero (by rw [x1]; rfl)
    subst hx0
    refine (Tryd.strings_Join_none (some a) 0 t w).mono fun e w' ⟨he, hw⟩ => ?_
    subst hw
    exact ⟨_, ρ, he, .plain _ rfl, hr, Fr.refl _ _ _⟩
theorem natSc_ok : NatOk Tryd.prog natSc := by
  intro f args v h H
  unfold natSc at h
  split at h
  · rename_i s t
    cases h1 : Nat.beq f 88 with
    | true =>
      rw [h1, cond_true] at h
      have hf := Nat.eq_of_beq_eq_true h1
      subst hf
      split at h
      · rename_i c hc
        cases h
        have ht := one1_eq hc
        subst ht
        exact ac_of_calls (by kernel_rfl) rfl rfl (fun w => Tryd.stringslite_Index_one s c w) H
      · cases hb : Nat.blt s.size 4294967281 with
        | false => rw [hb] at h; cases h
        | true =>
          rw [hb] at h
          cases h
          have hs : s.size < 4294967281 := Nat.le_of_ble_eq_true hb
          exact ac_of_callsK (by kernel_rfl) rfl rfl (by kernel_rfl) (fun w m g hg hm => by
            have hg0 : Tryd.prog.globalNamed "internal/bytealg.MaxLen" = some 0 := by kernel_rfl
            rw [hg0] at hg
            cases hg
            exact Tryd.stringslite_Index s t m w hs hm) H
    | false =>
      rw [h1, cond_false] at h
      cases h2 : Nat.beq f 68 with
      | true =>
        rw [h2, cond_true] at h
        have hf := Nat.eq_of_beq_eq_true h2
        subst hf
        obtain ⟨c, hc, rfl⟩ := Option.map_eq_some_iff.1 h
        have ht := one1_eq hc
        subst ht
        exact ac_of_calls (by kernel_rfl) rfl rfl (fun w => Tryd.strings_Count_one s c w) H
      | false =>
        rw [h2, cond_false] at h
        cases h
  · rename_i n f' cs t
    cases h1 : Nat.beq f 78 && Nat.beq n cs.size && Nat.ble cs.size 4096 with
    | true =>
      rw [h1, cond_true] at h
      simp only [Bool.and_eq_true] at h1
      have hf := Nat.eq_of_beq_eq_true h1.1.1
      have hn := Nat.eq_of_beq_eq_true h1.1.2
      have h4 := Nat.le_of_ble_eq_true h1.2
      subst hf
      obtain ⟨xs, hx, h⟩ := Option.bind_eq_some_iff.1 h
      cases h3 : Nat.ble (Go.Lib.join xs t.data.toList).length 1000000 with
      | true =>
        rw [h3, cond_true] at h
        cases h
        exact ac_join hn h4 hx (Nat.le_of_ble_eq_true h3) H
      | false =>
        rw [h3, cond_false] at h
        cases h
    | false =>
      rw [h1, cond_false] at h
      cases h
  · rename_i t
    cases h1 : Nat.beq f 78 with
    | true =>
      rw [h1, cond_true] at h
      have hf := Nat.eq_of_beq_eq_true h1
      subst hf
      cases h
      exact ac_of_calls (by kernel_rfl) rfl rfl (fun w => Tryd.strings_Join_none none 0 t w) H
    | false =>
      rw [h1, cond_false] at h
      cases h
  · cases h
end Go.Proofs.YtfhhfanapgjcgaaDoor
