/- Steps that look at memory, or make it. -/
import Derived.Test.YtdkdifjjpbfohaaFw3
import Derived.Laws.BytesArg
import Derived.Laws.StructEq
namespace Go.Proofs.Ytdkdifjjpbfohaa.Fw
open Go

theorem addr_add (b o j : Nat) : (⟨b, o, none⟩ : Addr).add j = ⟨b, o + j, none⟩ := by unfold Addr.add; split <;> simp_all
theorem lk_some {H : Heap} {a : Addr} {e : Entry} (h : lk H a = some e) : H[a.block]? = some e ∧ e.tag = tagOf a.spot := by
  unfold lk at h
  split at h
  · rename_i e' he
    cases hb : Nat.beq e'.tag (tagOf a.spot) with
    | false => rw [hb] at h; cases h
    | true =>
      rw [hb] at h
      obtain rfl := Option.some.inj h
      exact ⟨he, Nat.eq_of_beq_eq_true hb⟩
  · cases h
theorem cellsAt_some {H : Heap} {a : Addr} {l : List Value} (h : cellsAt H a = some l) : ∃ e ro u cs, H[a.block]? = some e ∧ e.tag = tagOf a.spot ∧ e.obj = .cells ro u cs ∧ l = cs.drop a.off := by
  unfold cellsAt at h
  split at h
  · rename_i tag ro u cs he
    obtain ⟨h1, h2⟩ := lk_some he
    exact ⟨_, ro, u, cs, h1, h2, rfl, (Option.some.inj h).symm⟩
  · cases h
theorem rdN_some : ∀ {n : Nat} {l r : List Value}, rdN l n = some r → r.length = n ∧ ∀ (j : Nat) x, r[j]? = some x → l[j]? = some x
  | 0, l, r, h => by
    have : rdN l 0 = some [] := by cases l <;> rfl
    rw [this] at h
    obtain rfl := Option.some.inj h
    exact ⟨rfl, fun j x hx => by simp at hx⟩
  | n + 1, [], r, h => by simp [rdN] at h
  | n + 1, x :: l, r, h => by
    simp only [rdN, Option.map_eq_some_iff] at h
    obtain ⟨r', h1, rfl⟩ := h
    obtain ⟨h2, h3⟩ := rdN_some h1
    refine ⟨by simp [h2], fun j y hy => ?_⟩
    cases j with
    | zero => simpa using hy
    | succ j => simp at hy ⊢; exact h3 j y hy

section
variable {P : Program} {nt : Nat} {env : Nat → Value} {H : Heap} {ρ : RP} {w : World} {a : Act}

/-- What lies at a place. -/
theorem cell_at (hr : Rel ρ H w) {i off : Nat} {e : Entry} {ro : Bool} {u : Nat} {cs : List Value} (he : H[i]? = some e) (ho : e.obj = .cells ro u cs) {j : Nat} {x : Value} (hx : (cs.drop off)[j]? = some x) :
    oneC x = true ∧ ∃ x', w.cell? ⟨(ρ i).block, (ρ i).base + off + j, none⟩ = some x' ∧ VR ρ H x x' := by
  obtain ⟨c, t, fr, h1, _, _, h4⟩ := hr.cells i e ro u cs he ho
  rw [List.getElem?_drop] at hx
  obtain ⟨h5, x', h6, h7⟩ := h4 (off + j) x hx
  refine ⟨h5, x', ?_, h7⟩
  simp only [World.cell?, h1]
  rw [← h6, Nat.add_assoc]
  rfl

/-- A list of cells is read. -/
theorem read_list (hr : Rel ρ H w) {i off : Nat} {e : Entry} {ro : Bool} {u : Nat} {cs : List Value} (he : H[i]? = some e) (ho : e.obj = .cells ro u cs) :
    ∀ (r : List Value) (k : Nat), (∀ (j : Nat) x, r[j]? = some x → (cs.drop off)[k + j]? = some x) →
      ∃ r', VRs ρ H r r' ∧ (∀ x ∈ r, oneC x = true) ∧ ∀ (j : Nat) v, r'[j]? = some v → w.cell? ⟨(ρ i).block, (ρ i).base + off + k + j, none⟩ = some v
  | [], k, _ => ⟨[], VRs.nil _ _, fun x h => by simp at h, fun j v h => by simp at h⟩
  | x :: r, k, h => by
    obtain ⟨h1, x', h2, h3⟩ := cell_at hr he ho (h 0 x rfl)
    obtain ⟨r', h4, h5, h6⟩ := read_list hr he ho r (k + 1) (fun j y hy => by have := h (j + 1) y (by simpa using hy); rwa [Nat.add_assoc, Nat.add_comm 1 j])
    refine ⟨x' :: r', VRs.cons h3 h4, fun y hy => ?_, fun j v hv => ?_⟩
    · rcases List.mem_cons.1 hy with rfl | hy
      · exact h1
      · exact h5 y hy
    · cases j with
      | zero =>
        simp at hv
        subst hv
        simpa using h2
      | succ j =>
        have := h6 j v (by simpa using hv)
        rwa [show (ρ i).base + off + (k + 1) + j = (ρ i).base + off + k + (j + 1) by omega] at this

/-- What lies in a block that doesn't change any more. -/
theorem fz_cell (hr : Rel ρ H w) {b off : Nat} {c : Array Value} (hb : ρ.fz b = some c) (h : off < c.size) : w.cell? ⟨b, off, none⟩ = some c[off] := by
  obtain ⟨⟨t, fr, h1⟩, _⟩ := hr.fz b c hb
  simp only [World.cell?, h1]
  rw [if_neg (by simp), Array.getElem?_eq_getElem h]
theorem read_fz (hr : Rel ρ H w) {b off : Nat} {c cs : Array Value} (hb : ρ.fz b = some c) (h1 : ∀ j, j < cs.size → off + j < c.size)
    (h2 : ∀ (j : Nat) (h : j < cs.size) (h' : off + j < c.size), VR ρ H cs[j] c[off + j]) :
    ∀ (r : List Value) (k : Nat), (∀ (j : Nat) x, r[j]? = some x → cs.toList[k + j]? = some x) → ∃ r', VRs ρ H r r' ∧ ∀ (j : Nat) v, r'[j]? = some v → w.cell? ⟨b, off + k + j, none⟩ = some v
  | [], k, _ => ⟨[], VRs.nil _ _, fun j v h => by simp at h⟩
  | x :: r, k, h => by
    have h3 := h 0 x rfl
    rw [Nat.add_zero, Array.getElem?_toList] at h3
    obtain ⟨h4, rfl⟩ := Array.getElem?_eq_some_iff.1 h3
    obtain ⟨r', h5, h6⟩ := read_fz hr hb h1 h2 r (k + 1) (fun j y hy => by have := h (j + 1) y (by simpa using hy); rwa [Nat.add_assoc, Nat.add_comm 1 j])
    refine ⟨c[off + k]'(h1 k h4) :: r', VRs.cons (h2 k h4 (h1 k h4)) h5, fun j v hv => ?_⟩
    cases j with
    | zero =>
      simp at hv
      subst hv
      exact fz_cell hr hb (h1 k h4)
    | succ j =>
      have := h6 j v (by simpa using hv)
      rwa [show off + (k + 1) + j = off + k + (j + 1) by omega] at this

theorem run_isAgg {t : TypeId} {b : Bool} (h : tyAgg P t = some b) (w : World) : (isAgg t).run P w = .ok b w := by
  unfold tyAgg at h
  split at h
  · rename_i h1; obtain rfl := Option.some.inj h; simp [isAgg, run_underlying h1]
  · rename_i h1; obtain rfl := Option.some.inj h; simp [isAgg, run_underlying h1]
  · rename_i d h1 h2 h3
    obtain rfl := Option.some.inj h
    simp only [isAgg, Sem.run_bind, run_underlying h3, Result.andThen_ok]
    cases d <;> first | rfl | exact absurd rfl (h1 _) | exact absurd rfl (h2 _ _)
  · cases h

theorem run_sizeOf' {t : TypeId} (h : (P.info? t).isSome = true) (w : World) : (sizeOf t).run P w = .ok (P.cellsOf t) w := by
  obtain ⟨i, hi⟩ := Option.isSome_iff_exists.1 h
  exact run_sizeOf w hi

theorem step_load {t : TypeId} {x : Operand} {x' : Opd} (ht : tyAgg P t = some false) (h1 : chkO nt x x' = true) {v : Value} {H' : Heap}
    (hs : stepI env H (.load x') = some (v, H')) (hr : Rel ρ H w) (he : EnvR ρ H nt env a) :
    Done P (do Pure.pure (.value (← Instr.loadAt t (a.eval x)))) w ρ H v H' := by
  have hx := opd_ok h1 he
  simp only [stepI, loadI] at hs
  split at hs
  · rename_i ad h4
    rw [h4] at hx
    split at hs
    · rename_i v0 l hc
      obtain ⟨rfl, rfl⟩ := Prod.mk.inj (Option.some.inj hs)
      obtain ⟨e, ro, u, cs, q1, q2, q3, q4⟩ := cellsAt_some hc
      have hp := hx.ptr_inv q1 q2 (by rw [q3]; rfl)
      obtain ⟨_, x', h5, h6⟩ := cell_at (j := 0) (x := v0) hr q1 q3 (by rw [← q4]; rfl)
      rw [hp]
      refine Done.pure ?_ h6 hr
      simp only [Instr.loadAt, Instr.sureAddr, Sem.run_bind, Sem.run_pure, Result.andThen_ok, loadVar, run_isAgg ht, Bool.false_eq_true, if_false, run_load]
      rw [Nat.add_zero] at h5
      rw [h5]
      rfl
    · cases hs
  · rename_i tt mm f cs h4
    rw [h4] at hx
    split at hs
    · rename_i v0 l hc
      obtain ⟨rfl, rfl⟩ := Prod.mk.inj (Option.some.inj hs)
      obtain ⟨_, _, _, b, off, c, hv, q1, q2, q3, q4⟩ := hx.iptr_inv
      have hc0 : cs.toList[0]? = some v0 := by rw [hc]; rfl
      rw [Array.getElem?_toList] at hc0
      obtain ⟨h5, rfl⟩ := Array.getElem?_eq_some_iff.1 hc0
      have h6 := q2 0 h5
      have h7 := q4 0 h5 h6
      rw [hv]
      refine Done.pure ?_ h7 hr
      simp only [Instr.loadAt, Instr.sureAddr, Sem.run_bind, Sem.run_pure, Result.andThen_ok, loadVar, run_isAgg ht, Bool.false_eq_true, if_false, run_load]
      rw [fz_cell hr q1 (show off < c.size from h6)]
      rfl
    · cases hs
  · cases hs

theorem step_loadN {t : TypeId} {n : Nat} {x : Operand} {x' : Opd} (ht : tyAgg P t = some true) (hn : P.cellsOf t = n) (hi : (P.info? t).isSome = true) (h1 : chkO nt x x' = true) {v : Value} {H' : Heap}
    (hs : stepI env H (.loadN n x') = some (v, H')) (hr : Rel ρ H w) (he : EnvR ρ H nt env a) :
    Done P (do Pure.pure (.value (← Instr.loadAt t (a.eval x)))) w ρ H v H' := by
  have hx := opd_ok h1 he
  simp only [stepI, loadNI] at hs
  split at hs
  · rename_i ad h4
    rw [h4] at hx
    split at hs
    · rename_i l hc
      simp only [Option.map_eq_some_iff] at hs
      obtain ⟨r, hrd, h2⟩ := hs
      obtain ⟨rfl, rfl⟩ := Prod.mk.inj h2
      obtain ⟨e, ro, u, cs, q1, q2, q3, q4⟩ := cellsAt_some hc
      have hp := hx.ptr_inv q1 q2 (by rw [q3]; rfl)
      obtain ⟨h5, h6⟩ := rdN_some hrd
      obtain ⟨r', h7, _, h8⟩ := read_list (off := ad.off) hr q1 q3 r 0 (fun j x hx => by rw [Nat.zero_add, ← q4]; exact h6 j x hx)
      have hrun := run_loadCells_list (P := P) w ⟨(ρ ad.block).block, (ρ ad.block).base + ad.off, none⟩ r' (fun j v hv => by rw [addr_add]; have := h8 j v hv; rwa [Nat.add_zero] at this)
      rw [hp]
      refine Done.pure (v' := .agg r'.toArray) ?_ (VRs.agg (by simpa using h7)) hr
      have hlen : r'.length = n := by rw [← h7.1, h5]
      rw [hlen] at hrun
      simp only [Instr.loadAt, Instr.sureAddr, Sem.run_bind, Sem.run_pure, Result.andThen_ok, loadVar, run_isAgg ht, if_true, run_sizeOf' hi, hn, hrun]
    · cases hs
  · rename_i tt mm f cs h4
    rw [h4] at hx
    simp only [Option.map_eq_some_iff] at hs
    obtain ⟨r, hrd, h2⟩ := hs
    obtain ⟨rfl, rfl⟩ := Prod.mk.inj h2
    obtain ⟨_, _, _, b, off, c, hv, q1, q2, q3, q4⟩ := hx.iptr_inv
    obtain ⟨h5, h6⟩ := rdN_some hrd
    obtain ⟨r', h7, h8⟩ := read_fz (w := w) hr q1 q2 q4 r 0 (fun j x hx => by rw [Nat.zero_add]; exact h6 j x hx)
    have hrun := run_loadCells_list (P := P) w ⟨b, off, none⟩ r' (fun j v hv => by rw [addr_add]; have := h8 j v hv; rwa [Nat.add_zero] at this)
    rw [hv]
    refine Done.pure (v' := .agg r'.toArray) ?_ (VRs.agg (by simpa using h7)) hr
    have hlen : r'.length = n := by rw [← h7.1, h5]
    rw [hlen] at hrun
    simp only [Instr.loadAt, Instr.sureAddr, Sem.run_bind, Sem.run_pure, Result.andThen_ok, loadVar, run_isAgg ht, if_true, run_sizeOf' hi, hn, hrun]
  · cases hs

/-! Stores -/
def splA (c : Array Value) (off : Nat) : List Value → Array Value
  | [] => c
  | v :: vs => splA (c.setIfInBounds off v) (off + 1) vs
theorem splA_size : ∀ (vs : List Value) (c : Array Value) (off : Nat), (splA c off vs).size = c.size
  | [], _, _ => rfl
  | v :: vs, c, off => by rw [splA, splA_size vs]; simp
theorem splA_get : ∀ (vs : List Value) (c : Array Value) (off k : Nat), off + vs.length ≤ c.size → (splA c off vs)[k]? = if off ≤ k ∧ k < off + vs.length then vs[k - off]? else c[k]?
  | [], c, off, k, _ => by
    have : ¬ (off ≤ k ∧ k < off + ([] : List Value).length) := by simp only [List.length_nil]; omega
    rw [if_neg this]; rfl
  | v :: vs, c, off, k, h => by
    simp only [List.length_cons] at h
    rw [splA, splA_get vs _ _ _ (by simp; omega)]
    by_cases h1 : off + 1 ≤ k ∧ k < off + 1 + vs.length
    · rw [if_pos h1, if_pos (by simp; omega)]
      have : k - off = (k - (off + 1)) + 1 := by omega
      rw [this]
      simp
    · rw [if_neg h1]
      by_cases h2 : k = off
      · subst h2
        rw [if_pos (by simp)]
        rw [Array.getElem?_setIfInBounds_self_of_lt (by omega)]
        simp
      · rw [if_neg (by simp; omega), Array.getElem?_setIfInBounds_ne (fun hh => h2 hh.symm)]
theorem spl_length : ∀ (vs cs : List Value) (off : Nat), (spl cs off vs).length = cs.length
  | [], _, _ => rfl
  | v :: vs, cs, off => by rw [spl, spl_length vs]; simp
theorem spl_get : ∀ (vs cs : List Value) (off k : Nat), off + vs.length ≤ cs.length → (spl cs off vs)[k]? = if off ≤ k ∧ k < off + vs.length then vs[k - off]? else cs[k]?
  | [], cs, off, k, _ => by
    have : ¬ (off ≤ k ∧ k < off + ([] : List Value).length) := by simp only [List.length_nil]; omega
    rw [if_neg this]; rfl
  | v :: vs, cs, off, k, h => by
    simp only [List.length_cons] at h
    rw [spl, spl_get vs _ _ _ (by simp; omega)]
    by_cases h1 : off + 1 ≤ k ∧ k < off + 1 + vs.length
    · rw [if_pos h1, if_pos (by simp; omega)]
      have : k - off = (k - (off + 1)) + 1 := by omega
      rw [this]
      simp
    · rw [if_neg h1]
      by_cases h2 : k = off
      · subst h2
        rw [if_pos (by simp), List.getElem?_set_self (by omega)]
        simp
      · rw [if_neg (by simp; omega), List.getElem?_set_ne (fun hh => h2 hh.symm)]

theorem oneC_iff (v : Value) : oneC v = v.oneCell' := by cases v <;> rfl

/-- Cells are stored into a block that isn't frozen there. -/
theorem run_storeCells (b off : Nat) (t : TypeId) (fr : Nat × Nat) : ∀ (vs : List Value) (i : Nat) (c : Array Value) (w : World), w.heap[b]? = some (.cells c t fr) → off + i + vs.length ≤ c.size →
    (∀ k, k < c.size → (decide (fr.1 ≤ k) && decide (k < fr.2)) = false) → (∀ v ∈ vs, oneC v = true) →
    (storeCells ⟨b, off, none⟩ vs i).run P w = .ok () { w with heap := w.heap.setIfInBounds b (.cells (splA c (off + i) vs) t fr) }
  | [], i, c, w, hb, _, _, _ => by
    have : w.heap.setIfInBounds b (.cells c t fr) = w.heap := by
      apply Array.ext_getElem?
      intro j
      by_cases hj : b = j
      · subst hj
        obtain ⟨h1, h2⟩ := Array.getElem?_eq_some_iff.1 hb
        rw [Array.getElem?_setIfInBounds_self_of_lt h1, hb]
      · rw [Array.getElem?_setIfInBounds_ne hj]
    simp [storeCells, splA, this]
  | v :: vs, i, c, w, hb, hlen, hfr, h1 => by
    simp only [List.length_cons] at hlen
    have hcell : w.cell? ⟨b, off + i, none⟩ = some (c[off + i]'(by omega)) := by
      simp only [World.cell?, hb]
      rw [if_neg (by simp), Array.getElem?_eq_getElem]
    have hfz : w.frozen? ⟨b, off + i, none⟩ = false := by
      simp only [World.frozen?, hb]
      exact hfr _ (by omega)
    have hset : w.setCell ⟨b, off + i, none⟩ v = { w with heap := w.heap.setIfInBounds b (.cells (c.setIfInBounds (off + i) v) t fr) } := by
      unfold World.setCell
      congr 1
      apply Array.ext_getElem?
      intro j
      obtain ⟨q1, q2⟩ := Array.getElem?_eq_some_iff.1 hb
      by_cases hj : b = j
      · subst hj
        rw [Array.getElem?_setIfInBounds_self_of_lt q1, Array.getElem?_modify, if_pos rfl, hb]
        rfl
      · rw [Array.getElem?_setIfInBounds_ne hj, Array.getElem?_modify, if_neg hj]
    obtain ⟨q1, q2⟩ := Array.getElem?_eq_some_iff.1 hb
    have ih := run_storeCells b off t fr vs (i + 1) (c.setIfInBounds (off + i) v) { w with heap := w.heap.setIfInBounds b (.cells (c.setIfInBounds (off + i) v) t fr) } (by simp [q1]) (by simp; omega) (by simpa using hfr) (fun x hx => h1 x (List.mem_cons_of_mem _ hx))
    simp only [storeCells, addr_add, Sem.run_bind]
    rw [run_store P w _ v .plain (by rw [← oneC_iff]; exact h1 v (List.mem_cons_self ..))]
    simp only [hcell, hfz, Bool.false_eq_true, if_false, hset, Result.andThen_ok, ih]
    congr 2
    rw [splA]
    apply Array.ext_getElem?
    intro j
    by_cases hj : b = j
    · subst hj
      simp [q1, Nat.add_assoc]
    · simp [Array.getElem?_setIfInBounds_ne hj]

theorem step_store {t : TypeId} {n : Nat} {x y : Operand} {x' y' : Opd} (hn0 : 0 < n) (hi : (P.info? t).isSome = true) (hn : P.cellsOf t = n) (h1 : chkO nt x x' = true) (h2 : chkO nt y y' = true) {v : Value} {H' : Heap}
    (hs : stepI env H (.store n x' y') = some (v, H')) (hr : Rel ρ H w) (he : EnvR ρ H nt env a) :
    Done P (do Instr.storeAt t (a.eval x) (a.eval y); Pure.pure .skip) w ρ H v H' := by
  have hx := opd_ok h1 he
  have hy := opd_ok h2 he
  simp only [stepI, oneAll] at hs
  split at hs
  · rename_i ad h4
    rw [h4] at hx
    split at hs
    · rename_i tag u cs hc
      cases hb : (Nat.beq (y'.ev env).cells.size n && Nat.ble (ad.off + n) cs.length && (y'.ev env).cells.all oneC) with
      | false => rw [hb] at hs; cases hs
      | true =>
        rw [hb] at hs
        obtain ⟨rfl, rfl⟩ := Prod.mk.inj (Option.some.inj hs)
        simp only [Bool.and_eq_true] at hb
        obtain ⟨⟨b1, b2⟩, b3⟩ := hb
        have b1 := Nat.eq_of_beq_eq_true b1
        have b2 := Nat.le_of_ble_eq_true b2
        obtain ⟨q1, q2⟩ := lk_some hc
        have hp := hx.ptr_inv q1 q2 rfl
        obtain ⟨c, ty, fr, r1, r2, r3, r4⟩ := hr.cells _ _ false u cs q1 rfl
        have hcells := hy.cells
        have hlen : (a.eval y).cells.toList.length = n := by rw [← hcells.1]; simpa using b1
        have hone : ∀ z ∈ (a.eval y).cells.toList, oneC z = true := by
          intro z hz
          obtain ⟨j, hj, rfl⟩ := List.getElem_of_mem hz
          have hj' : j < (y'.ev env).cells.toList.length := by rw [hcells.1]; exact hj
          have := hcells.2 j _ _ (List.getElem?_eq_getElem hj') (List.getElem?_eq_getElem hj)
          rw [this.oneC]
          have hall := Array.all_eq_true.1 b3 j (by simpa using hj')
          simpa using hall
        have hsz : (ρ ad.block).base + cs.length ≤ c.size := by
          obtain ⟨_, x', h6, _⟩ := r4 (cs.length - 1) _ (List.getElem?_eq_getElem (by omega))
          have := (Array.getElem?_eq_some_iff.1 h6).1
          omega
        have hrun := run_storeCells (P := P) (ρ ad.block).block ((ρ ad.block).base + ad.off) ty fr (a.eval y).cells.toList 0 c w r1 (by rw [hlen]; omega) (fr_no (r3 rfl)) hone
        obtain ⟨hR, hF⟩ := hr.change ad.block ⟨tag, .cells false u cs⟩ ⟨tag, .cells false u (spl cs ad.off (y'.ev env).cells.toList)⟩ (ρ ad.block) q1 rfl
          (w' := { w with heap := w.heap.setIfInBounds (ρ ad.block).block (.cells (splA c ((ρ ad.block).base + ad.off + 0) (a.eval y).cells.toList) ty fr) }) rfl rfl rfl (by simp)
          (fun b _ hne => by simp only []; rw [Array.getElem?_setIfInBounds_ne (fun hh => hne hh.symm)]) (.inl rfl)
          (by
            have hup : ρ.upd ad.block (ρ ad.block) = ρ := RP.upd_self _ _
            rw [hup]
            refine ⟨Nat.le_refl _, fun _ hd => ?_, fun _ _ => ⟨rfl, rfl⟩, fun ro1 u1 cs1 _ h1 _ => ?_, fun kv h1 => ?_⟩
            · cases hd
            · cases h1; exact ⟨false, _, rfl, fun _ => ⟨rfl, rfl⟩⟩
            · cases h1)
          (fun ro1 u1 cs1 h1 => by
            simp only [AObj.cells.injEq] at h1
            obtain ⟨rfl, rfl, rfl⟩ := h1
            refine ⟨splA c ((ρ ad.block).base + ad.off + 0) (a.eval y).cells.toList, ty, fr, Array.getElem?_setIfInBounds_self_of_lt (Array.getElem?_eq_some_iff.1 r1).1, by rw [splA_size]; exact r2, fun _ => by rw [splA_size]; exact r3 rfl, fun k z hz => ?_⟩
            rw [spl_get _ _ _ _ (by simpa [b1] using b2)] at hz
            rw [splA_get _ _ _ _ (by rw [hlen]; omega), hlen]
            simp only [Array.length_toList, b1] at hz
            by_cases hk : ad.off ≤ k ∧ k < ad.off + n
            · rw [if_pos hk] at hz
              rw [if_pos (by omega)]
              have e1 : (ρ ad.block).base + k - ((ρ ad.block).base + ad.off + 0) = k - ad.off := by omega
              rw [e1]
              have hj : k - ad.off < (a.eval y).cells.toList.length := by omega
              have hv := hcells.2 (k - ad.off) z _ hz (List.getElem?_eq_getElem hj)
              exact ⟨by rw [← hv.oneC]; exact hone _ (List.getElem_mem hj), _, List.getElem?_eq_getElem hj, hv⟩
            · rw [if_neg hk] at hz
              rw [if_neg (by omega)]
              exact r4 k z hz)
          (fun kv h1 => by cases h1) (fun s q h1 => by cases h1)
        have hup : ρ.upd ad.block (ρ ad.block) = ρ := RP.upd_self _ _
        rw [hup] at hR hF
        refine ⟨.skip, undef, _, ρ, ?_, .inr ⟨rfl, rfl⟩, .plain _ rfl, hR, hF⟩
        rw [hp]
        have hsz2 : ¬ ((a.eval y).cells.size ≠ n) := by simpa using hlen
        simp only [Instr.storeAt, Instr.sureAddr, Sem.run_bind, Sem.run_pure, Result.andThen_ok, storeVar, run_sizeOf' hi, hn, if_neg hsz2, hrun]
    · cases hs
  · cases hs

end
end Go.Proofs.Ytdkdifjjpbfohaa.Fw
