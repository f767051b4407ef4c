/- Steps: slices that don't change any more, maps, places in strings. -/
import Derived.Test.YtdkdifjjpbfohaaFw11
namespace Go.Proofs.Ytdkdifjjpbfohaa.Fw
open Go
section
variable {P : Program} {nt : Nat} {env : Nat → Value} {H : Heap} {ρ : RP} {w : World} {a : Act}

theorem step_bsli {t e : TypeId} {n len : Nat} {z : List Value} {parts : Array (Nat × Operand)} {parts' : List (Nat × Opd)} (ht : P.underlying t = some (.slice e)) (hi : (P.info? e).isSome = true) (hn : P.cellsOf e = n) {l : List Value}
    (hl : zeroT P e = some l) (hlz : sameL l z = true) (hln : l.length = n) (hzo : z.all oneC = true) (hbig : len * n ≤ 16777216) (h0 : Nat.beq (len * n) 0 = false) (hp : chkPartsS nt parts.toList parts' = true) {v : Value} {H' : Heap}
    (hs : stepI env H (.bsli n len z parts') = some (v, H')) (hr : Rel ρ H w) (he : EnvR ρ H nt env a) :
    Done P (do Pure.pure (.value (← Instr.buildSlice t len (parts.map fun (i, x) => (i, a.eval x))))) w ρ H v H' := by
  obtain ⟨h3, h4⟩ := sameL_eq hlz
  subst h3
  simp only [stepI, Option.bind_eq_some_iff] at hs
  obtain ⟨r, hf, h2⟩ := hs
  obtain ⟨h5, h6⟩ := bif_some h2
  obtain ⟨rfl, rfl⟩ := Prod.mk.inj h6
  unfold zeroT at hl
  simp only [Option.map_eq_some_iff, Option.bind_eq_some_iff] at hl
  obtain ⟨zv, ⟨i, q1, q2⟩, q3⟩ := hl
  have hzero : (zeroValue e).run P w = .ok zv w := by simp only [zeroValue, Sem.run_bind, run_typeInfo w q1, Result.andThen_ok, q2, Sem.run_pure]
  have hzs : zv.cells.size = n := by rw [← Array.length_toList, q3, hln]
  have hlen0 : len * n ≠ 0 := fun h => by rw [h] at h0; cases h0
  have hn0 : 0 < n := by
    rcases Nat.eq_zero_or_pos n with h | h
    · subst h; simp at hlen0
    · exact h
  have hze : ((Array.range (len * n)).map (zv.cells[· % zv.cells.size]!)).toList = zr len l := by
    have := zeros_eq len zv.cells (by omega)
    rw [hzs, q3] at this
    rw [hzs]
    exact this
  have hzr : ∀ x ∈ zr len l, plainV x = true := fun x hx => by
    unfold zr at hx
    rw [List.mem_flatten] at hx
    obtain ⟨l', h7, h8⟩ := hx
    rw [(List.mem_replicate.1 h7).2] at h8
    exact h4 x h8
  have hmap : (parts'.map fun (i, x) => (i * n, n, x.ev env)) = ((parts'.map fun (i, x) => (i * n, n, x)).map fun (o, s, x) => (o, s, x.ev env)) := by rw [List.map_map]; rfl
  rw [hmap] at hf
  obtain ⟨c', g1, g2⟩ := fill_run parts.toList _ (zr len l) ((Array.range (len * n)).map (zv.cells[· % zv.cells.size]!)) r (chkPartsS_to _ _ hp) he (by rw [hze]; exact VRs.plain hzr) hf
  have hrl : r.length = len * n := by rw [fillL_len _ _ _ hf, zr_length, hln]
  have hcs : c'.size = len * n := by rw [← Array.length_toList, ← g2.1, hrl]
  obtain ⟨ρ', hR, hF, hz, hvr⟩ := hr.allocz c' e (0, 0) w.drawn
  refine ⟨.value (.slice (some ⟨w.heap.size, 0, none⟩) len len), _, _, ρ', ?_, .inl rfl, ?_, hR, hF⟩
  · have hb2 : ¬ (len * n > 2 ^ 24) := by
      have : (2 : Nat) ^ 24 = 16777216 := by decide
      omega
    simp only [Instr.buildSlice, Sem.run_bind, run_underlying ht, Result.andThen_ok, run_sizeOf' hi, hn, if_neg hb2, if_neg hlen0, Sem.run_pure, hzero, Array.toList_map]
    rw [g1]
    simp only [Sem.run_bind, newRow, run_newObj, Result.andThen_ok, Sem.run_pure]
  · refine .imm len _ w.heap.size 0 len c' hz (Nat.le_refl _) (fun j hj => ?_) (fun j hj => ?_) (fun j hj hj' => ?_)
    · have hj2 : j < r.length := by simpa using hj
      rw [hcs, Nat.zero_add, ← hrl]; exact hj2
    · exact List.all_eq_true.1 h5 _ (by simp)
    · have hj2 : j < r.length := by simpa using hj
      obtain ⟨x', e1, e2⟩ := g2.get (List.getElem?_eq_getElem hj2)
      rw [Array.getElem?_toList] at e1
      obtain ⟨e3, rfl⟩ := Array.getElem?_eq_some_iff.1 e1
      simp only [Nat.zero_add]
      exact hvr _ _ e2

theorem step_s2bi {s d e : TypeId} {x : Operand} {x' : Opd} (hs0 : P.underlying s = some .string) (hd : P.underlying d = some (.slice e)) (he0 : P.underlying e = some (.int .u8)) (h1 : chkO nt x x' = true) {v : Value} {H' : Heap}
    (hs : stepI env H (.s2bi x') = some (v, H')) (hr : Rel ρ H w) (he : EnvR ρ H nt env a) :
    Done P (do Pure.pure (.value (← convert s d (a.eval x)))) w ρ H v H' := by
  have hx := opd_ok h1 he
  simp only [stepI] at hs
  split at hs
  · rename_i sv h4
    rw [h4] at hx
    obtain ⟨rfl, rfl⟩ := Prod.mk.inj (Option.some.inj hs)
    obtain ⟨cap, hcap⟩ : ∃ cap, cap = (Question.appendCap sv.size 0 e).cut (w.tape w.drawn (Question.appendCap sv.size 0 e)) := ⟨_, rfl⟩
    have hge : sv.size ≤ cap := by rw [hcap]; simp only [Question.cut]; omega
    have hbl : (bytesV sv).length = sv.size := by rw [bytesV, List.length_map, Array.length_toList]; rfl
    obtain ⟨ca, hca⟩ : ∃ ca : Array Value, ca = (sv.data.map fun b => Value.int .u8 b.toNat) ++ Array.replicate (cap - sv.size) (.int .u8 0) := ⟨_, rfl⟩
    have hsz : ca.size = cap := by
      rw [hca, Array.size_append, Array.size_map, Array.size_replicate]
      have : sv.data.size = sv.size := rfl
      omega
    obtain ⟨ρ', hR, hF, hz, hvr⟩ := hr.allocz ca e (cap, cap + 1) (w.drawn + 1)
    refine ⟨.value (.slice (some ⟨w.heap.size, 0, none⟩) sv.size cap), _, _, ρ', ?_, .inl rfl, ?_, hR, hF⟩
    · rw [hx.string_inv]
      have hget : ({ w with drawn := w.drawn + 1, heap := w.heap.push (.cells ca e) } : World).shape? w.heap.size = some (e, cap) := by
        simp [World.shape?, hsz]
      have hfz : World.freeze { w with drawn := w.drawn + 1, heap := w.heap.push (.cells ca e) } ⟨w.heap.size, cap, none⟩ 1 = { w with drawn := w.drawn + 1, heap := w.heap.push (.cells ca e (cap, cap + 1)) } := by
        unfold World.freeze
        rw [if_neg (by decide)]
        congr 1
        apply Array.ext_getElem?
        intro j
        rw [Array.getElem?_modify]
        by_cases hj : w.heap.size = j
        · subst hj
          simp
        · simp [hj, Array.getElem?_push]
          split
          · rename_i h; exact absurd h.symm hj
          · rfl
      have hforced : (Question.appendCap sv.size 0 e).forced = false := rfl
      simp only [convert, Sem.run_bind, run_underlying hs0, run_underlying hd, run_underlying he0, Result.andThen_ok, Conv.stringToBytes, run_choose, hforced, Bool.false_eq_true, if_false, newRow, run_newObj, Sem.run_pure, markStringish, run_shape, ← hcap, ← hca, hget, run_freeze, hfz]
    · have hbl2 : ∀ (j : Nat), j < (bytesV sv).length → ca[j]? = (bytesV sv)[j]? := fun j hj => by
        rw [hbl] at hj
        have hj' : j < sv.data.size := hj
        rw [hca, Array.getElem?_append_left (by simpa using hj'), Array.getElem?_map, bytesV, List.getElem?_map, Array.getElem?_toList]
      refine .imm sv.size _ w.heap.size 0 cap ca hz hge (fun j hj => ?_) (fun j hj => ?_) (fun j hj hj' => ?_)
      · have hj2 : j < (bytesV sv).length := by simpa using hj
        rw [Nat.zero_add, hsz]; omega
      · have hm : (bytesV sv).toArray[j] ∈ bytesV sv := by simp
        unfold bytesV at hm
        obtain ⟨b, _, hb⟩ := List.mem_map.1 hm
        show oneC (bytesV sv).toArray[j] = true
        unfold bytesV
        rw [← hb]; rfl
      · have hj2 : j < (bytesV sv).length := by simpa using hj
        have h7 := hbl2 j hj2
        rw [List.getElem?_eq_getElem hj2] at h7
        obtain ⟨h8, h9⟩ := Array.getElem?_eq_some_iff.1 h7
        have hm : (bytesV sv)[j] ∈ bytesV sv := List.getElem_mem _
        unfold bytesV at hm
        obtain ⟨b, _, hb⟩ := List.mem_map.1 hm
        simp only [Nat.zero_add, h9, List.getElem_toArray]
        have hb' : (bytesV sv)[j] = .int .u8 b.toNat := hb.symm
        rw [hb']
        exact .plain _ rfl
  · cases hs

theorem step_bsle {t e : TypeId} {parts : Array (Nat × Operand)} (ht : P.underlying t = some (.slice e)) (hi : (P.info? e).isSome = true) (hp : parts.size = 0) {v : Value} {H' : Heap}
    (hs : stepI env H .bsle = some (v, H')) (hr : Rel ρ H w) : Done P (do Pure.pure (.value (← Instr.buildSlice t 0 (parts.map fun (i, x) => (i, a.eval x))))) w ρ H v H' := by
  simp only [stepI] at hs
  obtain ⟨rfl, rfl⟩ := Prod.mk.inj (Option.some.inj hs)
  obtain rfl : parts = #[] := Array.eq_empty_of_size_eq_zero hp
  obtain ⟨ρ', hR, hF, hz, hvr⟩ := hr.allocz #[] e (0, 0) w.drawn
  refine ⟨.value (.slice (some ⟨w.heap.size, 0, none⟩) 0 0), _, _, ρ', ?_, .inl rfl, .imm0 _, hR, hF⟩
  have hr0 : ∀ f : Nat → Value, (Array.range 0).map f = #[] := fun f => by simp [Array.range]
  simp [Instr.buildSlice, run_underlying ht, run_sizeOf' hi, Instr.fill, newRow, hr0]

theorem step_bslz {t e : TypeId} {n : Nat} {parts : Array (Nat × Operand)} (ht : P.underlying t = some (.slice e)) (hi : (P.info? e).isSome = true) (hp : parts.size = 0) {v : Value} {H' : Heap}
    (hs : stepI env H (.bslz n) = some (v, H')) (hr : Rel ρ H w) : Done P (do Pure.pure (.value (← Instr.buildSlice t 0 (parts.map fun (i, x) => (i, a.eval x))))) w ρ H v H' := by
  simp only [stepI] at hs
  obtain ⟨rfl, rfl⟩ := Prod.mk.inj (Option.some.inj hs)
  obtain rfl : parts = #[] := Array.eq_empty_of_size_eq_zero hp
  obtain ⟨ρ', hR, hF, hnew⟩ := hr.alloc n [] #[] e (0, 0) (.inl rfl) (fun k x hx => by simp at hx)
  refine ⟨.value (.slice (some ⟨w.heap.size, 0, none⟩) 0 0), _, _, ρ', ?_, .inl rfl, ?_, hR, hF⟩
  · have hr0 : ∀ f : Nat → Value, (Array.range 0).map f = #[] := fun f => by simp [Array.range]
    simp [Instr.buildSlice, run_underlying ht, run_sizeOf' hi, Instr.fill, newRow, hr0]
  · have := VR.sl (ρ := ρ') (H := H ++ [⟨0, .cells false n []⟩]) H.length 0 none 0 0 0 ⟨0, .cells false n []⟩ false n [] (by simp) rfl rfl (fun _ => by rw [hnew]; simp) (Nat.le_refl _) (Nat.le_refl _)
    rw [hnew] at this
    exact this

/-- A slice's own entry becomes one that doesn't change any more. -/
theorem fzV_ok (hr : Rel ρ H w) {v v' u : Value} {H2 : Heap} (hv : VR ρ H v v') (hs : fzV H v = some (u, H2)) : ∃ ρ2, Rel ρ2 H2 w ∧ VR ρ2 H2 u v' ∧ Fr ρ H w ρ2 H2 w := by
  unfold fzV at hs
  cases hp : pureV 7 v with
  | true =>
    rw [hp] at hs
    obtain ⟨rfl, rfl⟩ := Prod.mk.inj (Option.some.inj hs)
    exact ⟨ρ, hr, hv, Fr.refl _ _ _⟩
  | false =>
    rw [hp, cond_false] at hs
    split at hs
    · rename_i ad n c0
      split at hs
      · rename_i tag u0 cs hlk
        simp only [Option.bind_eq_some_iff] at hs
        obtain ⟨l, hrd, hs⟩ := hs
        obtain ⟨hpl, hs⟩ := bif_some hs
        obtain ⟨rfl, rfl⟩ := Prod.mk.inj hs
        rw [List.all_eq_true] at hpl
        obtain ⟨q1, q2⟩ := lk_some hlk
        obtain ⟨h3, h4⟩ := rdN_some hrd
        obtain ⟨c, t, fr, r1, r2, r3, r4⟩ := hr.cells _ _ false u0 cs q1 rfl
        have hi : ad.block < H.length := (List.getElem?_eq_some_iff.1 q1).1
        obtain ⟨ρ2, hρ2⟩ : ∃ ρ2 : RP, ρ2 = ⟨ρ.pl, fun b => if b = (ρ ad.block).block then some c else ρ.fz b⟩ := ⟨_, rfl⟩
        have hpe : ∀ i, ρ2 i = ρ i := fun i => by show ρ2.pl i = ρ.pl i; rw [hρ2]
        have hfne : ∀ b c0, ρ.fz b = some c0 → (ρ ad.block).block ≠ b := fun b c0 hb => (hr.fz b c0 hb).2 _ _ q1 rfl
        have hfz : ∀ b c0, ρ.fz b = some c0 → ρ2.fz b = some c0 := fun b c0 hb => by
          rw [hρ2]; simp only []; rw [if_neg (fun h => hfne b c0 hb h.symm)]; exact hb
        have hself : ρ2.fz (ρ ad.block).block = some c := by rw [hρ2]; simp
        have hfz' : ∀ b c0, ρ2.fz b = some c0 → (b = (ρ ad.block).block ∧ c0 = c) ∨ ρ.fz b = some c0 := fun b c0 hb => by
          rw [hρ2] at hb
          simp only [] at hb
          split at hb
          · rename_i h; exact .inl ⟨h, (Option.some.inj hb).symm⟩
          · exact .inr hb
        have hget : ∀ j ej, (H.set ad.block ⟨tag + 1, .dead⟩)[j]? = some ej → (j ≠ ad.block ∧ H[j]? = some ej) ∨ (j = ad.block ∧ ej = ⟨tag + 1, .dead⟩) := fun j ej hj => by
          rw [List.getElem?_set] at hj
          by_cases hji : ad.block = j
          · subst hji
            rw [if_pos rfl, if_pos hi] at hj
            exact .inr ⟨rfl, (Option.some.inj hj).symm⟩
          · rw [if_neg hji] at hj
            exact .inl ⟨fun hh => hji hh.symm, hj⟩
        have hvr : ∀ x x', VR ρ H x x' → VR ρ2 (H.set ad.block ⟨tag + 1, .dead⟩) x x' := fun x x' hx => hx.mono hfz fun j ej hj => by
          by_cases hji : j = ad.block
          · subst hji
            rw [q1] at hj
            cases hj
            refine ⟨⟨tag + 1, .dead⟩, by rw [List.getElem?_set, if_pos rfl, if_pos hi], ⟨Nat.le_succ _, fun h => by simp at h, fun h => by simp at h, fun _ _ _ h => by simp at h, fun kv h => by cases h⟩⟩
          · refine ⟨ej, by rw [List.getElem?_set, if_neg (fun hh => hji hh.symm)]; exact hj, ?_⟩
            exact ⟨Nat.le_refl _, fun _ h => h, fun _ _ => by rw [hpe]; exact ⟨rfl, rfl⟩, fun ro _ cs _ h _ => ⟨ro, cs, h, fun hr => ⟨hr, by rw [hpe]⟩⟩, fun kv h => ⟨rfl, kv, h⟩⟩
        refine ⟨ρ2, ⟨?_, ?_, ?_, ?_, ?_⟩, ?_, ⟨rfl, rfl, rfl, Nat.le_refl _, fun _ _ _ => rfl, ?_, ?_, hvr⟩⟩
        · intro j ej ro u1 cs1 hj ho1
          rcases hget j ej hj with ⟨hne, hj'⟩ | ⟨rfl, rfl⟩
          · obtain ⟨c1, t1, fr1, g1, g2, g3, g4⟩ := hr.cells j ej ro u1 cs1 hj' ho1
            rw [hpe]
            refine ⟨c1, t1, fr1, g1, g2, g3, fun k x hx => ?_⟩
            obtain ⟨h5, x', h6, h7⟩ := g4 k x hx
            exact ⟨h5, x', h6, hvr _ _ h7⟩
          · cases ho1
        · intro j ej kv hj ho1
          rcases hget j ej hj with ⟨hne, hj'⟩ | ⟨rfl, rfl⟩
          · obtain ⟨es, clock, g1, g2, g3⟩ := hr.map j ej kv hj' ho1
            rw [hpe]
            refine ⟨es, clock, g1, g2, fun j' k x hx => ?_⟩
            obtain ⟨en, h5, h6, h7⟩ := g3 j' k x hx
            exact ⟨en, h5, hvr _ _ h6, hvr _ _ h7⟩
          · cases ho1
        · intro j ej s p hj ho1
          rcases hget j ej hj with ⟨hne, hj'⟩ | ⟨rfl, rfl⟩
          · rw [hpe]; exact hr.iter j ej s p hj' ho1
          · cases ho1
        · intro b c0 hb
          refine ⟨?_, fun j ej hj hoj => ?_⟩
          · rcases hfz' b c0 hb with ⟨rfl, rfl⟩ | hb
            · exact ⟨t, fr, r1⟩
            · exact (hr.fz b c0 hb).1
          · rcases hget j ej hj with ⟨hne, hj'⟩ | ⟨rfl, rfl⟩
            · rw [hpe]
              rcases hfz' b c0 hb with ⟨rfl, rfl⟩ | hb
              · exact hr.inj j ad.block ej _ hj' q1 hne hoj rfl
              · exact (hr.fz b c0 hb).2 j ej hj' hoj
            · cases hoj
        · intro i j ei ej hi1 hj1 hne hoi hlj
          rw [hpe, hpe]
          rcases hget i ei hi1 with ⟨_, hi'⟩ | ⟨rfl, rfl⟩
          · rcases hget j ej hj1 with ⟨_, hj'⟩ | ⟨rfl, rfl⟩
            · exact hr.inj i j ei ej hi' hj' hne hoi hlj
            · cases hlj
          · cases hoi
        · rcases hv.sl_inv q1 q2 rfl with ⟨c', rfl, _, _, hn⟩ | ⟨rfl, _, a', rfl⟩
          · have hat : ∀ (j : Nat) (hj : j < l.toArray.size), ∃ x', oneC l.toArray[j] = true ∧ c[(ρ ad.block).base + ad.off + j]? = some x' ∧ VR ρ H l.toArray[j] x' := fun j hj => by
              have hj' : j < l.length := by simpa using hj
              have h9 := h4 j _ (List.getElem?_eq_getElem hj')
              rw [List.getElem?_drop] at h9
              obtain ⟨h10, x', h11, h12⟩ := r4 _ _ h9
              exact ⟨x', h10, by rw [← Nat.add_assoc] at h11; exact h11, h12⟩
            refine .imm n _ _ ((ρ ad.block).base + ad.off) c' c hself hn (fun j hj => ?_) (fun j hj => ?_) (fun j hj hj' => ?_)
            · obtain ⟨x', _, h8, _⟩ := hat j hj
              exact (Array.getElem?_eq_some_iff.1 h8).1
            · obtain ⟨x', h8, _, _⟩ := hat j hj
              exact h8
            · obtain ⟨x', _, h8, h9⟩ := hat j hj
              obtain ⟨h10, rfl⟩ := Array.getElem?_eq_some_iff.1 h8
              exact hvr _ _ h9
          · have : l = [] := List.eq_nil_of_length_eq_zero (by rw [h3, Nat.zero_mul])
            subst this
            exact .imm0 a'
        · intro j ej hj hoj
          rcases hget j ej hj with ⟨hne, hj'⟩ | ⟨rfl, rfl⟩
          · exact .inr ⟨j, ej, hj', hoj, by rw [hpe]⟩
          · cases hoj
        · intro b c0 hb
          rcases hfz' b c0 hb with ⟨rfl, rfl⟩ | hb
          · exact .inr (.inr ⟨ad.block, _, q1, rfl, rfl⟩)
          · exact .inl hb
      · cases hs
    · cases hs

theorem fzL_ok : ∀ {l l' us : List Value} {H H2 : Heap} {ρ : RP}, Rel ρ H w → VRs ρ H l l' → fzL H l = some (us, H2) → ∃ ρ2, Rel ρ2 H2 w ∧ VRs ρ2 H2 us l' ∧ Fr ρ H w ρ2 H2 w
  | [], l', us, H, H2, ρ, hr, hv, hs => by
    simp only [fzL] at hs
    obtain ⟨rfl, rfl⟩ := Prod.mk.inj (Option.some.inj hs)
    exact ⟨ρ, hr, hv, Fr.refl _ _ _⟩
  | v :: l, l', us, H, H2, ρ, hr, hv, hs => by
    obtain ⟨v', t, rfl, h1, h2⟩ := hv.head
    simp only [fzL, Option.bind_eq_some_iff, Option.map_eq_some_iff] at hs
    obtain ⟨⟨u, H1⟩, h3, ⟨us', H2'⟩, h4, h5⟩ := hs
    obtain ⟨rfl, rfl⟩ := Prod.mk.inj h5
    obtain ⟨ρ1, g1, g2, g3⟩ := fzV_ok hr h1 h3
    obtain ⟨ρ2, g4, g5, g6⟩ := fzL_ok g1 (h2.mono g3.vr) h4
    exact ⟨ρ2, g4, VRs.cons (g6.vr _ _ g2) g5, g3.trans g6⟩

theorem fzA_ok (hr : Rel ρ H w) {v v' u : Value} {H2 : Heap} (hv : VR ρ H v v') (hs : fzA H v = some (u, H2)) : ∃ ρ2, Rel ρ2 H2 w ∧ VR ρ2 H2 u v' ∧ Fr ρ H w ρ2 H2 w := by
  unfold fzA at hs
  split at hs
  · rename_i vs
    simp only [Option.map_eq_some_iff] at hs
    obtain ⟨⟨us, H1⟩, h1, h2⟩ := hs
    obtain ⟨rfl, rfl⟩ := Prod.mk.inj h2
    obtain ⟨vs', rfl, h3, h4⟩ := hv.tuple_inv
    have hl : VRs ρ H vs.toList vs'.toList := ⟨by simpa using h3, fun j x x' hx hx' => by
      simp only [Array.getElem?_toList] at hx hx'
      obtain ⟨q1, rfl⟩ := Array.getElem?_eq_some_iff.1 hx
      obtain ⟨q2, rfl⟩ := Array.getElem?_eq_some_iff.1 hx'
      exact h4 j q1 q2⟩
    obtain ⟨ρ2, g1, g2, g3⟩ := fzL_ok hr hl h1
    exact ⟨ρ2, g1, VRs.tuple (by simpa using g2), g3⟩
  · exact fzV_ok hr hv hs

/-- The answer of a step, for good. -/
theorem step_appf {args : Array Operand} {tys : Array TypeId} {t t2 ty e : TypeId} {cn : Array Bool} {n eb : Nat} {x y : Operand} {x' y' : Opd} (ha : args.toList = [x, y]) (hty : tys.toList = [t, t2])
    (ht : P.underlying t = some (.slice e)) (hi : (P.info? e).isSome = true) (hn : P.cellsOf e = n) (heb : P.bytesOf e = eb) (hb0 : Nat.beq eb 0 = false) {zl : List Value} (hzl : zeroT P e = some zl) (hzn : zl.length = n)
    (ht2 : (match P.underlying t2 with | some (.int _) => false | some _ => true | none => false) = true) (h1 : chkO nt x x' = true) (h2 : chkO nt y y' = true) {v : Value} {H' : Heap}
    (hs : stepI env H (.appf n eb x' y') = some (v, H')) (hr : Rel ρ H w) (he : EnvR ρ H nt env a) :
    Done P (builtin .append tys ty cn (args.map a.eval)) w ρ H v H' := by
  have hx := opd_ok h1 he
  have hy := opd_ok h2 he
  obtain rfl : args = #[x, y] := by rw [← Array.toList_inj]; exact ha
  obtain rfl : tys = #[t, t2] := by rw [← Array.toList_inj]; exact hty
  simp only [stepI] at hs
  split at hs
  · rename_i src m hsrc
    simp only [Option.bind_eq_some_iff] at hs
    obtain ⟨⟨u, H1⟩, hs, hz⟩ := hs
    obtain ⟨v', w', ρ', g1, g2, g3, g4⟩ := app_ok (ty := ty) ht hi hn heb hb0 hzl hzn ht2 hx hy hr hsrc hs
    obtain ⟨ρ2, k1, k2, k3⟩ := fzV_ok g3 g2 hz
    exact ⟨.value v', v', w', ρ2, by simp only [builtin, List.map_toArray, List.map_cons, List.map_nil, Sem.run_bind, g1, Result.andThen_ok, Sem.run_pure], .inl rfl, k2, k1, g4.trans k3⟩
  · cases hs

theorem step_cpy {args : Array Operand} {tys : Array TypeId} {t t2 ty e : TypeId} {cn : Array Bool} {n eb : Nat} {x y : Operand} {y' : Opd} (ha : args.toList = [x, y]) (hty : tys.toList = [t, t2])
    (ht : P.underlying t = some (.slice e)) (hi : (P.info? e).isSome = true) (hn : P.cellsOf e = n) (heb : P.bytesOf e = eb) (hb0 : Nat.beq eb 0 = false) {zl : List Value} (hzl : zeroT P e = some zl) (hzn : zl.length = n)
    (ht2 : (match P.underlying t2 with | some (.int _) => false | some _ => true | none => false) = true) (h1 : isNilC x = true) (h2 : chkO nt y y' = true) {v : Value} {H' : Heap}
    (hs : stepI env H (.cpy n eb y') = some (v, H')) (hr : Rel ρ H w) (he : EnvR ρ H nt env a) :
    Done P (builtin .append tys ty cn (args.map a.eval)) w ρ H v H' := by
  have hy := opd_ok h2 he
  obtain rfl : args = #[x, y] := by rw [← Array.toList_inj]; exact ha
  obtain rfl : tys = #[t, t2] := by rw [← Array.toList_inj]; exact hty
  have hxv : a.eval x = .slice none 0 0 := by
    unfold isNilC at h1
    split at h1
    · rfl
    · cases h1
  simp only [stepI, cpyI] at hs
  split at hs
  · rename_i src m hsrc
    obtain ⟨i, hi⟩ := Option.isSome_iff_exists.1 hi
    have hin : i.size = n := by rw [← hn]; simp [Program.cellsOf, hi]
    have hib : i.bytes = eb := by rw [← heb]; simp [Program.bytesOf, hi]
    have heb0 : i.bytes ≠ 0 := by rw [hib]; intro h; rw [h] at hb0; cases hb0
    unfold zeroT at hzl
    simp only [hi, Option.bind_some, Option.map_eq_some_iff] at hzl
    obtain ⟨z, hzero, hzl⟩ := hzl
    have hzs : z.cells.size = n := by rw [← Array.length_toList, hzl, hzn]
    obtain ⟨new, s1, s2, s3, s4, s5⟩ := src_run (P := P) hr hy hsrc
    rw [← hin] at s5
    cases hm : Nat.beq m 0 with
    | true =>
      rw [hm] at hs
      obtain ⟨rfl, rfl⟩ := Prod.mk.inj (Option.some.inj hs)
      have hm := Nat.eq_of_beq_eq_true hm
      subst hm
      have hrun := run_append_fits (ty := ty) (base := none) (l := 0) (c := 0) ht hi ht2 s4 s5 (Nat.le_refl _) (w' := w) rfl
      refine Done.pure (v' := .slice none 0 0) ?_ (.plain _ rfl) hr
      simp only [builtin, List.map_toArray, List.map_cons, List.map_nil, Sem.run_bind, hxv, hrun, Result.andThen_ok, Sem.run_pure]
    | false =>
      rw [hm, cond_false] at hs
      split at hs
      · rename_i hbig
        obtain ⟨rfl, rfl⟩ := Prod.mk.inj (Option.some.inj hs)
        have hm0 : 0 < m := by
          rcases Nat.eq_zero_or_pos m with h | h
          · subst h; cases hm
          · exact h
        obtain ⟨cap, hcap, hrun⟩ := run_append_grows (ty := ty) (base := none) (l := 0) (c := 0) (old := #[]) ht hi hzero ht2 s4 s5 (fun d => by simp [Builtin.firstCells]) (by omega) heb0 (growslice_fits (by omega) (by rw [hib, Nat.zero_add]; exact hbig))
        simp only [Nat.zero_add] at hrun hcap
        obtain ⟨ρ', hR, hF, hz, hvr⟩ := hr.allocz (#[] ++ new ++ Builtin.zeroCells z.cells (cap - m)) e (0, 0) (w.drawn + 1)
        have hnl : ∀ (j : Nat) (x : Value), src[j]? = some x → ∃ x', (#[] ++ new ++ Builtin.zeroCells z.cells (cap - m))[j]? = some x' ∧ VR ρ H x x' := fun j x hx => by
          obtain ⟨x', h1, h2⟩ := s1.get hx
          refine ⟨x', ?_, h2⟩
          have hk := (List.getElem?_eq_some_iff.1 h1).1
          rw [Array.empty_append, Array.getElem?_append_left (by simpa using hk), ← Array.getElem?_toList]
          exact h1
        refine ⟨.value (.slice (some ⟨w.heap.size, 0, none⟩) m cap), _, _, ρ', ?_, .inl rfl, ?_, hR, hF⟩
        · simp only [builtin, List.map_toArray, List.map_cons, List.map_nil, Sem.run_bind, hxv, hrun, Result.andThen_ok, Sem.run_pure]
        · refine .imm m _ w.heap.size 0 cap _ hz hcap (fun j hj => ?_) (fun j hj => ?_) (fun j hj hj' => ?_)
          · have hj2 : j < src.length := by simpa using hj
            obtain ⟨x', h3, _⟩ := hnl j _ (List.getElem?_eq_getElem hj2)
            rw [Nat.zero_add]
            exact (Array.getElem?_eq_some_iff.1 h3).1
          · have hj2 : j < src.length := by simpa using hj
            exact s2 _ (by simp)
          · have hj2 : j < src.length := by simpa using hj
            obtain ⟨x', h3, h4⟩ := hnl j _ (List.getElem?_eq_getElem hj2)
            obtain ⟨h5, rfl⟩ := Array.getElem?_eq_some_iff.1 h3
            simp only [Nat.zero_add]
            exact hvr _ _ h4
      · cases hs
  · cases hs

theorem step_mvf {x : Operand} {y : Opd} (hc : chkO nt x y = true) {v : Value} {H' : Heap} (hs : stepI env H (.mvf y) = some (v, H')) (hr : Rel ρ H w) (he : EnvR ρ H nt env a) : Done P (Pure.pure (.value (a.eval x))) w ρ H v H' := by
  obtain ⟨ρ2, g1, g2, g3⟩ := fzV_ok hr (opd_ok hc he) hs
  exact ⟨.value (a.eval x), a.eval x, w, ρ2, rfl, .inl rfl, g2, g1, g3⟩

theorem cvsl_core {d e : TypeId} (hd : P.underlying d = some (.slice e)) (he0 : P.underlying e = some (.int .u8)) {x v v' : Value} {H' : Heap}
    (hs : cvslI H x = some (v, H')) (hr : Rel ρ H w) (hx : VR ρ H x v') : ∃ w', (convert d d v').run P w = .ok v' w' ∧ VR ρ H' v v' ∧ Rel ρ H' w' ∧ Fr ρ H w ρ H' w' := by
  unfold cvslI at hs
  split at hs
  · rename_i ad n c
    split at hs
    · rename_i tag u cs hlk
      cases hn : Nat.beq n 0 with
      | true => rw [hn] at hs; cases hs
      | false =>
        rw [hn] at hs
        obtain ⟨rfl, rfl⟩ := Prod.mk.inj (Option.some.inj hs)
        obtain ⟨q1, q2⟩ := lk_some hlk
        obtain ⟨cc, ty, fr, r1, r2, r3, r4⟩ := hr.cells _ _ false u cs q1 rfl
        have r3 := r3 rfl
        rcases hx.sl_inv q1 q2 rfl with ⟨c', hv, _⟩ | ⟨rfl, _⟩
        · obtain ⟨fr', hfr', hfr2⟩ : ∃ fr' : Nat × Nat, (fr' = if fr.1 == fr.2 then (cc.size, cc.size + 1) else (min fr.1 cc.size, max fr.2 (cc.size + 1))) ∧ (fr'.1 = fr'.2 ∨ cc.size ≤ fr'.1) := by
            refine ⟨_, rfl, ?_⟩
            right
            split
            · exact Nat.le_refl _
            · rename_i h
              rcases r3 with h1 | h1
              · rw [h1] at h; simp at h
              · simp only []; omega
          have hbl := (Array.getElem?_eq_some_iff.1 r1).1
          have hw : World.freeze w ⟨(ρ ad.block).block, cc.size, none⟩ 1 = { w with heap := w.heap.setIfInBounds (ρ ad.block).block (.cells cc ty fr') } := by
            unfold World.freeze
            rw [if_neg (by decide)]
            congr 1
            apply Array.ext_getElem?
            intro j
            rw [Array.getElem?_modify]
            by_cases hj : (ρ ad.block).block = j
            · subst hj
              rw [if_pos rfl, r1, Array.getElem?_setIfInBounds_self_of_lt hbl, hfr']
              obtain ⟨lo, hi⟩ := fr
              rfl
            · rw [if_neg hj, Array.getElem?_setIfInBounds_ne hj]
          obtain ⟨hR, hF⟩ := hr.change ad.block ⟨tag, .cells false u cs⟩ ⟨tag, .cells false u cs⟩ (ρ ad.block) q1 rfl
            (w' := { w with heap := w.heap.setIfInBounds (ρ ad.block).block (.cells cc ty fr') }) rfl rfl rfl (by simp)
            (fun b _ hne => by simp only []; rw [Array.getElem?_setIfInBounds_ne (fun hh => hne hh.symm)]) (.inl rfl)
            (by rw [RP.upd_self]; exact EStep.refl _ _ _)
            (fun ro1 u1 cs1 h1 => by
              simp only [AObj.cells.injEq] at h1
              obtain ⟨rfl, rfl, rfl⟩ := h1
              exact ⟨cc, ty, fr', Array.getElem?_setIfInBounds_self_of_lt hbl, r2, fun _ => hfr2, r4⟩)
            (fun kv h1 => by cases h1) (fun s q h1 => by cases h1)
          have hset : H.set ad.block ⟨tag, .cells false u cs⟩ = H := by
            apply List.ext_getElem?
            intro j
            rw [List.getElem?_set]
            by_cases hj : ad.block = j
            · subst hj
              rw [if_pos rfl, if_pos (List.getElem?_eq_some_iff.1 q1).1, q1]
            · rw [if_neg hj]
          rw [RP.upd_self, hset] at hR hF
          refine ⟨_, ?_, hx, hR, hF⟩
          have hsh : w.shape? (ρ ad.block).block = some (ty, cc.size) := by simp [World.shape?, r1]
          rw [hv]
          simp only [convert, Sem.run_bind, run_underlying hd, Result.andThen_ok, run_underlying he0, beq_self_eq_true, markStringish, run_shape, hsh, run_freeze, hw, Sem.run_pure]
        · cases hn
    · cases hs
  · cases hs
theorem step_cvsl {s d e : TypeId} (hsd : (s == d) = true) (hd : P.underlying d = some (.slice e)) (he0 : P.underlying e = some (.int .u8)) {x : Operand} {x' : Opd} (h1 : chkO nt x x' = true) {v : Value} {H' : Heap}
    (hs : stepI env H (.cvsl x') = some (v, H')) (hr : Rel ρ H w) (he : EnvR ρ H nt env a) : Done P (do Pure.pure (.value (← convert s d (a.eval x)))) w ρ H v H' := by
  obtain rfl : s = d := by simpa using hsd
  obtain ⟨w', g1, g2, g3, g4⟩ := cvsl_core hd he0 hs hr (opd_ok h1 he)
  exact ⟨.value (a.eval x), a.eval x, w', ρ, by simp only [Sem.run_bind, g1, Result.andThen_ok, Sem.run_pure], .inl rfl, g2, g3, g4⟩
theorem step_cvslf {s d e : TypeId} (hsd : (s == d) = true) (hd : P.underlying d = some (.slice e)) (he0 : P.underlying e = some (.int .u8)) {x : Operand} {x' : Opd} (h1 : chkO nt x x' = true) {v : Value} {H' : Heap}
    (hs : stepI env H (.cvslf x') = some (v, H')) (hr : Rel ρ H w) (he : EnvR ρ H nt env a) : Done P (do Pure.pure (.value (← convert s d (a.eval x)))) w ρ H v H' := by
  obtain rfl : s = d := by simpa using hsd
  simp only [stepI, Option.bind_eq_some_iff] at hs
  obtain ⟨⟨u, H1⟩, h2, h3⟩ := hs
  obtain ⟨w', g1, g2, g3, g4⟩ := cvsl_core hd he0 h2 hr (opd_ok h1 he)
  obtain ⟨ρ2, g5, g6, g7⟩ := fzV_ok g3 g2 h3
  exact ⟨.value (a.eval x), a.eval x, w', ρ2, by simp only [Sem.run_bind, g1, Result.andThen_ok, Sem.run_pure], .inl rfl, g6, g5, g4.trans g7⟩

/-! Places in strings -/
theorem step_rng {t : TypeId} {x : Operand} {x' : Opd} (ht : P.underlying t = some .string) (h1 : chkO nt x x' = true) {v : Value} {H' : Heap}
    (hs : stepI env H (.rng x') = some (v, H')) (hr : Rel ρ H w) (he : EnvR ρ H nt env a) : Done P (do Pure.pure (.value (← Instr.range t (a.eval x)))) w ρ H v H' := by
  have hx := opd_ok h1 he
  simp only [stepI] at hs
  split at hs
  · rename_i s h4
    rw [h4] at hx
    obtain ⟨rfl, rfl⟩ := Prod.mk.inj (Option.some.inj hs)
    obtain ⟨ρ', hR, hF, hnew⟩ := hr.allocO (.iter s 0) (.stringIter s 0) (.inr ⟨s, 0, rfl, rfl⟩)
    refine ⟨.value (.pointer (some ⟨w.heap.size, 0, none⟩)), _, _, ρ', ?_, .inl rfl, ?_, hR, hF⟩
    · rw [hx.string_inv]
      simp only [Instr.range, Sem.run_bind, run_underlying ht, Result.andThen_ok, Sem.run_pure, run_newObj]
    · have := VR.ptr (ρ := ρ') (H := H ++ [⟨0, .iter s 0⟩]) H.length 0 none ⟨0, .iter s 0⟩ (by simp) rfl rfl
      rw [hnew] at this
      exact this
  · cases hs
theorem step_nxt {ty : TypeId} {x : Operand} {x' : Opd} (h1 : chkO nt x x' = true) {v : Value} {H' : Heap}
    (hs : stepI env H (.nxt x') = some (v, H')) (hr : Rel ρ H w) (he : EnvR ρ H nt env a) : Done P (do Pure.pure (.value (← Instr.next (a.eval x) true ty))) w ρ H v H' := by
  have hx := opd_ok h1 he
  simp only [stepI, nxtI] at hs
  split at hs
  · rename_i ad h4
    rw [h4] at hx
    split at hs
    · rename_i tag s p hlk
      obtain ⟨q1, q2⟩ := lk_some hlk
      obtain ⟨r1, r2⟩ := hr.iter _ _ s p q1 rfl
      obtain ⟨h0, hs⟩ : Nat.beq ad.off 0 = true ∧ _ = some (v, H') := by
        cases hb : Nat.beq ad.off 0 with
        | false => rw [hb] at hs; cases hs
        | true => rw [hb, cond_true] at hs; exact ⟨rfl, hs⟩
      have h0 := Nat.eq_of_beq_eq_true h0
      have hp := hx.ptr_inv q1 q2 rfl
      rw [r2, h0] at hp
      have hg : (getObj (ρ ad.block).block).run P w = .ok (.stringIter s p) w := by simp only [getObj, Sem.run, r1]
      split at hs
      · rename_i hlt
        obtain ⟨rfl, rfl⟩ := Prod.mk.inj (Option.some.inj hs)
        have hbl := (Array.getElem?_eq_some_iff.1 r1).1
        have hset : ∀ o, (setObj (ρ ad.block).block o).run P w = .ok () { w with heap := w.heap.setIfInBounds (ρ ad.block).block o } := fun o => by simp only [setObj, Sem.run, r1]
        obtain ⟨hR, hF⟩ := hr.change ad.block ⟨tag, .iter s p⟩ ⟨tag, .iter s (p + (Utf8.decode s p).2)⟩ (ρ ad.block) q1 rfl
          (w' := { w with heap := w.heap.setIfInBounds (ρ ad.block).block (.stringIter s (p + (Utf8.decode s p).2)) }) rfl rfl rfl (by simp)
          (fun b _ hne => by simp only []; rw [Array.getElem?_setIfInBounds_ne (fun hh => hne hh.symm)]) (.inl rfl)
          (by rw [RP.upd_self]; exact ⟨Nat.le_refl _, fun _ h => (by cases h), fun _ _ => ⟨rfl, rfl⟩, fun _ _ _ _ h => (by cases h), fun _ h => (by cases h)⟩)
          (fun _ _ _ h1 => by cases h1) (fun kv h1 => by cases h1)
          (fun s1 q h1 => by cases h1; exact ⟨Array.getElem?_setIfInBounds_self_of_lt hbl, r2⟩)
        rw [RP.upd_self] at hR hF
        refine ⟨.value (.tuple #[.bool true, .int .i64 p, .int .i32 (Utf8.decode s p).1]), _, _, ρ, ?_, .inl rfl, ?_, hR, hF⟩
        · rw [hp]
          simp only [Instr.next, Sem.run_bind, hg, Result.andThen_ok, if_pos hlt, hset, Sem.run_pure, goInt]
        · exact VRs.tuple (VRs.plain (by intro x hx; simp at hx; rcases hx with rfl | rfl | rfl <;> rfl))
      · rename_i hlt
        obtain ⟨rfl, rfl⟩ := Prod.mk.inj (Option.some.inj hs)
        refine Done.pure (v' := .tuple #[.bool false]) ?_ (VRs.tuple (VRs.plain (by intro x hx; simp at hx; subst hx; rfl))) hr
        rw [hp]
        simp only [Instr.next, Sem.run_bind, hg, Result.andThen_ok, if_neg hlt, Sem.run_pure]
    · cases hs
  · cases hs

/-! Maps -/
theorem step_mkm {t : TypeId} {v : Value} {H' : Heap} (hs : stepI env H .mkm = some (v, H')) (hr : Rel ρ H w) : Done P (do Pure.pure (.value (← Instr.makeMap t none))) w ρ H v H' := by
  simp only [stepI] at hs
  obtain ⟨rfl, rfl⟩ := Prod.mk.inj (Option.some.inj hs)
  obtain ⟨ρ', hR, hF, hnew⟩ := hr.allocO (.map []) (.map #[] 0) (.inl ⟨rfl, 0, rfl⟩)
  refine ⟨.value (.map (some w.heap.size)), _, _, ρ', ?_, .inl rfl, ?_, hR, hF⟩
  · simp only [Instr.makeMap, Sem.run_bind, Sem.run_pure, Result.andThen_ok, run_newObj]
  · have := VR.map (ρ := ρ') (H := H ++ [⟨0, .map []⟩]) H.length ⟨0, .map []⟩ [] (by simp) rfl
    rw [hnew] at this
    exact this

theorem checkKey_run {t : TypeId} {kd : Nat} (ht : plainK P t = some kd) (em : Bool) (n : Nat) (v : Value) (w : World) : (Instr.checkKey em (n + 1) t v).run P w = .ok () w := by
  rcases plainK_cases ht with ⟨i, he, _⟩ | ⟨he, _⟩ | ⟨he, _⟩ <;>
    (unfold Instr.checkKey; simp only [Sem.run_bind, run_underlying he, Result.andThen_ok]; rfl)
theorem sameNow_run {kd : Nat} {d : TypeDesc} (hd : (∃ i, d = .int i ∧ kd = 0) ∨ (d = .bool ∧ kd = 1) ∨ (d = .string ∧ kd = 2)) {x y : Value} {b : Bool} (h : cellEq kd x y = some b) :
    Instr.sameNow d x y = some b ∧ plainV x = true ∧ plainV y = true ∧ (b = true → x = y ∧ ∀ n, Instr.sameBits n x y = true) := by
  unfold cellEq at h
  split at h
  · rename_i k p k' q
    obtain ⟨h1, h2⟩ := bif_some h
    simp only [Bool.and_eq_true] at h1
    have hk := Nat.eq_of_beq_eq_true h1.1
    obtain rfl := kN_inj h1.2
    rcases hd with ⟨i, rfl, _⟩ | ⟨_, k⟩ | ⟨_, k⟩
    · refine ⟨?_, rfl, rfl, fun hb => ?_⟩
      · simp only [Instr.sameNow, if_true]
        rw [← h2]
        congr 1
      · rw [hb] at h2
        have := of_decide_eq_true h2
        subst this
        exact ⟨rfl, fun n => by cases n <;> simp [Instr.sameBits]⟩
    all_goals omega
  · obtain ⟨h1, h2⟩ := bif_some h
    have hk := Nat.eq_of_beq_eq_true h1
    rcases hd with ⟨i, _, k⟩ | ⟨rfl, _⟩ | ⟨_, k⟩
    · omega
    · refine ⟨by rw [← h2]; rfl, rfl, rfl, fun hb => ?_⟩
      rw [hb] at h2
      have := eq_of_beq h2
      subst this
      exact ⟨rfl, fun n => by cases n <;> simp [Instr.sameBits]⟩
    · omega
  · rename_i p q
    obtain ⟨h1, h2⟩ := bif_some h
    have hk := Nat.eq_of_beq_eq_true h1
    rcases hd with ⟨i, _, k⟩ | ⟨_, k⟩ | ⟨rfl, _⟩
    · omega
    · omega
    · refine ⟨by rw [← h2, ← bytes_eqb]; rfl, rfl, rfl, fun hb => ?_⟩
      rw [hb] at h2
      have := (strEq_iff _ _).1 h2
      subst this
      have hpp : (p == p) = true := by rw [bytes_eqb]; exact (strEq_iff _ _).2 rfl
      exact ⟨rfl, fun n => by cases n <;> simp [Instr.sameBits, hpp]⟩
  · cases h

/-- An entry is found in the world's map as in the heap's. -/
theorem kFind_run {kd : Nat} {d : TypeDesc} (hd : (∃ i, d = .int i ∧ kd = 0) ∨ (d = .bool ∧ kd = 1) ∨ (d = .string ∧ kd = 2)) {k k' : Value} (hk : VR ρ H k k') :
    ∀ (kv : List (Value × Value)) (es : List MapEntry) (i : Nat) (r : Option (Nat × Value)), es.length = kv.length → (∀ (j : Nat) q x, kv[j]? = some (q, x) → ∃ en : MapEntry, es[j]? = some en ∧ VR ρ H q en.key ∧ VR ρ H x en.val) → kFind kd k kv i = some r →
      (r = none ∧ Instr.findNow d k' es i = some none) ∨ (∃ j x x' en, r = some (i + j, x) ∧ kv[j]?.map (·.2) = some x ∧ es[j]? = some en ∧ en.val = x' ∧ VR ρ H x x' ∧ Instr.findNow d k' es i = some (some (i + j, x')) ∧ k' = en.key ∧ ∀ n, Instr.sameBits n en.key k' = true)
  | [], es, i, r, hl, _, h => by
    simp only [kFind] at h
    obtain rfl := Option.some.inj h
    have : es = [] := List.eq_nil_of_length_eq_zero hl
    subst this
    exact .inl ⟨rfl, rfl⟩
  | (q, x) :: kv, [], i, r, hl, _, h => by simp at hl
  | (q, x) :: kv, e :: es, i, r, hl, he, h => by
    obtain ⟨en, h1, h2, h3⟩ := he 0 q x rfl
    simp at h1
    subst h1
    simp only [kFind] at h
    split at h
    · rename_i h4
      obtain rfl := Option.some.inj h
      obtain ⟨g1, g2, g3, g4⟩ := sameNow_run hd h4
      obtain ⟨rfl, g5⟩ := g4 rfl
      have e1 := hk.plain_inv g2
      have e2 := h2.plain_inv g3
      refine .inr ⟨0, x, e.val, e, rfl, rfl, rfl, rfl, h3, ?_, by rw [e1, e2], fun n => by rw [e1, e2]; exact g5 n⟩
      rw [e1]
      rw [← e2] at g1 ⊢
      simp only [Instr.findNow, g1, Nat.add_zero]
    · rename_i h4
      obtain ⟨g1, g2, g3, _⟩ := sameNow_run hd h4
      have e1 := hk.plain_inv g2
      have e2 := h2.plain_inv g3
      have hfn : Instr.findNow d k' (e :: es) i = Instr.findNow d k' es (i + 1) := by
        simp only [Instr.findNow, e1, e2, g1]
      rcases kFind_run hd hk kv es (i + 1) r (by simpa using hl) (fun j q x hx => by have := he (j + 1) q x (by simpa using hx); simpa using this) h with ⟨rfl, h5⟩ | ⟨j, y, y', en, rfl, h5, h6, h7, h8, h9, h10, h11⟩
      · exact .inl ⟨rfl, by rw [hfn]; exact h5⟩
      · refine .inr ⟨j + 1, y, y', en, by rw [show i + (j + 1) = i + 1 + j by omega], by simpa using h5, by simpa using h6, h7, h8, by rw [hfn, show i + (j + 1) = i + 1 + j by omega]; exact h9, h10, h11⟩
    · cases h

theorem sameZ_eq {zv : Value} {ag : Bool} {z : List Value} (h : sameZ zv ag z = true) : zv = zOf ag z ∧ VR ρ H (zOf ag z) (zOf ag z) := by
  unfold sameZ at h
  split at h
  · split at h
    · rename_i cs
      obtain ⟨h1, h2⟩ := sameL_eq h
      subst h1
      exact ⟨by simp [zOf], VRs.agg (by simpa using VRs.plain h2)⟩
    · cases h
  · rename_i u
    obtain ⟨h1, h2⟩ := sameC_eq h
    exact ⟨by rw [h1]; rfl, .plain _ h2⟩
  · cases h
theorem okV_vr {ok b : Bool} {v v' : Value} (h : VR ρ H v v') : VR ρ H (okV ok v b) (if ok = true then .tuple #[v', .bool b] else v') := by
  cases ok with
  | false => exact h
  | true => exact VRs.tuple (VRs.cons h (VRs.cons (.plain _ rfl) (VRs.nil _ _)))

theorem step_lku {t key elem : TypeId} {kd : Nat} {ag ok : Bool} {z : List Value} {zv : Value} {x k : Operand} {x' k' : Opd} (ht : P.underlying t = some (.map key elem)) (hk : plainK P key = some kd)
    (hz : (P.info? elem).bind (·.zero) = some zv) (hzz : sameZ zv ag z = true) (h1 : chkO nt x x' = true) (h2 : chkO nt k k' = true) {v : Value} {H' : Heap}
    (hs : stepI env H (.lku kd ag ok z x' k') = some (v, H')) (hr : Rel ρ H w) (he : EnvR ρ H nt env a) : Done P (do Pure.pure (.value (← Instr.lookup t (a.eval x) (a.eval k) ok))) w ρ H v H' := by
  have hx := opd_ok h1 he
  have hy := opd_ok h2 he
  obtain ⟨hz1, hz2⟩ := sameZ_eq (ρ := ρ) (H := H) hzz
  simp only [Option.bind_eq_some_iff] at hz
  obtain ⟨i, hi, hzero⟩ := hz
  have hzrun : (zeroValue elem).run P w = .ok zv w := by simp only [zeroValue, Sem.run_bind, run_typeInfo w hi, Result.andThen_ok, hzero, Sem.run_pure]
  obtain ⟨d, hd, hdk⟩ : ∃ d, P.underlying key = some d ∧ ((∃ i, d = .int i ∧ kd = 0) ∨ (d = .bool ∧ kd = 1) ∨ (d = .string ∧ kd = 2)) := by
    rcases plainK_cases hk with ⟨i, he, hh⟩ | ⟨he, hh⟩ | ⟨he, hh⟩
    · exact ⟨_, he, .inl ⟨i, rfl, hh⟩⟩
    · exact ⟨_, he, .inr (.inl ⟨rfl, hh⟩)⟩
    · exact ⟨_, he, .inr (.inr ⟨rfl, hh⟩)⟩
  simp only [stepI, lkuI] at hs
  split at hs
  · rename_i h4
    rw [h4] at hx
    obtain ⟨rfl, rfl⟩ := Prod.mk.inj (Option.some.inj hs)
    rw [hx.plain_inv rfl]
    refine Done.pure ?_ (okV_vr hz2) hr
    simp only [Instr.lookup, Sem.run_bind, run_underlying ht, Result.andThen_ok, Sem.run_pure, checkKey_run hk, Instr.findKey, run_underlying hd, Instr.findNow, hzrun, hz1]
  · rename_i r h4
    rw [h4] at hx
    split at hs
    · rename_i tag kv hkv
      obtain ⟨es, clock, q1, q2, q3⟩ := hr.map _ _ kv hkv rfl
      have hg : (getObj (ρ r).block).run P w = .ok (.map es clock) w := by simp only [getObj, Sem.run, q1]
      split at hs
      · rename_i j u hf
        obtain ⟨rfl, rfl⟩ := Prod.mk.inj (Option.some.inj hs)
        rcases kFind_run hdk hy kv es.toList 0 _ (by simpa using q2) (fun j q x hx => by obtain ⟨en, g⟩ := q3 j q x hx; exact ⟨en, by rw [Array.getElem?_toList]; exact g.1, g.2⟩) hf with ⟨h5, _⟩ | ⟨j', y, y', en, h5, h6, h7, h8, h9, h10, _⟩
        · cases h5
        · obtain ⟨rfl, rfl⟩ := Prod.mk.inj (Option.some.inj h5)
          rw [hx.map_inv]
          refine Done.pure ?_ (okV_vr h9) hr
          simp only [Instr.lookup, Sem.run_bind, run_underlying ht, hg, Result.andThen_ok, Sem.run_pure, checkKey_run hk, Instr.findKey, run_underlying hd, h10]
      · rename_i hf
        obtain ⟨rfl, rfl⟩ := Prod.mk.inj (Option.some.inj hs)
        rcases kFind_run hdk hy kv es.toList 0 _ (by simpa using q2) (fun j q x hx => by obtain ⟨en, g⟩ := q3 j q x hx; exact ⟨en, by rw [Array.getElem?_toList]; exact g.1, g.2⟩) hf with ⟨_, h5⟩ | ⟨j', y, y', en, h5, _⟩
        · rw [hx.map_inv]
          refine Done.pure ?_ (okV_vr hz2) hr
          simp only [Instr.lookup, Sem.run_bind, run_underlying ht, hg, Result.andThen_ok, Sem.run_pure, checkKey_run hk, Instr.findKey, run_underlying hd, h5, hzrun, hz1]
        · cases h5
      · cases hs
    · cases hs
  · cases hs

theorem step_mup {t key elem : TypeId} {kd : Nat} {x k y : Operand} {x' k' y' : Opd} (ht : P.underlying t = some (.map key elem)) (hk : plainK P key = some kd)
    (h1 : chkO nt x x' = true) (h2 : chkO nt k k' = true) (h3 : chkO nt y y' = true) {v : Value} {H' : Heap}
    (hs : stepI env H (.mup kd x' k' y') = some (v, H')) (hr : Rel ρ H w) (he : EnvR ρ H nt env a) : Done P (do Instr.mapUpdate t (a.eval x) (a.eval k) (a.eval y); Pure.pure .skip) w ρ H v H' := by
  have hx := opd_ok h1 he
  have hy := opd_ok h2 he
  have hv := opd_ok h3 he
  obtain ⟨d, hd, hdk⟩ : ∃ d, P.underlying key = some d ∧ ((∃ i, d = .int i ∧ kd = 0) ∨ (d = .bool ∧ kd = 1) ∨ (d = .string ∧ kd = 2)) := by
    rcases plainK_cases hk with ⟨i, he, hh⟩ | ⟨he, hh⟩ | ⟨he, hh⟩
    · exact ⟨_, he, .inl ⟨i, rfl, hh⟩⟩
    · exact ⟨_, he, .inr (.inl ⟨rfl, hh⟩)⟩
    · exact ⟨_, he, .inr (.inr ⟨rfl, hh⟩)⟩
  simp only [stepI, mupI] at hs
  split at hs
  · rename_i r h4
    rw [h4] at hx
    split at hs
    · rename_i tag kv hkv
      obtain ⟨es, clock, q1, q2, q3⟩ := hr.map _ _ kv hkv rfl
      have hbl := (Array.getElem?_eq_some_iff.1 q1).1
      have hg : (getObj (ρ r).block).run P w = .ok (.map es clock) w := by simp only [getObj, Sem.run, q1]
      have hset : ∀ o, (setObj (ρ r).block o).run P w = .ok () { w with heap := w.heap.setIfInBounds (ρ r).block o } := fun o => by simp only [setObj, Sem.run, q1]
      have hch : ∀ (kv' : List (Value × Value)) (es' : Array MapEntry) (clock' : Nat), es'.size = kv'.length → (∀ (j : Nat) q x, kv'[j]? = some (q, x) → ∃ en : MapEntry, es'[j]? = some en ∧ VR ρ H q en.key ∧ VR ρ H x en.val) →
          Rel ρ (H.set r ⟨tag, .map kv'⟩) { w with heap := w.heap.setIfInBounds (ρ r).block (.map es' clock') } ∧ Fr ρ H w ρ (H.set r ⟨tag, .map kv'⟩) { w with heap := w.heap.setIfInBounds (ρ r).block (.map es' clock') } := fun kv' es' clock' g1 g2 => by
        have := hr.change r ⟨tag, .map kv⟩ ⟨tag, .map kv'⟩ (ρ r) hkv rfl
          (w' := { w with heap := w.heap.setIfInBounds (ρ r).block (.map es' clock') }) rfl rfl rfl (by simp)
          (fun b _ hne => by simp only []; rw [Array.getElem?_setIfInBounds_ne (fun hh => hne hh.symm)]) (.inl rfl)
          (by rw [RP.upd_self]; exact ⟨Nat.le_refl _, fun _ h => (by cases h), fun _ _ => ⟨rfl, rfl⟩, fun _ _ _ _ h => (by cases h), fun _ h => ⟨rfl, _, rfl⟩⟩)
          (fun _ _ _ h1 => by cases h1)
          (fun kv1 h1 => by
            simp only [AObj.map.injEq] at h1
            subst h1
            exact ⟨es', clock', Array.getElem?_setIfInBounds_self_of_lt hbl, g1, g2⟩)
          (fun s1 q h1 => by cases h1)
        rwa [RP.upd_self] at this
      split at hs
      · rename_i j u hf
        obtain ⟨rfl, rfl⟩ := Prod.mk.inj (Option.some.inj hs)
        rcases kFind_run hdk hy kv es.toList 0 _ (by simpa using q2) (fun j q x hx => by obtain ⟨en, g⟩ := q3 j q x hx; exact ⟨en, by rw [Array.getElem?_toList]; exact g.1, g.2⟩) hf with ⟨h5, _⟩ | ⟨j', y1, y2, en, h5, h6, h7, h8, h9, h10, h11, h12⟩
        · cases h5
        · obtain ⟨hj, rfl⟩ := Prod.mk.inj (Option.some.inj h5)
          rw [Nat.zero_add] at hj h10
          subst hj
          rw [Array.getElem?_toList] at h7
          obtain ⟨hR, hF⟩ := hch (kv.set j (k'.ev env, y'.ev env)) (es.modify j fun e => { e with key := a.eval k, val := a.eval y }) clock (by simp [q2]) (fun i q x hx => by
            rw [List.getElem?_set] at hx
            rw [Array.getElem?_modify]
            by_cases hji : j = i
            · subst hji
              rw [if_pos rfl] at hx
              split at hx
              · obtain ⟨rfl, rfl⟩ := Prod.mk.inj (Option.some.inj hx)
                rw [if_pos rfl, h7]
                exact ⟨_, rfl, hy, hv⟩
              · cases hx
            · rw [if_neg hji] at hx
              rw [if_neg hji]
              exact q3 i q x hx)
          refine ⟨.skip, undef, _, ρ, ?_, .inr ⟨rfl, rfl⟩, .plain _ rfl, hR, hF⟩
          rw [hx.map_inv]
          simp only [Instr.mapUpdate, Sem.run_bind, run_underlying ht, hg, Result.andThen_ok, Sem.run_pure, checkKey_run hk, Instr.findKey, run_underlying hd, h10, h7, Option.map_some, Option.getD_some, Instr.keyThatStays, h12, if_true, hset]
      · rename_i hf
        obtain ⟨rfl, rfl⟩ := Prod.mk.inj (Option.some.inj hs)
        rcases kFind_run hdk hy kv es.toList 0 _ (by simpa using q2) (fun j q x hx => by obtain ⟨en, g⟩ := q3 j q x hx; exact ⟨en, by rw [Array.getElem?_toList]; exact g.1, g.2⟩) hf with ⟨_, h5⟩ | ⟨j', y1, y2, en, h5, _⟩
        · obtain ⟨hR, hF⟩ := hch (kv ++ [(k'.ev env, y'.ev env)]) (es.push { key := a.eval k, val := a.eval y, born := clock }) (clock + 1) (by simp [q2]) (fun i q x hx => by
            rcases Nat.lt_or_ge i kv.length with hi | hi
            · rw [List.getElem?_append_left hi] at hx
              obtain ⟨en, g⟩ := q3 i q x hx
              refine ⟨en, ?_, g.2⟩
              rw [Array.getElem?_push, if_neg (by omega)]
              exact g.1
            · rw [List.getElem?_append_right hi] at hx
              have h0 : i - kv.length = 0 := by
                rcases Nat.eq_zero_or_pos (i - kv.length) with h0 | h0
                · exact h0
                · rw [List.getElem?_eq_none (by simp; omega)] at hx; cases hx
              rw [h0] at hx
              simp at hx
              obtain ⟨rfl, rfl⟩ := hx
              refine ⟨{ key := a.eval k, val := a.eval y, born := clock }, ?_, hy, hv⟩
              rw [Array.getElem?_push, if_pos (by omega)])
          refine ⟨.skip, undef, _, ρ, ?_, .inr ⟨rfl, rfl⟩, .plain _ rfl, hR, hF⟩
          rw [hx.map_inv]
          simp only [Instr.mapUpdate, Sem.run_bind, run_underlying ht, hg, Result.andThen_ok, Sem.run_pure, checkKey_run hk, Instr.findKey, run_underlying hd, h5, hset]
        · cases h5
      · cases hs
    · cases hs
  · cases hs

end
end Go.Proofs.Ytdkdifjjpbfohaa.Fw
