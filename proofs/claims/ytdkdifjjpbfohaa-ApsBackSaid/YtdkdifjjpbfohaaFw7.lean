/- Steps: append. -/
import Derived.Test.YtdkdifjjpbfohaaFw6
import Derived.Laws.Append
namespace Go.Proofs.Ytdkdifjjpbfohaa.Fw
open Go
section
variable {P : Program} {nt : Nat} {env : Nat → Value} {H : Heap} {ρ : RP} {w : World} {a : Act}

theorem size_zeroCells' (z : Array Value) (n : Nat) : (Builtin.zeroCells z n).size = n * z.size := by simp [Builtin.zeroCells]

/-- append where there is room. -/
theorem run_append_fits {t t2 ty e : TypeId} {i : TypeInfo} (ht : P.underlying t = some (.slice e)) (hi : P.info? e = some i) (ht2 : (match P.underlying t2 with | some (.int _) => false | some _ => true | none => false) = true)
    {base : Option Addr} {l c m : Nat} {y : Value} {new : Array Value} (h1 : ∀ d, (Builtin.lenOf y).run P { w with drawn := d } = .ok m { w with drawn := d }) (h2 : ∀ d, (Builtin.firstCells i.size m y).run P { w with drawn := d } = .ok new { w with drawn := d })
    (hc : l + m ≤ c) {w' : World} (h3 : (match base with | some a => (storeCells (a.add (l * i.size)) new.toList).run P w | none => .ok () w) = .ok () w') :
    (Builtin.append_ #[t, t2] ty #[.slice base l c, y]).run P w = .ok (.slice base (l + m) c) w' := by
  have hz : ∃ d, P.underlying t2 = some d ∧ (match d with | .int _ => true | _ => false) = false := by
    split at ht2
    · cases ht2
    · rename_i d h4 h5
      refine ⟨d, h5, ?_⟩
      cases d <;> first | rfl | exact absurd rfl (h4 _)
    · cases ht2
  obtain ⟨d2, hd2, hz⟩ := hz
  have hw : ({ w with drawn := w.drawn } : World) = w := rfl
  have h1' := h1 w.drawn
  have h2' := h2 w.drawn
  rw [hw] at h1' h2'
  unfold Builtin.append_
  simp only [List.getElem?_toArray, List.getElem?_cons_zero, List.getElem?_cons_succ, Sem.run_bind, run_underlying ht, Result.andThen_ok, sizeOf, run_typeInfo w hi, Sem.run_pure, run_underlying hd2]
  cases d2 <;> first
    | (exact absurd (show true = false from hz) (by decide))
    | (simp only [Bool.false_eq_true, if_false, Sem.run_bind, h1', Result.andThen_ok, if_pos hc, Bool.not_false, if_true, h2']
       cases base with
       | none => (injection h3 with _ h3; rw [← h3]; rfl)
       | some ad => simp only [Sem.run_bind, h3, Result.andThen_ok, Sem.run_pure])

/-- append where there is no room. -/
theorem run_append_grows {t t2 ty e : TypeId} {i : TypeInfo} {z : Value} (ht : P.underlying t = some (.slice e)) (hi : P.info? e = some i) (hzero : i.zero = some z) (ht2 : (match P.underlying t2 with | some (.int _) => false | some _ => true | none => false) = true)
    {base : Option Addr} {l c m : Nat} {y : Value} {old new : Array Value} (h1 : ∀ d, (Builtin.lenOf y).run P { w with drawn := d } = .ok m { w with drawn := d }) (h2 : ∀ d, (Builtin.firstCells i.size m y).run P { w with drawn := d } = .ok new { w with drawn := d })
    (h3 : ∀ d, (Builtin.firstCells i.size l (.slice base l c)).run P { w with drawn := d } = .ok old { w with drawn := d })
    (hc : ¬ l + m ≤ c) (hb0 : i.bytes ≠ 0) (hb : Builtin.nextslicecap (l + m) c * i.bytes ≤ 281474976710656) :
    ∃ cap, l + m ≤ cap ∧ (Builtin.append_ #[t, t2] ty #[.slice base l c, y]).run P w =
      .ok (.slice (some ⟨w.heap.size, 0, none⟩) (l + m) cap) { w with drawn := w.drawn + 1, heap := w.heap.push (.cells (old ++ new ++ Builtin.zeroCells z.cells (cap - (l + m))) e) } := by
  have hz : ∃ d, P.underlying t2 = some d ∧ (match d with | .int _ => true | _ => false) = false := by
    split at ht2
    · cases ht2
    · rename_i d h4 h5
      refine ⟨d, h5, ?_⟩
      cases d <;> first | rfl | exact absurd rfl (h4 _)
    · cases ht2
  obtain ⟨d2, hd2, hz⟩ := hz
  have hw : ({ w with drawn := w.drawn } : World) = w := rfl
  have h1' := h1 w.drawn
  rw [hw] at h1'
  refine ⟨(Question.appendCap (l + m) c e).cut (w.tape w.drawn (Question.appendCap (l + m) c e)), by simp only [Question.cut]; omega, ?_⟩
  have hbig : ¬ ((((l + m : Nat) : Int) > IntKind.i64.max) ∧ (False ∨ i.bytes = 0)) := by rintro ⟨_, h | h⟩; exact h; exact hb0 h
  have hfit : ¬ (Builtin.nextslicecap (l + m) c * i.bytes > 2 ^ 48) := by
    have : (2 : Nat) ^ 48 = 281474976710656 := by decide
    omega
  have hi' := run_typeInfo (P := P) { w with drawn := w.drawn + 1 } hi
  unfold Builtin.append_
  simp only [List.getElem?_toArray, List.getElem?_cons_zero, List.getElem?_cons_succ, Sem.run_bind, run_underlying ht, Result.andThen_ok, sizeOf, run_typeInfo w hi, Sem.run_pure, run_underlying hd2]
  cases d2 <;> first
    | (exact absurd (show true = false from hz) (by decide))
    | (simp only [Bool.false_eq_true, if_false, Sem.run_bind, h1', Result.andThen_ok, Sem.run_pure, if_neg hc, run_typeInfo w hi, if_neg hbig, if_neg hfit, run_choose, Question.forced, run_askRoom, hi', h3, Bool.not_false, if_true, h2, zeroValue, hzero, newRow, run_newObj])

/-- What is appended, read out of the world. -/
theorem src_run (hr : Rel ρ H w) {n : Nat} {y y' : Value} (hv : VR ρ H y y') {src : List Value} {m : Nat} (hs : srcOf H n y = some (src, m)) :
    ∃ new : Array Value, VRs ρ H src new.toList ∧ (∀ x ∈ src, oneC x = true) ∧ src.length = m * n ∧ (∀ d, (Builtin.lenOf y').run P { w with drawn := d } = .ok m { w with drawn := d }) ∧
      (∀ d, (Builtin.firstCells n m y').run P { w with drawn := d } = .ok new { w with drawn := d }) := by
  unfold srcOf at hs
  split at hs
  · rename_i m0 c
    obtain ⟨h1, h2⟩ := bif_some hs
    obtain ⟨rfl, rfl⟩ := Prod.mk.inj h2
    have h1 := Nat.eq_of_beq_eq_true h1
    subst h1
    rw [hv.plain_inv rfl]
    exact ⟨#[], VRs.nil _ _, fun x h => by simp at h, by simp, fun d => by simp [Builtin.lenOf], fun d => by simp [Builtin.firstCells]⟩
  · rename_i ad m0 c
    split at hs
    · rename_i l hl
      simp only [Option.map_eq_some_iff] at hs
      obtain ⟨r, h1, h2⟩ := hs
      obtain ⟨rfl, rfl⟩ := Prod.mk.inj h2
      obtain ⟨e, ro, u, cs, q1, q2, q3, q4⟩ := cellsAt_some hl
      obtain ⟨h5, h6⟩ := rdN_some h1
      obtain ⟨r', h7, h8, h9⟩ := read_list (off := ad.off) hr q1 q3 r 0 (fun j x hx => by rw [Nat.zero_add, ← q4]; exact h6 j x hx)
      refine ⟨r'.toArray, by simpa using h7, h8, h5, ?_, ?_⟩
      · intro d
        obtain ⟨a', c', rfl⟩ := hv.sl_len
        simp [Builtin.lenOf]
      · intro d
        rcases hv.sl_inv q1 q2 q3 with ⟨c', rfl, _⟩ | ⟨rfl, _, a', rfl⟩
        · have hrun := run_loadCells_list (P := P) { w with drawn := d } ⟨(ρ ad.block).block, (ρ ad.block).base + ad.off, none⟩ r' (fun j v hv => by rw [addr_add]; have := h9 j v hv; rwa [Nat.add_zero] at this)
          rw [← h7.1, h5] at hrun
          simp only [Builtin.firstCells, hrun]
        · have : r' = [] := List.eq_nil_of_length_eq_zero (by rw [← h7.1, h5]; simp)
          subst this
          simp [Builtin.firstCells, loadCells, loadCellsFrom]
    · cases hs
  · rename_i s
    obtain ⟨h1, h2⟩ := bif_some hs
    obtain ⟨rfl, rfl⟩ := Prod.mk.inj h2
    have h1 := Nat.eq_of_beq_eq_true h1
    subst h1
    rw [hv.string_inv]
    have e1 : s.extract 0 s.size = s := by
      apply ByteArray.ext
      rw [ByteArray.data_extract]
      exact Array.extract_size
    have e2 : (bytesV s).length = s.size := by rw [bytesV, List.length_map, Array.length_toList]; rfl
    refine ⟨s.data.map fun b => .int .u8 b.toNat, ?_, ?_, by rw [e2, Nat.mul_one], fun d => by simp [Builtin.lenOf], fun d => by simp [Builtin.firstCells, e1]⟩
    · have : (s.data.map fun b => Value.int .u8 b.toNat).toList = bytesV s := by simp [bytesV]
      rw [this]
      refine ⟨rfl, fun j x x' hx hx' => ?_⟩
      rw [hx] at hx'
      obtain rfl := Option.some.inj hx'
      simp only [bytesV, List.getElem?_map, Option.map_eq_some_iff] at hx
      obtain ⟨b, _, rfl⟩ := hx
      exact .plain _ rfl
    · intro x hx
      simp only [bytesV, List.mem_map] at hx
      obtain ⟨b, _, rfl⟩ := hx
      rfl
  · rename_i m0 f cs
    simp only [Option.map_eq_some_iff] at hs
    obtain ⟨r, h1, h2⟩ := hs
    obtain ⟨rfl, rfl⟩ := Prod.mk.inj h2
    obtain ⟨h5, h6⟩ := rdN_some h1
    rcases hv.imm_inv with ⟨_, ⟨b, o, c', c, rfl, q1, q0, q2, q3, q4⟩ | ⟨rfl, rfl, a', rfl⟩⟩
    · obtain ⟨r', h7, h8⟩ := read_fz (w := w) hr q1 q2 q4 r 0 (fun j x hx => by rw [Nat.zero_add]; exact h6 j x hx)
      refine ⟨r'.toArray, by simpa using h7, fun x hx => ?_, h5, fun d => by simp [Builtin.lenOf], fun d => ?_⟩
      · obtain ⟨j, hj, rfl⟩ := List.getElem_of_mem hx
        have := h6 j _ (List.getElem?_eq_getElem hj)
        rw [Array.getElem?_toList] at this
        obtain ⟨h9, h10⟩ := Array.getElem?_eq_some_iff.1 this
        rw [← h10]
        exact q3 j h9
      · have hrun := run_loadCells_list (P := P) { w with drawn := d } ⟨b, o, none⟩ r' (fun j v hv => by rw [addr_add]; have := h8 j v hv; rwa [Nat.add_zero] at this)
        rw [← h7.1, h5] at hrun
        simp only [Builtin.firstCells, hrun]
    · have hr0 : r = [] := List.eq_nil_of_length_eq_zero (by rw [h5]; simp)
      subst hr0
      exact ⟨#[], VRs.nil _ _, fun x h => by simp at h, by simp, fun d => by simp [Builtin.lenOf], fun d => by simp [Builtin.firstCells, loadCells, loadCellsFrom]⟩
  · cases hs

theorem VRs.get {l l' : List Value} (h : VRs ρ H l l') {k : Nat} {x : Value} (hx : l[k]? = some x) : ∃ x', l'[k]? = some x' ∧ VR ρ H x x' := by
  have hk : k < l'.length := by rw [← h.1]; exact (List.getElem?_eq_some_iff.1 hx).1
  exact ⟨l'[k], List.getElem?_eq_getElem hk, h.2 k x _ hx (List.getElem?_eq_getElem hk)⟩

/-- An entry's row becomes longer: in a block that is new. -/
theorem grow_ok {e : TypeId} {n l m cap : Nat} {ad : Addr} {tag : Nat} {cs src : List Value} {old new rest : Array Value} (hr : Rel ρ H w) (hlk : lk H ad = some ⟨tag, .cells false n cs⟩)
    (ho : VRs ρ H (cs.drop ad.off) old.toList) (ho1 : ∀ x ∈ cs.drop ad.off, oneC x = true) (s1 : VRs ρ H src new.toList) (s2 : ∀ x ∈ src, oneC x = true) (hcap : l + m ≤ cap) (hsize : (old ++ new ++ rest).size = cap * n) :
    ∃ ρ', VR ρ' (H.set ad.block ⟨tag + 1, .cells false n (cs.drop ad.off ++ src)⟩) (.slice (some ⟨ad.block, 0, spotOf (tag + 1)⟩) (l + m) (l + m)) (.slice (some ⟨w.heap.size, 0, none⟩) (l + m) cap) ∧
      Rel ρ' (H.set ad.block ⟨tag + 1, .cells false n (cs.drop ad.off ++ src)⟩) { w with drawn := w.drawn + 1, heap := w.heap.push (.cells (old ++ new ++ rest) e) } ∧
      Fr ρ H w ρ' (H.set ad.block ⟨tag + 1, .cells false n (cs.drop ad.off ++ src)⟩) { w with drawn := w.drawn + 1, heap := w.heap.push (.cells (old ++ new ++ rest) e) } := by
  obtain ⟨q1, q2⟩ := lk_some hlk
  have hi : ad.block < H.length := (List.getElem?_eq_some_iff.1 q1).1
  obtain ⟨hR, hF⟩ := hr.change ad.block ⟨tag, .cells false n cs⟩ ⟨tag + 1, .cells false n (cs.drop ad.off ++ src)⟩ ⟨w.heap.size, 0, cap * n⟩ q1 rfl
    (w' := { w with drawn := w.drawn + 1, heap := w.heap.push (.cells (old ++ new ++ rest) e) }) rfl rfl rfl (by simp)
    (fun b hb _ => by simp only []; rw [Array.getElem?_push, if_neg (by omega)]) (.inr (Nat.le_refl _))
    ⟨Nat.le_succ _, fun h => by simp at h, fun h => by simp at h, fun _ _ _ h => by simp at h, fun kv h => by cases h⟩
    (fun ro1 u1 cs1 h1 => by
      simp only [AObj.cells.injEq] at h1
      obtain ⟨rfl, rfl, rfl⟩ := h1
      refine ⟨old ++ new ++ rest, e, (0, 0), by simp, hsize, fun _ => .inl rfl, fun k x hx => ?_⟩
      have hall := VRs.append ho s1
      obtain ⟨x', h3, h4⟩ := hall.get hx
      refine ⟨?_, x', ?_, h4⟩
      · rcases List.mem_append.1 (List.mem_of_getElem? hx) with h | h
        · exact ho1 x h
        · exact s2 x h
      · rw [Nat.zero_add]
        have hk := (List.getElem?_eq_some_iff.1 h3).1
        rw [Array.getElem?_append_left (by simpa using hk), ← Array.getElem?_toList, Array.toList_append]
        exact h3)
    (fun kv h1 => by cases h1) (fun s q h1 => by cases h1)
  refine ⟨_, ?_, hR, hF⟩
  have hs : ρ.upd ad.block ⟨w.heap.size, 0, cap * n⟩ ad.block = ⟨w.heap.size, 0, cap * n⟩ := RP.upd_same _ _ _
  have := VR.sl (ρ := ρ.upd ad.block ⟨w.heap.size, 0, cap * n⟩) (H := H.set ad.block ⟨tag + 1, .cells false n (cs.drop ad.off ++ src)⟩) ad.block 0 (spotOf (tag + 1)) (l + m) (l + m) cap
    ⟨tag + 1, .cells false n (cs.drop ad.off ++ src)⟩ false n (cs.drop ad.off ++ src) (by rw [List.getElem?_set, if_pos rfl, if_pos hi]) (tag_spot _).symm rfl (fun _ => by rw [hs]; simp only [Nat.zero_add]; exact Nat.le_refl _) hcap hcap
  rw [hs] at this
  exact this

/-- append of what is told: the abstract heap's answer is the world's. -/
theorem app_core {e : TypeId} {n eb : Nat} {z : Value} (hzs : z.cells.size = n) {A : Option Addr → Nat → Nat → Result Value} {m : Nat} {new : Array Value} {src : List Value} (s1 : VRs ρ H src new.toList) (s2 : ∀ x ∈ src, oneC x = true) (s3 : src.length = m * n)
    (hF : ∀ base l c w', l + m ≤ c → (match base with | some a => (storeCells (a.add (l * n)) new.toList).run P w | none => .ok () w) = .ok () w' → A base l c = .ok (.slice base (l + m) c) w')
    (hG : ∀ base l c (old : Array Value), (∀ d, (Builtin.firstCells n l (.slice base l c)).run P { w with drawn := d } = .ok old { w with drawn := d }) → ¬ l + m ≤ c → (l + m) * eb ≤ 140737488355328 → ∃ cap, l + m ≤ cap ∧
      A base l c = .ok (.slice (some ⟨w.heap.size, 0, none⟩) (l + m) cap) { w with drawn := w.drawn + 1, heap := w.heap.push (.cells (old ++ new ++ Builtin.zeroCells z.cells (cap - (l + m))) e) })
    {x x' : Value} (hx : VR ρ H x x') (hr : Rel ρ H w) {v : Value} {H' : Heap} (hs : appV n eb H x src m = some (v, H')) :
    ∃ base l c v' w' ρ', x' = .slice base l c ∧ A base l c = .ok v' w' ∧ VR ρ' H' v v' ∧ Rel ρ' H' w' ∧ Fr ρ H w ρ' H' w' := by
  unfold appV at hs
  split at hs
  · rename_i l c
    cases hlc : (Nat.beq l 0 && Nat.beq c 0) with
    | false => rw [hlc] at hs; cases hs
    | true =>
      rw [hlc] at hs
      simp only [Bool.and_eq_true] at hlc
      have hl := Nat.eq_of_beq_eq_true hlc.1
      have hc := Nat.eq_of_beq_eq_true hlc.2
      subst hl; subst hc
      refine ⟨none, 0, 0, ?_⟩
      suffices h : ∃ v' w' ρ', A none 0 0 = .ok v' w' ∧ VR ρ' H' v v' ∧ Rel ρ' H' w' ∧ Fr ρ H w ρ' H' w' by
        obtain ⟨v', w', ρ', h⟩ := h
        exact ⟨v', w', ρ', hx.plain_inv rfl, h⟩
      cases hm : Nat.beq m 0 with
      | true =>
        rw [hm] at hs
        obtain ⟨rfl, rfl⟩ := Prod.mk.inj (Option.some.inj hs)
        have hm := Nat.eq_of_beq_eq_true hm
        subst hm
        have hrun := hF none 0 0 w (Nat.le_refl _) rfl
        exact ⟨_, w, ρ, hrun, .plain _ rfl, hr, Fr.refl _ _ _⟩
      | false =>
        rw [hm] at hs
        simp only [cond_false] at hs
        split at hs
        · rename_i hbig
          obtain ⟨rfl, rfl⟩ := Prod.mk.inj (Option.some.inj hs)
          have hm0 : 0 < m := by
            rcases Nat.eq_zero_or_pos m with h | h
            · subst h; cases hm
            · exact h
          obtain ⟨cap, hcap, hrun⟩ := hG none 0 0 #[] (fun d => by simp [Builtin.firstCells]) (by omega) (by rw [Nat.zero_add]; exact hbig)
          simp only [Nat.zero_add] at hrun hcap
          obtain ⟨ρ', hR, hF, hnew⟩ := (hr.drew (w.drawn + 1)).alloc n src (#[] ++ new ++ Builtin.zeroCells z.cells (cap - m)) e (0, 0) (.inl rfl) (fun k q hq => by
            refine ⟨s2 q (List.mem_of_getElem? hq), ?_⟩
            obtain ⟨q', h1, h2⟩ := s1.get hq
            refine ⟨q', ?_, h2⟩
            have hk := (List.getElem?_eq_some_iff.1 h1).1
            rw [Array.empty_append, Array.getElem?_append_left (by simpa using hk), ← Array.getElem?_toList]
            exact h1)
          have hsize : (#[] ++ new ++ Builtin.zeroCells z.cells (cap - m)).size = cap * n := by
            have e1 : new.size = m * n := by rw [← Array.length_toList, ← s1.1, s3]
            rw [Array.empty_append, Array.size_append, size_zeroCells', e1, hzs, ← Nat.add_mul]
            congr 1
            omega
          refine ⟨_, _, ρ', hrun, ?_, hR, (Fr.drew ρ H w (w.drawn + 1)).trans hF⟩
          have := VR.sl (ρ := ρ') (H := H ++ [⟨0, .cells false n src⟩]) H.length 0 none m m cap ⟨0, .cells false n src⟩ false n src (by simp) rfl rfl (fun _ => by rw [hnew]; simp only [Nat.zero_add]; omega) hcap hcap
          rw [hnew] at this
          exact this
        · cases hs
  · rename_i ad l c
    split at hs
    · rename_i tag u cs hlk
      split at hs
      · rename_i hcond
        obtain ⟨rfl, hend, hbig⟩ := hcond
        obtain ⟨rfl, rfl⟩ := Prod.mk.inj (Option.some.inj hs)
        obtain ⟨q1, q2⟩ := lk_some hlk
        have hi2 : ad.block < H.length := (List.getElem?_eq_some_iff.1 q1).1
        have hnew : new.size = m * u := by rw [← Array.length_toList, ← s1.1, s3]
        have hdl : (cs.drop ad.off).length = l * u := by rw [List.length_drop]; omega
        obtain ⟨r', o1, o2, o3⟩ := read_list (off := ad.off) hr q1 rfl (cs.drop ad.off) 0 (fun j x hx => by rw [Nat.zero_add]; exact hx)
        have hrl : r'.length = l * u := by rw [← o1.1, hdl]
        rcases hx.sl_inv q1 q2 rfl with ⟨c', hxv, hcapfit, hc1, hc2⟩ | ⟨rfl, rfl, a', hxv⟩
        · refine ⟨some ⟨(ρ ad.block).block, (ρ ad.block).base + ad.off, none⟩, l, c', ?_⟩
          suffices h : ∃ v' w' ρ', A (some ⟨(ρ ad.block).block, (ρ ad.block).base + ad.off, none⟩) l c' = .ok v' w' ∧ VR ρ' (H.set ad.block ⟨tag + 1, .cells false u (cs.drop ad.off ++ src)⟩) (.slice (some ⟨ad.block, 0, spotOf (tag + 1)⟩) (l + m) (l + m)) v' ∧ Rel ρ' (H.set ad.block ⟨tag + 1, .cells false u (cs.drop ad.off ++ src)⟩) w' ∧ Fr ρ H w ρ' (H.set ad.block ⟨tag + 1, .cells false u (cs.drop ad.off ++ src)⟩) w' by
            obtain ⟨v', w', ρ', h⟩ := h
            exact ⟨v', w', ρ', hxv, h⟩
          have hcapfit := hcapfit rfl
          have hfirst : ∀ d, (Builtin.firstCells u l (.slice (some ⟨(ρ ad.block).block, (ρ ad.block).base + ad.off, none⟩) l c')).run P { w with drawn := d } = .ok r'.toArray { w with drawn := d } := fun d => by
            have hrun := run_loadCells_list (P := P) { w with drawn := d } ⟨(ρ ad.block).block, (ρ ad.block).base + ad.off, none⟩ r' (fun j v hv => by rw [addr_add]; have := o3 j v hv; rwa [Nat.add_zero] at this)
            rw [hrl] at hrun
            simp only [Builtin.firstCells, hrun]
          by_cases hroom : l + m ≤ c'
          · obtain ⟨cc, ty2, fr, r1, r2, r3, r4⟩ := hr.cells _ _ false u cs q1 rfl
            have hone : ∀ z ∈ new.toList, oneC z = true := fun z hz => by
              obtain ⟨j, hj, rfl⟩ := List.getElem_of_mem hz
              have hj' : j < src.length := by rw [s1.1]; exact hj
              have := s1.2 j _ _ (List.getElem?_eq_getElem hj') (List.getElem?_eq_getElem hj)
              rw [this.oneC]
              exact s2 _ (List.getElem_mem hj')
            have hmul : (l + m) * u ≤ c' * u := Nat.mul_le_mul_right _ hroom
            rw [Nat.add_mul] at hmul
            have hstore := run_storeCells (P := P) (ρ ad.block).block ((ρ ad.block).base + ad.off + l * u) ty2 fr new.toList 0 cc w r1 (by rw [Array.length_toList, hnew]; omega) (fr_no (r3 rfl)) hone
            have hrun := hF (some ⟨(ρ ad.block).block, (ρ ad.block).base + ad.off, none⟩) l c' _ hroom (by simp only []; rw [addr_add]; exact hstore)
            obtain ⟨hR, hF⟩ := hr.change ad.block ⟨tag, .cells false u cs⟩ ⟨tag + 1, .cells false u (cs.drop ad.off ++ src)⟩ ⟨(ρ ad.block).block, (ρ ad.block).base + ad.off, (ρ ad.block).size⟩ q1 rfl
              (w' := { w with heap := w.heap.setIfInBounds (ρ ad.block).block (.cells (splA cc ((ρ ad.block).base + ad.off + l * u + 0) new.toList) ty2 fr) }) rfl rfl rfl (by simp)
              (fun b _ hne => by simp only []; rw [Array.getElem?_setIfInBounds_ne (fun hh => hne hh.symm)]) (.inl rfl)
              ⟨Nat.le_succ _, fun h => by simp at h, fun h => by simp at h, fun _ _ _ h => by simp at h, fun kv h => by cases h⟩
              (fun ro1 u1 cs1 h1 => by
                simp only [AObj.cells.injEq] at h1
                obtain ⟨rfl, rfl, rfl⟩ := h1
                refine ⟨splA cc ((ρ ad.block).base + ad.off + l * u + 0) new.toList, ty2, fr, Array.getElem?_setIfInBounds_self_of_lt (Array.getElem?_eq_some_iff.1 r1).1, by rw [splA_size]; exact r2, fun _ => by rw [splA_size]; exact r3 rfl, fun k x hx => ?_⟩
                simp only []
                rw [splA_get _ _ _ _ (by rw [Array.length_toList, hnew]; omega), Array.length_toList, hnew]
                rcases Nat.lt_or_ge k (l * u) with hk | hk
                · rw [List.getElem?_append_left (by omega), List.getElem?_drop] at hx
                  rw [if_neg (by omega)]
                  have := r4 (ad.off + k) x hx
                  rwa [← Nat.add_assoc] at this
                · rw [List.getElem?_append_right (by omega), hdl] at hx
                  obtain ⟨x', h3, h4⟩ := s1.get hx
                  have hk2 := (List.getElem?_eq_some_iff.1 hx).1
                  rw [s3] at hk2
                  rw [if_pos (by omega)]
                  refine ⟨s2 x (List.mem_of_getElem? hx), x', ?_, h4⟩
                  rw [← h3]
                  congr 1
                  omega)
              (fun kv h1 => by cases h1) (fun s q h1 => by cases h1)
            refine ⟨_, _, _, hrun, ?_, hR, hF⟩
            have hs : ρ.upd ad.block ⟨(ρ ad.block).block, (ρ ad.block).base + ad.off, (ρ ad.block).size⟩ ad.block = ⟨(ρ ad.block).block, (ρ ad.block).base + ad.off, (ρ ad.block).size⟩ := RP.upd_same _ _ _
            have := VR.sl (ρ := ρ.upd ad.block ⟨(ρ ad.block).block, (ρ ad.block).base + ad.off, (ρ ad.block).size⟩) (H := H.set ad.block ⟨tag + 1, .cells false u (cs.drop ad.off ++ src)⟩) ad.block 0 (spotOf (tag + 1)) (l + m) (l + m) c'
              ⟨tag + 1, .cells false u (cs.drop ad.off ++ src)⟩ false u (cs.drop ad.off ++ src) (by rw [List.getElem?_set, if_pos rfl, if_pos hi2]) (tag_spot _).symm rfl (fun _ => by rw [hs]; simp only [Nat.add_zero]; exact hcapfit) hroom hroom
            rw [hs] at this
            exact this
          · obtain ⟨cap, hcap, hrun⟩ := hG _ _ _ _ hfirst hroom hbig
            obtain ⟨ρ', g1, g2, g3⟩ := grow_ok (e := e) (l := l) (m := m) (cap := cap) (rest := Builtin.zeroCells z.cells (cap - (l + m))) hr hlk (old := r'.toArray) (by simpa using o1) o2 s1 s2 hcap (by
              rw [Array.size_append, Array.size_append, size_zeroCells', hnew, hzs, List.size_toArray, hrl, ← Nat.add_mul, ← Nat.add_mul]
              congr 1
              omega)
            exact ⟨_, _, ρ', hrun, g1, g2, g3⟩
        · refine ⟨some a', 0, 0, ?_⟩
          suffices h : ∃ v' w' ρ', A (some a') 0 0 = .ok v' w' ∧ VR ρ' (H.set ad.block ⟨tag + 1, .cells false u (cs.drop ad.off ++ src)⟩) (.slice (some ⟨ad.block, 0, spotOf (tag + 1)⟩) (0 + m) (0 + m)) v' ∧ Rel ρ' (H.set ad.block ⟨tag + 1, .cells false u (cs.drop ad.off ++ src)⟩) w' ∧ Fr ρ H w ρ' (H.set ad.block ⟨tag + 1, .cells false u (cs.drop ad.off ++ src)⟩) w' by
            obtain ⟨v', w', ρ', h⟩ := h
            exact ⟨v', w', ρ', hxv, h⟩
          have hcs0 : cs.drop ad.off = [] := List.eq_nil_of_length_eq_zero (by rw [hdl, Nat.zero_mul])
          have hfirst : ∀ d, (Builtin.firstCells u 0 (.slice (some a') 0 0)).run P { w with drawn := d } = .ok #[] { w with drawn := d } := fun d => by simp [Builtin.firstCells, loadCells, loadCellsFrom]
          rcases Nat.eq_zero_or_pos m with hm | hm
          · subst hm
            have hn0 : new = #[] := Array.eq_empty_of_size_eq_zero (by rw [hnew, Nat.zero_mul])
            have hrun := hF (some a') 0 0 w (Nat.le_refl _) (by simp [hn0, storeCells])
            have hsrc0 : src = [] := List.eq_nil_of_length_eq_zero (by rw [s3, Nat.zero_mul])
            obtain ⟨cc, ty2, fr, r1, r2, r3, r4⟩ := hr.cells _ _ false u cs q1 rfl
            obtain ⟨hR, hF⟩ := hr.change ad.block ⟨tag, .cells false u cs⟩ ⟨tag + 1, .cells false u (cs.drop ad.off ++ src)⟩ (ρ ad.block) q1 rfl
              (w' := w) rfl rfl rfl (Nat.le_refl _) (fun b _ _ => rfl) (.inl rfl)
              ⟨Nat.le_succ _, fun h => by simp at h, fun h => by simp at h, fun _ _ _ h => by simp at h, fun kv h => by cases h⟩
              (fun ro1 u1 cs1 h1 => by
                simp only [AObj.cells.injEq] at h1
                obtain ⟨rfl, rfl, rfl⟩ := h1
                exact ⟨cc, ty2, fr, r1, r2, r3, fun k x hx => by rw [hcs0, hsrc0] at hx; simp at hx⟩)
              (fun kv h1 => by cases h1) (fun s q h1 => by cases h1)
            refine ⟨_, _, _, hrun, ?_, hR, hF⟩
            exact .slNil ad.block 0 (spotOf (tag + 1)) ⟨tag + 1, .cells false u (cs.drop ad.off ++ src)⟩ a' (by rw [List.getElem?_set, if_pos rfl, if_pos hi2]) (by rw [tag_spot]; exact Nat.le_refl _)
          · obtain ⟨cap, hcap, hrun⟩ := hG _ _ _ _ hfirst (by omega) hbig
            obtain ⟨ρ', g1, g2, g3⟩ := grow_ok (e := e) (l := 0) (m := m) (cap := cap) (rest := Builtin.zeroCells z.cells (cap - (0 + m))) hr hlk (old := #[]) (by rw [hcs0]; exact VRs.nil _ _) o2 s1 s2 hcap (by
              rw [Array.size_append, Array.empty_append, size_zeroCells', hnew, hzs, ← Nat.add_mul]
              congr 1
              omega)
            exact ⟨_, _, ρ', hrun, g1, g2, g3⟩
      · cases hs
    · cases hs
  · cases hs


theorem app_ok {t t2 ty e : TypeId} {n eb : Nat} (ht : P.underlying t = some (.slice e)) (hi : (P.info? e).isSome = true) (hn : P.cellsOf e = n) (heb : P.bytesOf e = eb) (hb0 : Nat.beq eb 0 = false) {zl : List Value} (hzl : zeroT P e = some zl) (hzn : zl.length = n)
    (ht2 : (match P.underlying t2 with | some (.int _) => false | some _ => true | none => false) = true) {x x' y y' : Value} (hx : VR ρ H x x') (hy : VR ρ H y y') (hr : Rel ρ H w)
    {src : List Value} {m : Nat} (hsrc : srcOf H n y = some (src, m)) {v : Value} {H' : Heap} (hs : appV n eb H x src m = some (v, H')) :
    ∃ v' w' ρ', (Builtin.append_ #[t, t2] ty #[x', y']).run P w = .ok v' w' ∧ VR ρ' H' v v' ∧ Rel ρ' H' w' ∧ Fr ρ H w ρ' H' w' := by
  obtain ⟨i, hi⟩ := Option.isSome_iff_exists.1 hi
  have hin : i.size = n := by rw [← hn]; simp [Program.cellsOf, hi]
  have hib : i.bytes = eb := by rw [← heb]; simp [Program.bytesOf, hi]
  have heb0 : i.bytes ≠ 0 := by rw [hib]; intro h; rw [h] at hb0; cases hb0
  unfold zeroT at hzl
  simp only [hi, Option.bind_some, Option.map_eq_some_iff] at hzl
  obtain ⟨z, hzero, hzl⟩ := hzl
  have hzs : z.cells.size = n := by rw [← Array.length_toList, hzl, hzn]
  obtain ⟨new, s1, s2, s3, s4, s5⟩ := src_run (P := P) hr hy hsrc
  rw [← hin] at s5
  obtain ⟨base, l, c, v', w', ρ', h1, h2⟩ := app_core (P := P) (e := e) (eb := eb) hzs (A := fun base l c => (Builtin.append_ #[t, t2] ty #[.slice base l c, y']).run P w) s1 s2 s3
    (fun base l c w' hc h3 => run_append_fits ht hi ht2 s4 s5 hc (by rw [hin]; exact h3))
    (fun base l c old h3 hc hbig => run_append_grows ht hi hzero ht2 s4 s5 (by rw [hin]; exact h3) hc heb0 (growslice_fits (by omega) (by rw [hib]; exact hbig))) hx hr hs
  rw [h1]
  exact ⟨v', w', ρ', h2⟩

end
end Go.Proofs.Ytdkdifjjpbfohaa.Fw
