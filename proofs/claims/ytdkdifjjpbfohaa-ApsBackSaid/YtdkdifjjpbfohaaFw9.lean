/- Steps: literals of slices, makes, bytes and strings, cuts. -/
import Derived.Test.YtdkdifjjpbfohaaFw8
namespace Go.Proofs.Ytdkdifjjpbfohaa.Fw
open Go
section
variable {P : Program} {nt : Nat} {env : Nat → Value} {H : Heap} {ρ : RP} {w : World} {a : Act}

theorem zr_length (len : Nat) (z : List Value) : (zr len z).length = len * z.length := by
  unfold zr
  induction len with
  | zero => simp
  | succ n ih => rw [List.replicate_succ, List.flatten_cons, List.length_append, ih, Nat.succ_mul, Nat.add_comm]
theorem zr_get (len : Nat) (z : List Value) (k : Nat) (hk : k < len * z.length) : (zr len z)[k]? = z[k % z.length]? := by
  unfold zr
  induction len generalizing k with
  | zero => simp at hk
  | succ n ih =>
    rw [List.replicate_succ, List.flatten_cons]
    rcases Nat.lt_or_ge k z.length with h | h
    · rw [List.getElem?_append_left h, Nat.mod_eq_of_lt h]
    · rw [List.getElem?_append_right h, ih (k - z.length) (by rw [Nat.succ_mul] at hk; omega)]
      congr 1
      exact (Nat.mod_eq_sub_mod h).symm
/-- The model's own zero cells. -/
theorem zeros_eq (len : Nat) (z : Array Value) (hz : 0 < z.size) : ((Array.range (len * z.size)).map (z[· % z.size]!)).toList = zr len z.toList := by
  apply List.ext_getElem?
  intro k
  rw [Array.toList_map, Array.toList_range, List.getElem?_map]
  rcases Nat.lt_or_ge k (len * z.size) with h | h
  · rw [List.getElem?_range h, zr_get len z.toList k (by simpa using h)]
    have hm : k % z.size < z.size := Nat.mod_lt _ hz
    simp [hm]
  · rw [List.getElem?_eq_none (by simpa using h), List.getElem?_eq_none (by rw [zr_length]; simpa using h)]
    rfl

theorem chkPartsS_to {n : Nat} : ∀ (l : List (Nat × Operand)) (m : List (Nat × Opd)), chkPartsS nt l m = true → chkParts nt (fun i => some (i * n, n)) l (m.map fun (i, x) => (i * n, n, x)) = true
  | [], [], _ => rfl
  | [], _ :: _, h => by simp [chkPartsS] at h
  | _ :: _, [], h => by simp [chkPartsS] at h
  | (i, o) :: l, (j, x) :: m, h => by
    simp only [chkPartsS, Bool.and_eq_true] at h
    obtain ⟨⟨h1, h2⟩, h3⟩ := h
    rw [Nat.eq_of_beq_eq_true h1]
    simp only [List.map_cons, chkParts, beq_self_eq_true, h2, Bool.and_self, Bool.true_and]
    exact chkPartsS_to l m h3

theorem step_bsl {t e : TypeId} {n len : Nat} {z : List Value} {parts : Array (Nat × Operand)} {parts' : List (Nat × Opd)} (ht : P.underlying t = some (.slice e)) (hi : (P.info? e).isSome = true) (hn : P.cellsOf e = n) {l : List Value}
    (hl : zeroT P e = some l) (hlz : sameL l z = true) (hln : l.length = n) (hzo : z.all oneC = true) (hbig : len * n ≤ 16777216) (h0 : Nat.beq (len * n) 0 = false) (hp : chkPartsS nt parts.toList parts' = true) {v : Value} {H' : Heap}
    (hs : stepI env H (.bsl n len z parts') = some (v, H')) (hr : Rel ρ H w) (he : EnvR ρ H nt env a) :
    Done P (do Pure.pure (.value (← Instr.buildSlice t len (parts.map fun (i, x) => (i, a.eval x))))) w ρ H v H' := by
  obtain ⟨h3, h4⟩ := sameL_eq hlz
  subst h3
  simp only [stepI, Option.bind_eq_some_iff] at hs
  obtain ⟨r, hf, h2⟩ := hs
  obtain ⟨h5, h6⟩ := bif_some h2
  obtain ⟨rfl, rfl⟩ := Prod.mk.inj h6
  unfold zeroT at hl
  simp only [Option.map_eq_some_iff, Option.bind_eq_some_iff] at hl
  obtain ⟨zv, ⟨i, q1, q2⟩, q3⟩ := hl
  have hzero : (zeroValue e).run P w = .ok zv w := by simp only [zeroValue, Sem.run_bind, run_typeInfo w q1, Result.andThen_ok, q2, Sem.run_pure]
  have hzs : zv.cells.size = n := by rw [← Array.length_toList, q3, hln]
  have hlen0 : len * n ≠ 0 := fun h => by rw [h] at h0; cases h0
  have hn0 : 0 < n := by
    rcases Nat.eq_zero_or_pos n with h | h
    · subst h; simp at hlen0
    · exact h
  have hze : ((Array.range (len * n)).map (zv.cells[· % zv.cells.size]!)).toList = zr len l := by
    have := zeros_eq len zv.cells (by omega)
    rw [hzs, q3] at this
    rw [hzs]
    exact this
  have hzr : ∀ x ∈ zr len l, plainV x = true := fun x hx => by
    unfold zr at hx
    rw [List.mem_flatten] at hx
    obtain ⟨l', h7, h8⟩ := hx
    rw [(List.mem_replicate.1 h7).2] at h8
    exact h4 x h8
  have hmap : (parts'.map fun (i, x) => (i * n, n, x.ev env)) = ((parts'.map fun (i, x) => (i * n, n, x)).map fun (o, s, x) => (o, s, x.ev env)) := by rw [List.map_map]; rfl
  rw [hmap] at hf
  obtain ⟨c', g1, g2⟩ := fill_run parts.toList _ (zr len l) ((Array.range (len * n)).map (zv.cells[· % zv.cells.size]!)) r (chkPartsS_to _ _ hp) he (by rw [hze]; exact VRs.plain hzr) hf
  have hrl : r.length = len * n := by rw [fillL_len _ _ _ hf, zr_length, hln]
  have hcs : c'.size = len * n := by rw [← Array.length_toList, ← g2.1, hrl]
  obtain ⟨ρ', hR, hF, hnew⟩ := hr.alloc n r c' e (0, 0) (.inl rfl) (fun k x hx => by
    obtain ⟨x', e1, e2⟩ := g2.get hx
    exact ⟨List.all_eq_true.1 h5 x (List.mem_of_getElem? hx), x', by rw [← Array.getElem?_toList]; exact e1, e2⟩)
  refine ⟨.value (.slice (some ⟨w.heap.size, 0, none⟩) len len), _, _, ρ', ?_, .inl rfl, ?_, hR, hF⟩
  · have hb2 : ¬ (len * n > 2 ^ 24) := by
      have : (2 : Nat) ^ 24 = 16777216 := by decide
      omega
    simp only [Instr.buildSlice, Sem.run_bind, run_underlying ht, Result.andThen_ok, run_sizeOf' hi, hn, if_neg hb2, if_neg hlen0, Sem.run_pure, hzero, Array.toList_map]
    rw [g1]
    simp only [Sem.run_bind, newRow, run_newObj, Result.andThen_ok, Sem.run_pure]
  · have := VR.sl (ρ := ρ') (H := H ++ [⟨0, .cells false n r⟩]) H.length 0 none len len len ⟨0, .cells false n r⟩ false n r (by simp) rfl rfl (fun _ => by rw [hnew]; simp only [Nat.zero_add]; omega) (Nat.le_refl _) (Nat.le_refl _)
    rw [hnew] at this
    exact this

theorem zr_one (n : Nat) (z : Value) : zr n [z] = List.replicate n z := by
  unfold zr
  induction n with
  | zero => rfl
  | succ n ih => rw [List.replicate_succ, List.flatten_cons, ih, List.replicate_succ]; rfl

theorem step_mks {t e : TypeId} {eb : Nat} {z z' : Value} {x y : Operand} {x' y' : Opd} (ht : P.underlying t = some (.slice e)) (hi : (P.info? e).isSome = true) (hn : P.cellsOf e = 1) (heb : P.bytesOf e = eb) (hl : zeroT P e = some [z']) (hzz : sameC z' z = true) (hzo : oneC z' = true) (he0 : Nat.beq eb 0 = false)
    (h1 : chkO nt x x' = true) (h2 : chkO nt y y' = true) {v : Value} {H' : Heap}
    (hs : stepI env H (.mks eb z x' y') = some (v, H')) (hr : Rel ρ H w) (he : EnvR ρ H nt env a) :
    Done P (do Pure.pure (.value (← Instr.makeSlice t (a.eval x) (a.eval y)))) w ρ H v H' := by
  have hx := opd_ok h1 he
  have hy := opd_ok h2 he
  obtain ⟨rfl, hpl⟩ := sameC_eq hzz
  simp only [stepI] at hs
  split at hs
  · rename_i k1 l k2 c h4 h5
    rw [h4] at hx
    rw [h5] at hy
    split at hs
    · rename_i hc
      obtain ⟨hc1, hc2, hc3⟩ := hc
      obtain ⟨rfl, rfl⟩ := Prod.mk.inj (Option.some.inj hs)
      obtain ⟨i, hi⟩ := Option.isSome_iff_exists.1 hi
      have hib : i.bytes = eb := by rw [← heb]; simp [Program.bytesOf, hi]
      have hin : i.size = 1 := by rw [← hn]; simp [Program.cellsOf, hi]
      unfold zeroT at hl
      simp only [hi, Option.bind_some, Option.map_eq_some_iff] at hl
      obtain ⟨zv, q2, q3⟩ := hl
      have hzs : zv.cells.size = 1 := by rw [← Array.length_toList, q3]; rfl
      have hze : ((Array.range c.toNat).map (zv.cells[· % zv.cells.size]!)).toList = List.replicate c.toNat z' := by
        have := zeros_eq c.toNat zv.cells (by omega)
        rw [hzs, Nat.mul_one, q3, zr_one] at this
        rw [hzs]
        exact this
      obtain ⟨ρ', hR, hF, hnew⟩ := hr.alloc 1 (List.replicate c.toNat z') ((Array.range c.toNat).map (zv.cells[· % zv.cells.size]!)) e (0, 0) (.inl rfl) (fun k q hq => by
        have hm := (List.mem_replicate.1 (List.mem_of_getElem? hq)).2
        subst hm
        exact ⟨hzo, q, by rw [← Array.getElem?_toList, hze]; exact hq, .plain _ hpl⟩)
      have hsz : ((Array.range c.toNat).map (zv.cells[· % zv.cells.size]!)).size = c.toNat := by simp
      refine ⟨.value (.slice (some ⟨w.heap.size, 0, none⟩) l.toNat c.toNat), _, _, ρ', ?_, .inl rfl, ?_, hR, hF⟩
      · have heb1 : 1 ≤ eb := by
          rcases Nat.eq_zero_or_pos eb with h | h
          · subst h; cases he0
          · exact h
        have hcm : c ≤ c * eb := by
          have := Int.mul_le_mul_of_nonneg_left (show (1 : Int) ≤ eb by omega) (show 0 ≤ c by omega)
          rwa [Int.mul_one] at this
        have w64 : ∀ q : Int, 0 ≤ q → q ≤ 281474976710656 → IntKind.i64.wrap q = q := fun q q1 q2 => by
          have e1 : (2 : Int) ^ 64 = 18446744073709551616 := by decide
          have e2 : (2 : Int) ^ 63 = 9223372036854775808 := by decide
          simp only [IntKind.wrap, IntKind.bits, IntKind.signed, e1, Bool.true_and, decide_eq_true_eq]
          rw [show (2 : Int) ^ (64 - 1) = 9223372036854775808 from by decide, if_neg (by omega)]
          omega
        rw [hx.int_inv, hy.int_inv]
        have hbig : (decide (c < 0) || decide ((eb : Int) * c > 2 ^ 48)) = false := by
          have e1 : (2 : Int) ^ 48 = 281474976710656 := by decide
          rw [e1, Int.mul_comm]
          simp only [Bool.or_eq_false_iff, decide_eq_false_iff_not]
          omega
        have hl0 : decide (l < 0) = false := decide_eq_false (by omega)
        have hlc : decide (l > c) = false := decide_eq_false (by omega)
        simp only [Instr.makeSlice, Sem.run_bind, run_underlying ht, Result.andThen_ok, asInt, asIntOf, Sem.run_pure, run_typeInfo w hi, hib, w64 c (by omega) (by omega), w64 l (by omega) (by omega), hbig, hl0, hlc, Bool.or_self, Bool.false_eq_true, if_false, run_askRoom, run_sizeOf' (show (P.info? e).isSome = true by rw [hi]; rfl), hn, Nat.mul_one]
        by_cases hc0 : c.toNat = 0
        · rw [if_pos hc0]
          simp only [Sem.run_pure, Result.andThen_ok, newRow, Sem.run_bind, run_newObj]
          have hr0 : ∀ f : Nat → Value, (Array.range 0).map f = #[] := fun f => by simp [Array.range]
          rw [hc0, hr0, hr0]
        · rw [if_neg hc0]
          simp only [zeroValue, Sem.run_bind, run_typeInfo w hi, q2, Sem.run_pure, Result.andThen_ok, newRow, run_newObj]
      · have := VR.sl (ρ := ρ') (H := H ++ [⟨0, .cells false 1 (List.replicate c.toNat z')⟩]) H.length 0 none l.toNat c.toNat c.toNat ⟨0, .cells false 1 (List.replicate c.toNat z')⟩ false 1 _ (by simp) rfl rfl (fun _ => by rw [hnew]; simp) (Nat.le_refl _) (by omega)
        rw [hnew] at this
        exact this
    · cases hs
  · cases hs

/-! Bytes and strings -/
theorem strOf_get : ∀ (r : List Value) (l : List UInt8), strOf r = some l → ∃ xs : List Int, xs.length = r.length ∧ r = xs.map (Value.int .u8) ∧ l = xs.map fun n => UInt8.ofNat n.toNat
  | [], l, h => by simp only [strOf] at h; obtain rfl := Option.some.inj h; exact ⟨[], rfl, rfl, rfl⟩
  | v :: r, l, h => by
    unfold strOf at h
    split at h
    · rename_i e; cases e
    · rename_i n r' e
      cases e
      simp only [Option.map_eq_some_iff] at h
      obtain ⟨l', h1, rfl⟩ := h
      obtain ⟨xs, h2, h3, h4⟩ := strOf_get r l' h1
      exact ⟨n :: xs, by simp [h2], by rw [h3]; rfl, by rw [h4]; rfl⟩
    · cases h

theorem step_b2s {s d e : TypeId} {x : Operand} {x' : Opd} (hs0 : P.underlying s = some (.slice e)) (he0 : P.underlying e = some (.int .u8)) (hd : P.underlying d = some .string) (h1 : chkO nt x x' = true) {v : Value} {H' : Heap}
    (hs : stepI env H (.b2s x') = some (v, H')) (hr : Rel ρ H w) (he : EnvR ρ H nt env a) :
    Done P (do Pure.pure (.value (← convert s d (a.eval x)))) w ρ H v H' := by
  have hx := opd_ok h1 he
  simp only [stepI, b2sI] at hs
  split at hs
  · rename_i n c h4
    rw [h4] at hx
    obtain ⟨h5, h6⟩ := bif_some hs
    obtain ⟨rfl, rfl⟩ := Prod.mk.inj h6
    rw [hx.plain_inv rfl]
    refine Done.pure (v' := .string ⟨#[]⟩) ?_ (.plain _ rfl) hr
    simp only [Sem.run_bind, run_convert_bytes_nil w s e hs0 he0 n c d hd, Result.andThen_ok, Sem.run_pure]
    rfl
  · rename_i ad n c h4
    rw [h4] at hx
    split at hs
    · rename_i l hc
      simp only [Option.map_eq_some_iff, Option.bind_eq_some_iff] at hs
      obtain ⟨r, ⟨cs0, hrd, hst⟩, h6⟩ := hs
      obtain ⟨rfl, rfl⟩ := Prod.mk.inj h6
      obtain ⟨e1, ro, u, cs, q1, q2, q3, q4⟩ := cellsAt_some hc
      obtain ⟨h7, h8⟩ := rdN_some hrd
      obtain ⟨xs, h9, h10, h11⟩ := strOf_get _ _ hst
      have hstr : (⟨r.toArray⟩ : ByteArray) = strOfNums xs := by rw [h11]; rfl
      rw [hstr]
      rcases hx.sl_inv q1 q2 q3 with ⟨c', hv, _⟩ | ⟨rfl, _, a', hv⟩
      · rw [hv]
        refine Done.pure (v' := .string (strOfNums xs)) ?_ (.plain _ rfl) hr
        have hrun := run_convert_bytes_arg (P := P) w s e hs0 he0 (ρ ad.block).block ((ρ ad.block).base + ad.off) n c' xs (by rw [h9, h7]) (fun i hi => by
          have hix : i < xs.length := by rw [h9, h7]; exact hi
          have hci : cs0[i]? = some (.int .u8 (xs.getD i 0)) := by
            rw [h10, List.getElem?_map, List.getElem?_eq_getElem hix, List.getD_eq_getElem?_getD, List.getElem?_eq_getElem hix]; rfl
          have hi2 := h8 i _ hci
          rw [q4] at hi2
          obtain ⟨_, x', h12, h13⟩ := cell_at hr q1 q3 hi2
          rw [h12, h13.int_inv]) d hd
        simp only [Sem.run_bind, hrun, Result.andThen_ok, Sem.run_pure]
      · have hx0 : xs = [] := List.eq_nil_of_length_eq_zero (by rw [h9, h7])
        rw [hv, hx0]
        refine Done.pure (v' := .string (strOfNums [])) ?_ (.plain _ rfl) hr
        have hrun := run_convert_bytes_string (P := P) w s d e (some a') 0 0 hs0 he0 hd
        simp only [Sem.run_bind, hrun, Conv.bytesToString, loadCells, loadCellsFrom, Result.andThen_ok, Sem.run_pure]
        rfl
    · cases hs
  · rename_i n f cs h4
    rw [h4] at hx
    simp only [Option.map_eq_some_iff, Option.bind_eq_some_iff] at hs
    obtain ⟨r, ⟨cs0, hrd, hst⟩, h6⟩ := hs
    obtain ⟨rfl, rfl⟩ := Prod.mk.inj h6
    obtain ⟨h7, h8⟩ := rdN_some hrd
    obtain ⟨xs, h9, h10, h11⟩ := strOf_get _ _ hst
    have hstr : (⟨r.toArray⟩ : ByteArray) = strOfNums xs := by rw [h11]; rfl
    rw [hstr]
    rcases hx.imm_inv with ⟨_, ⟨b, o, c', c, hv, q1, q0, q2, q3, q4⟩ | ⟨rfl, rfl, a', hv⟩⟩
    · rw [hv]
      refine Done.pure (v' := .string (strOfNums xs)) ?_ (.plain _ rfl) hr
      have hrun := run_convert_bytes_arg (P := P) w s e hs0 he0 b o n c' xs (by rw [h9, h7]) (fun i hi => by
        have hix : i < xs.length := by rw [h9, h7]; exact hi
        have hci : cs0[i]? = some (.int .u8 (xs.getD i 0)) := by
          rw [h10, List.getElem?_map, List.getElem?_eq_getElem hix, List.getD_eq_getElem?_getD, List.getElem?_eq_getElem hix]; rfl
        have hi2 := h8 i _ hci
        rw [Array.getElem?_toList] at hi2
        obtain ⟨h12, h13⟩ := Array.getElem?_eq_some_iff.1 hi2
        rw [fz_cell hr q1 (q2 i h12)]
        have := q4 i h12 (q2 i h12)
        rw [h13] at this
        rw [this.int_inv]) d hd
      simp only [Sem.run_bind, hrun, Result.andThen_ok, Sem.run_pure]
    · have hx0 : xs = [] := List.eq_nil_of_length_eq_zero (by rw [h9, h7])
      rw [hv, hx0]
      refine Done.pure (v' := .string (strOfNums [])) ?_ (.plain _ rfl) hr
      have hrun := run_convert_bytes_string (P := P) w s d e (some a') 0 0 hs0 he0 hd
      simp only [Sem.run_bind, hrun, Conv.bytesToString, loadCells, loadCellsFrom, Result.andThen_ok, Sem.run_pure]
      rfl
  · cases hs

theorem step_s2b {s d e : TypeId} {x : Operand} {x' : Opd} (hs0 : P.underlying s = some .string) (hd : P.underlying d = some (.slice e)) (he0 : P.underlying e = some (.int .u8)) (h1 : chkO nt x x' = true) {v : Value} {H' : Heap}
    (hs : stepI env H (.s2b x') = some (v, H')) (hr : Rel ρ H w) (he : EnvR ρ H nt env a) :
    Done P (do Pure.pure (.value (← convert s d (a.eval x)))) w ρ H v H' := by
  have hx := opd_ok h1 he
  simp only [stepI] at hs
  split at hs
  · rename_i sv h4
    rw [h4] at hx
    obtain ⟨rfl, rfl⟩ := Prod.mk.inj (Option.some.inj hs)
    obtain ⟨cap, hcap⟩ : ∃ cap, cap = (Question.appendCap sv.size 0 e).cut (w.tape w.drawn (Question.appendCap sv.size 0 e)) := ⟨_, rfl⟩
    have hge : sv.size ≤ cap := by rw [hcap]; simp only [Question.cut]; omega
    have hbl : (bytesV sv).length = sv.size := by rw [bytesV, List.length_map, Array.length_toList]; rfl
    obtain ⟨ca, hca⟩ : ∃ ca : Array Value, ca = (sv.data.map fun b => Value.int .u8 b.toNat) ++ Array.replicate (cap - sv.size) (.int .u8 0) := ⟨_, rfl⟩
    have hsz : ca.size = cap := by
      rw [hca, Array.size_append, Array.size_map, Array.size_replicate]
      have : sv.data.size = sv.size := rfl
      omega
    obtain ⟨ρ', hR, hF, hnew⟩ := (hr.drew (w.drawn + 1)).alloc 1 (bytesV sv) ca e (cap, cap + 1) (.inr (by rw [hsz]; exact Nat.le_refl _)) (fun k q hq => by
      have hq2 := hq
      simp only [bytesV, List.getElem?_map, Option.map_eq_some_iff] at hq2
      obtain ⟨b, hb, rfl⟩ := hq2
      have hk : k < sv.data.size := by have := (List.getElem?_eq_some_iff.1 hb).1; rwa [Array.length_toList] at this
      refine ⟨rfl, _, ?_, .plain _ rfl⟩
      rw [hca, Array.getElem?_append_left (by simpa using hk), Array.getElem?_map, ← Array.getElem?_toList, hb]
      rfl)
    refine ⟨.value (.slice (some ⟨w.heap.size, 0, none⟩) sv.size cap), _, _, ρ', ?_, .inl rfl, ?_, hR, (Fr.drew ρ H w (w.drawn + 1)).trans hF⟩
    · rw [hx.string_inv]
      have hget : ({ w with drawn := w.drawn + 1, heap := w.heap.push (.cells ca e) } : World).shape? w.heap.size = some (e, cap) := by
        simp [World.shape?, hsz]
      have hfz : World.freeze { w with drawn := w.drawn + 1, heap := w.heap.push (.cells ca e) } ⟨w.heap.size, cap, none⟩ 1 = { w with drawn := w.drawn + 1, heap := w.heap.push (.cells ca e (cap, cap + 1)) } := by
        unfold World.freeze
        rw [if_neg (by decide)]
        congr 1
        apply Array.ext_getElem?
        intro j
        rw [Array.getElem?_modify]
        by_cases hj : w.heap.size = j
        · subst hj
          simp
        · simp [hj, Array.getElem?_push]
          split
          · rename_i h; exact absurd h.symm hj
          · rfl
      have hforced : (Question.appendCap sv.size 0 e).forced = false := rfl
      simp only [convert, Sem.run_bind, run_underlying hs0, run_underlying hd, run_underlying he0, Result.andThen_ok, Conv.stringToBytes, run_choose, hforced, Bool.false_eq_true, if_false, newRow, run_newObj, Sem.run_pure, markStringish, run_shape, ← hcap, ← hca, hget, run_freeze, hfz]
    · have := VR.sl (ρ := ρ') (H := H ++ [⟨0, .cells false 1 (bytesV sv)⟩]) H.length 0 none sv.size sv.size cap ⟨0, .cells false 1 (bytesV sv)⟩ false 1 _ (by simp) rfl rfl (fun _ => by rw [hnew]; simp only [Nat.zero_add, Nat.mul_one, hsz]; exact Nat.le_refl _) hge hge
      rw [hnew] at this
      exact this
  · cases hs

end
end Go.Proofs.Ytdkdifjjpbfohaa.Fw
