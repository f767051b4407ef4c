/- Step: append of what make would make. -/
import Derived.Test.YtdkdifjjpbfohaaFw10
namespace Go.Proofs.Ytdkdifjjpbfohaa.Fw
open Go
section
variable {P : Program} {nt : Nat} {env : Nat → Value} {H : Heap} {ρ : RP} {w : World} {a : Act}

theorem wrap_i64 {q : Int} (h0 : -9223372036854775808 ≤ q) (h1 : q ≤ 9223372036854775807) : IntKind.i64.wrap q = q := by
  have e1 : (2 : Int) ^ 64 = 18446744073709551616 := by decide
  simp only [IntKind.wrap, IntKind.bits, IntKind.signed, e1, Bool.true_and, decide_eq_true_eq]
  rw [show (2 : Int) ^ (64 - 1) = 9223372036854775808 from by decide]
  split <;> omega

theorem run_appz_fits {t t2 ty e : TypeId} {i : TypeInfo} {z : Value} {kk k2 : IntKind} (ht : P.underlying t = some (.slice e)) (hi : P.info? e = some i) (hzero : i.zero = some z) (ht2 : P.underlying t2 = some (.int kk))
    {base : Option Addr} {l c m : Nat} (hm : (m : Int) * i.bytes ≤ 281474976710656) (hb1 : 1 ≤ i.bytes) (hs1 : i.size = 1) (hc : l + m ≤ c) {w' : World}
    (h3 : (match base with | some a => (storeCells (a.add (l * i.size)) (Builtin.zeroCells z.cells m).toList).run P w | none => .ok () w) = .ok () w') :
    (Builtin.append_ #[t, t2] ty #[.slice base l c, .int k2 m]).run P w = .ok (.slice base (l + m) c) w' := by
  have hcm : (m : Int) ≤ (m : Int) * i.bytes := by
    have := Int.mul_le_mul_of_nonneg_left (show (1 : Int) ≤ i.bytes by omega) (show 0 ≤ (m : Int) by omega)
    rwa [Int.mul_one] at this
  have hw : IntKind.i64.wrap (m : Int) = m := wrap_i64 (by omega) (by omega)
  have hl0 : ¬ ((m : Int) < 0) := by omega
  have hbig : ¬ ((m : Int) * i.bytes > 2 ^ 48) := by
    have e1 : (2 : Int) ^ 48 = 281474976710656 := by decide
    omega
  have hz0 : m = 0 → (Builtin.zeroCells z.cells m).toList = [] := fun h => by subst h; simp [Builtin.zeroCells]
  unfold Builtin.append_
  simp only [List.getElem?_toArray, List.getElem?_cons_zero, List.getElem?_cons_succ, Sem.run_bind, run_underlying ht, Result.andThen_ok, sizeOf, run_typeInfo w hi, Sem.run_pure, run_underlying ht2, if_true, asInt, asIntOf, hw, if_neg hl0, if_neg hbig, Int.toNat_natCast, if_pos hc, Bool.not_true, Bool.false_eq_true, if_false]
  by_cases h0 : m * i.size = 0
  · rw [if_pos h0]
    have hm0 : m = 0 := by rw [hs1] at h0; omega
    rw [hz0 hm0] at h3
    cases base with
    | none =>
      simp only [Sem.run_pure, Result.andThen_ok]
      injection h3 with _ h3
      rw [h3]
    | some ad =>
      simp only [Sem.run_pure, Result.andThen_ok, Sem.run_bind]
      simp only [] at h3
      rw [h3]
      rfl
  · rw [if_neg h0]
    simp only [zeroValue, Sem.run_bind, run_typeInfo w hi, hzero, Sem.run_pure, Result.andThen_ok]
    cases base with
    | none =>
      simp only [Sem.run_pure]
      injection h3 with _ h3
      rw [h3]
    | some ad => simp only [Sem.run_bind, h3, Result.andThen_ok, Sem.run_pure]

theorem run_appz_grows {t t2 ty e : TypeId} {i : TypeInfo} {z : Value} {kk k2 : IntKind} (ht : P.underlying t = some (.slice e)) (hi : P.info? e = some i) (hzero : i.zero = some z) (ht2 : P.underlying t2 = some (.int kk))
    {base : Option Addr} {l c m : Nat} {old : Array Value} (hm : (m : Int) * i.bytes ≤ 281474976710656) (hb1 : 1 ≤ i.bytes) (hs1 : i.size = 1)
    (h3 : ∀ d, (Builtin.firstCells i.size l (.slice base l c)).run P { w with drawn := d } = .ok old { w with drawn := d })
    (hc : ¬ l + m ≤ c) (hbg : Builtin.nextslicecap (l + m) c * i.bytes ≤ 281474976710656) (hsm : ((l + m : Nat) : Int) ≤ 9223372036854775807) :
    ∃ cap, l + m ≤ cap ∧ (Builtin.append_ #[t, t2] ty #[.slice base l c, .int k2 m]).run P w =
      .ok (.slice (some ⟨w.heap.size, 0, none⟩) (l + m) cap) { w with drawn := w.drawn + 1, heap := w.heap.push (.cells (old ++ Builtin.zeroCells z.cells m ++ Builtin.zeroCells z.cells (cap - (l + m))) e) } := by
  have hcm : (m : Int) ≤ (m : Int) * i.bytes := by
    have := Int.mul_le_mul_of_nonneg_left (show (1 : Int) ≤ i.bytes by omega) (show 0 ≤ (m : Int) by omega)
    rwa [Int.mul_one] at this
  have hw : IntKind.i64.wrap (m : Int) = m := wrap_i64 (by omega) (by omega)
  have hl0 : ¬ ((m : Int) < 0) := by omega
  have hbig : ¬ ((m : Int) * i.bytes > 2 ^ 48) := by
    have e1 : (2 : Int) ^ 48 = 281474976710656 := by decide
    omega
  have hbig2 : ¬ ((((l + m : Nat) : Int) > IntKind.i64.max) ∧ (True ∨ i.bytes = 0)) := by
    have : IntKind.i64.max = 9223372036854775807 := by decide
    rintro ⟨h, _⟩; omega
  have hfit : ¬ (Builtin.nextslicecap (l + m) c * i.bytes > 2 ^ 48) := by
    have : (2 : Nat) ^ 48 = 281474976710656 := by decide
    omega
  have hi' := run_typeInfo (P := P) { w with drawn := w.drawn + 1 } hi
  refine ⟨(Question.appendCap (l + m) c e).cut (w.tape w.drawn (Question.appendCap (l + m) c e)), by simp only [Question.cut]; omega, ?_⟩
  unfold Builtin.append_
  simp only [List.getElem?_toArray, List.getElem?_cons_zero, List.getElem?_cons_succ, Sem.run_bind, run_underlying ht, Result.andThen_ok, sizeOf, run_typeInfo w hi, Sem.run_pure, run_underlying ht2, if_true, asInt, asIntOf, hw, if_neg hl0, if_neg hbig, Int.toNat_natCast, if_neg hc, if_neg hbig2, if_neg hfit,
    run_choose, Question.forced, run_askRoom, hi', h3, Bool.not_true, Bool.false_eq_true, if_false]
  by_cases h0 : m * i.size = 0
  · rw [if_pos h0]
    have hm0 : m = 0 := by rw [hs1] at h0; omega
    simp only [Sem.run_pure, Result.andThen_ok, zeroValue, Sem.run_bind, hi', hzero, newRow, run_newObj]
    have : Builtin.zeroCells z.cells m = #[] := by rw [hm0]; simp [Builtin.zeroCells]
    rw [this]
  · rw [if_neg h0]
    simp only [zeroValue, Sem.run_bind, hi', hzero, Sem.run_pure, Result.andThen_ok, newRow, run_newObj]

theorem step_appz {args : Array Operand} {tys : Array TypeId} {t t2 ty e : TypeId} {cn : Array Bool} {eb : Nat} {z zv : Value} {kk : IntKind} {x y : Operand} {x' y' : Opd} (ha : args.toList = [x, y]) (hty : tys.toList = [t, t2])
    (ht : P.underlying t = some (.slice e)) (hi : (P.info? e).isSome = true) (hn : P.cellsOf e = 1) (heb : P.bytesOf e = eb) (hb0 : Nat.beq eb 0 = false) (hzl : zeroT P e = some [zv]) (hz : sameC zv z = true) (hz1 : oneC zv = true)
    (ht2 : P.underlying t2 = some (.int kk)) (h1 : chkO nt x x' = true) (h2 : chkO nt y y' = true) {v : Value} {H' : Heap}
    (hs : stepI env H (.appz eb z x' y') = some (v, H')) (hr : Rel ρ H w) (he : EnvR ρ H nt env a) :
    Done P (builtin .append tys ty cn (args.map a.eval)) w ρ H v H' := by
  have hx := opd_ok h1 he
  obtain rfl : args = #[x, y] := by rw [← Array.toList_inj]; exact ha
  obtain rfl : tys = #[t, t2] := by rw [← Array.toList_inj]; exact hty
  obtain ⟨hzz, hzp⟩ := sameC_eq hz
  subst hzz
  simp only [stepI] at hs
  split at hs
  · rename_i k2 mi h4
    split at hs
    · rename_i hm
      obtain ⟨m, rfl⟩ : ∃ m : Nat, mi = m := ⟨mi.toNat, by omega⟩
      rw [Int.toNat_natCast] at hs
      obtain ⟨i, hi⟩ := Option.isSome_iff_exists.1 hi
      have hin : i.size = 1 := by rw [← hn]; simp [Program.cellsOf, hi]
      have hib : i.bytes = eb := by rw [← heb]; simp [Program.bytesOf, hi]
      have heb0 : 1 ≤ i.bytes := by
        rcases Nat.eq_zero_or_pos i.bytes with h | h
        · rw [hib] at h; rw [h] at hb0; cases hb0
        · exact h
      unfold zeroT at hzl
      simp only [hi, Option.bind_some, Option.map_eq_some_iff] at hzl
      obtain ⟨z0, hzero, hzl⟩ := hzl
      have hzc : z0.cells = #[zv] := by rw [← Array.toList_inj, hzl]
      have hzs : z0.cells.size = 1 := by rw [hzc]; rfl
      have hnl : (Builtin.zeroCells z0.cells m).toList = List.replicate m zv := by
        rw [hzc]
        refine List.eq_replicate_iff.2 ⟨by simp [Builtin.zeroCells], fun b hb => ?_⟩
        simp only [Builtin.zeroCells, Array.toList_map, List.mem_map] at hb
        obtain ⟨j, _, rfl⟩ := hb
        have : j % (#[zv] : Array Value).size = 0 := by simp [Nat.mod_one]
        rw [this]
        rfl
      have hyv : a.eval y = .int k2 m := by
        have h := opd_ok h2 he
        rw [h4] at h
        exact h.int_inv
      obtain ⟨base, l, c, v', w', ρ', g1, g2, g3, g4, g5⟩ := app_core (P := P) (e := e) (n := 1) (eb := eb) (z := z0) (new := Builtin.zeroCells z0.cells m) (src := List.replicate m zv) (m := m) hzs
        (A := fun base l c => (Builtin.append_ #[t, t2] ty #[.slice base l c, .int k2 m]).run P w)
        (by rw [hnl]; exact ⟨rfl, fun j q q' hq hq' => by
              rw [hq] at hq'
              obtain rfl := Option.some.inj hq'
              have := List.mem_of_getElem? hq
              rw [List.eq_of_mem_replicate this]
              exact .plain _ hzp⟩)
        (fun q hq => by rw [List.eq_of_mem_replicate hq]; exact hz1) (by simp)
        (fun base l c w' hc h3 => run_appz_fits ht hi hzero ht2 (by rw [hib]; exact hm.2) heb0 hin hc (by rw [hin]; exact h3))
        (fun base l c old h3 hc hbig => by
          refine run_appz_grows ht hi hzero ht2 (by rw [hib]; exact hm.2) heb0 hin (by rw [hin]; exact h3) hc (growslice_fits (by omega) (by rw [hib]; exact hbig)) ?_
          have : (l + m) * 1 ≤ (l + m) * eb := Nat.mul_le_mul_left _ (by rw [← hib]; exact heb0)
          omega) hx hr hs
      refine ⟨.value v', v', w', ρ', ?_, .inl rfl, g3, g4, g5⟩
      simp only [builtin, List.map_toArray, List.map_cons, List.map_nil, Sem.run_bind]
      rw [g1, hyv]
      rw [g2]
      rfl
    · cases hs
  · cases hs

end
end Go.Proofs.Ytdkdifjjpbfohaa.Fw
