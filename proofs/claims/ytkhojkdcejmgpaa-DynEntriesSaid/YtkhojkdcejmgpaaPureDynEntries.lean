/- The entries of any bytes up to the one that ends them, or that none does, are the document's: for all bytes. -/
import Derived.Test.YtkhojkdcejmgpaaLeGet
import Derived.Test.YtkhojkdcejmgpaaPDynEntriesx3
namespace Go.Proofs.Ytkhojkdcejmgpaa.Pure
open Go.RowKit Go.Proofs.Ytkhojkdcejmgpaa.LeGet Go.Proofs.Ytkhojkdcejmgpaa.PDynEntries Go.Proofs.YtkhojkdcejmgpaaW.PrintWords Go.Proofs.YtkhojkdcejmgpaaW.PrintLast Go.Proofs.YtkhojkdcejmgpaaW.PrintMore

theorem pow_small (n : Nat) (h : n ≤ 8) : 256 ^ n ≤ 256 ^ 8 := Nat.pow_le_pow_right (by decide) h

theorem get_l (l : List Int) (hb : Bytes l) (a n : Nat) (hn : n ≤ 8) (hl : a + n ≤ l.length) (hs : l.length ≤ 140737488355328) (d : Nat) : ∀ (k : Nat), d ≤ n → d < k →
    le_get.l0 k l a (gval l (a + d) (n - d)) ((a : Int) + d - 1) = some ((gval l a n : Int), 0) := by
  induction d with
  | zero =>
    intro k _ hk
    obtain ⟨k, rfl⟩ : ∃ m, k = m + 1 := ⟨k - 1, by omega⟩
    have hw : wrap64 (a : Int) = a := by unfold wrap64; omega
    simp only [le_get.l0]
    rw [hw, if_neg (by omega)]
    rfl
  | succ d ih =>
    intro k hd hk
    obtain ⟨k, rfl⟩ : ∃ m, k = m + 1 := ⟨k - 1, by omega⟩
    have hw : wrap64 (a : Int) = a := by unfold wrap64; omega
    have e0 : (a : Int) + ((d + 1 : Nat) : Int) - 1 = ((a + d : Nat) : Int) := by omega
    have hg : gval l (a + (d + 1)) (n - (d + 1)) < 256 ^ (n - (d + 1)) := gval_lt l hb _ _
    have hp : 256 ^ (n - (d + 1)) ≤ 256 ^ 7 := Nat.pow_le_pow_right (by decide) (by omega)
    have e7 : (256 : Nat) ^ 7 = 72057594037927936 := by decide
    simp only [le_get.l0]
    rw [hw, e0, if_pos (by omega), if_pos (by omega), if_pos (by omega)]
    have hr := hb (a + d)
    have er : rd l ((a + d : Nat) : Int) = l.getD (a + d) 0 := by unfold rd; rw [Int.toNat_natCast]
    rw [er, or_low _ _ (by omega) (by omega) hr.1 hr.2]
    have e1 : (gval l (a + (d + 1)) (n - (d + 1)) : Int) * 256 + l.getD (a + d) 0 = ((gval l (a + d) (n - d) : Nat) : Int) := by
      have : n - d = (n - (d + 1)) + 1 := by omega
      rw [this]
      simp only [gval]
      have e2 : a + d + 1 = a + (d + 1) := by omega
      rw [e2]
      omega
    have e2 : wrap64 (((a + d : Nat) : Int) - 1) = (a : Int) + d - 1 := by unfold wrap64; omega
    rw [e1, e2]
    exact ih k (by omega) (by omega)

/-- What a number of n bytes at a place is, or that it isn't there. -/
def got (l : List Int) (a n : Nat) : Int × Int := if a + n ≤ l.length then ((gval l a n : Int), 0) else (0, 20)

theorem get_f (l : List Int) (hb : Bytes l) (a n : Nat) (hn : 0 < n) (hn8 : n ≤ 8) (ha : a < 9223372036854775808) (hs : l.length ≤ 140737488355328) (k : Nat) (hk : 9 ≤ k) :
    le_get.f k l a n = some (got l a n) := by
  unfold le_get.f num_Inside.f num_Sub.f got
  have e1 : IntKind.u64.wrap (l.length : Int) = l.length := by rw [IntKind.wrap_u64]; omega
  have e2 : IntKind.u64.wrap ((a : Int) - 0) = a := by rw [IntKind.wrap_u64]; omega
  rw [if_neg (by omega), e1, e2, Option.bind_some, if_pos rfl]
  by_cases h1 : a ≤ l.length
  · rw [if_pos (by omega)]
    have e3 : IntKind.u64.wrap ((l.length : Int) - a) = ((l.length - a : Nat) : Int) := by rw [IntKind.wrap_u64]; omega
    simp only [e3, Option.bind_some, decide_eq_true_eq]
    by_cases h2 : a + n ≤ l.length
    · rw [if_pos (by omega), if_pos h2]
      have e4 : wrap64 (IntKind.u64.wrap (IntKind.u64.wrap ((a : Int) + n) - 1)) = (a : Int) + n - 1 := by
        rw [IntKind.wrap_u64, IntKind.wrap_u64]; unfold wrap64; omega
      rw [e4]
      have := get_l l hb a n hn8 h2 hs n k (Nat.le_refl _) (by omega)
      rwa [Nat.sub_self] at this
    · rw [if_neg (by omega), if_neg h2]
  · rw [if_neg (by omega), Option.bind_some, if_neg (by simp), if_neg (by omega)]

theorem ref_get_l (l : List Int) (hb : Bytes l) (a n : Nat) (hn8 : n ≤ 8) (hl : a + n ≤ l.length) (hs : l.length ≤ 140737488355328) (d : Nat) : ∀ (k j : Nat), j + d = n → d < k →
    messuageref02_Get.l0 k l a n (gval l a j) (if j = 8 then 0 else ((256 ^ j : Nat) : Int)) j = some ((gval l a n : Int), 0) := by
  induction d with
  | zero =>
    intro k j hj hk
    obtain ⟨k, rfl⟩ : ∃ m, k = m + 1 := ⟨k - 1, by omega⟩
    have : j = n := by omega
    subst this
    simp only [messuageref02_Get.l0]
    rw [if_neg (by omega)]
  | succ d ih =>
    intro k j hj hk
    obtain ⟨k, rfl⟩ : ∃ m, k = m + 1 := ⟨k - 1, by omega⟩
    have hw : wrap64 (wrap64 (a : Int) + j) = ((a + j : Nat) : Int) := by unfold wrap64; omega
    have hr := hb (a + j)
    have er : rd l ((a + j : Nat) : Int) = l.getD (a + j) 0 := by unfold rd; rw [Int.toNat_natCast]
    simp only [messuageref02_Get.l0]
    rw [hw, if_pos (by omega), if_pos (by omega), if_pos (by omega), er, if_neg (show ¬ j = 8 by omega)]
    have hp : 256 ^ j ≤ 256 ^ 7 := Nat.pow_le_pow_right (by decide) (by omega)
    have e7 : (256 : Nat) ^ 7 = 72057594037927936 := by decide
    have hg : gval l a j < 256 ^ j := gval_lt l hb _ _
    have hs1 : gval l a (j + 1) = gval l a j + 256 ^ j * (l.getD (a + j) 0).toNat := by
      rw [gval_step l a j (j + 1) (by omega)]
      have : j + 1 - j = 1 := by omega
      rw [this]
      simp [gval]
    have hbd : gval l a (j + 1) < 256 ^ (j + 1) := gval_lt l hb _ _
    have hp8 : 256 ^ (j + 1) ≤ 256 ^ 8 := Nat.pow_le_pow_right (by decide) (by omega)
    have e8 : (256 : Nat) ^ 8 = 18446744073709551616 := by decide
    have em : (l.getD (a + j) 0) * ((256 ^ j : Nat) : Int) = ((256 ^ j * (l.getD (a + j) 0).toNat : Nat) : Int) := by
      obtain ⟨b, hbb⟩ := Int.eq_ofNat_of_zero_le hr.1
      rw [hbb, Int.toNat_natCast, Nat.mul_comm]
      exact (Int.natCast_mul ..).symm
    have e1 : IntKind.u64.wrap ((gval l a j : Int) + IntKind.u64.wrap (IntKind.u64.wrap (l.getD (a + j) 0) * ((256 ^ j : Nat) : Int))) = ((gval l a (j + 1) : Nat) : Int) := by
      have e0 : IntKind.u64.wrap (l.getD (a + j) 0) = l.getD (a + j) 0 := by rw [IntKind.wrap_u64]; omega
      rw [e0, em, IntKind.wrap_u64, IntKind.wrap_u64]
      omega
    have e2 : IntKind.u64.wrap (((256 ^ j : Nat) : Int) * 256) = (if j + 1 = 8 then 0 else ((256 ^ (j + 1) : Nat) : Int)) := by
      rw [IntKind.wrap_u64]
      by_cases h : j + 1 = 8
      · rw [if_pos h]
        have : j = 7 := by omega
        subst this
        decide
      · rw [if_neg h]
        have hp6 : 256 ^ j ≤ 256 ^ 6 := Nat.pow_le_pow_right (by decide) (by omega)
        have e6 : (256 : Nat) ^ 6 = 281474976710656 := by decide
        rw [Nat.pow_succ]
        omega
    have e3 : wrap64 ((j : Int) + 1) = ((j + 1 : Nat) : Int) := by unfold wrap64; omega
    rw [e1, e2, e3]
    exact ih k (j + 1) (by omega) (by omega)

theorem ref_get_f (l : List Int) (hb : Bytes l) (a n : Nat) (hn : 0 < n) (hn8 : n ≤ 8) (ha : a < 9223372036854775808) (hs : l.length ≤ 140737488355328) (k : Nat) (hk : 10 ≤ k) :
    messuageref02_Get.f k l a n = some (got l a n) := by
  unfold messuageref02_Get.f got
  obtain ⟨k, rfl⟩ : ∃ m, k = m + 1 := ⟨k - 1, by omega⟩
  have e1 : IntKind.u64.wrap (l.length : Int) = l.length := by rw [IntKind.wrap_u64]; omega
  rw [e1]
  by_cases h1 : (a : Int) > l.length
  · rw [if_pos h1, if_neg (by omega)]; simp [messuageref02_Get.j0]
  · have e2 : wrap64 ((l.length : Int) - wrap64 (a : Int)) = ((l.length - a : Nat) : Int) := by unfold wrap64; omega
    rw [if_neg h1, e2]
    by_cases h2 : a + n ≤ l.length
    · rw [if_pos h2, decide_eq_false (by omega)]
      simp only [messuageref02_Get.j0, Bool.false_eq_true, if_false]
      exact ref_get_l l hb a n hn8 h2 hs n k 0 (by omega) (by omega)
    · rw [if_neg h2, decide_eq_true (by omega)]; simp [messuageref02_Get.j0]

/-- What the entries are, so many being left to look at, these being found. -/
def ents (l : List Int) : Nat → Nat → List (Int × Int) → List (Int × Int) × Int
  | 0, _, _ => ([], 90)
  | d + 1, i, out =>
    if (got l (i * 16) 8).2 ≠ 0 ∨ (got l (i * 16 + 8) 8).2 ≠ 0 then ([], 90)
    else if (got l (i * 16) 8).1 = 0 then (out, 0)
    else ents l d (i + 1) (out ++ [((got l (i * 16) 8).1, (got l (i * 16 + 8) 8).1)])

def m32 (l : List (Int × Int)) : List S32 := l.map fun x => ⟨x.1, x.2⟩
def m33 (l : List (Int × Int)) : List S33 := l.map fun x => ⟨x.1, x.2⟩

theorem ent_l (l : List Int) (hb : Bytes l) (hs : l.length ≤ 140737488355328) (d : Nat) : ∀ (k i : Nat) (out : List (Int × Int)), i + d = 128 → 2 * d + 12 < k → out.length = i →
    dyn_Entries.l0 k l (m32 out) i = some (m32 (ents l d i out).1, (ents l d i out).2) := by
  induction d with
  | zero =>
    intro k i out hi hk _
    obtain ⟨k, rfl⟩ : ∃ m, k = m + 1 := ⟨k - 1, by omega⟩
    simp only [dyn_Entries.l0]
    rw [if_neg (by omega)]
    rfl
  | succ d ih =>
    intro k i out hi hk hlen
    obtain ⟨k, rfl⟩ : ∃ m, k = m + 2 := ⟨k - 2, by omega⟩
    simp only [dyn_Entries.l0]
    have e1 : IntKind.u64.wrap (IntKind.u64.wrap (i : Int) * 16) = ((i * 16 : Nat) : Int) := by rw [IntKind.wrap_u64, IntKind.wrap_u64]; omega
    have e2 : IntKind.u64.wrap (((i * 16 : Nat) : Int) + 8) = ((i * 16 + 8 : Nat) : Int) := by rw [IntKind.wrap_u64]; omega
    have e3 : wrap64 ((i : Int) + 1) = ((i + 1 : Nat) : Int) := by unfold wrap64; omega
    have g : ∀ a : Nat, a < 9223372036854775808 → le_U64.f (k + 1) l a = some (got l a 8) := fun a ha => by
      unfold le_U64.f
      have := get_f l hb a 8 (by decide) (by decide) ha hs (k + 1) (by omega)
      have e8 : ((8 : Nat) : Int) = 8 := rfl
      rw [e8] at this
      rw [this]; rfl
    rw [if_pos (by omega), e1, e2, g _ (by omega), g _ (by omega), Option.bind_some, Option.bind_some]
    simp only [ents]
    by_cases h1 : (got l (i * 16) 8).2 = 0
    · rw [if_pos h1]
      by_cases h2 : (got l (i * 16 + 8) 8).2 = 0
      · have hf : ((got l (i * 16 + 8) 8).2 != 0) = false := by simp [h2]
        rw [hf]
        simp only [dyn_Entries.j1, Bool.false_eq_true, if_false]
        rw [if_neg (show ¬ ((got l (i * 16) 8).2 ≠ 0 ∨ (got l (i * 16 + 8) 8).2 ≠ 0) by rw [h1, h2]; simp)]
        by_cases h3 : (got l (i * 16) 8).1 = 0
        · rw [if_pos h3, if_pos h3]
        · rw [if_neg h3, if_neg h3, if_pos (by simp [m32]; omega), e3]
          have := ih k (i + 1) (out ++ [((got l (i * 16) 8).1, (got l (i * 16 + 8) 8).1)]) (by omega) (by omega) (by simp [hlen])
          simpa [m32] using this
      · have hf : ((got l (i * 16 + 8) 8).2 != 0) = true := by simp [h2]
        rw [hf, if_pos (.inr h2)]
        simp [dyn_Entries.j1, m32]
    · rw [if_neg h1, if_pos (.inl h1)]
      simp [dyn_Entries.j1, m32]

theorem ref_ent_l (l : List Int) (hb : Bytes l) (hs : l.length ≤ 140737488355328) (d : Nat) : ∀ (k i : Nat) (out : List (Int × Int)), i + d = 128 → 2 * d + 12 < k → out.length = i →
    messuageref09_Entries.l0 k l (m33 out) i = some (m33 (ents l d i out).1, (ents l d i out).2) := by
  induction d with
  | zero =>
    intro k i out hi hk _
    obtain ⟨k, rfl⟩ : ∃ m, k = m + 1 := ⟨k - 1, by omega⟩
    simp only [messuageref09_Entries.l0]
    rw [if_neg (by omega)]
    rfl
  | succ d ih =>
    intro k i out hi hk hlen
    obtain ⟨k, rfl⟩ : ∃ m, k = m + 2 := ⟨k - 2, by omega⟩
    simp only [messuageref09_Entries.l0]
    have e1 : IntKind.u64.wrap ((i : Int) * 16) = ((i * 16 : Nat) : Int) := by rw [IntKind.wrap_u64]; omega
    have e2 : IntKind.u64.wrap (((i * 16 : Nat) : Int) + 8) = ((i * 16 + 8 : Nat) : Int) := by rw [IntKind.wrap_u64]; omega
    have e3 : IntKind.u64.wrap ((i : Int) + 1) = ((i + 1 : Nat) : Int) := by rw [IntKind.wrap_u64]; omega
    have g : ∀ a : Nat, a < 9223372036854775808 → messuageref02_Get.f (k + 1) l a 8 = some (got l a 8) := fun a ha =>
      ref_get_f l hb a 8 (by decide) (by decide) ha hs (k + 1) (by omega)
    rw [if_pos (by omega), e1, e2, g _ (by omega), g _ (by omega), Option.bind_some, Option.bind_some]
    simp only [ents]
    by_cases h1 : (got l (i * 16) 8).2 = 0
    · rw [if_pos h1]
      by_cases h2 : (got l (i * 16 + 8) 8).2 = 0
      · have hf : ((got l (i * 16 + 8) 8).2 != 0) = false := by simp [h2]
        rw [hf]
        simp only [messuageref09_Entries.j1, Bool.false_eq_true, if_false]
        rw [if_neg (show ¬ ((got l (i * 16) 8).2 ≠ 0 ∨ (got l (i * 16 + 8) 8).2 ≠ 0) by rw [h1, h2]; simp)]
        by_cases h3 : (got l (i * 16) 8).1 = 0
        · rw [if_pos h3, if_pos h3]
        · rw [if_neg h3, if_neg h3, if_pos (by simp [m33]; omega), e3]
          have := ih k (i + 1) (out ++ [((got l (i * 16) 8).1, (got l (i * 16 + 8) 8).1)]) (by omega) (by omega) (by simp [hlen])
          simpa [m33] using this
      · have hf : ((got l (i * 16 + 8) 8).2 != 0) = true := by simp [h2]
        rw [hf, if_pos (.inr h2)]
        simp [messuageref09_Entries.j1, m33]
    · rw [if_neg h1, if_pos (.inl h1)]
      simp [messuageref09_Entries.j1, m33]

theorem same_l (m : List (Int × Int)) (hm : m.length ≤ 200) (d : Nat) : ∀ (k i : Nat), i + d = m.length → d + 200 ≤ k →
    messuagelaw09_DynEntries.l0 k (m32 m) (m33 m) i = messuagelaw09_alive.f (k - d - 1) := by
  induction d with
  | zero =>
    intro k i hi hk
    obtain ⟨k, rfl⟩ : ∃ m, k = m + 1 := ⟨k - 1, by omega⟩
    simp only [messuagelaw09_DynEntries.l0]
    rw [if_neg (by simp [m32]; omega)]
    simp
  | succ d ih =>
    intro k i hi hk
    obtain ⟨k, rfl⟩ : ∃ m, k = m + 1 := ⟨k - 1, by omega⟩
    have e3 : wrap64 ((i : Int) + 1) = ((i + 1 : Nat) : Int) := by unfold wrap64; omega
    simp only [messuagelaw09_DynEntries.l0]
    have hi' : i < m.length := by omega
    have r1 : rd_T32 (m32 m) i = ⟨(m[i]).1, (m[i]).2⟩ := by
      unfold rd_T32 m32
      rw [Int.toNat_natCast, List.getD_eq_getElem?_getD, List.getElem?_map, List.getElem?_eq_getElem hi']
      rfl
    have r2 : rd_T33 (m33 m) i = ⟨(m[i]).1, (m[i]).2⟩ := by
      unfold rd_T33 m33
      rw [Int.toNat_natCast, List.getD_eq_getElem?_getD, List.getElem?_map, List.getElem?_eq_getElem hi']
      rfl
    rw [if_pos (by simp [m32]; omega), if_pos (by omega), if_pos (by simp [m33]; omega), r1, r2, if_pos rfl, if_pos rfl, e3, ih k (i + 1) (by omega) (by omega)]
    congr 1
    omega

theorem ents_len (l : List Int) : ∀ (d i : Nat) (out : List (Int × Int)), (ents l d i out).1.length ≤ out.length + d
  | 0, _, _ => by simp [ents]
  | d + 1, i, out => by
    simp only [ents]
    split
    · simp
    · split
      · simp
      · have := ents_len l d (i + 1) (out ++ [((got l (i * 16) 8).1, (got l (i * 16 + 8) 8).1)])
        simp at this; omega

theorem alive_mono (k : Nat) (h : 50 ≤ k) : messuagelaw09_alive.f k = some true := by
  have h50 : messuagelaw09_alive.f 50 = some true := by decide +kernel
  obtain ⟨d, rfl⟩ : ∃ d, k = 50 + d := ⟨k - 50, by omega⟩
  clear h
  induction d with
  | zero => exact h50
  | succ d ih => exact messuagelaw09_alive.mono _ _ ih

theorem DynEntries : messuagelaw09_DynEntries.Pure := by
  intro l _ hs hw
  have hb := bytes_of hw
  refine ⟨601, ?_⟩
  unfold messuagelaw09_DynEntries.f
  by_cases hbig : (l.length : Int) > 8192
  · rw [if_pos hbig]
  · rw [if_neg hbig]
    have e1 : dyn_Entries.f 601 l = some (m32 (ents l 128 0 []).1, (ents l 128 0 []).2) := ent_l l hb (by omega) 128 601 0 [] (by decide) (by decide) rfl
    have e2 : messuageref09_Entries.f 601 l = some (m33 (ents l 128 0 []).1, (ents l 128 0 []).2) := ref_ent_l l hb (by omega) 128 601 0 [] (by decide) (by decide) rfl
    have hlen := ents_len l 128 0 []
    rw [e1, e2]
    simp only [Option.bind_some, if_true]
    have hf : (((m32 (ents l 128 0 []).1).length : Int) != ((m33 (ents l 128 0 []).1).length : Int)) = false := by simp [m32, m33]
    rw [hf]
    simp only [messuagelaw09_DynEntries.j0, Bool.false_eq_true, if_false]
    simp only [List.length_nil] at hlen
    have := same_l (ents l 128 0 []).1 (by omega) (ents l 128 0 []).1.length 600 0 (by omega) (by omega)
    rw [show ((0 : Nat) : Int) = 0 from rfl] at this
    rw [this]
    exact alive_mono _ (by omega)

end Go.Proofs.Ytkhojkdcejmgpaa.Pure
