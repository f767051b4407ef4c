/- Lists of relocations: what is written is read, what is read is written. -/
import Derived.Test.YtleogcfmlpmbiaaRelsD
namespace Go.Proofs.Ytleogcfmlpmbiaa
open Go Fw
set_option linter.unusedSimpArgs false
set_option linter.unusedVariables false

theorem leN_leB' : ∀ (c n : Nat), leN (leB c n) = n % 256 ^ c
  | 0, n => by simp [leB, leN, Nat.mod_one]
  | c + 1, n => by
    rw [leB]
    show leN (leB c (n / 256)) * 256 + (UInt8.ofNat (n % 256)).toNat = _
    have hp : 256 ^ (c + 1) = 256 * 256 ^ c := by rw [Nat.pow_succ, Nat.mul_comm]
    rw [leN_leB' c (n / 256), UInt8.toNat_ofNat', hp, Nat.mod_mul]
    omega
theorem leB_leN : ∀ (l : List UInt8), leB l.length (leN l) = l
  | [] => rfl
  | x :: l => by
    show leB (l.length + 1) (leN l * 256 + x.toNat) = _
    have hx := x.toNat_lt
    have h1 : (leN l * 256 + x.toNat) % 256 = x.toNat := by omega
    have h2 : (leN l * 256 + x.toNat) / 256 = leN l := by omega
    rw [leB, h1, h2, leB_leN l]
    congr 1
    exact UInt8.ofNat_toNat
theorem leB_leN' {l : List UInt8} {k : Nat} (h : l.length = k) : leB k (leN l) = l := by subst h; exact leB_leN l
theorem u64_i64 {n : Nat} (h : n < 18446744073709551616) : IntKind.u64.wrap (IntKind.i64.wrap (n : Int)) = n := by
  unfold IntKind.wrap
  simp [IntKind.bits, IntKind.signed]
  omega
theorem i64_u64 {d : Int} (h : isI64r d) : IntKind.i64.wrap (((IntKind.u64.wrap d).toNat : Nat) : Int) = d := by
  unfold isI64r at h
  unfold IntKind.wrap
  simp [IntKind.bits, IntKind.signed]
  omega
theorem encR_dec (rela : Bool) (l : List UInt8) (a : Nat) (h : a + oneN rela ≤ l.length) : encR rela (decR rela l a) = (l.drop a).take (oneN rela) := by
  have h1 : ((l.drop a).take 8).length = 8 := by have : 16 ≤ oneN rela := by (unfold oneN; cases rela <;> decide)
                                                 rw [List.length_take, List.length_drop]; omega
  have h2 : ((l.drop (a + 8)).take 4).length = 4 := by have : 16 ≤ oneN rela := by (unfold oneN; cases rela <;> decide)
                                                       rw [List.length_take, List.length_drop]; omega
  have h3 : ((l.drop (a + 12)).take 4).length = 4 := by have : 16 ≤ oneN rela := by (unfold oneN; cases rela <;> decide)
                                                        rw [List.length_take, List.length_drop]; omega
  unfold encR decR
  have t1 : (l.drop a).take 16 = (l.drop a).take 8 ++ (l.drop (a + 8)).take 4 ++ (l.drop (a + 12)).take 4 := by
    rw [show (16 : Nat) = 8 + 4 + 4 from rfl, List.take_add, List.take_add, List.drop_drop, List.drop_drop]
  cases rela with
  | false =>
    simp only [Int.toNat_natCast, leB_leN' h1, leB_leN' h2, leB_leN' h3]
    rw [if_neg (by decide), List.append_nil]
    exact t1.symm
  | true =>
    have h4 : ((l.drop (a + 16)).take 8).length = 8 := by rw [List.length_take, List.length_drop]; have : oneN true = 24 := rfl; omega
    have hlt := leN_lt ((l.drop (a + 16)).take 8)
    rw [h4] at hlt
    simp only [Int.toNat_natCast, leB_leN' h1, leB_leN' h2, leB_leN' h3, if_true]
    rw [u64_i64 (by omega), Int.toNat_natCast, leB_leN' h4]
    show _ = (l.drop a).take 24
    rw [show (24 : Nat) = 16 + 8 from rfl, List.take_add, t1, List.drop_drop]
theorem flat_dec (rela : Bool) (l : List UInt8) : ∀ n, n * oneN rela ≤ l.length → (decN rela l n).flatMap (encR rela) = l.take (n * oneN rela)
  | 0, _ => by simp [decN]
  | n + 1, h => by
    rw [Nat.succ_mul] at h
    rw [decN, List.flatMap_append, flat_dec rela l n (by omega), List.flatMap_cons, List.flatMap_nil, List.append_nil, encR_dec rela l _ (by omega), Nat.succ_mul, List.take_add]
theorem decN_ok (rela : Bool) (l : List UInt8) : ∀ n, (decN rela l n).all (encOkR rela) = true
  | 0 => rfl
  | n + 1 => by
    rw [decN, List.all_append, decN_ok rela l n]
    cases rela <;> simp [encOkR, decR]
theorem okRel_dec (rela : Bool) (l : List UInt8) (a : Nat) : okRel (decR rela l a) := by
  unfold okRel decR
  have h1 := leN_take (l := l) (a := a) (k := 8) (by decide)
  have h2 := leN_take (l := l) (a := a + 8) (k := 4) (by decide)
  have h3 := leN_take (l := l) (a := a + 12) (k := 4) (by decide)
  have h4 := leN_take (l := l) (a := a + 16) (k := 8) (by decide)
  generalize leN ((l.drop a).take 8) = x at *
  generalize leN ((l.drop (a + 8)).take 4) = y at *
  generalize leN ((l.drop (a + 12)).take 4) = z at *
  generalize leN ((l.drop (a + 16)).take 8) = w at *
  refine ⟨⟨Int.natCast_nonneg _, ?_⟩, ⟨Int.natCast_nonneg _, ?_⟩, ⟨Int.natCast_nonneg _, ?_⟩, ?_⟩
  · show (x : Int) < _; omega
  · show (y : Int) < _; omega
  · show (z : Int) < _; omega
  show isI64r (if rela then _ else 0)
  unfold isI64r
  cases rela
  · simp
  · simp only [if_true]
    unfold IntKind.wrap
    simp [IntKind.bits, IntKind.signed]
    omega
theorem okRel_decN (rela : Bool) (l : List UInt8) : ∀ n, ∀ r ∈ decN rela l n, okRel r
  | 0 => fun r h => by cases h
  | n + 1 => fun r h => by
    rw [decN] at h
    rcases List.mem_append.1 h with h | h
    · exact okRel_decN rela l n r h
    · rw [List.mem_singleton] at h; subst h; exact okRel_dec rela l _
theorem okRel_decs (rela : Bool) (l : List UInt8) : ∀ r ∈ decs rela l, okRel r := by
  unfold decs
  split
  · exact okRel_decN rela l _
  · intro r h; cases h
/-- What is read is written as it was. -/
theorem enc_dec (rela : Bool) (l : List UInt8) (h : decOk rela l) : encOk rela (decs rela l) = true ∧ encB rela (decs rela l) = l := by
  have hmd := Nat.div_add_mod l.length (oneN rela)
  have hmul : oneN rela * (l.length / oneN rela) = l.length / oneN rela * oneN rela := Nat.mul_comm ..
  have ok : encOk rela (decs rela l) = true := by
    unfold encOk decs
    rw [if_pos h, decN_ok, decN_len, Bool.and_true]
    exact decide_eq_true h.2
  refine ⟨ok, ?_⟩
  unfold encB
  rw [ok, if_pos rfl]
  unfold decs
  rw [if_pos h, flat_dec _ _ _ (by have := h.1; omega)]
  have := h.1
  rw [show l.length / oneN rela * oneN rela = l.length by omega, List.take_length]
theorem dec_mid (rela : Bool) (p q : List UInt8) (r : S_api_Rel) (hr : okRel r) (he : encOkR rela r = true) : decR rela (p ++ encR rela r ++ q) p.length = r := by
  rcases r with ⟨a, b, c, d, e⟩
  obtain ⟨h1, h2, h3, h4⟩ := hr
  simp only [isU64] at h1 h2 h3 h4
  obtain ⟨aN, rfl⟩ : ∃ n : Nat, a = n := ⟨a.toNat, by omega⟩
  obtain ⟨bN, rfl⟩ : ∃ n : Nat, b = n := ⟨b.toNat, by omega⟩
  obtain ⟨cN, rfl⟩ : ∃ n : Nat, c = n := ⟨c.toNat, by omega⟩
  have gm : ∀ (x y z : List UInt8) (k n : Nat), y.length = k → n = x.length → ((x ++ y ++ z).drop n).take k = y := fun x y z k n hk hn => by
    subst hn hk
    rw [List.append_assoc, List.drop_left, List.take_left]
  unfold decR encR
  simp only [Int.toNat_natCast]
  generalize hX : (if rela = true then leB 8 (IntKind.u64.wrap d).toNat else []) = X
  have l1 : p ++ (leB 8 aN ++ leB 4 bN ++ leB 4 cN ++ X) ++ q = p ++ leB 8 aN ++ (leB 4 bN ++ leB 4 cN ++ X ++ q) := by simp only [List.append_assoc]
  have l2 : p ++ (leB 8 aN ++ leB 4 bN ++ leB 4 cN ++ X) ++ q = (p ++ leB 8 aN) ++ leB 4 bN ++ (leB 4 cN ++ X ++ q) := by simp only [List.append_assoc]
  have l3 : p ++ (leB 8 aN ++ leB 4 bN ++ leB 4 cN ++ X) ++ q = (p ++ leB 8 aN ++ leB 4 bN) ++ leB 4 cN ++ (X ++ q) := by simp only [List.append_assoc]
  have l4 : p ++ (leB 8 aN ++ leB 4 bN ++ leB 4 cN ++ X) ++ q = (p ++ leB 8 aN ++ leB 4 bN ++ leB 4 cN) ++ X ++ q := by simp only [List.append_assoc]
  have g1 := gm p (leB 8 aN) (leB 4 bN ++ leB 4 cN ++ X ++ q) 8 p.length (leB_len _ _) rfl
  have g2 := gm (p ++ leB 8 aN) (leB 4 bN) (leB 4 cN ++ X ++ q) 4 (p.length + 8) (leB_len _ _) (by rw [List.length_append, leB_len])
  have g3 := gm (p ++ leB 8 aN ++ leB 4 bN) (leB 4 cN) (X ++ q) 4 (p.length + 12) (leB_len _ _) (by simp only [List.length_append, leB_len])
  rw [← l1] at g1
  rw [← l2] at g2
  rw [← l3] at g3
  rw [g1, g2, g3, leN_leB', leN_leB', leN_leB', Nat.mod_eq_of_lt (by omega), Nat.mod_eq_of_lt (by omega), Nat.mod_eq_of_lt (by omega)]
  unfold encOkR at he
  cases rela with
  | false =>
    simp at he
    obtain ⟨rfl, rfl⟩ := he
    rfl
  | true =>
    simp at he
    subst he
    rw [if_pos rfl] at hX
    subst hX
    have g4 := gm (p ++ leB 8 aN ++ leB 4 bN ++ leB 4 cN) (leB 8 (IntKind.u64.wrap d).toNat) q 8 (p.length + 16) (leB_len _ _) (by simp only [List.length_append, leB_len])
    rw [← l4] at g4
    have hlt : (IntKind.u64.wrap d).toNat < 18446744073709551616 := by rw [wrap_u64]; omega
    rw [if_pos rfl, g4, leN_leB', Nat.mod_eq_of_lt (by omega), i64_u64 h4]
theorem decN_enc (rela : Bool) (l : List S_api_Rel) (hr : ∀ r ∈ l, okRel r) (he : l.all (encOkR rela) = true) : ∀ n, n ≤ l.length → decN rela (l.flatMap (encR rela)) n = l.take n
  | 0, _ => by simp [decN]
  | n + 1, h => by
    have hix : n < l.length := by omega
    rw [decN, decN_enc rela l hr he n (by omega), List.take_add_one, List.getElem?_eq_getElem hix]
    have hsplit : l = l.take n ++ l[n] :: l.drop (n + 1) := by rw [← List.drop_eq_getElem_cons hix, List.take_append_drop]
    have hfl : l.flatMap (encR rela) = (l.take n).flatMap (encR rela) ++ encR rela l[n] ++ (l.drop (n + 1)).flatMap (encR rela) := by
      conv => lhs; rw [hsplit]
      rw [List.flatMap_append, List.flatMap_cons, List.append_assoc]
    have hlen : ((l.take n).flatMap (encR rela)).length = n * oneN rela := by rw [flat_len, List.length_take, Nat.min_eq_left (by omega)]
    have hm := dec_mid rela ((l.take n).flatMap (encR rela)) ((l.drop (n + 1)).flatMap (encR rela)) l[n] (hr _ (List.getElem_mem hix)) (by rw [List.all_eq_true] at he; exact he _ (List.getElem_mem hix))
    rw [← hfl, hlen] at hm
    rw [hm]
    rfl
/-- What is written is read as it was. -/
theorem dec_enc (rela : Bool) (l : List S_api_Rel) (hr : ∀ r ∈ l, okRel r) (he : encOk rela l = true) : decs rela (encB rela l) = l ∧ decC rela (encB rela l) = 0 := by
  have h16 : 0 < oneN rela := by unfold oneN; cases rela <;> decide
  unfold encB
  rw [if_pos he]
  unfold encOk at he
  rw [Bool.and_eq_true, decide_eq_true_eq] at he
  have hlen := flat_len rela l
  have ok : decOk rela (l.flatMap (encR rela)) := ⟨by rw [hlen]; exact Nat.mul_mod_left .., by rw [hlen, Nat.mul_div_cancel _ h16]; exact he.1⟩
  unfold decs decC
  rw [if_pos ok, if_pos ok, hlen, Nat.mul_div_cancel _ h16, decN_enc rela l hr he.2 _ (Nat.le_refl _), List.take_length]
  exact ⟨rfl, rfl⟩
theorem decR_left (rela : Bool) (a b : List UInt8) (p : Nat) (h : p + oneN rela ≤ a.length) : decR rela (a ++ b) p = decR rela a p := by
  have key : ∀ i k, i + k ≤ a.length → ((a ++ b).drop i).take k = (a.drop i).take k := fun i k hk => by
    rw [List.drop_append_of_le_length (by omega), List.take_append_of_le_length (by rw [List.length_drop]; omega)]
  have h16 : 16 ≤ oneN rela := by unfold oneN; cases rela <;> decide
  unfold decR
  rw [key p 8 (by omega), key (p + 8) 4 (by omega), key (p + 12) 4 (by omega)]
  cases rela with
  | false => rw [if_neg (by decide), if_neg (by decide)]
  | true =>
    have : oneN true = 24 := rfl
    rw [key (p + 16) 8 (by omega)]
theorem decR_right (rela : Bool) (a b : List UInt8) (p : Nat) : decR rela (a ++ b) (a.length + p) = decR rela b p := by
  have key : ∀ i, (a ++ b).drop (a.length + i) = b.drop i := fun i => List.drop_length_add_append ..
  unfold decR
  rw [Nat.add_assoc, Nat.add_assoc, Nat.add_assoc, key, key, key, key]
theorem decN_left (rela : Bool) (a b : List UInt8) : ∀ n, n * oneN rela ≤ a.length → decN rela (a ++ b) n = decN rela a n
  | 0, _ => rfl
  | n + 1, h => by
    rw [Nat.succ_mul] at h
    rw [decN, decN, decN_left rela a b n (by omega), decR_left rela a b _ (by omega)]
theorem decN_join (rela : Bool) (a b : List UInt8) (n : Nat) (hn : a.length = n * oneN rela) : ∀ m, decN rela (a ++ b) (n + m) = decN rela a n ++ decN rela b m
  | 0 => by rw [Nat.add_zero, decN_left rela a b n (by omega)]; simp [decN]
  | m + 1 => by
    rw [← Nat.add_assoc, decN, decN_join rela a b n hn m, Nat.add_mul, ← hn, decR_right, decN, List.append_assoc]
end Go.Proofs.Ytleogcfmlpmbiaa
