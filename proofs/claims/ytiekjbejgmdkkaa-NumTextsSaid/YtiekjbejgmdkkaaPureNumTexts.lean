/- Each count is written in decimal digits, and read back if it is below 2^31; other texts are refused: for every int and every string. -/
import Derived.Test.YtiekjbejgmdkkaaDec
import Derived.Test.YtiekjbejgmdkkaaPNumTextsx3
namespace Go.Proofs.Ytiekjbejgmdkkaa.Pure
open Go.RowKit Go.Proofs.Ytiekjbejgmdkkaa.PNumTexts Go.Proofs.Ytiekjbejgmdkkaa.Dec Go.Proofs.YtiekjbejgmdkkaaW.PrintWords Go.Proofs.YtiekjbejgmdkkaaW.PrintLast Go.Proofs.YtiekjbejgmdkkaaW.PrintMore

/-- Bytes of a list. -/
def ba (l : List UInt8) : ByteArray := ⟨l.toArray⟩
theorem ba_size (l : List UInt8) : (ba l).size = l.length := by simp [ba, ByteArray.size]
theorem ba_list (l : List UInt8) : (ba l).toList = l := by rw [ByteArray.toList_eq]; simp [ba]
theorem ba_of (s : ByteArray) : s = ba s.data.toList := by simp [ba]
theorem ba_app (l r : List UInt8) : ba l ++ ba r = ba (l ++ r) := by
  have : (ba l ++ ba r).data = (ba (l ++ r)).data := by rw [ByteArray.data_append]; simp [ba]
  exact ByteArray.ext this
theorem digit_ba (n : Nat) (h : (n : Int) ≤ 9223372036854775807) : strOfNums ([(wrap64 (48 + (Int.tmod (n : Int) 10))) % 256] : List Int) = ba [UInt8.ofNat (48 + n % 10)] := by
  have : (wrap64 (48 + (Int.tmod (n : Int) 10))) % 256 = ((48 + n % 10 : Nat) : Int) := by
    rw [Int.tmod_eq_emod_of_nonneg (by omega)]
    unfold wrap64
    omega
  rw [this]
  simp only [strOfNums, ba, List.map_cons, List.map_nil, Int.toNat_natCast]

theorem step_div (n : Nat) (h : (n : Int) ≤ 9223372036854775807) : wrap64 (Int.tdiv (n : Int) 10) = ((n / 10 : Nat) : Int) := by
  rw [Int.tdiv_eq_ediv_of_nonneg (by omega)]
  unfold wrap64
  omega

/-- The program's loop, some digits being written already. -/
theorem text_l (d : Nat) : ∀ (k n : Nat) (acc : List UInt8), (n : Int) ≤ 9223372036854775807 → n < 10 ^ d → acc ≠ [] → acc.length + d ≤ 1000 → d < k →
    num_Text.l0 k n (ba acc) = some (ba (dec n acc)) := by
  induction d with
  | zero =>
    intro k n acc hn hd hne hl hk
    obtain ⟨k, rfl⟩ : ∃ m, k = m + 1 := ⟨k - 1, by omega⟩
    have : n = 0 := by simpa using hd
    subst this
    simp only [num_Text.l0]
    rw [if_neg (by decide), ba_list, if_neg hne, dec_zero]
  | succ d ih =>
    intro k n acc hn hd hne hl hk
    obtain ⟨k, rfl⟩ : ∃ m, k = m + 1 := ⟨k - 1, by omega⟩
    simp only [num_Text.l0]
    by_cases h : n = 0
    · subst h
      rw [if_neg (by decide), ba_list, if_neg hne, dec_zero]
    · rw [if_pos (by omega), Option.bind_some, digit_ba n hn, ba_size, ba_size, if_pos (by simp; omega), step_div n hn, ba_app]
      rw [ih k (n / 10) _ (by omega) (by rw [Nat.pow_succ] at hd; omega) (by simp) (by simp; omega) (by omega)]
      rw [dec_pos n acc (by omega)]
      rfl

theorem text_f (x : Int) (h : x ≤ 9223372036854775807) (k : Nat) (hk : 30 ≤ k) : num_Text.f k x = some (ba (text x.toNat)) := by
  unfold num_Text.f
  obtain ⟨k, rfl⟩ : ∃ m, k = m + 1 := ⟨k - 1, by omega⟩
  have hm : mx x 0 = ((x.toNat : Nat) : Int) := by unfold mx; omega
  obtain ⟨n, hn⟩ : ∃ n, x.toNat = n := ⟨_, rfl⟩
  rw [hm, hn]
  have hb : (n : Int) ≤ 9223372036854775807 := by omega
  have hd : n < 10 ^ 19 := by have e : (10 : Nat) ^ 19 = 10000000000000000000 := by decide
                              omega
  have e0 : (⟨#[]⟩ : ByteArray) = ba [] := rfl
  rw [e0]
  simp only [num_Text.l0]
  unfold text
  by_cases h0 : n = 0
  · subst h0
    rw [if_neg (by decide), ba_list, if_pos rfl, Option.bind_some, digit_ba 0 (by decide), ba_size, ba_size, if_pos (by decide), step_div 0 (by decide), ba_app]
    rw [text_l 0 k _ _ (by decide) (by decide) (by simp) (by simp) (by omega)]
    rw [if_pos rfl, dec_zero]
    rfl
  · rw [if_pos (by omega), Option.bind_some, digit_ba n hb, ba_size, ba_size, if_pos (by simp), step_div n hb, ba_app]
    rw [text_l 19 k _ _ (by omega) (by omega) (by simp) (by simp) (by omega)]
    rw [if_neg h0, dec_pos n [] (by omega)]
    rfl

/-- The document's loop. -/
theorem ref_text_l (d : Nat) : ∀ (k n : Nat) (acc : List UInt8), (n : Int) ≤ 9223372036854775807 → n < 10 ^ d → acc.length + d ≤ 1000 → d < k →
    messuageref01_Text.l0 k n (ba acc) = some (ba (dec n acc)) := by
  induction d with
  | zero =>
    intro k n acc hn hd hl hk
    obtain ⟨k, rfl⟩ : ∃ m, k = m + 1 := ⟨k - 1, by omega⟩
    have : n = 0 := by simpa using hd
    subst this
    simp only [messuageref01_Text.l0]
    rw [if_neg (by decide), dec_zero]
  | succ d ih =>
    intro k n acc hn hd hl hk
    obtain ⟨k, rfl⟩ : ∃ m, k = m + 1 := ⟨k - 1, by omega⟩
    simp only [messuageref01_Text.l0]
    by_cases h : n = 0
    · subst h
      rw [if_neg (by decide), dec_zero]
    · rw [if_pos (by omega), Option.bind_some, digit_ba n hn, ba_size, ba_size, if_pos (by simp; omega), step_div n hn, ba_app]
      rw [ih k (n / 10) _ (by omega) (by rw [Nat.pow_succ] at hd; omega) (by simp; omega) (by omega)]
      rw [dec_pos n acc (by omega)]
      rfl

theorem ref_text_f (x : Int) (h : x ≤ 9223372036854775807) (k : Nat) (hk : 30 ≤ k) : messuageref01_Text.f k x = some (ba (text x.toNat)) := by
  unfold messuageref01_Text.f text
  by_cases h0 : x ≤ 0
  · rw [if_pos h0, if_pos (by omega)]
    rfl
  · obtain ⟨n, rfl⟩ := Int.eq_ofNat_of_zero_le (show 0 ≤ x by omega)
    rw [if_neg h0, Int.toNat_natCast, if_neg (by omega)]
    have e0 : (⟨#[]⟩ : ByteArray) = ba [] := rfl
    rw [e0]
    exact ref_text_l 19 k n [] h (by have e : (10 : Nat) ^ 19 = 10000000000000000000 := by decide
                                     omega) (by simp) (by omega)

theorem bt_ba (l : List UInt8) (i : Nat) (h : i < l.length) : bt (ba l) i = ((l[i]'h).toNat : Int) := by
  have := bt_at (ba l) i (by rw [ba_size]; omega)
  rw [← this]
  rfl

theorem take_next (l : List UInt8) (i : Nat) (h : i < l.length) : l.take (i + 1) = l.take i ++ [l[i]] := by
  rw [List.take_succ_eq_append_getElem h]

/-- What a row of digits says, or that it is none. -/
def said (l : List UInt8) : Int × Int := if l.all dig = true ∧ val l < 2147483648 then ((val l : Int), 0) else (0, 12)
/-- What the program reads. -/
def read (l : List UInt8) : Int × Int := if l = [] ∨ 10 < l.length ∨ (l.head? = some 48 ∧ 1 < l.length) then (0, 12) else said l

theorem all_at (l : List UInt8) (i : Nat) (h : i < l.length) (hd : (l.take i).all dig = true) (hc : dig l[i] = true) : (l.take (i + 1)).all dig = true := by
  rw [take_next l i h, List.all_append, hd, List.all_cons, hc]; rfl
theorem not_all (l : List UInt8) (i : Nat) (h : i < l.length) (hc : dig l[i] = false) : l.all dig = false := by
  cases e : l.all dig with
  | false => rfl
  | true => rw [List.all_eq_true.1 e _ (List.getElem_mem h)] at hc; cases hc

theorem ten (l : List UInt8) (i : Nat) (hl : l.length ≤ 10) (hd : (l.take i).all dig = true) : val (l.take i) < 10000000000 := by
  have h := val_lt _ hd
  have h1 : 10 ^ (l.take i).length ≤ 10 ^ 10 := Nat.pow_le_pow_right (by decide) (by rw [List.length_take]; omega)
  have e : (10 : Nat) ^ 10 = 10000000000 := by decide
  omega

theorem next_val (v c : Nat) (hv : v < 10000000000) (h1 : 48 ≤ c) (h2 : c ≤ 57) : wrap64 (wrap64 ((v : Int) * 10) + ((c : Int) - 48) % 256) = ((v * 10 + (c - 48) : Nat) : Int) := by
  unfold wrap64; omega
theorem next_val' (v c : Nat) (hv : v < 10000000000) (h1 : 48 ≤ c) (h2 : c ≤ 57) : wrap64 (wrap64 (wrap64 ((v : Int) * 10) + wrap64 (c : Int)) - 48) = ((v * 10 + (c - 48) : Nat) : Int) := by
  unfold wrap64; omega
theorem next_i (i : Nat) (h : i < 5000) : wrap64 ((i : Int) + 1) = ((i + 1 : Nat) : Int) := by unfold wrap64; omega

theorem parse_l (l : List UInt8) (hl : l.length ≤ 10) (d : Nat) : ∀ (k i : Nat), i + d = l.length → d < k → (l.take i).all dig = true →
    num_Parse.l0 k (ba l) (val (l.take i)) l.length i = some (said l) := by
  induction d with
  | zero =>
    intro k i hi hk hd
    obtain ⟨k, rfl⟩ : ∃ m, k = m + 1 := ⟨k - 1, by omega⟩
    have e : l.take i = l := List.take_of_length_le (by omega)
    rw [e] at hd ⊢
    simp only [num_Parse.l0]
    rw [if_neg (by omega)]
    unfold said
    by_cases h : val l < 2147483648
    · rw [if_neg (by omega), if_pos ⟨hd, h⟩]
    · rw [if_pos (by omega), if_neg (fun c => h c.2)]
  | succ d ih =>
    intro k i hi hk hd
    obtain ⟨k, rfl⟩ : ∃ m, k = m + 1 := ⟨k - 1, by omega⟩
    have hlt : i < l.length := by omega
    simp only [num_Parse.l0]
    rw [if_pos (by omega), if_pos (by omega), ba_size, if_pos (by omega), bt_ba l i hlt]
    cases hc : dig l[i] with
    | true =>
      have hc' := hc
      simp only [dig, Bool.and_eq_true, decide_eq_true_eq] at hc'
      have hv := ten l i hl hd
      rw [if_neg (by omega), if_neg (by omega), next_val _ _ hv hc'.1 hc'.2, next_i i (by omega), ← val_snoc, ← take_next l i hlt]
      exact ih k (i + 1) (by omega) (by omega) (all_at l i hlt hd hc)
    | false =>
      have hn := not_all l i hlt hc
      have : said l = (0, 12) := by unfold said; rw [hn]; simp
      rw [this]
      simp only [dig, Bool.and_eq_false_iff, decide_eq_false_iff_not] at hc
      rcases hc with hc | hc
      · rw [if_pos (by omega)]
      · by_cases h48 : ((l[i].toNat : Int) < 48)
        · rw [if_pos h48]
        · rw [if_neg h48, if_pos (by omega)]

theorem parse_f (l : List UInt8) (k : Nat) (hk : 15 ≤ k) : num_Parse.f k (ba l) = some (read l) := by
  unfold num_Parse.f read
  obtain ⟨k, rfl⟩ : ∃ m, k = m + 1 := ⟨k - 1, by omega⟩
  rw [ba_list, ba_size]
  by_cases h0 : l = []
  · rw [if_pos h0, if_pos (.inl h0)]; simp [num_Parse.j0]
  · have hp := List.length_pos_iff.2 h0
    rw [if_neg h0]
    by_cases h1 : 10 < l.length
    · rw [if_pos (by omega), if_pos (.inr (.inl h1))]; simp [num_Parse.j0]
    · rw [if_neg (by omega), if_pos (by omega)]
      have hb : bt (ba l) 0 = ((l[0]'hp).toNat : Int) := bt_ba l 0 hp
      have hh : l.head? = some (l[0]'hp) := by cases l with
        | nil => exact absurd rfl h0
        | cons a t => rfl
      have go : num_Parse.l0 k (ba l) 0 l.length 0 = some (said l) := by
        have := parse_l l (by omega) l.length k 0 (by omega) (by omega) (by simp)
        simpa [val_nil] using this
      rw [hb]
      by_cases h2 : (l[0]'hp).toNat = 48
      · rw [if_pos (by omega)]
        have h48 : l[0]'hp = 48 := UInt8.toNat_inj.1 h2
        by_cases h3 : 1 < l.length
        · rw [if_pos (.inr (.inr ⟨by rw [hh, h48], h3⟩))]
          have : decide ((l.length : Int) > 1) = true := decide_eq_true (by omega)
          rw [this]; simp [num_Parse.j0]
        · rw [if_neg (by rintro (h | h | h); exact h0 h; exact h1 h; exact h3 h.2)]
          have : decide ((l.length : Int) > 1) = false := decide_eq_false (by omega)
          rw [this]
          simpa [num_Parse.j0, ba_size] using go
      · rw [if_neg (by omega), if_neg (by
          rintro (h | h | h)
          · exact h0 h
          · exact h1 h
          · apply h2
            have := h.1
            rw [hh] at this
            rw [Option.some.inj this]; rfl)]
        simpa [num_Parse.j0, ba_size] using go

theorem ref_parse_l (l : List UInt8) (hl : l.length ≤ 10) (hn : l ≠ []) (d : Nat) : ∀ (k i : Nat), i + d = l.length → d + 31 < k → (l.take i).all dig = true →
    messuageref01_Parse.l0 k (ba l) (val (l.take i)) i = some (read l) := by
  induction d with
  | zero =>
    intro k i hi hk hd
    obtain ⟨k, rfl⟩ : ∃ m, k = m + 1 := ⟨k - 1, by omega⟩
    have hv := ten l i hl hd
    have e : l.take i = l := List.take_of_length_le (by omega)
    rw [e] at hd hv ⊢
    simp only [messuageref01_Parse.l0]
    rw [ba_size, if_neg (by omega)]
    have ht := text_val l hd hn
    unfold read said
    by_cases h : val l < 2147483648
    · rw [if_neg (by omega), ref_text_f _ (by omega) k (by omega), Option.bind_some, ba_list, ba_list, Int.toNat_natCast]
      by_cases hx : l.head? = some 48 ∧ 1 < l.length
      · rw [if_neg (fun c => ht.1 c hx), if_pos (.inr (.inr hx))]
      · rw [if_pos (ht.2 hx), if_neg (by rintro (c | c | c); exact hn c; omega; exact hx c), if_pos ⟨hd, h⟩]
    · rw [if_pos (by omega)]
      split
      · rfl
      · rw [if_neg (fun c => h c.2)]
  | succ d ih =>
    intro k i hi hk hd
    obtain ⟨k, rfl⟩ : ∃ m, k = m + 1 := ⟨k - 1, by omega⟩
    have hlt : i < l.length := by omega
    simp only [messuageref01_Parse.l0]
    rw [ba_size, if_pos (by omega), if_pos (by omega), bt_ba l i hlt]
    cases hc : dig l[i] with
    | true =>
      have hc' := hc
      simp only [dig, Bool.and_eq_true, decide_eq_true_eq] at hc'
      have hv := ten l i hl hd
      rw [if_neg (by omega), if_neg (by omega), next_val' _ _ hv hc'.1 hc'.2, next_i i (by omega), ← val_snoc, ← take_next l i hlt]
      exact ih k (i + 1) (by omega) (by omega) (all_at l i hlt hd hc)
    | false =>
      have hn := not_all l i hlt hc
      have : read l = (0, 12) := by unfold read said; rw [hn]; simp
      rw [this]
      simp only [dig, Bool.and_eq_false_iff, decide_eq_false_iff_not] at hc
      rcases hc with hc | hc
      · rw [if_pos (by omega)]
      · by_cases h48 : ((l[i].toNat : Int) < 48)
        · rw [if_pos h48]
        · rw [if_neg h48, if_pos (by omega)]

theorem ref_parse_f (l : List UInt8) (k : Nat) (hk : 60 ≤ k) : messuageref01_Parse.f k (ba l) = some (read l) := by
  unfold messuageref01_Parse.f
  obtain ⟨k, rfl⟩ : ∃ m, k = m + 1 := ⟨k - 1, by omega⟩
  rw [ba_size]
  by_cases h0 : l = []
  · subst h0
    rw [if_pos (by decide)]; simp [messuageref01_Parse.j0, read]
  · have hp := List.length_pos_iff.2 h0
    rw [if_neg (by omega)]
    by_cases h1 : 10 < l.length
    · have : decide ((l.length : Int) > 10) = true := decide_eq_true (by omega)
      rw [this]
      unfold read
      rw [if_pos (.inr (.inl h1))]; simp [messuageref01_Parse.j0]
    · have : decide ((l.length : Int) > 10) = false := decide_eq_false (by omega)
      rw [this]
      have := ref_parse_l l (by omega) h0 l.length k 0 (by omega) (by omega) (by simp)
      simpa [messuageref01_Parse.j0, val_nil] using this

theorem read_text (n : Nat) (h : n < 2147483648) : read (text n) = ((n : Int), 0) := by
  obtain ⟨h1, h2⟩ := len_text 10 n (by decide) (by have e : (10 : Nat) ^ 10 = 10000000000 := by decide
                                                   omega)
  unfold read said
  rw [if_neg (by
    rintro (c | c | c)
    · rw [c] at h2; exact absurd h2 (by simp)
    · omega
    · have := head_text n c.1; omega), val_text, if_pos ⟨dig_text n, h⟩]

theorem text_read (l : List UInt8) (h : (read l).2 = 0) : text (read l).1.toNat = l := by
  unfold read said at *
  by_cases h1 : l = [] ∨ 10 < l.length ∨ (l.head? = some 48 ∧ 1 < l.length)
  · rw [if_pos h1] at h; cases h
  · rw [if_neg h1] at h ⊢
    by_cases h2 : l.all dig = true ∧ val l < 2147483648
    · rw [if_pos h2, Int.toNat_natCast]
      exact (text_val l h2.1 (fun c => h1 (.inl c))).2 (fun c => h1 (.inr (.inr c)))
    · rw [if_neg h2] at h; cases h

theorem read_small (l : List UInt8) : (read l).1 ≤ 9223372036854775807 := by
  unfold read said
  split
  · decide
  · split
    · rename_i h; have := h.2; show (val l : Int) ≤ _; omega
    · decide

theorem NumTexts : messuagelaw01_NumTexts.Pure := by
  intro x s hx hs
  obtain ⟨x0, x1⟩ := bounds_i64 hx
  refine ⟨71, ?_⟩
  unfold messuagelaw01_NumTexts.f
  have al : messuagelaw01_alive.f 70 = some true := by decide +kernel
  by_cases hbig : (s.size : Int) > 4096
  · rw [if_pos hbig]
  · rw [if_neg hbig]
    obtain ⟨l, rfl⟩ : ∃ l, s = ba l := ⟨_, ba_of s⟩
    rw [parse_f l 71 (by decide), ref_parse_f l 71 (by decide), text_f x x1 71 (by decide), ref_text_f x x1 71 (by decide)]
    simp only [Option.bind_some, if_true, bne_self_eq_false, messuagelaw01_NumTexts.j0, Bool.false_eq_true, if_false]
    rw [text_f x x1 70 (by decide), text_f _ (read_small l) 70 (by decide), Option.bind_some, parse_f _ 70 (by decide), al]
    simp only [Option.bind_some, ba_list]
    have last : (if (read l).2 = 0 then (if text (read l).1.toNat = l then some true else some false) else some true) = some true := by
      by_cases h : (read l).2 = 0
      · rw [if_pos h, if_pos (text_read l h)]
      · rw [if_neg h]
    rw [last]
    by_cases h1 : x < 0
    · rw [if_pos h1]
    · rw [if_neg h1]
      by_cases h2 : x ≥ 2147483648
      · rw [if_pos h2]
      · rw [if_neg h2]
        obtain ⟨n, rfl⟩ := Int.eq_ofNat_of_zero_le (show 0 ≤ x by omega)
        rw [Int.toNat_natCast, read_text n (by omega)]
        simp

end Go.Proofs.Ytiekjbejgmdkkaa.Pure
