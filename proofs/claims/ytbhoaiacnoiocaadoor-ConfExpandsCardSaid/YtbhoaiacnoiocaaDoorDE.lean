/- The law, plain: what a line more turns. -/
import Derived.Test.YtbhoaiacnoiocaaDoorDC
namespace Go.Proofs.YtbhoaiacnoiocaaDoor
open Go Fw
set_option linter.unusedSimpArgs false
set_option linter.unusedVariables false
set_option linter.unusedSectionVars false

theorem splitF_app (c : UInt8) (a b : List UInt8) : splitF c (a ++ c :: b) = splitF c a ++ splitF c b := by
  induction a with
  | nil => simp [splitF]
  | cons x a ih =>
    rw [List.cons_append]
    simp only [splitF]
    by_cases h : x = c
    · rw [if_pos h, if_pos h, ih]; rfl
    · rw [if_neg h, if_neg h, ih]
      cases hs : splitF c a with
      | nil => exact absurd hs (splitF_ne c a)
      | cons y r => rfl
theorem parseM_app {icl : List UInt8 → Bool} : ∀ (A B : List (List UInt8)) (i : Nat) (F : Fm), parseM icl (A ++ B) i F = match parseM icl A i F with
    | .inl a => .inl a
    | .inr F' => parseM icl B (i + A.length) F'
  | [], B, i, F => rfl
  | x :: A, B, i, F => by
    rw [List.cons_append]
    simp only [parseM]
    have hl : i + (x :: A).length = i + 1 + A.length := by rw [List.length_cons]; omega
    rw [hl]
    split
    · split
      · exact parseM_app A B (i + 1) F
      · split
        · rfl
        · exact parseM_app A B (i + 1) _
    · rfl
/-! ### blanks -/
theorem dw_all {p r : List UInt8} (h : ∀ x ∈ p, isBl x = true) : (p ++ r).dropWhile isBl = r.dropWhile isBl := by
  induction p with
  | nil => rfl
  | cons a p ih =>
    rw [List.cons_append, List.dropWhile_cons, h a (by simp), if_pos rfl]
    exact ih fun x hx => h x (by simp [hx])
theorem dw_id {r : List UInt8} (h : ∀ a, r.head? = some a → isBl a = false) : r.dropWhile isBl = r := by
  cases r with
  | nil => rfl
  | cons a r => rw [List.dropWhile_cons, h a rfl, if_neg (by decide)]
theorem trimF_mid {p w q : List UInt8} (hp : ∀ x ∈ p, isBl x = true) (hq : ∀ x ∈ q, isBl x = true) (h1 : ∀ a, w.head? = some a → isBl a = false) (h2 : ∀ a, w.getLast? = some a → isBl a = false) : trimF (p ++ (w ++ q)) = w := by
  unfold trimF
  rw [dw_all hp]
  cases w with
  | nil =>
    rw [List.nil_append]
    have : q.dropWhile isBl = [] := by
      have := dw_all (r := []) hq
      rwa [List.append_nil] at this
    rw [this]; rfl
  | cons a w =>
    have e1 : ((a :: w) ++ q).dropWhile isBl = (a :: w) ++ q := dw_id fun b hb => h1 b (by simpa using hb)
    rw [e1, List.reverse_append, dw_all (fun x hx => hq x (by simpa using hx)), dw_id (fun b hb => h2 b (by rwa [List.head?_reverse] at hb)), List.reverse_reverse]
/-! ### signs -/
theorem nmC_not : ∀ c : UInt8, nmC c = true → isBl c = false ∧ okL c = true ∧ c ≠ 61 ∧ c ≠ 35 ∧ c ≠ 10 ∧ c ≠ 91 ∧ c ≠ 43 := by
  intro c h
  have hc : c.toNat < 256 := c.toNat_lt
  unfold nmC at h
  simp only [Bool.or_eq_true, Bool.and_eq_true, decide_eq_true_eq] at h
  have hn : ∀ k : UInt8, c.toNat ≠ k.toNat → c ≠ k := fun k h e => h (by rw [e])
  refine ⟨?_, ?_, hn _ ?_, hn _ ?_, hn _ ?_, hn _ ?_, hn _ ?_⟩
  · unfold isBl; simp only [Bool.or_eq_false_iff, decide_eq_false_iff_not]; omega
  · unfold okL; simp only [Bool.or_eq_true, Bool.and_eq_true, decide_eq_true_eq]; left; omega
  all_goals (simp only [UInt8.reduceToNat]; omega)
def valC (c : UInt8) : Bool := decide (32 < c.toNat) && decide (c.toNat ≤ 126) && decide (c.toNat ≠ 35)
theorem valC_not : ∀ c : UInt8, valC c = true → isBl c = false ∧ okL c = true ∧ c ≠ 35 ∧ c ≠ 10 := by
  intro c h
  have hc : c.toNat < 256 := c.toNat_lt
  unfold valC at h
  simp only [Bool.and_eq_true, decide_eq_true_eq] at h
  have hn : ∀ k : UInt8, c.toNat ≠ k.toNat → c ≠ k := fun k h e => h (by rw [e])
  refine ⟨?_, ?_, hn _ ?_, hn _ ?_⟩
  · unfold isBl; simp only [Bool.or_eq_false_iff, decide_eq_false_iff_not]; omega
  · unfold okL; simp only [Bool.or_eq_true, Bool.and_eq_true, decide_eq_true_eq]; left; omega
  all_goals (simp only [UInt8.reduceToNat]; omega)
def sgn (more : Bool) : List UInt8 := if more then [32, 43, 61] else [32, 61]
/-- The line more. -/
def moreX (name value : List UInt8) (more : Bool) : List UInt8 := name ++ (sgn more ++ (32 :: value))
theorem head_app {a b : List UInt8} {c : UInt8} (h : (a ++ b).head? = some c) (ha : a ≠ []) : c ∈ a := by
  cases a with
  | nil => exact absurd rfl ha
  | cons x a => simp at h; simp [h]
theorem last_app {a b : List UInt8} {c : UInt8} (h : (a ++ b).getLast? = some c) (hb : b ≠ []) : c ∈ b := by
  rw [List.getLast?_append, List.getLast?_eq_some_getLast hb] at h
  simp only [Option.some_or, Option.some.injEq] at h
  rw [← h]
  exact List.getLast_mem hb
section
variable {name value : List UInt8} {more : Bool}
def tailX (value : List UInt8) : List UInt8 := if value = [] then [] else 32 :: value
theorem goodB_all (h : goodB name = true) : (∀ c ∈ name, nmC c = true) ∧ name ≠ [] := by
  unfold goodB at h
  simp only [Bool.and_eq_true, decide_eq_true_eq, List.all_eq_true] at h
  exact ⟨h.1.1, h.1.2⟩
theorem sgn_ne (more : Bool) : sgn more ≠ [] := by cases more <;> decide
theorem mem_sgn {c : UInt8} (h : c ∈ sgn more) : c = 32 ∨ c = 43 ∨ c = 61 := by
  cases more <;> simp [sgn] at h
  · rcases h with h | h
    · exact .inl h
    · exact .inr (.inr h)
  · exact h
theorem moreX_no {k : UInt8} (hg : goodB name = true) (hv : ∀ c ∈ value, valC c = true) (h1 : ∀ c, nmC c = true → c ≠ k) (h2 : ∀ c, valC c = true → c ≠ k) (h3 : k ≠ 32 ∧ k ≠ 43 ∧ k ≠ 61) : k ∉ moreX name value more := by
  unfold moreX
  intro h
  rcases List.mem_append.1 h with h | h
  · exact h1 _ ((goodB_all hg).1 _ h) rfl
  · rcases List.mem_append.1 h with h | h
    · rcases mem_sgn h with e | e | e
      · exact h3.1 e
      · exact h3.2.1 e
      · exact h3.2.2 e
    · rcases List.mem_cons.1 h with e | h
      · exact h3.1 e
      · exact h2 _ (hv _ h) rfl
theorem moreX_ok (hg : goodB name = true) (hv : ∀ c ∈ value, valC c = true) : (moreX name value more).all okL = true := by
  unfold moreX
  rw [List.all_append, List.all_append, List.all_cons]
  simp only [Bool.and_eq_true, List.all_eq_true]
  refine ⟨fun c hc => (nmC_not c ((goodB_all hg).1 c hc)).2.1, fun c hc => ?_, by decide, fun c hc => (valC_not c (hv c hc)).2.1⟩
  rcases mem_sgn hc with rfl | rfl | rfl <;> decide
theorem bare_X (hg : goodB name = true) (hv : ∀ c ∈ value, valC c = true) : bareL (moreX name value more) = name ++ (sgn more ++ tailX value) := by
  unfold bareL
  rw [tw_no (moreX_no hg hv (fun c hc => (nmC_not c hc).2.2.2.1) (fun c hc => (valC_not c hc).2.2.1) (by decide))]
  obtain ⟨g1, g2⟩ := goodB_all hg
  have hd : ∀ (t : List UInt8) a, (name ++ t).head? = some a → isBl a = false := fun t a ha => (nmC_not a (g1 a (head_app ha g2))).1
  unfold tailX moreX
  split
  · rename_i h
    subst h
    have := trimF_mid (p := []) (w := name ++ sgn more) (q := [32]) (fun _ h => nomatch h) (fun x hx => by rw [List.mem_singleton.1 hx]; rfl) (hd _) (fun a ha => by
      rw [List.getLast?_append] at ha
      cases more <;> (simp [sgn] at ha; rw [← ha]; rfl))
    rw [List.nil_append, List.append_assoc] at this
    rw [this, List.append_nil]
  · rename_i h
    have := trimF_mid (p := []) (w := name ++ (sgn more ++ (32 :: value))) (q := []) (fun _ h => nomatch h) (fun x hx => nomatch hx) (hd _) (fun a ha => by
      have : name ++ (sgn more ++ (32 :: value)) = (name ++ (sgn more ++ [32])) ++ value := by simp
      rw [this] at ha
      exact (valC_not a (hv a (last_app ha h))).1)
    rw [List.nil_append, List.append_nil] at this
    rw [this]
def keyX (name : List UInt8) (more : Bool) : List UInt8 := name ++ (if more then [32, 43] else [32])
theorem sgn_key (t : List UInt8) : name ++ (sgn more ++ t) = keyX name more ++ 61 :: t := by
  unfold keyX sgn
  cases more <;> simp
theorem tw_hit {c : UInt8} {a t : List UInt8} (h : c ∉ a) : (a ++ c :: t).takeWhile (· != c) = a := by
  induction a with
  | nil => simp
  | cons b a ih =>
    have h1 : (b != c) = true := by simp; exact fun e => h (by simp [e])
    rw [List.cons_append, List.takeWhile_cons, h1, if_pos rfl, ih fun hc => h (List.mem_cons_of_mem _ hc)]
theorem keyX_no (hg : goodB name = true) : 61 ∉ keyX name more := by
  unfold keyX
  intro h
  rcases List.mem_append.1 h with h | h
  · exact (nmC_not _ ((goodB_all hg).1 _ h)).2.2.1 rfl
  · cases more <;> simp at h
theorem key_X (hg : goodB name = true) (t : List UInt8) : keyL (name ++ (sgn more ++ t)) = keyX name more := by
  unfold keyL
  rw [sgn_key, tw_hit (keyX_no hg)]
theorem endsB_app (a b : List UInt8) : endsB (a ++ b) b = true := by
  unfold endsB
  rw [List.length_append, Nat.add_sub_cancel, List.drop_left]
  simp
theorem more_X (hg : goodB name = true) (t : List UInt8) : moreL (name ++ (sgn more ++ t)) = more := by
  unfold moreL
  rw [key_X hg]
  unfold keyX
  cases more with
  | true =>
    have : name ++ (if true = true then [32, 43] else [(32 : UInt8)]) = (name ++ [32]) ++ [43] := by simp
    rw [this, endsB_app]
  | false =>
    unfold endsB
    simp
theorem name_X (hg : goodB name = true) (t : List UInt8) : nameL (name ++ (sgn more ++ t)) = name := by
  have hm := more_X (more := more) hg t
  unfold moreL at hm
  unfold nameL trimS
  rw [key_X hg] at hm ⊢
  obtain ⟨g1, g2⟩ := goodB_all hg
  have hd : ∀ a, name.head? = some a → isBl a = false := fun a ha => (nmC_not a (g1 a (List.mem_of_head? ha))).1
  have hl : ∀ a, name.getLast? = some a → isBl a = false := fun a ha => (nmC_not a (g1 a (List.mem_of_getLast? ha))).1
  have := trimF_mid (p := []) (w := name) (q := [32]) (fun _ h => nomatch h) (fun x hx => by rw [List.mem_singleton.1 hx]; rfl) hd hl
  rw [List.nil_append] at this
  rw [hm]
  cases more with
  | true =>
    rw [if_pos rfl]
    have e : keyX name true = (name ++ [32]) ++ [43] := by simp [keyX]
    rw [e, List.length_append, Nat.add_sub_cancel, List.take_left]
    exact this
  | false =>
    rw [if_neg (by decide)]
    exact this
theorem val_X (hg : goodB name = true) (hv : ∀ c ∈ value, valC c = true) : valL (name ++ (sgn more ++ tailX value)) = value := by
  unfold valL
  rw [key_X hg, sgn_key]
  have : (keyX name more ++ 61 :: tailX value).drop ((keyX name more).length + 1) = tailX value := by
    rw [← List.drop_drop, List.drop_left]; rfl
  rw [this]
  have hp := trimF_mid (p := [32]) (w := value) (q := []) (fun x hx => by rw [List.mem_singleton.1 hx]; rfl) (fun x hx => nomatch hx) (fun a ha => (valC_not a (hv a (List.mem_of_head? ha))).1) (fun a ha => (valC_not a (hv a (List.mem_of_getLast? ha))).1)
  rw [List.append_nil] at hp
  unfold tailX
  split
  · rename_i h; subst h; rfl
  · exact hp
theorem line_X {icl : List UInt8 → Bool} {F : Fm} {at_ : Int} (hg : goodB name = true) (hv : ∀ c ∈ value, valC c = true) : lineM icl F (bareL (moreX name value more)) at_ = propM icl F name value more at_ := by
  rw [bare_X hg hv]
  obtain ⟨g1, g2⟩ := goodB_all hg
  unfold lineM
  rw [name_X hg, more_X hg, val_X hg hv, if_neg, if_pos]
  · rw [sgn_key]; simp
  · cases name with
    | nil => exact absurd rfl g2
    | cons a r => exact (nmC_not a (g1 a (by simp))).2.2.2.2.2.1
/-- The line more: what it turns. -/
theorem parse_more {icl : List UInt8 → Bool} {ahead : List UInt8} {F : Fm} (hg : goodB name = true) (hv : ∀ c ∈ value, valC c = true) (hl : ahead.length ≤ 8000) (hl2 : name.length ≤ 100) (hl3 : value.length ≤ 1000) (h : parseT icl ahead = .inr F) (hs : 0 < F.secs.length) :
    ∃ at_, parseT icl (ahead ++ 10 :: (moreX name value more ++ [10])) = .inr ⟨F.dirs, F.secs.set (F.secs.length - 1) ((F.secs[F.secs.length - 1]'(by omega)).1, setP (F.secs[F.secs.length - 1]'(by omega)).2 ⟨name, value, at_⟩ more)⟩ := by
  have hsl : (sgn more).length ≤ 3 := by cases more <;> decide
  have hlen : (ahead ++ 10 :: (moreX name value more ++ [10])).length ≤ 16384 := by
    unfold moreX
    simp only [List.length_append, List.length_cons, List.length_nil]
    omega
  unfold parseT at h ⊢
  rw [if_neg (by omega)] at h ⊢
  have h10 : (10 : UInt8) ∉ moreX name value more := moreX_no hg hv (fun c hc => (nmC_not c hc).2.2.2.2.1) (fun c hc => (valC_not c hc).2.2.2) (by decide)
  rw [splitF_app, parseM_app, h]
  simp only
  rw [splitF_app, splitF_no h10]
  refine ⟨((0 + (splitF 10 ahead).length : Nat) : Int) + 1, ?_⟩
  rw [List.singleton_append, show splitF 10 [] = [[]] from rfl, parseM, if_pos (moreX_ok hg hv)]
  have hb : bareL (moreX name value more) ≠ [] := by
    rw [bare_X hg hv]
    exact fun e => (goodB_all hg).2 (List.append_eq_nil_iff.1 e).1
  rw [if_neg hb, line_X hg hv, propM, if_pos hg, dif_pos hs]
  simp only
  rw [parseM, if_pos (show ([] : List UInt8).all okL = true from rfl), if_pos (show bareL [] = [] from rfl), parseM]
end
/-! ### names are told once -/
def nameN (ps : List Pr) : List (List UInt8) := ps.map (·.n)
theorem mixP_n (q p : Pr) (more : Bool) : (mixP q p more).n = p.n := by unfold mixP; split <;> rfl
theorem setP_names (p : Pr) (more : Bool) : ∀ ps : List Pr, nameN (setP ps p more) = if p.n ∈ nameN ps then nameN ps else nameN ps ++ [p.n]
  | [] => rfl
  | q :: r => by
    simp only [setP]
    split
    · rename_i h
      have : p.n ∈ nameN (q :: r) := by simp [nameN, h]
      rw [if_pos this]
      simp [nameN, mixP_n, h]
    · rename_i h
      have ih := setP_names p more r
      show q.n :: nameN (setP r p more) = if p.n ∈ q.n :: nameN r then q.n :: nameN r else (q.n :: nameN r) ++ [p.n]
      rw [ih]
      by_cases hm : p.n ∈ nameN r
      · rw [if_pos hm, if_pos (List.mem_cons_of_mem _ hm)]
      · rw [if_neg hm, if_neg (fun e => by rcases List.mem_cons.1 e with e | e; exact h e.symm; exact hm e)]; rfl
theorem setP_nodup {p : Pr} {more : Bool} {ps : List Pr} (h : (nameN ps).Nodup) : (nameN (setP ps p more)).Nodup := by
  rw [setP_names]
  split
  · exact h
  · rename_i hn
    rw [List.nodup_append]
    exact ⟨h, by simp, fun a ha b hb e => hn (by rw [List.mem_singleton.1 hb] at e; rw [← e]; exact ha)⟩
def OnceF (F : Fm) : Prop := ∀ x ∈ F.secs, (nameN x.2).Nodup
theorem OnceF.line {icl : List UInt8 → Bool} {F F' : Fm} {s : List UInt8} {at_ : Int} (h : OnceF F) (hl : lineM icl F s at_ = .inr F') : OnceF F' := by
  unfold lineM at hl
  split at hl
  · unfold beginM at hl
    split at hl
    · split at hl
      · split at hl
        · cases hl
        · simp only [bgR, Sum.inr.injEq] at hl
          subst hl
          intro x hx
          rcases List.mem_append.1 hx with hx | hx
          · exact h x hx
          · rw [List.mem_singleton.1 hx]; exact List.nodup_nil
      · cases hl
    · cases hl
  · split at hl
    · unfold propM at hl
      split at hl
      · split at hl
        · rename_i hpos
          simp only [Sum.inr.injEq] at hl
          subst hl
          intro x hx
          rcases List.mem_or_eq_of_mem_set hx with hx | hx
          · exact h x hx
          · rw [hx]
            exact setP_nodup (h _ (List.getElem_mem (show F.secs.length - 1 < F.secs.length by omega)))
        · split at hl
          · simp only [Sum.inr.injEq] at hl
            subst hl
            exact h
          · cases hl
      · cases hl
    · cases hl
theorem OnceF.parse {icl : List UInt8 → Bool} : ∀ (l : List (List UInt8)) (i : Nat) (F F' : Fm), OnceF F → parseM icl l i F = .inr F' → OnceF F'
  | [], i, F, F', h, e => by cases e; exact h
  | x :: r, i, F, F', h, e => by
    simp only [parseM] at e
    split at e
    · split at e
      · exact OnceF.parse r (i + 1) F F' h e
      · split at e
        · cases e
        · rename_i F1 h1
          exact OnceF.parse r (i + 1) F1 F' (h.line h1) e
    · cases e
/-! ### asked for a name -/
def getM (n : List UInt8) : List Pr → Option (List UInt8)
  | [] => none
  | q :: r => if q.n = n then some q.v else getM n r
theorem getM_set (p : Pr) (more : Bool) : ∀ ps : List Pr, getM p.n (setP ps p more) = some (match getM p.n ps with
    | some v => if more = true ∧ v ≠ [] then v ++ (betw p.n ++ p.v) else p.v
    | none => p.v)
  | [] => by simp [setP, getM]
  | q :: r => by
    simp only [setP, getM]
    split
    · rename_i h
      simp only [getM]
      rw [if_pos (mixP_n q p more)]
      simp only [mixP]
      split <;> rfl
    · rename_i h
      simp only [getM]
      rw [if_neg h, getM_set p more r]
theorem getM_other (p : Pr) (more : Bool) {n : List UInt8} (hn : n ≠ p.n) : ∀ ps : List Pr, getM n (setP ps p more) = getM n ps
  | [] => by
    simp only [setP, getM]
    rw [if_neg fun e => hn e.symm]
  | q :: r => by
    simp only [setP]
    split
    · rename_i h
      simp only [getM, mixP_n]
      rw [if_neg fun e => hn e.symm, if_neg fun e => hn (e.symm.trans h)]
    · simp only [getM]
      rw [getM_other p more hn r]
theorem getM_mem : ∀ {ps : List Pr}, (nameN ps).Nodup → ∀ q ∈ ps, getM q.n ps = some q.v
  | [], _, q, hq => nomatch hq
  | p :: r, h, q, hq => by
    have h : (p.n :: nameN r).Nodup := h
    rw [List.nodup_cons] at h
    simp only [getM]
    rcases List.mem_cons.1 hq with e | hq
    · subst e; rw [if_pos rfl]
    · rw [if_neg fun e => h.1 (by rw [e]; exact List.mem_map.2 ⟨q, hq, rfl⟩)]
      exact getM_mem h.2 q hq
theorem betw_name {n : List UInt8} (h1 : n ≠ addL) (h2 : endsB n linksL = false) : betw n = [58] := by
  unfold betw
  rw [if_neg]
  rintro (h | h)
  · exact h1 h
  · rw [h2] at h; cases h
end Go.Proofs.YtbhoaiacnoiocaaDoor
/- The document's Name and Ends; what a section answers. -/
namespace Go.Proofs.YtbhoaiacnoiocaaDoor
open Go Fw
set_option linter.unusedSimpArgs false
set_option linter.unusedVariables false
set_option linter.unusedSectionVars false
section
variable {T : Tab}
def NmP (c : UInt8) (v0 v3 : Value) (H : Heap) : Post := fun x e h => h = H ∧ ((nmC c = true ∧ x = .normal ∧ e 0 = v0 ∧ e 3 = v3) ∨ (nmC c = false ∧ x = .ret ∧ e 2 = .bool false))
set_option maxHeartbeats 2000000 in
theorem st_name (c : UInt8) {env : Env} {H : Heap} {v0 v3 : Value} (e0 : env 0 = v0) (e3 : env 3 = v3) (e4 : env 4 = .int .u8 c.toNat) :
    W T (.seq (.reg F_ref18_Namer5) (.cond (.t 48) (.seq (.reg F_ref18_Namer6) .ret) .skip)) env H (NmP c v0 v3 H) := by
  have key : (97 ≤ c.toNat ∧ c.toNat ≤ 122) ∨ (122 < c.toNat) ∨ (65 ≤ c.toNat ∧ c.toNat ≤ 90) ∨ (c.toNat = 95) ∨ (90 < c.toNat ∧ c.toNat < 97 ∧ c.toNat ≠ 95) ∨ (48 ≤ c.toNat ∧ c.toNat ≤ 57) ∨ (57 < c.toNat ∧ c.toNat < 65) ∨ (c.toNat = 46) ∨ (c.toNat = 45) ∨ (c.toNat < 48 ∧ c.toNat ≠ 46 ∧ c.toNat ≠ 45) := by omega
  unfold NmP
  rcases key with k | k | k | k | k | k | k | k | k | k
  · have a1 : (97 : Int) ≤ c.toNat := by omega
    have a2 : (c.toNat : Int) ≤ 122 := by omega
    have b1 : (65 : Int) ≤ c.toNat := by omega
    have b2 : ¬ ((c.toNat : Int) ≤ 90) := by omega
    have c1 : (48 : Int) ≤ c.toNat := by omega
    have c2 : ¬ ((c.toNat : Int) ≤ 57) := by omega
    have e46 : decide ((c.toNat : Int) = 46) = false := decide_eq_false (by omega)
    have e95 : decide ((c.toNat : Int) = 95) = false := decide_eq_false (by omega)
    have e45 : decide ((c.toNat : Int) = 45) = false := decide_eq_false (by omega)
    have hn : nmC c = true := nmC_t (by omega)
    simp only [fws, cond_true, cond_false, if_true, if_false, unV, isNil, optI, iV, stepI, evalR, reduceIte, reduceCtorEq, Nat.reduceEqDiff, Int.reduceLT, Int.reduceLE, Int.reduceToNat, Nat.reduceLT, Nat.reduceLeDiff, Int.reduceEq, Int.reduceNeg, IntKind.bits, Nat.reduceAdd, Nat.reduceMul, Nat.reducePow, Int.reducePow, ini, fwi, F_ref18_Namer0_W, F_ref18_Namer1_W, F_ref18_Namer2_W, F_ref18_Namer4_W, F_ref18_Namer5_W, F_ref18_Namer5_g2, F_ref18_Namer5_g6, F_ref18_Namer5_g9, F_ref18_Namer5_g14, F_ref18_Namer5_g17, F_ref18_Namer5_g22, F_ref18_Namer5_g26, F_ref18_Namer5_g30, F_ref18_Namer6_W, F_ref18_Namer3_W, F_ref18_Namel0_W, F_ref18_Namer7_W, F_ref18_Namer7_g3, F_ref18_Namec_W, e4, a1, a2, b1, b2, c1, c2, e46, e95, e45]
    exact ⟨trivial, .inl ⟨hn, trivial, e0, e3⟩⟩
  · have a1 : (97 : Int) ≤ c.toNat := by omega
    have a2 : ¬ ((c.toNat : Int) ≤ 122) := by omega
    have b1 : (65 : Int) ≤ c.toNat := by omega
    have b2 : ¬ ((c.toNat : Int) ≤ 90) := by omega
    have c1 : (48 : Int) ≤ c.toNat := by omega
    have c2 : ¬ ((c.toNat : Int) ≤ 57) := by omega
    have e46 : decide ((c.toNat : Int) = 46) = false := decide_eq_false (by omega)
    have e95 : decide ((c.toNat : Int) = 95) = false := decide_eq_false (by omega)
    have e45 : decide ((c.toNat : Int) = 45) = false := decide_eq_false (by omega)
    have hn : nmC c = false := nmC_f (by omega)
    simp only [fws, cond_true, cond_false, if_true, if_false, unV, isNil, optI, iV, stepI, evalR, reduceIte, reduceCtorEq, Nat.reduceEqDiff, Int.reduceLT, Int.reduceLE, Int.reduceToNat, Nat.reduceLT, Nat.reduceLeDiff, Int.reduceEq, Int.reduceNeg, IntKind.bits, Nat.reduceAdd, Nat.reduceMul, Nat.reducePow, Int.reducePow, ini, fwi, F_ref18_Namer0_W, F_ref18_Namer1_W, F_ref18_Namer2_W, F_ref18_Namer4_W, F_ref18_Namer5_W, F_ref18_Namer5_g2, F_ref18_Namer5_g6, F_ref18_Namer5_g9, F_ref18_Namer5_g14, F_ref18_Namer5_g17, F_ref18_Namer5_g22, F_ref18_Namer5_g26, F_ref18_Namer5_g30, F_ref18_Namer6_W, F_ref18_Namer3_W, F_ref18_Namel0_W, F_ref18_Namer7_W, F_ref18_Namer7_g3, F_ref18_Namec_W, e4, a1, a2, b1, b2, c1, c2, e46, e95, e45]
    exact ⟨trivial, .inr ⟨hn, trivial, trivial⟩⟩
  · have a1 : ¬ ((97 : Int) ≤ c.toNat) := by omega
    have a2 : (c.toNat : Int) ≤ 122 := by omega
    have b1 : (65 : Int) ≤ c.toNat := by omega
    have b2 : (c.toNat : Int) ≤ 90 := by omega
    have c1 : (48 : Int) ≤ c.toNat := by omega
    have c2 : ¬ ((c.toNat : Int) ≤ 57) := by omega
    have e46 : decide ((c.toNat : Int) = 46) = false := decide_eq_false (by omega)
    have e95 : decide ((c.toNat : Int) = 95) = false := decide_eq_false (by omega)
    have e45 : decide ((c.toNat : Int) = 45) = false := decide_eq_false (by omega)
    have hn : nmC c = true := nmC_t (by omega)
    simp only [fws, cond_true, cond_false, if_true, if_false, unV, isNil, optI, iV, stepI, evalR, reduceIte, reduceCtorEq, Nat.reduceEqDiff, Int.reduceLT, Int.reduceLE, Int.reduceToNat, Nat.reduceLT, Nat.reduceLeDiff, Int.reduceEq, Int.reduceNeg, IntKind.bits, Nat.reduceAdd, Nat.reduceMul, Nat.reducePow, Int.reducePow, ini, fwi, F_ref18_Namer0_W, F_ref18_Namer1_W, F_ref18_Namer2_W, F_ref18_Namer4_W, F_ref18_Namer5_W, F_ref18_Namer5_g2, F_ref18_Namer5_g6, F_ref18_Namer5_g9, F_ref18_Namer5_g14, F_ref18_Namer5_g17, F_ref18_Namer5_g22, F_ref18_Namer5_g26, F_ref18_Namer5_g30, F_ref18_Namer6_W, F_ref18_Namer3_W, F_ref18_Namel0_W, F_ref18_Namer7_W, F_ref18_Namer7_g3, F_ref18_Namec_W, e4, a1, a2, b1, b2, c1, c2, e46, e95, e45]
    exact ⟨trivial, .inl ⟨hn, trivial, e0, e3⟩⟩
  · have a1 : ¬ ((97 : Int) ≤ c.toNat) := by omega
    have a2 : (c.toNat : Int) ≤ 122 := by omega
    have b1 : (65 : Int) ≤ c.toNat := by omega
    have b2 : ¬ ((c.toNat : Int) ≤ 90) := by omega
    have c1 : (48 : Int) ≤ c.toNat := by omega
    have c2 : ¬ ((c.toNat : Int) ≤ 57) := by omega
    have e46 : decide ((c.toNat : Int) = 46) = false := decide_eq_false (by omega)
    have e95 : decide ((c.toNat : Int) = 95) = true := decide_eq_true (by omega)
    have e45 : decide ((c.toNat : Int) = 45) = false := decide_eq_false (by omega)
    have hn : nmC c = true := nmC_t (by omega)
    simp only [fws, cond_true, cond_false, if_true, if_false, unV, isNil, optI, iV, stepI, evalR, reduceIte, reduceCtorEq, Nat.reduceEqDiff, Int.reduceLT, Int.reduceLE, Int.reduceToNat, Nat.reduceLT, Nat.reduceLeDiff, Int.reduceEq, Int.reduceNeg, IntKind.bits, Nat.reduceAdd, Nat.reduceMul, Nat.reducePow, Int.reducePow, ini, fwi, F_ref18_Namer0_W, F_ref18_Namer1_W, F_ref18_Namer2_W, F_ref18_Namer4_W, F_ref18_Namer5_W, F_ref18_Namer5_g2, F_ref18_Namer5_g6, F_ref18_Namer5_g9, F_ref18_Namer5_g14, F_ref18_Namer5_g17, F_ref18_Namer5_g22, F_ref18_Namer5_g26, F_ref18_Namer5_g30, F_ref18_Namer6_W, F_ref18_Namer3_W, F_ref18_Namel0_W, F_ref18_Namer7_W, F_ref18_Namer7_g3, F_ref18_Namec_W, e4, a1, a2, b1, b2, c1, c2, e46, e95, e45]
    exact ⟨trivial, .inl ⟨hn, trivial, e0, e3⟩⟩
  · have a1 : ¬ ((97 : Int) ≤ c.toNat) := by omega
    have a2 : (c.toNat : Int) ≤ 122 := by omega
    have b1 : (65 : Int) ≤ c.toNat := by omega
    have b2 : ¬ ((c.toNat : Int) ≤ 90) := by omega
    have c1 : (48 : Int) ≤ c.toNat := by omega
    have c2 : ¬ ((c.toNat : Int) ≤ 57) := by omega
    have e46 : decide ((c.toNat : Int) = 46) = false := decide_eq_false (by omega)
    have e95 : decide ((c.toNat : Int) = 95) = false := decide_eq_false (by omega)
    have e45 : decide ((c.toNat : Int) = 45) = false := decide_eq_false (by omega)
    have hn : nmC c = false := nmC_f (by omega)
    simp only [fws, cond_true, cond_false, if_true, if_false, unV, isNil, optI, iV, stepI, evalR, reduceIte, reduceCtorEq, Nat.reduceEqDiff, Int.reduceLT, Int.reduceLE, Int.reduceToNat, Nat.reduceLT, Nat.reduceLeDiff, Int.reduceEq, Int.reduceNeg, IntKind.bits, Nat.reduceAdd, Nat.reduceMul, Nat.reducePow, Int.reducePow, ini, fwi, F_ref18_Namer0_W, F_ref18_Namer1_W, F_ref18_Namer2_W, F_ref18_Namer4_W, F_ref18_Namer5_W, F_ref18_Namer5_g2, F_ref18_Namer5_g6, F_ref18_Namer5_g9, F_ref18_Namer5_g14, F_ref18_Namer5_g17, F_ref18_Namer5_g22, F_ref18_Namer5_g26, F_ref18_Namer5_g30, F_ref18_Namer6_W, F_ref18_Namer3_W, F_ref18_Namel0_W, F_ref18_Namer7_W, F_ref18_Namer7_g3, F_ref18_Namec_W, e4, a1, a2, b1, b2, c1, c2, e46, e95, e45]
    exact ⟨trivial, .inr ⟨hn, trivial, trivial⟩⟩
  · have a1 : ¬ ((97 : Int) ≤ c.toNat) := by omega
    have a2 : (c.toNat : Int) ≤ 122 := by omega
    have b1 : ¬ ((65 : Int) ≤ c.toNat) := by omega
    have b2 : (c.toNat : Int) ≤ 90 := by omega
    have c1 : (48 : Int) ≤ c.toNat := by omega
    have c2 : (c.toNat : Int) ≤ 57 := by omega
    have e46 : decide ((c.toNat : Int) = 46) = false := decide_eq_false (by omega)
    have e95 : decide ((c.toNat : Int) = 95) = false := decide_eq_false (by omega)
    have e45 : decide ((c.toNat : Int) = 45) = false := decide_eq_false (by omega)
    have hn : nmC c = true := nmC_t (by omega)
    simp only [fws, cond_true, cond_false, if_true, if_false, unV, isNil, optI, iV, stepI, evalR, reduceIte, reduceCtorEq, Nat.reduceEqDiff, Int.reduceLT, Int.reduceLE, Int.reduceToNat, Nat.reduceLT, Nat.reduceLeDiff, Int.reduceEq, Int.reduceNeg, IntKind.bits, Nat.reduceAdd, Nat.reduceMul, Nat.reducePow, Int.reducePow, ini, fwi, F_ref18_Namer0_W, F_ref18_Namer1_W, F_ref18_Namer2_W, F_ref18_Namer4_W, F_ref18_Namer5_W, F_ref18_Namer5_g2, F_ref18_Namer5_g6, F_ref18_Namer5_g9, F_ref18_Namer5_g14, F_ref18_Namer5_g17, F_ref18_Namer5_g22, F_ref18_Namer5_g26, F_ref18_Namer5_g30, F_ref18_Namer6_W, F_ref18_Namer3_W, F_ref18_Namel0_W, F_ref18_Namer7_W, F_ref18_Namer7_g3, F_ref18_Namec_W, e4, a1, a2, b1, b2, c1, c2, e46, e95, e45]
    exact ⟨trivial, .inl ⟨hn, trivial, e0, e3⟩⟩
  · have a1 : ¬ ((97 : Int) ≤ c.toNat) := by omega
    have a2 : (c.toNat : Int) ≤ 122 := by omega
    have b1 : ¬ ((65 : Int) ≤ c.toNat) := by omega
    have b2 : (c.toNat : Int) ≤ 90 := by omega
    have c1 : (48 : Int) ≤ c.toNat := by omega
    have c2 : ¬ ((c.toNat : Int) ≤ 57) := by omega
    have e46 : decide ((c.toNat : Int) = 46) = false := decide_eq_false (by omega)
    have e95 : decide ((c.toNat : Int) = 95) = false := decide_eq_false (by omega)
    have e45 : decide ((c.toNat : Int) = 45) = false := decide_eq_false (by omega)
    have hn : nmC c = false := nmC_f (by omega)
    simp only [fws, cond_true, cond_false, if_true, if_false, unV, isNil, optI, iV, stepI, evalR, reduceIte, reduceCtorEq, Nat.reduceEqDiff, Int.reduceLT, Int.reduceLE, Int.reduceToNat, Nat.reduceLT, Nat.reduceLeDiff, Int.reduceEq, Int.reduceNeg, IntKind.bits, Nat.reduceAdd, Nat.reduceMul, Nat.reducePow, Int.reducePow, ini, fwi, F_ref18_Namer0_W, F_ref18_Namer1_W, F_ref18_Namer2_W, F_ref18_Namer4_W, F_ref18_Namer5_W, F_ref18_Namer5_g2, F_ref18_Namer5_g6, F_ref18_Namer5_g9, F_ref18_Namer5_g14, F_ref18_Namer5_g17, F_ref18_Namer5_g22, F_ref18_Namer5_g26, F_ref18_Namer5_g30, F_ref18_Namer6_W, F_ref18_Namer3_W, F_ref18_Namel0_W, F_ref18_Namer7_W, F_ref18_Namer7_g3, F_ref18_Namec_W, e4, a1, a2, b1, b2, c1, c2, e46, e95, e45]
    exact ⟨trivial, .inr ⟨hn, trivial, trivial⟩⟩
  · have a1 : ¬ ((97 : Int) ≤ c.toNat) := by omega
    have a2 : (c.toNat : Int) ≤ 122 := by omega
    have b1 : ¬ ((65 : Int) ≤ c.toNat) := by omega
    have b2 : (c.toNat : Int) ≤ 90 := by omega
    have c1 : ¬ ((48 : Int) ≤ c.toNat) := by omega
    have c2 : (c.toNat : Int) ≤ 57 := by omega
    have e46 : decide ((c.toNat : Int) = 46) = true := decide_eq_true (by omega)
    have e95 : decide ((c.toNat : Int) = 95) = false := decide_eq_false (by omega)
    have e45 : decide ((c.toNat : Int) = 45) = false := decide_eq_false (by omega)
    have hn : nmC c = true := nmC_t (by omega)
    simp only [fws, cond_true, cond_false, if_true, if_false, unV, isNil, optI, iV, stepI, evalR, reduceIte, reduceCtorEq, Nat.reduceEqDiff, Int.reduceLT, Int.reduceLE, Int.reduceToNat, Nat.reduceLT, Nat.reduceLeDiff, Int.reduceEq, Int.reduceNeg, IntKind.bits, Nat.reduceAdd, Nat.reduceMul, Nat.reducePow, Int.reducePow, ini, fwi, F_ref18_Namer0_W, F_ref18_Namer1_W, F_ref18_Namer2_W, F_ref18_Namer4_W, F_ref18_Namer5_W, F_ref18_Namer5_g2, F_ref18_Namer5_g6, F_ref18_Namer5_g9, F_ref18_Namer5_g14, F_ref18_Namer5_g17, F_ref18_Namer5_g22, F_ref18_Namer5_g26, F_ref18_Namer5_g30, F_ref18_Namer6_W, F_ref18_Namer3_W, F_ref18_Namel0_W, F_ref18_Namer7_W, F_ref18_Namer7_g3, F_ref18_Namec_W, e4, a1, a2, b1, b2, c1, c2, e46, e95, e45]
    exact ⟨trivial, .inl ⟨hn, trivial, e0, e3⟩⟩
  · have a1 : ¬ ((97 : Int) ≤ c.toNat) := by omega
    have a2 : (c.toNat : Int) ≤ 122 := by omega
    have b1 : ¬ ((65 : Int) ≤ c.toNat) := by omega
    have b2 : (c.toNat : Int) ≤ 90 := by omega
    have c1 : ¬ ((48 : Int) ≤ c.toNat) := by omega
    have c2 : (c.toNat : Int) ≤ 57 := by omega
    have e46 : decide ((c.toNat : Int) = 46) = false := decide_eq_false (by omega)
    have e95 : decide ((c.toNat : Int) = 95) = false := decide_eq_false (by omega)
    have e45 : decide ((c.toNat : Int) = 45) = true := decide_eq_true (by omega)
    have hn : nmC c = true := nmC_t (by omega)
    simp only [fws, cond_true, cond_false, if_true, if_false, unV, isNil, optI, iV, stepI, evalR, reduceIte, reduceCtorEq, Nat.reduceEqDiff, Int.reduceLT, Int.reduceLE, Int.reduceToNat, Nat.reduceLT, Nat.reduceLeDiff, Int.reduceEq, Int.reduceNeg, IntKind.bits, Nat.reduceAdd, Nat.reduceMul, Nat.reducePow, Int.reducePow, ini, fwi, F_ref18_Namer0_W, F_ref18_Namer1_W, F_ref18_Namer2_W, F_ref18_Namer4_W, F_ref18_Namer5_W, F_ref18_Namer5_g2, F_ref18_Namer5_g6, F_ref18_Namer5_g9, F_ref18_Namer5_g14, F_ref18_Namer5_g17, F_ref18_Namer5_g22, F_ref18_Namer5_g26, F_ref18_Namer5_g30, F_ref18_Namer6_W, F_ref18_Namer3_W, F_ref18_Namel0_W, F_ref18_Namer7_W, F_ref18_Namer7_g3, F_ref18_Namec_W, e4, a1, a2, b1, b2, c1, c2, e46, e95, e45]
    exact ⟨trivial, .inl ⟨hn, trivial, e0, e3⟩⟩
  · have a1 : ¬ ((97 : Int) ≤ c.toNat) := by omega
    have a2 : (c.toNat : Int) ≤ 122 := by omega
    have b1 : ¬ ((65 : Int) ≤ c.toNat) := by omega
    have b2 : (c.toNat : Int) ≤ 90 := by omega
    have c1 : ¬ ((48 : Int) ≤ c.toNat) := by omega
    have c2 : (c.toNat : Int) ≤ 57 := by omega
    have e46 : decide ((c.toNat : Int) = 46) = false := decide_eq_false (by omega)
    have e95 : decide ((c.toNat : Int) = 95) = false := decide_eq_false (by omega)
    have e45 : decide ((c.toNat : Int) = 45) = false := decide_eq_false (by omega)
    have hn : nmC c = false := nmC_f (by omega)
    simp only [fws, cond_true, cond_false, if_true, if_false, unV, isNil, optI, iV, stepI, evalR, reduceIte, reduceCtorEq, Nat.reduceEqDiff, Int.reduceLT, Int.reduceLE, Int.reduceToNat, Nat.reduceLT, Nat.reduceLeDiff, Int.reduceEq, Int.reduceNeg, IntKind.bits, Nat.reduceAdd, Nat.reduceMul, Nat.reducePow, Int.reducePow, ini, fwi, F_ref18_Namer0_W, F_ref18_Namer1_W, F_ref18_Namer2_W, F_ref18_Namer4_W, F_ref18_Namer5_W, F_ref18_Namer5_g2, F_ref18_Namer5_g6, F_ref18_Namer5_g9, F_ref18_Namer5_g14, F_ref18_Namer5_g17, F_ref18_Namer5_g22, F_ref18_Namer5_g26, F_ref18_Namer5_g30, F_ref18_Namer6_W, F_ref18_Namer3_W, F_ref18_Namel0_W, F_ref18_Namer7_W, F_ref18_Namer7_g3, F_ref18_Namec_W, e4, a1, a2, b1, b2, c1, c2, e46, e95, e45]
    exact ⟨trivial, .inr ⟨hn, trivial, trivial⟩⟩
theorem loop_name (l : List UInt8) (hl : l.length ≤ 100000000) : ∀ (k i : Nat) (env : Env), i + k = l.length → env 0 = strV l → env 3 = .int .i64 i →
    W T (.loop F_ref18_Namel0) env [] fun x e h => h = [] ∧ ((x = .exit 0 ∧ e 0 = strV l ∧ (l.drop i).all nmC = true) ∨ (x = .ret ∧ e 2 = .bool false ∧ (l.drop i).all nmC = false)) := by
  intro k
  induction k with
  | zero =>
    intro i env hi e0 e3
    have q : ¬ ((i : Int) < l.length) := by omega
    rw [w_loop, List.drop_of_length_le (by omega)]
    simp only [fws, cond_true, cond_false, if_true, if_false, unV, isNil, optI, iV, stepI, evalR, reduceIte, reduceCtorEq, Nat.reduceEqDiff, Int.reduceLT, Int.reduceLE, Int.reduceToNat, Nat.reduceLT, Nat.reduceLeDiff, Int.reduceEq, Int.reduceNeg, IntKind.bits, Nat.reduceAdd, Nat.reduceMul, Nat.reducePow, Int.reducePow, ini, fwi, F_ref18_Namer0_W, F_ref18_Namer1_W, F_ref18_Namer2_W, F_ref18_Namer4_W, F_ref18_Namer5_W, F_ref18_Namer5_g2, F_ref18_Namer5_g6, F_ref18_Namer5_g9, F_ref18_Namer5_g14, F_ref18_Namer5_g17, F_ref18_Namer5_g22, F_ref18_Namer5_g26, F_ref18_Namer5_g30, F_ref18_Namer6_W, F_ref18_Namer3_W, F_ref18_Namel0_W, F_ref18_Namer7_W, F_ref18_Namer7_g3, F_ref18_Namec_W, lenI_str, e0, e3, q]
    exact ⟨trivial, .inl ⟨trivial, trivial, rfl⟩⟩
  | succ k ih =>
    intro i env hi e0 e3
    have hix : i < l.length := by omega
    have q : ((i : Int) < l.length) := by omega
    have q0 : (0 : Int) ≤ (i : Int) := by omega
    have g := getD_at hix
    have w2 : IntKind.i64.wrap ((i : Int) + 1) = ((i + 1 : Nat) : Int) := by rw [wrapI64 (by omega) (by omega)]; rfl
    rw [w_loop, List.drop_eq_getElem_cons hix, List.all_cons]
    simp only [fws, cond_true, cond_false, if_true, if_false, unV, isNil, optI, iV, stepI, evalR, reduceIte, reduceCtorEq, Nat.reduceEqDiff, Int.reduceLT, Int.reduceLE, Int.reduceToNat, Nat.reduceLT, Nat.reduceLeDiff, Int.reduceEq, Int.reduceNeg, IntKind.bits, Nat.reduceAdd, Nat.reduceMul, Nat.reducePow, Int.reducePow, ini, fwi, F_ref18_Namer0_W, F_ref18_Namer1_W, F_ref18_Namer2_W, F_ref18_Namer4_W, F_ref18_Namer6_W, F_ref18_Namer3_W, F_ref18_Namel0_W, F_ref18_Namer7_W, F_ref18_Namer7_g3, F_ref18_Namec_W, lenI_str, e0, e3, q, q0, g, and_self, true_and]
    rw [← w_seq]
    refine W.mono (st_name (T := T) l[i] (v0 := strV l) (v3 := .int .i64 i) ?_ ?_ ?_) fun x e h ⟨q1, q2⟩ => ?_
    all_goals try (first | assumption | rfl)
    subst q1
    rcases q2 with ⟨hn, rfl, e0, e3⟩ | ⟨hn, rfl, e2⟩
    · rw [hn, Bool.true_and]
      simp only [fws, cond_true, cond_false, if_true, if_false, unV, isNil, optI, iV, stepI, evalR, reduceIte, reduceCtorEq, Nat.reduceEqDiff, Int.reduceLT, Int.reduceLE, Int.reduceToNat, Nat.reduceLT, Nat.reduceLeDiff, Int.reduceEq, Int.reduceNeg, IntKind.bits, Nat.reduceAdd, Nat.reduceMul, Nat.reducePow, Int.reducePow, ini, fwi, F_ref18_Namer0_W, F_ref18_Namer1_W, F_ref18_Namer2_W, F_ref18_Namer4_W, F_ref18_Namer6_W, F_ref18_Namer3_W, F_ref18_Namel0_W, F_ref18_Namer7_W, F_ref18_Namer7_g3, F_ref18_Namec_W, e3, w2]
      refine ih (i + 1) _ (by omega) ?_ ?_
      all_goals (first | assumption | rfl)
    · rw [hn, Bool.false_and]
      simp only [fws, cond_true, cond_false, if_true, if_false, unV, isNil, optI, iV, stepI, evalR, reduceIte, reduceCtorEq, Nat.reduceEqDiff, Int.reduceLT, Int.reduceLE, Int.reduceToNat, Nat.reduceLT, Nat.reduceLeDiff, Int.reduceEq, Int.reduceNeg, IntKind.bits, Nat.reduceAdd, Nat.reduceMul, Nat.reducePow, Int.reducePow, ini]
      exact ⟨trivial, .inr ⟨trivial, e2, trivial⟩⟩
theorem f_name (h : T 6 = some F_ref18_Name) (l : List UInt8) (hl : l.length ≤ 100000000) : FnV T 6 [strV l] (.bool (goodB l)) := by
  refine FnV_of rfl ?_
  rw [Ev_fn h rfl]
  simp only [F_ref18_Name, fws, cond_true, cond_false, if_true, if_false, unV, isNil, optI, iV, stepI, evalR, reduceIte, reduceCtorEq, Nat.reduceEqDiff, Int.reduceLT, Int.reduceLE, Int.reduceToNat, Nat.reduceLT, Nat.reduceLeDiff, Int.reduceEq, Int.reduceNeg, IntKind.bits, Nat.reduceAdd, Nat.reduceMul, Nat.reducePow, Int.reducePow, ini, fwh, lk, cellsAt, tagOf, spotOf, rdN, spl, fillL, zr, fwi, F_ref18_Namer0_W, F_ref18_Namer1_W, F_ref18_Namer2_W, F_ref18_Namer4_W, F_ref18_Namer5_W, F_ref18_Namer5_g2, F_ref18_Namer5_g6, F_ref18_Namer5_g9, F_ref18_Namer5_g14, F_ref18_Namer5_g17, F_ref18_Namer5_g22, F_ref18_Namer5_g26, F_ref18_Namer5_g30, F_ref18_Namer6_W, F_ref18_Namer3_W, F_ref18_Namer7_W, F_ref18_Namer7_g3, F_ref18_Namec_W]
  refine W.mono (loop_name l hl l.length 0 _ (Nat.zero_add _) ?_ ?_) fun x e h ⟨q1, q2⟩ => ?_
  all_goals try (first | assumption | rfl)
  subst q1
  rw [List.drop_zero] at q2
  unfold goodB
  rcases q2 with ⟨rfl, e0, hq⟩ | ⟨rfl, e2, hq⟩
  · rw [hq]
    by_cases hn : l = []
    · subst hn
      have b0 : ¬ ((1 : Int) ≤ (([] : List UInt8).length : Int)) := by simp
      simp only [fws, cond_true, cond_false, if_true, if_false, unV, isNil, optI, iV, stepI, evalR, reduceIte, reduceCtorEq, Nat.reduceEqDiff, Int.reduceLT, Int.reduceLE, Int.reduceToNat, Nat.reduceLT, Nat.reduceLeDiff, Int.reduceEq, Int.reduceNeg, IntKind.bits, Nat.reduceAdd, Nat.reduceMul, Nat.reducePow, Int.reducePow, ini, fwi, F_ref18_Namer0_W, F_ref18_Namer1_W, F_ref18_Namer2_W, F_ref18_Namer4_W, F_ref18_Namer5_W, F_ref18_Namer5_g2, F_ref18_Namer5_g6, F_ref18_Namer5_g9, F_ref18_Namer5_g14, F_ref18_Namer5_g17, F_ref18_Namer5_g22, F_ref18_Namer5_g26, F_ref18_Namer5_g30, F_ref18_Namer6_W, F_ref18_Namer3_W, F_ref18_Namel0_W, F_ref18_Namer7_W, F_ref18_Namer7_g3, F_ref18_Namec_W, e0, lenI_str, b0]
      rfl
    · have b0 : (1 : Int) ≤ l.length := by have := List.length_pos_iff.2 hn; omega
      have d0 : decide (l ≠ []) = true := decide_eq_true hn
      rw [d0]
      by_cases h256 : l.length ≤ 256
      · have q : ((l.length : Int) ≤ 256) := by omega
        simp only [fws, cond_true, cond_false, if_true, if_false, unV, isNil, optI, iV, stepI, evalR, reduceIte, reduceCtorEq, Nat.reduceEqDiff, Int.reduceLT, Int.reduceLE, Int.reduceToNat, Nat.reduceLT, Nat.reduceLeDiff, Int.reduceEq, Int.reduceNeg, IntKind.bits, Nat.reduceAdd, Nat.reduceMul, Nat.reducePow, Int.reducePow, ini, fwi, F_ref18_Namer0_W, F_ref18_Namer1_W, F_ref18_Namer2_W, F_ref18_Namer4_W, F_ref18_Namer5_W, F_ref18_Namer5_g2, F_ref18_Namer5_g6, F_ref18_Namer5_g9, F_ref18_Namer5_g14, F_ref18_Namer5_g17, F_ref18_Namer5_g22, F_ref18_Namer5_g26, F_ref18_Namer5_g30, F_ref18_Namer6_W, F_ref18_Namer3_W, F_ref18_Namel0_W, F_ref18_Namer7_W, F_ref18_Namer7_g3, F_ref18_Namec_W, e0, b0, lenI_str, q, h256]
        rfl
      · have q : ¬ ((l.length : Int) ≤ 256) := by omega
        simp only [fws, cond_true, cond_false, if_true, if_false, unV, isNil, optI, iV, stepI, evalR, reduceIte, reduceCtorEq, Nat.reduceEqDiff, Int.reduceLT, Int.reduceLE, Int.reduceToNat, Nat.reduceLT, Nat.reduceLeDiff, Int.reduceEq, Int.reduceNeg, IntKind.bits, Nat.reduceAdd, Nat.reduceMul, Nat.reducePow, Int.reducePow, ini, fwi, F_ref18_Namer0_W, F_ref18_Namer1_W, F_ref18_Namer2_W, F_ref18_Namer4_W, F_ref18_Namer5_W, F_ref18_Namer5_g2, F_ref18_Namer5_g6, F_ref18_Namer5_g9, F_ref18_Namer5_g14, F_ref18_Namer5_g17, F_ref18_Namer5_g22, F_ref18_Namer5_g26, F_ref18_Namer5_g30, F_ref18_Namer6_W, F_ref18_Namer3_W, F_ref18_Namel0_W, F_ref18_Namer7_W, F_ref18_Namer7_g3, F_ref18_Namec_W, e0, b0, lenI_str, q, h256]
        rfl
  · rw [hq]
    simp only [fws, cond_true, cond_false, if_true, if_false, unV, isNil, optI, iV, stepI, evalR, reduceIte, reduceCtorEq, Nat.reduceEqDiff, Int.reduceLT, Int.reduceLE, Int.reduceToNat, Nat.reduceLT, Nat.reduceLeDiff, Int.reduceEq, Int.reduceNeg, IntKind.bits, Nat.reduceAdd, Nat.reduceMul, Nat.reducePow, Int.reducePow, ini, F_ref18_Namer0_W, F_ref18_Namer1_W, F_ref18_Namer2_W, F_ref18_Namer4_W, F_ref18_Namer5_W, F_ref18_Namer5_g2, F_ref18_Namer5_g6, F_ref18_Namer5_g9, F_ref18_Namer5_g14, F_ref18_Namer5_g17, F_ref18_Namer5_g22, F_ref18_Namer5_g26, F_ref18_Namer5_g30, F_ref18_Namer6_W, F_ref18_Namer3_W, F_ref18_Namel0_W, F_ref18_Namer7_W, F_ref18_Namer7_g3, F_ref18_Namec_W, e2]
    rfl
theorem f_ends (h : T 7 = some F_ref18_Ends) (l m : List UInt8) (hl : l.length ≤ 100000000) : FnV T 7 [strV l, strV m] (.bool (endsB l m)) := by
  refine FnV_of rfl ?_
  rw [Ev_fn h rfl]
  unfold endsB
  by_cases h : m.length ≤ l.length
  · have q1 : ((m.length : Int) ≤ l.length) := by omega
    have w1 : IntKind.i64.wrap ((l.length : Int) - m.length) = ((l.length - m.length : Nat) : Int) := by rw [wrapI64 (by omega) (by omega)]; omega
    have q2 : (0 : Int) ≤ ((l.length - m.length : Nat) : Int) := by omega
    have q3 : ((l.length - m.length : Nat) : Int) ≤ l.length := by omega
    have td : (l.drop (l.length - m.length)).take (l.length - (l.length - m.length)) = l.drop (l.length - m.length) := List.take_of_length_le (by rw [List.length_drop]; exact Nat.le_refl _)
    simp only [F_ref18_Ends, fws, cond_true, cond_false, if_true, if_false, unV, isNil, optI, iV, stepI, evalR, reduceIte, reduceCtorEq, Nat.reduceEqDiff, Int.reduceLT, Int.reduceLE, Int.reduceToNat, Nat.reduceLT, Nat.reduceLeDiff, Int.reduceEq, Int.reduceNeg, IntKind.bits, Nat.reduceAdd, Nat.reduceMul, Nat.reducePow, Int.reducePow, ini, fwh, lk, cellsAt, tagOf, spotOf, rdN, spl, fillL, zr, fwi, F_ref18_Endsr0_W, F_ref18_Endsr1_W, F_ref18_Endsr1_g5, F_ref18_Endsc_W, lenI_str, q1, w1, q2, q3, true_and, and_self, Int.le_refl, td, h]
    rfl
  · have q1 : ¬ ((m.length : Int) ≤ l.length) := by omega
    simp only [F_ref18_Ends, fws, cond_true, cond_false, if_true, if_false, unV, isNil, optI, iV, stepI, evalR, reduceIte, reduceCtorEq, Nat.reduceEqDiff, Int.reduceLT, Int.reduceLE, Int.reduceToNat, Nat.reduceLT, Nat.reduceLeDiff, Int.reduceEq, Int.reduceNeg, IntKind.bits, Nat.reduceAdd, Nat.reduceMul, Nat.reducePow, Int.reducePow, ini, fwh, lk, cellsAt, tagOf, spotOf, rdN, spl, fillL, zr, fwi, F_ref18_Endsr0_W, F_ref18_Endsr1_W, F_ref18_Endsr1_g5, F_ref18_Endsc_W, lenI_str, q1, h]
    rfl
def getV : Option (List UInt8) → Value
  | some v => .tuple #[strV v, .bool true]
  | none => .tuple #[strV [], .bool false]
def GtP (o : Option (List UInt8)) : Post := fun x e h => (x = .ret ∧ ∃ v, o = some v ∧ e 4 = strV v ∧ e 5 = .bool true) ∨ (x = .exit 0 ∧ o = none)
theorem loop_Get (o : Option (List Pr)) (hl : (lst o).length ≤ 1000000) (nm : List UInt8) : ∀ (k i : Nat) (H : Heap) (env : Env), i + k = (lst o).length → env 1 = strV nm → env 9 = slV PrE o → env 10 = .int .i64 (lst o).length → env 11 = .int .i64 i →
    W T (.loop F_conf_Section_Getl0) env H (GtP (getM nm ((lst o).drop i))) := by
  intro k
  induction k with
  | zero =>
    intro i H env hi e1 e9 e10 e11
    have q : ¬ ((i : Int) < (lst o).length) := by omega
    rw [w_loop, List.drop_of_length_le (by omega)]
    simp only [fws, cond_true, cond_false, if_true, if_false, unV, isNil, optI, iV, stepI, evalR, reduceIte, reduceCtorEq, Nat.reduceEqDiff, Int.reduceLT, Int.reduceLE, Int.reduceToNat, Nat.reduceLT, Nat.reduceLeDiff, Int.reduceEq, Int.reduceNeg, IntKind.bits, Nat.reduceAdd, Nat.reduceMul, Nat.reducePow, Int.reducePow, ini, fwi, F_conf_Section_Getr0_W, F_conf_Section_Getr1_W, F_conf_Section_Getr2_W, F_conf_Section_Getr3_W, F_conf_Section_Getr4_W, F_conf_Section_Getr5_W, F_conf_Section_Getr6_W, F_conf_Section_Getl0_W, F_conf_Section_Getr7_W, F_conf_Section_Getc_W, e9, e10, e11, q]
    exact .inr ⟨rfl, rfl⟩
  | succ k ih =>
    intro i H env hi e1 e9 e10 e11
    have hix : i < (lst o).length := by omega
    have q : ((i : Int) < (lst o).length) := by omega
    have hx := fun H => ix_sl (E := PrE) (o := o) (n := 3) rfl hix .i64 H
    have hld : ∀ H, loadNI H 3 (atI PrE (lst o) i) = some (.agg #[strV (lst o)[i].n, strV (lst o)[i].v, .int .i64 (lst o)[i].l], H) := fun H => loadNI_at (E := PrE) (H := H) (n := 3) rfl hix
    have w2 : IntKind.i64.wrap ((i : Int) + 1) = ((i + 1 : Nat) : Int) := by rw [wrapI64 (by omega) (by omega)]; rfl
    rw [w_loop, List.drop_eq_getElem_cons hix, getM]
    generalize (lst o)[i] = p at *
    by_cases h : p.n = nm
    · rw [if_pos h]
      have b0 : decide (p.n = nm) = true := decide_eq_true h
      simp only [fws, cond_true, cond_false, if_true, if_false, unV, isNil, optI, iV, stepI, evalR, reduceIte, reduceCtorEq, Nat.reduceEqDiff, Int.reduceLT, Int.reduceLE, Int.reduceToNat, Nat.reduceLT, Nat.reduceLeDiff, Int.reduceEq, Int.reduceNeg, IntKind.bits, Nat.reduceAdd, Nat.reduceMul, Nat.reducePow, Int.reducePow, ini, fwh, lk, cellsAt, tagOf, spotOf, rdN, spl, fillL, zr, fwi, F_conf_Section_Getr0_W, F_conf_Section_Getr1_W, F_conf_Section_Getr2_W, F_conf_Section_Getr3_W, F_conf_Section_Getr4_W, F_conf_Section_Getr5_W, F_conf_Section_Getr6_W, F_conf_Section_Getl0_W, F_conf_Section_Getr7_W, F_conf_Section_Getc_W, e1, e9, e10, e11, q, hx, hld, b0]
      exact .inl ⟨rfl, _, rfl, rfl, rfl⟩
    · rw [if_neg h]
      have b0 : decide (p.n = nm) = false := decide_eq_false h
      simp only [fws, cond_true, cond_false, if_true, if_false, unV, isNil, optI, iV, stepI, evalR, reduceIte, reduceCtorEq, Nat.reduceEqDiff, Int.reduceLT, Int.reduceLE, Int.reduceToNat, Nat.reduceLT, Nat.reduceLeDiff, Int.reduceEq, Int.reduceNeg, IntKind.bits, Nat.reduceAdd, Nat.reduceMul, Nat.reducePow, Int.reducePow, ini, fwh, lk, cellsAt, tagOf, spotOf, rdN, spl, fillL, zr, fwi, F_conf_Section_Getr0_W, F_conf_Section_Getr1_W, F_conf_Section_Getr2_W, F_conf_Section_Getr3_W, F_conf_Section_Getr4_W, F_conf_Section_Getr5_W, F_conf_Section_Getr6_W, F_conf_Section_Getl0_W, F_conf_Section_Getr7_W, F_conf_Section_Getc_W, e1, e9, e10, e11, q, hx, hld, b0, w2]
      refine ih (i + 1) _ _ (by omega) ?_ ?_ ?_ ?_
      all_goals (first | assumption | rfl)
theorem f_Get (h : T 10 = some F_conf_Section_Get) (n nm : List UInt8) (o : Option (List Pr)) (hl : (lst o).length ≤ 1000000) : FnV T 10 [.agg #[strV n, slV PrE o], strV nm] (getV (getM nm (lst o))) := by
  refine FnV_of (by simp [pure_agg, pure_string, pure_sl (E := PrE) (k := 5) (o := o) rfl]) ?_
  rw [Ev_fn h rfl]
  have ho : oneC (slV PrE o) = true := oneC_sl
  simp only [F_conf_Section_Get, fws, cond_true, cond_false, if_true, if_false, unV, isNil, optI, iV, stepI, evalR, reduceIte, reduceCtorEq, Nat.reduceEqDiff, Int.reduceLT, Int.reduceLE, Int.reduceToNat, Nat.reduceLT, Nat.reduceLeDiff, Int.reduceEq, Int.reduceNeg, IntKind.bits, Nat.reduceAdd, Nat.reduceMul, Nat.reducePow, Int.reducePow, ini, fwh, lk, cellsAt, tagOf, spotOf, rdN, spl, fillL, zr, fwi, F_conf_Section_Getr0_W, F_conf_Section_Getr1_W, F_conf_Section_Getr2_W, F_conf_Section_Getr3_W, F_conf_Section_Getr4_W, F_conf_Section_Getr5_W, F_conf_Section_Getr6_W, F_conf_Section_Getr7_W, F_conf_Section_Getc_W, ho, lenI_sl]
  refine W.mono (loop_Get o hl nm (lst o).length 0 _ _ (Nat.zero_add _) ?_ ?_ ?_ ?_) fun x e h hq => ?_
  all_goals try (first | assumption | rfl)
  rw [List.drop_zero] at hq
  rcases hq with ⟨rfl, v, h1, e4, e5⟩ | ⟨rfl, h1⟩
  · rw [h1]
    simp only [fws, cond_true, cond_false, if_true, if_false, unV, isNil, optI, iV, stepI, evalR, reduceIte, reduceCtorEq, Nat.reduceEqDiff, Int.reduceLT, Int.reduceLE, Int.reduceToNat, Nat.reduceLT, Nat.reduceLeDiff, Int.reduceEq, Int.reduceNeg, IntKind.bits, Nat.reduceAdd, Nat.reduceMul, Nat.reducePow, Int.reducePow, ini, F_conf_Section_Getr0_W, F_conf_Section_Getr1_W, F_conf_Section_Getr2_W, F_conf_Section_Getr3_W, F_conf_Section_Getr4_W, F_conf_Section_Getr5_W, F_conf_Section_Getr6_W, F_conf_Section_Getl0_W, F_conf_Section_Getr7_W, F_conf_Section_Getc_W, e4, e5]
    rfl
  · rw [h1]
    simp only [fws, cond_true, cond_false, if_true, if_false, unV, isNil, optI, iV, stepI, evalR, reduceIte, reduceCtorEq, Nat.reduceEqDiff, Int.reduceLT, Int.reduceLE, Int.reduceToNat, Nat.reduceLT, Nat.reduceLeDiff, Int.reduceEq, Int.reduceNeg, IntKind.bits, Nat.reduceAdd, Nat.reduceMul, Nat.reducePow, Int.reducePow, ini, F_conf_Section_Getr0_W, F_conf_Section_Getr1_W, F_conf_Section_Getr2_W, F_conf_Section_Getr3_W, F_conf_Section_Getr4_W, F_conf_Section_Getr5_W, F_conf_Section_Getr6_W, F_conf_Section_Getl0_W, F_conf_Section_Getr7_W, F_conf_Section_Getc_W]
    rfl
end
end Go.Proofs.YtbhoaiacnoiocaaDoor
/- ConfLast, plain. -/
namespace Go.Proofs.YtbhoaiacnoiocaaDoor
open Go Fw
set_option linter.unusedSimpArgs false
set_option linter.unusedVariables false
set_option linter.unusedSectionVars false

theorem bareL_len (x : List UInt8) : (bareL x).length ≤ x.length := Nat.le_trans (trimF_len _) (List.takeWhile_sublist _).length_le
theorem OkF.parse {icl : List UInt8 → Bool} : ∀ (l : List (List UInt8)) (i : Nat) (F F' : Fm) (N : Nat), (∀ x ∈ l, x.length ≤ 20000) → OkF F N → parseM icl l i F = .inr F' → OkF F' (N + l.length)
  | [], i, F, F', N, _, h, e => by cases e; exact h
  | x :: r, i, F, F', N, hl, h, e => by
    have hx := hl x (by simp)
    have hr : ∀ y ∈ r, y.length ≤ 20000 := fun y hy => hl y (by simp [hy])
    have hn : N + (x :: r).length = N + 1 + r.length := by rw [List.length_cons]; omega
    rw [hn]
    simp only [parseM] at e
    split at e
    · split at e
      · exact OkF.parse r (i + 1) F F' (N + 1) hr h.next e
      · split at e
        · cases e
        · rename_i F1 h1
          exact OkF.parse r (i + 1) F1 F' (N + 1) hr (h.line (Nat.le_trans (bareL_len x) hx) h1) e
    · cases e
theorem parse_ok {icl : List UInt8 → Bool} {l : List UInt8} {F : Fm} (h : parseT icl l = .inr F) : OnceF F ∧ F.secs.length ≤ 100000 ∧ ∀ x ∈ F.secs, x.2.length ≤ 100000 ∧ ∀ q ∈ x.2, q.v.length ≤ 4000000000 := by
  unfold parseT at h
  split at h
  · cases h
  · rename_i hl
    have h0 := OkF.parse _ _ ⟨[], []⟩ _ 0 (fun x hx => by have := splitF_mem x hx; omega) ⟨Nat.le_refl _, Nat.le_refl _, fun x hx => by simp at hx⟩ h
    have h2 : (splitF 10 l).length ≤ 20000 := by rw [splitF_len]; have := List.count_le_length (a := (10 : UInt8)) (l := l); omega
    refine ⟨OnceF.parse _ _ ⟨[], []⟩ _ (fun x hx => by simp at hx) h, by have := h0.s; omega, fun x hx => ?_⟩
    have h1 := h0.p x hx
    refine ⟨by omega, fun q hq => ?_⟩
    have h3 := h1.2 q hq
    rw [lim_eq] at h3
    omega
/-! ### what Parse answers, part by part -/
def pD : PRes → Value
  | .inl _ => .slice none 0 0
  | .inr b => slV PrE b.1
def pS : PRes → Value
  | .inl _ => .slice none 0 0
  | .inr b => slV SecE b.2
def pA : PRes → Int
  | .inl a => a.1
  | .inr _ => 0
def pE : PRes → Int
  | .inl a => a.2
  | .inr _ => 0
def nS : PRes → Nat
  | .inl _ => 0
  | .inr b => (lst b.2).length
theorem PV_eq (x : PRes) : PV x = .tuple #[.agg #[pD x, pS x], .int .i64 (pA x), .int .i64 (pE x)] := by cases x <;> rfl
theorem pD_one (x : PRes) : oneC (pD x) = true := by
  cases x with
  | inl a => rfl
  | inr b => exact oneC_sl
theorem pS_one (x : PRes) : oneC (pS x) = true := by
  cases x with
  | inl a => rfl
  | inr b => exact oneC_sl
theorem pS_len (x : PRes) (H : Heap) : lenI H 1 (pS x) = some (.int .i64 (nS x), H) := by
  cases x with
  | inl a => rfl
  | inr b => exact lenI_sl
def gV (o : Option (List UInt8)) : List UInt8 := match o with | some v => v | none => []
theorem getV_eq (o : Option (List UInt8)) : getV o = .tuple #[strV (gV o), .bool o.isSome] := by cases o <;> rfl
theorem gV_len {N : Nat} {n : List UInt8} : ∀ {ps : List Pr}, (∀ q ∈ ps, q.v.length ≤ N) → (gV (getM n ps)).length ≤ N
  | [], _ => Nat.zero_le _
  | p :: r, h => by
    simp only [getM]
    split
    · exact h p (by simp)
    · exact gV_len fun q hq => h q (by simp [hq])
/-! ### the law -/
def wantM (n v : List UInt8) (more : Bool) (ps : List Pr) : List UInt8 := match getM n ps with
  | some w => if more = true ∧ w ≠ [] then w ++ (58 :: v) else v
  | none => v
structure LastOk (n v : List UInt8) (more : Bool) (m : Nat) (ps qs : List Pr) : Prop where
  l0 : m ≤ 1000000
  l1 : ps.length ≤ 1000000
  l2 : qs.length ≤ 1000000
  g : getM n qs = some (wantM n v more ps)
  o : ∀ q ∈ ps, q.n ≠ n → getM q.n qs = some q.v
  w : (gV (getM n ps)).length ≤ 4000000000
theorem SecM.len {os : List Sec} {ss : List (List UInt8 × List Pr)} (h : SecM os ss) : os.length = ss.length := by
  unfold SecM at h; rw [← h, List.length_map]
theorem SecM.at {os : List Sec} {ss : List (List UInt8 × List Pr)} (h : SecM os ss) {i : Nat} (hi : i < os.length) (hj : i < ss.length) : lst os[i].2 = ss[i].2 := by
  unfold SecM at h
  have : ss[i] = ((os[i].1, lst os[i].2)) := by subst h; rw [List.getElem_map]
  rw [this]
theorem last_plain {icl : List UInt8 → Bool} {a n v : List UInt8} {more : Bool} {x y : PRes} (hg : goodB n = true) (h1 : n ≠ addL) (h2 : endsB n linksL = false) (hv : ∀ c ∈ v, valC c = true) (hla : a.length ≤ 8000) (hln : n.length ≤ 100) (hlv : v.length ≤ 1000)
    (hx : PRel (parseT icl a) x) (hy : PRel (parseT icl (a ++ 10 :: (moreX n v more ++ [10]))) y) :
    nS x = 0 ∨ ∃ b b' m, x = .inr b ∧ y = .inr b' ∧ (lst b.2).length = m + 1 ∧ (lst b'.2).length = m + 1 ∧ ∃ (hm : m < (lst b.2).length) (hm' : m < (lst b'.2).length), LastOk n v more m (lst (lst b.2)[m].2) (lst (lst b'.2)[m].2) := by
  cases x with
  | inl e => exact .inl rfl
  | inr b =>
    cases hp : parseT icl a with
    | inl e => rw [hp] at hx; exact hx.elim
    | inr F =>
      rw [hp] at hx
      obtain ⟨_, x2⟩ := hx
      have hxl := x2.len
      by_cases hs : 0 < F.secs.length
      · right
        obtain ⟨at_, hq⟩ := parse_more (icl := icl) (more := more) hg hv hla hln hlv hp hs
        rw [hq] at hy
        cases y with
        | inl e => exact hy.elim
        | inr b' =>
          obtain ⟨_, y2⟩ := hy
          have hyl := y2.len
          simp only [List.length_set] at hyl
          obtain ⟨m, hm⟩ : ∃ m, F.secs.length = m + 1 := ⟨F.secs.length - 1, by omega⟩
          have hm1 : F.secs.length - 1 = m := by omega
          refine ⟨b, b', m, rfl, rfl, by omega, by omega, by omega, by omega, ?_⟩
          have a1 := x2.at (i := m) (by omega) (by omega)
          have a2 := y2.at (i := m) (by omega) (by simp only [List.length_set]; omega)
          rw [a1, a2]
          simp only [hm1, List.getElem_set_self]
          obtain ⟨o1, o3, o2⟩ := parse_ok hp
          have d1 := o1 _ (List.getElem_mem (show m < F.secs.length by omega))
          have d2 := o2 _ (List.getElem_mem (show m < F.secs.length by omega))
          generalize hps : (F.secs[m]'(by omega)).2 = ps at *
          refine ⟨by omega, by have := d2.1; omega, ?_, ?_, fun q hq hqn => ?_, gV_len d2.2⟩
          · have : (setP ps ⟨n, v, at_⟩ more).length ≤ ps.length + 1 := by
              have := congrArg List.length (setP_names ⟨n, v, at_⟩ more ps)
              unfold nameN at this
              rw [List.length_map] at this
              rw [this]
              split <;> simp
            have := d2.1
            omega
          · have := getM_set ⟨n, v, at_⟩ more ps
            rw [this]
            unfold wantM
            rw [betw_name h1 h2]
            rfl
          · rw [getM_other ⟨n, v, at_⟩ more hqn]
            exact getM_mem d1 q hq
      · left
        show (lst b.2).length = 0
        omega
end Go.Proofs.YtbhoaiacnoiocaaDoor
/- ConfLast's guards. -/
namespace Go.Proofs.YtbhoaiacnoiocaaDoor
open Go Fw
set_option linter.unusedSimpArgs false
set_option linter.unusedVariables false
set_option linter.unusedSectionVars false

theorem sec_ld {l : List Sec} {i : Nat} (h : i < l.length) (H : Heap) : loadNI H 2 (atI SecE l i) = some (.agg #[strV l[i].1, slV PrE l[i].2], H) := loadNI_at (E := SecE) (H := H) (n := 2) rfl h
theorem sec_fa {l : List Sec} {i : Nat} (h : i < l.length) : ∃ r, ∀ H, faI H 1 (atI SecE l i) = some (iptrV (slV PrE l[i].2 :: r), H) := by
  refine ⟨SecE.cs (l.drop (i + 1)), fun H => ?_⟩
  rw [at_cons h]
  rfl
abbrev blk4 (a n v : List UInt8) (more : Bool) : Entry := ⟨0, .cells false 4 [strV a, strV n, strV v, .bool more]⟩
section
variable {T : Tab}
/-- The guard of the bytes. -/
def LzP (a n v : List UInt8) (mv : Value) (H : Heap) (l : List UInt8) : Post := fun x e h => h = H ∧ ((x = .exit 0 ∧ e 3 = strV a ∧ e 4 = strV n ∧ e 5 = strV v ∧ e 6 = mv ∧ ∀ c ∈ l, valC c = true) ∨ (x = .ret ∧ e 2 = .bool true))
theorem loop_L0 (v : List UInt8) (hl : v.length ≤ 1000) {a n : List UInt8} {mv : Value} {H : Heap} : ∀ (k i : Nat) (env : Env), i + k = v.length → env 3 = strV a → env 4 = strV n → env 5 = strV v → env 6 = mv → env 7 = .int .i64 i →
    W T (.loop F_law18_ConfLastl0) env H (LzP a n v mv H (v.drop i)) := by
  intro k
  induction k with
  | zero =>
    intro i env hi e3 e4 e5 e6 e7
    have q : ¬ ((i : Int) < v.length) := by omega
    rw [w_loop, List.drop_of_length_le (by omega)]
    simp only [fws, cond_true, cond_false, if_true, if_false, unV, isNil, optI, iV, stepI, evalR, reduceIte, reduceCtorEq, Nat.reduceEqDiff, Int.reduceLT, Int.reduceLE, Int.reduceToNat, Nat.reduceLT, Nat.reduceLeDiff, Int.reduceEq, Int.reduceNeg, IntKind.bits, Nat.reduceAdd, Nat.reduceMul, Nat.reducePow, Int.reducePow, ini, fwi, F_law18_ConfLastr0_W, F_law18_ConfLastr1_W, F_law18_ConfLastr2_W, F_law18_ConfLastr2_g3, F_law18_ConfLastr2_g8, F_law18_ConfLastr2_g13, F_law18_ConfLastr2_g18, F_law18_ConfLastr2_g22, F_law18_ConfLastr3_W, F_law18_ConfLastr4_W, F_law18_ConfLastr5_W, F_law18_ConfLastr7_W, F_law18_ConfLastr7_g4, F_law18_ConfLastr7_g10, F_law18_ConfLastr8_W, F_law18_ConfLastr6_W, F_law18_ConfLastl0_W, F_law18_ConfLastr9_W, F_law18_ConfLastr10_W, F_law18_ConfLastr11_W, F_law18_ConfLastr12_W, F_law18_ConfLastr13_W, F_law18_ConfLastr14_W, F_law18_ConfLastr14_g2, F_law18_ConfLastr15_W, F_law18_ConfLastr16_W, F_law18_ConfLastr16_g2, F_law18_ConfLastr17_W, F_law18_ConfLastr18_W, F_law18_ConfLastr19_W, F_law18_ConfLastr20_W, F_law18_ConfLastr21_W, F_law18_ConfLastr22_W, F_law18_ConfLastr22_g1, F_law18_ConfLastr22_g4, F_law18_ConfLastr23_W, F_law18_ConfLastr24_W, F_law18_ConfLastr24_g2, F_law18_ConfLastr24_g6, F_law18_ConfLastr24_g10, F_law18_ConfLastr25_W, F_law18_ConfLastr26_W, F_law18_ConfLastr27_W, F_law18_ConfLastr29_W, F_law18_ConfLastr30_W, F_law18_ConfLastr31_W, F_law18_ConfLastr31_g4, F_law18_ConfLastr31_g7, F_law18_ConfLastr32_W, F_law18_ConfLastr28_W, F_law18_ConfLastl1_W, F_law18_ConfLastr33_W, F_law18_ConfLastc_W, lenI_str, e5, e7, q]
    exact ⟨rfl, .inl ⟨rfl, e3, e4, e5, e6, fun _ h => nomatch h⟩⟩
  | succ k ih =>
    intro i env hi e3 e4 e5 e6 e7
    have hix : i < v.length := by omega
    have q : ((i : Int) < v.length) := by omega
    have q0 : (0 : Int) ≤ (i : Int) := by omega
    have g := getD_at hix
    have w2 : IntKind.i64.wrap ((i : Int) + 1) = ((i + 1 : Nat) : Int) := by rw [wrapI64 (by omega) (by omega)]; rfl
    rw [w_loop, List.drop_eq_getElem_cons hix]
    generalize v[i] = c at *
    have key : (c.toNat ≤ 32) ∨ (32 < c.toNat ∧ 126 < c.toNat) ∨ (32 < c.toNat ∧ c.toNat ≤ 126 ∧ c.toNat = 35) ∨ (32 < c.toNat ∧ c.toNat ≤ 126 ∧ c.toNat ≠ 35) := by omega
    rcases key with k1 | k1 | k1 | k1
    · have a1 : (c.toNat : Int) ≤ 32 := by omega
      simp only [fws, cond_true, cond_false, if_true, if_false, unV, isNil, optI, iV, stepI, evalR, reduceIte, reduceCtorEq, Nat.reduceEqDiff, Int.reduceLT, Int.reduceLE, Int.reduceToNat, Nat.reduceLT, Nat.reduceLeDiff, Int.reduceEq, Int.reduceNeg, IntKind.bits, Nat.reduceAdd, Nat.reduceMul, Nat.reducePow, Int.reducePow, ini, fwi, F_law18_ConfLastr0_W, F_law18_ConfLastr1_W, F_law18_ConfLastr2_W, F_law18_ConfLastr2_g3, F_law18_ConfLastr2_g8, F_law18_ConfLastr2_g13, F_law18_ConfLastr2_g18, F_law18_ConfLastr2_g22, F_law18_ConfLastr3_W, F_law18_ConfLastr4_W, F_law18_ConfLastr5_W, F_law18_ConfLastr7_W, F_law18_ConfLastr7_g4, F_law18_ConfLastr7_g10, F_law18_ConfLastr8_W, F_law18_ConfLastr6_W, F_law18_ConfLastl0_W, F_law18_ConfLastr9_W, F_law18_ConfLastr10_W, F_law18_ConfLastr11_W, F_law18_ConfLastr12_W, F_law18_ConfLastr13_W, F_law18_ConfLastr14_W, F_law18_ConfLastr14_g2, F_law18_ConfLastr15_W, F_law18_ConfLastr16_W, F_law18_ConfLastr16_g2, F_law18_ConfLastr17_W, F_law18_ConfLastr18_W, F_law18_ConfLastr19_W, F_law18_ConfLastr20_W, F_law18_ConfLastr21_W, F_law18_ConfLastr22_W, F_law18_ConfLastr22_g1, F_law18_ConfLastr22_g4, F_law18_ConfLastr23_W, F_law18_ConfLastr24_W, F_law18_ConfLastr24_g2, F_law18_ConfLastr24_g6, F_law18_ConfLastr24_g10, F_law18_ConfLastr25_W, F_law18_ConfLastr26_W, F_law18_ConfLastr27_W, F_law18_ConfLastr29_W, F_law18_ConfLastr30_W, F_law18_ConfLastr31_W, F_law18_ConfLastr31_g4, F_law18_ConfLastr31_g7, F_law18_ConfLastr32_W, F_law18_ConfLastr28_W, F_law18_ConfLastl1_W, F_law18_ConfLastr33_W, F_law18_ConfLastc_W, lenI_str, e5, e7, q, q0, g, a1, and_self, true_and]
      exact ⟨rfl, .inr ⟨rfl, rfl⟩⟩
    · have a1 : ¬ ((c.toNat : Int) ≤ 32) := by omega
      have a2 : (126 : Int) < c.toNat := by omega
      simp only [fws, cond_true, cond_false, if_true, if_false, unV, isNil, optI, iV, stepI, evalR, reduceIte, reduceCtorEq, Nat.reduceEqDiff, Int.reduceLT, Int.reduceLE, Int.reduceToNat, Nat.reduceLT, Nat.reduceLeDiff, Int.reduceEq, Int.reduceNeg, IntKind.bits, Nat.reduceAdd, Nat.reduceMul, Nat.reducePow, Int.reducePow, ini, fwi, F_law18_ConfLastr0_W, F_law18_ConfLastr1_W, F_law18_ConfLastr2_W, F_law18_ConfLastr2_g3, F_law18_ConfLastr2_g8, F_law18_ConfLastr2_g13, F_law18_ConfLastr2_g18, F_law18_ConfLastr2_g22, F_law18_ConfLastr3_W, F_law18_ConfLastr4_W, F_law18_ConfLastr5_W, F_law18_ConfLastr7_W, F_law18_ConfLastr7_g4, F_law18_ConfLastr7_g10, F_law18_ConfLastr8_W, F_law18_ConfLastr6_W, F_law18_ConfLastl0_W, F_law18_ConfLastr9_W, F_law18_ConfLastr10_W, F_law18_ConfLastr11_W, F_law18_ConfLastr12_W, F_law18_ConfLastr13_W, F_law18_ConfLastr14_W, F_law18_ConfLastr14_g2, F_law18_ConfLastr15_W, F_law18_ConfLastr16_W, F_law18_ConfLastr16_g2, F_law18_ConfLastr17_W, F_law18_ConfLastr18_W, F_law18_ConfLastr19_W, F_law18_ConfLastr20_W, F_law18_ConfLastr21_W, F_law18_ConfLastr22_W, F_law18_ConfLastr22_g1, F_law18_ConfLastr22_g4, F_law18_ConfLastr23_W, F_law18_ConfLastr24_W, F_law18_ConfLastr24_g2, F_law18_ConfLastr24_g6, F_law18_ConfLastr24_g10, F_law18_ConfLastr25_W, F_law18_ConfLastr26_W, F_law18_ConfLastr27_W, F_law18_ConfLastr29_W, F_law18_ConfLastr30_W, F_law18_ConfLastr31_W, F_law18_ConfLastr31_g4, F_law18_ConfLastr31_g7, F_law18_ConfLastr32_W, F_law18_ConfLastr28_W, F_law18_ConfLastl1_W, F_law18_ConfLastr33_W, F_law18_ConfLastc_W, lenI_str, e5, e7, q, q0, g, a1, a2, and_self, true_and]
      exact ⟨rfl, .inr ⟨rfl, rfl⟩⟩
    · have a1 : ¬ ((c.toNat : Int) ≤ 32) := by omega
      have a2 : ¬ ((126 : Int) < c.toNat) := by omega
      have a3 : decide ((c.toNat : Int) = 35) = true := decide_eq_true (by omega)
      simp only [fws, cond_true, cond_false, if_true, if_false, unV, isNil, optI, iV, stepI, evalR, reduceIte, reduceCtorEq, Nat.reduceEqDiff, Int.reduceLT, Int.reduceLE, Int.reduceToNat, Nat.reduceLT, Nat.reduceLeDiff, Int.reduceEq, Int.reduceNeg, IntKind.bits, Nat.reduceAdd, Nat.reduceMul, Nat.reducePow, Int.reducePow, ini, fwi, F_law18_ConfLastr0_W, F_law18_ConfLastr1_W, F_law18_ConfLastr2_W, F_law18_ConfLastr2_g3, F_law18_ConfLastr2_g8, F_law18_ConfLastr2_g13, F_law18_ConfLastr2_g18, F_law18_ConfLastr2_g22, F_law18_ConfLastr3_W, F_law18_ConfLastr4_W, F_law18_ConfLastr5_W, F_law18_ConfLastr7_W, F_law18_ConfLastr7_g4, F_law18_ConfLastr7_g10, F_law18_ConfLastr8_W, F_law18_ConfLastr6_W, F_law18_ConfLastl0_W, F_law18_ConfLastr9_W, F_law18_ConfLastr10_W, F_law18_ConfLastr11_W, F_law18_ConfLastr12_W, F_law18_ConfLastr13_W, F_law18_ConfLastr14_W, F_law18_ConfLastr14_g2, F_law18_ConfLastr15_W, F_law18_ConfLastr16_W, F_law18_ConfLastr16_g2, F_law18_ConfLastr17_W, F_law18_ConfLastr18_W, F_law18_ConfLastr19_W, F_law18_ConfLastr20_W, F_law18_ConfLastr21_W, F_law18_ConfLastr22_W, F_law18_ConfLastr22_g1, F_law18_ConfLastr22_g4, F_law18_ConfLastr23_W, F_law18_ConfLastr24_W, F_law18_ConfLastr24_g2, F_law18_ConfLastr24_g6, F_law18_ConfLastr24_g10, F_law18_ConfLastr25_W, F_law18_ConfLastr26_W, F_law18_ConfLastr27_W, F_law18_ConfLastr29_W, F_law18_ConfLastr30_W, F_law18_ConfLastr31_W, F_law18_ConfLastr31_g4, F_law18_ConfLastr31_g7, F_law18_ConfLastr32_W, F_law18_ConfLastr28_W, F_law18_ConfLastl1_W, F_law18_ConfLastr33_W, F_law18_ConfLastc_W, lenI_str, e5, e7, q, q0, g, a1, a2, a3, and_self, true_and]
      exact ⟨rfl, .inr ⟨rfl, rfl⟩⟩
    · have a1 : ¬ ((c.toNat : Int) ≤ 32) := by omega
      have a2 : ¬ ((126 : Int) < c.toNat) := by omega
      have a3 : decide ((c.toNat : Int) = 35) = false := decide_eq_false (by omega)
      have hc : valC c = true := by
        unfold valC
        simp only [Bool.and_eq_true, decide_eq_true_eq]
        exact ⟨⟨k1.1, k1.2.1⟩, k1.2.2⟩
      simp only [fws, cond_true, cond_false, if_true, if_false, unV, isNil, optI, iV, stepI, evalR, reduceIte, reduceCtorEq, Nat.reduceEqDiff, Int.reduceLT, Int.reduceLE, Int.reduceToNat, Nat.reduceLT, Nat.reduceLeDiff, Int.reduceEq, Int.reduceNeg, IntKind.bits, Nat.reduceAdd, Nat.reduceMul, Nat.reducePow, Int.reducePow, ini, fwi, F_law18_ConfLastr0_W, F_law18_ConfLastr1_W, F_law18_ConfLastr2_W, F_law18_ConfLastr2_g3, F_law18_ConfLastr2_g8, F_law18_ConfLastr2_g13, F_law18_ConfLastr2_g18, F_law18_ConfLastr2_g22, F_law18_ConfLastr3_W, F_law18_ConfLastr4_W, F_law18_ConfLastr5_W, F_law18_ConfLastr7_W, F_law18_ConfLastr7_g4, F_law18_ConfLastr7_g10, F_law18_ConfLastr8_W, F_law18_ConfLastr6_W, F_law18_ConfLastl0_W, F_law18_ConfLastr9_W, F_law18_ConfLastr10_W, F_law18_ConfLastr11_W, F_law18_ConfLastr12_W, F_law18_ConfLastr13_W, F_law18_ConfLastr14_W, F_law18_ConfLastr14_g2, F_law18_ConfLastr15_W, F_law18_ConfLastr16_W, F_law18_ConfLastr16_g2, F_law18_ConfLastr17_W, F_law18_ConfLastr18_W, F_law18_ConfLastr19_W, F_law18_ConfLastr20_W, F_law18_ConfLastr21_W, F_law18_ConfLastr22_W, F_law18_ConfLastr22_g1, F_law18_ConfLastr22_g4, F_law18_ConfLastr23_W, F_law18_ConfLastr24_W, F_law18_ConfLastr24_g2, F_law18_ConfLastr24_g6, F_law18_ConfLastr24_g10, F_law18_ConfLastr25_W, F_law18_ConfLastr26_W, F_law18_ConfLastr27_W, F_law18_ConfLastr29_W, F_law18_ConfLastr30_W, F_law18_ConfLastr31_W, F_law18_ConfLastr31_g4, F_law18_ConfLastr31_g7, F_law18_ConfLastr32_W, F_law18_ConfLastr28_W, F_law18_ConfLastl1_W, F_law18_ConfLastr33_W, F_law18_ConfLastc_W, lenI_str, e5, e7, q, q0, g, a1, a2, a3, w2, and_self, true_and]
      refine W.mono (ih (i + 1) _ (by omega) ?_ ?_ ?_ ?_ ?_) fun x e h hq => ?_
      all_goals try (first | assumption | rfl)
      refine ⟨hq.1, ?_⟩
      rcases hq.2 with ⟨h1, h3, h4, h5, h6, h7⟩ | h
      · refine .inl ⟨h1, h3, h4, h5, h6, fun d hd => ?_⟩
        rcases List.mem_cons.1 hd with e | hd
        · rw [e]; exact hc
        · exact h7 d hd
      · exact .inr h
/-- The guards. -/
def GuP (a n v : List UInt8) (more : Bool) : Post := fun x e h => (x = .ret ∧ e 2 = .bool true) ∨ (x = .normal ∧ h = [blk4 a n v more] ∧ e 3 = strV a ∧ e 4 = strV n ∧ e 5 = strV v ∧ e 6 = .bool more ∧
  a.length ≤ 8000 ∧ n.length ≤ 100 ∧ v.length ≤ 1000 ∧ goodB n = true ∧ endsB n linksL = false ∧ n ≠ addL)
theorem st_gu (hN : T 6 = some F_ref18_Name) (hE : T 7 = some F_ref18_Ends) (a n v : List UInt8) (more : Bool) {env : Env} (e3 : env 3 = strV a) (e4 : env 4 = strV n) (e5 : env 5 = strV v) (e6 : env 6 = .bool more) :
    W T (.seq (.reg F_law18_ConfLastr2) (.cond (.t 58) (.seq (.reg F_law18_ConfLastr3) .ret) .skip)) env [blk4 a n v more] (GuP a n v more) := by
  by_cases k1' : 8000 < a.length
  · have q1 : (8000 : Int) < a.length := by omega
    simp only [fws, cond_true, cond_false, if_true, if_false, unV, isNil, optI, iV, stepI, evalR, reduceIte, reduceCtorEq, Nat.reduceEqDiff, Int.reduceLT, Int.reduceLE, Int.reduceToNat, Nat.reduceLT, Nat.reduceLeDiff, Int.reduceEq, Int.reduceNeg, IntKind.bits, Nat.reduceAdd, Nat.reduceMul, Nat.reducePow, Int.reducePow, ini, fwi, F_law18_ConfLastr0_W, F_law18_ConfLastr1_W, F_law18_ConfLastr2_W, F_law18_ConfLastr2_g3, F_law18_ConfLastr2_g8, F_law18_ConfLastr2_g13, F_law18_ConfLastr2_g18, F_law18_ConfLastr2_g22, F_law18_ConfLastr3_W, F_law18_ConfLastr4_W, F_law18_ConfLastr5_W, F_law18_ConfLastr7_W, F_law18_ConfLastr7_g4, F_law18_ConfLastr7_g10, F_law18_ConfLastr8_W, F_law18_ConfLastr6_W, F_law18_ConfLastl0_W, F_law18_ConfLastr9_W, F_law18_ConfLastr10_W, F_law18_ConfLastr11_W, F_law18_ConfLastr12_W, F_law18_ConfLastr13_W, F_law18_ConfLastr14_W, F_law18_ConfLastr14_g2, F_law18_ConfLastr15_W, F_law18_ConfLastr16_W, F_law18_ConfLastr16_g2, F_law18_ConfLastr17_W, F_law18_ConfLastr18_W, F_law18_ConfLastr19_W, F_law18_ConfLastr20_W, F_law18_ConfLastr21_W, F_law18_ConfLastr22_W, F_law18_ConfLastr22_g1, F_law18_ConfLastr22_g4, F_law18_ConfLastr23_W, F_law18_ConfLastr24_W, F_law18_ConfLastr24_g2, F_law18_ConfLastr24_g6, F_law18_ConfLastr24_g10, F_law18_ConfLastr25_W, F_law18_ConfLastr26_W, F_law18_ConfLastr27_W, F_law18_ConfLastr29_W, F_law18_ConfLastr30_W, F_law18_ConfLastr31_W, F_law18_ConfLastr31_g4, F_law18_ConfLastr31_g7, F_law18_ConfLastr32_W, F_law18_ConfLastr28_W, F_law18_ConfLastl1_W, F_law18_ConfLastr33_W, F_law18_ConfLastc_W, lenI_str, e3, e4, e5, e6, q1]
    exact .inl ⟨rfl, rfl⟩
  have q1 : ¬ ((8000 : Int) < a.length) := by omega
  have k1 : a.length ≤ 8000 := by omega
  by_cases k2' : 100 < n.length
  · have q2 : (100 : Int) < n.length := by omega
    simp only [fws, cond_true, cond_false, if_true, if_false, unV, isNil, optI, iV, stepI, evalR, reduceIte, reduceCtorEq, Nat.reduceEqDiff, Int.reduceLT, Int.reduceLE, Int.reduceToNat, Nat.reduceLT, Nat.reduceLeDiff, Int.reduceEq, Int.reduceNeg, IntKind.bits, Nat.reduceAdd, Nat.reduceMul, Nat.reducePow, Int.reducePow, ini, fwi, F_law18_ConfLastr0_W, F_law18_ConfLastr1_W, F_law18_ConfLastr2_W, F_law18_ConfLastr2_g3, F_law18_ConfLastr2_g8, F_law18_ConfLastr2_g13, F_law18_ConfLastr2_g18, F_law18_ConfLastr2_g22, F_law18_ConfLastr3_W, F_law18_ConfLastr4_W, F_law18_ConfLastr5_W, F_law18_ConfLastr7_W, F_law18_ConfLastr7_g4, F_law18_ConfLastr7_g10, F_law18_ConfLastr8_W, F_law18_ConfLastr6_W, F_law18_ConfLastl0_W, F_law18_ConfLastr9_W, F_law18_ConfLastr10_W, F_law18_ConfLastr11_W, F_law18_ConfLastr12_W, F_law18_ConfLastr13_W, F_law18_ConfLastr14_W, F_law18_ConfLastr14_g2, F_law18_ConfLastr15_W, F_law18_ConfLastr16_W, F_law18_ConfLastr16_g2, F_law18_ConfLastr17_W, F_law18_ConfLastr18_W, F_law18_ConfLastr19_W, F_law18_ConfLastr20_W, F_law18_ConfLastr21_W, F_law18_ConfLastr22_W, F_law18_ConfLastr22_g1, F_law18_ConfLastr22_g4, F_law18_ConfLastr23_W, F_law18_ConfLastr24_W, F_law18_ConfLastr24_g2, F_law18_ConfLastr24_g6, F_law18_ConfLastr24_g10, F_law18_ConfLastr25_W, F_law18_ConfLastr26_W, F_law18_ConfLastr27_W, F_law18_ConfLastr29_W, F_law18_ConfLastr30_W, F_law18_ConfLastr31_W, F_law18_ConfLastr31_g4, F_law18_ConfLastr31_g7, F_law18_ConfLastr32_W, F_law18_ConfLastr28_W, F_law18_ConfLastl1_W, F_law18_ConfLastr33_W, F_law18_ConfLastc_W, lenI_str, e3, e4, e5, e6, q1, q2]
    exact .inl ⟨rfl, rfl⟩
  have q2 : ¬ ((100 : Int) < n.length) := by omega
  have k2 : n.length ≤ 100 := by omega
  by_cases k3' : 1000 < v.length
  · have q3 : (1000 : Int) < v.length := by omega
    simp only [fws, cond_true, cond_false, if_true, if_false, unV, isNil, optI, iV, stepI, evalR, reduceIte, reduceCtorEq, Nat.reduceEqDiff, Int.reduceLT, Int.reduceLE, Int.reduceToNat, Nat.reduceLT, Nat.reduceLeDiff, Int.reduceEq, Int.reduceNeg, IntKind.bits, Nat.reduceAdd, Nat.reduceMul, Nat.reducePow, Int.reducePow, ini, fwi, F_law18_ConfLastr0_W, F_law18_ConfLastr1_W, F_law18_ConfLastr2_W, F_law18_ConfLastr2_g3, F_law18_ConfLastr2_g8, F_law18_ConfLastr2_g13, F_law18_ConfLastr2_g18, F_law18_ConfLastr2_g22, F_law18_ConfLastr3_W, F_law18_ConfLastr4_W, F_law18_ConfLastr5_W, F_law18_ConfLastr7_W, F_law18_ConfLastr7_g4, F_law18_ConfLastr7_g10, F_law18_ConfLastr8_W, F_law18_ConfLastr6_W, F_law18_ConfLastl0_W, F_law18_ConfLastr9_W, F_law18_ConfLastr10_W, F_law18_ConfLastr11_W, F_law18_ConfLastr12_W, F_law18_ConfLastr13_W, F_law18_ConfLastr14_W, F_law18_ConfLastr14_g2, F_law18_ConfLastr15_W, F_law18_ConfLastr16_W, F_law18_ConfLastr16_g2, F_law18_ConfLastr17_W, F_law18_ConfLastr18_W, F_law18_ConfLastr19_W, F_law18_ConfLastr20_W, F_law18_ConfLastr21_W, F_law18_ConfLastr22_W, F_law18_ConfLastr22_g1, F_law18_ConfLastr22_g4, F_law18_ConfLastr23_W, F_law18_ConfLastr24_W, F_law18_ConfLastr24_g2, F_law18_ConfLastr24_g6, F_law18_ConfLastr24_g10, F_law18_ConfLastr25_W, F_law18_ConfLastr26_W, F_law18_ConfLastr27_W, F_law18_ConfLastr29_W, F_law18_ConfLastr30_W, F_law18_ConfLastr31_W, F_law18_ConfLastr31_g4, F_law18_ConfLastr31_g7, F_law18_ConfLastr32_W, F_law18_ConfLastr28_W, F_law18_ConfLastl1_W, F_law18_ConfLastr33_W, F_law18_ConfLastc_W, lenI_str, e3, e4, e5, e6, q1, q2, q3]
    exact .inl ⟨rfl, rfl⟩
  have q3 : ¬ ((1000 : Int) < v.length) := by omega
  have k3 : v.length ≤ 1000 := by omega
  have c1 := f_name hN n (by omega)
  have c2 : FnV T 7 [strV n, .string ⟨#[46, 108, 105, 110, 107, 115]⟩] (.bool (endsB n linksL)) := f_ends hE n linksL (by omega)
  cases hg : goodB n with
  | false =>
    rw [hg] at c1
    simp only [fws, cond_true, cond_false, if_true, if_false, unV, isNil, optI, iV, stepI, evalR, reduceIte, reduceCtorEq, Nat.reduceEqDiff, Int.reduceLT, Int.reduceLE, Int.reduceToNat, Nat.reduceLT, Nat.reduceLeDiff, Int.reduceEq, Int.reduceNeg, IntKind.bits, Nat.reduceAdd, Nat.reduceMul, Nat.reducePow, Int.reducePow, ini, fwi, F_law18_ConfLastr0_W, F_law18_ConfLastr1_W, F_law18_ConfLastr2_W, F_law18_ConfLastr2_g3, F_law18_ConfLastr2_g8, F_law18_ConfLastr2_g13, F_law18_ConfLastr2_g18, F_law18_ConfLastr2_g22, F_law18_ConfLastr3_W, F_law18_ConfLastr4_W, F_law18_ConfLastr5_W, F_law18_ConfLastr7_W, F_law18_ConfLastr7_g4, F_law18_ConfLastr7_g10, F_law18_ConfLastr8_W, F_law18_ConfLastr6_W, F_law18_ConfLastl0_W, F_law18_ConfLastr9_W, F_law18_ConfLastr10_W, F_law18_ConfLastr11_W, F_law18_ConfLastr12_W, F_law18_ConfLastr13_W, F_law18_ConfLastr14_W, F_law18_ConfLastr14_g2, F_law18_ConfLastr15_W, F_law18_ConfLastr16_W, F_law18_ConfLastr16_g2, F_law18_ConfLastr17_W, F_law18_ConfLastr18_W, F_law18_ConfLastr19_W, F_law18_ConfLastr20_W, F_law18_ConfLastr21_W, F_law18_ConfLastr22_W, F_law18_ConfLastr22_g1, F_law18_ConfLastr22_g4, F_law18_ConfLastr23_W, F_law18_ConfLastr24_W, F_law18_ConfLastr24_g2, F_law18_ConfLastr24_g6, F_law18_ConfLastr24_g10, F_law18_ConfLastr25_W, F_law18_ConfLastr26_W, F_law18_ConfLastr27_W, F_law18_ConfLastr29_W, F_law18_ConfLastr30_W, F_law18_ConfLastr31_W, F_law18_ConfLastr31_g4, F_law18_ConfLastr31_g7, F_law18_ConfLastr32_W, F_law18_ConfLastr28_W, F_law18_ConfLastl1_W, F_law18_ConfLastr33_W, F_law18_ConfLastc_W, lenI_str, e3, e4, e5, e6, q1, q2, q3, CC_of c1]
    exact .inl ⟨rfl, rfl⟩
  | true =>
    rw [hg] at c1
    cases he : endsB n linksL with
    | true =>
      rw [he] at c2
      simp only [fws, cond_true, cond_false, if_true, if_false, unV, isNil, optI, iV, stepI, evalR, reduceIte, reduceCtorEq, Nat.reduceEqDiff, Int.reduceLT, Int.reduceLE, Int.reduceToNat, Nat.reduceLT, Nat.reduceLeDiff, Int.reduceEq, Int.reduceNeg, IntKind.bits, Nat.reduceAdd, Nat.reduceMul, Nat.reducePow, Int.reducePow, ini, fwi, F_law18_ConfLastr0_W, F_law18_ConfLastr1_W, F_law18_ConfLastr2_W, F_law18_ConfLastr2_g3, F_law18_ConfLastr2_g8, F_law18_ConfLastr2_g13, F_law18_ConfLastr2_g18, F_law18_ConfLastr2_g22, F_law18_ConfLastr3_W, F_law18_ConfLastr4_W, F_law18_ConfLastr5_W, F_law18_ConfLastr7_W, F_law18_ConfLastr7_g4, F_law18_ConfLastr7_g10, F_law18_ConfLastr8_W, F_law18_ConfLastr6_W, F_law18_ConfLastl0_W, F_law18_ConfLastr9_W, F_law18_ConfLastr10_W, F_law18_ConfLastr11_W, F_law18_ConfLastr12_W, F_law18_ConfLastr13_W, F_law18_ConfLastr14_W, F_law18_ConfLastr14_g2, F_law18_ConfLastr15_W, F_law18_ConfLastr16_W, F_law18_ConfLastr16_g2, F_law18_ConfLastr17_W, F_law18_ConfLastr18_W, F_law18_ConfLastr19_W, F_law18_ConfLastr20_W, F_law18_ConfLastr21_W, F_law18_ConfLastr22_W, F_law18_ConfLastr22_g1, F_law18_ConfLastr22_g4, F_law18_ConfLastr23_W, F_law18_ConfLastr24_W, F_law18_ConfLastr24_g2, F_law18_ConfLastr24_g6, F_law18_ConfLastr24_g10, F_law18_ConfLastr25_W, F_law18_ConfLastr26_W, F_law18_ConfLastr27_W, F_law18_ConfLastr29_W, F_law18_ConfLastr30_W, F_law18_ConfLastr31_W, F_law18_ConfLastr31_g4, F_law18_ConfLastr31_g7, F_law18_ConfLastr32_W, F_law18_ConfLastr28_W, F_law18_ConfLastl1_W, F_law18_ConfLastr33_W, F_law18_ConfLastc_W, lenI_str, e3, e4, e5, e6, q1, q2, q3, CC_of c1, CC_of c2]
      exact .inl ⟨rfl, rfl⟩
    | false =>
      rw [he] at c2
      by_cases ha : n = addL
      · have b0 : strEq ⟨n.toArray⟩ ⟨#[97, 100, 100, 105, 116, 105, 111, 110, 97, 108, 46, 110, 97, 109, 101, 115, 112, 97, 99, 101, 115]⟩ = true := by
          rw [ha]; rfl
        simp only [fws, cond_true, cond_false, if_true, if_false, unV, isNil, optI, iV, stepI, evalR, reduceIte, reduceCtorEq, Nat.reduceEqDiff, Int.reduceLT, Int.reduceLE, Int.reduceToNat, Nat.reduceLT, Nat.reduceLeDiff, Int.reduceEq, Int.reduceNeg, IntKind.bits, Nat.reduceAdd, Nat.reduceMul, Nat.reducePow, Int.reducePow, ini, fwi, F_law18_ConfLastr0_W, F_law18_ConfLastr1_W, F_law18_ConfLastr2_W, F_law18_ConfLastr2_g3, F_law18_ConfLastr2_g8, F_law18_ConfLastr2_g13, F_law18_ConfLastr2_g18, F_law18_ConfLastr2_g22, F_law18_ConfLastr3_W, F_law18_ConfLastr4_W, F_law18_ConfLastr5_W, F_law18_ConfLastr7_W, F_law18_ConfLastr7_g4, F_law18_ConfLastr7_g10, F_law18_ConfLastr8_W, F_law18_ConfLastr6_W, F_law18_ConfLastl0_W, F_law18_ConfLastr9_W, F_law18_ConfLastr10_W, F_law18_ConfLastr11_W, F_law18_ConfLastr12_W, F_law18_ConfLastr13_W, F_law18_ConfLastr14_W, F_law18_ConfLastr14_g2, F_law18_ConfLastr15_W, F_law18_ConfLastr16_W, F_law18_ConfLastr16_g2, F_law18_ConfLastr17_W, F_law18_ConfLastr18_W, F_law18_ConfLastr19_W, F_law18_ConfLastr20_W, F_law18_ConfLastr21_W, F_law18_ConfLastr22_W, F_law18_ConfLastr22_g1, F_law18_ConfLastr22_g4, F_law18_ConfLastr23_W, F_law18_ConfLastr24_W, F_law18_ConfLastr24_g2, F_law18_ConfLastr24_g6, F_law18_ConfLastr24_g10, F_law18_ConfLastr25_W, F_law18_ConfLastr26_W, F_law18_ConfLastr27_W, F_law18_ConfLastr29_W, F_law18_ConfLastr30_W, F_law18_ConfLastr31_W, F_law18_ConfLastr31_g4, F_law18_ConfLastr31_g7, F_law18_ConfLastr32_W, F_law18_ConfLastr28_W, F_law18_ConfLastl1_W, F_law18_ConfLastr33_W, F_law18_ConfLastc_W, lenI_str, e3, e4, e5, e6, q1, q2, q3, CC_of c1, CC_of c2, b0]
        exact .inl ⟨rfl, rfl⟩
      · have b0 : strEq ⟨n.toArray⟩ ⟨#[97, 100, 100, 105, 116, 105, 111, 110, 97, 108, 46, 110, 97, 109, 101, 115, 112, 97, 99, 101, 115]⟩ = false := by
          show strEq ⟨n.toArray⟩ ⟨addL.toArray⟩ = _
          rw [strEq_str]; exact decide_eq_false ha
        simp only [fws, cond_true, cond_false, if_true, if_false, unV, isNil, optI, iV, stepI, evalR, reduceIte, reduceCtorEq, Nat.reduceEqDiff, Int.reduceLT, Int.reduceLE, Int.reduceToNat, Nat.reduceLT, Nat.reduceLeDiff, Int.reduceEq, Int.reduceNeg, IntKind.bits, Nat.reduceAdd, Nat.reduceMul, Nat.reducePow, Int.reducePow, ini, fwi, F_law18_ConfLastr0_W, F_law18_ConfLastr1_W, F_law18_ConfLastr2_W, F_law18_ConfLastr2_g3, F_law18_ConfLastr2_g8, F_law18_ConfLastr2_g13, F_law18_ConfLastr2_g18, F_law18_ConfLastr2_g22, F_law18_ConfLastr3_W, F_law18_ConfLastr4_W, F_law18_ConfLastr5_W, F_law18_ConfLastr7_W, F_law18_ConfLastr7_g4, F_law18_ConfLastr7_g10, F_law18_ConfLastr8_W, F_law18_ConfLastr6_W, F_law18_ConfLastl0_W, F_law18_ConfLastr9_W, F_law18_ConfLastr10_W, F_law18_ConfLastr11_W, F_law18_ConfLastr12_W, F_law18_ConfLastr13_W, F_law18_ConfLastr14_W, F_law18_ConfLastr14_g2, F_law18_ConfLastr15_W, F_law18_ConfLastr16_W, F_law18_ConfLastr16_g2, F_law18_ConfLastr17_W, F_law18_ConfLastr18_W, F_law18_ConfLastr19_W, F_law18_ConfLastr20_W, F_law18_ConfLastr21_W, F_law18_ConfLastr22_W, F_law18_ConfLastr22_g1, F_law18_ConfLastr22_g4, F_law18_ConfLastr23_W, F_law18_ConfLastr24_W, F_law18_ConfLastr24_g2, F_law18_ConfLastr24_g6, F_law18_ConfLastr24_g10, F_law18_ConfLastr25_W, F_law18_ConfLastr26_W, F_law18_ConfLastr27_W, F_law18_ConfLastr29_W, F_law18_ConfLastr30_W, F_law18_ConfLastr31_W, F_law18_ConfLastr31_g4, F_law18_ConfLastr31_g7, F_law18_ConfLastr32_W, F_law18_ConfLastr28_W, F_law18_ConfLastl1_W, F_law18_ConfLastr33_W, F_law18_ConfLastc_W, lenI_str, e3, e4, e5, e6, q1, q2, q3, CC_of c1, CC_of c2, b0]
        exact .inr ⟨rfl, rfl, e3, e4, e5, e6, k1, k2, k3, hg, he, ha⟩
end
end Go.Proofs.YtbhoaiacnoiocaaDoor
/- ConfLast's steps. -/
namespace Go.Proofs.YtbhoaiacnoiocaaDoor
open Go Fw
set_option linter.unusedSimpArgs false
set_option linter.unusedVariables false
set_option linter.unusedSectionVars false

abbrev blkF (x : PRes) : Entry := ⟨0, .cells false 2 [pD x, pS x]⟩
section
variable {T : Tab}
/-- The properties that there were. -/
theorem loop_L1 (hG : T 10 = some F_conf_Section_Get) {b b' : Option (List Pr) × Option (List Sec)} {m : Nat} {n v : List UInt8} {more : Bool} (hm : m < (lst b.2).length) (hm' : m < (lst b'.2).length) (hok : LastOk n v more m (lst (lst b.2)[m].2) (lst (lst b'.2)[m].2)) :
    ∀ (k i : Nat) (H : Heap) (env : Env), i + k = (lst (lst b.2)[m].2).length → 2 < H.length → H[1]? = some (blkF (.inr b)) → H[2]? = some (blkF (.inr b')) → env 4 = strV n → env 9 = ptrC 1 0 → env 12 = ptrC 2 0 → env 15 = .int .i64 m → env 21 = .int .i64 i →
    W T (.loop F_law18_ConfLastl1) env H fun x e h => x = .exit 2 := by
  have x1 := fun H => ix_sl (E := SecE) (o := b.2) (n := 2) rfl hm .i64 H
  have x2 := fun H => ix_sl (E := SecE) (o := b'.2) (n := 2) rfl hm' .i64 H
  have y2 := fun H => sec_ld hm' H
  obtain ⟨r1, f1⟩ := sec_fa hm
  generalize (lst b.2)[m] = s at *
  generalize (lst b'.2)[m] = s' at *
  obtain ⟨sn, so⟩ := s
  obtain ⟨sn', so'⟩ := s'
  have hl1 : (lst so).length ≤ 1000000 := hok.l1
  have hl2 : (lst so').length ≤ 1000000 := hok.l2
  intro k
  induction k with
  | zero =>
    intro i H env hi hH g1 g2 e4 e9 e12 e15 e21
    have q : ¬ ((i : Int) < (lst so).length) := by simp only [] at hi; omega
    rw [w_loop]
    simp only [fws, cond_true, cond_false, if_true, if_false, unV, isNil, optI, iV, stepI, evalR, reduceIte, reduceCtorEq, Nat.reduceEqDiff, Int.reduceLT, Int.reduceLE, Int.reduceToNat, Nat.reduceLT, Nat.reduceLeDiff, Int.reduceEq, Int.reduceNeg, IntKind.bits, Nat.reduceAdd, Nat.reduceMul, Nat.reducePow, Int.reducePow, ini, fwh, lk, cellsAt, tagOf, spotOf, rdN, spl, fillL, zr, fwi, F_law18_ConfLastr0_W, F_law18_ConfLastr1_W, F_law18_ConfLastr2_W, F_law18_ConfLastr2_g3, F_law18_ConfLastr2_g8, F_law18_ConfLastr2_g13, F_law18_ConfLastr2_g18, F_law18_ConfLastr2_g22, F_law18_ConfLastr3_W, F_law18_ConfLastr4_W, F_law18_ConfLastr5_W, F_law18_ConfLastr7_W, F_law18_ConfLastr7_g4, F_law18_ConfLastr7_g10, F_law18_ConfLastr8_W, F_law18_ConfLastr6_W, F_law18_ConfLastl0_W, F_law18_ConfLastr9_W, F_law18_ConfLastr10_W, F_law18_ConfLastr11_W, F_law18_ConfLastr12_W, F_law18_ConfLastr13_W, F_law18_ConfLastr14_W, F_law18_ConfLastr14_g2, F_law18_ConfLastr15_W, F_law18_ConfLastr16_W, F_law18_ConfLastr16_g2, F_law18_ConfLastr17_W, F_law18_ConfLastr18_W, F_law18_ConfLastr19_W, F_law18_ConfLastr20_W, F_law18_ConfLastr21_W, F_law18_ConfLastr22_W, F_law18_ConfLastr22_g1, F_law18_ConfLastr22_g4, F_law18_ConfLastr23_W, F_law18_ConfLastr24_W, F_law18_ConfLastr24_g2, F_law18_ConfLastr24_g6, F_law18_ConfLastr24_g10, F_law18_ConfLastr25_W, F_law18_ConfLastr26_W, F_law18_ConfLastr27_W, F_law18_ConfLastr29_W, F_law18_ConfLastr30_W, F_law18_ConfLastr31_W, F_law18_ConfLastr31_g4, F_law18_ConfLastr31_g7, F_law18_ConfLastr32_W, F_law18_ConfLastr28_W, F_law18_ConfLastl1_W, F_law18_ConfLastr33_W, F_law18_ConfLastc_W, lenI_sl, e9, e15, e21, g1, pS, x1, f1, q]
  | succ k ih =>
    intro i H env hi hH g1 g2 e4 e9 e12 e15 e21
    simp only [] at hi
    have hix : i < (lst so).length := by omega
    have q : ((i : Int) < (lst so).length) := by omega
    have hx := fun H => ix_sl (E := PrE) (o := so) (n := 3) rfl hix .i64 H
    have hld : ∀ H, loadNI H 3 (atI PrE (lst so) i) = some (.agg #[strV (lst so)[i].n, strV (lst so)[i].v, .int .i64 (lst so)[i].l], H) := fun H => loadNI_at (E := PrE) (H := H) (n := 3) rfl hix
    have w2 : IntKind.i64.wrap ((i : Int) + 1) = ((i + 1 : Nat) : Int) := by rw [wrapI64 (by omega) (by omega)]; rfl
    have c1 := f_Get hG sn' (lst so)[i].n so' hl2
    have ho := hok.o _ (List.getElem_mem hix)
    rw [getV_eq] at c1
    rw [w_loop]
    generalize (lst so)[i] = p at *
    have g1' : ∀ E, (H ++ [E])[1]? = some (blkF (.inr b)) := fun E => by rw [List.getElem?_append_left (by omega)]; exact g1
    have g2' : ∀ E, (H ++ [E])[2]? = some (blkF (.inr b')) := fun E => by rw [List.getElem?_append_left (by omega)]; exact g2
    by_cases h : p.n = n
    · have d0 : decide (p.n = n) = true := decide_eq_true h
      simp only [fws, cond_true, cond_false, if_true, if_false, unV, isNil, optI, iV, stepI, evalR, reduceIte, reduceCtorEq, Nat.reduceEqDiff, Int.reduceLT, Int.reduceLE, Int.reduceToNat, Nat.reduceLT, Nat.reduceLeDiff, Int.reduceEq, Int.reduceNeg, IntKind.bits, Nat.reduceAdd, Nat.reduceMul, Nat.reducePow, Int.reducePow, ini, fwh, lk, cellsAt, tagOf, spotOf, rdN, spl, fillL, zr, fwi, F_law18_ConfLastr0_W, F_law18_ConfLastr1_W, F_law18_ConfLastr2_W, F_law18_ConfLastr2_g3, F_law18_ConfLastr2_g8, F_law18_ConfLastr2_g13, F_law18_ConfLastr2_g18, F_law18_ConfLastr2_g22, F_law18_ConfLastr3_W, F_law18_ConfLastr4_W, F_law18_ConfLastr5_W, F_law18_ConfLastr7_W, F_law18_ConfLastr7_g4, F_law18_ConfLastr7_g10, F_law18_ConfLastr8_W, F_law18_ConfLastr6_W, F_law18_ConfLastl0_W, F_law18_ConfLastr9_W, F_law18_ConfLastr10_W, F_law18_ConfLastr11_W, F_law18_ConfLastr12_W, F_law18_ConfLastr13_W, F_law18_ConfLastr14_W, F_law18_ConfLastr14_g2, F_law18_ConfLastr15_W, F_law18_ConfLastr16_W, F_law18_ConfLastr16_g2, F_law18_ConfLastr17_W, F_law18_ConfLastr18_W, F_law18_ConfLastr19_W, F_law18_ConfLastr20_W, F_law18_ConfLastr21_W, F_law18_ConfLastr22_W, F_law18_ConfLastr22_g1, F_law18_ConfLastr22_g4, F_law18_ConfLastr23_W, F_law18_ConfLastr24_W, F_law18_ConfLastr24_g2, F_law18_ConfLastr24_g6, F_law18_ConfLastr24_g10, F_law18_ConfLastr25_W, F_law18_ConfLastr26_W, F_law18_ConfLastr27_W, F_law18_ConfLastr29_W, F_law18_ConfLastr30_W, F_law18_ConfLastr31_W, F_law18_ConfLastr31_g4, F_law18_ConfLastr31_g7, F_law18_ConfLastr32_W, F_law18_ConfLastr28_W, F_law18_ConfLastl1_W, F_law18_ConfLastr33_W, F_law18_ConfLastc_W, lenI_sl, e4, e9, e12, e15, e21, g1, g2, g1', g2', pS, x1, x2, y2, f1, q, hx, hld, CC_of c1, d0, w2]
      refine ih (i + 1) _ _ (by simp only []; omega) (by simp; omega) (g1' _) (g2' _) ?_ ?_ ?_ ?_ ?_
      all_goals (first | assumption | rfl)
    · have d0 : decide (p.n = n) = false := decide_eq_false h
      rw [ho h] at c1
      have d1 : decide (p.v = p.v) = true := decide_eq_true rfl
      simp only [gV, Option.isSome_some] at c1
      simp only [fws, cond_true, cond_false, if_true, if_false, unV, isNil, optI, iV, stepI, evalR, reduceIte, reduceCtorEq, Nat.reduceEqDiff, Int.reduceLT, Int.reduceLE, Int.reduceToNat, Nat.reduceLT, Nat.reduceLeDiff, Int.reduceEq, Int.reduceNeg, IntKind.bits, Nat.reduceAdd, Nat.reduceMul, Nat.reducePow, Int.reducePow, ini, fwh, lk, cellsAt, tagOf, spotOf, rdN, spl, fillL, zr, fwi, F_law18_ConfLastr0_W, F_law18_ConfLastr1_W, F_law18_ConfLastr2_W, F_law18_ConfLastr2_g3, F_law18_ConfLastr2_g8, F_law18_ConfLastr2_g13, F_law18_ConfLastr2_g18, F_law18_ConfLastr2_g22, F_law18_ConfLastr3_W, F_law18_ConfLastr4_W, F_law18_ConfLastr5_W, F_law18_ConfLastr7_W, F_law18_ConfLastr7_g4, F_law18_ConfLastr7_g10, F_law18_ConfLastr8_W, F_law18_ConfLastr6_W, F_law18_ConfLastl0_W, F_law18_ConfLastr9_W, F_law18_ConfLastr10_W, F_law18_ConfLastr11_W, F_law18_ConfLastr12_W, F_law18_ConfLastr13_W, F_law18_ConfLastr14_W, F_law18_ConfLastr14_g2, F_law18_ConfLastr15_W, F_law18_ConfLastr16_W, F_law18_ConfLastr16_g2, F_law18_ConfLastr17_W, F_law18_ConfLastr18_W, F_law18_ConfLastr19_W, F_law18_ConfLastr20_W, F_law18_ConfLastr21_W, F_law18_ConfLastr22_W, F_law18_ConfLastr22_g1, F_law18_ConfLastr22_g4, F_law18_ConfLastr23_W, F_law18_ConfLastr24_W, F_law18_ConfLastr24_g2, F_law18_ConfLastr24_g6, F_law18_ConfLastr24_g10, F_law18_ConfLastr25_W, F_law18_ConfLastr26_W, F_law18_ConfLastr27_W, F_law18_ConfLastr29_W, F_law18_ConfLastr30_W, F_law18_ConfLastr31_W, F_law18_ConfLastr31_g4, F_law18_ConfLastr31_g7, F_law18_ConfLastr32_W, F_law18_ConfLastr28_W, F_law18_ConfLastl1_W, F_law18_ConfLastr33_W, F_law18_ConfLastc_W, lenI_sl, e4, e9, e12, e15, e21, g1, g2, g1', g2', pS, x1, x2, y2, f1, q, hx, hld, CC_of c1, d0, d1, w2]
      refine ih (i + 1) _ _ (by simp only []; omega) (by simp; omega) (g1' _) (g2' _) ?_ ?_ ?_ ?_ ?_
      all_goals (first | assumption | rfl)
end
end Go.Proofs.YtbhoaiacnoiocaaDoor
/- ConfLast. -/
namespace Go.Proofs.YtbhoaiacnoiocaaDoor
open Go Fw
set_option linter.unusedSimpArgs false
set_option linter.unusedVariables false
set_option linter.unusedSectionVars false

section
variable {T : Tab}
/-- A post that no rewriting opens. -/
def Kp (P : Post) : Post := P
structure Law (T : Tab) : Prop where
  cf : CF T
  name : T 6 = some F_ref18_Name
  ends : T 7 = some F_ref18_Ends
  alive : FnV T 9 [] (.bool true)
/-- The rest, from the guards on. -/
theorem law_rest (t : Law T) {icl : List UInt8 → Bool} (hicl : ∀ l : List UInt8, l.length ≤ 1000000 → FnV T 34 [strV l] (.bool (icl l))) {a n v : List UInt8} {more : Bool} {env : Env} (e3 : env 3 = strV a) (e4 : env 4 = strV n) (e5 : env 5 = strV v) (e6 : env 6 = .bool more)
    (hg : goodB n = true) (h1 : n ≠ addL) (h2 : endsB n linksL = false) (hv : ∀ c ∈ v, valC c = true) (hla : a.length ≤ 8000) (hln : n.length ≤ 100) (hlv : v.length ≤ 1000) :
    W T (.seq (.reg F_law18_ConfLastr9) (.seq (.seq (.reg F_law18_ConfLastr10) (.cond (.t 81) (.reg F_law18_ConfLastr11) .skip)) (.seq (.reg F_law18_ConfLastr12) (.seq (.reg F_law18_ConfLastr13) (.seq (.seq (.reg F_law18_ConfLastr14) (.cond (.t 109) (.seq (.reg F_law18_ConfLastr15) .ret) .skip)) (.seq (.seq (.reg F_law18_ConfLastr16) (.cond (.t 121) (.seq (.reg F_law18_ConfLastr17) .ret) .skip)) (.seq (.reg F_law18_ConfLastr18) (.seq (.reg F_law18_ConfLastr19) (.seq (.reg F_law18_ConfLastr20) (.seq (.reg F_law18_ConfLastr21) (.seq (.seq (.reg F_law18_ConfLastr22) (.cond (.t 154) (.reg F_law18_ConfLastr23) .skip)) (.seq (.seq (.reg F_law18_ConfLastr24) (.cond (.t 173) (.seq (.reg F_law18_ConfLastr25) .ret) .skip)) (.seq (.seq (.reg F_law18_ConfLastr26) (.block 2 (.loop F_law18_ConfLastl1))) (.seq (.reg F_law18_ConfLastr33) .ret)))))))))))))) env [blk4 a n v more] (retQ [.tmp 2] fun u h => u = .bool true) := by
  have ca := t.alive
  -- the sign
  rw [w_seq]
  have st9 : W T (.reg F_law18_ConfLastr9) env [blk4 a n v more] (Kp (fun x e h => h = [blk4 a n v more] ∧ x = .normal ∧ e 3 = strV a ∧ e 4 = strV n ∧ e 5 = strV v ∧ e 6 = .bool more ∧ e 8 = strV [32, 61, 32])) := by
    simp only [fws, cond_true, cond_false, if_true, if_false, unV, isNil, optI, iV, stepI, evalR, reduceIte, reduceCtorEq, Nat.reduceEqDiff, Int.reduceLT, Int.reduceLE, Int.reduceToNat, Nat.reduceLT, Nat.reduceLeDiff, Int.reduceEq, Int.reduceNeg, IntKind.bits, Nat.reduceAdd, Nat.reduceMul, Nat.reducePow, Int.reducePow, ini, F_law18_ConfLastr0_W, F_law18_ConfLastr1_W, F_law18_ConfLastr2_W, F_law18_ConfLastr2_g3, F_law18_ConfLastr2_g8, F_law18_ConfLastr2_g13, F_law18_ConfLastr2_g18, F_law18_ConfLastr2_g22, F_law18_ConfLastr3_W, F_law18_ConfLastr4_W, F_law18_ConfLastr5_W, F_law18_ConfLastr7_W, F_law18_ConfLastr7_g4, F_law18_ConfLastr7_g10, F_law18_ConfLastr8_W, F_law18_ConfLastr6_W, F_law18_ConfLastl0_W, F_law18_ConfLastr9_W, F_law18_ConfLastr10_W, F_law18_ConfLastr11_W, F_law18_ConfLastr12_W, F_law18_ConfLastr13_W, F_law18_ConfLastr14_W, F_law18_ConfLastr14_g2, F_law18_ConfLastr15_W, F_law18_ConfLastr16_W, F_law18_ConfLastr16_g2, F_law18_ConfLastr17_W, F_law18_ConfLastr18_W, F_law18_ConfLastr19_W, F_law18_ConfLastr20_W, F_law18_ConfLastr21_W, F_law18_ConfLastr22_W, F_law18_ConfLastr22_g1, F_law18_ConfLastr22_g4, F_law18_ConfLastr23_W, F_law18_ConfLastr24_W, F_law18_ConfLastr24_g2, F_law18_ConfLastr24_g6, F_law18_ConfLastr24_g10, F_law18_ConfLastr25_W, F_law18_ConfLastr26_W, F_law18_ConfLastr27_W, F_law18_ConfLastr29_W, F_law18_ConfLastr30_W, F_law18_ConfLastr31_W, F_law18_ConfLastr31_g4, F_law18_ConfLastr31_g7, F_law18_ConfLastr32_W, F_law18_ConfLastr28_W, F_law18_ConfLastl1_W, F_law18_ConfLastr33_W, F_law18_ConfLastc_W]
    exact ⟨rfl, rfl, e3, e4, e5, e6, rfl⟩
  refine W.mono st9 fun x e h ⟨q1, q2, e3, e4, e5, e6, e8⟩ => ?_
  subst h q2
  rw [seqQ_normal, w_seq]
  have st10 : W T (.seq (.reg F_law18_ConfLastr10) (.cond (.t 81) (.reg F_law18_ConfLastr11) .skip)) e [blk4 a n v more] (Kp (fun x e h => h = [blk4 a n v more] ∧ x = .normal ∧ e 3 = strV a ∧ e 4 = strV n ∧ e 5 = strV v ∧ e 6 = .bool more ∧ e 8 = strV (sgn more ++ [32]))) := by
    cases more with
    | true =>
      simp only [fws, cond_true, cond_false, if_true, if_false, unV, isNil, optI, iV, stepI, evalR, reduceIte, reduceCtorEq, Nat.reduceEqDiff, Int.reduceLT, Int.reduceLE, Int.reduceToNat, Nat.reduceLT, Nat.reduceLeDiff, Int.reduceEq, Int.reduceNeg, IntKind.bits, Nat.reduceAdd, Nat.reduceMul, Nat.reducePow, Int.reducePow, ini, F_law18_ConfLastr0_W, F_law18_ConfLastr1_W, F_law18_ConfLastr2_W, F_law18_ConfLastr2_g3, F_law18_ConfLastr2_g8, F_law18_ConfLastr2_g13, F_law18_ConfLastr2_g18, F_law18_ConfLastr2_g22, F_law18_ConfLastr3_W, F_law18_ConfLastr4_W, F_law18_ConfLastr5_W, F_law18_ConfLastr7_W, F_law18_ConfLastr7_g4, F_law18_ConfLastr7_g10, F_law18_ConfLastr8_W, F_law18_ConfLastr6_W, F_law18_ConfLastl0_W, F_law18_ConfLastr9_W, F_law18_ConfLastr10_W, F_law18_ConfLastr11_W, F_law18_ConfLastr12_W, F_law18_ConfLastr13_W, F_law18_ConfLastr14_W, F_law18_ConfLastr14_g2, F_law18_ConfLastr15_W, F_law18_ConfLastr16_W, F_law18_ConfLastr16_g2, F_law18_ConfLastr17_W, F_law18_ConfLastr18_W, F_law18_ConfLastr19_W, F_law18_ConfLastr20_W, F_law18_ConfLastr21_W, F_law18_ConfLastr22_W, F_law18_ConfLastr22_g1, F_law18_ConfLastr22_g4, F_law18_ConfLastr23_W, F_law18_ConfLastr24_W, F_law18_ConfLastr24_g2, F_law18_ConfLastr24_g6, F_law18_ConfLastr24_g10, F_law18_ConfLastr25_W, F_law18_ConfLastr26_W, F_law18_ConfLastr27_W, F_law18_ConfLastr29_W, F_law18_ConfLastr30_W, F_law18_ConfLastr31_W, F_law18_ConfLastr31_g4, F_law18_ConfLastr31_g7, F_law18_ConfLastr32_W, F_law18_ConfLastr28_W, F_law18_ConfLastl1_W, F_law18_ConfLastr33_W, F_law18_ConfLastc_W, e6]
      exact ⟨rfl, rfl, e3, e4, e5, e6, rfl⟩
    | false =>
      simp only [fws, cond_true, cond_false, if_true, if_false, unV, isNil, optI, iV, stepI, evalR, reduceIte, reduceCtorEq, Nat.reduceEqDiff, Int.reduceLT, Int.reduceLE, Int.reduceToNat, Nat.reduceLT, Nat.reduceLeDiff, Int.reduceEq, Int.reduceNeg, IntKind.bits, Nat.reduceAdd, Nat.reduceMul, Nat.reducePow, Int.reducePow, ini, F_law18_ConfLastr0_W, F_law18_ConfLastr1_W, F_law18_ConfLastr2_W, F_law18_ConfLastr2_g3, F_law18_ConfLastr2_g8, F_law18_ConfLastr2_g13, F_law18_ConfLastr2_g18, F_law18_ConfLastr2_g22, F_law18_ConfLastr3_W, F_law18_ConfLastr4_W, F_law18_ConfLastr5_W, F_law18_ConfLastr7_W, F_law18_ConfLastr7_g4, F_law18_ConfLastr7_g10, F_law18_ConfLastr8_W, F_law18_ConfLastr6_W, F_law18_ConfLastl0_W, F_law18_ConfLastr9_W, F_law18_ConfLastr10_W, F_law18_ConfLastr11_W, F_law18_ConfLastr12_W, F_law18_ConfLastr13_W, F_law18_ConfLastr14_W, F_law18_ConfLastr14_g2, F_law18_ConfLastr15_W, F_law18_ConfLastr16_W, F_law18_ConfLastr16_g2, F_law18_ConfLastr17_W, F_law18_ConfLastr18_W, F_law18_ConfLastr19_W, F_law18_ConfLastr20_W, F_law18_ConfLastr21_W, F_law18_ConfLastr22_W, F_law18_ConfLastr22_g1, F_law18_ConfLastr22_g4, F_law18_ConfLastr23_W, F_law18_ConfLastr24_W, F_law18_ConfLastr24_g2, F_law18_ConfLastr24_g6, F_law18_ConfLastr24_g10, F_law18_ConfLastr25_W, F_law18_ConfLastr26_W, F_law18_ConfLastr27_W, F_law18_ConfLastr29_W, F_law18_ConfLastr30_W, F_law18_ConfLastr31_W, F_law18_ConfLastr31_g4, F_law18_ConfLastr31_g7, F_law18_ConfLastr32_W, F_law18_ConfLastr28_W, F_law18_ConfLastl1_W, F_law18_ConfLastr33_W, F_law18_ConfLastc_W, e6]
      exact ⟨rfl, rfl, e3, e4, e5, e6, e8⟩
  refine W.mono st10 fun x e h ⟨q1, q2, e3, e4, e5, e6, e8⟩ => ?_
  subst h q2
  rw [seqQ_normal, w_seq]
  -- both are read
  obtain ⟨x, hx, c1⟩ := f_Parse t.cf hicl a (by omega)
  have hsl : (sgn more).length ≤ 3 := by cases more <;> decide
  obtain ⟨y, hy, c2⟩ := f_Parse t.cf hicl (a ++ 10 :: (n ++ (sgn more ++ 32 :: (v ++ [10])))) (by simp only [List.length_append, List.length_cons, List.length_nil]; omega)
  have hL : a ++ 10 :: (n ++ (sgn more ++ 32 :: (v ++ [10]))) = a ++ 10 :: (moreX n v more ++ [10]) := by simp [moreX]
  have hpl := last_plain hg h1 h2 hv hla hln hlv hx (by rw [← hL]; exact hy)
  rw [PV_eq] at c1 c2
  have ox1 := pD_one x
  have ox2 := pS_one x
  have oy1 := pD_one y
  have oy2 := pS_one y
  have st12 : W T (.reg F_law18_ConfLastr12) e [blk4 a n v more] (Kp (fun z e h => h = [blk4 a n v more, blkF x] ∧ z = .normal ∧ e 3 = strV a ∧ e 4 = strV n ∧ e 5 = strV v ∧ e 6 = .bool more ∧ e 8 = strV (sgn more ++ [32]) ∧ e 9 = ptrC 1 0 ∧ e 11 = .int .i64 (pE x))) := by
    simp only [fws, cond_true, cond_false, if_true, if_false, unV, isNil, optI, iV, stepI, evalR, reduceIte, reduceCtorEq, Nat.reduceEqDiff, Int.reduceLT, Int.reduceLE, Int.reduceToNat, Nat.reduceLT, Nat.reduceLeDiff, Int.reduceEq, Int.reduceNeg, IntKind.bits, Nat.reduceAdd, Nat.reduceMul, Nat.reducePow, Int.reducePow, ini, fwh, lk, cellsAt, tagOf, spotOf, rdN, spl, fillL, zr, fwi, F_law18_ConfLastr0_W, F_law18_ConfLastr1_W, F_law18_ConfLastr2_W, F_law18_ConfLastr2_g3, F_law18_ConfLastr2_g8, F_law18_ConfLastr2_g13, F_law18_ConfLastr2_g18, F_law18_ConfLastr2_g22, F_law18_ConfLastr3_W, F_law18_ConfLastr4_W, F_law18_ConfLastr5_W, F_law18_ConfLastr7_W, F_law18_ConfLastr7_g4, F_law18_ConfLastr7_g10, F_law18_ConfLastr8_W, F_law18_ConfLastr6_W, F_law18_ConfLastl0_W, F_law18_ConfLastr9_W, F_law18_ConfLastr10_W, F_law18_ConfLastr11_W, F_law18_ConfLastr12_W, F_law18_ConfLastr13_W, F_law18_ConfLastr14_W, F_law18_ConfLastr14_g2, F_law18_ConfLastr15_W, F_law18_ConfLastr16_W, F_law18_ConfLastr16_g2, F_law18_ConfLastr17_W, F_law18_ConfLastr18_W, F_law18_ConfLastr19_W, F_law18_ConfLastr20_W, F_law18_ConfLastr21_W, F_law18_ConfLastr22_W, F_law18_ConfLastr22_g1, F_law18_ConfLastr22_g4, F_law18_ConfLastr23_W, F_law18_ConfLastr24_W, F_law18_ConfLastr24_g2, F_law18_ConfLastr24_g6, F_law18_ConfLastr24_g10, F_law18_ConfLastr25_W, F_law18_ConfLastr26_W, F_law18_ConfLastr27_W, F_law18_ConfLastr29_W, F_law18_ConfLastr30_W, F_law18_ConfLastr31_W, F_law18_ConfLastr31_g4, F_law18_ConfLastr31_g7, F_law18_ConfLastr32_W, F_law18_ConfLastr28_W, F_law18_ConfLastl1_W, F_law18_ConfLastr33_W, F_law18_ConfLastc_W, e3, CC_of c1, ox1, ox2]
    exact ⟨rfl, rfl, e3, e4, e5, e6, e8, rfl, rfl⟩
  refine W.mono st12 fun z e h ⟨q1, q2, e3, e4, e5, e6, e8, e9, e11⟩ => ?_
  subst h q2
  rw [seqQ_normal, w_seq]
  have st13 : W T (.reg F_law18_ConfLastr13) e [blk4 a n v more, blkF x] (Kp (fun z e h => h = [blk4 a n v more, blkF x, blkF y] ∧ z = .normal ∧ e 4 = strV n ∧ e 5 = strV v ∧ e 6 = .bool more ∧ e 9 = ptrC 1 0 ∧ e 11 = .int .i64 (pE x) ∧ e 12 = ptrC 2 0 ∧ e 13 = .int .i64 (pA y) ∧ e 14 = .int .i64 (pE y))) := by
    have z1 : a.length + 1 ≤ 9223372036854775807 := by omega
    have z2 : a.length + 1 + n.length ≤ 9223372036854775807 := by omega
    have z3 : a.length + (n.length + 1) + ((sgn more).length + 1) ≤ 9223372036854775807 := by omega
    have z4 : a.length + (n.length + ((sgn more).length + 1) + 1) + v.length ≤ 9223372036854775807 := by omega
    have z5 : a.length + (n.length + ((sgn more).length + (v.length + 1)) + 1) + 1 ≤ 9223372036854775807 := by omega
    simp only [fws, cond_true, cond_false, if_true, if_false, unV, isNil, optI, iV, stepI, evalR, reduceIte, reduceCtorEq, Nat.reduceEqDiff, Int.reduceLT, Int.reduceLE, Int.reduceToNat, Nat.reduceLT, Nat.reduceLeDiff, Int.reduceEq, Int.reduceNeg, IntKind.bits, Nat.reduceAdd, Nat.reduceMul, Nat.reducePow, Int.reducePow, ini, fwh, lk, cellsAt, tagOf, spotOf, rdN, spl, fillL, zr, fwi, F_law18_ConfLastr0_W, F_law18_ConfLastr1_W, F_law18_ConfLastr2_W, F_law18_ConfLastr2_g3, F_law18_ConfLastr2_g8, F_law18_ConfLastr2_g13, F_law18_ConfLastr2_g18, F_law18_ConfLastr2_g22, F_law18_ConfLastr3_W, F_law18_ConfLastr4_W, F_law18_ConfLastr5_W, F_law18_ConfLastr7_W, F_law18_ConfLastr7_g4, F_law18_ConfLastr7_g10, F_law18_ConfLastr8_W, F_law18_ConfLastr6_W, F_law18_ConfLastl0_W, F_law18_ConfLastr9_W, F_law18_ConfLastr10_W, F_law18_ConfLastr11_W, F_law18_ConfLastr12_W, F_law18_ConfLastr13_W, F_law18_ConfLastr14_W, F_law18_ConfLastr14_g2, F_law18_ConfLastr15_W, F_law18_ConfLastr16_W, F_law18_ConfLastr16_g2, F_law18_ConfLastr17_W, F_law18_ConfLastr18_W, F_law18_ConfLastr19_W, F_law18_ConfLastr20_W, F_law18_ConfLastr21_W, F_law18_ConfLastr22_W, F_law18_ConfLastr22_g1, F_law18_ConfLastr22_g4, F_law18_ConfLastr23_W, F_law18_ConfLastr24_W, F_law18_ConfLastr24_g2, F_law18_ConfLastr24_g6, F_law18_ConfLastr24_g10, F_law18_ConfLastr25_W, F_law18_ConfLastr26_W, F_law18_ConfLastr27_W, F_law18_ConfLastr29_W, F_law18_ConfLastr30_W, F_law18_ConfLastr31_W, F_law18_ConfLastr31_g4, F_law18_ConfLastr31_g7, F_law18_ConfLastr32_W, F_law18_ConfLastr28_W, F_law18_ConfLastl1_W, F_law18_ConfLastr33_W, F_law18_ConfLastc_W, e3, e4, e5, e8, z1, z2, z3, z4, z5, CC_of c2, oy1, oy2]
    exact ⟨rfl, rfl, e4, e5, e6, e9, e11, rfl, rfl, rfl⟩
  refine W.mono st13 fun z e h ⟨q1, q2, e4, e5, e6, e9, e11, e12, e13, e14⟩ => ?_
  subst h q2
  rw [seqQ_normal, w_seq]
  have hlx := pS_len x
  have hly := pS_len y
  have g1 : ([blk4 a n v more, blkF x, blkF y] : Heap)[1]? = some (blkF x) := rfl
  have g2 : ([blk4 a n v more, blkF x, blkF y] : Heap)[2]? = some (blkF y) := rfl
  generalize hH : ([blk4 a n v more, blkF x, blkF y] : Heap) = H at *
  have hHl : 2 < H.length := by rw [← hH]; exact Nat.le_refl _
  -- is there what may be asked?
  have st14 : W T (.seq (.reg F_law18_ConfLastr14) (.cond (.t 109) (.seq (.reg F_law18_ConfLastr15) .ret) .skip)) e H (Kp (fun z e h => (z = .ret ∧ e 2 = .bool true) ∨ (z = .normal ∧ h = H ∧ pE x = 0 ∧ nS x ≠ 0 ∧ e 4 = strV n ∧ e 5 = strV v ∧ e 6 = .bool more ∧ e 9 = ptrC 1 0 ∧ e 12 = ptrC 2 0 ∧ e 13 = .int .i64 (pA y) ∧ e 14 = .int .i64 (pE y)))) := by
    by_cases k1 : pE x = 0
    · have d1 : decide (pE x = 0) = true := decide_eq_true k1
      by_cases k2 : nS x = 0
      · have d2 : decide ((nS x : Int) = 0) = true := decide_eq_true (by omega)
        simp only [fws, cond_true, cond_false, if_true, if_false, unV, isNil, optI, iV, stepI, evalR, reduceIte, reduceCtorEq, Nat.reduceEqDiff, Int.reduceLT, Int.reduceLE, Int.reduceToNat, Nat.reduceLT, Nat.reduceLeDiff, Int.reduceEq, Int.reduceNeg, IntKind.bits, Nat.reduceAdd, Nat.reduceMul, Nat.reducePow, Int.reducePow, ini, fwh, lk, cellsAt, tagOf, spotOf, rdN, spl, fillL, zr, fwi, F_law18_ConfLastr0_W, F_law18_ConfLastr1_W, F_law18_ConfLastr2_W, F_law18_ConfLastr2_g3, F_law18_ConfLastr2_g8, F_law18_ConfLastr2_g13, F_law18_ConfLastr2_g18, F_law18_ConfLastr2_g22, F_law18_ConfLastr3_W, F_law18_ConfLastr4_W, F_law18_ConfLastr5_W, F_law18_ConfLastr7_W, F_law18_ConfLastr7_g4, F_law18_ConfLastr7_g10, F_law18_ConfLastr8_W, F_law18_ConfLastr6_W, F_law18_ConfLastl0_W, F_law18_ConfLastr9_W, F_law18_ConfLastr10_W, F_law18_ConfLastr11_W, F_law18_ConfLastr12_W, F_law18_ConfLastr13_W, F_law18_ConfLastr14_W, F_law18_ConfLastr14_g2, F_law18_ConfLastr15_W, F_law18_ConfLastr16_W, F_law18_ConfLastr16_g2, F_law18_ConfLastr17_W, F_law18_ConfLastr18_W, F_law18_ConfLastr19_W, F_law18_ConfLastr20_W, F_law18_ConfLastr21_W, F_law18_ConfLastr22_W, F_law18_ConfLastr22_g1, F_law18_ConfLastr22_g4, F_law18_ConfLastr23_W, F_law18_ConfLastr24_W, F_law18_ConfLastr24_g2, F_law18_ConfLastr24_g6, F_law18_ConfLastr24_g10, F_law18_ConfLastr25_W, F_law18_ConfLastr26_W, F_law18_ConfLastr27_W, F_law18_ConfLastr29_W, F_law18_ConfLastr30_W, F_law18_ConfLastr31_W, F_law18_ConfLastr31_g4, F_law18_ConfLastr31_g7, F_law18_ConfLastr32_W, F_law18_ConfLastr28_W, F_law18_ConfLastl1_W, F_law18_ConfLastr33_W, F_law18_ConfLastc_W, e9, e11, g1, hlx, d1, d2, CC_of ca]
        exact .inl ⟨rfl, rfl⟩
      · have d2 : decide ((nS x : Int) = 0) = false := decide_eq_false (by omega)
        simp only [fws, cond_true, cond_false, if_true, if_false, unV, isNil, optI, iV, stepI, evalR, reduceIte, reduceCtorEq, Nat.reduceEqDiff, Int.reduceLT, Int.reduceLE, Int.reduceToNat, Nat.reduceLT, Nat.reduceLeDiff, Int.reduceEq, Int.reduceNeg, IntKind.bits, Nat.reduceAdd, Nat.reduceMul, Nat.reducePow, Int.reducePow, ini, fwh, lk, cellsAt, tagOf, spotOf, rdN, spl, fillL, zr, fwi, F_law18_ConfLastr0_W, F_law18_ConfLastr1_W, F_law18_ConfLastr2_W, F_law18_ConfLastr2_g3, F_law18_ConfLastr2_g8, F_law18_ConfLastr2_g13, F_law18_ConfLastr2_g18, F_law18_ConfLastr2_g22, F_law18_ConfLastr3_W, F_law18_ConfLastr4_W, F_law18_ConfLastr5_W, F_law18_ConfLastr7_W, F_law18_ConfLastr7_g4, F_law18_ConfLastr7_g10, F_law18_ConfLastr8_W, F_law18_ConfLastr6_W, F_law18_ConfLastl0_W, F_law18_ConfLastr9_W, F_law18_ConfLastr10_W, F_law18_ConfLastr11_W, F_law18_ConfLastr12_W, F_law18_ConfLastr13_W, F_law18_ConfLastr14_W, F_law18_ConfLastr14_g2, F_law18_ConfLastr15_W, F_law18_ConfLastr16_W, F_law18_ConfLastr16_g2, F_law18_ConfLastr17_W, F_law18_ConfLastr18_W, F_law18_ConfLastr19_W, F_law18_ConfLastr20_W, F_law18_ConfLastr21_W, F_law18_ConfLastr22_W, F_law18_ConfLastr22_g1, F_law18_ConfLastr22_g4, F_law18_ConfLastr23_W, F_law18_ConfLastr24_W, F_law18_ConfLastr24_g2, F_law18_ConfLastr24_g6, F_law18_ConfLastr24_g10, F_law18_ConfLastr25_W, F_law18_ConfLastr26_W, F_law18_ConfLastr27_W, F_law18_ConfLastr29_W, F_law18_ConfLastr30_W, F_law18_ConfLastr31_W, F_law18_ConfLastr31_g4, F_law18_ConfLastr31_g7, F_law18_ConfLastr32_W, F_law18_ConfLastr28_W, F_law18_ConfLastl1_W, F_law18_ConfLastr33_W, F_law18_ConfLastc_W, e9, e11, g1, hlx, d1, d2, CC_of ca]
        exact .inr ⟨rfl, rfl, k1, k2, e4, e5, e6, e9, e12, e13, e14⟩
    · have d1 : decide (pE x = 0) = false := decide_eq_false k1
      simp only [fws, cond_true, cond_false, if_true, if_false, unV, isNil, optI, iV, stepI, evalR, reduceIte, reduceCtorEq, Nat.reduceEqDiff, Int.reduceLT, Int.reduceLE, Int.reduceToNat, Nat.reduceLT, Nat.reduceLeDiff, Int.reduceEq, Int.reduceNeg, IntKind.bits, Nat.reduceAdd, Nat.reduceMul, Nat.reducePow, Int.reducePow, ini, fwh, lk, cellsAt, tagOf, spotOf, rdN, spl, fillL, zr, fwi, F_law18_ConfLastr0_W, F_law18_ConfLastr1_W, F_law18_ConfLastr2_W, F_law18_ConfLastr2_g3, F_law18_ConfLastr2_g8, F_law18_ConfLastr2_g13, F_law18_ConfLastr2_g18, F_law18_ConfLastr2_g22, F_law18_ConfLastr3_W, F_law18_ConfLastr4_W, F_law18_ConfLastr5_W, F_law18_ConfLastr7_W, F_law18_ConfLastr7_g4, F_law18_ConfLastr7_g10, F_law18_ConfLastr8_W, F_law18_ConfLastr6_W, F_law18_ConfLastl0_W, F_law18_ConfLastr9_W, F_law18_ConfLastr10_W, F_law18_ConfLastr11_W, F_law18_ConfLastr12_W, F_law18_ConfLastr13_W, F_law18_ConfLastr14_W, F_law18_ConfLastr14_g2, F_law18_ConfLastr15_W, F_law18_ConfLastr16_W, F_law18_ConfLastr16_g2, F_law18_ConfLastr17_W, F_law18_ConfLastr18_W, F_law18_ConfLastr19_W, F_law18_ConfLastr20_W, F_law18_ConfLastr21_W, F_law18_ConfLastr22_W, F_law18_ConfLastr22_g1, F_law18_ConfLastr22_g4, F_law18_ConfLastr23_W, F_law18_ConfLastr24_W, F_law18_ConfLastr24_g2, F_law18_ConfLastr24_g6, F_law18_ConfLastr24_g10, F_law18_ConfLastr25_W, F_law18_ConfLastr26_W, F_law18_ConfLastr27_W, F_law18_ConfLastr29_W, F_law18_ConfLastr30_W, F_law18_ConfLastr31_W, F_law18_ConfLastr31_g4, F_law18_ConfLastr31_g7, F_law18_ConfLastr32_W, F_law18_ConfLastr28_W, F_law18_ConfLastl1_W, F_law18_ConfLastr33_W, F_law18_ConfLastc_W, e9, e11, g1, hlx, d1, CC_of ca]
      exact .inl ⟨rfl, rfl⟩
  refine W.mono st14 fun z e h hq => ?_
  rcases hq with ⟨rfl, e2⟩ | ⟨rfl, rfl, k1, k2, e4, e5, e6, e9, e12, e13, e14⟩
  · rw [seqQ_ret]
    simp only [fws, cond_true, cond_false, if_true, if_false, unV, isNil, optI, iV, stepI, evalR, reduceIte, reduceCtorEq, Nat.reduceEqDiff, Int.reduceLT, Int.reduceLE, Int.reduceToNat, Nat.reduceLT, Nat.reduceLeDiff, Int.reduceEq, Int.reduceNeg, IntKind.bits, Nat.reduceAdd, Nat.reduceMul, Nat.reducePow, Int.reducePow, ini, e2]
  rw [seqQ_normal, w_seq]
  rcases hpl with hpl | ⟨b, b', m, rfl, rfl, hb, hb', hm, hm', hok⟩
  · exact absurd hpl k2
  have n1 : nS (.inr b) = m + 1 := hb
  have n2 : nS (.inr b') = m + 1 := hb'
  rw [n1] at hlx
  rw [n2] at hly
  have st16 : W T (.seq (.reg F_law18_ConfLastr16) (.cond (.t 121) (.seq (.reg F_law18_ConfLastr17) .ret) .skip)) e h (Kp (fun z e h' => z = .normal ∧ h' = h ∧ e 4 = strV n ∧ e 5 = strV v ∧ e 6 = .bool more ∧ e 9 = ptrC 1 0 ∧ e 12 = ptrC 2 0 ∧ e 13 = .int .i64 0 ∧ e 14 = .int .i64 0)) := by
    have d1 : decide ((0 : Int) = 0) = true := rfl
    have d2 : decide (((m + 1 : Nat) : Int) = ((m + 1 : Nat) : Int)) = true := decide_eq_true rfl
    have e14' : e 14 = .int .i64 0 := e14
    simp only [fws, cond_true, cond_false, if_true, if_false, unV, isNil, optI, iV, stepI, evalR, reduceIte, reduceCtorEq, Nat.reduceEqDiff, Int.reduceLT, Int.reduceLE, Int.reduceToNat, Nat.reduceLT, Nat.reduceLeDiff, Int.reduceEq, Int.reduceNeg, IntKind.bits, Nat.reduceAdd, Nat.reduceMul, Nat.reducePow, Int.reducePow, ini, fwh, lk, cellsAt, tagOf, spotOf, rdN, spl, fillL, zr, fwi, F_law18_ConfLastr0_W, F_law18_ConfLastr1_W, F_law18_ConfLastr2_W, F_law18_ConfLastr2_g3, F_law18_ConfLastr2_g8, F_law18_ConfLastr2_g13, F_law18_ConfLastr2_g18, F_law18_ConfLastr2_g22, F_law18_ConfLastr3_W, F_law18_ConfLastr4_W, F_law18_ConfLastr5_W, F_law18_ConfLastr7_W, F_law18_ConfLastr7_g4, F_law18_ConfLastr7_g10, F_law18_ConfLastr8_W, F_law18_ConfLastr6_W, F_law18_ConfLastl0_W, F_law18_ConfLastr9_W, F_law18_ConfLastr10_W, F_law18_ConfLastr11_W, F_law18_ConfLastr12_W, F_law18_ConfLastr13_W, F_law18_ConfLastr14_W, F_law18_ConfLastr14_g2, F_law18_ConfLastr15_W, F_law18_ConfLastr16_W, F_law18_ConfLastr16_g2, F_law18_ConfLastr17_W, F_law18_ConfLastr18_W, F_law18_ConfLastr19_W, F_law18_ConfLastr20_W, F_law18_ConfLastr21_W, F_law18_ConfLastr22_W, F_law18_ConfLastr22_g1, F_law18_ConfLastr22_g4, F_law18_ConfLastr23_W, F_law18_ConfLastr24_W, F_law18_ConfLastr24_g2, F_law18_ConfLastr24_g6, F_law18_ConfLastr24_g10, F_law18_ConfLastr25_W, F_law18_ConfLastr26_W, F_law18_ConfLastr27_W, F_law18_ConfLastr29_W, F_law18_ConfLastr30_W, F_law18_ConfLastr31_W, F_law18_ConfLastr31_g4, F_law18_ConfLastr31_g7, F_law18_ConfLastr32_W, F_law18_ConfLastr28_W, F_law18_ConfLastl1_W, F_law18_ConfLastr33_W, F_law18_ConfLastc_W, e9, e12, e14', g1, g2, hlx, hly, d1, d2]
    exact ⟨rfl, rfl, e4, e5, e6, e9, e12, e13, e14⟩
  refine W.mono st16 fun z e h' ⟨q2, q1, e4, e5, e6, e9, e12, e13, e14⟩ => ?_
  subst h' q2
  rw [seqQ_normal, w_seq]
  have hm0 := hok.l0
  have st18 : W T (.reg F_law18_ConfLastr18) e h (Kp (fun z e h' => z = .normal ∧ h' = h ∧ e 4 = strV n ∧ e 5 = strV v ∧ e 6 = .bool more ∧ e 9 = ptrC 1 0 ∧ e 12 = ptrC 2 0 ∧ e 13 = .int .i64 0 ∧ e 14 = .int .i64 0 ∧ e 15 = .int .i64 m)) := by
    have w1 : IntKind.i64.wrap (((m + 1 : Nat) : Int) - 1) = (m : Int) := by rw [wrapI64 (by omega) (by omega)]; omega
    simp only [fws, cond_true, cond_false, if_true, if_false, unV, isNil, optI, iV, stepI, evalR, reduceIte, reduceCtorEq, Nat.reduceEqDiff, Int.reduceLT, Int.reduceLE, Int.reduceToNat, Nat.reduceLT, Nat.reduceLeDiff, Int.reduceEq, Int.reduceNeg, IntKind.bits, Nat.reduceAdd, Nat.reduceMul, Nat.reducePow, Int.reducePow, ini, fwh, lk, cellsAt, tagOf, spotOf, rdN, spl, fillL, zr, fwi, F_law18_ConfLastr0_W, F_law18_ConfLastr1_W, F_law18_ConfLastr2_W, F_law18_ConfLastr2_g3, F_law18_ConfLastr2_g8, F_law18_ConfLastr2_g13, F_law18_ConfLastr2_g18, F_law18_ConfLastr2_g22, F_law18_ConfLastr3_W, F_law18_ConfLastr4_W, F_law18_ConfLastr5_W, F_law18_ConfLastr7_W, F_law18_ConfLastr7_g4, F_law18_ConfLastr7_g10, F_law18_ConfLastr8_W, F_law18_ConfLastr6_W, F_law18_ConfLastl0_W, F_law18_ConfLastr9_W, F_law18_ConfLastr10_W, F_law18_ConfLastr11_W, F_law18_ConfLastr12_W, F_law18_ConfLastr13_W, F_law18_ConfLastr14_W, F_law18_ConfLastr14_g2, F_law18_ConfLastr15_W, F_law18_ConfLastr16_W, F_law18_ConfLastr16_g2, F_law18_ConfLastr17_W, F_law18_ConfLastr18_W, F_law18_ConfLastr19_W, F_law18_ConfLastr20_W, F_law18_ConfLastr21_W, F_law18_ConfLastr22_W, F_law18_ConfLastr22_g1, F_law18_ConfLastr22_g4, F_law18_ConfLastr23_W, F_law18_ConfLastr24_W, F_law18_ConfLastr24_g2, F_law18_ConfLastr24_g6, F_law18_ConfLastr24_g10, F_law18_ConfLastr25_W, F_law18_ConfLastr26_W, F_law18_ConfLastr27_W, F_law18_ConfLastr29_W, F_law18_ConfLastr30_W, F_law18_ConfLastr31_W, F_law18_ConfLastr31_g4, F_law18_ConfLastr31_g7, F_law18_ConfLastr32_W, F_law18_ConfLastr28_W, F_law18_ConfLastl1_W, F_law18_ConfLastr33_W, F_law18_ConfLastc_W, e9, g1, hlx, w1]
    exact ⟨rfl, rfl, e4, e5, e6, e9, e12, e13, e14, rfl⟩
  refine W.mono st18 fun z e h' ⟨q2, q1, e4, e5, e6, e9, e12, e13, e14, e15⟩ => ?_
  subst h' q2
  rw [seqQ_normal, w_seq]
  have x1 := fun H => ix_sl (E := SecE) (o := b.2) (n := 2) rfl hm .i64 H
  have x2 := fun H => ix_sl (E := SecE) (o := b'.2) (n := 2) rfl hm' .i64 H
  have y1 := fun H => sec_ld hm H
  have y2 := fun H => sec_ld hm' H
  have cg := f_Get t.cf.get (lst b.2)[m].1 n (lst b.2)[m].2 hok.l1
  have cg' := f_Get t.cf.get (lst b'.2)[m].1 n (lst b'.2)[m].2 hok.l2
  rw [hok.g] at cg'
  rw [getV_eq] at cg cg'
  have hwant : wantM n v more (lst (lst b.2)[m].2) = if more = true ∧ (getM n (lst (lst b.2)[m].2)).isSome = true ∧ gV (getM n (lst (lst b.2)[m].2)) ≠ [] then gV (getM n (lst (lst b.2)[m].2)) ++ (58 :: v) else v := by
    unfold wantM
    cases hgm : getM n (lst (lst b.2)[m].2) with
    | none => simp
    | some w => simp [gV]
  have st19 : W T (.reg F_law18_ConfLastr19) e h (Kp (fun z e h' => z = .normal ∧ h' = h ∧ e 4 = strV n ∧ e 5 = strV v ∧ e 6 = .bool more ∧ e 9 = ptrC 1 0 ∧ e 12 = ptrC 2 0 ∧ e 13 = .int .i64 0 ∧ e 14 = .int .i64 0 ∧ e 15 = .int .i64 m ∧ e 16 = strV (gV (getM n (lst (lst b.2)[m].2))) ∧ e 17 = .bool (getM n (lst (lst b.2)[m].2)).isSome)) := by
    simp only [fws, cond_true, cond_false, if_true, if_false, unV, isNil, optI, iV, stepI, evalR, reduceIte, reduceCtorEq, Nat.reduceEqDiff, Int.reduceLT, Int.reduceLE, Int.reduceToNat, Nat.reduceLT, Nat.reduceLeDiff, Int.reduceEq, Int.reduceNeg, IntKind.bits, Nat.reduceAdd, Nat.reduceMul, Nat.reducePow, Int.reducePow, ini, fwh, lk, cellsAt, tagOf, spotOf, rdN, spl, fillL, zr, fwi, F_law18_ConfLastr0_W, F_law18_ConfLastr1_W, F_law18_ConfLastr2_W, F_law18_ConfLastr2_g3, F_law18_ConfLastr2_g8, F_law18_ConfLastr2_g13, F_law18_ConfLastr2_g18, F_law18_ConfLastr2_g22, F_law18_ConfLastr3_W, F_law18_ConfLastr4_W, F_law18_ConfLastr5_W, F_law18_ConfLastr7_W, F_law18_ConfLastr7_g4, F_law18_ConfLastr7_g10, F_law18_ConfLastr8_W, F_law18_ConfLastr6_W, F_law18_ConfLastl0_W, F_law18_ConfLastr9_W, F_law18_ConfLastr10_W, F_law18_ConfLastr11_W, F_law18_ConfLastr12_W, F_law18_ConfLastr13_W, F_law18_ConfLastr14_W, F_law18_ConfLastr14_g2, F_law18_ConfLastr15_W, F_law18_ConfLastr16_W, F_law18_ConfLastr16_g2, F_law18_ConfLastr17_W, F_law18_ConfLastr18_W, F_law18_ConfLastr19_W, F_law18_ConfLastr20_W, F_law18_ConfLastr21_W, F_law18_ConfLastr22_W, F_law18_ConfLastr22_g1, F_law18_ConfLastr22_g4, F_law18_ConfLastr23_W, F_law18_ConfLastr24_W, F_law18_ConfLastr24_g2, F_law18_ConfLastr24_g6, F_law18_ConfLastr24_g10, F_law18_ConfLastr25_W, F_law18_ConfLastr26_W, F_law18_ConfLastr27_W, F_law18_ConfLastr29_W, F_law18_ConfLastr30_W, F_law18_ConfLastr31_W, F_law18_ConfLastr31_g4, F_law18_ConfLastr31_g7, F_law18_ConfLastr32_W, F_law18_ConfLastr28_W, F_law18_ConfLastl1_W, F_law18_ConfLastr33_W, F_law18_ConfLastc_W, e4, e9, e15, g1, pS, x1, y1, CC_of cg]
    exact ⟨rfl, rfl, e4, e5, e6, e9, e12, e13, e14, e15, rfl, rfl⟩
  refine W.mono st19 fun z e h' ⟨q2, q1, e4, e5, e6, e9, e12, e13, e14, e15, e16, e17⟩ => ?_
  subst h' q2
  rw [seqQ_normal, w_seq]
  have st20 : W T (.reg F_law18_ConfLastr20) e h (Kp (fun z e h' => z = .normal ∧ h' = h ∧ e 4 = strV n ∧ e 5 = strV v ∧ e 6 = .bool more ∧ e 9 = ptrC 1 0 ∧ e 12 = ptrC 2 0 ∧ e 13 = .int .i64 0 ∧ e 14 = .int .i64 0 ∧ e 15 = .int .i64 m ∧ e 16 = strV (gV (getM n (lst (lst b.2)[m].2))) ∧ e 17 = .bool (getM n (lst (lst b.2)[m].2)).isSome ∧ e 18 = strV (wantM n v more (lst (lst b.2)[m].2)) ∧ e 19 = .bool true)) := by
    simp only [fws, cond_true, cond_false, if_true, if_false, unV, isNil, optI, iV, stepI, evalR, reduceIte, reduceCtorEq, Nat.reduceEqDiff, Int.reduceLT, Int.reduceLE, Int.reduceToNat, Nat.reduceLT, Nat.reduceLeDiff, Int.reduceEq, Int.reduceNeg, IntKind.bits, Nat.reduceAdd, Nat.reduceMul, Nat.reducePow, Int.reducePow, ini, fwh, lk, cellsAt, tagOf, spotOf, rdN, spl, fillL, zr, fwi, F_law18_ConfLastr0_W, F_law18_ConfLastr1_W, F_law18_ConfLastr2_W, F_law18_ConfLastr2_g3, F_law18_ConfLastr2_g8, F_law18_ConfLastr2_g13, F_law18_ConfLastr2_g18, F_law18_ConfLastr2_g22, F_law18_ConfLastr3_W, F_law18_ConfLastr4_W, F_law18_ConfLastr5_W, F_law18_ConfLastr7_W, F_law18_ConfLastr7_g4, F_law18_ConfLastr7_g10, F_law18_ConfLastr8_W, F_law18_ConfLastr6_W, F_law18_ConfLastl0_W, F_law18_ConfLastr9_W, F_law18_ConfLastr10_W, F_law18_ConfLastr11_W, F_law18_ConfLastr12_W, F_law18_ConfLastr13_W, F_law18_ConfLastr14_W, F_law18_ConfLastr14_g2, F_law18_ConfLastr15_W, F_law18_ConfLastr16_W, F_law18_ConfLastr16_g2, F_law18_ConfLastr17_W, F_law18_ConfLastr18_W, F_law18_ConfLastr19_W, F_law18_ConfLastr20_W, F_law18_ConfLastr21_W, F_law18_ConfLastr22_W, F_law18_ConfLastr22_g1, F_law18_ConfLastr22_g4, F_law18_ConfLastr23_W, F_law18_ConfLastr24_W, F_law18_ConfLastr24_g2, F_law18_ConfLastr24_g6, F_law18_ConfLastr24_g10, F_law18_ConfLastr25_W, F_law18_ConfLastr26_W, F_law18_ConfLastr27_W, F_law18_ConfLastr29_W, F_law18_ConfLastr30_W, F_law18_ConfLastr31_W, F_law18_ConfLastr31_g4, F_law18_ConfLastr31_g7, F_law18_ConfLastr32_W, F_law18_ConfLastr28_W, F_law18_ConfLastl1_W, F_law18_ConfLastr33_W, F_law18_ConfLastc_W, e4, e12, e15, g2, pS, x2, y2, CC_of cg']
    exact ⟨rfl, rfl, e4, e5, e6, e9, e12, e13, e14, e15, e16, e17, rfl, rfl⟩
  refine W.mono st20 fun z e h' ⟨q2, q1, e4, e5, e6, e9, e12, e13, e14, e15, e16, e17, e18, e19⟩ => ?_
  subst h' q2
  rw [seqQ_normal, w_seq]
  have st21 : W T (.reg F_law18_ConfLastr21) e h (Kp (fun z e h' => z = .normal ∧ h' = h ∧ e 4 = strV n ∧ e 5 = strV v ∧ e 6 = .bool more ∧ e 9 = ptrC 1 0 ∧ e 12 = ptrC 2 0 ∧ e 13 = .int .i64 0 ∧ e 14 = .int .i64 0 ∧ e 15 = .int .i64 m ∧ e 16 = strV (gV (getM n (lst (lst b.2)[m].2))) ∧ e 17 = .bool (getM n (lst (lst b.2)[m].2)).isSome ∧ e 18 = strV (wantM n v more (lst (lst b.2)[m].2)) ∧ e 19 = .bool true ∧ e 20 = strV v)) := by
    simp only [fws, cond_true, cond_false, if_true, if_false, unV, isNil, optI, iV, stepI, evalR, reduceIte, reduceCtorEq, Nat.reduceEqDiff, Int.reduceLT, Int.reduceLE, Int.reduceToNat, Nat.reduceLT, Nat.reduceLeDiff, Int.reduceEq, Int.reduceNeg, IntKind.bits, Nat.reduceAdd, Nat.reduceMul, Nat.reducePow, Int.reducePow, ini, fwi, F_law18_ConfLastr0_W, F_law18_ConfLastr1_W, F_law18_ConfLastr2_W, F_law18_ConfLastr2_g3, F_law18_ConfLastr2_g8, F_law18_ConfLastr2_g13, F_law18_ConfLastr2_g18, F_law18_ConfLastr2_g22, F_law18_ConfLastr3_W, F_law18_ConfLastr4_W, F_law18_ConfLastr5_W, F_law18_ConfLastr7_W, F_law18_ConfLastr7_g4, F_law18_ConfLastr7_g10, F_law18_ConfLastr8_W, F_law18_ConfLastr6_W, F_law18_ConfLastl0_W, F_law18_ConfLastr9_W, F_law18_ConfLastr10_W, F_law18_ConfLastr11_W, F_law18_ConfLastr12_W, F_law18_ConfLastr13_W, F_law18_ConfLastr14_W, F_law18_ConfLastr14_g2, F_law18_ConfLastr15_W, F_law18_ConfLastr16_W, F_law18_ConfLastr16_g2, F_law18_ConfLastr17_W, F_law18_ConfLastr18_W, F_law18_ConfLastr19_W, F_law18_ConfLastr20_W, F_law18_ConfLastr21_W, F_law18_ConfLastr22_W, F_law18_ConfLastr22_g1, F_law18_ConfLastr22_g4, F_law18_ConfLastr23_W, F_law18_ConfLastr24_W, F_law18_ConfLastr24_g2, F_law18_ConfLastr24_g6, F_law18_ConfLastr24_g10, F_law18_ConfLastr25_W, F_law18_ConfLastr26_W, F_law18_ConfLastr27_W, F_law18_ConfLastr29_W, F_law18_ConfLastr30_W, F_law18_ConfLastr31_W, F_law18_ConfLastr31_g4, F_law18_ConfLastr31_g7, F_law18_ConfLastr32_W, F_law18_ConfLastr28_W, F_law18_ConfLastl1_W, F_law18_ConfLastr33_W, F_law18_ConfLastc_W, e5]
    exact ⟨rfl, rfl, e4, e5, e6, e9, e12, e13, e14, e15, e16, e17, e18, e19, rfl⟩
  refine W.mono st21 fun z e h' ⟨q2, q1, e4, e5, e6, e9, e12, e13, e14, e15, e16, e17, e18, e19, e20⟩ => ?_
  subst h' q2
  rw [seqQ_normal, w_seq]
  have st22 : W T (.seq (.reg F_law18_ConfLastr22) (.cond (.t 154) (.reg F_law18_ConfLastr23) .skip)) e h (Kp (fun z e h' => z = .normal ∧ h' = h ∧ e 4 = strV n ∧ e 9 = ptrC 1 0 ∧ e 12 = ptrC 2 0 ∧ e 13 = .int .i64 0 ∧ e 14 = .int .i64 0 ∧ e 15 = .int .i64 m ∧ e 18 = strV (wantM n v more (lst (lst b.2)[m].2)) ∧ e 19 = .bool true ∧ e 20 = strV (wantM n v more (lst (lst b.2)[m].2)))) := by
    have how := hok.w
    generalize wantM n v more (lst (lst b.2)[m].2) = want at *
    generalize getM n (lst (lst b.2)[m].2) = old at *
    cases more with
    | false =>
      rw [if_neg (by simp)] at hwant
      subst hwant
      simp only [fws, cond_true, cond_false, if_true, if_false, unV, isNil, optI, iV, stepI, evalR, reduceIte, reduceCtorEq, Nat.reduceEqDiff, Int.reduceLT, Int.reduceLE, Int.reduceToNat, Nat.reduceLT, Nat.reduceLeDiff, Int.reduceEq, Int.reduceNeg, IntKind.bits, Nat.reduceAdd, Nat.reduceMul, Nat.reducePow, Int.reducePow, ini, fwi, F_law18_ConfLastr0_W, F_law18_ConfLastr1_W, F_law18_ConfLastr2_W, F_law18_ConfLastr2_g3, F_law18_ConfLastr2_g8, F_law18_ConfLastr2_g13, F_law18_ConfLastr2_g18, F_law18_ConfLastr2_g22, F_law18_ConfLastr3_W, F_law18_ConfLastr4_W, F_law18_ConfLastr5_W, F_law18_ConfLastr7_W, F_law18_ConfLastr7_g4, F_law18_ConfLastr7_g10, F_law18_ConfLastr8_W, F_law18_ConfLastr6_W, F_law18_ConfLastl0_W, F_law18_ConfLastr9_W, F_law18_ConfLastr10_W, F_law18_ConfLastr11_W, F_law18_ConfLastr12_W, F_law18_ConfLastr13_W, F_law18_ConfLastr14_W, F_law18_ConfLastr14_g2, F_law18_ConfLastr15_W, F_law18_ConfLastr16_W, F_law18_ConfLastr16_g2, F_law18_ConfLastr17_W, F_law18_ConfLastr18_W, F_law18_ConfLastr19_W, F_law18_ConfLastr20_W, F_law18_ConfLastr21_W, F_law18_ConfLastr22_W, F_law18_ConfLastr22_g1, F_law18_ConfLastr22_g4, F_law18_ConfLastr23_W, F_law18_ConfLastr24_W, F_law18_ConfLastr24_g2, F_law18_ConfLastr24_g6, F_law18_ConfLastr24_g10, F_law18_ConfLastr25_W, F_law18_ConfLastr26_W, F_law18_ConfLastr27_W, F_law18_ConfLastr29_W, F_law18_ConfLastr30_W, F_law18_ConfLastr31_W, F_law18_ConfLastr31_g4, F_law18_ConfLastr31_g7, F_law18_ConfLastr32_W, F_law18_ConfLastr28_W, F_law18_ConfLastl1_W, F_law18_ConfLastr33_W, F_law18_ConfLastc_W, e6, e16, e17, e20]
      exact ⟨rfl, rfl, e4, e9, e12, e13, e14, e15, e18, e19, e20⟩
    | true =>
      cases ho : old.isSome with
      | false =>
        rw [ho] at hwant e17
        rw [if_neg (by simp)] at hwant
        subst hwant
        simp only [fws, cond_true, cond_false, if_true, if_false, unV, isNil, optI, iV, stepI, evalR, reduceIte, reduceCtorEq, Nat.reduceEqDiff, Int.reduceLT, Int.reduceLE, Int.reduceToNat, Nat.reduceLT, Nat.reduceLeDiff, Int.reduceEq, Int.reduceNeg, IntKind.bits, Nat.reduceAdd, Nat.reduceMul, Nat.reducePow, Int.reducePow, ini, fwi, F_law18_ConfLastr0_W, F_law18_ConfLastr1_W, F_law18_ConfLastr2_W, F_law18_ConfLastr2_g3, F_law18_ConfLastr2_g8, F_law18_ConfLastr2_g13, F_law18_ConfLastr2_g18, F_law18_ConfLastr2_g22, F_law18_ConfLastr3_W, F_law18_ConfLastr4_W, F_law18_ConfLastr5_W, F_law18_ConfLastr7_W, F_law18_ConfLastr7_g4, F_law18_ConfLastr7_g10, F_law18_ConfLastr8_W, F_law18_ConfLastr6_W, F_law18_ConfLastl0_W, F_law18_ConfLastr9_W, F_law18_ConfLastr10_W, F_law18_ConfLastr11_W, F_law18_ConfLastr12_W, F_law18_ConfLastr13_W, F_law18_ConfLastr14_W, F_law18_ConfLastr14_g2, F_law18_ConfLastr15_W, F_law18_ConfLastr16_W, F_law18_ConfLastr16_g2, F_law18_ConfLastr17_W, F_law18_ConfLastr18_W, F_law18_ConfLastr19_W, F_law18_ConfLastr20_W, F_law18_ConfLastr21_W, F_law18_ConfLastr22_W, F_law18_ConfLastr22_g1, F_law18_ConfLastr22_g4, F_law18_ConfLastr23_W, F_law18_ConfLastr24_W, F_law18_ConfLastr24_g2, F_law18_ConfLastr24_g6, F_law18_ConfLastr24_g10, F_law18_ConfLastr25_W, F_law18_ConfLastr26_W, F_law18_ConfLastr27_W, F_law18_ConfLastr29_W, F_law18_ConfLastr30_W, F_law18_ConfLastr31_W, F_law18_ConfLastr31_g4, F_law18_ConfLastr31_g7, F_law18_ConfLastr32_W, F_law18_ConfLastr28_W, F_law18_ConfLastl1_W, F_law18_ConfLastr33_W, F_law18_ConfLastc_W, e6, e16, e17, e20]
        exact ⟨rfl, rfl, e4, e9, e12, e13, e14, e15, e18, e19, e20⟩
      | true =>
        rw [ho] at hwant e17
        generalize gV old = w at *
        by_cases hw : w = []
        · subst hw
          rw [if_neg (by simp)] at hwant
          subst hwant
          have b0 : strEq ⟨([] : List UInt8).toArray⟩ ⟨#[]⟩ = true := rfl
          simp only [fws, cond_true, cond_false, if_true, if_false, unV, isNil, optI, iV, stepI, evalR, reduceIte, reduceCtorEq, Nat.reduceEqDiff, Int.reduceLT, Int.reduceLE, Int.reduceToNat, Nat.reduceLT, Nat.reduceLeDiff, Int.reduceEq, Int.reduceNeg, IntKind.bits, Nat.reduceAdd, Nat.reduceMul, Nat.reducePow, Int.reducePow, ini, fwi, F_law18_ConfLastr0_W, F_law18_ConfLastr1_W, F_law18_ConfLastr2_W, F_law18_ConfLastr2_g3, F_law18_ConfLastr2_g8, F_law18_ConfLastr2_g13, F_law18_ConfLastr2_g18, F_law18_ConfLastr2_g22, F_law18_ConfLastr3_W, F_law18_ConfLastr4_W, F_law18_ConfLastr5_W, F_law18_ConfLastr7_W, F_law18_ConfLastr7_g4, F_law18_ConfLastr7_g10, F_law18_ConfLastr8_W, F_law18_ConfLastr6_W, F_law18_ConfLastl0_W, F_law18_ConfLastr9_W, F_law18_ConfLastr10_W, F_law18_ConfLastr11_W, F_law18_ConfLastr12_W, F_law18_ConfLastr13_W, F_law18_ConfLastr14_W, F_law18_ConfLastr14_g2, F_law18_ConfLastr15_W, F_law18_ConfLastr16_W, F_law18_ConfLastr16_g2, F_law18_ConfLastr17_W, F_law18_ConfLastr18_W, F_law18_ConfLastr19_W, F_law18_ConfLastr20_W, F_law18_ConfLastr21_W, F_law18_ConfLastr22_W, F_law18_ConfLastr22_g1, F_law18_ConfLastr22_g4, F_law18_ConfLastr23_W, F_law18_ConfLastr24_W, F_law18_ConfLastr24_g2, F_law18_ConfLastr24_g6, F_law18_ConfLastr24_g10, F_law18_ConfLastr25_W, F_law18_ConfLastr26_W, F_law18_ConfLastr27_W, F_law18_ConfLastr29_W, F_law18_ConfLastr30_W, F_law18_ConfLastr31_W, F_law18_ConfLastr31_g4, F_law18_ConfLastr31_g7, F_law18_ConfLastr32_W, F_law18_ConfLastr28_W, F_law18_ConfLastl1_W, F_law18_ConfLastr33_W, F_law18_ConfLastc_W, e6, e16, e17, e20, b0]
          exact ⟨rfl, rfl, e4, e9, e12, e13, e14, e15, e18, e19, e20⟩
        · rw [if_pos ⟨rfl, rfl, hw⟩] at hwant
          have b0 := ne_str hw
          have z1 : w.length + 1 ≤ 9223372036854775807 := by omega
          have z2 : w.length + 1 + v.length ≤ 9223372036854775807 := by omega
          simp only [fws, cond_true, cond_false, if_true, if_false, unV, isNil, optI, iV, stepI, evalR, reduceIte, reduceCtorEq, Nat.reduceEqDiff, Int.reduceLT, Int.reduceLE, Int.reduceToNat, Nat.reduceLT, Nat.reduceLeDiff, Int.reduceEq, Int.reduceNeg, IntKind.bits, Nat.reduceAdd, Nat.reduceMul, Nat.reducePow, Int.reducePow, ini, fwh, lk, cellsAt, tagOf, spotOf, rdN, spl, fillL, zr, fwi, F_law18_ConfLastr0_W, F_law18_ConfLastr1_W, F_law18_ConfLastr2_W, F_law18_ConfLastr2_g3, F_law18_ConfLastr2_g8, F_law18_ConfLastr2_g13, F_law18_ConfLastr2_g18, F_law18_ConfLastr2_g22, F_law18_ConfLastr3_W, F_law18_ConfLastr4_W, F_law18_ConfLastr5_W, F_law18_ConfLastr7_W, F_law18_ConfLastr7_g4, F_law18_ConfLastr7_g10, F_law18_ConfLastr8_W, F_law18_ConfLastr6_W, F_law18_ConfLastl0_W, F_law18_ConfLastr9_W, F_law18_ConfLastr10_W, F_law18_ConfLastr11_W, F_law18_ConfLastr12_W, F_law18_ConfLastr13_W, F_law18_ConfLastr14_W, F_law18_ConfLastr14_g2, F_law18_ConfLastr15_W, F_law18_ConfLastr16_W, F_law18_ConfLastr16_g2, F_law18_ConfLastr17_W, F_law18_ConfLastr18_W, F_law18_ConfLastr19_W, F_law18_ConfLastr20_W, F_law18_ConfLastr21_W, F_law18_ConfLastr22_W, F_law18_ConfLastr22_g1, F_law18_ConfLastr22_g4, F_law18_ConfLastr23_W, F_law18_ConfLastr24_W, F_law18_ConfLastr24_g2, F_law18_ConfLastr24_g6, F_law18_ConfLastr24_g10, F_law18_ConfLastr25_W, F_law18_ConfLastr26_W, F_law18_ConfLastr27_W, F_law18_ConfLastr29_W, F_law18_ConfLastr30_W, F_law18_ConfLastr31_W, F_law18_ConfLastr31_g4, F_law18_ConfLastr31_g7, F_law18_ConfLastr32_W, F_law18_ConfLastr28_W, F_law18_ConfLastl1_W, F_law18_ConfLastr33_W, F_law18_ConfLastc_W, e5, e6, e16, e17, e20, b0, z1, z2]
          exact ⟨rfl, rfl, e4, e9, e12, e13, e14, e15, e18, e19, by rw [hwant]; rfl⟩
  refine W.mono st22 fun z e h' ⟨q2, q1, e4, e9, e12, e13, e14, e15, e18, e19, e20⟩ => ?_
  subst h' q2
  rw [seqQ_normal, w_seq]
  have st24 : W T (.seq (.reg F_law18_ConfLastr24) (.cond (.t 173) (.seq (.reg F_law18_ConfLastr25) .ret) .skip)) e h (Kp (fun z e h' => z = .normal ∧ h' = h ∧ e 4 = strV n ∧ e 9 = ptrC 1 0 ∧ e 12 = ptrC 2 0 ∧ e 15 = .int .i64 m)) := by
    generalize wantM n v more (lst (lst b.2)[m].2) = want at *
    have d0 : decide (want = want) = true := decide_eq_true rfl
    have d1 : decide ((0 : Int) = 0) = true := rfl
    simp only [fws, cond_true, cond_false, if_true, if_false, unV, isNil, optI, iV, stepI, evalR, reduceIte, reduceCtorEq, Nat.reduceEqDiff, Int.reduceLT, Int.reduceLE, Int.reduceToNat, Nat.reduceLT, Nat.reduceLeDiff, Int.reduceEq, Int.reduceNeg, IntKind.bits, Nat.reduceAdd, Nat.reduceMul, Nat.reducePow, Int.reducePow, ini, fwi, F_law18_ConfLastr0_W, F_law18_ConfLastr1_W, F_law18_ConfLastr2_W, F_law18_ConfLastr2_g3, F_law18_ConfLastr2_g8, F_law18_ConfLastr2_g13, F_law18_ConfLastr2_g18, F_law18_ConfLastr2_g22, F_law18_ConfLastr3_W, F_law18_ConfLastr4_W, F_law18_ConfLastr5_W, F_law18_ConfLastr7_W, F_law18_ConfLastr7_g4, F_law18_ConfLastr7_g10, F_law18_ConfLastr8_W, F_law18_ConfLastr6_W, F_law18_ConfLastl0_W, F_law18_ConfLastr9_W, F_law18_ConfLastr10_W, F_law18_ConfLastr11_W, F_law18_ConfLastr12_W, F_law18_ConfLastr13_W, F_law18_ConfLastr14_W, F_law18_ConfLastr14_g2, F_law18_ConfLastr15_W, F_law18_ConfLastr16_W, F_law18_ConfLastr16_g2, F_law18_ConfLastr17_W, F_law18_ConfLastr18_W, F_law18_ConfLastr19_W, F_law18_ConfLastr20_W, F_law18_ConfLastr21_W, F_law18_ConfLastr22_W, F_law18_ConfLastr22_g1, F_law18_ConfLastr22_g4, F_law18_ConfLastr23_W, F_law18_ConfLastr24_W, F_law18_ConfLastr24_g2, F_law18_ConfLastr24_g6, F_law18_ConfLastr24_g10, F_law18_ConfLastr25_W, F_law18_ConfLastr26_W, F_law18_ConfLastr27_W, F_law18_ConfLastr29_W, F_law18_ConfLastr30_W, F_law18_ConfLastr31_W, F_law18_ConfLastr31_g4, F_law18_ConfLastr31_g7, F_law18_ConfLastr32_W, F_law18_ConfLastr28_W, F_law18_ConfLastl1_W, F_law18_ConfLastr33_W, F_law18_ConfLastc_W, e13, e14, e18, e19, e20, d0, d1]
    exact ⟨rfl, rfl, e4, e9, e12, e15⟩
  refine W.mono st24 fun z e h' ⟨q2, q1, e4, e9, e12, e15⟩ => ?_
  subst h' q2
  rw [seqQ_normal]
  have hlp := loop_L1 (T := T) t.cf.get hm hm' hok
  simp only [fws, cond_true, cond_false, if_true, if_false, unV, isNil, optI, iV, stepI, evalR, reduceIte, reduceCtorEq, Nat.reduceEqDiff, Int.reduceLT, Int.reduceLE, Int.reduceToNat, Nat.reduceLT, Nat.reduceLeDiff, Int.reduceEq, Int.reduceNeg, IntKind.bits, Nat.reduceAdd, Nat.reduceMul, Nat.reducePow, Int.reducePow, ini, F_law18_ConfLastr0_W, F_law18_ConfLastr1_W, F_law18_ConfLastr2_W, F_law18_ConfLastr2_g3, F_law18_ConfLastr2_g8, F_law18_ConfLastr2_g13, F_law18_ConfLastr2_g18, F_law18_ConfLastr2_g22, F_law18_ConfLastr3_W, F_law18_ConfLastr4_W, F_law18_ConfLastr5_W, F_law18_ConfLastr7_W, F_law18_ConfLastr7_g4, F_law18_ConfLastr7_g10, F_law18_ConfLastr8_W, F_law18_ConfLastr6_W, F_law18_ConfLastl0_W, F_law18_ConfLastr9_W, F_law18_ConfLastr10_W, F_law18_ConfLastr11_W, F_law18_ConfLastr12_W, F_law18_ConfLastr13_W, F_law18_ConfLastr14_W, F_law18_ConfLastr14_g2, F_law18_ConfLastr15_W, F_law18_ConfLastr16_W, F_law18_ConfLastr16_g2, F_law18_ConfLastr17_W, F_law18_ConfLastr18_W, F_law18_ConfLastr19_W, F_law18_ConfLastr20_W, F_law18_ConfLastr21_W, F_law18_ConfLastr22_W, F_law18_ConfLastr22_g1, F_law18_ConfLastr22_g4, F_law18_ConfLastr23_W, F_law18_ConfLastr24_W, F_law18_ConfLastr24_g2, F_law18_ConfLastr24_g6, F_law18_ConfLastr24_g10, F_law18_ConfLastr25_W, F_law18_ConfLastr26_W, F_law18_ConfLastr27_W, F_law18_ConfLastr29_W, F_law18_ConfLastr30_W, F_law18_ConfLastr31_W, F_law18_ConfLastr31_g4, F_law18_ConfLastr31_g7, F_law18_ConfLastr32_W, F_law18_ConfLastr28_W, F_law18_ConfLastr33_W, F_law18_ConfLastc_W]
  refine W.mono (hlp _ 0 _ _ (Nat.zero_add _) hHl g1 g2 ?_ ?_ ?_ ?_ ?_) fun z e h' hz => ?_
  all_goals try (first | assumption | rfl)
  subst hz
  simp only [fws, cond_true, cond_false, if_true, if_false, unV, isNil, optI, iV, stepI, evalR, reduceIte, reduceCtorEq, Nat.reduceEqDiff, Int.reduceLT, Int.reduceLE, Int.reduceToNat, Nat.reduceLT, Nat.reduceLeDiff, Int.reduceEq, Int.reduceNeg, IntKind.bits, Nat.reduceAdd, Nat.reduceMul, Nat.reducePow, Int.reducePow, ini, fwi, F_law18_ConfLastr0_W, F_law18_ConfLastr1_W, F_law18_ConfLastr2_W, F_law18_ConfLastr2_g3, F_law18_ConfLastr2_g8, F_law18_ConfLastr2_g13, F_law18_ConfLastr2_g18, F_law18_ConfLastr2_g22, F_law18_ConfLastr3_W, F_law18_ConfLastr4_W, F_law18_ConfLastr5_W, F_law18_ConfLastr7_W, F_law18_ConfLastr7_g4, F_law18_ConfLastr7_g10, F_law18_ConfLastr8_W, F_law18_ConfLastr6_W, F_law18_ConfLastl0_W, F_law18_ConfLastr9_W, F_law18_ConfLastr10_W, F_law18_ConfLastr11_W, F_law18_ConfLastr12_W, F_law18_ConfLastr13_W, F_law18_ConfLastr14_W, F_law18_ConfLastr14_g2, F_law18_ConfLastr15_W, F_law18_ConfLastr16_W, F_law18_ConfLastr16_g2, F_law18_ConfLastr17_W, F_law18_ConfLastr18_W, F_law18_ConfLastr19_W, F_law18_ConfLastr20_W, F_law18_ConfLastr21_W, F_law18_ConfLastr22_W, F_law18_ConfLastr22_g1, F_law18_ConfLastr22_g4, F_law18_ConfLastr23_W, F_law18_ConfLastr24_W, F_law18_ConfLastr24_g2, F_law18_ConfLastr24_g6, F_law18_ConfLastr24_g10, F_law18_ConfLastr25_W, F_law18_ConfLastr26_W, F_law18_ConfLastr27_W, F_law18_ConfLastr29_W, F_law18_ConfLastr30_W, F_law18_ConfLastr31_W, F_law18_ConfLastr31_g4, F_law18_ConfLastr31_g7, F_law18_ConfLastr32_W, F_law18_ConfLastr28_W, F_law18_ConfLastl1_W, F_law18_ConfLastr33_W, F_law18_ConfLastc_W, CC_of ca]
theorem law_ConfLast (t : Law T) (hlaw : T 3 = some F_law18_ConfLast) (a n v : List UInt8) (more : Bool) : Ev T 3 [.agg #[strV a, strV n, strV v, .bool more]] [] fun u h => u = .bool true := by
  have ex : ∀ l : List UInt8, ∃ b : Bool, l.length ≤ 1000000 → FnV T 34 [strV l] (.bool b) := fun l => by
    by_cases hl : l.length ≤ 1000000
    · obtain ⟨b, _, h⟩ := f_isclean t.cf.lf t.cf.pa l (by omega)
      exact ⟨b, fun _ => h⟩
    · exact ⟨true, fun h => absurd h hl⟩
  have hicl := fun l => Classical.choose_spec (ex l)
  rw [Ev_fn hlaw rfl]
  unfold F_law18_ConfLast F_law18_ConfLastc
  rw [w_seq]
  have st0 : W T (.reg F_law18_ConfLastr0) (ini [.agg #[strV a, strV n, strV v, .bool more]]) [] (Kp (fun x e h => h = [blk4 a n v more] ∧ x = .normal ∧ e 1 = ptrC 0 0)) := by
    simp only [fws, cond_true, cond_false, if_true, if_false, unV, isNil, optI, iV, stepI, evalR, reduceIte, reduceCtorEq, Nat.reduceEqDiff, Int.reduceLT, Int.reduceLE, Int.reduceToNat, Nat.reduceLT, Nat.reduceLeDiff, Int.reduceEq, Int.reduceNeg, IntKind.bits, Nat.reduceAdd, Nat.reduceMul, Nat.reducePow, Int.reducePow, ini, fwh, lk, cellsAt, tagOf, spotOf, rdN, spl, fillL, zr, F_law18_ConfLastr0_W, F_law18_ConfLastr1_W, F_law18_ConfLastr2_W, F_law18_ConfLastr2_g3, F_law18_ConfLastr2_g8, F_law18_ConfLastr2_g13, F_law18_ConfLastr2_g18, F_law18_ConfLastr2_g22, F_law18_ConfLastr3_W, F_law18_ConfLastr4_W, F_law18_ConfLastr5_W, F_law18_ConfLastr7_W, F_law18_ConfLastr7_g4, F_law18_ConfLastr7_g10, F_law18_ConfLastr8_W, F_law18_ConfLastr6_W, F_law18_ConfLastl0_W, F_law18_ConfLastr9_W, F_law18_ConfLastr10_W, F_law18_ConfLastr11_W, F_law18_ConfLastr12_W, F_law18_ConfLastr13_W, F_law18_ConfLastr14_W, F_law18_ConfLastr14_g2, F_law18_ConfLastr15_W, F_law18_ConfLastr16_W, F_law18_ConfLastr16_g2, F_law18_ConfLastr17_W, F_law18_ConfLastr18_W, F_law18_ConfLastr19_W, F_law18_ConfLastr20_W, F_law18_ConfLastr21_W, F_law18_ConfLastr22_W, F_law18_ConfLastr22_g1, F_law18_ConfLastr22_g4, F_law18_ConfLastr23_W, F_law18_ConfLastr24_W, F_law18_ConfLastr24_g2, F_law18_ConfLastr24_g6, F_law18_ConfLastr24_g10, F_law18_ConfLastr25_W, F_law18_ConfLastr26_W, F_law18_ConfLastr27_W, F_law18_ConfLastr29_W, F_law18_ConfLastr30_W, F_law18_ConfLastr31_W, F_law18_ConfLastr31_g4, F_law18_ConfLastr31_g7, F_law18_ConfLastr32_W, F_law18_ConfLastr28_W, F_law18_ConfLastl1_W, F_law18_ConfLastr33_W, F_law18_ConfLastc_W]
    exact ⟨rfl, rfl, rfl⟩
  refine W.mono st0 fun x e h ⟨q1, q2, e1⟩ => ?_
  subst h q2
  rw [seqQ_normal, w_seq]
  have st1 : W T (.dreg F_law18_ConfLastr1 []) e [blk4 a n v more] (Kp (fun x e h => h = [blk4 a n v more] ∧ x = .normal ∧ e 3 = strV a ∧ e 4 = strV n ∧ e 5 = strV v ∧ e 6 = .bool more)) := by
    simp only [fws, cond_true, cond_false, if_true, if_false, unV, isNil, optI, iV, stepI, evalR, reduceIte, reduceCtorEq, Nat.reduceEqDiff, Int.reduceLT, Int.reduceLE, Int.reduceToNat, Nat.reduceLT, Nat.reduceLeDiff, Int.reduceEq, Int.reduceNeg, IntKind.bits, Nat.reduceAdd, Nat.reduceMul, Nat.reducePow, Int.reducePow, ini, fwh, lk, cellsAt, tagOf, spotOf, rdN, spl, fillL, zr, fwi, F_law18_ConfLastr0_W, F_law18_ConfLastr1_W, F_law18_ConfLastr2_W, F_law18_ConfLastr2_g3, F_law18_ConfLastr2_g8, F_law18_ConfLastr2_g13, F_law18_ConfLastr2_g18, F_law18_ConfLastr2_g22, F_law18_ConfLastr3_W, F_law18_ConfLastr4_W, F_law18_ConfLastr5_W, F_law18_ConfLastr7_W, F_law18_ConfLastr7_g4, F_law18_ConfLastr7_g10, F_law18_ConfLastr8_W, F_law18_ConfLastr6_W, F_law18_ConfLastl0_W, F_law18_ConfLastr9_W, F_law18_ConfLastr10_W, F_law18_ConfLastr11_W, F_law18_ConfLastr12_W, F_law18_ConfLastr13_W, F_law18_ConfLastr14_W, F_law18_ConfLastr14_g2, F_law18_ConfLastr15_W, F_law18_ConfLastr16_W, F_law18_ConfLastr16_g2, F_law18_ConfLastr17_W, F_law18_ConfLastr18_W, F_law18_ConfLastr19_W, F_law18_ConfLastr20_W, F_law18_ConfLastr21_W, F_law18_ConfLastr22_W, F_law18_ConfLastr22_g1, F_law18_ConfLastr22_g4, F_law18_ConfLastr23_W, F_law18_ConfLastr24_W, F_law18_ConfLastr24_g2, F_law18_ConfLastr24_g6, F_law18_ConfLastr24_g10, F_law18_ConfLastr25_W, F_law18_ConfLastr26_W, F_law18_ConfLastr27_W, F_law18_ConfLastr29_W, F_law18_ConfLastr30_W, F_law18_ConfLastr31_W, F_law18_ConfLastr31_g4, F_law18_ConfLastr31_g7, F_law18_ConfLastr32_W, F_law18_ConfLastr28_W, F_law18_ConfLastl1_W, F_law18_ConfLastr33_W, F_law18_ConfLastc_W, e1]
    exact ⟨rfl, rfl, rfl, rfl, rfl, rfl⟩
  refine W.mono st1 fun x e h ⟨q1, q2, e3, e4, e5, e6⟩ => ?_
  subst h q2
  rw [seqQ_normal, w_seq]
  refine W.mono (st_gu t.name t.ends a n v more e3 e4 e5 e6) fun x e h hq => ?_
  rcases hq with ⟨rfl, e2⟩ | ⟨rfl, rfl, e3, e4, e5, e6, k1, k2, k3, hg, he, ha⟩
  · rw [seqQ_ret]
    simp only [fws, cond_true, cond_false, if_true, if_false, unV, isNil, optI, iV, stepI, evalR, reduceIte, reduceCtorEq, Nat.reduceEqDiff, Int.reduceLT, Int.reduceLE, Int.reduceToNat, Nat.reduceLT, Nat.reduceLeDiff, Int.reduceEq, Int.reduceNeg, IntKind.bits, Nat.reduceAdd, Nat.reduceMul, Nat.reducePow, Int.reducePow, ini, e2]
  rw [seqQ_normal, w_seq]
  have st4 : W T (.seq (.reg F_law18_ConfLastr4) (.block 0 (.loop F_law18_ConfLastl0))) e [blk4 a n v more] (Kp (fun x e h => (x = .ret ∧ e 2 = .bool true) ∨ (x = .normal ∧ h = [blk4 a n v more] ∧ e 3 = strV a ∧ e 4 = strV n ∧ e 5 = strV v ∧ e 6 = .bool more ∧ ∀ c ∈ v, valC c = true))) := by
    simp only [fws, cond_true, cond_false, if_true, if_false, unV, isNil, optI, iV, stepI, evalR, reduceIte, reduceCtorEq, Nat.reduceEqDiff, Int.reduceLT, Int.reduceLE, Int.reduceToNat, Nat.reduceLT, Nat.reduceLeDiff, Int.reduceEq, Int.reduceNeg, IntKind.bits, Nat.reduceAdd, Nat.reduceMul, Nat.reducePow, Int.reducePow, ini, F_law18_ConfLastr0_W, F_law18_ConfLastr1_W, F_law18_ConfLastr2_W, F_law18_ConfLastr2_g3, F_law18_ConfLastr2_g8, F_law18_ConfLastr2_g13, F_law18_ConfLastr2_g18, F_law18_ConfLastr2_g22, F_law18_ConfLastr3_W, F_law18_ConfLastr4_W, F_law18_ConfLastr5_W, F_law18_ConfLastr7_W, F_law18_ConfLastr7_g4, F_law18_ConfLastr7_g10, F_law18_ConfLastr8_W, F_law18_ConfLastr6_W, F_law18_ConfLastr9_W, F_law18_ConfLastr10_W, F_law18_ConfLastr11_W, F_law18_ConfLastr12_W, F_law18_ConfLastr13_W, F_law18_ConfLastr14_W, F_law18_ConfLastr14_g2, F_law18_ConfLastr15_W, F_law18_ConfLastr16_W, F_law18_ConfLastr16_g2, F_law18_ConfLastr17_W, F_law18_ConfLastr18_W, F_law18_ConfLastr19_W, F_law18_ConfLastr20_W, F_law18_ConfLastr21_W, F_law18_ConfLastr22_W, F_law18_ConfLastr22_g1, F_law18_ConfLastr22_g4, F_law18_ConfLastr23_W, F_law18_ConfLastr24_W, F_law18_ConfLastr24_g2, F_law18_ConfLastr24_g6, F_law18_ConfLastr24_g10, F_law18_ConfLastr25_W, F_law18_ConfLastr26_W, F_law18_ConfLastr27_W, F_law18_ConfLastr29_W, F_law18_ConfLastr30_W, F_law18_ConfLastr31_W, F_law18_ConfLastr31_g4, F_law18_ConfLastr31_g7, F_law18_ConfLastr32_W, F_law18_ConfLastr28_W, F_law18_ConfLastl1_W, F_law18_ConfLastr33_W, F_law18_ConfLastc_W]
    refine W.mono (loop_L0 v k3 (a := a) (n := n) (mv := .bool more) v.length 0 _ (Nat.zero_add _) ?_ ?_ ?_ ?_ ?_) fun x e h hq => ?_
    all_goals try (first | assumption | rfl)
    rw [List.drop_zero] at hq
    rcases hq.2 with ⟨rfl, h3, h4, h5, h6, h7⟩ | ⟨rfl, h2⟩
    · simp only [fws, cond_true, cond_false, if_true, if_false, unV, isNil, optI, iV, stepI, evalR, reduceIte, reduceCtorEq, Nat.reduceEqDiff, Int.reduceLT, Int.reduceLE, Int.reduceToNat, Nat.reduceLT, Nat.reduceLeDiff, Int.reduceEq, Int.reduceNeg, IntKind.bits, Nat.reduceAdd, Nat.reduceMul, Nat.reducePow, Int.reducePow, ini]
      exact .inr ⟨rfl, hq.1, h3, h4, h5, h6, h7⟩
    · simp only [fws, cond_true, cond_false, if_true, if_false, unV, isNil, optI, iV, stepI, evalR, reduceIte, reduceCtorEq, Nat.reduceEqDiff, Int.reduceLT, Int.reduceLE, Int.reduceToNat, Nat.reduceLT, Nat.reduceLeDiff, Int.reduceEq, Int.reduceNeg, IntKind.bits, Nat.reduceAdd, Nat.reduceMul, Nat.reducePow, Int.reducePow, ini]
      exact .inl ⟨rfl, h2⟩
  refine W.mono st4 fun x e h hq => ?_
  rcases hq with ⟨rfl, e2⟩ | ⟨rfl, rfl, e3, e4, e5, e6, hv⟩
  · rw [seqQ_ret]
    simp only [fws, cond_true, cond_false, if_true, if_false, unV, isNil, optI, iV, stepI, evalR, reduceIte, reduceCtorEq, Nat.reduceEqDiff, Int.reduceLT, Int.reduceLE, Int.reduceToNat, Nat.reduceLT, Nat.reduceLeDiff, Int.reduceEq, Int.reduceNeg, IntKind.bits, Nat.reduceAdd, Nat.reduceMul, Nat.reducePow, Int.reducePow, ini, e2]
  rw [seqQ_normal]
  exact law_rest t hicl e3 e4 e5 e6 hg ha he hv k1 k2 k3
end
end Go.Proofs.YtbhoaiacnoiocaaDoor
