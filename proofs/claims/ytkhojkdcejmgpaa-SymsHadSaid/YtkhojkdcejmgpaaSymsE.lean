/- A map of lists that grow. -/
import Derived.Test.YtkhojkdcejmgpaaSymsD
namespace Go.Proofs.Ytkhojkdcejmgpaa
open Go Fw
set_option linter.unusedSimpArgs false
set_option linter.unusedVariables false

theorem nodup_inj {α : Type} {l : List α} (h : l.Nodup) {i j : Nat} {hi : i < l.length} {hj : j < l.length} (he : l[i] = l[j]) : i = j := by
  rcases Nat.lt_trichotomy i j with q | q | q
  · exact absurd he (List.pairwise_iff_getElem.1 h i j hi hj q)
  · exact q
  · exact absurd he.symm (List.pairwise_iff_getElem.1 h j i hj hi q)
structure KV where
  key : List UInt8
  blk : Nat
  tag : Nat
abbrev Idx := List UInt8 → List Int
def kvs (kv : List KV) (x : Idx) : List (Value × Value) := kv.map fun e => (strV e.key, own e.blk e.tag (x e.key).length)
theorem cellEq_str {a b : List UInt8} : cellEq 2 (strV a) (strV b) = some (decide (a = b)) := by
  show some (strEq ⟨a.toArray⟩ ⟨b.toArray⟩) = _
  rw [strEq_str]
theorem kFind_none {kv : List KV} {x : Idx} {k : List UInt8} (h : ∀ e ∈ kv, e.key ≠ k) : ∀ n, kFind 2 (strV k) (kvs kv x) n = some none := by
  induction kv with
  | nil => intro n; rfl
  | cons e kv ih =>
    intro n
    have h1 : decide (k = e.key) = false := by
      have := h e (by simp)
      simp only [decide_eq_false_iff_not]
      exact fun hh => this hh.symm
    show kFind 2 (strV k) ((strV e.key, _) :: kvs kv x) n = _
    simp only [kFind, cellEq_str, h1]
    exact ih (fun e he => h e (by simp [he])) (n + 1)
theorem kFind_some {x : Idx} {k : List UInt8} : ∀ {kv : List KV} {i : Nat} (hi : i < kv.length) (_ : kv[i].key = k) (_ : ∀ (j : Nat) (_ : j < i), (kv[j]'(by omega)).key ≠ k) (n : Nat), kFind 2 (strV k) (kvs kv x) n = some (some (n + i, own kv[i].blk kv[i].tag (x k).length))
  | [], i, hi, _, _, _ => by simp at hi
  | e :: kv, 0, _, h, _, n => by
    have h1 : decide (k = e.key) = true := by simp at h; simp [h]
    show kFind 2 (strV k) ((strV e.key, own e.blk e.tag (x e.key).length) :: kvs kv x) n = _
    simp only [kFind, cellEq_str, h1]
    simp at h
    simp [h]
  | e :: kv, i + 1, hi, h, hj, n => by
    have h1 : decide (k = e.key) = false := by
      have := hj 0 (by omega)
      simp at this
      simp only [decide_eq_false_iff_not]
      exact fun hh => this hh.symm
    show kFind 2 (strV k) ((strV e.key, _) :: kvs kv x) n = _
    simp only [kFind, cellEq_str, h1]
    have := kFind_some (x := x) (kv := kv) (i := i) (by simpa using hi) (by simpa using h) (fun j hj' => by have := hj (j + 1) (by omega); simpa using this) (n + 1)
    rw [this]
    simp
    omega
/-- A map whose values are lists, each in a block of its own. -/
structure MM (H : Heap) (b : Nat) (x : Idx) (keep : List Nat) : Prop where
  ex : ∃ (tag : Nat) (kv : List KV), H[b]? = some ⟨tag, .map (kvs kv x)⟩ ∧ (kv.map (·.key)).Nodup ∧ (kv.map (·.blk)).Nodup ∧ (∀ e ∈ kv, H[e.blk]? = some (oe (intE .i64) e.tag (x e.key)) ∧ e.blk ≠ b ∧ e.blk ∉ keep ∧ x e.key ≠ []) ∧ ∀ k, x k ≠ [] → ∃ e ∈ kv, e.key = k
theorem MM.mono {H : Heap} {b : Nat} {x : Idx} {keep : List Nat} (h : MM H b x keep) (g : Heap) : MM (H ++ g) b x keep := by
  obtain ⟨tag, kv, h1, h2, h3, h4, h5⟩ := h.ex
  refine ⟨tag, kv, ?_, h2, h3, fun e he => ?_, h5⟩
  · rw [List.getElem?_append_left (List.getElem?_eq_some_iff.1 h1).1]; exact h1
  · obtain ⟨a1, a2⟩ := h4 e he
    refine ⟨?_, a2⟩
    rw [List.getElem?_append_left (List.getElem?_eq_some_iff.1 a1).1]; exact a1
theorem MM.keep {H : Heap} {b : Nat} {x : Idx} {keep : List Nat} (h : MM H b x keep) (g : Heap) (add : List Nat) (ha : ∀ q ∈ add, H.length ≤ q) : MM (H ++ g) b x (add ++ keep) := by
  obtain ⟨tag', kv', k1, k2, k3, k4, k5⟩ := h.ex
  have hb := (List.getElem?_eq_some_iff.1 k1).1
  refine ⟨tag', kv', ?_, k2, k3, fun e he => ?_, k5⟩
  · rw [List.getElem?_append_left hb]; exact k1
  · obtain ⟨a1, a2, a3, a4⟩ := k4 e he
    have hl := (List.getElem?_eq_some_iff.1 a1).1
    refine ⟨by rw [List.getElem?_append_left hl]; exact a1, a2, fun hm => ?_, a4⟩
    rcases List.mem_append.1 hm with hm | hm
    · have := ha _ hm; omega
    · exact a3 hm
theorem MM.less {H : Heap} {b : Nat} {x : Idx} {keep keep' : List Nat} (h : MM H b x keep) (hs : ∀ q ∈ keep', q ∈ keep) : MM H b x keep' := by
  obtain ⟨tag, kv, h1, h2, h3, h4, h5⟩ := h.ex
  exact ⟨tag, kv, h1, h2, h3, fun e he => ⟨(h4 e he).1, (h4 e he).2.1, fun hm => (h4 e he).2.2.1 (hs _ hm), (h4 e he).2.2.2⟩, h5⟩
theorem MM.new (H : Heap) (g : Heap) (keep : List Nat) : MM (H ++ ⟨0, .map []⟩ :: g) H.length (fun _ => []) keep :=
  ⟨0, [], by simp [kvs], by simp, by simp, fun e he => by simp at he, fun k hk => absurd rfl hk⟩
theorem key_pos {kv : List KV} {k : List UInt8} (hnd : (kv.map (·.key)).Nodup) {e : KV} (he : e ∈ kv) (hk : e.key = k) : ∃ (i : Nat) (hi : i < kv.length), kv[i] = e ∧ ∀ (j : Nat) (_ : j < kv.length), j ≠ i → kv[j].key ≠ k := by
  obtain ⟨i, hi, rfl⟩ := List.getElem_of_mem he
  refine ⟨i, hi, rfl, fun j hj hne h => hne ?_⟩
  have h1 : (kv.map (·.key))[j]'(by simpa using hj) = (kv.map (·.key))[i]'(by simpa using hi) := by simp [h, hk]
  exact nodup_inj hnd h1
/-- Looked up. -/
theorem MM.get {H : Heap} {b : Nat} {x : Idx} {keep : List Nat} (h : MM H b x keep) (k : List UInt8) :
    ∃ v, lkuI H 2 false (.slice none 0 0) (.map (some b)) (strV k) = some (v, H) ∧ ((x k = [] ∧ v = .slice none 0 0) ∨ (x k ≠ [] ∧ ∃ blk tag, v = own blk tag (x k).length ∧ H[blk]? = some (oe (intE .i64) tag (x k)))) := by
  obtain ⟨tag, kv, h1, h2, h3, h4, h5⟩ := h.ex
  by_cases hx : x k = []
  · refine ⟨.slice none 0 0, ?_, .inl ⟨hx, rfl⟩⟩
    have h6 : ∀ e ∈ kv, e.key ≠ k := fun e he hk => (h4 e he).2.2.2 (by rw [hk]; exact hx)
    simp only [lkuI, h1, kFind_none h6]
    rfl
  · obtain ⟨e, he, hk⟩ := h5 k hx
    obtain ⟨i, hi, h6, h7⟩ := key_pos h2 he hk
    have h8 := (h4 e he).1
    rw [hk] at h8
    refine ⟨own e.blk e.tag (x k).length, ?_, .inr ⟨hx, e.blk, e.tag, rfl, h8⟩⟩
    simp only [lkuI, h1, kFind_some hi (by rw [h6]; exact hk) (fun j hj => h7 j (by omega) (by omega)), h6]
    rfl
def Idx.push (x : Idx) (k : List UInt8) (n : Int) : Idx := fun q => if q = k then x k ++ [n] else x q
theorem kvs_push_ne {kv : List KV} {x : Idx} {k : List UInt8} {n : Int} (h : ∀ e ∈ kv, e.key ≠ k) : kvs kv (x.push k n) = kvs kv x := by
  unfold kvs
  refine List.map_congr_left fun e he => ?_
  have : x.push k n e.key = x e.key := by unfold Idx.push; rw [if_neg (h e he)]
  rw [this]
/-- One more in a list. -/
theorem MM.push {H : Heap} {b : Nat} {x : Idx} {keep : List Nat} (h : MM H b x keep) (hkeep : ∀ q ∈ keep, q < H.length) (k : List UInt8) (n : Int) (hb : (x k).length < 1000000) :
    ∃ v v' H' H'', lkuI H 2 false (.slice none 0 0) (.map (some b)) (strV k) = some (v, H) ∧ appV 1 8 H v [.int .i64 n] 1 = some (v', H') ∧ mupI H' 2 (.map (some b)) (strV k) v' = some (.tuple #[], H'') ∧
      MM H'' b (x.push k n) keep ∧ H.length ≤ H''.length ∧ (∀ q ∈ keep, q ≠ b → H''[q]? = H[q]?) ∧ ∀ q ∈ keep, H'[q]? = H[q]? := by
  obtain ⟨tag, kv, h1, h2, h3, h4, h5⟩ := h.ex
  have hbl := (List.getElem?_eq_some_iff.1 h1).1
  by_cases hx : x k = []
  · have h6 : ∀ e ∈ kv, e.key ≠ k := fun e he hk => (h4 e he).2.2.2 (by rw [hk]; exact hx)
    have hpk : x.push k n k = [n] := by unfold Idx.push; rw [if_pos rfl, hx]; rfl
    have h1' : (H ++ [oe (intE .i64) 0 [n]])[b]? = some ⟨tag, .map (kvs kv x)⟩ := by rw [List.getElem?_append_left hbl]; exact h1
    refine ⟨.slice none 0 0, own H.length 0 1, H ++ [oe (intE .i64) 0 [n]], (H ++ [oe (intE .i64) 0 [n]]).set b ⟨tag, .map (kvs kv x ++ [(strV k, own H.length 0 1)])⟩, ?_, ?_, ?_, ⟨tag, kv ++ [⟨k, H.length, 0⟩], ?_, ?_, ?_, ?_, ?_⟩, ?_, ?_, fun q hq => List.getElem?_append_left (hkeep q hq)⟩
    · simp only [lkuI, h1, kFind_none h6]; rfl
    · rfl
    · simp only [mupI, h1', kFind_none h6]
    · rw [List.getElem?_set_self (by simp; omega)]
      congr 3
      rw [show kvs (kv ++ [⟨k, H.length, 0⟩]) (x.push k n) = kvs kv (x.push k n) ++ [(strV k, own H.length 0 (x.push k n k).length)] by simp [kvs], kvs_push_ne h6, hpk]
      rfl
    · rw [List.map_append, List.nodup_append]
      refine ⟨h2, by simp, fun a ha c hc => ?_⟩
      simp at ha hc
      obtain ⟨e, he, rfl⟩ := ha
      subst hc
      exact h6 e he
    · rw [List.map_append, List.nodup_append]
      refine ⟨h3, by simp, fun a ha c hc => ?_⟩
      simp at ha hc
      obtain ⟨e, he, rfl⟩ := ha
      subst hc
      have := (List.getElem?_eq_some_iff.1 (h4 e he).1).1
      omega
    · intro e he
      rcases List.mem_append.1 he with he | he
      · obtain ⟨a1, a2, a3, a4⟩ := h4 e he
        have hp : x.push k n e.key = x e.key := by unfold Idx.push; rw [if_neg (h6 e he)]
        refine ⟨?_, a2, a3, by rw [hp]; exact a4⟩
        rw [List.getElem?_set_ne (by omega), List.getElem?_append_left (List.getElem?_eq_some_iff.1 a1).1, hp]
        exact a1
      · simp at he
        subst he
        refine ⟨?_, by simp; omega, fun hk => by have := hkeep _ hk; simp at this, by simp [hpk]⟩
        rw [List.getElem?_set_ne (by simp; omega)]
        simp [hpk]
    · intro q hq
      by_cases hqk : q = k
      · exact ⟨⟨k, H.length, 0⟩, by simp, hqk.symm⟩
      · have : x.push k n q = x q := by unfold Idx.push; rw [if_neg hqk]
        rw [this] at hq
        obtain ⟨e, he, h7⟩ := h5 q hq
        exact ⟨e, by simp [he], h7⟩
    · simp
    · intro q hq hqb
      rw [List.getElem?_set_ne (by omega), List.getElem?_append_left (hkeep q hq)]
  · obtain ⟨e, he, hk⟩ := h5 k hx
    obtain ⟨i, hi, h6, h7⟩ := key_pos h2 he hk
    obtain ⟨a1, a2, a3, a4⟩ := h4 e he
    rw [hk] at a1
    have hel := (List.getElem?_eq_some_iff.1 a1).1
    have hpk : x.push k n k = x k ++ [n] := by unfold Idx.push; rw [if_pos rfl]
    have happ := app_own (E := intE .i64) (n := 1) (eb := 8) (k := 1) (src := [.int .i64 n]) rfl a1 (by omega)
    have h1' : (H.set e.blk ⟨e.tag + 1, .cells false 1 ((intE .i64).cs (x k) ++ [.int .i64 n])⟩)[b]? = some ⟨tag, .map (kvs kv x)⟩ := by rw [List.getElem?_set_ne a2]; exact h1
    have hcs : (⟨e.tag + 1, .cells false 1 ((intE .i64).cs (x k) ++ [.int .i64 n])⟩ : Entry) = oe (intE .i64) (e.tag + 1) (x k ++ [n]) := by simp [oe, cs_append, cs_one, intE_e, intE_u]
    refine ⟨own e.blk e.tag (x k).length, own e.blk (e.tag + 1) ((x k).length + 1), _, (H.set e.blk ⟨e.tag + 1, .cells false 1 ((intE .i64).cs (x k) ++ [.int .i64 n])⟩).set b ⟨tag, .map ((kvs kv x).set i (strV k, own e.blk (e.tag + 1) ((x k).length + 1)))⟩, ?_, happ, ?_, ⟨tag, kv.set i ⟨k, e.blk, e.tag + 1⟩, ?_, ?_, ?_, ?_, ?_⟩, ?_, ?_, fun q hq => List.getElem?_set_ne (fun h => a3 (by rw [h]; exact hq))⟩
    · simp only [lkuI, h1, kFind_some hi (by rw [h6]; exact hk) (fun j hj => h7 j (by omega) (by omega)), h6]; rfl
    · simp only [mupI, h1', kFind_some hi (by rw [h6]; exact hk) (fun j hj => h7 j (by omega) (by omega)), Nat.zero_add]
    · rw [List.getElem?_set_self (by simp; omega)]
      congr 3
      refine List.ext_getElem? fun j => ?_
      unfold kvs
      rw [List.map_set, List.getElem?_set, List.getElem?_set]
      by_cases hj : i = j
      · subst hj
        simp [hi, hpk]
      · rw [if_neg hj, if_neg hj, List.getElem?_map, List.getElem?_map]
        by_cases hjl : j < kv.length
        · rw [List.getElem?_eq_getElem hjl]
          have : x.push k n kv[j].key = x kv[j].key := by unfold Idx.push; rw [if_neg (h7 j hjl (by omega))]
          simp [this]
        · rw [List.getElem?_eq_none (by omega)]
          rfl
    · have : (kv.set i ⟨k, e.blk, e.tag + 1⟩).map (·.key) = kv.map (·.key) := by
        rw [List.map_set]
        refine List.ext_getElem? fun j => ?_
        rw [List.getElem?_set]
        split
        · rename_i hj; subst hj; simp [hi, h6, hk]
        · rfl
      rw [this]; exact h2
    · have : (kv.set i ⟨k, e.blk, e.tag + 1⟩).map (·.blk) = kv.map (·.blk) := by
        rw [List.map_set]
        refine List.ext_getElem? fun j => ?_
        rw [List.getElem?_set]
        split
        · rename_i hj; subst hj; simp [hi, h6]
        · rfl
      rw [this]; exact h3
    · intro e' he'
      obtain ⟨j, hj, rfl⟩ := List.getElem_of_mem he'
      have hj2 : j < kv.length := by simpa using hj
      rw [List.getElem_set]
      by_cases hji : i = j
      · rw [if_pos hji]
        refine ⟨?_, a2, a3, by simp [hpk]⟩
        rw [List.getElem?_set_ne (fun h => a2 h.symm), List.getElem?_set_self hel, hcs]
        simp only [hpk]
      · rw [if_neg hji]
        obtain ⟨b1, b2, b3, b4⟩ := h4 kv[j] (List.getElem_mem hj2)
        have hp : x.push k n kv[j].key = x kv[j].key := by unfold Idx.push; rw [if_neg (h7 j hj2 (by omega))]
        refine ⟨?_, b2, b3, by rw [hp]; exact b4⟩
        have hne : e.blk ≠ kv[j].blk := fun hh => hji (nodup_inj h3 (hi := by simpa using hi) (hj := by simpa using hj2) (by simp only [List.getElem_map]; rw [h6]; exact hh))
        rw [List.getElem?_set_ne (fun h => b2 h.symm), List.getElem?_set_ne hne, hp]
        exact b1
    · intro q hq
      by_cases hqk : q = k
      · refine ⟨⟨k, e.blk, e.tag + 1⟩, ?_, hqk.symm⟩
        exact List.mem_set hi _
      · have : x.push k n q = x q := by unfold Idx.push; rw [if_neg hqk]
        rw [this] at hq
        obtain ⟨e', he', h8⟩ := h5 q hq
        obtain ⟨j, hj, rfl⟩ := List.getElem_of_mem he'
        refine ⟨kv[j], ?_, h8⟩
        have hne : i ≠ j := fun hh => by subst hh; rw [h6, hk] at h8; exact hqk h8.symm
        have : (kv.set i ⟨k, e.blk, e.tag + 1⟩)[j]'(by simpa using hj) = kv[j] := by rw [List.getElem_set]; rw [if_neg hne]
        rw [← this]; exact List.getElem_mem _
    · simp
    · intro q hq hqb
      rw [List.getElem?_set_ne (fun h => hqb h.symm), List.getElem?_set_ne (fun h => a3 (by rw [h]; exact hq))]
end Go.Proofs.Ytkhojkdcejmgpaa
