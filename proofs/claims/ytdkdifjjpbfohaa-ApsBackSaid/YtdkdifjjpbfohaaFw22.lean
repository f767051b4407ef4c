/- Lists of a type within values; lists that grow; calls for themselves. -/
import Derived.Test.YtdkdifjjpbfohaaFw21
namespace Go.Proofs.Ytdkdifjjpbfohaa.Fw
open Go
set_option linter.unusedSimpArgs false
set_option linter.unusedVariables false

/-! ### How a type's values lie in cells -/
structure Enc (α : Type) where
  e : α → List Value
  u : Nat
  d : Nat
  hu : ∀ x, (e x).length = u
  hp : ∀ k x, (e x).all (pureV (k + d)) = true
  ho : ∀ x, (e x).all oneC = true

section
variable {α : Type} {E : Enc α} {l m : List α} {H : Heap}
def Enc.cs (E : Enc α) (l : List α) : List Value := l.flatMap E.e
def imm (E : Enc α) (l : List α) : Value := immV l.length (E.cs l)
def atI (E : Enc α) (l : List α) (i : Nat) : Value := iptrV (E.cs (l.drop i))

theorem cs_nil : E.cs [] = [] := rfl
theorem cs_cons {x : α} : E.cs (x :: l) = E.e x ++ E.cs l := rfl
theorem cs_append : E.cs (l ++ m) = E.cs l ++ E.cs m := by simp [Enc.cs]
theorem cs_one {x : α} : E.cs [x] = E.e x := by simp [Enc.cs]
theorem cs_length : (E.cs l).length = l.length * E.u := by
  induction l with
  | nil => simp [Enc.cs]
  | cons x l ih => rw [cs_cons, List.length_append, ih, E.hu, List.length_cons, Nat.succ_mul, Nat.add_comm]
theorem cs_drop : ∀ (l : List α) (i : Nat), (E.cs l).drop (i * E.u) = E.cs (l.drop i)
  | l, 0 => by simp
  | [], i + 1 => by simp [Enc.cs]
  | x :: l, i + 1 => by
    rw [cs_cons, List.drop_succ_cons, ← cs_drop l i, Nat.succ_mul, Nat.add_comm, ← E.hu x, List.drop_length_add_append]
theorem cs_take : ∀ (l : List α) (i : Nat), (E.cs l).take (i * E.u) = E.cs (l.take i)
  | l, 0 => by simp [Enc.cs]
  | [], i + 1 => by simp [Enc.cs]
  | x :: l, i + 1 => by
    rw [cs_cons, List.take_succ_cons, cs_cons, ← cs_take l i, Nat.succ_mul, Nat.add_comm, ← E.hu x, List.take_length_add_append]
theorem cs_pure (k : Nat) : (E.cs l).all (pureV (k + E.d)) = true := by
  unfold Enc.cs
  rw [List.all_flatMap]
  simp [E.hp]
theorem cs_pure' {k : Nat} (h : E.d ≤ k) : (E.cs l).all (pureV k) = true := by
  have := cs_pure (E := E) (l := l) (k - E.d)
  rwa [Nat.sub_add_cancel h] at this
theorem cs_oneC : (E.cs l).all oneC = true := by
  unfold Enc.cs
  rw [List.all_flatMap]
  simp [E.ho]
theorem rdN_len : ∀ (l r : List Value), rdN (l ++ r) l.length = some l
  | [], r => by cases r <;> rfl
  | x :: l, r => by
    simp only [List.cons_append, List.length_cons, rdN, rdN_len l r, Option.map_some]
theorem rdN_all (l : List Value) {n : Nat} (h : n = l.length) : rdN l n = some l := by
  have := rdN_len l []
  rwa [List.append_nil, ← h] at this
theorem rdN_cs {n : Nat} (h : n = l.length * E.u) : rdN (E.cs l) n = some (E.cs l) := rdN_all _ (by rw [cs_length]; exact h)

theorem at_cons {i : Nat} (h : i < l.length) : atI E l i = iptrV (E.e l[i] ++ E.cs (l.drop (i + 1))) := by
  unfold atI
  rw [List.drop_eq_getElem_cons h, cs_cons]
theorem lenI_imm : lenI H 1 (imm E l) = some (.int .i64 l.length, H) := rfl
theorem ixaI_imm {n : Nat} (hn : n = E.u) {k : IntKind} {j : Int} : ixaI H n (imm E l) (.int k j) = if 0 ≤ j ∧ j < l.length then some (atI E l j.toNat, H) else none := by
  subst hn
  simp only [ixaI, imm, immV, List.toArray, cs_drop, atI]
theorem ix_at {n : Nat} (hn : n = E.u) {i : Nat} (hi : i < l.length) (k : IntKind) (H : Heap) : ixaI H n (imm E l) (.int k i) = some (atI E l i, H) := by
  rw [ixaI_imm hn, if_pos ⟨by omega, by omega⟩, Int.toNat_natCast]
theorem sleI_imm {n : Nat} (hn : n = E.u) {lo hi mx : Option Value} {i j k : Int} (h1 : optJ 0 lo = some i) (h2 : optJ l.length hi = some j) (h3 : optJ l.length mx = some k) (h4 : 0 ≤ i ∧ i ≤ j ∧ j ≤ k ∧ k ≤ l.length) :
    sleI H n (imm E l) lo hi mx = some (imm E ((l.drop i.toNat).take (j.toNat - i.toNat)), H) := by
  subst hn
  simp only [sleI, imm, h1, h2, h3, if_pos h4, immV, cs_drop, cs_take]
  have : ((l.drop i.toNat).take (j.toNat - i.toNat)).length = j.toNat - i.toNat := by
    rw [List.length_take, List.length_drop]
    omega
  rw [this]
theorem srcOf_imm {n : Nat} (hn : n = E.u) : srcOf H n (imm E l) = some (E.cs l, l.length) := by
  subst hn
  simp only [srcOf, imm, immV, rdN_cs rfl, Option.map_some]
theorem srcOf_immV {n k : Nat} {cs : List Value} (h : k * n = cs.length) : srcOf H n (immV k cs) = some (cs, k) := by
  simp only [srcOf, rdN_all _ h, Option.map_some]
theorem cpyI_imm {n eb : Nat} (hn : n = E.u) (hb : l.length * eb ≤ 140737488355328) (hl : l ≠ []) : cpyI H n eb (imm E l) = some (imm E l, H) := by
  have h0 : Nat.beq l.length 0 = false := by cases l with | nil => exact absurd rfl hl | cons => rfl
  unfold cpyI
  rw [srcOf_imm hn]
  simp only [h0, cond_false]
  rw [if_pos hb]
  rfl
theorem isNil_imm : isNil 1 (imm E l) = some false := rfl
theorem bltN (a b : Nat) : Nat.blt a b = decide (a < b) := by unfold Nat.blt; rw [bleN]; rfl
theorem pure_imm {k : Nat} (h : Nat.blt E.d k = true) : pureV k (imm E l) = true := by
  have h : E.d < k := by simpa using h
  cases k with
  | zero => omega
  | succ k =>
    simp only [pureV, imm, immV]
    exact cs_pure' (by omega)
theorem loadI_iptr {v : Value} {r : List Value} : loadI H (iptrV (v :: r)) = some (v, H) := rfl
theorem loadNI_iptr {n : Nat} {r : List Value} : loadNI H n (iptrV r) = (rdN r n).map fun l => (.agg l.toArray, H) := rfl
theorem loadNI_at {n i : Nat} (hn : n = E.u) (h : i < l.length) : loadNI H n (atI E l i) = some (.agg (E.e l[i]).toArray, H) := by
  subst hn
  rw [at_cons h, loadNI_iptr, ← E.hu l[i], rdN_len]
  rfl
theorem faI_iptr {k : Nat} {r : List Value} : faI H k (iptrV r) = some (iptrV (r.drop k), H) := rfl
theorem faI_ptr {a : Addr} {k : Nat} : faI H k (.pointer (some a)) = some (.pointer (some ⟨a.block, a.off + k, a.spot⟩), H) := rfl
theorem loadI_ptr {a : Addr} : loadI H (.pointer (some a)) = match cellsAt H a with | some (v :: _) => some (v, H) | _ => none := rfl
theorem loadNI_ptr {a : Addr} {n : Nat} : loadNI H n (.pointer (some a)) = match cellsAt H a with | some cs => (rdN cs n).map fun l => (.agg l.toArray, H) | _ => none := rfl
theorem lenI_slice {a : Option Addr} {n c : Nat} : lenI H 1 (.slice a n c) = some (.int .i64 n, H) := rfl
theorem optB_none {env : Env} : optB env none = none := rfl
theorem optB_some {env : Env} {x : Opd} : optB env (some x) = some (x.ev env) := rfl
theorem optJ_none {d : Int} : optJ d none = some d := rfl
theorem optJ_int {d : Int} {k : IntKind} {i : Int} : optJ d (some (.int k i)) = some i := rfl
theorem zOf_tt {z : List Value} : zOf true z = .agg z.toArray := rfl
theorem zOf_ff {v : Value} {z : List Value} : zOf false (v :: z) = v := rfl
end

theorem pure_agg {k : Nat} {l : List Value} : pureV (k + 1) (.agg l.toArray) = l.all (pureV k) := by simp [pureV]
theorem pure_tup {k : Nat} {l : List Value} : pureV (k + 1) (.tuple l.toArray) = l.all (pureV k) := by simp [pureV]
theorem pure_int {k : Nat} {i : IntKind} {n : Int} : pureV k (.int i n) = true := by cases k <;> rfl
theorem pure_bool {k : Nat} {b : Bool} : pureV k (.bool b) = true := by cases k <;> rfl
theorem pure_string {k : Nat} {s : ByteArray} : pureV k (.string s) = true := by cases k <;> rfl
theorem pure_slN {k n c : Nat} : pureV k (.slice none n c) = true := by cases k <;> rfl
theorem pure_ptrN {k : Nat} : pureV k (.pointer none) = true := by cases k <;> rfl
theorem pure_mapN {k : Nat} : pureV k (.map none) = true := by cases k <;> rfl
theorem flat_agg {k : Nat} {l : List Value} : flatV (k + 1) (.agg l.toArray) = l.all (flatV k) := by simp [flatV]
theorem flat_tup {k : Nat} {l : List Value} : flatV (k + 1) (.tuple l.toArray) = l.all (flatV k) := by simp [flatV]
theorem flat_int {k : Nat} {i : IntKind} {n : Int} : flatV k (.int i n) = true := by cases k <;> rfl
theorem flat_bool {k : Nat} {b : Bool} : flatV k (.bool b) = true := by cases k <;> rfl
theorem flat_string {k : Nat} {s : ByteArray} : flatV k (.string s) = true := by cases k <;> rfl
theorem flat_slN {k n c : Nat} : flatV k (.slice none n c) = true := by cases k <;> rfl
theorem cells_imm {α : Type} {E : Enc α} {l : List α} : (imm E l).cells = #[imm E l] := rfl
theorem oneAll_imm {α : Type} {E : Enc α} {l : List α} : oneAll (imm E l) = true := by simp [oneAll, cells_imm]; rfl
theorem oneC_imm {α : Type} {E : Enc α} {l : List α} : oneC (imm E l) = true := rfl
theorem oneC_int {k : IntKind} {n : Int} : oneC (.int k n) = true := rfl
theorem oneC_bool {b : Bool} : oneC (.bool b) = true := rfl
theorem oneC_string {s : ByteArray} : oneC (.string s) = true := rfl
theorem oneC_slice {a : Option Addr} {n c : Nat} : oneC (.slice a n c) = true := rfl
theorem oneC_pointer {a : Option Addr} : oneC (.pointer a) = true := rfl
theorem oneC_map {a : Option Nat} : oneC (.map a) = true := rfl
theorem oneC_iface {t : TypeId} {x : Value} : oneC (.iface t x) = true := rfl
theorem oneC_nilIface : oneC .nilIface = true := rfl
theorem cells_func {fn : Go.Fn} {a b : Array Value} : (Value.func fn a b).cells = #[.func fn a b] := rfl
theorem oneAll_func {fn : Go.Fn} {a b : Array Value} : oneAll (.func fn a b) = true := by simp [oneAll, cells_func]; rfl
theorem oneC_func {fn : Go.Fn} {a b : Array Value} : oneC (.func fn a b) = true := rfl
theorem cells_nilFunc : Value.nilFunc.cells = #[.nilFunc] := rfl
theorem oneC_nilFunc : oneC .nilFunc = true := rfl

/-! ### Bytes, texts, whole numbers -/
def byteE : Enc UInt8 where
  e b := [.int .u8 (b.toNat : Int)]
  u := 1
  d := 0
  hu _ := rfl
  hp k _ := by cases k <;> rfl
  ho _ := rfl
theorem byteE_u : byteE.u = 1 := rfl
theorem byteE_d : byteE.d = 0 := rfl
theorem byteE_e {b : UInt8} : byteE.e b = [.int .u8 (b.toNat : Int)] := rfl
def intE (k : IntKind) : Enc Int where
  e n := [.int k n]
  u := 1
  d := 0
  hu _ := rfl
  hp k _ := by cases k <;> rfl
  ho _ := rfl
theorem intE_u {k : IntKind} : (intE k).u = 1 := rfl
theorem intE_d {k : IntKind} : (intE k).d = 0 := rfl
theorem intE_e {k : IntKind} {n : Int} : (intE k).e n = [.int k n] := rfl
def boolE : Enc Bool where
  e b := [.bool b]
  u := 1
  d := 0
  hu _ := rfl
  hp k _ := by cases k <;> rfl
  ho _ := rfl
theorem boolE_u : boolE.u = 1 := rfl
theorem boolE_d : boolE.d = 0 := rfl
theorem boolE_e {b : Bool} : boolE.e b = [.bool b] := rfl
abbrev strV (l : List UInt8) : Value := .string ⟨l.toArray⟩
def strE : Enc (List UInt8) where
  e s := [strV s]
  u := 1
  d := 0
  hu _ := rfl
  hp k _ := by cases k <;> rfl
  ho _ := rfl
theorem strE_u : strE.u = 1 := rfl
theorem strE_d : strE.d = 0 := rfl
theorem strE_e {s : List UInt8} : strE.e s = [strV s] := rfl

theorem byteE_cs {l : List UInt8} : byteE.cs l = l.map fun b => .int .u8 (b.toNat : Int) := by
  unfold Enc.cs
  induction l with
  | nil => rfl
  | cons b l ih => rw [List.flatMap_cons, ih]; rfl
theorem strOf_bytes : ∀ l : List UInt8, strOf (byteE.cs l) = some l
  | [] => rfl
  | b :: l => by
    rw [cs_cons, byteE_e]
    simp only [List.cons_append, List.nil_append, strOf, strOf_bytes l, Option.map_some, Int.toNat_natCast]
    rw [UInt8.ofNat_toNat]
section
variable {H : Heap} {l m : List UInt8}
theorem b2sI_imm : b2sI H (imm byteE l) = some (strV l, H) := by
  simp only [b2sI, imm, immV, rdN_cs (E := byteE) (l := l) (n := l.length) (by rw [byteE_u, Nat.mul_one]), Option.bind_some, strOf_bytes, Option.map_some]
theorem b2sI_nil : b2sI H (.slice none 0 0) = some (strV [], H) := rfl
theorem size_str : (⟨l.toArray⟩ : ByteArray).size = l.length := rfl
theorem bt_str {i : Int} : bt ⟨l.toArray⟩ i = ((l.getD i.toNat 0).toNat : Int) := rfl
theorem strEq_str : strEq ⟨l.toArray⟩ ⟨m.toArray⟩ = decide (l = m) := by
  unfold strEq
  rw [Bool.eq_iff_iff, beq_iff_eq, decide_eq_true_eq]
theorem append_str : (⟨l.toArray⟩ : ByteArray) ++ ⟨m.toArray⟩ = ⟨(l ++ m).toArray⟩ := by
  apply ByteArray.ext
  simp [ByteArray.data_append]
theorem extract_str {i j : Nat} : (⟨l.toArray⟩ : ByteArray).extract i j = ⟨((l.drop i).take (j - i)).toArray⟩ := by
  apply ByteArray.ext
  rw [ByteArray.data_extract]
  simp
theorem bytesV_str : bytesV ⟨l.toArray⟩ = byteE.cs l := by
  rw [byteE_cs]; rfl
theorem s2b_str : immV l.length (byteE.cs l) = imm byteE l := rfl
theorem byte_one {x : Int} (h0 : 0 ≤ x) (h1 : x < 256) : [Value.int .u8 x] = byteE.cs [UInt8.ofNat x.toNat] := by
  rw [cs_one, byteE_e]
  congr 2
  rw [UInt8.toNat_ofNat']
  omega
end

theorem mapM_pure {k : Nat} {H : Heap} {l : List Value} (h : l.all (pureV k) = true) : l.mapM (frz k H) = some l := by
  induction l with
  | nil => rfl
  | cons x l ih =>
    simp only [List.all_cons, Bool.and_eq_true] at h
    have h1 : frz k H x = some x := by
      cases k with
      | zero => simp only [frz, h.1, cond_true]
      | succ k => simp only [frz, h.1, cond_true]
    simp only [List.mapM_cons, h1, ih h.2]
    rfl
theorem frz_pure {k : Nat} {H : Heap} {v : Value} (h : pureV k v = true) : frz k H v = some v := by
  cases k with
  | zero => simp only [frz, h, cond_true]
  | succ k => simp only [frz, h, cond_true]
theorem flat_pure : ∀ (n : Nat) {v : Value}, flatV n v = true → pureV n v = true
  | 0, v, h => h
  | n + 1, v, h => by
    unfold flatV at h
    unfold pureV
    split at h
    · rename_i cs
      simp only []
      rw [List.all_eq_true] at h ⊢
      exact fun x hx => flat_pure n (h x hx)
    · rename_i cs
      simp only []
      rw [List.all_eq_true] at h ⊢
      exact fun x hx => flat_pure n (h x hx)
    · rename_i t x
      exact flat_pure n h
    · rename_i v h1 h2 h3
      split
      · simp [plainV] at h
      · exact absurd rfl (h1 _)
      · exact absurd rfl (h2 _)
      · exact absurd rfl (h3 _ _)
      · exact h
theorem mapM_flat {k n : Nat} {H : Heap} (ih : ∀ {u v : Value}, frz k H u = some v → flatV n v = true → u = v) : ∀ {l m : List Value}, l.mapM (frz k H) = some m → m.all (flatV n) = true → l = m
  | [], m, h, _ => by simp only [List.mapM_nil] at h; exact Option.some.inj h
  | x :: l, m, h, hf => by
    simp only [List.mapM_cons, bind, Option.bind_eq_some_iff, pure, Option.some.injEq] at h
    obtain ⟨y, h1, m', h2, rfl⟩ := h
    simp only [List.all_cons, Bool.and_eq_true] at hf
    rw [ih h1 hf.1, mapM_flat ih h2 hf.2]
theorem frz_flat : ∀ (k n : Nat) {H : Heap} {u v : Value}, frz k H u = some v → flatV n v = true → u = v
  | 0, n, H, u, v, h, hv => by
    simp only [frz] at h
    exact (bif_some h).2
  | k + 1, n, H, u, v, h, hv => by
    simp only [frz] at h
    cases hp : pureV (k + 1) u with
    | true => rw [hp] at h; exact Option.some.inj h
    | false =>
      rw [hp, cond_false] at h
      split at h
      · split at h
        · simp only [Option.map_eq_some_iff] at h
          obtain ⟨l, _, rfl⟩ := h
          cases n <;> simp [flatV, plainV] at hv
        · cases h
      · rename_i cs
        simp only [Option.map_eq_some_iff] at h
        obtain ⟨l, h1, rfl⟩ := h
        cases n with
        | zero => simp [flatV, plainV] at hv
        | succ n =>
          simp only [flatV] at hv
          rw [← mapM_flat (n := n) (frz_flat k n) h1 (by simpa using hv)]
      · rename_i cs
        simp only [Option.map_eq_some_iff] at h
        obtain ⟨l, h1, rfl⟩ := h
        cases n with
        | zero =>
          simp only [flatV, plainV, List.size_toArray, beq_iff_eq] at hv
          have : l = [] := List.eq_nil_of_length_eq_zero hv
          subst this
          rw [← mapM_flat (n := 0) (frz_flat k 0) h1 rfl]
        | succ n =>
          simp only [flatV] at hv
          rw [← mapM_flat (n := n) (frz_flat k n) h1 (by simpa using hv)]
      · rename_i t x
        simp only [Option.map_eq_some_iff] at h
        obtain ⟨y, h1, rfl⟩ := h
        cases n with
        | zero => simp [flatV, plainV] at hv
        | succ n =>
          simp only [flatV] at hv
          rw [frz_flat k n h1 hv]
      · cases h

/-! ### A list that grows -/
abbrev own (b tag n : Nat) : Value := .slice (some ⟨b, 0, spotOf tag⟩) n n
section
variable {α : Type} {E : Enc α} {l m : List α} {H g : Heap} {v : Value}
def oe (E : Enc α) (tag : Nat) (l : List α) : Entry := ⟨tag, .cells false E.u (E.cs l)⟩
/-- A list is nil yet, or has an entry of its own behind all others. -/
def Acc (E : Enc α) (g : Heap) (v : Value) (H : Heap) (l : List α) : Prop := (l = [] ∧ v = .slice none 0 0 ∧ H = g) ∨ l ≠ [] ∧ ∃ tag, v = own g.length tag l.length ∧ H = g ++ [oe E tag l]
theorem Acc.nil : Acc E g (.slice none 0 0) g [] := .inl ⟨rfl, rfl, rfl⟩
theorem Acc.len (h : Acc E g v H l) : lenI H 1 v = some (.int .i64 l.length, H) := by
  rcases h with ⟨rfl, rfl, rfl⟩ | ⟨_, tag, rfl, rfl⟩ <;> rfl
theorem own_lk {b tag : Nat} {o : AObj} (h : H[b]? = some ⟨tag, o⟩) {off : Nat} : lk H ⟨b, off, spotOf tag⟩ = some ⟨tag, o⟩ := by
  unfold lk
  rw [h]
  simp only [tag_spot, Nat.beq_refl, cond_true]
theorem app_own {n eb b tag k : Nat} {src : List Value} (hn : n = E.u) (hH : H[b]? = some (oe E tag l)) (hb : (l.length + k) * eb ≤ 140737488355328) :
    appV n eb H (own b tag l.length) src k = some (own b (tag + 1) (l.length + k), H.set b ⟨tag + 1, .cells false n (E.cs l ++ src)⟩) := by
  subst hn
  have hH' : H[b]? = some ⟨tag, .cells false E.u (E.cs l)⟩ := hH
  simp only [appV, own, own_lk hH']
  rw [if_pos ⟨trivial, by rw [cs_length, Nat.zero_add], hb⟩, List.drop_zero]
theorem Acc.app {n eb k : Nat} (hn : n = E.u) (h : Acc E g v H l) (hk : k = m.length) (hb : (l.length + m.length) * eb ≤ 140737488355328) :
    ∃ v' H', appV n eb H v (E.cs m) k = some (v', H') ∧ Acc E g v' H' (l ++ m) := by
  subst hn; subst hk
  rcases h with ⟨rfl, rfl, rfl⟩ | ⟨hne, tag, rfl, rfl⟩
  · cases hm : m with
    | nil => exact ⟨.slice none 0 0, H, rfl, .inl ⟨rfl, rfl, rfl⟩⟩
    | cons x m' =>
      rw [← hm]
      have h0 : Nat.beq m.length 0 = false := by rw [hm]; rfl
      refine ⟨own H.length 0 m.length, H ++ [oe E 0 m], ?_, .inr ⟨by rw [hm]; simp, 0, by simp, by simp⟩⟩
      simp only [appV, h0, Nat.beq_refl, Bool.and_self, cond_true, cond_false]
      rw [if_pos (by simpa using hb)]
      rfl
  · refine ⟨own g.length (tag + 1) (l ++ m).length, g ++ [oe E (tag + 1) (l ++ m)], ?_, .inr ⟨by simp [hne], tag + 1, rfl, rfl⟩⟩
    rw [app_own rfl (by simp) hb]
    simp [oe, cs_append]
theorem Acc.app1 {n eb : Nat} (hn : n = E.u) (h : Acc E g v H l) (x : α) {cs : List Value} (hcs : cs = E.e x) (hb : (l.length + 1) * eb ≤ 140737488355328) :
    ∃ v' H', appV n eb H v cs 1 = some (v', H') ∧ Acc E g v' H' (l ++ [x]) := by
  obtain ⟨v', H', h1, h2⟩ := h.app (m := [x]) hn rfl (eb := eb) hb
  rw [cs_one, ← hcs] at h1
  exact ⟨v', H', h1, h2⟩
theorem Acc.byte {H g : Heap} {v : Value} {l : List UInt8} (h : Acc byteE g v H l) {x : Int} (h0 : 0 ≤ x) (h1 : x < 256) (hb : l.length < 140737488355328) :
    ∃ v' H', appV 1 1 H v [.int .u8 x] 1 = some (v', H') ∧ Acc byteE g v' H' (l ++ [UInt8.ofNat x.toNat]) :=
  h.app1 rfl (UInt8.ofNat x.toNat) (by rw [byte_one h0 h1, cs_one]) (by omega)
/-- It is answered for good. -/
theorem Acc.frz (h : Acc E g v H l) {k : Nat} (hk : E.d ≤ k) (hl : l ≠ []) : Fw.frz (k + 1) H v = some (imm E l) := by
  rcases h with ⟨rfl, _⟩ | ⟨_, tag, rfl, rfl⟩
  · exact absurd rfl hl
  · have h1 : pureV (k + 1) (own g.length tag l.length) = false := rfl
    simp only [Fw.frz, h1, cond_false]
    rw [own_lk (H := g ++ [oe E tag l]) (tag := tag) (o := .cells false E.u (E.cs l)) (by simp [oe])]
    simp only [List.drop_zero, rdN_cs rfl, Option.bind_some]
    rw [mapM_pure (cs_pure' hk)]
    rfl
end

/-! ### Lists that may be nil -/
section
variable {α : Type} {E : Enc α} {l m : List α} {H g : Heap} {v : Value}
def immN (E : Enc α) (l : List α) : Value :=
  match l with
  | [] => .slice none 0 0
  | l => imm E l
theorem cells_immN : (immN E l).cells = #[immN E l] := by cases l <;> rfl
theorem oneC_immN : oneC (immN E l) = true := by cases l <;> rfl
theorem oneAll_immN : oneAll (immN E l) = true := by simp [oneAll, cells_immN, oneC_immN]
theorem immN_nil : immN E [] = .slice none 0 0 := rfl
theorem immN_cons {x : α} : immN E (x :: l) = imm E (x :: l) := rfl
theorem immN_ne (h : l ≠ []) : immN E l = imm E l := by
  cases l with
  | nil => exact absurd rfl h
  | cons => rfl
theorem lenI_immN : lenI H 1 (immN E l) = some (.int .i64 l.length, H) := by cases l <;> rfl
theorem ixaI_immN {n : Nat} (hn : n = E.u) {k : IntKind} {j : Int} (hj : 0 ≤ j ∧ j < l.length) : ixaI H n (immN E l) (.int k j) = some (atI E l j.toNat, H) := by
  cases l with
  | nil => simp at hj; omega
  | cons x l => rw [immN_cons, ixaI_imm hn, if_pos hj]
theorem srcOf_immN {n : Nat} (hn : n = E.u) : srcOf H n (immN E l) = some (E.cs l, l.length) := by
  cases l with
  | nil => rfl
  | cons x l => rw [immN_cons, srcOf_imm hn]
theorem isNil_immN : isNil 1 (immN E l) = some l.isEmpty := by cases l <;> rfl
theorem pure_immN {k : Nat} (h : Nat.blt E.d k = true) : pureV k (immN E l) = true := by
  cases l with
  | nil => cases k <;> rfl
  | cons x l => exact pure_imm h
theorem b2sI_immN {l : List UInt8} : b2sI H (immN byteE l) = some (strV l, H) := by
  cases l with
  | nil => rfl
  | cons x l => rw [immN_cons, b2sI_imm]
theorem cpyI_N {n eb : Nat} (hn : n = E.u) (hb : l.length * eb ≤ 140737488355328) {y : Value} (hy : srcOf H n y = some (E.cs l, l.length)) : cpyI H n eb y = some (immN E l, H) := by
  unfold cpyI
  rw [hy]
  cases l with
  | nil => rfl
  | cons x l =>
    have h0 : Nat.beq (x :: l).length 0 = false := rfl
    simp only [h0, cond_false]
    rw [if_pos hb]
    rfl
theorem sleI_immN {n : Nat} (hn : n = E.u) {lo hi mx : Option Value} {i j k : Int} (h1 : optJ 0 lo = some i) (h2 : optJ l.length hi = some j) (h3 : optJ l.length mx = some k) (h4 : 0 ≤ i ∧ i ≤ j ∧ j ≤ k ∧ k ≤ l.length) (hl : l ≠ []) :
    sleI H n (immN E l) lo hi mx = some (imm E ((l.drop i.toNat).take (j.toNat - i.toNat)), H) := by
  rw [immN_ne hl, sleI_imm hn h1 h2 h3 h4]
theorem Acc.frzN (h : Acc E g v H l) {k : Nat} (hk : E.d ≤ k) : Fw.frz (k + 1) H v = some (immN E l) := by
  cases l with
  | nil =>
    rcases h with ⟨_, rfl, _⟩ | ⟨h, _⟩
    · rfl
    · exact absurd rfl h
  | cons x l => rw [immN_cons]; exact h.frz hk (by simp)
end
theorem Acc.get {α : Type} {E : Enc α} {l : List α} {H g : Heap} {v : Value} (h : Acc E g v H l) {i : Nat} (hi : i < g.length) : H[i]? = g[i]? := by
  rcases h with ⟨_, _, rfl⟩ | ⟨_, tag, _, rfl⟩
  · rfl
  · rw [List.getElem?_append_left hi]
theorem Acc.hlen {α : Type} {E : Enc α} {l : List α} {H g : Heap} {v : Value} (h : Acc E g v H l) : g.length ≤ H.length := by
  rcases h with ⟨_, _, rfl⟩ | ⟨_, tag, _, rfl⟩ <;> simp
theorem Acc.set {α : Type} {E : Enc α} {l : List α} {H g : Heap} {v : Value} (h : Acc E g v H l) {i : Nat} (hi : i < g.length) (e : Entry) : Acc E (g.set i e) v (H.set i e) l := by
  rcases h with ⟨h1, h2, rfl⟩ | ⟨hne, tag, rfl, rfl⟩
  · exact .inl ⟨h1, h2, rfl⟩
  · refine .inr ⟨hne, tag, by rw [List.length_set], ?_⟩
    rw [List.set_append_left _ _ hi]
/-- The front of a list that grew. -/
theorem Acc.front {α : Type} {E : Enc α} {l : List α} {H g : Heap} {v : Value} (h : Acc E g v H l) {n : Nat} (hn : n = E.u) (hl : l ≠ []) {j : Nat} (hj : j ≤ l.length) (k : IntKind) :
    ∃ v', sleI H n v none (some (.int k j)) none = some (v', H) ∧ ∀ m, E.d ≤ m → Fw.frz (m + 1) H v' = some (imm E (l.take j)) := by
  subst hn
  rcases h with ⟨rfl, _⟩ | ⟨_, tag, rfl, rfl⟩
  · exact absurd rfl hl
  · have hlk : ∀ off, lk (g ++ [oe E tag l]) ⟨g.length, off, spotOf tag⟩ = some (oe E tag l) := fun off => own_lk (H := g ++ [oe E tag l]) (tag := tag) (o := .cells false E.u (E.cs l)) (by simp [oe])
    refine ⟨.slice (some ⟨g.length, 0, spotOf tag⟩) j l.length, ?_, fun m hm => ?_⟩
    · simp only [sleI, optJ, iV, hlk]
      simp only [oe, Nat.beq_refl, Bool.or_true, cond_true]
      rw [if_pos ⟨Int.le_refl 0, by omega, by omega, by omega⟩]
      simp
    · have h1 : pureV (m + 1) (.slice (some ⟨g.length, 0, spotOf tag⟩) j l.length) = false := rfl
      simp only [Fw.frz, h1, cond_false, hlk]
      simp only [oe, List.drop_zero]
      have h2 : rdN (E.cs l) (j * E.u) = some (E.cs (l.take j)) := by
        have h3 := rdN_len (E.cs (l.take j)) (E.cs (l.drop j))
        rw [← cs_append, List.take_append_drop, cs_length, List.length_take, Nat.min_eq_left hj] at h3
        exact h3
      rw [h2]
      simp only [Option.bind_some]
      rw [mapM_pure (cs_pure' hm)]
      simp only [Option.map_some, imm, List.length_take, Nat.min_eq_left hj]
theorem frz_t2 {k : Nat} {H : Heap} {a b a' b' : Value} (h1 : frz k H a = some a') (h2 : frz k H b = some b') : frz (k + 1) H (.tuple #[a, b]) = some (.tuple #[a', b']) := by
  simp only [frz]
  cases hp : pureV (k + 1) (.tuple #[a, b]) with
  | true =>
    simp only [pureV, List.all_cons, List.all_nil, Bool.and_true, Bool.and_eq_true] at hp
    rw [frz_pure hp.1] at h1
    rw [frz_pure hp.2] at h2
    cases h1; cases h2
    rfl
  | false => simp [h1, h2]
theorem frz_a2 {k : Nat} {H : Heap} {a b a' b' : Value} (h1 : frz k H a = some a') (h2 : frz k H b = some b') : frz (k + 1) H (.agg #[a, b]) = some (.agg #[a', b']) := by
  simp only [frz]
  cases hp : pureV (k + 1) (.agg #[a, b]) with
  | true =>
    simp only [pureV, List.all_cons, List.all_nil, Bool.and_true, Bool.and_eq_true] at hp
    rw [frz_pure hp.1] at h1
    rw [frz_pure hp.2] at h2
    cases h1; cases h2
    rfl
  | false => simp [h1, h2]
theorem set_get {H : Heap} {k : Nat} {e : Entry} (h : k < H.length) : (H.set k e)[k]? = some e := List.getElem?_set_self h

/-! ### Calls for themselves -/
section
variable {T : Tab} {f : Nat} {args : List Value} {v : Value} {K : Value → Prop}
theorem FnV.det {v' : Value} (h : FnV T f args v) (h' : FnV T f args v') : v' = v := by
  obtain ⟨_, n, u, h1, h2, h3⟩ := h
  obtain ⟨_, m, u', h1', h2', h3'⟩ := h'
  have e1 := evalF_mono T (Nat.le_max_left n m) _ _ _ _ h2
  have e2 := evalF_mono T (Nat.le_max_right n m) _ _ _ _ h2'
  rw [e1] at e2
  cases e2
  rw [h3] at h3'
  exact (Option.some.inj h3').symm
theorem CC_of (h : FnV T f args v) : CC T f args K ↔ K v := by
  constructor
  · rintro ⟨v', h', hk⟩
    rw [h.det h'] at hk
    exact hk
  · exact fun hk => ⟨v, h, hk⟩
theorem CL_of (h : FnV T f args v) (hv : flatV 4 v = true) : CL T f (some args) K ↔ K v := by
  obtain ⟨hp, n, u, h', h1, h2⟩ := h
  have hu : u = v := frz_flat 8 4 h2 hv
  subst hu
  constructor
  · rintro ⟨bs, e, m, u', h'', h3, h4, hk⟩
    cases e
    have e1 := evalF_mono T (Nat.le_max_left n m) _ _ _ _ h1
    have e2 := evalF_mono T (Nat.le_max_right n m) _ _ _ _ h3
    rw [e1] at e2
    cases e2
    exact hk
  · exact fun hk => ⟨args, rfl, n, u, h', h1, hv, hk⟩
/-- A call whose arguments are known is run. -/
theorem FnV_run (n : Nat) (hp : args.all (pureV 6) = true) (h : ((evalF T n f args []).bind fun r => frz 8 r.2 r.1) = some v) : FnV T f args v := by
  rw [Option.bind_eq_some_iff] at h
  obtain ⟨⟨u, h'⟩, h1, h2⟩ := h
  exact ⟨hp, n, u, h', h1, h2⟩
theorem FnV_of (hp : args.all (pureV 6) = true) (h : Ev T f args [] fun u h => frz 8 h u = some v) : FnV T f args v := by
  obtain ⟨n, u, h', h1, h2⟩ := h
  exact ⟨hp, n, u, h', h1, h2⟩
end
end Go.Proofs.Ytdkdifjjpbfohaa.Fw
