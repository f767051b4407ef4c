/- Abstract heaps, and how they lie in a world: values, entries, the relation, its change. -/
import Derived.Calls
import Derived.Tactics
import Derived.Orders
import Derived.OrdersHeld
namespace Go.Proofs.Ytdkdifjjpbfohaa.Fw
open Go

/-! ### Abstract heaps -/
inductive AObj where
  | dead
  | cells (ro : Bool) (unit : Nat) (cs : List Value)
  | map (kv : List (Value × Value))
  | iter (s : ByteArray) (pos : Nat)

structure Entry where
  tag : Nat
  obj : AObj

abbrev Heap := List Entry

def tagOf : Option Nat → Nat
  | none => 0
  | some k => k + 1
def spotOf : Nat → Option Nat
  | 0 => none
  | k + 1 => some k
theorem tag_spot (t : Nat) : tagOf (spotOf t) = t := by cases t <;> rfl
theorem spot_tag (s : Option Nat) : spotOf (tagOf s) = s := by cases s <;> rfl

def AObj.live : AObj → Bool
  | .dead => false
  | _ => true
def AObj.own : AObj → Bool
  | .cells false _ _ => true
  | .map _ => true
  | .iter _ _ => true
  | _ => false
theorem AObj.live_of_own {o : AObj} (h : o.own = true) : o.live = true := by
  cases o <;> simp_all [AObj.own, AObj.live]

structure Place where
  block : Nat
  base : Nat
  size : Nat

/-- Where things lie: the entries, and the blocks that don't change any more, with their cells. -/
structure RP where
  pl : Nat → Place
  fz : Nat → Option (Array Value)
instance : CoeFun RP (fun _ => Nat → Place) := ⟨RP.pl⟩
def RP.upd (ρ : RP) (i : Nat) (p : Place) : RP := ⟨fun j => if j = i then p else ρ j, ρ.fz⟩
theorem RP.upd_same (ρ : RP) (i : Nat) (p : Place) : (ρ.upd i p) i = p := by simp [RP.upd]
theorem RP.upd_ne (ρ : RP) {i j : Nat} (p : Place) (h : j ≠ i) : (ρ.upd i p) j = ρ j := by simp [RP.upd, h]
theorem RP.upd_self (ρ : RP) (i : Nat) : ρ.upd i (ρ i) = ρ := by
  cases ρ with
  | mk pl fz =>
    simp only [RP.upd, RP.mk.injEq, and_true]
    funext j
    split
    · rename_i h; rw [h]
    · rfl

/-- The value of one cell. -/
def oneC : Value → Bool
  | .agg _ | .tuple _ => false
  | _ => true

/-- Values that bear no address. -/
def plainV : Value → Bool
  | .bool _ | .int _ _ | .float _ _ | .complex _ _ _ | .string _ | .pointer none | .map none | .chan none | .nilFunc | .nilIface => true
  | .slice none _ _ => true
  | .func (.func _) f c => f.size == 0 && c.size == 0
  | .tuple vs => vs.size == 0
  | _ => false

/-- An abstract value, and what stands for it in the world. -/
inductive VR (ρ : RP) (H : Heap) : Value → Value → Prop
  | plain (v : Value) : plainV v = true → VR ρ H v v
  | ptr (i off : Nat) (t : Option Nat) (e : Entry) : H[i]? = some e → e.tag = tagOf t → e.obj.live = true →
      VR ρ H (.pointer (some ⟨i, off, t⟩)) (.pointer (some ⟨(ρ i).block, (ρ i).base + off, none⟩))
  | ptrOld (i off : Nat) (t : Option Nat) (e : Entry) (a : Addr) : H[i]? = some e → (tagOf t < e.tag ∨ tagOf t = e.tag ∧ e.obj.live = false) →
      VR ρ H (.pointer (some ⟨i, off, t⟩)) (.pointer (some a))
  | sl (i off : Nat) (t : Option Nat) (n c c' : Nat) (e : Entry) (ro : Bool) (u : Nat) (cs : List Value) : H[i]? = some e → e.tag = tagOf t → e.obj = .cells ro u cs →
      (ro = false → (ρ i).base + off + c' * u ≤ (ρ i).size) → c ≤ c' → n ≤ c' →
      VR ρ H (.slice (some ⟨i, off, t⟩) n c) (.slice (some ⟨(ρ i).block, (ρ i).base + off, none⟩) n c')
  | slOld (i off : Nat) (t : Option Nat) (n c c' : Nat) (e : Entry) (a : Addr) : H[i]? = some e → (tagOf t < e.tag ∨ tagOf t = e.tag ∧ e.obj.live = false) →
      VR ρ H (.slice (some ⟨i, off, t⟩) n c) (.slice (some a) n c')
  | slNil (i off : Nat) (t : Option Nat) (e : Entry) (a : Addr) : H[i]? = some e → tagOf t ≤ e.tag →
      VR ρ H (.slice (some ⟨i, off, t⟩) 0 0) (.slice (some a) 0 0)
  | map (r : Nat) (e : Entry) (kv : List (Value × Value)) : H[r]? = some e → e.obj = .map kv → VR ρ H (.map (some r)) (.map (some (ρ r).block))
  | iface (t : TypeId) (x x' : Value) : VR ρ H x x' → VR ρ H (.iface t x) (.iface t x')
  | agg (cs cs' : Array Value) : cs.size = cs'.size → (∀ (j : Nat) (h : j < cs.size) (h' : j < cs'.size), VR ρ H cs[j] cs'[j]) → VR ρ H (.agg cs) (.agg cs')
  | tuple (cs cs' : Array Value) : cs.size = cs'.size → (∀ (j : Nat) (h : j < cs.size) (h' : j < cs'.size), VR ρ H cs[j] cs'[j]) → VR ρ H (.tuple cs) (.tuple cs')
  | imm (n : Nat) (cs : Array Value) (b off c' : Nat) (c : Array Value) : ρ.fz b = some c → n ≤ c' → (∀ j, j < cs.size → off + j < c.size) → (∀ (j : Nat) (h : j < cs.size), oneC cs[j] = true) →
      (∀ (j : Nat) (h : j < cs.size) (h' : off + j < c.size), VR ρ H cs[j] c[off + j]) → VR ρ H (.func (.yield n) #[] cs) (.slice (some ⟨b, off, none⟩) n c')
  | imm0 (a : Addr) : VR ρ H (.func (.yield 0) #[] #[]) (.slice (some a) 0 0)
  | iptr (cs : Array Value) (b off : Nat) (c : Array Value) : ρ.fz b = some c → (∀ j, j < cs.size → off + j < c.size) → (∀ (j : Nat) (h : j < cs.size), oneC cs[j] = true) →
      (∀ (j : Nat) (h : j < cs.size) (h' : off + j < c.size), VR ρ H cs[j] c[off + j]) → VR ρ H (.func (.methodOf 0 "") #[] cs) (.pointer (some ⟨b, off, none⟩))
  | func (fn : Nat) (f f' c c' : Array Value) : f.size = f'.size → (∀ (j : Nat) (h : j < f.size) (h' : j < f'.size), VR ρ H f[j] f'[j]) →
      c.size = c'.size → (∀ (j : Nat) (h : j < c.size) (h' : j < c'.size), VR ρ H c[j] c'[j]) → VR ρ H (.func (.func fn) f c) (.func (.func fn) f' c')

/-- One entry becomes another one: it stays where it lies, or all that led to it is old. -/
structure EStep (ρ ρ' : RP) (i : Nat) (e e' : Entry) : Prop where
  tag : e.tag ≤ e'.tag
  dead : e'.tag = e.tag → e.obj.live = false → e'.obj.live = false
  place : e'.tag = e.tag → e'.obj.live = true → (ρ' i).block = (ρ i).block ∧ (ρ' i).base = (ρ i).base
  cells : ∀ ro u cs, e'.tag = e.tag → e.obj = .cells ro u cs → e'.obj.live = true → ∃ ro' cs', e'.obj = .cells ro' u cs' ∧ (ro' = false → ro = false ∧ (ρ' i).size = (ρ i).size)
  map : ∀ kv, e.obj = .map kv → e'.tag = e.tag ∧ ∃ kv', e'.obj = .map kv'

theorem EStep.refl (ρ : RP) (i : Nat) (e : Entry) : EStep ρ ρ i e e :=
  ⟨Nat.le_refl _, fun _ h => h, fun _ _ => ⟨rfl, rfl⟩, fun ro _ cs _ h _ => ⟨ro, cs, h, fun hr => ⟨hr, rfl⟩⟩, fun kv h => ⟨rfl, kv, h⟩⟩

theorem VR.mono {ρ ρ' : RP} {H H' : Heap} (hf : ∀ b c, ρ.fz b = some c → ρ'.fz b = some c) (hs : ∀ i e, H[i]? = some e → ∃ e', H'[i]? = some e' ∧ EStep ρ ρ' i e e') :
    ∀ {v v' : Value}, VR ρ H v v' → VR ρ' H' v v' := by
  intro v v' h
  induction h with
  | plain v hp => exact .plain v hp
  | ptr i off t e h1 h2 h3 =>
    obtain ⟨e', he', st⟩ := hs i e h1
    rcases Nat.lt_or_ge e.tag e'.tag with hlt | hge
    · exact .ptrOld i off t e' _ he' (.inl (by omega))
    · have ht : e'.tag = e.tag := by have := st.tag; omega
      cases hl : e'.obj.live with
      | true =>
        obtain ⟨p1, p2⟩ := st.place ht hl
        rw [← p1, ← p2]
        exact .ptr i off t e' he' (by omega) hl
      | false => exact .ptrOld i off t e' _ he' (.inr ⟨by omega, hl⟩)
  | ptrOld i off t e a h1 h2 =>
    obtain ⟨e', he', st⟩ := hs i e h1
    refine .ptrOld i off t e' a he' ?_
    have := st.tag
    rcases h2 with h2 | ⟨h2, h3⟩
    · exact .inl (by omega)
    · rcases Nat.lt_or_ge e.tag e'.tag with hlt | hge
      · exact .inl (by omega)
      · exact .inr ⟨by omega, st.dead (by omega) h3⟩
  | sl i off t n c c' e ro u cs h1 h2 h3 h4 h5 h6 =>
    obtain ⟨e', he', st⟩ := hs i e h1
    rcases Nat.lt_or_ge e.tag e'.tag with hlt | hge
    · exact .slOld i off t n c c' e' _ he' (.inl (by omega))
    · have ht : e'.tag = e.tag := by have := st.tag; omega
      cases hl : e'.obj.live with
      | true =>
        obtain ⟨p1, p2⟩ := st.place ht hl
        obtain ⟨ro', cs', ho, hr⟩ := st.cells ro u cs ht h3 hl
        rw [← p1, ← p2]
        refine .sl i off t n c c' e' ro' u cs' he' (by omega) ho (fun hf => ?_) h5 h6
        obtain ⟨hr1, hr2⟩ := hr hf
        rw [hr2, p2]
        exact h4 hr1
      | false => exact .slOld i off t n c c' e' _ he' (.inr ⟨by omega, hl⟩)
  | slOld i off t n c c' e a h1 h2 =>
    obtain ⟨e', he', st⟩ := hs i e h1
    refine .slOld i off t n c c' e' a he' ?_
    have := st.tag
    rcases h2 with h2 | ⟨h2, h3⟩
    · exact .inl (by omega)
    · rcases Nat.lt_or_ge e.tag e'.tag with hlt | hge
      · exact .inl (by omega)
      · exact .inr ⟨by omega, st.dead (by omega) h3⟩
  | slNil i off t e a h1 h2 =>
    obtain ⟨e', he', st⟩ := hs i e h1
    exact .slNil i off t e' a he' (Nat.le_trans h2 st.tag)
  | map r e kv h1 h2 =>
    obtain ⟨e', he', st⟩ := hs r e h1
    obtain ⟨ht, kv', ho⟩ := st.map kv h2
    obtain ⟨p1, _⟩ := st.place ht (by rw [ho]; rfl)
    rw [← p1]
    exact .map r e' kv' he' ho
  | iface t x x' _ ih => exact .iface t x x' ih
  | agg cs cs' h1 _ ih => exact .agg cs cs' h1 ih
  | tuple cs cs' h1 _ ih => exact .tuple cs cs' h1 ih
  | imm n cs b off c' c h1 h2 h3 h4 _ ih => exact .imm n cs b off c' c (hf _ _ h1) h2 h3 h4 ih
  | imm0 a => exact .imm0 a
  | iptr cs b off c h1 h3 h4 _ ih => exact .iptr cs b off c (hf _ _ h1) h3 h4 ih
  | func fn f f' c c' h1 _ h3 _ ih1 ih2 => exact .func fn f f' c c' h1 ih1 h3 ih2

theorem VR.oneC {ρ : RP} {H : Heap} {v v' : Value} (h : VR ρ H v v') : oneC v' = oneC v := by
  cases h <;> rfl

/-! ### How values of a known form are told -/
section inv
variable {ρ : RP} {H : Heap} {v' : Value}
theorem VR.int_inv {k : IntKind} {n : Int} (h : VR ρ H (.int k n) v') : v' = .int k n := by cases h; rfl
theorem VR.bool_inv {b : Bool} (h : VR ρ H (.bool b) v') : v' = .bool b := by cases h; rfl
theorem VR.string_inv {s : ByteArray} (h : VR ρ H (.string s) v') : v' = .string s := by cases h; rfl
theorem VR.plain_inv {v : Value} (hp : plainV v = true) (h : VR ρ H v v') : v' = v := by
  cases h with
  | plain v _ => rfl
  | agg => simp [plainV] at hp
  | tuple cs cs' h1 h2 =>
    simp only [plainV, beq_iff_eq] at hp
    have e1 : cs = #[] := Array.eq_empty_of_size_eq_zero hp
    have e2 : cs' = #[] := Array.eq_empty_of_size_eq_zero (by omega)
    rw [e1, e2]
  | func fn f f' c c' h1 _ h3 _ =>
    simp only [plainV, Bool.and_eq_true, beq_iff_eq] at hp
    have e1 : f = #[] := Array.eq_empty_of_size_eq_zero hp.1
    have e2 : f' = #[] := Array.eq_empty_of_size_eq_zero (by omega)
    have e3 : c = #[] := Array.eq_empty_of_size_eq_zero hp.2
    have e4 : c' = #[] := Array.eq_empty_of_size_eq_zero (by omega)
    rw [e1, e2, e3, e4]
  | _ => simp [plainV] at hp
theorem VR.ptr_inv {i off : Nat} {t : Option Nat} {e : Entry} (he : H[i]? = some e) (ht : e.tag = tagOf t) (hl : e.obj.live = true) (h : VR ρ H (.pointer (some ⟨i, off, t⟩)) v') :
    v' = .pointer (some ⟨(ρ i).block, (ρ i).base + off, none⟩) := by
  cases h with
  | plain _ hp => simp [plainV] at hp
  | ptr i off t e' h1 h2 h3 => rfl
  | ptrOld i off t e' a h1 h2 =>
    rw [he] at h1
    cases h1
    rcases h2 with h2 | ⟨_, h2⟩
    · omega
    · rw [hl] at h2; cases h2
theorem VR.ptr_some {a : Addr} (h : VR ρ H (.pointer (some a)) v') : ∃ a', v' = .pointer (some a') := by
  cases h with
  | plain _ hp => simp [plainV] at hp
  | ptr i off t e' h1 h2 h3 => exact ⟨_, rfl⟩
  | ptrOld i off t e' a h1 h2 => exact ⟨_, rfl⟩
theorem VR.sl_inv {i off : Nat} {t : Option Nat} {n c : Nat} {e : Entry} {ro : Bool} {u : Nat} {cs : List Value} (he : H[i]? = some e) (ht : e.tag = tagOf t) (ho : e.obj = .cells ro u cs)
    (h : VR ρ H (.slice (some ⟨i, off, t⟩) n c) v') :
    (∃ c', v' = .slice (some ⟨(ρ i).block, (ρ i).base + off, none⟩) n c' ∧ (ro = false → (ρ i).base + off + c' * u ≤ (ρ i).size) ∧ c ≤ c' ∧ n ≤ c') ∨
    (n = 0 ∧ c = 0 ∧ ∃ a, v' = .slice (some a) 0 0) := by
  cases h with
  | plain _ hp => simp [plainV] at hp
  | sl i off t n c c' e' ro' u' cs' h1 h2 h3 h4 h5 h6 =>
    rw [he] at h1
    cases h1
    rw [ho] at h3
    cases h3
    exact .inl ⟨c', rfl, h4, h5, h6⟩
  | slOld i off t n c c' e' a h1 h2 =>
    rw [he] at h1
    cases h1
    rcases h2 with h2 | ⟨_, h2⟩
    · omega
    · rw [ho] at h2; cases h2
  | slNil i off t e' a h1 h2 => exact .inr ⟨rfl, rfl, a, rfl⟩
theorem VR.sl_len {a : Option Addr} {n c : Nat} (h : VR ρ H (.slice a n c) v') : ∃ a' c', v' = .slice a' n c' := by
  cases h with
  | plain _ hp => exact ⟨_, _, rfl⟩
  | sl => exact ⟨_, _, rfl⟩
  | slOld => exact ⟨_, _, rfl⟩
  | slNil => exact ⟨_, _, rfl⟩
theorem VR.sl_some {a : Addr} {n c : Nat} (h : VR ρ H (.slice (some a) n c) v') : ∃ a' c', v' = .slice (some a') n c' := by
  cases h with
  | plain _ hp => simp [plainV] at hp
  | sl => exact ⟨_, _, rfl⟩
  | slOld => exact ⟨_, _, rfl⟩
  | slNil => exact ⟨_, _, rfl⟩
theorem VR.agg_inv {cs : Array Value} (h : VR ρ H (.agg cs) v') : ∃ cs', v' = .agg cs' ∧ cs.size = cs'.size ∧ ∀ (j : Nat) (h : j < cs.size) (h' : j < cs'.size), VR ρ H cs[j] cs'[j] := by
  cases h with
  | plain _ hp => simp [plainV] at hp
  | agg _ cs' h1 h2 => exact ⟨cs', rfl, h1, h2⟩
theorem VR.tuple_inv {cs : Array Value} (h : VR ρ H (.tuple cs) v') : ∃ cs', v' = .tuple cs' ∧ cs.size = cs'.size ∧ ∀ (j : Nat) (h : j < cs.size) (h' : j < cs'.size), VR ρ H cs[j] cs'[j] := by
  cases h with
  | plain _ hp => exact ⟨_, rfl, rfl, fun j h h' => by simp only [plainV, beq_iff_eq] at hp; omega⟩
  | tuple _ cs' h1 h2 => exact ⟨cs', rfl, h1, h2⟩
theorem VR.iface_inv {t : TypeId} {x : Value} (h : VR ρ H (.iface t x) v') : ∃ x', v' = .iface t x' ∧ VR ρ H x x' := by
  cases h with
  | plain _ hp => simp [plainV] at hp
  | iface _ _ x' h => exact ⟨x', rfl, h⟩
theorem VR.map_inv {r : Nat} (h : VR ρ H (.map (some r)) v') : v' = .map (some (ρ r).block) := by
  cases h with
  | plain _ hp => simp [plainV] at hp
  | map => rfl
theorem VR.imm_inv {n : Nat} {f cs : Array Value} (h : VR ρ H (.func (.yield n) f cs) v') : f = #[] ∧ ((∃ b off c' c, v' = .slice (some ⟨b, off, none⟩) n c' ∧ ρ.fz b = some c ∧ n ≤ c' ∧ (∀ j, j < cs.size → off + j < c.size) ∧
    (∀ (j : Nat) (h : j < cs.size), Fw.oneC cs[j] = true) ∧ ∀ (j : Nat) (h : j < cs.size) (h' : off + j < c.size), VR ρ H cs[j] c[off + j]) ∨ (n = 0 ∧ cs = #[] ∧ ∃ a, v' = .slice (some a) 0 0)) := by
  cases h with
  | plain _ hp => simp [plainV] at hp
  | imm n cs b off c' c h1 h2 h3 h4 h5 => exact ⟨rfl, .inl ⟨b, off, c', c, rfl, h1, h2, h3, h4, h5⟩⟩
  | imm0 a => exact ⟨rfl, .inr ⟨rfl, rfl, a, rfl⟩⟩
theorem VR.imm_sl {n : Nat} {f cs : Array Value} (h : VR ρ H (.func (.yield n) f cs) v') : ∃ a c', v' = .slice (some a) n c' := by
  rcases h.imm_inv with ⟨_, ⟨b, off, c', c, rfl, _⟩ | ⟨rfl, _, a, rfl⟩⟩
  · exact ⟨_, _, rfl⟩
  · exact ⟨_, _, rfl⟩
theorem VR.iptr_inv {t : TypeId} {m : String} {f cs : Array Value} (h : VR ρ H (.func (.methodOf t m) f cs) v') : f = #[] ∧ t = 0 ∧ m = "" ∧ ∃ b off c, v' = .pointer (some ⟨b, off, none⟩) ∧ ρ.fz b = some c ∧ (∀ j, j < cs.size → off + j < c.size) ∧
    (∀ (j : Nat) (h : j < cs.size), Fw.oneC cs[j] = true) ∧ ∀ (j : Nat) (h : j < cs.size) (h' : off + j < c.size), VR ρ H cs[j] c[off + j] := by
  cases h with
  | plain _ hp => simp [plainV] at hp
  | iptr cs b off c h1 h3 h4 h5 => exact ⟨rfl, rfl, rfl, b, off, c, rfl, h1, h3, h4, h5⟩
theorem VR.func_inv {fn : Nat} {f c : Array Value} (h : VR ρ H (.func (.func fn) f c) v') : ∃ f' c', v' = .func (.func fn) f' c' ∧ f.size = f'.size ∧ (∀ (j : Nat) (h : j < f.size) (h' : j < f'.size), VR ρ H f[j] f'[j]) ∧
    c.size = c'.size ∧ (∀ (j : Nat) (h : j < c.size) (h' : j < c'.size), VR ρ H c[j] c'[j]) := by
  cases h with
  | plain _ hp =>
    simp only [plainV, Bool.and_eq_true, beq_iff_eq] at hp
    exact ⟨f, c, rfl, rfl, fun j h h' => by omega, rfl, fun j h h' => by omega⟩
  | func _ _ f' _ c' h1 h2 h3 h4 => exact ⟨f', c', rfl, h1, h2, h3, h4⟩
end inv

/-- Lists of values. -/
def VRs (ρ : RP) (H : Heap) (l l' : List Value) : Prop := l.length = l'.length ∧ ∀ (j : Nat) x x', l[j]? = some x → l'[j]? = some x' → VR ρ H x x'
theorem VRs.nil (ρ : RP) (H : Heap) : VRs ρ H [] [] := ⟨rfl, fun j x x' h => by simp at h⟩
theorem VRs.cons {ρ : RP} {H : Heap} {x x' : Value} {l l' : List Value} (h : VR ρ H x x') (hl : VRs ρ H l l') : VRs ρ H (x :: l) (x' :: l') :=
  ⟨by simp [hl.1], fun j y y' hy hy' => by
    cases j with
    | zero => simp at hy hy'; subst hy; subst hy'; exact h
    | succ j => simp at hy hy'; exact hl.2 j y y' hy hy'⟩
theorem VRs.head {ρ : RP} {H : Heap} {x : Value} {l l' : List Value} (h : VRs ρ H (x :: l) l') : ∃ x' t, l' = x' :: t ∧ VR ρ H x x' ∧ VRs ρ H l t := by
  cases l' with
  | nil => have := h.1; simp at this
  | cons x' t => exact ⟨x', t, rfl, h.2 0 x x' rfl rfl, by have := h.1; simpa using this, fun j y y' hy hy' => h.2 (j + 1) y y' (by simpa using hy) (by simpa using hy')⟩
theorem VRs.nil_inv {ρ : RP} {H : Heap} {l' : List Value} (h : VRs ρ H [] l') : l' = [] := List.eq_nil_of_length_eq_zero h.1.symm
theorem VRs.append {ρ : RP} {H : Heap} {l l' m m' : List Value} (h : VRs ρ H l l') (h2 : VRs ρ H m m') : VRs ρ H (l ++ m) (l' ++ m') := by
  induction l generalizing l' with
  | nil => rw [h.nil_inv]; exact h2
  | cons x l ih =>
    obtain ⟨x', t, rfl, hx, ht⟩ := h.head
    exact VRs.cons hx (ih ht)
theorem VRs.mono {ρ ρ' : RP} {H H' : Heap} (hm : ∀ v v', VR ρ H v v' → VR ρ' H' v v') {l l' : List Value} (h : VRs ρ H l l') : VRs ρ' H' l l' :=
  ⟨h.1, fun j x x' hx hx' => hm _ _ (h.2 j x x' hx hx')⟩
theorem VRs.agg {ρ : RP} {H : Heap} {cs cs' : Array Value} (h : VRs ρ H cs.toList cs'.toList) : VR ρ H (.agg cs) (.agg cs') :=
  .agg cs cs' (by simpa using h.1) fun j h1 h2 => h.2 j _ _ (by simp [h1]) (by simp [h2])
theorem VRs.tuple {ρ : RP} {H : Heap} {cs cs' : Array Value} (h : VRs ρ H cs.toList cs'.toList) : VR ρ H (.tuple cs) (.tuple cs') :=
  .tuple cs cs' (by simpa using h.1) fun j h1 h2 => h.2 j _ _ (by simp [h1]) (by simp [h2])
theorem VR.agg_list {ρ : RP} {H : Heap} {cs : Array Value} {v' : Value} (h : VR ρ H (.agg cs) v') : ∃ cs' : Array Value, v' = .agg cs' ∧ VRs ρ H cs.toList cs'.toList := by
  obtain ⟨cs', rfl, h1, h2⟩ := h.agg_inv
  refine ⟨cs', rfl, by simpa using h1, fun j x x' hx hx' => ?_⟩
  simp only [Array.getElem?_toList] at hx hx'
  obtain ⟨q1, rfl⟩ := Array.getElem?_eq_some_iff.1 hx
  obtain ⟨q2, rfl⟩ := Array.getElem?_eq_some_iff.1 hx'
  exact h2 j q1 q2
theorem VR.cells {ρ : RP} {H : Heap} {v v' : Value} (h : VR ρ H v v') : VRs ρ H v.cells.toList v'.cells.toList := by
  cases v with
  | agg cs =>
    obtain ⟨cs', rfl, hl⟩ := h.agg_list
    exact hl
  | _ =>
    have h2 := h
    cases h <;> exact VRs.cons h2 (VRs.nil _ _)

/-! ### The relation of a heap with a world -/
structure Rel (ρ : RP) (H : Heap) (w : World) : Prop where
  cells : ∀ i e ro u cs, H[i]? = some e → e.obj = .cells ro u cs → ∃ c t fr, w.heap[(ρ i).block]? = some (.cells c t fr) ∧ c.size = (ρ i).size ∧
    (ro = false → fr.1 = fr.2 ∨ c.size ≤ fr.1) ∧
    (∀ (k : Nat) x, cs[k]? = some x → oneC x = true ∧ ∃ x', c[(ρ i).base + k]? = some x' ∧ VR ρ H x x')
  map : ∀ i e kv, H[i]? = some e → e.obj = .map kv → ∃ es clock, w.heap[(ρ i).block]? = some (.map es clock) ∧ es.size = kv.length ∧
    (∀ (j : Nat) k x, kv[j]? = some (k, x) → ∃ en : MapEntry, es[j]? = some en ∧ VR ρ H k en.key ∧ VR ρ H x en.val)
  iter : ∀ i e s p, H[i]? = some e → e.obj = .iter s p → w.heap[(ρ i).block]? = some (.stringIter s p) ∧ (ρ i).base = 0
  fz : ∀ b c, ρ.fz b = some c → (∃ t fr, w.heap[b]? = some (.cells c t fr)) ∧ ∀ i e, H[i]? = some e → e.obj.own = true → (ρ i).block ≠ b
  inj : ∀ i j ei ej, H[i]? = some ei → H[j]? = some ej → i ≠ j → ei.obj.own = true → ej.obj.live = true → (ρ i).block ≠ (ρ j).block

/-- What a run leaves. -/
structure Fr (ρ : RP) (H : Heap) (w : World) (ρ' : RP) (H' : Heap) (w' : World) : Prop where
  os : w'.os = w.os
  tape : w'.tape = w.tape
  output : w'.output = w.output
  size : w.heap.size ≤ w'.heap.size
  keep : ∀ b, b < w.heap.size → (∀ i e, H[i]? = some e → e.obj.own = true → (ρ i).block ≠ b) → w'.heap[b]? = w.heap[b]?
  own : ∀ i e, H'[i]? = some e → e.obj.own = true → w.heap.size ≤ (ρ' i).block ∨ ∃ j e0, H[j]? = some e0 ∧ e0.obj.own = true ∧ (ρ j).block = (ρ' i).block
  fz : ∀ b c, ρ'.fz b = some c → ρ.fz b = some c ∨ w.heap.size ≤ b ∨ ∃ j e0, H[j]? = some e0 ∧ e0.obj.own = true ∧ (ρ j).block = b
  vr : ∀ v v', VR ρ H v v' → VR ρ' H' v v'

theorem Fr.refl (ρ : RP) (H : Heap) (w : World) : Fr ρ H w ρ H w :=
  ⟨rfl, rfl, rfl, Nat.le_refl _, fun _ _ _ => rfl, fun i e h1 h2 => .inr ⟨i, e, h1, h2, rfl⟩, fun _ _ h => .inl h, fun _ _ h => h⟩

theorem Fr.trans {ρ ρ1 ρ2 : RP} {H H1 H2 : Heap} {w w1 w2 : World} (a : Fr ρ H w ρ1 H1 w1) (b : Fr ρ1 H1 w1 ρ2 H2 w2) : Fr ρ H w ρ2 H2 w2 where
  os := b.os.trans a.os
  tape := b.tape.trans a.tape
  output := b.output.trans a.output
  size := Nat.le_trans a.size b.size
  keep := fun x hx hne => by
    have h1 := a.keep x hx hne
    rw [← h1]
    refine b.keep x (Nat.lt_of_lt_of_le hx a.size) fun i e he ho heq => ?_
    rcases a.own i e he ho with h | ⟨j, e0, h2, h3, h4⟩
    · omega
    · exact hne j e0 h2 h3 (h4.trans heq)
  own := fun i e he ho => by
    rcases b.own i e he ho with h | ⟨j, e0, h2, h3, h4⟩
    · exact .inl (Nat.le_trans a.size h)
    · rcases a.own j e0 h2 h3 with h | ⟨j', e1, h5, h6, h7⟩
      · exact .inl (by omega)
      · exact .inr ⟨j', e1, h5, h6, h7.trans h4⟩
  fz := fun x c hx => by
    rcases b.fz x c hx with h | h | ⟨j, e0, h2, h3, h4⟩
    · exact a.fz x c h
    · exact .inr (.inl (Nat.le_trans a.size h))
    · rcases a.own j e0 h2 h3 with h | ⟨j', e1, h5, h6, h7⟩
      · exact .inr (.inl (by omega))
      · exact .inr (.inr ⟨j', e1, h5, h6, h7.trans h4⟩)
  vr := fun v v' h => b.vr v v' (a.vr v v' h)

/-- A draw. -/
theorem Rel.drew {ρ : RP} {H : Heap} {w : World} (h : Rel ρ H w) (n : Nat) : Rel ρ H { w with drawn := n } := ⟨h.cells, h.map, h.iter, h.fz, h.inj⟩
theorem Fr.drew (ρ : RP) (H : Heap) (w : World) (n : Nat) : Fr ρ H w ρ H { w with drawn := n } :=
  ⟨rfl, rfl, rfl, Nat.le_refl _, fun _ _ _ => rfl, fun i e h1 h2 => .inr ⟨i, e, h1, h2, rfl⟩, fun _ _ h => .inl h, fun _ _ h => h⟩

theorem Rel.block_lt {ρ : RP} {H : Heap} {w : World} (h : Rel ρ H w) {i : Nat} {e : Entry} (he : H[i]? = some e) (hl : e.obj.live = true) : (ρ i).block < w.heap.size := by
  cases ho : e.obj with
  | dead => rw [ho] at hl; cases hl
  | cells ro u cs =>
    obtain ⟨c, t, fr, h1, _⟩ := h.cells i e ro u cs he ho
    exact (Array.getElem?_eq_some_iff.1 h1).1
  | map kv =>
    obtain ⟨es, clock, h1, _⟩ := h.map i e kv he ho
    exact (Array.getElem?_eq_some_iff.1 h1).1
  | iter s p => exact (Array.getElem?_eq_some_iff.1 (h.iter i e s p he ho).1).1

/-- The world grows by a block of cells, the heap by an entry. -/
theorem Rel.alloc {ρ : RP} {H : Heap} {w : World} (h : Rel ρ H w) (u : Nat) (cs : List Value) (c : Array Value) (t : TypeId) (fr : Nat × Nat)
    (hfr : fr.1 = fr.2 ∨ c.size ≤ fr.1)
    (hc : ∀ (k : Nat) x, cs[k]? = some x → oneC x = true ∧ ∃ x', c[k]? = some x' ∧ VR ρ H x x') :
    ∃ ρ', Rel ρ' (H ++ [⟨0, .cells false u cs⟩]) { w with heap := w.heap.push (.cells c t fr) } ∧ Fr ρ H w ρ' (H ++ [⟨0, .cells false u cs⟩]) { w with heap := w.heap.push (.cells c t fr) } ∧
      ρ' H.length = ⟨w.heap.size, 0, c.size⟩ := by
  obtain ⟨ρ', hρ⟩ : ∃ ρ' : RP, ρ' = ρ.upd H.length ⟨w.heap.size, 0, c.size⟩ := ⟨_, rfl⟩
  have hnew : ρ' H.length = ⟨w.heap.size, 0, c.size⟩ := by rw [hρ]; exact RP.upd_same _ _ _
  have hold : ∀ i, i < H.length → ρ' i = ρ i := fun i hi => by
    rw [hρ]; exact RP.upd_ne _ _ (by omega)
  have hfz : ρ'.fz = ρ.fz := by rw [hρ]; rfl
  have hlt : ∀ {i e}, H[i]? = some e → i < H.length := fun hi => (List.getElem?_eq_some_iff.1 hi).1
  have hvr : ∀ v v', VR ρ H v v' → VR ρ' (H ++ [⟨0, .cells false u cs⟩]) v v' := fun v v' hv => hv.mono (by rw [hfz]; exact fun _ _ h => h) fun i e he => by
    refine ⟨e, by rw [List.getElem?_append_left (hlt he)]; exact he, ?_⟩
    have := hold i (hlt he)
    exact ⟨Nat.le_refl _, fun _ h => h, fun _ _ => by rw [this]; exact ⟨rfl, rfl⟩, fun ro _ cs _ h _ => ⟨ro, cs, h, fun hr => ⟨hr, by rw [this]⟩⟩, fun kv h => ⟨rfl, kv, h⟩⟩
  have hget : ∀ i e, (H ++ [(⟨0, .cells false u cs⟩ : Entry)])[i]? = some e → (i < H.length ∧ H[i]? = some e) ∨ (i = H.length ∧ e = ⟨0, .cells false u cs⟩) := fun i e he => by
    rcases Nat.lt_or_ge i H.length with hi | hi
    · rw [List.getElem?_append_left hi] at he; exact .inl ⟨hi, he⟩
    · rw [List.getElem?_append_right hi] at he
      have h0 : i - H.length = 0 := by
        rcases Nat.eq_zero_or_pos (i - H.length) with h0 | h0
        · exact h0
        · rw [List.getElem?_eq_none (by simp; omega)] at he; cases he
      rw [h0] at he
      simp at he
      exact .inr ⟨by omega, he.symm⟩
  have hpush : ∀ b, b < w.heap.size → (w.heap.push (.cells c t fr))[b]? = w.heap[b]? := fun b hb => by
    rw [Array.getElem?_push]; rw [if_neg (by omega)]
  refine ⟨ρ', ⟨?_, ?_, ?_, ?_, ?_⟩, ⟨rfl, rfl, rfl, by simp, fun b hb _ => hpush b hb, ?_, fun b c hb => .inl (by rw [← hfz]; exact hb), hvr⟩, hnew⟩
  · intro i e ro u' cs' he ho
    rcases hget i e he with ⟨hi, he'⟩ | ⟨rfl, rfl⟩
    · obtain ⟨c1, t1, fr1, h1, h2, h3, h4⟩ := h.cells i e ro u' cs' he' ho
      have hb := (Array.getElem?_eq_some_iff.1 h1).1
      rw [hold i hi]
      refine ⟨c1, t1, fr1, by simp only []; rw [hpush _ hb]; exact h1, h2, h3, fun k x hx => ?_⟩
      obtain ⟨h5, x', h6, h7⟩ := h4 k x hx
      exact ⟨h5, x', h6, hvr _ _ h7⟩
    · simp only [AObj.cells.injEq] at ho
      obtain ⟨rfl, rfl, rfl⟩ := ho
      rw [hnew]
      refine ⟨c, t, fr, by simp, rfl, fun _ => hfr, fun k x hx => ?_⟩
      obtain ⟨h5, x', h6, h7⟩ := hc k x hx
      exact ⟨h5, x', by simpa using h6, hvr _ _ h7⟩
  · intro i e kv he ho
    rcases hget i e he with ⟨hi, he'⟩ | ⟨rfl, rfl⟩
    · obtain ⟨es, clock, h1, h2, h3⟩ := h.map i e kv he' ho
      have hb := (Array.getElem?_eq_some_iff.1 h1).1
      rw [hold i hi]
      refine ⟨es, clock, by simp only []; rw [hpush _ hb]; exact h1, h2, fun j k x hx => ?_⟩
      obtain ⟨en, h5, h6, h7⟩ := h3 j k x hx
      exact ⟨en, h5, hvr _ _ h6, hvr _ _ h7⟩
    · cases ho
  · intro i e s p he ho
    rcases hget i e he with ⟨hi, he'⟩ | ⟨rfl, rfl⟩
    · obtain ⟨h1, h0⟩ := h.iter i e s p he' ho
      rw [hold i hi]
      simp only []
      rw [hpush _ (Array.getElem?_eq_some_iff.1 h1).1]
      exact ⟨h1, h0⟩
    · cases ho
  · intro b c1 hb
    rw [hfz] at hb
    obtain ⟨⟨t1, fr1, h1⟩, h2⟩ := h.fz b c1 hb
    have hbl := (Array.getElem?_eq_some_iff.1 h1).1
    refine ⟨⟨t1, fr1, by simp only []; rw [hpush _ hbl]; exact h1⟩, fun i e he ho => ?_⟩
    rcases hget i e he with ⟨hi, he'⟩ | ⟨rfl, rfl⟩
    · rw [hold i hi]; exact h2 i e he' ho
    · rw [hnew]; simp only []; omega
  · intro i j ei ej hi hj hne ho hl
    rcases hget i ei hi with ⟨hi1, hi2⟩ | ⟨rfl, rfl⟩
    · rcases hget j ej hj with ⟨hj1, hj2⟩ | ⟨rfl, rfl⟩
      · rw [hold i hi1, hold j hj1]; exact h.inj i j ei ej hi2 hj2 hne ho hl
      · rw [hold i hi1, hnew]
        have := h.block_lt hi2 (AObj.live_of_own ho)
        simp only []; omega
    · rcases hget j ej hj with ⟨hj1, hj2⟩ | ⟨rfl, rfl⟩
      · rw [hold j hj1, hnew]
        have := h.block_lt hj2 hl
        simp only []; omega
      · exact absurd rfl hne
  · intro i e he ho
    rcases hget i e he with ⟨hi, he'⟩ | ⟨rfl, rfl⟩
    · exact .inr ⟨i, e, he', ho, by rw [hold i hi]⟩
    · exact .inl (by rw [hnew]; exact Nat.le_refl _)

def upd {α : Type} (f : Nat → α) (i : Nat) (v : α) : Nat → α := fun j => if j = i then v else f j
theorem upd_same {α : Type} (f : Nat → α) (i : Nat) (v : α) : upd f i v i = v := by simp [upd]
theorem upd_ne {α : Type} (f : Nat → α) {i j : Nat} (v : α) (h : j ≠ i) : upd f i v j = f j := by simp [upd, h]

/-- One entry of the call's own is changed; the world in its block, or in a new one, alone. -/
theorem Rel.change {ρ : RP} {H : Heap} {w w' : World} (h : Rel ρ H w) (i : Nat) (e e' : Entry) (p : Place)
    (he : H[i]? = some e) (hown : e.obj.own = true)
    (hos : w'.os = w.os) (htape : w'.tape = w.tape) (hout : w'.output = w.output) (hsz : w.heap.size ≤ w'.heap.size)
    (hkeep : ∀ b, b < w.heap.size → b ≠ (ρ i).block → w'.heap[b]? = w.heap[b]?)
    (hp : p.block = (ρ i).block ∨ w.heap.size ≤ p.block) (st : EStep ρ (ρ.upd i p) i e e')
    (hcells : ∀ ro u cs, e'.obj = .cells ro u cs → ∃ c t fr, w'.heap[p.block]? = some (.cells c t fr) ∧ c.size = p.size ∧
      (ro = false → fr.1 = fr.2 ∨ c.size ≤ fr.1) ∧
      (∀ (k : Nat) x, cs[k]? = some x → oneC x = true ∧ ∃ x', c[p.base + k]? = some x' ∧ VR ρ H x x'))
    (hmap : ∀ kv, e'.obj = .map kv → ∃ es clock, w'.heap[p.block]? = some (.map es clock) ∧ es.size = kv.length ∧
      (∀ (j : Nat) k x, kv[j]? = some (k, x) → ∃ en : MapEntry, es[j]? = some en ∧ VR ρ H k en.key ∧ VR ρ H x en.val))
    (hiter : ∀ s q, e'.obj = .iter s q → w'.heap[p.block]? = some (.stringIter s q) ∧ p.base = 0) :
    Rel (ρ.upd i p) (H.set i e') w' ∧ Fr ρ H w (ρ.upd i p) (H.set i e') w' := by
  have hi : i < H.length := (List.getElem?_eq_some_iff.1 he).1
  have hget : ∀ j ej, (H.set i e')[j]? = some ej → (j ≠ i ∧ H[j]? = some ej) ∨ (j = i ∧ ej = e') := fun j ej hj => by
    rw [List.getElem?_set] at hj
    by_cases hji : i = j
    · subst hji
      rw [if_pos rfl, if_pos hi] at hj
      exact .inr ⟨rfl, (Option.some.inj hj).symm⟩
    · rw [if_neg hji] at hj
      exact .inl ⟨fun hh => hji hh.symm, hj⟩
  have hvr : ∀ v v', VR ρ H v v' → VR (ρ.upd i p) (H.set i e') v v' := fun v v' hv => hv.mono (ρ := ρ) (ρ' := ρ.upd i p) (fun _ _ h => h) fun j ej hj => by
    by_cases hji : j = i
    · subst hji
      rw [he] at hj
      cases hj
      exact ⟨e', by rw [List.getElem?_set, if_pos rfl, if_pos hi], st⟩
    · refine ⟨ej, by rw [List.getElem?_set, if_neg (fun hh => hji hh.symm)]; exact hj, ?_⟩
      have hne : ρ.upd i p j = ρ j := RP.upd_ne ρ p hji
      exact ⟨Nat.le_refl _, fun _ h => h, fun _ _ => by rw [hne]; exact ⟨rfl, rfl⟩, fun ro _ cs _ h _ => ⟨ro, cs, h, fun hr => ⟨hr, by rw [hne]⟩⟩, fun kv h => ⟨rfl, kv, h⟩⟩
  have hsame : ∀ j ej, H[j]? = some ej → j ≠ i → ej.obj.live = true → (ρ j).block ≠ (ρ i).block := fun j ej hj hne hl =>
    fun hh => h.inj i j e ej he hj (fun q => hne q.symm) hown hl hh.symm
  have hself : ρ.upd i p i = p := RP.upd_same ρ i p
  refine ⟨⟨?_, ?_, ?_, ?_, ?_⟩, ⟨hos, htape, hout, hsz, ?_, ?_, fun b c hb => .inl hb, hvr⟩⟩
  · intro j ej ro u1 cs1 hj ho1
    rcases hget j ej hj with ⟨hne, hj'⟩ | ⟨rfl, rfl⟩
    · obtain ⟨c1, t1, fr1, q1, q2, q3, q4⟩ := h.cells j ej ro u1 cs1 hj' ho1
      have hbl := (Array.getElem?_eq_some_iff.1 q1).1
      rw [RP.upd_ne ρ p hne]
      refine ⟨c1, t1, fr1, ?_, q2, q3, fun k x hx => ?_⟩
      · rw [hkeep _ hbl (hsame j ej hj' hne (by rw [ho1]; rfl))]; exact q1
      · obtain ⟨h5, x', h6, h7⟩ := q4 k x hx
        exact ⟨h5, x', h6, hvr _ _ h7⟩
    · rw [hself]
      obtain ⟨c1, t1, fr1, q1, q2, q3, q4⟩ := hcells ro u1 cs1 ho1
      refine ⟨c1, t1, fr1, q1, q2, q3, fun k x hx => ?_⟩
      obtain ⟨h5, x', h6, h7⟩ := q4 k x hx
      exact ⟨h5, x', h6, hvr _ _ h7⟩
  · intro j ej kv hj ho1
    rcases hget j ej hj with ⟨hne, hj'⟩ | ⟨rfl, rfl⟩
    · obtain ⟨es, clock, q1, q2, q3⟩ := h.map j ej kv hj' ho1
      have hbl := (Array.getElem?_eq_some_iff.1 q1).1
      rw [RP.upd_ne ρ p hne]
      refine ⟨es, clock, ?_, q2, fun j' k x hx => ?_⟩
      · rw [hkeep _ hbl (hsame j ej hj' hne (by rw [ho1]; rfl))]; exact q1
      · obtain ⟨en, h5, h6, h7⟩ := q3 j' k x hx
        exact ⟨en, h5, hvr _ _ h6, hvr _ _ h7⟩
    · rw [hself]
      obtain ⟨es, clock, q1, q2, q3⟩ := hmap kv ho1
      refine ⟨es, clock, q1, q2, fun j' k x hx => ?_⟩
      obtain ⟨en, h5, h6, h7⟩ := q3 j' k x hx
      exact ⟨en, h5, hvr _ _ h6, hvr _ _ h7⟩
  · intro j ej s q hj ho1
    rcases hget j ej hj with ⟨hne, hj'⟩ | ⟨rfl, rfl⟩
    · obtain ⟨h1, h0⟩ := h.iter j ej s q hj' ho1
      rw [RP.upd_ne ρ p hne, hkeep _ (Array.getElem?_eq_some_iff.1 h1).1 (hsame j ej hj' hne (by rw [ho1]; rfl))]
      exact ⟨h1, h0⟩
    · rw [hself]
      exact hiter s q ho1
  · intro b c1 hb
    obtain ⟨⟨t1, fr1, h1⟩, h2⟩ := h.fz b c1 hb
    have hbl := (Array.getElem?_eq_some_iff.1 h1).1
    refine ⟨⟨t1, fr1, by rw [hkeep b hbl (fun q => h2 i e he hown q.symm)]; exact h1⟩, fun j ej hj hoj => ?_⟩
    rcases hget j ej hj with ⟨hj1, hj2⟩ | ⟨rfl, rfl⟩
    · rw [RP.upd_ne ρ p hj1]; exact h2 j ej hj2 hoj
    · rw [hself]
      rcases hp with hp | hp
      · rw [hp]; exact h2 _ e he hown
      · omega
  · intro a b ea eb ha hb hne hoa hlb
    rcases hget a ea ha with ⟨ha1, ha2⟩ | ⟨rfl, rfl⟩
    · rw [RP.upd_ne ρ p ha1]
      rcases hget b eb hb with ⟨hb1, hb2⟩ | ⟨rfl, rfl⟩
      · rw [RP.upd_ne ρ p hb1]
        exact h.inj a b ea eb ha2 hb2 hne hoa hlb
      · rw [hself]
        have h1 := hsame a ea ha2 ha1 (AObj.live_of_own hoa)
        have h2 := h.block_lt ha2 (AObj.live_of_own hoa)
        rcases hp with hp | hp
        · rw [hp]; exact h1
        · omega
    · rw [hself]
      rcases hget b eb hb with ⟨hb1, hb2⟩ | ⟨rfl, rfl⟩
      · rw [RP.upd_ne ρ p hb1]
        have h1 := hsame b eb hb2 hb1 hlb
        have h2 := h.block_lt hb2 hlb
        rcases hp with hp | hp
        · rw [hp]; exact fun q => h1 q.symm
        · omega
      · exact absurd rfl hne
  · intro b hbl hne
    exact hkeep b hbl (fun hh => hne i e he hown hh.symm)
  · intro j ej hj hoj
    rcases hget j ej hj with ⟨hj1, q⟩ | ⟨rfl, rfl⟩
    · exact .inr ⟨j, ej, q, hoj, by rw [RP.upd_ne ρ p hj1]⟩
    · rw [hself]
      rcases hp with hp | hp
      · exact .inr ⟨j, e, he, hown, hp.symm⟩
      · exact .inl hp

theorem Rel.nil' {ρ : RP} {H : Heap} {w : World} (h : Rel ρ H w) : Rel ρ [] w := ⟨fun i e ro u cs h => by simp at h, fun i e kv h => by simp at h, fun i e s p h => by simp at h, fun b c hb => ⟨(h.fz b c hb).1, fun i e h => by simp at h⟩, fun i j ei ej h => by simp at h⟩
/-- What is kept of the world is enough. -/
theorem Rel.kept {ρ ρ2 : RP} {H : Heap} {w w' : World} (h : Rel ρ H w) (hpl : ρ2.pl = ρ.pl) (hk : ∀ b, b < w.heap.size → w'.heap[b]? = w.heap[b]?) (hf : ∀ b c, ρ.fz b = some c → ρ2.fz b = some c)
    (hz : ∀ b c, ρ2.fz b = some c → ρ.fz b = some c ∨ (w.heap.size ≤ b ∧ ∃ t fr, w'.heap[b]? = some (.cells c t fr))) : Rel ρ2 H w' ∧ ∀ v v', VR ρ H v v' → VR ρ2 H v v' := by
  have hp : ∀ i, ρ2 i = ρ i := fun i => by show ρ2.pl i = ρ.pl i; rw [hpl]
  have hvr : ∀ v v', VR ρ H v v' → VR ρ2 H v v' := fun v v' hv => hv.mono hf fun i e he => ⟨e, he, Nat.le_refl _, fun _ h => h, fun _ _ => by rw [hp]; exact ⟨rfl, rfl⟩, fun ro _ cs _ h _ => ⟨ro, cs, h, fun hr => ⟨hr, by rw [hp]⟩⟩, fun kv h => ⟨rfl, kv, h⟩⟩
  refine ⟨⟨?_, ?_, ?_, ?_, ?_⟩, hvr⟩
  · intro i e ro u cs he ho
    obtain ⟨c, t, fr, h1, h2, h3, h4⟩ := h.cells i e ro u cs he ho
    rw [hp]
    refine ⟨c, t, fr, by rw [hk _ (Array.getElem?_eq_some_iff.1 h1).1]; exact h1, h2, h3, fun k x hx => ?_⟩
    obtain ⟨h5, x', h6, h7⟩ := h4 k x hx
    exact ⟨h5, x', h6, hvr _ _ h7⟩
  · intro i e kv he ho
    obtain ⟨es, clock, h1, h2, h3⟩ := h.map i e kv he ho
    rw [hp]
    refine ⟨es, clock, by rw [hk _ (Array.getElem?_eq_some_iff.1 h1).1]; exact h1, h2, fun j k x hx => ?_⟩
    obtain ⟨en, h5, h6, h7⟩ := h3 j k x hx
    exact ⟨en, h5, hvr _ _ h6, hvr _ _ h7⟩
  · intro i e s p he ho
    obtain ⟨h1, h0⟩ := h.iter i e s p he ho
    rw [hp, hk _ (Array.getElem?_eq_some_iff.1 h1).1]
    exact ⟨h1, h0⟩
  · intro b c hb
    rcases hz b c hb with hb | ⟨hb, hx⟩
    · obtain ⟨⟨t, fr, h1⟩, h2⟩ := h.fz b c hb
      exact ⟨⟨t, fr, by rw [hk _ (Array.getElem?_eq_some_iff.1 h1).1]; exact h1⟩, fun i e he ho => by rw [hp]; exact h2 i e he ho⟩
    · refine ⟨hx, fun i e he ho => ?_⟩
      have := h.block_lt he (AObj.live_of_own ho)
      rw [hp]
      omega
  · intro i j ei ej h1 h2 h3 h4 h5
    rw [hp, hp]
    exact h.inj i j ei ej h1 h2 h3 h4 h5


/-- The world grows by a block that doesn't change any more. -/
theorem Rel.allocz {ρ : RP} {H : Heap} {w : World} (h : Rel ρ H w) (c : Array Value) (t : TypeId) (fr : Nat × Nat) (d : Nat) :
    ∃ ρ', Rel ρ' H { w with drawn := d, heap := w.heap.push (.cells c t fr) } ∧ Fr ρ H w ρ' H { w with drawn := d, heap := w.heap.push (.cells c t fr) } ∧ ρ'.fz w.heap.size = some c ∧ ∀ v v', VR ρ H v v' → VR ρ' H v v' := by
  obtain ⟨ρ2, hρ2⟩ : ∃ ρ2 : RP, ρ2 = ⟨ρ.pl, fun b => if b = w.heap.size then some c else ρ.fz b⟩ := ⟨_, rfl⟩
  have hlt : ∀ b c, ρ.fz b = some c → b < w.heap.size := fun b c hb => by
    obtain ⟨⟨t, fr, h4⟩, _⟩ := h.fz b c hb
    exact (Array.getElem?_eq_some_iff.1 h4).1
  have hk : ∀ b, b < w.heap.size → (w.heap.push (.cells c t fr))[b]? = w.heap[b]? := fun b hb => by rw [Array.getElem?_push, if_neg (by omega)]
  obtain ⟨hR, hvr⟩ := h.kept (ρ2 := ρ2) (w' := { w with drawn := d, heap := w.heap.push (.cells c t fr) }) (by rw [hρ2]) hk
    (fun b c' hb => by rw [hρ2]; simp only []; rw [if_neg (by have := hlt b c' hb; omega)]; exact hb)
    (fun b c' hb => by
      rw [hρ2] at hb
      simp only [] at hb
      split at hb
      · rename_i hbb
        obtain rfl := Option.some.inj hb
        subst hbb
        exact .inr ⟨Nat.le_refl _, t, fr, by simp⟩
      · exact .inl hb)
  refine ⟨ρ2, hR, ⟨rfl, rfl, rfl, by simp, fun b hb _ => hk b hb, fun i e he ho => .inr ⟨i, e, he, ho, by rw [hρ2]⟩, fun b c' hb => ?_, hvr⟩, by rw [hρ2]; simp, hvr⟩
  rw [hρ2] at hb
  simp only [] at hb
  split at hb
  · exact .inr (.inl (by omega))
  · exact .inl hb

/-- The world grows by a map or by a place in a string. -/
theorem Rel.allocO {ρ : RP} {H : Heap} {w : World} (h : Rel ρ H w) (o : AObj) (ob : Obj) (ho : (o = .map [] ∧ ∃ clock, ob = .map #[] clock) ∨ ∃ s p, o = .iter s p ∧ ob = .stringIter s p) :
    ∃ ρ', Rel ρ' (H ++ [⟨0, o⟩]) { w with heap := w.heap.push ob } ∧ Fr ρ H w ρ' (H ++ [⟨0, o⟩]) { w with heap := w.heap.push ob } ∧ ρ' H.length = ⟨w.heap.size, 0, 0⟩ := by
  obtain ⟨ρ', hρ⟩ : ∃ ρ' : RP, ρ' = ρ.upd H.length ⟨w.heap.size, 0, 0⟩ := ⟨_, rfl⟩
  have hnew : ρ' H.length = ⟨w.heap.size, 0, 0⟩ := by rw [hρ]; exact RP.upd_same _ _ _
  have hold : ∀ i, i < H.length → ρ' i = ρ i := fun i hi => by
    rw [hρ]; exact RP.upd_ne _ _ (by omega)
  have hfz : ρ'.fz = ρ.fz := by rw [hρ]; rfl
  have hlt : ∀ {i e}, H[i]? = some e → i < H.length := fun hi => (List.getElem?_eq_some_iff.1 hi).1
  have hvr : ∀ v v', VR ρ H v v' → VR ρ' (H ++ [⟨0, o⟩]) v v' := fun v v' hv => hv.mono (by rw [hfz]; exact fun _ _ h => h) fun i e he => by
    refine ⟨e, by rw [List.getElem?_append_left (hlt he)]; exact he, ?_⟩
    have := hold i (hlt he)
    exact ⟨Nat.le_refl _, fun _ h => h, fun _ _ => by rw [this]; exact ⟨rfl, rfl⟩, fun ro _ cs _ h _ => ⟨ro, cs, h, fun hr => ⟨hr, by rw [this]⟩⟩, fun kv h => ⟨rfl, kv, h⟩⟩
  have hget : ∀ i e, (H ++ [(⟨0, o⟩ : Entry)])[i]? = some e → (i < H.length ∧ H[i]? = some e) ∨ (i = H.length ∧ e = ⟨0, o⟩) := fun i e he => by
    rcases Nat.lt_or_ge i H.length with hi | hi
    · rw [List.getElem?_append_left hi] at he; exact .inl ⟨hi, he⟩
    · rw [List.getElem?_append_right hi] at he
      have h0 : i - H.length = 0 := by
        rcases Nat.eq_zero_or_pos (i - H.length) with h0 | h0
        · exact h0
        · rw [List.getElem?_eq_none (by simp; omega)] at he; cases he
      rw [h0] at he
      simp at he
      exact .inr ⟨by omega, he.symm⟩
  have hpush : ∀ b, b < w.heap.size → (w.heap.push ob)[b]? = w.heap[b]? := fun b hb => by
    rw [Array.getElem?_push]; rw [if_neg (by omega)]
  refine ⟨ρ', ⟨?_, ?_, ?_, ?_, ?_⟩, ⟨rfl, rfl, rfl, by simp, fun b hb _ => hpush b hb, ?_, fun b c hb => .inl (by rw [← hfz]; exact hb), hvr⟩, hnew⟩
  · intro i e ro u' cs' he hoo
    rcases hget i e he with ⟨hi, he'⟩ | ⟨rfl, rfl⟩
    · obtain ⟨c1, t1, fr1, h1, h2, h3, h4⟩ := h.cells i e ro u' cs' he' hoo
      have hb := (Array.getElem?_eq_some_iff.1 h1).1
      rw [hold i hi]
      refine ⟨c1, t1, fr1, by simp only []; rw [hpush _ hb]; exact h1, h2, h3, fun k x hx => ?_⟩
      obtain ⟨h5, x', h6, h7⟩ := h4 k x hx
      exact ⟨h5, x', h6, hvr _ _ h7⟩
    · rcases ho with ⟨rfl, _⟩ | ⟨s, p, rfl, _⟩ <;> cases hoo
  · intro i e kv he hoo
    rcases hget i e he with ⟨hi, he'⟩ | ⟨rfl, rfl⟩
    · obtain ⟨es, clock, h1, h2, h3⟩ := h.map i e kv he' hoo
      have hb := (Array.getElem?_eq_some_iff.1 h1).1
      rw [hold i hi]
      refine ⟨es, clock, by simp only []; rw [hpush _ hb]; exact h1, h2, fun j k x hx => ?_⟩
      obtain ⟨en, h5, h6, h7⟩ := h3 j k x hx
      exact ⟨en, h5, hvr _ _ h6, hvr _ _ h7⟩
    · rcases ho with ⟨rfl, clock, rfl⟩ | ⟨s, p, rfl, _⟩
      · cases hoo
        rw [hnew]
        exact ⟨#[], clock, by simp, rfl, fun j k x hx => by simp at hx⟩
      · cases hoo
  · intro i e s p he hoo
    rcases hget i e he with ⟨hi, he'⟩ | ⟨rfl, rfl⟩
    · obtain ⟨h1, h0⟩ := h.iter i e s p he' hoo
      rw [hold i hi]
      simp only []
      rw [hpush _ (Array.getElem?_eq_some_iff.1 h1).1]
      exact ⟨h1, h0⟩
    · rcases ho with ⟨rfl, clock, rfl⟩ | ⟨s, p, rfl, rfl⟩
      · cases hoo
      · cases hoo
        rw [hnew]
        simp
  · intro b c1 hb
    rw [hfz] at hb
    obtain ⟨⟨t1, fr1, h1⟩, h2⟩ := h.fz b c1 hb
    have hbl := (Array.getElem?_eq_some_iff.1 h1).1
    refine ⟨⟨t1, fr1, by simp only []; rw [hpush _ hbl]; exact h1⟩, fun i e he ho => ?_⟩
    rcases hget i e he with ⟨hi, he'⟩ | ⟨rfl, rfl⟩
    · rw [hold i hi]; exact h2 i e he' ho
    · rw [hnew]; simp only []; omega
  · intro i j ei ej hi hj hne hoo hl
    rcases hget i ei hi with ⟨hi1, hi2⟩ | ⟨rfl, rfl⟩
    · rcases hget j ej hj with ⟨hj1, hj2⟩ | ⟨rfl, rfl⟩
      · rw [hold i hi1, hold j hj1]; exact h.inj i j ei ej hi2 hj2 hne hoo hl
      · rw [hold i hi1, hnew]
        have := h.block_lt hi2 (AObj.live_of_own hoo)
        simp only []; omega
    · rcases hget j ej hj with ⟨hj1, hj2⟩ | ⟨rfl, rfl⟩
      · rw [hold j hj1, hnew]
        have := h.block_lt hj2 hl
        simp only []; omega
      · exact absurd rfl hne
  · intro i e he hoo
    rcases hget i e he with ⟨hi, he'⟩ | ⟨rfl, rfl⟩
    · exact .inr ⟨i, e, he', hoo, by rw [hold i hi]⟩
    · exact .inl (by rw [hnew]; exact Nat.le_refl _)

theorem fr_no {fr : Nat × Nat} {n : Nat} (h : fr.1 = fr.2 ∨ n ≤ fr.1) : ∀ k, k < n → (decide (fr.1 ≤ k) && decide (k < fr.2)) = false := fun k hk => by
  simp only [Bool.and_eq_false_iff, decide_eq_false_iff_not]
  rcases h with h | h <;> omega

end Go.Proofs.Ytdkdifjjpbfohaa.Fw
