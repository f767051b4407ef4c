/- Whole numbers as plain ones; calls whose answer is known. -/
import Derived.Test.YtdkdifjjpbfohaaFw20
namespace Go.Proofs.Ytdkdifjjpbfohaa.Fw
open Go

theorem Ev_det {T : Tab} {f : Nat} {args : List Value} {H H' : Heap} {v : Value} {K : Value → Heap → Prop} (h : Ev T f args H fun v' h' => v' = v ∧ h' = H') : Ev T f args H K ↔ K v H' := by
  obtain ⟨n, v1, h1, h2, rfl, rfl⟩ := h
  constructor
  · rintro ⟨m, v2, h3, h4, h5⟩
    have e1 := evalF_mono T (Nat.le_max_left n m) _ _ _ _ h2
    have e2 := evalF_mono T (Nat.le_max_right n m) _ _ _ _ h4
    rw [e1] at e2
    cases e2
    exact h5
  · exact fun hk => ⟨n, _, _, h2, hk⟩

theorem wrapU {k : IntKind} (h : k.signed = false) (x : Int) : k.wrap x = x % 2 ^ k.bits := by
  unfold IntKind.wrap
  simp [h]
theorem wrap_u8 (x : Int) : IntKind.u8.wrap x = x % 256 := wrapU rfl x
theorem wrap_u16 (x : Int) : IntKind.u16.wrap x = x % 65536 := wrapU rfl x
theorem wrap_u32 (x : Int) : IntKind.u32.wrap x = x % 4294967296 := wrapU rfl x
theorem wrap_u64 (x : Int) : IntKind.u64.wrap x = x % 18446744073709551616 := wrapU rfl x
theorem wrapI64 {x : Int} (h0 : -9223372036854775808 ≤ x) (h1 : x ≤ 9223372036854775807) : IntKind.i64.wrap x = x := wrap_i64 h0 h1
theorem tdivN {a b : Int} (h : 0 ≤ a) : a.tdiv b = a / b := Int.tdiv_eq_ediv_of_nonneg h
theorem tmodN {a b : Int} (h : 0 ≤ a) : a.tmod b = a % b := Int.tmod_eq_emod_of_nonneg h
theorem pickV_tt {x y : Bool} : pickV true (.bool x) (.bool y) = .bool x := rfl
theorem pickV_ff {x y : Bool} : pickV false (.bool x) (.bool y) = .bool y := rfl
theorem pickV_tu {a : Value} : pickV true a undef = a := by cases a <;> rfl
theorem pickV_fu {b : Value} : pickV false undef b = b := rfl

/-! Heaps that grow -/
def Ext (H h : Heap) : Prop := ∃ g, h = H ++ g
theorem Ext.refl (H : Heap) : Ext H H := ⟨[], by simp⟩
theorem Ext.app (H l : Heap) : Ext H (H ++ l) := ⟨l, rfl⟩
theorem Ext.trans {a b c : Heap} (h : Ext a b) (k : Ext b c) : Ext a c := by
  obtain ⟨g, rfl⟩ := h
  obtain ⟨g', rfl⟩ := k
  exact ⟨g ++ g', by simp⟩
theorem Ext.get {H h : Heap} (x : Ext H h) {i : Nat} {e : Entry} (he : H[i]? = some e) : h[i]? = some e := by
  obtain ⟨g, rfl⟩ := x
  rw [List.getElem?_append_left (List.getElem?_eq_some_iff.1 he).1]
  exact he
theorem Ext.len {H h : Heap} (x : Ext H h) : H.length ≤ h.length := by
  obtain ⟨g, rfl⟩ := x
  simp
section
variable {H l : Heap} {k : Nat} {e : Entry}
theorem app_get0 : (H ++ l)[H.length]? = l[0]? := by rw [List.getElem?_append_right (Nat.le_refl _), Nat.sub_self]
theorem app_getk : (H ++ l)[H.length + k]? = l[k]? := by rw [List.getElem?_append_right (Nat.le_add_right _ _), Nat.add_sub_cancel_left]
theorem app_set0 : (H ++ l).set H.length e = H ++ l.set 0 e := by rw [List.set_append_right _ _ (Nat.le_refl _), Nat.sub_self]
theorem app_setk : (H ++ l).set (H.length + k) e = H ++ l.set k e := by rw [List.set_append_right _ _ (Nat.le_add_right _ _), Nat.add_sub_cancel_left]
end
theorem cells_int {k : IntKind} {n : Int} : (Value.int k n).cells = #[.int k n] := rfl
theorem cells_bool {b : Bool} : (Value.bool b).cells = #[.bool b] := rfl
theorem cells_string {s : ByteArray} : (Value.string s).cells = #[.string s] := rfl
theorem cells_slice {a : Option Addr} {n c : Nat} : (Value.slice a n c).cells = #[.slice a n c] := rfl
theorem cells_pointer {a : Option Addr} : (Value.pointer a).cells = #[.pointer a] := rfl
theorem cells_map {a : Option Nat} : (Value.map a).cells = #[.map a] := rfl
theorem cells_iface {t : TypeId} {x : Value} : (Value.iface t x).cells = #[.iface t x] := rfl
theorem cells_nilIface : Value.nilIface.cells = #[.nilIface] := rfl
theorem oneAll_int {k : IntKind} {n : Int} : oneAll (Value.int k n) = true := by simp [oneAll, Value.cells, oneC]
theorem oneAll_bool {b : Bool} : oneAll (Value.bool b) = true := by simp [oneAll, Value.cells, oneC]
theorem oneAll_string {s : ByteArray} : oneAll (Value.string s) = true := by simp [oneAll, Value.cells, oneC]
theorem oneAll_slice {a : Option Addr} {n c : Nat} : oneAll (Value.slice a n c) = true := by simp [oneAll, Value.cells, oneC]
theorem oneAll_pointer {a : Option Addr} : oneAll (Value.pointer a) = true := by simp [oneAll, Value.cells, oneC]
theorem oneAll_map {a : Option Nat} : oneAll (Value.map a) = true := by simp [oneAll, Value.cells, oneC]
theorem oneAll_iface {t : TypeId} {x : Value} : oneAll (Value.iface t x) = true := by simp [oneAll, Value.cells, oneC]
theorem oneAll_nilIface : oneAll Value.nilIface = true := by simp [oneAll, Value.cells, oneC]
theorem oneAll_agg {l : List Value} : oneAll (Value.agg l.toArray) = l.all oneC := by simp [oneAll, Value.cells]
theorem cells_agg {c : Array Value} : (Value.agg c).cells = c := rfl

end Go.Proofs.Ytdkdifjjpbfohaa.Fw
