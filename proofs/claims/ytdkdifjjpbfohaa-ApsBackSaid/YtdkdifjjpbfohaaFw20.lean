/- From the evaluator to the program's calls. -/
import Derived.Test.YtdkdifjjpbfohaaFw19
import Derived.Below
namespace Go.Proofs.Ytdkdifjjpbfohaa.Fw
open Go Go.RowKit

theorem calls_of_ev {P : Program} {T : Tab} (hT : Good P T) {f : Nat} {args : List Value} {H : Heap} {K : Value → Heap → Prop} (h : Ev T f args H K) {ρ : RP} {w : World} {args' : List Value} (ha : VRs ρ H args args') (hr : Rel ρ H w) :
    Calls P f args'.toArray w fun e w' => ∃ v v' H' ρ', e = .returned v' ∧ K v H' ∧ VR ρ' H' v v' ∧ Rel ρ' H' w' ∧ Fr ρ H w ρ' H' w' := by
  obtain ⟨n, v, H', h1, h2⟩ := h
  refine ((evalF_ok hT n f args H v H' h1).2 ρ w args' ha hr).mono fun e w' h3 => ?_
  obtain ⟨v', ρ', h4, h5, h6, h7⟩ := h3
  exact ⟨v, v', H', ρ', h4, h2, h5, h6, h7⟩

theorem Fr.below {ρ ρ' : RP} {H H' : Heap} {w w' : World} (h : Fr ρ H w ρ' H' w') (hro : ∀ (i : Nat) e, H[i]? = some e → e.obj.own = false) : Below w.heap.size w w' :=
  ⟨h.os, h.tape, h.output, h.size, fun k hk => h.keep k hk fun i e he ho => by rw [hro i e he] at ho; cases ho⟩

theorem calls_true {P : Program} {T : Tab} (hT : Good P T) {f : Nat} {args : List Value} {H : Heap} (h : Ev T f args H fun v _ => v = .bool true) {ρ : RP} {w : World} {args' : List Value} (ha : VRs ρ H args args') (hr : Rel ρ H w)
    (hro : ∀ (i : Nat) e, H[i]? = some e → e.obj.own = false) : Calls P f args'.toArray w fun e w' => e = .returned (.bool true) ∧ Below w.heap.size w w' := by
  refine (calls_of_ev hT h ha hr).mono fun e w' h1 => ?_
  obtain ⟨v, v', H', ρ', rfl, rfl, h2, h3, h4⟩ := h1
  rw [h2.bool_inv]
  exact ⟨rfl, h4.below hro⟩

theorem Rel.nil (ρ : RP) (w : World) (hf : ∀ b c, ρ.fz b = some c → ∃ t fr, w.heap[b]? = some (.cells c t fr)) : Rel ρ [] w := ⟨fun i e ro u cs h => by simp at h, fun i e kv h => by simp at h, fun i e s p h => by simp at h, fun b c hb => ⟨hf b c hb, fun i e h => by simp at h⟩, fun i j ei ej h => by simp at h⟩

/-- A table out of a list. -/
def tabOf (l : List (Nat × IFn)) : Tab := fun f => match l.find? (fun p => Nat.beq p.1 f) with | some p => some p.2 | none => none
theorem good_tab {P : Program} {l : List (Nat × IFn)} (hm : P.follows .mixedOrders = true) (h : ∀ p ∈ l, chkF P p.1 p.2 = true) : Good P (tabOf l) := by
  refine ⟨hm, fun f fn hf => ?_⟩
  unfold tabOf at hf
  split at hf
  · rename_i p hp
    obtain rfl := Option.some.inj hf
    have h1 := List.find?_some hp
    have h2 := List.mem_of_find?_eq_some hp
    have := Nat.eq_of_beq_eq_true h1
    rw [← this]
    exact h p h2
  · cases hf
/-- One table within another. -/
def TabLe (T T' : Tab) : Prop := ∀ f fn, T f = some fn → T' f = some fn
theorem evalF_tab {T T' : Tab} (h : TabLe T T') : ∀ n, CallLe (evalF T n) (evalF T' n)
  | 0 => fun _ _ _ _ hs => by cases hs
  | n + 1 => fun f args H r hs => by
    simp only [evalF] at hs ⊢
    split at hs
    · cases hs
    · rename_i fn hfn
      rw [h f fn hfn]
      simp only []
      cases hl : Nat.ble args.length fn.nt with
      | false => rw [hl] at hs; cases hs
      | true =>
        rw [hl] at hs
        simp only [cond_true] at hs ⊢
        cases hc : evalC (evalF T n) n fn.code (ini args) H with
        | none => rw [hc] at hs; cases hs
        | some q =>
          rw [evalC_mono (evalF_tab h n) (Nat.le_refl n) _ _ _ _ hc]
          rw [hc] at hs
          exact hs
theorem Ev.tab {T T' : Tab} (h : TabLe T T') {f : Nat} {args : List Value} {H : Heap} {K : Value → Heap → Prop} (he : Ev T f args H K) : Ev T' f args H K := by
  obtain ⟨n, v, H', h1, h2⟩ := he
  exact ⟨n, v, H', evalF_tab h n _ _ _ _ h1, h2⟩

end Go.Proofs.Ytdkdifjjpbfohaa.Fw
