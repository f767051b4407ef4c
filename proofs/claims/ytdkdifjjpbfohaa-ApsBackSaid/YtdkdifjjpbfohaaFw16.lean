/- A region in any order: the world. -/
import Derived.Test.YtdkdifjjpbfohaaFw15
namespace Go.Proofs.Ytdkdifjjpbfohaa.Fw
open Go

/-- How many aren't listed. -/
def unl (f : Nat → Bool) : Nat → Nat
  | 0 => 0
  | k + 1 => unl f k + (bif f k then 0 else 1)
theorem unl_zero {f : Nat → Bool} : ∀ {n : Nat}, unl f n = 0 → ∀ i, i < n → f i = true
  | 0, _, i, hi => by omega
  | n + 1, h, i, hi => by
    simp only [unl] at h
    rcases Nat.lt_or_ge i n with h1 | h1
    · exact unl_zero (by omega) i h1
    · have : i = n := by omega
      subst this
      cases hf : f i with
      | true => rfl
      | false => rw [hf] at h; simp at h
theorem unl_upd {f : Nat → Bool} {i : Nat} (hf : f i = false) : ∀ n, (i < n → unl (upd f i true) n + 1 = unl f n) ∧ (n ≤ i → unl (upd f i true) n = unl f n)
  | 0 => ⟨fun h => by omega, fun _ => rfl⟩
  | n + 1 => by
    obtain ⟨h1, h2⟩ := unl_upd hf n
    refine ⟨fun h => ?_, fun h => ?_⟩
    · simp only [unl]
      rcases Nat.lt_or_ge i n with h3 | h3
      · rw [upd_ne _ _ (by omega)]
        have := h1 h3
        omega
      · have : i = n := by omega
        subst this
        rw [h2 (Nat.le_refl _), upd_same, hf]
        rfl
    · simp only [unl]
      rw [h2 (by omega), upd_ne _ _ (by omega)]

theorem befOk_get {bs : List (List Nat)} : ∀ {l : List Oper} {m : List (List Nat)} {i : Nat}, befOk bs l m i = true → l.length = m.length ∧ ∀ (j : Nat) o b, l[j]? = some o → m[j]? = some b →
    (∀ k ∈ b, k < i + j ∧ ∃ e ∈ o.after, Region.binds .any e = true ∧ (e.on = k ∨ k ∈ bs.getD e.on [])) ∧ (∀ e ∈ o.after, Region.binds .any e = true → e.on < i + j)
  | [], [], _, _ => ⟨rfl, fun j o b h => by simp at h⟩
  | [], _ :: _, _, h => by simp [befOk] at h
  | _ :: _, [], _, h => by simp [befOk] at h
  | o :: l, b :: m, i, h => by
    simp only [befOk, Bool.and_eq_true] at h
    obtain ⟨⟨h1, h2⟩, h3⟩ := h
    obtain ⟨g1, g2⟩ := befOk_get h3
    refine ⟨by simp [g1], fun j p q hp hq => ?_⟩
    cases j with
    | zero =>
      simp at hp hq
      subst hp; subst hq
      rw [List.all_eq_true] at h1
      rw [Array.all_eq_true_iff_forall_mem] at h2
      refine ⟨fun k hk => ?_, fun e he hb => ?_⟩
      · have := h1 k hk
        simp only [Bool.and_eq_true, Array.any_eq_true'] at this
        obtain ⟨q1, e, q2, q3, q4⟩ := this
        refine ⟨by simpa using q1, e, q2, q3, ?_⟩
        simp only [Bool.or_eq_true, List.contains_eq_mem, decide_eq_true_eq] at q4
        rcases q4 with q4 | q4
        · exact .inl (Nat.eq_of_beq_eq_true q4)
        · exact .inr q4
      · have := h2 e he
        rw [hb] at this
        simpa using this
    | succ j =>
      simp at hp hq
      have := g2 j p q hp hq
      rwa [show i + 1 + j = i + (j + 1) by omega] at this

section
variable {P : Program} {nt : Nat} {call : CallE}

theorem wpAny_ok (hcall : CallOk P call) {ops : Array Oper} {ss : List IStmt} {bs : List (List Nat)} (hc : chkB P nt ops ss bs = true) {E : Nat → Env} {Hf : Nat → Heap} {tr : List (Env × Heap)} (htr : ∀ i, i ≤ ss.length → tr[i]? = some (E i, Hf i))
    (hstep : ∀ i s, ss[i]? = some s → stepS call ss s (E i) (Hf i) = some (E (i + 1), Hf (i + 1))) (hck : ∀ c ∈ cksOf ss bs, ckOk ss tr c)
    {ρ0 : RP} {H0 : Heap} {w0 : World} {Q : Exit → Act → World → Prop} (hk : ∀ a' w' ρ', At P nt ρ0 H0 w0 ρ' (E ss.length) (Hf ss.length) a' w' → Q .normal a' w') :
    ∀ (fuel : Nat) (listed : Array Bool) (ρ : RP) (a : Act) (w : World), listed.size = ss.length → unl (fun i => listed.getD i false) ss.length ≤ fuel →
      (∀ i, listed.getD i false = true → ∀ k ∈ bs.getD i [], listed.getD k false = true) →
      At P nt ρ0 H0 w0 ρ (eL ss E (fun i => listed.getD i false) ss.length) (hL ss Hf (fun i => listed.getD i false) ss.length) a w → wpAny P .any ops Q fuel listed a w := by
  simp only [chkB, Bool.and_eq_true] at hc
  obtain ⟨⟨hc, hb⟩, hord0⟩ := hc
  obtain ⟨c1, c2⟩ := chkL_get hc
  obtain ⟨b1, b2⟩ := befOk_get hb
  have hlen : ops.size = ss.length := by rw [← c1, Array.length_toList]
  have hord : ∀ i j s r, ss[i]? = some s → ss[j]? = some r → j < i → clash ss r s = true → j ∈ (fun i => bs.getD i []) i := fun i j s r hi hj hji hcl => by
    unfold ordOk at hord0
    rw [List.all_eq_true] at hord0
    have h1 := hord0 (s, i) (List.mem_zipIdx_iff_getElem?.2 hi)
    simp only [List.all_eq_true] at h1
    have h2 := h1 (r, j) (List.mem_zipIdx_iff_getElem?.2 hj)
    rw [hcl] at h2
    have h3 : Nat.blt j i = true := by simpa using hji
    rw [h3] at h2
    simpa using h2
  have hall : ∀ (listed : Array Bool), listed.size = ss.length → Region.ready .any ops listed = [] → ∀ i, i < ss.length → listed.getD i false = true := fun listed hsz hr i => by
    induction i using Nat.strongRecOn with
    | _ i ih =>
      intro hi
      cases hq : listed.getD i false with
      | true => rfl
      | false =>
        exfalso
        have hio : i < ops.toList.length := by rw [c1]; exact hi
        have ho := List.getElem?_eq_getElem hio
        have hib := List.getElem?_eq_getElem (show i < bs.length by rw [← b1]; exact hio)
        have : i ∈ Region.ready .any ops listed := by
          rw [mem_ready]
          refine ⟨?_, _, by rw [← Array.getElem?_toList]; exact ho, fun e he hbd => ?_⟩
          · rw [Array.getD_eq_getD_getElem?, Array.getElem?_eq_getElem (by omega)] at hq ⊢
            exact hq
          · have := (b2 i _ _ ho hib).2 e he hbd
            exact ih e.on (by omega) (by omega)
        rw [hr] at this
        cases this
  have hfin : ∀ (listed : Array Bool) (ρ : RP) (a : Act) (w : World), (∀ i, i < ss.length → listed.getD i false = true) →
      At P nt ρ0 H0 w0 ρ (eL ss E (fun i => listed.getD i false) ss.length) (hL ss Hf (fun i => listed.getD i false) ss.length) a w → Q .normal a w := fun listed ρ a w h hat => by
    obtain ⟨h1, h2⟩ := eL_all hstep h ss.length (Nat.le_refl _)
    rw [h1, h2] at hat
    exact hk a w ρ hat
  intro fuel
  induction fuel with
  | zero =>
    intro listed ρ a w hsz hfuel hD hat
    have h := unl_zero (Nat.le_zero.1 hfuel)
    refine ⟨?_, hfin listed ρ a w h hat⟩
    cases hr : Region.ready .any ops listed with
    | nil => rfl
    | cons i l =>
      have hm : i ∈ Region.ready .any ops listed := by rw [hr]; exact List.mem_cons_self
      rw [mem_ready] at hm
      obtain ⟨h1, o, h2, _⟩ := hm
      have hi : i < ss.length := by rw [← hlen]; exact (Array.getElem?_eq_some_iff.1 h2).1
      have := h i hi
      rw [Array.getD_eq_getD_getElem?, Array.getElem?_eq_getElem (by omega)] at h1 this
      simp only [Option.getD_some] at h1 this
      rw [h1] at this
      cases this
  | succ fuel ih =>
    intro listed ρ a w hsz hfuel hD hat
    refine ⟨fun hr => hfin listed ρ a w (hall listed hsz hr) hat, fun i hi => ?_⟩
    rw [mem_ready] at hi
    obtain ⟨h1, o, h2, h3⟩ := hi
    have hi : i < ss.length := by rw [← hlen]; exact (Array.getElem?_eq_some_iff.1 h2).1
    have hs := List.getElem?_eq_getElem hi
    have hL0 : (fun i => listed.getD i false) i = false := by
      simp only []
      rw [Array.getD_eq_getD_getElem?, Array.getElem?_eq_getElem (by omega)] at h1 ⊢
      exact h1
    have hb' : ∀ k ∈ (fun i => bs.getD i []) i, (fun i => listed.getD i false) k = true := fun k hkm => by
      simp only [] at hkm ⊢
      have hib := List.getElem?_eq_getElem (show i < bs.length by rw [← b1, c1]; exact hi)
      have hgd : bs.getD i [] = bs[i] := by rw [List.getD_eq_getElem?_getD, hib]; rfl
      rw [hgd] at hkm
      obtain ⟨_, e, he1, he2, he3⟩ := (b2 i o _ (by rw [Array.getElem?_toList]; exact h2) hib).1 k hkm
      have he4 := h3 e he1 he2
      rcases he3 with rfl | he3
      · exact he4
      · exact hD e.on he4 k he3
    have hupd : (fun j => (listed.setIfInBounds i true).getD j false) = upd (fun j => listed.getD j false) i true := by
      funext j
      by_cases hj : j = i
      · subst hj
        rw [upd_same]
        rw [Array.getD_eq_getD_getElem?, Array.getElem?_setIfInBounds_self_of_lt (by omega)]
        rfl
      · rw [upd_ne _ _ hj]
        exact getD_set_ne false (fun q => hj q.symm)
    have hst := stepL hstep hord (L := fun j => listed.getD j false) hD (fun _ => rfl) htr hck hs hL0 hb'
    refine stepS_ok hcall hc hs hat hst fun a' w' ρ' hat' => ih _ ρ' a' w' ?_ ?_ ?_ ?_
    · rw [Array.size_setIfInBounds]; exact hsz
    · rw [hupd]
      have := (unl_upd (f := fun j => listed.getD j false) hL0 ss.length).1 hi
      omega
    · intro j hj k hkm
      have hj' : upd (fun j => listed.getD j false) i true j = true := by rw [← hupd]; exact hj
      show (fun j => (listed.setIfInBounds i true).getD j false) k = true
      rw [hupd]
      by_cases hki : k = i
      · rw [hki, upd_same]
      · rw [upd_ne _ _ hki]
        by_cases hji : j = i
        · rw [hji] at hkm
          exact hb' k hkm
        · rw [upd_ne _ _ hji] at hj'
          exact hD j hj' k hkm
    · rw [hupd]
      exact hat'

theorem dreg_ok (hcall : CallOk P call) (hm : P.follows .mixedOrders = true) {id : Nat} {ops : Array Oper} {ss : List IStmt} {bs : List (List Nat)} (hc : chkB P nt ops ss bs = true) {env env' : Env} {H H' : Heap} {tr : List (Env × Heap)}
    (htr : trS call ss ss env H = some tr) (hck : ∀ c ∈ cksOf ss bs, ckOk ss tr c) (hlast : tr.getLast? = some (env', H')) {ρ0 : RP} {H0 : Heap} {w0 : World} {ρ : RP} {a : Act} {w : World}
    (hat : At P nt ρ0 H0 w0 ρ env H a w) {Q : Exit → Act → World → Prop} (hk : ∀ a' w' ρ', At P nt ρ0 H0 w0 ρ' env' H' a' w' → Q .normal a' w') : (Code.region id ops true).wp P Q a w := by
  obtain ⟨t1, t2, t3⟩ := trS_spec htr
  obtain ⟨E, hE⟩ : ∃ E : Nat → Env, E = fun i => ((tr[i]?).getD (env, H)).1 := ⟨_, rfl⟩
  obtain ⟨Hf, hHf⟩ : ∃ Hf : Nat → Heap, Hf = fun i => ((tr[i]?).getD (env, H)).2 := ⟨_, rfl⟩
  have htrE : ∀ i, i ≤ ss.length → tr[i]? = some (E i, Hf i) := fun i hi => by
    have := List.getElem?_eq_getElem (show i < tr.length by omega)
    rw [hE, hHf]
    simp only []
    rw [this]
    rfl
  have hlen : ops.size = ss.length := by
    simp only [chkB, Bool.and_eq_true] at hc
    rw [← (chkL_get hc.1.1).1, Array.length_toList]
  have hl : env' = E ss.length ∧ H' = Hf ss.length := by
    have h1 := htrE ss.length (Nat.le_refl _)
    rw [List.getLast?_eq_getElem?, t1, Nat.add_sub_cancel, h1] at hlast
    obtain ⟨rfl, rfl⟩ := Prod.mk.inj (Option.some.inj hlast)
    exact ⟨rfl, rfl⟩
  have hnone : ∀ j, (Array.replicate ops.size false).getD j false = false := fun j => by
    rw [Array.getD_eq_getD_getElem?]
    cases h : (Array.replicate ops.size false)[j]? with
    | none => rfl
    | some b =>
      rw [Array.getElem?_replicate] at h
      split at h
      · cases h; rfl
      · cases h
  have hL0 : (fun j => (Array.replicate ops.size false).getD j false) = fun _ => false := funext hnone
  have he0 : ∀ k, eL ss E (fun _ => false) k = E 0 ∧ hL ss Hf (fun _ => false) k = Hf 0 := fun k => by
    induction k with
    | zero => exact ⟨rfl, rfl⟩
    | succ k ih =>
      constructor
      · funext t
        simp only [eL]
        split
        · rw [Bool.false_and, cond_false, ih.1]
        · rw [ih.1]
      · simp only [hL]
        split
        · rw [Bool.false_and, cond_false, ih.2]
        · rw [ih.2]
  have h00 : E 0 = env ∧ Hf 0 = H := by
    have := htrE 0 (Nat.zero_le _)
    rw [t2] at this
    obtain ⟨h1, h2⟩ := Prod.mk.inj (Option.some.inj this)
    exact ⟨h1.symm, h2.symm⟩
  refine wp_region_any hm (wpAny_ok hcall hc htrE (fun i s hs => ?_) hck (ρ0 := ρ0) (H0 := H0) (w0 := w0) (by rw [← hl.1, ← hl.2]; exact hk) ops.size _ ρ a _ (by simp [hlen]) ?_ (fun i hi => by rw [hnone] at hi; cases hi) ?_)
  · have hi := (List.getElem?_eq_some_iff.1 hs).1
    exact t3 i s _ _ hs (htrE i (by omega)) (htrE (i + 1) (by omega))
  · rw [hL0, hlen]
    have : ∀ n, unl (fun _ => false) n = n := fun n => by
      induction n with
      | zero => rfl
      | succ n ih => simp only [unl, ih, cond_false]
    rw [this]
    exact Nat.le_refl _
  · rw [hL0, (he0 _).1, (he0 _).2, h00.1, h00.2]
    exact ⟨hat.rel.drew _, hat.env, hat.size, hat.defers, hat.fr.trans (Fr.drew _ _ _ _)⟩

end
end Go.Proofs.Ytdkdifjjpbfohaa.Fw
