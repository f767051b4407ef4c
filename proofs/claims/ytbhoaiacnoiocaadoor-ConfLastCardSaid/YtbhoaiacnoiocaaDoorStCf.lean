/- StCf: structs as Lean structures, printed by structgen.py. -/
import Derived.Test.YtbhoaiacnoiocaaDoorFwC
namespace Go.Proofs.YtbhoaiacnoiocaaDoor
open Go Fw
set_option linter.unusedSimpArgs false
set_option linter.unusedVariables false
structure S_messuagelaw18_Last where
  Ahead : List UInt8
  Name : List UInt8
  Value : List UInt8
  More : Bool
deriving DecidableEq
def S_messuagelaw18_LastE : Enc S_messuagelaw18_Last where
  e s := [strV (s.Ahead), strV (s.Name), strV (s.Value), .bool (s.More)]
  u := 4
  d := 0
  hu _ := by rfl
  hp k s := by
    have key : ∀ m, 0 ≤ m → ([strV (s.Ahead), strV (s.Name), strV (s.Value), .bool (s.More)]).all (pureV m) = true := fun m hm => by
      simp [pure_int, pure_bool, pure_string, bltN, byteE_d, intE_d, boolE_d, strE_d, slE_d]
      try omega
    exact key _ (Nat.le_add_left _ _)
  ho s := by simp [oneC_int, oneC_bool, oneC_string, oneC_sl, Enc.ho]
theorem S_messuagelaw18_LastE_u : S_messuagelaw18_LastE.u = 4 := rfl
theorem S_messuagelaw18_LastE_d : S_messuagelaw18_LastE.d = 0 := rfl
theorem S_messuagelaw18_LastE_e {s : S_messuagelaw18_Last} : S_messuagelaw18_LastE.e s = [strV (s.Ahead), strV (s.Name), strV (s.Value), .bool (s.More)] := rfl
def S_messuagelaw18_Last.wf (s : S_messuagelaw18_Last) : Prop := (fun s => s.length ≤ maxLen) s.Ahead ∧ (fun s => s.length ≤ maxLen) s.Name ∧ (fun s => s.length ≤ maxLen) s.Value ∧ (fun _ => True) s.More
theorem opn_messuagelaw18_Last {H : Type} {P : Program} {enc : TypeId × Value → H} {W : World} {t : TypeId} {fs : Array Field} (ht : P.underlying t = some (.struct fs)) (hc : P.cellsOf t = 4)
    (h0 : FOpn P enc W fs 0 0 strE (fun s => s.length ≤ maxLen))
    (h1 : FOpn P enc W fs 1 1 strE (fun s => s.length ≤ maxLen))
    (h2 : FOpn P enc W fs 2 2 strE (fun s => s.length ≤ maxLen))
    (h3 : FOpn P enc W fs 3 3 boolE (fun _ => True))
    : Opn P enc W t S_messuagelaw18_LastE S_messuagelaw18_Last.wf := fun fuel cs x h => by
  have hl := opn_len ht h
  rw [hc] at hl
  obtain ⟨a0, w0, u0⟩ := opn_field ht h h0
  obtain ⟨a1, w1, u1⟩ := opn_field ht h h1
  obtain ⟨a2, w2, u2⟩ := opn_field ht h h2
  obtain ⟨a3, w3, u3⟩ := opn_field ht h h3
  refine ⟨⟨a0, a1, a2, a3⟩, ⟨w0, w1, w2, w3⟩, vrs_all ?_⟩
  exact (vrs_next u0 rfl (vrs_next u1 rfl (vrs_next u2 rfl (vrs_next u3 rfl (vrs_end hl)))))
end Go.Proofs.YtbhoaiacnoiocaaDoor
