-- PRINTED BY print.sh 35421559b90ae4d0a3588c463048766b98c2df88dd9212a6774a882060cdf62d: not written by this session
import Derived.Test.YtiekjbejgmdkkaaPNumTwicex0
import Derived.Test.YtiekjbejgmdkkaaPNumTwicex1
namespace Go.Proofs.Ytiekjbejgmdkkaa.PNumTwice
open Go.RowKit Go.Proofs.YtiekjbejgmdkkaaW.PrintWords Go.Proofs.YtiekjbejgmdkkaaW.PrintLast Go.Proofs.YtiekjbejgmdkkaaW.PrintMore
attribute [local go_sem] max2_int min2_int max_two min_two max_three min_three max_four min_four   -- for this text's walks alone
set_option linter.unusedVariables false
set_option linter.unusedSimpArgs false

/-! ### num_Down: function 18 -/
def num_Down.f (a0 : Int) (a1 : Int) : Option (Int × Int) := (num_Power.f a1).bind fun t120 => (if t120 = true then (some (Go.bits .andNot .u64 a0 (IntKind.u64.wrap (a1 - 1)), 0)) else (some (0, 11)))
set_option maxHeartbeats 8000000 in
set_option maxRecDepth 100000 in
theorem num_Down.calls (a0 : Int) (a1 : Int) (r1 : Int) (r2 : Int) (w : World) (h : num_Down.f a0 a1 = some (r1, r2)) :
    Calls Try.prog 18 #[.int .u64 a0, .int .u64 a1] w fun e w' => e = .returned (.tuple #[.int .u64 r1, .int .i64 r2]) ∧ Drawn0 w w' := by
  have H : ((num_Power.f a1).bind fun t120 => (if t120 = true then (some (Go.bits .andNot .u64 a0 (IntKind.u64.wrap (a1 - 1)), 0)) else (some (0, 11)))) = some (r1, r2) := h
  clear h
  replace H := Option.bind_eq_some_iff.mp H
  obtain ⟨t120, A30, H⟩ := H
  replace H : (if t120 = true then (some (Go.bits .andNot .u64 a0 (IntKind.u64.wrap (a1 - 1)), 0)) else (some (0, 11))) = some (r1, r2) := H
  have A3 := Aside0.mk A30
  clear A30
  by_cases c4 : t120 = true
  · subst c4
    have H1 : (some (Go.bits .andNot .u64 a0 (IntKind.u64.wrap (a1 - 1)), 0)) = some (r1, r2) := by rw [if_pos rfl] at H; exact H
    clear H
    have H := H1
    clear H1
    simp only [Option.some.injEq, Prod.mk.injEq] at H
    obtain ⟨rfl, rfl⟩ := H
    go_enter Try.func18, Try.ntmps18
    go_wp2_with (first | ((with_reducible refine gate_callee (f := 20) rfl ?_); refine goesL_ (some 7) rfl rfl Try.func20 (by kernel_rfl) rfl #[.int .u64 a1] rfl (by (try simp only [List.map_toArray, List.map_cons, List.map_nil]); first | done | rfl | (simp only [List.length_drop, List.length_take]; rfl)) ?_; (with_reducible refine (num_Power.calls a1 true _ A3.out).mono ?_); rintro e w' ⟨rfl, ⟨nd, rfl⟩⟩; refine ⟨_, rfl, ?_⟩))
    go_ret2
    exact ⟨by first | rfl | (simp; done) | (simp [*]; done), by repeat (first | exact Drawn0.refl _ | apply Drawn0.step)⟩
  · replace c4 := Bool.eq_false_iff.mpr c4
    subst c4
    have H1 : (some (0, 11)) = some (r1, r2) := by rw [if_neg (show ¬ (false = true) by decide)] at H; exact H
    clear H
    have H := H1
    clear H1
    simp only [Option.some.injEq, Prod.mk.injEq] at H
    obtain ⟨rfl, rfl⟩ := H
    go_enter Try.func18, Try.ntmps18
    go_wp2_with (first | ((with_reducible refine gate_callee (f := 20) rfl ?_); refine goesL_ (some 7) rfl rfl Try.func20 (by kernel_rfl) rfl #[.int .u64 a1] rfl (by (try simp only [List.map_toArray, List.map_cons, List.map_nil]); first | done | rfl | (simp only [List.length_drop, List.length_take]; rfl)) ?_; (with_reducible refine (num_Power.calls a1 false _ A3.out).mono ?_); rintro e w' ⟨rfl, ⟨nd, rfl⟩⟩; refine ⟨_, rfl, ?_⟩))
    go_ret2
    exact ⟨by first | rfl | (simp; done) | (simp [*]; done), by repeat (first | exact Drawn0.refl _ | apply Drawn0.step)⟩

/-! ### messuagelaw01_NumTwice: function 6 -/
mutual
def messuagelaw01_NumTwice.j0 : Nat → Int → Int → Int → Int → Int → Int → Int → Int → Int → Int → Int → Bool → Option (Bool)
  | 0, _, _, _, _, _, _, _, _, _, _, _, _ => none
  | k + 1, x0, x1, x2, x7, x8, x9, x10, x11, x12, x13, x14, x56 => if x56 = true then (if x8 = x12 then (if x8 = 11 then ((messuagelaw01_alive.f k).bind fun t129 => (some t129)) else (if x10 = x14 then (if x10 = 11 then ((messuagelaw01_alive.f k).bind fun t130 => (some t130)) else (some false)) else ((messuagelaw01_alive.f k).bind fun t131 => (some t131)))) else ((messuagelaw01_alive.f k).bind fun t132 => (some t132))) else (if x0 ≤ x1 then (if x7 > x9 then (messuagelaw01_NumTwice.j1 k x2 x7 true) else (messuagelaw01_NumTwice.j1 k x2 x7 (decide (x11 > x13)))) else (messuagelaw01_NumTwice.j1 k x2 x7 false))
def messuagelaw01_NumTwice.j1 : Nat → Int → Int → Bool → Option (Bool)
  | 0, _, _, _ => none
  | k + 1, x2, x7, x88 => if x88 = true then (some false) else ((num_Up.f x7 x2).bind fun bt133 => ((num_Down.f x7 x2).bind fun bt135 => (if bt133.2 = 0 then (if bt133.1 = x7 then (if bt135.2 = 0 then (if bt135.1 = x7 then ((messuagelaw01_alive.f k).bind fun t137 => (some t137)) else (some false)) else (some false)) else (some false)) else (some false))))
end
def messuagelaw01_NumTwice.f (k : Nat) (a0 : Int) (a1 : Int) (a2 : Int) : Option (Bool) := (num_Up.f a0 a2).bind fun bt121 => ((num_Up.f a1 a2).bind fun bt123 => ((num_Down.f a0 a2).bind fun bt125 => ((num_Down.f a1 a2).bind fun bt127 => (if bt121.2 = 0 then (if bt123.2 = 0 then (if bt125.2 = 0 then (messuagelaw01_NumTwice.j0 k a0 a1 a2 bt121.1 bt121.2 bt123.1 bt123.2 bt125.1 bt125.2 bt127.1 bt127.2 (bt127.2 != 0)) else (messuagelaw01_NumTwice.j0 k a0 a1 a2 bt121.1 bt121.2 bt123.1 bt123.2 bt125.1 bt125.2 bt127.1 bt127.2 true)) else (messuagelaw01_NumTwice.j0 k a0 a1 a2 bt121.1 bt121.2 bt123.1 bt123.2 bt125.1 bt125.2 bt127.1 bt127.2 true)) else (messuagelaw01_NumTwice.j0 k a0 a1 a2 bt121.1 bt121.2 bt123.1 bt123.2 bt125.1 bt125.2 bt127.1 bt127.2 true)))))
theorem messuagelaw01_NumTwice.mono_l : ∀ k, (∀ y0 y1 y2 y3 y4 y5 y6 y7 y8 y9 y10 y11, LeO (messuagelaw01_NumTwice.j0 k y0 y1 y2 y3 y4 y5 y6 y7 y8 y9 y10 y11) (messuagelaw01_NumTwice.j0 (k + 1) y0 y1 y2 y3 y4 y5 y6 y7 y8 y9 y10 y11)) ∧ (∀ y0 y1 y2, LeO (messuagelaw01_NumTwice.j1 k y0 y1 y2) (messuagelaw01_NumTwice.j1 (k + 1) y0 y1 y2))
  | 0 => ⟨fun _ _ _ _ _ _ _ _ _ _ _ _ r h => by simp [messuagelaw01_NumTwice.j0] at h, fun _ _ _ r h => by simp [messuagelaw01_NumTwice.j1] at h⟩
  | k + 1 => by
    obtain ⟨ih0, ih1⟩ := messuagelaw01_NumTwice.mono_l k
    refine ⟨?_, ?_⟩
    · intro y0 y1 y2 y3 y4 y5 y6 y7 y8 y9 y10 y11
      unfold messuagelaw01_NumTwice.j0
      repeat' first
      | (with_reducible exact ih0 _ _ _ _ _ _ _ _ _ _ _ _)
      | (with_reducible exact ih1 _ _ _)
      | (with_reducible exact messuagelaw01_alive.mono _)
      | (with_reducible exact LeO.refl _)
      | (with_reducible exact LeO.none _)
      | (with_reducible refine LeO.ite ?_ ?_)
      | (with_reducible refine LeO.bind ?_ (fun _ => ?_))
      | exact ih0 _ _ _ _ _ _ _ _ _ _ _ _
      | exact ih1 _ _ _
      | exact messuagelaw01_alive.mono _
      | exact LeO.none _
      | refine LeO.ite ?_ ?_
      | refine LeO.bind ?_ (fun _ => ?_)
    · intro y0 y1 y2
      unfold messuagelaw01_NumTwice.j1
      repeat' first
      | (with_reducible exact ih0 _ _ _ _ _ _ _ _ _ _ _ _)
      | (with_reducible exact ih1 _ _ _)
      | (with_reducible exact messuagelaw01_alive.mono _)
      | (with_reducible exact LeO.refl _)
      | (with_reducible exact LeO.none _)
      | (with_reducible refine LeO.ite ?_ ?_)
      | (with_reducible refine LeO.bind ?_ (fun _ => ?_))
      | exact ih0 _ _ _ _ _ _ _ _ _ _ _ _
      | exact ih1 _ _ _
      | exact messuagelaw01_alive.mono _
      | exact LeO.none _
      | refine LeO.ite ?_ ?_
      | refine LeO.bind ?_ (fun _ => ?_)
theorem messuagelaw01_NumTwice.mono : ∀ a0 a1 a2 k, LeO (messuagelaw01_NumTwice.f k a0 a1 a2) (messuagelaw01_NumTwice.f (k + 1) a0 a1 a2) := by
  intro a0 a1 a2 k
  obtain ⟨ih0, ih1⟩ := messuagelaw01_NumTwice.mono_l k
  unfold messuagelaw01_NumTwice.f
  repeat' first
      | (with_reducible exact ih0 _ _ _ _ _ _ _ _ _ _ _ _)
      | (with_reducible exact ih1 _ _ _)
      | (with_reducible exact messuagelaw01_alive.mono _)
      | (with_reducible exact LeO.refl _)
      | (with_reducible exact LeO.none _)
      | (with_reducible refine LeO.ite ?_ ?_)
      | (with_reducible refine LeO.bind ?_ (fun _ => ?_))
      | exact ih0 _ _ _ _ _ _ _ _ _ _ _ _
      | exact ih1 _ _ _
      | exact messuagelaw01_alive.mono _
      | exact LeO.none _
      | refine LeO.ite ?_ ?_
      | refine LeO.bind ?_ (fun _ => ?_)
set_option maxHeartbeats 8000000 in
set_option maxRecDepth 100000 in
theorem messuagelaw01_NumTwice.calls (k : Nat) (a0 : Int) (a1 : Int) (a2 : Int) (r : Bool) (w : World) (h : messuagelaw01_NumTwice.f k a0 a1 a2 = some r) :
    Calls Try.prog 6 #[.int .u64 a0, .int .u64 a1, .int .u64 a2] w fun e w' => e = .returned (.bool r) ∧ Below w.heap.size w w' := by
  have HB := Aside0.mk (Below.refl w.heap.size w)
  have H : ((num_Up.f a0 a2).bind fun bt121 => ((num_Up.f a1 a2).bind fun bt123 => ((num_Down.f a0 a2).bind fun bt125 => ((num_Down.f a1 a2).bind fun bt127 => (if bt121.2 = 0 then (if bt123.2 = 0 then (if bt125.2 = 0 then (messuagelaw01_NumTwice.j0 k a0 a1 a2 bt121.1 bt121.2 bt123.1 bt123.2 bt125.1 bt125.2 bt127.1 bt127.2 (bt127.2 != 0)) else (messuagelaw01_NumTwice.j0 k a0 a1 a2 bt121.1 bt121.2 bt123.1 bt123.2 bt125.1 bt125.2 bt127.1 bt127.2 true)) else (messuagelaw01_NumTwice.j0 k a0 a1 a2 bt121.1 bt121.2 bt123.1 bt123.2 bt125.1 bt125.2 bt127.1 bt127.2 true)) else (messuagelaw01_NumTwice.j0 k a0 a1 a2 bt121.1 bt121.2 bt123.1 bt123.2 bt125.1 bt125.2 bt127.1 bt127.2 true)))))) = some r := h
  clear h
  replace H := Option.bind_eq_some_iff.mp H
  obtain ⟨⟨t121, t122⟩, A40, H⟩ := H
  replace H : ((num_Up.f a1 a2).bind fun bt123 => ((num_Down.f a0 a2).bind fun bt125 => ((num_Down.f a1 a2).bind fun bt127 => (if t122 = 0 then (if bt123.2 = 0 then (if bt125.2 = 0 then (messuagelaw01_NumTwice.j0 k a0 a1 a2 t121 t122 bt123.1 bt123.2 bt125.1 bt125.2 bt127.1 bt127.2 (bt127.2 != 0)) else (messuagelaw01_NumTwice.j0 k a0 a1 a2 t121 t122 bt123.1 bt123.2 bt125.1 bt125.2 bt127.1 bt127.2 true)) else (messuagelaw01_NumTwice.j0 k a0 a1 a2 t121 t122 bt123.1 bt123.2 bt125.1 bt125.2 bt127.1 bt127.2 true)) else (messuagelaw01_NumTwice.j0 k a0 a1 a2 t121 t122 bt123.1 bt123.2 bt125.1 bt125.2 bt127.1 bt127.2 true))))) = some r := H
  have A4 := Aside0.mk A40
  clear A40
  replace H := Option.bind_eq_some_iff.mp H
  obtain ⟨⟨t123, t124⟩, A50, H⟩ := H
  replace H : ((num_Down.f a0 a2).bind fun bt125 => ((num_Down.f a1 a2).bind fun bt127 => (if t122 = 0 then (if t124 = 0 then (if bt125.2 = 0 then (messuagelaw01_NumTwice.j0 k a0 a1 a2 t121 t122 t123 t124 bt125.1 bt125.2 bt127.1 bt127.2 (bt127.2 != 0)) else (messuagelaw01_NumTwice.j0 k a0 a1 a2 t121 t122 t123 t124 bt125.1 bt125.2 bt127.1 bt127.2 true)) else (messuagelaw01_NumTwice.j0 k a0 a1 a2 t121 t122 t123 t124 bt125.1 bt125.2 bt127.1 bt127.2 true)) else (messuagelaw01_NumTwice.j0 k a0 a1 a2 t121 t122 t123 t124 bt125.1 bt125.2 bt127.1 bt127.2 true)))) = some r := H
  have A5 := Aside0.mk A50
  clear A50
  replace H := Option.bind_eq_some_iff.mp H
  obtain ⟨⟨t125, t126⟩, A60, H⟩ := H
  replace H : ((num_Down.f a1 a2).bind fun bt127 => (if t122 = 0 then (if t124 = 0 then (if t126 = 0 then (messuagelaw01_NumTwice.j0 k a0 a1 a2 t121 t122 t123 t124 t125 t126 bt127.1 bt127.2 (bt127.2 != 0)) else (messuagelaw01_NumTwice.j0 k a0 a1 a2 t121 t122 t123 t124 t125 t126 bt127.1 bt127.2 true)) else (messuagelaw01_NumTwice.j0 k a0 a1 a2 t121 t122 t123 t124 t125 t126 bt127.1 bt127.2 true)) else (messuagelaw01_NumTwice.j0 k a0 a1 a2 t121 t122 t123 t124 t125 t126 bt127.1 bt127.2 true))) = some r := H
  have A6 := Aside0.mk A60
  clear A60
  replace H := Option.bind_eq_some_iff.mp H
  obtain ⟨⟨t127, t128⟩, A70, H⟩ := H
  replace H : (if t122 = 0 then (if t124 = 0 then (if t126 = 0 then (messuagelaw01_NumTwice.j0 k a0 a1 a2 t121 t122 t123 t124 t125 t126 t127 t128 (t128 != 0)) else (messuagelaw01_NumTwice.j0 k a0 a1 a2 t121 t122 t123 t124 t125 t126 t127 t128 true)) else (messuagelaw01_NumTwice.j0 k a0 a1 a2 t121 t122 t123 t124 t125 t126 t127 t128 true)) else (messuagelaw01_NumTwice.j0 k a0 a1 a2 t121 t122 t123 t124 t125 t126 t127 t128 true)) = some r := H
  have A7 := Aside0.mk A70
  clear A70
  have HC8 := Aside0.mk H
  clear H
  go_enter Try.func6, Try.ntmps6
  go_upto_region 5 with (first | ((with_reducible refine gate_callee (f := 19) rfl ?_); refine goesL_ (some 22) rfl rfl Try.func19 (by kernel_rfl) rfl #[.int .u64 a0, .int .u64 a2] rfl (by (try simp only [List.map_toArray, List.map_cons, List.map_nil]); first | done | rfl | (simp only [List.length_drop, List.length_take]; rfl)) ?_; (with_reducible refine (num_Up.calls a0 a2 t121 t122 _ A4.out).mono ?_); rintro e w' ⟨rfl, ⟨nd, rfl⟩⟩; refine ⟨_, rfl, ?_⟩) | ((with_reducible refine gate_callee (f := 19) rfl ?_); refine goesL_ (some 28) rfl rfl Try.func19 (by kernel_rfl) rfl #[.int .u64 a1, .int .u64 a2] rfl (by (try simp only [List.map_toArray, List.map_cons, List.map_nil]); first | done | rfl | (simp only [List.length_drop, List.length_take]; rfl)) ?_; (with_reducible refine (num_Up.calls a1 a2 t123 t124 _ A5.out).mono ?_); rintro e w' ⟨rfl, ⟨nd, rfl⟩⟩; refine ⟨_, rfl, ?_⟩) | ((with_reducible refine gate_callee (f := 18) rfl ?_); refine goesL_ (some 34) rfl rfl Try.func18 (by kernel_rfl) rfl #[.int .u64 a0, .int .u64 a2] rfl (by (try simp only [List.map_toArray, List.map_cons, List.map_nil]); first | done | rfl | (simp only [List.length_drop, List.length_take]; rfl)) ?_; (with_reducible refine (num_Down.calls a0 a2 t125 t126 _ A6.out).mono ?_); rintro e w' ⟨rfl, ⟨nd, rfl⟩⟩; refine ⟨_, rfl, ?_⟩) | ((with_reducible refine gate_callee (f := 18) rfl ?_); refine goesL_ (some 40) rfl rfl Try.func18 (by kernel_rfl) rfl #[.int .u64 a1, .int .u64 a2] rfl (by (try simp only [List.map_toArray, List.map_cons, List.map_nil]); first | done | rfl | (simp only [List.length_drop, List.length_take]; rfl)) ?_; (with_reducible refine (num_Down.calls a1 a2 t127 t128 _ A7.out).mono ?_); rintro e w' ⟨rfl, ⟨nd, rfl⟩⟩; refine ⟨_, rfl, ?_⟩))
  (try simp only [Act.put, List.setIfInBounds_toArray, List.set_cons_zero, List.set_cons_succ])
  go_cut [56] (fun v56 wc => ∃ (kq : Nat) (x56_7 : Bool), v56 = .bool x56_7 ∧ Aside0 (messuagelaw01_NumTwice.j0 kq a0 a1 a2 t121 t122 t123 t124 t125 t126 t127 t128 x56_7 = some r) ∧ Aside0 (kq ≤ k) ∧ Aside0 (Below w.heap.size w wc))
  case first =>
    have H := HC8.out
    clear HC8
    by_cases c9 : t122 = 0
    · rw [if_pos c9] at H
      have c9b0 : (t122 == 0) = true := beq_iff_eq.mpr c9
      have c9b1 : (t122 != 0) = false := bne_eq_false_iff_eq.mpr c9
      clear c9
      (first | rw [c9b0] | (simp only [i64_w, i32_w]; rw [c9b0]) | skip)
      by_cases c10 : t124 = 0
      · rw [if_pos c10] at H
        have c10b0 : (t124 == 0) = true := beq_iff_eq.mpr c10
        have c10b1 : (t124 != 0) = false := bne_eq_false_iff_eq.mpr c10
        clear c10
        by_cases c11 : t126 = 0
        · rw [if_pos c11] at H
          have c11b0 : (t126 == 0) = true := beq_iff_eq.mpr c11
          have c11b1 : (t126 != 0) = false := bne_eq_false_iff_eq.mpr c11
          clear c11
          have H' := Aside0.mk H
          clear H
          go_wp2
          go_meet
          case rel => exact ⟨_, ((t128 != 0)), (by first | rfl | (simp; done) | (simp [*]; done)), H', ⟨by first | omega | exact Nat.le_refl _⟩, ⟨by repeat (first | (with_reducible first | exact HB.out | apply below_alloc | apply pw_below_drewN | apply below_drew1) | exact HB.out)⟩⟩
        · rw [if_neg c11] at H
          have c11b0 : (t126 == 0) = false := beq_eq_false_iff_ne.mpr c11
          have c11b1 : (t126 != 0) = true := bne_iff_ne.mpr c11
          have H' := Aside0.mk H
          clear H
          go_wp2
          go_meet
          case rel => exact ⟨_, (true), (by first | rfl | (simp; done) | (simp [*]; done)), H', ⟨by first | omega | exact Nat.le_refl _⟩, ⟨by repeat (first | (with_reducible first | exact HB.out | apply below_alloc | apply pw_below_drewN | apply below_drew1) | exact HB.out)⟩⟩
      · rw [if_neg c10] at H
        have c10b0 : (t124 == 0) = false := beq_eq_false_iff_ne.mpr c10
        have c10b1 : (t124 != 0) = true := bne_iff_ne.mpr c10
        have H' := Aside0.mk H
        clear H
        go_wp2
        go_meet
        case rel => exact ⟨_, (true), (by first | rfl | (simp; done) | (simp [*]; done)), H', ⟨by first | omega | exact Nat.le_refl _⟩, ⟨by repeat (first | (with_reducible first | exact HB.out | apply below_alloc | apply pw_below_drewN | apply below_drew1) | exact HB.out)⟩⟩
    · rw [if_neg c9] at H
      have c9b0 : (t122 == 0) = false := beq_eq_false_iff_ne.mpr c9
      have c9b1 : (t122 != 0) = true := bne_iff_ne.mpr c9
      (first | rw [c9b0] | (simp only [i64_w, i32_w]; rw [c9b0]) | skip)
      have H' := Aside0.mk H
      clear H
      go_wp2
      go_meet
      case rel => exact ⟨_, (true), (by first | rfl | (simp; done) | (simp [*]; done)), H', ⟨by first | omega | exact Nat.le_refl _⟩, ⟨by repeat (first | (with_reducible first | exact HB.out | apply below_alloc | apply pw_below_drewN | apply below_drew1) | exact HB.out)⟩⟩
  case rest =>
    clear HC8
    try clear c1
    try clear p2
    try clear c6
    try clear c9
    try clear c9b0
    try clear c9b1
    try clear c10
    try clear c10b0
    try clear c10b1
    try clear c11
    try clear c11b0
    try clear c11b1
    obtain ⟨kq, x56_7, rfl, HA, HJ7, HB⟩ := hcut
    cases kq with
    | zero => exact absurd HA.out (by simp [messuagelaw01_NumTwice.j0])
    | succ kj7 =>
      have H := HA.out
      clear HA
      simp only [messuagelaw01_NumTwice.j0] at H
      by_cases c12 : x56_7 = true
      · subst c12
        have H1 : (if t122 = t126 then (if t122 = 11 then ((messuagelaw01_alive.f kj7).bind fun t129 => (some t129)) else (if t124 = t128 then (if t124 = 11 then ((messuagelaw01_alive.f kj7).bind fun t130 => (some t130)) else (some false)) else ((messuagelaw01_alive.f kj7).bind fun t131 => (some t131)))) else ((messuagelaw01_alive.f kj7).bind fun t132 => (some t132))) = some r := by rw [if_pos rfl] at H; exact H
        clear H
        have H := H1
        clear H1
        by_cases c13 : t122 = t126
        · rw [if_pos c13] at H
          have c13b0 : (t122 == t126) = true := beq_iff_eq.mpr c13
          have c13b1 : (t122 != t126) = false := bne_eq_false_iff_eq.mpr c13
          clear c13
          by_cases c14 : t122 = 11
          · rw [if_pos c14] at H
            have c14b0 : (t122 == 11) = true := beq_iff_eq.mpr c14
            have c14b1 : (t122 != 11) = false := bne_eq_false_iff_eq.mpr c14
            clear c14
            replace H := Option.bind_eq_some_iff.mp H
            obtain ⟨t129, A150, H⟩ := H
            replace H : (some t129) = some r := H
            have A15 := Aside0.mk A150
            clear A150
            obtain rfl := Option.some.inj H
            go_wp2_with (first | (go_at_call 12; (with_reducible refine (messuagelaw01_alive.calls kj7  t129 _ A15.out).mono ?_); rintro e w16 ⟨rfl, hb⟩; have n0_ := Aside0.mk (below_step (by repeat (first | (with_reducible first | exact HB.out | apply below_alloc | apply pw_below_drewN | apply below_drew1) | exact HB.out)) hb); clear HB; have HB := n0_; clear n0_; (try clear hb); (try clear hb2); (try clear hk); (try clear hi)))
            go_ret
            exact ⟨by first | rfl | (simp [errW_none, errW_some] <;> rfl) | (simp [*, errW_none, errW_some] <;> rfl), by repeat (first | (with_reducible first | exact HB.out | apply below_alloc | apply pw_below_drewN | apply below_drew1) | exact HB.out)⟩
          · rw [if_neg c14] at H
            have c14b0 : (t122 == 11) = false := beq_eq_false_iff_ne.mpr c14
            have c14b1 : (t122 != 11) = true := bne_iff_ne.mpr c14
            by_cases c17 : t124 = t128
            · rw [if_pos c17] at H
              have c17b0 : (t124 == t128) = true := beq_iff_eq.mpr c17
              have c17b1 : (t124 != t128) = false := bne_eq_false_iff_eq.mpr c17
              clear c17
              by_cases c18 : t124 = 11
              · rw [if_pos c18] at H
                have c18b0 : (t124 == 11) = true := beq_iff_eq.mpr c18
                have c18b1 : (t124 != 11) = false := bne_eq_false_iff_eq.mpr c18
                clear c18
                replace H := Option.bind_eq_some_iff.mp H
                obtain ⟨t130, A190, H⟩ := H
                replace H : (some t130) = some r := H
                have A19 := Aside0.mk A190
                clear A190
                obtain rfl := Option.some.inj H
                go_wp2_with (first | (go_at_call 12; (with_reducible refine (messuagelaw01_alive.calls kj7  t130 _ A19.out).mono ?_); rintro e w20 ⟨rfl, hb⟩; have n0_ := Aside0.mk (below_step (by repeat (first | (with_reducible first | exact HB.out | apply below_alloc | apply pw_below_drewN | apply below_drew1) | exact HB.out)) hb); clear HB; have HB := n0_; clear n0_; (try clear hb); (try clear hb2); (try clear hk); (try clear hi)))
                go_ret
                exact ⟨by first | rfl | (simp [errW_none, errW_some] <;> rfl) | (simp [*, errW_none, errW_some] <;> rfl), by repeat (first | (with_reducible first | exact HB.out | apply below_alloc | apply pw_below_drewN | apply below_drew1) | exact HB.out)⟩
              · rw [if_neg c18] at H
                have c18b0 : (t124 == 11) = false := beq_eq_false_iff_ne.mpr c18
                have c18b1 : (t124 != 11) = true := bne_iff_ne.mpr c18
                obtain rfl := Option.some.inj H
                go_wp2
                go_ret
                exact ⟨by first | rfl | (simp [errW_none, errW_some] <;> rfl) | (simp [*, errW_none, errW_some] <;> rfl), by repeat (first | (with_reducible first | exact HB.out | apply below_alloc | apply pw_below_drewN | apply below_drew1) | exact HB.out)⟩
            · rw [if_neg c17] at H
              have c17b0 : (t124 == t128) = false := beq_eq_false_iff_ne.mpr c17
              have c17b1 : (t124 != t128) = true := bne_iff_ne.mpr c17
              replace H := Option.bind_eq_some_iff.mp H
              obtain ⟨t131, A210, H⟩ := H
              replace H : (some t131) = some r := H
              have A21 := Aside0.mk A210
              clear A210
              obtain rfl := Option.some.inj H
              go_wp2_with (first | (go_at_call 12; (with_reducible refine (messuagelaw01_alive.calls kj7  t131 _ A21.out).mono ?_); rintro e w22 ⟨rfl, hb⟩; have n0_ := Aside0.mk (below_step (by repeat (first | (with_reducible first | exact HB.out | apply below_alloc | apply pw_below_drewN | apply below_drew1) | exact HB.out)) hb); clear HB; have HB := n0_; clear n0_; (try clear hb); (try clear hb2); (try clear hk); (try clear hi)))
              go_ret
              exact ⟨by first | rfl | (simp [errW_none, errW_some] <;> rfl) | (simp [*, errW_none, errW_some] <;> rfl), by repeat (first | (with_reducible first | exact HB.out | apply below_alloc | apply pw_below_drewN | apply below_drew1) | exact HB.out)⟩
        · rw [if_neg c13] at H
          have c13b0 : (t122 == t126) = false := beq_eq_false_iff_ne.mpr c13
          have c13b1 : (t122 != t126) = true := bne_iff_ne.mpr c13
          replace H := Option.bind_eq_some_iff.mp H
          obtain ⟨t132, A230, H⟩ := H
          replace H : (some t132) = some r := H
          have A23 := Aside0.mk A230
          clear A230
          obtain rfl := Option.some.inj H
          go_wp2_with (first | (go_at_call 12; (with_reducible refine (messuagelaw01_alive.calls kj7  t132 _ A23.out).mono ?_); rintro e w24 ⟨rfl, hb⟩; have n0_ := Aside0.mk (below_step (by repeat (first | (with_reducible first | exact HB.out | apply below_alloc | apply pw_below_drewN | apply below_drew1) | exact HB.out)) hb); clear HB; have HB := n0_; clear n0_; (try clear hb); (try clear hb2); (try clear hk); (try clear hi)))
          go_ret
          exact ⟨by first | rfl | (simp [errW_none, errW_some] <;> rfl) | (simp [*, errW_none, errW_some] <;> rfl), by repeat (first | (with_reducible first | exact HB.out | apply below_alloc | apply pw_below_drewN | apply below_drew1) | exact HB.out)⟩
      · replace c12 := Bool.eq_false_iff.mpr c12
        subst c12
        have H1 : (if a0 ≤ a1 then (if t121 > t123 then (messuagelaw01_NumTwice.j1 kj7 a2 t121 true) else (messuagelaw01_NumTwice.j1 kj7 a2 t121 (decide (t125 > t127)))) else (messuagelaw01_NumTwice.j1 kj7 a2 t121 false)) = some r := by rw [if_neg (show ¬ (false = true) by decide)] at H; exact H
        clear H
        have H := H1
        clear H1
        have HC25 := Aside0.mk H
        clear H
        go_upto_region 7 with (fail)
        go_cut [88] (fun v88 wc => ∃ (kq : Nat) (x88_24 : Bool), v88 = .bool x88_24 ∧ Aside0 (messuagelaw01_NumTwice.j1 kq a2 t121 x88_24 = some r) ∧ Aside0 (kq ≤ kj7) ∧ Aside0 (Below w.heap.size w wc))
        case first =>
          have H := HC25.out
          clear HC25
          by_cases c26 : a0 ≤ a1
          · rw [if_pos c26] at H
            have c26b0 : decide (a0 ≤ a1) = true := decide_eq_true c26
            clear c26
            (first | rw [c26b0] | (simp only [i64_w, i32_w]; rw [c26b0]) | skip)
            by_cases c27 : t121 > t123
            · rw [if_pos c27] at H
              have c27b0 : decide (t123 < t121) = true := decide_eq_true c27
              clear c27
              have H' := Aside0.mk H
              clear H
              go_wp2
              go_meet
              case rel => exact ⟨_, (true), (by first | rfl | (simp; done) | (simp [*]; done)), H', ⟨by have := HJ7.out; first | omega | exact Nat.le_refl _⟩, ⟨by repeat (first | (with_reducible first | exact HB.out | apply below_alloc | apply pw_below_drewN | apply below_drew1) | exact HB.out)⟩⟩
            · rw [if_neg c27] at H
              have c27b0 : decide (t123 < t121) = false := decide_eq_false c27
              clear c27
              have H' := Aside0.mk H
              clear H
              go_wp2
              go_meet
              case rel => exact ⟨_, (decide (t125 > t127)), (by first | rfl | (simp; done) | (simp [*]; done)), H', ⟨by have := HJ7.out; first | omega | exact Nat.le_refl _⟩, ⟨by repeat (first | (with_reducible first | exact HB.out | apply below_alloc | apply pw_below_drewN | apply below_drew1) | exact HB.out)⟩⟩
          · rw [if_neg c26] at H
            have c26b0 : decide (a0 ≤ a1) = false := decide_eq_false c26
            clear c26
            (first | rw [c26b0] | (simp only [i64_w, i32_w]; rw [c26b0]) | skip)
            have H' := Aside0.mk H
            clear H
            go_wp2
            go_meet
            case rel => exact ⟨_, (false), (by first | rfl | (simp; done) | (simp [*]; done)), H', ⟨by have := HJ7.out; first | omega | exact Nat.le_refl _⟩, ⟨by repeat (first | (with_reducible first | exact HB.out | apply below_alloc | apply pw_below_drewN | apply below_drew1) | exact HB.out)⟩⟩
        case rest =>
          clear HC25
          try clear c1
          try clear c2
          try clear p2
          try clear c6
          try clear c9
          try clear c9b0
          try clear c9b1
          try clear c10
          try clear c10b0
          try clear c10b1
          try clear c11
          try clear c11b0
          try clear c11b1
          try clear c12
          try clear c13
          try clear c13b0
          try clear c13b1
          try clear c14
          try clear c14b0
          try clear c14b1
          try clear c17
          try clear c17b0
          try clear c17b1
          try clear c18
          try clear c18b0
          try clear c18b1
          try clear c19
          try clear c26
          try clear c26b0
          try clear c27
          try clear c27b0
          try clear p2
          obtain ⟨kq, x88_24, rfl, HA, HJ24, HB⟩ := hcut
          cases kq with
          | zero => exact absurd HA.out (by simp [messuagelaw01_NumTwice.j1])
          | succ kj24 =>
            have H := HA.out
            clear HA
            simp only [messuagelaw01_NumTwice.j1] at H
            by_cases c28 : x88_24 = true
            · subst c28
              have H1 : (some false) = some r := by rw [if_pos rfl] at H; exact H
              clear H
              have H := H1
              clear H1
              obtain rfl := Option.some.inj H
              go_wp2
              go_ret
              exact ⟨by first | rfl | (simp [errW_none, errW_some] <;> rfl) | (simp [*, errW_none, errW_some] <;> rfl), by repeat (first | (with_reducible first | exact HB.out | apply below_alloc | apply pw_below_drewN | apply below_drew1) | exact HB.out)⟩
            · replace c28 := Bool.eq_false_iff.mpr c28
              subst c28
              have H1 : ((num_Up.f t121 a2).bind fun bt133 => ((num_Down.f t121 a2).bind fun bt135 => (if bt133.2 = 0 then (if bt133.1 = t121 then (if bt135.2 = 0 then (if bt135.1 = t121 then ((messuagelaw01_alive.f kj24).bind fun t137 => (some t137)) else (some false)) else (some false)) else (some false)) else (some false)))) = some r := by rw [if_neg (show ¬ (false = true) by decide)] at H; exact H
              clear H
              have H := H1
              clear H1
              replace H := Option.bind_eq_some_iff.mp H
              obtain ⟨⟨t133, t134⟩, A290, H⟩ := H
              replace H : ((num_Down.f t121 a2).bind fun bt135 => (if t134 = 0 then (if t133 = t121 then (if bt135.2 = 0 then (if bt135.1 = t121 then ((messuagelaw01_alive.f kj24).bind fun t137 => (some t137)) else (some false)) else (some false)) else (some false)) else (some false))) = some r := H
              have A29 := Aside0.mk A290
              clear A290
              replace H := Option.bind_eq_some_iff.mp H
              obtain ⟨⟨t135, t136⟩, A300, H⟩ := H
              replace H : (if t134 = 0 then (if t133 = t121 then (if t136 = 0 then (if t135 = t121 then ((messuagelaw01_alive.f kj24).bind fun t137 => (some t137)) else (some false)) else (some false)) else (some false)) else (some false)) = some r := H
              have A30 := Aside0.mk A300
              clear A300
              by_cases c31 : t134 = 0
              · rw [if_pos c31] at H
                have c31b0 : (t134 == 0) = true := beq_iff_eq.mpr c31
                have c31b1 : (t134 != 0) = false := bne_eq_false_iff_eq.mpr c31
                clear c31
                by_cases c32 : t133 = t121
                · rw [if_pos c32] at H
                  have c32b0 : (t133 == t121) = true := beq_iff_eq.mpr c32
                  have c32b1 : (t133 != t121) = false := bne_eq_false_iff_eq.mpr c32
                  clear c32
                  by_cases c33 : t136 = 0
                  · rw [if_pos c33] at H
                    have c33b0 : (t136 == 0) = true := beq_iff_eq.mpr c33
                    have c33b1 : (t136 != 0) = false := bne_eq_false_iff_eq.mpr c33
                    clear c33
                    by_cases c34 : t135 = t121
                    · rw [if_pos c34] at H
                      have c34b0 : (t135 == t121) = true := beq_iff_eq.mpr c34
                      have c34b1 : (t135 != t121) = false := bne_eq_false_iff_eq.mpr c34
                      clear c34
                      replace H := Option.bind_eq_some_iff.mp H
                      obtain ⟨t137, A350, H⟩ := H
                      replace H : (some t137) = some r := H
                      have A35 := Aside0.mk A350
                      clear A350
                      obtain rfl := Option.some.inj H
                      go_wp2_with (first | ((with_reducible refine gate_callee (f := 19) rfl ?_); refine goesL_ (some 92) rfl rfl Try.func19 (by kernel_rfl) rfl #[.int .u64 t121, .int .u64 a2] rfl (by (try simp only [List.map_toArray, List.map_cons, List.map_nil]); first | done | rfl | (simp only [List.length_drop, List.length_take]; rfl)) ?_; (with_reducible refine (num_Up.calls t121 a2 t133 t134 _ A29.out).mono ?_); rintro e w' ⟨rfl, ⟨nd, rfl⟩⟩; refine ⟨_, rfl, ?_⟩) | ((with_reducible refine gate_callee (f := 18) rfl ?_); refine goesL_ (some 98) rfl rfl Try.func18 (by kernel_rfl) rfl #[.int .u64 t121, .int .u64 a2] rfl (by (try simp only [List.map_toArray, List.map_cons, List.map_nil]); first | done | rfl | (simp only [List.length_drop, List.length_take]; rfl)) ?_; (with_reducible refine (num_Down.calls t121 a2 t135 t136 _ A30.out).mono ?_); rintro e w' ⟨rfl, ⟨nd, rfl⟩⟩; refine ⟨_, rfl, ?_⟩) | (go_at_call 12; (with_reducible refine (messuagelaw01_alive.calls kj24  t137 _ A35.out).mono ?_); rintro e w36 ⟨rfl, hb⟩; have n0_ := Aside0.mk (below_step (by repeat (first | (with_reducible first | exact HB.out | apply below_alloc | apply pw_below_drewN | apply below_drew1) | exact HB.out)) hb); clear HB; have HB := n0_; clear n0_; (try clear hb); (try clear hb2); (try clear hk); (try clear hi)))
                      go_ret
                      exact ⟨by first | rfl | (simp [errW_none, errW_some] <;> rfl) | (simp [*, errW_none, errW_some] <;> rfl), by repeat (first | (with_reducible first | exact HB.out | apply below_alloc | apply pw_below_drewN | apply below_drew1) | exact HB.out)⟩
                    · rw [if_neg c34] at H
                      have c34b0 : (t135 == t121) = false := beq_eq_false_iff_ne.mpr c34
                      have c34b1 : (t135 != t121) = true := bne_iff_ne.mpr c34
                      obtain rfl := Option.some.inj H
                      go_wp2_with (first | ((with_reducible refine gate_callee (f := 19) rfl ?_); refine goesL_ (some 92) rfl rfl Try.func19 (by kernel_rfl) rfl #[.int .u64 t121, .int .u64 a2] rfl (by (try simp only [List.map_toArray, List.map_cons, List.map_nil]); first | done | rfl | (simp only [List.length_drop, List.length_take]; rfl)) ?_; (with_reducible refine (num_Up.calls t121 a2 t133 t134 _ A29.out).mono ?_); rintro e w' ⟨rfl, ⟨nd, rfl⟩⟩; refine ⟨_, rfl, ?_⟩) | ((with_reducible refine gate_callee (f := 18) rfl ?_); refine goesL_ (some 98) rfl rfl Try.func18 (by kernel_rfl) rfl #[.int .u64 t121, .int .u64 a2] rfl (by (try simp only [List.map_toArray, List.map_cons, List.map_nil]); first | done | rfl | (simp only [List.length_drop, List.length_take]; rfl)) ?_; (with_reducible refine (num_Down.calls t121 a2 t135 t136 _ A30.out).mono ?_); rintro e w' ⟨rfl, ⟨nd, rfl⟩⟩; refine ⟨_, rfl, ?_⟩))
                      go_ret
                      exact ⟨by first | rfl | (simp [errW_none, errW_some] <;> rfl) | (simp [*, errW_none, errW_some] <;> rfl), by repeat (first | (with_reducible first | exact HB.out | apply below_alloc | apply pw_below_drewN | apply below_drew1) | exact HB.out)⟩
                  · rw [if_neg c33] at H
                    have c33b0 : (t136 == 0) = false := beq_eq_false_iff_ne.mpr c33
                    have c33b1 : (t136 != 0) = true := bne_iff_ne.mpr c33
                    obtain rfl := Option.some.inj H
                    go_wp2_with (first | ((with_reducible refine gate_callee (f := 19) rfl ?_); refine goesL_ (some 92) rfl rfl Try.func19 (by kernel_rfl) rfl #[.int .u64 t121, .int .u64 a2] rfl (by (try simp only [List.map_toArray, List.map_cons, List.map_nil]); first | done | rfl | (simp only [List.length_drop, List.length_take]; rfl)) ?_; (with_reducible refine (num_Up.calls t121 a2 t133 t134 _ A29.out).mono ?_); rintro e w' ⟨rfl, ⟨nd, rfl⟩⟩; refine ⟨_, rfl, ?_⟩) | ((with_reducible refine gate_callee (f := 18) rfl ?_); refine goesL_ (some 98) rfl rfl Try.func18 (by kernel_rfl) rfl #[.int .u64 t121, .int .u64 a2] rfl (by (try simp only [List.map_toArray, List.map_cons, List.map_nil]); first | done | rfl | (simp only [List.length_drop, List.length_take]; rfl)) ?_; (with_reducible refine (num_Down.calls t121 a2 t135 t136 _ A30.out).mono ?_); rintro e w' ⟨rfl, ⟨nd, rfl⟩⟩; refine ⟨_, rfl, ?_⟩))
                    go_ret
                    exact ⟨by first | rfl | (simp [errW_none, errW_some] <;> rfl) | (simp [*, errW_none, errW_some] <;> rfl), by repeat (first | (with_reducible first | exact HB.out | apply below_alloc | apply pw_below_drewN | apply below_drew1) | exact HB.out)⟩
                · rw [if_neg c32] at H
                  have c32b0 : (t133 == t121) = false := beq_eq_false_iff_ne.mpr c32
                  have c32b1 : (t133 != t121) = true := bne_iff_ne.mpr c32
                  obtain rfl := Option.some.inj H
                  go_wp2_with (first | ((with_reducible refine gate_callee (f := 19) rfl ?_); refine goesL_ (some 92) rfl rfl Try.func19 (by kernel_rfl) rfl #[.int .u64 t121, .int .u64 a2] rfl (by (try simp only [List.map_toArray, List.map_cons, List.map_nil]); first | done | rfl | (simp only [List.length_drop, List.length_take]; rfl)) ?_; (with_reducible refine (num_Up.calls t121 a2 t133 t134 _ A29.out).mono ?_); rintro e w' ⟨rfl, ⟨nd, rfl⟩⟩; refine ⟨_, rfl, ?_⟩) | ((with_reducible refine gate_callee (f := 18) rfl ?_); refine goesL_ (some 98) rfl rfl Try.func18 (by kernel_rfl) rfl #[.int .u64 t121, .int .u64 a2] rfl (by (try simp only [List.map_toArray, List.map_cons, List.map_nil]); first | done | rfl | (simp only [List.length_drop, List.length_take]; rfl)) ?_; (with_reducible refine (num_Down.calls t121 a2 t135 t136 _ A30.out).mono ?_); rintro e w' ⟨rfl, ⟨nd, rfl⟩⟩; refine ⟨_, rfl, ?_⟩))
                  go_ret
                  exact ⟨by first | rfl | (simp [errW_none, errW_some] <;> rfl) | (simp [*, errW_none, errW_some] <;> rfl), by repeat (first | (with_reducible first | exact HB.out | apply below_alloc | apply pw_below_drewN | apply below_drew1) | exact HB.out)⟩
              · rw [if_neg c31] at H
                have c31b0 : (t134 == 0) = false := beq_eq_false_iff_ne.mpr c31
                have c31b1 : (t134 != 0) = true := bne_iff_ne.mpr c31
                obtain rfl := Option.some.inj H
                go_wp2_with (first | ((with_reducible refine gate_callee (f := 19) rfl ?_); refine goesL_ (some 92) rfl rfl Try.func19 (by kernel_rfl) rfl #[.int .u64 t121, .int .u64 a2] rfl (by (try simp only [List.map_toArray, List.map_cons, List.map_nil]); first | done | rfl | (simp only [List.length_drop, List.length_take]; rfl)) ?_; (with_reducible refine (num_Up.calls t121 a2 t133 t134 _ A29.out).mono ?_); rintro e w' ⟨rfl, ⟨nd, rfl⟩⟩; refine ⟨_, rfl, ?_⟩) | ((with_reducible refine gate_callee (f := 18) rfl ?_); refine goesL_ (some 98) rfl rfl Try.func18 (by kernel_rfl) rfl #[.int .u64 t121, .int .u64 a2] rfl (by (try simp only [List.map_toArray, List.map_cons, List.map_nil]); first | done | rfl | (simp only [List.length_drop, List.length_take]; rfl)) ?_; (with_reducible refine (num_Down.calls t121 a2 t135 t136 _ A30.out).mono ?_); rintro e w' ⟨rfl, ⟨nd, rfl⟩⟩; refine ⟨_, rfl, ?_⟩))
                go_ret
                exact ⟨by first | rfl | (simp [errW_none, errW_some] <;> rfl) | (simp [*, errW_none, errW_some] <;> rfl), by repeat (first | (with_reducible first | exact HB.out | apply below_alloc | apply pw_below_drewN | apply below_drew1) | exact HB.out)⟩

/-- THE ONE PURE STATEMENT of messuagelaw01_NumTwice: yours. -/
def messuagelaw01_NumTwice.Pure : Prop := ∀ (a0 : Int) (a1 : Int) (a2 : Int), (Lit.int .u64 a0).wf = true → (Lit.int .u64 a1).wf = true → (Lit.int .u64 a2).wf = true → ∃ k, messuagelaw01_NumTwice.f k a0 a1 a2 = some true
theorem messuagelaw01_NumTwice.walk (P : messuagelaw01_NumTwice.Pure) (a0 : Int) (a1 : Int) (a2 : Int) (w : World) (w0 : (Lit.int .u64 a0).wf = true) (w1 : (Lit.int .u64 a1).wf = true) (w2 : (Lit.int .u64 a2).wf = true) :
    Calls Try.prog 6 #[.int .u64 a0, .int .u64 a1, .int .u64 a2] w fun e w' => e = .returned (.bool true) ∧ Below w.heap.size w w' := by
  obtain ⟨k, h⟩ := P a0 a1 a2 w0 w1 w2
  refine (messuagelaw01_NumTwice.calls k a0 a1 a2 true w h).mono ?_
  rintro e w' ⟨rfl, hd⟩
  exact ⟨rfl, hd⟩

end Go.Proofs.Ytiekjbejgmdkkaa.PNumTwice
