import Derived.Test.YtilmmmpbcgobaaaDoorPDoGx0
import Derived.Test.YtilmmmpbcgobaaaDoorPDoGxF26
import Derived.Test.YtilmmmpbcgobaaaDoorPDoGxF27
import Derived.Test.YtilmmmpbcgobaaaDoorPDoGxF28
import Derived.Test.YtilmmmpbcgobaaaDoorPDoGxF29
import Derived.Test.YtilmmmpbcgobaaaDoorPDoGxF30
set_option linter.unusedVariables false
set_option linter.unusedSimpArgs false
section
namespace Go.Proofs.YtilmmmpbcgobaaaDoor.G
open Go.RowKit Go.Proofs.YtilmmmpbcgobaaaDoorW.PrintWords Go.Proofs.YtilmmmpbcgobaaaDoorW.PrintLast Go.Proofs.YtilmmmpbcgobaaaDoorW.PrintMore
attribute [local go_sem] max2_int min2_int max_two min_two max_three min_three max_four min_four
set_option linter.unusedVariables false
set_option linter.unusedSimpArgs false
mutual
def tallowref01_Do.j0 : Nat → Int → Int → Int → Bool → Option (Int × Int)
  | 0, _, _, _, _ => none
  | k + 1, x0, x1, x2, x15 => if x15 = true then (some (0, 2)) else (if x2 = 0 then (if x0 = 3 then (tallowref01_Do.j1 k x0 x1 x2 true) else (tallowref01_Do.j1 k x0 x1 x2 (x0 == 4))) else (tallowref01_Do.j1 k x0 x1 x2 false))
def tallowref01_Do.j1 : Nat → Int → Int → Int → Bool → Option (Int × Int)
  | 0, _, _, _, _ => none
  | k + 1, x0, x1, x2, x25 => if x25 = true then (some (0, 8)) else (if x0 = 0 then ((tallowref01_sum.f k (IntKind.u64.wrap (x1)) (IntKind.u64.wrap (x2))).bind fun t116 => (some (wrap64 (t116), 0))) else (if x0 = 1 then ((tallowref01_less0.f k (IntKind.u64.wrap (x2))).bind fun t117 => ((tallowref01_sum.f k (IntKind.u64.wrap (x1)) t117).bind fun t118 => (some (wrap64 (t118), 0)))) else (if x0 = 2 then ((tallowref01_product.f k (IntKind.u64.wrap (x1)) (IntKind.u64.wrap (x2))).bind fun t119 => (some (wrap64 (t119), 0))) else (if x0 = 3 then ((tallowref01_quotient.f k x1 x2).bind fun t120 => (some (t120, 0))) else (if x0 = 4 then ((tallowref01_quotient.f k x1 x2).bind fun t121 => ((tallowref01_product.f k (IntKind.u64.wrap (x2)) (IntKind.u64.wrap (t121))).bind fun t122 => ((tallowref01_less0.f k t122).bind fun t123 => ((tallowref01_sum.f k (IntKind.u64.wrap (x1)) t123).bind fun t124 => (some (wrap64 (t124), 0)))))) else (if x0 = 5 then (some (Go.bits .and .i64 x1 x2, 0)) else (if x0 = 6 then (some (Go.bits .or .i64 x1 x2, 0)) else (if x0 = 7 then (some (Go.bits .xor .i64 x1 x2, 0)) else (if x0 = 8 then ((tallowref01_moved.f k x1 x2 true).bind fun t125 => (some (t125, 0))) else ((tallowref01_moved.f k x1 x2 false).bind fun t126 => (some (t126, 0))))))))))))
end
def tallowref01_Do.f (k : Nat) (a0 : Int) (a1 : Int) (a2 : Int) : Option (Int × Int) := if a0 < 0 then (tallowref01_Do.j0 k a0 a1 a2 true) else (tallowref01_Do.j0 k a0 a1 a2 (decide (a0 > 9)))
theorem tallowref01_Do.mono_l : ∀ k, (∀ y0 y1 y2 y3, LeO (tallowref01_Do.j0 k y0 y1 y2 y3) (tallowref01_Do.j0 (k + 1) y0 y1 y2 y3)) ∧ (∀ y0 y1 y2 y3, LeO (tallowref01_Do.j1 k y0 y1 y2 y3) (tallowref01_Do.j1 (k + 1) y0 y1 y2 y3))
  | 0 => ⟨fun _ _ _ _ r h => by simp [tallowref01_Do.j0] at h, fun _ _ _ _ r h => by simp [tallowref01_Do.j1] at h⟩
  | k + 1 => by
    obtain ⟨ih0, ih1⟩ := tallowref01_Do.mono_l k
    refine ⟨?_, ?_⟩
    · intro y0 y1 y2 y3
      unfold tallowref01_Do.j0
      repeat' first
      | (with_reducible exact ih0 _ _ _ _)
      | (with_reducible exact ih1 _ _ _ _)
      | (with_reducible exact tallowref01_less0.mono _ _)
      | (with_reducible exact tallowref01_moved.mono _ _ _ _)
      | (with_reducible exact tallowref01_product.mono _ _ _)
      | (with_reducible exact tallowref01_quotient.mono _ _ _)
      | (with_reducible exact tallowref01_sum.mono _ _ _)
      | (with_reducible exact LeO.refl _)
      | (with_reducible exact LeO.none _)
      | (with_reducible refine LeO.ite ?_ ?_)
      | (with_reducible refine LeO.bind ?_ (fun _ => ?_))
      | exact ih0 _ _ _ _
      | exact ih1 _ _ _ _
      | exact tallowref01_less0.mono _ _
      | exact tallowref01_moved.mono _ _ _ _
      | exact tallowref01_product.mono _ _ _
      | exact tallowref01_quotient.mono _ _ _
      | exact tallowref01_sum.mono _ _ _
      | exact LeO.none _
      | refine LeO.ite ?_ ?_
      | refine LeO.bind ?_ (fun _ => ?_)
    · intro y0 y1 y2 y3
      unfold tallowref01_Do.j1
      repeat' first
      | (with_reducible exact ih0 _ _ _ _)
      | (with_reducible exact ih1 _ _ _ _)
      | (with_reducible exact tallowref01_less0.mono _ _)
      | (with_reducible exact tallowref01_moved.mono _ _ _ _)
      | (with_reducible exact tallowref01_product.mono _ _ _)
      | (with_reducible exact tallowref01_quotient.mono _ _ _)
      | (with_reducible exact tallowref01_sum.mono _ _ _)
      | (with_reducible exact LeO.refl _)
      | (with_reducible exact LeO.none _)
      | (with_reducible refine LeO.ite ?_ ?_)
      | (with_reducible refine LeO.bind ?_ (fun _ => ?_))
      | exact ih0 _ _ _ _
      | exact ih1 _ _ _ _
      | exact tallowref01_less0.mono _ _
      | exact tallowref01_moved.mono _ _ _ _
      | exact tallowref01_product.mono _ _ _
      | exact tallowref01_quotient.mono _ _ _
      | exact tallowref01_sum.mono _ _ _
      | exact LeO.none _
      | refine LeO.ite ?_ ?_
      | refine LeO.bind ?_ (fun _ => ?_)
theorem tallowref01_Do.mono : ∀ a0 a1 a2 k, LeO (tallowref01_Do.f k a0 a1 a2) (tallowref01_Do.f (k + 1) a0 a1 a2) := by
  intro a0 a1 a2 k
  obtain ⟨ih0, ih1⟩ := tallowref01_Do.mono_l k
  unfold tallowref01_Do.f
  repeat' first
      | (with_reducible exact ih0 _ _ _ _)
      | (with_reducible exact ih1 _ _ _ _)
      | (with_reducible exact tallowref01_less0.mono _ _)
      | (with_reducible exact tallowref01_moved.mono _ _ _ _)
      | (with_reducible exact tallowref01_product.mono _ _ _)
      | (with_reducible exact tallowref01_quotient.mono _ _ _)
      | (with_reducible exact tallowref01_sum.mono _ _ _)
      | (with_reducible exact LeO.refl _)
      | (with_reducible exact LeO.none _)
      | (with_reducible refine LeO.ite ?_ ?_)
      | (with_reducible refine LeO.bind ?_ (fun _ => ?_))
      | exact ih0 _ _ _ _
      | exact ih1 _ _ _ _
      | exact tallowref01_less0.mono _ _
      | exact tallowref01_moved.mono _ _ _ _
      | exact tallowref01_product.mono _ _ _
      | exact tallowref01_quotient.mono _ _ _
      | exact tallowref01_sum.mono _ _ _
      | exact LeO.none _
      | refine LeO.ite ?_ ?_
      | refine LeO.bind ?_ (fun _ => ?_)
set_option maxHeartbeats 8000000 in
set_option maxRecDepth 100000 in
theorem tallowref01_Do.calls (k : Nat) (a0 : Int) (a1 : Int) (a2 : Int) (r1 : Int) (r2 : Int) (w : World) (h : tallowref01_Do.f k a0 a1 a2 = some (r1, r2)) :
    Calls Tryd.prog 14 #[.int .i64 a0, .int .i64 a1, .int .i64 a2] w fun e w' => e = .returned (.tuple #[.int .i64 r1, .int .i64 r2]) ∧ Below w.heap.size w w' := by
  have HB := Aside0.mk (Below.refl w.heap.size w)
  have H : (if a0 < 0 then (tallowref01_Do.j0 k a0 a1 a2 true) else (tallowref01_Do.j0 k a0 a1 a2 (decide (a0 > 9)))) = some (r1, r2) := h
  clear h
  have HC4 := Aside0.mk H
  clear H
  go_enter Tryd.func14, Tryd.ntmps14
  go_upto_region 1 with (fail)
  go_cut [15] (fun v15 wc => ∃ (kq : Nat) (x15_3 : Bool), v15 = .bool x15_3 ∧ Aside0 (tallowref01_Do.j0 kq a0 a1 a2 x15_3 = some (r1, r2)) ∧ Aside0 (kq ≤ k) ∧ Aside0 (Below w.heap.size w wc))
  case first =>
    have H := HC4.out
    clear HC4
    by_cases c5 : a0 < 0
    · rw [if_pos c5] at H
      have c5b0 : decide (a0 < 0) = true := decide_eq_true c5
      clear c5
      (first | rw [c5b0] | (simp only [i64_w, i32_w]; rw [c5b0]) | skip)
      have H' := Aside0.mk H
      clear H
      go_wp2
      go_meet
      case rel => exact ⟨_, (true), (by first | rfl | (simp; done) | (simp [*]; done)), H', ⟨by first | omega | exact Nat.le_refl _⟩, ⟨by repeat (first | (with_reducible first | exact HB.out | apply below_alloc | apply pw_below_drewN | apply below_drew1) | exact HB.out)⟩⟩
    · rw [if_neg c5] at H
      have c5b0 : decide (a0 < 0) = false := decide_eq_false c5
      clear c5
      (first | rw [c5b0] | (simp only [i64_w, i32_w]; rw [c5b0]) | skip)
      have H' := Aside0.mk H
      clear H
      go_wp2
      go_meet
      case rel => exact ⟨_, (decide (a0 > 9)), (by first | rfl | (simp; done) | (simp [*]; done)), H', ⟨by first | omega | exact Nat.le_refl _⟩, ⟨by repeat (first | (with_reducible first | exact HB.out | apply below_alloc | apply pw_below_drewN | apply below_drew1) | exact HB.out)⟩⟩
  case rest =>
    clear HC4
    try clear c1
    try clear p2
    try clear c5
    try clear c5b0
    obtain ⟨kq, x15_3, rfl, HA, HJ3, HB⟩ := hcut
    cases kq with
    | zero => exact absurd HA.out (by simp [tallowref01_Do.j0])
    | succ kj3 =>
      have H := HA.out
      clear HA
      simp only [tallowref01_Do.j0] at H
      by_cases c6 : x15_3 = true
      · subst c6
        have H1 : (some (0, 2)) = some (r1, r2) := by rw [if_pos rfl] at H; exact H
        clear H
        have H := H1
        clear H1
        simp only [Option.some.injEq, Prod.mk.injEq] at H
        obtain ⟨rfl, rfl⟩ := H
        go_wp2
        go_ret2
        exact ⟨by first | rfl | (simp [errW_none, errW_some] <;> rfl) | (simp [*, errW_none, errW_some] <;> rfl), by repeat (first | (with_reducible first | exact HB.out | apply below_alloc | apply pw_below_drewN | apply below_drew1) | exact HB.out)⟩
      · replace c6 := Bool.eq_false_iff.mpr c6
        subst c6
        have H1 : (if a2 = 0 then (if a0 = 3 then (tallowref01_Do.j1 kj3 a0 a1 a2 true) else (tallowref01_Do.j1 kj3 a0 a1 a2 (a0 == 4))) else (tallowref01_Do.j1 kj3 a0 a1 a2 false)) = some (r1, r2) := by rw [if_neg (show ¬ (false = true) by decide)] at H; exact H
        clear H
        have H := H1
        clear H1
        have HC7 := Aside0.mk H
        clear H
        go_upto_region 3 with (fail)
        go_cut [25] (fun v25 wc => ∃ (kq : Nat) (x25_6 : Bool), v25 = .bool x25_6 ∧ Aside0 (tallowref01_Do.j1 kq a0 a1 a2 x25_6 = some (r1, r2)) ∧ Aside0 (kq ≤ kj3) ∧ Aside0 (Below w.heap.size w wc))
        case first =>
          have H := HC7.out
          clear HC7
          by_cases c8 : a2 = 0
          · rw [if_pos c8] at H
            have c8b0 : (a2 == 0) = true := beq_iff_eq.mpr c8
            have c8b1 : (a2 != 0) = false := bne_eq_false_iff_eq.mpr c8
            clear c8
            (first | rw [c8b0] | (simp only [i64_w, i32_w]; rw [c8b0]) | skip)
            by_cases c9 : a0 = 3
            · rw [if_pos c9] at H
              have c9b0 : (a0 == 3) = true := beq_iff_eq.mpr c9
              have c9b1 : (a0 != 3) = false := bne_eq_false_iff_eq.mpr c9
              clear c9
              have H' := Aside0.mk H
              clear H
              go_wp2
              go_meet
              case rel => exact ⟨_, (true), (by first | rfl | (simp; done) | (simp [*]; done)), H', ⟨by have := HJ3.out; first | omega | exact Nat.le_refl _⟩, ⟨by repeat (first | (with_reducible first | exact HB.out | apply below_alloc | apply pw_below_drewN | apply below_drew1) | exact HB.out)⟩⟩
            · rw [if_neg c9] at H
              have c9b0 : (a0 == 3) = false := beq_eq_false_iff_ne.mpr c9
              have c9b1 : (a0 != 3) = true := bne_iff_ne.mpr c9
              have H' := Aside0.mk H
              clear H
              go_wp2
              go_meet
              case rel => exact ⟨_, ((a0 == 4)), (by first | rfl | (simp; done) | (simp [*]; done)), H', ⟨by have := HJ3.out; first | omega | exact Nat.le_refl _⟩, ⟨by repeat (first | (with_reducible first | exact HB.out | apply below_alloc | apply pw_below_drewN | apply below_drew1) | exact HB.out)⟩⟩
          · rw [if_neg c8] at H
            have c8b0 : (a2 == 0) = false := beq_eq_false_iff_ne.mpr c8
            have c8b1 : (a2 != 0) = true := bne_iff_ne.mpr c8
            (first | rw [c8b0] | (simp only [i64_w, i32_w]; rw [c8b0]) | skip)
            have H' := Aside0.mk H
            clear H
            go_wp2
            go_meet
            case rel => exact ⟨_, (false), (by first | rfl | (simp; done) | (simp [*]; done)), H', ⟨by have := HJ3.out; first | omega | exact Nat.le_refl _⟩, ⟨by repeat (first | (with_reducible first | exact HB.out | apply below_alloc | apply pw_below_drewN | apply below_drew1) | exact HB.out)⟩⟩
        case rest =>
          clear HC7
          try clear c1
          try clear p2
          try clear c5
          try clear c5b0
          try clear c6
          try clear c8
          try clear c8b0
          try clear c8b1
          try clear c9
          try clear c9b0
          try clear c9b1
          try clear p2
          obtain ⟨kq, x25_6, rfl, HA, HJ6, HB⟩ := hcut
          cases kq with
          | zero => exact absurd HA.out (by simp [tallowref01_Do.j1])
          | succ kj6 =>
            have H := HA.out
            clear HA
            simp only [tallowref01_Do.j1] at H
            by_cases c10 : x25_6 = true
            · subst c10
              have H1 : (some (0, 8)) = some (r1, r2) := by rw [if_pos rfl] at H; exact H
              clear H
              have H := H1
              clear H1
              simp only [Option.some.injEq, Prod.mk.injEq] at H
              obtain ⟨rfl, rfl⟩ := H
              go_wp2
              go_ret2
              exact ⟨by first | rfl | (simp [errW_none, errW_some] <;> rfl) | (simp [*, errW_none, errW_some] <;> rfl), by repeat (first | (with_reducible first | exact HB.out | apply below_alloc | apply pw_below_drewN | apply below_drew1) | exact HB.out)⟩
            · replace c10 := Bool.eq_false_iff.mpr c10
              subst c10
              have H1 : (if a0 = 0 then ((tallowref01_sum.f kj6 (IntKind.u64.wrap (a1)) (IntKind.u64.wrap (a2))).bind fun t116 => (some (wrap64 (t116), 0))) else (if a0 = 1 then ((tallowref01_less0.f kj6 (IntKind.u64.wrap (a2))).bind fun t117 => ((tallowref01_sum.f kj6 (IntKind.u64.wrap (a1)) t117).bind fun t118 => (some (wrap64 (t118), 0)))) else (if a0 = 2 then ((tallowref01_product.f kj6 (IntKind.u64.wrap (a1)) (IntKind.u64.wrap (a2))).bind fun t119 => (some (wrap64 (t119), 0))) else (if a0 = 3 then ((tallowref01_quotient.f kj6 a1 a2).bind fun t120 => (some (t120, 0))) else (if a0 = 4 then ((tallowref01_quotient.f kj6 a1 a2).bind fun t121 => ((tallowref01_product.f kj6 (IntKind.u64.wrap (a2)) (IntKind.u64.wrap (t121))).bind fun t122 => ((tallowref01_less0.f kj6 t122).bind fun t123 => ((tallowref01_sum.f kj6 (IntKind.u64.wrap (a1)) t123).bind fun t124 => (some (wrap64 (t124), 0)))))) else (if a0 = 5 then (some (Go.bits .and .i64 a1 a2, 0)) else (if a0 = 6 then (some (Go.bits .or .i64 a1 a2, 0)) else (if a0 = 7 then (some (Go.bits .xor .i64 a1 a2, 0)) else (if a0 = 8 then ((tallowref01_moved.f kj6 a1 a2 true).bind fun t125 => (some (t125, 0))) else ((tallowref01_moved.f kj6 a1 a2 false).bind fun t126 => (some (t126, 0)))))))))))) = some (r1, r2) := by rw [if_neg (show ¬ (false = true) by decide)] at H; exact H
              clear H
              have H := H1
              clear H1
              by_cases c11 : a0 = 0
              · rw [if_pos c11] at H
                have c11b0 : (a0 == 0) = true := beq_iff_eq.mpr c11
                have c11b1 : (a0 != 0) = false := bne_eq_false_iff_eq.mpr c11
                clear c11
                replace H := Option.bind_eq_some_iff.mp H
                obtain ⟨t116, A120, H⟩ := H
                replace H : (some (wrap64 (t116), 0)) = some (r1, r2) := H
                have A12 := Aside0.mk A120
                clear A120
                simp only [Option.some.injEq, Prod.mk.injEq] at H
                obtain ⟨rfl, rfl⟩ := H
                go_wp2_with (first | ((with_reducible refine gate_callee (f := 26) rfl ?_); refine goesL_ (some 35) rfl rfl Tryd.func26 (by kernel_rfl) rfl #[.int .u64 (IntKind.u64.wrap (a1)), .int .u64 (IntKind.u64.wrap (a2))] rfl (by (try simp only [List.map_toArray, List.map_cons, List.map_nil]); first | done | rfl | (simp only [List.length_drop, List.length_take]; rfl)) ?_; (with_reducible refine (tallowref01_sum.calls kj6 (IntKind.u64.wrap (a1)) (IntKind.u64.wrap (a2)) t116 _ A12.out).mono ?_); rintro e w' ⟨rfl, ⟨nd, rfl⟩⟩; refine ⟨_, rfl, ?_⟩))
                go_ret2
                exact ⟨by first | rfl | (simp [errW_none, errW_some] <;> rfl) | (simp [*, errW_none, errW_some] <;> rfl), by repeat (first | (with_reducible first | exact HB.out | apply below_alloc | apply pw_below_drewN | apply below_drew1) | exact HB.out)⟩
              · rw [if_neg c11] at H
                have c11b0 : (a0 == 0) = false := beq_eq_false_iff_ne.mpr c11
                have c11b1 : (a0 != 0) = true := bne_iff_ne.mpr c11
                by_cases c13 : a0 = 1
                · rw [if_pos c13] at H
                  have c13b0 : (a0 == 1) = true := beq_iff_eq.mpr c13
                  have c13b1 : (a0 != 1) = false := bne_eq_false_iff_eq.mpr c13
                  clear c13
                  replace H := Option.bind_eq_some_iff.mp H
                  obtain ⟨t117, A140, H⟩ := H
                  replace H : ((tallowref01_sum.f kj6 (IntKind.u64.wrap (a1)) t117).bind fun t118 => (some (wrap64 (t118), 0))) = some (r1, r2) := H
                  have A14 := Aside0.mk A140
                  clear A140
                  replace H := Option.bind_eq_some_iff.mp H
                  obtain ⟨t118, A150, H⟩ := H
                  replace H : (some (wrap64 (t118), 0)) = some (r1, r2) := H
                  have A15 := Aside0.mk A150
                  clear A150
                  simp only [Option.some.injEq, Prod.mk.injEq] at H
                  obtain ⟨rfl, rfl⟩ := H
                  go_wp2_with (first | ((with_reducible refine gate_callee (f := 27) rfl ?_); refine goesL_ (some 41) rfl rfl Tryd.func27 (by kernel_rfl) rfl #[.int .u64 (IntKind.u64.wrap (a2))] rfl (by (try simp only [List.map_toArray, List.map_cons, List.map_nil]); first | done | rfl | (simp only [List.length_drop, List.length_take]; rfl)) ?_; (with_reducible refine (tallowref01_less0.calls kj6 (IntKind.u64.wrap (a2)) t117 _ A14.out).mono ?_); rintro e w16 ⟨rfl, hb⟩; refine ⟨_, rfl, ?_⟩; have n0_ := Aside0.mk (below_step (by repeat (first | (with_reducible first | exact HB.out | apply below_alloc | apply pw_below_drewN | apply below_drew1) | exact HB.out)) hb); clear HB; have HB := n0_; clear n0_; (try clear hb); (try clear hb2); (try clear hk); (try clear hi)) | ((with_reducible refine gate_callee (f := 26) rfl ?_); refine goesL_ (some 42) rfl rfl Tryd.func26 (by kernel_rfl) rfl #[.int .u64 (IntKind.u64.wrap (a1)), .int .u64 t117] rfl (by (try simp only [List.map_toArray, List.map_cons, List.map_nil]); first | done | rfl | (simp only [List.length_drop, List.length_take]; rfl)) ?_; (with_reducible refine (tallowref01_sum.calls kj6 (IntKind.u64.wrap (a1)) t117 t118 _ A15.out).mono ?_); rintro e w' ⟨rfl, ⟨nd, rfl⟩⟩; refine ⟨_, rfl, ?_⟩))
                  go_ret2
                  exact ⟨by first | rfl | (simp [errW_none, errW_some] <;> rfl) | (simp [*, errW_none, errW_some] <;> rfl), by repeat (first | (with_reducible first | exact HB.out | apply below_alloc | apply pw_below_drewN | apply below_drew1) | exact HB.out)⟩
                · rw [if_neg c13] at H
                  have c13b0 : (a0 == 1) = false := beq_eq_false_iff_ne.mpr c13
                  have c13b1 : (a0 != 1) = true := bne_iff_ne.mpr c13
                  by_cases c17 : a0 = 2
                  · rw [if_pos c17] at H
                    have c17b0 : (a0 == 2) = true := beq_iff_eq.mpr c17
                    have c17b1 : (a0 != 2) = false := bne_eq_false_iff_eq.mpr c17
                    clear c17
                    replace H := Option.bind_eq_some_iff.mp H
                    obtain ⟨t119, A180, H⟩ := H
                    replace H : (some (wrap64 (t119), 0)) = some (r1, r2) := H
                    have A18 := Aside0.mk A180
                    clear A180
                    simp only [Option.some.injEq, Prod.mk.injEq] at H
                    obtain ⟨rfl, rfl⟩ := H
                    go_wp2_with (first | ((with_reducible refine gate_callee (f := 28) rfl ?_); refine goesL_ (some 48) rfl rfl Tryd.func28 (by kernel_rfl) rfl #[.int .u64 (IntKind.u64.wrap (a1)), .int .u64 (IntKind.u64.wrap (a2))] rfl (by (try simp only [List.map_toArray, List.map_cons, List.map_nil]); first | done | rfl | (simp only [List.length_drop, List.length_take]; rfl)) ?_; (with_reducible refine (tallowref01_product.calls kj6 (IntKind.u64.wrap (a1)) (IntKind.u64.wrap (a2)) t119 _ A18.out).mono ?_); rintro e w' ⟨rfl, ⟨nd, rfl⟩⟩; refine ⟨_, rfl, ?_⟩))
                    go_ret2
                    exact ⟨by first | rfl | (simp [errW_none, errW_some] <;> rfl) | (simp [*, errW_none, errW_some] <;> rfl), by repeat (first | (with_reducible first | exact HB.out | apply below_alloc | apply pw_below_drewN | apply below_drew1) | exact HB.out)⟩
                  · rw [if_neg c17] at H
                    have c17b0 : (a0 == 2) = false := beq_eq_false_iff_ne.mpr c17
                    have c17b1 : (a0 != 2) = true := bne_iff_ne.mpr c17
                    by_cases c19 : a0 = 3
                    · rw [if_pos c19] at H
                      have c19b0 : (a0 == 3) = true := beq_iff_eq.mpr c19
                      have c19b1 : (a0 != 3) = false := bne_eq_false_iff_eq.mpr c19
                      clear c19
                      replace H := Option.bind_eq_some_iff.mp H
                      obtain ⟨t120, A200, H⟩ := H
                      replace H : (some (t120, 0)) = some (r1, r2) := H
                      have A20 := Aside0.mk A200
                      clear A200
                      simp only [Option.some.injEq, Prod.mk.injEq] at H
                      obtain ⟨rfl, rfl⟩ := H
                      go_wp2_with (first | ((with_reducible refine gate_callee (f := 29) rfl ?_); refine goesL_ (some 54) rfl rfl Tryd.func29 (by kernel_rfl) rfl #[.int .i64 a1, .int .i64 a2] rfl (by (try simp only [List.map_toArray, List.map_cons, List.map_nil]); first | done | rfl | (simp only [List.length_drop, List.length_take]; rfl)) ?_; (with_reducible refine (tallowref01_quotient.calls kj6 a1 a2 t120 _ A20.out).mono ?_); rintro e w21 ⟨rfl, hb⟩; refine ⟨_, rfl, ?_⟩; have n0_ := Aside0.mk (below_step (by repeat (first | (with_reducible first | exact HB.out | apply below_alloc | apply pw_below_drewN | apply below_drew1) | exact HB.out)) hb); clear HB; have HB := n0_; clear n0_; (try clear hb); (try clear hb2); (try clear hk); (try clear hi)))
                      go_ret2
                      exact ⟨by first | rfl | (simp [errW_none, errW_some] <;> rfl) | (simp [*, errW_none, errW_some] <;> rfl), by repeat (first | (with_reducible first | exact HB.out | apply below_alloc | apply pw_below_drewN | apply below_drew1) | exact HB.out)⟩
                    · rw [if_neg c19] at H
                      have c19b0 : (a0 == 3) = false := beq_eq_false_iff_ne.mpr c19
                      have c19b1 : (a0 != 3) = true := bne_iff_ne.mpr c19
                      by_cases c22 : a0 = 4
                      · rw [if_pos c22] at H
                        have c22b0 : (a0 == 4) = true := beq_iff_eq.mpr c22
                        have c22b1 : (a0 != 4) = false := bne_eq_false_iff_eq.mpr c22
                        clear c22
                        replace H := Option.bind_eq_some_iff.mp H
                        obtain ⟨t121, A230, H⟩ := H
                        replace H : ((tallowref01_product.f kj6 (IntKind.u64.wrap (a2)) (IntKind.u64.wrap (t121))).bind fun t122 => ((tallowref01_less0.f kj6 t122).bind fun t123 => ((tallowref01_sum.f kj6 (IntKind.u64.wrap (a1)) t123).bind fun t124 => (some (wrap64 (t124), 0))))) = some (r1, r2) := H
                        have A23 := Aside0.mk A230
                        clear A230
                        replace H := Option.bind_eq_some_iff.mp H
                        obtain ⟨t122, A240, H⟩ := H
                        replace H : ((tallowref01_less0.f kj6 t122).bind fun t123 => ((tallowref01_sum.f kj6 (IntKind.u64.wrap (a1)) t123).bind fun t124 => (some (wrap64 (t124), 0)))) = some (r1, r2) := H
                        have A24 := Aside0.mk A240
                        clear A240
                        replace H := Option.bind_eq_some_iff.mp H
                        obtain ⟨t123, A250, H⟩ := H
                        replace H : ((tallowref01_sum.f kj6 (IntKind.u64.wrap (a1)) t123).bind fun t124 => (some (wrap64 (t124), 0))) = some (r1, r2) := H
                        have A25 := Aside0.mk A250
                        clear A250
                        replace H := Option.bind_eq_some_iff.mp H
                        obtain ⟨t124, A260, H⟩ := H
                        replace H : (some (wrap64 (t124), 0)) = some (r1, r2) := H
                        have A26 := Aside0.mk A260
                        clear A260
                        simp only [Option.some.injEq, Prod.mk.injEq] at H
                        obtain ⟨rfl, rfl⟩ := H
                        go_wp2_with (first | ((with_reducible refine gate_callee (f := 29) rfl ?_); refine goesL_ (some 61) rfl rfl Tryd.func29 (by kernel_rfl) rfl #[.int .i64 a1, .int .i64 a2] rfl (by (try simp only [List.map_toArray, List.map_cons, List.map_nil]); first | done | rfl | (simp only [List.length_drop, List.length_take]; rfl)) ?_; (with_reducible refine (tallowref01_quotient.calls kj6 a1 a2 t121 _ A23.out).mono ?_); rintro e w27 ⟨rfl, hb⟩; refine ⟨_, rfl, ?_⟩; have n0_ := Aside0.mk (below_step (by repeat (first | (with_reducible first | exact HB.out | apply below_alloc | apply pw_below_drewN | apply below_drew1) | exact HB.out)) hb); clear HB; have HB := n0_; clear n0_; (try clear hb); (try clear hb2); (try clear hk); (try clear hi)) | ((with_reducible refine gate_callee (f := 28) rfl ?_); refine goesL_ (some 63) rfl rfl Tryd.func28 (by kernel_rfl) rfl #[.int .u64 (IntKind.u64.wrap (a2)), .int .u64 (IntKind.u64.wrap (t121))] rfl (by (try simp only [List.map_toArray, List.map_cons, List.map_nil]); first | done | rfl | (simp only [List.length_drop, List.length_take]; rfl)) ?_; (with_reducible refine (tallowref01_product.calls kj6 (IntKind.u64.wrap (a2)) (IntKind.u64.wrap (t121)) t122 _ A24.out).mono ?_); rintro e w' ⟨rfl, ⟨nd, rfl⟩⟩; refine ⟨_, rfl, ?_⟩) | ((with_reducible refine gate_callee (f := 27) rfl ?_); refine goesL_ (some 64) rfl rfl Tryd.func27 (by kernel_rfl) rfl #[.int .u64 t122] rfl (by (try simp only [List.map_toArray, List.map_cons, List.map_nil]); first | done | rfl | (simp only [List.length_drop, List.length_take]; rfl)) ?_; (with_reducible refine (tallowref01_less0.calls kj6 t122 t123 _ A25.out).mono ?_); rintro e w28 ⟨rfl, hb⟩; refine ⟨_, rfl, ?_⟩; have n0_ := Aside0.mk (below_step (by repeat (first | (with_reducible first | exact HB.out | apply below_alloc | apply pw_below_drewN | apply below_drew1) | exact HB.out)) hb); clear HB; have HB := n0_; clear n0_; (try clear hb); (try clear hb2); (try clear hk); (try clear hi)) | ((with_reducible refine gate_callee (f := 26) rfl ?_); refine goesL_ (some 65) rfl rfl Tryd.func26 (by kernel_rfl) rfl #[.int .u64 (IntKind.u64.wrap (a1)), .int .u64 t123] rfl (by (try simp only [List.map_toArray, List.map_cons, List.map_nil]); first | done | rfl | (simp only [List.length_drop, List.length_take]; rfl)) ?_; (with_reducible refine (tallowref01_sum.calls kj6 (IntKind.u64.wrap (a1)) t123 t124 _ A26.out).mono ?_); rintro e w' ⟨rfl, ⟨nd, rfl⟩⟩; refine ⟨_, rfl, ?_⟩))
                        go_ret2
                        exact ⟨by first | rfl | (simp [errW_none, errW_some] <;> rfl) | (simp [*, errW_none, errW_some] <;> rfl), by repeat (first | (with_reducible first | exact HB.out | apply below_alloc | apply pw_below_drewN | apply below_drew1) | exact HB.out)⟩
                      · rw [if_neg c22] at H
                        have c22b0 : (a0 == 4) = false := beq_eq_false_iff_ne.mpr c22
                        have c22b1 : (a0 != 4) = true := bne_iff_ne.mpr c22
                        by_cases c29 : a0 = 5
                        · rw [if_pos c29] at H
                          have c29b0 : (a0 == 5) = true := beq_iff_eq.mpr c29
                          have c29b1 : (a0 != 5) = false := bne_eq_false_iff_eq.mpr c29
                          clear c29
                          simp only [Option.some.injEq, Prod.mk.injEq] at H
                          obtain ⟨rfl, rfl⟩ := H
                          go_wp2
                          go_ret2
                          exact ⟨by first | rfl | (simp [errW_none, errW_some] <;> rfl) | (simp [*, errW_none, errW_some] <;> rfl), by repeat (first | (with_reducible first | exact HB.out | apply below_alloc | apply pw_below_drewN | apply below_drew1) | exact HB.out)⟩
                        · rw [if_neg c29] at H
                          have c29b0 : (a0 == 5) = false := beq_eq_false_iff_ne.mpr c29
                          have c29b1 : (a0 != 5) = true := bne_iff_ne.mpr c29
                          by_cases c30 : a0 = 6
                          · rw [if_pos c30] at H
                            have c30b0 : (a0 == 6) = true := beq_iff_eq.mpr c30
                            have c30b1 : (a0 != 6) = false := bne_eq_false_iff_eq.mpr c30
                            clear c30
                            simp only [Option.some.injEq, Prod.mk.injEq] at H
                            obtain ⟨rfl, rfl⟩ := H
                            go_wp2
                            go_ret2
                            exact ⟨by first | rfl | (simp [errW_none, errW_some] <;> rfl) | (simp [*, errW_none, errW_some] <;> rfl), by repeat (first | (with_reducible first | exact HB.out | apply below_alloc | apply pw_below_drewN | apply below_drew1) | exact HB.out)⟩
                          · rw [if_neg c30] at H
                            have c30b0 : (a0 == 6) = false := beq_eq_false_iff_ne.mpr c30
                            have c30b1 : (a0 != 6) = true := bne_iff_ne.mpr c30
                            by_cases c31 : a0 = 7
                            · rw [if_pos c31] at H
                              have c31b0 : (a0 == 7) = true := beq_iff_eq.mpr c31
                              have c31b1 : (a0 != 7) = false := bne_eq_false_iff_eq.mpr c31
                              clear c31
                              simp only [Option.some.injEq, Prod.mk.injEq] at H
                              obtain ⟨rfl, rfl⟩ := H
                              go_wp2
                              go_ret2
                              exact ⟨by first | rfl | (simp [errW_none, errW_some] <;> rfl) | (simp [*, errW_none, errW_some] <;> rfl), by repeat (first | (with_reducible first | exact HB.out | apply below_alloc | apply pw_below_drewN | apply below_drew1) | exact HB.out)⟩
                            · rw [if_neg c31] at H
                              have c31b0 : (a0 == 7) = false := beq_eq_false_iff_ne.mpr c31
                              have c31b1 : (a0 != 7) = true := bne_iff_ne.mpr c31
                              by_cases c32 : a0 = 8
                              · rw [if_pos c32] at H
                                have c32b0 : (a0 == 8) = true := beq_iff_eq.mpr c32
                                have c32b1 : (a0 != 8) = false := bne_eq_false_iff_eq.mpr c32
                                clear c32
                                replace H := Option.bind_eq_some_iff.mp H
                                obtain ⟨t125, A330, H⟩ := H
                                replace H : (some (t125, 0)) = some (r1, r2) := H
                                have A33 := Aside0.mk A330
                                clear A330
                                simp only [Option.some.injEq, Prod.mk.injEq] at H
                                obtain ⟨rfl, rfl⟩ := H
                                go_wp2_with (first | ((with_reducible refine gate_callee (f := 30) rfl ?_); refine goesL_ (some 86) rfl rfl Tryd.func30 (by kernel_rfl) rfl #[.int .i64 a1, .int .i64 a2, .bool true] rfl (by (try simp only [List.map_toArray, List.map_cons, List.map_nil]); first | done | rfl | (simp only [List.length_drop, List.length_take]; rfl)) ?_; (with_reducible refine (tallowref01_moved.calls kj6 a1 a2 true t125 _ A33.out).mono ?_); rintro e w34 ⟨rfl, hb⟩; refine ⟨_, rfl, ?_⟩; have n0_ := Aside0.mk (below_step (by repeat (first | (with_reducible first | exact HB.out | apply below_alloc | apply pw_below_drewN | apply below_drew1) | exact HB.out)) hb); clear HB; have HB := n0_; clear n0_; (try clear hb); (try clear hb2); (try clear hk); (try clear hi)))
                                go_ret2
                                exact ⟨by first | rfl | (simp [errW_none, errW_some] <;> rfl) | (simp [*, errW_none, errW_some] <;> rfl), by repeat (first | (with_reducible first | exact HB.out | apply below_alloc | apply pw_below_drewN | apply below_drew1) | exact HB.out)⟩
                              · rw [if_neg c32] at H
                                have c32b0 : (a0 == 8) = false := beq_eq_false_iff_ne.mpr c32
                                have c32b1 : (a0 != 8) = true := bne_iff_ne.mpr c32
                                replace H := Option.bind_eq_some_iff.mp H
                                obtain ⟨t126, A350, H⟩ := H
                                replace H : (some (t126, 0)) = some (r1, r2) := H
                                have A35 := Aside0.mk A350
                                clear A350
                                simp only [Option.some.injEq, Prod.mk.injEq] at H
                                obtain ⟨rfl, rfl⟩ := H
                                go_wp2_with (first | ((with_reducible refine gate_callee (f := 30) rfl ?_); refine goesL_ (some 89) rfl rfl Tryd.func30 (by kernel_rfl) rfl #[.int .i64 a1, .int .i64 a2, .bool false] rfl (by (try simp only [List.map_toArray, List.map_cons, List.map_nil]); first | done | rfl | (simp only [List.length_drop, List.length_take]; rfl)) ?_; (with_reducible refine (tallowref01_moved.calls kj6 a1 a2 false t126 _ A35.out).mono ?_); rintro e w36 ⟨rfl, hb⟩; refine ⟨_, rfl, ?_⟩; have n0_ := Aside0.mk (below_step (by repeat (first | (with_reducible first | exact HB.out | apply below_alloc | apply pw_below_drewN | apply below_drew1) | exact HB.out)) hb); clear HB; have HB := n0_; clear n0_; (try clear hb); (try clear hb2); (try clear hk); (try clear hi)))
                                go_ret2
                                exact ⟨by first | rfl | (simp [errW_none, errW_some] <;> rfl) | (simp [*, errW_none, errW_some] <;> rfl), by repeat (first | (with_reducible first | exact HB.out | apply below_alloc | apply pw_below_drewN | apply below_drew1) | exact HB.out)⟩
end Go.Proofs.YtilmmmpbcgobaaaDoor.G
end
