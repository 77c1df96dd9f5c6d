-- written by a program of this session (handprint.sh), over functions proved by hand
import Derived.Test.YtpdcedmnkkiekaaGx0
import Derived.Test.YtpdcedmnkkiekaaGxF10
import Derived.Test.YtpdcedmnkkiekaaGxF12
import Derived.Test.YtpdcedmnkkiekaaGxF14
namespace Go.Proofs.Ytpdcedmnkkiekaa.G
open Go.RowKit Go.Proofs.YtpdcedmnkkiekaaW.PrintWords Go.Proofs.YtpdcedmnkkiekaaW.PrintLast Go.Proofs.YtpdcedmnkkiekaaW.PrintMore
attribute [local go_sem] max2_int min2_int max_two min_two max_three min_three max_four min_four   -- for this text's walks alone
set_option linter.unusedVariables false
set_option linter.unusedSimpArgs false

/-! ### tallowlaw20_CodeBack: function 8 -/
def tallowlaw20_CodeBack.j0 : Nat → Int → Bool → Option (Bool)
  | 0, _, _ => none
  | k + 1, x0, x22 => if x22 = true then (some false) else (if x0 ≥ 0 then ((code_Name.f x0).bind fun t200 => (if ((decide (x0 ≤ 36)) == (t200.toList != ([] : List UInt8))) = true then (if x0 ≤ 36 then ((code_Name.f x0).bind fun t201 => ((code_Op.f t201).bind fun t202 => (some (t202 == x0)))) else (some true)) else (some false))) else ((code_Name.f x0).bind fun t203 => (if (false == (t203.toList != ([] : List UInt8))) = true then (some true) else (some false))))
def tallowlaw20_CodeBack.f (k : Nat) (a0 : Int) (a1 : ByteArray) : Option (Bool) := (tallowlaw20_works.f).bind fun t197 => (if t197 = true then ((code_Op.f a1).bind fun t198 => (if t198 ≥ 0 then ((code_Name.f t198).bind fun t199 => (if t199.toList = a1.toList then (tallowlaw20_CodeBack.j0 k a0 (decide (t198 < (-1)))) else (tallowlaw20_CodeBack.j0 k a0 true))) else (tallowlaw20_CodeBack.j0 k a0 (decide (t198 < (-1)))))) else (some false))
theorem tallowlaw20_CodeBack.mono_l : ∀ k, (∀ y0 y1, LeO (tallowlaw20_CodeBack.j0 k y0 y1) (tallowlaw20_CodeBack.j0 (k + 1) y0 y1))
  | 0 => fun _ _ r h => by simp [tallowlaw20_CodeBack.j0] at h
  | k + 1 => by
    have ih0 := tallowlaw20_CodeBack.mono_l k
    · intro y0 y1
      unfold tallowlaw20_CodeBack.j0
      repeat' first
      | (with_reducible exact ih0 _ _)
      | (with_reducible exact LeO.refl _)
      | (with_reducible exact LeO.none _)
      | (with_reducible refine LeO.ite ?_ ?_)
      | (with_reducible refine LeO.bind ?_ (fun _ => ?_))
      | exact ih0 _ _
      | exact LeO.none _
      | refine LeO.ite ?_ ?_
      | refine LeO.bind ?_ (fun _ => ?_)
theorem tallowlaw20_CodeBack.mono : ∀ a0 a1 k, LeO (tallowlaw20_CodeBack.f k a0 a1) (tallowlaw20_CodeBack.f (k + 1) a0 a1) := by
  intro a0 a1 k
  have ih0 := tallowlaw20_CodeBack.mono_l k
  unfold tallowlaw20_CodeBack.f
  repeat' first
      | (with_reducible exact ih0 _ _)
      | (with_reducible exact LeO.refl _)
      | (with_reducible exact LeO.none _)
      | (with_reducible refine LeO.ite ?_ ?_)
      | (with_reducible refine LeO.bind ?_ (fun _ => ?_))
      | exact ih0 _ _
      | exact LeO.none _
      | refine LeO.ite ?_ ?_
      | refine LeO.bind ?_ (fun _ => ?_)
set_option maxHeartbeats 8000000 in
set_option maxRecDepth 100000 in
theorem tallowlaw20_CodeBack.calls (k : Nat) (a0 : Int) (a1 : ByteArray) (r : Bool) (w : World) (h : tallowlaw20_CodeBack.f k a0 a1 = some r) :
    Calls Try.prog 8 #[.int .i64 a0, .string a1] w fun e w' => e = .returned (.bool r) ∧ Below w.heap.size w w' := by
  have HB := Aside0.mk (Below.refl w.heap.size w)
  have H : ((tallowlaw20_works.f).bind fun t197 => (if t197 = true then ((code_Op.f a1).bind fun t198 => (if t198 ≥ 0 then ((code_Name.f t198).bind fun t199 => (if t199.toList = a1.toList then (tallowlaw20_CodeBack.j0 k a0 (decide (t198 < (-1)))) else (tallowlaw20_CodeBack.j0 k a0 true))) else (tallowlaw20_CodeBack.j0 k a0 (decide (t198 < (-1)))))) else (some false))) = some r := h
  clear h
  replace H := Option.bind_eq_some_iff.mp H
  obtain ⟨t197, A30, H⟩ := H
  replace H : (if t197 = true then ((code_Op.f a1).bind fun t198 => (if t198 ≥ 0 then ((code_Name.f t198).bind fun t199 => (if t199.toList = a1.toList then (tallowlaw20_CodeBack.j0 k a0 (decide (t198 < (-1)))) else (tallowlaw20_CodeBack.j0 k a0 true))) else (tallowlaw20_CodeBack.j0 k a0 (decide (t198 < (-1)))))) else (some false)) = some r := H
  have A3 := Aside0.mk A30
  clear A30
  by_cases c4 : t197 = true
  · subst c4
    have H1 : ((code_Op.f a1).bind fun t198 => (if t198 ≥ 0 then ((code_Name.f t198).bind fun t199 => (if t199.toList = a1.toList then (tallowlaw20_CodeBack.j0 k a0 (decide (t198 < (-1)))) else (tallowlaw20_CodeBack.j0 k a0 true))) else (tallowlaw20_CodeBack.j0 k a0 (decide (t198 < (-1)))))) = some r := by rw [if_pos rfl] at H; exact H
    clear H
    have H := H1
    clear H1
    replace H := Option.bind_eq_some_iff.mp H
    obtain ⟨t198, A50, H⟩ := H
    replace H : (if t198 ≥ 0 then ((code_Name.f t198).bind fun t199 => (if t199.toList = a1.toList then (tallowlaw20_CodeBack.j0 k a0 (decide (t198 < (-1)))) else (tallowlaw20_CodeBack.j0 k a0 true))) else (tallowlaw20_CodeBack.j0 k a0 (decide (t198 < (-1))))) = some r := H
    have A5 := Aside0.mk A50
    clear A50
    have HC6 := Aside0.mk H
    clear H
    go_enter Try.func8, Try.ntmps8
    go_upto_region 4 with (first | ((with_reducible refine gate_callee (f := 14) rfl ?_); refine goesL_ (some 7) rfl rfl Try.func14 (by kernel_rfl) rfl #[] rfl (by (try simp only [List.map_toArray, List.map_cons, List.map_nil]); first | done | rfl | (simp only [List.length_drop, List.length_take]; rfl)) ?_; (with_reducible refine (tallowlaw20_works.calls  true _ A3.out).mono ?_); rintro e w7 ⟨rfl, hb⟩; refine ⟨_, rfl, ?_⟩; have n0_ := Aside0.mk (below_step (by repeat (first | (with_reducible first | exact HB.out | apply below_alloc | apply pw_below_drewN | apply below_drew1) | exact HB.out)) hb); clear HB; have HB := n0_; clear n0_; (try clear hb); (try clear hb2); (try clear hk); (try clear hi)) | ((with_reducible refine gate_callee (f := 12) rfl ?_); refine goesL_ (some 10) rfl rfl Try.func12 (by kernel_rfl) rfl #[.string a1] rfl (by (try simp only [List.map_toArray, List.map_cons, List.map_nil]); first | done | rfl | (simp only [List.length_drop, List.length_take]; rfl)) ?_; (with_reducible refine (code_Op.calls a1 t198 _ A5.out).mono ?_); rintro e w8 ⟨rfl, hb⟩; refine ⟨_, rfl, ?_⟩; have n0_ := Aside0.mk (below_step (by repeat (first | (with_reducible first | exact HB.out | apply below_alloc | apply pw_below_drewN | apply below_drew1) | exact HB.out)) hb); clear HB; have HB := n0_; clear n0_; (try clear hb); (try clear hb2); (try clear hk); (try clear hi)))
    (try simp only [Act.put, List.setIfInBounds_toArray, List.set_cons_zero, List.set_cons_succ])
    go_cut [22] (fun v22 wc => ∃ (kq : Nat) (x22_5 : Bool), v22 = .bool x22_5 ∧ Aside0 (tallowlaw20_CodeBack.j0 kq a0 x22_5 = some r) ∧ Aside0 (kq ≤ k) ∧ Aside0 (Below w.heap.size w wc))
    case first =>
      have H := HC6.out
      clear HC6
      by_cases c9 : t198 ≥ 0
      · rw [if_pos c9] at H
        have c9b0 : decide (0 ≤ t198) = true := decide_eq_true c9
        clear c9
        (first | rw [c9b0] | (simp only [i64_w, i32_w]; rw [c9b0]) | skip)
        replace H := Option.bind_eq_some_iff.mp H
        obtain ⟨t199, A100, H⟩ := H
        replace H : (if t199.toList = a1.toList then (tallowlaw20_CodeBack.j0 k a0 (decide (t198 < (-1)))) else (tallowlaw20_CodeBack.j0 k a0 true)) = some r := H
        have A10 := Aside0.mk A100
        clear A100
        by_cases c11 : t199.toList = a1.toList
        · rw [if_pos c11] at H
          have c11b0 : (t199.toList == a1.toList) = true := beq_iff_eq.mpr c11
          have c11b1 : (t199.toList != a1.toList) = false := bne_eq_false_iff_eq.mpr c11
          clear c11
          have H' := Aside0.mk H
          clear H
          go_wp2_with (first | (go_at_call 10; (with_reducible refine (code_Name.calls t198 t199 _ A10.out).mono ?_); rintro e w12 ⟨rfl, hb⟩; have n0_ := Aside0.mk (below_step (by repeat (first | (with_reducible first | exact HB.out | apply below_alloc | apply pw_below_drewN | apply below_drew1) | exact HB.out)) hb); clear HB; have HB := n0_; clear n0_; (try clear hb); (try clear hb2); (try clear hk); (try clear hi)))
          go_meet
          case rel => exact ⟨_, (decide (t198 < (-1))), (by first | rfl | (simp; done) | (simp [*]; done)), H', ⟨by first | omega | exact Nat.le_refl _⟩, ⟨by repeat (first | (with_reducible first | exact HB.out | apply below_alloc | apply pw_below_drewN | apply below_drew1) | exact HB.out)⟩⟩
        · rw [if_neg c11] at H
          have c11b0 : (t199.toList == a1.toList) = false := beq_eq_false_iff_ne.mpr c11
          have c11b1 : (t199.toList != a1.toList) = true := bne_iff_ne.mpr c11
          have H' := Aside0.mk H
          clear H
          go_wp2_with (first | (go_at_call 10; (with_reducible refine (code_Name.calls t198 t199 _ A10.out).mono ?_); rintro e w13 ⟨rfl, hb⟩; have n0_ := Aside0.mk (below_step (by repeat (first | (with_reducible first | exact HB.out | apply below_alloc | apply pw_below_drewN | apply below_drew1) | exact HB.out)) hb); clear HB; have HB := n0_; clear n0_; (try clear hb); (try clear hb2); (try clear hk); (try clear hi)))
          go_meet
          case rel => exact ⟨_, (true), (by first | rfl | (simp; done) | (simp [*]; done)), H', ⟨by first | omega | exact Nat.le_refl _⟩, ⟨by repeat (first | (with_reducible first | exact HB.out | apply below_alloc | apply pw_below_drewN | apply below_drew1) | exact HB.out)⟩⟩
      · rw [if_neg c9] at H
        have c9b0 : decide (0 ≤ t198) = false := decide_eq_false c9
        clear c9
        (first | rw [c9b0] | (simp only [i64_w, i32_w]; rw [c9b0]) | skip)
        have H' := Aside0.mk H
        clear H
        go_wp2
        go_meet
        case rel => exact ⟨_, (decide (t198 < (-1))), (by first | rfl | (simp; done) | (simp [*]; done)), H', ⟨by first | omega | exact Nat.le_refl _⟩, ⟨by repeat (first | (with_reducible first | exact HB.out | apply below_alloc | apply pw_below_drewN | apply below_drew1) | exact HB.out)⟩⟩
    case rest =>
      clear HC6
      try clear c1
      try clear p2
      try clear c4
      try clear c8
      try clear c9
      try clear c9b0
      try clear c11
      try clear c11b0
      try clear c11b1
      try clear c12
      obtain ⟨kq, x22_5, rfl, HA, HJ5, HB⟩ := hcut
      cases kq with
      | zero => exact absurd HA.out (by simp [tallowlaw20_CodeBack.j0])
      | succ kj5 =>
        have H := HA.out
        clear HA
        simp only [tallowlaw20_CodeBack.j0] at H
        by_cases c14 : x22_5 = true
        · subst c14
          have H1 : (some false) = some r := by rw [if_pos rfl] at H; exact H
          clear H
          have H := H1
          clear H1
          obtain rfl := Option.some.inj H
          go_wp2
          go_ret
          exact ⟨by first | rfl | (simp [errW_none, errW_some] <;> rfl) | (simp [*, errW_none, errW_some] <;> rfl), by repeat (first | (with_reducible first | exact HB.out | apply below_alloc | apply pw_below_drewN | apply below_drew1) | exact HB.out)⟩
        · replace c14 := Bool.eq_false_iff.mpr c14
          subst c14
          have H1 : (if a0 ≥ 0 then ((code_Name.f a0).bind fun t200 => (if ((decide (a0 ≤ 36)) == (t200.toList != ([] : List UInt8))) = true then (if a0 ≤ 36 then ((code_Name.f a0).bind fun t201 => ((code_Op.f t201).bind fun t202 => (some (t202 == a0)))) else (some true)) else (some false))) else ((code_Name.f a0).bind fun t203 => (if (false == (t203.toList != ([] : List UInt8))) = true then (some true) else (some false)))) = some r := by rw [if_neg (show ¬ (false = true) by decide)] at H; exact H
          clear H
          have H := H1
          clear H1
          by_cases c15 : a0 ≥ 0
          · rw [if_pos c15] at H
            have c15b0 : decide (0 ≤ a0) = true := decide_eq_true c15
            clear c15
            replace H := Option.bind_eq_some_iff.mp H
            obtain ⟨t200, A160, H⟩ := H
            replace H : (if ((decide (a0 ≤ 36)) == (t200.toList != ([] : List UInt8))) = true then (if a0 ≤ 36 then ((code_Name.f a0).bind fun t201 => ((code_Op.f t201).bind fun t202 => (some (t202 == a0)))) else (some true)) else (some false)) = some r := H
            have A16 := Aside0.mk A160
            clear A160
            by_cases c17 : ((decide (a0 ≤ 36)) == (t200.toList != ([] : List UInt8))) = true
            · rw [if_pos c17] at H
              have c17b0 : ((decide (a0 ≤ 36)) == (t200.toList != ([] : List UInt8))) = true := c17
              (try (have c17b1 : decide ((decide (a0 ≤ 36)) = (t200.toList != ([] : List UInt8))) = true := by simpa using c17))
              (try (have c17b2 : ((decide (a0 ≤ 36)) == (t200.toList != ([] : List UInt8))) = true := by simpa using c17))
              clear c17
              by_cases c18 : a0 ≤ 36
              · rw [if_pos c18] at H
                have c18b0 : decide (a0 ≤ 36) = true := decide_eq_true c18
                clear c18
                replace H := Option.bind_eq_some_iff.mp H
                obtain ⟨t201, A190, H⟩ := H
                replace H : ((code_Op.f t201).bind fun t202 => (some (t202 == a0))) = some r := H
                have A19 := Aside0.mk A190
                clear A190
                obtain rfl : t200 = t201 := Option.some.inj (A16.out.symm.trans A19.out)
                have c17n : (t200.toList == ([] : List UInt8)) = false := by
                  rw [c18b0] at c17b0
                  have h_ := beq_iff_eq.mp c17b0
                  rw [beq_eq_false_iff_ne]
                  exact bne_iff_ne.mp h_.symm
                have c17m : ¬ (t200.toList = ([] : List UInt8)) := beq_eq_false_iff_ne.mp c17n
                replace H := Option.bind_eq_some_iff.mp H
                obtain ⟨t202, A200, H⟩ := H
                replace H : (some (t202 == a0)) = some r := H
                have A20 := Aside0.mk A200
                clear A200
                obtain rfl := Option.some.inj H
                go_wp2_with (first | ((with_reducible refine gate_callee (f := 10) rfl ?_); refine goesL_ (some 31) rfl rfl Try.func10 (by kernel_rfl) rfl #[.int .i64 a0] rfl (by (try simp only [List.map_toArray, List.map_cons, List.map_nil]); first | done | rfl | (simp only [List.length_drop, List.length_take]; rfl)) ?_; (with_reducible refine (code_Name.calls a0 t200 _ A16.out).mono ?_); rintro e w21 ⟨rfl, hb⟩; refine ⟨_, rfl, ?_⟩; have n0_ := Aside0.mk (below_step (by repeat (first | (with_reducible first | exact HB.out | apply below_alloc | apply pw_below_drewN | apply below_drew1) | exact HB.out)) hb); clear HB; have HB := n0_; clear n0_; (try clear hb); (try clear hb2); (try clear hk); (try clear hi)) | (go_at_call 10; (with_reducible refine (code_Name.calls a0 t200 _ A19.out).mono ?_); rintro e w22 ⟨rfl, hb⟩; have n0_ := Aside0.mk (below_step (by repeat (first | (with_reducible first | exact HB.out | apply below_alloc | apply pw_below_drewN | apply below_drew1) | exact HB.out)) hb); clear HB; have HB := n0_; clear n0_; (try clear hb); (try clear hb2); (try clear hk); (try clear hi)) | (go_at_call 12; (with_reducible refine (code_Op.calls t200 t202 _ A20.out).mono ?_); rintro e w23 ⟨rfl, hb⟩; have n0_ := Aside0.mk (below_step (by repeat (first | (with_reducible first | exact HB.out | apply below_alloc | apply pw_below_drewN | apply below_drew1) | exact HB.out)) hb); clear HB; have HB := n0_; clear n0_; (try clear hb); (try clear hb2); (try clear hk); (try clear hi)))
                go_ret
                exact ⟨by first | rfl | (simp [errW_none, errW_some] <;> rfl) | (simp [*, errW_none, errW_some] <;> rfl), by repeat (first | (with_reducible first | exact HB.out | apply below_alloc | apply pw_below_drewN | apply below_drew1) | exact HB.out)⟩
              · rw [if_neg c18] at H
                have c18b0 : decide (a0 ≤ 36) = false := decide_eq_false c18
                have c17m : t200.toList = ([] : List UInt8) := by
                  rw [c18b0] at c17b0
                  have h_ := beq_iff_eq.mp c17b0
                  exact bne_eq_false_iff_eq.mp h_.symm
                have c17n : (t200.toList == ([] : List UInt8)) = true := beq_iff_eq.mpr c17m
                clear c18
                obtain rfl := Option.some.inj H
                go_wp2_with (first | ((with_reducible refine gate_callee (f := 10) rfl ?_); refine goesL_ (some 31) rfl rfl Try.func10 (by kernel_rfl) rfl #[.int .i64 a0] rfl (by (try simp only [List.map_toArray, List.map_cons, List.map_nil]); first | done | rfl | (simp only [List.length_drop, List.length_take]; rfl)) ?_; (with_reducible refine (code_Name.calls a0 t200 _ A16.out).mono ?_); rintro e w24 ⟨rfl, hb⟩; refine ⟨_, rfl, ?_⟩; have n0_ := Aside0.mk (below_step (by repeat (first | (with_reducible first | exact HB.out | apply below_alloc | apply pw_below_drewN | apply below_drew1) | exact HB.out)) hb); clear HB; have HB := n0_; clear n0_; (try clear hb); (try clear hb2); (try clear hk); (try clear hi)))
                go_ret
                exact ⟨by first | rfl | (simp [errW_none, errW_some] <;> rfl) | (simp [*, errW_none, errW_some] <;> rfl), by repeat (first | (with_reducible first | exact HB.out | apply below_alloc | apply pw_below_drewN | apply below_drew1) | exact HB.out)⟩
            · rw [if_neg c17] at H
              have c17b0 : ((decide (a0 ≤ 36)) == (t200.toList != ([] : List UInt8))) = false := by simpa using c17
              (try (have c17b1 : decide ((decide (a0 ≤ 36)) = (t200.toList != ([] : List UInt8))) = false := by simpa using c17))
              (try (have c17b2 : ((decide (a0 ≤ 36)) == (t200.toList != ([] : List UInt8))) = false := by simpa using c17))
              (try (have c17b3 : ¬ ((decide (a0 ≤ 36)) = (t200.toList != ([] : List UInt8))) := by simpa using c17))
              have c17b4 : ¬ (decide (a0 ≤ 36) = !t200.toList.isEmpty) := fun h_ => c17b3 (by rw [h_]; cases t200.toList <;> rfl)
              clear c17
              obtain rfl := Option.some.inj H
              go_wp2_with (first | ((with_reducible refine gate_callee (f := 10) rfl ?_); refine goesL_ (some 31) rfl rfl Try.func10 (by kernel_rfl) rfl #[.int .i64 a0] rfl (by (try simp only [List.map_toArray, List.map_cons, List.map_nil]); first | done | rfl | (simp only [List.length_drop, List.length_take]; rfl)) ?_; (with_reducible refine (code_Name.calls a0 t200 _ A16.out).mono ?_); rintro e w25 ⟨rfl, hb⟩; refine ⟨_, rfl, ?_⟩; have n0_ := Aside0.mk (below_step (by repeat (first | (with_reducible first | exact HB.out | apply below_alloc | apply pw_below_drewN | apply below_drew1) | exact HB.out)) hb); clear HB; have HB := n0_; clear n0_; (try clear hb); (try clear hb2); (try clear hk); (try clear hi)))
              go_ret
              exact ⟨by first | rfl | (simp [errW_none, errW_some] <;> rfl) | (simp [*, errW_none, errW_some] <;> rfl), by repeat (first | (with_reducible first | exact HB.out | apply below_alloc | apply pw_below_drewN | apply below_drew1) | exact HB.out)⟩
          · rw [if_neg c15] at H
            have c15b0 : decide (0 ≤ a0) = false := decide_eq_false c15
            clear c15
            replace H := Option.bind_eq_some_iff.mp H
            obtain ⟨t203, A260, H⟩ := H
            replace H : (if (false == (t203.toList != ([] : List UInt8))) = true then (some true) else (some false)) = some r := H
            have A26 := Aside0.mk A260
            clear A260
            by_cases c27 : (false == (t203.toList != ([] : List UInt8))) = true
            · rw [if_pos c27] at H
              have c27b0 : (false == (t203.toList != ([] : List UInt8))) = true := c27
              (try (have c27b1 : decide (false = (t203.toList != ([] : List UInt8))) = true := by simpa using c27))
              (try (have c27b2 : (false == (t203.toList != ([] : List UInt8))) = true := by simpa using c27))
              have c27m : t203.toList = ([] : List UInt8) := bne_eq_false_iff_eq.mp (beq_iff_eq.mp c27b0).symm
              have c27n : t203.toList.isEmpty = true := by rw [c27m]; rfl
              clear c27
              obtain rfl := Option.some.inj H
              go_wp2_with (first | ((with_reducible refine gate_callee (f := 10) rfl ?_); refine goesL_ (some 31) rfl rfl Try.func10 (by kernel_rfl) rfl #[.int .i64 a0] rfl (by (try simp only [List.map_toArray, List.map_cons, List.map_nil]); first | done | rfl | (simp only [List.length_drop, List.length_take]; rfl)) ?_; (with_reducible refine (code_Name.calls a0 t203 _ A26.out).mono ?_); rintro e w28 ⟨rfl, hb⟩; refine ⟨_, rfl, ?_⟩; have n0_ := Aside0.mk (below_step (by repeat (first | (with_reducible first | exact HB.out | apply below_alloc | apply pw_below_drewN | apply below_drew1) | exact HB.out)) hb); clear HB; have HB := n0_; clear n0_; (try clear hb); (try clear hb2); (try clear hk); (try clear hi)))
              go_ret
              exact ⟨by first | rfl | (simp [errW_none, errW_some] <;> rfl) | (simp [*, errW_none, errW_some] <;> rfl), by repeat (first | (with_reducible first | exact HB.out | apply below_alloc | apply pw_below_drewN | apply below_drew1) | exact HB.out)⟩
            · rw [if_neg c27] at H
              have c27b0 : (false == (t203.toList != ([] : List UInt8))) = false := by simpa using c27
              (try (have c27b1 : decide (false = (t203.toList != ([] : List UInt8))) = false := by simpa using c27))
              (try (have c27b2 : (false == (t203.toList != ([] : List UInt8))) = false := by simpa using c27))
              have c27m : ¬ (t203.toList = ([] : List UInt8)) := fun h_ => by rw [h_] at c27b0; exact absurd c27b0 (by decide)
              have c27n : t203.toList.isEmpty = false := by cases h_ : t203.toList with | nil => exact absurd h_ c27m | cons a l => rfl
              (try (have c27b3 : ¬ (false = (t203.toList != ([] : List UInt8))) := by simpa using c27))
              clear c27
              obtain rfl := Option.some.inj H
              go_wp2_with (first | ((with_reducible refine gate_callee (f := 10) rfl ?_); refine goesL_ (some 31) rfl rfl Try.func10 (by kernel_rfl) rfl #[.int .i64 a0] rfl (by (try simp only [List.map_toArray, List.map_cons, List.map_nil]); first | done | rfl | (simp only [List.length_drop, List.length_take]; rfl)) ?_; (with_reducible refine (code_Name.calls a0 t203 _ A26.out).mono ?_); rintro e w29 ⟨rfl, hb⟩; refine ⟨_, rfl, ?_⟩; have n0_ := Aside0.mk (below_step (by repeat (first | (with_reducible first | exact HB.out | apply below_alloc | apply pw_below_drewN | apply below_drew1) | exact HB.out)) hb); clear HB; have HB := n0_; clear n0_; (try clear hb); (try clear hb2); (try clear hk); (try clear hi)))
              go_ret
              exact ⟨by first | rfl | (simp [errW_none, errW_some] <;> rfl) | (simp [*, errW_none, errW_some] <;> rfl), by repeat (first | (with_reducible first | exact HB.out | apply below_alloc | apply pw_below_drewN | apply below_drew1) | exact HB.out)⟩
  · replace c4 := Bool.eq_false_iff.mpr c4
    subst c4
    have H1 : (some false) = some r := by rw [if_neg (show ¬ (false = true) by decide)] at H; exact H
    clear H
    have H := H1
    clear H1
    obtain rfl := Option.some.inj H
    go_enter Try.func8, Try.ntmps8
    go_wp2_with (first | ((with_reducible refine gate_callee (f := 14) rfl ?_); refine goesL_ (some 7) rfl rfl Try.func14 (by kernel_rfl) rfl #[] rfl (by (try simp only [List.map_toArray, List.map_cons, List.map_nil]); first | done | rfl | (simp only [List.length_drop, List.length_take]; rfl)) ?_; (with_reducible refine (tallowlaw20_works.calls  false _ A3.out).mono ?_); rintro e w30 ⟨rfl, hb⟩; refine ⟨_, rfl, ?_⟩; have n0_ := Aside0.mk (below_step (by repeat (first | (with_reducible first | exact HB.out | apply below_alloc | apply pw_below_drewN | apply below_drew1) | exact HB.out)) hb); clear HB; have HB := n0_; clear n0_; (try clear hb); (try clear hb2); (try clear hk); (try clear hi)))
    go_ret
    exact ⟨by first | rfl | (simp [errW_none, errW_some] <;> rfl) | (simp [*, errW_none, errW_some] <;> rfl), by repeat (first | (with_reducible first | exact HB.out | apply below_alloc | apply pw_below_drewN | apply below_drew1) | exact HB.out)⟩

/-- THE ONE PURE STATEMENT of tallowlaw20_CodeBack: yours. -/
def tallowlaw20_CodeBack.Pure : Prop := ∀ (a0 : Int) (a1 : ByteArray), (Lit.int .i64 a0).wf = true → a1.size ≤ 140737488351232 → ∃ k, tallowlaw20_CodeBack.f k a0 a1 = some true
theorem tallowlaw20_CodeBack.walk (P : tallowlaw20_CodeBack.Pure) (a0 : Int) (a1 : ByteArray) (w : World) (w0 : (Lit.int .i64 a0).wf = true) (w1 : a1.size ≤ 140737488351232) :
    Calls Try.prog 8 #[.int .i64 a0, .string a1] w fun e w' => e = .returned (.bool true) ∧ Below w.heap.size w w' := by
  obtain ⟨k, h⟩ := P a0 a1 w0 w1
  refine (tallowlaw20_CodeBack.calls k a0 a1 true w h).mono ?_
  rintro e w' ⟨rfl, hd⟩
  exact ⟨rfl, hd⟩

end Go.Proofs.Ytpdcedmnkkiekaa.G
