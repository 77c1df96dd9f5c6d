-- written by a program of this session (handprint.sh), over functions proved by hand
import Derived.Test.YtilmmmpbcgobaaaDoorGx0
import Derived.Test.YtilmmmpbcgobaaaDoorGxF20
import Derived.Test.YtilmmmpbcgobaaaDoorGxF15
namespace Go.Proofs.YtilmmmpbcgobaaaDoor.G
open Go.RowKit Go.Proofs.YtilmmmpbcgobaaaDoorW.PrintWords Go.Proofs.YtilmmmpbcgobaaaDoorW.PrintLast Go.Proofs.YtilmmmpbcgobaaaDoorW.PrintMore
attribute [local go_sem] max2_int min2_int max_two min_two max_three min_three max_four min_four   -- for this text's walks alone
set_option linter.unusedVariables false
set_option linter.unusedSimpArgs false

/-! ### tallowlaw01_NumRing: function 6 -/
def tallowlaw01_NumRing.j0 : Nat → Int → Int → Int → Int → Bool → Option (Bool)
  | 0, _, _, _, _, _ => none
  | k + 1, x0, x1, x2, x8, x43 => if x43 = true then (some false) else ((tallowlaw01_do.f 2 x0 x1).bind fun t203 => ((tallowlaw01_do.f 2 x1 x2).bind fun t204 => ((tallowlaw01_do.f 2 x1 x0).bind fun t205 => (if t203 = t205 then ((tallowlaw01_do.f 2 t203 x2).bind fun t206 => ((tallowlaw01_do.f 2 x0 t204).bind fun t207 => (if t206 = t207 then ((tallowlaw01_do.f 2 x0 1).bind fun t208 => (if t208 = x0 then ((tallowlaw01_do.f 2 x0 x8).bind fun t209 => ((tallowlaw01_do.f 2 x0 x2).bind fun t210 => ((tallowlaw01_do.f 0 t203 t210).bind fun t211 => (if t209 = t211 then ((tallowlaw01_works.f).bind fun t212 => (some t212)) else (some false))))) else (some false))) else (some false)))) else (some false)))))
def tallowlaw01_NumRing.f (k : Nat) (a0 : Int) (a1 : Int) (a2 : Int) : Option (Bool) := (tallowlaw01_do.f 0 a0 a1).bind fun t196 => ((tallowlaw01_do.f 0 a1 a2).bind fun t197 => ((tallowlaw01_do.f 0 a1 a0).bind fun t198 => (if t196 = t198 then ((tallowlaw01_do.f 0 t196 a2).bind fun t199 => ((tallowlaw01_do.f 0 a0 t197).bind fun t200 => (if t199 = t200 then ((tallowlaw01_do.f 1 t196 a1).bind fun t201 => (if t201 = a0 then ((tallowlaw01_do.f 0 a0 0).bind fun t202 => (tallowlaw01_NumRing.j0 k a0 a1 a2 t197 (t202 != a0))) else (tallowlaw01_NumRing.j0 k a0 a1 a2 t197 true))) else (tallowlaw01_NumRing.j0 k a0 a1 a2 t197 true)))) else (tallowlaw01_NumRing.j0 k a0 a1 a2 t197 true))))
theorem tallowlaw01_NumRing.mono_l : ∀ k, (∀ y0 y1 y2 y3 y4, LeO (tallowlaw01_NumRing.j0 k y0 y1 y2 y3 y4) (tallowlaw01_NumRing.j0 (k + 1) y0 y1 y2 y3 y4))
  | 0 => fun _ _ _ _ _ r h => by simp [tallowlaw01_NumRing.j0] at h
  | k + 1 => by
    have ih0 := tallowlaw01_NumRing.mono_l k
    · intro y0 y1 y2 y3 y4
      unfold tallowlaw01_NumRing.j0
      repeat' first
      | (with_reducible exact ih0 _ _ _ _ _)
      | (with_reducible exact LeO.refl _)
      | (with_reducible exact LeO.none _)
      | (with_reducible refine LeO.ite ?_ ?_)
      | (with_reducible refine LeO.bind ?_ (fun _ => ?_))
      | exact ih0 _ _ _ _ _
      | exact LeO.none _
      | refine LeO.ite ?_ ?_
      | refine LeO.bind ?_ (fun _ => ?_)
theorem tallowlaw01_NumRing.mono : ∀ a0 a1 a2 k, LeO (tallowlaw01_NumRing.f k a0 a1 a2) (tallowlaw01_NumRing.f (k + 1) a0 a1 a2) := by
  intro a0 a1 a2 k
  have ih0 := tallowlaw01_NumRing.mono_l k
  unfold tallowlaw01_NumRing.f
  repeat' first
      | (with_reducible exact ih0 _ _ _ _ _)
      | (with_reducible exact LeO.refl _)
      | (with_reducible exact LeO.none _)
      | (with_reducible refine LeO.ite ?_ ?_)
      | (with_reducible refine LeO.bind ?_ (fun _ => ?_))
      | exact ih0 _ _ _ _ _
      | exact LeO.none _
      | refine LeO.ite ?_ ?_
      | refine LeO.bind ?_ (fun _ => ?_)
set_option maxHeartbeats 8000000 in
set_option maxRecDepth 100000 in
theorem tallowlaw01_NumRing.calls (k : Nat) (a0 : Int) (a1 : Int) (a2 : Int) (r : Bool) (w : World) (hL : Laid w) (h : tallowlaw01_NumRing.f k a0 a1 a2 = some r) :
    Calls Tryd.prog 6 #[.int .i64 a0, .int .i64 a1, .int .i64 a2] w fun e w' => e = .returned (.bool r) ∧ Below w.heap.size w w' := by
  have HL := Aside0.mk hL
  clear hL
  have HB := Aside0.mk (Below.refl w.heap.size w)
  have H : ((tallowlaw01_do.f 0 a0 a1).bind fun t196 => ((tallowlaw01_do.f 0 a1 a2).bind fun t197 => ((tallowlaw01_do.f 0 a1 a0).bind fun t198 => (if t196 = t198 then ((tallowlaw01_do.f 0 t196 a2).bind fun t199 => ((tallowlaw01_do.f 0 a0 t197).bind fun t200 => (if t199 = t200 then ((tallowlaw01_do.f 1 t196 a1).bind fun t201 => (if t201 = a0 then ((tallowlaw01_do.f 0 a0 0).bind fun t202 => (tallowlaw01_NumRing.j0 k a0 a1 a2 t197 (t202 != a0))) else (tallowlaw01_NumRing.j0 k a0 a1 a2 t197 true))) else (tallowlaw01_NumRing.j0 k a0 a1 a2 t197 true)))) else (tallowlaw01_NumRing.j0 k a0 a1 a2 t197 true))))) = some r := h
  clear h
  replace H := Option.bind_eq_some_iff.mp H
  obtain ⟨t196, A40, H⟩ := H
  replace H : ((tallowlaw01_do.f 0 a1 a2).bind fun t197 => ((tallowlaw01_do.f 0 a1 a0).bind fun t198 => (if t196 = t198 then ((tallowlaw01_do.f 0 t196 a2).bind fun t199 => ((tallowlaw01_do.f 0 a0 t197).bind fun t200 => (if t199 = t200 then ((tallowlaw01_do.f 1 t196 a1).bind fun t201 => (if t201 = a0 then ((tallowlaw01_do.f 0 a0 0).bind fun t202 => (tallowlaw01_NumRing.j0 k a0 a1 a2 t197 (t202 != a0))) else (tallowlaw01_NumRing.j0 k a0 a1 a2 t197 true))) else (tallowlaw01_NumRing.j0 k a0 a1 a2 t197 true)))) else (tallowlaw01_NumRing.j0 k a0 a1 a2 t197 true)))) = some r := H
  have A4 := Aside0.mk A40
  clear A40
  replace H := Option.bind_eq_some_iff.mp H
  obtain ⟨t197, A50, H⟩ := H
  replace H : ((tallowlaw01_do.f 0 a1 a0).bind fun t198 => (if t196 = t198 then ((tallowlaw01_do.f 0 t196 a2).bind fun t199 => ((tallowlaw01_do.f 0 a0 t197).bind fun t200 => (if t199 = t200 then ((tallowlaw01_do.f 1 t196 a1).bind fun t201 => (if t201 = a0 then ((tallowlaw01_do.f 0 a0 0).bind fun t202 => (tallowlaw01_NumRing.j0 k a0 a1 a2 t197 (t202 != a0))) else (tallowlaw01_NumRing.j0 k a0 a1 a2 t197 true))) else (tallowlaw01_NumRing.j0 k a0 a1 a2 t197 true)))) else (tallowlaw01_NumRing.j0 k a0 a1 a2 t197 true))) = some r := H
  have A5 := Aside0.mk A50
  clear A50
  have HC6 := Aside0.mk H
  clear H
  go_enter Tryd.func6, Tryd.ntmps6
  go_upto_region 2 with (first | ((with_reducible refine gate_callee (f := 20) rfl ?_); refine goesL_ (some 13) rfl rfl Tryd.func20 (by kernel_rfl) rfl #[.int .i64 0, .int .i64 a0, .int .i64 a1] rfl (by (try simp only [List.map_toArray, List.map_cons, List.map_nil]); first | done | rfl | (simp only [List.length_drop, List.length_take]; rfl)) ?_; (with_reducible refine (tallowlaw01_do.calls 0 a0 a1 t196 _ A4.out).mono ?_); rintro e w7 ⟨rfl, hb⟩; refine ⟨_, rfl, ?_⟩; have n0_ := Aside0.mk (below_step (by repeat (first | (with_reducible first | exact HB.out | apply below_alloc | apply pw_below_drewN | apply below_drew1) | exact HB.out)) hb); clear HB; have HB := n0_; clear n0_; (try clear hb); (try clear hb2); (try clear hk); (try clear hi)) | ((with_reducible refine gate_callee (f := 20) rfl ?_); refine goesL_ (some 16) rfl rfl Tryd.func20 (by kernel_rfl) rfl #[.int .i64 0, .int .i64 a1, .int .i64 a2] rfl (by (try simp only [List.map_toArray, List.map_cons, List.map_nil]); first | done | rfl | (simp only [List.length_drop, List.length_take]; rfl)) ?_; (with_reducible refine (tallowlaw01_do.calls 0 a1 a2 t197 _ A5.out).mono ?_); rintro e w8 ⟨rfl, hb⟩; refine ⟨_, rfl, ?_⟩; have n0_ := Aside0.mk (below_step (by repeat (first | (with_reducible first | exact HB.out | apply below_alloc | apply pw_below_drewN | apply below_drew1) | exact HB.out)) hb); clear HB; have HB := n0_; clear n0_; (try clear hb); (try clear hb2); (try clear hk); (try clear hi)))
  (try simp only [Act.put, List.setIfInBounds_toArray, List.set_cons_zero, List.set_cons_succ])
  go_cut [43] (fun v43 wc => ∃ (kq : Nat) (x43_5 : Bool), v43 = .bool x43_5 ∧ Aside0 (tallowlaw01_NumRing.j0 kq a0 a1 a2 t197 x43_5 = some r) ∧ Aside0 (kq ≤ k) ∧ Aside0 (Below w.heap.size w wc))
  case first =>
    have H := HC6.out
    clear HC6
    replace H := Option.bind_eq_some_iff.mp H
    obtain ⟨t198, A90, H⟩ := H
    replace H : (if t196 = t198 then ((tallowlaw01_do.f 0 t196 a2).bind fun t199 => ((tallowlaw01_do.f 0 a0 t197).bind fun t200 => (if t199 = t200 then ((tallowlaw01_do.f 1 t196 a1).bind fun t201 => (if t201 = a0 then ((tallowlaw01_do.f 0 a0 0).bind fun t202 => (tallowlaw01_NumRing.j0 k a0 a1 a2 t197 (t202 != a0))) else (tallowlaw01_NumRing.j0 k a0 a1 a2 t197 true))) else (tallowlaw01_NumRing.j0 k a0 a1 a2 t197 true)))) else (tallowlaw01_NumRing.j0 k a0 a1 a2 t197 true)) = some r := H
    have A9 := Aside0.mk A90
    clear A90
    by_cases c10 : t196 = t198
    · rw [if_pos c10] at H
      have c10b0 : (t196 == t198) = true := beq_iff_eq.mpr c10
      have c10b1 : (t196 != t198) = false := bne_eq_false_iff_eq.mpr c10
      clear c10
      (first | rw [c10b0] | (simp only [i64_w, i32_w]; rw [c10b0]) | skip)
      replace H := Option.bind_eq_some_iff.mp H
      obtain ⟨t199, A110, H⟩ := H
      replace H : ((tallowlaw01_do.f 0 a0 t197).bind fun t200 => (if t199 = t200 then ((tallowlaw01_do.f 1 t196 a1).bind fun t201 => (if t201 = a0 then ((tallowlaw01_do.f 0 a0 0).bind fun t202 => (tallowlaw01_NumRing.j0 k a0 a1 a2 t197 (t202 != a0))) else (tallowlaw01_NumRing.j0 k a0 a1 a2 t197 true))) else (tallowlaw01_NumRing.j0 k a0 a1 a2 t197 true))) = some r := H
      have A11 := Aside0.mk A110
      clear A110
      replace H := Option.bind_eq_some_iff.mp H
      obtain ⟨t200, A120, H⟩ := H
      replace H : (if t199 = t200 then ((tallowlaw01_do.f 1 t196 a1).bind fun t201 => (if t201 = a0 then ((tallowlaw01_do.f 0 a0 0).bind fun t202 => (tallowlaw01_NumRing.j0 k a0 a1 a2 t197 (t202 != a0))) else (tallowlaw01_NumRing.j0 k a0 a1 a2 t197 true))) else (tallowlaw01_NumRing.j0 k a0 a1 a2 t197 true)) = some r := H
      have A12 := Aside0.mk A120
      clear A120
      by_cases c13 : t199 = t200
      · rw [if_pos c13] at H
        have c13b0 : (t199 == t200) = true := beq_iff_eq.mpr c13
        have c13b1 : (t199 != t200) = false := bne_eq_false_iff_eq.mpr c13
        clear c13
        replace H := Option.bind_eq_some_iff.mp H
        obtain ⟨t201, A140, H⟩ := H
        replace H : (if t201 = a0 then ((tallowlaw01_do.f 0 a0 0).bind fun t202 => (tallowlaw01_NumRing.j0 k a0 a1 a2 t197 (t202 != a0))) else (tallowlaw01_NumRing.j0 k a0 a1 a2 t197 true)) = some r := H
        have A14 := Aside0.mk A140
        clear A140
        by_cases c15 : t201 = a0
        · rw [if_pos c15] at H
          have c15b0 : (t201 == a0) = true := beq_iff_eq.mpr c15
          have c15b1 : (t201 != a0) = false := bne_eq_false_iff_eq.mpr c15
          clear c15
          replace H := Option.bind_eq_some_iff.mp H
          obtain ⟨t202, A160, H⟩ := H
          replace H : (tallowlaw01_NumRing.j0 k a0 a1 a2 t197 (t202 != a0)) = some r := H
          have A16 := Aside0.mk A160
          clear A160
          have H' := Aside0.mk H
          clear H
          go_wp2_with (first | ((with_reducible refine gate_callee (f := 20) rfl ?_); refine goesL_ (some 20) rfl rfl Tryd.func20 (by kernel_rfl) rfl #[.int .i64 0, .int .i64 a1, .int .i64 a0] rfl (by (try simp only [List.map_toArray, List.map_cons, List.map_nil]); first | done | rfl | (simp only [List.length_drop, List.length_take]; rfl)) ?_; (with_reducible refine (tallowlaw01_do.calls 0 a1 a0 t198 _ A9.out).mono ?_); rintro e w17 ⟨rfl, hb⟩; refine ⟨_, rfl, ?_⟩; have n0_ := Aside0.mk (below_step (by repeat (first | (with_reducible first | exact HB.out | apply below_alloc | apply pw_below_drewN | apply below_drew1) | exact HB.out)) hb); clear HB; have HB := n0_; clear n0_; (try clear hb); (try clear hb2); (try clear hk); (try clear hi)) | (go_at_call 20; (with_reducible refine (tallowlaw01_do.calls 0 t196 a2 t199 _ A11.out).mono ?_); rintro e w18 ⟨rfl, hb⟩; have n0_ := Aside0.mk (below_step (by repeat (first | (with_reducible first | exact HB.out | apply below_alloc | apply pw_below_drewN | apply below_drew1) | exact HB.out)) hb); clear HB; have HB := n0_; clear n0_; (try clear hb); (try clear hb2); (try clear hk); (try clear hi)) | (go_at_call 20; (with_reducible refine (tallowlaw01_do.calls 0 a0 t197 t200 _ A12.out).mono ?_); rintro e w19 ⟨rfl, hb⟩; have n0_ := Aside0.mk (below_step (by repeat (first | (with_reducible first | exact HB.out | apply below_alloc | apply pw_below_drewN | apply below_drew1) | exact HB.out)) hb); clear HB; have HB := n0_; clear n0_; (try clear hb); (try clear hb2); (try clear hk); (try clear hi)) | (go_at_call 20; (with_reducible refine (tallowlaw01_do.calls 1 t196 a1 t201 _ A14.out).mono ?_); rintro e w20 ⟨rfl, hb⟩; have n0_ := Aside0.mk (below_step (by repeat (first | (with_reducible first | exact HB.out | apply below_alloc | apply pw_below_drewN | apply below_drew1) | exact HB.out)) hb); clear HB; have HB := n0_; clear n0_; (try clear hb); (try clear hb2); (try clear hk); (try clear hi)) | (go_at_call 20; (with_reducible refine (tallowlaw01_do.calls 0 a0 0 t202 _ A16.out).mono ?_); rintro e w21 ⟨rfl, hb⟩; have n0_ := Aside0.mk (below_step (by repeat (first | (with_reducible first | exact HB.out | apply below_alloc | apply pw_below_drewN | apply below_drew1) | exact HB.out)) hb); clear HB; have HB := n0_; clear n0_; (try clear hb); (try clear hb2); (try clear hk); (try clear hi)))
          go_meet
          case rel => exact ⟨_, ((t202 != a0)), (by first | rfl | (simp; done) | (simp [*]; done)), H', ⟨by first | omega | exact Nat.le_refl _⟩, ⟨by repeat (first | (with_reducible first | exact HB.out | apply below_alloc | apply pw_below_drewN | apply below_drew1) | exact HB.out)⟩⟩
        · rw [if_neg c15] at H
          have c15b0 : (t201 == a0) = false := beq_eq_false_iff_ne.mpr c15
          have c15b1 : (t201 != a0) = true := bne_iff_ne.mpr c15
          have H' := Aside0.mk H
          clear H
          go_wp2_with (first | ((with_reducible refine gate_callee (f := 20) rfl ?_); refine goesL_ (some 20) rfl rfl Tryd.func20 (by kernel_rfl) rfl #[.int .i64 0, .int .i64 a1, .int .i64 a0] rfl (by (try simp only [List.map_toArray, List.map_cons, List.map_nil]); first | done | rfl | (simp only [List.length_drop, List.length_take]; rfl)) ?_; (with_reducible refine (tallowlaw01_do.calls 0 a1 a0 t198 _ A9.out).mono ?_); rintro e w22 ⟨rfl, hb⟩; refine ⟨_, rfl, ?_⟩; have n0_ := Aside0.mk (below_step (by repeat (first | (with_reducible first | exact HB.out | apply below_alloc | apply pw_below_drewN | apply below_drew1) | exact HB.out)) hb); clear HB; have HB := n0_; clear n0_; (try clear hb); (try clear hb2); (try clear hk); (try clear hi)) | (go_at_call 20; (with_reducible refine (tallowlaw01_do.calls 0 t196 a2 t199 _ A11.out).mono ?_); rintro e w23 ⟨rfl, hb⟩; have n0_ := Aside0.mk (below_step (by repeat (first | (with_reducible first | exact HB.out | apply below_alloc | apply pw_below_drewN | apply below_drew1) | exact HB.out)) hb); clear HB; have HB := n0_; clear n0_; (try clear hb); (try clear hb2); (try clear hk); (try clear hi)) | (go_at_call 20; (with_reducible refine (tallowlaw01_do.calls 0 a0 t197 t200 _ A12.out).mono ?_); rintro e w24 ⟨rfl, hb⟩; have n0_ := Aside0.mk (below_step (by repeat (first | (with_reducible first | exact HB.out | apply below_alloc | apply pw_below_drewN | apply below_drew1) | exact HB.out)) hb); clear HB; have HB := n0_; clear n0_; (try clear hb); (try clear hb2); (try clear hk); (try clear hi)) | (go_at_call 20; (with_reducible refine (tallowlaw01_do.calls 1 t196 a1 t201 _ A14.out).mono ?_); rintro e w25 ⟨rfl, hb⟩; have n0_ := Aside0.mk (below_step (by repeat (first | (with_reducible first | exact HB.out | apply below_alloc | apply pw_below_drewN | apply below_drew1) | exact HB.out)) hb); clear HB; have HB := n0_; clear n0_; (try clear hb); (try clear hb2); (try clear hk); (try clear hi)))
          go_meet
          case rel => exact ⟨_, (true), (by first | rfl | (simp; done) | (simp [*]; done)), H', ⟨by first | omega | exact Nat.le_refl _⟩, ⟨by repeat (first | (with_reducible first | exact HB.out | apply below_alloc | apply pw_below_drewN | apply below_drew1) | exact HB.out)⟩⟩
      · rw [if_neg c13] at H
        have c13b0 : (t199 == t200) = false := beq_eq_false_iff_ne.mpr c13
        have c13b1 : (t199 != t200) = true := bne_iff_ne.mpr c13
        have H' := Aside0.mk H
        clear H
        go_wp2_with (first | ((with_reducible refine gate_callee (f := 20) rfl ?_); refine goesL_ (some 20) rfl rfl Tryd.func20 (by kernel_rfl) rfl #[.int .i64 0, .int .i64 a1, .int .i64 a0] rfl (by (try simp only [List.map_toArray, List.map_cons, List.map_nil]); first | done | rfl | (simp only [List.length_drop, List.length_take]; rfl)) ?_; (with_reducible refine (tallowlaw01_do.calls 0 a1 a0 t198 _ A9.out).mono ?_); rintro e w26 ⟨rfl, hb⟩; refine ⟨_, rfl, ?_⟩; have n0_ := Aside0.mk (below_step (by repeat (first | (with_reducible first | exact HB.out | apply below_alloc | apply pw_below_drewN | apply below_drew1) | exact HB.out)) hb); clear HB; have HB := n0_; clear n0_; (try clear hb); (try clear hb2); (try clear hk); (try clear hi)) | (go_at_call 20; (with_reducible refine (tallowlaw01_do.calls 0 t196 a2 t199 _ A11.out).mono ?_); rintro e w27 ⟨rfl, hb⟩; have n0_ := Aside0.mk (below_step (by repeat (first | (with_reducible first | exact HB.out | apply below_alloc | apply pw_below_drewN | apply below_drew1) | exact HB.out)) hb); clear HB; have HB := n0_; clear n0_; (try clear hb); (try clear hb2); (try clear hk); (try clear hi)) | (go_at_call 20; (with_reducible refine (tallowlaw01_do.calls 0 a0 t197 t200 _ A12.out).mono ?_); rintro e w28 ⟨rfl, hb⟩; have n0_ := Aside0.mk (below_step (by repeat (first | (with_reducible first | exact HB.out | apply below_alloc | apply pw_below_drewN | apply below_drew1) | exact HB.out)) hb); clear HB; have HB := n0_; clear n0_; (try clear hb); (try clear hb2); (try clear hk); (try clear hi)))
        go_meet
        case rel => exact ⟨_, (true), (by first | rfl | (simp; done) | (simp [*]; done)), H', ⟨by first | omega | exact Nat.le_refl _⟩, ⟨by repeat (first | (with_reducible first | exact HB.out | apply below_alloc | apply pw_below_drewN | apply below_drew1) | exact HB.out)⟩⟩
    · rw [if_neg c10] at H
      have c10b0 : (t196 == t198) = false := beq_eq_false_iff_ne.mpr c10
      have c10b1 : (t196 != t198) = true := bne_iff_ne.mpr c10
      (first | rw [c10b0] | (simp only [i64_w, i32_w]; rw [c10b0]) | skip)
      have H' := Aside0.mk H
      clear H
      go_wp2_with (first | ((with_reducible refine gate_callee (f := 20) rfl ?_); refine goesL_ (some 20) rfl rfl Tryd.func20 (by kernel_rfl) rfl #[.int .i64 0, .int .i64 a1, .int .i64 a0] rfl (by (try simp only [List.map_toArray, List.map_cons, List.map_nil]); first | done | rfl | (simp only [List.length_drop, List.length_take]; rfl)) ?_; (with_reducible refine (tallowlaw01_do.calls 0 a1 a0 t198 _ A9.out).mono ?_); rintro e w29 ⟨rfl, hb⟩; refine ⟨_, rfl, ?_⟩; have n0_ := Aside0.mk (below_step (by repeat (first | (with_reducible first | exact HB.out | apply below_alloc | apply pw_below_drewN | apply below_drew1) | exact HB.out)) hb); clear HB; have HB := n0_; clear n0_; (try clear hb); (try clear hb2); (try clear hk); (try clear hi)))
      go_meet
      case rel => exact ⟨_, (true), (by first | rfl | (simp; done) | (simp [*]; done)), H', ⟨by first | omega | exact Nat.le_refl _⟩, ⟨by repeat (first | (with_reducible first | exact HB.out | apply below_alloc | apply pw_below_drewN | apply below_drew1) | exact HB.out)⟩⟩
  case rest =>
    clear HC6
    try clear c1
    try clear c2
    try clear p2
    try clear c6
    try clear c10
    try clear c10b0
    try clear c10b1
    try clear c13
    try clear c13b0
    try clear c13b1
    try clear c15
    try clear c15b0
    try clear c15b1
    try clear c20
    obtain ⟨kq, x43_5, rfl, HA, HJ5, HB⟩ := hcut
    cases kq with
    | zero => exact absurd HA.out (by simp [tallowlaw01_NumRing.j0])
    | succ kj5 =>
      have H := HA.out
      clear HA
      simp only [tallowlaw01_NumRing.j0] at H
      by_cases c30 : x43_5 = true
      · subst c30
        have H1 : (some false) = some r := by rw [if_pos rfl] at H; exact H
        clear H
        have H := H1
        clear H1
        obtain rfl := Option.some.inj H
        go_wp2
        go_ret
        exact ⟨by first | rfl | (simp [errW_none, errW_some] <;> rfl) | (simp [*, errW_none, errW_some] <;> rfl), by repeat (first | (with_reducible first | exact HB.out | apply below_alloc | apply pw_below_drewN | apply below_drew1) | exact HB.out)⟩
      · replace c30 := Bool.eq_false_iff.mpr c30
        subst c30
        have H1 : ((tallowlaw01_do.f 2 a0 a1).bind fun t203 => ((tallowlaw01_do.f 2 a1 a2).bind fun t204 => ((tallowlaw01_do.f 2 a1 a0).bind fun t205 => (if t203 = t205 then ((tallowlaw01_do.f 2 t203 a2).bind fun t206 => ((tallowlaw01_do.f 2 a0 t204).bind fun t207 => (if t206 = t207 then ((tallowlaw01_do.f 2 a0 1).bind fun t208 => (if t208 = a0 then ((tallowlaw01_do.f 2 a0 t197).bind fun t209 => ((tallowlaw01_do.f 2 a0 a2).bind fun t210 => ((tallowlaw01_do.f 0 t203 t210).bind fun t211 => (if t209 = t211 then ((tallowlaw01_works.f).bind fun t212 => (some t212)) else (some false))))) else (some false))) else (some false)))) else (some false))))) = some r := by rw [if_neg (show ¬ (false = true) by decide)] at H; exact H
        clear H
        have H := H1
        clear H1
        replace H := Option.bind_eq_some_iff.mp H
        obtain ⟨t203, A310, H⟩ := H
        replace H : ((tallowlaw01_do.f 2 a1 a2).bind fun t204 => ((tallowlaw01_do.f 2 a1 a0).bind fun t205 => (if t203 = t205 then ((tallowlaw01_do.f 2 t203 a2).bind fun t206 => ((tallowlaw01_do.f 2 a0 t204).bind fun t207 => (if t206 = t207 then ((tallowlaw01_do.f 2 a0 1).bind fun t208 => (if t208 = a0 then ((tallowlaw01_do.f 2 a0 t197).bind fun t209 => ((tallowlaw01_do.f 2 a0 a2).bind fun t210 => ((tallowlaw01_do.f 0 t203 t210).bind fun t211 => (if t209 = t211 then ((tallowlaw01_works.f).bind fun t212 => (some t212)) else (some false))))) else (some false))) else (some false)))) else (some false)))) = some r := H
        have A31 := Aside0.mk A310
        clear A310
        replace H := Option.bind_eq_some_iff.mp H
        obtain ⟨t204, A320, H⟩ := H
        replace H : ((tallowlaw01_do.f 2 a1 a0).bind fun t205 => (if t203 = t205 then ((tallowlaw01_do.f 2 t203 a2).bind fun t206 => ((tallowlaw01_do.f 2 a0 t204).bind fun t207 => (if t206 = t207 then ((tallowlaw01_do.f 2 a0 1).bind fun t208 => (if t208 = a0 then ((tallowlaw01_do.f 2 a0 t197).bind fun t209 => ((tallowlaw01_do.f 2 a0 a2).bind fun t210 => ((tallowlaw01_do.f 0 t203 t210).bind fun t211 => (if t209 = t211 then ((tallowlaw01_works.f).bind fun t212 => (some t212)) else (some false))))) else (some false))) else (some false)))) else (some false))) = some r := H
        have A32 := Aside0.mk A320
        clear A320
        replace H := Option.bind_eq_some_iff.mp H
        obtain ⟨t205, A330, H⟩ := H
        replace H : (if t203 = t205 then ((tallowlaw01_do.f 2 t203 a2).bind fun t206 => ((tallowlaw01_do.f 2 a0 t204).bind fun t207 => (if t206 = t207 then ((tallowlaw01_do.f 2 a0 1).bind fun t208 => (if t208 = a0 then ((tallowlaw01_do.f 2 a0 t197).bind fun t209 => ((tallowlaw01_do.f 2 a0 a2).bind fun t210 => ((tallowlaw01_do.f 0 t203 t210).bind fun t211 => (if t209 = t211 then ((tallowlaw01_works.f).bind fun t212 => (some t212)) else (some false))))) else (some false))) else (some false)))) else (some false)) = some r := H
        have A33 := Aside0.mk A330
        clear A330
        by_cases c34 : t203 = t205
        · rw [if_pos c34] at H
          have c34b0 : (t203 == t205) = true := beq_iff_eq.mpr c34
          have c34b1 : (t203 != t205) = false := bne_eq_false_iff_eq.mpr c34
          clear c34
          replace H := Option.bind_eq_some_iff.mp H
          obtain ⟨t206, A350, H⟩ := H
          replace H : ((tallowlaw01_do.f 2 a0 t204).bind fun t207 => (if t206 = t207 then ((tallowlaw01_do.f 2 a0 1).bind fun t208 => (if t208 = a0 then ((tallowlaw01_do.f 2 a0 t197).bind fun t209 => ((tallowlaw01_do.f 2 a0 a2).bind fun t210 => ((tallowlaw01_do.f 0 t203 t210).bind fun t211 => (if t209 = t211 then ((tallowlaw01_works.f).bind fun t212 => (some t212)) else (some false))))) else (some false))) else (some false))) = some r := H
          have A35 := Aside0.mk A350
          clear A350
          replace H := Option.bind_eq_some_iff.mp H
          obtain ⟨t207, A360, H⟩ := H
          replace H : (if t206 = t207 then ((tallowlaw01_do.f 2 a0 1).bind fun t208 => (if t208 = a0 then ((tallowlaw01_do.f 2 a0 t197).bind fun t209 => ((tallowlaw01_do.f 2 a0 a2).bind fun t210 => ((tallowlaw01_do.f 0 t203 t210).bind fun t211 => (if t209 = t211 then ((tallowlaw01_works.f).bind fun t212 => (some t212)) else (some false))))) else (some false))) else (some false)) = some r := H
          have A36 := Aside0.mk A360
          clear A360
          by_cases c37 : t206 = t207
          · rw [if_pos c37] at H
            have c37b0 : (t206 == t207) = true := beq_iff_eq.mpr c37
            have c37b1 : (t206 != t207) = false := bne_eq_false_iff_eq.mpr c37
            clear c37
            replace H := Option.bind_eq_some_iff.mp H
            obtain ⟨t208, A380, H⟩ := H
            replace H : (if t208 = a0 then ((tallowlaw01_do.f 2 a0 t197).bind fun t209 => ((tallowlaw01_do.f 2 a0 a2).bind fun t210 => ((tallowlaw01_do.f 0 t203 t210).bind fun t211 => (if t209 = t211 then ((tallowlaw01_works.f).bind fun t212 => (some t212)) else (some false))))) else (some false)) = some r := H
            have A38 := Aside0.mk A380
            clear A380
            by_cases c39 : t208 = a0
            · rw [if_pos c39] at H
              have c39b0 : (t208 == a0) = true := beq_iff_eq.mpr c39
              have c39b1 : (t208 != a0) = false := bne_eq_false_iff_eq.mpr c39
              clear c39
              replace H := Option.bind_eq_some_iff.mp H
              obtain ⟨t209, A400, H⟩ := H
              replace H : ((tallowlaw01_do.f 2 a0 a2).bind fun t210 => ((tallowlaw01_do.f 0 t203 t210).bind fun t211 => (if t209 = t211 then ((tallowlaw01_works.f).bind fun t212 => (some t212)) else (some false)))) = some r := H
              have A40 := Aside0.mk A400
              clear A400
              replace H := Option.bind_eq_some_iff.mp H
              obtain ⟨t210, A410, H⟩ := H
              replace H : ((tallowlaw01_do.f 0 t203 t210).bind fun t211 => (if t209 = t211 then ((tallowlaw01_works.f).bind fun t212 => (some t212)) else (some false))) = some r := H
              have A41 := Aside0.mk A410
              clear A410
              replace H := Option.bind_eq_some_iff.mp H
              obtain ⟨t211, A420, H⟩ := H
              replace H : (if t209 = t211 then ((tallowlaw01_works.f).bind fun t212 => (some t212)) else (some false)) = some r := H
              have A42 := Aside0.mk A420
              clear A420
              by_cases c43 : t209 = t211
              · rw [if_pos c43] at H
                have c43b0 : (t209 == t211) = true := beq_iff_eq.mpr c43
                have c43b1 : (t209 != t211) = false := bne_eq_false_iff_eq.mpr c43
                clear c43
                replace H := Option.bind_eq_some_iff.mp H
                obtain ⟨t212, A440, H⟩ := H
                replace H : (some t212) = some r := H
                have A44 := Aside0.mk A440
                clear A440
                obtain rfl := Option.some.inj H
                go_wp2_with (first | ((with_reducible refine gate_callee (f := 20) rfl ?_); refine goesL_ (some 46) rfl rfl Tryd.func20 (by kernel_rfl) rfl #[.int .i64 2, .int .i64 a0, .int .i64 a1] rfl (by (try simp only [List.map_toArray, List.map_cons, List.map_nil]); first | done | rfl | (simp only [List.length_drop, List.length_take]; rfl)) ?_; (with_reducible refine (tallowlaw01_do.calls 2 a0 a1 t203 _ A31.out).mono ?_); rintro e w45 ⟨rfl, hb⟩; refine ⟨_, rfl, ?_⟩; have n0_ := Aside0.mk (below_step (by repeat (first | (with_reducible first | exact HB.out | apply below_alloc | apply pw_below_drewN | apply below_drew1) | exact HB.out)) hb); clear HB; have HB := n0_; clear n0_; (try clear hb); (try clear hb2); (try clear hk); (try clear hi)) | ((with_reducible refine gate_callee (f := 20) rfl ?_); refine goesL_ (some 49) rfl rfl Tryd.func20 (by kernel_rfl) rfl #[.int .i64 2, .int .i64 a1, .int .i64 a2] rfl (by (try simp only [List.map_toArray, List.map_cons, List.map_nil]); first | done | rfl | (simp only [List.length_drop, List.length_take]; rfl)) ?_; (with_reducible refine (tallowlaw01_do.calls 2 a1 a2 t204 _ A32.out).mono ?_); rintro e w46 ⟨rfl, hb⟩; refine ⟨_, rfl, ?_⟩; have n0_ := Aside0.mk (below_step (by repeat (first | (with_reducible first | exact HB.out | apply below_alloc | apply pw_below_drewN | apply below_drew1) | exact HB.out)) hb); clear HB; have HB := n0_; clear n0_; (try clear hb); (try clear hb2); (try clear hk); (try clear hi)) | ((with_reducible refine gate_callee (f := 20) rfl ?_); refine goesL_ (some 53) rfl rfl Tryd.func20 (by kernel_rfl) rfl #[.int .i64 2, .int .i64 a1, .int .i64 a0] rfl (by (try simp only [List.map_toArray, List.map_cons, List.map_nil]); first | done | rfl | (simp only [List.length_drop, List.length_take]; rfl)) ?_; (with_reducible refine (tallowlaw01_do.calls 2 a1 a0 t205 _ A33.out).mono ?_); rintro e w47 ⟨rfl, hb⟩; refine ⟨_, rfl, ?_⟩; have n0_ := Aside0.mk (below_step (by repeat (first | (with_reducible first | exact HB.out | apply below_alloc | apply pw_below_drewN | apply below_drew1) | exact HB.out)) hb); clear HB; have HB := n0_; clear n0_; (try clear hb); (try clear hb2); (try clear hk); (try clear hi)) | (go_at_call 20; (with_reducible refine (tallowlaw01_do.calls 2 t203 a2 t206 _ A35.out).mono ?_); rintro e w48 ⟨rfl, hb⟩; have n0_ := Aside0.mk (below_step (by repeat (first | (with_reducible first | exact HB.out | apply below_alloc | apply pw_below_drewN | apply below_drew1) | exact HB.out)) hb); clear HB; have HB := n0_; clear n0_; (try clear hb); (try clear hb2); (try clear hk); (try clear hi)) | (go_at_call 20; (with_reducible refine (tallowlaw01_do.calls 2 a0 t204 t207 _ A36.out).mono ?_); rintro e w49 ⟨rfl, hb⟩; have n0_ := Aside0.mk (below_step (by repeat (first | (with_reducible first | exact HB.out | apply below_alloc | apply pw_below_drewN | apply below_drew1) | exact HB.out)) hb); clear HB; have HB := n0_; clear n0_; (try clear hb); (try clear hb2); (try clear hk); (try clear hi)) | (go_at_call 20; (with_reducible refine (tallowlaw01_do.calls 2 a0 1 t208 _ A38.out).mono ?_); rintro e w50 ⟨rfl, hb⟩; have n0_ := Aside0.mk (below_step (by repeat (first | (with_reducible first | exact HB.out | apply below_alloc | apply pw_below_drewN | apply below_drew1) | exact HB.out)) hb); clear HB; have HB := n0_; clear n0_; (try clear hb); (try clear hb2); (try clear hk); (try clear hi)) | (go_at_call 20; (with_reducible refine (tallowlaw01_do.calls 2 a0 t197 t209 _ A40.out).mono ?_); rintro e w51 ⟨rfl, hb⟩; have n0_ := Aside0.mk (below_step (by repeat (first | (with_reducible first | exact HB.out | apply below_alloc | apply pw_below_drewN | apply below_drew1) | exact HB.out)) hb); clear HB; have HB := n0_; clear n0_; (try clear hb); (try clear hb2); (try clear hk); (try clear hi)) | (go_at_call 20; (with_reducible refine (tallowlaw01_do.calls 2 a0 a2 t210 _ A41.out).mono ?_); rintro e w52 ⟨rfl, hb⟩; have n0_ := Aside0.mk (below_step (by repeat (first | (with_reducible first | exact HB.out | apply below_alloc | apply pw_below_drewN | apply below_drew1) | exact HB.out)) hb); clear HB; have HB := n0_; clear n0_; (try clear hb); (try clear hb2); (try clear hk); (try clear hi)) | (go_at_call 20; (with_reducible refine (tallowlaw01_do.calls 0 t203 t210 t211 _ A42.out).mono ?_); rintro e w53 ⟨rfl, hb⟩; have n0_ := Aside0.mk (below_step (by repeat (first | (with_reducible first | exact HB.out | apply below_alloc | apply pw_below_drewN | apply below_drew1) | exact HB.out)) hb); clear HB; have HB := n0_; clear n0_; (try clear hb); (try clear hb2); (try clear hk); (try clear hi)) | (go_at_call 15; (with_reducible refine (tallowlaw01_works.calls  t212 _ (Laid.below (by repeat (first | (with_reducible first | exact HB.out | apply below_alloc | apply pw_below_drewN | apply below_drew1) | exact HB.out)) HL.out) A44.out).mono ?_); rintro e w54 ⟨rfl, hb⟩; have n0_ := Aside0.mk (below_step (by repeat (first | (with_reducible first | exact HB.out | apply below_alloc | apply pw_below_drewN | apply below_drew1) | exact HB.out)) hb); clear HB; have HB := n0_; clear n0_; (try clear hb); (try clear hb2); (try clear hk); (try clear hi)))
                go_ret
                exact ⟨by first | rfl | (simp [errW_none, errW_some] <;> rfl) | (simp [*, errW_none, errW_some] <;> rfl), by repeat (first | (with_reducible first | exact HB.out | apply below_alloc | apply pw_below_drewN | apply below_drew1) | exact HB.out)⟩
              · rw [if_neg c43] at H
                have c43b0 : (t209 == t211) = false := beq_eq_false_iff_ne.mpr c43
                have c43b1 : (t209 != t211) = true := bne_iff_ne.mpr c43
                obtain rfl := Option.some.inj H
                go_wp2_with (first | ((with_reducible refine gate_callee (f := 20) rfl ?_); refine goesL_ (some 46) rfl rfl Tryd.func20 (by kernel_rfl) rfl #[.int .i64 2, .int .i64 a0, .int .i64 a1] rfl (by (try simp only [List.map_toArray, List.map_cons, List.map_nil]); first | done | rfl | (simp only [List.length_drop, List.length_take]; rfl)) ?_; (with_reducible refine (tallowlaw01_do.calls 2 a0 a1 t203 _ A31.out).mono ?_); rintro e w55 ⟨rfl, hb⟩; refine ⟨_, rfl, ?_⟩; have n0_ := Aside0.mk (below_step (by repeat (first | (with_reducible first | exact HB.out | apply below_alloc | apply pw_below_drewN | apply below_drew1) | exact HB.out)) hb); clear HB; have HB := n0_; clear n0_; (try clear hb); (try clear hb2); (try clear hk); (try clear hi)) | ((with_reducible refine gate_callee (f := 20) rfl ?_); refine goesL_ (some 49) rfl rfl Tryd.func20 (by kernel_rfl) rfl #[.int .i64 2, .int .i64 a1, .int .i64 a2] rfl (by (try simp only [List.map_toArray, List.map_cons, List.map_nil]); first | done | rfl | (simp only [List.length_drop, List.length_take]; rfl)) ?_; (with_reducible refine (tallowlaw01_do.calls 2 a1 a2 t204 _ A32.out).mono ?_); rintro e w56 ⟨rfl, hb⟩; refine ⟨_, rfl, ?_⟩; have n0_ := Aside0.mk (below_step (by repeat (first | (with_reducible first | exact HB.out | apply below_alloc | apply pw_below_drewN | apply below_drew1) | exact HB.out)) hb); clear HB; have HB := n0_; clear n0_; (try clear hb); (try clear hb2); (try clear hk); (try clear hi)) | ((with_reducible refine gate_callee (f := 20) rfl ?_); refine goesL_ (some 53) rfl rfl Tryd.func20 (by kernel_rfl) rfl #[.int .i64 2, .int .i64 a1, .int .i64 a0] rfl (by (try simp only [List.map_toArray, List.map_cons, List.map_nil]); first | done | rfl | (simp only [List.length_drop, List.length_take]; rfl)) ?_; (with_reducible refine (tallowlaw01_do.calls 2 a1 a0 t205 _ A33.out).mono ?_); rintro e w57 ⟨rfl, hb⟩; refine ⟨_, rfl, ?_⟩; have n0_ := Aside0.mk (below_step (by repeat (first | (with_reducible first | exact HB.out | apply below_alloc | apply pw_below_drewN | apply below_drew1) | exact HB.out)) hb); clear HB; have HB := n0_; clear n0_; (try clear hb); (try clear hb2); (try clear hk); (try clear hi)) | (go_at_call 20; (with_reducible refine (tallowlaw01_do.calls 2 t203 a2 t206 _ A35.out).mono ?_); rintro e w58 ⟨rfl, hb⟩; have n0_ := Aside0.mk (below_step (by repeat (first | (with_reducible first | exact HB.out | apply below_alloc | apply pw_below_drewN | apply below_drew1) | exact HB.out)) hb); clear HB; have HB := n0_; clear n0_; (try clear hb); (try clear hb2); (try clear hk); (try clear hi)) | (go_at_call 20; (with_reducible refine (tallowlaw01_do.calls 2 a0 t204 t207 _ A36.out).mono ?_); rintro e w59 ⟨rfl, hb⟩; have n0_ := Aside0.mk (below_step (by repeat (first | (with_reducible first | exact HB.out | apply below_alloc | apply pw_below_drewN | apply below_drew1) | exact HB.out)) hb); clear HB; have HB := n0_; clear n0_; (try clear hb); (try clear hb2); (try clear hk); (try clear hi)) | (go_at_call 20; (with_reducible refine (tallowlaw01_do.calls 2 a0 1 t208 _ A38.out).mono ?_); rintro e w60 ⟨rfl, hb⟩; have n0_ := Aside0.mk (below_step (by repeat (first | (with_reducible first | exact HB.out | apply below_alloc | apply pw_below_drewN | apply below_drew1) | exact HB.out)) hb); clear HB; have HB := n0_; clear n0_; (try clear hb); (try clear hb2); (try clear hk); (try clear hi)) | (go_at_call 20; (with_reducible refine (tallowlaw01_do.calls 2 a0 t197 t209 _ A40.out).mono ?_); rintro e w61 ⟨rfl, hb⟩; have n0_ := Aside0.mk (below_step (by repeat (first | (with_reducible first | exact HB.out | apply below_alloc | apply pw_below_drewN | apply below_drew1) | exact HB.out)) hb); clear HB; have HB := n0_; clear n0_; (try clear hb); (try clear hb2); (try clear hk); (try clear hi)) | (go_at_call 20; (with_reducible refine (tallowlaw01_do.calls 2 a0 a2 t210 _ A41.out).mono ?_); rintro e w62 ⟨rfl, hb⟩; have n0_ := Aside0.mk (below_step (by repeat (first | (with_reducible first | exact HB.out | apply below_alloc | apply pw_below_drewN | apply below_drew1) | exact HB.out)) hb); clear HB; have HB := n0_; clear n0_; (try clear hb); (try clear hb2); (try clear hk); (try clear hi)) | (go_at_call 20; (with_reducible refine (tallowlaw01_do.calls 0 t203 t210 t211 _ A42.out).mono ?_); rintro e w63 ⟨rfl, hb⟩; have n0_ := Aside0.mk (below_step (by repeat (first | (with_reducible first | exact HB.out | apply below_alloc | apply pw_below_drewN | apply below_drew1) | exact HB.out)) hb); clear HB; have HB := n0_; clear n0_; (try clear hb); (try clear hb2); (try clear hk); (try clear hi)))
                go_ret
                exact ⟨by first | rfl | (simp [errW_none, errW_some] <;> rfl) | (simp [*, errW_none, errW_some] <;> rfl), by repeat (first | (with_reducible first | exact HB.out | apply below_alloc | apply pw_below_drewN | apply below_drew1) | exact HB.out)⟩
            · rw [if_neg c39] at H
              have c39b0 : (t208 == a0) = false := beq_eq_false_iff_ne.mpr c39
              have c39b1 : (t208 != a0) = true := bne_iff_ne.mpr c39
              obtain rfl := Option.some.inj H
              go_wp2_with (first | ((with_reducible refine gate_callee (f := 20) rfl ?_); refine goesL_ (some 46) rfl rfl Tryd.func20 (by kernel_rfl) rfl #[.int .i64 2, .int .i64 a0, .int .i64 a1] rfl (by (try simp only [List.map_toArray, List.map_cons, List.map_nil]); first | done | rfl | (simp only [List.length_drop, List.length_take]; rfl)) ?_; (with_reducible refine (tallowlaw01_do.calls 2 a0 a1 t203 _ A31.out).mono ?_); rintro e w64 ⟨rfl, hb⟩; refine ⟨_, rfl, ?_⟩; have n0_ := Aside0.mk (below_step (by repeat (first | (with_reducible first | exact HB.out | apply below_alloc | apply pw_below_drewN | apply below_drew1) | exact HB.out)) hb); clear HB; have HB := n0_; clear n0_; (try clear hb); (try clear hb2); (try clear hk); (try clear hi)) | ((with_reducible refine gate_callee (f := 20) rfl ?_); refine goesL_ (some 49) rfl rfl Tryd.func20 (by kernel_rfl) rfl #[.int .i64 2, .int .i64 a1, .int .i64 a2] rfl (by (try simp only [List.map_toArray, List.map_cons, List.map_nil]); first | done | rfl | (simp only [List.length_drop, List.length_take]; rfl)) ?_; (with_reducible refine (tallowlaw01_do.calls 2 a1 a2 t204 _ A32.out).mono ?_); rintro e w65 ⟨rfl, hb⟩; refine ⟨_, rfl, ?_⟩; have n0_ := Aside0.mk (below_step (by repeat (first | (with_reducible first | exact HB.out | apply below_alloc | apply pw_below_drewN | apply below_drew1) | exact HB.out)) hb); clear HB; have HB := n0_; clear n0_; (try clear hb); (try clear hb2); (try clear hk); (try clear hi)) | ((with_reducible refine gate_callee (f := 20) rfl ?_); refine goesL_ (some 53) rfl rfl Tryd.func20 (by kernel_rfl) rfl #[.int .i64 2, .int .i64 a1, .int .i64 a0] rfl (by (try simp only [List.map_toArray, List.map_cons, List.map_nil]); first | done | rfl | (simp only [List.length_drop, List.length_take]; rfl)) ?_; (with_reducible refine (tallowlaw01_do.calls 2 a1 a0 t205 _ A33.out).mono ?_); rintro e w66 ⟨rfl, hb⟩; refine ⟨_, rfl, ?_⟩; have n0_ := Aside0.mk (below_step (by repeat (first | (with_reducible first | exact HB.out | apply below_alloc | apply pw_below_drewN | apply below_drew1) | exact HB.out)) hb); clear HB; have HB := n0_; clear n0_; (try clear hb); (try clear hb2); (try clear hk); (try clear hi)) | (go_at_call 20; (with_reducible refine (tallowlaw01_do.calls 2 t203 a2 t206 _ A35.out).mono ?_); rintro e w67 ⟨rfl, hb⟩; have n0_ := Aside0.mk (below_step (by repeat (first | (with_reducible first | exact HB.out | apply below_alloc | apply pw_below_drewN | apply below_drew1) | exact HB.out)) hb); clear HB; have HB := n0_; clear n0_; (try clear hb); (try clear hb2); (try clear hk); (try clear hi)) | (go_at_call 20; (with_reducible refine (tallowlaw01_do.calls 2 a0 t204 t207 _ A36.out).mono ?_); rintro e w68 ⟨rfl, hb⟩; have n0_ := Aside0.mk (below_step (by repeat (first | (with_reducible first | exact HB.out | apply below_alloc | apply pw_below_drewN | apply below_drew1) | exact HB.out)) hb); clear HB; have HB := n0_; clear n0_; (try clear hb); (try clear hb2); (try clear hk); (try clear hi)) | (go_at_call 20; (with_reducible refine (tallowlaw01_do.calls 2 a0 1 t208 _ A38.out).mono ?_); rintro e w69 ⟨rfl, hb⟩; have n0_ := Aside0.mk (below_step (by repeat (first | (with_reducible first | exact HB.out | apply below_alloc | apply pw_below_drewN | apply below_drew1) | exact HB.out)) hb); clear HB; have HB := n0_; clear n0_; (try clear hb); (try clear hb2); (try clear hk); (try clear hi)))
              go_ret
              exact ⟨by first | rfl | (simp [errW_none, errW_some] <;> rfl) | (simp [*, errW_none, errW_some] <;> rfl), by repeat (first | (with_reducible first | exact HB.out | apply below_alloc | apply pw_below_drewN | apply below_drew1) | exact HB.out)⟩
          · rw [if_neg c37] at H
            have c37b0 : (t206 == t207) = false := beq_eq_false_iff_ne.mpr c37
            have c37b1 : (t206 != t207) = true := bne_iff_ne.mpr c37
            obtain rfl := Option.some.inj H
            go_wp2_with (first | ((with_reducible refine gate_callee (f := 20) rfl ?_); refine goesL_ (some 46) rfl rfl Tryd.func20 (by kernel_rfl) rfl #[.int .i64 2, .int .i64 a0, .int .i64 a1] rfl (by (try simp only [List.map_toArray, List.map_cons, List.map_nil]); first | done | rfl | (simp only [List.length_drop, List.length_take]; rfl)) ?_; (with_reducible refine (tallowlaw01_do.calls 2 a0 a1 t203 _ A31.out).mono ?_); rintro e w70 ⟨rfl, hb⟩; refine ⟨_, rfl, ?_⟩; have n0_ := Aside0.mk (below_step (by repeat (first | (with_reducible first | exact HB.out | apply below_alloc | apply pw_below_drewN | apply below_drew1) | exact HB.out)) hb); clear HB; have HB := n0_; clear n0_; (try clear hb); (try clear hb2); (try clear hk); (try clear hi)) | ((with_reducible refine gate_callee (f := 20) rfl ?_); refine goesL_ (some 49) rfl rfl Tryd.func20 (by kernel_rfl) rfl #[.int .i64 2, .int .i64 a1, .int .i64 a2] rfl (by (try simp only [List.map_toArray, List.map_cons, List.map_nil]); first | done | rfl | (simp only [List.length_drop, List.length_take]; rfl)) ?_; (with_reducible refine (tallowlaw01_do.calls 2 a1 a2 t204 _ A32.out).mono ?_); rintro e w71 ⟨rfl, hb⟩; refine ⟨_, rfl, ?_⟩; have n0_ := Aside0.mk (below_step (by repeat (first | (with_reducible first | exact HB.out | apply below_alloc | apply pw_below_drewN | apply below_drew1) | exact HB.out)) hb); clear HB; have HB := n0_; clear n0_; (try clear hb); (try clear hb2); (try clear hk); (try clear hi)) | ((with_reducible refine gate_callee (f := 20) rfl ?_); refine goesL_ (some 53) rfl rfl Tryd.func20 (by kernel_rfl) rfl #[.int .i64 2, .int .i64 a1, .int .i64 a0] rfl (by (try simp only [List.map_toArray, List.map_cons, List.map_nil]); first | done | rfl | (simp only [List.length_drop, List.length_take]; rfl)) ?_; (with_reducible refine (tallowlaw01_do.calls 2 a1 a0 t205 _ A33.out).mono ?_); rintro e w72 ⟨rfl, hb⟩; refine ⟨_, rfl, ?_⟩; have n0_ := Aside0.mk (below_step (by repeat (first | (with_reducible first | exact HB.out | apply below_alloc | apply pw_below_drewN | apply below_drew1) | exact HB.out)) hb); clear HB; have HB := n0_; clear n0_; (try clear hb); (try clear hb2); (try clear hk); (try clear hi)) | (go_at_call 20; (with_reducible refine (tallowlaw01_do.calls 2 t203 a2 t206 _ A35.out).mono ?_); rintro e w73 ⟨rfl, hb⟩; have n0_ := Aside0.mk (below_step (by repeat (first | (with_reducible first | exact HB.out | apply below_alloc | apply pw_below_drewN | apply below_drew1) | exact HB.out)) hb); clear HB; have HB := n0_; clear n0_; (try clear hb); (try clear hb2); (try clear hk); (try clear hi)) | (go_at_call 20; (with_reducible refine (tallowlaw01_do.calls 2 a0 t204 t207 _ A36.out).mono ?_); rintro e w74 ⟨rfl, hb⟩; have n0_ := Aside0.mk (below_step (by repeat (first | (with_reducible first | exact HB.out | apply below_alloc | apply pw_below_drewN | apply below_drew1) | exact HB.out)) hb); clear HB; have HB := n0_; clear n0_; (try clear hb); (try clear hb2); (try clear hk); (try clear hi)))
            go_ret
            exact ⟨by first | rfl | (simp [errW_none, errW_some] <;> rfl) | (simp [*, errW_none, errW_some] <;> rfl), by repeat (first | (with_reducible first | exact HB.out | apply below_alloc | apply pw_below_drewN | apply below_drew1) | exact HB.out)⟩
        · rw [if_neg c34] at H
          have c34b0 : (t203 == t205) = false := beq_eq_false_iff_ne.mpr c34
          have c34b1 : (t203 != t205) = true := bne_iff_ne.mpr c34
          obtain rfl := Option.some.inj H
          go_wp2_with (first | ((with_reducible refine gate_callee (f := 20) rfl ?_); refine goesL_ (some 46) rfl rfl Tryd.func20 (by kernel_rfl) rfl #[.int .i64 2, .int .i64 a0, .int .i64 a1] rfl (by (try simp only [List.map_toArray, List.map_cons, List.map_nil]); first | done | rfl | (simp only [List.length_drop, List.length_take]; rfl)) ?_; (with_reducible refine (tallowlaw01_do.calls 2 a0 a1 t203 _ A31.out).mono ?_); rintro e w75 ⟨rfl, hb⟩; refine ⟨_, rfl, ?_⟩; have n0_ := Aside0.mk (below_step (by repeat (first | (with_reducible first | exact HB.out | apply below_alloc | apply pw_below_drewN | apply below_drew1) | exact HB.out)) hb); clear HB; have HB := n0_; clear n0_; (try clear hb); (try clear hb2); (try clear hk); (try clear hi)) | ((with_reducible refine gate_callee (f := 20) rfl ?_); refine goesL_ (some 49) rfl rfl Tryd.func20 (by kernel_rfl) rfl #[.int .i64 2, .int .i64 a1, .int .i64 a2] rfl (by (try simp only [List.map_toArray, List.map_cons, List.map_nil]); first | done | rfl | (simp only [List.length_drop, List.length_take]; rfl)) ?_; (with_reducible refine (tallowlaw01_do.calls 2 a1 a2 t204 _ A32.out).mono ?_); rintro e w76 ⟨rfl, hb⟩; refine ⟨_, rfl, ?_⟩; have n0_ := Aside0.mk (below_step (by repeat (first | (with_reducible first | exact HB.out | apply below_alloc | apply pw_below_drewN | apply below_drew1) | exact HB.out)) hb); clear HB; have HB := n0_; clear n0_; (try clear hb); (try clear hb2); (try clear hk); (try clear hi)) | ((with_reducible refine gate_callee (f := 20) rfl ?_); refine goesL_ (some 53) rfl rfl Tryd.func20 (by kernel_rfl) rfl #[.int .i64 2, .int .i64 a1, .int .i64 a0] rfl (by (try simp only [List.map_toArray, List.map_cons, List.map_nil]); first | done | rfl | (simp only [List.length_drop, List.length_take]; rfl)) ?_; (with_reducible refine (tallowlaw01_do.calls 2 a1 a0 t205 _ A33.out).mono ?_); rintro e w77 ⟨rfl, hb⟩; refine ⟨_, rfl, ?_⟩; have n0_ := Aside0.mk (below_step (by repeat (first | (with_reducible first | exact HB.out | apply below_alloc | apply pw_below_drewN | apply below_drew1) | exact HB.out)) hb); clear HB; have HB := n0_; clear n0_; (try clear hb); (try clear hb2); (try clear hk); (try clear hi)))
          go_ret
          exact ⟨by first | rfl | (simp [errW_none, errW_some] <;> rfl) | (simp [*, errW_none, errW_some] <;> rfl), by repeat (first | (with_reducible first | exact HB.out | apply below_alloc | apply pw_below_drewN | apply below_drew1) | exact HB.out)⟩

/-- THE ONE PURE STATEMENT of tallowlaw01_NumRing: yours. -/
def tallowlaw01_NumRing.Pure : Prop := ∀ (a0 : Int) (a1 : Int) (a2 : Int), (Lit.int .i64 a0).wf = true → (Lit.int .i64 a1).wf = true → (Lit.int .i64 a2).wf = true → ∃ k, tallowlaw01_NumRing.f k a0 a1 a2 = some true

end Go.Proofs.YtilmmmpbcgobaaaDoor.G
