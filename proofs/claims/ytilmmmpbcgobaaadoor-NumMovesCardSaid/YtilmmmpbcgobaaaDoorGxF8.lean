-- written by a program of this session (handprint.sh), over functions proved by hand
import Derived.Test.YtilmmmpbcgobaaaDoorGx0
import Derived.Test.YtilmmmpbcgobaaaDoorGxF20
import Derived.Test.YtilmmmpbcgobaaaDoorGxF15
namespace Go.Proofs.YtilmmmpbcgobaaaDoor.G
open Go.RowKit Go.Proofs.YtilmmmpbcgobaaaDoorW.PrintWords Go.Proofs.YtilmmmpbcgobaaaDoorW.PrintLast Go.Proofs.YtilmmmpbcgobaaaDoorW.PrintMore
attribute [local go_sem] max2_int min2_int max_two min_two max_three min_three max_four min_four   -- for this text's walks alone
set_option linter.unusedVariables false
set_option linter.unusedSimpArgs false

/-! ### tallowlaw01_NumMoves: function 8 -/
mutual
def tallowlaw01_NumMoves.l0 : Nat → Int → Int → Int → Int → Int → Option (Bool)
  | 0, _, _, _, _, _ => none
  | k + 1, x0, x7, x8, x9, x10 => if x10 < x7 then ((tallowlaw01_do.f 2 x9 2).bind fun t224 => (tallowlaw01_NumMoves.l0 k x0 x7 x8 t224 (wrap64 (x10 + 1)))) else ((tallowlaw01_do.f 8 x0 x7).bind fun t225 => ((tallowlaw01_do.f 2 x0 x9).bind fun t226 => (if t225 = t226 then ((tallowlaw01_do.f 9 x0 (wrap64 (-x7))).bind fun t227 => (if t227 = t225 then ((tallowlaw01_do.f 8 x0 (wrap64 (-x7))).bind fun t228 => ((tallowlaw01_do.f 9 x0 x7).bind fun t229 => (tallowlaw01_NumMoves.j1 k x0 x7 x8 t225 (t228 != t229)))) else (tallowlaw01_NumMoves.j1 k x0 x7 x8 t225 true))) else (tallowlaw01_NumMoves.j1 k x0 x7 x8 t225 true))))
def tallowlaw01_NumMoves.j1 : Nat → Int → Int → Int → Int → Bool → Option (Bool)
  | 0, _, _, _, _, _ => none
  | k + 1, x0, x7, x8, x11, x52 => if x52 = true then (some false) else ((tallowlaw01_do.f 9 x11 x7).bind fun t230 => ((tallowlaw01_do.f 9 (-1) x7).bind fun t231 => ((tallowlaw01_do.f 5 x0 t231).bind fun t232 => (if t230 = t232 then ((tallowlaw01_do.f 9 x0 x7).bind fun t233 => ((tallowlaw01_do.f 9 t233 x8).bind fun t234 => ((tallowlaw01_do.f 9 x0 (wrap64 (x7 + x8))).bind fun t235 => (if t234 = t235 then ((tallowlaw01_do.f 8 x0 x7).bind fun t236 => ((tallowlaw01_do.f 8 t236 x8).bind fun t237 => ((tallowlaw01_do.f 8 x0 (wrap64 (x7 + x8))).bind fun t238 => (if t237 = t238 then ((tallowlaw01_works.f).bind fun t239 => (some t239)) else (some false))))) else (some false))))) else (some false)))))
end
def tallowlaw01_NumMoves.f (k : Nat) (a0 : Int) (a1 : Int) (a2 : Int) : Option (Bool) := tallowlaw01_NumMoves.l0 k a0 (wrap64 (Int.tmod a1 70)) (wrap64 (Int.tmod a2 70)) 1 0
theorem tallowlaw01_NumMoves.mono_l : ∀ k, (∀ y0 y1 y2 y3 y4, LeO (tallowlaw01_NumMoves.l0 k y0 y1 y2 y3 y4) (tallowlaw01_NumMoves.l0 (k + 1) y0 y1 y2 y3 y4)) ∧ (∀ y0 y1 y2 y3 y4, LeO (tallowlaw01_NumMoves.j1 k y0 y1 y2 y3 y4) (tallowlaw01_NumMoves.j1 (k + 1) y0 y1 y2 y3 y4))
  | 0 => ⟨fun _ _ _ _ _ r h => by simp [tallowlaw01_NumMoves.l0] at h, fun _ _ _ _ _ r h => by simp [tallowlaw01_NumMoves.j1] at h⟩
  | k + 1 => by
    obtain ⟨ih0, ih1⟩ := tallowlaw01_NumMoves.mono_l k
    refine ⟨?_, ?_⟩
    · intro y0 y1 y2 y3 y4
      unfold tallowlaw01_NumMoves.l0
      repeat' first
      | (with_reducible exact ih0 _ _ _ _ _)
      | (with_reducible exact ih1 _ _ _ _ _)
      | (with_reducible exact LeO.refl _)
      | (with_reducible exact LeO.none _)
      | (with_reducible refine LeO.ite ?_ ?_)
      | (with_reducible refine LeO.bind ?_ (fun _ => ?_))
      | exact ih0 _ _ _ _ _
      | exact ih1 _ _ _ _ _
      | exact LeO.none _
      | refine LeO.ite ?_ ?_
      | refine LeO.bind ?_ (fun _ => ?_)
    · intro y0 y1 y2 y3 y4
      unfold tallowlaw01_NumMoves.j1
      repeat' first
      | (with_reducible exact ih0 _ _ _ _ _)
      | (with_reducible exact ih1 _ _ _ _ _)
      | (with_reducible exact LeO.refl _)
      | (with_reducible exact LeO.none _)
      | (with_reducible refine LeO.ite ?_ ?_)
      | (with_reducible refine LeO.bind ?_ (fun _ => ?_))
      | exact ih0 _ _ _ _ _
      | exact ih1 _ _ _ _ _
      | exact LeO.none _
      | refine LeO.ite ?_ ?_
      | refine LeO.bind ?_ (fun _ => ?_)
theorem tallowlaw01_NumMoves.mono : ∀ a0 a1 a2 k, LeO (tallowlaw01_NumMoves.f k a0 a1 a2) (tallowlaw01_NumMoves.f (k + 1) a0 a1 a2) := by
  intro a0 a1 a2 k
  obtain ⟨ih0, ih1⟩ := tallowlaw01_NumMoves.mono_l k
  unfold tallowlaw01_NumMoves.f
  repeat' first
      | (with_reducible exact ih0 _ _ _ _ _)
      | (with_reducible exact ih1 _ _ _ _ _)
      | (with_reducible exact LeO.refl _)
      | (with_reducible exact LeO.none _)
      | (with_reducible refine LeO.ite ?_ ?_)
      | (with_reducible refine LeO.bind ?_ (fun _ => ?_))
      | exact ih0 _ _ _ _ _
      | exact ih1 _ _ _ _ _
      | exact LeO.none _
      | refine LeO.ite ?_ ?_
      | refine LeO.bind ?_ (fun _ => ?_)
set_option maxHeartbeats 8000000 in
set_option maxRecDepth 100000 in
theorem tallowlaw01_NumMoves.calls (k : Nat) (a0 : Int) (a1 : Int) (a2 : Int) (r : Bool) (w : World) (hL : Laid w) (h : tallowlaw01_NumMoves.f k a0 a1 a2 = some r) :
    Calls Tryd.prog 8 #[.int .i64 a0, .int .u8 a1, .int .u8 a2] w fun e w' => e = .returned (.bool r) ∧ Below w.heap.size w w' := by
  have HL := Aside0.mk hL
  clear hL
  have HB := Aside0.mk (Below.refl w.heap.size w)
  have H : (tallowlaw01_NumMoves.l0 k a0 (wrap64 (Int.tmod a1 70)) (wrap64 (Int.tmod a2 70)) 1 0) = some r := h
  clear h
  have H' := Aside0.mk H
  clear H
  go_enter Tryd.func8, Tryd.ntmps8
  go_wp2
  go_loopg [9, 10] k (fun kq v9 v10 w' => ∃ (x9_1 : Int) (x10_1 : Int), v9 = .int .i64 x9_1 ∧ v10 = .int .i64 x10_1 ∧ Aside0 (tallowlaw01_NumMoves.l0 kq a0 (wrap64 (Int.tmod a1 70)) (wrap64 (Int.tmod a2 70)) x9_1 x10_1 = some r) ∧ Aside0 (kq ≤ k) ∧ Aside0 (Below w.heap.size w w'))
  case atStart => exact ⟨(1), (0), (by first | rfl | (simp; done) | (simp [*]; done)), (by first | rfl | (simp; done) | (simp [*]; done)), H', ⟨Nat.le_refl _⟩, ⟨by repeat (first | (with_reducible first | exact HB.out | apply below_alloc | apply pw_below_drewN | apply below_drew1) | exact HB.out)⟩⟩
  case round =>
    clear H'
    try clear p2
    obtain ⟨x9_1, x10_1, rfl, rfl, HA, HK1, HB⟩ := hrel
    cases gk with
    | zero => exact absurd HA.out (by simp [tallowlaw01_NumMoves.l0])
    | succ k1 =>
      have H := HA.out
      clear HA
      simp only [tallowlaw01_NumMoves.l0] at H
      by_cases c4 : x10_1 < (wrap64 (Int.tmod a1 70))
      · rw [if_pos c4] at H
        have c4b0 : decide (x10_1 < (wrap64 (Int.tmod a1 70))) = true := decide_eq_true c4
        clear c4
        replace H := Option.bind_eq_some_iff.mp H
        obtain ⟨t224, A50, H⟩ := H
        replace H : (tallowlaw01_NumMoves.l0 k1 a0 (wrap64 (Int.tmod a1 70)) (wrap64 (Int.tmod a2 70)) t224 (wrap64 (x10_1 + 1))) = some r := H
        have A5 := Aside0.mk A50
        clear A50
        have H' := Aside0.mk H
        clear H
        go_wp2_with (first | ((with_reducible refine gate_callee (f := 20) rfl ?_); refine goesL_ (some 26) rfl rfl Tryd.func20 (by kernel_rfl) rfl #[.int .i64 2, .int .i64 x9_1, .int .i64 2] rfl (by (try simp only [List.map_toArray, List.map_cons, List.map_nil]); first | done | rfl | (simp only [List.length_drop, List.length_take]; rfl)) ?_; (with_reducible refine (tallowlaw01_do.calls 2 x9_1 2 t224 _ A5.out).mono ?_); rintro e w6 ⟨rfl, hb⟩; refine ⟨_, rfl, ?_⟩; have n0_ := Aside0.mk (below_step (by repeat (first | (with_reducible first | exact HB.out | apply below_alloc | apply pw_below_drewN | apply below_drew1) | exact HB.out)) hb); clear HB; have HB := n0_; clear n0_; (try clear hb); (try clear hb2); (try clear hk); (try clear hi)))
        go_roundg k1
        case measure => have := HK1.out; omega
        case rel => exact ⟨(t224), (wrap64 (x10_1 + 1)), (by first | rfl | (simp; done) | (simp [*]; done)), (by first | rfl | (simp; done) | (simp [*]; done)), H', ⟨by have := HK1.out; omega⟩, ⟨by repeat (first | (with_reducible first | exact HB.out | apply below_alloc | apply pw_below_drewN | apply below_drew1) | exact HB.out)⟩⟩
      · rw [if_neg c4] at H
        have c4b0 : decide (x10_1 < (wrap64 (Int.tmod a1 70))) = false := decide_eq_false c4
        clear c4
        replace H := Option.bind_eq_some_iff.mp H
        obtain ⟨t225, A70, H⟩ := H
        replace H : ((tallowlaw01_do.f 2 a0 x9_1).bind fun t226 => (if t225 = t226 then ((tallowlaw01_do.f 9 a0 (wrap64 (-(wrap64 (Int.tmod a1 70))))).bind fun t227 => (if t227 = t225 then ((tallowlaw01_do.f 8 a0 (wrap64 (-(wrap64 (Int.tmod a1 70))))).bind fun t228 => ((tallowlaw01_do.f 9 a0 (wrap64 (Int.tmod a1 70))).bind fun t229 => (tallowlaw01_NumMoves.j1 k1 a0 (wrap64 (Int.tmod a1 70)) (wrap64 (Int.tmod a2 70)) t225 (t228 != t229)))) else (tallowlaw01_NumMoves.j1 k1 a0 (wrap64 (Int.tmod a1 70)) (wrap64 (Int.tmod a2 70)) t225 true))) else (tallowlaw01_NumMoves.j1 k1 a0 (wrap64 (Int.tmod a1 70)) (wrap64 (Int.tmod a2 70)) t225 true))) = some r := H
        have A7 := Aside0.mk A70
        clear A70
        have HC8 := Aside0.mk H
        clear H
        go_upto_region 8 with (first | ((with_reducible refine gate_callee (f := 20) rfl ?_); refine goesL_ (some 29) rfl rfl Tryd.func20 (by kernel_rfl) rfl #[.int .i64 8, .int .i64 a0, .int .i64 (wrap64 (Int.tmod a1 70))] rfl (by (try simp only [List.map_toArray, List.map_cons, List.map_nil]); first | done | rfl | (simp only [List.length_drop, List.length_take]; rfl)) ?_; (with_reducible refine (tallowlaw01_do.calls 8 a0 (wrap64 (Int.tmod a1 70)) t225 _ A7.out).mono ?_); rintro e w9 ⟨rfl, hb⟩; refine ⟨_, rfl, ?_⟩; have n0_ := Aside0.mk (below_step (by repeat (first | (with_reducible first | exact HB.out | apply below_alloc | apply pw_below_drewN | apply below_drew1) | exact HB.out)) hb); clear HB; have HB := n0_; clear n0_; (try clear hb); (try clear hb2); (try clear hk); (try clear hi)))
        (try simp only [Act.put, List.setIfInBounds_toArray, List.set_cons_zero, List.set_cons_succ])
        go_cut [52] (fun v52 wc => ∃ (kq : Nat) (x52_7 : Bool), v52 = .bool x52_7 ∧ Aside0 (tallowlaw01_NumMoves.j1 kq a0 (wrap64 (Int.tmod a1 70)) (wrap64 (Int.tmod a2 70)) t225 x52_7 = some r) ∧ Aside0 (kq ≤ k1) ∧ Aside0 (Below w.heap.size w wc))
        case first =>
          have H := HC8.out
          clear HC8
          replace H := Option.bind_eq_some_iff.mp H
          obtain ⟨t226, A100, H⟩ := H
          replace H : (if t225 = t226 then ((tallowlaw01_do.f 9 a0 (wrap64 (-(wrap64 (Int.tmod a1 70))))).bind fun t227 => (if t227 = t225 then ((tallowlaw01_do.f 8 a0 (wrap64 (-(wrap64 (Int.tmod a1 70))))).bind fun t228 => ((tallowlaw01_do.f 9 a0 (wrap64 (Int.tmod a1 70))).bind fun t229 => (tallowlaw01_NumMoves.j1 k1 a0 (wrap64 (Int.tmod a1 70)) (wrap64 (Int.tmod a2 70)) t225 (t228 != t229)))) else (tallowlaw01_NumMoves.j1 k1 a0 (wrap64 (Int.tmod a1 70)) (wrap64 (Int.tmod a2 70)) t225 true))) else (tallowlaw01_NumMoves.j1 k1 a0 (wrap64 (Int.tmod a1 70)) (wrap64 (Int.tmod a2 70)) t225 true)) = some r := H
          have A10 := Aside0.mk A100
          clear A100
          by_cases c11 : t225 = t226
          · rw [if_pos c11] at H
            have c11b0 : (t225 == t226) = true := beq_iff_eq.mpr c11
            have c11b1 : (t225 != t226) = false := bne_eq_false_iff_eq.mpr c11
            clear c11
            (first | rw [c11b0] | (simp only [i64_w, i32_w]; rw [c11b0]) | skip)
            replace H := Option.bind_eq_some_iff.mp H
            obtain ⟨t227, A120, H⟩ := H
            replace H : (if t227 = t225 then ((tallowlaw01_do.f 8 a0 (wrap64 (-(wrap64 (Int.tmod a1 70))))).bind fun t228 => ((tallowlaw01_do.f 9 a0 (wrap64 (Int.tmod a1 70))).bind fun t229 => (tallowlaw01_NumMoves.j1 k1 a0 (wrap64 (Int.tmod a1 70)) (wrap64 (Int.tmod a2 70)) t225 (t228 != t229)))) else (tallowlaw01_NumMoves.j1 k1 a0 (wrap64 (Int.tmod a1 70)) (wrap64 (Int.tmod a2 70)) t225 true)) = some r := H
            have A12 := Aside0.mk A120
            clear A120
            by_cases c13 : t227 = t225
            · rw [if_pos c13] at H
              have c13b0 : (t227 == t225) = true := beq_iff_eq.mpr c13
              have c13b1 : (t227 != t225) = false := bne_eq_false_iff_eq.mpr c13
              clear c13
              replace H := Option.bind_eq_some_iff.mp H
              obtain ⟨t228, A140, H⟩ := H
              replace H : ((tallowlaw01_do.f 9 a0 (wrap64 (Int.tmod a1 70))).bind fun t229 => (tallowlaw01_NumMoves.j1 k1 a0 (wrap64 (Int.tmod a1 70)) (wrap64 (Int.tmod a2 70)) t225 (t228 != t229))) = some r := H
              have A14 := Aside0.mk A140
              clear A140
              replace H := Option.bind_eq_some_iff.mp H
              obtain ⟨t229, A150, H⟩ := H
              replace H : (tallowlaw01_NumMoves.j1 k1 a0 (wrap64 (Int.tmod a1 70)) (wrap64 (Int.tmod a2 70)) t225 (t228 != t229)) = some r := H
              have A15 := Aside0.mk A150
              clear A150
              have H' := Aside0.mk H
              clear H
              go_wp2_with (first | ((with_reducible refine gate_callee (f := 20) rfl ?_); refine goesL_ (some 33) rfl rfl Tryd.func20 (by kernel_rfl) rfl #[.int .i64 2, .int .i64 a0, .int .i64 x9_1] rfl (by (try simp only [List.map_toArray, List.map_cons, List.map_nil]); first | done | rfl | (simp only [List.length_drop, List.length_take]; rfl)) ?_; (with_reducible refine (tallowlaw01_do.calls 2 a0 x9_1 t226 _ A10.out).mono ?_); rintro e w16 ⟨rfl, hb⟩; refine ⟨_, rfl, ?_⟩; have n0_ := Aside0.mk (below_step (by repeat (first | (with_reducible first | exact HB.out | apply below_alloc | apply pw_below_drewN | apply below_drew1) | exact HB.out)) hb); clear HB; have HB := n0_; clear n0_; (try clear hb); (try clear hb2); (try clear hk); (try clear hi)) | (go_at_call 20; (with_reducible refine (tallowlaw01_do.calls 9 a0 (wrap64 (-(wrap64 (Int.tmod a1 70)))) t227 _ A12.out).mono ?_); rintro e w17 ⟨rfl, hb⟩; have n0_ := Aside0.mk (below_step (by repeat (first | (with_reducible first | exact HB.out | apply below_alloc | apply pw_below_drewN | apply below_drew1) | exact HB.out)) hb); clear HB; have HB := n0_; clear n0_; (try clear hb); (try clear hb2); (try clear hk); (try clear hi)) | (go_at_call 20; (with_reducible refine (tallowlaw01_do.calls 8 a0 (wrap64 (-(wrap64 (Int.tmod a1 70)))) t228 _ A14.out).mono ?_); rintro e w18 ⟨rfl, hb⟩; have n0_ := Aside0.mk (below_step (by repeat (first | (with_reducible first | exact HB.out | apply below_alloc | apply pw_below_drewN | apply below_drew1) | exact HB.out)) hb); clear HB; have HB := n0_; clear n0_; (try clear hb); (try clear hb2); (try clear hk); (try clear hi)) | (go_at_call 20; (with_reducible refine (tallowlaw01_do.calls 9 a0 (wrap64 (Int.tmod a1 70)) t229 _ A15.out).mono ?_); rintro e w19 ⟨rfl, hb⟩; have n0_ := Aside0.mk (below_step (by repeat (first | (with_reducible first | exact HB.out | apply below_alloc | apply pw_below_drewN | apply below_drew1) | exact HB.out)) hb); clear HB; have HB := n0_; clear n0_; (try clear hb); (try clear hb2); (try clear hk); (try clear hi)))
              go_meet
              case rel => exact ⟨_, ((t228 != t229)), (by first | rfl | (simp; done) | (simp [*]; done)), H', ⟨by have := HK1.out; first | omega | exact Nat.le_refl _⟩, ⟨by repeat (first | (with_reducible first | exact HB.out | apply below_alloc | apply pw_below_drewN | apply below_drew1) | exact HB.out)⟩⟩
            · rw [if_neg c13] at H
              have c13b0 : (t227 == t225) = false := beq_eq_false_iff_ne.mpr c13
              have c13b1 : (t227 != t225) = true := bne_iff_ne.mpr c13
              have H' := Aside0.mk H
              clear H
              go_wp2_with (first | ((with_reducible refine gate_callee (f := 20) rfl ?_); refine goesL_ (some 33) rfl rfl Tryd.func20 (by kernel_rfl) rfl #[.int .i64 2, .int .i64 a0, .int .i64 x9_1] rfl (by (try simp only [List.map_toArray, List.map_cons, List.map_nil]); first | done | rfl | (simp only [List.length_drop, List.length_take]; rfl)) ?_; (with_reducible refine (tallowlaw01_do.calls 2 a0 x9_1 t226 _ A10.out).mono ?_); rintro e w20 ⟨rfl, hb⟩; refine ⟨_, rfl, ?_⟩; have n0_ := Aside0.mk (below_step (by repeat (first | (with_reducible first | exact HB.out | apply below_alloc | apply pw_below_drewN | apply below_drew1) | exact HB.out)) hb); clear HB; have HB := n0_; clear n0_; (try clear hb); (try clear hb2); (try clear hk); (try clear hi)) | (go_at_call 20; (with_reducible refine (tallowlaw01_do.calls 9 a0 (wrap64 (-(wrap64 (Int.tmod a1 70)))) t227 _ A12.out).mono ?_); rintro e w21 ⟨rfl, hb⟩; have n0_ := Aside0.mk (below_step (by repeat (first | (with_reducible first | exact HB.out | apply below_alloc | apply pw_below_drewN | apply below_drew1) | exact HB.out)) hb); clear HB; have HB := n0_; clear n0_; (try clear hb); (try clear hb2); (try clear hk); (try clear hi)))
              go_meet
              case rel => exact ⟨_, (true), (by first | rfl | (simp; done) | (simp [*]; done)), H', ⟨by have := HK1.out; first | omega | exact Nat.le_refl _⟩, ⟨by repeat (first | (with_reducible first | exact HB.out | apply below_alloc | apply pw_below_drewN | apply below_drew1) | exact HB.out)⟩⟩
          · rw [if_neg c11] at H
            have c11b0 : (t225 == t226) = false := beq_eq_false_iff_ne.mpr c11
            have c11b1 : (t225 != t226) = true := bne_iff_ne.mpr c11
            (first | rw [c11b0] | (simp only [i64_w, i32_w]; rw [c11b0]) | skip)
            have H' := Aside0.mk H
            clear H
            go_wp2_with (first | ((with_reducible refine gate_callee (f := 20) rfl ?_); refine goesL_ (some 33) rfl rfl Tryd.func20 (by kernel_rfl) rfl #[.int .i64 2, .int .i64 a0, .int .i64 x9_1] rfl (by (try simp only [List.map_toArray, List.map_cons, List.map_nil]); first | done | rfl | (simp only [List.length_drop, List.length_take]; rfl)) ?_; (with_reducible refine (tallowlaw01_do.calls 2 a0 x9_1 t226 _ A10.out).mono ?_); rintro e w22 ⟨rfl, hb⟩; refine ⟨_, rfl, ?_⟩; have n0_ := Aside0.mk (below_step (by repeat (first | (with_reducible first | exact HB.out | apply below_alloc | apply pw_below_drewN | apply below_drew1) | exact HB.out)) hb); clear HB; have HB := n0_; clear n0_; (try clear hb); (try clear hb2); (try clear hk); (try clear hi)))
            go_meet
            case rel => exact ⟨_, (true), (by first | rfl | (simp; done) | (simp [*]; done)), H', ⟨by have := HK1.out; first | omega | exact Nat.le_refl _⟩, ⟨by repeat (first | (with_reducible first | exact HB.out | apply below_alloc | apply pw_below_drewN | apply below_drew1) | exact HB.out)⟩⟩
        case rest =>
          clear HC8
          try clear c1
          try clear c2
          try clear p2
          try clear c4
          try clear c4b0
          try clear p6
          try clear c8
          try clear c11
          try clear c11b0
          try clear c11b1
          try clear c13
          try clear c13b0
          try clear c13b1
          try clear c20
          try clear p2
          obtain ⟨kq, x52_7, rfl, HA, HJ7, HB⟩ := hcut
          cases kq with
          | zero => exact absurd HA.out (by simp [tallowlaw01_NumMoves.j1])
          | succ kj7 =>
            have H := HA.out
            clear HA
            simp only [tallowlaw01_NumMoves.j1] at H
            by_cases c23 : x52_7 = true
            · subst c23
              have H1 : (some false) = some r := by rw [if_pos rfl] at H; exact H
              clear H
              have H := H1
              clear H1
              obtain rfl := Option.some.inj H
              go_wp2
              go_ret
              exact ⟨by first | rfl | (simp [errW_none, errW_some] <;> rfl) | (simp [*, errW_none, errW_some] <;> rfl), by repeat (first | (with_reducible first | exact HB.out | apply below_alloc | apply pw_below_drewN | apply below_drew1) | exact HB.out)⟩
            · replace c23 := Bool.eq_false_iff.mpr c23
              subst c23
              have H1 : ((tallowlaw01_do.f 9 t225 (wrap64 (Int.tmod a1 70))).bind fun t230 => ((tallowlaw01_do.f 9 (-1) (wrap64 (Int.tmod a1 70))).bind fun t231 => ((tallowlaw01_do.f 5 a0 t231).bind fun t232 => (if t230 = t232 then ((tallowlaw01_do.f 9 a0 (wrap64 (Int.tmod a1 70))).bind fun t233 => ((tallowlaw01_do.f 9 t233 (wrap64 (Int.tmod a2 70))).bind fun t234 => ((tallowlaw01_do.f 9 a0 (wrap64 ((wrap64 (Int.tmod a1 70)) + (wrap64 (Int.tmod a2 70))))).bind fun t235 => (if t234 = t235 then ((tallowlaw01_do.f 8 a0 (wrap64 (Int.tmod a1 70))).bind fun t236 => ((tallowlaw01_do.f 8 t236 (wrap64 (Int.tmod a2 70))).bind fun t237 => ((tallowlaw01_do.f 8 a0 (wrap64 ((wrap64 (Int.tmod a1 70)) + (wrap64 (Int.tmod a2 70))))).bind fun t238 => (if t237 = t238 then ((tallowlaw01_works.f).bind fun t239 => (some t239)) else (some false))))) else (some false))))) else (some false))))) = some r := by rw [if_neg (show ¬ (false = true) by decide)] at H; exact H
              clear H
              have H := H1
              clear H1
              replace H := Option.bind_eq_some_iff.mp H
              obtain ⟨t230, A240, H⟩ := H
              replace H : ((tallowlaw01_do.f 9 (-1) (wrap64 (Int.tmod a1 70))).bind fun t231 => ((tallowlaw01_do.f 5 a0 t231).bind fun t232 => (if t230 = t232 then ((tallowlaw01_do.f 9 a0 (wrap64 (Int.tmod a1 70))).bind fun t233 => ((tallowlaw01_do.f 9 t233 (wrap64 (Int.tmod a2 70))).bind fun t234 => ((tallowlaw01_do.f 9 a0 (wrap64 ((wrap64 (Int.tmod a1 70)) + (wrap64 (Int.tmod a2 70))))).bind fun t235 => (if t234 = t235 then ((tallowlaw01_do.f 8 a0 (wrap64 (Int.tmod a1 70))).bind fun t236 => ((tallowlaw01_do.f 8 t236 (wrap64 (Int.tmod a2 70))).bind fun t237 => ((tallowlaw01_do.f 8 a0 (wrap64 ((wrap64 (Int.tmod a1 70)) + (wrap64 (Int.tmod a2 70))))).bind fun t238 => (if t237 = t238 then ((tallowlaw01_works.f).bind fun t239 => (some t239)) else (some false))))) else (some false))))) else (some false)))) = some r := H
              have A24 := Aside0.mk A240
              clear A240
              replace H := Option.bind_eq_some_iff.mp H
              obtain ⟨t231, A250, H⟩ := H
              replace H : ((tallowlaw01_do.f 5 a0 t231).bind fun t232 => (if t230 = t232 then ((tallowlaw01_do.f 9 a0 (wrap64 (Int.tmod a1 70))).bind fun t233 => ((tallowlaw01_do.f 9 t233 (wrap64 (Int.tmod a2 70))).bind fun t234 => ((tallowlaw01_do.f 9 a0 (wrap64 ((wrap64 (Int.tmod a1 70)) + (wrap64 (Int.tmod a2 70))))).bind fun t235 => (if t234 = t235 then ((tallowlaw01_do.f 8 a0 (wrap64 (Int.tmod a1 70))).bind fun t236 => ((tallowlaw01_do.f 8 t236 (wrap64 (Int.tmod a2 70))).bind fun t237 => ((tallowlaw01_do.f 8 a0 (wrap64 ((wrap64 (Int.tmod a1 70)) + (wrap64 (Int.tmod a2 70))))).bind fun t238 => (if t237 = t238 then ((tallowlaw01_works.f).bind fun t239 => (some t239)) else (some false))))) else (some false))))) else (some false))) = some r := H
              have A25 := Aside0.mk A250
              clear A250
              replace H := Option.bind_eq_some_iff.mp H
              obtain ⟨t232, A260, H⟩ := H
              replace H : (if t230 = t232 then ((tallowlaw01_do.f 9 a0 (wrap64 (Int.tmod a1 70))).bind fun t233 => ((tallowlaw01_do.f 9 t233 (wrap64 (Int.tmod a2 70))).bind fun t234 => ((tallowlaw01_do.f 9 a0 (wrap64 ((wrap64 (Int.tmod a1 70)) + (wrap64 (Int.tmod a2 70))))).bind fun t235 => (if t234 = t235 then ((tallowlaw01_do.f 8 a0 (wrap64 (Int.tmod a1 70))).bind fun t236 => ((tallowlaw01_do.f 8 t236 (wrap64 (Int.tmod a2 70))).bind fun t237 => ((tallowlaw01_do.f 8 a0 (wrap64 ((wrap64 (Int.tmod a1 70)) + (wrap64 (Int.tmod a2 70))))).bind fun t238 => (if t237 = t238 then ((tallowlaw01_works.f).bind fun t239 => (some t239)) else (some false))))) else (some false))))) else (some false)) = some r := H
              have A26 := Aside0.mk A260
              clear A260
              by_cases c27 : t230 = t232
              · rw [if_pos c27] at H
                have c27b0 : (t230 == t232) = true := beq_iff_eq.mpr c27
                have c27b1 : (t230 != t232) = false := bne_eq_false_iff_eq.mpr c27
                clear c27
                replace H := Option.bind_eq_some_iff.mp H
                obtain ⟨t233, A280, H⟩ := H
                replace H : ((tallowlaw01_do.f 9 t233 (wrap64 (Int.tmod a2 70))).bind fun t234 => ((tallowlaw01_do.f 9 a0 (wrap64 ((wrap64 (Int.tmod a1 70)) + (wrap64 (Int.tmod a2 70))))).bind fun t235 => (if t234 = t235 then ((tallowlaw01_do.f 8 a0 (wrap64 (Int.tmod a1 70))).bind fun t236 => ((tallowlaw01_do.f 8 t236 (wrap64 (Int.tmod a2 70))).bind fun t237 => ((tallowlaw01_do.f 8 a0 (wrap64 ((wrap64 (Int.tmod a1 70)) + (wrap64 (Int.tmod a2 70))))).bind fun t238 => (if t237 = t238 then ((tallowlaw01_works.f).bind fun t239 => (some t239)) else (some false))))) else (some false)))) = some r := H
                have A28 := Aside0.mk A280
                clear A280
                replace H := Option.bind_eq_some_iff.mp H
                obtain ⟨t234, A290, H⟩ := H
                replace H : ((tallowlaw01_do.f 9 a0 (wrap64 ((wrap64 (Int.tmod a1 70)) + (wrap64 (Int.tmod a2 70))))).bind fun t235 => (if t234 = t235 then ((tallowlaw01_do.f 8 a0 (wrap64 (Int.tmod a1 70))).bind fun t236 => ((tallowlaw01_do.f 8 t236 (wrap64 (Int.tmod a2 70))).bind fun t237 => ((tallowlaw01_do.f 8 a0 (wrap64 ((wrap64 (Int.tmod a1 70)) + (wrap64 (Int.tmod a2 70))))).bind fun t238 => (if t237 = t238 then ((tallowlaw01_works.f).bind fun t239 => (some t239)) else (some false))))) else (some false))) = some r := H
                have A29 := Aside0.mk A290
                clear A290
                replace H := Option.bind_eq_some_iff.mp H
                obtain ⟨t235, A300, H⟩ := H
                replace H : (if t234 = t235 then ((tallowlaw01_do.f 8 a0 (wrap64 (Int.tmod a1 70))).bind fun t236 => ((tallowlaw01_do.f 8 t236 (wrap64 (Int.tmod a2 70))).bind fun t237 => ((tallowlaw01_do.f 8 a0 (wrap64 ((wrap64 (Int.tmod a1 70)) + (wrap64 (Int.tmod a2 70))))).bind fun t238 => (if t237 = t238 then ((tallowlaw01_works.f).bind fun t239 => (some t239)) else (some false))))) else (some false)) = some r := H
                have A30 := Aside0.mk A300
                clear A300
                by_cases c31 : t234 = t235
                · rw [if_pos c31] at H
                  have c31b0 : (t234 == t235) = true := beq_iff_eq.mpr c31
                  have c31b1 : (t234 != t235) = false := bne_eq_false_iff_eq.mpr c31
                  clear c31
                  replace H := Option.bind_eq_some_iff.mp H
                  obtain ⟨t236, A320, H⟩ := H
                  replace H : ((tallowlaw01_do.f 8 t236 (wrap64 (Int.tmod a2 70))).bind fun t237 => ((tallowlaw01_do.f 8 a0 (wrap64 ((wrap64 (Int.tmod a1 70)) + (wrap64 (Int.tmod a2 70))))).bind fun t238 => (if t237 = t238 then ((tallowlaw01_works.f).bind fun t239 => (some t239)) else (some false)))) = some r := H
                  have A32 := Aside0.mk A320
                  clear A320
                  replace H := Option.bind_eq_some_iff.mp H
                  obtain ⟨t237, A330, H⟩ := H
                  replace H : ((tallowlaw01_do.f 8 a0 (wrap64 ((wrap64 (Int.tmod a1 70)) + (wrap64 (Int.tmod a2 70))))).bind fun t238 => (if t237 = t238 then ((tallowlaw01_works.f).bind fun t239 => (some t239)) else (some false))) = some r := H
                  have A33 := Aside0.mk A330
                  clear A330
                  replace H := Option.bind_eq_some_iff.mp H
                  obtain ⟨t238, A340, H⟩ := H
                  replace H : (if t237 = t238 then ((tallowlaw01_works.f).bind fun t239 => (some t239)) else (some false)) = some r := H
                  have A34 := Aside0.mk A340
                  clear A340
                  by_cases c35 : t237 = t238
                  · rw [if_pos c35] at H
                    have c35b0 : (t237 == t238) = true := beq_iff_eq.mpr c35
                    have c35b1 : (t237 != t238) = false := bne_eq_false_iff_eq.mpr c35
                    clear c35
                    replace H := Option.bind_eq_some_iff.mp H
                    obtain ⟨t239, A360, H⟩ := H
                    replace H : (some t239) = some r := H
                    have A36 := Aside0.mk A360
                    clear A360
                    obtain rfl := Option.some.inj H
                    go_wp2_with (first | ((with_reducible refine gate_callee (f := 20) rfl ?_); refine goesL_ (some 55) rfl rfl Tryd.func20 (by kernel_rfl) rfl #[.int .i64 9, .int .i64 t225, .int .i64 (wrap64 (Int.tmod a1 70))] rfl (by (try simp only [List.map_toArray, List.map_cons, List.map_nil]); first | done | rfl | (simp only [List.length_drop, List.length_take]; rfl)) ?_; (with_reducible refine (tallowlaw01_do.calls 9 t225 (wrap64 (Int.tmod a1 70)) t230 _ A24.out).mono ?_); rintro e w37 ⟨rfl, hb⟩; refine ⟨_, rfl, ?_⟩; have n0_ := Aside0.mk (below_step (by repeat (first | (with_reducible first | exact HB.out | apply below_alloc | apply pw_below_drewN | apply below_drew1) | exact HB.out)) hb); clear HB; have HB := n0_; clear n0_; (try clear hb); (try clear hb2); (try clear hk); (try clear hi)) | ((with_reducible refine gate_callee (f := 20) rfl ?_); refine goesL_ (some 57) rfl rfl Tryd.func20 (by kernel_rfl) rfl #[.int .i64 9, .int .i64 (-1), .int .i64 (wrap64 (Int.tmod a1 70))] rfl (by (try simp only [List.map_toArray, List.map_cons, List.map_nil]); first | done | rfl | (simp only [List.length_drop, List.length_take]; rfl)) ?_; (with_reducible refine (tallowlaw01_do.calls 9 (-1) (wrap64 (Int.tmod a1 70)) t231 _ A25.out).mono ?_); rintro e w38 ⟨rfl, hb⟩; refine ⟨_, rfl, ?_⟩; have n0_ := Aside0.mk (below_step (by repeat (first | (with_reducible first | exact HB.out | apply below_alloc | apply pw_below_drewN | apply below_drew1) | exact HB.out)) hb); clear HB; have HB := n0_; clear n0_; (try clear hb); (try clear hb2); (try clear hk); (try clear hi)) | ((with_reducible refine gate_callee (f := 20) rfl ?_); refine goesL_ (some 61) rfl rfl Tryd.func20 (by kernel_rfl) rfl #[.int .i64 5, .int .i64 a0, .int .i64 t231] rfl (by (try simp only [List.map_toArray, List.map_cons, List.map_nil]); first | done | rfl | (simp only [List.length_drop, List.length_take]; rfl)) ?_; (with_reducible refine (tallowlaw01_do.calls 5 a0 t231 t232 _ A26.out).mono ?_); rintro e w39 ⟨rfl, hb⟩; refine ⟨_, rfl, ?_⟩; have n0_ := Aside0.mk (below_step (by repeat (first | (with_reducible first | exact HB.out | apply below_alloc | apply pw_below_drewN | apply below_drew1) | exact HB.out)) hb); clear HB; have HB := n0_; clear n0_; (try clear hb); (try clear hb2); (try clear hk); (try clear hi)) | ((with_reducible refine gate_callee (f := 20) rfl ?_); refine goesL_ (some 65) rfl rfl Tryd.func20 (by kernel_rfl) rfl #[.int .i64 9, .int .i64 a0, .int .i64 (wrap64 (Int.tmod a1 70))] rfl (by (try simp only [List.map_toArray, List.map_cons, List.map_nil]); first | done | rfl | (simp only [List.length_drop, List.length_take]; rfl)) ?_; (with_reducible refine (tallowlaw01_do.calls 9 a0 (wrap64 (Int.tmod a1 70)) t233 _ A28.out).mono ?_); rintro e w40 ⟨rfl, hb⟩; refine ⟨_, rfl, ?_⟩; have n0_ := Aside0.mk (below_step (by repeat (first | (with_reducible first | exact HB.out | apply below_alloc | apply pw_below_drewN | apply below_drew1) | exact HB.out)) hb); clear HB; have HB := n0_; clear n0_; (try clear hb); (try clear hb2); (try clear hk); (try clear hi)) | ((with_reducible refine gate_callee (f := 20) rfl ?_); refine goesL_ (some 67) rfl rfl Tryd.func20 (by kernel_rfl) rfl #[.int .i64 9, .int .i64 t233, .int .i64 (wrap64 (Int.tmod a2 70))] rfl (by (try simp only [List.map_toArray, List.map_cons, List.map_nil]); first | done | rfl | (simp only [List.length_drop, List.length_take]; rfl)) ?_; (with_reducible refine (tallowlaw01_do.calls 9 t233 (wrap64 (Int.tmod a2 70)) t234 _ A29.out).mono ?_); rintro e w41 ⟨rfl, hb⟩; refine ⟨_, rfl, ?_⟩; have n0_ := Aside0.mk (below_step (by repeat (first | (with_reducible first | exact HB.out | apply below_alloc | apply pw_below_drewN | apply below_drew1) | exact HB.out)) hb); clear HB; have HB := n0_; clear n0_; (try clear hb); (try clear hb2); (try clear hk); (try clear hi)) | ((with_reducible refine gate_callee (f := 20) rfl ?_); refine goesL_ (some 72) rfl rfl Tryd.func20 (by kernel_rfl) rfl #[.int .i64 9, .int .i64 a0, .int .i64 (wrap64 ((wrap64 (Int.tmod a1 70)) + (wrap64 (Int.tmod a2 70))))] rfl (by (try simp only [List.map_toArray, List.map_cons, List.map_nil]); first | done | rfl | (simp only [List.length_drop, List.length_take]; rfl)) ?_; (with_reducible refine (tallowlaw01_do.calls 9 a0 (wrap64 ((wrap64 (Int.tmod a1 70)) + (wrap64 (Int.tmod a2 70)))) t235 _ A30.out).mono ?_); rintro e w42 ⟨rfl, hb⟩; refine ⟨_, rfl, ?_⟩; have n0_ := Aside0.mk (below_step (by repeat (first | (with_reducible first | exact HB.out | apply below_alloc | apply pw_below_drewN | apply below_drew1) | exact HB.out)) hb); clear HB; have HB := n0_; clear n0_; (try clear hb); (try clear hb2); (try clear hk); (try clear hi)) | (go_at_call 20; (with_reducible refine (tallowlaw01_do.calls 8 a0 (wrap64 (Int.tmod a1 70)) t236 _ A32.out).mono ?_); rintro e w43 ⟨rfl, hb⟩; have n0_ := Aside0.mk (below_step (by repeat (first | (with_reducible first | exact HB.out | apply below_alloc | apply pw_below_drewN | apply below_drew1) | exact HB.out)) hb); clear HB; have HB := n0_; clear n0_; (try clear hb); (try clear hb2); (try clear hk); (try clear hi)) | (go_at_call 20; (with_reducible refine (tallowlaw01_do.calls 8 t236 (wrap64 (Int.tmod a2 70)) t237 _ A33.out).mono ?_); rintro e w44 ⟨rfl, hb⟩; have n0_ := Aside0.mk (below_step (by repeat (first | (with_reducible first | exact HB.out | apply below_alloc | apply pw_below_drewN | apply below_drew1) | exact HB.out)) hb); clear HB; have HB := n0_; clear n0_; (try clear hb); (try clear hb2); (try clear hk); (try clear hi)) | (go_at_call 20; (with_reducible refine (tallowlaw01_do.calls 8 a0 (wrap64 ((wrap64 (Int.tmod a1 70)) + (wrap64 (Int.tmod a2 70)))) t238 _ A34.out).mono ?_); rintro e w45 ⟨rfl, hb⟩; have n0_ := Aside0.mk (below_step (by repeat (first | (with_reducible first | exact HB.out | apply below_alloc | apply pw_below_drewN | apply below_drew1) | exact HB.out)) hb); clear HB; have HB := n0_; clear n0_; (try clear hb); (try clear hb2); (try clear hk); (try clear hi)) | (go_at_call 15; (with_reducible refine (tallowlaw01_works.calls  t239 _ (Laid.below (by repeat (first | (with_reducible first | exact HB.out | apply below_alloc | apply pw_below_drewN | apply below_drew1) | exact HB.out)) HL.out) A36.out).mono ?_); rintro e w46 ⟨rfl, hb⟩; have n0_ := Aside0.mk (below_step (by repeat (first | (with_reducible first | exact HB.out | apply below_alloc | apply pw_below_drewN | apply below_drew1) | exact HB.out)) hb); clear HB; have HB := n0_; clear n0_; (try clear hb); (try clear hb2); (try clear hk); (try clear hi)))
                    go_ret
                    exact ⟨by first | rfl | (simp [errW_none, errW_some] <;> rfl) | (simp [*, errW_none, errW_some] <;> rfl), by repeat (first | (with_reducible first | exact HB.out | apply below_alloc | apply pw_below_drewN | apply below_drew1) | exact HB.out)⟩
                  · rw [if_neg c35] at H
                    have c35b0 : (t237 == t238) = false := beq_eq_false_iff_ne.mpr c35
                    have c35b1 : (t237 != t238) = true := bne_iff_ne.mpr c35
                    obtain rfl := Option.some.inj H
                    go_wp2_with (first | ((with_reducible refine gate_callee (f := 20) rfl ?_); refine goesL_ (some 55) rfl rfl Tryd.func20 (by kernel_rfl) rfl #[.int .i64 9, .int .i64 t225, .int .i64 (wrap64 (Int.tmod a1 70))] rfl (by (try simp only [List.map_toArray, List.map_cons, List.map_nil]); first | done | rfl | (simp only [List.length_drop, List.length_take]; rfl)) ?_; (with_reducible refine (tallowlaw01_do.calls 9 t225 (wrap64 (Int.tmod a1 70)) t230 _ A24.out).mono ?_); rintro e w47 ⟨rfl, hb⟩; refine ⟨_, rfl, ?_⟩; have n0_ := Aside0.mk (below_step (by repeat (first | (with_reducible first | exact HB.out | apply below_alloc | apply pw_below_drewN | apply below_drew1) | exact HB.out)) hb); clear HB; have HB := n0_; clear n0_; (try clear hb); (try clear hb2); (try clear hk); (try clear hi)) | ((with_reducible refine gate_callee (f := 20) rfl ?_); refine goesL_ (some 57) rfl rfl Tryd.func20 (by kernel_rfl) rfl #[.int .i64 9, .int .i64 (-1), .int .i64 (wrap64 (Int.tmod a1 70))] rfl (by (try simp only [List.map_toArray, List.map_cons, List.map_nil]); first | done | rfl | (simp only [List.length_drop, List.length_take]; rfl)) ?_; (with_reducible refine (tallowlaw01_do.calls 9 (-1) (wrap64 (Int.tmod a1 70)) t231 _ A25.out).mono ?_); rintro e w48 ⟨rfl, hb⟩; refine ⟨_, rfl, ?_⟩; have n0_ := Aside0.mk (below_step (by repeat (first | (with_reducible first | exact HB.out | apply below_alloc | apply pw_below_drewN | apply below_drew1) | exact HB.out)) hb); clear HB; have HB := n0_; clear n0_; (try clear hb); (try clear hb2); (try clear hk); (try clear hi)) | ((with_reducible refine gate_callee (f := 20) rfl ?_); refine goesL_ (some 61) rfl rfl Tryd.func20 (by kernel_rfl) rfl #[.int .i64 5, .int .i64 a0, .int .i64 t231] rfl (by (try simp only [List.map_toArray, List.map_cons, List.map_nil]); first | done | rfl | (simp only [List.length_drop, List.length_take]; rfl)) ?_; (with_reducible refine (tallowlaw01_do.calls 5 a0 t231 t232 _ A26.out).mono ?_); rintro e w49 ⟨rfl, hb⟩; refine ⟨_, rfl, ?_⟩; have n0_ := Aside0.mk (below_step (by repeat (first | (with_reducible first | exact HB.out | apply below_alloc | apply pw_below_drewN | apply below_drew1) | exact HB.out)) hb); clear HB; have HB := n0_; clear n0_; (try clear hb); (try clear hb2); (try clear hk); (try clear hi)) | ((with_reducible refine gate_callee (f := 20) rfl ?_); refine goesL_ (some 65) rfl rfl Tryd.func20 (by kernel_rfl) rfl #[.int .i64 9, .int .i64 a0, .int .i64 (wrap64 (Int.tmod a1 70))] rfl (by (try simp only [List.map_toArray, List.map_cons, List.map_nil]); first | done | rfl | (simp only [List.length_drop, List.length_take]; rfl)) ?_; (with_reducible refine (tallowlaw01_do.calls 9 a0 (wrap64 (Int.tmod a1 70)) t233 _ A28.out).mono ?_); rintro e w50 ⟨rfl, hb⟩; refine ⟨_, rfl, ?_⟩; have n0_ := Aside0.mk (below_step (by repeat (first | (with_reducible first | exact HB.out | apply below_alloc | apply pw_below_drewN | apply below_drew1) | exact HB.out)) hb); clear HB; have HB := n0_; clear n0_; (try clear hb); (try clear hb2); (try clear hk); (try clear hi)) | ((with_reducible refine gate_callee (f := 20) rfl ?_); refine goesL_ (some 67) rfl rfl Tryd.func20 (by kernel_rfl) rfl #[.int .i64 9, .int .i64 t233, .int .i64 (wrap64 (Int.tmod a2 70))] rfl (by (try simp only [List.map_toArray, List.map_cons, List.map_nil]); first | done | rfl | (simp only [List.length_drop, List.length_take]; rfl)) ?_; (with_reducible refine (tallowlaw01_do.calls 9 t233 (wrap64 (Int.tmod a2 70)) t234 _ A29.out).mono ?_); rintro e w51 ⟨rfl, hb⟩; refine ⟨_, rfl, ?_⟩; have n0_ := Aside0.mk (below_step (by repeat (first | (with_reducible first | exact HB.out | apply below_alloc | apply pw_below_drewN | apply below_drew1) | exact HB.out)) hb); clear HB; have HB := n0_; clear n0_; (try clear hb); (try clear hb2); (try clear hk); (try clear hi)) | ((with_reducible refine gate_callee (f := 20) rfl ?_); refine goesL_ (some 72) rfl rfl Tryd.func20 (by kernel_rfl) rfl #[.int .i64 9, .int .i64 a0, .int .i64 (wrap64 ((wrap64 (Int.tmod a1 70)) + (wrap64 (Int.tmod a2 70))))] rfl (by (try simp only [List.map_toArray, List.map_cons, List.map_nil]); first | done | rfl | (simp only [List.length_drop, List.length_take]; rfl)) ?_; (with_reducible refine (tallowlaw01_do.calls 9 a0 (wrap64 ((wrap64 (Int.tmod a1 70)) + (wrap64 (Int.tmod a2 70)))) t235 _ A30.out).mono ?_); rintro e w52 ⟨rfl, hb⟩; refine ⟨_, rfl, ?_⟩; have n0_ := Aside0.mk (below_step (by repeat (first | (with_reducible first | exact HB.out | apply below_alloc | apply pw_below_drewN | apply below_drew1) | exact HB.out)) hb); clear HB; have HB := n0_; clear n0_; (try clear hb); (try clear hb2); (try clear hk); (try clear hi)) | (go_at_call 20; (with_reducible refine (tallowlaw01_do.calls 8 a0 (wrap64 (Int.tmod a1 70)) t236 _ A32.out).mono ?_); rintro e w53 ⟨rfl, hb⟩; have n0_ := Aside0.mk (below_step (by repeat (first | (with_reducible first | exact HB.out | apply below_alloc | apply pw_below_drewN | apply below_drew1) | exact HB.out)) hb); clear HB; have HB := n0_; clear n0_; (try clear hb); (try clear hb2); (try clear hk); (try clear hi)) | (go_at_call 20; (with_reducible refine (tallowlaw01_do.calls 8 t236 (wrap64 (Int.tmod a2 70)) t237 _ A33.out).mono ?_); rintro e w54 ⟨rfl, hb⟩; have n0_ := Aside0.mk (below_step (by repeat (first | (with_reducible first | exact HB.out | apply below_alloc | apply pw_below_drewN | apply below_drew1) | exact HB.out)) hb); clear HB; have HB := n0_; clear n0_; (try clear hb); (try clear hb2); (try clear hk); (try clear hi)) | (go_at_call 20; (with_reducible refine (tallowlaw01_do.calls 8 a0 (wrap64 ((wrap64 (Int.tmod a1 70)) + (wrap64 (Int.tmod a2 70)))) t238 _ A34.out).mono ?_); rintro e w55 ⟨rfl, hb⟩; have n0_ := Aside0.mk (below_step (by repeat (first | (with_reducible first | exact HB.out | apply below_alloc | apply pw_below_drewN | apply below_drew1) | exact HB.out)) hb); clear HB; have HB := n0_; clear n0_; (try clear hb); (try clear hb2); (try clear hk); (try clear hi)))
                    go_ret
                    exact ⟨by first | rfl | (simp [errW_none, errW_some] <;> rfl) | (simp [*, errW_none, errW_some] <;> rfl), by repeat (first | (with_reducible first | exact HB.out | apply below_alloc | apply pw_below_drewN | apply below_drew1) | exact HB.out)⟩
                · rw [if_neg c31] at H
                  have c31b0 : (t234 == t235) = false := beq_eq_false_iff_ne.mpr c31
                  have c31b1 : (t234 != t235) = true := bne_iff_ne.mpr c31
                  obtain rfl := Option.some.inj H
                  go_wp2_with (first | ((with_reducible refine gate_callee (f := 20) rfl ?_); refine goesL_ (some 55) rfl rfl Tryd.func20 (by kernel_rfl) rfl #[.int .i64 9, .int .i64 t225, .int .i64 (wrap64 (Int.tmod a1 70))] rfl (by (try simp only [List.map_toArray, List.map_cons, List.map_nil]); first | done | rfl | (simp only [List.length_drop, List.length_take]; rfl)) ?_; (with_reducible refine (tallowlaw01_do.calls 9 t225 (wrap64 (Int.tmod a1 70)) t230 _ A24.out).mono ?_); rintro e w56 ⟨rfl, hb⟩; refine ⟨_, rfl, ?_⟩; have n0_ := Aside0.mk (below_step (by repeat (first | (with_reducible first | exact HB.out | apply below_alloc | apply pw_below_drewN | apply below_drew1) | exact HB.out)) hb); clear HB; have HB := n0_; clear n0_; (try clear hb); (try clear hb2); (try clear hk); (try clear hi)) | ((with_reducible refine gate_callee (f := 20) rfl ?_); refine goesL_ (some 57) rfl rfl Tryd.func20 (by kernel_rfl) rfl #[.int .i64 9, .int .i64 (-1), .int .i64 (wrap64 (Int.tmod a1 70))] rfl (by (try simp only [List.map_toArray, List.map_cons, List.map_nil]); first | done | rfl | (simp only [List.length_drop, List.length_take]; rfl)) ?_; (with_reducible refine (tallowlaw01_do.calls 9 (-1) (wrap64 (Int.tmod a1 70)) t231 _ A25.out).mono ?_); rintro e w57 ⟨rfl, hb⟩; refine ⟨_, rfl, ?_⟩; have n0_ := Aside0.mk (below_step (by repeat (first | (with_reducible first | exact HB.out | apply below_alloc | apply pw_below_drewN | apply below_drew1) | exact HB.out)) hb); clear HB; have HB := n0_; clear n0_; (try clear hb); (try clear hb2); (try clear hk); (try clear hi)) | ((with_reducible refine gate_callee (f := 20) rfl ?_); refine goesL_ (some 61) rfl rfl Tryd.func20 (by kernel_rfl) rfl #[.int .i64 5, .int .i64 a0, .int .i64 t231] rfl (by (try simp only [List.map_toArray, List.map_cons, List.map_nil]); first | done | rfl | (simp only [List.length_drop, List.length_take]; rfl)) ?_; (with_reducible refine (tallowlaw01_do.calls 5 a0 t231 t232 _ A26.out).mono ?_); rintro e w58 ⟨rfl, hb⟩; refine ⟨_, rfl, ?_⟩; have n0_ := Aside0.mk (below_step (by repeat (first | (with_reducible first | exact HB.out | apply below_alloc | apply pw_below_drewN | apply below_drew1) | exact HB.out)) hb); clear HB; have HB := n0_; clear n0_; (try clear hb); (try clear hb2); (try clear hk); (try clear hi)) | ((with_reducible refine gate_callee (f := 20) rfl ?_); refine goesL_ (some 65) rfl rfl Tryd.func20 (by kernel_rfl) rfl #[.int .i64 9, .int .i64 a0, .int .i64 (wrap64 (Int.tmod a1 70))] rfl (by (try simp only [List.map_toArray, List.map_cons, List.map_nil]); first | done | rfl | (simp only [List.length_drop, List.length_take]; rfl)) ?_; (with_reducible refine (tallowlaw01_do.calls 9 a0 (wrap64 (Int.tmod a1 70)) t233 _ A28.out).mono ?_); rintro e w59 ⟨rfl, hb⟩; refine ⟨_, rfl, ?_⟩; have n0_ := Aside0.mk (below_step (by repeat (first | (with_reducible first | exact HB.out | apply below_alloc | apply pw_below_drewN | apply below_drew1) | exact HB.out)) hb); clear HB; have HB := n0_; clear n0_; (try clear hb); (try clear hb2); (try clear hk); (try clear hi)) | ((with_reducible refine gate_callee (f := 20) rfl ?_); refine goesL_ (some 67) rfl rfl Tryd.func20 (by kernel_rfl) rfl #[.int .i64 9, .int .i64 t233, .int .i64 (wrap64 (Int.tmod a2 70))] rfl (by (try simp only [List.map_toArray, List.map_cons, List.map_nil]); first | done | rfl | (simp only [List.length_drop, List.length_take]; rfl)) ?_; (with_reducible refine (tallowlaw01_do.calls 9 t233 (wrap64 (Int.tmod a2 70)) t234 _ A29.out).mono ?_); rintro e w60 ⟨rfl, hb⟩; refine ⟨_, rfl, ?_⟩; have n0_ := Aside0.mk (below_step (by repeat (first | (with_reducible first | exact HB.out | apply below_alloc | apply pw_below_drewN | apply below_drew1) | exact HB.out)) hb); clear HB; have HB := n0_; clear n0_; (try clear hb); (try clear hb2); (try clear hk); (try clear hi)) | ((with_reducible refine gate_callee (f := 20) rfl ?_); refine goesL_ (some 72) rfl rfl Tryd.func20 (by kernel_rfl) rfl #[.int .i64 9, .int .i64 a0, .int .i64 (wrap64 ((wrap64 (Int.tmod a1 70)) + (wrap64 (Int.tmod a2 70))))] rfl (by (try simp only [List.map_toArray, List.map_cons, List.map_nil]); first | done | rfl | (simp only [List.length_drop, List.length_take]; rfl)) ?_; (with_reducible refine (tallowlaw01_do.calls 9 a0 (wrap64 ((wrap64 (Int.tmod a1 70)) + (wrap64 (Int.tmod a2 70)))) t235 _ A30.out).mono ?_); rintro e w61 ⟨rfl, hb⟩; refine ⟨_, rfl, ?_⟩; have n0_ := Aside0.mk (below_step (by repeat (first | (with_reducible first | exact HB.out | apply below_alloc | apply pw_below_drewN | apply below_drew1) | exact HB.out)) hb); clear HB; have HB := n0_; clear n0_; (try clear hb); (try clear hb2); (try clear hk); (try clear hi)))
                  go_ret
                  exact ⟨by first | rfl | (simp [errW_none, errW_some] <;> rfl) | (simp [*, errW_none, errW_some] <;> rfl), by repeat (first | (with_reducible first | exact HB.out | apply below_alloc | apply pw_below_drewN | apply below_drew1) | exact HB.out)⟩
              · rw [if_neg c27] at H
                have c27b0 : (t230 == t232) = false := beq_eq_false_iff_ne.mpr c27
                have c27b1 : (t230 != t232) = true := bne_iff_ne.mpr c27
                obtain rfl := Option.some.inj H
                go_wp2_with (first | ((with_reducible refine gate_callee (f := 20) rfl ?_); refine goesL_ (some 55) rfl rfl Tryd.func20 (by kernel_rfl) rfl #[.int .i64 9, .int .i64 t225, .int .i64 (wrap64 (Int.tmod a1 70))] rfl (by (try simp only [List.map_toArray, List.map_cons, List.map_nil]); first | done | rfl | (simp only [List.length_drop, List.length_take]; rfl)) ?_; (with_reducible refine (tallowlaw01_do.calls 9 t225 (wrap64 (Int.tmod a1 70)) t230 _ A24.out).mono ?_); rintro e w62 ⟨rfl, hb⟩; refine ⟨_, rfl, ?_⟩; have n0_ := Aside0.mk (below_step (by repeat (first | (with_reducible first | exact HB.out | apply below_alloc | apply pw_below_drewN | apply below_drew1) | exact HB.out)) hb); clear HB; have HB := n0_; clear n0_; (try clear hb); (try clear hb2); (try clear hk); (try clear hi)) | ((with_reducible refine gate_callee (f := 20) rfl ?_); refine goesL_ (some 57) rfl rfl Tryd.func20 (by kernel_rfl) rfl #[.int .i64 9, .int .i64 (-1), .int .i64 (wrap64 (Int.tmod a1 70))] rfl (by (try simp only [List.map_toArray, List.map_cons, List.map_nil]); first | done | rfl | (simp only [List.length_drop, List.length_take]; rfl)) ?_; (with_reducible refine (tallowlaw01_do.calls 9 (-1) (wrap64 (Int.tmod a1 70)) t231 _ A25.out).mono ?_); rintro e w63 ⟨rfl, hb⟩; refine ⟨_, rfl, ?_⟩; have n0_ := Aside0.mk (below_step (by repeat (first | (with_reducible first | exact HB.out | apply below_alloc | apply pw_below_drewN | apply below_drew1) | exact HB.out)) hb); clear HB; have HB := n0_; clear n0_; (try clear hb); (try clear hb2); (try clear hk); (try clear hi)) | ((with_reducible refine gate_callee (f := 20) rfl ?_); refine goesL_ (some 61) rfl rfl Tryd.func20 (by kernel_rfl) rfl #[.int .i64 5, .int .i64 a0, .int .i64 t231] rfl (by (try simp only [List.map_toArray, List.map_cons, List.map_nil]); first | done | rfl | (simp only [List.length_drop, List.length_take]; rfl)) ?_; (with_reducible refine (tallowlaw01_do.calls 5 a0 t231 t232 _ A26.out).mono ?_); rintro e w64 ⟨rfl, hb⟩; refine ⟨_, rfl, ?_⟩; have n0_ := Aside0.mk (below_step (by repeat (first | (with_reducible first | exact HB.out | apply below_alloc | apply pw_below_drewN | apply below_drew1) | exact HB.out)) hb); clear HB; have HB := n0_; clear n0_; (try clear hb); (try clear hb2); (try clear hk); (try clear hi)))
                go_ret
                exact ⟨by first | rfl | (simp [errW_none, errW_some] <;> rfl) | (simp [*, errW_none, errW_some] <;> rfl), by repeat (first | (with_reducible first | exact HB.out | apply below_alloc | apply pw_below_drewN | apply below_drew1) | exact HB.out)⟩

/-- THE ONE PURE STATEMENT of tallowlaw01_NumMoves: yours. -/
def tallowlaw01_NumMoves.Pure : Prop := ∀ (a0 : Int) (a1 : Int) (a2 : Int), (Lit.int .i64 a0).wf = true → (Lit.int .u8 a1).wf = true → (Lit.int .u8 a2).wf = true → ∃ k, tallowlaw01_NumMoves.f k a0 a1 a2 = some true

end Go.Proofs.YtilmmmpbcgobaaaDoor.G
