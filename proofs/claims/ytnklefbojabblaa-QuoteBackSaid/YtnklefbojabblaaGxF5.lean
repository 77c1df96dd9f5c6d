-- written by a program of this session (handprint.sh), over functions proved by hand
import Derived.Test.YtnklefbojabblaaGx0
import Derived.Test.YtnklefbojabblaaGxF8
import Derived.Test.YtnklefbojabblaaGxF11
import Derived.Test.YtnklefbojabblaaGxF10
namespace Go.Proofs.Ytnklefbojabblaa.G
open Go.RowKit Go.Proofs.YtnklefbojabblaaW.PrintWords Go.Proofs.YtnklefbojabblaaW.PrintLast Go.Proofs.YtnklefbojabblaaW.PrintMore
attribute [local go_sem] max2_int min2_int max_two min_two max_three min_three max_four min_four   -- for this text's walks alone
set_option linter.unusedVariables false
set_option linter.unusedSimpArgs false

/-! ### tallowlaw03_QuoteBack: function 5 -/
mutual
def tallowlaw03_QuoteBack.j0 : Nat → ByteArray → Bool → Option (Bool)
  | 0, _, _ => none
  | k + 1, x3, x43 => if x43 = true then (some false) else (tallowlaw03_QuoteBack.l0 k x3 false 0)
def tallowlaw03_QuoteBack.l0 : Nat → ByteArray → Bool → Int → Option (Bool)
  | 0, _, _, _ => none
  | k + 1, x3, x6, x7 => if x7 < (x3.size : Int) then (if 0 ≤ x7 then (if (bt x3 x7) < 32 then (tallowlaw03_QuoteBack.j2 k x3 x6 x7 true) else (tallowlaw03_QuoteBack.j2 k x3 x6 x7 (decide ((bt x3 x7) > 126)))) else (none)) else ((tallowlaw03_works.f).bind fun t170 => (some t170))
def tallowlaw03_QuoteBack.j2 : Nat → ByteArray → Bool → Int → Bool → Option (Bool)
  | 0, _, _, _, _ => none
  | k + 1, x3, x6, x7, x59 => if x59 = true then (some false) else (if 0 ≤ x7 then (if x7 < (x3.size : Int) then (if (bt x3 x7) = 34 then (if x6 = true then (if (bt x3 x7) = 92 then (tallowlaw03_QuoteBack.l0 k x3 (!x6) (wrap64 (x7 + 1))) else (tallowlaw03_QuoteBack.l0 k x3 false (wrap64 (x7 + 1)))) else (if x7 > 0 then (if x7 < (wrap64 ((x3.size : Int) - 1)) then (some false) else (if (bt x3 x7) = 92 then (tallowlaw03_QuoteBack.l0 k x3 (!x6) (wrap64 (x7 + 1))) else (tallowlaw03_QuoteBack.l0 k x3 false (wrap64 (x7 + 1))))) else (if (bt x3 x7) = 92 then (tallowlaw03_QuoteBack.l0 k x3 (!x6) (wrap64 (x7 + 1))) else (tallowlaw03_QuoteBack.l0 k x3 false (wrap64 (x7 + 1)))))) else (if (bt x3 x7) = 92 then (tallowlaw03_QuoteBack.l0 k x3 (!x6) (wrap64 (x7 + 1))) else (tallowlaw03_QuoteBack.l0 k x3 false (wrap64 (x7 + 1))))) else (none)) else (none))
end
def tallowlaw03_QuoteBack.f (k : Nat) (a0 : ByteArray) : Option (Bool) := if 0 ≤ (mn (a0.size : Int) 6000) then (if (mn (a0.size : Int) 6000) ≤ (a0.size : Int) then ((quote_Quote.f (a0.extract 0 ((mn (a0.size : Int) 6000) : Int).toNat)).bind fun t166 => ((quote_Unquote.f t166).bind fun bt167 => (if ((a0.extract 0 ((mn (a0.size : Int) 6000) : Int).toNat).size : Int) > 4096 then (if bt167.2 = 3 then (if bt167.1.toList = ([] : List UInt8) then ((tallowlaw03_works.f).bind fun t169 => (some t169)) else (some false)) else (some false)) else (if bt167.2 = 0 then (if bt167.1.toList = (a0.extract 0 ((mn (a0.size : Int) 6000) : Int).toNat).toList then (tallowlaw03_QuoteBack.j0 k t166 (decide ((t166.size : Int) < 2))) else (tallowlaw03_QuoteBack.j0 k t166 true)) else (tallowlaw03_QuoteBack.j0 k t166 true))))) else (none)) else (none)
theorem tallowlaw03_QuoteBack.mono_l : ∀ k, (∀ y0 y1, LeO (tallowlaw03_QuoteBack.j0 k y0 y1) (tallowlaw03_QuoteBack.j0 (k + 1) y0 y1)) ∧ (∀ y0 y1 y2, LeO (tallowlaw03_QuoteBack.l0 k y0 y1 y2) (tallowlaw03_QuoteBack.l0 (k + 1) y0 y1 y2)) ∧ (∀ y0 y1 y2 y3, LeO (tallowlaw03_QuoteBack.j2 k y0 y1 y2 y3) (tallowlaw03_QuoteBack.j2 (k + 1) y0 y1 y2 y3))
  | 0 => ⟨fun _ _ r h => by simp [tallowlaw03_QuoteBack.j0] at h, fun _ _ _ r h => by simp [tallowlaw03_QuoteBack.l0] at h, fun _ _ _ _ r h => by simp [tallowlaw03_QuoteBack.j2] at h⟩
  | k + 1 => by
    obtain ⟨ih0, ih1, ih2⟩ := tallowlaw03_QuoteBack.mono_l k
    refine ⟨?_, ?_, ?_⟩
    · intro y0 y1
      unfold tallowlaw03_QuoteBack.j0
      repeat' first
      | (with_reducible exact ih0 _ _)
      | (with_reducible exact ih1 _ _ _)
      | (with_reducible exact ih2 _ _ _ _)
      | (with_reducible exact LeO.refl _)
      | (with_reducible exact LeO.none _)
      | (with_reducible refine LeO.ite ?_ ?_)
      | (with_reducible refine LeO.bind ?_ (fun _ => ?_))
      | exact ih0 _ _
      | exact ih1 _ _ _
      | exact ih2 _ _ _ _
      | exact LeO.none _
      | refine LeO.ite ?_ ?_
      | refine LeO.bind ?_ (fun _ => ?_)
    · intro y0 y1 y2
      unfold tallowlaw03_QuoteBack.l0
      repeat' first
      | (with_reducible exact ih0 _ _)
      | (with_reducible exact ih1 _ _ _)
      | (with_reducible exact ih2 _ _ _ _)
      | (with_reducible exact LeO.refl _)
      | (with_reducible exact LeO.none _)
      | (with_reducible refine LeO.ite ?_ ?_)
      | (with_reducible refine LeO.bind ?_ (fun _ => ?_))
      | exact ih0 _ _
      | exact ih1 _ _ _
      | exact ih2 _ _ _ _
      | exact LeO.none _
      | refine LeO.ite ?_ ?_
      | refine LeO.bind ?_ (fun _ => ?_)
    · intro y0 y1 y2 y3
      unfold tallowlaw03_QuoteBack.j2
      repeat' first
      | (with_reducible exact ih0 _ _)
      | (with_reducible exact ih1 _ _ _)
      | (with_reducible exact ih2 _ _ _ _)
      | (with_reducible exact LeO.refl _)
      | (with_reducible exact LeO.none _)
      | (with_reducible refine LeO.ite ?_ ?_)
      | (with_reducible refine LeO.bind ?_ (fun _ => ?_))
      | exact ih0 _ _
      | exact ih1 _ _ _
      | exact ih2 _ _ _ _
      | exact LeO.none _
      | refine LeO.ite ?_ ?_
      | refine LeO.bind ?_ (fun _ => ?_)
theorem tallowlaw03_QuoteBack.mono : ∀ a0 k, LeO (tallowlaw03_QuoteBack.f k a0) (tallowlaw03_QuoteBack.f (k + 1) a0) := by
  intro a0 k
  obtain ⟨ih0, ih1, ih2⟩ := tallowlaw03_QuoteBack.mono_l k
  unfold tallowlaw03_QuoteBack.f
  repeat' first
      | (with_reducible exact ih0 _ _)
      | (with_reducible exact ih1 _ _ _)
      | (with_reducible exact ih2 _ _ _ _)
      | (with_reducible exact LeO.refl _)
      | (with_reducible exact LeO.none _)
      | (with_reducible refine LeO.ite ?_ ?_)
      | (with_reducible refine LeO.bind ?_ (fun _ => ?_))
      | exact ih0 _ _
      | exact ih1 _ _ _
      | exact ih2 _ _ _ _
      | exact LeO.none _
      | refine LeO.ite ?_ ?_
      | refine LeO.bind ?_ (fun _ => ?_)
set_option maxHeartbeats 8000000 in
set_option maxRecDepth 100000 in
theorem tallowlaw03_QuoteBack.calls (k : Nat) (a0 : ByteArray) (r : Bool) (w : World) (h : tallowlaw03_QuoteBack.f k a0 = some r) :
    Calls Try.prog 5 #[.string a0] w fun e w' => e = .returned (.bool r) ∧ Below w.heap.size w w' := by
  have HB := Aside0.mk (Below.refl w.heap.size w)
  have H : (if 0 ≤ (mn (a0.size : Int) 6000) then (if (mn (a0.size : Int) 6000) ≤ (a0.size : Int) then ((quote_Quote.f (a0.extract 0 ((mn (a0.size : Int) 6000) : Int).toNat)).bind fun t166 => ((quote_Unquote.f t166).bind fun bt167 => (if ((a0.extract 0 ((mn (a0.size : Int) 6000) : Int).toNat).size : Int) > 4096 then (if bt167.2 = 3 then (if bt167.1.toList = ([] : List UInt8) then ((tallowlaw03_works.f).bind fun t169 => (some t169)) else (some false)) else (some false)) else (if bt167.2 = 0 then (if bt167.1.toList = (a0.extract 0 ((mn (a0.size : Int) 6000) : Int).toNat).toList then (tallowlaw03_QuoteBack.j0 k t166 (decide ((t166.size : Int) < 2))) else (tallowlaw03_QuoteBack.j0 k t166 true)) else (tallowlaw03_QuoteBack.j0 k t166 true))))) else (none)) else (none)) = some r := h
  clear h
  obtain ⟨ji2, hji2⟩ : ∃ j_ : Int, (mn (a0.size : Int) 6000) = j_ := ⟨_, rfl⟩
  replace H : (if 0 ≤ (ji2) then (if (ji2) ≤ (a0.size : Int) then ((quote_Quote.f (a0.extract 0 ((ji2) : Int).toNat)).bind fun t166 => ((quote_Unquote.f t166).bind fun bt167 => (if ((a0.extract 0 ((ji2) : Int).toNat).size : Int) > 4096 then (if bt167.2 = 3 then (if bt167.1.toList = ([] : List UInt8) then ((tallowlaw03_works.f).bind fun t169 => (some t169)) else (some false)) else (some false)) else (if bt167.2 = 0 then (if bt167.1.toList = (a0.extract 0 ((ji2) : Int).toNat).toList then (tallowlaw03_QuoteBack.j0 k t166 (decide ((t166.size : Int) < 2))) else (tallowlaw03_QuoteBack.j0 k t166 true)) else (tallowlaw03_QuoteBack.j0 k t166 true))))) else (none)) else (none)) = some r := by first | (rw [hji2] at H; exact H) | (simp only [hji2] at H ⊢; exact H)
  (try (have hji2h : ji2 ≤ 6000 := by (rw [← hji2]; unfold mn; (repeat' split) <;> omega)))
  (try (have hji2g : ji2 ≤ 64 := by omega))
  (try (have hji2l : 0 ≤ ji2 := by (rw [← hji2]; unfold mn; (repeat' split) <;> omega)))
  (try (have hji2m : 0 ≤ ji2 := by omega))
  have hji2_ : (if 6000 < (a0.size : Int) then 6000 else (a0.size : Int)) = ji2 := hji2
  by_cases c3 : 0 ≤ (ji2)
  · rw [if_pos c3] at H
    have c3b0 := eq_true c3
    have c3b1 : decide (0 ≤ (ji2)) = true := decide_eq_true c3
    clear c3
    by_cases c4 : (ji2) ≤ (a0.size : Int)
    · rw [if_pos c4] at H
      have c4b0 := eq_true c4
      have c4b1 : decide ((ji2) ≤ (a0.size : Int)) = true := decide_eq_true c4
      clear c4
      replace H := Option.bind_eq_some_iff.mp H
      obtain ⟨t166, A50, H⟩ := H
      replace H : ((quote_Unquote.f t166).bind fun bt167 => (if ((a0.extract 0 ((ji2) : Int).toNat).size : Int) > 4096 then (if bt167.2 = 3 then (if bt167.1.toList = ([] : List UInt8) then ((tallowlaw03_works.f).bind fun t169 => (some t169)) else (some false)) else (some false)) else (if bt167.2 = 0 then (if bt167.1.toList = (a0.extract 0 ((ji2) : Int).toNat).toList then (tallowlaw03_QuoteBack.j0 k t166 (decide ((t166.size : Int) < 2))) else (tallowlaw03_QuoteBack.j0 k t166 true)) else (tallowlaw03_QuoteBack.j0 k t166 true)))) = some r := H
      have A5 := Aside0.mk A50
      clear A50
      replace H := Option.bind_eq_some_iff.mp H
      obtain ⟨⟨t167, t168⟩, A60, H⟩ := H
      replace H : (if ((a0.extract 0 ((ji2) : Int).toNat).size : Int) > 4096 then (if t168 = 3 then (if t167.toList = ([] : List UInt8) then ((tallowlaw03_works.f).bind fun t169 => (some t169)) else (some false)) else (some false)) else (if t168 = 0 then (if t167.toList = (a0.extract 0 ((ji2) : Int).toNat).toList then (tallowlaw03_QuoteBack.j0 k t166 (decide ((t166.size : Int) < 2))) else (tallowlaw03_QuoteBack.j0 k t166 true)) else (tallowlaw03_QuoteBack.j0 k t166 true))) = some r := H
      have A6 := Aside0.mk A60
      clear A60
      by_cases c7 : ((a0.extract 0 ((ji2) : Int).toNat).size : Int) > 4096
      · rw [if_pos c7] at H
        have PLc7 : decide (4096 < max ji2 0) = true := decide_eq_true (by have h_ := c7; rw [ByteArray.size_extract] at h_; omega)
        have c7b0 : decide (4096 < ((a0.extract 0 ((ji2) : Int).toNat).size : Int)) = true := decide_eq_true c7
        have c7b1 : decide (4096 < (a0.extract 0 ((ji2) : Int).toNat).size) = true := decide_eq_true (by omega)
        clear c7
        by_cases c8 : t168 = 3
        · rw [if_pos c8] at H
          have c8b0 : (t168 == 3) = true := beq_iff_eq.mpr c8
          have c8b1 : (t168 != 3) = false := bne_eq_false_iff_eq.mpr c8
          clear c8
          by_cases c9 : t167.toList = ([] : List UInt8)
          · rw [if_pos c9] at H
            have c9b0 : (t167.toList == ([] : List UInt8)) = true := beq_iff_eq.mpr c9
            have c9b1 : (t167.toList != ([] : List UInt8)) = false := bne_eq_false_iff_eq.mpr c9
            clear c9
            replace H := Option.bind_eq_some_iff.mp H
            obtain ⟨t169, A100, H⟩ := H
            replace H : (some t169) = some r := H
            have A10 := Aside0.mk A100
            clear A100
            obtain rfl := Option.some.inj H
            go_enter Try.func5, Try.ntmps5
            go_wp2_with (first | ((with_reducible refine gate_callee (f := 8) rfl ?_); refine goesL_ (some 14) rfl rfl Try.func8 (by kernel_rfl) rfl #[.string (a0.extract 0 ((ji2) : Int).toNat)] rfl (by (try simp only [List.map_toArray, List.map_cons, List.map_nil]); first | done | (simp only [hji2]; rfl) | rfl | (simp only [List.length_drop, List.length_take]; rfl)) ?_; (with_reducible refine (quote_Quote.calls (a0.extract 0 ((ji2) : Int).toNat) t166 _ A5.out).mono ?_); rintro e w11 ⟨rfl, hb⟩; refine ⟨_, rfl, ?_⟩; have n0_ := Aside0.mk (below_step (by repeat (first | (with_reducible first | exact HB.out | apply below_alloc | apply pw_below_drewN | apply below_drew1) | exact HB.out)) hb); clear HB; have HB := n0_; clear n0_; (try clear hb); (try clear hb2); (try clear hk); (try clear hi)) | ((with_reducible refine gate_callee (f := 11) rfl ?_); refine goesL_ (some 17) rfl rfl Try.func11 (by kernel_rfl) rfl #[.string t166] rfl (by (try simp only [List.map_toArray, List.map_cons, List.map_nil]); first | done | rfl | (simp only [List.length_drop, List.length_take]; rfl)) ?_; (with_reducible refine (quote_Unquote.calls t166 t167 t168 _ A6.out).mono ?_); rintro e w12 ⟨rfl, hb⟩; refine ⟨_, rfl, ?_⟩; have n0_ := Aside0.mk (below_step (by repeat (first | (with_reducible first | exact HB.out | apply below_alloc | apply pw_below_drewN | apply below_drew1) | exact HB.out)) hb); clear HB; have HB := n0_; clear n0_; (try clear hb); (try clear hb2); (try clear hk); (try clear hi)) | (go_at_call 10; (with_reducible refine (tallowlaw03_works.calls  t169 _ A10.out).mono ?_); rintro e w13 ⟨rfl, hb⟩; have n0_ := Aside0.mk (below_step (by repeat (first | (with_reducible first | exact HB.out | apply below_alloc | apply pw_below_drewN | apply below_drew1) | exact HB.out)) hb); clear HB; have HB := n0_; clear n0_; (try clear hb); (try clear hb2); (try clear hk); (try clear hi)))
            go_ret
            exact ⟨by first | rfl | (simp [errW_none, errW_some] <;> rfl) | (simp only [← hji2]; first | rfl | (simp [errW_none, errW_some] <;> rfl)) | (simp [*, errW_none, errW_some] <;> rfl), by repeat (first | (with_reducible first | exact HB.out | apply below_alloc | apply pw_below_drewN | apply below_drew1) | exact HB.out)⟩
          · rw [if_neg c9] at H
            have c9b0 : (t167.toList == ([] : List UInt8)) = false := beq_eq_false_iff_ne.mpr c9
            have c9b1 : (t167.toList != ([] : List UInt8)) = true := bne_iff_ne.mpr c9
            obtain rfl := Option.some.inj H
            go_enter Try.func5, Try.ntmps5
            go_wp2_with (first | ((with_reducible refine gate_callee (f := 8) rfl ?_); refine goesL_ (some 14) rfl rfl Try.func8 (by kernel_rfl) rfl #[.string (a0.extract 0 ((ji2) : Int).toNat)] rfl (by (try simp only [List.map_toArray, List.map_cons, List.map_nil]); first | done | (simp only [hji2]; rfl) | rfl | (simp only [List.length_drop, List.length_take]; rfl)) ?_; (with_reducible refine (quote_Quote.calls (a0.extract 0 ((ji2) : Int).toNat) t166 _ A5.out).mono ?_); rintro e w14 ⟨rfl, hb⟩; refine ⟨_, rfl, ?_⟩; have n0_ := Aside0.mk (below_step (by repeat (first | (with_reducible first | exact HB.out | apply below_alloc | apply pw_below_drewN | apply below_drew1) | exact HB.out)) hb); clear HB; have HB := n0_; clear n0_; (try clear hb); (try clear hb2); (try clear hk); (try clear hi)) | ((with_reducible refine gate_callee (f := 11) rfl ?_); refine goesL_ (some 17) rfl rfl Try.func11 (by kernel_rfl) rfl #[.string t166] rfl (by (try simp only [List.map_toArray, List.map_cons, List.map_nil]); first | done | rfl | (simp only [List.length_drop, List.length_take]; rfl)) ?_; (with_reducible refine (quote_Unquote.calls t166 t167 t168 _ A6.out).mono ?_); rintro e w15 ⟨rfl, hb⟩; refine ⟨_, rfl, ?_⟩; have n0_ := Aside0.mk (below_step (by repeat (first | (with_reducible first | exact HB.out | apply below_alloc | apply pw_below_drewN | apply below_drew1) | exact HB.out)) hb); clear HB; have HB := n0_; clear n0_; (try clear hb); (try clear hb2); (try clear hk); (try clear hi)))
            go_ret
            exact ⟨by first | rfl | (simp [errW_none, errW_some] <;> rfl) | (simp only [← hji2]; first | rfl | (simp [errW_none, errW_some] <;> rfl)) | (simp [*, errW_none, errW_some] <;> rfl), by repeat (first | (with_reducible first | exact HB.out | apply below_alloc | apply pw_below_drewN | apply below_drew1) | exact HB.out)⟩
        · rw [if_neg c8] at H
          have c8b0 : (t168 == 3) = false := beq_eq_false_iff_ne.mpr c8
          have c8b1 : (t168 != 3) = true := bne_iff_ne.mpr c8
          obtain rfl := Option.some.inj H
          go_enter Try.func5, Try.ntmps5
          go_wp2_with (first | ((with_reducible refine gate_callee (f := 8) rfl ?_); refine goesL_ (some 14) rfl rfl Try.func8 (by kernel_rfl) rfl #[.string (a0.extract 0 ((ji2) : Int).toNat)] rfl (by (try simp only [List.map_toArray, List.map_cons, List.map_nil]); first | done | (simp only [hji2]; rfl) | rfl | (simp only [List.length_drop, List.length_take]; rfl)) ?_; (with_reducible refine (quote_Quote.calls (a0.extract 0 ((ji2) : Int).toNat) t166 _ A5.out).mono ?_); rintro e w16 ⟨rfl, hb⟩; refine ⟨_, rfl, ?_⟩; have n0_ := Aside0.mk (below_step (by repeat (first | (with_reducible first | exact HB.out | apply below_alloc | apply pw_below_drewN | apply below_drew1) | exact HB.out)) hb); clear HB; have HB := n0_; clear n0_; (try clear hb); (try clear hb2); (try clear hk); (try clear hi)) | ((with_reducible refine gate_callee (f := 11) rfl ?_); refine goesL_ (some 17) rfl rfl Try.func11 (by kernel_rfl) rfl #[.string t166] rfl (by (try simp only [List.map_toArray, List.map_cons, List.map_nil]); first | done | rfl | (simp only [List.length_drop, List.length_take]; rfl)) ?_; (with_reducible refine (quote_Unquote.calls t166 t167 t168 _ A6.out).mono ?_); rintro e w17 ⟨rfl, hb⟩; refine ⟨_, rfl, ?_⟩; have n0_ := Aside0.mk (below_step (by repeat (first | (with_reducible first | exact HB.out | apply below_alloc | apply pw_below_drewN | apply below_drew1) | exact HB.out)) hb); clear HB; have HB := n0_; clear n0_; (try clear hb); (try clear hb2); (try clear hk); (try clear hi)))
          go_ret
          exact ⟨by first | rfl | (simp [errW_none, errW_some] <;> rfl) | (simp only [← hji2]; first | rfl | (simp [errW_none, errW_some] <;> rfl)) | (simp [*, errW_none, errW_some] <;> rfl), by repeat (first | (with_reducible first | exact HB.out | apply below_alloc | apply pw_below_drewN | apply below_drew1) | exact HB.out)⟩
      · rw [if_neg c7] at H
        have PLc7 : decide (4096 < max ji2 0) = false := decide_eq_false (by have h_ := c7; have h2_ := of_decide_eq_true c4b1; rw [ByteArray.size_extract] at h_; omega)
        have c7b0 : decide (4096 < ((a0.extract 0 ((ji2) : Int).toNat).size : Int)) = false := decide_eq_false c7
        have c7b1 : decide (4096 < (a0.extract 0 ((ji2) : Int).toNat).size) = false := decide_eq_false (by omega)
        clear c7
        have HC18 := Aside0.mk H
        clear H
        go_enter Try.func5, Try.ntmps5
        go_upto_region 6 with (first | ((with_reducible refine gate_callee (f := 8) rfl ?_); refine goesL_ (some 14) rfl rfl Try.func8 (by kernel_rfl) rfl #[.string (a0.extract 0 ((ji2) : Int).toNat)] rfl (by (try simp only [List.map_toArray, List.map_cons, List.map_nil]); first | done | (simp only [hji2]; rfl) | rfl | (simp only [List.length_drop, List.length_take]; rfl)) ?_; (with_reducible refine (quote_Quote.calls (a0.extract 0 ((ji2) : Int).toNat) t166 _ A5.out).mono ?_); rintro e w19 ⟨rfl, hb⟩; refine ⟨_, rfl, ?_⟩; have n0_ := Aside0.mk (below_step (by repeat (first | (with_reducible first | exact HB.out | apply below_alloc | apply pw_below_drewN | apply below_drew1) | exact HB.out)) hb); clear HB; have HB := n0_; clear n0_; (try clear hb); (try clear hb2); (try clear hk); (try clear hi)) | ((with_reducible refine gate_callee (f := 11) rfl ?_); refine goesL_ (some 17) rfl rfl Try.func11 (by kernel_rfl) rfl #[.string t166] rfl (by (try simp only [List.map_toArray, List.map_cons, List.map_nil]); first | done | rfl | (simp only [List.length_drop, List.length_take]; rfl)) ?_; (with_reducible refine (quote_Unquote.calls t166 t167 t168 _ A6.out).mono ?_); rintro e w20 ⟨rfl, hb⟩; refine ⟨_, rfl, ?_⟩; have n0_ := Aside0.mk (below_step (by repeat (first | (with_reducible first | exact HB.out | apply below_alloc | apply pw_below_drewN | apply below_drew1) | exact HB.out)) hb); clear HB; have HB := n0_; clear n0_; (try clear hb); (try clear hb2); (try clear hk); (try clear hi)))
        (try simp only [Act.put, List.setIfInBounds_toArray, List.set_cons_zero, List.set_cons_succ])
        go_cut [43] (fun v43 wc => ∃ (kq : Nat) (x43_17 : Bool), v43 = .bool x43_17 ∧ Aside0 (tallowlaw03_QuoteBack.j0 kq t166 x43_17 = some r) ∧ Aside0 (kq ≤ k) ∧ Aside0 (Below w.heap.size w wc))
        case first =>
          have H := HC18.out
          clear HC18
          by_cases c21 : t168 = 0
          · rw [if_pos c21] at H
            have c21b0 : (t168 == 0) = true := beq_iff_eq.mpr c21
            have c21b1 : (t168 != 0) = false := bne_eq_false_iff_eq.mpr c21
            clear c21
            (first | rw [c21b0] | (simp only [i64_w, i32_w]; rw [c21b0]) | skip)
            by_cases c22 : t167.toList = (a0.extract 0 ((ji2) : Int).toNat).toList
            · rw [if_pos c22] at H
              have c22b0 : (t167.toList == (a0.extract 0 ((ji2) : Int).toNat).toList) = true := beq_iff_eq.mpr c22
              have c22b1 : (t167.toList != (a0.extract 0 ((ji2) : Int).toNat).toList) = false := bne_eq_false_iff_eq.mpr c22
              clear c22
              have H' := Aside0.mk H
              clear H
              go_wp2
              go_meet
              case rel => exact ⟨_, (decide ((t166.size : Int) < 2)), (by first | rfl | (simp; done) | (simp [*]; done)), H', ⟨by first | omega | exact Nat.le_refl _⟩, ⟨by repeat (first | (with_reducible first | exact HB.out | apply below_alloc | apply pw_below_drewN | apply below_drew1) | exact HB.out)⟩⟩
            · rw [if_neg c22] at H
              have c22b0 : (t167.toList == (a0.extract 0 ((ji2) : Int).toNat).toList) = false := beq_eq_false_iff_ne.mpr c22
              have c22b1 : (t167.toList != (a0.extract 0 ((ji2) : Int).toNat).toList) = true := bne_iff_ne.mpr c22
              have H' := Aside0.mk H
              clear H
              go_wp2
              go_meet
              case rel => exact ⟨_, (true), (by first | rfl | (simp; done) | (simp [*]; done)), H', ⟨by first | omega | exact Nat.le_refl _⟩, ⟨by repeat (first | (with_reducible first | exact HB.out | apply below_alloc | apply pw_below_drewN | apply below_drew1) | exact HB.out)⟩⟩
          · rw [if_neg c21] at H
            have c21b0 : (t168 == 0) = false := beq_eq_false_iff_ne.mpr c21
            have c21b1 : (t168 != 0) = true := bne_iff_ne.mpr c21
            (first | rw [c21b0] | (simp only [i64_w, i32_w]; rw [c21b0]) | skip)
            have H' := Aside0.mk H
            clear H
            go_wp2
            go_meet
            case rel => exact ⟨_, (true), (by first | rfl | (simp; done) | (simp [*]; done)), H', ⟨by first | omega | exact Nat.le_refl _⟩, ⟨by repeat (first | (with_reducible first | exact HB.out | apply below_alloc | apply pw_below_drewN | apply below_drew1) | exact HB.out)⟩⟩
        case rest =>
          clear HC18
          try clear c1
          try clear c2
          try clear p2
          try clear c3
          try clear c3b0
          try clear c3b1
          try clear c4
          try clear c4b0
          try clear c4b1
          try clear c5
          try clear c7
          try clear c7b0
          try clear c7b1
          try clear c8
          try clear c8b0
          try clear c8b1
          try clear c9
          try clear c9b0
          try clear c9b1
          try clear c11
          try clear c21
          try clear c21b0
          try clear c21b1
          try clear c22
          try clear c22b0
          try clear c22b1
          obtain ⟨kq, x43_17, rfl, HA, HJ17, HB⟩ := hcut
          cases kq with
          | zero => exact absurd HA.out (by simp [tallowlaw03_QuoteBack.j0])
          | succ kj17 =>
            have H := HA.out
            clear HA
            simp only [tallowlaw03_QuoteBack.j0] at H
            by_cases c23 : x43_17 = true
            · subst c23
              have H1 : (some false) = some r := by rw [if_pos rfl] at H; exact H
              clear H
              have H := H1
              clear H1
              obtain rfl := Option.some.inj H
              go_wp2
              go_ret
              exact ⟨by first | rfl | (simp [errW_none, errW_some] <;> rfl) | (simp only [← hji2]; first | rfl | (simp [errW_none, errW_some] <;> rfl)) | (simp [*, errW_none, errW_some] <;> rfl), by repeat (first | (with_reducible first | exact HB.out | apply below_alloc | apply pw_below_drewN | apply below_drew1) | exact HB.out)⟩
            · replace c23 := Bool.eq_false_iff.mpr c23
              subst c23
              have H1 : (tallowlaw03_QuoteBack.l0 kj17 t166 false 0) = some r := by rw [if_neg (show ¬ (false = true) by decide)] at H; exact H
              clear H
              have H := H1
              clear H1
              have H' := Aside0.mk H
              clear H
              go_wp2
              go_loopg [6, 7] kj17 (fun kq v6 v7 w' => ∃ (x6_2 : Bool) (x7_2 : Int), v6 = .bool x6_2 ∧ v7 = .int .i64 x7_2 ∧ Aside0 (tallowlaw03_QuoteBack.l0 kq t166 x6_2 x7_2 = some r) ∧ Aside0 (kq ≤ kj17) ∧ Aside0 (Below w.heap.size w w'))
              case atStart => exact ⟨(false), (0), (by first | rfl | (simp; done) | (simp [*]; done)), (by first | rfl | (simp; done) | (simp [*]; done)), H', ⟨Nat.le_refl _⟩, ⟨by repeat (first | (with_reducible first | exact HB.out | apply below_alloc | apply pw_below_drewN | apply below_drew1) | exact HB.out)⟩⟩
              case round =>
                clear H'
                try clear c1
                try clear c2
                try clear p2
                try clear c3
                try clear c3b0
                try clear c3b1
                try clear c4
                try clear c4b0
                try clear c4b1
                try clear c5
                try clear c7
                try clear c7b0
                try clear c7b1
                try clear c8
                try clear c8b0
                try clear c8b1
                try clear c9
                try clear c9b0
                try clear c9b1
                try clear c11
                try clear c21
                try clear c21b0
                try clear c21b1
                try clear c22
                try clear c22b0
                try clear c22b1
                try clear c23
                try clear p2
                obtain ⟨x6_2, x7_2, rfl, rfl, HA, HK2, HB⟩ := hrel
                cases gk with
                | zero => exact absurd HA.out (by simp [tallowlaw03_QuoteBack.l0])
                | succ k2 =>
                  have H := HA.out
                  clear HA
                  simp only [tallowlaw03_QuoteBack.l0] at H
                  by_cases c24 : x7_2 < (t166.size : Int)
                  · rw [if_pos c24] at H
                    have c24b0 : decide (x7_2 < (t166.size : Int)) = true := decide_eq_true c24
                    clear c24
                    have HC25 := Aside0.mk H
                    clear H
                    go_upto_region 12 with (fail)
                    go_cut [59] (fun v59 wc => ∃ (kq : Nat) (x59_24 : Bool), v59 = .bool x59_24 ∧ Aside0 (tallowlaw03_QuoteBack.j2 kq t166 x6_2 x7_2 x59_24 = some r) ∧ Aside0 (kq ≤ k2) ∧ Aside0 (Below w.heap.size w wc))
                    case first =>
                      have H := HC25.out
                      clear HC25
                      by_cases c26 : 0 ≤ x7_2
                      · rw [if_pos c26] at H
                        have c26b0 : decide (0 ≤ x7_2) = true := decide_eq_true c26
                        clear c26
                        (first | rw [c26b0] | (simp only [i64_w, i32_w]; rw [c26b0]) | skip)
                        by_cases c28 : (bt t166 x7_2) < 32
                        · rw [if_pos c28] at H
                          have c28b0 : decide ((bt t166 x7_2) < 32) = true := decide_eq_true c28
                          clear c28
                          have H' := Aside0.mk H
                          clear H
                          have p27 : 0 ≤ (x7_2 : Int) := of_decide_eq_true (by first | (with_reducible assumption) | assumption)
                          have q27 : x7_2 < (t166.size : Int) := of_decide_eq_true (by first | (with_reducible assumption) | assumption)
                          have hx27 := bt_at t166 x7_2
                          replace p27 := eq_true p27
                          replace q27 := eq_true q27
                          go_wp2
                          go_meet
                          case rel => exact ⟨_, (true), (by first | rfl | (simp; done) | (simp [*]; done)), H', ⟨by have := HJ17.out; have := HK2.out; first | omega | exact Nat.le_refl _⟩, ⟨by repeat (first | (with_reducible first | exact HB.out | apply below_alloc | apply pw_below_drewN | apply below_drew1) | exact HB.out)⟩⟩
                        · rw [if_neg c28] at H
                          have c28b0 : decide ((bt t166 x7_2) < 32) = false := decide_eq_false c28
                          clear c28
                          have H' := Aside0.mk H
                          clear H
                          have p27 : 0 ≤ (x7_2 : Int) := of_decide_eq_true (by first | (with_reducible assumption) | assumption)
                          have q27 : x7_2 < (t166.size : Int) := of_decide_eq_true (by first | (with_reducible assumption) | assumption)
                          have hx27 := bt_at t166 x7_2
                          replace p27 := eq_true p27
                          replace q27 := eq_true q27
                          have p29 : 0 ≤ (x7_2 : Int) := of_decide_eq_true (by first | (with_reducible assumption) | assumption)
                          have q29 : x7_2 < (t166.size : Int) := of_decide_eq_true (by first | (with_reducible assumption) | assumption)
                          have hx29 := bt_at t166 x7_2
                          replace p29 := eq_true p29
                          replace q29 := eq_true q29
                          go_wp2
                          go_meet
                          case rel => exact ⟨_, (decide ((bt t166 x7_2) > 126)), (by first | rfl | (simp; done) | (simp [*]; done)), H', ⟨by have := HJ17.out; have := HK2.out; first | omega | exact Nat.le_refl _⟩, ⟨by repeat (first | (with_reducible first | exact HB.out | apply below_alloc | apply pw_below_drewN | apply below_drew1) | exact HB.out)⟩⟩
                      · rw [if_neg c26] at H
                        exact absurd H (by simp)
                    case rest =>
                      clear HC25
                      try clear c1
                      try clear c2
                      try clear p2
                      try clear q2
                      try clear hx2
                      try clear c3
                      try clear c3b0
                      try clear c3b1
                      try clear c4
                      try clear c4b0
                      try clear c4b1
                      try clear c5
                      try clear c7
                      try clear c7b0
                      try clear c7b1
                      try clear c8
                      try clear c8b0
                      try clear c8b1
                      try clear c9
                      try clear c9b0
                      try clear c9b1
                      try clear c11
                      try clear c21
                      try clear c21b0
                      try clear c21b1
                      try clear c22
                      try clear c22b0
                      try clear c22b1
                      try clear c23
                      try clear c24
                      try clear c24b0
                      try clear c26
                      try clear c26b0
                      try clear p27
                      try clear q27
                      try clear hx27
                      try clear c28
                      try clear c28b0
                      try clear p29
                      try clear q29
                      try clear hx29
                      try clear p2
                      try clear p27
                      try clear p29
                      try clear q27
                      try clear q29
                      obtain ⟨kq, x59_24, rfl, HA, HJ24, HB⟩ := hcut
                      cases kq with
                      | zero => exact absurd HA.out (by simp [tallowlaw03_QuoteBack.j2])
                      | succ kj24 =>
                        have H := HA.out
                        clear HA
                        simp only [tallowlaw03_QuoteBack.j2] at H
                        by_cases c30 : x59_24 = true
                        · subst c30
                          have H1 : (some false) = some r := by rw [if_pos rfl] at H; exact H
                          clear H
                          have H := H1
                          clear H1
                          obtain rfl := Option.some.inj H
                          go_wp2
                          go_ret
                          exact ⟨by first | rfl | (simp [errW_none, errW_some] <;> rfl) | (simp only [← hji2]; first | rfl | (simp [errW_none, errW_some] <;> rfl)) | (simp [*, errW_none, errW_some] <;> rfl), by repeat (first | (with_reducible first | exact HB.out | apply below_alloc | apply pw_below_drewN | apply below_drew1) | exact HB.out)⟩
                        · replace c30 := Bool.eq_false_iff.mpr c30
                          subst c30
                          have H1 : (if 0 ≤ x7_2 then (if x7_2 < (t166.size : Int) then (if (bt t166 x7_2) = 34 then (if x6_2 = true then (if (bt t166 x7_2) = 92 then (tallowlaw03_QuoteBack.l0 kj24 t166 (!x6_2) (wrap64 (x7_2 + 1))) else (tallowlaw03_QuoteBack.l0 kj24 t166 false (wrap64 (x7_2 + 1)))) else (if x7_2 > 0 then (if x7_2 < (wrap64 ((t166.size : Int) - 1)) then (some false) else (if (bt t166 x7_2) = 92 then (tallowlaw03_QuoteBack.l0 kj24 t166 (!x6_2) (wrap64 (x7_2 + 1))) else (tallowlaw03_QuoteBack.l0 kj24 t166 false (wrap64 (x7_2 + 1))))) else (if (bt t166 x7_2) = 92 then (tallowlaw03_QuoteBack.l0 kj24 t166 (!x6_2) (wrap64 (x7_2 + 1))) else (tallowlaw03_QuoteBack.l0 kj24 t166 false (wrap64 (x7_2 + 1)))))) else (if (bt t166 x7_2) = 92 then (tallowlaw03_QuoteBack.l0 kj24 t166 (!x6_2) (wrap64 (x7_2 + 1))) else (tallowlaw03_QuoteBack.l0 kj24 t166 false (wrap64 (x7_2 + 1))))) else (none)) else (none)) = some r := by rw [if_neg (show ¬ (false = true) by decide)] at H; exact H
                          clear H
                          have H := H1
                          clear H1
                          by_cases c31 : 0 ≤ x7_2
                          · rw [if_pos c31] at H
                            have c31b0 : decide (0 ≤ x7_2) = true := decide_eq_true c31
                            clear c31
                            by_cases c32 : x7_2 < (t166.size : Int)
                            · rw [if_pos c32] at H
                              have c32b0 : decide (x7_2 < (t166.size : Int)) = true := decide_eq_true c32
                              clear c32
                              by_cases c34 : (bt t166 x7_2) = 34
                              · rw [if_pos c34] at H
                                have c34b0 : ((bt t166 x7_2) == 34) = true := beq_iff_eq.mpr c34
                                have c34b1 : ((bt t166 x7_2) != 34) = false := bne_eq_false_iff_eq.mpr c34
                                clear c34
                                by_cases c35 : x6_2 = true
                                · subst c35
                                  have H1 : (if (bt t166 x7_2) = 92 then (tallowlaw03_QuoteBack.l0 kj24 t166 (!true) (wrap64 (x7_2 + 1))) else (tallowlaw03_QuoteBack.l0 kj24 t166 false (wrap64 (x7_2 + 1)))) = some r := by rw [if_pos rfl] at H; exact H
                                  clear H
                                  have H := H1
                                  clear H1
                                  by_cases c37 : (bt t166 x7_2) = 92
                                  · rw [if_pos c37] at H
                                    have c37b0 : ((bt t166 x7_2) == 92) = true := beq_iff_eq.mpr c37
                                    have c37b1 : ((bt t166 x7_2) != 92) = false := bne_eq_false_iff_eq.mpr c37
                                    clear c37
                                    have H' := Aside0.mk H
                                    clear H
                                    have p33 : 0 ≤ (x7_2 : Int) := of_decide_eq_true (by first | (with_reducible assumption) | assumption)
                                    have q33 : x7_2 < (t166.size : Int) := of_decide_eq_true (by first | (with_reducible assumption) | assumption)
                                    have hx33 := bt_at t166 x7_2
                                    replace p33 := eq_true p33
                                    replace q33 := eq_true q33
                                    have p36 : 0 ≤ (x7_2 : Int) := of_decide_eq_true (by first | (with_reducible assumption) | assumption)
                                    have q36 : x7_2 < (t166.size : Int) := of_decide_eq_true (by first | (with_reducible assumption) | assumption)
                                    have hx36 := bt_at t166 x7_2
                                    replace p36 := eq_true p36
                                    replace q36 := eq_true q36
                                    go_wp2
                                    go_roundg kj24
                                    case measure => have := HJ17.out; have := HK2.out; have := HJ24.out; omega
                                    case rel => exact ⟨(!true), (wrap64 (x7_2 + 1)), (by first | rfl | (simp; done) | (simp [*]; done)), (by first | rfl | (simp; done) | (simp [*]; done)), H', ⟨by have := HJ17.out; have := HK2.out; have := HJ24.out; omega⟩, ⟨by repeat (first | (with_reducible first | exact HB.out | apply below_alloc | apply pw_below_drewN | apply below_drew1) | exact HB.out)⟩⟩
                                  · rw [if_neg c37] at H
                                    have c37b0 : ((bt t166 x7_2) == 92) = false := beq_eq_false_iff_ne.mpr c37
                                    have c37b1 : ((bt t166 x7_2) != 92) = true := bne_iff_ne.mpr c37
                                    have H' := Aside0.mk H
                                    clear H
                                    have p33 : 0 ≤ (x7_2 : Int) := of_decide_eq_true (by first | (with_reducible assumption) | assumption)
                                    have q33 : x7_2 < (t166.size : Int) := of_decide_eq_true (by first | (with_reducible assumption) | assumption)
                                    have hx33 := bt_at t166 x7_2
                                    replace p33 := eq_true p33
                                    replace q33 := eq_true q33
                                    have p36 : 0 ≤ (x7_2 : Int) := of_decide_eq_true (by first | (with_reducible assumption) | assumption)
                                    have q36 : x7_2 < (t166.size : Int) := of_decide_eq_true (by first | (with_reducible assumption) | assumption)
                                    have hx36 := bt_at t166 x7_2
                                    replace p36 := eq_true p36
                                    replace q36 := eq_true q36
                                    go_wp2
                                    go_roundg kj24
                                    case measure => have := HJ17.out; have := HK2.out; have := HJ24.out; omega
                                    case rel => exact ⟨(false), (wrap64 (x7_2 + 1)), (by first | rfl | (simp; done) | (simp [*]; done)), (by first | rfl | (simp; done) | (simp [*]; done)), H', ⟨by have := HJ17.out; have := HK2.out; have := HJ24.out; omega⟩, ⟨by repeat (first | (with_reducible first | exact HB.out | apply below_alloc | apply pw_below_drewN | apply below_drew1) | exact HB.out)⟩⟩
                                · replace c35 := Bool.eq_false_iff.mpr c35
                                  subst c35
                                  have H1 : (if x7_2 > 0 then (if x7_2 < (wrap64 ((t166.size : Int) - 1)) then (some false) else (if (bt t166 x7_2) = 92 then (tallowlaw03_QuoteBack.l0 kj24 t166 (!false) (wrap64 (x7_2 + 1))) else (tallowlaw03_QuoteBack.l0 kj24 t166 false (wrap64 (x7_2 + 1))))) else (if (bt t166 x7_2) = 92 then (tallowlaw03_QuoteBack.l0 kj24 t166 (!false) (wrap64 (x7_2 + 1))) else (tallowlaw03_QuoteBack.l0 kj24 t166 false (wrap64 (x7_2 + 1))))) = some r := by rw [if_neg (show ¬ (false = true) by decide)] at H; exact H
                                  clear H
                                  have H := H1
                                  clear H1
                                  by_cases c38 : x7_2 > 0
                                  · rw [if_pos c38] at H
                                    have c38b0 : decide (0 < x7_2) = true := decide_eq_true c38
                                    clear c38
                                    by_cases c39 : x7_2 < (wrap64 ((t166.size : Int) - 1))
                                    · rw [if_pos c39] at H
                                      have c39b0 : decide (x7_2 < (wrap64 ((t166.size : Int) - 1))) = true := decide_eq_true c39
                                      clear c39
                                      obtain rfl := Option.some.inj H
                                      have p33 : 0 ≤ (x7_2 : Int) := of_decide_eq_true (by first | (with_reducible assumption) | assumption)
                                      have q33 : x7_2 < (t166.size : Int) := of_decide_eq_true (by first | (with_reducible assumption) | assumption)
                                      have hx33 := bt_at t166 x7_2
                                      replace p33 := eq_true p33
                                      replace q33 := eq_true q33
                                      go_wp2
                                      go_ret
                                      exact ⟨by first | rfl | (simp [errW_none, errW_some] <;> rfl) | (simp only [← hji2]; first | rfl | (simp [errW_none, errW_some] <;> rfl)) | (simp [*, errW_none, errW_some] <;> rfl), by repeat (first | (with_reducible first | exact HB.out | apply below_alloc | apply pw_below_drewN | apply below_drew1) | exact HB.out)⟩
                                    · rw [if_neg c39] at H
                                      have c39b0 : decide (x7_2 < (wrap64 ((t166.size : Int) - 1))) = false := decide_eq_false c39
                                      clear c39
                                      by_cases c41 : (bt t166 x7_2) = 92
                                      · rw [if_pos c41] at H
                                        have c41b0 : ((bt t166 x7_2) == 92) = true := beq_iff_eq.mpr c41
                                        have c41b1 : ((bt t166 x7_2) != 92) = false := bne_eq_false_iff_eq.mpr c41
                                        clear c41
                                        have H' := Aside0.mk H
                                        clear H
                                        have p33 : 0 ≤ (x7_2 : Int) := of_decide_eq_true (by first | (with_reducible assumption) | assumption)
                                        have q33 : x7_2 < (t166.size : Int) := of_decide_eq_true (by first | (with_reducible assumption) | assumption)
                                        have hx33 := bt_at t166 x7_2
                                        replace p33 := eq_true p33
                                        replace q33 := eq_true q33
                                        have p40 : 0 ≤ (x7_2 : Int) := of_decide_eq_true (by first | (with_reducible assumption) | assumption)
                                        have q40 : x7_2 < (t166.size : Int) := of_decide_eq_true (by first | (with_reducible assumption) | assumption)
                                        have hx40 := bt_at t166 x7_2
                                        replace p40 := eq_true p40
                                        replace q40 := eq_true q40
                                        go_wp2
                                        go_roundg kj24
                                        case measure => have := HJ17.out; have := HK2.out; have := HJ24.out; omega
                                        case rel => exact ⟨(!false), (wrap64 (x7_2 + 1)), (by first | rfl | (simp; done) | (simp [*]; done)), (by first | rfl | (simp; done) | (simp [*]; done)), H', ⟨by have := HJ17.out; have := HK2.out; have := HJ24.out; omega⟩, ⟨by repeat (first | (with_reducible first | exact HB.out | apply below_alloc | apply pw_below_drewN | apply below_drew1) | exact HB.out)⟩⟩
                                      · rw [if_neg c41] at H
                                        have c41b0 : ((bt t166 x7_2) == 92) = false := beq_eq_false_iff_ne.mpr c41
                                        have c41b1 : ((bt t166 x7_2) != 92) = true := bne_iff_ne.mpr c41
                                        have H' := Aside0.mk H
                                        clear H
                                        have p33 : 0 ≤ (x7_2 : Int) := of_decide_eq_true (by first | (with_reducible assumption) | assumption)
                                        have q33 : x7_2 < (t166.size : Int) := of_decide_eq_true (by first | (with_reducible assumption) | assumption)
                                        have hx33 := bt_at t166 x7_2
                                        replace p33 := eq_true p33
                                        replace q33 := eq_true q33
                                        have p40 : 0 ≤ (x7_2 : Int) := of_decide_eq_true (by first | (with_reducible assumption) | assumption)
                                        have q40 : x7_2 < (t166.size : Int) := of_decide_eq_true (by first | (with_reducible assumption) | assumption)
                                        have hx40 := bt_at t166 x7_2
                                        replace p40 := eq_true p40
                                        replace q40 := eq_true q40
                                        go_wp2
                                        go_roundg kj24
                                        case measure => have := HJ17.out; have := HK2.out; have := HJ24.out; omega
                                        case rel => exact ⟨(false), (wrap64 (x7_2 + 1)), (by first | rfl | (simp; done) | (simp [*]; done)), (by first | rfl | (simp; done) | (simp [*]; done)), H', ⟨by have := HJ17.out; have := HK2.out; have := HJ24.out; omega⟩, ⟨by repeat (first | (with_reducible first | exact HB.out | apply below_alloc | apply pw_below_drewN | apply below_drew1) | exact HB.out)⟩⟩
                                  · rw [if_neg c38] at H
                                    have c38b0 : decide (0 < x7_2) = false := decide_eq_false c38
                                    clear c38
                                    by_cases c43 : (bt t166 x7_2) = 92
                                    · rw [if_pos c43] at H
                                      have c43b0 : ((bt t166 x7_2) == 92) = true := beq_iff_eq.mpr c43
                                      have c43b1 : ((bt t166 x7_2) != 92) = false := bne_eq_false_iff_eq.mpr c43
                                      clear c43
                                      have H' := Aside0.mk H
                                      clear H
                                      have p33 : 0 ≤ (x7_2 : Int) := of_decide_eq_true (by first | (with_reducible assumption) | assumption)
                                      have q33 : x7_2 < (t166.size : Int) := of_decide_eq_true (by first | (with_reducible assumption) | assumption)
                                      have hx33 := bt_at t166 x7_2
                                      replace p33 := eq_true p33
                                      replace q33 := eq_true q33
                                      have p42 : 0 ≤ (x7_2 : Int) := of_decide_eq_true (by first | (with_reducible assumption) | assumption)
                                      have q42 : x7_2 < (t166.size : Int) := of_decide_eq_true (by first | (with_reducible assumption) | assumption)
                                      have hx42 := bt_at t166 x7_2
                                      replace p42 := eq_true p42
                                      replace q42 := eq_true q42
                                      go_wp2
                                      go_roundg kj24
                                      case measure => have := HJ17.out; have := HK2.out; have := HJ24.out; omega
                                      case rel => exact ⟨(!false), (wrap64 (x7_2 + 1)), (by first | rfl | (simp; done) | (simp [*]; done)), (by first | rfl | (simp; done) | (simp [*]; done)), H', ⟨by have := HJ17.out; have := HK2.out; have := HJ24.out; omega⟩, ⟨by repeat (first | (with_reducible first | exact HB.out | apply below_alloc | apply pw_below_drewN | apply below_drew1) | exact HB.out)⟩⟩
                                    · rw [if_neg c43] at H
                                      have c43b0 : ((bt t166 x7_2) == 92) = false := beq_eq_false_iff_ne.mpr c43
                                      have c43b1 : ((bt t166 x7_2) != 92) = true := bne_iff_ne.mpr c43
                                      have H' := Aside0.mk H
                                      clear H
                                      have p33 : 0 ≤ (x7_2 : Int) := of_decide_eq_true (by first | (with_reducible assumption) | assumption)
                                      have q33 : x7_2 < (t166.size : Int) := of_decide_eq_true (by first | (with_reducible assumption) | assumption)
                                      have hx33 := bt_at t166 x7_2
                                      replace p33 := eq_true p33
                                      replace q33 := eq_true q33
                                      have p42 : 0 ≤ (x7_2 : Int) := of_decide_eq_true (by first | (with_reducible assumption) | assumption)
                                      have q42 : x7_2 < (t166.size : Int) := of_decide_eq_true (by first | (with_reducible assumption) | assumption)
                                      have hx42 := bt_at t166 x7_2
                                      replace p42 := eq_true p42
                                      replace q42 := eq_true q42
                                      go_wp2
                                      go_roundg kj24
                                      case measure => have := HJ17.out; have := HK2.out; have := HJ24.out; omega
                                      case rel => exact ⟨(false), (wrap64 (x7_2 + 1)), (by first | rfl | (simp; done) | (simp [*]; done)), (by first | rfl | (simp; done) | (simp [*]; done)), H', ⟨by have := HJ17.out; have := HK2.out; have := HJ24.out; omega⟩, ⟨by repeat (first | (with_reducible first | exact HB.out | apply below_alloc | apply pw_below_drewN | apply below_drew1) | exact HB.out)⟩⟩
                              · rw [if_neg c34] at H
                                have c34b0 : ((bt t166 x7_2) == 34) = false := beq_eq_false_iff_ne.mpr c34
                                have c34b1 : ((bt t166 x7_2) != 34) = true := bne_iff_ne.mpr c34
                                by_cases c45 : (bt t166 x7_2) = 92
                                · rw [if_pos c45] at H
                                  have c45b0 : ((bt t166 x7_2) == 92) = true := beq_iff_eq.mpr c45
                                  have c45b1 : ((bt t166 x7_2) != 92) = false := bne_eq_false_iff_eq.mpr c45
                                  clear c45
                                  have H' := Aside0.mk H
                                  clear H
                                  have p33 : 0 ≤ (x7_2 : Int) := of_decide_eq_true (by first | (with_reducible assumption) | assumption)
                                  have q33 : x7_2 < (t166.size : Int) := of_decide_eq_true (by first | (with_reducible assumption) | assumption)
                                  have hx33 := bt_at t166 x7_2
                                  replace p33 := eq_true p33
                                  replace q33 := eq_true q33
                                  have p44 : 0 ≤ (x7_2 : Int) := of_decide_eq_true (by first | (with_reducible assumption) | assumption)
                                  have q44 : x7_2 < (t166.size : Int) := of_decide_eq_true (by first | (with_reducible assumption) | assumption)
                                  have hx44 := bt_at t166 x7_2
                                  replace p44 := eq_true p44
                                  replace q44 := eq_true q44
                                  go_wp2
                                  go_roundg kj24
                                  case measure => have := HJ17.out; have := HK2.out; have := HJ24.out; omega
                                  case rel => exact ⟨(!x6_2), (wrap64 (x7_2 + 1)), (by first | rfl | (simp; done) | (simp [*]; done)), (by first | rfl | (simp; done) | (simp [*]; done)), H', ⟨by have := HJ17.out; have := HK2.out; have := HJ24.out; omega⟩, ⟨by repeat (first | (with_reducible first | exact HB.out | apply below_alloc | apply pw_below_drewN | apply below_drew1) | exact HB.out)⟩⟩
                                · rw [if_neg c45] at H
                                  have c45b0 : ((bt t166 x7_2) == 92) = false := beq_eq_false_iff_ne.mpr c45
                                  have c45b1 : ((bt t166 x7_2) != 92) = true := bne_iff_ne.mpr c45
                                  have H' := Aside0.mk H
                                  clear H
                                  have p33 : 0 ≤ (x7_2 : Int) := of_decide_eq_true (by first | (with_reducible assumption) | assumption)
                                  have q33 : x7_2 < (t166.size : Int) := of_decide_eq_true (by first | (with_reducible assumption) | assumption)
                                  have hx33 := bt_at t166 x7_2
                                  replace p33 := eq_true p33
                                  replace q33 := eq_true q33
                                  have p44 : 0 ≤ (x7_2 : Int) := of_decide_eq_true (by first | (with_reducible assumption) | assumption)
                                  have q44 : x7_2 < (t166.size : Int) := of_decide_eq_true (by first | (with_reducible assumption) | assumption)
                                  have hx44 := bt_at t166 x7_2
                                  replace p44 := eq_true p44
                                  replace q44 := eq_true q44
                                  go_wp2
                                  go_roundg kj24
                                  case measure => have := HJ17.out; have := HK2.out; have := HJ24.out; omega
                                  case rel => exact ⟨(false), (wrap64 (x7_2 + 1)), (by first | rfl | (simp; done) | (simp [*]; done)), (by first | rfl | (simp; done) | (simp [*]; done)), H', ⟨by have := HJ17.out; have := HK2.out; have := HJ24.out; omega⟩, ⟨by repeat (first | (with_reducible first | exact HB.out | apply below_alloc | apply pw_below_drewN | apply below_drew1) | exact HB.out)⟩⟩
                            · rw [if_neg c32] at H
                              exact absurd H (by simp)
                          · rw [if_neg c31] at H
                            exact absurd H (by simp)
                  · rw [if_neg c24] at H
                    have c24b0 : decide (x7_2 < (t166.size : Int)) = false := decide_eq_false c24
                    clear c24
                    replace H := Option.bind_eq_some_iff.mp H
                    obtain ⟨t170, A460, H⟩ := H
                    replace H : (some t170) = some r := H
                    have A46 := Aside0.mk A460
                    clear A460
                    obtain rfl := Option.some.inj H
                    go_wp2_with (first | ((with_reducible refine gate_callee (f := 10) rfl ?_); refine goesL_ (some 87) rfl rfl Try.func10 (by kernel_rfl) rfl #[] rfl (by (try simp only [List.map_toArray, List.map_cons, List.map_nil]); first | done | rfl | (simp only [List.length_drop, List.length_take]; rfl)) ?_; (with_reducible refine (tallowlaw03_works.calls  t170 _ A46.out).mono ?_); rintro e w47 ⟨rfl, hb⟩; refine ⟨_, rfl, ?_⟩; have n0_ := Aside0.mk (below_step (by repeat (first | (with_reducible first | exact HB.out | apply below_alloc | apply pw_below_drewN | apply below_drew1) | exact HB.out)) hb); clear HB; have HB := n0_; clear n0_; (try clear hb); (try clear hb2); (try clear hk); (try clear hi)))
                    go_ret
                    exact ⟨by first | rfl | (simp [errW_none, errW_some] <;> rfl) | (simp only [← hji2]; first | rfl | (simp [errW_none, errW_some] <;> rfl)) | (simp [*, errW_none, errW_some] <;> rfl), by repeat (first | (with_reducible first | exact HB.out | apply below_alloc | apply pw_below_drewN | apply below_drew1) | exact HB.out)⟩
    · rw [if_neg c4] at H
      exact absurd H (by simp)
  · rw [if_neg c3] at H
    exact absurd H (by simp)

/-- THE ONE PURE STATEMENT of tallowlaw03_QuoteBack: yours. -/
def tallowlaw03_QuoteBack.Pure : Prop := ∀ (a0 : ByteArray), a0.size ≤ 140737488351232 → ∃ k, tallowlaw03_QuoteBack.f k a0 = some true
theorem tallowlaw03_QuoteBack.walk (P : tallowlaw03_QuoteBack.Pure) (a0 : ByteArray) (w : World) (w0 : a0.size ≤ 140737488351232) :
    Calls Try.prog 5 #[.string a0] w fun e w' => e = .returned (.bool true) ∧ Below w.heap.size w w' := by
  obtain ⟨k, h⟩ := P a0 w0
  refine (tallowlaw03_QuoteBack.calls k a0 true w h).mono ?_
  rintro e w' ⟨rfl, hd⟩
  exact ⟨rfl, hd⟩

end Go.Proofs.Ytnklefbojabblaa.G
