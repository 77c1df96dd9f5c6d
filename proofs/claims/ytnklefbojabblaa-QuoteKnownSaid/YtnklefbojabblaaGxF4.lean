-- written by a program of this session (handprint.sh), over functions proved by hand
import Derived.Test.YtnklefbojabblaaGx0
import Derived.Test.YtnklefbojabblaaGxF11
import Derived.Test.YtnklefbojabblaaGxF10
import Derived.Test.YtnklefbojabblaaGxF12
namespace Go.Proofs.Ytnklefbojabblaa.G
open Go.RowKit Go.Proofs.YtnklefbojabblaaW.PrintWords Go.Proofs.YtnklefbojabblaaW.PrintLast Go.Proofs.YtnklefbojabblaaW.PrintMore
attribute [local go_sem] max2_int min2_int max_two min_two max_three min_three max_four min_four   -- for this text's walks alone
set_option linter.unusedVariables false
set_option linter.unusedSimpArgs false

/-! ### tallowlaw03_QuoteReads: function 4 -/
def tallowlaw03_QuoteReads.f (k : Nat) (a0 : ByteArray) : Option (Bool) := if 0 ≤ (mn (a0.size : Int) 20000) then (if (mn (a0.size : Int) 20000) ≤ (a0.size : Int) then ((quote_Unquote.f (a0.extract 0 ((mn (a0.size : Int) 20000) : Int).toNat)).bind fun bt157 => ((tallowref03_Unquote.f k (a0.extract 0 ((mn (a0.size : Int) 20000) : Int).toNat)).bind fun bt159 => (if 1 + (a0.extract 0 ((mn (a0.size : Int) 20000) : Int).toNat).size ≤ 9223372036854775807 then (if ((⟨#[34]⟩ : ByteArray) ++ (a0.extract 0 ((mn (a0.size : Int) 20000) : Int).toNat)).size + 1 ≤ 9223372036854775807 then ((quote_Unquote.f (((⟨#[34]⟩ : ByteArray) ++ (a0.extract 0 ((mn (a0.size : Int) 20000) : Int).toNat)) ++ (⟨#[34]⟩ : ByteArray))).bind fun bt161 => ((tallowref03_Unquote.f k (((⟨#[34]⟩ : ByteArray) ++ (a0.extract 0 ((mn (a0.size : Int) 20000) : Int).toNat)) ++ (⟨#[34]⟩ : ByteArray))).bind fun bt163 => (if bt157.1.toList = bt159.1.toList then (if bt157.2 = bt159.2 then (if bt161.1.toList = bt163.1.toList then (if bt161.2 = bt163.2 then ((tallowlaw03_works.f).bind fun t165 => (some t165)) else (some false)) else (some false)) else (some false)) else (some false)))) else (none)) else (none)))) else (none)) else (none)
theorem tallowlaw03_QuoteReads.mono : ∀ a0 k, LeO (tallowlaw03_QuoteReads.f k a0) (tallowlaw03_QuoteReads.f (k + 1) a0) := by
  intro a0 k
  unfold tallowlaw03_QuoteReads.f
  repeat' first
      | (with_reducible exact tallowref03_Unquote.mono _ _)
      | (with_reducible exact LeO.refl _)
      | (with_reducible exact LeO.none _)
      | (with_reducible refine LeO.ite ?_ ?_)
      | (with_reducible refine LeO.bind ?_ (fun _ => ?_))
      | exact tallowref03_Unquote.mono _ _
      | exact LeO.none _
      | refine LeO.ite ?_ ?_
      | refine LeO.bind ?_ (fun _ => ?_)
set_option maxHeartbeats 8000000 in
set_option maxRecDepth 100000 in
theorem tallowlaw03_QuoteReads.calls (k : Nat) (a0 : ByteArray) (r : Bool) (w : World) (h : tallowlaw03_QuoteReads.f k a0 = some r) :
    Calls Try.prog 4 #[.string a0] w fun e w' => e = .returned (.bool r) ∧ Below w.heap.size w w' := by
  have HB := Aside0.mk (Below.refl w.heap.size w)
  have H : (if 0 ≤ (mn (a0.size : Int) 20000) then (if (mn (a0.size : Int) 20000) ≤ (a0.size : Int) then ((quote_Unquote.f (a0.extract 0 ((mn (a0.size : Int) 20000) : Int).toNat)).bind fun bt157 => ((tallowref03_Unquote.f k (a0.extract 0 ((mn (a0.size : Int) 20000) : Int).toNat)).bind fun bt159 => (if 1 + (a0.extract 0 ((mn (a0.size : Int) 20000) : Int).toNat).size ≤ 9223372036854775807 then (if ((⟨#[34]⟩ : ByteArray) ++ (a0.extract 0 ((mn (a0.size : Int) 20000) : Int).toNat)).size + 1 ≤ 9223372036854775807 then ((quote_Unquote.f (((⟨#[34]⟩ : ByteArray) ++ (a0.extract 0 ((mn (a0.size : Int) 20000) : Int).toNat)) ++ (⟨#[34]⟩ : ByteArray))).bind fun bt161 => ((tallowref03_Unquote.f k (((⟨#[34]⟩ : ByteArray) ++ (a0.extract 0 ((mn (a0.size : Int) 20000) : Int).toNat)) ++ (⟨#[34]⟩ : ByteArray))).bind fun bt163 => (if bt157.1.toList = bt159.1.toList then (if bt157.2 = bt159.2 then (if bt161.1.toList = bt163.1.toList then (if bt161.2 = bt163.2 then ((tallowlaw03_works.f).bind fun t165 => (some t165)) else (some false)) else (some false)) else (some false)) else (some false)))) else (none)) else (none)))) else (none)) else (none)) = some r := h
  clear h
  obtain ⟨ji2, hji2⟩ : ∃ j_ : Int, (mn (a0.size : Int) 20000) = j_ := ⟨_, rfl⟩
  replace H : (if 0 ≤ (ji2) then (if (ji2) ≤ (a0.size : Int) then ((quote_Unquote.f (a0.extract 0 ((ji2) : Int).toNat)).bind fun bt157 => ((tallowref03_Unquote.f k (a0.extract 0 ((ji2) : Int).toNat)).bind fun bt159 => (if 1 + (a0.extract 0 ((ji2) : Int).toNat).size ≤ 9223372036854775807 then (if ((⟨#[34]⟩ : ByteArray) ++ (a0.extract 0 ((ji2) : Int).toNat)).size + 1 ≤ 9223372036854775807 then ((quote_Unquote.f (((⟨#[34]⟩ : ByteArray) ++ (a0.extract 0 ((ji2) : Int).toNat)) ++ (⟨#[34]⟩ : ByteArray))).bind fun bt161 => ((tallowref03_Unquote.f k (((⟨#[34]⟩ : ByteArray) ++ (a0.extract 0 ((ji2) : Int).toNat)) ++ (⟨#[34]⟩ : ByteArray))).bind fun bt163 => (if bt157.1.toList = bt159.1.toList then (if bt157.2 = bt159.2 then (if bt161.1.toList = bt163.1.toList then (if bt161.2 = bt163.2 then ((tallowlaw03_works.f).bind fun t165 => (some t165)) else (some false)) else (some false)) else (some false)) else (some false)))) else (none)) else (none)))) else (none)) else (none)) = some r := by first | (rw [hji2] at H; exact H) | (simp only [hji2] at H ⊢; exact H)
  (try (have hji2h : ji2 ≤ 20000 := by (rw [← hji2]; unfold mn; (repeat' split) <;> omega)))
  (try (have hji2g : ji2 ≤ 64 := by omega))
  (try (have hji2l : 0 ≤ ji2 := by (rw [← hji2]; unfold mn; (repeat' split) <;> omega)))
  (try (have hji2m : 0 ≤ ji2 := by omega))
  have hji2_ : (if 20000 < (a0.size : Int) then 20000 else (a0.size : Int)) = ji2 := hji2
  by_cases c3 : 0 ≤ (ji2)
  · rw [if_pos c3] at H
    have c3b0 := eq_true c3
    have c3b1 : decide (0 ≤ (ji2)) = true := decide_eq_true c3
    clear c3
    by_cases c4 : (ji2) ≤ (a0.size : Int)
    · rw [if_pos c4] at H
      have c4b0 := eq_true c4
      have c4b1 : decide ((ji2) ≤ (a0.size : Int)) = true := decide_eq_true c4
      clear c4
      replace H := Option.bind_eq_some_iff.mp H
      obtain ⟨⟨t157, t158⟩, A50, H⟩ := H
      replace H : ((tallowref03_Unquote.f k (a0.extract 0 ((ji2) : Int).toNat)).bind fun bt159 => (if 1 + (a0.extract 0 ((ji2) : Int).toNat).size ≤ 9223372036854775807 then (if ((⟨#[34]⟩ : ByteArray) ++ (a0.extract 0 ((ji2) : Int).toNat)).size + 1 ≤ 9223372036854775807 then ((quote_Unquote.f (((⟨#[34]⟩ : ByteArray) ++ (a0.extract 0 ((ji2) : Int).toNat)) ++ (⟨#[34]⟩ : ByteArray))).bind fun bt161 => ((tallowref03_Unquote.f k (((⟨#[34]⟩ : ByteArray) ++ (a0.extract 0 ((ji2) : Int).toNat)) ++ (⟨#[34]⟩ : ByteArray))).bind fun bt163 => (if t157.toList = bt159.1.toList then (if t158 = bt159.2 then (if bt161.1.toList = bt163.1.toList then (if bt161.2 = bt163.2 then ((tallowlaw03_works.f).bind fun t165 => (some t165)) else (some false)) else (some false)) else (some false)) else (some false)))) else (none)) else (none))) = some r := H
      have A5 := Aside0.mk A50
      clear A50
      replace H := Option.bind_eq_some_iff.mp H
      obtain ⟨⟨t159, t160⟩, A60, H⟩ := H
      replace H : (if 1 + (a0.extract 0 ((ji2) : Int).toNat).size ≤ 9223372036854775807 then (if ((⟨#[34]⟩ : ByteArray) ++ (a0.extract 0 ((ji2) : Int).toNat)).size + 1 ≤ 9223372036854775807 then ((quote_Unquote.f (((⟨#[34]⟩ : ByteArray) ++ (a0.extract 0 ((ji2) : Int).toNat)) ++ (⟨#[34]⟩ : ByteArray))).bind fun bt161 => ((tallowref03_Unquote.f k (((⟨#[34]⟩ : ByteArray) ++ (a0.extract 0 ((ji2) : Int).toNat)) ++ (⟨#[34]⟩ : ByteArray))).bind fun bt163 => (if t157.toList = t159.toList then (if t158 = t160 then (if bt161.1.toList = bt163.1.toList then (if bt161.2 = bt163.2 then ((tallowlaw03_works.f).bind fun t165 => (some t165)) else (some false)) else (some false)) else (some false)) else (some false)))) else (none)) else (none)) = some r := H
      have A6 := Aside0.mk A60
      clear A60
      by_cases c7 : 1 + (a0.extract 0 ((ji2) : Int).toNat).size ≤ 9223372036854775807
      · rw [if_pos c7] at H
        have c7b0 := eq_true c7
        have c7b1 : decide (1 + (a0.extract 0 ((ji2) : Int).toNat).size ≤ 9223372036854775807) = true := decide_eq_true c7
        try have c7b2 : (9223372036854775807 < 1 + (a0.extract 0 ((ji2) : Int).toNat).size) = False := eq_false (Nat.not_lt.2 c7)
        by_cases c8 : ((⟨#[34]⟩ : ByteArray) ++ (a0.extract 0 ((ji2) : Int).toNat)).size + 1 ≤ 9223372036854775807
        · rw [if_pos c8] at H
          have c8b0 := eq_true c8
          have c8b1 : decide (((⟨#[34]⟩ : ByteArray) ++ (a0.extract 0 ((ji2) : Int).toNat)).size + 1 ≤ 9223372036854775807) = true := decide_eq_true c8
          try have c8b2 : (9223372036854775807 < ((⟨#[34]⟩ : ByteArray) ++ (a0.extract 0 ((ji2) : Int).toNat)).size + 1) = False := eq_false (Nat.not_lt.2 c8)
          replace H := Option.bind_eq_some_iff.mp H
          obtain ⟨⟨t161, t162⟩, A90, H⟩ := H
          replace H : ((tallowref03_Unquote.f k (((⟨#[34]⟩ : ByteArray) ++ (a0.extract 0 ((ji2) : Int).toNat)) ++ (⟨#[34]⟩ : ByteArray))).bind fun bt163 => (if t157.toList = t159.toList then (if t158 = t160 then (if t161.toList = bt163.1.toList then (if t162 = bt163.2 then ((tallowlaw03_works.f).bind fun t165 => (some t165)) else (some false)) else (some false)) else (some false)) else (some false))) = some r := H
          have A9 := Aside0.mk A90
          clear A90
          replace H := Option.bind_eq_some_iff.mp H
          obtain ⟨⟨t163, t164⟩, A100, H⟩ := H
          replace H : (if t157.toList = t159.toList then (if t158 = t160 then (if t161.toList = t163.toList then (if t162 = t164 then ((tallowlaw03_works.f).bind fun t165 => (some t165)) else (some false)) else (some false)) else (some false)) else (some false)) = some r := H
          have A10 := Aside0.mk A100
          clear A100
          by_cases c11 : t157.toList = t159.toList
          · rw [if_pos c11] at H
            have c11b0 : (t157.toList == t159.toList) = true := beq_iff_eq.mpr c11
            have c11b1 : (t157.toList != t159.toList) = false := bne_eq_false_iff_eq.mpr c11
            clear c11
            by_cases c12 : t158 = t160
            · rw [if_pos c12] at H
              have c12b0 : (t158 == t160) = true := beq_iff_eq.mpr c12
              have c12b1 : (t158 != t160) = false := bne_eq_false_iff_eq.mpr c12
              clear c12
              by_cases c13 : t161.toList = t163.toList
              · rw [if_pos c13] at H
                have c13b0 : (t161.toList == t163.toList) = true := beq_iff_eq.mpr c13
                have c13b1 : (t161.toList != t163.toList) = false := bne_eq_false_iff_eq.mpr c13
                clear c13
                by_cases c14 : t162 = t164
                · rw [if_pos c14] at H
                  have c14b0 : (t162 == t164) = true := beq_iff_eq.mpr c14
                  have c14b1 : (t162 != t164) = false := bne_eq_false_iff_eq.mpr c14
                  clear c14
                  replace H := Option.bind_eq_some_iff.mp H
                  obtain ⟨t165, A150, H⟩ := H
                  replace H : (some t165) = some r := H
                  have A15 := Aside0.mk A150
                  clear A150
                  obtain rfl := Option.some.inj H
                  go_enter Try.func4, Try.ntmps4
                  go_wp2_with (first | ((with_reducible refine gate_callee (f := 11) rfl ?_); refine goesL_ (some 18) rfl rfl Try.func11 (by kernel_rfl) rfl #[.string (a0.extract 0 ((ji2) : Int).toNat)] rfl (by (try simp only [List.map_toArray, List.map_cons, List.map_nil]); first | done | (simp only [hji2]; rfl) | rfl | (simp only [List.length_drop, List.length_take]; rfl)) ?_; (with_reducible refine (quote_Unquote.calls (a0.extract 0 ((ji2) : Int).toNat) t157 t158 _ A5.out).mono ?_); rintro e w16 ⟨rfl, hb⟩; refine ⟨_, rfl, ?_⟩; have n0_ := Aside0.mk (below_step (by repeat (first | (with_reducible first | exact HB.out | apply below_alloc | apply pw_below_drewN | apply below_drew1) | exact HB.out)) hb); clear HB; have HB := n0_; clear n0_; (try clear hb); (try clear hb2); (try clear hk); (try clear hi)) | ((with_reducible refine gate_callee (f := 12) rfl ?_); refine goesL_ (some 23) rfl rfl Try.func12 (by kernel_rfl) rfl #[.string (a0.extract 0 ((ji2) : Int).toNat)] rfl (by (try simp only [List.map_toArray, List.map_cons, List.map_nil]); first | done | (simp only [hji2]; rfl) | rfl | (simp only [List.length_drop, List.length_take]; rfl)) ?_; (with_reducible refine (tallowref03_Unquote.calls k (a0.extract 0 ((ji2) : Int).toNat) t159 t160 _ A6.out).mono ?_); rintro e w17 ⟨rfl, hb⟩; refine ⟨_, rfl, ?_⟩; have n0_ := Aside0.mk (below_step (by repeat (first | (with_reducible first | exact HB.out | apply below_alloc | apply pw_below_drewN | apply below_drew1) | exact HB.out)) hb); clear HB; have HB := n0_; clear n0_; (try clear hb); (try clear hb2); (try clear hk); (try clear hi)) | ((with_reducible refine gate_callee (f := 11) rfl ?_); refine goesL_ (some 30) rfl rfl Try.func11 (by kernel_rfl) rfl #[.string (((⟨#[34]⟩ : ByteArray) ++ (a0.extract 0 ((ji2) : Int).toNat)) ++ (⟨#[34]⟩ : ByteArray))] rfl (by (try simp only [List.map_toArray, List.map_cons, List.map_nil]); first | done | (simp only [hji2]; rfl) | rfl | (simp only [List.length_drop, List.length_take]; rfl)) ?_; (with_reducible refine (quote_Unquote.calls (((⟨#[34]⟩ : ByteArray) ++ (a0.extract 0 ((ji2) : Int).toNat)) ++ (⟨#[34]⟩ : ByteArray)) t161 t162 _ A9.out).mono ?_); rintro e w18 ⟨rfl, hb⟩; refine ⟨_, rfl, ?_⟩; have n0_ := Aside0.mk (below_step (by repeat (first | (with_reducible first | exact HB.out | apply below_alloc | apply pw_below_drewN | apply below_drew1) | exact HB.out)) hb); clear HB; have HB := n0_; clear n0_; (try clear hb); (try clear hb2); (try clear hk); (try clear hi)) | ((with_reducible refine gate_callee (f := 12) rfl ?_); refine goesL_ (some 37) rfl rfl Try.func12 (by kernel_rfl) rfl #[.string (((⟨#[34]⟩ : ByteArray) ++ (a0.extract 0 ((ji2) : Int).toNat)) ++ (⟨#[34]⟩ : ByteArray))] rfl (by (try simp only [List.map_toArray, List.map_cons, List.map_nil]); first | done | (simp only [hji2]; rfl) | rfl | (simp only [List.length_drop, List.length_take]; rfl)) ?_; (with_reducible refine (tallowref03_Unquote.calls k (((⟨#[34]⟩ : ByteArray) ++ (a0.extract 0 ((ji2) : Int).toNat)) ++ (⟨#[34]⟩ : ByteArray)) t163 t164 _ A10.out).mono ?_); rintro e w19 ⟨rfl, hb⟩; refine ⟨_, rfl, ?_⟩; have n0_ := Aside0.mk (below_step (by repeat (first | (with_reducible first | exact HB.out | apply below_alloc | apply pw_below_drewN | apply below_drew1) | exact HB.out)) hb); clear HB; have HB := n0_; clear n0_; (try clear hb); (try clear hb2); (try clear hk); (try clear hi)) | (go_at_call 10; (with_reducible refine (tallowlaw03_works.calls  t165 _ A15.out).mono ?_); rintro e w20 ⟨rfl, hb⟩; have n0_ := Aside0.mk (below_step (by repeat (first | (with_reducible first | exact HB.out | apply below_alloc | apply pw_below_drewN | apply below_drew1) | exact HB.out)) hb); clear HB; have HB := n0_; clear n0_; (try clear hb); (try clear hb2); (try clear hk); (try clear hi)))
                  go_ret
                  exact ⟨by first | rfl | (simp [errW_none, errW_some] <;> rfl) | (simp only [← hji2]; first | rfl | (simp [errW_none, errW_some] <;> rfl)) | (simp [*, errW_none, errW_some] <;> rfl), by repeat (first | (with_reducible first | exact HB.out | apply below_alloc | apply pw_below_drewN | apply below_drew1) | exact HB.out)⟩
                · rw [if_neg c14] at H
                  have c14b0 : (t162 == t164) = false := beq_eq_false_iff_ne.mpr c14
                  have c14b1 : (t162 != t164) = true := bne_iff_ne.mpr c14
                  obtain rfl := Option.some.inj H
                  go_enter Try.func4, Try.ntmps4
                  go_wp2_with (first | ((with_reducible refine gate_callee (f := 11) rfl ?_); refine goesL_ (some 18) rfl rfl Try.func11 (by kernel_rfl) rfl #[.string (a0.extract 0 ((ji2) : Int).toNat)] rfl (by (try simp only [List.map_toArray, List.map_cons, List.map_nil]); first | done | (simp only [hji2]; rfl) | rfl | (simp only [List.length_drop, List.length_take]; rfl)) ?_; (with_reducible refine (quote_Unquote.calls (a0.extract 0 ((ji2) : Int).toNat) t157 t158 _ A5.out).mono ?_); rintro e w21 ⟨rfl, hb⟩; refine ⟨_, rfl, ?_⟩; have n0_ := Aside0.mk (below_step (by repeat (first | (with_reducible first | exact HB.out | apply below_alloc | apply pw_below_drewN | apply below_drew1) | exact HB.out)) hb); clear HB; have HB := n0_; clear n0_; (try clear hb); (try clear hb2); (try clear hk); (try clear hi)) | ((with_reducible refine gate_callee (f := 12) rfl ?_); refine goesL_ (some 23) rfl rfl Try.func12 (by kernel_rfl) rfl #[.string (a0.extract 0 ((ji2) : Int).toNat)] rfl (by (try simp only [List.map_toArray, List.map_cons, List.map_nil]); first | done | (simp only [hji2]; rfl) | rfl | (simp only [List.length_drop, List.length_take]; rfl)) ?_; (with_reducible refine (tallowref03_Unquote.calls k (a0.extract 0 ((ji2) : Int).toNat) t159 t160 _ A6.out).mono ?_); rintro e w22 ⟨rfl, hb⟩; refine ⟨_, rfl, ?_⟩; have n0_ := Aside0.mk (below_step (by repeat (first | (with_reducible first | exact HB.out | apply below_alloc | apply pw_below_drewN | apply below_drew1) | exact HB.out)) hb); clear HB; have HB := n0_; clear n0_; (try clear hb); (try clear hb2); (try clear hk); (try clear hi)) | ((with_reducible refine gate_callee (f := 11) rfl ?_); refine goesL_ (some 30) rfl rfl Try.func11 (by kernel_rfl) rfl #[.string (((⟨#[34]⟩ : ByteArray) ++ (a0.extract 0 ((ji2) : Int).toNat)) ++ (⟨#[34]⟩ : ByteArray))] rfl (by (try simp only [List.map_toArray, List.map_cons, List.map_nil]); first | done | (simp only [hji2]; rfl) | rfl | (simp only [List.length_drop, List.length_take]; rfl)) ?_; (with_reducible refine (quote_Unquote.calls (((⟨#[34]⟩ : ByteArray) ++ (a0.extract 0 ((ji2) : Int).toNat)) ++ (⟨#[34]⟩ : ByteArray)) t161 t162 _ A9.out).mono ?_); rintro e w23 ⟨rfl, hb⟩; refine ⟨_, rfl, ?_⟩; have n0_ := Aside0.mk (below_step (by repeat (first | (with_reducible first | exact HB.out | apply below_alloc | apply pw_below_drewN | apply below_drew1) | exact HB.out)) hb); clear HB; have HB := n0_; clear n0_; (try clear hb); (try clear hb2); (try clear hk); (try clear hi)) | ((with_reducible refine gate_callee (f := 12) rfl ?_); refine goesL_ (some 37) rfl rfl Try.func12 (by kernel_rfl) rfl #[.string (((⟨#[34]⟩ : ByteArray) ++ (a0.extract 0 ((ji2) : Int).toNat)) ++ (⟨#[34]⟩ : ByteArray))] rfl (by (try simp only [List.map_toArray, List.map_cons, List.map_nil]); first | done | (simp only [hji2]; rfl) | rfl | (simp only [List.length_drop, List.length_take]; rfl)) ?_; (with_reducible refine (tallowref03_Unquote.calls k (((⟨#[34]⟩ : ByteArray) ++ (a0.extract 0 ((ji2) : Int).toNat)) ++ (⟨#[34]⟩ : ByteArray)) t163 t164 _ A10.out).mono ?_); rintro e w24 ⟨rfl, hb⟩; refine ⟨_, rfl, ?_⟩; have n0_ := Aside0.mk (below_step (by repeat (first | (with_reducible first | exact HB.out | apply below_alloc | apply pw_below_drewN | apply below_drew1) | exact HB.out)) hb); clear HB; have HB := n0_; clear n0_; (try clear hb); (try clear hb2); (try clear hk); (try clear hi)))
                  go_ret
                  exact ⟨by first | rfl | (simp [errW_none, errW_some] <;> rfl) | (simp only [← hji2]; first | rfl | (simp [errW_none, errW_some] <;> rfl)) | (simp [*, errW_none, errW_some] <;> rfl), by repeat (first | (with_reducible first | exact HB.out | apply below_alloc | apply pw_below_drewN | apply below_drew1) | exact HB.out)⟩
              · rw [if_neg c13] at H
                have c13b0 : (t161.toList == t163.toList) = false := beq_eq_false_iff_ne.mpr c13
                have c13b1 : (t161.toList != t163.toList) = true := bne_iff_ne.mpr c13
                obtain rfl := Option.some.inj H
                go_enter Try.func4, Try.ntmps4
                go_wp2_with (first | ((with_reducible refine gate_callee (f := 11) rfl ?_); refine goesL_ (some 18) rfl rfl Try.func11 (by kernel_rfl) rfl #[.string (a0.extract 0 ((ji2) : Int).toNat)] rfl (by (try simp only [List.map_toArray, List.map_cons, List.map_nil]); first | done | (simp only [hji2]; rfl) | rfl | (simp only [List.length_drop, List.length_take]; rfl)) ?_; (with_reducible refine (quote_Unquote.calls (a0.extract 0 ((ji2) : Int).toNat) t157 t158 _ A5.out).mono ?_); rintro e w25 ⟨rfl, hb⟩; refine ⟨_, rfl, ?_⟩; have n0_ := Aside0.mk (below_step (by repeat (first | (with_reducible first | exact HB.out | apply below_alloc | apply pw_below_drewN | apply below_drew1) | exact HB.out)) hb); clear HB; have HB := n0_; clear n0_; (try clear hb); (try clear hb2); (try clear hk); (try clear hi)) | ((with_reducible refine gate_callee (f := 12) rfl ?_); refine goesL_ (some 23) rfl rfl Try.func12 (by kernel_rfl) rfl #[.string (a0.extract 0 ((ji2) : Int).toNat)] rfl (by (try simp only [List.map_toArray, List.map_cons, List.map_nil]); first | done | (simp only [hji2]; rfl) | rfl | (simp only [List.length_drop, List.length_take]; rfl)) ?_; (with_reducible refine (tallowref03_Unquote.calls k (a0.extract 0 ((ji2) : Int).toNat) t159 t160 _ A6.out).mono ?_); rintro e w26 ⟨rfl, hb⟩; refine ⟨_, rfl, ?_⟩; have n0_ := Aside0.mk (below_step (by repeat (first | (with_reducible first | exact HB.out | apply below_alloc | apply pw_below_drewN | apply below_drew1) | exact HB.out)) hb); clear HB; have HB := n0_; clear n0_; (try clear hb); (try clear hb2); (try clear hk); (try clear hi)) | ((with_reducible refine gate_callee (f := 11) rfl ?_); refine goesL_ (some 30) rfl rfl Try.func11 (by kernel_rfl) rfl #[.string (((⟨#[34]⟩ : ByteArray) ++ (a0.extract 0 ((ji2) : Int).toNat)) ++ (⟨#[34]⟩ : ByteArray))] rfl (by (try simp only [List.map_toArray, List.map_cons, List.map_nil]); first | done | (simp only [hji2]; rfl) | rfl | (simp only [List.length_drop, List.length_take]; rfl)) ?_; (with_reducible refine (quote_Unquote.calls (((⟨#[34]⟩ : ByteArray) ++ (a0.extract 0 ((ji2) : Int).toNat)) ++ (⟨#[34]⟩ : ByteArray)) t161 t162 _ A9.out).mono ?_); rintro e w27 ⟨rfl, hb⟩; refine ⟨_, rfl, ?_⟩; have n0_ := Aside0.mk (below_step (by repeat (first | (with_reducible first | exact HB.out | apply below_alloc | apply pw_below_drewN | apply below_drew1) | exact HB.out)) hb); clear HB; have HB := n0_; clear n0_; (try clear hb); (try clear hb2); (try clear hk); (try clear hi)) | ((with_reducible refine gate_callee (f := 12) rfl ?_); refine goesL_ (some 37) rfl rfl Try.func12 (by kernel_rfl) rfl #[.string (((⟨#[34]⟩ : ByteArray) ++ (a0.extract 0 ((ji2) : Int).toNat)) ++ (⟨#[34]⟩ : ByteArray))] rfl (by (try simp only [List.map_toArray, List.map_cons, List.map_nil]); first | done | (simp only [hji2]; rfl) | rfl | (simp only [List.length_drop, List.length_take]; rfl)) ?_; (with_reducible refine (tallowref03_Unquote.calls k (((⟨#[34]⟩ : ByteArray) ++ (a0.extract 0 ((ji2) : Int).toNat)) ++ (⟨#[34]⟩ : ByteArray)) t163 t164 _ A10.out).mono ?_); rintro e w28 ⟨rfl, hb⟩; refine ⟨_, rfl, ?_⟩; have n0_ := Aside0.mk (below_step (by repeat (first | (with_reducible first | exact HB.out | apply below_alloc | apply pw_below_drewN | apply below_drew1) | exact HB.out)) hb); clear HB; have HB := n0_; clear n0_; (try clear hb); (try clear hb2); (try clear hk); (try clear hi)))
                go_ret
                exact ⟨by first | rfl | (simp [errW_none, errW_some] <;> rfl) | (simp only [← hji2]; first | rfl | (simp [errW_none, errW_some] <;> rfl)) | (simp [*, errW_none, errW_some] <;> rfl), by repeat (first | (with_reducible first | exact HB.out | apply below_alloc | apply pw_below_drewN | apply below_drew1) | exact HB.out)⟩
            · rw [if_neg c12] at H
              have c12b0 : (t158 == t160) = false := beq_eq_false_iff_ne.mpr c12
              have c12b1 : (t158 != t160) = true := bne_iff_ne.mpr c12
              obtain rfl := Option.some.inj H
              go_enter Try.func4, Try.ntmps4
              go_wp2_with (first | ((with_reducible refine gate_callee (f := 11) rfl ?_); refine goesL_ (some 18) rfl rfl Try.func11 (by kernel_rfl) rfl #[.string (a0.extract 0 ((ji2) : Int).toNat)] rfl (by (try simp only [List.map_toArray, List.map_cons, List.map_nil]); first | done | (simp only [hji2]; rfl) | rfl | (simp only [List.length_drop, List.length_take]; rfl)) ?_; (with_reducible refine (quote_Unquote.calls (a0.extract 0 ((ji2) : Int).toNat) t157 t158 _ A5.out).mono ?_); rintro e w29 ⟨rfl, hb⟩; refine ⟨_, rfl, ?_⟩; have n0_ := Aside0.mk (below_step (by repeat (first | (with_reducible first | exact HB.out | apply below_alloc | apply pw_below_drewN | apply below_drew1) | exact HB.out)) hb); clear HB; have HB := n0_; clear n0_; (try clear hb); (try clear hb2); (try clear hk); (try clear hi)) | ((with_reducible refine gate_callee (f := 12) rfl ?_); refine goesL_ (some 23) rfl rfl Try.func12 (by kernel_rfl) rfl #[.string (a0.extract 0 ((ji2) : Int).toNat)] rfl (by (try simp only [List.map_toArray, List.map_cons, List.map_nil]); first | done | (simp only [hji2]; rfl) | rfl | (simp only [List.length_drop, List.length_take]; rfl)) ?_; (with_reducible refine (tallowref03_Unquote.calls k (a0.extract 0 ((ji2) : Int).toNat) t159 t160 _ A6.out).mono ?_); rintro e w30 ⟨rfl, hb⟩; refine ⟨_, rfl, ?_⟩; have n0_ := Aside0.mk (below_step (by repeat (first | (with_reducible first | exact HB.out | apply below_alloc | apply pw_below_drewN | apply below_drew1) | exact HB.out)) hb); clear HB; have HB := n0_; clear n0_; (try clear hb); (try clear hb2); (try clear hk); (try clear hi)) | ((with_reducible refine gate_callee (f := 11) rfl ?_); refine goesL_ (some 30) rfl rfl Try.func11 (by kernel_rfl) rfl #[.string (((⟨#[34]⟩ : ByteArray) ++ (a0.extract 0 ((ji2) : Int).toNat)) ++ (⟨#[34]⟩ : ByteArray))] rfl (by (try simp only [List.map_toArray, List.map_cons, List.map_nil]); first | done | (simp only [hji2]; rfl) | rfl | (simp only [List.length_drop, List.length_take]; rfl)) ?_; (with_reducible refine (quote_Unquote.calls (((⟨#[34]⟩ : ByteArray) ++ (a0.extract 0 ((ji2) : Int).toNat)) ++ (⟨#[34]⟩ : ByteArray)) t161 t162 _ A9.out).mono ?_); rintro e w31 ⟨rfl, hb⟩; refine ⟨_, rfl, ?_⟩; have n0_ := Aside0.mk (below_step (by repeat (first | (with_reducible first | exact HB.out | apply below_alloc | apply pw_below_drewN | apply below_drew1) | exact HB.out)) hb); clear HB; have HB := n0_; clear n0_; (try clear hb); (try clear hb2); (try clear hk); (try clear hi)) | ((with_reducible refine gate_callee (f := 12) rfl ?_); refine goesL_ (some 37) rfl rfl Try.func12 (by kernel_rfl) rfl #[.string (((⟨#[34]⟩ : ByteArray) ++ (a0.extract 0 ((ji2) : Int).toNat)) ++ (⟨#[34]⟩ : ByteArray))] rfl (by (try simp only [List.map_toArray, List.map_cons, List.map_nil]); first | done | (simp only [hji2]; rfl) | rfl | (simp only [List.length_drop, List.length_take]; rfl)) ?_; (with_reducible refine (tallowref03_Unquote.calls k (((⟨#[34]⟩ : ByteArray) ++ (a0.extract 0 ((ji2) : Int).toNat)) ++ (⟨#[34]⟩ : ByteArray)) t163 t164 _ A10.out).mono ?_); rintro e w32 ⟨rfl, hb⟩; refine ⟨_, rfl, ?_⟩; have n0_ := Aside0.mk (below_step (by repeat (first | (with_reducible first | exact HB.out | apply below_alloc | apply pw_below_drewN | apply below_drew1) | exact HB.out)) hb); clear HB; have HB := n0_; clear n0_; (try clear hb); (try clear hb2); (try clear hk); (try clear hi)))
              go_ret
              exact ⟨by first | rfl | (simp [errW_none, errW_some] <;> rfl) | (simp only [← hji2]; first | rfl | (simp [errW_none, errW_some] <;> rfl)) | (simp [*, errW_none, errW_some] <;> rfl), by repeat (first | (with_reducible first | exact HB.out | apply below_alloc | apply pw_below_drewN | apply below_drew1) | exact HB.out)⟩
          · rw [if_neg c11] at H
            have c11b0 : (t157.toList == t159.toList) = false := beq_eq_false_iff_ne.mpr c11
            have c11b1 : (t157.toList != t159.toList) = true := bne_iff_ne.mpr c11
            obtain rfl := Option.some.inj H
            go_enter Try.func4, Try.ntmps4
            go_wp2_with (first | ((with_reducible refine gate_callee (f := 11) rfl ?_); refine goesL_ (some 18) rfl rfl Try.func11 (by kernel_rfl) rfl #[.string (a0.extract 0 ((ji2) : Int).toNat)] rfl (by (try simp only [List.map_toArray, List.map_cons, List.map_nil]); first | done | (simp only [hji2]; rfl) | rfl | (simp only [List.length_drop, List.length_take]; rfl)) ?_; (with_reducible refine (quote_Unquote.calls (a0.extract 0 ((ji2) : Int).toNat) t157 t158 _ A5.out).mono ?_); rintro e w33 ⟨rfl, hb⟩; refine ⟨_, rfl, ?_⟩; have n0_ := Aside0.mk (below_step (by repeat (first | (with_reducible first | exact HB.out | apply below_alloc | apply pw_below_drewN | apply below_drew1) | exact HB.out)) hb); clear HB; have HB := n0_; clear n0_; (try clear hb); (try clear hb2); (try clear hk); (try clear hi)) | ((with_reducible refine gate_callee (f := 12) rfl ?_); refine goesL_ (some 23) rfl rfl Try.func12 (by kernel_rfl) rfl #[.string (a0.extract 0 ((ji2) : Int).toNat)] rfl (by (try simp only [List.map_toArray, List.map_cons, List.map_nil]); first | done | (simp only [hji2]; rfl) | rfl | (simp only [List.length_drop, List.length_take]; rfl)) ?_; (with_reducible refine (tallowref03_Unquote.calls k (a0.extract 0 ((ji2) : Int).toNat) t159 t160 _ A6.out).mono ?_); rintro e w34 ⟨rfl, hb⟩; refine ⟨_, rfl, ?_⟩; have n0_ := Aside0.mk (below_step (by repeat (first | (with_reducible first | exact HB.out | apply below_alloc | apply pw_below_drewN | apply below_drew1) | exact HB.out)) hb); clear HB; have HB := n0_; clear n0_; (try clear hb); (try clear hb2); (try clear hk); (try clear hi)) | ((with_reducible refine gate_callee (f := 11) rfl ?_); refine goesL_ (some 30) rfl rfl Try.func11 (by kernel_rfl) rfl #[.string (((⟨#[34]⟩ : ByteArray) ++ (a0.extract 0 ((ji2) : Int).toNat)) ++ (⟨#[34]⟩ : ByteArray))] rfl (by (try simp only [List.map_toArray, List.map_cons, List.map_nil]); first | done | (simp only [hji2]; rfl) | rfl | (simp only [List.length_drop, List.length_take]; rfl)) ?_; (with_reducible refine (quote_Unquote.calls (((⟨#[34]⟩ : ByteArray) ++ (a0.extract 0 ((ji2) : Int).toNat)) ++ (⟨#[34]⟩ : ByteArray)) t161 t162 _ A9.out).mono ?_); rintro e w35 ⟨rfl, hb⟩; refine ⟨_, rfl, ?_⟩; have n0_ := Aside0.mk (below_step (by repeat (first | (with_reducible first | exact HB.out | apply below_alloc | apply pw_below_drewN | apply below_drew1) | exact HB.out)) hb); clear HB; have HB := n0_; clear n0_; (try clear hb); (try clear hb2); (try clear hk); (try clear hi)) | ((with_reducible refine gate_callee (f := 12) rfl ?_); refine goesL_ (some 37) rfl rfl Try.func12 (by kernel_rfl) rfl #[.string (((⟨#[34]⟩ : ByteArray) ++ (a0.extract 0 ((ji2) : Int).toNat)) ++ (⟨#[34]⟩ : ByteArray))] rfl (by (try simp only [List.map_toArray, List.map_cons, List.map_nil]); first | done | (simp only [hji2]; rfl) | rfl | (simp only [List.length_drop, List.length_take]; rfl)) ?_; (with_reducible refine (tallowref03_Unquote.calls k (((⟨#[34]⟩ : ByteArray) ++ (a0.extract 0 ((ji2) : Int).toNat)) ++ (⟨#[34]⟩ : ByteArray)) t163 t164 _ A10.out).mono ?_); rintro e w36 ⟨rfl, hb⟩; refine ⟨_, rfl, ?_⟩; have n0_ := Aside0.mk (below_step (by repeat (first | (with_reducible first | exact HB.out | apply below_alloc | apply pw_below_drewN | apply below_drew1) | exact HB.out)) hb); clear HB; have HB := n0_; clear n0_; (try clear hb); (try clear hb2); (try clear hk); (try clear hi)))
            go_ret
            exact ⟨by first | rfl | (simp [errW_none, errW_some] <;> rfl) | (simp only [← hji2]; first | rfl | (simp [errW_none, errW_some] <;> rfl)) | (simp [*, errW_none, errW_some] <;> rfl), by repeat (first | (with_reducible first | exact HB.out | apply below_alloc | apply pw_below_drewN | apply below_drew1) | exact HB.out)⟩
        · rw [if_neg c8] at H
          exact absurd H (by simp)
      · rw [if_neg c7] at H
        exact absurd H (by simp)
    · rw [if_neg c4] at H
      exact absurd H (by simp)
  · rw [if_neg c3] at H
    exact absurd H (by simp)

/-- THE ONE PURE STATEMENT of tallowlaw03_QuoteReads: yours. -/
def tallowlaw03_QuoteReads.Pure : Prop := ∀ (a0 : ByteArray), a0.size ≤ 140737488351232 → ∃ k, tallowlaw03_QuoteReads.f k a0 = some true
theorem tallowlaw03_QuoteReads.walk (P : tallowlaw03_QuoteReads.Pure) (a0 : ByteArray) (w : World) (w0 : a0.size ≤ 140737488351232) :
    Calls Try.prog 4 #[.string a0] w fun e w' => e = .returned (.bool true) ∧ Below w.heap.size w w' := by
  obtain ⟨k, h⟩ := P a0 w0
  refine (tallowlaw03_QuoteReads.calls k a0 true w h).mono ?_
  rintro e w' ⟨rfl, hd⟩
  exact ⟨rfl, hd⟩

end Go.Proofs.Ytnklefbojabblaa.G
