-- written by a program of this session (handprint.sh), over functions proved by hand
import Derived.Test.YtnklefbojabblaaGx0
import Derived.Test.YtnklefbojabblaaGxF8
import Derived.Test.YtnklefbojabblaaGxF11
import Derived.Test.YtnklefbojabblaaGxF10
namespace Go.Proofs.Ytnklefbojabblaa.G
open Go.RowKit Go.Proofs.YtnklefbojabblaaW.PrintWords Go.Proofs.YtnklefbojabblaaW.PrintLast Go.Proofs.YtnklefbojabblaaW.PrintMore
attribute [local go_sem] max2_int min2_int max_two min_two max_three min_three max_four min_four   -- for this text's walks alone
set_option linter.unusedVariables false
set_option linter.unusedSimpArgs false

/-! ### tallowlaw03_QuoteKnown: function 7 -/
mutual
def tallowlaw03_QuoteKnown.j0 : Nat → Bool → Option (Bool)
  | 0, _ => none
  | k + 1, x34 => if x34 = true then (some false) else ((some (([(⟨#[34, 97, 98, 34]⟩ : ByteArray), (⟨#[34, 92, 120, 54, 49, 92, 110, 92, 92, 34]⟩ : ByteArray), (⟨#[34, 34]⟩ : ByteArray), (⟨#[34, 92, 120, 48, 48, 92, 120, 102, 102, 92, 116, 92, 34, 34]⟩ : ByteArray)] : List ByteArray) : List ByteArray)).bind fun y186 => (tallowlaw03_QuoteKnown.l0 k y186 (y186.length : Int) 0))
def tallowlaw03_QuoteKnown.l0 : Nat → List ByteArray → Int → Int → Option (Bool)
  | 0, _, _, _ => none
  | k + 1, x35, x36, x37 => if x37 < x36 then (if 0 ≤ x37 then (if x37 < (x35.length : Int) then ((quote_Unquote.f (rdOf ByteArray.empty x35 x37)).bind fun bt190 => (if bt190.2 = 0 then ((some (([(⟨#[97, 98]⟩ : ByteArray), (⟨#[97, 10, 92]⟩ : ByteArray), (⟨#[]⟩ : ByteArray), (⟨#[0, 255, 9, 34]⟩ : ByteArray)] : List ByteArray) : List ByteArray)).bind fun y192 => (if x37 < (y192.length : Int) then (if bt190.1.toList = (rdOf ByteArray.empty y192 x37).toList then (tallowlaw03_QuoteKnown.l0 k x35 x36 (wrap64 (x37 + 1))) else (some false)) else (none))) else (some false))) else (none)) else (none)) else ((some (([(⟨#[]⟩ : ByteArray), (⟨#[34]⟩ : ByteArray), (⟨#[97, 98]⟩ : ByteArray), (⟨#[34, 97, 98]⟩ : ByteArray), (⟨#[97, 98, 34]⟩ : ByteArray), (⟨#[34, 97, 34, 98, 34]⟩ : ByteArray), (⟨#[34, 92, 113, 34]⟩ : ByteArray), (⟨#[34, 92, 120, 54, 34]⟩ : ByteArray), (⟨#[34, 92, 120, 70, 70, 34]⟩ : ByteArray), (⟨#[34, 92, 120, 54, 103, 34]⟩ : ByteArray), (⟨#[34, 10, 34]⟩ : ByteArray), (⟨#[34, 127, 34]⟩ : ByteArray), (⟨#[34, 195, 164, 34]⟩ : ByteArray), (⟨#[34, 92, 34]⟩ : ByteArray), (⟨#[34, 92, 120, 34]⟩ : ByteArray), (⟨#[39, 97, 39]⟩ : ByteArray), (⟨#[32, 34, 97, 34]⟩ : ByteArray), (⟨#[34, 92, 88, 54, 49, 34]⟩ : ByteArray)] : List ByteArray) : List ByteArray)).bind fun y196 => (tallowlaw03_QuoteKnown.l1 k y196 (y196.length : Int) 0))
def tallowlaw03_QuoteKnown.l1 : Nat → List ByteArray → Int → Int → Option (Bool)
  | 0, _, _, _ => none
  | k + 1, x58, x59, x60 => if x60 < x59 then (if 0 ≤ x60 then (if x60 < (x58.length : Int) then ((quote_Unquote.f (rdOf ByteArray.empty x58 x60)).bind fun bt200 => (if bt200.1.toList = ([] : List UInt8) then (if bt200.2 = 4 then (tallowlaw03_QuoteKnown.l1 k x58 x59 (wrap64 (x60 + 1))) else (some false)) else (some false))) else (none)) else (none)) else (if 4096 ≤ 281474976710656 then (tallowlaw03_QuoteKnown.l2 k (List.replicate 4096 0) 0) else (none))
def tallowlaw03_QuoteKnown.l2 : Nat → List Int → Int → Option (Bool)
  | 0, _, _ => none
  | k + 1, x9, x10 => if x10 < (x9.length : Int) then (if 0 ≤ x10 then (tallowlaw03_QuoteKnown.l2 k (x9.set (x10 : Int).toNat 97) (wrap64 (x10 + 1))) else (none)) else (if 1 + (strOfNums x9).size ≤ 9223372036854775807 then (if ((⟨#[34]⟩ : ByteArray) ++ (strOfNums x9)).size + 1 ≤ 9223372036854775807 then ((quote_Unquote.f (((⟨#[34]⟩ : ByteArray) ++ (strOfNums x9)) ++ (⟨#[34]⟩ : ByteArray))).bind fun bt206 => (if ((⟨#[34]⟩ : ByteArray) ++ (strOfNums x9)).size + 3 ≤ 9223372036854775807 then ((quote_Unquote.f (((⟨#[34]⟩ : ByteArray) ++ (strOfNums x9)) ++ (⟨#[92, 110, 34]⟩ : ByteArray))).bind fun bt208 => (if ((⟨#[34]⟩ : ByteArray) ++ (strOfNums x9)).size + 2 ≤ 9223372036854775807 then ((quote_Unquote.f (((⟨#[34]⟩ : ByteArray) ++ (strOfNums x9)) ++ (⟨#[92, 110]⟩ : ByteArray))).bind fun bt210 => (if bt206.2 = 0 then (if bt206.1.toList = (strOfNums x9).toList then (if bt208.2 = 3 then (if bt210.2 = 4 then ((tallowlaw03_works.f).bind fun t212 => (some t212)) else (some false)) else (some false)) else (some false)) else (some false))) else (none))) else (none))) else (none)) else (none))
end
def tallowlaw03_QuoteKnown.f (k : Nat)  : Option (Bool) := (quote_Quote.f (⟨#[97, 98]⟩ : ByteArray)).bind fun t181 => (if t181.toList = ([34, 97, 98, 34] : List UInt8) then ((quote_Quote.f (⟨#[10, 0, 34, 255]⟩ : ByteArray)).bind fun t182 => (if t182.toList = ([34, 92, 110, 92, 120, 48, 48, 92, 34, 92, 120, 102, 102, 34] : List UInt8) then ((quote_Quote.f (⟨#[9, 92, 127, 32, 126]⟩ : ByteArray)).bind fun t183 => (if t183.toList = ([34, 92, 116, 92, 92, 92, 120, 55, 102, 32, 126, 34] : List UInt8) then ((quote_Quote.f (⟨#[]⟩ : ByteArray)).bind fun t184 => (if t184.toList = ([34, 34] : List UInt8) then ((quote_Quote.f (⟨#[13, 31]⟩ : ByteArray)).bind fun t185 => (tallowlaw03_QuoteKnown.j0 k (t185.toList != ([34, 92, 120, 48, 100, 92, 120, 49, 102, 34] : List UInt8)))) else (tallowlaw03_QuoteKnown.j0 k true))) else (tallowlaw03_QuoteKnown.j0 k true))) else (tallowlaw03_QuoteKnown.j0 k true))) else (tallowlaw03_QuoteKnown.j0 k true))
theorem tallowlaw03_QuoteKnown.mono_l : ∀ k, (∀ y0, LeO (tallowlaw03_QuoteKnown.j0 k y0) (tallowlaw03_QuoteKnown.j0 (k + 1) y0)) ∧ (∀ y0 y1 y2, LeO (tallowlaw03_QuoteKnown.l0 k y0 y1 y2) (tallowlaw03_QuoteKnown.l0 (k + 1) y0 y1 y2)) ∧ (∀ y0 y1 y2, LeO (tallowlaw03_QuoteKnown.l1 k y0 y1 y2) (tallowlaw03_QuoteKnown.l1 (k + 1) y0 y1 y2)) ∧ (∀ y0 y1, LeO (tallowlaw03_QuoteKnown.l2 k y0 y1) (tallowlaw03_QuoteKnown.l2 (k + 1) y0 y1))
  | 0 => ⟨fun _ r h => by simp [tallowlaw03_QuoteKnown.j0] at h, fun _ _ _ r h => by simp [tallowlaw03_QuoteKnown.l0] at h, fun _ _ _ r h => by simp [tallowlaw03_QuoteKnown.l1] at h, fun _ _ r h => by simp [tallowlaw03_QuoteKnown.l2] at h⟩
  | k + 1 => by
    obtain ⟨ih0, ih1, ih2, ih3⟩ := tallowlaw03_QuoteKnown.mono_l k
    refine ⟨?_, ?_, ?_, ?_⟩
    · intro y0
      unfold tallowlaw03_QuoteKnown.j0
      repeat' first
      | (with_reducible exact ih0 _)
      | (with_reducible exact ih1 _ _ _)
      | (with_reducible exact ih2 _ _ _)
      | (with_reducible exact ih3 _ _)
      | (with_reducible exact LeO.refl _)
      | (with_reducible exact LeO.none _)
      | (with_reducible refine LeO.ite ?_ ?_)
      | (with_reducible refine LeO.bind ?_ (fun _ => ?_))
      | exact ih0 _
      | exact ih1 _ _ _
      | exact ih2 _ _ _
      | exact ih3 _ _
      | exact LeO.none _
      | refine LeO.ite ?_ ?_
      | refine LeO.bind ?_ (fun _ => ?_)
    · intro y0 y1 y2
      unfold tallowlaw03_QuoteKnown.l0
      repeat' first
      | (with_reducible exact ih0 _)
      | (with_reducible exact ih1 _ _ _)
      | (with_reducible exact ih2 _ _ _)
      | (with_reducible exact ih3 _ _)
      | (with_reducible exact LeO.refl _)
      | (with_reducible exact LeO.none _)
      | (with_reducible refine LeO.ite ?_ ?_)
      | (with_reducible refine LeO.bind ?_ (fun _ => ?_))
      | exact ih0 _
      | exact ih1 _ _ _
      | exact ih2 _ _ _
      | exact ih3 _ _
      | exact LeO.none _
      | refine LeO.ite ?_ ?_
      | refine LeO.bind ?_ (fun _ => ?_)
    · intro y0 y1 y2
      unfold tallowlaw03_QuoteKnown.l1
      repeat' first
      | (with_reducible exact ih0 _)
      | (with_reducible exact ih1 _ _ _)
      | (with_reducible exact ih2 _ _ _)
      | (with_reducible exact ih3 _ _)
      | (with_reducible exact LeO.refl _)
      | (with_reducible exact LeO.none _)
      | (with_reducible refine LeO.ite ?_ ?_)
      | (with_reducible refine LeO.bind ?_ (fun _ => ?_))
      | exact ih0 _
      | exact ih1 _ _ _
      | exact ih2 _ _ _
      | exact ih3 _ _
      | exact LeO.none _
      | refine LeO.ite ?_ ?_
      | refine LeO.bind ?_ (fun _ => ?_)
    · intro y0 y1
      unfold tallowlaw03_QuoteKnown.l2
      repeat' first
      | (with_reducible exact ih0 _)
      | (with_reducible exact ih1 _ _ _)
      | (with_reducible exact ih2 _ _ _)
      | (with_reducible exact ih3 _ _)
      | (with_reducible exact LeO.refl _)
      | (with_reducible exact LeO.none _)
      | (with_reducible refine LeO.ite ?_ ?_)
      | (with_reducible refine LeO.bind ?_ (fun _ => ?_))
      | exact ih0 _
      | exact ih1 _ _ _
      | exact ih2 _ _ _
      | exact ih3 _ _
      | exact LeO.none _
      | refine LeO.ite ?_ ?_
      | refine LeO.bind ?_ (fun _ => ?_)
theorem tallowlaw03_QuoteKnown.mono : ∀ k, LeO (tallowlaw03_QuoteKnown.f k ) (tallowlaw03_QuoteKnown.f (k + 1) ) := by
  intro  k
  obtain ⟨ih0, ih1, ih2, ih3⟩ := tallowlaw03_QuoteKnown.mono_l k
  unfold tallowlaw03_QuoteKnown.f
  repeat' first
      | (with_reducible exact ih0 _)
      | (with_reducible exact ih1 _ _ _)
      | (with_reducible exact ih2 _ _ _)
      | (with_reducible exact ih3 _ _)
      | (with_reducible exact LeO.refl _)
      | (with_reducible exact LeO.none _)
      | (with_reducible refine LeO.ite ?_ ?_)
      | (with_reducible refine LeO.bind ?_ (fun _ => ?_))
      | exact ih0 _
      | exact ih1 _ _ _
      | exact ih2 _ _ _
      | exact ih3 _ _
      | exact LeO.none _
      | refine LeO.ite ?_ ?_
      | refine LeO.bind ?_ (fun _ => ?_)
set_option maxHeartbeats 8000000 in
set_option maxRecDepth 100000 in
theorem tallowlaw03_QuoteKnown.calls (k : Nat)  (r : Bool) (w : World) (h : tallowlaw03_QuoteKnown.f k  = some r) :
    Calls Try.prog 7 #[] w fun e w' => e = .returned (.bool r) ∧ Below w.heap.size w w' := by
  have HB := Aside0.mk (Below.refl w.heap.size w)
  have H : ((quote_Quote.f (⟨#[97, 98]⟩ : ByteArray)).bind fun t181 => (if t181.toList = ([34, 97, 98, 34] : List UInt8) then ((quote_Quote.f (⟨#[10, 0, 34, 255]⟩ : ByteArray)).bind fun t182 => (if t182.toList = ([34, 92, 110, 92, 120, 48, 48, 92, 34, 92, 120, 102, 102, 34] : List UInt8) then ((quote_Quote.f (⟨#[9, 92, 127, 32, 126]⟩ : ByteArray)).bind fun t183 => (if t183.toList = ([34, 92, 116, 92, 92, 92, 120, 55, 102, 32, 126, 34] : List UInt8) then ((quote_Quote.f (⟨#[]⟩ : ByteArray)).bind fun t184 => (if t184.toList = ([34, 34] : List UInt8) then ((quote_Quote.f (⟨#[13, 31]⟩ : ByteArray)).bind fun t185 => (tallowlaw03_QuoteKnown.j0 k (t185.toList != ([34, 92, 120, 48, 100, 92, 120, 49, 102, 34] : List UInt8)))) else (tallowlaw03_QuoteKnown.j0 k true))) else (tallowlaw03_QuoteKnown.j0 k true))) else (tallowlaw03_QuoteKnown.j0 k true))) else (tallowlaw03_QuoteKnown.j0 k true))) = some r := h
  clear h
  have HC1 := Aside0.mk H
  clear H
  go_enter Try.func7, Try.ntmps7
  go_upto_region 1 with (fail)
  go_cut [34] (fun v34 wc => ∃ (kq : Nat) (x34_0 : Bool), v34 = .bool x34_0 ∧ Aside0 (tallowlaw03_QuoteKnown.j0 kq x34_0 = some r) ∧ Aside0 (kq ≤ k) ∧ Aside0 (Below w.heap.size w wc))
  case first =>
    have H := HC1.out
    clear HC1
    replace H := Option.bind_eq_some_iff.mp H
    obtain ⟨t181, A20, H⟩ := H
    replace H : (if t181.toList = ([34, 97, 98, 34] : List UInt8) then ((quote_Quote.f (⟨#[10, 0, 34, 255]⟩ : ByteArray)).bind fun t182 => (if t182.toList = ([34, 92, 110, 92, 120, 48, 48, 92, 34, 92, 120, 102, 102, 34] : List UInt8) then ((quote_Quote.f (⟨#[9, 92, 127, 32, 126]⟩ : ByteArray)).bind fun t183 => (if t183.toList = ([34, 92, 116, 92, 92, 92, 120, 55, 102, 32, 126, 34] : List UInt8) then ((quote_Quote.f (⟨#[]⟩ : ByteArray)).bind fun t184 => (if t184.toList = ([34, 34] : List UInt8) then ((quote_Quote.f (⟨#[13, 31]⟩ : ByteArray)).bind fun t185 => (tallowlaw03_QuoteKnown.j0 k (t185.toList != ([34, 92, 120, 48, 100, 92, 120, 49, 102, 34] : List UInt8)))) else (tallowlaw03_QuoteKnown.j0 k true))) else (tallowlaw03_QuoteKnown.j0 k true))) else (tallowlaw03_QuoteKnown.j0 k true))) else (tallowlaw03_QuoteKnown.j0 k true)) = some r := H
    have A2 := Aside0.mk A20
    clear A20
    by_cases c3 : t181.toList = ([34, 97, 98, 34] : List UInt8)
    · rw [if_pos c3] at H
      have c3b0 : (t181.toList == ([34, 97, 98, 34] : List UInt8)) = true := beq_iff_eq.mpr c3
      have c3b1 : (t181.toList != ([34, 97, 98, 34] : List UInt8)) = false := bne_eq_false_iff_eq.mpr c3
      clear c3
      (first | rw [c3b0] | (simp only [i64_w, i32_w]; rw [c3b0]) | skip)
      replace H := Option.bind_eq_some_iff.mp H
      obtain ⟨t182, A40, H⟩ := H
      replace H : (if t182.toList = ([34, 92, 110, 92, 120, 48, 48, 92, 34, 92, 120, 102, 102, 34] : List UInt8) then ((quote_Quote.f (⟨#[9, 92, 127, 32, 126]⟩ : ByteArray)).bind fun t183 => (if t183.toList = ([34, 92, 116, 92, 92, 92, 120, 55, 102, 32, 126, 34] : List UInt8) then ((quote_Quote.f (⟨#[]⟩ : ByteArray)).bind fun t184 => (if t184.toList = ([34, 34] : List UInt8) then ((quote_Quote.f (⟨#[13, 31]⟩ : ByteArray)).bind fun t185 => (tallowlaw03_QuoteKnown.j0 k (t185.toList != ([34, 92, 120, 48, 100, 92, 120, 49, 102, 34] : List UInt8)))) else (tallowlaw03_QuoteKnown.j0 k true))) else (tallowlaw03_QuoteKnown.j0 k true))) else (tallowlaw03_QuoteKnown.j0 k true)) = some r := H
      have A4 := Aside0.mk A40
      clear A40
      by_cases c5 : t182.toList = ([34, 92, 110, 92, 120, 48, 48, 92, 34, 92, 120, 102, 102, 34] : List UInt8)
      · rw [if_pos c5] at H
        have c5b0 : (t182.toList == ([34, 92, 110, 92, 120, 48, 48, 92, 34, 92, 120, 102, 102, 34] : List UInt8)) = true := beq_iff_eq.mpr c5
        have c5b1 : (t182.toList != ([34, 92, 110, 92, 120, 48, 48, 92, 34, 92, 120, 102, 102, 34] : List UInt8)) = false := bne_eq_false_iff_eq.mpr c5
        clear c5
        replace H := Option.bind_eq_some_iff.mp H
        obtain ⟨t183, A60, H⟩ := H
        replace H : (if t183.toList = ([34, 92, 116, 92, 92, 92, 120, 55, 102, 32, 126, 34] : List UInt8) then ((quote_Quote.f (⟨#[]⟩ : ByteArray)).bind fun t184 => (if t184.toList = ([34, 34] : List UInt8) then ((quote_Quote.f (⟨#[13, 31]⟩ : ByteArray)).bind fun t185 => (tallowlaw03_QuoteKnown.j0 k (t185.toList != ([34, 92, 120, 48, 100, 92, 120, 49, 102, 34] : List UInt8)))) else (tallowlaw03_QuoteKnown.j0 k true))) else (tallowlaw03_QuoteKnown.j0 k true)) = some r := H
        have A6 := Aside0.mk A60
        clear A60
        by_cases c7 : t183.toList = ([34, 92, 116, 92, 92, 92, 120, 55, 102, 32, 126, 34] : List UInt8)
        · rw [if_pos c7] at H
          have c7b0 : (t183.toList == ([34, 92, 116, 92, 92, 92, 120, 55, 102, 32, 126, 34] : List UInt8)) = true := beq_iff_eq.mpr c7
          have c7b1 : (t183.toList != ([34, 92, 116, 92, 92, 92, 120, 55, 102, 32, 126, 34] : List UInt8)) = false := bne_eq_false_iff_eq.mpr c7
          clear c7
          replace H := Option.bind_eq_some_iff.mp H
          obtain ⟨t184, A80, H⟩ := H
          replace H : (if t184.toList = ([34, 34] : List UInt8) then ((quote_Quote.f (⟨#[13, 31]⟩ : ByteArray)).bind fun t185 => (tallowlaw03_QuoteKnown.j0 k (t185.toList != ([34, 92, 120, 48, 100, 92, 120, 49, 102, 34] : List UInt8)))) else (tallowlaw03_QuoteKnown.j0 k true)) = some r := H
          have A8 := Aside0.mk A80
          clear A80
          by_cases c9 : t184.toList = ([34, 34] : List UInt8)
          · rw [if_pos c9] at H
            have c9b0 : (t184.toList == ([34, 34] : List UInt8)) = true := beq_iff_eq.mpr c9
            have c9b1 : (t184.toList != ([34, 34] : List UInt8)) = false := bne_eq_false_iff_eq.mpr c9
            clear c9
            replace H := Option.bind_eq_some_iff.mp H
            obtain ⟨t185, A100, H⟩ := H
            replace H : (tallowlaw03_QuoteKnown.j0 k (t185.toList != ([34, 92, 120, 48, 100, 92, 120, 49, 102, 34] : List UInt8))) = some r := H
            have A10 := Aside0.mk A100
            clear A100
            have H' := Aside0.mk H
            clear H
            go_wp2_with (first | ((with_reducible refine gate_callee (f := 8) rfl ?_); refine goesL_ (some 17) rfl rfl Try.func8 (by kernel_rfl) rfl #[.string (⟨#[97, 98]⟩ : ByteArray)] rfl (by (try simp only [List.map_toArray, List.map_cons, List.map_nil]); first | done | rfl | (simp only [List.length_drop, List.length_take]; rfl)) ?_; (with_reducible refine (quote_Quote.calls (⟨#[97, 98]⟩ : ByteArray) t181 _ A2.out).mono ?_); rintro e w11 ⟨rfl, hb⟩; refine ⟨_, rfl, ?_⟩; have n0_ := Aside0.mk (below_step (by repeat (first | (with_reducible first | exact HB.out | apply below_alloc | apply pw_below_drewN | apply below_drew1) | exact HB.out)) hb); clear HB; have HB := n0_; clear n0_; (try clear hb); (try clear hb2); (try clear hk); (try clear hi)) | (go_at_call 8; (with_reducible refine (quote_Quote.calls (⟨#[10, 0, 34, 255]⟩ : ByteArray) t182 _ A4.out).mono ?_); rintro e w12 ⟨rfl, hb⟩; have n0_ := Aside0.mk (below_step (by repeat (first | (with_reducible first | exact HB.out | apply below_alloc | apply pw_below_drewN | apply below_drew1) | exact HB.out)) hb); clear HB; have HB := n0_; clear n0_; (try clear hb); (try clear hb2); (try clear hk); (try clear hi)) | (go_at_call 8; (with_reducible refine (quote_Quote.calls (⟨#[9, 92, 127, 32, 126]⟩ : ByteArray) t183 _ A6.out).mono ?_); rintro e w13 ⟨rfl, hb⟩; have n0_ := Aside0.mk (below_step (by repeat (first | (with_reducible first | exact HB.out | apply below_alloc | apply pw_below_drewN | apply below_drew1) | exact HB.out)) hb); clear HB; have HB := n0_; clear n0_; (try clear hb); (try clear hb2); (try clear hk); (try clear hi)) | (go_at_call 8; (with_reducible refine (quote_Quote.calls (⟨#[]⟩ : ByteArray) t184 _ A8.out).mono ?_); rintro e w14 ⟨rfl, hb⟩; have n0_ := Aside0.mk (below_step (by repeat (first | (with_reducible first | exact HB.out | apply below_alloc | apply pw_below_drewN | apply below_drew1) | exact HB.out)) hb); clear HB; have HB := n0_; clear n0_; (try clear hb); (try clear hb2); (try clear hk); (try clear hi)) | (go_at_call 8; (with_reducible refine (quote_Quote.calls (⟨#[13, 31]⟩ : ByteArray) t185 _ A10.out).mono ?_); rintro e w15 ⟨rfl, hb⟩; have n0_ := Aside0.mk (below_step (by repeat (first | (with_reducible first | exact HB.out | apply below_alloc | apply pw_below_drewN | apply below_drew1) | exact HB.out)) hb); clear HB; have HB := n0_; clear n0_; (try clear hb); (try clear hb2); (try clear hk); (try clear hi)))
            go_meet
            case rel => exact ⟨_, ((t185.toList != ([34, 92, 120, 48, 100, 92, 120, 49, 102, 34] : List UInt8))), (by first | rfl | (simp; done) | (simp [*]; done)), H', ⟨by first | omega | exact Nat.le_refl _⟩, ⟨by repeat (first | (with_reducible first | exact HB.out | apply below_alloc | apply pw_below_drewN | apply below_drew1) | exact HB.out)⟩⟩
          · rw [if_neg c9] at H
            have c9b0 : (t184.toList == ([34, 34] : List UInt8)) = false := beq_eq_false_iff_ne.mpr c9
            have c9b1 : (t184.toList != ([34, 34] : List UInt8)) = true := bne_iff_ne.mpr c9
            have H' := Aside0.mk H
            clear H
            go_wp2_with (first | ((with_reducible refine gate_callee (f := 8) rfl ?_); refine goesL_ (some 17) rfl rfl Try.func8 (by kernel_rfl) rfl #[.string (⟨#[97, 98]⟩ : ByteArray)] rfl (by (try simp only [List.map_toArray, List.map_cons, List.map_nil]); first | done | rfl | (simp only [List.length_drop, List.length_take]; rfl)) ?_; (with_reducible refine (quote_Quote.calls (⟨#[97, 98]⟩ : ByteArray) t181 _ A2.out).mono ?_); rintro e w16 ⟨rfl, hb⟩; refine ⟨_, rfl, ?_⟩; have n0_ := Aside0.mk (below_step (by repeat (first | (with_reducible first | exact HB.out | apply below_alloc | apply pw_below_drewN | apply below_drew1) | exact HB.out)) hb); clear HB; have HB := n0_; clear n0_; (try clear hb); (try clear hb2); (try clear hk); (try clear hi)) | (go_at_call 8; (with_reducible refine (quote_Quote.calls (⟨#[10, 0, 34, 255]⟩ : ByteArray) t182 _ A4.out).mono ?_); rintro e w17 ⟨rfl, hb⟩; have n0_ := Aside0.mk (below_step (by repeat (first | (with_reducible first | exact HB.out | apply below_alloc | apply pw_below_drewN | apply below_drew1) | exact HB.out)) hb); clear HB; have HB := n0_; clear n0_; (try clear hb); (try clear hb2); (try clear hk); (try clear hi)) | (go_at_call 8; (with_reducible refine (quote_Quote.calls (⟨#[9, 92, 127, 32, 126]⟩ : ByteArray) t183 _ A6.out).mono ?_); rintro e w18 ⟨rfl, hb⟩; have n0_ := Aside0.mk (below_step (by repeat (first | (with_reducible first | exact HB.out | apply below_alloc | apply pw_below_drewN | apply below_drew1) | exact HB.out)) hb); clear HB; have HB := n0_; clear n0_; (try clear hb); (try clear hb2); (try clear hk); (try clear hi)) | (go_at_call 8; (with_reducible refine (quote_Quote.calls (⟨#[]⟩ : ByteArray) t184 _ A8.out).mono ?_); rintro e w19 ⟨rfl, hb⟩; have n0_ := Aside0.mk (below_step (by repeat (first | (with_reducible first | exact HB.out | apply below_alloc | apply pw_below_drewN | apply below_drew1) | exact HB.out)) hb); clear HB; have HB := n0_; clear n0_; (try clear hb); (try clear hb2); (try clear hk); (try clear hi)))
            go_meet
            case rel => exact ⟨_, (true), (by first | rfl | (simp; done) | (simp [*]; done)), H', ⟨by first | omega | exact Nat.le_refl _⟩, ⟨by repeat (first | (with_reducible first | exact HB.out | apply below_alloc | apply pw_below_drewN | apply below_drew1) | exact HB.out)⟩⟩
        · rw [if_neg c7] at H
          have c7b0 : (t183.toList == ([34, 92, 116, 92, 92, 92, 120, 55, 102, 32, 126, 34] : List UInt8)) = false := beq_eq_false_iff_ne.mpr c7
          have c7b1 : (t183.toList != ([34, 92, 116, 92, 92, 92, 120, 55, 102, 32, 126, 34] : List UInt8)) = true := bne_iff_ne.mpr c7
          have H' := Aside0.mk H
          clear H
          go_wp2_with (first | ((with_reducible refine gate_callee (f := 8) rfl ?_); refine goesL_ (some 17) rfl rfl Try.func8 (by kernel_rfl) rfl #[.string (⟨#[97, 98]⟩ : ByteArray)] rfl (by (try simp only [List.map_toArray, List.map_cons, List.map_nil]); first | done | rfl | (simp only [List.length_drop, List.length_take]; rfl)) ?_; (with_reducible refine (quote_Quote.calls (⟨#[97, 98]⟩ : ByteArray) t181 _ A2.out).mono ?_); rintro e w20 ⟨rfl, hb⟩; refine ⟨_, rfl, ?_⟩; have n0_ := Aside0.mk (below_step (by repeat (first | (with_reducible first | exact HB.out | apply below_alloc | apply pw_below_drewN | apply below_drew1) | exact HB.out)) hb); clear HB; have HB := n0_; clear n0_; (try clear hb); (try clear hb2); (try clear hk); (try clear hi)) | (go_at_call 8; (with_reducible refine (quote_Quote.calls (⟨#[10, 0, 34, 255]⟩ : ByteArray) t182 _ A4.out).mono ?_); rintro e w21 ⟨rfl, hb⟩; have n0_ := Aside0.mk (below_step (by repeat (first | (with_reducible first | exact HB.out | apply below_alloc | apply pw_below_drewN | apply below_drew1) | exact HB.out)) hb); clear HB; have HB := n0_; clear n0_; (try clear hb); (try clear hb2); (try clear hk); (try clear hi)) | (go_at_call 8; (with_reducible refine (quote_Quote.calls (⟨#[9, 92, 127, 32, 126]⟩ : ByteArray) t183 _ A6.out).mono ?_); rintro e w22 ⟨rfl, hb⟩; have n0_ := Aside0.mk (below_step (by repeat (first | (with_reducible first | exact HB.out | apply below_alloc | apply pw_below_drewN | apply below_drew1) | exact HB.out)) hb); clear HB; have HB := n0_; clear n0_; (try clear hb); (try clear hb2); (try clear hk); (try clear hi)))
          go_meet
          case rel => exact ⟨_, (true), (by first | rfl | (simp; done) | (simp [*]; done)), H', ⟨by first | omega | exact Nat.le_refl _⟩, ⟨by repeat (first | (with_reducible first | exact HB.out | apply below_alloc | apply pw_below_drewN | apply below_drew1) | exact HB.out)⟩⟩
      · rw [if_neg c5] at H
        have c5b0 : (t182.toList == ([34, 92, 110, 92, 120, 48, 48, 92, 34, 92, 120, 102, 102, 34] : List UInt8)) = false := beq_eq_false_iff_ne.mpr c5
        have c5b1 : (t182.toList != ([34, 92, 110, 92, 120, 48, 48, 92, 34, 92, 120, 102, 102, 34] : List UInt8)) = true := bne_iff_ne.mpr c5
        have H' := Aside0.mk H
        clear H
        go_wp2_with (first | ((with_reducible refine gate_callee (f := 8) rfl ?_); refine goesL_ (some 17) rfl rfl Try.func8 (by kernel_rfl) rfl #[.string (⟨#[97, 98]⟩ : ByteArray)] rfl (by (try simp only [List.map_toArray, List.map_cons, List.map_nil]); first | done | rfl | (simp only [List.length_drop, List.length_take]; rfl)) ?_; (with_reducible refine (quote_Quote.calls (⟨#[97, 98]⟩ : ByteArray) t181 _ A2.out).mono ?_); rintro e w23 ⟨rfl, hb⟩; refine ⟨_, rfl, ?_⟩; have n0_ := Aside0.mk (below_step (by repeat (first | (with_reducible first | exact HB.out | apply below_alloc | apply pw_below_drewN | apply below_drew1) | exact HB.out)) hb); clear HB; have HB := n0_; clear n0_; (try clear hb); (try clear hb2); (try clear hk); (try clear hi)) | (go_at_call 8; (with_reducible refine (quote_Quote.calls (⟨#[10, 0, 34, 255]⟩ : ByteArray) t182 _ A4.out).mono ?_); rintro e w24 ⟨rfl, hb⟩; have n0_ := Aside0.mk (below_step (by repeat (first | (with_reducible first | exact HB.out | apply below_alloc | apply pw_below_drewN | apply below_drew1) | exact HB.out)) hb); clear HB; have HB := n0_; clear n0_; (try clear hb); (try clear hb2); (try clear hk); (try clear hi)))
        go_meet
        case rel => exact ⟨_, (true), (by first | rfl | (simp; done) | (simp [*]; done)), H', ⟨by first | omega | exact Nat.le_refl _⟩, ⟨by repeat (first | (with_reducible first | exact HB.out | apply below_alloc | apply pw_below_drewN | apply below_drew1) | exact HB.out)⟩⟩
    · rw [if_neg c3] at H
      have c3b0 : (t181.toList == ([34, 97, 98, 34] : List UInt8)) = false := beq_eq_false_iff_ne.mpr c3
      have c3b1 : (t181.toList != ([34, 97, 98, 34] : List UInt8)) = true := bne_iff_ne.mpr c3
      (first | rw [c3b0] | (simp only [i64_w, i32_w]; rw [c3b0]) | skip)
      have H' := Aside0.mk H
      clear H
      go_wp2_with (first | ((with_reducible refine gate_callee (f := 8) rfl ?_); refine goesL_ (some 17) rfl rfl Try.func8 (by kernel_rfl) rfl #[.string (⟨#[97, 98]⟩ : ByteArray)] rfl (by (try simp only [List.map_toArray, List.map_cons, List.map_nil]); first | done | rfl | (simp only [List.length_drop, List.length_take]; rfl)) ?_; (with_reducible refine (quote_Quote.calls (⟨#[97, 98]⟩ : ByteArray) t181 _ A2.out).mono ?_); rintro e w25 ⟨rfl, hb⟩; refine ⟨_, rfl, ?_⟩; have n0_ := Aside0.mk (below_step (by repeat (first | (with_reducible first | exact HB.out | apply below_alloc | apply pw_below_drewN | apply below_drew1) | exact HB.out)) hb); clear HB; have HB := n0_; clear n0_; (try clear hb); (try clear hb2); (try clear hk); (try clear hi)))
      go_meet
      case rel => exact ⟨_, (true), (by first | rfl | (simp; done) | (simp [*]; done)), H', ⟨by first | omega | exact Nat.le_refl _⟩, ⟨by repeat (first | (with_reducible first | exact HB.out | apply below_alloc | apply pw_below_drewN | apply below_drew1) | exact HB.out)⟩⟩
  case rest =>
    clear HC1
    try clear p2
    try clear c3
    try clear c3b0
    try clear c3b1
    try clear c5
    try clear c5b0
    try clear c5b1
    try clear c7
    try clear c7b0
    try clear c7b1
    try clear c8
    try clear c9
    try clear c9b0
    try clear c9b1
    obtain ⟨kq, x34_0, rfl, HA, HJ0, HB⟩ := hcut
    cases kq with
    | zero => exact absurd HA.out (by simp [tallowlaw03_QuoteKnown.j0])
    | succ kj0 =>
      have H := HA.out
      clear HA
      simp only [tallowlaw03_QuoteKnown.j0] at H
      by_cases c26 : x34_0 = true
      · subst c26
        have H1 : (some false) = some r := by rw [if_pos rfl] at H; exact H
        clear H
        have H := H1
        clear H1
        obtain rfl := Option.some.inj H
        go_wp2
        go_ret
        exact ⟨by first | rfl | (simp [errW_none, errW_some] <;> rfl) | (simp [*, errW_none, errW_some] <;> rfl), by repeat (first | (with_reducible first | exact HB.out | apply below_alloc | apply pw_below_drewN | apply below_drew1) | exact HB.out)⟩
      · replace c26 := Bool.eq_false_iff.mpr c26
        subst c26
        have H1 : ((some (([(⟨#[34, 97, 98, 34]⟩ : ByteArray), (⟨#[34, 92, 120, 54, 49, 92, 110, 92, 92, 34]⟩ : ByteArray), (⟨#[34, 34]⟩ : ByteArray), (⟨#[34, 92, 120, 48, 48, 92, 120, 102, 102, 92, 116, 92, 34, 34]⟩ : ByteArray)] : List ByteArray) : List ByteArray)).bind fun y186 => (tallowlaw03_QuoteKnown.l0 kj0 y186 (y186.length : Int) 0)) = some r := by rw [if_neg (show ¬ (false = true) by decide)] at H; exact H
        clear H
        have H := H1
        clear H1
        obtain ⟨y186, hy186⟩ : ∃ y_ : List ByteArray, y_ = (([(⟨#[34, 97, 98, 34]⟩ : ByteArray), (⟨#[34, 92, 120, 54, 49, 92, 110, 92, 92, 34]⟩ : ByteArray), (⟨#[34, 34]⟩ : ByteArray), (⟨#[34, 92, 120, 48, 48, 92, 120, 102, 102, 92, 116, 92, 34, 34]⟩ : ByteArray)] : List ByteArray)) := ⟨_, rfl⟩
        replace H : (tallowlaw03_QuoteKnown.l0 kj0 y186 (y186.length : Int) 0) = some r := by first | (rw [hy186]; with_reducible exact H) | (have H2_ := (Option.bind_some _ _).symm.trans H; rw [hy186]; with_reducible exact H2_) | (have H2_ := (Option.bind_some _ _).symm.trans H; with_reducible exact H2_) | with_reducible exact H | (rw [hy186]; exact H) | exact H
        have Ny186 := Aside0.mk hy186
        clear hy186
        have H' := Aside0.mk H
        clear H
        go_wp2_with (first | ((with_reducible refine gate_dst (N := 35) rfl ?_); (try (refine gate_guard (by rfl) ?_; dsimp only)); refine Kd.R_lit Kd.string _ 9 ?hg (N := 35) ?hd (xs := ([(⟨#[34, 97, 98, 34]⟩ : ByteArray), (⟨#[34, 92, 120, 54, 49, 92, 110, 92, 92, 34]⟩ : ByteArray), (⟨#[34, 34]⟩ : ByteArray), (⟨#[34, 92, 120, 48, 48, 92, 120, 102, 102, 92, 116, 92, 34, 34]⟩ : ByteArray)] : List ByteArray)) (inner := [.string (⟨#[34, 97, 98, 34]⟩ : ByteArray), .string (⟨#[34, 92, 120, 54, 49, 92, 110, 92, 92, 34]⟩ : ByteArray), .string (⟨#[34, 34]⟩ : ByteArray), .string (⟨#[34, 92, 120, 48, 48, 92, 120, 102, 102, 92, 116, 92, 34, 34]⟩ : ByteArray)]) (ok := fun _ => True) (okp := fun _ => True) ?hr ?hp (fun _ hk => hk) trivial (Below.refl _ _) (Nat.le_refl _) (by simp) ?_; (case hd => rfl); (case hg => rfl); (case hr => first | (go_simp; done) | (go_simp; rfl)); (case hp => exact (Reps.one (show Kd.M Kd.string _ _ _ (⟨#[34, 97, 98, 34]⟩ : ByteArray) [.string (⟨#[34, 97, 98, 34]⟩ : ByteArray)] from rfl) (Reps.one (show Kd.M Kd.string _ _ _ (⟨#[34, 92, 120, 54, 49, 92, 110, 92, 92, 34]⟩ : ByteArray) [.string (⟨#[34, 92, 120, 54, 49, 92, 110, 92, 92, 34]⟩ : ByteArray)] from rfl) (Reps.one (show Kd.M Kd.string _ _ _ (⟨#[34, 34]⟩ : ByteArray) [.string (⟨#[34, 34]⟩ : ByteArray)] from rfl) (Reps.one (show Kd.M Kd.string _ _ _ (⟨#[34, 92, 120, 48, 48, 92, 120, 102, 102, 92, 116, 92, 34, 34]⟩ : ByteArray) [.string (⟨#[34, 92, 120, 48, 48, 92, 120, 102, 102, 92, 116, 92, 34, 34]⟩ : ByteArray)] from rfl) (Reps.none _ _)))))); intro v187 w27 ho28 hb hg_ hnew_; clear hg_ hnew_; (first | rw [← Ny186.out] at ho28 | (simp only [Int.reduceToNat] at ho28; rw [← Ny186.out] at ho28)); have n0_ := Aside0.mk (Kd.R_lower ho28 (below_size (by repeat (first | (with_reducible first | exact HB.out | apply below_alloc | apply pw_below_drewN | apply below_drew1) | exact HB.out)))); have n1_ := Aside0.mk (below_step (by repeat (first | (with_reducible first | exact HB.out | apply below_alloc | apply pw_below_drewN | apply below_drew1) | exact HB.out)) hb); clear HB; have HO188 := n0_; have HB := n1_; clear n0_ n1_; clear hb ho28; obtain ⟨Ao29, co29, eo29⟩ := Kd.R_slice HO188.out; subst eo29))
        go_loopg [37] kj0 (fun kq v37 w' => ∃ (x37_2 : Int), v37 = .int .i64 x37_2 ∧ Aside0 (tallowlaw03_QuoteKnown.l0 kq y186 (y186.length : Int) x37_2 = some r) ∧ Aside0 (kq ≤ kj0) ∧ Aside0 (Kd.R Kd.string 9 w' w.heap.size (fun _ => True) (.slice Ao29 y186.length co29) y186) ∧ Aside0 (Below w.heap.size w w'))
        case atStart => exact ⟨(0), (by first | rfl | (simp; done) | (simp [*]; done)), H', ⟨Nat.le_refl _⟩, ⟨by (with_reducible repeat (first | apply Kd.R_alloc | apply Kd.R_drewN | apply Kd.R_drew)); exact HO188.out⟩, ⟨by repeat (first | (with_reducible first | exact HB.out | apply below_alloc | apply pw_below_drewN | apply below_drew1) | exact HB.out)⟩⟩
        case round =>
          clear H'
          try clear c2
          try clear p2
          try clear c3
          try clear c3b0
          try clear c3b1
          try clear c5
          try clear c5b0
          try clear c5b1
          try clear c7
          try clear c7b0
          try clear c7b1
          try clear c8
          try clear c9
          try clear c9b0
          try clear c9b1
          try clear c26
          try clear p2
          obtain ⟨x37_2, rfl, HA, HK2, HO_35, HB⟩ := hrel
          cases gk with
          | zero => exact absurd HA.out (by simp [tallowlaw03_QuoteKnown.l0])
          | succ k2 =>
            have H := HA.out
            clear HA
            simp only [tallowlaw03_QuoteKnown.l0] at H
            by_cases c30 : x37_2 < (y186.length : Int)
            · rw [if_pos c30] at H
              have c30b0 : decide (x37_2 < (y186.length : Int)) = true := decide_eq_true c30
              clear c30
              by_cases c31 : 0 ≤ x37_2
              · rw [if_pos c31] at H
                have c31b0 : decide (0 ≤ x37_2) = true := decide_eq_true c31
                clear c31
                by_cases c32 : x37_2 < (y186.length : Int)
                · rw [if_pos c32] at H
                  have c32b0 : decide (x37_2 < (y186.length : Int)) = true := decide_eq_true c32
                  clear c32
                  replace H := Option.bind_eq_some_iff.mp H
                  obtain ⟨⟨t190, t191⟩, A330, H⟩ := H
                  replace H : (if t191 = 0 then ((some (([(⟨#[97, 98]⟩ : ByteArray), (⟨#[97, 10, 92]⟩ : ByteArray), (⟨#[]⟩ : ByteArray), (⟨#[0, 255, 9, 34]⟩ : ByteArray)] : List ByteArray) : List ByteArray)).bind fun y192 => (if x37_2 < (y192.length : Int) then (if t190.toList = (rdOf ByteArray.empty y192 x37_2).toList then (tallowlaw03_QuoteKnown.l0 k2 y186 (y186.length : Int) (wrap64 (x37_2 + 1))) else (some false)) else (none))) else (some false)) = some r := H
                  have A33 := Aside0.mk A330
                  clear A330
                  by_cases c34 : t191 = 0
                  · rw [if_pos c34] at H
                    have c34b0 : (t191 == 0) = true := beq_iff_eq.mpr c34
                    have c34b1 : (t191 != 0) = false := bne_eq_false_iff_eq.mpr c34
                    clear c34
                    obtain ⟨y192, hy192⟩ : ∃ y_ : List ByteArray, y_ = (([(⟨#[97, 98]⟩ : ByteArray), (⟨#[97, 10, 92]⟩ : ByteArray), (⟨#[]⟩ : ByteArray), (⟨#[0, 255, 9, 34]⟩ : ByteArray)] : List ByteArray)) := ⟨_, rfl⟩
                    replace H : (if x37_2 < (y192.length : Int) then (if t190.toList = (rdOf ByteArray.empty y192 x37_2).toList then (tallowlaw03_QuoteKnown.l0 k2 y186 (y186.length : Int) (wrap64 (x37_2 + 1))) else (some false)) else (none)) = some r := by first | (rw [hy192]; with_reducible exact H) | (have H2_ := (Option.bind_some _ _).symm.trans H; rw [hy192]; with_reducible exact H2_) | (have H2_ := (Option.bind_some _ _).symm.trans H; with_reducible exact H2_) | with_reducible exact H | (rw [hy192]; exact H) | exact H
                    have Ny192 := Aside0.mk hy192
                    clear hy192
                    by_cases c35 : x37_2 < (y192.length : Int)
                    · rw [if_pos c35] at H
                      have c35b0 : decide (x37_2 < (y192.length : Int)) = true := decide_eq_true c35
                      clear c35
                      by_cases c36 : t190.toList = (rdOf ByteArray.empty y192 x37_2).toList
                      · rw [if_pos c36] at H
                        have c36b0 : (t190.toList == (rdOf ByteArray.empty y192 x37_2).toList) = true := beq_iff_eq.mpr c36
                        have c36b1 : (t190.toList != (rdOf ByteArray.empty y192 x37_2).toList) = false := bne_eq_false_iff_eq.mpr c36
                        clear c36
                        have H' := Aside0.mk H
                        clear H
                        have p189 : 0 ≤ (x37_2 : Int) := of_decide_eq_true (by first | (with_reducible assumption) | assumption)
                        have q189 : x37_2 < (y186.length : Int) := of_decide_eq_true (by first | (with_reducible assumption) | assumption)
                        obtain ⟨ad189, e189, hx189_0⟩ := Kd.at_string (Kd.R_reads' HO_35.out).2.2 x37_2 p189 q189
                        cases e189
                        replace p189 := eq_true p189
                        replace q189 := eq_true q189
                        go_wp2_with (first | ((with_reducible refine gate_callee (f := 11) rfl ?_); refine goesL_ (some 44) rfl rfl Try.func11 (by kernel_rfl) rfl #[.string (rdOf ByteArray.empty y186 x37_2)] rfl (by (try simp only [List.map_toArray, List.map_cons, List.map_nil]); first | done | rfl | (simp only [List.length_drop, List.length_take]; rfl)) ?_; (with_reducible refine (quote_Unquote.calls (rdOf ByteArray.empty y186 x37_2) t190 t191 _ A33.out).mono ?_); rintro e w37 ⟨rfl, hb⟩; refine ⟨_, rfl, ?_⟩; have n0_ := Aside0.mk (Kd.R_below (by (with_reducible repeat (first | apply Kd.R_alloc | apply Kd.R_drewN | apply Kd.R_drew)); exact HO_35.out) hb); have n1_ := Aside0.mk (below_step (by repeat (first | (with_reducible first | exact HB.out | apply below_alloc | apply pw_below_drewN | apply below_drew1) | exact HB.out)) hb); clear HO_35; clear HB; have HO_35 := n0_; have HB := n1_; clear n0_ n1_; (try clear hb); (try clear hb2); (try clear hk); (try clear hi)) | ((with_reducible refine gate_dst (N := 51) rfl ?_); (try (refine gate_guard (by rfl) ?_; dsimp only)); refine Kd.R_lit Kd.string _ 9 ?hg (N := 51) ?hd (xs := ([(⟨#[97, 98]⟩ : ByteArray), (⟨#[97, 10, 92]⟩ : ByteArray), (⟨#[]⟩ : ByteArray), (⟨#[0, 255, 9, 34]⟩ : ByteArray)] : List ByteArray)) (inner := [.string (⟨#[97, 98]⟩ : ByteArray), .string (⟨#[97, 10, 92]⟩ : ByteArray), .string (⟨#[]⟩ : ByteArray), .string (⟨#[0, 255, 9, 34]⟩ : ByteArray)]) (ok := fun _ => True) (okp := fun _ => True) ?hr ?hp (fun _ hk => hk) trivial (Below.refl _ _) (Nat.le_refl _) (by simp) ?_; (case hd => rfl); (case hg => rfl); (case hr => first | (go_simp; done) | (go_simp; rfl)); (case hp => exact (Reps.one (show Kd.M Kd.string _ _ _ (⟨#[97, 98]⟩ : ByteArray) [.string (⟨#[97, 98]⟩ : ByteArray)] from rfl) (Reps.one (show Kd.M Kd.string _ _ _ (⟨#[97, 10, 92]⟩ : ByteArray) [.string (⟨#[97, 10, 92]⟩ : ByteArray)] from rfl) (Reps.one (show Kd.M Kd.string _ _ _ (⟨#[]⟩ : ByteArray) [.string (⟨#[]⟩ : ByteArray)] from rfl) (Reps.one (show Kd.M Kd.string _ _ _ (⟨#[0, 255, 9, 34]⟩ : ByteArray) [.string (⟨#[0, 255, 9, 34]⟩ : ByteArray)] from rfl) (Reps.none _ _)))))); intro v193 w38 ho39 hb hg_ hnew_; clear hg_ hnew_; (first | rw [← Ny192.out] at ho39 | (simp only [Int.reduceToNat] at ho39; rw [← Ny192.out] at ho39)); have n0_ := Aside0.mk (Kd.R_elder' (by (with_reducible repeat (first | apply Kd.R_alloc | apply Kd.R_drewN | apply Kd.R_drew)); exact HO_35.out) (Kd.R_base ho39) hb); have n1_ := Aside0.mk (Kd.R_lower (Kd.R_new' ho39 (Kd.R_lt (by (with_reducible repeat (first | apply Kd.R_alloc | apply Kd.R_drewN | apply Kd.R_drew)); exact HO_35.out))) (below_size (by repeat (first | (with_reducible first | exact HB.out | apply below_alloc | apply pw_below_drewN | apply below_drew1) | exact HB.out)))); have n2_ := Aside0.mk (below_step (by repeat (first | (with_reducible first | exact HB.out | apply below_alloc | apply pw_below_drewN | apply below_drew1) | exact HB.out)) hb); clear HO_35; clear HB; have HO_35 := n0_; have HO194 := n1_; have HB := n2_; clear n0_ n1_ n2_; clear hb ho39; obtain ⟨Ao40, co40, eo40⟩ := Kd.R_slice HO194.out; subst eo40; have p195 : 0 ≤ (x37_2 : Int) := of_decide_eq_true (by first | (with_reducible assumption) | assumption); have q195 : x37_2 < (y192.length : Int) := of_decide_eq_true (by first | (with_reducible assumption) | assumption); obtain ⟨ad195, e195, hx195_0⟩ := Kd.at_string (Kd.R_reads' HO194.out).2.2 x37_2 p195 q195; cases e195; replace p195 := eq_true p195; replace q195 := eq_true q195))
                        go_roundg k2
                        case measure => have := HJ0.out; have := HK2.out; omega
                        case rel => exact ⟨(wrap64 (x37_2 + 1)), (by first | rfl | (simp; done) | (simp [*]; done)), H', ⟨by have := HJ0.out; have := HK2.out; omega⟩, ⟨by (with_reducible repeat (first | apply Kd.R_alloc | apply Kd.R_drewN | apply Kd.R_drew)); exact Kd.R_mono HO_35.out (fun _ hk => trivial)⟩, ⟨by repeat (first | (with_reducible first | exact HB.out | apply below_alloc | apply pw_below_drewN | apply below_drew1) | exact HB.out)⟩⟩
                      · rw [if_neg c36] at H
                        have c36b0 : (t190.toList == (rdOf ByteArray.empty y192 x37_2).toList) = false := beq_eq_false_iff_ne.mpr c36
                        have c36b1 : (t190.toList != (rdOf ByteArray.empty y192 x37_2).toList) = true := bne_iff_ne.mpr c36
                        obtain rfl := Option.some.inj H
                        have p189 : 0 ≤ (x37_2 : Int) := of_decide_eq_true (by first | (with_reducible assumption) | assumption)
                        have q189 : x37_2 < (y186.length : Int) := of_decide_eq_true (by first | (with_reducible assumption) | assumption)
                        obtain ⟨ad189, e189, hx189_0⟩ := Kd.at_string (Kd.R_reads' HO_35.out).2.2 x37_2 p189 q189
                        cases e189
                        replace p189 := eq_true p189
                        replace q189 := eq_true q189
                        go_wp2_with (first | ((with_reducible refine gate_callee (f := 11) rfl ?_); refine goesL_ (some 44) rfl rfl Try.func11 (by kernel_rfl) rfl #[.string (rdOf ByteArray.empty y186 x37_2)] rfl (by (try simp only [List.map_toArray, List.map_cons, List.map_nil]); first | done | rfl | (simp only [List.length_drop, List.length_take]; rfl)) ?_; (with_reducible refine (quote_Unquote.calls (rdOf ByteArray.empty y186 x37_2) t190 t191 _ A33.out).mono ?_); rintro e w41 ⟨rfl, hb⟩; refine ⟨_, rfl, ?_⟩; have n0_ := Aside0.mk (Kd.R_below (by (with_reducible repeat (first | apply Kd.R_alloc | apply Kd.R_drewN | apply Kd.R_drew)); exact HO_35.out) hb); have n1_ := Aside0.mk (below_step (by repeat (first | (with_reducible first | exact HB.out | apply below_alloc | apply pw_below_drewN | apply below_drew1) | exact HB.out)) hb); clear HO_35; clear HB; have HO_35 := n0_; have HB := n1_; clear n0_ n1_; (try clear hb); (try clear hb2); (try clear hk); (try clear hi)) | ((with_reducible refine gate_dst (N := 51) rfl ?_); (try (refine gate_guard (by rfl) ?_; dsimp only)); refine Kd.R_lit Kd.string _ 9 ?hg (N := 51) ?hd (xs := ([(⟨#[97, 98]⟩ : ByteArray), (⟨#[97, 10, 92]⟩ : ByteArray), (⟨#[]⟩ : ByteArray), (⟨#[0, 255, 9, 34]⟩ : ByteArray)] : List ByteArray)) (inner := [.string (⟨#[97, 98]⟩ : ByteArray), .string (⟨#[97, 10, 92]⟩ : ByteArray), .string (⟨#[]⟩ : ByteArray), .string (⟨#[0, 255, 9, 34]⟩ : ByteArray)]) (ok := fun _ => True) (okp := fun _ => True) ?hr ?hp (fun _ hk => hk) trivial (Below.refl _ _) (Nat.le_refl _) (by simp) ?_; (case hd => rfl); (case hg => rfl); (case hr => first | (go_simp; done) | (go_simp; rfl)); (case hp => exact (Reps.one (show Kd.M Kd.string _ _ _ (⟨#[97, 98]⟩ : ByteArray) [.string (⟨#[97, 98]⟩ : ByteArray)] from rfl) (Reps.one (show Kd.M Kd.string _ _ _ (⟨#[97, 10, 92]⟩ : ByteArray) [.string (⟨#[97, 10, 92]⟩ : ByteArray)] from rfl) (Reps.one (show Kd.M Kd.string _ _ _ (⟨#[]⟩ : ByteArray) [.string (⟨#[]⟩ : ByteArray)] from rfl) (Reps.one (show Kd.M Kd.string _ _ _ (⟨#[0, 255, 9, 34]⟩ : ByteArray) [.string (⟨#[0, 255, 9, 34]⟩ : ByteArray)] from rfl) (Reps.none _ _)))))); intro v193 w42 ho43 hb hg_ hnew_; clear hg_ hnew_; (first | rw [← Ny192.out] at ho43 | (simp only [Int.reduceToNat] at ho43; rw [← Ny192.out] at ho43)); have n0_ := Aside0.mk (Kd.R_elder' (by (with_reducible repeat (first | apply Kd.R_alloc | apply Kd.R_drewN | apply Kd.R_drew)); exact HO_35.out) (Kd.R_base ho43) hb); have n1_ := Aside0.mk (Kd.R_lower (Kd.R_new' ho43 (Kd.R_lt (by (with_reducible repeat (first | apply Kd.R_alloc | apply Kd.R_drewN | apply Kd.R_drew)); exact HO_35.out))) (below_size (by repeat (first | (with_reducible first | exact HB.out | apply below_alloc | apply pw_below_drewN | apply below_drew1) | exact HB.out)))); have n2_ := Aside0.mk (below_step (by repeat (first | (with_reducible first | exact HB.out | apply below_alloc | apply pw_below_drewN | apply below_drew1) | exact HB.out)) hb); clear HO_35; clear HB; have HO_35 := n0_; have HO194 := n1_; have HB := n2_; clear n0_ n1_ n2_; clear hb ho43; obtain ⟨Ao44, co44, eo44⟩ := Kd.R_slice HO194.out; subst eo44; have p195 : 0 ≤ (x37_2 : Int) := of_decide_eq_true (by first | (with_reducible assumption) | assumption); have q195 : x37_2 < (y192.length : Int) := of_decide_eq_true (by first | (with_reducible assumption) | assumption); obtain ⟨ad195, e195, hx195_0⟩ := Kd.at_string (Kd.R_reads' HO194.out).2.2 x37_2 p195 q195; cases e195; replace p195 := eq_true p195; replace q195 := eq_true q195))
                        go_ret
                        exact ⟨by first | rfl | (simp [errW_none, errW_some] <;> rfl) | (simp [*, errW_none, errW_some] <;> rfl), by repeat (first | (with_reducible first | exact HB.out | apply below_alloc | apply pw_below_drewN | apply below_drew1) | exact HB.out)⟩
                    · rw [if_neg c35] at H
                      exact absurd H (by simp)
                  · rw [if_neg c34] at H
                    have c34b0 : (t191 == 0) = false := beq_eq_false_iff_ne.mpr c34
                    have c34b1 : (t191 != 0) = true := bne_iff_ne.mpr c34
                    obtain rfl := Option.some.inj H
                    have p189 : 0 ≤ (x37_2 : Int) := of_decide_eq_true (by first | (with_reducible assumption) | assumption)
                    have q189 : x37_2 < (y186.length : Int) := of_decide_eq_true (by first | (with_reducible assumption) | assumption)
                    obtain ⟨ad189, e189, hx189_0⟩ := Kd.at_string (Kd.R_reads' HO_35.out).2.2 x37_2 p189 q189
                    cases e189
                    replace p189 := eq_true p189
                    replace q189 := eq_true q189
                    go_wp2_with (first | ((with_reducible refine gate_callee (f := 11) rfl ?_); refine goesL_ (some 44) rfl rfl Try.func11 (by kernel_rfl) rfl #[.string (rdOf ByteArray.empty y186 x37_2)] rfl (by (try simp only [List.map_toArray, List.map_cons, List.map_nil]); first | done | rfl | (simp only [List.length_drop, List.length_take]; rfl)) ?_; (with_reducible refine (quote_Unquote.calls (rdOf ByteArray.empty y186 x37_2) t190 t191 _ A33.out).mono ?_); rintro e w45 ⟨rfl, hb⟩; refine ⟨_, rfl, ?_⟩; have n0_ := Aside0.mk (Kd.R_below (by (with_reducible repeat (first | apply Kd.R_alloc | apply Kd.R_drewN | apply Kd.R_drew)); exact HO_35.out) hb); have n1_ := Aside0.mk (below_step (by repeat (first | (with_reducible first | exact HB.out | apply below_alloc | apply pw_below_drewN | apply below_drew1) | exact HB.out)) hb); clear HO_35; clear HB; have HO_35 := n0_; have HB := n1_; clear n0_ n1_; (try clear hb); (try clear hb2); (try clear hk); (try clear hi)))
                    go_ret
                    exact ⟨by first | rfl | (simp [errW_none, errW_some] <;> rfl) | (simp [*, errW_none, errW_some] <;> rfl), by repeat (first | (with_reducible first | exact HB.out | apply below_alloc | apply pw_below_drewN | apply below_drew1) | exact HB.out)⟩
                · rw [if_neg c32] at H
                  exact absurd H (by simp)
              · rw [if_neg c31] at H
                exact absurd H (by simp)
            · rw [if_neg c30] at H
              have c30b0 : decide (x37_2 < (y186.length : Int)) = false := decide_eq_false c30
              clear c30
              obtain ⟨y196, hy196⟩ : ∃ y_ : List ByteArray, y_ = (([(⟨#[]⟩ : ByteArray), (⟨#[34]⟩ : ByteArray), (⟨#[97, 98]⟩ : ByteArray), (⟨#[34, 97, 98]⟩ : ByteArray), (⟨#[97, 98, 34]⟩ : ByteArray), (⟨#[34, 97, 34, 98, 34]⟩ : ByteArray), (⟨#[34, 92, 113, 34]⟩ : ByteArray), (⟨#[34, 92, 120, 54, 34]⟩ : ByteArray), (⟨#[34, 92, 120, 70, 70, 34]⟩ : ByteArray), (⟨#[34, 92, 120, 54, 103, 34]⟩ : ByteArray), (⟨#[34, 10, 34]⟩ : ByteArray), (⟨#[34, 127, 34]⟩ : ByteArray), (⟨#[34, 195, 164, 34]⟩ : ByteArray), (⟨#[34, 92, 34]⟩ : ByteArray), (⟨#[34, 92, 120, 34]⟩ : ByteArray), (⟨#[39, 97, 39]⟩ : ByteArray), (⟨#[32, 34, 97, 34]⟩ : ByteArray), (⟨#[34, 92, 88, 54, 49, 34]⟩ : ByteArray)] : List ByteArray)) := ⟨_, rfl⟩
              replace H : (tallowlaw03_QuoteKnown.l1 k2 y196 (y196.length : Int) 0) = some r := by first | (rw [hy196]; with_reducible exact H) | (have H2_ := (Option.bind_some _ _).symm.trans H; rw [hy196]; with_reducible exact H2_) | (have H2_ := (Option.bind_some _ _).symm.trans H; with_reducible exact H2_) | with_reducible exact H | (rw [hy196]; exact H) | exact H
              have Ny196 := Aside0.mk hy196
              clear hy196
              have H' := Aside0.mk H
              clear H
              go_wp2_with (first | ((with_reducible refine gate_dst (N := 58) rfl ?_); (try (refine gate_guard (by rfl) ?_; dsimp only)); refine Kd.R_lit Kd.string _ 9 ?hg (N := 58) ?hd (xs := ([(⟨#[]⟩ : ByteArray), (⟨#[34]⟩ : ByteArray), (⟨#[97, 98]⟩ : ByteArray), (⟨#[34, 97, 98]⟩ : ByteArray), (⟨#[97, 98, 34]⟩ : ByteArray), (⟨#[34, 97, 34, 98, 34]⟩ : ByteArray), (⟨#[34, 92, 113, 34]⟩ : ByteArray), (⟨#[34, 92, 120, 54, 34]⟩ : ByteArray), (⟨#[34, 92, 120, 70, 70, 34]⟩ : ByteArray), (⟨#[34, 92, 120, 54, 103, 34]⟩ : ByteArray), (⟨#[34, 10, 34]⟩ : ByteArray), (⟨#[34, 127, 34]⟩ : ByteArray), (⟨#[34, 195, 164, 34]⟩ : ByteArray), (⟨#[34, 92, 34]⟩ : ByteArray), (⟨#[34, 92, 120, 34]⟩ : ByteArray), (⟨#[39, 97, 39]⟩ : ByteArray), (⟨#[32, 34, 97, 34]⟩ : ByteArray), (⟨#[34, 92, 88, 54, 49, 34]⟩ : ByteArray)] : List ByteArray)) (inner := [.string (⟨#[]⟩ : ByteArray), .string (⟨#[34]⟩ : ByteArray), .string (⟨#[97, 98]⟩ : ByteArray), .string (⟨#[34, 97, 98]⟩ : ByteArray), .string (⟨#[97, 98, 34]⟩ : ByteArray), .string (⟨#[34, 97, 34, 98, 34]⟩ : ByteArray), .string (⟨#[34, 92, 113, 34]⟩ : ByteArray), .string (⟨#[34, 92, 120, 54, 34]⟩ : ByteArray), .string (⟨#[34, 92, 120, 70, 70, 34]⟩ : ByteArray), .string (⟨#[34, 92, 120, 54, 103, 34]⟩ : ByteArray), .string (⟨#[34, 10, 34]⟩ : ByteArray), .string (⟨#[34, 127, 34]⟩ : ByteArray), .string (⟨#[34, 195, 164, 34]⟩ : ByteArray), .string (⟨#[34, 92, 34]⟩ : ByteArray), .string (⟨#[34, 92, 120, 34]⟩ : ByteArray), .string (⟨#[39, 97, 39]⟩ : ByteArray), .string (⟨#[32, 34, 97, 34]⟩ : ByteArray), .string (⟨#[34, 92, 88, 54, 49, 34]⟩ : ByteArray)]) (ok := fun _ => True) (okp := fun _ => True) ?hr ?hp (fun _ hk => hk) trivial (Below.refl _ _) (Nat.le_refl _) (by simp) ?_; (case hd => rfl); (case hg => rfl); (case hr => first | (go_simp; done) | (go_simp; rfl)); (case hp => exact (Reps.one (show Kd.M Kd.string _ _ _ (⟨#[]⟩ : ByteArray) [.string (⟨#[]⟩ : ByteArray)] from rfl) (Reps.one (show Kd.M Kd.string _ _ _ (⟨#[34]⟩ : ByteArray) [.string (⟨#[34]⟩ : ByteArray)] from rfl) (Reps.one (show Kd.M Kd.string _ _ _ (⟨#[97, 98]⟩ : ByteArray) [.string (⟨#[97, 98]⟩ : ByteArray)] from rfl) (Reps.one (show Kd.M Kd.string _ _ _ (⟨#[34, 97, 98]⟩ : ByteArray) [.string (⟨#[34, 97, 98]⟩ : ByteArray)] from rfl) (Reps.one (show Kd.M Kd.string _ _ _ (⟨#[97, 98, 34]⟩ : ByteArray) [.string (⟨#[97, 98, 34]⟩ : ByteArray)] from rfl) (Reps.one (show Kd.M Kd.string _ _ _ (⟨#[34, 97, 34, 98, 34]⟩ : ByteArray) [.string (⟨#[34, 97, 34, 98, 34]⟩ : ByteArray)] from rfl) (Reps.one (show Kd.M Kd.string _ _ _ (⟨#[34, 92, 113, 34]⟩ : ByteArray) [.string (⟨#[34, 92, 113, 34]⟩ : ByteArray)] from rfl) (Reps.one (show Kd.M Kd.string _ _ _ (⟨#[34, 92, 120, 54, 34]⟩ : ByteArray) [.string (⟨#[34, 92, 120, 54, 34]⟩ : ByteArray)] from rfl) (Reps.one (show Kd.M Kd.string _ _ _ (⟨#[34, 92, 120, 70, 70, 34]⟩ : ByteArray) [.string (⟨#[34, 92, 120, 70, 70, 34]⟩ : ByteArray)] from rfl) (Reps.one (show Kd.M Kd.string _ _ _ (⟨#[34, 92, 120, 54, 103, 34]⟩ : ByteArray) [.string (⟨#[34, 92, 120, 54, 103, 34]⟩ : ByteArray)] from rfl) (Reps.one (show Kd.M Kd.string _ _ _ (⟨#[34, 10, 34]⟩ : ByteArray) [.string (⟨#[34, 10, 34]⟩ : ByteArray)] from rfl) (Reps.one (show Kd.M Kd.string _ _ _ (⟨#[34, 127, 34]⟩ : ByteArray) [.string (⟨#[34, 127, 34]⟩ : ByteArray)] from rfl) (Reps.one (show Kd.M Kd.string _ _ _ (⟨#[34, 195, 164, 34]⟩ : ByteArray) [.string (⟨#[34, 195, 164, 34]⟩ : ByteArray)] from rfl) (Reps.one (show Kd.M Kd.string _ _ _ (⟨#[34, 92, 34]⟩ : ByteArray) [.string (⟨#[34, 92, 34]⟩ : ByteArray)] from rfl) (Reps.one (show Kd.M Kd.string _ _ _ (⟨#[34, 92, 120, 34]⟩ : ByteArray) [.string (⟨#[34, 92, 120, 34]⟩ : ByteArray)] from rfl) (Reps.one (show Kd.M Kd.string _ _ _ (⟨#[39, 97, 39]⟩ : ByteArray) [.string (⟨#[39, 97, 39]⟩ : ByteArray)] from rfl) (Reps.one (show Kd.M Kd.string _ _ _ (⟨#[32, 34, 97, 34]⟩ : ByteArray) [.string (⟨#[32, 34, 97, 34]⟩ : ByteArray)] from rfl) (Reps.one (show Kd.M Kd.string _ _ _ (⟨#[34, 92, 88, 54, 49, 34]⟩ : ByteArray) [.string (⟨#[34, 92, 88, 54, 49, 34]⟩ : ByteArray)] from rfl) (Reps.none _ _)))))))))))))))))))); intro v197 w46 ho47 hb hg_ hnew_; clear hg_ hnew_; (first | rw [← Ny196.out] at ho47 | (simp only [Int.reduceToNat] at ho47; rw [← Ny196.out] at ho47)); have n0_ := Aside0.mk (Kd.R_elder' (by (with_reducible repeat (first | apply Kd.R_alloc | apply Kd.R_drewN | apply Kd.R_drew)); exact HO_35.out) (Kd.R_base ho47) hb); have n1_ := Aside0.mk (Kd.R_lower (Kd.R_new' ho47 (Kd.R_lt (by (with_reducible repeat (first | apply Kd.R_alloc | apply Kd.R_drewN | apply Kd.R_drew)); exact HO_35.out))) (below_size (by repeat (first | (with_reducible first | exact HB.out | apply below_alloc | apply pw_below_drewN | apply below_drew1) | exact HB.out)))); have n2_ := Aside0.mk (below_step (by repeat (first | (with_reducible first | exact HB.out | apply below_alloc | apply pw_below_drewN | apply below_drew1) | exact HB.out)) hb); clear HO_35; clear HB; have HO_35 := n0_; have HO198 := n1_; have HB := n2_; clear n0_ n1_ n2_; clear hb ho47; obtain ⟨Ao48, co48, eo48⟩ := Kd.R_slice HO198.out; subst eo48))
              go_loopg [60] k2 (fun kq v60 w' => ∃ (x60_3 : Int), v60 = .int .i64 x60_3 ∧ Aside0 (tallowlaw03_QuoteKnown.l1 kq y196 (y196.length : Int) x60_3 = some r) ∧ Aside0 (kq ≤ k2) ∧ Aside0 (Kd.R Kd.string 9 w' w.heap.size (fun _ => True) (.slice Ao48 y196.length co48) y196) ∧ Aside0 (Below w.heap.size w w'))
              case atStart => exact ⟨(0), (by first | rfl | (simp; done) | (simp [*]; done)), H', ⟨Nat.le_refl _⟩, ⟨by (with_reducible repeat (first | apply Kd.R_alloc | apply Kd.R_drewN | apply Kd.R_drew)); exact Kd.R_mono HO198.out (fun _ hk => trivial)⟩, ⟨by repeat (first | (with_reducible first | exact HB.out | apply below_alloc | apply pw_below_drewN | apply below_drew1) | exact HB.out)⟩⟩
              case round =>
                clear H'
                try clear c1
                try clear p1
                try clear q1
                try clear hx1
                try clear c2
                try clear p2
                try clear c3
                try clear c3b0
                try clear c3b1
                try clear c5
                try clear c5b0
                try clear c5b1
                try clear p6
                try clear c7
                try clear c7b0
                try clear c7b1
                try clear c8
                try clear c9
                try clear c9b0
                try clear c9b1
                try clear c11
                try clear p18
                try clear q18
                try clear hx18
                try clear p19
                try clear q19
                try clear hx19
                try clear c26
                try clear c30
                try clear c30b0
                try clear c31
                try clear c31b0
                try clear c32
                try clear c32b0
                try clear c34
                try clear c34b0
                try clear c34b1
                try clear c35
                try clear c35b0
                try clear c36
                try clear c36b0
                try clear c36b1
                try clear hx189_0
                try clear hx195_0
                try clear p189
                try clear p195
                try clear p2
                try clear q189
                try clear q195
                obtain ⟨x60_3, rfl, HA, HK3, HO_58, HB⟩ := hrel
                cases gk with
                | zero => exact absurd HA.out (by simp [tallowlaw03_QuoteKnown.l1])
                | succ k3 =>
                  have H := HA.out
                  clear HA
                  simp only [tallowlaw03_QuoteKnown.l1] at H
                  by_cases c49 : x60_3 < (y196.length : Int)
                  · rw [if_pos c49] at H
                    have c49b0 : decide (x60_3 < (y196.length : Int)) = true := decide_eq_true c49
                    clear c49
                    by_cases c50 : 0 ≤ x60_3
                    · rw [if_pos c50] at H
                      have c50b0 : decide (0 ≤ x60_3) = true := decide_eq_true c50
                      clear c50
                      by_cases c51 : x60_3 < (y196.length : Int)
                      · rw [if_pos c51] at H
                        have c51b0 : decide (x60_3 < (y196.length : Int)) = true := decide_eq_true c51
                        clear c51
                        replace H := Option.bind_eq_some_iff.mp H
                        obtain ⟨⟨t200, t201⟩, A520, H⟩ := H
                        replace H : (if t200.toList = ([] : List UInt8) then (if t201 = 4 then (tallowlaw03_QuoteKnown.l1 k3 y196 (y196.length : Int) (wrap64 (x60_3 + 1))) else (some false)) else (some false)) = some r := H
                        have A52 := Aside0.mk A520
                        clear A520
                        by_cases c53 : t200.toList = ([] : List UInt8)
                        · rw [if_pos c53] at H
                          have c53b0 : (t200.toList == ([] : List UInt8)) = true := beq_iff_eq.mpr c53
                          have c53b1 : (t200.toList != ([] : List UInt8)) = false := bne_eq_false_iff_eq.mpr c53
                          clear c53
                          by_cases c54 : t201 = 4
                          · rw [if_pos c54] at H
                            have c54b0 : (t201 == 4) = true := beq_iff_eq.mpr c54
                            have c54b1 : (t201 != 4) = false := bne_eq_false_iff_eq.mpr c54
                            clear c54
                            have H' := Aside0.mk H
                            clear H
                            have p199 : 0 ≤ (x60_3 : Int) := of_decide_eq_true (by first | (with_reducible assumption) | assumption)
                            have q199 : x60_3 < (y196.length : Int) := of_decide_eq_true (by first | (with_reducible assumption) | assumption)
                            obtain ⟨ad199, e199, hx199_0⟩ := Kd.at_string (Kd.R_reads' HO_58.out).2.2 x60_3 p199 q199
                            cases e199
                            replace p199 := eq_true p199
                            replace q199 := eq_true q199
                            go_wp2_with (first | ((with_reducible refine gate_callee (f := 11) rfl ?_); refine goesL_ (some 66) rfl rfl Try.func11 (by kernel_rfl) rfl #[.string (rdOf ByteArray.empty y196 x60_3)] rfl (by (try simp only [List.map_toArray, List.map_cons, List.map_nil]); first | done | rfl | (simp only [List.length_drop, List.length_take]; rfl)) ?_; (with_reducible refine (quote_Unquote.calls (rdOf ByteArray.empty y196 x60_3) t200 t201 _ A52.out).mono ?_); rintro e w55 ⟨rfl, hb⟩; refine ⟨_, rfl, ?_⟩; have n0_ := Aside0.mk (Kd.R_below (by (with_reducible repeat (first | apply Kd.R_alloc | apply Kd.R_drewN | apply Kd.R_drew)); exact HO_58.out) hb); have n1_ := Aside0.mk (below_step (by repeat (first | (with_reducible first | exact HB.out | apply below_alloc | apply pw_below_drewN | apply below_drew1) | exact HB.out)) hb); clear HO_58; clear HB; have HO_58 := n0_; have HB := n1_; clear n0_ n1_; (try clear hb); (try clear hb2); (try clear hk); (try clear hi)))
                            go_roundg k3
                            case measure => have := HJ0.out; have := HK2.out; have := HK3.out; omega
                            case rel => exact ⟨(wrap64 (x60_3 + 1)), (by first | rfl | (simp; done) | (simp [*]; done)), H', ⟨by have := HJ0.out; have := HK2.out; have := HK3.out; omega⟩, ⟨by (with_reducible repeat (first | apply Kd.R_alloc | apply Kd.R_drewN | apply Kd.R_drew)); exact HO_58.out⟩, ⟨by repeat (first | (with_reducible first | exact HB.out | apply below_alloc | apply pw_below_drewN | apply below_drew1) | exact HB.out)⟩⟩
                          · rw [if_neg c54] at H
                            have c54b0 : (t201 == 4) = false := beq_eq_false_iff_ne.mpr c54
                            have c54b1 : (t201 != 4) = true := bne_iff_ne.mpr c54
                            obtain rfl := Option.some.inj H
                            have p199 : 0 ≤ (x60_3 : Int) := of_decide_eq_true (by first | (with_reducible assumption) | assumption)
                            have q199 : x60_3 < (y196.length : Int) := of_decide_eq_true (by first | (with_reducible assumption) | assumption)
                            obtain ⟨ad199, e199, hx199_0⟩ := Kd.at_string (Kd.R_reads' HO_58.out).2.2 x60_3 p199 q199
                            cases e199
                            replace p199 := eq_true p199
                            replace q199 := eq_true q199
                            go_wp2_with (first | ((with_reducible refine gate_callee (f := 11) rfl ?_); refine goesL_ (some 66) rfl rfl Try.func11 (by kernel_rfl) rfl #[.string (rdOf ByteArray.empty y196 x60_3)] rfl (by (try simp only [List.map_toArray, List.map_cons, List.map_nil]); first | done | rfl | (simp only [List.length_drop, List.length_take]; rfl)) ?_; (with_reducible refine (quote_Unquote.calls (rdOf ByteArray.empty y196 x60_3) t200 t201 _ A52.out).mono ?_); rintro e w56 ⟨rfl, hb⟩; refine ⟨_, rfl, ?_⟩; have n0_ := Aside0.mk (Kd.R_below (by (with_reducible repeat (first | apply Kd.R_alloc | apply Kd.R_drewN | apply Kd.R_drew)); exact HO_58.out) hb); have n1_ := Aside0.mk (below_step (by repeat (first | (with_reducible first | exact HB.out | apply below_alloc | apply pw_below_drewN | apply below_drew1) | exact HB.out)) hb); clear HO_58; clear HB; have HO_58 := n0_; have HB := n1_; clear n0_ n1_; (try clear hb); (try clear hb2); (try clear hk); (try clear hi)))
                            go_ret
                            exact ⟨by first | rfl | (simp [errW_none, errW_some] <;> rfl) | (simp [*, errW_none, errW_some] <;> rfl), by repeat (first | (with_reducible first | exact HB.out | apply below_alloc | apply pw_below_drewN | apply below_drew1) | exact HB.out)⟩
                        · rw [if_neg c53] at H
                          have c53b0 : (t200.toList == ([] : List UInt8)) = false := beq_eq_false_iff_ne.mpr c53
                          have c53b1 : (t200.toList != ([] : List UInt8)) = true := bne_iff_ne.mpr c53
                          obtain rfl := Option.some.inj H
                          have p199 : 0 ≤ (x60_3 : Int) := of_decide_eq_true (by first | (with_reducible assumption) | assumption)
                          have q199 : x60_3 < (y196.length : Int) := of_decide_eq_true (by first | (with_reducible assumption) | assumption)
                          obtain ⟨ad199, e199, hx199_0⟩ := Kd.at_string (Kd.R_reads' HO_58.out).2.2 x60_3 p199 q199
                          cases e199
                          replace p199 := eq_true p199
                          replace q199 := eq_true q199
                          go_wp2_with (first | ((with_reducible refine gate_callee (f := 11) rfl ?_); refine goesL_ (some 66) rfl rfl Try.func11 (by kernel_rfl) rfl #[.string (rdOf ByteArray.empty y196 x60_3)] rfl (by (try simp only [List.map_toArray, List.map_cons, List.map_nil]); first | done | rfl | (simp only [List.length_drop, List.length_take]; rfl)) ?_; (with_reducible refine (quote_Unquote.calls (rdOf ByteArray.empty y196 x60_3) t200 t201 _ A52.out).mono ?_); rintro e w57 ⟨rfl, hb⟩; refine ⟨_, rfl, ?_⟩; have n0_ := Aside0.mk (Kd.R_below (by (with_reducible repeat (first | apply Kd.R_alloc | apply Kd.R_drewN | apply Kd.R_drew)); exact HO_58.out) hb); have n1_ := Aside0.mk (below_step (by repeat (first | (with_reducible first | exact HB.out | apply below_alloc | apply pw_below_drewN | apply below_drew1) | exact HB.out)) hb); clear HO_58; clear HB; have HO_58 := n0_; have HB := n1_; clear n0_ n1_; (try clear hb); (try clear hb2); (try clear hk); (try clear hi)))
                          go_ret
                          exact ⟨by first | rfl | (simp [errW_none, errW_some] <;> rfl) | (simp [*, errW_none, errW_some] <;> rfl), by repeat (first | (with_reducible first | exact HB.out | apply below_alloc | apply pw_below_drewN | apply below_drew1) | exact HB.out)⟩
                      · rw [if_neg c51] at H
                        exact absurd H (by simp)
                    · rw [if_neg c50] at H
                      exact absurd H (by simp)
                  · rw [if_neg c49] at H
                    have c49b0 : decide (x60_3 < (y196.length : Int)) = false := decide_eq_false c49
                    clear c49
                    by_cases c58 : 4096 ≤ 281474976710656
                    · rw [if_pos c58] at H
                      have c58b0 := eq_true c58
                      have c58b1 : decide (4096 ≤ 281474976710656) = true := decide_eq_true c58
                      clear c58
                      obtain ⟨y202, hy202⟩ : ∃ y_ : List Int, y_ = (List.replicate 4096 0) := ⟨_, rfl⟩
                      replace H : (tallowlaw03_QuoteKnown.l2 k3 y202 0) = some r := by first | (rw [hy202]; with_reducible exact H) | (have H2_ := (Option.bind_some _ _).symm.trans H; rw [hy202]; with_reducible exact H2_) | (have H2_ := (Option.bind_some _ _).symm.trans H; with_reducible exact H2_) | with_reducible exact H | (rw [hy202]; exact H) | exact H
                      have Ny202 := Aside0.mk hy202
                      clear hy202
                      have H' := Aside0.mk H
                      clear H
                      go_wp2_with (first | ((with_reducible refine gate_dst (N := 76) rfl ?_); (try (refine gate_guard (by rfl) ?_; dsimp only)); refine Kd.R_make (Kd.int .u8) _ 5 rfl (N := 76) rfl 30 _ _ rfl 4096 rfl rfl Try.underlying30 (.int .u8 0) 1 info5 rfl (by decide) (by omega) 0 (ok := fun _ => True) (okp := fun _ => True) rfl (fun _ hk => hk) trivial (by omega) (by omega) (Below.refl _ _) (Nat.le_refl _) ?_; intro v203 w59 ho60 hb hg_ hnew_; clear hg_ hnew_; (first | rw [← Ny202.out] at ho60 | (simp only [Int.reduceToNat] at ho60; rw [← Ny202.out] at ho60)); have n0_ := Aside0.mk (Kd.R_below (by (with_reducible repeat (first | apply Kd.R_alloc | apply Kd.R_drewN | apply Kd.R_drew)); exact HO_58.out) hb); have n1_ := Aside0.mk (Kd.R_lower ho60 (below_size (by repeat (first | (with_reducible first | exact HB.out | apply below_alloc | apply pw_below_drewN | apply below_drew1) | exact HB.out)))); have n2_ := Aside0.mk (below_step (by repeat (first | (with_reducible first | exact HB.out | apply below_alloc | apply pw_below_drewN | apply below_drew1) | exact HB.out)) hb); clear HO_58; clear HB; have HO_58 := n0_; have HO204 := n1_; have HB := n2_; clear n0_ n1_ n2_; clear hb ho60))
                      go_loopg [10] k3 (fun kq v10 w' => ∃ (x9_4 : List Int) (x10_4 : Int), v10 = .int .i64 x10_4 ∧ Aside0 (tallowlaw03_QuoteKnown.l2 kq x9_4 x10_4 = some r) ∧ Aside0 (kq ≤ k3) ∧ Aside0 (Kd.R (Kd.int .u8) 5 w' w.heap.size (fun _ => True) v203 x9_4) ∧ Aside0 (Below w.heap.size w w'))
                      case atStart => exact ⟨(y202), (0), (by first | rfl | (simp; done) | (simp [*]; done)), H', ⟨Nat.le_refl _⟩, ⟨by (with_reducible repeat (first | apply Kd.R_alloc | apply Kd.R_drewN | apply Kd.R_drew)); exact HO204.out⟩, ⟨by repeat (first | (with_reducible first | exact HB.out | apply below_alloc | apply pw_below_drewN | apply below_drew1) | exact HB.out)⟩⟩
                      case round =>
                        clear H'
                        try clear c1
                        try clear p1
                        try clear q1
                        try clear hx1
                        try clear c2
                        try clear p2
                        try clear c3
                        try clear c3b0
                        try clear c3b1
                        try clear c4
                        try clear c5
                        try clear c5b0
                        try clear c5b1
                        try clear p6
                        try clear c7
                        try clear c7b0
                        try clear c7b1
                        try clear c8
                        try clear c9
                        try clear c9b0
                        try clear c9b1
                        try clear c11
                        try clear p18
                        try clear q18
                        try clear hx18
                        try clear p19
                        try clear q19
                        try clear hx19
                        try clear c26
                        try clear c30
                        try clear c30b0
                        try clear c31
                        try clear c31b0
                        try clear c32
                        try clear c32b0
                        try clear c34
                        try clear c34b0
                        try clear c34b1
                        try clear c35
                        try clear c35b0
                        try clear c36
                        try clear c36b0
                        try clear c36b1
                        try clear c49
                        try clear c49b0
                        try clear c50
                        try clear c50b0
                        try clear c51
                        try clear c51b0
                        try clear c53
                        try clear c53b0
                        try clear c53b1
                        try clear c54
                        try clear c54b0
                        try clear c54b1
                        try clear c58
                        try clear c58b0
                        try clear c58b1
                        try clear hx189_0
                        try clear hx195_0
                        try clear hx199_0
                        try clear p1
                        try clear p18
                        try clear p189
                        try clear p19
                        try clear p195
                        try clear p199
                        try clear p2
                        try clear p6
                        try clear q1
                        try clear q18
                        try clear q189
                        try clear q19
                        try clear q195
                        try clear q199
                        obtain ⟨x9_4, x10_4, rfl, HA, HK4, HO_9, HB⟩ := hrel
                        cases gk with
                        | zero => exact absurd HA.out (by simp [tallowlaw03_QuoteKnown.l2])
                        | succ k4 =>
                          have H := HA.out
                          clear HA
                          simp only [tallowlaw03_QuoteKnown.l2] at H
                          by_cases c61 : x10_4 < (x9_4.length : Int)
                          · rw [if_pos c61] at H
                            have c61b0 : decide (x10_4 < (x9_4.length : Int)) = true := decide_eq_true c61
                            clear c61
                            by_cases c62 : 0 ≤ x10_4
                            · rw [if_pos c62] at H
                              have c62b0 : decide (0 ≤ x10_4) = true := decide_eq_true c62
                              clear c62
                              obtain ⟨y205, hy205⟩ : ∃ y_ : List Int, y_ = (x9_4.set (x10_4 : Int).toNat 97) := ⟨_, rfl⟩
                              replace H : (tallowlaw03_QuoteKnown.l2 k4 y205 (wrap64 (x10_4 + 1))) = some r := by first | (rw [hy205]; with_reducible exact H) | (have H2_ := (Option.bind_some _ _).symm.trans H; rw [hy205]; with_reducible exact H2_) | (have H2_ := (Option.bind_some _ _).symm.trans H; with_reducible exact H2_) | with_reducible exact H | (rw [hy205]; exact H) | exact H
                              have Ny205 := Aside0.mk hy205
                              clear hy205
                              have H' := Aside0.mk H
                              clear H
                              obtain ⟨Ao64, co64, eo64⟩ := Kd.R_slice HO_9.out
                              subst eo64
                              have p63 : 0 ≤ (x10_4 : Int) := of_decide_eq_true (by first | (with_reducible assumption) | assumption)
                              have q63 : (x10_4 : Int) < ((x9_4.length : Int) : Int) := of_decide_eq_true (by first | (with_reducible assumption) | assumption)
                              obtain ⟨go63, co63, eo63, gb63, gl63, cl63, HG63⟩ := Kd.R_form HO_9.out (by omega)
                              (first | cases eo63 | (injection eo63 with ea_ en_ ec_; (first | subst ea_ | (injection ea_ with ea_; subst ea_)); subst ec_; clear en_))
                              have GB63 := Aside0.mk gb63
                              have GG63 := Aside0.mk HG63
                              clear gb63 gl63 HG63
                              obtain ⟨hx63_0, hf63_0⟩ := Kd.R_celln 0 HO_9.out (x10_4 : Int) p63 q63
                              replace p63 := eq_true p63
                              replace q63 := eq_true q63
                              have HP65 := Kd.R_putg HO_9.out (x10_4 : Int) 97
                              go_wp2_with (first | ((with_reducible refine gate_store (t := 5) (p := 85) rfl ?_); refine store_event (t := 5) (p := 85) (v := ?vo_w66) (w1 := (wr.setCell ⟨go63, (x10_4 : Int).toNat, none⟩ (.int .u8 97))) ?hg ?ho ?hn ?hr ?_; (case ho => rfl); (case hg => rfl); (case hn => rfl); (case hr => first | (go_simp; done) | (go_simp; rfl)); intro w66 hw; have hg : wr.grownBy w66 (some go63) := (by rw [hw]; exact HP65.2); have hp_ : Kd.R (Kd.int .u8) 5 w66 w.heap.size (fun _ => True) (.slice (some ⟨go63, 0, none⟩) x9_4.length co64) y205 := (by rw [hw, Ny205.out]; exact HP65.1); clear HP65; have n0_ := Aside0.mk (hp_); have n1_ := Aside0.mk ((by rw [hw]; exact below_set (HB.out) GB63.out : Below w.heap.size w w66)); clear HO_9; clear HB; have HO_9 := n0_; have HB := n1_; clear n0_ n1_; clear hg hw hp_))
                              go_roundg k4
                              case measure => have := HJ0.out; have := HK2.out; have := HK3.out; have := HK4.out; omega
                              case rel => exact ⟨(y205), (wrap64 (x10_4 + 1)), (by first | rfl | (simp; done) | (simp [*]; done)), H', ⟨by have := HJ0.out; have := HK2.out; have := HK3.out; have := HK4.out; omega⟩, ⟨by (with_reducible repeat (first | apply Kd.R_alloc | apply Kd.R_drewN | apply Kd.R_drew)); exact HO_9.out⟩, ⟨by repeat (first | (with_reducible first | exact HB.out | apply below_alloc | apply pw_below_drewN | apply below_drew1) | exact HB.out)⟩⟩
                            · rw [if_neg c62] at H
                              exact absurd H (by simp)
                          · rw [if_neg c61] at H
                            have c61b0 : decide (x10_4 < (x9_4.length : Int)) = false := decide_eq_false c61
                            clear c61
                            by_cases c67 : 1 + (strOfNums x9_4).size ≤ 9223372036854775807
                            · rw [if_pos c67] at H
                              have PLc67 : 1 + (strOfNums x9_4).size ≤ 9223372036854775807 := c67
                              have c67b0 := eq_true c67
                              have c67b1 : decide (1 + (strOfNums x9_4).size ≤ 9223372036854775807) = true := decide_eq_true c67
                              try have c67b2 : (9223372036854775807 < 1 + (strOfNums x9_4).size) = False := eq_false (Nat.not_lt.2 c67)
                              by_cases c68 : ((⟨#[34]⟩ : ByteArray) ++ (strOfNums x9_4)).size + 1 ≤ 9223372036854775807
                              · rw [if_pos c68] at H
                                have PLc68 : 1 + (strOfNums x9_4).size + 1 ≤ 9223372036854775807 := by have h_ := c68; rw [ByteArray.size_append] at h_; have e_ : (⟨#[34]⟩ : ByteArray).size = 1 := rfl; omega
                                have c68b0 := eq_true c68
                                have c68b1 : decide (((⟨#[34]⟩ : ByteArray) ++ (strOfNums x9_4)).size + 1 ≤ 9223372036854775807) = true := decide_eq_true c68
                                try have c68b2 : (9223372036854775807 < ((⟨#[34]⟩ : ByteArray) ++ (strOfNums x9_4)).size + 1) = False := eq_false (Nat.not_lt.2 c68)
                                replace H := Option.bind_eq_some_iff.mp H
                                obtain ⟨⟨t206, t207⟩, A690, H⟩ := H
                                replace H : (if ((⟨#[34]⟩ : ByteArray) ++ (strOfNums x9_4)).size + 3 ≤ 9223372036854775807 then ((quote_Unquote.f (((⟨#[34]⟩ : ByteArray) ++ (strOfNums x9_4)) ++ (⟨#[92, 110, 34]⟩ : ByteArray))).bind fun bt208 => (if ((⟨#[34]⟩ : ByteArray) ++ (strOfNums x9_4)).size + 2 ≤ 9223372036854775807 then ((quote_Unquote.f (((⟨#[34]⟩ : ByteArray) ++ (strOfNums x9_4)) ++ (⟨#[92, 110]⟩ : ByteArray))).bind fun bt210 => (if t207 = 0 then (if t206.toList = (strOfNums x9_4).toList then (if bt208.2 = 3 then (if bt210.2 = 4 then ((tallowlaw03_works.f).bind fun t212 => (some t212)) else (some false)) else (some false)) else (some false)) else (some false))) else (none))) else (none)) = some r := H
                                have A69 := Aside0.mk A690
                                clear A690
                                by_cases c70 : ((⟨#[34]⟩ : ByteArray) ++ (strOfNums x9_4)).size + 3 ≤ 9223372036854775807
                                · rw [if_pos c70] at H
                                  have PLc70 : 1 + (strOfNums x9_4).size + 3 ≤ 9223372036854775807 := by have h_ := c70; rw [ByteArray.size_append] at h_; have e_ : (⟨#[34]⟩ : ByteArray).size = 1 := rfl; omega
                                  have c70b0 := eq_true c70
                                  have c70b1 : decide (((⟨#[34]⟩ : ByteArray) ++ (strOfNums x9_4)).size + 3 ≤ 9223372036854775807) = true := decide_eq_true c70
                                  try have c70b2 : (9223372036854775807 < ((⟨#[34]⟩ : ByteArray) ++ (strOfNums x9_4)).size + 3) = False := eq_false (Nat.not_lt.2 c70)
                                  replace H := Option.bind_eq_some_iff.mp H
                                  obtain ⟨⟨t208, t209⟩, A710, H⟩ := H
                                  replace H : (if ((⟨#[34]⟩ : ByteArray) ++ (strOfNums x9_4)).size + 2 ≤ 9223372036854775807 then ((quote_Unquote.f (((⟨#[34]⟩ : ByteArray) ++ (strOfNums x9_4)) ++ (⟨#[92, 110]⟩ : ByteArray))).bind fun bt210 => (if t207 = 0 then (if t206.toList = (strOfNums x9_4).toList then (if t209 = 3 then (if bt210.2 = 4 then ((tallowlaw03_works.f).bind fun t212 => (some t212)) else (some false)) else (some false)) else (some false)) else (some false))) else (none)) = some r := H
                                  have A71 := Aside0.mk A710
                                  clear A710
                                  by_cases c72 : ((⟨#[34]⟩ : ByteArray) ++ (strOfNums x9_4)).size + 2 ≤ 9223372036854775807
                                  · rw [if_pos c72] at H
                                    have PLc72 : 1 + (strOfNums x9_4).size + 2 ≤ 9223372036854775807 := by have h_ := c72; rw [ByteArray.size_append] at h_; have e_ : (⟨#[34]⟩ : ByteArray).size = 1 := rfl; omega
                                    have c72b0 := eq_true c72
                                    have c72b1 : decide (((⟨#[34]⟩ : ByteArray) ++ (strOfNums x9_4)).size + 2 ≤ 9223372036854775807) = true := decide_eq_true c72
                                    try have c72b2 : (9223372036854775807 < ((⟨#[34]⟩ : ByteArray) ++ (strOfNums x9_4)).size + 2) = False := eq_false (Nat.not_lt.2 c72)
                                    replace H := Option.bind_eq_some_iff.mp H
                                    obtain ⟨⟨t210, t211⟩, A730, H⟩ := H
                                    replace H : (if t207 = 0 then (if t206.toList = (strOfNums x9_4).toList then (if t209 = 3 then (if t211 = 4 then ((tallowlaw03_works.f).bind fun t212 => (some t212)) else (some false)) else (some false)) else (some false)) else (some false)) = some r := H
                                    have A73 := Aside0.mk A730
                                    clear A730
                                    by_cases c74 : t207 = 0
                                    · rw [if_pos c74] at H
                                      have c74b0 : (t207 == 0) = true := beq_iff_eq.mpr c74
                                      have c74b1 : (t207 != 0) = false := bne_eq_false_iff_eq.mpr c74
                                      clear c74
                                      by_cases c75 : t206.toList = (strOfNums x9_4).toList
                                      · rw [if_pos c75] at H
                                        have c75b0 : (t206.toList == (strOfNums x9_4).toList) = true := beq_iff_eq.mpr c75
                                        have c75b1 : (t206.toList != (strOfNums x9_4).toList) = false := bne_eq_false_iff_eq.mpr c75
                                        clear c75
                                        by_cases c76 : t209 = 3
                                        · rw [if_pos c76] at H
                                          have c76b0 : (t209 == 3) = true := beq_iff_eq.mpr c76
                                          have c76b1 : (t209 != 3) = false := bne_eq_false_iff_eq.mpr c76
                                          clear c76
                                          by_cases c77 : t211 = 4
                                          · rw [if_pos c77] at H
                                            have c77b0 : (t211 == 4) = true := beq_iff_eq.mpr c77
                                            have c77b1 : (t211 != 4) = false := bne_eq_false_iff_eq.mpr c77
                                            clear c77
                                            replace H := Option.bind_eq_some_iff.mp H
                                            obtain ⟨t212, A780, H⟩ := H
                                            replace H : (some t212) = some r := H
                                            have A78 := Aside0.mk A780
                                            clear A780
                                            obtain rfl := Option.some.inj H
                                            obtain ⟨Ao79, co79, eo79⟩ := Kd.R_slice HO_9.out
                                            subst eo79
                                            have hcv80 := own_string (P := Try.prog) Try.underlying30 Try.underlying5 Try.underlying9 (Kd.own_of_R HO_9.out)
                                            go_wp2_with (first | ((with_reducible refine gate_callee (f := 11) rfl ?_); refine goesL_ (some 91) rfl rfl Try.func11 (by kernel_rfl) rfl #[.string (((⟨#[34]⟩ : ByteArray) ++ (strOfNums x9_4)) ++ (⟨#[34]⟩ : ByteArray))] rfl (by (try simp only [List.map_toArray, List.map_cons, List.map_nil]); first | done | rfl | (simp only [List.length_drop, List.length_take]; rfl)) ?_; (with_reducible refine (quote_Unquote.calls (((⟨#[34]⟩ : ByteArray) ++ (strOfNums x9_4)) ++ (⟨#[34]⟩ : ByteArray)) t206 t207 _ A69.out).mono ?_); rintro e w81 ⟨rfl, hb⟩; refine ⟨_, rfl, ?_⟩; have n0_ := Aside0.mk (Kd.R_below (by (with_reducible repeat (first | apply Kd.R_alloc | apply Kd.R_drewN | apply Kd.R_drew)); exact HO_9.out) hb); have n1_ := Aside0.mk (below_step (by repeat (first | (with_reducible first | exact HB.out | apply below_alloc | apply pw_below_drewN | apply below_drew1) | exact HB.out)) hb); clear HO_9; clear HB; have HO_9 := n0_; have HB := n1_; clear n0_ n1_; (try clear hb); (try clear hb2); (try clear hk); (try clear hi); have hcv82 := own_string (P := Try.prog) Try.underlying30 Try.underlying5 Try.underlying9 (Kd.own_of_R HO_9.out)) | ((with_reducible refine gate_callee (f := 11) rfl ?_); refine goesL_ (some 99) rfl rfl Try.func11 (by kernel_rfl) rfl #[.string (((⟨#[34]⟩ : ByteArray) ++ (strOfNums x9_4)) ++ (⟨#[92, 110, 34]⟩ : ByteArray))] rfl (by (try simp only [List.map_toArray, List.map_cons, List.map_nil]); first | done | rfl | (simp only [List.length_drop, List.length_take]; rfl)) ?_; (with_reducible refine (quote_Unquote.calls (((⟨#[34]⟩ : ByteArray) ++ (strOfNums x9_4)) ++ (⟨#[92, 110, 34]⟩ : ByteArray)) t208 t209 _ A71.out).mono ?_); rintro e w83 ⟨rfl, hb⟩; refine ⟨_, rfl, ?_⟩; have n0_ := Aside0.mk (Kd.R_below (by (with_reducible repeat (first | apply Kd.R_alloc | apply Kd.R_drewN | apply Kd.R_drew)); exact HO_9.out) hb); have n1_ := Aside0.mk (below_step (by repeat (first | (with_reducible first | exact HB.out | apply below_alloc | apply pw_below_drewN | apply below_drew1) | exact HB.out)) hb); clear HO_9; clear HB; have HO_9 := n0_; have HB := n1_; clear n0_ n1_; (try clear hb); (try clear hb2); (try clear hk); (try clear hi); have hcv84 := own_string (P := Try.prog) Try.underlying30 Try.underlying5 Try.underlying9 (Kd.own_of_R HO_9.out)) | ((with_reducible refine gate_callee (f := 11) rfl ?_); refine goesL_ (some 107) rfl rfl Try.func11 (by kernel_rfl) rfl #[.string (((⟨#[34]⟩ : ByteArray) ++ (strOfNums x9_4)) ++ (⟨#[92, 110]⟩ : ByteArray))] rfl (by (try simp only [List.map_toArray, List.map_cons, List.map_nil]); first | done | rfl | (simp only [List.length_drop, List.length_take]; rfl)) ?_; (with_reducible refine (quote_Unquote.calls (((⟨#[34]⟩ : ByteArray) ++ (strOfNums x9_4)) ++ (⟨#[92, 110]⟩ : ByteArray)) t210 t211 _ A73.out).mono ?_); rintro e w85 ⟨rfl, hb⟩; refine ⟨_, rfl, ?_⟩; have n0_ := Aside0.mk (Kd.R_below (by (with_reducible repeat (first | apply Kd.R_alloc | apply Kd.R_drewN | apply Kd.R_drew)); exact HO_9.out) hb); have n1_ := Aside0.mk (below_step (by repeat (first | (with_reducible first | exact HB.out | apply below_alloc | apply pw_below_drewN | apply below_drew1) | exact HB.out)) hb); clear HO_9; clear HB; have HO_9 := n0_; have HB := n1_; clear n0_ n1_; (try clear hb); (try clear hb2); (try clear hk); (try clear hi); have hcv86 := own_string (P := Try.prog) Try.underlying30 Try.underlying5 Try.underlying9 (Kd.own_of_R HO_9.out)) | (go_at_call 10; (with_reducible refine (tallowlaw03_works.calls  t212 _ A78.out).mono ?_); rintro e w87 ⟨rfl, hb⟩; have n0_ := Aside0.mk (Kd.R_below (by (with_reducible repeat (first | apply Kd.R_alloc | apply Kd.R_drewN | apply Kd.R_drew)); exact HO_9.out) hb); have n1_ := Aside0.mk (below_step (by repeat (first | (with_reducible first | exact HB.out | apply below_alloc | apply pw_below_drewN | apply below_drew1) | exact HB.out)) hb); clear HO_9; clear HB; have HO_9 := n0_; have HB := n1_; clear n0_ n1_; (try clear hb); (try clear hb2); (try clear hk); (try clear hi)))
                                            go_ret
                                            exact ⟨by first | rfl | (simp [errW_none, errW_some] <;> rfl) | (simp [*, errW_none, errW_some] <;> rfl), by repeat (first | (with_reducible first | exact HB.out | apply below_alloc | apply pw_below_drewN | apply below_drew1) | exact HB.out)⟩
                                          · rw [if_neg c77] at H
                                            have c77b0 : (t211 == 4) = false := beq_eq_false_iff_ne.mpr c77
                                            have c77b1 : (t211 != 4) = true := bne_iff_ne.mpr c77
                                            obtain rfl := Option.some.inj H
                                            obtain ⟨Ao88, co88, eo88⟩ := Kd.R_slice HO_9.out
                                            subst eo88
                                            have hcv89 := own_string (P := Try.prog) Try.underlying30 Try.underlying5 Try.underlying9 (Kd.own_of_R HO_9.out)
                                            go_wp2_with (first | ((with_reducible refine gate_callee (f := 11) rfl ?_); refine goesL_ (some 91) rfl rfl Try.func11 (by kernel_rfl) rfl #[.string (((⟨#[34]⟩ : ByteArray) ++ (strOfNums x9_4)) ++ (⟨#[34]⟩ : ByteArray))] rfl (by (try simp only [List.map_toArray, List.map_cons, List.map_nil]); first | done | rfl | (simp only [List.length_drop, List.length_take]; rfl)) ?_; (with_reducible refine (quote_Unquote.calls (((⟨#[34]⟩ : ByteArray) ++ (strOfNums x9_4)) ++ (⟨#[34]⟩ : ByteArray)) t206 t207 _ A69.out).mono ?_); rintro e w90 ⟨rfl, hb⟩; refine ⟨_, rfl, ?_⟩; have n0_ := Aside0.mk (Kd.R_below (by (with_reducible repeat (first | apply Kd.R_alloc | apply Kd.R_drewN | apply Kd.R_drew)); exact HO_9.out) hb); have n1_ := Aside0.mk (below_step (by repeat (first | (with_reducible first | exact HB.out | apply below_alloc | apply pw_below_drewN | apply below_drew1) | exact HB.out)) hb); clear HO_9; clear HB; have HO_9 := n0_; have HB := n1_; clear n0_ n1_; (try clear hb); (try clear hb2); (try clear hk); (try clear hi); have hcv91 := own_string (P := Try.prog) Try.underlying30 Try.underlying5 Try.underlying9 (Kd.own_of_R HO_9.out)) | ((with_reducible refine gate_callee (f := 11) rfl ?_); refine goesL_ (some 99) rfl rfl Try.func11 (by kernel_rfl) rfl #[.string (((⟨#[34]⟩ : ByteArray) ++ (strOfNums x9_4)) ++ (⟨#[92, 110, 34]⟩ : ByteArray))] rfl (by (try simp only [List.map_toArray, List.map_cons, List.map_nil]); first | done | rfl | (simp only [List.length_drop, List.length_take]; rfl)) ?_; (with_reducible refine (quote_Unquote.calls (((⟨#[34]⟩ : ByteArray) ++ (strOfNums x9_4)) ++ (⟨#[92, 110, 34]⟩ : ByteArray)) t208 t209 _ A71.out).mono ?_); rintro e w92 ⟨rfl, hb⟩; refine ⟨_, rfl, ?_⟩; have n0_ := Aside0.mk (Kd.R_below (by (with_reducible repeat (first | apply Kd.R_alloc | apply Kd.R_drewN | apply Kd.R_drew)); exact HO_9.out) hb); have n1_ := Aside0.mk (below_step (by repeat (first | (with_reducible first | exact HB.out | apply below_alloc | apply pw_below_drewN | apply below_drew1) | exact HB.out)) hb); clear HO_9; clear HB; have HO_9 := n0_; have HB := n1_; clear n0_ n1_; (try clear hb); (try clear hb2); (try clear hk); (try clear hi); have hcv93 := own_string (P := Try.prog) Try.underlying30 Try.underlying5 Try.underlying9 (Kd.own_of_R HO_9.out)) | ((with_reducible refine gate_callee (f := 11) rfl ?_); refine goesL_ (some 107) rfl rfl Try.func11 (by kernel_rfl) rfl #[.string (((⟨#[34]⟩ : ByteArray) ++ (strOfNums x9_4)) ++ (⟨#[92, 110]⟩ : ByteArray))] rfl (by (try simp only [List.map_toArray, List.map_cons, List.map_nil]); first | done | rfl | (simp only [List.length_drop, List.length_take]; rfl)) ?_; (with_reducible refine (quote_Unquote.calls (((⟨#[34]⟩ : ByteArray) ++ (strOfNums x9_4)) ++ (⟨#[92, 110]⟩ : ByteArray)) t210 t211 _ A73.out).mono ?_); rintro e w94 ⟨rfl, hb⟩; refine ⟨_, rfl, ?_⟩; have n0_ := Aside0.mk (Kd.R_below (by (with_reducible repeat (first | apply Kd.R_alloc | apply Kd.R_drewN | apply Kd.R_drew)); exact HO_9.out) hb); have n1_ := Aside0.mk (below_step (by repeat (first | (with_reducible first | exact HB.out | apply below_alloc | apply pw_below_drewN | apply below_drew1) | exact HB.out)) hb); clear HO_9; clear HB; have HO_9 := n0_; have HB := n1_; clear n0_ n1_; (try clear hb); (try clear hb2); (try clear hk); (try clear hi); have hcv95 := own_string (P := Try.prog) Try.underlying30 Try.underlying5 Try.underlying9 (Kd.own_of_R HO_9.out)))
                                            go_ret
                                            exact ⟨by first | rfl | (simp [errW_none, errW_some] <;> rfl) | (simp [*, errW_none, errW_some] <;> rfl), by repeat (first | (with_reducible first | exact HB.out | apply below_alloc | apply pw_below_drewN | apply below_drew1) | exact HB.out)⟩
                                        · rw [if_neg c76] at H
                                          have c76b0 : (t209 == 3) = false := beq_eq_false_iff_ne.mpr c76
                                          have c76b1 : (t209 != 3) = true := bne_iff_ne.mpr c76
                                          obtain rfl := Option.some.inj H
                                          obtain ⟨Ao96, co96, eo96⟩ := Kd.R_slice HO_9.out
                                          subst eo96
                                          have hcv97 := own_string (P := Try.prog) Try.underlying30 Try.underlying5 Try.underlying9 (Kd.own_of_R HO_9.out)
                                          go_wp2_with (first | ((with_reducible refine gate_callee (f := 11) rfl ?_); refine goesL_ (some 91) rfl rfl Try.func11 (by kernel_rfl) rfl #[.string (((⟨#[34]⟩ : ByteArray) ++ (strOfNums x9_4)) ++ (⟨#[34]⟩ : ByteArray))] rfl (by (try simp only [List.map_toArray, List.map_cons, List.map_nil]); first | done | rfl | (simp only [List.length_drop, List.length_take]; rfl)) ?_; (with_reducible refine (quote_Unquote.calls (((⟨#[34]⟩ : ByteArray) ++ (strOfNums x9_4)) ++ (⟨#[34]⟩ : ByteArray)) t206 t207 _ A69.out).mono ?_); rintro e w98 ⟨rfl, hb⟩; refine ⟨_, rfl, ?_⟩; have n0_ := Aside0.mk (Kd.R_below (by (with_reducible repeat (first | apply Kd.R_alloc | apply Kd.R_drewN | apply Kd.R_drew)); exact HO_9.out) hb); have n1_ := Aside0.mk (below_step (by repeat (first | (with_reducible first | exact HB.out | apply below_alloc | apply pw_below_drewN | apply below_drew1) | exact HB.out)) hb); clear HO_9; clear HB; have HO_9 := n0_; have HB := n1_; clear n0_ n1_; (try clear hb); (try clear hb2); (try clear hk); (try clear hi); have hcv99 := own_string (P := Try.prog) Try.underlying30 Try.underlying5 Try.underlying9 (Kd.own_of_R HO_9.out)) | ((with_reducible refine gate_callee (f := 11) rfl ?_); refine goesL_ (some 99) rfl rfl Try.func11 (by kernel_rfl) rfl #[.string (((⟨#[34]⟩ : ByteArray) ++ (strOfNums x9_4)) ++ (⟨#[92, 110, 34]⟩ : ByteArray))] rfl (by (try simp only [List.map_toArray, List.map_cons, List.map_nil]); first | done | rfl | (simp only [List.length_drop, List.length_take]; rfl)) ?_; (with_reducible refine (quote_Unquote.calls (((⟨#[34]⟩ : ByteArray) ++ (strOfNums x9_4)) ++ (⟨#[92, 110, 34]⟩ : ByteArray)) t208 t209 _ A71.out).mono ?_); rintro e w100 ⟨rfl, hb⟩; refine ⟨_, rfl, ?_⟩; have n0_ := Aside0.mk (Kd.R_below (by (with_reducible repeat (first | apply Kd.R_alloc | apply Kd.R_drewN | apply Kd.R_drew)); exact HO_9.out) hb); have n1_ := Aside0.mk (below_step (by repeat (first | (with_reducible first | exact HB.out | apply below_alloc | apply pw_below_drewN | apply below_drew1) | exact HB.out)) hb); clear HO_9; clear HB; have HO_9 := n0_; have HB := n1_; clear n0_ n1_; (try clear hb); (try clear hb2); (try clear hk); (try clear hi); have hcv101 := own_string (P := Try.prog) Try.underlying30 Try.underlying5 Try.underlying9 (Kd.own_of_R HO_9.out)) | ((with_reducible refine gate_callee (f := 11) rfl ?_); refine goesL_ (some 107) rfl rfl Try.func11 (by kernel_rfl) rfl #[.string (((⟨#[34]⟩ : ByteArray) ++ (strOfNums x9_4)) ++ (⟨#[92, 110]⟩ : ByteArray))] rfl (by (try simp only [List.map_toArray, List.map_cons, List.map_nil]); first | done | rfl | (simp only [List.length_drop, List.length_take]; rfl)) ?_; (with_reducible refine (quote_Unquote.calls (((⟨#[34]⟩ : ByteArray) ++ (strOfNums x9_4)) ++ (⟨#[92, 110]⟩ : ByteArray)) t210 t211 _ A73.out).mono ?_); rintro e w102 ⟨rfl, hb⟩; refine ⟨_, rfl, ?_⟩; have n0_ := Aside0.mk (Kd.R_below (by (with_reducible repeat (first | apply Kd.R_alloc | apply Kd.R_drewN | apply Kd.R_drew)); exact HO_9.out) hb); have n1_ := Aside0.mk (below_step (by repeat (first | (with_reducible first | exact HB.out | apply below_alloc | apply pw_below_drewN | apply below_drew1) | exact HB.out)) hb); clear HO_9; clear HB; have HO_9 := n0_; have HB := n1_; clear n0_ n1_; (try clear hb); (try clear hb2); (try clear hk); (try clear hi); have hcv103 := own_string (P := Try.prog) Try.underlying30 Try.underlying5 Try.underlying9 (Kd.own_of_R HO_9.out)))
                                          go_ret
                                          exact ⟨by first | rfl | (simp [errW_none, errW_some] <;> rfl) | (simp [*, errW_none, errW_some] <;> rfl), by repeat (first | (with_reducible first | exact HB.out | apply below_alloc | apply pw_below_drewN | apply below_drew1) | exact HB.out)⟩
                                      · rw [if_neg c75] at H
                                        have c75b0 : (t206.toList == (strOfNums x9_4).toList) = false := beq_eq_false_iff_ne.mpr c75
                                        have c75b1 : (t206.toList != (strOfNums x9_4).toList) = true := bne_iff_ne.mpr c75
                                        obtain rfl := Option.some.inj H
                                        obtain ⟨Ao104, co104, eo104⟩ := Kd.R_slice HO_9.out
                                        subst eo104
                                        have hcv105 := own_string (P := Try.prog) Try.underlying30 Try.underlying5 Try.underlying9 (Kd.own_of_R HO_9.out)
                                        go_wp2_with (first | ((with_reducible refine gate_callee (f := 11) rfl ?_); refine goesL_ (some 91) rfl rfl Try.func11 (by kernel_rfl) rfl #[.string (((⟨#[34]⟩ : ByteArray) ++ (strOfNums x9_4)) ++ (⟨#[34]⟩ : ByteArray))] rfl (by (try simp only [List.map_toArray, List.map_cons, List.map_nil]); first | done | rfl | (simp only [List.length_drop, List.length_take]; rfl)) ?_; (with_reducible refine (quote_Unquote.calls (((⟨#[34]⟩ : ByteArray) ++ (strOfNums x9_4)) ++ (⟨#[34]⟩ : ByteArray)) t206 t207 _ A69.out).mono ?_); rintro e w106 ⟨rfl, hb⟩; refine ⟨_, rfl, ?_⟩; have n0_ := Aside0.mk (Kd.R_below (by (with_reducible repeat (first | apply Kd.R_alloc | apply Kd.R_drewN | apply Kd.R_drew)); exact HO_9.out) hb); have n1_ := Aside0.mk (below_step (by repeat (first | (with_reducible first | exact HB.out | apply below_alloc | apply pw_below_drewN | apply below_drew1) | exact HB.out)) hb); clear HO_9; clear HB; have HO_9 := n0_; have HB := n1_; clear n0_ n1_; (try clear hb); (try clear hb2); (try clear hk); (try clear hi); have hcv107 := own_string (P := Try.prog) Try.underlying30 Try.underlying5 Try.underlying9 (Kd.own_of_R HO_9.out)) | ((with_reducible refine gate_callee (f := 11) rfl ?_); refine goesL_ (some 99) rfl rfl Try.func11 (by kernel_rfl) rfl #[.string (((⟨#[34]⟩ : ByteArray) ++ (strOfNums x9_4)) ++ (⟨#[92, 110, 34]⟩ : ByteArray))] rfl (by (try simp only [List.map_toArray, List.map_cons, List.map_nil]); first | done | rfl | (simp only [List.length_drop, List.length_take]; rfl)) ?_; (with_reducible refine (quote_Unquote.calls (((⟨#[34]⟩ : ByteArray) ++ (strOfNums x9_4)) ++ (⟨#[92, 110, 34]⟩ : ByteArray)) t208 t209 _ A71.out).mono ?_); rintro e w108 ⟨rfl, hb⟩; refine ⟨_, rfl, ?_⟩; have n0_ := Aside0.mk (Kd.R_below (by (with_reducible repeat (first | apply Kd.R_alloc | apply Kd.R_drewN | apply Kd.R_drew)); exact HO_9.out) hb); have n1_ := Aside0.mk (below_step (by repeat (first | (with_reducible first | exact HB.out | apply below_alloc | apply pw_below_drewN | apply below_drew1) | exact HB.out)) hb); clear HO_9; clear HB; have HO_9 := n0_; have HB := n1_; clear n0_ n1_; (try clear hb); (try clear hb2); (try clear hk); (try clear hi); have hcv109 := own_string (P := Try.prog) Try.underlying30 Try.underlying5 Try.underlying9 (Kd.own_of_R HO_9.out)) | ((with_reducible refine gate_callee (f := 11) rfl ?_); refine goesL_ (some 107) rfl rfl Try.func11 (by kernel_rfl) rfl #[.string (((⟨#[34]⟩ : ByteArray) ++ (strOfNums x9_4)) ++ (⟨#[92, 110]⟩ : ByteArray))] rfl (by (try simp only [List.map_toArray, List.map_cons, List.map_nil]); first | done | rfl | (simp only [List.length_drop, List.length_take]; rfl)) ?_; (with_reducible refine (quote_Unquote.calls (((⟨#[34]⟩ : ByteArray) ++ (strOfNums x9_4)) ++ (⟨#[92, 110]⟩ : ByteArray)) t210 t211 _ A73.out).mono ?_); rintro e w110 ⟨rfl, hb⟩; refine ⟨_, rfl, ?_⟩; have n0_ := Aside0.mk (Kd.R_below (by (with_reducible repeat (first | apply Kd.R_alloc | apply Kd.R_drewN | apply Kd.R_drew)); exact HO_9.out) hb); have n1_ := Aside0.mk (below_step (by repeat (first | (with_reducible first | exact HB.out | apply below_alloc | apply pw_below_drewN | apply below_drew1) | exact HB.out)) hb); clear HO_9; clear HB; have HO_9 := n0_; have HB := n1_; clear n0_ n1_; (try clear hb); (try clear hb2); (try clear hk); (try clear hi); have hcv111 := own_string (P := Try.prog) Try.underlying30 Try.underlying5 Try.underlying9 (Kd.own_of_R HO_9.out)))
                                        go_ret
                                        exact ⟨by first | rfl | (simp [errW_none, errW_some] <;> rfl) | (simp [*, errW_none, errW_some] <;> rfl), by repeat (first | (with_reducible first | exact HB.out | apply below_alloc | apply pw_below_drewN | apply below_drew1) | exact HB.out)⟩
                                    · rw [if_neg c74] at H
                                      have c74b0 : (t207 == 0) = false := beq_eq_false_iff_ne.mpr c74
                                      have c74b1 : (t207 != 0) = true := bne_iff_ne.mpr c74
                                      obtain rfl := Option.some.inj H
                                      obtain ⟨Ao112, co112, eo112⟩ := Kd.R_slice HO_9.out
                                      subst eo112
                                      have hcv113 := own_string (P := Try.prog) Try.underlying30 Try.underlying5 Try.underlying9 (Kd.own_of_R HO_9.out)
                                      go_wp2_with (first | ((with_reducible refine gate_callee (f := 11) rfl ?_); refine goesL_ (some 91) rfl rfl Try.func11 (by kernel_rfl) rfl #[.string (((⟨#[34]⟩ : ByteArray) ++ (strOfNums x9_4)) ++ (⟨#[34]⟩ : ByteArray))] rfl (by (try simp only [List.map_toArray, List.map_cons, List.map_nil]); first | done | rfl | (simp only [List.length_drop, List.length_take]; rfl)) ?_; (with_reducible refine (quote_Unquote.calls (((⟨#[34]⟩ : ByteArray) ++ (strOfNums x9_4)) ++ (⟨#[34]⟩ : ByteArray)) t206 t207 _ A69.out).mono ?_); rintro e w114 ⟨rfl, hb⟩; refine ⟨_, rfl, ?_⟩; have n0_ := Aside0.mk (Kd.R_below (by (with_reducible repeat (first | apply Kd.R_alloc | apply Kd.R_drewN | apply Kd.R_drew)); exact HO_9.out) hb); have n1_ := Aside0.mk (below_step (by repeat (first | (with_reducible first | exact HB.out | apply below_alloc | apply pw_below_drewN | apply below_drew1) | exact HB.out)) hb); clear HO_9; clear HB; have HO_9 := n0_; have HB := n1_; clear n0_ n1_; (try clear hb); (try clear hb2); (try clear hk); (try clear hi); have hcv115 := own_string (P := Try.prog) Try.underlying30 Try.underlying5 Try.underlying9 (Kd.own_of_R HO_9.out)) | ((with_reducible refine gate_callee (f := 11) rfl ?_); refine goesL_ (some 99) rfl rfl Try.func11 (by kernel_rfl) rfl #[.string (((⟨#[34]⟩ : ByteArray) ++ (strOfNums x9_4)) ++ (⟨#[92, 110, 34]⟩ : ByteArray))] rfl (by (try simp only [List.map_toArray, List.map_cons, List.map_nil]); first | done | rfl | (simp only [List.length_drop, List.length_take]; rfl)) ?_; (with_reducible refine (quote_Unquote.calls (((⟨#[34]⟩ : ByteArray) ++ (strOfNums x9_4)) ++ (⟨#[92, 110, 34]⟩ : ByteArray)) t208 t209 _ A71.out).mono ?_); rintro e w116 ⟨rfl, hb⟩; refine ⟨_, rfl, ?_⟩; have n0_ := Aside0.mk (Kd.R_below (by (with_reducible repeat (first | apply Kd.R_alloc | apply Kd.R_drewN | apply Kd.R_drew)); exact HO_9.out) hb); have n1_ := Aside0.mk (below_step (by repeat (first | (with_reducible first | exact HB.out | apply below_alloc | apply pw_below_drewN | apply below_drew1) | exact HB.out)) hb); clear HO_9; clear HB; have HO_9 := n0_; have HB := n1_; clear n0_ n1_; (try clear hb); (try clear hb2); (try clear hk); (try clear hi); have hcv117 := own_string (P := Try.prog) Try.underlying30 Try.underlying5 Try.underlying9 (Kd.own_of_R HO_9.out)) | ((with_reducible refine gate_callee (f := 11) rfl ?_); refine goesL_ (some 107) rfl rfl Try.func11 (by kernel_rfl) rfl #[.string (((⟨#[34]⟩ : ByteArray) ++ (strOfNums x9_4)) ++ (⟨#[92, 110]⟩ : ByteArray))] rfl (by (try simp only [List.map_toArray, List.map_cons, List.map_nil]); first | done | rfl | (simp only [List.length_drop, List.length_take]; rfl)) ?_; (with_reducible refine (quote_Unquote.calls (((⟨#[34]⟩ : ByteArray) ++ (strOfNums x9_4)) ++ (⟨#[92, 110]⟩ : ByteArray)) t210 t211 _ A73.out).mono ?_); rintro e w118 ⟨rfl, hb⟩; refine ⟨_, rfl, ?_⟩; have n0_ := Aside0.mk (Kd.R_below (by (with_reducible repeat (first | apply Kd.R_alloc | apply Kd.R_drewN | apply Kd.R_drew)); exact HO_9.out) hb); have n1_ := Aside0.mk (below_step (by repeat (first | (with_reducible first | exact HB.out | apply below_alloc | apply pw_below_drewN | apply below_drew1) | exact HB.out)) hb); clear HO_9; clear HB; have HO_9 := n0_; have HB := n1_; clear n0_ n1_; (try clear hb); (try clear hb2); (try clear hk); (try clear hi)))
                                      go_ret
                                      exact ⟨by first | rfl | (simp [errW_none, errW_some] <;> rfl) | (simp [*, errW_none, errW_some] <;> rfl), by repeat (first | (with_reducible first | exact HB.out | apply below_alloc | apply pw_below_drewN | apply below_drew1) | exact HB.out)⟩
                                  · rw [if_neg c72] at H
                                    exact absurd H (by simp)
                                · rw [if_neg c70] at H
                                  exact absurd H (by simp)
                              · rw [if_neg c68] at H
                                exact absurd H (by simp)
                            · rw [if_neg c67] at H
                              exact absurd H (by simp)
                    · rw [if_neg c58] at H
                      exact absurd H (by simp)

/-- THE ONE PURE STATEMENT of tallowlaw03_QuoteKnown: yours. -/
def tallowlaw03_QuoteKnown.Pure : Prop := ∃ k, tallowlaw03_QuoteKnown.f k  = some true
theorem tallowlaw03_QuoteKnown.walk (P : tallowlaw03_QuoteKnown.Pure)  (w : World)  :
    Calls Try.prog 7 #[] w fun e w' => e = .returned (.bool true) ∧ Below w.heap.size w w' := by
  obtain ⟨k, h⟩ := P  
  refine (tallowlaw03_QuoteKnown.calls k  true w h).mono ?_
  rintro e w' ⟨rfl, hd⟩
  exact ⟨rfl, hd⟩

end Go.Proofs.Ytnklefbojabblaa.G
