import Derived.Test.YtadhkfklkbdabaaRPPuGx0
import Derived.Test.YtadhkfklkbdabaaRPPuGxF45
set_option linter.unusedVariables false
set_option linter.unusedSimpArgs false
section
namespace Go.Proofs.YtadhkfklkbdabaaR.G
open Go.RowKit Go.Proofs.YtadhkfklkbdabaaRW.PrintWords Go.Proofs.YtadhkfklkbdabaaRW.PrintLast Go.Proofs.YtadhkfklkbdabaaRW.PrintMore
attribute [local go_sem] max2_int min2_int max_two min_two max_three min_three max_four min_four
set_option linter.unusedVariables false
set_option linter.unusedSimpArgs false
def tallowref09_ended.l0 : Nat → List (S24) → Int → Option ((List (S24)))
 | 0, _, _ => none
 | k + 1, x0, x3 => if x3 > 0 then (if 0 ≤ (wrap64 (1 + x3)) then (if (wrap64 (1 + x3)) < (x0.length : Int) then (if ((rd_T24 x0 (wrap64 (1 + x3))).f0) = 1 then (tallowref09_ended.l0 k x0 (wrap64 (x3 - 1))) else (if 0 ≤ (wrap64 (2 + x3)) then (if (wrap64 (2 + x3)) ≤ (x0.length : Int) then ((some (x0.take ((wrap64 (2 + x3)) : Int).toNat : List (S24))).bind fun y157 => (if ([] : List (S24)).length + y157.length < 8796093022208 then ((some (([] : List (S24)) ++ y157 : List (S24))).bind fun y161 => (if 1 < (x0.length : Int) then (if 0 ≤ (wrap64 (2 + ((rd_T24 x0 1).f1))) then (if (wrap64 (2 + ((rd_T24 x0 1).f1))) ≤ (x0.length : Int) then ((some (x0.drop ((wrap64 (2 + ((rd_T24 x0 1).f1))) : Int).toNat : List (S24))).bind fun y165 => (if y161.length + y165.length < 8796093022208 then ((some (y161 ++ y165 : List (S24))).bind fun y169 => ((tallowref09_integer.f x3).bind fun bt172 => (if 1 < (y169.length : Int) then (some (y169.set (1 : Int).toNat (⟨bt172.1, bt172.2⟩ : S24))) else (none)))) else (none))) else (none)) else (none)) else (none))) else (none))) else (none)) else (none))) else (none)) else (none)) else (if 0 ≤ (wrap64 (2 + x3)) then (if (wrap64 (2 + x3)) ≤ (x0.length : Int) then ((some (x0.take ((wrap64 (2 + x3)) : Int).toNat : List (S24))).bind fun y175 => (if ([] : List (S24)).length + y175.length < 8796093022208 then ((some (([] : List (S24)) ++ y175 : List (S24))).bind fun y179 => (if 1 < (x0.length : Int) then (if 0 ≤ (wrap64 (2 + ((rd_T24 x0 1).f1))) then (if (wrap64 (2 + ((rd_T24 x0 1).f1))) ≤ (x0.length : Int) then ((some (x0.drop ((wrap64 (2 + ((rd_T24 x0 1).f1))) : Int).toNat : List (S24))).bind fun y183 => (if y179.length + y183.length < 8796093022208 then ((some (y179 ++ y183 : List (S24))).bind fun y187 => ((tallowref09_integer.f x3).bind fun bt190 => (if 1 < (y187.length : Int) then (some (y187.set (1 : Int).toNat (⟨bt190.1, bt190.2⟩ : S24))) else (none)))) else (none))) else (none)) else (none)) else (none))) else (none))) else (none)) else (none))
def tallowref09_ended.f (k : Nat) (l0 : List (S24)) : Option ((List (S24))) := if 1 < (l0.length : Int) then (tallowref09_ended.l0 k l0 (wrap64 (((rd_T24 l0 1).f1) - 1))) else (none)
set_option maxHeartbeats 8000000 in
set_option maxRecDepth 100000 in
theorem tallowref09_ended.calls (k : Nat) (A0 : Option Addr) (c0 : Nat) (l0 : List (S24)) (r : List (S24)) (w : World) (hr0 : Kd.C k24 w A0 l0.length l0) (hc0 : l0.length ≤ c0) (h : tallowref09_ended.f k l0 = some r) :
  Calls Try.prog 57 #[.slice A0 l0.length c0] w fun e w' => ∃ v0_ : Value, e = .returned (v0_) ∧ Kd.R k24 24 w' w.heap.size (fun _ => True) v0_ r ∧ Below w.heap.size w w' := by
 have hu24 := Try.underlying24
 have HR0 := Aside0.mk hr0
 have HC0 := Aside0.mk hc0
 clear hr0 hc0
 have HB := Aside0.mk (Below.refl w.heap.size w)
 have H : (if 1 < (l0.length : Int) then (tallowref09_ended.l0 k l0 (wrap64 (((rd_T24 l0 1).f1) - 1))) else (none)) = some r := h
 clear h
 by_cases c2 : 1 < (l0.length : Int)
 ·rw [if_pos c2] at H
  have c2b0 : decide (1 < (l0.length : Int)) = true := decide_eq_true c2
  have c2b1 : decide (1 < l0.length) = true := decide_eq_true (by omega)
  clear c2
  have H' := Aside0.mk H
  clear H
  have p155 : 0 ≤ (1 : Int) := (by omega)
  have q155 : 1 < (l0.length : Int) := of_decide_eq_true (by first | (with_reducible assumption) | assumption)
  obtain ⟨ad155, e155, hx155_0, hx155_1⟩ := at_T24 HR0.out 1 p155 q155
  cases e155
  (try simp only [show (1 : Int).toNat = 1 from rfl, Nat.reduceMul, Nat.reduceEqDiff, Go.Addr.add, ↓reduceIte] at hx155_0)
  (try simp only [show (1 : Int).toNat = 1 from rfl, Nat.reduceMul, Nat.reduceEqDiff, Go.Addr.add, ↓reduceIte] at hx155_1)
  have qi155 : (1 < l0.length) = True := eq_true (by omega)
  (try rw [show ((1 : Int)).toNat = 1 from rfl] at hx155_0)
  (try rw [show 1 * 2 = 2 from rfl] at hx155_0)
  (try rw [show ((1 : Int)).toNat = 1 from rfl] at hx155_1)
  (try rw [show 1 * 2 = 2 from rfl] at hx155_1)
  replace p155 := eq_true p155
  replace q155 := eq_true q155
  go_enter Try.func57, Try.ntmps57
  go_wp2
  go_loopg [3] k (fun kq v3 w' => ∃ (x3_1 : Int), v3 = .int .i64 x3_1 ∧ Aside0 (tallowref09_ended.l0 kq l0 x3_1 = some r) ∧ Aside0 (kq ≤ k) ∧ Aside0 (Below w.heap.size w w'))
  case atStart => exact ⟨(wrap64 (((rd_T24 l0 1).f1) - 1)), (by first | rfl | (simp; done) | (simp [*]; done)), H', ⟨Nat.le_refl _⟩, ⟨by repeat (first | (with_reducible first | exact HB.out | apply below_alloc | apply pw_below_drewN | apply below_drew1) | exact HB.out)⟩⟩
  case round =>
   clear H'
   try clear p1
   try clear q1
   try clear hx1
   try clear qi1
   try clear c2
   try clear c2b0
   try clear c2b1
   try clear p2
   try clear hx155_0
   try clear hx155_1
   try clear p155
   try clear q155
   obtain ⟨x3_1, rfl, HA, HK1, HB⟩ := hrel
   cases gk with
   | zero => exact absurd HA.out (by simp [tallowref09_ended.l0])
   | succ k1 =>
    have H := HA.out
    clear HA
    simp only [tallowref09_ended.l0] at H
    by_cases c3 : x3_1 > 0
    ·rw [if_pos c3] at H
     have c3b0 : decide (0 < x3_1) = true := decide_eq_true c3
     clear c3
     obtain ⟨ji4, hji4⟩ : ∃ j_ : Int, (wrap64 (1 + x3_1)) = j_ := ⟨_, rfl⟩
     replace H : (if 0 ≤ (ji4) then (if (ji4) < (l0.length : Int) then (if ((rd_T24 l0 (ji4)).f0) = 1 then (tallowref09_ended.l0 k1 l0 (wrap64 (x3_1 - 1))) else (if 0 ≤ (wrap64 (2 + x3_1)) then (if (wrap64 (2 + x3_1)) ≤ (l0.length : Int) then ((some (l0.take ((wrap64 (2 + x3_1)) : Int).toNat : List (S24))).bind fun y157 => (if ([] : List (S24)).length + y157.length < 8796093022208 then ((some (([] : List (S24)) ++ y157 : List (S24))).bind fun y161 => (if 1 < (l0.length : Int) then (if 0 ≤ (wrap64 (2 + ((rd_T24 l0 1).f1))) then (if (wrap64 (2 + ((rd_T24 l0 1).f1))) ≤ (l0.length : Int) then ((some (l0.drop ((wrap64 (2 + ((rd_T24 l0 1).f1))) : Int).toNat : List (S24))).bind fun y165 => (if y161.length + y165.length < 8796093022208 then ((some (y161 ++ y165 : List (S24))).bind fun y169 => ((tallowref09_integer.f x3_1).bind fun bt172 => (if 1 < (y169.length : Int) then (some (y169.set (1 : Int).toNat (⟨bt172.1, bt172.2⟩ : S24))) else (none)))) else (none))) else (none)) else (none)) else (none))) else (none))) else (none)) else (none))) else (none)) else (none)) = some r := by first | (rw [hji4] at H; exact H) | (simp only [hji4] at H ⊢; exact H)
     have hji4w : (IntKind.i64.wrap (1 + x3_1)) = ji4 := (i64_w _).trans hji4
     by_cases c5 : 0 ≤ (ji4)
     ·rw [if_pos c5] at H
      have c5b0 : decide (0 ≤ (ji4)) = true := decide_eq_true c5
      clear c5
      by_cases c6 : (ji4) < (l0.length : Int)
      ·rw [if_pos c6] at H
       have c6b0 : decide ((ji4) < (l0.length : Int)) = true := decide_eq_true c6
       clear c6
       by_cases c7 : ((rd_T24 l0 (ji4)).f0) = 1
       ·rw [if_pos c7] at H
        have c7b0 : (((rd_T24 l0 (ji4)).f0) == 1) = true := beq_iff_eq.mpr c7
        have c7b1 : (((rd_T24 l0 (ji4)).f0) != 1) = false := bne_eq_false_iff_eq.mpr c7
        clear c7
        have H' := Aside0.mk H
        clear H
        have p156 : 0 ≤ ((ji4) : Int) := of_decide_eq_true (by first | (with_reducible assumption) | assumption)
        have q156 : (ji4) < (l0.length : Int) := of_decide_eq_true (by first | (with_reducible assumption) | assumption)
        obtain ⟨ad156, e156, hx156_0, hx156_1⟩ := at_T24 HR0.out (ji4) p156 q156
        obtain rfl : ad155 = ad156 := (by injection e156)
        replace hx156_0 := (HB.out.cell (World.block_lt_of_cell? w _ hx156_0)).trans hx156_0
        replace hx156_1 := (HB.out.cell (World.block_lt_of_cell? w _ hx156_1)).trans hx156_1
        replace p156 := eq_true p156
        replace q156 := eq_true q156
        go_wp2
        go_roundg k1
        case measure => have := HK1.out; omega
        case rel => exact ⟨(wrap64 (x3_1 - 1)), (by first | rfl | (simp; done) | (simp [*]; done)), H', ⟨by have := HK1.out; omega⟩, ⟨by repeat (first | (with_reducible first | exact HB.out | apply below_alloc | apply pw_below_drewN | apply below_drew1) | exact HB.out)⟩⟩
       ·rw [if_neg c7] at H
        have c7b0 : (((rd_T24 l0 (ji4)).f0) == 1) = false := beq_eq_false_iff_ne.mpr c7
        have c7b1 : (((rd_T24 l0 (ji4)).f0) != 1) = true := bne_iff_ne.mpr c7
        obtain ⟨ji8, hji8⟩ : ∃ j_ : Int, (wrap64 (2 + x3_1)) = j_ := ⟨_, rfl⟩
        replace H : (if 0 ≤ (ji8) then (if (ji8) ≤ (l0.length : Int) then ((some (l0.take ((ji8) : Int).toNat : List (S24))).bind fun y157 => (if ([] : List (S24)).length + y157.length < 8796093022208 then ((some (([] : List (S24)) ++ y157 : List (S24))).bind fun y161 => (if 1 < (l0.length : Int) then (if 0 ≤ (wrap64 (2 + ((rd_T24 l0 1).f1))) then (if (wrap64 (2 + ((rd_T24 l0 1).f1))) ≤ (l0.length : Int) then ((some (l0.drop ((wrap64 (2 + ((rd_T24 l0 1).f1))) : Int).toNat : List (S24))).bind fun y165 => (if y161.length + y165.length < 8796093022208 then ((some (y161 ++ y165 : List (S24))).bind fun y169 => ((tallowref09_integer.f x3_1).bind fun bt172 => (if 1 < (y169.length : Int) then (some (y169.set (1 : Int).toNat (⟨bt172.1, bt172.2⟩ : S24))) else (none)))) else (none))) else (none)) else (none)) else (none))) else (none))) else (none)) else (none)) = some r := by first | (rw [hji8] at H; exact H) | (simp only [hji8] at H ⊢; exact H)
        have hji8w : (IntKind.i64.wrap (2 + x3_1)) = ji8 := (i64_w _).trans hji8
        by_cases c9 : 0 ≤ (ji8)
        ·rw [if_pos c9] at H
         have c9b0 := eq_true c9
         have c9b1 : decide (0 ≤ (ji8)) = true := decide_eq_true c9
         clear c9
         by_cases c10 : (ji8) ≤ (l0.length : Int)
         ·rw [if_pos c10] at H
          have c10b0 := eq_true c10
          have c10b1 : decide ((ji8) ≤ (l0.length : Int)) = true := decide_eq_true c10
          clear c10
          obtain ⟨y157, hy157⟩ : ∃ y_ : List (S24), y_ = (l0.take ((ji8) : Int).toNat) := ⟨_, rfl⟩
          replace H : (if ([] : List (S24)).length + y157.length < 8796093022208 then ((some (([] : List (S24)) ++ y157 : List (S24))).bind fun y161 => (if 1 < (l0.length : Int) then (if 0 ≤ (wrap64 (2 + ((rd_T24 l0 1).f1))) then (if (wrap64 (2 + ((rd_T24 l0 1).f1))) ≤ (l0.length : Int) then ((some (l0.drop ((wrap64 (2 + ((rd_T24 l0 1).f1))) : Int).toNat : List (S24))).bind fun y165 => (if y161.length + y165.length < 8796093022208 then ((some (y161 ++ y165 : List (S24))).bind fun y169 => ((tallowref09_integer.f x3_1).bind fun bt172 => (if 1 < (y169.length : Int) then (some (y169.set (1 : Int).toNat (⟨bt172.1, bt172.2⟩ : S24))) else (none)))) else (none))) else (none)) else (none)) else (none))) else (none)) = some r := by first | (rw [hy157]; with_reducible exact H) | (have H2_ := (Option.bind_some _ _).symm.trans H; rw [hy157]; with_reducible exact H2_) | (have H2_ := (Option.bind_some _ _).symm.trans H; with_reducible exact H2_) | with_reducible exact H | (rw [hy157]; exact H) | exact H
          have Ny157 := Aside0.mk hy157
          clear hy157
          by_cases c11 : ([] : List (S24)).length + y157.length < 8796093022208
          ·rw [if_pos c11] at H
           have LMc11 := Aside0.mk c11
           clear c11
           obtain ⟨y161, hy161⟩ : ∃ y_ : List (S24), y_ = (([] : List (S24)) ++ y157) := ⟨_, rfl⟩
           replace H : (if 1 < (l0.length : Int) then (if 0 ≤ (wrap64 (2 + ((rd_T24 l0 1).f1))) then (if (wrap64 (2 + ((rd_T24 l0 1).f1))) ≤ (l0.length : Int) then ((some (l0.drop ((wrap64 (2 + ((rd_T24 l0 1).f1))) : Int).toNat : List (S24))).bind fun y165 => (if y161.length + y165.length < 8796093022208 then ((some (y161 ++ y165 : List (S24))).bind fun y169 => ((tallowref09_integer.f x3_1).bind fun bt172 => (if 1 < (y169.length : Int) then (some (y169.set (1 : Int).toNat (⟨bt172.1, bt172.2⟩ : S24))) else (none)))) else (none))) else (none)) else (none)) else (none)) = some r := by first | (rw [hy161]; with_reducible exact H) | (have H2_ := (Option.bind_some _ _).symm.trans H; rw [hy161]; with_reducible exact H2_) | (have H2_ := (Option.bind_some _ _).symm.trans H; with_reducible exact H2_) | with_reducible exact H | (rw [hy161]; exact H) | exact H
           have Ny161 := Aside0.mk hy161
           clear hy161
           by_cases c12 : 1 < (l0.length : Int)
           ·rw [if_pos c12] at H
            have c12b0 : decide (1 < (l0.length : Int)) = true := decide_eq_true c12
            have c12b1 : decide (1 < l0.length) = true := decide_eq_true (by omega)
            clear c12
            obtain ⟨ji13, hji13⟩ : ∃ j_ : Int, (wrap64 (2 + ((rd_T24 l0 1).f1))) = j_ := ⟨_, rfl⟩
            replace H : (if 0 ≤ (ji13) then (if (ji13) ≤ (l0.length : Int) then ((some (l0.drop ((ji13) : Int).toNat : List (S24))).bind fun y165 => (if y161.length + y165.length < 8796093022208 then ((some (y161 ++ y165 : List (S24))).bind fun y169 => ((tallowref09_integer.f x3_1).bind fun bt172 => (if 1 < (y169.length : Int) then (some (y169.set (1 : Int).toNat (⟨bt172.1, bt172.2⟩ : S24))) else (none)))) else (none))) else (none)) else (none)) = some r := by first | (rw [hji13] at H; exact H) | (simp only [hji13] at H ⊢; exact H)
            have hji13w : (IntKind.i64.wrap (2 + ((rd_T24 l0 1).f1))) = ji13 := (i64_w _).trans hji13
            by_cases c14 : 0 ≤ (ji13)
            ·rw [if_pos c14] at H
             have c14b0 := eq_true c14
             have c14b1 : decide (0 ≤ (ji13)) = true := decide_eq_true c14
             clear c14
             by_cases c15 : (ji13) ≤ (l0.length : Int)
             ·rw [if_pos c15] at H
              have c15b0 := eq_true c15
              have c15b1 : decide ((ji13) ≤ (l0.length : Int)) = true := decide_eq_true c15
              clear c15
              obtain ⟨y165, hy165⟩ : ∃ y_ : List (S24), y_ = (l0.drop ((ji13) : Int).toNat) := ⟨_, rfl⟩
              replace H : (if y161.length + y165.length < 8796093022208 then ((some (y161 ++ y165 : List (S24))).bind fun y169 => ((tallowref09_integer.f x3_1).bind fun bt172 => (if 1 < (y169.length : Int) then (some (y169.set (1 : Int).toNat (⟨bt172.1, bt172.2⟩ : S24))) else (none)))) else (none)) = some r := by first | (rw [hy165]; with_reducible exact H) | (have H2_ := (Option.bind_some _ _).symm.trans H; rw [hy165]; with_reducible exact H2_) | (have H2_ := (Option.bind_some _ _).symm.trans H; with_reducible exact H2_) | with_reducible exact H | (rw [hy165]; exact H) | exact H
              have Ny165 := Aside0.mk hy165
              clear hy165
              by_cases c16 : y161.length + y165.length < 8796093022208
              ·rw [if_pos c16] at H
               have LMc16 := Aside0.mk c16
               clear c16
               obtain ⟨y169, hy169⟩ : ∃ y_ : List (S24), y_ = (y161 ++ y165) := ⟨_, rfl⟩
               replace H : ((tallowref09_integer.f x3_1).bind fun bt172 => (if 1 < (y169.length : Int) then (some (y169.set (1 : Int).toNat (⟨bt172.1, bt172.2⟩ : S24))) else (none))) = some r := by first | (rw [hy169]; with_reducible exact H) | (have H2_ := (Option.bind_some _ _).symm.trans H; rw [hy169]; with_reducible exact H2_) | (have H2_ := (Option.bind_some _ _).symm.trans H; with_reducible exact H2_) | with_reducible exact H | (rw [hy169]; exact H) | exact H
               have Ny169 := Aside0.mk hy169
               clear hy169
               replace H := Option.bind_eq_some_iff.mp H
               obtain ⟨⟨t172, t173⟩, A170, H⟩ := H
               replace H : (if 1 < (y169.length : Int) then (some (y169.set (1 : Int).toNat (⟨t172, t173⟩ : S24))) else (none)) = some r := H
               have A17 := Aside0.mk A170
               clear A170
               by_cases c18 : 1 < (y169.length : Int)
               ·rw [if_pos c18] at H
                have c18b0 : decide (1 < (y169.length : Int)) = true := decide_eq_true c18
                have c18b1 : decide (1 < y169.length) = true := decide_eq_true (by omega)
                clear c18
                obtain ⟨y174, hy174⟩ : ∃ y_ : List (S24), y_ = (y169.set (1 : Int).toNat (⟨t172, t173⟩ : S24)) := ⟨_, rfl⟩
                replace H : (some y174) = some r := by first | (rw [hy174]; with_reducible exact H) | (have H2_ := (Option.bind_some _ _).symm.trans H; rw [hy174]; with_reducible exact H2_) | (have H2_ := (Option.bind_some _ _).symm.trans H; with_reducible exact H2_) | with_reducible exact H | (rw [hy174]; exact H) | exact H
                have Ny174 := Aside0.mk hy174
                clear hy174
                obtain rfl := Option.some.inj H
                have p156 : 0 ≤ ((ji4) : Int) := of_decide_eq_true (by first | (with_reducible assumption) | assumption)
                have q156 : (ji4) < (l0.length : Int) := of_decide_eq_true (by first | (with_reducible assumption) | assumption)
                obtain ⟨ad156, e156, hx156_0, hx156_1⟩ := at_T24 HR0.out (ji4) p156 q156
                obtain rfl : ad155 = ad156 := (by injection e156)
                replace hx156_0 := (HB.out.cell (World.block_lt_of_cell? w _ hx156_0)).trans hx156_0
                replace hx156_1 := (HB.out.cell (World.block_lt_of_cell? w _ hx156_1)).trans hx156_1
                replace p156 := eq_true p156
                replace q156 := eq_true q156
                have q20 : ((ji8) : Int) ≤ ((l0.length : Int) : Int) := of_decide_eq_true (by first | (with_reducible assumption) | assumption)
                obtain ⟨i020, hi020, _, hsz20, _⟩ := info_parts info24
                have hroom20 : l0.length ≤ c0 := HC0.out
                have hC20 : Kd.C k24 _ (some ad155) l0.length l0 := HR0.out
                have hcut20 := cut_to (P := Try.prog) 22 24 .i64 Try.underlying22 hi020 (some ad155) l0.length c0 (ji8) (of_decide_eq_true (by first | (with_reducible assumption) | assumption)) q20 hroom20
                have hr20 := Kd.C_take (m := ((ji8) : Int).toNat) hC20 (by omega)
                have hy20 : y157.length = ((ji8) : Int).toNat := (by rw [Ny157.out, List.length_take]; omega)
                rw [← Ny157.out] at hr20
                rw [← hy20] at hcut20
                have HR160 := Aside0.mk hr20
                have HC160 := Aside0.mk (show y157.length ≤ c0 from by omega)
                clear hr20 hC20 hroom20 hi020 hsz20
                have KY20 := Aside0.mk hy20
                clear hy20
                replace q20 := eq_true q20
                go_wp2_with (first | ((with_reducible refine gate_builtin (b := .append) (xs := #[.tmp 23, .tmp 27]) rfl ?_); at_builtin; refine Kd.R_append_rows k24 (w0 := w) w.heap.size rfl (.tmp 23) (.tmp 27) 22 24 (.agg #[(.int .i64 0), (.int .i64 0)]) 16 rfl Try.underlying22 info24 rfl (by decide) (by omega) (.slice none 0 0) ([] : List (S24)) y157 _ _ _ (fun _ => True) (fun _ => False) rfl rfl ?aO ?aR (fun _ _ h => h) (fun _ h => h.elim) ?aF ?aB ?aS ?aL ?_; (case aR => repeat (first | exact (Kd.C_below HR160.out HB.out) | (with_reducible refine Kd.C_alloc ?_ _) | (with_reducible refine Kd.C_drewN ?_ _) | (with_reducible refine Kd.C_drew ?_))); (case aB => exact (by repeat (first | (with_reducible first | exact HB.out | apply below_alloc | apply pw_below_drewN | apply below_drew1) | exact HB.out))); (case aF => exact (fun _ _ => trivial)); (case aO => exact ((Kd.R_nil _ _ _ _ (fun _ => True)))); (case aS => exact (below_size (by repeat (first | (with_reducible first | exact HB.out | apply below_alloc | apply pw_below_drewN | apply below_drew1) | exact HB.out)))); (case aL => have := LMc11.out; omega); intro v162 w21 ho hb hg hat; rw [← Ny161.out] at ho; have n0_ := Aside0.mk (hb); have n1_ := Aside0.mk (ho); clear HB; have HB := n0_; have HO163 := n1_; clear n0_ n1_; clear ho hb hg hat; have p164 : 0 ≤ (1 : Int) := (by omega); have q164 : 1 < (l0.length : Int) := of_decide_eq_true (by first | (with_reducible assumption) | assumption); obtain ⟨ad164, e164, hx164_0, hx164_1⟩ := at_T24 HR0.out 1 p164 q164; obtain rfl : ad155 = ad164 := (by injection e164); (try simp only [show (1 : Int).toNat = 1 from rfl, Nat.reduceMul, Nat.reduceEqDiff, Go.Addr.add, ↓reduceIte] at hx164_0); (try simp only [show (1 : Int).toNat = 1 from rfl, Nat.reduceMul, Nat.reduceEqDiff, Go.Addr.add, ↓reduceIte] at hx164_1); have qi164 : (1 < l0.length) = True := eq_true (by omega); (try rw [show ((1 : Int)).toNat = 1 from rfl] at hx164_0); (try rw [show 1 * 2 = 2 from rfl] at hx164_0); (try rw [show ((1 : Int)).toNat = 1 from rfl] at hx164_1); (try rw [show 1 * 2 = 2 from rfl] at hx164_1); replace hx164_0 := (HB.out.cell (World.block_lt_of_cell? w _ hx164_0)).trans hx164_0; replace hx164_1 := (HB.out.cell (World.block_lt_of_cell? w _ hx164_1)).trans hx164_1; replace p164 := eq_true p164; replace q164 := eq_true q164; have q22 : ((ji13) : Int) ≤ ((l0.length : Int) : Int) := of_decide_eq_true (by first | (with_reducible assumption) | assumption); obtain ⟨i022, hi022, _, hsz22, _⟩ := info_parts info24; have hroom22 : l0.length ≤ c0 := HC0.out; have hC22 : Kd.C k24 _ (some ad155) l0.length l0 := HR0.out; have q022 : (0 : Int) ≤ ((ji13) : Int) := of_decide_eq_true (by first | (with_reducible assumption) | assumption); have hcut22 := cut_from (P := Try.prog) 22 24 .i64 Try.underlying22 hi022 2 hsz22 (some ad155) l0.length c0 (ji13) q022 q22; have hr22 := Kd.C_drop (m := ((ji13) : Int).toNat) (c := c0) hC22 (by omega) hroom22; obtain ⟨A22, hA22⟩ : ∃ A1, A1 = (if c0 = ((ji13) : Int).toNat then (some ad155) else ((some ad155) : Option Addr).map (·.add (((ji13) : Int).toNat * 2))) := ⟨_, rfl⟩; obtain ⟨c22, hc22⟩ : ∃ c1, c1 = c0 - ((ji13) : Int).toNat := ⟨_, rfl⟩; have hy22 : y165.length = l0.length - ((ji13) : Int).toNat := (by rw [Ny165.out, List.length_drop] <;> omega); rw [show (l0).drop ((ji13) : Int).toNat = y165 from Ny165.out.symm] at hr22; replace hr22 : Kd.C k24 _ A22 y165.length y165 := (by rw [hA22]; exact hr22); rw [← hy22, ← hA22, ← hc22] at hcut22; have HR168 := Aside0.mk hr22; have HC168 := Aside0.mk (show y165.length ≤ c22 from by rw [hy22, hc22]; exact Nat.sub_le_sub_right hroom22 _); clear hr22 hC22 hroom22 hi022 hsz22 hc22; have KY22 := Aside0.mk hy22; have KA22 := Aside0.mk hA22; clear hy22 hA22; replace q22 := eq_true q22) | ((with_reducible refine gate_builtin (b := .append) (xs := #[.tmp 29, .tmp 36]) rfl ?_); at_builtin; refine Kd.R_append_rows k24 (w0 := w) w.heap.size rfl (.tmp 29) (.tmp 36) 22 24 (.agg #[(.int .i64 0), (.int .i64 0)]) 16 rfl Try.underlying22 info24 rfl (by decide) (by omega) v162 y161 y165 _ _ _ (fun _ => True) (fun _ => False) rfl rfl ?aO ?aR (fun _ _ h => h) (fun _ h => h.elim) ?aF ?aB ?aS ?aL ?_; (case aR => repeat (first | exact (Kd.C_below HR168.out HB.out) | (with_reducible refine Kd.C_alloc ?_ _) | (with_reducible refine Kd.C_drewN ?_ _) | (with_reducible refine Kd.C_drew ?_))); (case aB => exact (by repeat (first | (with_reducible first | exact HB.out | apply below_alloc | apply pw_below_drewN | apply below_drew1) | exact HB.out))); (case aF => exact (fun _ _ => trivial)); (case aO => exact (by (with_reducible repeat (first | apply Kd.R_alloc | apply Kd.R_drewN | apply Kd.R_drew)); exact HO163.out)); (case aS => exact (below_size (by repeat (first | (with_reducible first | exact HB.out | apply below_alloc | apply pw_below_drewN | apply below_drew1) | exact HB.out)))); (case aL => have := LMc16.out; omega); intro v170 w23 ho hb hg hat; rw [← Ny169.out] at ho; have n0_ := Aside0.mk (hb); have n1_ := Aside0.mk (ho); clear HB; clear HO163; have HB := n0_; have HO171 := n1_; clear n0_ n1_; clear ho hb hg hat) | ((with_reducible refine gate_callee (f := 45) rfl ?_); refine goesL_ (some 40) rfl rfl Try.func45 (by kernel_rfl) rfl #[.int .i64 x3_1] rfl (by (try simp only [List.map_toArray, List.map_cons, List.map_nil]); first | done | rfl | (simp only [List.length_drop, List.length_take]; rfl)) ?_; (with_reducible refine (tallowref09_integer.calls x3_1 t172 t173 _ A17.out).mono ?_); rintro e w24 ⟨rfl, hb⟩; refine ⟨_, rfl, ?_⟩; have n0_ := Aside0.mk (Kd.R_below (by (with_reducible repeat (first | apply Kd.R_alloc | apply Kd.R_drewN | apply Kd.R_drew)); exact HO171.out) hb); have n1_ := Aside0.mk (below_step (by repeat (first | (with_reducible first | exact HB.out | apply below_alloc | apply pw_below_drewN | apply below_drew1) | exact HB.out)) hb); clear HO171; clear HB; have HO171 := n0_; have HB := n1_; clear n0_ n1_; (try clear hb); (try clear hb2); (try clear hk); (try clear hi); have p19 : 0 ≤ (1 : Int) := (by omega); have q19 : (1 : Int) < ((y169.length : Int) : Int) := of_decide_eq_true (by first | (with_reducible assumption) | assumption); have qi19 : (1 < y169.length) = True := eq_true (by omega); obtain ⟨go19, co19, eo19, gb19, gl19, cl19, HG19⟩ := Kd.R_form HO171.out (by omega); (first | cases eo19 | (injection eo19 with ea_ en_ ec_; (first | subst ea_ | (injection ea_ with ea_; subst ea_)); subst ec_; clear en_)); have GB19 := Aside0.mk gb19; have GG19 := Aside0.mk HG19; clear gb19 gl19 HG19; obtain ⟨ce19, hcl19, hM19, hcc19, hfr19⟩ := Kd.R_elem HO171.out z24 (1 : Int) p19 q19; obtain rfl := k24_openM hM19; have hx19_0 : w24.cell? ⟨go19, (1 : Int).toNat * 2, none⟩ = some (.int .i64 ((rd_T24 y169 1).f0)) := hcc19 0 _ rfl; have hx19_1 : w24.cell? ⟨go19, (1 : Int).toNat * 2 + 1, none⟩ = some (.int .i64 ((rd_T24 y169 1).f1)) := hcc19 1 _ rfl; have hf19_0 : w24.frozen? ⟨go19, (1 : Int).toNat * 2, none⟩ = false := hfr19 0; have hf19_1 : w24.frozen? ⟨go19, (1 : Int).toNat * 2 + 1, none⟩ = false := hfr19 1; clear hcl19 hcc19 hfr19 hM19; (try rw [show ((1 : Int)).toNat = 1 from rfl] at hx19_0); (try simp only [Nat.reduceMul, Nat.zero_mul, Nat.zero_add, Nat.reduceAdd] at hx19_0); (try rw [show ((1 : Int)).toNat = 1 from rfl] at hf19_0); (try simp only [Nat.reduceMul, Nat.zero_mul, Nat.zero_add, Nat.reduceAdd] at hf19_0); (try rw [show ((1 : Int)).toNat = 1 from rfl] at hx19_1); (try simp only [Nat.reduceMul, Nat.zero_mul, Nat.zero_add, Nat.reduceAdd] at hx19_1); (try rw [show ((1 : Int)).toNat = 1 from rfl] at hf19_1); (try simp only [Nat.reduceMul, Nat.zero_mul, Nat.zero_add, Nat.reduceAdd] at hf19_1); replace p19 := eq_true p19; replace q19 := eq_true q19; have HX25 := Aside0.mk (show Kd.R k24 24 w24 w.heap.size (fun _ => True) (.slice (some ⟨go19, 0, none⟩) y169.length co19) y169 from (by (with_reducible repeat (first | apply Kd.R_alloc | apply Kd.R_drewN | apply Kd.R_drew)); exact HO171.out)); obtain ⟨ce25, hcl25, hM25, hcc25, hfr25⟩ := Kd.R_elem HX25.out z24 (1 : Int) (by omega) (by have h_ : (1 : Int) < ((y169.length : Int) : Int) := of_decide_eq_true (by first | (with_reducible assumption) | assumption); first | exact h_ | (have e_ := (Kd.R_reads' HO171.out).1; omega) | simpa using h_); obtain rfl := k24_openM hM25; have HP25 := Kd.R_seg HX25.out (1 : Int) (by omega) (by have h_ : (1 : Int) < ((y169.length : Int) : Int) := of_decide_eq_true (by first | (with_reducible assumption) | assumption); first | exact h_ | (have e_ := (Kd.R_reads' HO171.out).1; omega) | simpa using h_) (seg := [.int .i64 t172, .int .i64 t173]) (j := 0) hcl25 hcc25 (show 2 ≤ 2 from by decide) (x' := (⟨t172, t173⟩ : S24)) (k24_mkM _ _ _ (⟨t172, t173⟩ : S24) ) (fun _ hk => hk); have hx25_0 := hcc25 0 _ rfl; (try simp only [show (k24).sz = 2 from rfl, Nat.mul_one, Nat.add_zero] at hx25_0); (try rw [show ((1 : Int)).toNat = 1 from rfl] at hx25_0); (try simp only [Nat.reduceMul, Nat.zero_mul, Nat.zero_add, Nat.reduceAdd] at hx25_0); have hf25_0 := hfr25 0; (try simp only [show (k24).sz = 2 from rfl, Nat.mul_one, Nat.add_zero] at hf25_0); (try rw [show ((1 : Int)).toNat = 1 from rfl] at hf25_0); (try simp only [Nat.reduceMul, Nat.zero_mul, Nat.zero_add, Nat.reduceAdd] at hf25_0); have hx25_1 := hcc25 1 _ rfl; (try simp only [show (k24).sz = 2 from rfl, Nat.mul_one, Nat.add_zero] at hx25_1); (try rw [show ((1 : Int)).toNat = 1 from rfl] at hx25_1); (try simp only [Nat.reduceMul, Nat.zero_mul, Nat.zero_add, Nat.reduceAdd] at hx25_1); have hf25_1 := hfr25 1; (try simp only [show (k24).sz = 2 from rfl, Nat.mul_one, Nat.add_zero] at hf25_1); (try rw [show ((1 : Int)).toNat = 1 from rfl] at hf25_1); (try simp only [Nat.reduceMul, Nat.zero_mul, Nat.zero_add, Nat.reduceAdd] at hf25_1); clear hcl25 hcc25 hfr25 hM25) | ((with_reducible refine gate_store (t := 24) (p := 41) rfl ?_); refine store_event (t := 24) (p := 41) (v := ?vo_w26) (w1 := ((w24.setCell ⟨go19, 2, none⟩ (.int .i64 t172)).setCell ⟨go19, 3, none⟩ (.int .i64 t173))) ?hg ?ho ?hn ?hr ?_; (case ho => rfl); (case hg => rfl); (case hn => rfl); (case hr => first | (go_simp; done) | (go_simp; rfl)); intro w26 hw; have hg : w24.grownBy w26 (some go19) := (by rw [hw]; exact HP25.2); have hp_ : Kd.R k24 24 w26 w.heap.size (fun _ => True) (.slice (some ⟨go19, 0, none⟩) y169.length co19) y174 := (by rw [hw, Ny174.out]; exact HP25.1); clear HP25; have n0_ := Aside0.mk (hp_); have n1_ := Aside0.mk ((by rw [hw]; exact below_set (below_set (HB.out) GB19.out) GB19.out : Below w.heap.size w w26)); clear HO171; clear HB; have HO171 := n0_; have HB := n1_; clear n0_ n1_; clear hg hw hp_))
                go_ret
                exact ⟨_, by first | rfl | (simp [errW_none, errW_some] <;> rfl) | (simp only [← hji4, ← hji8, ← hji13]; first | rfl | (simp [errW_none, errW_some] <;> rfl)) | (simp [*, errW_none, errW_some] <;> rfl), by (with_reducible repeat (first | apply Kd.R_alloc | apply Kd.R_drewN | apply Kd.R_drew)); exact HO171.out, by repeat (first | (with_reducible first | exact HB.out | apply below_alloc | apply pw_below_drewN | apply below_drew1) | exact HB.out)⟩
               ·rw [if_neg c18] at H
                exact absurd H (by simp)
              ·rw [if_neg c16] at H
               exact absurd H (by simp)
             ·rw [if_neg c15] at H
              exact absurd H (by simp)
            ·rw [if_neg c14] at H
             exact absurd H (by simp)
           ·rw [if_neg c12] at H
            exact absurd H (by simp)
          ·rw [if_neg c11] at H
           exact absurd H (by simp)
         ·rw [if_neg c10] at H
          exact absurd H (by simp)
        ·rw [if_neg c9] at H
         exact absurd H (by simp)
      ·rw [if_neg c6] at H
       exact absurd H (by simp)
     ·rw [if_neg c5] at H
      exact absurd H (by simp)
    ·rw [if_neg c3] at H
     have c3b0 : decide (0 < x3_1) = false := decide_eq_false c3
     clear c3
     obtain ⟨ji27, hji27⟩ : ∃ j_ : Int, (wrap64 (2 + x3_1)) = j_ := ⟨_, rfl⟩
     replace H : (if 0 ≤ (ji27) then (if (ji27) ≤ (l0.length : Int) then ((some (l0.take ((ji27) : Int).toNat : List (S24))).bind fun y175 => (if ([] : List (S24)).length + y175.length < 8796093022208 then ((some (([] : List (S24)) ++ y175 : List (S24))).bind fun y179 => (if 1 < (l0.length : Int) then (if 0 ≤ (wrap64 (2 + ((rd_T24 l0 1).f1))) then (if (wrap64 (2 + ((rd_T24 l0 1).f1))) ≤ (l0.length : Int) then ((some (l0.drop ((wrap64 (2 + ((rd_T24 l0 1).f1))) : Int).toNat : List (S24))).bind fun y183 => (if y179.length + y183.length < 8796093022208 then ((some (y179 ++ y183 : List (S24))).bind fun y187 => ((tallowref09_integer.f x3_1).bind fun bt190 => (if 1 < (y187.length : Int) then (some (y187.set (1 : Int).toNat (⟨bt190.1, bt190.2⟩ : S24))) else (none)))) else (none))) else (none)) else (none)) else (none))) else (none))) else (none)) else (none)) = some r := by first | (rw [hji27] at H; exact H) | (simp only [hji27] at H ⊢; exact H)
     have hji27w : (IntKind.i64.wrap (2 + x3_1)) = ji27 := (i64_w _).trans hji27
     by_cases c28 : 0 ≤ (ji27)
     ·rw [if_pos c28] at H
      have c28b0 := eq_true c28
      have c28b1 : decide (0 ≤ (ji27)) = true := decide_eq_true c28
      clear c28
      by_cases c29 : (ji27) ≤ (l0.length : Int)
      ·rw [if_pos c29] at H
       have c29b0 := eq_true c29
       have c29b1 : decide ((ji27) ≤ (l0.length : Int)) = true := decide_eq_true c29
       clear c29
       obtain ⟨y175, hy175⟩ : ∃ y_ : List (S24), y_ = (l0.take ((ji27) : Int).toNat) := ⟨_, rfl⟩
       replace H : (if ([] : List (S24)).length + y175.length < 8796093022208 then ((some (([] : List (S24)) ++ y175 : List (S24))).bind fun y179 => (if 1 < (l0.length : Int) then (if 0 ≤ (wrap64 (2 + ((rd_T24 l0 1).f1))) then (if (wrap64 (2 + ((rd_T24 l0 1).f1))) ≤ (l0.length : Int) then ((some (l0.drop ((wrap64 (2 + ((rd_T24 l0 1).f1))) : Int).toNat : List (S24))).bind fun y183 => (if y179.length + y183.length < 8796093022208 then ((some (y179 ++ y183 : List (S24))).bind fun y187 => ((tallowref09_integer.f x3_1).bind fun bt190 => (if 1 < (y187.length : Int) then (some (y187.set (1 : Int).toNat (⟨bt190.1, bt190.2⟩ : S24))) else (none)))) else (none))) else (none)) else (none)) else (none))) else (none)) = some r := by first | (rw [hy175]; with_reducible exact H) | (have H2_ := (Option.bind_some _ _).symm.trans H; rw [hy175]; with_reducible exact H2_) | (have H2_ := (Option.bind_some _ _).symm.trans H; with_reducible exact H2_) | with_reducible exact H | (rw [hy175]; exact H) | exact H
       have Ny175 := Aside0.mk hy175
       clear hy175
       by_cases c30 : ([] : List (S24)).length + y175.length < 8796093022208
       ·rw [if_pos c30] at H
        have LMc30 := Aside0.mk c30
        clear c30
        obtain ⟨y179, hy179⟩ : ∃ y_ : List (S24), y_ = (([] : List (S24)) ++ y175) := ⟨_, rfl⟩
        replace H : (if 1 < (l0.length : Int) then (if 0 ≤ (wrap64 (2 + ((rd_T24 l0 1).f1))) then (if (wrap64 (2 + ((rd_T24 l0 1).f1))) ≤ (l0.length : Int) then ((some (l0.drop ((wrap64 (2 + ((rd_T24 l0 1).f1))) : Int).toNat : List (S24))).bind fun y183 => (if y179.length + y183.length < 8796093022208 then ((some (y179 ++ y183 : List (S24))).bind fun y187 => ((tallowref09_integer.f x3_1).bind fun bt190 => (if 1 < (y187.length : Int) then (some (y187.set (1 : Int).toNat (⟨bt190.1, bt190.2⟩ : S24))) else (none)))) else (none))) else (none)) else (none)) else (none)) = some r := by first | (rw [hy179]; with_reducible exact H) | (have H2_ := (Option.bind_some _ _).symm.trans H; rw [hy179]; with_reducible exact H2_) | (have H2_ := (Option.bind_some _ _).symm.trans H; with_reducible exact H2_) | with_reducible exact H | (rw [hy179]; exact H) | exact H
        have Ny179 := Aside0.mk hy179
        clear hy179
        by_cases c31 : 1 < (l0.length : Int)
        ·rw [if_pos c31] at H
         have c31b0 : decide (1 < (l0.length : Int)) = true := decide_eq_true c31
         have c31b1 : decide (1 < l0.length) = true := decide_eq_true (by omega)
         clear c31
         obtain ⟨ji32, hji32⟩ : ∃ j_ : Int, (wrap64 (2 + ((rd_T24 l0 1).f1))) = j_ := ⟨_, rfl⟩
         replace H : (if 0 ≤ (ji32) then (if (ji32) ≤ (l0.length : Int) then ((some (l0.drop ((ji32) : Int).toNat : List (S24))).bind fun y183 => (if y179.length + y183.length < 8796093022208 then ((some (y179 ++ y183 : List (S24))).bind fun y187 => ((tallowref09_integer.f x3_1).bind fun bt190 => (if 1 < (y187.length : Int) then (some (y187.set (1 : Int).toNat (⟨bt190.1, bt190.2⟩ : S24))) else (none)))) else (none))) else (none)) else (none)) = some r := by first | (rw [hji32] at H; exact H) | (simp only [hji32] at H ⊢; exact H)
         have hji32w : (IntKind.i64.wrap (2 + ((rd_T24 l0 1).f1))) = ji32 := (i64_w _).trans hji32
         by_cases c33 : 0 ≤ (ji32)
         ·rw [if_pos c33] at H
          have c33b0 := eq_true c33
          have c33b1 : decide (0 ≤ (ji32)) = true := decide_eq_true c33
          clear c33
          by_cases c34 : (ji32) ≤ (l0.length : Int)
          ·rw [if_pos c34] at H
           have c34b0 := eq_true c34
           have c34b1 : decide ((ji32) ≤ (l0.length : Int)) = true := decide_eq_true c34
           clear c34
           obtain ⟨y183, hy183⟩ : ∃ y_ : List (S24), y_ = (l0.drop ((ji32) : Int).toNat) := ⟨_, rfl⟩
           replace H : (if y179.length + y183.length < 8796093022208 then ((some (y179 ++ y183 : List (S24))).bind fun y187 => ((tallowref09_integer.f x3_1).bind fun bt190 => (if 1 < (y187.length : Int) then (some (y187.set (1 : Int).toNat (⟨bt190.1, bt190.2⟩ : S24))) else (none)))) else (none)) = some r := by first | (rw [hy183]; with_reducible exact H) | (have H2_ := (Option.bind_some _ _).symm.trans H; rw [hy183]; with_reducible exact H2_) | (have H2_ := (Option.bind_some _ _).symm.trans H; with_reducible exact H2_) | with_reducible exact H | (rw [hy183]; exact H) | exact H
           have Ny183 := Aside0.mk hy183
           clear hy183
           by_cases c35 : y179.length + y183.length < 8796093022208
           ·rw [if_pos c35] at H
            have LMc35 := Aside0.mk c35
            clear c35
            obtain ⟨y187, hy187⟩ : ∃ y_ : List (S24), y_ = (y179 ++ y183) := ⟨_, rfl⟩
            replace H : ((tallowref09_integer.f x3_1).bind fun bt190 => (if 1 < (y187.length : Int) then (some (y187.set (1 : Int).toNat (⟨bt190.1, bt190.2⟩ : S24))) else (none))) = some r := by first | (rw [hy187]; with_reducible exact H) | (have H2_ := (Option.bind_some _ _).symm.trans H; rw [hy187]; with_reducible exact H2_) | (have H2_ := (Option.bind_some _ _).symm.trans H; with_reducible exact H2_) | with_reducible exact H | (rw [hy187]; exact H) | exact H
            have Ny187 := Aside0.mk hy187
            clear hy187
            replace H := Option.bind_eq_some_iff.mp H
            obtain ⟨⟨t190, t191⟩, A360, H⟩ := H
            replace H : (if 1 < (y187.length : Int) then (some (y187.set (1 : Int).toNat (⟨t190, t191⟩ : S24))) else (none)) = some r := H
            have A36 := Aside0.mk A360
            clear A360
            by_cases c37 : 1 < (y187.length : Int)
            ·rw [if_pos c37] at H
             have c37b0 : decide (1 < (y187.length : Int)) = true := decide_eq_true c37
             have c37b1 : decide (1 < y187.length) = true := decide_eq_true (by omega)
             clear c37
             obtain ⟨y192, hy192⟩ : ∃ y_ : List (S24), y_ = (y187.set (1 : Int).toNat (⟨t190, t191⟩ : S24)) := ⟨_, rfl⟩
             replace H : (some y192) = some r := by first | (rw [hy192]; with_reducible exact H) | (have H2_ := (Option.bind_some _ _).symm.trans H; rw [hy192]; with_reducible exact H2_) | (have H2_ := (Option.bind_some _ _).symm.trans H; with_reducible exact H2_) | with_reducible exact H | (rw [hy192]; exact H) | exact H
             have Ny192 := Aside0.mk hy192
             clear hy192
             obtain rfl := Option.some.inj H
             have q39 : ((ji27) : Int) ≤ ((l0.length : Int) : Int) := of_decide_eq_true (by first | (with_reducible assumption) | assumption)
             obtain ⟨i039, hi039, _, hsz39, _⟩ := info_parts info24
             have hroom39 : l0.length ≤ c0 := HC0.out
             have hC39 : Kd.C k24 _ (some ad155) l0.length l0 := HR0.out
             have hcut39 := cut_to (P := Try.prog) 22 24 .i64 Try.underlying22 hi039 (some ad155) l0.length c0 (ji27) (of_decide_eq_true (by first | (with_reducible assumption) | assumption)) q39 hroom39
             have hr39 := Kd.C_take (m := ((ji27) : Int).toNat) hC39 (by omega)
             have hy39 : y175.length = ((ji27) : Int).toNat := (by rw [Ny175.out, List.length_take]; omega)
             rw [← Ny175.out] at hr39
             rw [← hy39] at hcut39
             have HR178 := Aside0.mk hr39
             have HC178 := Aside0.mk (show y175.length ≤ c0 from by omega)
             clear hr39 hC39 hroom39 hi039 hsz39
             have KY39 := Aside0.mk hy39
             clear hy39
             replace q39 := eq_true q39
             go_wp2_with (first | ((with_reducible refine gate_builtin (b := .append) (xs := #[.tmp 23, .tmp 27]) rfl ?_); at_builtin; refine Kd.R_append_rows k24 (w0 := w) w.heap.size rfl (.tmp 23) (.tmp 27) 22 24 (.agg #[(.int .i64 0), (.int .i64 0)]) 16 rfl Try.underlying22 info24 rfl (by decide) (by omega) (.slice none 0 0) ([] : List (S24)) y175 _ _ _ (fun _ => True) (fun _ => False) rfl rfl ?aO ?aR (fun _ _ h => h) (fun _ h => h.elim) ?aF ?aB ?aS ?aL ?_; (case aR => repeat (first | exact (Kd.C_below HR178.out HB.out) | (with_reducible refine Kd.C_alloc ?_ _) | (with_reducible refine Kd.C_drewN ?_ _) | (with_reducible refine Kd.C_drew ?_))); (case aB => exact (by repeat (first | (with_reducible first | exact HB.out | apply below_alloc | apply pw_below_drewN | apply below_drew1) | exact HB.out))); (case aF => exact (fun _ _ => trivial)); (case aO => exact ((Kd.R_nil _ _ _ _ (fun _ => True)))); (case aS => exact (below_size (by repeat (first | (with_reducible first | exact HB.out | apply below_alloc | apply pw_below_drewN | apply below_drew1) | exact HB.out)))); (case aL => have := LMc30.out; omega); intro v180 w40 ho hb hg hat; rw [← Ny179.out] at ho; have n0_ := Aside0.mk (hb); have n1_ := Aside0.mk (ho); clear HB; have HB := n0_; have HO181 := n1_; clear n0_ n1_; clear ho hb hg hat; have p182 : 0 ≤ (1 : Int) := (by omega); have q182 : 1 < (l0.length : Int) := of_decide_eq_true (by first | (with_reducible assumption) | assumption); obtain ⟨ad182, e182, hx182_0, hx182_1⟩ := at_T24 HR0.out 1 p182 q182; obtain rfl : ad155 = ad182 := (by injection e182); (try simp only [show (1 : Int).toNat = 1 from rfl, Nat.reduceMul, Nat.reduceEqDiff, Go.Addr.add, ↓reduceIte] at hx182_0); (try simp only [show (1 : Int).toNat = 1 from rfl, Nat.reduceMul, Nat.reduceEqDiff, Go.Addr.add, ↓reduceIte] at hx182_1); have qi182 : (1 < l0.length) = True := eq_true (by omega); (try rw [show ((1 : Int)).toNat = 1 from rfl] at hx182_0); (try rw [show 1 * 2 = 2 from rfl] at hx182_0); (try rw [show ((1 : Int)).toNat = 1 from rfl] at hx182_1); (try rw [show 1 * 2 = 2 from rfl] at hx182_1); replace hx182_0 := (HB.out.cell (World.block_lt_of_cell? w _ hx182_0)).trans hx182_0; replace hx182_1 := (HB.out.cell (World.block_lt_of_cell? w _ hx182_1)).trans hx182_1; replace p182 := eq_true p182; replace q182 := eq_true q182; have q41 : ((ji32) : Int) ≤ ((l0.length : Int) : Int) := of_decide_eq_true (by first | (with_reducible assumption) | assumption); obtain ⟨i041, hi041, _, hsz41, _⟩ := info_parts info24; have hroom41 : l0.length ≤ c0 := HC0.out; have hC41 : Kd.C k24 _ (some ad155) l0.length l0 := HR0.out; have q041 : (0 : Int) ≤ ((ji32) : Int) := of_decide_eq_true (by first | (with_reducible assumption) | assumption); have hcut41 := cut_from (P := Try.prog) 22 24 .i64 Try.underlying22 hi041 2 hsz41 (some ad155) l0.length c0 (ji32) q041 q41; have hr41 := Kd.C_drop (m := ((ji32) : Int).toNat) (c := c0) hC41 (by omega) hroom41; obtain ⟨A41, hA41⟩ : ∃ A1, A1 = (if c0 = ((ji32) : Int).toNat then (some ad155) else ((some ad155) : Option Addr).map (·.add (((ji32) : Int).toNat * 2))) := ⟨_, rfl⟩; obtain ⟨c41, hc41⟩ : ∃ c1, c1 = c0 - ((ji32) : Int).toNat := ⟨_, rfl⟩; have hy41 : y183.length = l0.length - ((ji32) : Int).toNat := (by rw [Ny183.out, List.length_drop] <;> omega); rw [show (l0).drop ((ji32) : Int).toNat = y183 from Ny183.out.symm] at hr41; replace hr41 : Kd.C k24 _ A41 y183.length y183 := (by rw [hA41]; exact hr41); rw [← hy41, ← hA41, ← hc41] at hcut41; have HR186 := Aside0.mk hr41; have HC186 := Aside0.mk (show y183.length ≤ c41 from by rw [hy41, hc41]; exact Nat.sub_le_sub_right hroom41 _); clear hr41 hC41 hroom41 hi041 hsz41 hc41; have KY41 := Aside0.mk hy41; have KA41 := Aside0.mk hA41; clear hy41 hA41; replace q41 := eq_true q41) | ((with_reducible refine gate_builtin (b := .append) (xs := #[.tmp 29, .tmp 36]) rfl ?_); at_builtin; refine Kd.R_append_rows k24 (w0 := w) w.heap.size rfl (.tmp 29) (.tmp 36) 22 24 (.agg #[(.int .i64 0), (.int .i64 0)]) 16 rfl Try.underlying22 info24 rfl (by decide) (by omega) v180 y179 y183 _ _ _ (fun _ => True) (fun _ => False) rfl rfl ?aO ?aR (fun _ _ h => h) (fun _ h => h.elim) ?aF ?aB ?aS ?aL ?_; (case aR => repeat (first | exact (Kd.C_below HR186.out HB.out) | (with_reducible refine Kd.C_alloc ?_ _) | (with_reducible refine Kd.C_drewN ?_ _) | (with_reducible refine Kd.C_drew ?_))); (case aB => exact (by repeat (first | (with_reducible first | exact HB.out | apply below_alloc | apply pw_below_drewN | apply below_drew1) | exact HB.out))); (case aF => exact (fun _ _ => trivial)); (case aO => exact (by (with_reducible repeat (first | apply Kd.R_alloc | apply Kd.R_drewN | apply Kd.R_drew)); exact HO181.out)); (case aS => exact (below_size (by repeat (first | (with_reducible first | exact HB.out | apply below_alloc | apply pw_below_drewN | apply below_drew1) | exact HB.out)))); (case aL => have := LMc35.out; omega); intro v188 w42 ho hb hg hat; rw [← Ny187.out] at ho; have n0_ := Aside0.mk (hb); have n1_ := Aside0.mk (ho); clear HB; clear HO181; have HB := n0_; have HO189 := n1_; clear n0_ n1_; clear ho hb hg hat) | ((with_reducible refine gate_callee (f := 45) rfl ?_); refine goesL_ (some 40) rfl rfl Try.func45 (by kernel_rfl) rfl #[.int .i64 x3_1] rfl (by (try simp only [List.map_toArray, List.map_cons, List.map_nil]); first | done | rfl | (simp only [List.length_drop, List.length_take]; rfl)) ?_; (with_reducible refine (tallowref09_integer.calls x3_1 t190 t191 _ A36.out).mono ?_); rintro e w43 ⟨rfl, hb⟩; refine ⟨_, rfl, ?_⟩; have n0_ := Aside0.mk (Kd.R_below (by (with_reducible repeat (first | apply Kd.R_alloc | apply Kd.R_drewN | apply Kd.R_drew)); exact HO189.out) hb); have n1_ := Aside0.mk (below_step (by repeat (first | (with_reducible first | exact HB.out | apply below_alloc | apply pw_below_drewN | apply below_drew1) | exact HB.out)) hb); clear HO189; clear HB; have HO189 := n0_; have HB := n1_; clear n0_ n1_; (try clear hb); (try clear hb2); (try clear hk); (try clear hi); have p38 : 0 ≤ (1 : Int) := (by omega); have q38 : (1 : Int) < ((y187.length : Int) : Int) := of_decide_eq_true (by first | (with_reducible assumption) | assumption); have qi38 : (1 < y187.length) = True := eq_true (by omega); obtain ⟨go38, co38, eo38, gb38, gl38, cl38, HG38⟩ := Kd.R_form HO189.out (by omega); (first | cases eo38 | (injection eo38 with ea_ en_ ec_; (first | subst ea_ | (injection ea_ with ea_; subst ea_)); subst ec_; clear en_)); have GB38 := Aside0.mk gb38; have GG38 := Aside0.mk HG38; clear gb38 gl38 HG38; obtain ⟨ce38, hcl38, hM38, hcc38, hfr38⟩ := Kd.R_elem HO189.out z24 (1 : Int) p38 q38; obtain rfl := k24_openM hM38; have hx38_0 : w43.cell? ⟨go38, (1 : Int).toNat * 2, none⟩ = some (.int .i64 ((rd_T24 y187 1).f0)) := hcc38 0 _ rfl; have hx38_1 : w43.cell? ⟨go38, (1 : Int).toNat * 2 + 1, none⟩ = some (.int .i64 ((rd_T24 y187 1).f1)) := hcc38 1 _ rfl; have hf38_0 : w43.frozen? ⟨go38, (1 : Int).toNat * 2, none⟩ = false := hfr38 0; have hf38_1 : w43.frozen? ⟨go38, (1 : Int).toNat * 2 + 1, none⟩ = false := hfr38 1; clear hcl38 hcc38 hfr38 hM38; (try rw [show ((1 : Int)).toNat = 1 from rfl] at hx38_0); (try simp only [Nat.reduceMul, Nat.zero_mul, Nat.zero_add, Nat.reduceAdd] at hx38_0); (try rw [show ((1 : Int)).toNat = 1 from rfl] at hf38_0); (try simp only [Nat.reduceMul, Nat.zero_mul, Nat.zero_add, Nat.reduceAdd] at hf38_0); (try rw [show ((1 : Int)).toNat = 1 from rfl] at hx38_1); (try simp only [Nat.reduceMul, Nat.zero_mul, Nat.zero_add, Nat.reduceAdd] at hx38_1); (try rw [show ((1 : Int)).toNat = 1 from rfl] at hf38_1); (try simp only [Nat.reduceMul, Nat.zero_mul, Nat.zero_add, Nat.reduceAdd] at hf38_1); replace p38 := eq_true p38; replace q38 := eq_true q38; have HX44 := Aside0.mk (show Kd.R k24 24 w43 w.heap.size (fun _ => True) (.slice (some ⟨go38, 0, none⟩) y187.length co38) y187 from (by (with_reducible repeat (first | apply Kd.R_alloc | apply Kd.R_drewN | apply Kd.R_drew)); exact HO189.out)); obtain ⟨ce44, hcl44, hM44, hcc44, hfr44⟩ := Kd.R_elem HX44.out z24 (1 : Int) (by omega) (by have h_ : (1 : Int) < ((y187.length : Int) : Int) := of_decide_eq_true (by first | (with_reducible assumption) | assumption); first | exact h_ | (have e_ := (Kd.R_reads' HO189.out).1; omega) | simpa using h_); obtain rfl := k24_openM hM44; have HP44 := Kd.R_seg HX44.out (1 : Int) (by omega) (by have h_ : (1 : Int) < ((y187.length : Int) : Int) := of_decide_eq_true (by first | (with_reducible assumption) | assumption); first | exact h_ | (have e_ := (Kd.R_reads' HO189.out).1; omega) | simpa using h_) (seg := [.int .i64 t190, .int .i64 t191]) (j := 0) hcl44 hcc44 (show 2 ≤ 2 from by decide) (x' := (⟨t190, t191⟩ : S24)) (k24_mkM _ _ _ (⟨t190, t191⟩ : S24) ) (fun _ hk => hk); have hx44_0 := hcc44 0 _ rfl; (try simp only [show (k24).sz = 2 from rfl, Nat.mul_one, Nat.add_zero] at hx44_0); (try rw [show ((1 : Int)).toNat = 1 from rfl] at hx44_0); (try simp only [Nat.reduceMul, Nat.zero_mul, Nat.zero_add, Nat.reduceAdd] at hx44_0); have hf44_0 := hfr44 0; (try simp only [show (k24).sz = 2 from rfl, Nat.mul_one, Nat.add_zero] at hf44_0); (try rw [show ((1 : Int)).toNat = 1 from rfl] at hf44_0); (try simp only [Nat.reduceMul, Nat.zero_mul, Nat.zero_add, Nat.reduceAdd] at hf44_0); have hx44_1 := hcc44 1 _ rfl; (try simp only [show (k24).sz = 2 from rfl, Nat.mul_one, Nat.add_zero] at hx44_1); (try rw [show ((1 : Int)).toNat = 1 from rfl] at hx44_1); (try simp only [Nat.reduceMul, Nat.zero_mul, Nat.zero_add, Nat.reduceAdd] at hx44_1); have hf44_1 := hfr44 1; (try simp only [show (k24).sz = 2 from rfl, Nat.mul_one, Nat.add_zero] at hf44_1); (try rw [show ((1 : Int)).toNat = 1 from rfl] at hf44_1); (try simp only [Nat.reduceMul, Nat.zero_mul, Nat.zero_add, Nat.reduceAdd] at hf44_1); clear hcl44 hcc44 hfr44 hM44) | ((with_reducible refine gate_store (t := 24) (p := 41) rfl ?_); refine store_event (t := 24) (p := 41) (v := ?vo_w45) (w1 := ((w43.setCell ⟨go38, 2, none⟩ (.int .i64 t190)).setCell ⟨go38, 3, none⟩ (.int .i64 t191))) ?hg ?ho ?hn ?hr ?_; (case ho => rfl); (case hg => rfl); (case hn => rfl); (case hr => first | (go_simp; done) | (go_simp; rfl)); intro w45 hw; have hg : w43.grownBy w45 (some go38) := (by rw [hw]; exact HP44.2); have hp_ : Kd.R k24 24 w45 w.heap.size (fun _ => True) (.slice (some ⟨go38, 0, none⟩) y187.length co38) y192 := (by rw [hw, Ny192.out]; exact HP44.1); clear HP44; have n0_ := Aside0.mk (hp_); have n1_ := Aside0.mk ((by rw [hw]; exact below_set (below_set (HB.out) GB38.out) GB38.out : Below w.heap.size w w45)); clear HO189; clear HB; have HO189 := n0_; have HB := n1_; clear n0_ n1_; clear hg hw hp_))
             go_ret
             exact ⟨_, by first | rfl | (simp [errW_none, errW_some] <;> rfl) | (simp only [← hji27, ← hji32]; first | rfl | (simp [errW_none, errW_some] <;> rfl)) | (simp [*, errW_none, errW_some] <;> rfl), by (with_reducible repeat (first | apply Kd.R_alloc | apply Kd.R_drewN | apply Kd.R_drew)); exact HO189.out, by repeat (first | (with_reducible first | exact HB.out | apply below_alloc | apply pw_below_drewN | apply below_drew1) | exact HB.out)⟩
            ·rw [if_neg c37] at H
             exact absurd H (by simp)
           ·rw [if_neg c35] at H
            exact absurd H (by simp)
          ·rw [if_neg c34] at H
           exact absurd H (by simp)
         ·rw [if_neg c33] at H
          exact absurd H (by simp)
        ·rw [if_neg c31] at H
         exact absurd H (by simp)
       ·rw [if_neg c30] at H
        exact absurd H (by simp)
      ·rw [if_neg c29] at H
       exact absurd H (by simp)
     ·rw [if_neg c28] at H
      exact absurd H (by simp)
 ·rw [if_neg c2] at H
  exact absurd H (by simp)
end Go.Proofs.YtadhkfklkbdabaaR.G
end
