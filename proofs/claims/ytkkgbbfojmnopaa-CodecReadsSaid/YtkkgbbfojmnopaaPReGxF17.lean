import Derived.Test.YtkkgbbfojmnopaaPReGx0
import Derived.Test.YtkkgbbfojmnopaaPReGxE42
import Derived.Test.YtkkgbbfojmnopaaPReGxE50
import Derived.Test.YtkkgbbfojmnopaaPReGxE52
set_option maxHeartbeats 8000000
set_option maxRecDepth 100000
set_option linter.unusedVariables false
set_option linter.unusedSimpArgs false
section
namespace Go.Proofs.Ytkkgbbfojmnopaa.G
open Go.RowKit Go.Proofs.YtkkgbbfojmnopaaW.PrintWords Go.Proofs.YtkkgbbfojmnopaaW.PrintLast Go.Proofs.YtkkgbbfojmnopaaW.PrintMore
attribute [local go_sem] q26q q27q q34q q35q q22q q23q q28q q29q
attribute [local go_sem high] eqA50 eqA42 eqA52
def api_Up_64.l0 : Nat → List (S50) → List (S50) → Int → Int → Option (Bool)
 | 0, _, _, _, _ => none
 | k + 1, x0, x1, x12, x13 => if x13 < x12 then (if 0 ≤ x13 then (if x13 < (x0.length : Int) then (if x13 < (x1.length : Int) then (if (!(((rd_T50 x0 x13).f0) == ((rd_T50 x1 x13).f0)) || (!(((rd_T50 x0 x13).f1) == ((rd_T50 x1 x13).f1)))) = true then (some false) else (api_Up_64.l0 k x0 x1 x12 (wrap64 (x13 + 1)))) else (none)) else (none)) else (none)) else (some true)
def api_Up_64.f (k : Nat) (l0 : List (S50)) (l1 : List (S50)) : Option (Bool) := if (l0.length : Int) = (l1.length : Int) then (api_Up_64.l0 k l0 l1 (l0.length : Int) 0) else (some false)
theorem api_Up_64.calls (k : Nat) (A0 : Option Addr) (c0 : Nat) (l0 : List (S50)) (A1 : Option Addr) (c1 : Nat) (l1 : List (S50)) (r : Bool) (w : World) (hr0 : Kd.C k50 w A0 l0.length l0) (hc0 : l0.length ≤ c0) (hr1 : Kd.C k50 w A1 l1.length l1) (hc1 : l1.length ≤ c1) (h : api_Up_64.f k l0 l1 = some r) :
  Calls Try.prog 64 #[.slice A0 l0.length c0, .slice A1 l1.length c1] w fun e w' => e = .returned (.bool r) ∧ Drawn0 w w' := by
 have hu50 := Try.underlying50
 have HR0 := Aq.mk hr0
 have HC0 := Aq.mk hc0
 clear hr0 hc0
 have HR1 := Aq.mk hr1
 have HC1 := Aq.mk hc1
 clear hr1 hc1
 have H : (if (l0.length : Int) = (l1.length : Int) then (api_Up_64.l0 k l0 l1 (l0.length : Int) 0) else (some false)) = some r := h
 clear h
 by_cases c3 : (l0.length : Int) = (l1.length : Int)
 case neg =>
  rw [if_neg c3] at H
  have c3b0 : ((l0.length : Int) == (l1.length : Int)) = false := beq_eq_false_iff_ne.mpr c3
  have c3b1 : ((l0.length : Int) != (l1.length : Int)) = true := bne_iff_ne.mpr c3
  have c3b2 : (l0.length == l1.length) = false := by first | simpa using c3 | (simp at c3 ⊢; omega)
  obtain rfl := Option.some.inj H
  go_enter Try.func64, Try.ntmps64
  go_wp2
  repeat (go_quiet (fail); try go_wp2)
  go_ret
  exact ⟨by first | rfl | (simp; done) | (simp [*]; done), by repeat (first | exact Drawn0.refl _ | apply Drawn0.step)⟩
 rw [if_pos c3] at H
 have c3b0 : ((l0.length : Int) == (l1.length : Int)) = true := beq_iff_eq.mpr c3
 have c3b1 : ((l0.length : Int) != (l1.length : Int)) = false := bne_eq_false_iff_eq.mpr c3
 have c3b2 : (l0.length == l1.length) = true := by first | simpa using c3 | (simp at c3 ⊢; omega)
 clear c3
 have H' := Aq.mk H
 clear H
 go_enter Try.func64, Try.ntmps64
 go_wp2
 repeat (go_quiet (fail); try go_wp2)
 go_loopg [13] k (fun kq v13 w' => ∃ (x13_1 : Int), v13 = .int .i64 x13_1 ∧ Aq (api_Up_64.l0 kq l0 l1 (l0.length : Int) x13_1 = some r) ∧ Aq (kq ≤ k) ∧ Drawn0 w w')
 case atStart => exact ⟨(0), (by first | rfl | (simp; done) | (simp [*]; done)), H', ⟨Nat.le_refl _⟩, by repeat (first | exact Drawn0.refl _ | apply Drawn0.step)⟩
 case round =>
  clear H'
  try clear c3b0
  try clear c3b1
  try clear c3b2
  obtain ⟨x13_1, rfl, HA, HK1, ⟨m1, rfl⟩⟩ := hrel
  cases gk with
  | zero => exact absurd HA.out (by simp [api_Up_64.l0])
  | succ k1 =>
   have H := HA.out
   clear HA
   simp only [api_Up_64.l0] at H
   by_cases c4 : x13_1 < (l0.length : Int)
   case neg =>
    rw [if_neg c4] at H
    have c4b0 : decide (x13_1 < (l0.length : Int)) = false := decide_eq_false c4
    clear c4
    obtain rfl := Option.some.inj H
    go_wp2
    repeat (go_quiet (fail); try go_wp2)
    go_ret
    exact ⟨by first | rfl | (simp; done) | (simp [*]; done), by repeat (first | exact Drawn0.refl _ | apply Drawn0.step)⟩
   rw [if_pos c4] at H
   have c4b0 : decide (x13_1 < (l0.length : Int)) = true := decide_eq_true c4
   clear c4
   by_cases c5 : 0 ≤ x13_1
   case neg =>
    rw [if_neg c5] at H
    exact absurd H (by simp)
   rw [if_pos c5] at H
   have c5b0 : decide (0 ≤ x13_1) = true := decide_eq_true c5
   clear c5
   by_cases c6 : x13_1 < (l0.length : Int)
   case neg =>
    rw [if_neg c6] at H
    exact absurd H (by simp)
   rw [if_pos c6] at H
   have c6b0 : decide (x13_1 < (l0.length : Int)) = true := decide_eq_true c6
   clear c6
   by_cases c7 : x13_1 < (l1.length : Int)
   case neg =>
    rw [if_neg c7] at H
    exact absurd H (by simp)
   rw [if_pos c7] at H
   have c7b0 : decide (x13_1 < (l1.length : Int)) = true := decide_eq_true c7
   clear c7
   by_cases c8 : (!(((rd_T50 l0 x13_1).f0) == ((rd_T50 l1 x13_1).f0)) || (!(((rd_T50 l0 x13_1).f1) == ((rd_T50 l1 x13_1).f1)))) = true
   ·rw [if_pos c8] at H
    have c8b0 : (!(((rd_T50 l0 x13_1).f0) == ((rd_T50 l1 x13_1).f0)) || (!(((rd_T50 l0 x13_1).f1) == ((rd_T50 l1 x13_1).f1)))) = true := c8
    clear c8
    obtain rfl := Option.some.inj H
    have p101 : 0 ≤ (x13_1 : Int) := of_decide_eq_true (by first | (with_reducible assumption) | assumption)
    have q101 : x13_1 < (l0.length : Int) := of_decide_eq_true (by first | (with_reducible assumption) | assumption)
    obtain ⟨ad101, e101, hx101_0, hx101_1⟩ := at_T50 HR0.out x13_1 p101 q101
    cases e101
    replace p101 := eq_true p101
    replace q101 := eq_true q101
    have p102 : 0 ≤ (x13_1 : Int) := of_decide_eq_true (by first | (with_reducible assumption) | assumption)
    have q102 : x13_1 < (l1.length : Int) := of_decide_eq_true (by first | (with_reducible assumption) | assumption)
    obtain ⟨ad102, e102, hx102_0, hx102_1⟩ := at_T50 HR1.out x13_1 p102 q102
    cases e102
    replace p102 := eq_true p102
    replace q102 := eq_true q102
    go_wp2
    repeat (go_quiet (fail); try go_wp2)
    go_ret
    exact ⟨by first | rfl | (simp; done) | (simp [*]; done), by repeat (first | exact Drawn0.refl _ | apply Drawn0.step)⟩
   rw [if_neg c8] at H
   have c8b0 : (!(((rd_T50 l0 x13_1).f0) == ((rd_T50 l1 x13_1).f0)) || (!(((rd_T50 l0 x13_1).f1) == ((rd_T50 l1 x13_1).f1)))) = false := by simpa using c8
   clear c8
   have H' := Aq.mk H
   clear H
   have p101 : 0 ≤ (x13_1 : Int) := of_decide_eq_true (by first | (with_reducible assumption) | assumption)
   have q101 : x13_1 < (l0.length : Int) := of_decide_eq_true (by first | (with_reducible assumption) | assumption)
   obtain ⟨ad101, e101, hx101_0, hx101_1⟩ := at_T50 HR0.out x13_1 p101 q101
   cases e101
   replace p101 := eq_true p101
   replace q101 := eq_true q101
   have p102 : 0 ≤ (x13_1 : Int) := of_decide_eq_true (by first | (with_reducible assumption) | assumption)
   have q102 : x13_1 < (l1.length : Int) := of_decide_eq_true (by first | (with_reducible assumption) | assumption)
   obtain ⟨ad102, e102, hx102_0, hx102_1⟩ := at_T50 HR1.out x13_1 p102 q102
   cases e102
   replace p102 := eq_true p102
   replace q102 := eq_true q102
   go_wp2
   repeat (go_quiet (fail); try go_wp2)
   go_roundg k1
   case measure => have := HK1.out; omega
   case rel => exact ⟨(wrap64 (x13_1 + 1)), (by first | rfl | (simp; done) | (simp [*]; done)), H', ⟨by have := HK1.out; omega⟩, by repeat (first | exact Drawn0.refl _ | apply Drawn0.step)⟩
def api_Const_65.l0 : Nat → List (S42) → List (S42) → Int → Int → Option (Bool)
 | 0, _, _, _, _ => none
 | k + 1, x0, x1, x12, x13 => if x13 < x12 then (if 0 ≤ x13 then (if x13 < (x0.length : Int) then (if x13 < (x1.length : Int) then (if (!(((rd_T42 x0 x13).f0) == ((rd_T42 x1 x13).f0)) || (!(((rd_T42 x0 x13).f1) == ((rd_T42 x1 x13).f1)) || (!((((rd_T42 x0 x13).f2).toList) == (((rd_T42 x1 x13).f2).toList))))) = true then (some false) else (api_Const_65.l0 k x0 x1 x12 (wrap64 (x13 + 1)))) else (none)) else (none)) else (none)) else (some true)
def api_Const_65.f (k : Nat) (l0 : List (S42)) (l1 : List (S42)) : Option (Bool) := if (l0.length : Int) = (l1.length : Int) then (api_Const_65.l0 k l0 l1 (l0.length : Int) 0) else (some false)
theorem api_Const_65.calls (k : Nat) (A0 : Option Addr) (c0 : Nat) (l0 : List (S42)) (A1 : Option Addr) (c1 : Nat) (l1 : List (S42)) (r : Bool) (w : World) (hr0 : Kd.C k42 w A0 l0.length l0) (hc0 : l0.length ≤ c0) (hr1 : Kd.C k42 w A1 l1.length l1) (hc1 : l1.length ≤ c1) (h : api_Const_65.f k l0 l1 = some r) :
  Calls Try.prog 65 #[.slice A0 l0.length c0, .slice A1 l1.length c1] w fun e w' => e = .returned (.bool r) ∧ Drawn0 w w' := by
 have hu42 := Try.underlying42
 have HR0 := Aq.mk hr0
 have HC0 := Aq.mk hc0
 clear hr0 hc0
 have HR1 := Aq.mk hr1
 have HC1 := Aq.mk hc1
 clear hr1 hc1
 have H : (if (l0.length : Int) = (l1.length : Int) then (api_Const_65.l0 k l0 l1 (l0.length : Int) 0) else (some false)) = some r := h
 clear h
 by_cases c3 : (l0.length : Int) = (l1.length : Int)
 case neg =>
  rw [if_neg c3] at H
  have c3b0 : ((l0.length : Int) == (l1.length : Int)) = false := beq_eq_false_iff_ne.mpr c3
  have c3b1 : ((l0.length : Int) != (l1.length : Int)) = true := bne_iff_ne.mpr c3
  have c3b2 : (l0.length == l1.length) = false := by first | simpa using c3 | (simp at c3 ⊢; omega)
  obtain rfl := Option.some.inj H
  go_enter Try.func65, Try.ntmps65
  go_wp2
  repeat (go_quiet (fail); try go_wp2)
  go_ret
  exact ⟨by first | rfl | (simp; done) | (simp [*]; done), by repeat (first | exact Drawn0.refl _ | apply Drawn0.step)⟩
 rw [if_pos c3] at H
 have c3b0 : ((l0.length : Int) == (l1.length : Int)) = true := beq_iff_eq.mpr c3
 have c3b1 : ((l0.length : Int) != (l1.length : Int)) = false := bne_eq_false_iff_eq.mpr c3
 have c3b2 : (l0.length == l1.length) = true := by first | simpa using c3 | (simp at c3 ⊢; omega)
 clear c3
 have H' := Aq.mk H
 clear H
 go_enter Try.func65, Try.ntmps65
 go_wp2
 repeat (go_quiet (fail); try go_wp2)
 go_loopg [13] k (fun kq v13 w' => ∃ (x13_1 : Int), v13 = .int .i64 x13_1 ∧ Aq (api_Const_65.l0 kq l0 l1 (l0.length : Int) x13_1 = some r) ∧ Aq (kq ≤ k) ∧ Drawn0 w w')
 case atStart => exact ⟨(0), (by first | rfl | (simp; done) | (simp [*]; done)), H', ⟨Nat.le_refl _⟩, by repeat (first | exact Drawn0.refl _ | apply Drawn0.step)⟩
 case round =>
  clear H'
  try clear c3b0
  try clear c3b1
  try clear c3b2
  obtain ⟨x13_1, rfl, HA, HK1, ⟨m1, rfl⟩⟩ := hrel
  cases gk with
  | zero => exact absurd HA.out (by simp [api_Const_65.l0])
  | succ k1 =>
   have H := HA.out
   clear HA
   simp only [api_Const_65.l0] at H
   by_cases c4 : x13_1 < (l0.length : Int)
   case neg =>
    rw [if_neg c4] at H
    have c4b0 : decide (x13_1 < (l0.length : Int)) = false := decide_eq_false c4
    clear c4
    obtain rfl := Option.some.inj H
    go_wp2
    repeat (go_quiet (fail); try go_wp2)
    go_ret
    exact ⟨by first | rfl | (simp; done) | (simp [*]; done), by repeat (first | exact Drawn0.refl _ | apply Drawn0.step)⟩
   rw [if_pos c4] at H
   have c4b0 : decide (x13_1 < (l0.length : Int)) = true := decide_eq_true c4
   clear c4
   by_cases c5 : 0 ≤ x13_1
   case neg =>
    rw [if_neg c5] at H
    exact absurd H (by simp)
   rw [if_pos c5] at H
   have c5b0 : decide (0 ≤ x13_1) = true := decide_eq_true c5
   clear c5
   by_cases c6 : x13_1 < (l0.length : Int)
   case neg =>
    rw [if_neg c6] at H
    exact absurd H (by simp)
   rw [if_pos c6] at H
   have c6b0 : decide (x13_1 < (l0.length : Int)) = true := decide_eq_true c6
   clear c6
   by_cases c7 : x13_1 < (l1.length : Int)
   case neg =>
    rw [if_neg c7] at H
    exact absurd H (by simp)
   rw [if_pos c7] at H
   have c7b0 : decide (x13_1 < (l1.length : Int)) = true := decide_eq_true c7
   clear c7
   by_cases c8 : (!(((rd_T42 l0 x13_1).f0) == ((rd_T42 l1 x13_1).f0)) || (!(((rd_T42 l0 x13_1).f1) == ((rd_T42 l1 x13_1).f1)) || (!((((rd_T42 l0 x13_1).f2).toList) == (((rd_T42 l1 x13_1).f2).toList))))) = true
   ·rw [if_pos c8] at H
    have c8b0 : (!(((rd_T42 l0 x13_1).f0) == ((rd_T42 l1 x13_1).f0)) || (!(((rd_T42 l0 x13_1).f1) == ((rd_T42 l1 x13_1).f1)) || (!((((rd_T42 l0 x13_1).f2).toList) == (((rd_T42 l1 x13_1).f2).toList))))) = true := c8
    clear c8
    obtain rfl := Option.some.inj H
    have p104 : 0 ≤ (x13_1 : Int) := of_decide_eq_true (by first | (with_reducible assumption) | assumption)
    have q104 : x13_1 < (l0.length : Int) := of_decide_eq_true (by first | (with_reducible assumption) | assumption)
    obtain ⟨ad104, e104, hx104_0, hx104_1, hx104_2⟩ := at_T42 HR0.out x13_1 p104 q104
    cases e104
    replace p104 := eq_true p104
    replace q104 := eq_true q104
    have p105 : 0 ≤ (x13_1 : Int) := of_decide_eq_true (by first | (with_reducible assumption) | assumption)
    have q105 : x13_1 < (l1.length : Int) := of_decide_eq_true (by first | (with_reducible assumption) | assumption)
    obtain ⟨ad105, e105, hx105_0, hx105_1, hx105_2⟩ := at_T42 HR1.out x13_1 p105 q105
    cases e105
    replace p105 := eq_true p105
    replace q105 := eq_true q105
    go_wp2
    repeat (go_quiet (fail); try go_wp2)
    go_ret
    exact ⟨by first | rfl | (simp; done) | (simp [*]; done), by repeat (first | exact Drawn0.refl _ | apply Drawn0.step)⟩
   rw [if_neg c8] at H
   have c8b0 : (!(((rd_T42 l0 x13_1).f0) == ((rd_T42 l1 x13_1).f0)) || (!(((rd_T42 l0 x13_1).f1) == ((rd_T42 l1 x13_1).f1)) || (!((((rd_T42 l0 x13_1).f2).toList) == (((rd_T42 l1 x13_1).f2).toList))))) = false := by simpa using c8
   clear c8
   have H' := Aq.mk H
   clear H
   have p104 : 0 ≤ (x13_1 : Int) := of_decide_eq_true (by first | (with_reducible assumption) | assumption)
   have q104 : x13_1 < (l0.length : Int) := of_decide_eq_true (by first | (with_reducible assumption) | assumption)
   obtain ⟨ad104, e104, hx104_0, hx104_1, hx104_2⟩ := at_T42 HR0.out x13_1 p104 q104
   cases e104
   replace p104 := eq_true p104
   replace q104 := eq_true q104
   have p105 : 0 ≤ (x13_1 : Int) := of_decide_eq_true (by first | (with_reducible assumption) | assumption)
   have q105 : x13_1 < (l1.length : Int) := of_decide_eq_true (by first | (with_reducible assumption) | assumption)
   obtain ⟨ad105, e105, hx105_0, hx105_1, hx105_2⟩ := at_T42 HR1.out x13_1 p105 q105
   cases e105
   replace p105 := eq_true p105
   replace q105 := eq_true q105
   go_wp2
   repeat (go_quiet (fail); try go_wp2)
   go_roundg k1
   case measure => have := HK1.out; omega
   case rel => exact ⟨(wrap64 (x13_1 + 1)), (by first | rfl | (simp; done) | (simp [*]; done)), H', ⟨by have := HK1.out; omega⟩, by repeat (first | exact Drawn0.refl _ | apply Drawn0.step)⟩
def api_Instr_66.l0 : Nat → List (S52) → List (S52) → Int → Int → Option (Bool)
 | 0, _, _, _, _ => none
 | k + 1, x0, x1, x12, x13 => if x13 < x12 then (if 0 ≤ x13 then (if x13 < (x0.length : Int) then (if x13 < (x1.length : Int) then (if (!(((rd_T52 x0 x13).f0) == ((rd_T52 x1 x13).f0)) || (!(((rd_T52 x0 x13).f1) == ((rd_T52 x1 x13).f1)) || (!(((rd_T52 x0 x13).f2) == ((rd_T52 x1 x13).f2))))) = true then (some false) else (api_Instr_66.l0 k x0 x1 x12 (wrap64 (x13 + 1)))) else (none)) else (none)) else (none)) else (some true)
def api_Instr_66.f (k : Nat) (l0 : List (S52)) (l1 : List (S52)) : Option (Bool) := if (l0.length : Int) = (l1.length : Int) then (api_Instr_66.l0 k l0 l1 (l0.length : Int) 0) else (some false)
theorem api_Instr_66.calls (k : Nat) (A0 : Option Addr) (c0 : Nat) (l0 : List (S52)) (A1 : Option Addr) (c1 : Nat) (l1 : List (S52)) (r : Bool) (w : World) (hr0 : Kd.C k52 w A0 l0.length l0) (hc0 : l0.length ≤ c0) (hr1 : Kd.C k52 w A1 l1.length l1) (hc1 : l1.length ≤ c1) (h : api_Instr_66.f k l0 l1 = some r) :
  Calls Try.prog 66 #[.slice A0 l0.length c0, .slice A1 l1.length c1] w fun e w' => e = .returned (.bool r) ∧ Drawn0 w w' := by
 have hu52 := Try.underlying52
 have HR0 := Aq.mk hr0
 have HC0 := Aq.mk hc0
 clear hr0 hc0
 have HR1 := Aq.mk hr1
 have HC1 := Aq.mk hc1
 clear hr1 hc1
 have H : (if (l0.length : Int) = (l1.length : Int) then (api_Instr_66.l0 k l0 l1 (l0.length : Int) 0) else (some false)) = some r := h
 clear h
 by_cases c3 : (l0.length : Int) = (l1.length : Int)
 case neg =>
  rw [if_neg c3] at H
  have c3b0 : ((l0.length : Int) == (l1.length : Int)) = false := beq_eq_false_iff_ne.mpr c3
  have c3b1 : ((l0.length : Int) != (l1.length : Int)) = true := bne_iff_ne.mpr c3
  have c3b2 : (l0.length == l1.length) = false := by first | simpa using c3 | (simp at c3 ⊢; omega)
  obtain rfl := Option.some.inj H
  go_enter Try.func66, Try.ntmps66
  go_wp2
  repeat (go_quiet (fail); try go_wp2)
  go_ret
  exact ⟨by first | rfl | (simp; done) | (simp [*]; done), by repeat (first | exact Drawn0.refl _ | apply Drawn0.step)⟩
 rw [if_pos c3] at H
 have c3b0 : ((l0.length : Int) == (l1.length : Int)) = true := beq_iff_eq.mpr c3
 have c3b1 : ((l0.length : Int) != (l1.length : Int)) = false := bne_eq_false_iff_eq.mpr c3
 have c3b2 : (l0.length == l1.length) = true := by first | simpa using c3 | (simp at c3 ⊢; omega)
 clear c3
 have H' := Aq.mk H
 clear H
 go_enter Try.func66, Try.ntmps66
 go_wp2
 repeat (go_quiet (fail); try go_wp2)
 go_loopg [13] k (fun kq v13 w' => ∃ (x13_1 : Int), v13 = .int .i64 x13_1 ∧ Aq (api_Instr_66.l0 kq l0 l1 (l0.length : Int) x13_1 = some r) ∧ Aq (kq ≤ k) ∧ Drawn0 w w')
 case atStart => exact ⟨(0), (by first | rfl | (simp; done) | (simp [*]; done)), H', ⟨Nat.le_refl _⟩, by repeat (first | exact Drawn0.refl _ | apply Drawn0.step)⟩
 case round =>
  clear H'
  try clear c3b0
  try clear c3b1
  try clear c3b2
  obtain ⟨x13_1, rfl, HA, HK1, ⟨m1, rfl⟩⟩ := hrel
  cases gk with
  | zero => exact absurd HA.out (by simp [api_Instr_66.l0])
  | succ k1 =>
   have H := HA.out
   clear HA
   simp only [api_Instr_66.l0] at H
   by_cases c4 : x13_1 < (l0.length : Int)
   case neg =>
    rw [if_neg c4] at H
    have c4b0 : decide (x13_1 < (l0.length : Int)) = false := decide_eq_false c4
    clear c4
    obtain rfl := Option.some.inj H
    go_wp2
    repeat (go_quiet (fail); try go_wp2)
    go_ret
    exact ⟨by first | rfl | (simp; done) | (simp [*]; done), by repeat (first | exact Drawn0.refl _ | apply Drawn0.step)⟩
   rw [if_pos c4] at H
   have c4b0 : decide (x13_1 < (l0.length : Int)) = true := decide_eq_true c4
   clear c4
   by_cases c5 : 0 ≤ x13_1
   case neg =>
    rw [if_neg c5] at H
    exact absurd H (by simp)
   rw [if_pos c5] at H
   have c5b0 : decide (0 ≤ x13_1) = true := decide_eq_true c5
   clear c5
   by_cases c6 : x13_1 < (l0.length : Int)
   case neg =>
    rw [if_neg c6] at H
    exact absurd H (by simp)
   rw [if_pos c6] at H
   have c6b0 : decide (x13_1 < (l0.length : Int)) = true := decide_eq_true c6
   clear c6
   by_cases c7 : x13_1 < (l1.length : Int)
   case neg =>
    rw [if_neg c7] at H
    exact absurd H (by simp)
   rw [if_pos c7] at H
   have c7b0 : decide (x13_1 < (l1.length : Int)) = true := decide_eq_true c7
   clear c7
   by_cases c8 : (!(((rd_T52 l0 x13_1).f0) == ((rd_T52 l1 x13_1).f0)) || (!(((rd_T52 l0 x13_1).f1) == ((rd_T52 l1 x13_1).f1)) || (!(((rd_T52 l0 x13_1).f2) == ((rd_T52 l1 x13_1).f2))))) = true
   ·rw [if_pos c8] at H
    have c8b0 : (!(((rd_T52 l0 x13_1).f0) == ((rd_T52 l1 x13_1).f0)) || (!(((rd_T52 l0 x13_1).f1) == ((rd_T52 l1 x13_1).f1)) || (!(((rd_T52 l0 x13_1).f2) == ((rd_T52 l1 x13_1).f2))))) = true := c8
    clear c8
    obtain rfl := Option.some.inj H
    have p107 : 0 ≤ (x13_1 : Int) := of_decide_eq_true (by first | (with_reducible assumption) | assumption)
    have q107 : x13_1 < (l0.length : Int) := of_decide_eq_true (by first | (with_reducible assumption) | assumption)
    obtain ⟨ad107, e107, hx107_0, hx107_1, hx107_2⟩ := at_T52 HR0.out x13_1 p107 q107
    cases e107
    replace p107 := eq_true p107
    replace q107 := eq_true q107
    have p108 : 0 ≤ (x13_1 : Int) := of_decide_eq_true (by first | (with_reducible assumption) | assumption)
    have q108 : x13_1 < (l1.length : Int) := of_decide_eq_true (by first | (with_reducible assumption) | assumption)
    obtain ⟨ad108, e108, hx108_0, hx108_1, hx108_2⟩ := at_T52 HR1.out x13_1 p108 q108
    cases e108
    replace p108 := eq_true p108
    replace q108 := eq_true q108
    go_wp2
    repeat (go_quiet (fail); try go_wp2)
    go_ret
    exact ⟨by first | rfl | (simp; done) | (simp [*]; done), by repeat (first | exact Drawn0.refl _ | apply Drawn0.step)⟩
   rw [if_neg c8] at H
   have c8b0 : (!(((rd_T52 l0 x13_1).f0) == ((rd_T52 l1 x13_1).f0)) || (!(((rd_T52 l0 x13_1).f1) == ((rd_T52 l1 x13_1).f1)) || (!(((rd_T52 l0 x13_1).f2) == ((rd_T52 l1 x13_1).f2))))) = false := by simpa using c8
   clear c8
   have H' := Aq.mk H
   clear H
   have p107 : 0 ≤ (x13_1 : Int) := of_decide_eq_true (by first | (with_reducible assumption) | assumption)
   have q107 : x13_1 < (l0.length : Int) := of_decide_eq_true (by first | (with_reducible assumption) | assumption)
   obtain ⟨ad107, e107, hx107_0, hx107_1, hx107_2⟩ := at_T52 HR0.out x13_1 p107 q107
   cases e107
   replace p107 := eq_true p107
   replace q107 := eq_true q107
   have p108 : 0 ≤ (x13_1 : Int) := of_decide_eq_true (by first | (with_reducible assumption) | assumption)
   have q108 : x13_1 < (l1.length : Int) := of_decide_eq_true (by first | (with_reducible assumption) | assumption)
   obtain ⟨ad108, e108, hx108_0, hx108_1, hx108_2⟩ := at_T52 HR1.out x13_1 p108 q108
   cases e108
   replace p108 := eq_true p108
   replace q108 := eq_true q108
   go_wp2
   repeat (go_quiet (fail); try go_wp2)
   go_roundg k1
   case measure => have := HK1.out; omega
   case rel => exact ⟨(wrap64 (x13_1 + 1)), (by first | rfl | (simp; done) | (simp [*]; done)), H', ⟨by have := HK1.out; omega⟩, by repeat (first | exact Drawn0.refl _ | apply Drawn0.step)⟩
def api_Up_35.f (k : Nat) (l0 : List (S50)) (l1 : List (S50)) : Option (Bool) := (api_Up_64.f k l0 l1).bind fun t103 => (some t103)
theorem api_Up_35.calls (k : Nat) (A0 : Option Addr) (c0 : Nat) (l0 : List (S50)) (A1 : Option Addr) (c1 : Nat) (l1 : List (S50)) (r : Bool) (w : World) (hr0 : Kd.C k50 w A0 l0.length l0) (hc0 : l0.length ≤ c0) (hr1 : Kd.C k50 w A1 l1.length l1) (hc1 : l1.length ≤ c1) (h : api_Up_35.f k l0 l1 = some r) :
  Calls Try.prog 35 #[.slice A0 l0.length c0, .slice A1 l1.length c1] w fun e w' => e = .returned (.bool r) ∧ Drawn0 w w' := by
 have HR0 := Aq.mk hr0
 have HC0 := Aq.mk hc0
 clear hr0 hc0
 have HR1 := Aq.mk hr1
 have HC1 := Aq.mk hc1
 clear hr1 hc1
 have H : ((api_Up_64.f k l0 l1).bind fun t103 => (some t103)) = some r := h
 clear h
 replace H := Option.bind_eq_some_iff.mp H
 obtain ⟨t103, A30, H⟩ := H
 replace H : (some t103) = some r := H
 have A3 := Aq.mk A30
 clear A30
 obtain rfl := Option.some.inj H
 go_enter Try.func35, Try.ntmps35
 go_wp2_with (first | ((with_reducible refine q15q (f := 64) rfl ?_); refine q24q (some 7) rfl rfl Try.func64 (by kernel_rfl) rfl #[.slice A0 l0.length c0, .slice A1 l1.length c1] rfl (by (try simp only [List.map_toArray, List.map_cons, List.map_nil]); first | done | rfl) ?_; (with_reducible refine (api_Up_64.calls k _ _ l0 _ _ l1 t103 _ ?side1 ?side2 ?side3 ?side4 A3.out).mono ?_); (case side1 => repeat (first | exact HR0.out | (with_reducible refine Kd.C_alloc ?_ _) | (with_reducible refine Kd.C_drewN ?_ _) | (with_reducible refine Kd.C_drew ?_))); (case side2 => exact HC0.out); (case side3 => repeat (first | exact HR1.out | (with_reducible refine Kd.C_alloc ?_ _) | (with_reducible refine Kd.C_drewN ?_ _) | (with_reducible refine Kd.C_drew ?_))); (case side4 => exact HC1.out); rintro e w' ⟨rfl, ⟨nd, rfl⟩⟩; refine ⟨_, rfl, ?_⟩))
 go_ret
 exact ⟨by first | rfl | (simp; done) | (simp [*]; done), by repeat (first | exact Drawn0.refl _ | apply Drawn0.step)⟩
def api_Const_36.f (k : Nat) (l0 : List (S42)) (l1 : List (S42)) : Option (Bool) := (api_Const_65.f k l0 l1).bind fun t106 => (some t106)
theorem api_Const_36.calls (k : Nat) (A0 : Option Addr) (c0 : Nat) (l0 : List (S42)) (A1 : Option Addr) (c1 : Nat) (l1 : List (S42)) (r : Bool) (w : World) (hr0 : Kd.C k42 w A0 l0.length l0) (hc0 : l0.length ≤ c0) (hr1 : Kd.C k42 w A1 l1.length l1) (hc1 : l1.length ≤ c1) (h : api_Const_36.f k l0 l1 = some r) :
  Calls Try.prog 36 #[.slice A0 l0.length c0, .slice A1 l1.length c1] w fun e w' => e = .returned (.bool r) ∧ Drawn0 w w' := by
 have HR0 := Aq.mk hr0
 have HC0 := Aq.mk hc0
 clear hr0 hc0
 have HR1 := Aq.mk hr1
 have HC1 := Aq.mk hc1
 clear hr1 hc1
 have H : ((api_Const_65.f k l0 l1).bind fun t106 => (some t106)) = some r := h
 clear h
 replace H := Option.bind_eq_some_iff.mp H
 obtain ⟨t106, A30, H⟩ := H
 replace H : (some t106) = some r := H
 have A3 := Aq.mk A30
 clear A30
 obtain rfl := Option.some.inj H
 go_enter Try.func36, Try.ntmps36
 go_wp2_with (first | ((with_reducible refine q15q (f := 65) rfl ?_); refine q24q (some 7) rfl rfl Try.func65 (by kernel_rfl) rfl #[.slice A0 l0.length c0, .slice A1 l1.length c1] rfl (by (try simp only [List.map_toArray, List.map_cons, List.map_nil]); first | done | rfl) ?_; (with_reducible refine (api_Const_65.calls k _ _ l0 _ _ l1 t106 _ ?side1 ?side2 ?side3 ?side4 A3.out).mono ?_); (case side1 => repeat (first | exact HR0.out | (with_reducible refine Kd.C_alloc ?_ _) | (with_reducible refine Kd.C_drewN ?_ _) | (with_reducible refine Kd.C_drew ?_))); (case side2 => exact HC0.out); (case side3 => repeat (first | exact HR1.out | (with_reducible refine Kd.C_alloc ?_ _) | (with_reducible refine Kd.C_drewN ?_ _) | (with_reducible refine Kd.C_drew ?_))); (case side4 => exact HC1.out); rintro e w' ⟨rfl, ⟨nd, rfl⟩⟩; refine ⟨_, rfl, ?_⟩))
 go_ret
 exact ⟨by first | rfl | (simp; done) | (simp [*]; done), by repeat (first | exact Drawn0.refl _ | apply Drawn0.step)⟩
def api_Instr_37.f (k : Nat) (l0 : List (S52)) (l1 : List (S52)) : Option (Bool) := (api_Instr_66.f k l0 l1).bind fun t109 => (some t109)
theorem api_Instr_37.calls (k : Nat) (A0 : Option Addr) (c0 : Nat) (l0 : List (S52)) (A1 : Option Addr) (c1 : Nat) (l1 : List (S52)) (r : Bool) (w : World) (hr0 : Kd.C k52 w A0 l0.length l0) (hc0 : l0.length ≤ c0) (hr1 : Kd.C k52 w A1 l1.length l1) (hc1 : l1.length ≤ c1) (h : api_Instr_37.f k l0 l1 = some r) :
  Calls Try.prog 37 #[.slice A0 l0.length c0, .slice A1 l1.length c1] w fun e w' => e = .returned (.bool r) ∧ Drawn0 w w' := by
 have HR0 := Aq.mk hr0
 have HC0 := Aq.mk hc0
 clear hr0 hc0
 have HR1 := Aq.mk hr1
 have HC1 := Aq.mk hc1
 clear hr1 hc1
 have H : ((api_Instr_66.f k l0 l1).bind fun t109 => (some t109)) = some r := h
 clear h
 replace H := Option.bind_eq_some_iff.mp H
 obtain ⟨t109, A30, H⟩ := H
 replace H : (some t109) = some r := H
 have A3 := Aq.mk A30
 clear A30
 obtain rfl := Option.some.inj H
 go_enter Try.func37, Try.ntmps37
 go_wp2_with (first | ((with_reducible refine q15q (f := 66) rfl ?_); refine q24q (some 7) rfl rfl Try.func66 (by kernel_rfl) rfl #[.slice A0 l0.length c0, .slice A1 l1.length c1] rfl (by (try simp only [List.map_toArray, List.map_cons, List.map_nil]); first | done | rfl) ?_; (with_reducible refine (api_Instr_66.calls k _ _ l0 _ _ l1 t109 _ ?side1 ?side2 ?side3 ?side4 A3.out).mono ?_); (case side1 => repeat (first | exact HR0.out | (with_reducible refine Kd.C_alloc ?_ _) | (with_reducible refine Kd.C_drewN ?_ _) | (with_reducible refine Kd.C_drew ?_))); (case side2 => exact HC0.out); (case side3 => repeat (first | exact HR1.out | (with_reducible refine Kd.C_alloc ?_ _) | (with_reducible refine Kd.C_drewN ?_ _) | (with_reducible refine Kd.C_drew ?_))); (case side4 => exact HC1.out); rintro e w' ⟨rfl, ⟨nd, rfl⟩⟩; refine ⟨_, rfl, ?_⟩))
 go_ret
 exact ⟨by first | rfl | (simp; done) | (simp [*]; done), by repeat (first | exact Drawn0.refl _ | apply Drawn0.step)⟩
def fQ24.f (k : Nat) (a0_0 : Int) (a0_1 : Int) (l0_2 : List (S50)) (l0_3 : List (S42)) (l0_4 : List (S52)) (a1_0 : Int) (a1_1 : Int) (l1_2 : List (S50)) (l1_3 : List (S42)) (l1_4 : List (S52)) : Option (Bool) := if a0_0 = a1_0 then (if a0_1 = a1_1 then ((api_Up_35.f k l0_2 l1_2).bind fun t112 => (if t112 = true then ((api_Const_36.f k l0_3 l1_3).bind fun t113 => (if t113 = true then ((api_Instr_37.f k l0_4 l1_4).bind fun t114 => (some t114)) else (some false))) else (some false))) else (some false)) else (some false)
theorem fQ24.calls (k : Nat) (a0_0 : Int) (a0_1 : Int) (A0_2 : Option Addr) (c0_2 : Nat) (l0_2 : List (S50)) (A0_3 : Option Addr) (c0_3 : Nat) (l0_3 : List (S42)) (A0_4 : Option Addr) (c0_4 : Nat) (l0_4 : List (S52)) (a1_0 : Int) (a1_1 : Int) (A1_2 : Option Addr) (c1_2 : Nat) (l1_2 : List (S50)) (A1_3 : Option Addr) (c1_3 : Nat) (l1_3 : List (S42)) (A1_4 : Option Addr) (c1_4 : Nat) (l1_4 : List (S52)) (r : Bool) (w : World) (hr0_2 : Kd.C k50 w A0_2 l0_2.length l0_2) (hc0_2 : l0_2.length ≤ c0_2) (hr0_3 : Kd.C k42 w A0_3 l0_3.length l0_3) (hc0_3 : l0_3.length ≤ c0_3) (hr0_4 : Kd.C k52 w A0_4 l0_4.length l0_4) (hc0_4 : l0_4.length ≤ c0_4) (hr1_2 : Kd.C k50 w A1_2 l1_2.length l1_2) (hc1_2 : l1_2.length ≤ c1_2) (hr1_3 : Kd.C k42 w A1_3 l1_3.length l1_3) (hc1_3 : l1_3.length ≤ c1_3) (hr1_4 : Kd.C k52 w A1_4 l1_4.length l1_4) (hc1_4 : l1_4.length ≤ c1_4) (h : fQ24.f k a0_0 a0_1 l0_2 l0_3 l0_4 a1_0 a1_1 l1_2 l1_3 l1_4 = some r) :
  Calls Try.prog 34 #[.agg #[.int .i64 a0_0, .int .i64 a0_1, .slice A0_2 l0_2.length c0_2, .slice A0_3 l0_3.length c0_3, .slice A0_4 l0_4.length c0_4], .agg #[.int .i64 a1_0, .int .i64 a1_1, .slice A1_2 l1_2.length c1_2, .slice A1_3 l1_3.length c1_3, .slice A1_4 l1_4.length c1_4]] w fun e w' => e = .returned (.bool r) ∧ Below w.heap.size w w' := by
 have hu47 := Try.underlying47
 have HR0_2 := Aq.mk hr0_2
 have HC0_2 := Aq.mk hc0_2
 clear hr0_2 hc0_2
 have HR0_3 := Aq.mk hr0_3
 have HC0_3 := Aq.mk hc0_3
 clear hr0_3 hc0_3
 have HR0_4 := Aq.mk hr0_4
 have HC0_4 := Aq.mk hc0_4
 clear hr0_4 hc0_4
 have HR1_2 := Aq.mk hr1_2
 have HC1_2 := Aq.mk hc1_2
 clear hr1_2 hc1_2
 have HR1_3 := Aq.mk hr1_3
 have HC1_3 := Aq.mk hc1_3
 clear hr1_3 hc1_3
 have HR1_4 := Aq.mk hr1_4
 have HC1_4 := Aq.mk hc1_4
 clear hr1_4 hc1_4
 have HB := Aq.mk (Below.refl w.heap.size w)
 have H : (if a0_0 = a1_0 then (if a0_1 = a1_1 then ((api_Up_35.f k l0_2 l1_2).bind fun t112 => (if t112 = true then ((api_Const_36.f k l0_3 l1_3).bind fun t113 => (if t113 = true then ((api_Instr_37.f k l0_4 l1_4).bind fun t114 => (some t114)) else (some false))) else (some false))) else (some false)) else (some false)) = some r := h
 clear h
 by_cases c3 : a0_0 = a1_0
 case neg =>
  rw [if_neg c3] at H
  have c3b0 : (a0_0 == a1_0) = false := beq_eq_false_iff_ne.mpr c3
  have c3b1 : (a0_0 != a1_0) = true := bne_iff_ne.mpr c3
  obtain rfl := Option.some.inj H
  go_enter Try.func34, Try.ntmps34
  go_wp2_with (first | ((with_reducible refine q12q (N := 2) rfl ?_); refine q11q ?hg (N := 2) ?hd (cs := #[.int .i64 a0_0, .int .i64 a0_1, .slice A0_2 l0_2.length c0_2, .slice A0_3 l0_3.length c0_3, .slice A0_4 l0_4.length c0_4]) (t := 47) ?hr ?_; (case hd => rfl); (case hg => rfl); (case hr => first | (go_simp; done) | (go_simp; rfl)); intro gb110 hg w30 hbox hb; have n0_ := Aq.mk (q10q (by repeat (with_reducible first | exact HB.out | apply q4q | apply q0q | apply q2q)) hb); have n1_ := Aq.mk (hbox); have n2_ := Aq.mk ((by rw [hg]; exact (q6q (by repeat (with_reducible first | exact HB.out | apply q4q | apply q0q | apply q2q))) : w.heap.size ≤ gb110)); have n3_ := Aq.mk ((by rw [hg]; exact (q6q (by repeat (with_reducible first | exact HB.out | apply q4q | apply q0q | apply q2q))) : w.heap.size ≤ gb110)); clear HB; have HB := n0_; have BK110 := n1_; have GW110 := n2_; have GE110 := n3_; clear n0_ n1_ n2_ n3_; clear hb hbox hg) | ((with_reducible refine q12q (N := 3) rfl ?_); refine q11q ?hg (N := 3) ?hd (cs := #[.int .i64 a1_0, .int .i64 a1_1, .slice A1_2 l1_2.length c1_2, .slice A1_3 l1_3.length c1_3, .slice A1_4 l1_4.length c1_4]) (t := 47) ?hr ?_; (case hd => rfl); (case hg => rfl); (case hr => first | (go_simp; done) | (go_simp; rfl)); intro gb111 hg w31 hbox hb; have n0_ := Aq.mk (q13q (g := gb110) (o := .cells #[.int .i64 a0_0, .int .i64 a0_1, .slice A0_2 l0_2.length c0_2, .slice A0_3 l0_3.length c0_3, .slice A0_4 l0_4.length c0_4] 47 (0, 0)) BK110.out hb); have n1_ := Aq.mk (q10q (by repeat (with_reducible first | exact HB.out | apply q4q | apply q0q | apply q2q | refine q5q ?_ GE110.out)) hb); have n2_ := Aq.mk (hbox); have n3_ := Aq.mk ((by rw [hg]; exact (q6q (by repeat (with_reducible first | exact HB.out | apply q4q | apply q0q | apply q2q | refine q5q ?_ GE110.out))) : w.heap.size ≤ gb111)); have n4_ := Aq.mk ((by rw [hg]; exact (q6q (by repeat (with_reducible first | exact HB.out | apply q4q | apply q0q | apply q2q | refine q5q ?_ GE110.out))) : w.heap.size ≤ gb111)); have n5_ := Aq.mk ((by rw [hg]; exact Nat.ne_of_lt (q16q (g := gb110) (o := .cells #[.int .i64 a0_0, .int .i64 a0_1, .slice A0_2 l0_2.length c0_2, .slice A0_3 l0_3.length c0_3, .slice A0_4 l0_4.length c0_4] 47 (0, 0)) BK110.out) : gb110 ≠ gb111)); have n6_ := Aq.mk ((by rw [hg]; exact Nat.ne_of_gt (q16q (g := gb110) (o := .cells #[.int .i64 a0_0, .int .i64 a0_1, .slice A0_2 l0_2.length c0_2, .slice A0_3 l0_3.length c0_3, .slice A0_4 l0_4.length c0_4] 47 (0, 0)) BK110.out) : gb111 ≠ gb110)); clear BK110; clear HB; have BK110 := n0_; have HB := n1_; have BK111 := n2_; have GW111 := n3_; have GE111 := n4_; have NB110_111 := n5_; have NB111_110 := n6_; clear n0_ n1_ n2_ n3_ n4_ n5_ n6_; clear hb hbox hg; have hnb32 := NB110_111.out; have hnc32 := NB111_110.out; have hcz33_0 : w31.cell? ⟨gb110, 0, none⟩ = some (.int .i64 a0_0) := (q3q BK110.out 0).trans rfl; have hcz33_1 : w31.cell? ⟨gb110, 1, none⟩ = some (.int .i64 a0_1) := (q3q BK110.out 1).trans rfl; have hcz33_2 : w31.cell? ⟨gb110, 2, none⟩ = some (.slice A0_2 l0_2.length c0_2) := (q3q BK110.out 2).trans rfl; have hcz33_3 : w31.cell? ⟨gb110, 3, none⟩ = some (.slice A0_3 l0_3.length c0_3) := (q3q BK110.out 3).trans rfl; have hcz33_4 : w31.cell? ⟨gb110, 4, none⟩ = some (.slice A0_4 l0_4.length c0_4) := (q3q BK110.out 4).trans rfl; have hfz33_0 := q1q BK110.out 0; have hfz33_1 := q1q BK110.out 1; have hfz33_2 := q1q BK110.out 2; have hfz33_3 := q1q BK110.out 3; have hfz33_4 := q1q BK110.out 4; have hcz34_0 : w31.cell? ⟨gb111, 0, none⟩ = some (.int .i64 a1_0) := (q3q BK111.out 0).trans rfl; have hcz34_1 : w31.cell? ⟨gb111, 1, none⟩ = some (.int .i64 a1_1) := (q3q BK111.out 1).trans rfl; have hcz34_2 : w31.cell? ⟨gb111, 2, none⟩ = some (.slice A1_2 l1_2.length c1_2) := (q3q BK111.out 2).trans rfl; have hcz34_3 : w31.cell? ⟨gb111, 3, none⟩ = some (.slice A1_3 l1_3.length c1_3) := (q3q BK111.out 3).trans rfl; have hcz34_4 : w31.cell? ⟨gb111, 4, none⟩ = some (.slice A1_4 l1_4.length c1_4) := (q3q BK111.out 4).trans rfl; have hfz34_0 := q1q BK111.out 0; have hfz34_1 := q1q BK111.out 1; have hfz34_2 := q1q BK111.out 2; have hfz34_3 := q1q BK111.out 3; have hfz34_4 := q1q BK111.out 4))
  go_ret
  exact ⟨by first | rfl | (simp [*] <;> rfl), by repeat (with_reducible first | exact HB.out | apply q4q | apply q0q | apply q2q | refine q5q ?_ GE110.out | refine q5q ?_ GE111.out)⟩
 rw [if_pos c3] at H
 have c3b0 : (a0_0 == a1_0) = true := beq_iff_eq.mpr c3
 have c3b1 : (a0_0 != a1_0) = false := bne_eq_false_iff_eq.mpr c3
 clear c3
 by_cases c4 : a0_1 = a1_1
 case neg =>
  rw [if_neg c4] at H
  have c4b0 : (a0_1 == a1_1) = false := beq_eq_false_iff_ne.mpr c4
  have c4b1 : (a0_1 != a1_1) = true := bne_iff_ne.mpr c4
  obtain rfl := Option.some.inj H
  go_enter Try.func34, Try.ntmps34
  go_wp2_with (first | ((with_reducible refine q12q (N := 2) rfl ?_); refine q11q ?hg (N := 2) ?hd (cs := #[.int .i64 a0_0, .int .i64 a0_1, .slice A0_2 l0_2.length c0_2, .slice A0_3 l0_3.length c0_3, .slice A0_4 l0_4.length c0_4]) (t := 47) ?hr ?_; (case hd => rfl); (case hg => rfl); (case hr => first | (go_simp; done) | (go_simp; rfl)); intro gb110 hg w25 hbox hb; have n0_ := Aq.mk (q10q (by repeat (with_reducible first | exact HB.out | apply q4q | apply q0q | apply q2q)) hb); have n1_ := Aq.mk (hbox); have n2_ := Aq.mk ((by rw [hg]; exact (q6q (by repeat (with_reducible first | exact HB.out | apply q4q | apply q0q | apply q2q))) : w.heap.size ≤ gb110)); have n3_ := Aq.mk ((by rw [hg]; exact (q6q (by repeat (with_reducible first | exact HB.out | apply q4q | apply q0q | apply q2q))) : w.heap.size ≤ gb110)); clear HB; have HB := n0_; have BK110 := n1_; have GW110 := n2_; have GE110 := n3_; clear n0_ n1_ n2_ n3_; clear hb hbox hg) | ((with_reducible refine q12q (N := 3) rfl ?_); refine q11q ?hg (N := 3) ?hd (cs := #[.int .i64 a1_0, .int .i64 a1_1, .slice A1_2 l1_2.length c1_2, .slice A1_3 l1_3.length c1_3, .slice A1_4 l1_4.length c1_4]) (t := 47) ?hr ?_; (case hd => rfl); (case hg => rfl); (case hr => first | (go_simp; done) | (go_simp; rfl)); intro gb111 hg w26 hbox hb; have n0_ := Aq.mk (q13q (g := gb110) (o := .cells #[.int .i64 a0_0, .int .i64 a0_1, .slice A0_2 l0_2.length c0_2, .slice A0_3 l0_3.length c0_3, .slice A0_4 l0_4.length c0_4] 47 (0, 0)) BK110.out hb); have n1_ := Aq.mk (q10q (by repeat (with_reducible first | exact HB.out | apply q4q | apply q0q | apply q2q | refine q5q ?_ GE110.out)) hb); have n2_ := Aq.mk (hbox); have n3_ := Aq.mk ((by rw [hg]; exact (q6q (by repeat (with_reducible first | exact HB.out | apply q4q | apply q0q | apply q2q | refine q5q ?_ GE110.out))) : w.heap.size ≤ gb111)); have n4_ := Aq.mk ((by rw [hg]; exact (q6q (by repeat (with_reducible first | exact HB.out | apply q4q | apply q0q | apply q2q | refine q5q ?_ GE110.out))) : w.heap.size ≤ gb111)); have n5_ := Aq.mk ((by rw [hg]; exact Nat.ne_of_lt (q16q (g := gb110) (o := .cells #[.int .i64 a0_0, .int .i64 a0_1, .slice A0_2 l0_2.length c0_2, .slice A0_3 l0_3.length c0_3, .slice A0_4 l0_4.length c0_4] 47 (0, 0)) BK110.out) : gb110 ≠ gb111)); have n6_ := Aq.mk ((by rw [hg]; exact Nat.ne_of_gt (q16q (g := gb110) (o := .cells #[.int .i64 a0_0, .int .i64 a0_1, .slice A0_2 l0_2.length c0_2, .slice A0_3 l0_3.length c0_3, .slice A0_4 l0_4.length c0_4] 47 (0, 0)) BK110.out) : gb111 ≠ gb110)); clear BK110; clear HB; have BK110 := n0_; have HB := n1_; have BK111 := n2_; have GW111 := n3_; have GE111 := n4_; have NB110_111 := n5_; have NB111_110 := n6_; clear n0_ n1_ n2_ n3_ n4_ n5_ n6_; clear hb hbox hg; have hnb27 := NB110_111.out; have hnc27 := NB111_110.out; have hcz28_0 : w26.cell? ⟨gb110, 0, none⟩ = some (.int .i64 a0_0) := (q3q BK110.out 0).trans rfl; have hcz28_1 : w26.cell? ⟨gb110, 1, none⟩ = some (.int .i64 a0_1) := (q3q BK110.out 1).trans rfl; have hcz28_2 : w26.cell? ⟨gb110, 2, none⟩ = some (.slice A0_2 l0_2.length c0_2) := (q3q BK110.out 2).trans rfl; have hcz28_3 : w26.cell? ⟨gb110, 3, none⟩ = some (.slice A0_3 l0_3.length c0_3) := (q3q BK110.out 3).trans rfl; have hcz28_4 : w26.cell? ⟨gb110, 4, none⟩ = some (.slice A0_4 l0_4.length c0_4) := (q3q BK110.out 4).trans rfl; have hfz28_0 := q1q BK110.out 0; have hfz28_1 := q1q BK110.out 1; have hfz28_2 := q1q BK110.out 2; have hfz28_3 := q1q BK110.out 3; have hfz28_4 := q1q BK110.out 4; have hcz29_0 : w26.cell? ⟨gb111, 0, none⟩ = some (.int .i64 a1_0) := (q3q BK111.out 0).trans rfl; have hcz29_1 : w26.cell? ⟨gb111, 1, none⟩ = some (.int .i64 a1_1) := (q3q BK111.out 1).trans rfl; have hcz29_2 : w26.cell? ⟨gb111, 2, none⟩ = some (.slice A1_2 l1_2.length c1_2) := (q3q BK111.out 2).trans rfl; have hcz29_3 : w26.cell? ⟨gb111, 3, none⟩ = some (.slice A1_3 l1_3.length c1_3) := (q3q BK111.out 3).trans rfl; have hcz29_4 : w26.cell? ⟨gb111, 4, none⟩ = some (.slice A1_4 l1_4.length c1_4) := (q3q BK111.out 4).trans rfl; have hfz29_0 := q1q BK111.out 0; have hfz29_1 := q1q BK111.out 1; have hfz29_2 := q1q BK111.out 2; have hfz29_3 := q1q BK111.out 3; have hfz29_4 := q1q BK111.out 4))
  go_ret
  exact ⟨by first | rfl | (simp [*] <;> rfl), by repeat (with_reducible first | exact HB.out | apply q4q | apply q0q | apply q2q | refine q5q ?_ GE110.out | refine q5q ?_ GE111.out)⟩
 rw [if_pos c4] at H
 have c4b0 : (a0_1 == a1_1) = true := beq_iff_eq.mpr c4
 have c4b1 : (a0_1 != a1_1) = false := bne_eq_false_iff_eq.mpr c4
 clear c4
 replace H := Option.bind_eq_some_iff.mp H
 obtain ⟨t112, A50, H⟩ := H
 replace H : (if t112 = true then ((api_Const_36.f k l0_3 l1_3).bind fun t113 => (if t113 = true then ((api_Instr_37.f k l0_4 l1_4).bind fun t114 => (some t114)) else (some false))) else (some false)) = some r := H
 have A5 := Aq.mk A50
 clear A50
 by_cases c6 : t112 = true
 case neg =>
  replace c6 := Bool.eq_false_iff.mpr c6
  subst c6
  have H1 : (some false) = some r := by rw [if_neg (show ¬ (false = true) by decide)] at H; exact H
  clear H
  have H := H1
  clear H1
  obtain rfl := Option.some.inj H
  go_enter Try.func34, Try.ntmps34
  go_wp2_with (first | ((with_reducible refine q12q (N := 2) rfl ?_); refine q11q ?hg (N := 2) ?hd (cs := #[.int .i64 a0_0, .int .i64 a0_1, .slice A0_2 l0_2.length c0_2, .slice A0_3 l0_3.length c0_3, .slice A0_4 l0_4.length c0_4]) (t := 47) ?hr ?_; (case hd => rfl); (case hg => rfl); (case hr => first | (go_simp; done) | (go_simp; rfl)); intro gb110 hg w20 hbox hb; have n0_ := Aq.mk (q10q (by repeat (with_reducible first | exact HB.out | apply q4q | apply q0q | apply q2q)) hb); have n1_ := Aq.mk (hbox); have n2_ := Aq.mk ((by rw [hg]; exact (q6q (by repeat (with_reducible first | exact HB.out | apply q4q | apply q0q | apply q2q))) : w.heap.size ≤ gb110)); have n3_ := Aq.mk ((by rw [hg]; exact (q6q (by repeat (with_reducible first | exact HB.out | apply q4q | apply q0q | apply q2q))) : w.heap.size ≤ gb110)); clear HB; have HB := n0_; have BK110 := n1_; have GW110 := n2_; have GE110 := n3_; clear n0_ n1_ n2_ n3_; clear hb hbox hg) | ((with_reducible refine q12q (N := 3) rfl ?_); refine q11q ?hg (N := 3) ?hd (cs := #[.int .i64 a1_0, .int .i64 a1_1, .slice A1_2 l1_2.length c1_2, .slice A1_3 l1_3.length c1_3, .slice A1_4 l1_4.length c1_4]) (t := 47) ?hr ?_; (case hd => rfl); (case hg => rfl); (case hr => first | (go_simp; done) | (go_simp; rfl)); intro gb111 hg w21 hbox hb; have n0_ := Aq.mk (q13q (g := gb110) (o := .cells #[.int .i64 a0_0, .int .i64 a0_1, .slice A0_2 l0_2.length c0_2, .slice A0_3 l0_3.length c0_3, .slice A0_4 l0_4.length c0_4] 47 (0, 0)) BK110.out hb); have n1_ := Aq.mk (q10q (by repeat (with_reducible first | exact HB.out | apply q4q | apply q0q | apply q2q | refine q5q ?_ GE110.out)) hb); have n2_ := Aq.mk (hbox); have n3_ := Aq.mk ((by rw [hg]; exact (q6q (by repeat (with_reducible first | exact HB.out | apply q4q | apply q0q | apply q2q | refine q5q ?_ GE110.out))) : w.heap.size ≤ gb111)); have n4_ := Aq.mk ((by rw [hg]; exact (q6q (by repeat (with_reducible first | exact HB.out | apply q4q | apply q0q | apply q2q | refine q5q ?_ GE110.out))) : w.heap.size ≤ gb111)); have n5_ := Aq.mk ((by rw [hg]; exact Nat.ne_of_lt (q16q (g := gb110) (o := .cells #[.int .i64 a0_0, .int .i64 a0_1, .slice A0_2 l0_2.length c0_2, .slice A0_3 l0_3.length c0_3, .slice A0_4 l0_4.length c0_4] 47 (0, 0)) BK110.out) : gb110 ≠ gb111)); have n6_ := Aq.mk ((by rw [hg]; exact Nat.ne_of_gt (q16q (g := gb110) (o := .cells #[.int .i64 a0_0, .int .i64 a0_1, .slice A0_2 l0_2.length c0_2, .slice A0_3 l0_3.length c0_3, .slice A0_4 l0_4.length c0_4] 47 (0, 0)) BK110.out) : gb111 ≠ gb110)); clear BK110; clear HB; have BK110 := n0_; have HB := n1_; have BK111 := n2_; have GW111 := n3_; have GE111 := n4_; have NB110_111 := n5_; have NB111_110 := n6_; clear n0_ n1_ n2_ n3_ n4_ n5_ n6_; clear hb hbox hg; have hnb22 := NB110_111.out; have hnc22 := NB111_110.out; have hcz23_0 : w21.cell? ⟨gb110, 0, none⟩ = some (.int .i64 a0_0) := (q3q BK110.out 0).trans rfl; have hcz23_1 : w21.cell? ⟨gb110, 1, none⟩ = some (.int .i64 a0_1) := (q3q BK110.out 1).trans rfl; have hcz23_2 : w21.cell? ⟨gb110, 2, none⟩ = some (.slice A0_2 l0_2.length c0_2) := (q3q BK110.out 2).trans rfl; have hcz23_3 : w21.cell? ⟨gb110, 3, none⟩ = some (.slice A0_3 l0_3.length c0_3) := (q3q BK110.out 3).trans rfl; have hcz23_4 : w21.cell? ⟨gb110, 4, none⟩ = some (.slice A0_4 l0_4.length c0_4) := (q3q BK110.out 4).trans rfl; have hfz23_0 := q1q BK110.out 0; have hfz23_1 := q1q BK110.out 1; have hfz23_2 := q1q BK110.out 2; have hfz23_3 := q1q BK110.out 3; have hfz23_4 := q1q BK110.out 4; have hcz24_0 : w21.cell? ⟨gb111, 0, none⟩ = some (.int .i64 a1_0) := (q3q BK111.out 0).trans rfl; have hcz24_1 : w21.cell? ⟨gb111, 1, none⟩ = some (.int .i64 a1_1) := (q3q BK111.out 1).trans rfl; have hcz24_2 : w21.cell? ⟨gb111, 2, none⟩ = some (.slice A1_2 l1_2.length c1_2) := (q3q BK111.out 2).trans rfl; have hcz24_3 : w21.cell? ⟨gb111, 3, none⟩ = some (.slice A1_3 l1_3.length c1_3) := (q3q BK111.out 3).trans rfl; have hcz24_4 : w21.cell? ⟨gb111, 4, none⟩ = some (.slice A1_4 l1_4.length c1_4) := (q3q BK111.out 4).trans rfl; have hfz24_0 := q1q BK111.out 0; have hfz24_1 := q1q BK111.out 1; have hfz24_2 := q1q BK111.out 2; have hfz24_3 := q1q BK111.out 3; have hfz24_4 := q1q BK111.out 4) | (go_at_call 35; (with_reducible refine (api_Up_35.calls k _ _ l0_2 _ _ l1_2 false _ ?side1 ?side2 ?side3 ?side4 A5.out).mono ?_); (case side1 => repeat (first | exact (Kd.q19q HR0_2.out HB.out) | (with_reducible refine Kd.C_alloc ?_ _) | (with_reducible refine Kd.C_drewN ?_ _) | (with_reducible refine Kd.C_drew ?_))); (case side2 => exact HC0_2.out); (case side3 => repeat (first | exact (Kd.q19q HR1_2.out HB.out) | (with_reducible refine Kd.C_alloc ?_ _) | (with_reducible refine Kd.C_drewN ?_ _) | (with_reducible refine Kd.C_drew ?_))); (case side4 => exact HC1_2.out); rintro e w' ⟨rfl, ⟨nd, rfl⟩⟩))
  go_ret
  exact ⟨by first | rfl | (simp [*] <;> rfl), by repeat (with_reducible first | exact HB.out | apply q4q | apply q0q | apply q2q | refine q5q ?_ GE110.out | refine q5q ?_ GE111.out)⟩
 subst c6
 have H1 : ((api_Const_36.f k l0_3 l1_3).bind fun t113 => (if t113 = true then ((api_Instr_37.f k l0_4 l1_4).bind fun t114 => (some t114)) else (some false))) = some r := by rw [if_pos rfl] at H; exact H
 clear H
 have H := H1
 clear H1
 replace H := Option.bind_eq_some_iff.mp H
 obtain ⟨t113, A70, H⟩ := H
 replace H : (if t113 = true then ((api_Instr_37.f k l0_4 l1_4).bind fun t114 => (some t114)) else (some false)) = some r := H
 have A7 := Aq.mk A70
 clear A70
 by_cases c8 : t113 = true
 case neg =>
  replace c8 := Bool.eq_false_iff.mpr c8
  subst c8
  have H1 : (some false) = some r := by rw [if_neg (show ¬ (false = true) by decide)] at H; exact H
  clear H
  have H := H1
  clear H1
  obtain rfl := Option.some.inj H
  go_enter Try.func34, Try.ntmps34
  go_wp2_with (first | ((with_reducible refine q12q (N := 2) rfl ?_); refine q11q ?hg (N := 2) ?hd (cs := #[.int .i64 a0_0, .int .i64 a0_1, .slice A0_2 l0_2.length c0_2, .slice A0_3 l0_3.length c0_3, .slice A0_4 l0_4.length c0_4]) (t := 47) ?hr ?_; (case hd => rfl); (case hg => rfl); (case hr => first | (go_simp; done) | (go_simp; rfl)); intro gb110 hg w15 hbox hb; have n0_ := Aq.mk (q10q (by repeat (with_reducible first | exact HB.out | apply q4q | apply q0q | apply q2q)) hb); have n1_ := Aq.mk (hbox); have n2_ := Aq.mk ((by rw [hg]; exact (q6q (by repeat (with_reducible first | exact HB.out | apply q4q | apply q0q | apply q2q))) : w.heap.size ≤ gb110)); have n3_ := Aq.mk ((by rw [hg]; exact (q6q (by repeat (with_reducible first | exact HB.out | apply q4q | apply q0q | apply q2q))) : w.heap.size ≤ gb110)); clear HB; have HB := n0_; have BK110 := n1_; have GW110 := n2_; have GE110 := n3_; clear n0_ n1_ n2_ n3_; clear hb hbox hg) | ((with_reducible refine q12q (N := 3) rfl ?_); refine q11q ?hg (N := 3) ?hd (cs := #[.int .i64 a1_0, .int .i64 a1_1, .slice A1_2 l1_2.length c1_2, .slice A1_3 l1_3.length c1_3, .slice A1_4 l1_4.length c1_4]) (t := 47) ?hr ?_; (case hd => rfl); (case hg => rfl); (case hr => first | (go_simp; done) | (go_simp; rfl)); intro gb111 hg w16 hbox hb; have n0_ := Aq.mk (q13q (g := gb110) (o := .cells #[.int .i64 a0_0, .int .i64 a0_1, .slice A0_2 l0_2.length c0_2, .slice A0_3 l0_3.length c0_3, .slice A0_4 l0_4.length c0_4] 47 (0, 0)) BK110.out hb); have n1_ := Aq.mk (q10q (by repeat (with_reducible first | exact HB.out | apply q4q | apply q0q | apply q2q | refine q5q ?_ GE110.out)) hb); have n2_ := Aq.mk (hbox); have n3_ := Aq.mk ((by rw [hg]; exact (q6q (by repeat (with_reducible first | exact HB.out | apply q4q | apply q0q | apply q2q | refine q5q ?_ GE110.out))) : w.heap.size ≤ gb111)); have n4_ := Aq.mk ((by rw [hg]; exact (q6q (by repeat (with_reducible first | exact HB.out | apply q4q | apply q0q | apply q2q | refine q5q ?_ GE110.out))) : w.heap.size ≤ gb111)); have n5_ := Aq.mk ((by rw [hg]; exact Nat.ne_of_lt (q16q (g := gb110) (o := .cells #[.int .i64 a0_0, .int .i64 a0_1, .slice A0_2 l0_2.length c0_2, .slice A0_3 l0_3.length c0_3, .slice A0_4 l0_4.length c0_4] 47 (0, 0)) BK110.out) : gb110 ≠ gb111)); have n6_ := Aq.mk ((by rw [hg]; exact Nat.ne_of_gt (q16q (g := gb110) (o := .cells #[.int .i64 a0_0, .int .i64 a0_1, .slice A0_2 l0_2.length c0_2, .slice A0_3 l0_3.length c0_3, .slice A0_4 l0_4.length c0_4] 47 (0, 0)) BK110.out) : gb111 ≠ gb110)); clear BK110; clear HB; have BK110 := n0_; have HB := n1_; have BK111 := n2_; have GW111 := n3_; have GE111 := n4_; have NB110_111 := n5_; have NB111_110 := n6_; clear n0_ n1_ n2_ n3_ n4_ n5_ n6_; clear hb hbox hg; have hnb17 := NB110_111.out; have hnc17 := NB111_110.out; have hcz18_0 : w16.cell? ⟨gb110, 0, none⟩ = some (.int .i64 a0_0) := (q3q BK110.out 0).trans rfl; have hcz18_1 : w16.cell? ⟨gb110, 1, none⟩ = some (.int .i64 a0_1) := (q3q BK110.out 1).trans rfl; have hcz18_2 : w16.cell? ⟨gb110, 2, none⟩ = some (.slice A0_2 l0_2.length c0_2) := (q3q BK110.out 2).trans rfl; have hcz18_3 : w16.cell? ⟨gb110, 3, none⟩ = some (.slice A0_3 l0_3.length c0_3) := (q3q BK110.out 3).trans rfl; have hcz18_4 : w16.cell? ⟨gb110, 4, none⟩ = some (.slice A0_4 l0_4.length c0_4) := (q3q BK110.out 4).trans rfl; have hfz18_0 := q1q BK110.out 0; have hfz18_1 := q1q BK110.out 1; have hfz18_2 := q1q BK110.out 2; have hfz18_3 := q1q BK110.out 3; have hfz18_4 := q1q BK110.out 4; have hcz19_0 : w16.cell? ⟨gb111, 0, none⟩ = some (.int .i64 a1_0) := (q3q BK111.out 0).trans rfl; have hcz19_1 : w16.cell? ⟨gb111, 1, none⟩ = some (.int .i64 a1_1) := (q3q BK111.out 1).trans rfl; have hcz19_2 : w16.cell? ⟨gb111, 2, none⟩ = some (.slice A1_2 l1_2.length c1_2) := (q3q BK111.out 2).trans rfl; have hcz19_3 : w16.cell? ⟨gb111, 3, none⟩ = some (.slice A1_3 l1_3.length c1_3) := (q3q BK111.out 3).trans rfl; have hcz19_4 : w16.cell? ⟨gb111, 4, none⟩ = some (.slice A1_4 l1_4.length c1_4) := (q3q BK111.out 4).trans rfl; have hfz19_0 := q1q BK111.out 0; have hfz19_1 := q1q BK111.out 1; have hfz19_2 := q1q BK111.out 2; have hfz19_3 := q1q BK111.out 3; have hfz19_4 := q1q BK111.out 4) | (go_at_call 35; (with_reducible refine (api_Up_35.calls k _ _ l0_2 _ _ l1_2 true _ ?side1 ?side2 ?side3 ?side4 A5.out).mono ?_); (case side1 => repeat (first | exact (Kd.q19q HR0_2.out HB.out) | (with_reducible refine Kd.C_alloc ?_ _) | (with_reducible refine Kd.C_drewN ?_ _) | (with_reducible refine Kd.C_drew ?_))); (case side2 => exact HC0_2.out); (case side3 => repeat (first | exact (Kd.q19q HR1_2.out HB.out) | (with_reducible refine Kd.C_alloc ?_ _) | (with_reducible refine Kd.C_drewN ?_ _) | (with_reducible refine Kd.C_drew ?_))); (case side4 => exact HC1_2.out); rintro e w' ⟨rfl, ⟨nd, rfl⟩⟩) | (go_at_call 36; (with_reducible refine (api_Const_36.calls k _ _ l0_3 _ _ l1_3 false _ ?side1 ?side2 ?side3 ?side4 A7.out).mono ?_); (case side1 => repeat (first | exact (Kd.q19q HR0_3.out (by repeat (with_reducible first | exact HB.out | apply q4q | apply q0q | apply q2q | refine q5q ?_ GE110.out | refine q5q ?_ GE111.out))) | (with_reducible refine Kd.C_alloc ?_ _) | (with_reducible refine Kd.C_drewN ?_ _) | (with_reducible refine Kd.C_drew ?_))); (case side2 => exact HC0_3.out); (case side3 => repeat (first | exact (Kd.q19q HR1_3.out (by repeat (with_reducible first | exact HB.out | apply q4q | apply q0q | apply q2q | refine q5q ?_ GE110.out | refine q5q ?_ GE111.out))) | (with_reducible refine Kd.C_alloc ?_ _) | (with_reducible refine Kd.C_drewN ?_ _) | (with_reducible refine Kd.C_drew ?_))); (case side4 => exact HC1_3.out); rintro e w' ⟨rfl, ⟨nd, rfl⟩⟩))
  go_ret
  exact ⟨by first | rfl | (simp [*] <;> rfl), by repeat (with_reducible first | exact HB.out | apply q4q | apply q0q | apply q2q | refine q5q ?_ GE110.out | refine q5q ?_ GE111.out)⟩
 subst c8
 have H1 : ((api_Instr_37.f k l0_4 l1_4).bind fun t114 => (some t114)) = some r := by rw [if_pos rfl] at H; exact H
 clear H
 have H := H1
 clear H1
 replace H := Option.bind_eq_some_iff.mp H
 obtain ⟨t114, A90, H⟩ := H
 replace H : (some t114) = some r := H
 have A9 := Aq.mk A90
 clear A90
 obtain rfl := Option.some.inj H
 go_enter Try.func34, Try.ntmps34
 go_wp2_with (first | ((with_reducible refine q12q (N := 2) rfl ?_); refine q11q ?hg (N := 2) ?hd (cs := #[.int .i64 a0_0, .int .i64 a0_1, .slice A0_2 l0_2.length c0_2, .slice A0_3 l0_3.length c0_3, .slice A0_4 l0_4.length c0_4]) (t := 47) ?hr ?_; (case hd => rfl); (case hg => rfl); (case hr => first | (go_simp; done) | (go_simp; rfl)); intro gb110 hg w10 hbox hb; have n0_ := Aq.mk (q10q (by repeat (with_reducible first | exact HB.out | apply q4q | apply q0q | apply q2q)) hb); have n1_ := Aq.mk (hbox); have n2_ := Aq.mk ((by rw [hg]; exact (q6q (by repeat (with_reducible first | exact HB.out | apply q4q | apply q0q | apply q2q))) : w.heap.size ≤ gb110)); have n3_ := Aq.mk ((by rw [hg]; exact (q6q (by repeat (with_reducible first | exact HB.out | apply q4q | apply q0q | apply q2q))) : w.heap.size ≤ gb110)); clear HB; have HB := n0_; have BK110 := n1_; have GW110 := n2_; have GE110 := n3_; clear n0_ n1_ n2_ n3_; clear hb hbox hg) | ((with_reducible refine q12q (N := 3) rfl ?_); refine q11q ?hg (N := 3) ?hd (cs := #[.int .i64 a1_0, .int .i64 a1_1, .slice A1_2 l1_2.length c1_2, .slice A1_3 l1_3.length c1_3, .slice A1_4 l1_4.length c1_4]) (t := 47) ?hr ?_; (case hd => rfl); (case hg => rfl); (case hr => first | (go_simp; done) | (go_simp; rfl)); intro gb111 hg w11 hbox hb; have n0_ := Aq.mk (q13q (g := gb110) (o := .cells #[.int .i64 a0_0, .int .i64 a0_1, .slice A0_2 l0_2.length c0_2, .slice A0_3 l0_3.length c0_3, .slice A0_4 l0_4.length c0_4] 47 (0, 0)) BK110.out hb); have n1_ := Aq.mk (q10q (by repeat (with_reducible first | exact HB.out | apply q4q | apply q0q | apply q2q | refine q5q ?_ GE110.out)) hb); have n2_ := Aq.mk (hbox); have n3_ := Aq.mk ((by rw [hg]; exact (q6q (by repeat (with_reducible first | exact HB.out | apply q4q | apply q0q | apply q2q | refine q5q ?_ GE110.out))) : w.heap.size ≤ gb111)); have n4_ := Aq.mk ((by rw [hg]; exact (q6q (by repeat (with_reducible first | exact HB.out | apply q4q | apply q0q | apply q2q | refine q5q ?_ GE110.out))) : w.heap.size ≤ gb111)); have n5_ := Aq.mk ((by rw [hg]; exact Nat.ne_of_lt (q16q (g := gb110) (o := .cells #[.int .i64 a0_0, .int .i64 a0_1, .slice A0_2 l0_2.length c0_2, .slice A0_3 l0_3.length c0_3, .slice A0_4 l0_4.length c0_4] 47 (0, 0)) BK110.out) : gb110 ≠ gb111)); have n6_ := Aq.mk ((by rw [hg]; exact Nat.ne_of_gt (q16q (g := gb110) (o := .cells #[.int .i64 a0_0, .int .i64 a0_1, .slice A0_2 l0_2.length c0_2, .slice A0_3 l0_3.length c0_3, .slice A0_4 l0_4.length c0_4] 47 (0, 0)) BK110.out) : gb111 ≠ gb110)); clear BK110; clear HB; have BK110 := n0_; have HB := n1_; have BK111 := n2_; have GW111 := n3_; have GE111 := n4_; have NB110_111 := n5_; have NB111_110 := n6_; clear n0_ n1_ n2_ n3_ n4_ n5_ n6_; clear hb hbox hg; have hnb12 := NB110_111.out; have hnc12 := NB111_110.out; have hcz13_0 : w11.cell? ⟨gb110, 0, none⟩ = some (.int .i64 a0_0) := (q3q BK110.out 0).trans rfl; have hcz13_1 : w11.cell? ⟨gb110, 1, none⟩ = some (.int .i64 a0_1) := (q3q BK110.out 1).trans rfl; have hcz13_2 : w11.cell? ⟨gb110, 2, none⟩ = some (.slice A0_2 l0_2.length c0_2) := (q3q BK110.out 2).trans rfl; have hcz13_3 : w11.cell? ⟨gb110, 3, none⟩ = some (.slice A0_3 l0_3.length c0_3) := (q3q BK110.out 3).trans rfl; have hcz13_4 : w11.cell? ⟨gb110, 4, none⟩ = some (.slice A0_4 l0_4.length c0_4) := (q3q BK110.out 4).trans rfl; have hfz13_0 := q1q BK110.out 0; have hfz13_1 := q1q BK110.out 1; have hfz13_2 := q1q BK110.out 2; have hfz13_3 := q1q BK110.out 3; have hfz13_4 := q1q BK110.out 4; have hcz14_0 : w11.cell? ⟨gb111, 0, none⟩ = some (.int .i64 a1_0) := (q3q BK111.out 0).trans rfl; have hcz14_1 : w11.cell? ⟨gb111, 1, none⟩ = some (.int .i64 a1_1) := (q3q BK111.out 1).trans rfl; have hcz14_2 : w11.cell? ⟨gb111, 2, none⟩ = some (.slice A1_2 l1_2.length c1_2) := (q3q BK111.out 2).trans rfl; have hcz14_3 : w11.cell? ⟨gb111, 3, none⟩ = some (.slice A1_3 l1_3.length c1_3) := (q3q BK111.out 3).trans rfl; have hcz14_4 : w11.cell? ⟨gb111, 4, none⟩ = some (.slice A1_4 l1_4.length c1_4) := (q3q BK111.out 4).trans rfl; have hfz14_0 := q1q BK111.out 0; have hfz14_1 := q1q BK111.out 1; have hfz14_2 := q1q BK111.out 2; have hfz14_3 := q1q BK111.out 3; have hfz14_4 := q1q BK111.out 4) | (go_at_call 35; (with_reducible refine (api_Up_35.calls k _ _ l0_2 _ _ l1_2 true _ ?side1 ?side2 ?side3 ?side4 A5.out).mono ?_); (case side1 => repeat (first | exact (Kd.q19q HR0_2.out HB.out) | (with_reducible refine Kd.C_alloc ?_ _) | (with_reducible refine Kd.C_drewN ?_ _) | (with_reducible refine Kd.C_drew ?_))); (case side2 => exact HC0_2.out); (case side3 => repeat (first | exact (Kd.q19q HR1_2.out HB.out) | (with_reducible refine Kd.C_alloc ?_ _) | (with_reducible refine Kd.C_drewN ?_ _) | (with_reducible refine Kd.C_drew ?_))); (case side4 => exact HC1_2.out); rintro e w' ⟨rfl, ⟨nd, rfl⟩⟩) | (go_at_call 36; (with_reducible refine (api_Const_36.calls k _ _ l0_3 _ _ l1_3 true _ ?side1 ?side2 ?side3 ?side4 A7.out).mono ?_); (case side1 => repeat (first | exact (Kd.q19q HR0_3.out (by repeat (with_reducible first | exact HB.out | apply q4q | apply q0q | apply q2q | refine q5q ?_ GE110.out | refine q5q ?_ GE111.out))) | (with_reducible refine Kd.C_alloc ?_ _) | (with_reducible refine Kd.C_drewN ?_ _) | (with_reducible refine Kd.C_drew ?_))); (case side2 => exact HC0_3.out); (case side3 => repeat (first | exact (Kd.q19q HR1_3.out (by repeat (with_reducible first | exact HB.out | apply q4q | apply q0q | apply q2q | refine q5q ?_ GE110.out | refine q5q ?_ GE111.out))) | (with_reducible refine Kd.C_alloc ?_ _) | (with_reducible refine Kd.C_drewN ?_ _) | (with_reducible refine Kd.C_drew ?_))); (case side4 => exact HC1_3.out); rintro e w' ⟨rfl, ⟨nd, rfl⟩⟩) | (go_at_call 37; (with_reducible refine (api_Instr_37.calls k _ _ l0_4 _ _ l1_4 t114 _ ?side1 ?side2 ?side3 ?side4 A9.out).mono ?_); (case side1 => repeat (first | exact (Kd.q19q HR0_4.out (by repeat (with_reducible first | exact HB.out | apply q4q | apply q0q | apply q2q | refine q5q ?_ GE110.out | refine q5q ?_ GE111.out))) | (with_reducible refine Kd.C_alloc ?_ _) | (with_reducible refine Kd.C_drewN ?_ _) | (with_reducible refine Kd.C_drew ?_))); (case side2 => exact HC0_4.out); (case side3 => repeat (first | exact (Kd.q19q HR1_4.out (by repeat (with_reducible first | exact HB.out | apply q4q | apply q0q | apply q2q | refine q5q ?_ GE110.out | refine q5q ?_ GE111.out))) | (with_reducible refine Kd.C_alloc ?_ _) | (with_reducible refine Kd.C_drewN ?_ _) | (with_reducible refine Kd.C_drew ?_))); (case side4 => exact HC1_4.out); rintro e w' ⟨rfl, ⟨nd, rfl⟩⟩))
 go_ret
 exact ⟨by first | rfl | (simp [*] <;> rfl), by repeat (with_reducible first | exact HB.out | apply q4q | apply q0q | apply q2q | refine q5q ?_ GE110.out | refine q5q ?_ GE111.out)⟩
def api_Proto.l0 : Nat → List (S47) → List (S47) → Int → Int → Option (Bool)
 | 0, _, _, _, _ => none
 | k + 1, x1, x15, x16, x17 => if x17 < x16 then (if 0 ≤ x17 then (if x17 < (x15.length : Int) then (if x17 < (x1.length : Int) then ((fQ24.f k ((rd_T47 x15 x17).f0) ((rd_T47 x15 x17).f1) ((rd_T47 x15 x17).f2) ((rd_T47 x15 x17).f3) ((rd_T47 x15 x17).f4) ((rd_T47 x1 x17).f0) ((rd_T47 x1 x17).f1) ((rd_T47 x1 x17).f2) ((rd_T47 x1 x17).f3) ((rd_T47 x1 x17).f4)).bind fun t137 => (if t137 = true then (api_Proto.l0 k x1 x15 x16 (wrap64 (x17 + 1))) else (some false))) else (none)) else (none)) else (none)) else (some true)
def api_Proto.f (k : Nat) (l0 : List (S47)) (l1 : List (S47)) (a2 : Int) : Option (Bool) := if (l0.length : Int) = (l1.length : Int) then (api_Proto.l0 k l1 l0 (l0.length : Int) 0) else (some false)
theorem api_Proto.calls (k : Nat) (A0 : Option Addr) (c0 : Nat) (l0 : List (S47)) (A1 : Option Addr) (c1 : Nat) (l1 : List (S47)) (a2 : Int) (r : Bool) (w : World) (hr0 : Kd.C k47 w A0 l0.length l0) (hc0 : l0.length ≤ c0) (hr1 : Kd.C k47 w A1 l1.length l1) (hc1 : l1.length ≤ c1) (h : api_Proto.f k l0 l1 a2 = some r) :
  Calls Try.prog 33 #[.slice A0 l0.length c0, .slice A1 l1.length c1, .func (.func 34) #[] #[]] w fun e w' => e = .returned (.bool r) ∧ Below w.heap.size w w' := by
 have hu47 := Try.underlying47
 have HR0 := Aq.mk hr0
 have HC0 := Aq.mk hc0
 clear hr0 hc0
 have HR1 := Aq.mk hr1
 have HC1 := Aq.mk hc1
 clear hr1 hc1
 have HB := Aq.mk (Below.refl w.heap.size w)
 have H : (if (l0.length : Int) = (l1.length : Int) then (api_Proto.l0 k l1 l0 (l0.length : Int) 0) else (some false)) = some r := h
 clear h
 by_cases c4 : (l0.length : Int) = (l1.length : Int)
 case neg =>
  rw [if_neg c4] at H
  have c4b0 : ((l0.length : Int) == (l1.length : Int)) = false := beq_eq_false_iff_ne.mpr c4
  have c4b1 : ((l0.length : Int) != (l1.length : Int)) = true := bne_iff_ne.mpr c4
  have c4b2 : (l0.length == l1.length) = false := by first | simpa using c4 | (simp at c4 ⊢; omega)
  obtain rfl := Option.some.inj H
  go_enter Try.func33, Try.ntmps33
  go_wp2
  go_ret
  exact ⟨by first | rfl | (simp [*] <;> rfl), by repeat (with_reducible first | exact HB.out | apply q4q | apply q0q | apply q2q)⟩
 rw [if_pos c4] at H
 have c4b0 : ((l0.length : Int) == (l1.length : Int)) = true := beq_iff_eq.mpr c4
 have c4b1 : ((l0.length : Int) != (l1.length : Int)) = false := bne_eq_false_iff_eq.mpr c4
 have c4b2 : (l0.length == l1.length) = true := by first | simpa using c4 | (simp at c4 ⊢; omega)
 clear c4
 have H' := Aq.mk H
 clear H
 go_enter Try.func33, Try.ntmps33
 go_wp2
 go_loopg [17] k (fun kq v17 w' => ∃ (x17_1 : Int), v17 = .int .i64 x17_1 ∧ Aq (api_Proto.l0 kq l1 l0 (l0.length : Int) x17_1 = some r) ∧ Aq (kq ≤ k) ∧ Aq (Below w.heap.size w w'))
 case atStart => exact ⟨(0), (by first | rfl | (simp; done) | (simp [*]; done)), H', ⟨Nat.le_refl _⟩, ⟨by repeat (with_reducible first | exact HB.out | apply q4q | apply q0q | apply q2q)⟩⟩
 case round =>
  clear H'
  try clear c4b0
  try clear c4b1
  try clear c4b2
  obtain ⟨x17_1, rfl, HA, HK1, HB⟩ := hrel
  cases gk with
  | zero => exact absurd HA.out (by simp [api_Proto.l0])
  | succ k1 =>
   have H := HA.out
   clear HA
   simp only [api_Proto.l0] at H
   by_cases c5 : x17_1 < (l0.length : Int)
   case neg =>
    rw [if_neg c5] at H
    have c5b0 : decide (x17_1 < (l0.length : Int)) = false := decide_eq_false c5
    clear c5
    obtain rfl := Option.some.inj H
    go_wp2
    go_ret
    exact ⟨by first | rfl | (simp [*] <;> rfl), by repeat (with_reducible first | exact HB.out | apply q4q | apply q0q | apply q2q)⟩
   rw [if_pos c5] at H
   have c5b0 : decide (x17_1 < (l0.length : Int)) = true := decide_eq_true c5
   clear c5
   by_cases c6 : 0 ≤ x17_1
   case neg =>
    rw [if_neg c6] at H
    exact absurd H (by simp)
   rw [if_pos c6] at H
   have c6b0 : decide (0 ≤ x17_1) = true := decide_eq_true c6
   clear c6
   by_cases c7 : x17_1 < (l0.length : Int)
   case neg =>
    rw [if_neg c7] at H
    exact absurd H (by simp)
   rw [if_pos c7] at H
   have c7b0 : decide (x17_1 < (l0.length : Int)) = true := decide_eq_true c7
   clear c7
   by_cases c8 : x17_1 < (l1.length : Int)
   case neg =>
    rw [if_neg c8] at H
    exact absurd H (by simp)
   rw [if_pos c8] at H
   have c8b0 : decide (x17_1 < (l1.length : Int)) = true := decide_eq_true c8
   clear c8
   replace H := Option.bind_eq_some_iff.mp H
   obtain ⟨t137, A90, H⟩ := H
   replace H : (if t137 = true then (api_Proto.l0 k1 l1 l0 (l0.length : Int) (wrap64 (x17_1 + 1))) else (some false)) = some r := H
   have A9 := Aq.mk A90
   clear A90
   by_cases c10 : t137 = true
   case neg =>
    replace c10 := Bool.eq_false_iff.mpr c10
    subst c10
    have H1 : (some false) = some r := by rw [if_neg (show ¬ (false = true) by decide)] at H; exact H
    clear H
    have H := H1
    clear H1
    obtain rfl := Option.some.inj H
    have p133 : 0 ≤ (x17_1 : Int) := of_decide_eq_true (by first | (with_reducible assumption) | assumption)
    have q133 : x17_1 < (l0.length : Int) := of_decide_eq_true (by first | (with_reducible assumption) | assumption)
    obtain ⟨ad133, A133_2, c133_2, A133_3, c133_3, A133_4, c133_4, e133, hx133_0, hx133_1, hx133_2, hx133_3, hx133_4, hl133_2, hi133_2, hl133_3, hi133_3, hl133_4, hi133_4⟩ := at_T47 HR0.out x17_1 p133 q133
    cases e133
    replace hx133_0 := (HB.out.cell (World.block_lt_of_cell? w _ hx133_0)).trans hx133_0
    replace hx133_1 := (HB.out.cell (World.block_lt_of_cell? w _ hx133_1)).trans hx133_1
    replace hx133_2 := (HB.out.cell (World.block_lt_of_cell? w _ hx133_2)).trans hx133_2
    replace hx133_3 := (HB.out.cell (World.block_lt_of_cell? w _ hx133_3)).trans hx133_3
    replace hx133_4 := (HB.out.cell (World.block_lt_of_cell? w _ hx133_4)).trans hx133_4
    have HR133_2 := Aq.mk hi133_2
    have HC133_2 := Aq.mk hl133_2
    clear hi133_2 hl133_2
    have HR133_3 := Aq.mk hi133_3
    have HC133_3 := Aq.mk hl133_3
    clear hi133_3 hl133_3
    have HR133_4 := Aq.mk hi133_4
    have HC133_4 := Aq.mk hl133_4
    clear hi133_4 hl133_4
    replace p133 := eq_true p133
    replace q133 := eq_true q133
    go_wp2_with (first | ((with_reducible refine q12q (N := 8) rfl ?_); refine q11q ?hg (N := 8) ?hd (cs := #[.int .i64 0, .int .i64 0, .slice none 0 0, .slice none 0 0, .slice none 0 0]) (t := 47) ?hr ?_; (case hd => rfl); (case hg => rfl); (case hr => first | (go_simp; done) | (go_simp; rfl)); intro gb134 hg w18 hbox hb; have n0_ := Aq.mk (q10q (by repeat (with_reducible first | exact HB.out | apply q4q | apply q0q | apply q2q)) hb); have n1_ := Aq.mk (hbox); have n2_ := Aq.mk ((by rw [hg]; exact (q6q (by repeat (with_reducible first | exact HB.out | apply q4q | apply q0q | apply q2q))) : w.heap.size ≤ gb134)); have n3_ := Aq.mk ((by rw [hg]; exact (q6q (by repeat (with_reducible first | exact HB.out | apply q4q | apply q0q | apply q2q))) : w.heap.size ≤ gb134)); clear HB; have HB := n0_; have BK134 := n1_; have GW134 := n2_; have GE134 := n3_; clear n0_ n1_ n2_ n3_; clear hb hbox hg; have hcz19_0 : w18.cell? ⟨gb134, 0, none⟩ = some (.int .i64 0) := (q3q BK134.out 0).trans rfl; have hcz19_1 : w18.cell? ⟨gb134, 1, none⟩ = some (.int .i64 0) := (q3q BK134.out 1).trans rfl; have hcz19_2 : w18.cell? ⟨gb134, 2, none⟩ = some (.slice none 0 0) := (q3q BK134.out 2).trans rfl; have hcz19_3 : w18.cell? ⟨gb134, 3, none⟩ = some (.slice none 0 0) := (q3q BK134.out 3).trans rfl; have hcz19_4 : w18.cell? ⟨gb134, 4, none⟩ = some (.slice none 0 0) := (q3q BK134.out 4).trans rfl; have hfz19_0 := q1q BK134.out 0; have hfz19_1 := q1q BK134.out 1; have hfz19_2 := q1q BK134.out 2; have hfz19_3 := q1q BK134.out 3; have hfz19_4 := q1q BK134.out 4; have p135 : 0 ≤ (x17_1 : Int) := of_decide_eq_true (by first | (with_reducible assumption) | assumption); have q135 : x17_1 < (l1.length : Int) := of_decide_eq_true (by first | (with_reducible assumption) | assumption); obtain ⟨ad135, A135_2, c135_2, A135_3, c135_3, A135_4, c135_4, e135, hx135_0, hx135_1, hx135_2, hx135_3, hx135_4, hl135_2, hi135_2, hl135_3, hi135_3, hl135_4, hi135_4⟩ := at_T47 HR1.out x17_1 p135 q135; cases e135; have hn135_0 : ad135.block ≠ gb134 := Nat.ne_of_lt (Nat.lt_of_lt_of_le (by have := World.block_lt_of_cell? _ _ hx135_0; first | rwa [add_block] at this | exact this) GW134.out); have hn135_1 : ad135.block ≠ gb134 := Nat.ne_of_lt (Nat.lt_of_lt_of_le (by have := World.block_lt_of_cell? _ _ hx135_0; first | rwa [add_block] at this | exact this) GW134.out); have hn135_2 : ad135.block ≠ gb134 := Nat.ne_of_lt (Nat.lt_of_lt_of_le (by have := World.block_lt_of_cell? _ _ hx135_0; first | rwa [add_block] at this | exact this) GW134.out); have hn135_3 : ad135.block ≠ gb134 := Nat.ne_of_lt (Nat.lt_of_lt_of_le (by have := World.block_lt_of_cell? _ _ hx135_0; first | rwa [add_block] at this | exact this) GW134.out); have hn135_4 : ad135.block ≠ gb134 := Nat.ne_of_lt (Nat.lt_of_lt_of_le (by have := World.block_lt_of_cell? _ _ hx135_0; first | rwa [add_block] at this | exact this) GW134.out); replace hx135_0 := (HB.out.cell (World.block_lt_of_cell? w _ hx135_0)).trans hx135_0; replace hx135_1 := (HB.out.cell (World.block_lt_of_cell? w _ hx135_1)).trans hx135_1; replace hx135_2 := (HB.out.cell (World.block_lt_of_cell? w _ hx135_2)).trans hx135_2; replace hx135_3 := (HB.out.cell (World.block_lt_of_cell? w _ hx135_3)).trans hx135_3; replace hx135_4 := (HB.out.cell (World.block_lt_of_cell? w _ hx135_4)).trans hx135_4; have HR135_2 := Aq.mk hi135_2; have HC135_2 := Aq.mk hl135_2; clear hi135_2 hl135_2; have HR135_3 := Aq.mk hi135_3; have HC135_3 := Aq.mk hl135_3; clear hi135_3 hl135_3; have HR135_4 := Aq.mk hi135_4; have HC135_4 := Aq.mk hl135_4; clear hi135_4 hl135_4; replace hx135_0 := (cell_far (p := ⟨gb134, 0, none⟩) (by first | (rw [add_block]; exact hn135_0) | (show (Addr.add _ _).block ≠ _; rw [add_block]; exact hn135_0) | exact hn135_0) (.int .i64 ((rd_T47 l0 x17_1).f0))).trans hx135_0; replace hx135_1 := (cell_far (p := ⟨gb134, 0, none⟩) (by first | (rw [add_block]; exact hn135_0) | (show (Addr.add _ _).block ≠ _; rw [add_block]; exact hn135_0) | exact hn135_0) (.int .i64 ((rd_T47 l0 x17_1).f0))).trans hx135_1; replace hx135_2 := (cell_far (p := ⟨gb134, 0, none⟩) (by first | (rw [add_block]; exact hn135_0) | (show (Addr.add _ _).block ≠ _; rw [add_block]; exact hn135_0) | exact hn135_0) (.int .i64 ((rd_T47 l0 x17_1).f0))).trans hx135_2; replace hx135_3 := (cell_far (p := ⟨gb134, 0, none⟩) (by first | (rw [add_block]; exact hn135_0) | (show (Addr.add _ _).block ≠ _; rw [add_block]; exact hn135_0) | exact hn135_0) (.int .i64 ((rd_T47 l0 x17_1).f0))).trans hx135_3; replace hx135_4 := (cell_far (p := ⟨gb134, 0, none⟩) (by first | (rw [add_block]; exact hn135_0) | (show (Addr.add _ _).block ≠ _; rw [add_block]; exact hn135_0) | exact hn135_0) (.int .i64 ((rd_T47 l0 x17_1).f0))).trans hx135_4; replace hx135_0 := (cell_far (p := ⟨gb134, 1, none⟩) (by first | (rw [add_block]; exact hn135_1) | (show (Addr.add _ _).block ≠ _; rw [add_block]; exact hn135_1) | exact hn135_1) (.int .i64 ((rd_T47 l0 x17_1).f1))).trans hx135_0; replace hx135_1 := (cell_far (p := ⟨gb134, 1, none⟩) (by first | (rw [add_block]; exact hn135_1) | (show (Addr.add _ _).block ≠ _; rw [add_block]; exact hn135_1) | exact hn135_1) (.int .i64 ((rd_T47 l0 x17_1).f1))).trans hx135_1; replace hx135_2 := (cell_far (p := ⟨gb134, 1, none⟩) (by first | (rw [add_block]; exact hn135_1) | (show (Addr.add _ _).block ≠ _; rw [add_block]; exact hn135_1) | exact hn135_1) (.int .i64 ((rd_T47 l0 x17_1).f1))).trans hx135_2; replace hx135_3 := (cell_far (p := ⟨gb134, 1, none⟩) (by first | (rw [add_block]; exact hn135_1) | (show (Addr.add _ _).block ≠ _; rw [add_block]; exact hn135_1) | exact hn135_1) (.int .i64 ((rd_T47 l0 x17_1).f1))).trans hx135_3; replace hx135_4 := (cell_far (p := ⟨gb134, 1, none⟩) (by first | (rw [add_block]; exact hn135_1) | (show (Addr.add _ _).block ≠ _; rw [add_block]; exact hn135_1) | exact hn135_1) (.int .i64 ((rd_T47 l0 x17_1).f1))).trans hx135_4; replace hx135_0 := (cell_far (p := ⟨gb134, 2, none⟩) (by first | (rw [add_block]; exact hn135_2) | (show (Addr.add _ _).block ≠ _; rw [add_block]; exact hn135_2) | exact hn135_2) (.slice A133_2 ((rd_T47 l0 x17_1).f2).length c133_2)).trans hx135_0; replace hx135_1 := (cell_far (p := ⟨gb134, 2, none⟩) (by first | (rw [add_block]; exact hn135_2) | (show (Addr.add _ _).block ≠ _; rw [add_block]; exact hn135_2) | exact hn135_2) (.slice A133_2 ((rd_T47 l0 x17_1).f2).length c133_2)).trans hx135_1; replace hx135_2 := (cell_far (p := ⟨gb134, 2, none⟩) (by first | (rw [add_block]; exact hn135_2) | (show (Addr.add _ _).block ≠ _; rw [add_block]; exact hn135_2) | exact hn135_2) (.slice A133_2 ((rd_T47 l0 x17_1).f2).length c133_2)).trans hx135_2; replace hx135_3 := (cell_far (p := ⟨gb134, 2, none⟩) (by first | (rw [add_block]; exact hn135_2) | (show (Addr.add _ _).block ≠ _; rw [add_block]; exact hn135_2) | exact hn135_2) (.slice A133_2 ((rd_T47 l0 x17_1).f2).length c133_2)).trans hx135_3; replace hx135_4 := (cell_far (p := ⟨gb134, 2, none⟩) (by first | (rw [add_block]; exact hn135_2) | (show (Addr.add _ _).block ≠ _; rw [add_block]; exact hn135_2) | exact hn135_2) (.slice A133_2 ((rd_T47 l0 x17_1).f2).length c133_2)).trans hx135_4; replace hx135_0 := (cell_far (p := ⟨gb134, 3, none⟩) (by first | (rw [add_block]; exact hn135_3) | (show (Addr.add _ _).block ≠ _; rw [add_block]; exact hn135_3) | exact hn135_3) (.slice A133_3 ((rd_T47 l0 x17_1).f3).length c133_3)).trans hx135_0; replace hx135_1 := (cell_far (p := ⟨gb134, 3, none⟩) (by first | (rw [add_block]; exact hn135_3) | (show (Addr.add _ _).block ≠ _; rw [add_block]; exact hn135_3) | exact hn135_3) (.slice A133_3 ((rd_T47 l0 x17_1).f3).length c133_3)).trans hx135_1; replace hx135_2 := (cell_far (p := ⟨gb134, 3, none⟩) (by first | (rw [add_block]; exact hn135_3) | (show (Addr.add _ _).block ≠ _; rw [add_block]; exact hn135_3) | exact hn135_3) (.slice A133_3 ((rd_T47 l0 x17_1).f3).length c133_3)).trans hx135_2; replace hx135_3 := (cell_far (p := ⟨gb134, 3, none⟩) (by first | (rw [add_block]; exact hn135_3) | (show (Addr.add _ _).block ≠ _; rw [add_block]; exact hn135_3) | exact hn135_3) (.slice A133_3 ((rd_T47 l0 x17_1).f3).length c133_3)).trans hx135_3; replace hx135_4 := (cell_far (p := ⟨gb134, 3, none⟩) (by first | (rw [add_block]; exact hn135_3) | (show (Addr.add _ _).block ≠ _; rw [add_block]; exact hn135_3) | exact hn135_3) (.slice A133_3 ((rd_T47 l0 x17_1).f3).length c133_3)).trans hx135_4; replace hx135_0 := (cell_far (p := ⟨gb134, 4, none⟩) (by first | (rw [add_block]; exact hn135_4) | (show (Addr.add _ _).block ≠ _; rw [add_block]; exact hn135_4) | exact hn135_4) (.slice A133_4 ((rd_T47 l0 x17_1).f4).length c133_4)).trans hx135_0; replace hx135_1 := (cell_far (p := ⟨gb134, 4, none⟩) (by first | (rw [add_block]; exact hn135_4) | (show (Addr.add _ _).block ≠ _; rw [add_block]; exact hn135_4) | exact hn135_4) (.slice A133_4 ((rd_T47 l0 x17_1).f4).length c133_4)).trans hx135_1; replace hx135_2 := (cell_far (p := ⟨gb134, 4, none⟩) (by first | (rw [add_block]; exact hn135_4) | (show (Addr.add _ _).block ≠ _; rw [add_block]; exact hn135_4) | exact hn135_4) (.slice A133_4 ((rd_T47 l0 x17_1).f4).length c133_4)).trans hx135_2; replace hx135_3 := (cell_far (p := ⟨gb134, 4, none⟩) (by first | (rw [add_block]; exact hn135_4) | (show (Addr.add _ _).block ≠ _; rw [add_block]; exact hn135_4) | exact hn135_4) (.slice A133_4 ((rd_T47 l0 x17_1).f4).length c133_4)).trans hx135_3; replace hx135_4 := (cell_far (p := ⟨gb134, 4, none⟩) (by first | (rw [add_block]; exact hn135_4) | (show (Addr.add _ _).block ≠ _; rw [add_block]; exact hn135_4) | exact hn135_4) (.slice A133_4 ((rd_T47 l0 x17_1).f4).length c133_4)).trans hx135_4; clear hn135_0; clear hn135_1; clear hn135_2; clear hn135_3; clear hn135_4; replace p135 := eq_true p135; replace q135 := eq_true q135) | ((with_reducible refine q12q (N := 9) rfl ?_); refine q11q ?hg (N := 9) ?hd (cs := #[.int .i64 0, .int .i64 0, .slice none 0 0, .slice none 0 0, .slice none 0 0]) (t := 47) ?hr ?_; (case hd => rfl); (case hg => rfl); (case hr => first | (go_simp; done) | (go_simp; rfl)); intro gb136 hg w20 hbox hb; have n0_ := Aq.mk (q13q (g := gb134) (o := .cells #[.int .i64 ((rd_T47 l0 x17_1).f0), .int .i64 ((rd_T47 l0 x17_1).f1), .slice A133_2 ((rd_T47 l0 x17_1).f2).length c133_2, .slice A133_3 ((rd_T47 l0 x17_1).f3).length c133_3, .slice A133_4 ((rd_T47 l0 x17_1).f4).length c133_4] 47 (0, 0)) (by (with_reducible repeat (first | refine q8q ?_ _ | refine q9q ?_ | refine q7q ?_ _)); refine q14q (cs := #[.int .i64 ((rd_T47 l0 x17_1).f0), .int .i64 ((rd_T47 l0 x17_1).f1), .slice A133_2 ((rd_T47 l0 x17_1).f2).length c133_2, .slice A133_3 ((rd_T47 l0 x17_1).f3).length c133_3, .slice none 0 0]) ?_ 4 _ rfl; (with_reducible repeat (first | refine q8q ?_ _ | refine q9q ?_ | refine q7q ?_ _)); refine q14q (cs := #[.int .i64 ((rd_T47 l0 x17_1).f0), .int .i64 ((rd_T47 l0 x17_1).f1), .slice A133_2 ((rd_T47 l0 x17_1).f2).length c133_2, .slice none 0 0, .slice none 0 0]) ?_ 3 _ rfl; (with_reducible repeat (first | refine q8q ?_ _ | refine q9q ?_ | refine q7q ?_ _)); refine q14q (cs := #[.int .i64 ((rd_T47 l0 x17_1).f0), .int .i64 ((rd_T47 l0 x17_1).f1), .slice none 0 0, .slice none 0 0, .slice none 0 0]) ?_ 2 _ rfl; (with_reducible repeat (first | refine q8q ?_ _ | refine q9q ?_ | refine q7q ?_ _)); refine q14q (cs := #[.int .i64 ((rd_T47 l0 x17_1).f0), .int .i64 0, .slice none 0 0, .slice none 0 0, .slice none 0 0]) ?_ 1 _ rfl; (with_reducible repeat (first | refine q8q ?_ _ | refine q9q ?_ | refine q7q ?_ _)); refine q14q (cs := #[.int .i64 0, .int .i64 0, .slice none 0 0, .slice none 0 0, .slice none 0 0]) ?_ 0 _ rfl; (with_reducible repeat (first | refine q8q ?_ _ | refine q9q ?_ | refine q7q ?_ _)); exact BK134.out) hb); have n1_ := Aq.mk (q10q (by repeat (with_reducible first | exact HB.out | apply q4q | apply q0q | apply q2q | refine q5q ?_ GE134.out)) hb); have n2_ := Aq.mk (hbox); have n3_ := Aq.mk ((by rw [hg]; exact (q6q (by repeat (with_reducible first | exact HB.out | apply q4q | apply q0q | apply q2q | refine q5q ?_ GE134.out))) : w.heap.size ≤ gb136)); have n4_ := Aq.mk ((by rw [hg]; exact (q6q (by repeat (with_reducible first | exact HB.out | apply q4q | apply q0q | apply q2q | refine q5q ?_ GE134.out))) : w.heap.size ≤ gb136)); have n5_ := Aq.mk ((by rw [hg]; exact Nat.ne_of_lt (q16q (g := gb134) (o := .cells #[.int .i64 ((rd_T47 l0 x17_1).f0), .int .i64 ((rd_T47 l0 x17_1).f1), .slice A133_2 ((rd_T47 l0 x17_1).f2).length c133_2, .slice A133_3 ((rd_T47 l0 x17_1).f3).length c133_3, .slice A133_4 ((rd_T47 l0 x17_1).f4).length c133_4] 47 (0, 0)) (by (with_reducible repeat (first | refine q8q ?_ _ | refine q9q ?_ | refine q7q ?_ _)); refine q14q (cs := #[.int .i64 ((rd_T47 l0 x17_1).f0), .int .i64 ((rd_T47 l0 x17_1).f1), .slice A133_2 ((rd_T47 l0 x17_1).f2).length c133_2, .slice A133_3 ((rd_T47 l0 x17_1).f3).length c133_3, .slice none 0 0]) ?_ 4 _ rfl; (with_reducible repeat (first | refine q8q ?_ _ | refine q9q ?_ | refine q7q ?_ _)); refine q14q (cs := #[.int .i64 ((rd_T47 l0 x17_1).f0), .int .i64 ((rd_T47 l0 x17_1).f1), .slice A133_2 ((rd_T47 l0 x17_1).f2).length c133_2, .slice none 0 0, .slice none 0 0]) ?_ 3 _ rfl; (with_reducible repeat (first | refine q8q ?_ _ | refine q9q ?_ | refine q7q ?_ _)); refine q14q (cs := #[.int .i64 ((rd_T47 l0 x17_1).f0), .int .i64 ((rd_T47 l0 x17_1).f1), .slice none 0 0, .slice none 0 0, .slice none 0 0]) ?_ 2 _ rfl; (with_reducible repeat (first | refine q8q ?_ _ | refine q9q ?_ | refine q7q ?_ _)); refine q14q (cs := #[.int .i64 ((rd_T47 l0 x17_1).f0), .int .i64 0, .slice none 0 0, .slice none 0 0, .slice none 0 0]) ?_ 1 _ rfl; (with_reducible repeat (first | refine q8q ?_ _ | refine q9q ?_ | refine q7q ?_ _)); refine q14q (cs := #[.int .i64 0, .int .i64 0, .slice none 0 0, .slice none 0 0, .slice none 0 0]) ?_ 0 _ rfl; (with_reducible repeat (first | refine q8q ?_ _ | refine q9q ?_ | refine q7q ?_ _)); exact BK134.out)) : gb134 ≠ gb136)); have n6_ := Aq.mk ((by rw [hg]; exact Nat.ne_of_gt (q16q (g := gb134) (o := .cells #[.int .i64 ((rd_T47 l0 x17_1).f0), .int .i64 ((rd_T47 l0 x17_1).f1), .slice A133_2 ((rd_T47 l0 x17_1).f2).length c133_2, .slice A133_3 ((rd_T47 l0 x17_1).f3).length c133_3, .slice A133_4 ((rd_T47 l0 x17_1).f4).length c133_4] 47 (0, 0)) (by (with_reducible repeat (first | refine q8q ?_ _ | refine q9q ?_ | refine q7q ?_ _)); refine q14q (cs := #[.int .i64 ((rd_T47 l0 x17_1).f0), .int .i64 ((rd_T47 l0 x17_1).f1), .slice A133_2 ((rd_T47 l0 x17_1).f2).length c133_2, .slice A133_3 ((rd_T47 l0 x17_1).f3).length c133_3, .slice none 0 0]) ?_ 4 _ rfl; (with_reducible repeat (first | refine q8q ?_ _ | refine q9q ?_ | refine q7q ?_ _)); refine q14q (cs := #[.int .i64 ((rd_T47 l0 x17_1).f0), .int .i64 ((rd_T47 l0 x17_1).f1), .slice A133_2 ((rd_T47 l0 x17_1).f2).length c133_2, .slice none 0 0, .slice none 0 0]) ?_ 3 _ rfl; (with_reducible repeat (first | refine q8q ?_ _ | refine q9q ?_ | refine q7q ?_ _)); refine q14q (cs := #[.int .i64 ((rd_T47 l0 x17_1).f0), .int .i64 ((rd_T47 l0 x17_1).f1), .slice none 0 0, .slice none 0 0, .slice none 0 0]) ?_ 2 _ rfl; (with_reducible repeat (first | refine q8q ?_ _ | refine q9q ?_ | refine q7q ?_ _)); refine q14q (cs := #[.int .i64 ((rd_T47 l0 x17_1).f0), .int .i64 0, .slice none 0 0, .slice none 0 0, .slice none 0 0]) ?_ 1 _ rfl; (with_reducible repeat (first | refine q8q ?_ _ | refine q9q ?_ | refine q7q ?_ _)); refine q14q (cs := #[.int .i64 0, .int .i64 0, .slice none 0 0, .slice none 0 0, .slice none 0 0]) ?_ 0 _ rfl; (with_reducible repeat (first | refine q8q ?_ _ | refine q9q ?_ | refine q7q ?_ _)); exact BK134.out)) : gb136 ≠ gb134)); clear BK134; clear HB; have BK134 := n0_; have HB := n1_; have BK136 := n2_; have GW136 := n3_; have GE136 := n4_; have NB134_136 := n5_; have NB136_134 := n6_; clear n0_ n1_ n2_ n3_ n4_ n5_ n6_; clear hb hbox hg; have hnb21 := NB136_134.out; have hnc21 := NB134_136.out; have hcz22_0 : w20.cell? ⟨gb136, 0, none⟩ = some (.int .i64 0) := (q3q BK136.out 0).trans rfl; have hcz22_1 : w20.cell? ⟨gb136, 1, none⟩ = some (.int .i64 0) := (q3q BK136.out 1).trans rfl; have hcz22_2 : w20.cell? ⟨gb136, 2, none⟩ = some (.slice none 0 0) := (q3q BK136.out 2).trans rfl; have hcz22_3 : w20.cell? ⟨gb136, 3, none⟩ = some (.slice none 0 0) := (q3q BK136.out 3).trans rfl; have hcz22_4 : w20.cell? ⟨gb136, 4, none⟩ = some (.slice none 0 0) := (q3q BK136.out 4).trans rfl; have hfz22_0 := q1q BK136.out 0; have hfz22_1 := q1q BK136.out 1; have hfz22_2 := q1q BK136.out 2; have hfz22_3 := q1q BK136.out 3; have hfz22_4 := q1q BK136.out 4; have hcz23_0 : w20.cell? ⟨gb134, 0, none⟩ = some (.int .i64 ((rd_T47 l0 x17_1).f0)) := (q3q BK134.out 0).trans rfl; have hcz23_1 : w20.cell? ⟨gb134, 1, none⟩ = some (.int .i64 ((rd_T47 l0 x17_1).f1)) := (q3q BK134.out 1).trans rfl; have hcz23_2 : w20.cell? ⟨gb134, 2, none⟩ = some (.slice A133_2 ((rd_T47 l0 x17_1).f2).length c133_2) := (q3q BK134.out 2).trans rfl; have hcz23_3 : w20.cell? ⟨gb134, 3, none⟩ = some (.slice A133_3 ((rd_T47 l0 x17_1).f3).length c133_3) := (q3q BK134.out 3).trans rfl; have hcz23_4 : w20.cell? ⟨gb134, 4, none⟩ = some (.slice A133_4 ((rd_T47 l0 x17_1).f4).length c133_4) := (q3q BK134.out 4).trans rfl; have hfz23_0 := q1q BK134.out 0; have hfz23_1 := q1q BK134.out 1; have hfz23_2 := q1q BK134.out 2; have hfz23_3 := q1q BK134.out 3; have hfz23_4 := q1q BK134.out 4) | (go_at_call 34; (with_reducible refine (fQ24.calls k1 ((rd_T47 l0 x17_1).f0) ((rd_T47 l0 x17_1).f1) _ _ ((rd_T47 l0 x17_1).f2) _ _ ((rd_T47 l0 x17_1).f3) _ _ ((rd_T47 l0 x17_1).f4) ((rd_T47 l1 x17_1).f0) ((rd_T47 l1 x17_1).f1) _ _ ((rd_T47 l1 x17_1).f2) _ _ ((rd_T47 l1 x17_1).f3) _ _ ((rd_T47 l1 x17_1).f4) false _ ?side1 ?side2 ?side3 ?side4 ?side5 ?side6 ?side7 ?side8 ?side9 ?side10 ?side11 ?side12 A9.out).mono ?_); (case side1 => exact Kd.q19q HR133_2.out (by repeat (with_reducible first | exact HB.out | apply q4q | apply q0q | apply q2q | refine q5q ?_ GE134.out | refine q5q ?_ GE136.out))); (case side2 => exact HC133_2.out); (case side3 => exact Kd.q19q HR133_3.out (by repeat (with_reducible first | exact HB.out | apply q4q | apply q0q | apply q2q | refine q5q ?_ GE134.out | refine q5q ?_ GE136.out))); (case side4 => exact HC133_3.out); (case side5 => exact Kd.q19q HR133_4.out (by repeat (with_reducible first | exact HB.out | apply q4q | apply q0q | apply q2q | refine q5q ?_ GE134.out | refine q5q ?_ GE136.out))); (case side6 => exact HC133_4.out); (case side7 => exact Kd.q19q HR135_2.out (by repeat (with_reducible first | exact HB.out | apply q4q | apply q0q | apply q2q | refine q5q ?_ GE134.out | refine q5q ?_ GE136.out))); (case side8 => exact HC135_2.out); (case side9 => exact Kd.q19q HR135_3.out (by repeat (with_reducible first | exact HB.out | apply q4q | apply q0q | apply q2q | refine q5q ?_ GE134.out | refine q5q ?_ GE136.out))); (case side10 => exact HC135_3.out); (case side11 => exact Kd.q19q HR135_4.out (by repeat (with_reducible first | exact HB.out | apply q4q | apply q0q | apply q2q | refine q5q ?_ GE134.out | refine q5q ?_ GE136.out))); (case side12 => exact HC135_4.out); rintro e w24 ⟨rfl, hb⟩; have n0_ := Aq.mk (q13q (g := gb134) (o := .cells #[.int .i64 ((rd_T47 l0 x17_1).f0), .int .i64 ((rd_T47 l0 x17_1).f1), .slice A133_2 ((rd_T47 l0 x17_1).f2).length c133_2, .slice A133_3 ((rd_T47 l0 x17_1).f3).length c133_3, .slice A133_4 ((rd_T47 l0 x17_1).f4).length c133_4] 47 (0, 0)) (by (with_reducible repeat (first | refine q8q ?_ _ | refine q9q ?_ | refine q7q ?_ _)); refine q18q ?_ NB134_136.out _; (with_reducible repeat (first | refine q8q ?_ _ | refine q9q ?_ | refine q7q ?_ _)); refine q18q ?_ NB134_136.out _; (with_reducible repeat (first | refine q8q ?_ _ | refine q9q ?_ | refine q7q ?_ _)); refine q18q ?_ NB134_136.out _; (with_reducible repeat (first | refine q8q ?_ _ | refine q9q ?_ | refine q7q ?_ _)); refine q18q ?_ NB134_136.out _; (with_reducible repeat (first | refine q8q ?_ _ | refine q9q ?_ | refine q7q ?_ _)); refine q18q ?_ NB134_136.out _; (with_reducible repeat (first | refine q8q ?_ _ | refine q9q ?_ | refine q7q ?_ _)); exact BK134.out) hb); have n1_ := Aq.mk (q13q (g := gb136) (o := .cells #[.int .i64 ((rd_T47 l1 x17_1).f0), .int .i64 ((rd_T47 l1 x17_1).f1), .slice A135_2 ((rd_T47 l1 x17_1).f2).length c135_2, .slice A135_3 ((rd_T47 l1 x17_1).f3).length c135_3, .slice A135_4 ((rd_T47 l1 x17_1).f4).length c135_4] 47 (0, 0)) (by (with_reducible repeat (first | refine q8q ?_ _ | refine q9q ?_ | refine q7q ?_ _)); refine q14q (cs := #[.int .i64 ((rd_T47 l1 x17_1).f0), .int .i64 ((rd_T47 l1 x17_1).f1), .slice A135_2 ((rd_T47 l1 x17_1).f2).length c135_2, .slice A135_3 ((rd_T47 l1 x17_1).f3).length c135_3, .slice none 0 0]) ?_ 4 _ rfl; (with_reducible repeat (first | refine q8q ?_ _ | refine q9q ?_ | refine q7q ?_ _)); refine q14q (cs := #[.int .i64 ((rd_T47 l1 x17_1).f0), .int .i64 ((rd_T47 l1 x17_1).f1), .slice A135_2 ((rd_T47 l1 x17_1).f2).length c135_2, .slice none 0 0, .slice none 0 0]) ?_ 3 _ rfl; (with_reducible repeat (first | refine q8q ?_ _ | refine q9q ?_ | refine q7q ?_ _)); refine q14q (cs := #[.int .i64 ((rd_T47 l1 x17_1).f0), .int .i64 ((rd_T47 l1 x17_1).f1), .slice none 0 0, .slice none 0 0, .slice none 0 0]) ?_ 2 _ rfl; (with_reducible repeat (first | refine q8q ?_ _ | refine q9q ?_ | refine q7q ?_ _)); refine q14q (cs := #[.int .i64 ((rd_T47 l1 x17_1).f0), .int .i64 0, .slice none 0 0, .slice none 0 0, .slice none 0 0]) ?_ 1 _ rfl; (with_reducible repeat (first | refine q8q ?_ _ | refine q9q ?_ | refine q7q ?_ _)); refine q14q (cs := #[.int .i64 0, .int .i64 0, .slice none 0 0, .slice none 0 0, .slice none 0 0]) ?_ 0 _ rfl; (with_reducible repeat (first | refine q8q ?_ _ | refine q9q ?_ | refine q7q ?_ _)); exact BK136.out) hb); have n2_ := Aq.mk (q10q (by repeat (with_reducible first | exact HB.out | apply q4q | apply q0q | apply q2q | refine q5q ?_ GE134.out | refine q5q ?_ GE136.out)) hb); clear BK134; clear BK136; clear HB; have BK134 := n0_; have BK136 := n1_; have HB := n2_; clear n0_ n1_ n2_; (try clear hb); (try clear hb2); (try clear hk); (try clear hi)))
    go_ret
    exact ⟨by first | rfl | (simp [*] <;> rfl), by repeat (with_reducible first | exact HB.out | apply q4q | apply q0q | apply q2q | refine q5q ?_ GE134.out | refine q5q ?_ GE136.out)⟩
   subst c10
   have H1 : (api_Proto.l0 k1 l1 l0 (l0.length : Int) (wrap64 (x17_1 + 1))) = some r := by rw [if_pos rfl] at H; exact H
   clear H
   have H := H1
   clear H1
   have H' := Aq.mk H
   clear H
   have p133 : 0 ≤ (x17_1 : Int) := of_decide_eq_true (by first | (with_reducible assumption) | assumption)
   have q133 : x17_1 < (l0.length : Int) := of_decide_eq_true (by first | (with_reducible assumption) | assumption)
   obtain ⟨ad133, A133_2, c133_2, A133_3, c133_3, A133_4, c133_4, e133, hx133_0, hx133_1, hx133_2, hx133_3, hx133_4, hl133_2, hi133_2, hl133_3, hi133_3, hl133_4, hi133_4⟩ := at_T47 HR0.out x17_1 p133 q133
   cases e133
   replace hx133_0 := (HB.out.cell (World.block_lt_of_cell? w _ hx133_0)).trans hx133_0
   replace hx133_1 := (HB.out.cell (World.block_lt_of_cell? w _ hx133_1)).trans hx133_1
   replace hx133_2 := (HB.out.cell (World.block_lt_of_cell? w _ hx133_2)).trans hx133_2
   replace hx133_3 := (HB.out.cell (World.block_lt_of_cell? w _ hx133_3)).trans hx133_3
   replace hx133_4 := (HB.out.cell (World.block_lt_of_cell? w _ hx133_4)).trans hx133_4
   have HR133_2 := Aq.mk hi133_2
   have HC133_2 := Aq.mk hl133_2
   clear hi133_2 hl133_2
   have HR133_3 := Aq.mk hi133_3
   have HC133_3 := Aq.mk hl133_3
   clear hi133_3 hl133_3
   have HR133_4 := Aq.mk hi133_4
   have HC133_4 := Aq.mk hl133_4
   clear hi133_4 hl133_4
   replace p133 := eq_true p133
   replace q133 := eq_true q133
   go_wp2_with (first | ((with_reducible refine q12q (N := 8) rfl ?_); refine q11q ?hg (N := 8) ?hd (cs := #[.int .i64 0, .int .i64 0, .slice none 0 0, .slice none 0 0, .slice none 0 0]) (t := 47) ?hr ?_; (case hd => rfl); (case hg => rfl); (case hr => first | (go_simp; done) | (go_simp; rfl)); intro gb134 hg w11 hbox hb; have n0_ := Aq.mk (q10q (by repeat (with_reducible first | exact HB.out | apply q4q | apply q0q | apply q2q)) hb); have n1_ := Aq.mk (hbox); have n2_ := Aq.mk ((by rw [hg]; exact (q6q (by repeat (with_reducible first | exact HB.out | apply q4q | apply q0q | apply q2q))) : w.heap.size ≤ gb134)); have n3_ := Aq.mk ((by rw [hg]; exact (q6q (by repeat (with_reducible first | exact HB.out | apply q4q | apply q0q | apply q2q))) : w.heap.size ≤ gb134)); clear HB; have HB := n0_; have BK134 := n1_; have GW134 := n2_; have GE134 := n3_; clear n0_ n1_ n2_ n3_; clear hb hbox hg; have hcz12_0 : w11.cell? ⟨gb134, 0, none⟩ = some (.int .i64 0) := (q3q BK134.out 0).trans rfl; have hcz12_1 : w11.cell? ⟨gb134, 1, none⟩ = some (.int .i64 0) := (q3q BK134.out 1).trans rfl; have hcz12_2 : w11.cell? ⟨gb134, 2, none⟩ = some (.slice none 0 0) := (q3q BK134.out 2).trans rfl; have hcz12_3 : w11.cell? ⟨gb134, 3, none⟩ = some (.slice none 0 0) := (q3q BK134.out 3).trans rfl; have hcz12_4 : w11.cell? ⟨gb134, 4, none⟩ = some (.slice none 0 0) := (q3q BK134.out 4).trans rfl; have hfz12_0 := q1q BK134.out 0; have hfz12_1 := q1q BK134.out 1; have hfz12_2 := q1q BK134.out 2; have hfz12_3 := q1q BK134.out 3; have hfz12_4 := q1q BK134.out 4; have p135 : 0 ≤ (x17_1 : Int) := of_decide_eq_true (by first | (with_reducible assumption) | assumption); have q135 : x17_1 < (l1.length : Int) := of_decide_eq_true (by first | (with_reducible assumption) | assumption); obtain ⟨ad135, A135_2, c135_2, A135_3, c135_3, A135_4, c135_4, e135, hx135_0, hx135_1, hx135_2, hx135_3, hx135_4, hl135_2, hi135_2, hl135_3, hi135_3, hl135_4, hi135_4⟩ := at_T47 HR1.out x17_1 p135 q135; cases e135; have hn135_0 : ad135.block ≠ gb134 := Nat.ne_of_lt (Nat.lt_of_lt_of_le (by have := World.block_lt_of_cell? _ _ hx135_0; first | rwa [add_block] at this | exact this) GW134.out); have hn135_1 : ad135.block ≠ gb134 := Nat.ne_of_lt (Nat.lt_of_lt_of_le (by have := World.block_lt_of_cell? _ _ hx135_0; first | rwa [add_block] at this | exact this) GW134.out); have hn135_2 : ad135.block ≠ gb134 := Nat.ne_of_lt (Nat.lt_of_lt_of_le (by have := World.block_lt_of_cell? _ _ hx135_0; first | rwa [add_block] at this | exact this) GW134.out); have hn135_3 : ad135.block ≠ gb134 := Nat.ne_of_lt (Nat.lt_of_lt_of_le (by have := World.block_lt_of_cell? _ _ hx135_0; first | rwa [add_block] at this | exact this) GW134.out); have hn135_4 : ad135.block ≠ gb134 := Nat.ne_of_lt (Nat.lt_of_lt_of_le (by have := World.block_lt_of_cell? _ _ hx135_0; first | rwa [add_block] at this | exact this) GW134.out); replace hx135_0 := (HB.out.cell (World.block_lt_of_cell? w _ hx135_0)).trans hx135_0; replace hx135_1 := (HB.out.cell (World.block_lt_of_cell? w _ hx135_1)).trans hx135_1; replace hx135_2 := (HB.out.cell (World.block_lt_of_cell? w _ hx135_2)).trans hx135_2; replace hx135_3 := (HB.out.cell (World.block_lt_of_cell? w _ hx135_3)).trans hx135_3; replace hx135_4 := (HB.out.cell (World.block_lt_of_cell? w _ hx135_4)).trans hx135_4; have HR135_2 := Aq.mk hi135_2; have HC135_2 := Aq.mk hl135_2; clear hi135_2 hl135_2; have HR135_3 := Aq.mk hi135_3; have HC135_3 := Aq.mk hl135_3; clear hi135_3 hl135_3; have HR135_4 := Aq.mk hi135_4; have HC135_4 := Aq.mk hl135_4; clear hi135_4 hl135_4; replace hx135_0 := (cell_far (p := ⟨gb134, 0, none⟩) (by first | (rw [add_block]; exact hn135_0) | (show (Addr.add _ _).block ≠ _; rw [add_block]; exact hn135_0) | exact hn135_0) (.int .i64 ((rd_T47 l0 x17_1).f0))).trans hx135_0; replace hx135_1 := (cell_far (p := ⟨gb134, 0, none⟩) (by first | (rw [add_block]; exact hn135_0) | (show (Addr.add _ _).block ≠ _; rw [add_block]; exact hn135_0) | exact hn135_0) (.int .i64 ((rd_T47 l0 x17_1).f0))).trans hx135_1; replace hx135_2 := (cell_far (p := ⟨gb134, 0, none⟩) (by first | (rw [add_block]; exact hn135_0) | (show (Addr.add _ _).block ≠ _; rw [add_block]; exact hn135_0) | exact hn135_0) (.int .i64 ((rd_T47 l0 x17_1).f0))).trans hx135_2; replace hx135_3 := (cell_far (p := ⟨gb134, 0, none⟩) (by first | (rw [add_block]; exact hn135_0) | (show (Addr.add _ _).block ≠ _; rw [add_block]; exact hn135_0) | exact hn135_0) (.int .i64 ((rd_T47 l0 x17_1).f0))).trans hx135_3; replace hx135_4 := (cell_far (p := ⟨gb134, 0, none⟩) (by first | (rw [add_block]; exact hn135_0) | (show (Addr.add _ _).block ≠ _; rw [add_block]; exact hn135_0) | exact hn135_0) (.int .i64 ((rd_T47 l0 x17_1).f0))).trans hx135_4; replace hx135_0 := (cell_far (p := ⟨gb134, 1, none⟩) (by first | (rw [add_block]; exact hn135_1) | (show (Addr.add _ _).block ≠ _; rw [add_block]; exact hn135_1) | exact hn135_1) (.int .i64 ((rd_T47 l0 x17_1).f1))).trans hx135_0; replace hx135_1 := (cell_far (p := ⟨gb134, 1, none⟩) (by first | (rw [add_block]; exact hn135_1) | (show (Addr.add _ _).block ≠ _; rw [add_block]; exact hn135_1) | exact hn135_1) (.int .i64 ((rd_T47 l0 x17_1).f1))).trans hx135_1; replace hx135_2 := (cell_far (p := ⟨gb134, 1, none⟩) (by first | (rw [add_block]; exact hn135_1) | (show (Addr.add _ _).block ≠ _; rw [add_block]; exact hn135_1) | exact hn135_1) (.int .i64 ((rd_T47 l0 x17_1).f1))).trans hx135_2; replace hx135_3 := (cell_far (p := ⟨gb134, 1, none⟩) (by first | (rw [add_block]; exact hn135_1) | (show (Addr.add _ _).block ≠ _; rw [add_block]; exact hn135_1) | exact hn135_1) (.int .i64 ((rd_T47 l0 x17_1).f1))).trans hx135_3; replace hx135_4 := (cell_far (p := ⟨gb134, 1, none⟩) (by first | (rw [add_block]; exact hn135_1) | (show (Addr.add _ _).block ≠ _; rw [add_block]; exact hn135_1) | exact hn135_1) (.int .i64 ((rd_T47 l0 x17_1).f1))).trans hx135_4; replace hx135_0 := (cell_far (p := ⟨gb134, 2, none⟩) (by first | (rw [add_block]; exact hn135_2) | (show (Addr.add _ _).block ≠ _; rw [add_block]; exact hn135_2) | exact hn135_2) (.slice A133_2 ((rd_T47 l0 x17_1).f2).length c133_2)).trans hx135_0; replace hx135_1 := (cell_far (p := ⟨gb134, 2, none⟩) (by first | (rw [add_block]; exact hn135_2) | (show (Addr.add _ _).block ≠ _; rw [add_block]; exact hn135_2) | exact hn135_2) (.slice A133_2 ((rd_T47 l0 x17_1).f2).length c133_2)).trans hx135_1; replace hx135_2 := (cell_far (p := ⟨gb134, 2, none⟩) (by first | (rw [add_block]; exact hn135_2) | (show (Addr.add _ _).block ≠ _; rw [add_block]; exact hn135_2) | exact hn135_2) (.slice A133_2 ((rd_T47 l0 x17_1).f2).length c133_2)).trans hx135_2; replace hx135_3 := (cell_far (p := ⟨gb134, 2, none⟩) (by first | (rw [add_block]; exact hn135_2) | (show (Addr.add _ _).block ≠ _; rw [add_block]; exact hn135_2) | exact hn135_2) (.slice A133_2 ((rd_T47 l0 x17_1).f2).length c133_2)).trans hx135_3; replace hx135_4 := (cell_far (p := ⟨gb134, 2, none⟩) (by first | (rw [add_block]; exact hn135_2) | (show (Addr.add _ _).block ≠ _; rw [add_block]; exact hn135_2) | exact hn135_2) (.slice A133_2 ((rd_T47 l0 x17_1).f2).length c133_2)).trans hx135_4; replace hx135_0 := (cell_far (p := ⟨gb134, 3, none⟩) (by first | (rw [add_block]; exact hn135_3) | (show (Addr.add _ _).block ≠ _; rw [add_block]; exact hn135_3) | exact hn135_3) (.slice A133_3 ((rd_T47 l0 x17_1).f3).length c133_3)).trans hx135_0; replace hx135_1 := (cell_far (p := ⟨gb134, 3, none⟩) (by first | (rw [add_block]; exact hn135_3) | (show (Addr.add _ _).block ≠ _; rw [add_block]; exact hn135_3) | exact hn135_3) (.slice A133_3 ((rd_T47 l0 x17_1).f3).length c133_3)).trans hx135_1; replace hx135_2 := (cell_far (p := ⟨gb134, 3, none⟩) (by first | (rw [add_block]; exact hn135_3) | (show (Addr.add _ _).block ≠ _; rw [add_block]; exact hn135_3) | exact hn135_3) (.slice A133_3 ((rd_T47 l0 x17_1).f3).length c133_3)).trans hx135_2; replace hx135_3 := (cell_far (p := ⟨gb134, 3, none⟩) (by first | (rw [add_block]; exact hn135_3) | (show (Addr.add _ _).block ≠ _; rw [add_block]; exact hn135_3) | exact hn135_3) (.slice A133_3 ((rd_T47 l0 x17_1).f3).length c133_3)).trans hx135_3; replace hx135_4 := (cell_far (p := ⟨gb134, 3, none⟩) (by first | (rw [add_block]; exact hn135_3) | (show (Addr.add _ _).block ≠ _; rw [add_block]; exact hn135_3) | exact hn135_3) (.slice A133_3 ((rd_T47 l0 x17_1).f3).length c133_3)).trans hx135_4; replace hx135_0 := (cell_far (p := ⟨gb134, 4, none⟩) (by first | (rw [add_block]; exact hn135_4) | (show (Addr.add _ _).block ≠ _; rw [add_block]; exact hn135_4) | exact hn135_4) (.slice A133_4 ((rd_T47 l0 x17_1).f4).length c133_4)).trans hx135_0; replace hx135_1 := (cell_far (p := ⟨gb134, 4, none⟩) (by first | (rw [add_block]; exact hn135_4) | (show (Addr.add _ _).block ≠ _; rw [add_block]; exact hn135_4) | exact hn135_4) (.slice A133_4 ((rd_T47 l0 x17_1).f4).length c133_4)).trans hx135_1; replace hx135_2 := (cell_far (p := ⟨gb134, 4, none⟩) (by first | (rw [add_block]; exact hn135_4) | (show (Addr.add _ _).block ≠ _; rw [add_block]; exact hn135_4) | exact hn135_4) (.slice A133_4 ((rd_T47 l0 x17_1).f4).length c133_4)).trans hx135_2; replace hx135_3 := (cell_far (p := ⟨gb134, 4, none⟩) (by first | (rw [add_block]; exact hn135_4) | (show (Addr.add _ _).block ≠ _; rw [add_block]; exact hn135_4) | exact hn135_4) (.slice A133_4 ((rd_T47 l0 x17_1).f4).length c133_4)).trans hx135_3; replace hx135_4 := (cell_far (p := ⟨gb134, 4, none⟩) (by first | (rw [add_block]; exact hn135_4) | (show (Addr.add _ _).block ≠ _; rw [add_block]; exact hn135_4) | exact hn135_4) (.slice A133_4 ((rd_T47 l0 x17_1).f4).length c133_4)).trans hx135_4; clear hn135_0; clear hn135_1; clear hn135_2; clear hn135_3; clear hn135_4; replace p135 := eq_true p135; replace q135 := eq_true q135) | ((with_reducible refine q12q (N := 9) rfl ?_); refine q11q ?hg (N := 9) ?hd (cs := #[.int .i64 0, .int .i64 0, .slice none 0 0, .slice none 0 0, .slice none 0 0]) (t := 47) ?hr ?_; (case hd => rfl); (case hg => rfl); (case hr => first | (go_simp; done) | (go_simp; rfl)); intro gb136 hg w13 hbox hb; have n0_ := Aq.mk (q13q (g := gb134) (o := .cells #[.int .i64 ((rd_T47 l0 x17_1).f0), .int .i64 ((rd_T47 l0 x17_1).f1), .slice A133_2 ((rd_T47 l0 x17_1).f2).length c133_2, .slice A133_3 ((rd_T47 l0 x17_1).f3).length c133_3, .slice A133_4 ((rd_T47 l0 x17_1).f4).length c133_4] 47 (0, 0)) (by (with_reducible repeat (first | refine q8q ?_ _ | refine q9q ?_ | refine q7q ?_ _)); refine q14q (cs := #[.int .i64 ((rd_T47 l0 x17_1).f0), .int .i64 ((rd_T47 l0 x17_1).f1), .slice A133_2 ((rd_T47 l0 x17_1).f2).length c133_2, .slice A133_3 ((rd_T47 l0 x17_1).f3).length c133_3, .slice none 0 0]) ?_ 4 _ rfl; (with_reducible repeat (first | refine q8q ?_ _ | refine q9q ?_ | refine q7q ?_ _)); refine q14q (cs := #[.int .i64 ((rd_T47 l0 x17_1).f0), .int .i64 ((rd_T47 l0 x17_1).f1), .slice A133_2 ((rd_T47 l0 x17_1).f2).length c133_2, .slice none 0 0, .slice none 0 0]) ?_ 3 _ rfl; (with_reducible repeat (first | refine q8q ?_ _ | refine q9q ?_ | refine q7q ?_ _)); refine q14q (cs := #[.int .i64 ((rd_T47 l0 x17_1).f0), .int .i64 ((rd_T47 l0 x17_1).f1), .slice none 0 0, .slice none 0 0, .slice none 0 0]) ?_ 2 _ rfl; (with_reducible repeat (first | refine q8q ?_ _ | refine q9q ?_ | refine q7q ?_ _)); refine q14q (cs := #[.int .i64 ((rd_T47 l0 x17_1).f0), .int .i64 0, .slice none 0 0, .slice none 0 0, .slice none 0 0]) ?_ 1 _ rfl; (with_reducible repeat (first | refine q8q ?_ _ | refine q9q ?_ | refine q7q ?_ _)); refine q14q (cs := #[.int .i64 0, .int .i64 0, .slice none 0 0, .slice none 0 0, .slice none 0 0]) ?_ 0 _ rfl; (with_reducible repeat (first | refine q8q ?_ _ | refine q9q ?_ | refine q7q ?_ _)); exact BK134.out) hb); have n1_ := Aq.mk (q10q (by repeat (with_reducible first | exact HB.out | apply q4q | apply q0q | apply q2q | refine q5q ?_ GE134.out)) hb); have n2_ := Aq.mk (hbox); have n3_ := Aq.mk ((by rw [hg]; exact (q6q (by repeat (with_reducible first | exact HB.out | apply q4q | apply q0q | apply q2q | refine q5q ?_ GE134.out))) : w.heap.size ≤ gb136)); have n4_ := Aq.mk ((by rw [hg]; exact (q6q (by repeat (with_reducible first | exact HB.out | apply q4q | apply q0q | apply q2q | refine q5q ?_ GE134.out))) : w.heap.size ≤ gb136)); have n5_ := Aq.mk ((by rw [hg]; exact Nat.ne_of_lt (q16q (g := gb134) (o := .cells #[.int .i64 ((rd_T47 l0 x17_1).f0), .int .i64 ((rd_T47 l0 x17_1).f1), .slice A133_2 ((rd_T47 l0 x17_1).f2).length c133_2, .slice A133_3 ((rd_T47 l0 x17_1).f3).length c133_3, .slice A133_4 ((rd_T47 l0 x17_1).f4).length c133_4] 47 (0, 0)) (by (with_reducible repeat (first | refine q8q ?_ _ | refine q9q ?_ | refine q7q ?_ _)); refine q14q (cs := #[.int .i64 ((rd_T47 l0 x17_1).f0), .int .i64 ((rd_T47 l0 x17_1).f1), .slice A133_2 ((rd_T47 l0 x17_1).f2).length c133_2, .slice A133_3 ((rd_T47 l0 x17_1).f3).length c133_3, .slice none 0 0]) ?_ 4 _ rfl; (with_reducible repeat (first | refine q8q ?_ _ | refine q9q ?_ | refine q7q ?_ _)); refine q14q (cs := #[.int .i64 ((rd_T47 l0 x17_1).f0), .int .i64 ((rd_T47 l0 x17_1).f1), .slice A133_2 ((rd_T47 l0 x17_1).f2).length c133_2, .slice none 0 0, .slice none 0 0]) ?_ 3 _ rfl; (with_reducible repeat (first | refine q8q ?_ _ | refine q9q ?_ | refine q7q ?_ _)); refine q14q (cs := #[.int .i64 ((rd_T47 l0 x17_1).f0), .int .i64 ((rd_T47 l0 x17_1).f1), .slice none 0 0, .slice none 0 0, .slice none 0 0]) ?_ 2 _ rfl; (with_reducible repeat (first | refine q8q ?_ _ | refine q9q ?_ | refine q7q ?_ _)); refine q14q (cs := #[.int .i64 ((rd_T47 l0 x17_1).f0), .int .i64 0, .slice none 0 0, .slice none 0 0, .slice none 0 0]) ?_ 1 _ rfl; (with_reducible repeat (first | refine q8q ?_ _ | refine q9q ?_ | refine q7q ?_ _)); refine q14q (cs := #[.int .i64 0, .int .i64 0, .slice none 0 0, .slice none 0 0, .slice none 0 0]) ?_ 0 _ rfl; (with_reducible repeat (first | refine q8q ?_ _ | refine q9q ?_ | refine q7q ?_ _)); exact BK134.out)) : gb134 ≠ gb136)); have n6_ := Aq.mk ((by rw [hg]; exact Nat.ne_of_gt (q16q (g := gb134) (o := .cells #[.int .i64 ((rd_T47 l0 x17_1).f0), .int .i64 ((rd_T47 l0 x17_1).f1), .slice A133_2 ((rd_T47 l0 x17_1).f2).length c133_2, .slice A133_3 ((rd_T47 l0 x17_1).f3).length c133_3, .slice A133_4 ((rd_T47 l0 x17_1).f4).length c133_4] 47 (0, 0)) (by (with_reducible repeat (first | refine q8q ?_ _ | refine q9q ?_ | refine q7q ?_ _)); refine q14q (cs := #[.int .i64 ((rd_T47 l0 x17_1).f0), .int .i64 ((rd_T47 l0 x17_1).f1), .slice A133_2 ((rd_T47 l0 x17_1).f2).length c133_2, .slice A133_3 ((rd_T47 l0 x17_1).f3).length c133_3, .slice none 0 0]) ?_ 4 _ rfl; (with_reducible repeat (first | refine q8q ?_ _ | refine q9q ?_ | refine q7q ?_ _)); refine q14q (cs := #[.int .i64 ((rd_T47 l0 x17_1).f0), .int .i64 ((rd_T47 l0 x17_1).f1), .slice A133_2 ((rd_T47 l0 x17_1).f2).length c133_2, .slice none 0 0, .slice none 0 0]) ?_ 3 _ rfl; (with_reducible repeat (first | refine q8q ?_ _ | refine q9q ?_ | refine q7q ?_ _)); refine q14q (cs := #[.int .i64 ((rd_T47 l0 x17_1).f0), .int .i64 ((rd_T47 l0 x17_1).f1), .slice none 0 0, .slice none 0 0, .slice none 0 0]) ?_ 2 _ rfl; (with_reducible repeat (first | refine q8q ?_ _ | refine q9q ?_ | refine q7q ?_ _)); refine q14q (cs := #[.int .i64 ((rd_T47 l0 x17_1).f0), .int .i64 0, .slice none 0 0, .slice none 0 0, .slice none 0 0]) ?_ 1 _ rfl; (with_reducible repeat (first | refine q8q ?_ _ | refine q9q ?_ | refine q7q ?_ _)); refine q14q (cs := #[.int .i64 0, .int .i64 0, .slice none 0 0, .slice none 0 0, .slice none 0 0]) ?_ 0 _ rfl; (with_reducible repeat (first | refine q8q ?_ _ | refine q9q ?_ | refine q7q ?_ _)); exact BK134.out)) : gb136 ≠ gb134)); clear BK134; clear HB; have BK134 := n0_; have HB := n1_; have BK136 := n2_; have GW136 := n3_; have GE136 := n4_; have NB134_136 := n5_; have NB136_134 := n6_; clear n0_ n1_ n2_ n3_ n4_ n5_ n6_; clear hb hbox hg; have hnb14 := NB136_134.out; have hnc14 := NB134_136.out; have hcz15_0 : w13.cell? ⟨gb136, 0, none⟩ = some (.int .i64 0) := (q3q BK136.out 0).trans rfl; have hcz15_1 : w13.cell? ⟨gb136, 1, none⟩ = some (.int .i64 0) := (q3q BK136.out 1).trans rfl; have hcz15_2 : w13.cell? ⟨gb136, 2, none⟩ = some (.slice none 0 0) := (q3q BK136.out 2).trans rfl; have hcz15_3 : w13.cell? ⟨gb136, 3, none⟩ = some (.slice none 0 0) := (q3q BK136.out 3).trans rfl; have hcz15_4 : w13.cell? ⟨gb136, 4, none⟩ = some (.slice none 0 0) := (q3q BK136.out 4).trans rfl; have hfz15_0 := q1q BK136.out 0; have hfz15_1 := q1q BK136.out 1; have hfz15_2 := q1q BK136.out 2; have hfz15_3 := q1q BK136.out 3; have hfz15_4 := q1q BK136.out 4; have hcz16_0 : w13.cell? ⟨gb134, 0, none⟩ = some (.int .i64 ((rd_T47 l0 x17_1).f0)) := (q3q BK134.out 0).trans rfl; have hcz16_1 : w13.cell? ⟨gb134, 1, none⟩ = some (.int .i64 ((rd_T47 l0 x17_1).f1)) := (q3q BK134.out 1).trans rfl; have hcz16_2 : w13.cell? ⟨gb134, 2, none⟩ = some (.slice A133_2 ((rd_T47 l0 x17_1).f2).length c133_2) := (q3q BK134.out 2).trans rfl; have hcz16_3 : w13.cell? ⟨gb134, 3, none⟩ = some (.slice A133_3 ((rd_T47 l0 x17_1).f3).length c133_3) := (q3q BK134.out 3).trans rfl; have hcz16_4 : w13.cell? ⟨gb134, 4, none⟩ = some (.slice A133_4 ((rd_T47 l0 x17_1).f4).length c133_4) := (q3q BK134.out 4).trans rfl; have hfz16_0 := q1q BK134.out 0; have hfz16_1 := q1q BK134.out 1; have hfz16_2 := q1q BK134.out 2; have hfz16_3 := q1q BK134.out 3; have hfz16_4 := q1q BK134.out 4) | (go_at_call 34; (with_reducible refine (fQ24.calls k1 ((rd_T47 l0 x17_1).f0) ((rd_T47 l0 x17_1).f1) _ _ ((rd_T47 l0 x17_1).f2) _ _ ((rd_T47 l0 x17_1).f3) _ _ ((rd_T47 l0 x17_1).f4) ((rd_T47 l1 x17_1).f0) ((rd_T47 l1 x17_1).f1) _ _ ((rd_T47 l1 x17_1).f2) _ _ ((rd_T47 l1 x17_1).f3) _ _ ((rd_T47 l1 x17_1).f4) true _ ?side1 ?side2 ?side3 ?side4 ?side5 ?side6 ?side7 ?side8 ?side9 ?side10 ?side11 ?side12 A9.out).mono ?_); (case side1 => exact Kd.q19q HR133_2.out (by repeat (with_reducible first | exact HB.out | apply q4q | apply q0q | apply q2q | refine q5q ?_ GE134.out | refine q5q ?_ GE136.out))); (case side2 => exact HC133_2.out); (case side3 => exact Kd.q19q HR133_3.out (by repeat (with_reducible first | exact HB.out | apply q4q | apply q0q | apply q2q | refine q5q ?_ GE134.out | refine q5q ?_ GE136.out))); (case side4 => exact HC133_3.out); (case side5 => exact Kd.q19q HR133_4.out (by repeat (with_reducible first | exact HB.out | apply q4q | apply q0q | apply q2q | refine q5q ?_ GE134.out | refine q5q ?_ GE136.out))); (case side6 => exact HC133_4.out); (case side7 => exact Kd.q19q HR135_2.out (by repeat (with_reducible first | exact HB.out | apply q4q | apply q0q | apply q2q | refine q5q ?_ GE134.out | refine q5q ?_ GE136.out))); (case side8 => exact HC135_2.out); (case side9 => exact Kd.q19q HR135_3.out (by repeat (with_reducible first | exact HB.out | apply q4q | apply q0q | apply q2q | refine q5q ?_ GE134.out | refine q5q ?_ GE136.out))); (case side10 => exact HC135_3.out); (case side11 => exact Kd.q19q HR135_4.out (by repeat (with_reducible first | exact HB.out | apply q4q | apply q0q | apply q2q | refine q5q ?_ GE134.out | refine q5q ?_ GE136.out))); (case side12 => exact HC135_4.out); rintro e w17 ⟨rfl, hb⟩; have n0_ := Aq.mk (q13q (g := gb134) (o := .cells #[.int .i64 ((rd_T47 l0 x17_1).f0), .int .i64 ((rd_T47 l0 x17_1).f1), .slice A133_2 ((rd_T47 l0 x17_1).f2).length c133_2, .slice A133_3 ((rd_T47 l0 x17_1).f3).length c133_3, .slice A133_4 ((rd_T47 l0 x17_1).f4).length c133_4] 47 (0, 0)) (by (with_reducible repeat (first | refine q8q ?_ _ | refine q9q ?_ | refine q7q ?_ _)); refine q18q ?_ NB134_136.out _; (with_reducible repeat (first | refine q8q ?_ _ | refine q9q ?_ | refine q7q ?_ _)); refine q18q ?_ NB134_136.out _; (with_reducible repeat (first | refine q8q ?_ _ | refine q9q ?_ | refine q7q ?_ _)); refine q18q ?_ NB134_136.out _; (with_reducible repeat (first | refine q8q ?_ _ | refine q9q ?_ | refine q7q ?_ _)); refine q18q ?_ NB134_136.out _; (with_reducible repeat (first | refine q8q ?_ _ | refine q9q ?_ | refine q7q ?_ _)); refine q18q ?_ NB134_136.out _; (with_reducible repeat (first | refine q8q ?_ _ | refine q9q ?_ | refine q7q ?_ _)); exact BK134.out) hb); have n1_ := Aq.mk (q13q (g := gb136) (o := .cells #[.int .i64 ((rd_T47 l1 x17_1).f0), .int .i64 ((rd_T47 l1 x17_1).f1), .slice A135_2 ((rd_T47 l1 x17_1).f2).length c135_2, .slice A135_3 ((rd_T47 l1 x17_1).f3).length c135_3, .slice A135_4 ((rd_T47 l1 x17_1).f4).length c135_4] 47 (0, 0)) (by (with_reducible repeat (first | refine q8q ?_ _ | refine q9q ?_ | refine q7q ?_ _)); refine q14q (cs := #[.int .i64 ((rd_T47 l1 x17_1).f0), .int .i64 ((rd_T47 l1 x17_1).f1), .slice A135_2 ((rd_T47 l1 x17_1).f2).length c135_2, .slice A135_3 ((rd_T47 l1 x17_1).f3).length c135_3, .slice none 0 0]) ?_ 4 _ rfl; (with_reducible repeat (first | refine q8q ?_ _ | refine q9q ?_ | refine q7q ?_ _)); refine q14q (cs := #[.int .i64 ((rd_T47 l1 x17_1).f0), .int .i64 ((rd_T47 l1 x17_1).f1), .slice A135_2 ((rd_T47 l1 x17_1).f2).length c135_2, .slice none 0 0, .slice none 0 0]) ?_ 3 _ rfl; (with_reducible repeat (first | refine q8q ?_ _ | refine q9q ?_ | refine q7q ?_ _)); refine q14q (cs := #[.int .i64 ((rd_T47 l1 x17_1).f0), .int .i64 ((rd_T47 l1 x17_1).f1), .slice none 0 0, .slice none 0 0, .slice none 0 0]) ?_ 2 _ rfl; (with_reducible repeat (first | refine q8q ?_ _ | refine q9q ?_ | refine q7q ?_ _)); refine q14q (cs := #[.int .i64 ((rd_T47 l1 x17_1).f0), .int .i64 0, .slice none 0 0, .slice none 0 0, .slice none 0 0]) ?_ 1 _ rfl; (with_reducible repeat (first | refine q8q ?_ _ | refine q9q ?_ | refine q7q ?_ _)); refine q14q (cs := #[.int .i64 0, .int .i64 0, .slice none 0 0, .slice none 0 0, .slice none 0 0]) ?_ 0 _ rfl; (with_reducible repeat (first | refine q8q ?_ _ | refine q9q ?_ | refine q7q ?_ _)); exact BK136.out) hb); have n2_ := Aq.mk (q10q (by repeat (with_reducible first | exact HB.out | apply q4q | apply q0q | apply q2q | refine q5q ?_ GE134.out | refine q5q ?_ GE136.out)) hb); clear BK134; clear BK136; clear HB; have BK134 := n0_; have BK136 := n1_; have HB := n2_; clear n0_ n1_ n2_; (try clear hb); (try clear hb2); (try clear hk); (try clear hi)))
   go_roundg k1
   case measure => have := HK1.out; omega
   case rel => exact ⟨(wrap64 (x17_1 + 1)), (by first | rfl | (simp; done) | (simp [*]; done)), H', ⟨by have := HK1.out; omega⟩, ⟨by repeat (with_reducible first | exact HB.out | apply q4q | apply q0q | apply q2q | refine q5q ?_ GE134.out | refine q5q ?_ GE136.out)⟩⟩
def fQ25.f (k : Nat) (l0_0 : List (S47)) (l1_0 : List (S47)) : Option (Bool) := (api_Proto.f k l0_0 l1_0 0).bind fun t140 => (some t140)
theorem fQ25.calls (k : Nat) (A0_0 : Option Addr) (c0_0 : Nat) (l0_0 : List (S47)) (A1_0 : Option Addr) (c1_0 : Nat) (l1_0 : List (S47)) (r : Bool) (w : World) (hr0_0 : Kd.C k47 w A0_0 l0_0.length l0_0) (hc0_0 : l0_0.length ≤ c0_0) (hr1_0 : Kd.C k47 w A1_0 l1_0.length l1_0) (hc1_0 : l1_0.length ≤ c1_0) (h : fQ25.f k l0_0 l1_0 = some r) :
  Calls Try.prog 17 #[.agg #[.slice A0_0 l0_0.length c0_0], .agg #[.slice A1_0 l1_0.length c1_0]] w fun e w' => e = .returned (.bool r) ∧ Below w.heap.size w w' := by
 have hu24 := Try.underlying24
 have HR0_0 := Aq.mk hr0_0
 have HC0_0 := Aq.mk hc0_0
 clear hr0_0 hc0_0
 have HR1_0 := Aq.mk hr1_0
 have HC1_0 := Aq.mk hc1_0
 clear hr1_0 hc1_0
 have HB := Aq.mk (Below.refl w.heap.size w)
 have H : ((api_Proto.f k l0_0 l1_0 0).bind fun t140 => (some t140)) = some r := h
 clear h
 replace H := Option.bind_eq_some_iff.mp H
 obtain ⟨t140, A30, H⟩ := H
 replace H : (some t140) = some r := H
 have A3 := Aq.mk A30
 clear A30
 obtain rfl := Option.some.inj H
 go_enter Try.func17, Try.ntmps17
 go_wp2_with (first | ((with_reducible refine q12q (N := 2) rfl ?_); refine q11q ?hg (N := 2) ?hd (cs := #[.slice A0_0 l0_0.length c0_0]) (t := 24) ?hr ?_; (case hd => rfl); (case hg => rfl); (case hr => first | (go_simp; done) | (go_simp; rfl)); intro gb138 hg w4 hbox hb; have n0_ := Aq.mk (q10q (by repeat (with_reducible first | exact HB.out | apply q4q | apply q0q | apply q2q)) hb); have n1_ := Aq.mk (hbox); have n2_ := Aq.mk ((by rw [hg]; exact (q6q (by repeat (with_reducible first | exact HB.out | apply q4q | apply q0q | apply q2q))) : w.heap.size ≤ gb138)); have n3_ := Aq.mk ((by rw [hg]; exact (q6q (by repeat (with_reducible first | exact HB.out | apply q4q | apply q0q | apply q2q))) : w.heap.size ≤ gb138)); clear HB; have HB := n0_; have BK138 := n1_; have GW138 := n2_; have GE138 := n3_; clear n0_ n1_ n2_ n3_; clear hb hbox hg) | ((with_reducible refine q12q (N := 3) rfl ?_); refine q11q ?hg (N := 3) ?hd (cs := #[.slice A1_0 l1_0.length c1_0]) (t := 24) ?hr ?_; (case hd => rfl); (case hg => rfl); (case hr => first | (go_simp; done) | (go_simp; rfl)); intro gb139 hg w5 hbox hb; have n0_ := Aq.mk (q13q (g := gb138) (o := .cells #[.slice A0_0 l0_0.length c0_0] 24 (0, 0)) BK138.out hb); have n1_ := Aq.mk (q10q (by repeat (with_reducible first | exact HB.out | apply q4q | apply q0q | apply q2q | refine q5q ?_ GE138.out)) hb); have n2_ := Aq.mk (hbox); have n3_ := Aq.mk ((by rw [hg]; exact (q6q (by repeat (with_reducible first | exact HB.out | apply q4q | apply q0q | apply q2q | refine q5q ?_ GE138.out))) : w.heap.size ≤ gb139)); have n4_ := Aq.mk ((by rw [hg]; exact (q6q (by repeat (with_reducible first | exact HB.out | apply q4q | apply q0q | apply q2q | refine q5q ?_ GE138.out))) : w.heap.size ≤ gb139)); have n5_ := Aq.mk ((by rw [hg]; exact Nat.ne_of_lt (q16q (g := gb138) (o := .cells #[.slice A0_0 l0_0.length c0_0] 24 (0, 0)) BK138.out) : gb138 ≠ gb139)); have n6_ := Aq.mk ((by rw [hg]; exact Nat.ne_of_gt (q16q (g := gb138) (o := .cells #[.slice A0_0 l0_0.length c0_0] 24 (0, 0)) BK138.out) : gb139 ≠ gb138)); clear BK138; clear HB; have BK138 := n0_; have HB := n1_; have BK139 := n2_; have GW139 := n3_; have GE139 := n4_; have NB138_139 := n5_; have NB139_138 := n6_; clear n0_ n1_ n2_ n3_ n4_ n5_ n6_; clear hb hbox hg; have hnb6 := NB138_139.out; have hnc6 := NB139_138.out; have hcz7_0 : w5.cell? ⟨gb138, 0, none⟩ = some (.slice A0_0 l0_0.length c0_0) := (q3q BK138.out 0).trans rfl; have hfz7_0 := q1q BK138.out 0; have hcz8_0 : w5.cell? ⟨gb139, 0, none⟩ = some (.slice A1_0 l1_0.length c1_0) := (q3q BK139.out 0).trans rfl; have hfz8_0 := q1q BK139.out 0) | ((with_reducible refine q15q (f := 33) rfl ?_); refine q24q (some 9) rfl rfl Try.func33 (by kernel_rfl) rfl #[.slice A0_0 l0_0.length c0_0, .slice A1_0 l1_0.length c1_0, .func (.func 34) #[] #[]] rfl (by (try simp only [List.map_toArray, List.map_cons, List.map_nil]); first | done | rfl) ?_; (with_reducible refine (api_Proto.calls k _ _ l0_0 _ _ l1_0 0 t140 _ ?side1 ?side2 ?side3 ?side4 A3.out).mono ?_); (case side1 => repeat (first | exact (Kd.q19q HR0_0.out HB.out) | (with_reducible refine Kd.C_alloc ?_ _) | (with_reducible refine Kd.C_drewN ?_ _) | (with_reducible refine Kd.C_drew ?_))); (case side2 => exact HC0_0.out); (case side3 => repeat (first | exact (Kd.q19q HR1_0.out HB.out) | (with_reducible refine Kd.C_alloc ?_ _) | (with_reducible refine Kd.C_drewN ?_ _) | (with_reducible refine Kd.C_drew ?_))); (case side4 => exact HC1_0.out); rintro e w9 ⟨rfl, hb⟩; refine ⟨_, rfl, ?_⟩; have n0_ := Aq.mk (q13q (g := gb138) (o := .cells #[.slice A0_0 l0_0.length c0_0] 24 (0, 0)) BK138.out hb); have n1_ := Aq.mk (q13q (g := gb139) (o := .cells #[.slice A1_0 l1_0.length c1_0] 24 (0, 0)) BK139.out hb); have n2_ := Aq.mk (q10q (by repeat (with_reducible first | exact HB.out | apply q4q | apply q0q | apply q2q | refine q5q ?_ GE138.out | refine q5q ?_ GE139.out)) hb); clear BK138; clear BK139; clear HB; have BK138 := n0_; have BK139 := n1_; have HB := n2_; clear n0_ n1_ n2_; (try clear hb); (try clear hb2); (try clear hk); (try clear hi)))
 go_ret
 exact ⟨by first | rfl | (simp [*] <;> rfl), by repeat (with_reducible first | exact HB.out | apply q4q | apply q0q | apply q2q | refine q5q ?_ GE138.out | refine q5q ?_ GE139.out)⟩
end Go.Proofs.Ytkkgbbfojmnopaa.G
end
