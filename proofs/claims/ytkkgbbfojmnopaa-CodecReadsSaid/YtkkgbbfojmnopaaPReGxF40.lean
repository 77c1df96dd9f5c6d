import Derived.Test.YtkkgbbfojmnopaaPReGx0
import Derived.Test.YtkkgbbfojmnopaaPReGxF67
import Derived.Test.YtkkgbbfojmnopaaPReGxF68
set_option linter.unusedVariables false
set_option linter.unusedSimpArgs false
section
namespace Go.Proofs.Ytkkgbbfojmnopaa.G
open Go.RowKit Go.Proofs.YtkkgbbfojmnopaaW.PrintWords Go.Proofs.YtkkgbbfojmnopaaW.PrintLast Go.Proofs.YtkkgbbfojmnopaaW.PrintMore
attribute [local go_sem] q26q q27q q34q q35q q22q q23q q28q q29q
mutual
def fQ1.j0 : Nat → Bool → Int → Bool → Int → Int → List (S50) → List (S42) → List (S52) → Option (Int)
 | 0, _, _, _, _, _, _, _, _ => none
 | k + 1, x1, x2, x20, x241000, x241001, x241002, x241003, x241004 => if x20 = true then (some 2) else (if x241000 > 20 then (fQ1.j1 k x1 x2 true x241000 x241001 x241002 x241003 x241004) else (if x241001 > 250 then (fQ1.j1 k x1 x2 true x241000 x241001 x241002 x241003 x241004) else (if (x241002.length : Int) > 60 then (fQ1.j1 k x1 x2 true x241000 x241001 x241002 x241003 x241004) else (if (x241003.length : Int) > 4096 then (fQ1.j1 k x1 x2 true x241000 x241001 x241002 x241003 x241004) else (fQ1.j1 k x1 x2 (decide ((x241004.length : Int) > 16384)) x241000 x241001 x241002 x241003 x241004)))))
def fQ1.j1 : Nat → Bool → Int → Bool → Int → Int → List (S50) → List (S42) → List (S52) → Option (Int)
 | 0, _, _, _, _, _, _, _, _ => none
 | k + 1, x1, x2, x46, x241000, x241001, x241002, x241003, x241004 => if x46 = true then (some 3) else (if x241000 > x241001 then (fQ1.j2 k x2 true x241000 x241001 x241002 x241003 x241004) else (if x1 = true then (fQ1.j2 k x2 (decide ((x241002.length : Int) > 0)) x241000 x241001 x241002 x241003 x241004) else (fQ1.j2 k x2 false x241000 x241001 x241002 x241003 x241004)))
def fQ1.j2 : Nat → Int → Bool → Int → Int → List (S50) → List (S42) → List (S52) → Option (Int)
 | 0, _, _, _, _, _, _, _ => none
 | k + 1, x2, x60, x241000, x241001, x241002, x241003, x241004 => if x60 = true then (some 2) else (fQ1.l0 k x2 0 x241000 x241001 x241002 x241003 x241004)
def fQ1.l0 : Nat → Int → Int → Int → Int → List (S50) → List (S42) → List (S52) → Option (Int)
 | 0, _, _, _, _, _, _, _ => none
 | k + 1, x2, x7, x241000, x241001, x241002, x241003, x241004 => if x7 < (x241002.length : Int) then (if 0 ≤ x7 then (if (rd_T50 x241002 x7).f0 = true then ((fQ17.f ((rd_T50 x241002 x7).f1) 250).bind fun t243 => (if t243 = true then (fQ1.l0 k x2 (wrap64 (x7 + 1)) x241000 x241001 x241002 x241003 x241004) else (some 2))) else ((fQ17.f ((rd_T50 x241002 x7).f1) 60).bind fun t245 => (if t245 = true then (fQ1.l0 k x2 (wrap64 (x7 + 1)) x241000 x241001 x241002 x241003 x241004) else (some 2)))) else (none)) else (fQ1.l1 k x2 0 x241000 x241001 x241002 x241003 x241004)
def fQ1.l1 : Nat → Int → Int → Int → Int → List (S50) → List (S42) → List (S52) → Option (Int)
 | 0, _, _, _, _, _, _, _ => none
 | k + 1, x2, x9, x241000, x241001, x241002, x241003, x241004 => if x9 < (x241003.length : Int) then (if 0 ≤ x9 then (if ((rd_T42 x241003 x9).f0) = 3 then (if ((rd_T42 x241003 x9).f2).toList = ([] : List UInt8) then (fQ1.l1 k x2 (wrap64 (x9 + 1)) x241000 x241001 x241002 x241003 x241004) else (if ((rd_T42 x241003 x9).f0) = 5 then (if (((rd_T42 x241003 x9).f1) = 0) then (fQ1.l1 k x2 (wrap64 (x9 + 1)) x241000 x241001 x241002 x241003 x241004) else (some 2)) else (some 2))) else (if ((rd_T42 x241003 x9).f0) = 5 then (if (((rd_T42 x241003 x9).f1) = 0) then (fQ1.l1 k x2 (wrap64 (x9 + 1)) x241000 x241001 x241002 x241003 x241004) else (some 2)) else (some 2))) else (none)) else (fQ1.l2 k x2 0 x241000 x241001 x241002 x241003 x241004)
def fQ1.l2 : Nat → Int → Int → Int → Int → List (S50) → List (S42) → List (S52) → Option (Int)
 | 0, _, _, _, _, _, _, _ => none
 | k + 1, x2, x11, x241000, x241001, x241002, x241003, x241004 => if x11 < (x241003.length : Int) then (if 0 ≤ x11 then (if (((rd_T42 x241003 x11).f2).size : Int) > 4096 then (some 3) else (fQ1.l2 k x2 (wrap64 (x11 + 1)) x241000 x241001 x241002 x241003 x241004)) else (none)) else (if (x241004.length : Int) = 0 then (some 2) else (fQ1.l3 k x2 0 x241000 x241001 x241002 x241003 x241004))
def fQ1.l3 : Nat → Int → Int → Int → Int → List (S50) → List (S42) → List (S52) → Option (Int)
 | 0, _, _, _, _, _, _, _ => none
 | k + 1, x2, x12, x241000, x241001, x241002, x241003, x241004 => if x12 < (x241004.length : Int) then (if 0 ≤ x12 then ((fQ22.f x241000 x241001 x241002 x241003 x241004 ((rd_T52 x241004 x12).f0) ((rd_T52 x241004 x12).f1) ((rd_T52 x241004 x12).f2) x2).bind fun t250 => (if t250 = true then (fQ1.l3 k x2 (wrap64 (x12 + 1)) x241000 x241001 x241002 x241003 x241004) else (some 2))) else (none)) else (some 0)
end
def fQ1.f (k : Nat) (a0_0 : Int) (a0_1 : Int) (l0_2 : List (S50)) (l0_3 : List (S42)) (l0_4 : List (S52)) (a1 : Bool) (a2 : Int) : Option (Int) := if a0_0 < 0 then (fQ1.j0 k a1 a2 true a0_0 a0_1 l0_2 l0_3 l0_4) else (fQ1.j0 k a1 a2 (decide (a0_1 < 0)) a0_0 a0_1 l0_2 l0_3 l0_4)
def fQ1.T31 : Bool × List (List Nat × List Nat) := (true, [([], []), ([], []), ([1], [1]), ([], []), ([2, 3], [2, 3]), ([4], [4]), ([], []), ([0, 5, 6], [0, 5, 6]), ([7], [7])])
def fQ1.B31 : List Nat := [0, 0, 2, 0, 14, 30, 0, 127, 255]
theorem fQ1.tab31 : rtab .any (opsOf Try.f40 31) = fQ1.T31 := by kernel_rfl
theorem fQ1.bits31 : waitsOk fQ1.T31.2 fQ1.B31 = true := by kernel_rfl
set_option maxHeartbeats 8000000 in
set_option maxRecDepth 100000 in
theorem fQ1.calls (k : Nat) (a0_0 : Int) (a0_1 : Int) (A0_2 : Option Addr) (c0_2 : Nat) (l0_2 : List (S50)) (A0_3 : Option Addr) (c0_3 : Nat) (l0_3 : List (S42)) (A0_4 : Option Addr) (c0_4 : Nat) (l0_4 : List (S52)) (a1 : Bool) (a2 : Int) (r : Int) (w : World) (hr0_2 : Kd.C k50 w A0_2 l0_2.length l0_2) (hc0_2 : l0_2.length ≤ c0_2) (hr0_3 : Kd.C k42 w A0_3 l0_3.length l0_3) (hc0_3 : l0_3.length ≤ c0_3) (hr0_4 : Kd.C k52 w A0_4 l0_4.length l0_4) (hc0_4 : l0_4.length ≤ c0_4) (h : fQ1.f k a0_0 a0_1 l0_2 l0_3 l0_4 a1 a2 = some r) :
  Calls Try.prog 40 #[.agg #[.int .i64 a0_0, .int .i64 a0_1, .slice A0_2 l0_2.length c0_2, .slice A0_3 l0_3.length c0_3, .slice A0_4 l0_4.length c0_4], .bool a1, .int .i64 a2] w fun e w' => e = .returned (.int .i64 r) ∧ Below w.heap.size w w' := by
 have hu47 := Try.underlying47
 have hu42 := Try.underlying42
 have hu52 := Try.underlying52
 have HR0_2 := Aq.mk hr0_2
 have HC0_2 := Aq.mk hc0_2
 clear hr0_2 hc0_2
 have HR0_3 := Aq.mk hr0_3
 have HC0_3 := Aq.mk hc0_3
 clear hr0_3 hc0_3
 have HR0_4 := Aq.mk hr0_4
 have HC0_4 := Aq.mk hc0_4
 clear hr0_4 hc0_4
 have HB := Aq.mk (Below.refl w.heap.size w)
 have H : (if a0_0 < 0 then (fQ1.j0 k a1 a2 true a0_0 a0_1 l0_2 l0_3 l0_4) else (fQ1.j0 k a1 a2 (decide (a0_1 < 0)) a0_0 a0_1 l0_2 l0_3 l0_4)) = some r := h
 clear h
 have HC4 := Aq.mk H
 clear H
 go_enter Try.func40, Try.ntmps40
 go_upto_region 1 with (first | ((with_reducible refine q12q (N := 3) rfl ?_); (try (refine q20q (by rfl) ?_; dsimp only)); refine q11q ?hg (N := 3) ?hd (cs := #[.int .i64 a0_0, .int .i64 a0_1, .slice A0_2 l0_2.length c0_2, .slice A0_3 l0_3.length c0_3, .slice A0_4 l0_4.length c0_4]) (t := 47) ?hr ?_; (case hd => rfl); (case hg => rfl); (case hr => first | (go_simp; done) | (go_simp; rfl)); intro gb240 hg w5 hbox hb; have n0_ := Aq.mk (q10q (by repeat (with_reducible first | exact HB.out | apply q4q | apply q0q | apply q2q)) hb); have n1_ := Aq.mk (hbox); have n2_ := Aq.mk ((by rw [hg]; exact (q6q (by repeat (with_reducible first | exact HB.out | apply q4q | apply q0q | apply q2q))) : w.heap.size ≤ gb240)); have n3_ := Aq.mk ((by rw [hg]; exact (q6q (by repeat (with_reducible first | exact HB.out | apply q4q | apply q0q | apply q2q))) : w.heap.size ≤ gb240)); clear HB; have HB := n0_; have BK240 := n1_; have GW240 := n2_; have GE240 := n3_; clear n0_ n1_ n2_ n3_; clear hb hbox hg))
 (try simp only [Act.put, List.setIfInBounds_toArray, List.set_cons_zero, List.set_cons_succ])
 go_cut [20] (fun v20 wc => ∃ (kq : Nat) (x20_3 : Bool), v20 = .bool x20_3 ∧ Aq (fQ1.j0 kq a1 a2 x20_3 a0_0 a0_1 l0_2 l0_3 l0_4 = some r) ∧ Aq (kq ≤ k) ∧ Aq (wc.heap[gb240]? = some (.cells #[.int .i64 a0_0, .int .i64 a0_1, (.slice A0_2 l0_2.length c0_2), (.slice A0_3 l0_3.length c0_3), (.slice A0_4 l0_4.length c0_4)] 47 (0, 0))) ∧ Aq (Below w.heap.size w wc))
 case first =>
  have H := HC4.out
  clear HC4
  by_cases c6 : a0_0 < 0
  ·rw [if_pos c6] at H
   have c6b0 : decide (a0_0 < 0) = true := decide_eq_true c6
   clear c6
   (first | rw [c6b0] | (simp only [i64_w, i32_w]; rw [c6b0]) | skip)
   have H' := Aq.mk H
   clear H
   have hcz7_0 : w5.cell? ⟨gb240, 0, none⟩ = some (.int .i64 a0_0) := (q3q BK240.out 0).trans rfl
   have hcz7_1 : w5.cell? ⟨gb240, 1, none⟩ = some (.int .i64 a0_1) := (q3q BK240.out 1).trans rfl
   have hcz7_2 : w5.cell? ⟨gb240, 2, none⟩ = some (.slice A0_2 l0_2.length c0_2) := (q3q BK240.out 2).trans rfl
   have hcz7_3 : w5.cell? ⟨gb240, 3, none⟩ = some (.slice A0_3 l0_3.length c0_3) := (q3q BK240.out 3).trans rfl
   have hcz7_4 : w5.cell? ⟨gb240, 4, none⟩ = some (.slice A0_4 l0_4.length c0_4) := (q3q BK240.out 4).trans rfl
   have hfz7_0 := q1q BK240.out 0
   have hfz7_1 := q1q BK240.out 1
   have hfz7_2 := q1q BK240.out 2
   have hfz7_3 := q1q BK240.out 3
   have hfz7_4 := q1q BK240.out 4
   go_wp2
   go_meet
   case rel => exact ⟨_, (true), (by first | rfl | (simp; done) | (simp [*]; done)), H', ⟨by first | omega | exact Nat.le_refl _⟩, ⟨BK240.out⟩, ⟨by repeat (with_reducible first | exact HB.out | apply q4q | apply q0q | apply q2q | refine q5q ?_ GE240.out)⟩⟩
  rw [if_neg c6] at H
  have c6b0 : decide (a0_0 < 0) = false := decide_eq_false c6
  clear c6
  (first | rw [c6b0] | (simp only [i64_w, i32_w]; rw [c6b0]) | skip)
  have H' := Aq.mk H
  clear H
  have hcz8_0 : w5.cell? ⟨gb240, 0, none⟩ = some (.int .i64 a0_0) := (q3q BK240.out 0).trans rfl
  have hcz8_1 : w5.cell? ⟨gb240, 1, none⟩ = some (.int .i64 a0_1) := (q3q BK240.out 1).trans rfl
  have hcz8_2 : w5.cell? ⟨gb240, 2, none⟩ = some (.slice A0_2 l0_2.length c0_2) := (q3q BK240.out 2).trans rfl
  have hcz8_3 : w5.cell? ⟨gb240, 3, none⟩ = some (.slice A0_3 l0_3.length c0_3) := (q3q BK240.out 3).trans rfl
  have hcz8_4 : w5.cell? ⟨gb240, 4, none⟩ = some (.slice A0_4 l0_4.length c0_4) := (q3q BK240.out 4).trans rfl
  have hfz8_0 := q1q BK240.out 0
  have hfz8_1 := q1q BK240.out 1
  have hfz8_2 := q1q BK240.out 2
  have hfz8_3 := q1q BK240.out 3
  have hfz8_4 := q1q BK240.out 4
  go_wp2
  go_meet
  case rel => exact ⟨_, (decide (a0_1 < 0)), (by first | rfl | (simp; done) | (simp [*]; done)), H', ⟨by first | omega | exact Nat.le_refl _⟩, ⟨BK240.out⟩, ⟨by repeat (with_reducible first | exact HB.out | apply q4q | apply q0q | apply q2q | refine q5q ?_ GE240.out)⟩⟩
 case rest =>
  clear HC4
  obtain ⟨kq, x20_3, rfl, HA, HJ3, BK240, HB⟩ := hcut
  cases kq with
  | zero => exact absurd HA.out (by simp [fQ1.j0])
  | succ kj3 =>
   have H := HA.out
   clear HA
   simp only [fQ1.j0] at H
   by_cases c9 : x20_3 = true
   ·subst c9
    have H1 : (some 2) = some r := by rw [if_pos rfl] at H; exact H
    clear H
    have H := H1
    clear H1
    obtain rfl := Option.some.inj H
    go_wp2
    go_ret
    exact ⟨by first | rfl | (simp [*] <;> rfl), by repeat (with_reducible first | exact HB.out | apply q4q | apply q0q | apply q2q | refine q5q ?_ GE240.out)⟩
   replace c9 := Bool.eq_false_iff.mpr c9
   subst c9
   have H1 : (if a0_0 > 20 then (fQ1.j1 kj3 a1 a2 true a0_0 a0_1 l0_2 l0_3 l0_4) else (if a0_1 > 250 then (fQ1.j1 kj3 a1 a2 true a0_0 a0_1 l0_2 l0_3 l0_4) else (if (l0_2.length : Int) > 60 then (fQ1.j1 kj3 a1 a2 true a0_0 a0_1 l0_2 l0_3 l0_4) else (if (l0_3.length : Int) > 4096 then (fQ1.j1 kj3 a1 a2 true a0_0 a0_1 l0_2 l0_3 l0_4) else (fQ1.j1 kj3 a1 a2 (decide ((l0_4.length : Int) > 16384)) a0_0 a0_1 l0_2 l0_3 l0_4))))) = some r := by rw [if_neg (show ¬ (false = true) by decide)] at H; exact H
   clear H
   have H := H1
   clear H1
   have HC10 := Aq.mk H
   clear H
   go_upto_region 3 with (fail)
   go_cut [46] (fun v46 wc => ∃ (kq : Nat) (x46_9 : Bool), v46 = .bool x46_9 ∧ Aq (fQ1.j1 kq a1 a2 x46_9 a0_0 a0_1 l0_2 l0_3 l0_4 = some r) ∧ Aq (kq ≤ kj3) ∧ Aq (wc.heap[gb240]? = some (.cells #[.int .i64 a0_0, .int .i64 a0_1, (.slice A0_2 l0_2.length c0_2), (.slice A0_3 l0_3.length c0_3), (.slice A0_4 l0_4.length c0_4)] 47 (0, 0))) ∧ Aq (Below w.heap.size w wc))
   case first =>
    have H := HC10.out
    clear HC10
    by_cases c11 : a0_0 > 20
    ·rw [if_pos c11] at H
     have c11b0 : decide (20 < a0_0) = true := decide_eq_true c11
     clear c11
     (first | rw [c11b0] | (simp only [i64_w, i32_w]; rw [c11b0]) | skip)
     have H' := Aq.mk H
     clear H
     have hcz12_0 : wc.cell? ⟨gb240, 0, none⟩ = some (.int .i64 a0_0) := (q3q BK240.out 0).trans rfl
     have hcz12_1 : wc.cell? ⟨gb240, 1, none⟩ = some (.int .i64 a0_1) := (q3q BK240.out 1).trans rfl
     have hcz12_2 : wc.cell? ⟨gb240, 2, none⟩ = some (.slice A0_2 l0_2.length c0_2) := (q3q BK240.out 2).trans rfl
     have hcz12_3 : wc.cell? ⟨gb240, 3, none⟩ = some (.slice A0_3 l0_3.length c0_3) := (q3q BK240.out 3).trans rfl
     have hcz12_4 : wc.cell? ⟨gb240, 4, none⟩ = some (.slice A0_4 l0_4.length c0_4) := (q3q BK240.out 4).trans rfl
     have hfz12_0 := q1q BK240.out 0
     have hfz12_1 := q1q BK240.out 1
     have hfz12_2 := q1q BK240.out 2
     have hfz12_3 := q1q BK240.out 3
     have hfz12_4 := q1q BK240.out 4
     go_wp2
     go_meet
     case rel => exact ⟨_, (true), (by first | rfl | (simp; done) | (simp [*]; done)), H', ⟨by have := HJ3.out; first | omega | exact Nat.le_refl _⟩, ⟨BK240.out⟩, ⟨by repeat (with_reducible first | exact HB.out | apply q4q | apply q0q | apply q2q | refine q5q ?_ GE240.out)⟩⟩
    rw [if_neg c11] at H
    have c11b0 : decide (20 < a0_0) = false := decide_eq_false c11
    clear c11
    (first | rw [c11b0] | (simp only [i64_w, i32_w]; rw [c11b0]) | skip)
    by_cases c13 : a0_1 > 250
    ·rw [if_pos c13] at H
     have c13b0 : decide (250 < a0_1) = true := decide_eq_true c13
     clear c13
     have H' := Aq.mk H
     clear H
     have hcz14_0 : wc.cell? ⟨gb240, 0, none⟩ = some (.int .i64 a0_0) := (q3q BK240.out 0).trans rfl
     have hcz14_1 : wc.cell? ⟨gb240, 1, none⟩ = some (.int .i64 a0_1) := (q3q BK240.out 1).trans rfl
     have hcz14_2 : wc.cell? ⟨gb240, 2, none⟩ = some (.slice A0_2 l0_2.length c0_2) := (q3q BK240.out 2).trans rfl
     have hcz14_3 : wc.cell? ⟨gb240, 3, none⟩ = some (.slice A0_3 l0_3.length c0_3) := (q3q BK240.out 3).trans rfl
     have hcz14_4 : wc.cell? ⟨gb240, 4, none⟩ = some (.slice A0_4 l0_4.length c0_4) := (q3q BK240.out 4).trans rfl
     have hfz14_0 := q1q BK240.out 0
     have hfz14_1 := q1q BK240.out 1
     have hfz14_2 := q1q BK240.out 2
     have hfz14_3 := q1q BK240.out 3
     have hfz14_4 := q1q BK240.out 4
     go_wp2
     go_meet
     case rel => exact ⟨_, (true), (by first | rfl | (simp; done) | (simp [*]; done)), H', ⟨by have := HJ3.out; first | omega | exact Nat.le_refl _⟩, ⟨BK240.out⟩, ⟨by repeat (with_reducible first | exact HB.out | apply q4q | apply q0q | apply q2q | refine q5q ?_ GE240.out)⟩⟩
    rw [if_neg c13] at H
    have c13b0 : decide (250 < a0_1) = false := decide_eq_false c13
    clear c13
    by_cases c15 : (l0_2.length : Int) > 60
    ·rw [if_pos c15] at H
     have c15b0 : decide (60 < (l0_2.length : Int)) = true := decide_eq_true c15
     have c15b1 : decide (60 < l0_2.length) = true := decide_eq_true (by omega)
     clear c15
     have H' := Aq.mk H
     clear H
     have hcz16_0 : wc.cell? ⟨gb240, 0, none⟩ = some (.int .i64 a0_0) := (q3q BK240.out 0).trans rfl
     have hcz16_1 : wc.cell? ⟨gb240, 1, none⟩ = some (.int .i64 a0_1) := (q3q BK240.out 1).trans rfl
     have hcz16_2 : wc.cell? ⟨gb240, 2, none⟩ = some (.slice A0_2 l0_2.length c0_2) := (q3q BK240.out 2).trans rfl
     have hcz16_3 : wc.cell? ⟨gb240, 3, none⟩ = some (.slice A0_3 l0_3.length c0_3) := (q3q BK240.out 3).trans rfl
     have hcz16_4 : wc.cell? ⟨gb240, 4, none⟩ = some (.slice A0_4 l0_4.length c0_4) := (q3q BK240.out 4).trans rfl
     have hfz16_0 := q1q BK240.out 0
     have hfz16_1 := q1q BK240.out 1
     have hfz16_2 := q1q BK240.out 2
     have hfz16_3 := q1q BK240.out 3
     have hfz16_4 := q1q BK240.out 4
     go_wp2
     go_meet
     case rel => exact ⟨_, (true), (by first | rfl | (simp; done) | (simp [*]; done)), H', ⟨by have := HJ3.out; first | omega | exact Nat.le_refl _⟩, ⟨BK240.out⟩, ⟨by repeat (with_reducible first | exact HB.out | apply q4q | apply q0q | apply q2q | refine q5q ?_ GE240.out)⟩⟩
    rw [if_neg c15] at H
    have c15b0 : decide (60 < (l0_2.length : Int)) = false := decide_eq_false c15
    have c15b1 : decide (60 < l0_2.length) = false := decide_eq_false (by omega)
    clear c15
    by_cases c17 : (l0_3.length : Int) > 4096
    ·rw [if_pos c17] at H
     have c17b0 : decide (4096 < (l0_3.length : Int)) = true := decide_eq_true c17
     have c17b1 : decide (4096 < l0_3.length) = true := decide_eq_true (by omega)
     clear c17
     have H' := Aq.mk H
     clear H
     have hcz18_0 : wc.cell? ⟨gb240, 0, none⟩ = some (.int .i64 a0_0) := (q3q BK240.out 0).trans rfl
     have hcz18_1 : wc.cell? ⟨gb240, 1, none⟩ = some (.int .i64 a0_1) := (q3q BK240.out 1).trans rfl
     have hcz18_2 : wc.cell? ⟨gb240, 2, none⟩ = some (.slice A0_2 l0_2.length c0_2) := (q3q BK240.out 2).trans rfl
     have hcz18_3 : wc.cell? ⟨gb240, 3, none⟩ = some (.slice A0_3 l0_3.length c0_3) := (q3q BK240.out 3).trans rfl
     have hcz18_4 : wc.cell? ⟨gb240, 4, none⟩ = some (.slice A0_4 l0_4.length c0_4) := (q3q BK240.out 4).trans rfl
     have hfz18_0 := q1q BK240.out 0
     have hfz18_1 := q1q BK240.out 1
     have hfz18_2 := q1q BK240.out 2
     have hfz18_3 := q1q BK240.out 3
     have hfz18_4 := q1q BK240.out 4
     go_wp2
     go_meet
     case rel => exact ⟨_, (true), (by first | rfl | (simp; done) | (simp [*]; done)), H', ⟨by have := HJ3.out; first | omega | exact Nat.le_refl _⟩, ⟨BK240.out⟩, ⟨by repeat (with_reducible first | exact HB.out | apply q4q | apply q0q | apply q2q | refine q5q ?_ GE240.out)⟩⟩
    rw [if_neg c17] at H
    have c17b0 : decide (4096 < (l0_3.length : Int)) = false := decide_eq_false c17
    have c17b1 : decide (4096 < l0_3.length) = false := decide_eq_false (by omega)
    clear c17
    have H' := Aq.mk H
    clear H
    have hcz19_0 : wc.cell? ⟨gb240, 0, none⟩ = some (.int .i64 a0_0) := (q3q BK240.out 0).trans rfl
    have hcz19_1 : wc.cell? ⟨gb240, 1, none⟩ = some (.int .i64 a0_1) := (q3q BK240.out 1).trans rfl
    have hcz19_2 : wc.cell? ⟨gb240, 2, none⟩ = some (.slice A0_2 l0_2.length c0_2) := (q3q BK240.out 2).trans rfl
    have hcz19_3 : wc.cell? ⟨gb240, 3, none⟩ = some (.slice A0_3 l0_3.length c0_3) := (q3q BK240.out 3).trans rfl
    have hcz19_4 : wc.cell? ⟨gb240, 4, none⟩ = some (.slice A0_4 l0_4.length c0_4) := (q3q BK240.out 4).trans rfl
    have hfz19_0 := q1q BK240.out 0
    have hfz19_1 := q1q BK240.out 1
    have hfz19_2 := q1q BK240.out 2
    have hfz19_3 := q1q BK240.out 3
    have hfz19_4 := q1q BK240.out 4
    go_wp2
    go_meet
    case rel => exact ⟨_, (decide ((l0_4.length : Int) > 16384)), (by first | rfl | (simp; done) | (simp [*]; done)), H', ⟨by have := HJ3.out; first | omega | exact Nat.le_refl _⟩, ⟨BK240.out⟩, ⟨by repeat (with_reducible first | exact HB.out | apply q4q | apply q0q | apply q2q | refine q5q ?_ GE240.out)⟩⟩
   case rest =>
    clear HC10
    obtain ⟨kq, x46_9, rfl, HA, HJ9, BK240, HB⟩ := hcut
    cases kq with
    | zero => exact absurd HA.out (by simp [fQ1.j1])
    | succ kj9 =>
     have H := HA.out
     clear HA
     simp only [fQ1.j1] at H
     by_cases c20 : x46_9 = true
     ·subst c20
      have H1 : (some 3) = some r := by rw [if_pos rfl] at H; exact H
      clear H
      have H := H1
      clear H1
      obtain rfl := Option.some.inj H
      go_wp2
      go_ret
      exact ⟨by first | rfl | (simp [*] <;> rfl), by repeat (with_reducible first | exact HB.out | apply q4q | apply q0q | apply q2q | refine q5q ?_ GE240.out)⟩
     replace c20 := Bool.eq_false_iff.mpr c20
     subst c20
     have H1 : (if a0_0 > a0_1 then (fQ1.j2 kj9 a2 true a0_0 a0_1 l0_2 l0_3 l0_4) else (if a1 = true then (fQ1.j2 kj9 a2 (decide ((l0_2.length : Int) > 0)) a0_0 a0_1 l0_2 l0_3 l0_4) else (fQ1.j2 kj9 a2 false a0_0 a0_1 l0_2 l0_3 l0_4))) = some r := by rw [if_neg (show ¬ (false = true) by decide)] at H; exact H
     clear H
     have H := H1
     clear H1
     have HC21 := Aq.mk H
     clear H
     go_upto_region 5 with (fail)
     go_cut [60] (fun v60 wc => ∃ (kq : Nat) (x60_20 : Bool), v60 = .bool x60_20 ∧ Aq (fQ1.j2 kq a2 x60_20 a0_0 a0_1 l0_2 l0_3 l0_4 = some r) ∧ Aq (kq ≤ kj9) ∧ Aq (wc.heap[gb240]? = some (.cells #[.int .i64 a0_0, .int .i64 a0_1, (.slice A0_2 l0_2.length c0_2), (.slice A0_3 l0_3.length c0_3), (.slice A0_4 l0_4.length c0_4)] 47 (0, 0))) ∧ Aq (Below w.heap.size w wc))
     case first =>
      have H := HC21.out
      clear HC21
      by_cases c22 : a0_0 > a0_1
      ·rw [if_pos c22] at H
       have c22b0 : decide (a0_1 < a0_0) = true := decide_eq_true c22
       clear c22
       (first | rw [c22b0] | (simp only [i64_w, i32_w]; rw [c22b0]) | skip)
       have H' := Aq.mk H
       clear H
       have hcz23_0 : wc.cell? ⟨gb240, 0, none⟩ = some (.int .i64 a0_0) := (q3q BK240.out 0).trans rfl
       have hcz23_1 : wc.cell? ⟨gb240, 1, none⟩ = some (.int .i64 a0_1) := (q3q BK240.out 1).trans rfl
       have hcz23_2 : wc.cell? ⟨gb240, 2, none⟩ = some (.slice A0_2 l0_2.length c0_2) := (q3q BK240.out 2).trans rfl
       have hcz23_3 : wc.cell? ⟨gb240, 3, none⟩ = some (.slice A0_3 l0_3.length c0_3) := (q3q BK240.out 3).trans rfl
       have hcz23_4 : wc.cell? ⟨gb240, 4, none⟩ = some (.slice A0_4 l0_4.length c0_4) := (q3q BK240.out 4).trans rfl
       have hfz23_0 := q1q BK240.out 0
       have hfz23_1 := q1q BK240.out 1
       have hfz23_2 := q1q BK240.out 2
       have hfz23_3 := q1q BK240.out 3
       have hfz23_4 := q1q BK240.out 4
       go_wp2
       go_meet
       case rel => exact ⟨_, (true), (by first | rfl | (simp; done) | (simp [*]; done)), H', ⟨by have := HJ3.out; have := HJ9.out; first | omega | exact Nat.le_refl _⟩, ⟨BK240.out⟩, ⟨by repeat (with_reducible first | exact HB.out | apply q4q | apply q0q | apply q2q | refine q5q ?_ GE240.out)⟩⟩
      rw [if_neg c22] at H
      have c22b0 : decide (a0_1 < a0_0) = false := decide_eq_false c22
      clear c22
      (first | rw [c22b0] | (simp only [i64_w, i32_w]; rw [c22b0]) | skip)
      by_cases c24 : a1 = true
      ·subst c24
       have H1 : (fQ1.j2 kj9 a2 (decide ((l0_2.length : Int) > 0)) a0_0 a0_1 l0_2 l0_3 l0_4) = some r := by rw [if_pos rfl] at H; exact H
       clear H
       have H := H1
       clear H1
       have H' := Aq.mk H
       clear H
       have hcz25_0 : wc.cell? ⟨gb240, 0, none⟩ = some (.int .i64 a0_0) := (q3q BK240.out 0).trans rfl
       have hcz25_1 : wc.cell? ⟨gb240, 1, none⟩ = some (.int .i64 a0_1) := (q3q BK240.out 1).trans rfl
       have hcz25_2 : wc.cell? ⟨gb240, 2, none⟩ = some (.slice A0_2 l0_2.length c0_2) := (q3q BK240.out 2).trans rfl
       have hcz25_3 : wc.cell? ⟨gb240, 3, none⟩ = some (.slice A0_3 l0_3.length c0_3) := (q3q BK240.out 3).trans rfl
       have hcz25_4 : wc.cell? ⟨gb240, 4, none⟩ = some (.slice A0_4 l0_4.length c0_4) := (q3q BK240.out 4).trans rfl
       have hfz25_0 := q1q BK240.out 0
       have hfz25_1 := q1q BK240.out 1
       have hfz25_2 := q1q BK240.out 2
       have hfz25_3 := q1q BK240.out 3
       have hfz25_4 := q1q BK240.out 4
       go_wp2
       go_meet
       case rel => exact ⟨_, (decide ((l0_2.length : Int) > 0)), (by first | rfl | (simp; done) | (simp [*]; done)), H', ⟨by have := HJ3.out; have := HJ9.out; first | omega | exact Nat.le_refl _⟩, ⟨BK240.out⟩, ⟨by repeat (with_reducible first | exact HB.out | apply q4q | apply q0q | apply q2q | refine q5q ?_ GE240.out)⟩⟩
      replace c24 := Bool.eq_false_iff.mpr c24
      subst c24
      have H1 : (fQ1.j2 kj9 a2 false a0_0 a0_1 l0_2 l0_3 l0_4) = some r := by rw [if_neg (show ¬ (false = true) by decide)] at H; exact H
      clear H
      have H := H1
      clear H1
      have H' := Aq.mk H
      clear H
      have hcz26_0 : wc.cell? ⟨gb240, 0, none⟩ = some (.int .i64 a0_0) := (q3q BK240.out 0).trans rfl
      have hcz26_1 : wc.cell? ⟨gb240, 1, none⟩ = some (.int .i64 a0_1) := (q3q BK240.out 1).trans rfl
      have hcz26_2 : wc.cell? ⟨gb240, 2, none⟩ = some (.slice A0_2 l0_2.length c0_2) := (q3q BK240.out 2).trans rfl
      have hcz26_3 : wc.cell? ⟨gb240, 3, none⟩ = some (.slice A0_3 l0_3.length c0_3) := (q3q BK240.out 3).trans rfl
      have hcz26_4 : wc.cell? ⟨gb240, 4, none⟩ = some (.slice A0_4 l0_4.length c0_4) := (q3q BK240.out 4).trans rfl
      have hfz26_0 := q1q BK240.out 0
      have hfz26_1 := q1q BK240.out 1
      have hfz26_2 := q1q BK240.out 2
      have hfz26_3 := q1q BK240.out 3
      have hfz26_4 := q1q BK240.out 4
      go_wp2
      go_meet
      case rel => exact ⟨_, (false), (by first | rfl | (simp; done) | (simp [*]; done)), H', ⟨by have := HJ3.out; have := HJ9.out; first | omega | exact Nat.le_refl _⟩, ⟨BK240.out⟩, ⟨by repeat (with_reducible first | exact HB.out | apply q4q | apply q0q | apply q2q | refine q5q ?_ GE240.out)⟩⟩
     case rest =>
      clear HC21
      obtain ⟨kq, x60_20, rfl, HA, HJ20, BK240, HB⟩ := hcut
      cases kq with
      | zero => exact absurd HA.out (by simp [fQ1.j2])
      | succ kj20 =>
       have H := HA.out
       clear HA
       simp only [fQ1.j2] at H
       by_cases c27 : x60_20 = true
       ·subst c27
        have H1 : (some 2) = some r := by rw [if_pos rfl] at H; exact H
        clear H
        have H := H1
        clear H1
        obtain rfl := Option.some.inj H
        go_wp2
        go_ret
        exact ⟨by first | rfl | (simp [*] <;> rfl), by repeat (with_reducible first | exact HB.out | apply q4q | apply q0q | apply q2q | refine q5q ?_ GE240.out)⟩
       replace c27 := Bool.eq_false_iff.mpr c27
       subst c27
       have H1 : (fQ1.l0 kj20 a2 0 a0_0 a0_1 l0_2 l0_3 l0_4) = some r := by rw [if_neg (show ¬ (false = true) by decide)] at H; exact H
       clear H
       have H := H1
       clear H1
       have H' := Aq.mk H
       clear H
       go_wp2
       go_loopg [7] kj20 (fun kq v7 w' => ∃ (x7_4 : Int), v7 = .int .i64 x7_4 ∧ Aq (fQ1.l0 kq a2 x7_4 a0_0 a0_1 l0_2 l0_3 l0_4 = some r) ∧ Aq (kq ≤ kj20) ∧ Aq (w'.heap[gb240]? = some (.cells #[.int .i64 a0_0, .int .i64 a0_1, (.slice A0_2 l0_2.length c0_2), (.slice A0_3 l0_3.length c0_3), (.slice A0_4 l0_4.length c0_4)] 47 (0, 0))) ∧ Aq (Below w.heap.size w w'))
       case atStart => exact ⟨(0), (by first | rfl | (simp; done) | (simp [*]; done)), H', ⟨Nat.le_refl _⟩, ⟨BK240.out⟩, ⟨by repeat (with_reducible first | exact HB.out | apply q4q | apply q0q | apply q2q | refine q5q ?_ GE240.out)⟩⟩
       case round =>
        clear H'
        obtain ⟨x7_4, rfl, HA, HK4, BK240, HB⟩ := hrel
        cases gk with
        | zero => exact absurd HA.out (by simp [fQ1.l0])
        | succ k4 =>
         have H := HA.out
         clear HA
         simp only [fQ1.l0] at H
         by_cases c28 : x7_4 < (l0_2.length : Int)
         ·rw [if_pos c28] at H
          have c28b0 : decide (x7_4 < (l0_2.length : Int)) = true := decide_eq_true c28
          clear c28
          by_cases c29 : 0 ≤ x7_4
          case neg =>
           rw [if_neg c29] at H
           exact absurd H (by simp)
          rw [if_pos c29] at H
          have c29b0 : decide (0 ≤ x7_4) = true := decide_eq_true c29
          clear c29
          obtain ⟨bq30, hbq30⟩ : ∃ b_ : Bool, b_ = ((rd_T50 l0_2 x7_4).f0) := ⟨_, rfl⟩
          replace H : (if bq30 = true then ((fQ17.f ((rd_T50 l0_2 x7_4).f1) 250).bind fun t243 => (if t243 = true then (fQ1.l0 k4 a2 (wrap64 (x7_4 + 1)) a0_0 a0_1 l0_2 l0_3 l0_4) else (some 2))) else ((fQ17.f ((rd_T50 l0_2 x7_4).f1) 60).bind fun t245 => (if t245 = true then (fQ1.l0 k4 a2 (wrap64 (x7_4 + 1)) a0_0 a0_1 l0_2 l0_3 l0_4) else (some 2)))) = some r := by rw [← hbq30] at H; exact H
          have Nbq30 := Aq.mk hbq30
          clear hbq30
          by_cases c31 : bq30 = true
          ·subst c31
           have H1 : ((fQ17.f ((rd_T50 l0_2 x7_4).f1) 250).bind fun t243 => (if t243 = true then (fQ1.l0 k4 a2 (wrap64 (x7_4 + 1)) a0_0 a0_1 l0_2 l0_3 l0_4) else (some 2))) = some r := by rw [if_pos rfl] at H; exact H
           clear H
           have H := H1
           clear H1
           replace H := Option.bind_eq_some_iff.mp H
           obtain ⟨t243, A320, H⟩ := H
           replace H : (if t243 = true then (fQ1.l0 k4 a2 (wrap64 (x7_4 + 1)) a0_0 a0_1 l0_2 l0_3 l0_4) else (some 2)) = some r := H
           have A32 := Aq.mk A320
           clear A320
           by_cases c33 : t243 = true
           case neg =>
            replace c33 := Bool.eq_false_iff.mpr c33
            subst c33
            have H1 : (some 2) = some r := by rw [if_neg (show ¬ (false = true) by decide)] at H; exact H
            clear H
            have H := H1
            clear H1
            obtain rfl := Option.some.inj H
            have hcz35_0 : wr.cell? ⟨gb240, 0, none⟩ = some (.int .i64 a0_0) := (q3q BK240.out 0).trans rfl
            have hcz35_1 : wr.cell? ⟨gb240, 1, none⟩ = some (.int .i64 a0_1) := (q3q BK240.out 1).trans rfl
            have hcz35_2 : wr.cell? ⟨gb240, 2, none⟩ = some (.slice A0_2 l0_2.length c0_2) := (q3q BK240.out 2).trans rfl
            have hcz35_3 : wr.cell? ⟨gb240, 3, none⟩ = some (.slice A0_3 l0_3.length c0_3) := (q3q BK240.out 3).trans rfl
            have hcz35_4 : wr.cell? ⟨gb240, 4, none⟩ = some (.slice A0_4 l0_4.length c0_4) := (q3q BK240.out 4).trans rfl
            have hfz35_0 := q1q BK240.out 0
            have hfz35_1 := q1q BK240.out 1
            have hfz35_2 := q1q BK240.out 2
            have hfz35_3 := q1q BK240.out 3
            have hfz35_4 := q1q BK240.out 4
            have p241 : 0 ≤ (x7_4 : Int) := of_decide_eq_true (by first | (with_reducible assumption) | assumption)
            have q241 : x7_4 < (l0_2.length : Int) := of_decide_eq_true (by first | (with_reducible assumption) | assumption)
            obtain ⟨ad241, e241, hx241_0, hx241_1⟩ := at_T50 HR0_2.out x7_4 p241 q241
            (try rw [← Nbq30.out] at hx241_0)
            cases e241
            replace hx241_0 := (HB.out.cell (World.block_lt_of_cell? w _ hx241_0)).trans hx241_0
            replace hx241_1 := (HB.out.cell (World.block_lt_of_cell? w _ hx241_1)).trans hx241_1
            replace p241 := eq_true p241
            replace q241 := eq_true q241
            have p242 : 0 ≤ (x7_4 : Int) := of_decide_eq_true (by first | (with_reducible assumption) | assumption)
            have q242 : x7_4 < (l0_2.length : Int) := of_decide_eq_true (by first | (with_reducible assumption) | assumption)
            obtain ⟨ad242, e242, hx242_0, hx242_1⟩ := at_T50 HR0_2.out x7_4 p242 q242
            (try rw [← Nbq30.out] at hx242_0)
            obtain rfl : ad241 = ad242 := (by injection e242)
            replace hx242_0 := (HB.out.cell (World.block_lt_of_cell? w _ hx242_0)).trans hx242_0
            replace hx242_1 := (HB.out.cell (World.block_lt_of_cell? w _ hx242_1)).trans hx242_1
            replace p242 := eq_true p242
            replace q242 := eq_true q242
            go_wp2_with (first | ((with_reducible refine q15q (f := 67) rfl ?_); refine q24q (some 81) rfl rfl Try.func67 (by kernel_rfl) rfl #[.int .i64 ((rd_T50 l0_2 x7_4).f1), .int .i64 250] rfl (by (try simp only [List.map_toArray, List.map_cons, List.map_nil]); first | done | rfl) ?_; (with_reducible refine (fQ17.calls ((rd_T50 l0_2 x7_4).f1) 250 false _ A32.out).mono ?_); rintro e w' ⟨rfl, ⟨nd, rfl⟩⟩; refine ⟨_, rfl, ?_⟩))
            go_ret
            exact ⟨by first | rfl | (simp [*] <;> rfl), by repeat (with_reducible first | exact HB.out | apply q4q | apply q0q | apply q2q | refine q5q ?_ GE240.out)⟩
           subst c33
           have H1 : (fQ1.l0 k4 a2 (wrap64 (x7_4 + 1)) a0_0 a0_1 l0_2 l0_3 l0_4) = some r := by rw [if_pos rfl] at H; exact H
           clear H
           have H := H1
           clear H1
           have H' := Aq.mk H
           clear H
           have hcz34_0 : wr.cell? ⟨gb240, 0, none⟩ = some (.int .i64 a0_0) := (q3q BK240.out 0).trans rfl
           have hcz34_1 : wr.cell? ⟨gb240, 1, none⟩ = some (.int .i64 a0_1) := (q3q BK240.out 1).trans rfl
           have hcz34_2 : wr.cell? ⟨gb240, 2, none⟩ = some (.slice A0_2 l0_2.length c0_2) := (q3q BK240.out 2).trans rfl
           have hcz34_3 : wr.cell? ⟨gb240, 3, none⟩ = some (.slice A0_3 l0_3.length c0_3) := (q3q BK240.out 3).trans rfl
           have hcz34_4 : wr.cell? ⟨gb240, 4, none⟩ = some (.slice A0_4 l0_4.length c0_4) := (q3q BK240.out 4).trans rfl
           have hfz34_0 := q1q BK240.out 0
           have hfz34_1 := q1q BK240.out 1
           have hfz34_2 := q1q BK240.out 2
           have hfz34_3 := q1q BK240.out 3
           have hfz34_4 := q1q BK240.out 4
           have p241 : 0 ≤ (x7_4 : Int) := of_decide_eq_true (by first | (with_reducible assumption) | assumption)
           have q241 : x7_4 < (l0_2.length : Int) := of_decide_eq_true (by first | (with_reducible assumption) | assumption)
           obtain ⟨ad241, e241, hx241_0, hx241_1⟩ := at_T50 HR0_2.out x7_4 p241 q241
           (try rw [← Nbq30.out] at hx241_0)
           cases e241
           replace hx241_0 := (HB.out.cell (World.block_lt_of_cell? w _ hx241_0)).trans hx241_0
           replace hx241_1 := (HB.out.cell (World.block_lt_of_cell? w _ hx241_1)).trans hx241_1
           replace p241 := eq_true p241
           replace q241 := eq_true q241
           have p242 : 0 ≤ (x7_4 : Int) := of_decide_eq_true (by first | (with_reducible assumption) | assumption)
           have q242 : x7_4 < (l0_2.length : Int) := of_decide_eq_true (by first | (with_reducible assumption) | assumption)
           obtain ⟨ad242, e242, hx242_0, hx242_1⟩ := at_T50 HR0_2.out x7_4 p242 q242
           (try rw [← Nbq30.out] at hx242_0)
           obtain rfl : ad241 = ad242 := (by injection e242)
           replace hx242_0 := (HB.out.cell (World.block_lt_of_cell? w _ hx242_0)).trans hx242_0
           replace hx242_1 := (HB.out.cell (World.block_lt_of_cell? w _ hx242_1)).trans hx242_1
           replace p242 := eq_true p242
           replace q242 := eq_true q242
           go_wp2_with (first | ((with_reducible refine q15q (f := 67) rfl ?_); refine q24q (some 81) rfl rfl Try.func67 (by kernel_rfl) rfl #[.int .i64 ((rd_T50 l0_2 x7_4).f1), .int .i64 250] rfl (by (try simp only [List.map_toArray, List.map_cons, List.map_nil]); first | done | rfl) ?_; (with_reducible refine (fQ17.calls ((rd_T50 l0_2 x7_4).f1) 250 true _ A32.out).mono ?_); rintro e w' ⟨rfl, ⟨nd, rfl⟩⟩; refine ⟨_, rfl, ?_⟩))
           go_roundg k4
           case measure => have := HJ3.out; have := HJ9.out; have := HJ20.out; have := HK4.out; omega
           case rel => exact ⟨(wrap64 (x7_4 + 1)), (by first | rfl | (simp; done) | (simp [*]; done)), H', ⟨by have := HJ3.out; have := HJ9.out; have := HJ20.out; have := HK4.out; omega⟩, ⟨BK240.out⟩, ⟨by repeat (with_reducible first | exact HB.out | apply q4q | apply q0q | apply q2q | refine q5q ?_ GE240.out)⟩⟩
          replace c31 := Bool.eq_false_iff.mpr c31
          subst c31
          have H1 : ((fQ17.f ((rd_T50 l0_2 x7_4).f1) 60).bind fun t245 => (if t245 = true then (fQ1.l0 k4 a2 (wrap64 (x7_4 + 1)) a0_0 a0_1 l0_2 l0_3 l0_4) else (some 2))) = some r := by rw [if_neg (show ¬ (false = true) by decide)] at H; exact H
          clear H
          have H := H1
          clear H1
          replace H := Option.bind_eq_some_iff.mp H
          obtain ⟨t245, A360, H⟩ := H
          replace H : (if t245 = true then (fQ1.l0 k4 a2 (wrap64 (x7_4 + 1)) a0_0 a0_1 l0_2 l0_3 l0_4) else (some 2)) = some r := H
          have A36 := Aq.mk A360
          clear A360
          by_cases c37 : t245 = true
          case neg =>
           replace c37 := Bool.eq_false_iff.mpr c37
           subst c37
           have H1 : (some 2) = some r := by rw [if_neg (show ¬ (false = true) by decide)] at H; exact H
           clear H
           have H := H1
           clear H1
           obtain rfl := Option.some.inj H
           have hcz39_0 : wr.cell? ⟨gb240, 0, none⟩ = some (.int .i64 a0_0) := (q3q BK240.out 0).trans rfl
           have hcz39_1 : wr.cell? ⟨gb240, 1, none⟩ = some (.int .i64 a0_1) := (q3q BK240.out 1).trans rfl
           have hcz39_2 : wr.cell? ⟨gb240, 2, none⟩ = some (.slice A0_2 l0_2.length c0_2) := (q3q BK240.out 2).trans rfl
           have hcz39_3 : wr.cell? ⟨gb240, 3, none⟩ = some (.slice A0_3 l0_3.length c0_3) := (q3q BK240.out 3).trans rfl
           have hcz39_4 : wr.cell? ⟨gb240, 4, none⟩ = some (.slice A0_4 l0_4.length c0_4) := (q3q BK240.out 4).trans rfl
           have hfz39_0 := q1q BK240.out 0
           have hfz39_1 := q1q BK240.out 1
           have hfz39_2 := q1q BK240.out 2
           have hfz39_3 := q1q BK240.out 3
           have hfz39_4 := q1q BK240.out 4
           have p241 : 0 ≤ (x7_4 : Int) := of_decide_eq_true (by first | (with_reducible assumption) | assumption)
           have q241 : x7_4 < (l0_2.length : Int) := of_decide_eq_true (by first | (with_reducible assumption) | assumption)
           obtain ⟨ad241, e241, hx241_0, hx241_1⟩ := at_T50 HR0_2.out x7_4 p241 q241
           (try rw [← Nbq30.out] at hx241_0)
           cases e241
           replace hx241_0 := (HB.out.cell (World.block_lt_of_cell? w _ hx241_0)).trans hx241_0
           replace hx241_1 := (HB.out.cell (World.block_lt_of_cell? w _ hx241_1)).trans hx241_1
           replace p241 := eq_true p241
           replace q241 := eq_true q241
           have p244 : 0 ≤ (x7_4 : Int) := of_decide_eq_true (by first | (with_reducible assumption) | assumption)
           have q244 : x7_4 < (l0_2.length : Int) := of_decide_eq_true (by first | (with_reducible assumption) | assumption)
           obtain ⟨ad244, e244, hx244_0, hx244_1⟩ := at_T50 HR0_2.out x7_4 p244 q244
           (try rw [← Nbq30.out] at hx244_0)
           obtain rfl : ad241 = ad244 := (by injection e244)
           replace hx244_0 := (HB.out.cell (World.block_lt_of_cell? w _ hx244_0)).trans hx244_0
           replace hx244_1 := (HB.out.cell (World.block_lt_of_cell? w _ hx244_1)).trans hx244_1
           replace p244 := eq_true p244
           replace q244 := eq_true q244
           go_wp2_with (first | ((with_reducible refine q15q (f := 67) rfl ?_); refine q24q (some 81) rfl rfl Try.func67 (by kernel_rfl) rfl #[.int .i64 ((rd_T50 l0_2 x7_4).f1), .int .i64 60] rfl (by (try simp only [List.map_toArray, List.map_cons, List.map_nil]); first | done | rfl) ?_; (with_reducible refine (fQ17.calls ((rd_T50 l0_2 x7_4).f1) 60 false _ A36.out).mono ?_); rintro e w' ⟨rfl, ⟨nd, rfl⟩⟩; refine ⟨_, rfl, ?_⟩))
           go_ret
           exact ⟨by first | rfl | (simp [*] <;> rfl), by repeat (with_reducible first | exact HB.out | apply q4q | apply q0q | apply q2q | refine q5q ?_ GE240.out)⟩
          subst c37
          have H1 : (fQ1.l0 k4 a2 (wrap64 (x7_4 + 1)) a0_0 a0_1 l0_2 l0_3 l0_4) = some r := by rw [if_pos rfl] at H; exact H
          clear H
          have H := H1
          clear H1
          have H' := Aq.mk H
          clear H
          have hcz38_0 : wr.cell? ⟨gb240, 0, none⟩ = some (.int .i64 a0_0) := (q3q BK240.out 0).trans rfl
          have hcz38_1 : wr.cell? ⟨gb240, 1, none⟩ = some (.int .i64 a0_1) := (q3q BK240.out 1).trans rfl
          have hcz38_2 : wr.cell? ⟨gb240, 2, none⟩ = some (.slice A0_2 l0_2.length c0_2) := (q3q BK240.out 2).trans rfl
          have hcz38_3 : wr.cell? ⟨gb240, 3, none⟩ = some (.slice A0_3 l0_3.length c0_3) := (q3q BK240.out 3).trans rfl
          have hcz38_4 : wr.cell? ⟨gb240, 4, none⟩ = some (.slice A0_4 l0_4.length c0_4) := (q3q BK240.out 4).trans rfl
          have hfz38_0 := q1q BK240.out 0
          have hfz38_1 := q1q BK240.out 1
          have hfz38_2 := q1q BK240.out 2
          have hfz38_3 := q1q BK240.out 3
          have hfz38_4 := q1q BK240.out 4
          have p241 : 0 ≤ (x7_4 : Int) := of_decide_eq_true (by first | (with_reducible assumption) | assumption)
          have q241 : x7_4 < (l0_2.length : Int) := of_decide_eq_true (by first | (with_reducible assumption) | assumption)
          obtain ⟨ad241, e241, hx241_0, hx241_1⟩ := at_T50 HR0_2.out x7_4 p241 q241
          (try rw [← Nbq30.out] at hx241_0)
          cases e241
          replace hx241_0 := (HB.out.cell (World.block_lt_of_cell? w _ hx241_0)).trans hx241_0
          replace hx241_1 := (HB.out.cell (World.block_lt_of_cell? w _ hx241_1)).trans hx241_1
          replace p241 := eq_true p241
          replace q241 := eq_true q241
          have p244 : 0 ≤ (x7_4 : Int) := of_decide_eq_true (by first | (with_reducible assumption) | assumption)
          have q244 : x7_4 < (l0_2.length : Int) := of_decide_eq_true (by first | (with_reducible assumption) | assumption)
          obtain ⟨ad244, e244, hx244_0, hx244_1⟩ := at_T50 HR0_2.out x7_4 p244 q244
          (try rw [← Nbq30.out] at hx244_0)
          obtain rfl : ad241 = ad244 := (by injection e244)
          replace hx244_0 := (HB.out.cell (World.block_lt_of_cell? w _ hx244_0)).trans hx244_0
          replace hx244_1 := (HB.out.cell (World.block_lt_of_cell? w _ hx244_1)).trans hx244_1
          replace p244 := eq_true p244
          replace q244 := eq_true q244
          go_wp2_with (first | ((with_reducible refine q15q (f := 67) rfl ?_); refine q24q (some 81) rfl rfl Try.func67 (by kernel_rfl) rfl #[.int .i64 ((rd_T50 l0_2 x7_4).f1), .int .i64 60] rfl (by (try simp only [List.map_toArray, List.map_cons, List.map_nil]); first | done | rfl) ?_; (with_reducible refine (fQ17.calls ((rd_T50 l0_2 x7_4).f1) 60 true _ A36.out).mono ?_); rintro e w' ⟨rfl, ⟨nd, rfl⟩⟩; refine ⟨_, rfl, ?_⟩))
          go_roundg k4
          case measure => have := HJ3.out; have := HJ9.out; have := HJ20.out; have := HK4.out; omega
          case rel => exact ⟨(wrap64 (x7_4 + 1)), (by first | rfl | (simp; done) | (simp [*]; done)), H', ⟨by have := HJ3.out; have := HJ9.out; have := HJ20.out; have := HK4.out; omega⟩, ⟨BK240.out⟩, ⟨by repeat (with_reducible first | exact HB.out | apply q4q | apply q0q | apply q2q | refine q5q ?_ GE240.out)⟩⟩
         rw [if_neg c28] at H
         have c28b0 : decide (x7_4 < (l0_2.length : Int)) = false := decide_eq_false c28
         clear c28
         have H' := Aq.mk H
         clear H
         have hcz40_0 : wr.cell? ⟨gb240, 0, none⟩ = some (.int .i64 a0_0) := (q3q BK240.out 0).trans rfl
         have hcz40_1 : wr.cell? ⟨gb240, 1, none⟩ = some (.int .i64 a0_1) := (q3q BK240.out 1).trans rfl
         have hcz40_2 : wr.cell? ⟨gb240, 2, none⟩ = some (.slice A0_2 l0_2.length c0_2) := (q3q BK240.out 2).trans rfl
         have hcz40_3 : wr.cell? ⟨gb240, 3, none⟩ = some (.slice A0_3 l0_3.length c0_3) := (q3q BK240.out 3).trans rfl
         have hcz40_4 : wr.cell? ⟨gb240, 4, none⟩ = some (.slice A0_4 l0_4.length c0_4) := (q3q BK240.out 4).trans rfl
         have hfz40_0 := q1q BK240.out 0
         have hfz40_1 := q1q BK240.out 1
         have hfz40_2 := q1q BK240.out 2
         have hfz40_3 := q1q BK240.out 3
         have hfz40_4 := q1q BK240.out 4
         go_wp2
         go_loopg [9] k4 (fun kq v9 w' => ∃ (x9_5 : Int), v9 = .int .i64 x9_5 ∧ Aq (fQ1.l1 kq a2 x9_5 a0_0 a0_1 l0_2 l0_3 l0_4 = some r) ∧ Aq (kq ≤ k4) ∧ Aq (w'.heap[gb240]? = some (.cells #[.int .i64 a0_0, .int .i64 a0_1, (.slice A0_2 l0_2.length c0_2), (.slice A0_3 l0_3.length c0_3), (.slice A0_4 l0_4.length c0_4)] 47 (0, 0))) ∧ Aq (Below w.heap.size w w'))
         case atStart => exact ⟨(0), (by first | rfl | (simp; done) | (simp [*]; done)), H', ⟨Nat.le_refl _⟩, ⟨BK240.out⟩, ⟨by repeat (with_reducible first | exact HB.out | apply q4q | apply q0q | apply q2q | refine q5q ?_ GE240.out)⟩⟩
         case round =>
          clear H'
          try clear c28b0
          try clear hcz40_0
          try clear hcz40_1
          try clear hcz40_2
          try clear hcz40_3
          try clear hcz40_4
          try clear hfz40_0
          try clear hfz40_1
          try clear hfz40_2
          try clear hfz40_3
          try clear hfz40_4
          obtain ⟨x9_5, rfl, HA, HK5, BK240, HB⟩ := hrel
          cases gk with
          | zero => exact absurd HA.out (by simp [fQ1.l1])
          | succ k5 =>
           have H := HA.out
           clear HA
           simp only [fQ1.l1] at H
           by_cases c41 : x9_5 < (l0_3.length : Int)
           ·rw [if_pos c41] at H
            have c41b0 : decide (x9_5 < (l0_3.length : Int)) = true := decide_eq_true c41
            clear c41
            by_cases c42 : 0 ≤ x9_5
            case neg =>
             rw [if_neg c42] at H
             exact absurd H (by simp)
            rw [if_pos c42] at H
            have c42b0 : decide (0 ≤ x9_5) = true := decide_eq_true c42
            clear c42
            by_cases c43 : ((rd_T42 l0_3 x9_5).f0) = 3
            case neg =>
             rw [if_neg c43] at H
             have c43b0 : (((rd_T42 l0_3 x9_5).f0) == 3) = false := beq_eq_false_iff_ne.mpr c43
             have c43b1 : (((rd_T42 l0_3 x9_5).f0) != 3) = true := bne_iff_ne.mpr c43
             by_cases c63 : ((rd_T42 l0_3 x9_5).f0) = 5
             case neg =>
              rw [if_neg c63] at H
              have c63b0 : (((rd_T42 l0_3 x9_5).f0) == 5) = false := beq_eq_false_iff_ne.mpr c63
              have c63b1 : (((rd_T42 l0_3 x9_5).f0) != 5) = true := bne_iff_ne.mpr c63
              obtain rfl := Option.some.inj H
              have hcz73_0 : wr.cell? ⟨gb240, 0, none⟩ = some (.int .i64 a0_0) := (q3q BK240.out 0).trans rfl
              have hcz73_1 : wr.cell? ⟨gb240, 1, none⟩ = some (.int .i64 a0_1) := (q3q BK240.out 1).trans rfl
              have hcz73_2 : wr.cell? ⟨gb240, 2, none⟩ = some (.slice A0_2 l0_2.length c0_2) := (q3q BK240.out 2).trans rfl
              have hcz73_3 : wr.cell? ⟨gb240, 3, none⟩ = some (.slice A0_3 l0_3.length c0_3) := (q3q BK240.out 3).trans rfl
              have hcz73_4 : wr.cell? ⟨gb240, 4, none⟩ = some (.slice A0_4 l0_4.length c0_4) := (q3q BK240.out 4).trans rfl
              have hfz73_0 := q1q BK240.out 0
              have hfz73_1 := q1q BK240.out 1
              have hfz73_2 := q1q BK240.out 2
              have hfz73_3 := q1q BK240.out 3
              have hfz73_4 := q1q BK240.out 4
              have p246 : 0 ≤ (x9_5 : Int) := of_decide_eq_true (by first | (with_reducible assumption) | assumption)
              have q246 : x9_5 < (l0_3.length : Int) := of_decide_eq_true (by first | (with_reducible assumption) | assumption)
              obtain ⟨ad246, e246, hx246_0, hx246_1, hx246_2⟩ := at_T42 HR0_3.out x9_5 p246 q246
              cases e246
              replace hx246_0 := (HB.out.cell (World.block_lt_of_cell? w _ hx246_0)).trans hx246_0
              replace hx246_1 := (HB.out.cell (World.block_lt_of_cell? w _ hx246_1)).trans hx246_1
              replace hx246_2 := (HB.out.cell (World.block_lt_of_cell? w _ hx246_2)).trans hx246_2
              replace p246 := eq_true p246
              replace q246 := eq_true q246
              go_wp2_with (first | ((with_reducible refine q12q (N := 10) rfl ?_); (try (refine q20q (by rfl) ?_; dsimp only)); refine q11q ?hg (N := 10) ?hd (cs := #[.int .i64 0, .int .i64 0, .string (⟨#[]⟩ : ByteArray)]) (t := 42) ?hr ?_; (case hd => rfl); (case hg => rfl); (case hr => first | (go_simp; done) | (go_simp; rfl)); intro gb247 hg w74 hbox hb; have n0_ := Aq.mk (q13q (g := gb240) (o := .cells #[.int .i64 a0_0, .int .i64 a0_1, .slice A0_2 l0_2.length c0_2, .slice (some ad246) l0_3.length c0_3, .slice A0_4 l0_4.length c0_4] 47 (0, 0)) BK240.out hb); have n1_ := Aq.mk (q10q (by repeat (with_reducible first | exact HB.out | apply q4q | apply q0q | apply q2q | refine q5q ?_ GE240.out)) hb); have n2_ := Aq.mk (hbox); have n3_ := Aq.mk ((by rw [hg]; exact (q6q (by repeat (with_reducible first | exact HB.out | apply q4q | apply q0q | apply q2q | refine q5q ?_ GE240.out))) : w.heap.size ≤ gb247)); have n4_ := Aq.mk ((by rw [hg]; exact (q6q (by repeat (with_reducible first | exact HB.out | apply q4q | apply q0q | apply q2q | refine q5q ?_ GE240.out))) : w.heap.size ≤ gb247)); have n5_ := Aq.mk ((by rw [hg]; exact Nat.ne_of_lt (q16q (g := gb240) (o := .cells #[.int .i64 a0_0, .int .i64 a0_1, .slice A0_2 l0_2.length c0_2, .slice (some ad246) l0_3.length c0_3, .slice A0_4 l0_4.length c0_4] 47 (0, 0)) BK240.out) : gb240 ≠ gb247)); have n6_ := Aq.mk ((by rw [hg]; exact Nat.ne_of_gt (q16q (g := gb240) (o := .cells #[.int .i64 a0_0, .int .i64 a0_1, .slice A0_2 l0_2.length c0_2, .slice (some ad246) l0_3.length c0_3, .slice A0_4 l0_4.length c0_4] 47 (0, 0)) BK240.out) : gb247 ≠ gb240)); clear BK240; clear HB; have BK240 := n0_; have HB := n1_; have BK247 := n2_; have GW247 := n3_; have GE247 := n4_; have NB240_247 := n5_; have NB247_240 := n6_; clear n0_ n1_ n2_ n3_ n4_ n5_ n6_; clear hb hbox hg; have hnb75 := NB247_240.out; have hnc75 := NB240_247.out; have hcz76_0 : w74.cell? ⟨gb247, 0, none⟩ = some (.int .i64 0) := (q3q BK247.out 0).trans rfl; have hcz76_1 : w74.cell? ⟨gb247, 1, none⟩ = some (.int .i64 0) := (q3q BK247.out 1).trans rfl; have hcz76_2 : w74.cell? ⟨gb247, 2, none⟩ = some (.string (⟨#[]⟩ : ByteArray)) := (q3q BK247.out 2).trans rfl; have hfz76_0 := q1q BK247.out 0; have hfz76_1 := q1q BK247.out 1; have hfz76_2 := q1q BK247.out 2))
              go_ret
              exact ⟨by first | rfl | (simp [*] <;> rfl), by repeat (with_reducible first | exact HB.out | apply q4q | apply q0q | apply q2q | refine q5q ?_ GE240.out | refine q5q ?_ GE247.out)⟩
             rw [if_pos c63] at H
             have c63b0 : (((rd_T42 l0_3 x9_5).f0) == 5) = true := beq_iff_eq.mpr c63
             have c63b1 : (((rd_T42 l0_3 x9_5).f0) != 5) = false := bne_eq_false_iff_eq.mpr c63
             clear c63
             by_cases c64 : (((rd_T42 l0_3 x9_5).f1) = 0)
             case neg =>
              rw [if_neg c64] at H
              have c64b0 : (((rd_T42 l0_3 x9_5).f1) == 0) = false := beq_eq_false_iff_ne.mpr c64
              have c64b1 : (((rd_T42 l0_3 x9_5).f1) != 0) = true := bne_iff_ne.mpr c64
              obtain rfl := Option.some.inj H
              have hcz69_0 : wr.cell? ⟨gb240, 0, none⟩ = some (.int .i64 a0_0) := (q3q BK240.out 0).trans rfl
              have hcz69_1 : wr.cell? ⟨gb240, 1, none⟩ = some (.int .i64 a0_1) := (q3q BK240.out 1).trans rfl
              have hcz69_2 : wr.cell? ⟨gb240, 2, none⟩ = some (.slice A0_2 l0_2.length c0_2) := (q3q BK240.out 2).trans rfl
              have hcz69_3 : wr.cell? ⟨gb240, 3, none⟩ = some (.slice A0_3 l0_3.length c0_3) := (q3q BK240.out 3).trans rfl
              have hcz69_4 : wr.cell? ⟨gb240, 4, none⟩ = some (.slice A0_4 l0_4.length c0_4) := (q3q BK240.out 4).trans rfl
              have hfz69_0 := q1q BK240.out 0
              have hfz69_1 := q1q BK240.out 1
              have hfz69_2 := q1q BK240.out 2
              have hfz69_3 := q1q BK240.out 3
              have hfz69_4 := q1q BK240.out 4
              have p246 : 0 ≤ (x9_5 : Int) := of_decide_eq_true (by first | (with_reducible assumption) | assumption)
              have q246 : x9_5 < (l0_3.length : Int) := of_decide_eq_true (by first | (with_reducible assumption) | assumption)
              obtain ⟨ad246, e246, hx246_0, hx246_1, hx246_2⟩ := at_T42 HR0_3.out x9_5 p246 q246
              cases e246
              replace hx246_0 := (HB.out.cell (World.block_lt_of_cell? w _ hx246_0)).trans hx246_0
              replace hx246_1 := (HB.out.cell (World.block_lt_of_cell? w _ hx246_1)).trans hx246_1
              replace hx246_2 := (HB.out.cell (World.block_lt_of_cell? w _ hx246_2)).trans hx246_2
              replace p246 := eq_true p246
              replace q246 := eq_true q246
              go_wp2_with (first | ((with_reducible refine q12q (N := 10) rfl ?_); (try (refine q20q (by rfl) ?_; dsimp only)); refine q11q ?hg (N := 10) ?hd (cs := #[.int .i64 0, .int .i64 0, .string (⟨#[]⟩ : ByteArray)]) (t := 42) ?hr ?_; (case hd => rfl); (case hg => rfl); (case hr => first | (go_simp; done) | (go_simp; rfl)); intro gb247 hg w70 hbox hb; have n0_ := Aq.mk (q13q (g := gb240) (o := .cells #[.int .i64 a0_0, .int .i64 a0_1, .slice A0_2 l0_2.length c0_2, .slice (some ad246) l0_3.length c0_3, .slice A0_4 l0_4.length c0_4] 47 (0, 0)) BK240.out hb); have n1_ := Aq.mk (q10q (by repeat (with_reducible first | exact HB.out | apply q4q | apply q0q | apply q2q | refine q5q ?_ GE240.out)) hb); have n2_ := Aq.mk (hbox); have n3_ := Aq.mk ((by rw [hg]; exact (q6q (by repeat (with_reducible first | exact HB.out | apply q4q | apply q0q | apply q2q | refine q5q ?_ GE240.out))) : w.heap.size ≤ gb247)); have n4_ := Aq.mk ((by rw [hg]; exact (q6q (by repeat (with_reducible first | exact HB.out | apply q4q | apply q0q | apply q2q | refine q5q ?_ GE240.out))) : w.heap.size ≤ gb247)); have n5_ := Aq.mk ((by rw [hg]; exact Nat.ne_of_lt (q16q (g := gb240) (o := .cells #[.int .i64 a0_0, .int .i64 a0_1, .slice A0_2 l0_2.length c0_2, .slice (some ad246) l0_3.length c0_3, .slice A0_4 l0_4.length c0_4] 47 (0, 0)) BK240.out) : gb240 ≠ gb247)); have n6_ := Aq.mk ((by rw [hg]; exact Nat.ne_of_gt (q16q (g := gb240) (o := .cells #[.int .i64 a0_0, .int .i64 a0_1, .slice A0_2 l0_2.length c0_2, .slice (some ad246) l0_3.length c0_3, .slice A0_4 l0_4.length c0_4] 47 (0, 0)) BK240.out) : gb247 ≠ gb240)); clear BK240; clear HB; have BK240 := n0_; have HB := n1_; have BK247 := n2_; have GW247 := n3_; have GE247 := n4_; have NB240_247 := n5_; have NB247_240 := n6_; clear n0_ n1_ n2_ n3_ n4_ n5_ n6_; clear hb hbox hg; have hnb71 := NB247_240.out; have hnc71 := NB240_247.out; have hcz72_0 : w70.cell? ⟨gb247, 0, none⟩ = some (.int .i64 0) := (q3q BK247.out 0).trans rfl; have hcz72_1 : w70.cell? ⟨gb247, 1, none⟩ = some (.int .i64 0) := (q3q BK247.out 1).trans rfl; have hcz72_2 : w70.cell? ⟨gb247, 2, none⟩ = some (.string (⟨#[]⟩ : ByteArray)) := (q3q BK247.out 2).trans rfl; have hfz72_0 := q1q BK247.out 0; have hfz72_1 := q1q BK247.out 1; have hfz72_2 := q1q BK247.out 2))
              go_ret
              exact ⟨by first | rfl | (simp [*] <;> rfl), by repeat (with_reducible first | exact HB.out | apply q4q | apply q0q | apply q2q | refine q5q ?_ GE240.out | refine q5q ?_ GE247.out)⟩
             rw [if_pos c64] at H
             have c64b0 : (((rd_T42 l0_3 x9_5).f1) == 0) = true := beq_iff_eq.mpr c64
             have c64b1 : (((rd_T42 l0_3 x9_5).f1) != 0) = false := bne_eq_false_iff_eq.mpr c64
             clear c64
             have H' := Aq.mk H
             clear H
             have hcz65_0 : wr.cell? ⟨gb240, 0, none⟩ = some (.int .i64 a0_0) := (q3q BK240.out 0).trans rfl
             have hcz65_1 : wr.cell? ⟨gb240, 1, none⟩ = some (.int .i64 a0_1) := (q3q BK240.out 1).trans rfl
             have hcz65_2 : wr.cell? ⟨gb240, 2, none⟩ = some (.slice A0_2 l0_2.length c0_2) := (q3q BK240.out 2).trans rfl
             have hcz65_3 : wr.cell? ⟨gb240, 3, none⟩ = some (.slice A0_3 l0_3.length c0_3) := (q3q BK240.out 3).trans rfl
             have hcz65_4 : wr.cell? ⟨gb240, 4, none⟩ = some (.slice A0_4 l0_4.length c0_4) := (q3q BK240.out 4).trans rfl
             have hfz65_0 := q1q BK240.out 0
             have hfz65_1 := q1q BK240.out 1
             have hfz65_2 := q1q BK240.out 2
             have hfz65_3 := q1q BK240.out 3
             have hfz65_4 := q1q BK240.out 4
             have p246 : 0 ≤ (x9_5 : Int) := of_decide_eq_true (by first | (with_reducible assumption) | assumption)
             have q246 : x9_5 < (l0_3.length : Int) := of_decide_eq_true (by first | (with_reducible assumption) | assumption)
             obtain ⟨ad246, e246, hx246_0, hx246_1, hx246_2⟩ := at_T42 HR0_3.out x9_5 p246 q246
             cases e246
             replace hx246_0 := (HB.out.cell (World.block_lt_of_cell? w _ hx246_0)).trans hx246_0
             replace hx246_1 := (HB.out.cell (World.block_lt_of_cell? w _ hx246_1)).trans hx246_1
             replace hx246_2 := (HB.out.cell (World.block_lt_of_cell? w _ hx246_2)).trans hx246_2
             replace p246 := eq_true p246
             replace q246 := eq_true q246
             go_wp2_with (first | ((with_reducible refine q12q (N := 10) rfl ?_); (try (refine q20q (by rfl) ?_; dsimp only)); refine q11q ?hg (N := 10) ?hd (cs := #[.int .i64 0, .int .i64 0, .string (⟨#[]⟩ : ByteArray)]) (t := 42) ?hr ?_; (case hd => rfl); (case hg => rfl); (case hr => first | (go_simp; done) | (go_simp; rfl)); intro gb247 hg w66 hbox hb; have n0_ := Aq.mk (q13q (g := gb240) (o := .cells #[.int .i64 a0_0, .int .i64 a0_1, .slice A0_2 l0_2.length c0_2, .slice (some ad246) l0_3.length c0_3, .slice A0_4 l0_4.length c0_4] 47 (0, 0)) BK240.out hb); have n1_ := Aq.mk (q10q (by repeat (with_reducible first | exact HB.out | apply q4q | apply q0q | apply q2q | refine q5q ?_ GE240.out)) hb); have n2_ := Aq.mk (hbox); have n3_ := Aq.mk ((by rw [hg]; exact (q6q (by repeat (with_reducible first | exact HB.out | apply q4q | apply q0q | apply q2q | refine q5q ?_ GE240.out))) : w.heap.size ≤ gb247)); have n4_ := Aq.mk ((by rw [hg]; exact (q6q (by repeat (with_reducible first | exact HB.out | apply q4q | apply q0q | apply q2q | refine q5q ?_ GE240.out))) : w.heap.size ≤ gb247)); have n5_ := Aq.mk ((by rw [hg]; exact Nat.ne_of_lt (q16q (g := gb240) (o := .cells #[.int .i64 a0_0, .int .i64 a0_1, .slice A0_2 l0_2.length c0_2, .slice (some ad246) l0_3.length c0_3, .slice A0_4 l0_4.length c0_4] 47 (0, 0)) BK240.out) : gb240 ≠ gb247)); have n6_ := Aq.mk ((by rw [hg]; exact Nat.ne_of_gt (q16q (g := gb240) (o := .cells #[.int .i64 a0_0, .int .i64 a0_1, .slice A0_2 l0_2.length c0_2, .slice (some ad246) l0_3.length c0_3, .slice A0_4 l0_4.length c0_4] 47 (0, 0)) BK240.out) : gb247 ≠ gb240)); clear BK240; clear HB; have BK240 := n0_; have HB := n1_; have BK247 := n2_; have GW247 := n3_; have GE247 := n4_; have NB240_247 := n5_; have NB247_240 := n6_; clear n0_ n1_ n2_ n3_ n4_ n5_ n6_; clear hb hbox hg; have hnb67 := NB247_240.out; have hnc67 := NB240_247.out; have hcz68_0 : w66.cell? ⟨gb247, 0, none⟩ = some (.int .i64 0) := (q3q BK247.out 0).trans rfl; have hcz68_1 : w66.cell? ⟨gb247, 1, none⟩ = some (.int .i64 0) := (q3q BK247.out 1).trans rfl; have hcz68_2 : w66.cell? ⟨gb247, 2, none⟩ = some (.string (⟨#[]⟩ : ByteArray)) := (q3q BK247.out 2).trans rfl; have hfz68_0 := q1q BK247.out 0; have hfz68_1 := q1q BK247.out 1; have hfz68_2 := q1q BK247.out 2))
             go_roundg k5
             case measure => have := HJ3.out; have := HJ9.out; have := HJ20.out; have := HK4.out; have := HK5.out; omega
             case rel => exact ⟨(wrap64 (x9_5 + 1)), (by first | rfl | (simp; done) | (simp [*]; done)), H', ⟨by have := HJ3.out; have := HJ9.out; have := HJ20.out; have := HK4.out; have := HK5.out; omega⟩, ⟨by (with_reducible repeat (first | refine q8q ?_ _ | refine q9q ?_ | refine q7q ?_ _)); refine q18q ?_ NB240_247.out _; (with_reducible repeat (first | refine q8q ?_ _ | refine q9q ?_ | refine q7q ?_ _)); refine q18q ?_ NB240_247.out _; (with_reducible repeat (first | refine q8q ?_ _ | refine q9q ?_ | refine q7q ?_ _)); refine q18q ?_ NB240_247.out _; (with_reducible repeat (first | refine q8q ?_ _ | refine q9q ?_ | refine q7q ?_ _)); exact BK240.out⟩, ⟨by repeat (with_reducible first | exact HB.out | apply q4q | apply q0q | apply q2q | refine q5q ?_ GE240.out | refine q5q ?_ GE247.out)⟩⟩
            rw [if_pos c43] at H
            have c43b0 : (((rd_T42 l0_3 x9_5).f0) == 3) = true := beq_iff_eq.mpr c43
            have c43b1 : (((rd_T42 l0_3 x9_5).f0) != 3) = false := bne_eq_false_iff_eq.mpr c43
            clear c43
            by_cases c44 : ((rd_T42 l0_3 x9_5).f2).toList = ([] : List UInt8)
            ·rw [if_pos c44] at H
             have c44b0 : (((rd_T42 l0_3 x9_5).f2).toList == ([] : List UInt8)) = true := beq_iff_eq.mpr c44
             have c44b1 : (((rd_T42 l0_3 x9_5).f2).toList != ([] : List UInt8)) = false := bne_eq_false_iff_eq.mpr c44
             clear c44
             have H' := Aq.mk H
             clear H
             have hcz45_0 : wr.cell? ⟨gb240, 0, none⟩ = some (.int .i64 a0_0) := (q3q BK240.out 0).trans rfl
             have hcz45_1 : wr.cell? ⟨gb240, 1, none⟩ = some (.int .i64 a0_1) := (q3q BK240.out 1).trans rfl
             have hcz45_2 : wr.cell? ⟨gb240, 2, none⟩ = some (.slice A0_2 l0_2.length c0_2) := (q3q BK240.out 2).trans rfl
             have hcz45_3 : wr.cell? ⟨gb240, 3, none⟩ = some (.slice A0_3 l0_3.length c0_3) := (q3q BK240.out 3).trans rfl
             have hcz45_4 : wr.cell? ⟨gb240, 4, none⟩ = some (.slice A0_4 l0_4.length c0_4) := (q3q BK240.out 4).trans rfl
             have hfz45_0 := q1q BK240.out 0
             have hfz45_1 := q1q BK240.out 1
             have hfz45_2 := q1q BK240.out 2
             have hfz45_3 := q1q BK240.out 3
             have hfz45_4 := q1q BK240.out 4
             have p246 : 0 ≤ (x9_5 : Int) := of_decide_eq_true (by first | (with_reducible assumption) | assumption)
             have q246 : x9_5 < (l0_3.length : Int) := of_decide_eq_true (by first | (with_reducible assumption) | assumption)
             obtain ⟨ad246, e246, hx246_0, hx246_1, hx246_2⟩ := at_T42 HR0_3.out x9_5 p246 q246
             cases e246
             replace hx246_0 := (HB.out.cell (World.block_lt_of_cell? w _ hx246_0)).trans hx246_0
             replace hx246_1 := (HB.out.cell (World.block_lt_of_cell? w _ hx246_1)).trans hx246_1
             replace hx246_2 := (HB.out.cell (World.block_lt_of_cell? w _ hx246_2)).trans hx246_2
             replace p246 := eq_true p246
             replace q246 := eq_true q246
             go_wp2_with (first | ((with_reducible refine q12q (N := 10) rfl ?_); (try (refine q20q (by rfl) ?_; dsimp only)); refine q11q ?hg (N := 10) ?hd (cs := #[.int .i64 0, .int .i64 0, .string (⟨#[]⟩ : ByteArray)]) (t := 42) ?hr ?_; (case hd => rfl); (case hg => rfl); (case hr => first | (go_simp; done) | (go_simp; rfl)); intro gb247 hg w46 hbox hb; have n0_ := Aq.mk (q13q (g := gb240) (o := .cells #[.int .i64 a0_0, .int .i64 a0_1, .slice A0_2 l0_2.length c0_2, .slice (some ad246) l0_3.length c0_3, .slice A0_4 l0_4.length c0_4] 47 (0, 0)) BK240.out hb); have n1_ := Aq.mk (q10q (by repeat (with_reducible first | exact HB.out | apply q4q | apply q0q | apply q2q | refine q5q ?_ GE240.out)) hb); have n2_ := Aq.mk (hbox); have n3_ := Aq.mk ((by rw [hg]; exact (q6q (by repeat (with_reducible first | exact HB.out | apply q4q | apply q0q | apply q2q | refine q5q ?_ GE240.out))) : w.heap.size ≤ gb247)); have n4_ := Aq.mk ((by rw [hg]; exact (q6q (by repeat (with_reducible first | exact HB.out | apply q4q | apply q0q | apply q2q | refine q5q ?_ GE240.out))) : w.heap.size ≤ gb247)); have n5_ := Aq.mk ((by rw [hg]; exact Nat.ne_of_lt (q16q (g := gb240) (o := .cells #[.int .i64 a0_0, .int .i64 a0_1, .slice A0_2 l0_2.length c0_2, .slice (some ad246) l0_3.length c0_3, .slice A0_4 l0_4.length c0_4] 47 (0, 0)) BK240.out) : gb240 ≠ gb247)); have n6_ := Aq.mk ((by rw [hg]; exact Nat.ne_of_gt (q16q (g := gb240) (o := .cells #[.int .i64 a0_0, .int .i64 a0_1, .slice A0_2 l0_2.length c0_2, .slice (some ad246) l0_3.length c0_3, .slice A0_4 l0_4.length c0_4] 47 (0, 0)) BK240.out) : gb247 ≠ gb240)); clear BK240; clear HB; have BK240 := n0_; have HB := n1_; have BK247 := n2_; have GW247 := n3_; have GE247 := n4_; have NB240_247 := n5_; have NB247_240 := n6_; clear n0_ n1_ n2_ n3_ n4_ n5_ n6_; clear hb hbox hg; have hnb47 := NB247_240.out; have hnc47 := NB240_247.out; have hcz48_0 : w46.cell? ⟨gb247, 0, none⟩ = some (.int .i64 0) := (q3q BK247.out 0).trans rfl; have hcz48_1 : w46.cell? ⟨gb247, 1, none⟩ = some (.int .i64 0) := (q3q BK247.out 1).trans rfl; have hcz48_2 : w46.cell? ⟨gb247, 2, none⟩ = some (.string (⟨#[]⟩ : ByteArray)) := (q3q BK247.out 2).trans rfl; have hfz48_0 := q1q BK247.out 0; have hfz48_1 := q1q BK247.out 1; have hfz48_2 := q1q BK247.out 2))
             go_roundg k5
             case measure => have := HJ3.out; have := HJ9.out; have := HJ20.out; have := HK4.out; have := HK5.out; omega
             case rel => exact ⟨(wrap64 (x9_5 + 1)), (by first | rfl | (simp; done) | (simp [*]; done)), H', ⟨by have := HJ3.out; have := HJ9.out; have := HJ20.out; have := HK4.out; have := HK5.out; omega⟩, ⟨by (with_reducible repeat (first | refine q8q ?_ _ | refine q9q ?_ | refine q7q ?_ _)); refine q18q ?_ NB240_247.out _; (with_reducible repeat (first | refine q8q ?_ _ | refine q9q ?_ | refine q7q ?_ _)); refine q18q ?_ NB240_247.out _; (with_reducible repeat (first | refine q8q ?_ _ | refine q9q ?_ | refine q7q ?_ _)); refine q18q ?_ NB240_247.out _; (with_reducible repeat (first | refine q8q ?_ _ | refine q9q ?_ | refine q7q ?_ _)); exact BK240.out⟩, ⟨by repeat (with_reducible first | exact HB.out | apply q4q | apply q0q | apply q2q | refine q5q ?_ GE240.out | refine q5q ?_ GE247.out)⟩⟩
            rw [if_neg c44] at H
            have c44b0 : (((rd_T42 l0_3 x9_5).f2).toList == ([] : List UInt8)) = false := beq_eq_false_iff_ne.mpr c44
            have c44b1 : (((rd_T42 l0_3 x9_5).f2).toList != ([] : List UInt8)) = true := bne_iff_ne.mpr c44
            by_cases c49 : ((rd_T42 l0_3 x9_5).f0) = 5
            case neg =>
             rw [if_neg c49] at H
             have c49b0 : (((rd_T42 l0_3 x9_5).f0) == 5) = false := beq_eq_false_iff_ne.mpr c49
             have c49b1 : (((rd_T42 l0_3 x9_5).f0) != 5) = true := bne_iff_ne.mpr c49
             obtain rfl := Option.some.inj H
             have hcz59_0 : wr.cell? ⟨gb240, 0, none⟩ = some (.int .i64 a0_0) := (q3q BK240.out 0).trans rfl
             have hcz59_1 : wr.cell? ⟨gb240, 1, none⟩ = some (.int .i64 a0_1) := (q3q BK240.out 1).trans rfl
             have hcz59_2 : wr.cell? ⟨gb240, 2, none⟩ = some (.slice A0_2 l0_2.length c0_2) := (q3q BK240.out 2).trans rfl
             have hcz59_3 : wr.cell? ⟨gb240, 3, none⟩ = some (.slice A0_3 l0_3.length c0_3) := (q3q BK240.out 3).trans rfl
             have hcz59_4 : wr.cell? ⟨gb240, 4, none⟩ = some (.slice A0_4 l0_4.length c0_4) := (q3q BK240.out 4).trans rfl
             have hfz59_0 := q1q BK240.out 0
             have hfz59_1 := q1q BK240.out 1
             have hfz59_2 := q1q BK240.out 2
             have hfz59_3 := q1q BK240.out 3
             have hfz59_4 := q1q BK240.out 4
             have p246 : 0 ≤ (x9_5 : Int) := of_decide_eq_true (by first | (with_reducible assumption) | assumption)
             have q246 : x9_5 < (l0_3.length : Int) := of_decide_eq_true (by first | (with_reducible assumption) | assumption)
             obtain ⟨ad246, e246, hx246_0, hx246_1, hx246_2⟩ := at_T42 HR0_3.out x9_5 p246 q246
             cases e246
             replace hx246_0 := (HB.out.cell (World.block_lt_of_cell? w _ hx246_0)).trans hx246_0
             replace hx246_1 := (HB.out.cell (World.block_lt_of_cell? w _ hx246_1)).trans hx246_1
             replace hx246_2 := (HB.out.cell (World.block_lt_of_cell? w _ hx246_2)).trans hx246_2
             replace p246 := eq_true p246
             replace q246 := eq_true q246
             go_wp2_with (first | ((with_reducible refine q12q (N := 10) rfl ?_); (try (refine q20q (by rfl) ?_; dsimp only)); refine q11q ?hg (N := 10) ?hd (cs := #[.int .i64 0, .int .i64 0, .string (⟨#[]⟩ : ByteArray)]) (t := 42) ?hr ?_; (case hd => rfl); (case hg => rfl); (case hr => first | (go_simp; done) | (go_simp; rfl)); intro gb247 hg w60 hbox hb; have n0_ := Aq.mk (q13q (g := gb240) (o := .cells #[.int .i64 a0_0, .int .i64 a0_1, .slice A0_2 l0_2.length c0_2, .slice (some ad246) l0_3.length c0_3, .slice A0_4 l0_4.length c0_4] 47 (0, 0)) BK240.out hb); have n1_ := Aq.mk (q10q (by repeat (with_reducible first | exact HB.out | apply q4q | apply q0q | apply q2q | refine q5q ?_ GE240.out)) hb); have n2_ := Aq.mk (hbox); have n3_ := Aq.mk ((by rw [hg]; exact (q6q (by repeat (with_reducible first | exact HB.out | apply q4q | apply q0q | apply q2q | refine q5q ?_ GE240.out))) : w.heap.size ≤ gb247)); have n4_ := Aq.mk ((by rw [hg]; exact (q6q (by repeat (with_reducible first | exact HB.out | apply q4q | apply q0q | apply q2q | refine q5q ?_ GE240.out))) : w.heap.size ≤ gb247)); have n5_ := Aq.mk ((by rw [hg]; exact Nat.ne_of_lt (q16q (g := gb240) (o := .cells #[.int .i64 a0_0, .int .i64 a0_1, .slice A0_2 l0_2.length c0_2, .slice (some ad246) l0_3.length c0_3, .slice A0_4 l0_4.length c0_4] 47 (0, 0)) BK240.out) : gb240 ≠ gb247)); have n6_ := Aq.mk ((by rw [hg]; exact Nat.ne_of_gt (q16q (g := gb240) (o := .cells #[.int .i64 a0_0, .int .i64 a0_1, .slice A0_2 l0_2.length c0_2, .slice (some ad246) l0_3.length c0_3, .slice A0_4 l0_4.length c0_4] 47 (0, 0)) BK240.out) : gb247 ≠ gb240)); clear BK240; clear HB; have BK240 := n0_; have HB := n1_; have BK247 := n2_; have GW247 := n3_; have GE247 := n4_; have NB240_247 := n5_; have NB247_240 := n6_; clear n0_ n1_ n2_ n3_ n4_ n5_ n6_; clear hb hbox hg; have hnb61 := NB247_240.out; have hnc61 := NB240_247.out; have hcz62_0 : w60.cell? ⟨gb247, 0, none⟩ = some (.int .i64 0) := (q3q BK247.out 0).trans rfl; have hcz62_1 : w60.cell? ⟨gb247, 1, none⟩ = some (.int .i64 0) := (q3q BK247.out 1).trans rfl; have hcz62_2 : w60.cell? ⟨gb247, 2, none⟩ = some (.string (⟨#[]⟩ : ByteArray)) := (q3q BK247.out 2).trans rfl; have hfz62_0 := q1q BK247.out 0; have hfz62_1 := q1q BK247.out 1; have hfz62_2 := q1q BK247.out 2))
             go_ret
             exact ⟨by first | rfl | (simp [*] <;> rfl), by repeat (with_reducible first | exact HB.out | apply q4q | apply q0q | apply q2q | refine q5q ?_ GE240.out | refine q5q ?_ GE247.out)⟩
            rw [if_pos c49] at H
            have c49b0 : (((rd_T42 l0_3 x9_5).f0) == 5) = true := beq_iff_eq.mpr c49
            have c49b1 : (((rd_T42 l0_3 x9_5).f0) != 5) = false := bne_eq_false_iff_eq.mpr c49
            clear c49
            by_cases c50 : (((rd_T42 l0_3 x9_5).f1) = 0)
            case neg =>
             rw [if_neg c50] at H
             have c50b0 : (((rd_T42 l0_3 x9_5).f1) == 0) = false := beq_eq_false_iff_ne.mpr c50
             have c50b1 : (((rd_T42 l0_3 x9_5).f1) != 0) = true := bne_iff_ne.mpr c50
             obtain rfl := Option.some.inj H
             have hcz55_0 : wr.cell? ⟨gb240, 0, none⟩ = some (.int .i64 a0_0) := (q3q BK240.out 0).trans rfl
             have hcz55_1 : wr.cell? ⟨gb240, 1, none⟩ = some (.int .i64 a0_1) := (q3q BK240.out 1).trans rfl
             have hcz55_2 : wr.cell? ⟨gb240, 2, none⟩ = some (.slice A0_2 l0_2.length c0_2) := (q3q BK240.out 2).trans rfl
             have hcz55_3 : wr.cell? ⟨gb240, 3, none⟩ = some (.slice A0_3 l0_3.length c0_3) := (q3q BK240.out 3).trans rfl
             have hcz55_4 : wr.cell? ⟨gb240, 4, none⟩ = some (.slice A0_4 l0_4.length c0_4) := (q3q BK240.out 4).trans rfl
             have hfz55_0 := q1q BK240.out 0
             have hfz55_1 := q1q BK240.out 1
             have hfz55_2 := q1q BK240.out 2
             have hfz55_3 := q1q BK240.out 3
             have hfz55_4 := q1q BK240.out 4
             have p246 : 0 ≤ (x9_5 : Int) := of_decide_eq_true (by first | (with_reducible assumption) | assumption)
             have q246 : x9_5 < (l0_3.length : Int) := of_decide_eq_true (by first | (with_reducible assumption) | assumption)
             obtain ⟨ad246, e246, hx246_0, hx246_1, hx246_2⟩ := at_T42 HR0_3.out x9_5 p246 q246
             cases e246
             replace hx246_0 := (HB.out.cell (World.block_lt_of_cell? w _ hx246_0)).trans hx246_0
             replace hx246_1 := (HB.out.cell (World.block_lt_of_cell? w _ hx246_1)).trans hx246_1
             replace hx246_2 := (HB.out.cell (World.block_lt_of_cell? w _ hx246_2)).trans hx246_2
             replace p246 := eq_true p246
             replace q246 := eq_true q246
             go_wp2_with (first | ((with_reducible refine q12q (N := 10) rfl ?_); (try (refine q20q (by rfl) ?_; dsimp only)); refine q11q ?hg (N := 10) ?hd (cs := #[.int .i64 0, .int .i64 0, .string (⟨#[]⟩ : ByteArray)]) (t := 42) ?hr ?_; (case hd => rfl); (case hg => rfl); (case hr => first | (go_simp; done) | (go_simp; rfl)); intro gb247 hg w56 hbox hb; have n0_ := Aq.mk (q13q (g := gb240) (o := .cells #[.int .i64 a0_0, .int .i64 a0_1, .slice A0_2 l0_2.length c0_2, .slice (some ad246) l0_3.length c0_3, .slice A0_4 l0_4.length c0_4] 47 (0, 0)) BK240.out hb); have n1_ := Aq.mk (q10q (by repeat (with_reducible first | exact HB.out | apply q4q | apply q0q | apply q2q | refine q5q ?_ GE240.out)) hb); have n2_ := Aq.mk (hbox); have n3_ := Aq.mk ((by rw [hg]; exact (q6q (by repeat (with_reducible first | exact HB.out | apply q4q | apply q0q | apply q2q | refine q5q ?_ GE240.out))) : w.heap.size ≤ gb247)); have n4_ := Aq.mk ((by rw [hg]; exact (q6q (by repeat (with_reducible first | exact HB.out | apply q4q | apply q0q | apply q2q | refine q5q ?_ GE240.out))) : w.heap.size ≤ gb247)); have n5_ := Aq.mk ((by rw [hg]; exact Nat.ne_of_lt (q16q (g := gb240) (o := .cells #[.int .i64 a0_0, .int .i64 a0_1, .slice A0_2 l0_2.length c0_2, .slice (some ad246) l0_3.length c0_3, .slice A0_4 l0_4.length c0_4] 47 (0, 0)) BK240.out) : gb240 ≠ gb247)); have n6_ := Aq.mk ((by rw [hg]; exact Nat.ne_of_gt (q16q (g := gb240) (o := .cells #[.int .i64 a0_0, .int .i64 a0_1, .slice A0_2 l0_2.length c0_2, .slice (some ad246) l0_3.length c0_3, .slice A0_4 l0_4.length c0_4] 47 (0, 0)) BK240.out) : gb247 ≠ gb240)); clear BK240; clear HB; have BK240 := n0_; have HB := n1_; have BK247 := n2_; have GW247 := n3_; have GE247 := n4_; have NB240_247 := n5_; have NB247_240 := n6_; clear n0_ n1_ n2_ n3_ n4_ n5_ n6_; clear hb hbox hg; have hnb57 := NB247_240.out; have hnc57 := NB240_247.out; have hcz58_0 : w56.cell? ⟨gb247, 0, none⟩ = some (.int .i64 0) := (q3q BK247.out 0).trans rfl; have hcz58_1 : w56.cell? ⟨gb247, 1, none⟩ = some (.int .i64 0) := (q3q BK247.out 1).trans rfl; have hcz58_2 : w56.cell? ⟨gb247, 2, none⟩ = some (.string (⟨#[]⟩ : ByteArray)) := (q3q BK247.out 2).trans rfl; have hfz58_0 := q1q BK247.out 0; have hfz58_1 := q1q BK247.out 1; have hfz58_2 := q1q BK247.out 2))
             go_ret
             exact ⟨by first | rfl | (simp [*] <;> rfl), by repeat (with_reducible first | exact HB.out | apply q4q | apply q0q | apply q2q | refine q5q ?_ GE240.out | refine q5q ?_ GE247.out)⟩
            rw [if_pos c50] at H
            have c50b0 : (((rd_T42 l0_3 x9_5).f1) == 0) = true := beq_iff_eq.mpr c50
            have c50b1 : (((rd_T42 l0_3 x9_5).f1) != 0) = false := bne_eq_false_iff_eq.mpr c50
            clear c50
            have H' := Aq.mk H
            clear H
            have hcz51_0 : wr.cell? ⟨gb240, 0, none⟩ = some (.int .i64 a0_0) := (q3q BK240.out 0).trans rfl
            have hcz51_1 : wr.cell? ⟨gb240, 1, none⟩ = some (.int .i64 a0_1) := (q3q BK240.out 1).trans rfl
            have hcz51_2 : wr.cell? ⟨gb240, 2, none⟩ = some (.slice A0_2 l0_2.length c0_2) := (q3q BK240.out 2).trans rfl
            have hcz51_3 : wr.cell? ⟨gb240, 3, none⟩ = some (.slice A0_3 l0_3.length c0_3) := (q3q BK240.out 3).trans rfl
            have hcz51_4 : wr.cell? ⟨gb240, 4, none⟩ = some (.slice A0_4 l0_4.length c0_4) := (q3q BK240.out 4).trans rfl
            have hfz51_0 := q1q BK240.out 0
            have hfz51_1 := q1q BK240.out 1
            have hfz51_2 := q1q BK240.out 2
            have hfz51_3 := q1q BK240.out 3
            have hfz51_4 := q1q BK240.out 4
            have p246 : 0 ≤ (x9_5 : Int) := of_decide_eq_true (by first | (with_reducible assumption) | assumption)
            have q246 : x9_5 < (l0_3.length : Int) := of_decide_eq_true (by first | (with_reducible assumption) | assumption)
            obtain ⟨ad246, e246, hx246_0, hx246_1, hx246_2⟩ := at_T42 HR0_3.out x9_5 p246 q246
            cases e246
            replace hx246_0 := (HB.out.cell (World.block_lt_of_cell? w _ hx246_0)).trans hx246_0
            replace hx246_1 := (HB.out.cell (World.block_lt_of_cell? w _ hx246_1)).trans hx246_1
            replace hx246_2 := (HB.out.cell (World.block_lt_of_cell? w _ hx246_2)).trans hx246_2
            replace p246 := eq_true p246
            replace q246 := eq_true q246
            go_wp2_with (first | ((with_reducible refine q12q (N := 10) rfl ?_); (try (refine q20q (by rfl) ?_; dsimp only)); refine q11q ?hg (N := 10) ?hd (cs := #[.int .i64 0, .int .i64 0, .string (⟨#[]⟩ : ByteArray)]) (t := 42) ?hr ?_; (case hd => rfl); (case hg => rfl); (case hr => first | (go_simp; done) | (go_simp; rfl)); intro gb247 hg w52 hbox hb; have n0_ := Aq.mk (q13q (g := gb240) (o := .cells #[.int .i64 a0_0, .int .i64 a0_1, .slice A0_2 l0_2.length c0_2, .slice (some ad246) l0_3.length c0_3, .slice A0_4 l0_4.length c0_4] 47 (0, 0)) BK240.out hb); have n1_ := Aq.mk (q10q (by repeat (with_reducible first | exact HB.out | apply q4q | apply q0q | apply q2q | refine q5q ?_ GE240.out)) hb); have n2_ := Aq.mk (hbox); have n3_ := Aq.mk ((by rw [hg]; exact (q6q (by repeat (with_reducible first | exact HB.out | apply q4q | apply q0q | apply q2q | refine q5q ?_ GE240.out))) : w.heap.size ≤ gb247)); have n4_ := Aq.mk ((by rw [hg]; exact (q6q (by repeat (with_reducible first | exact HB.out | apply q4q | apply q0q | apply q2q | refine q5q ?_ GE240.out))) : w.heap.size ≤ gb247)); have n5_ := Aq.mk ((by rw [hg]; exact Nat.ne_of_lt (q16q (g := gb240) (o := .cells #[.int .i64 a0_0, .int .i64 a0_1, .slice A0_2 l0_2.length c0_2, .slice (some ad246) l0_3.length c0_3, .slice A0_4 l0_4.length c0_4] 47 (0, 0)) BK240.out) : gb240 ≠ gb247)); have n6_ := Aq.mk ((by rw [hg]; exact Nat.ne_of_gt (q16q (g := gb240) (o := .cells #[.int .i64 a0_0, .int .i64 a0_1, .slice A0_2 l0_2.length c0_2, .slice (some ad246) l0_3.length c0_3, .slice A0_4 l0_4.length c0_4] 47 (0, 0)) BK240.out) : gb247 ≠ gb240)); clear BK240; clear HB; have BK240 := n0_; have HB := n1_; have BK247 := n2_; have GW247 := n3_; have GE247 := n4_; have NB240_247 := n5_; have NB247_240 := n6_; clear n0_ n1_ n2_ n3_ n4_ n5_ n6_; clear hb hbox hg; have hnb53 := NB247_240.out; have hnc53 := NB240_247.out; have hcz54_0 : w52.cell? ⟨gb247, 0, none⟩ = some (.int .i64 0) := (q3q BK247.out 0).trans rfl; have hcz54_1 : w52.cell? ⟨gb247, 1, none⟩ = some (.int .i64 0) := (q3q BK247.out 1).trans rfl; have hcz54_2 : w52.cell? ⟨gb247, 2, none⟩ = some (.string (⟨#[]⟩ : ByteArray)) := (q3q BK247.out 2).trans rfl; have hfz54_0 := q1q BK247.out 0; have hfz54_1 := q1q BK247.out 1; have hfz54_2 := q1q BK247.out 2))
            go_roundg k5
            case measure => have := HJ3.out; have := HJ9.out; have := HJ20.out; have := HK4.out; have := HK5.out; omega
            case rel => exact ⟨(wrap64 (x9_5 + 1)), (by first | rfl | (simp; done) | (simp [*]; done)), H', ⟨by have := HJ3.out; have := HJ9.out; have := HJ20.out; have := HK4.out; have := HK5.out; omega⟩, ⟨by (with_reducible repeat (first | refine q8q ?_ _ | refine q9q ?_ | refine q7q ?_ _)); refine q18q ?_ NB240_247.out _; (with_reducible repeat (first | refine q8q ?_ _ | refine q9q ?_ | refine q7q ?_ _)); refine q18q ?_ NB240_247.out _; (with_reducible repeat (first | refine q8q ?_ _ | refine q9q ?_ | refine q7q ?_ _)); refine q18q ?_ NB240_247.out _; (with_reducible repeat (first | refine q8q ?_ _ | refine q9q ?_ | refine q7q ?_ _)); exact BK240.out⟩, ⟨by repeat (with_reducible first | exact HB.out | apply q4q | apply q0q | apply q2q | refine q5q ?_ GE240.out | refine q5q ?_ GE247.out)⟩⟩
           rw [if_neg c41] at H
           have c41b0 : decide (x9_5 < (l0_3.length : Int)) = false := decide_eq_false c41
           clear c41
           have H' := Aq.mk H
           clear H
           have hcz77_0 : wr.cell? ⟨gb240, 0, none⟩ = some (.int .i64 a0_0) := (q3q BK240.out 0).trans rfl
           have hcz77_1 : wr.cell? ⟨gb240, 1, none⟩ = some (.int .i64 a0_1) := (q3q BK240.out 1).trans rfl
           have hcz77_2 : wr.cell? ⟨gb240, 2, none⟩ = some (.slice A0_2 l0_2.length c0_2) := (q3q BK240.out 2).trans rfl
           have hcz77_3 : wr.cell? ⟨gb240, 3, none⟩ = some (.slice A0_3 l0_3.length c0_3) := (q3q BK240.out 3).trans rfl
           have hcz77_4 : wr.cell? ⟨gb240, 4, none⟩ = some (.slice A0_4 l0_4.length c0_4) := (q3q BK240.out 4).trans rfl
           have hfz77_0 := q1q BK240.out 0
           have hfz77_1 := q1q BK240.out 1
           have hfz77_2 := q1q BK240.out 2
           have hfz77_3 := q1q BK240.out 3
           have hfz77_4 := q1q BK240.out 4
           go_wp2
           go_loopg [11] k5 (fun kq v11 w' => ∃ (x11_6 : Int), v11 = .int .i64 x11_6 ∧ Aq (fQ1.l2 kq a2 x11_6 a0_0 a0_1 l0_2 l0_3 l0_4 = some r) ∧ Aq (kq ≤ k5) ∧ Aq (w'.heap[gb240]? = some (.cells #[.int .i64 a0_0, .int .i64 a0_1, (.slice A0_2 l0_2.length c0_2), (.slice A0_3 l0_3.length c0_3), (.slice A0_4 l0_4.length c0_4)] 47 (0, 0))) ∧ Aq (Below w.heap.size w w'))
           case atStart => exact ⟨(0), (by first | rfl | (simp; done) | (simp [*]; done)), H', ⟨Nat.le_refl _⟩, ⟨BK240.out⟩, ⟨by repeat (with_reducible first | exact HB.out | apply q4q | apply q0q | apply q2q | refine q5q ?_ GE240.out)⟩⟩
           case round =>
            clear H'
            try clear c41b0
            try clear hcz77_0
            try clear hcz77_1
            try clear hcz77_2
            try clear hcz77_3
            try clear hcz77_4
            try clear hfz77_0
            try clear hfz77_1
            try clear hfz77_2
            try clear hfz77_3
            try clear hfz77_4
            obtain ⟨x11_6, rfl, HA, HK6, BK240, HB⟩ := hrel
            cases gk with
            | zero => exact absurd HA.out (by simp [fQ1.l2])
            | succ k6 =>
             have H := HA.out
             clear HA
             simp only [fQ1.l2] at H
             by_cases c78 : x11_6 < (l0_3.length : Int)
             ·rw [if_pos c78] at H
              have c78b0 : decide (x11_6 < (l0_3.length : Int)) = true := decide_eq_true c78
              clear c78
              by_cases c79 : 0 ≤ x11_6
              case neg =>
               rw [if_neg c79] at H
               exact absurd H (by simp)
              rw [if_pos c79] at H
              have c79b0 : decide (0 ≤ x11_6) = true := decide_eq_true c79
              clear c79
              by_cases c80 : (((rd_T42 l0_3 x11_6).f2).size : Int) > 4096
              ·rw [if_pos c80] at H
               have c80b0 : decide (4096 < (((rd_T42 l0_3 x11_6).f2).size : Int)) = true := decide_eq_true c80
               have c80b1 : decide (4096 < ((rd_T42 l0_3 x11_6).f2).size) = true := decide_eq_true (by omega)
               clear c80
               obtain rfl := Option.some.inj H
               have hcz81_0 : wr.cell? ⟨gb240, 0, none⟩ = some (.int .i64 a0_0) := (q3q BK240.out 0).trans rfl
               have hcz81_1 : wr.cell? ⟨gb240, 1, none⟩ = some (.int .i64 a0_1) := (q3q BK240.out 1).trans rfl
               have hcz81_2 : wr.cell? ⟨gb240, 2, none⟩ = some (.slice A0_2 l0_2.length c0_2) := (q3q BK240.out 2).trans rfl
               have hcz81_3 : wr.cell? ⟨gb240, 3, none⟩ = some (.slice A0_3 l0_3.length c0_3) := (q3q BK240.out 3).trans rfl
               have hcz81_4 : wr.cell? ⟨gb240, 4, none⟩ = some (.slice A0_4 l0_4.length c0_4) := (q3q BK240.out 4).trans rfl
               have hfz81_0 := q1q BK240.out 0
               have hfz81_1 := q1q BK240.out 1
               have hfz81_2 := q1q BK240.out 2
               have hfz81_3 := q1q BK240.out 3
               have hfz81_4 := q1q BK240.out 4
               have p248 : 0 ≤ (x11_6 : Int) := of_decide_eq_true (by first | (with_reducible assumption) | assumption)
               have q248 : x11_6 < (l0_3.length : Int) := of_decide_eq_true (by first | (with_reducible assumption) | assumption)
               obtain ⟨ad248, e248, hx248_0, hx248_1, hx248_2⟩ := at_T42 HR0_3.out x11_6 p248 q248
               cases e248
               replace hx248_0 := (HB.out.cell (World.block_lt_of_cell? w _ hx248_0)).trans hx248_0
               replace hx248_1 := (HB.out.cell (World.block_lt_of_cell? w _ hx248_1)).trans hx248_1
               replace hx248_2 := (HB.out.cell (World.block_lt_of_cell? w _ hx248_2)).trans hx248_2
               replace p248 := eq_true p248
               replace q248 := eq_true q248
               go_wp2
               go_ret
               exact ⟨by first | rfl | (simp [*] <;> rfl), by repeat (with_reducible first | exact HB.out | apply q4q | apply q0q | apply q2q | refine q5q ?_ GE240.out)⟩
              rw [if_neg c80] at H
              have c80b0 : decide (4096 < (((rd_T42 l0_3 x11_6).f2).size : Int)) = false := decide_eq_false c80
              have c80b1 : decide (4096 < ((rd_T42 l0_3 x11_6).f2).size) = false := decide_eq_false (by omega)
              clear c80
              have H' := Aq.mk H
              clear H
              have hcz82_0 : wr.cell? ⟨gb240, 0, none⟩ = some (.int .i64 a0_0) := (q3q BK240.out 0).trans rfl
              have hcz82_1 : wr.cell? ⟨gb240, 1, none⟩ = some (.int .i64 a0_1) := (q3q BK240.out 1).trans rfl
              have hcz82_2 : wr.cell? ⟨gb240, 2, none⟩ = some (.slice A0_2 l0_2.length c0_2) := (q3q BK240.out 2).trans rfl
              have hcz82_3 : wr.cell? ⟨gb240, 3, none⟩ = some (.slice A0_3 l0_3.length c0_3) := (q3q BK240.out 3).trans rfl
              have hcz82_4 : wr.cell? ⟨gb240, 4, none⟩ = some (.slice A0_4 l0_4.length c0_4) := (q3q BK240.out 4).trans rfl
              have hfz82_0 := q1q BK240.out 0
              have hfz82_1 := q1q BK240.out 1
              have hfz82_2 := q1q BK240.out 2
              have hfz82_3 := q1q BK240.out 3
              have hfz82_4 := q1q BK240.out 4
              have p248 : 0 ≤ (x11_6 : Int) := of_decide_eq_true (by first | (with_reducible assumption) | assumption)
              have q248 : x11_6 < (l0_3.length : Int) := of_decide_eq_true (by first | (with_reducible assumption) | assumption)
              obtain ⟨ad248, e248, hx248_0, hx248_1, hx248_2⟩ := at_T42 HR0_3.out x11_6 p248 q248
              cases e248
              replace hx248_0 := (HB.out.cell (World.block_lt_of_cell? w _ hx248_0)).trans hx248_0
              replace hx248_1 := (HB.out.cell (World.block_lt_of_cell? w _ hx248_1)).trans hx248_1
              replace hx248_2 := (HB.out.cell (World.block_lt_of_cell? w _ hx248_2)).trans hx248_2
              replace p248 := eq_true p248
              replace q248 := eq_true q248
              go_wp2
              go_roundg k6
              case measure => have := HJ3.out; have := HJ9.out; have := HJ20.out; have := HK4.out; have := HK5.out; have := HK6.out; omega
              case rel => exact ⟨(wrap64 (x11_6 + 1)), (by first | rfl | (simp; done) | (simp [*]; done)), H', ⟨by have := HJ3.out; have := HJ9.out; have := HJ20.out; have := HK4.out; have := HK5.out; have := HK6.out; omega⟩, ⟨BK240.out⟩, ⟨by repeat (with_reducible first | exact HB.out | apply q4q | apply q0q | apply q2q | refine q5q ?_ GE240.out)⟩⟩
             rw [if_neg c78] at H
             have c78b0 : decide (x11_6 < (l0_3.length : Int)) = false := decide_eq_false c78
             clear c78
             by_cases c83 : (l0_4.length : Int) = 0
             ·rw [if_pos c83] at H
              have c83b0 : ((l0_4.length : Int) == 0) = true := beq_iff_eq.mpr c83
              have c83b1 : ((l0_4.length : Int) != 0) = false := bne_eq_false_iff_eq.mpr c83
              clear c83
              obtain rfl := Option.some.inj H
              have hcz84_0 : wr.cell? ⟨gb240, 0, none⟩ = some (.int .i64 a0_0) := (q3q BK240.out 0).trans rfl
              have hcz84_1 : wr.cell? ⟨gb240, 1, none⟩ = some (.int .i64 a0_1) := (q3q BK240.out 1).trans rfl
              have hcz84_2 : wr.cell? ⟨gb240, 2, none⟩ = some (.slice A0_2 l0_2.length c0_2) := (q3q BK240.out 2).trans rfl
              have hcz84_3 : wr.cell? ⟨gb240, 3, none⟩ = some (.slice A0_3 l0_3.length c0_3) := (q3q BK240.out 3).trans rfl
              have hcz84_4 : wr.cell? ⟨gb240, 4, none⟩ = some (.slice A0_4 l0_4.length c0_4) := (q3q BK240.out 4).trans rfl
              have hfz84_0 := q1q BK240.out 0
              have hfz84_1 := q1q BK240.out 1
              have hfz84_2 := q1q BK240.out 2
              have hfz84_3 := q1q BK240.out 3
              have hfz84_4 := q1q BK240.out 4
              go_wp2
              go_ret
              exact ⟨by first | rfl | (simp [*] <;> rfl), by repeat (with_reducible first | exact HB.out | apply q4q | apply q0q | apply q2q | refine q5q ?_ GE240.out)⟩
             rw [if_neg c83] at H
             have c83b0 : ((l0_4.length : Int) == 0) = false := beq_eq_false_iff_ne.mpr c83
             have c83b1 : ((l0_4.length : Int) != 0) = true := bne_iff_ne.mpr c83
             have c83b2 : ¬ (l0_4 = []) := fun h_ => c83 (by rw [h_]; rfl)
             have H' := Aq.mk H
             clear H
             have hcz85_0 : wr.cell? ⟨gb240, 0, none⟩ = some (.int .i64 a0_0) := (q3q BK240.out 0).trans rfl
             have hcz85_1 : wr.cell? ⟨gb240, 1, none⟩ = some (.int .i64 a0_1) := (q3q BK240.out 1).trans rfl
             have hcz85_2 : wr.cell? ⟨gb240, 2, none⟩ = some (.slice A0_2 l0_2.length c0_2) := (q3q BK240.out 2).trans rfl
             have hcz85_3 : wr.cell? ⟨gb240, 3, none⟩ = some (.slice A0_3 l0_3.length c0_3) := (q3q BK240.out 3).trans rfl
             have hcz85_4 : wr.cell? ⟨gb240, 4, none⟩ = some (.slice A0_4 l0_4.length c0_4) := (q3q BK240.out 4).trans rfl
             have hfz85_0 := q1q BK240.out 0
             have hfz85_1 := q1q BK240.out 1
             have hfz85_2 := q1q BK240.out 2
             have hfz85_3 := q1q BK240.out 3
             have hfz85_4 := q1q BK240.out 4
             go_wp2
             go_loopg [12] k6 (fun kq v12 w' => ∃ (x12_7 : Int), v12 = .int .i64 x12_7 ∧ Aq (fQ1.l3 kq a2 x12_7 a0_0 a0_1 l0_2 l0_3 l0_4 = some r) ∧ Aq (kq ≤ k6) ∧ Aq (w'.heap[gb240]? = some (.cells #[.int .i64 a0_0, .int .i64 a0_1, (.slice A0_2 l0_2.length c0_2), (.slice A0_3 l0_3.length c0_3), (.slice A0_4 l0_4.length c0_4)] 47 (0, 0))) ∧ Aq (Below w.heap.size w w'))
             case atStart => exact ⟨(0), (by first | rfl | (simp; done) | (simp [*]; done)), H', ⟨Nat.le_refl _⟩, ⟨BK240.out⟩, ⟨by repeat (with_reducible first | exact HB.out | apply q4q | apply q0q | apply q2q | refine q5q ?_ GE240.out)⟩⟩
             case round =>
              clear H'
              try clear c78b0
              try clear c83
              try clear c83b0
              try clear c83b1
              try clear c83b2
              try clear hcz85_0
              try clear hcz85_1
              try clear hcz85_2
              try clear hcz85_3
              try clear hcz85_4
              try clear hfz85_0
              try clear hfz85_1
              try clear hfz85_2
              try clear hfz85_3
              try clear hfz85_4
              obtain ⟨x12_7, rfl, HA, HK7, BK240, HB⟩ := hrel
              cases gk with
              | zero => exact absurd HA.out (by simp [fQ1.l3])
              | succ k7 =>
               have H := HA.out
               clear HA
               simp only [fQ1.l3] at H
               by_cases c86 : x12_7 < (l0_4.length : Int)
               case neg =>
                rw [if_neg c86] at H
                have c86b0 : decide (x12_7 < (l0_4.length : Int)) = false := decide_eq_false c86
                clear c86
                obtain rfl := Option.some.inj H
                have hcz96_0 : wr.cell? ⟨gb240, 0, none⟩ = some (.int .i64 a0_0) := (q3q BK240.out 0).trans rfl
                have hcz96_1 : wr.cell? ⟨gb240, 1, none⟩ = some (.int .i64 a0_1) := (q3q BK240.out 1).trans rfl
                have hcz96_2 : wr.cell? ⟨gb240, 2, none⟩ = some (.slice A0_2 l0_2.length c0_2) := (q3q BK240.out 2).trans rfl
                have hcz96_3 : wr.cell? ⟨gb240, 3, none⟩ = some (.slice A0_3 l0_3.length c0_3) := (q3q BK240.out 3).trans rfl
                have hcz96_4 : wr.cell? ⟨gb240, 4, none⟩ = some (.slice A0_4 l0_4.length c0_4) := (q3q BK240.out 4).trans rfl
                have hfz96_0 := q1q BK240.out 0
                have hfz96_1 := q1q BK240.out 1
                have hfz96_2 := q1q BK240.out 2
                have hfz96_3 := q1q BK240.out 3
                have hfz96_4 := q1q BK240.out 4
                go_wp2
                go_ret
                exact ⟨by first | rfl | (simp [*] <;> rfl), by repeat (with_reducible first | exact HB.out | apply q4q | apply q0q | apply q2q | refine q5q ?_ GE240.out)⟩
               rw [if_pos c86] at H
               have c86b0 : decide (x12_7 < (l0_4.length : Int)) = true := decide_eq_true c86
               clear c86
               by_cases c87 : 0 ≤ x12_7
               case neg =>
                rw [if_neg c87] at H
                exact absurd H (by simp)
               rw [if_pos c87] at H
               have c87b0 : decide (0 ≤ x12_7) = true := decide_eq_true c87
               clear c87
               replace H := Option.bind_eq_some_iff.mp H
               obtain ⟨t250, A880, H⟩ := H
               replace H : (if t250 = true then (fQ1.l3 k7 a2 (wrap64 (x12_7 + 1)) a0_0 a0_1 l0_2 l0_3 l0_4) else (some 2)) = some r := H
               have A88 := Aq.mk A880
               clear A880
               by_cases c89 : t250 = true
               case neg =>
                replace c89 := Bool.eq_false_iff.mpr c89
                subst c89
                have H1 : (some 2) = some r := by rw [if_neg (show ¬ (false = true) by decide)] at H; exact H
                clear H
                have H := H1
                clear H1
                obtain rfl := Option.some.inj H
                have hcz93_0 : wr.cell? ⟨gb240, 0, none⟩ = some (.int .i64 a0_0) := (q3q BK240.out 0).trans rfl
                have hcz93_1 : wr.cell? ⟨gb240, 1, none⟩ = some (.int .i64 a0_1) := (q3q BK240.out 1).trans rfl
                have hcz93_2 : wr.cell? ⟨gb240, 2, none⟩ = some (.slice A0_2 l0_2.length c0_2) := (q3q BK240.out 2).trans rfl
                have hcz93_3 : wr.cell? ⟨gb240, 3, none⟩ = some (.slice A0_3 l0_3.length c0_3) := (q3q BK240.out 3).trans rfl
                have hcz93_4 : wr.cell? ⟨gb240, 4, none⟩ = some (.slice A0_4 l0_4.length c0_4) := (q3q BK240.out 4).trans rfl
                have hfz93_0 := q1q BK240.out 0
                have hfz93_1 := q1q BK240.out 1
                have hfz93_2 := q1q BK240.out 2
                have hfz93_3 := q1q BK240.out 3
                have hfz93_4 := q1q BK240.out 4
                try go_wp2
                have n0_ := Aq.mk (q9q BK240.out)
                have n1_ := Aq.mk (q2q HB.out)
                clear BK240
                clear HB
                have BK240 := n0_
                have HB := n1_
                clear n0_ n1_
                have p249 : 0 ≤ (x12_7 : Int) := of_decide_eq_true (by first | (with_reducible assumption) | assumption)
                have q249 : x12_7 < (l0_4.length : Int) := of_decide_eq_true (by first | (with_reducible assumption) | assumption)
                obtain ⟨ad249, e249, hx249_0, hx249_1, hx249_2⟩ := at_T52 HR0_4.out x12_7 p249 q249
                have hw249_2 := hx249_2
                have hw249_1 := hx249_1
                have hw249_0 := hx249_0
                cases e249
                replace hx249_0 := (HB.out.cell (World.block_lt_of_cell? w _ hx249_0)).trans hx249_0
                replace hx249_1 := (HB.out.cell (World.block_lt_of_cell? w _ hx249_1)).trans hx249_1
                replace hx249_2 := (HB.out.cell (World.block_lt_of_cell? w _ hx249_2)).trans hx249_2
                replace p249 := eq_true p249
                replace q249 := eq_true q249
                refine start_ (n := 9) (S := fun w' => w'.cell? ⟨gb240, 0, none⟩ = some (.int .i64 a0_0) ∧ w'.cell? ⟨gb240, 1, none⟩ = some (.int .i64 a0_1) ∧ w'.cell? ⟨gb240, 2, none⟩ = some (.slice A0_2 l0_2.length c0_2) ∧ w'.cell? ⟨gb240, 3, none⟩ = some (.slice A0_3 l0_3.length c0_3) ∧ w'.cell? ⟨gb240, 4, none⟩ = some (.slice (some ad249) l0_4.length c0_4) ∧ w'.cell? (ad249.add ((x12_7).toNat * 3)) = some (.int .i64 ((rd_T52 l0_4 x12_7).f0)) ∧ w'.cell? ⟨(ad249.add ((x12_7).toNat * 3)).block, (ad249.add ((x12_7).toNat * 3)).off + 1, none⟩ = some (.int .i64 ((rd_T52 l0_4 x12_7).f1)) ∧ w'.cell? ⟨(ad249.add ((x12_7).toNat * 3)).block, (ad249.add ((x12_7).toNat * 3)).off + 2, none⟩ = some (.int .i64 ((rd_T52 l0_4 x12_7).f2))) (ds := []) #[false, false, false, false, false, false, false, false, false] (by kernel_rfl) rfl rfl ⟨(q3q BK240.out 0).trans rfl, (q3q BK240.out 1).trans rfl, (q3q BK240.out 2).trans rfl, (q3q BK240.out 3).trans rfl, (q3q BK240.out 4).trans rfl, ((HB.out.cell (World.block_lt_of_cell? w _ hw249_0)).trans hw249_0), ((HB.out.cell (World.block_lt_of_cell? w _ hw249_1)).trans hw249_1), ((HB.out.cell (World.block_lt_of_cell? w _ hw249_2)).trans hw249_2)⟩ (fun hHeld => ?_); refine with_tabW fQ1.tab31 fQ1.bits31 (fun HT_ HW_ => ?_)
                generalize wr.drew = w94 at BK240 HB hx249_0 hx249_1 hx249_2 hHeld ⊢
                refine pure_ (i := 1) (N := some 141) (v := ?_) (a' := ?_) (bA 9 2) rfl rfl (q17q HT_.out (by kernel_rfl)) (fun _ _ _ h => h) (Or.inl ⟨by rfl, ?_⟩) ?_ ?_
                rotate_left
                ·intro w'
                 go_simp
                 with_reducible rfl
                rotate_left
                ·simp only [Act.put, sA_, sZ_, sS_, i64_w, i32_w]
                 rfl
                refine pure_ (i := 3) (N := some 143) (v := ?_) (a' := ?_) (bA 9 10) rfl rfl (q17q HT_.out (by kernel_rfl)) (fun _ _ _ h => h) (Or.inl ⟨by rfl, ?_⟩) ?_ ?_
                rotate_left
                ·intro w'
                 go_simp
                 with_reducible rfl
                rotate_left
                ·simp only [Act.put, sA_, sZ_, sS_, i64_w, i32_w]
                 rfl
                refine pure_ (i := 6) (N := some 146) (v := ?_) (a' := ?_) (bA 9 74) rfl rfl (q17q HT_.out (by kernel_rfl)) (fun _ _ _ h => h) (Or.inl ⟨by rfl, ?_⟩) ?_ ?_
                rotate_left
                ·intro w'
                 go_simp
                 with_reducible rfl
                rotate_left
                ·simp only [Act.put, sA_, sZ_, sS_, i64_w, i32_w]
                 rfl
                refine take_ (i := 0) (N := some 140) (v := ?_) (a' := ?_) (bA 9 75) rfl rfl (q32q HT_.out HW_.out (by kernel_rfl)) (fun _ _ _ h => h) (Or.inl ⟨by rfl, ?_⟩) hHeld ?_ ?_
                rotate_left
                ·rintro w' ⟨s0, s1, s2, s3, s4, s5, s6, s7⟩
                 go_simp
                 with_reducible rfl
                rotate_left
                ·simp only [Act.put, sA_, sZ_, sS_, i64_w, i32_w]
                 rfl
                refine take_ (i := 2) (N := some 142) (v := ?_) (a' := ?_) (bA 9 79) rfl rfl (q32q HT_.out HW_.out (by kernel_rfl)) (fun _ _ _ h => h) (Or.inl ⟨by rfl, ?_⟩) hHeld ?_ ?_
                rotate_left
                ·rintro w' ⟨s0, s1, s2, s3, s4, s5, s6, s7⟩
                 go_simp
                 with_reducible rfl
                rotate_left
                ·simp only [Act.put, sA_, sZ_, sS_, i64_w, i32_w]
                 rfl
                refine pure_ (i := 4) (N := some 144) (v := ?_) (a' := ?_) (bA 9 95) rfl rfl (q17q HT_.out (by kernel_rfl)) (fun _ _ _ h => h) (Or.inl ⟨by rfl, ?_⟩) ?_ ?_
                rotate_left
                ·intro w'
                 go_simp
                 with_reducible rfl
                rotate_left
                ·simp only [Act.put, sA_, sZ_, sS_, i64_w, i32_w]
                 rfl
                refine take_ (i := 5) (N := some 145) (v := ?_) (a' := ?_) (bA 9 127) rfl rfl (q32q HT_.out HW_.out (by kernel_rfl)) (fun _ _ _ h => h) (Or.inl ⟨by rfl, ?_⟩) hHeld ?_ ?_
                rotate_left
                ·rintro w' ⟨s0, s1, s2, s3, s4, s5, s6, s7⟩
                 go_simp
                 with_reducible rfl
                rotate_left
                ·simp only [Act.put, sA_, sZ_, sS_, i64_w, i32_w]
                 rfl
                refine one_ (i := 7) (N := some 147) (bA 9 255) rfl rfl (q39q HT_.out (by kernel_rfl)) (by decide) (fun K hK => ?_)
                refine goes_ Try.func68 (by kernel_rfl) rfl #[.agg #[.int .i64 a0_0, .int .i64 a0_1, .slice A0_2 l0_2.length c0_2, .slice A0_3 l0_3.length c0_3, .slice (some ad249) l0_4.length c0_4], .agg #[.int .i64 ((rd_T52 l0_4 x12_7).f0), .int .i64 ((rd_T52 l0_4 x12_7).f1), .int .i64 ((rd_T52 l0_4 x12_7).f2)], .int .i64 a2] (by rfl) rfl rfl (by (try simp only [List.map_toArray, List.map_cons, List.map_nil]); first | done | rfl) ?_
                with_reducible refine (fQ22.calls a0_0 a0_1 _ _ l0_2 _ _ l0_3 _ _ l0_4 ((rd_T52 l0_4 x12_7).f0) ((rd_T52 l0_4 x12_7).f1) ((rd_T52 l0_4 x12_7).f2) a2 false _ ?side1 ?side2 ?side3 ?side4 ?side5 ?side6 A88.out).mono ?_
                (case side1 => repeat (first | exact (Kd.q19q HR0_2.out HB.out) | (with_reducible refine Kd.C_alloc ?_ _) | (with_reducible refine Kd.C_drewN ?_ _) | (with_reducible refine Kd.C_drew ?_)))
                (case side2 => exact HC0_2.out)
                (case side3 => repeat (first | exact (Kd.q19q HR0_3.out HB.out) | (with_reducible refine Kd.C_alloc ?_ _) | (with_reducible refine Kd.C_drewN ?_ _) | (with_reducible refine Kd.C_drew ?_)))
                (case side4 => exact HC0_3.out)
                (case side5 => repeat (first | exact (Kd.q19q HR0_4.out HB.out) | (with_reducible refine Kd.C_alloc ?_ _) | (with_reducible refine Kd.C_drewN ?_ _) | (with_reducible refine Kd.C_drew ?_)))
                (case side6 => exact HC0_4.out)
                rintro e w95 ⟨rfl, hb⟩
                refine ⟨_, rfl, ?_⟩
                have n0_ := Aq.mk (q13q (g := gb240) (o := .cells #[.int .i64 a0_0, .int .i64 a0_1, .slice A0_2 l0_2.length c0_2, .slice A0_3 l0_3.length c0_3, .slice (some ad249) l0_4.length c0_4] 47 (0, 0)) BK240.out hb)
                have n1_ := Aq.mk (q10q (by repeat (with_reducible first | exact HB.out | apply q4q | apply q0q | apply q2q | refine q5q ?_ GE240.out)) hb)
                clear BK240
                clear HB
                have BK240 := n0_
                have HB := n1_
                clear n0_ n1_
                (try clear hb)
                (try clear hb2)
                (try clear hk)
                (try clear hi)
                refine hK.out _ _ ⟨(q3q BK240.out 0).trans rfl, (q3q BK240.out 1).trans rfl, (q3q BK240.out 2).trans rfl, (q3q BK240.out 3).trans rfl, (q3q BK240.out 4).trans rfl, ((HB.out.cell (World.block_lt_of_cell? w _ hw249_0)).trans hw249_0), ((HB.out.cell (World.block_lt_of_cell? w _ hw249_1)).trans hw249_1), ((HB.out.cell (World.block_lt_of_cell? w _ hw249_2)).trans hw249_2)⟩ (fun hHeld => ?_)
                clear hK K
                refine norm_ (a' := ?_) ?_ ?_
                rotate_left
                ·show Act.put _ (some 147) _ = _
                 simp only [Act.put, sA_, sZ_, sS_, i64_w, i32_w]
                 rfl
                refine pure_ (i := 8) (N := some 148) (v := ?_) (a' := ?_) (bA 9 511) rfl rfl (q17q HT_.out (by kernel_rfl)) (fun _ _ _ h => h) (Or.inl ⟨by rfl, ?_⟩) ?_ ?_
                rotate_left
                ·intro w'
                 go_simp
                 with_reducible rfl
                rotate_left
                ·simp only [Act.put, sA_, sZ_, sS_, i64_w, i32_w]
                 rfl
                refine done_ (done_of HT_.out (by kernel_rfl)) ?_
                try go_wp2
                go_ret
                exact ⟨by first | rfl | (simp [*] <;> rfl), by repeat (with_reducible first | exact HB.out | apply q4q | apply q0q | apply q2q | refine q5q ?_ GE240.out)⟩
               subst c89
               have H1 : (fQ1.l3 k7 a2 (wrap64 (x12_7 + 1)) a0_0 a0_1 l0_2 l0_3 l0_4) = some r := by rw [if_pos rfl] at H; exact H
               clear H
               have H := H1
               clear H1
               have H' := Aq.mk H
               clear H
               have hcz90_0 : wr.cell? ⟨gb240, 0, none⟩ = some (.int .i64 a0_0) := (q3q BK240.out 0).trans rfl
               have hcz90_1 : wr.cell? ⟨gb240, 1, none⟩ = some (.int .i64 a0_1) := (q3q BK240.out 1).trans rfl
               have hcz90_2 : wr.cell? ⟨gb240, 2, none⟩ = some (.slice A0_2 l0_2.length c0_2) := (q3q BK240.out 2).trans rfl
               have hcz90_3 : wr.cell? ⟨gb240, 3, none⟩ = some (.slice A0_3 l0_3.length c0_3) := (q3q BK240.out 3).trans rfl
               have hcz90_4 : wr.cell? ⟨gb240, 4, none⟩ = some (.slice A0_4 l0_4.length c0_4) := (q3q BK240.out 4).trans rfl
               have hfz90_0 := q1q BK240.out 0
               have hfz90_1 := q1q BK240.out 1
               have hfz90_2 := q1q BK240.out 2
               have hfz90_3 := q1q BK240.out 3
               have hfz90_4 := q1q BK240.out 4
               try go_wp2
               have n0_ := Aq.mk (q9q BK240.out)
               have n1_ := Aq.mk (q2q HB.out)
               clear BK240
               clear HB
               have BK240 := n0_
               have HB := n1_
               clear n0_ n1_
               have p249 : 0 ≤ (x12_7 : Int) := of_decide_eq_true (by first | (with_reducible assumption) | assumption)
               have q249 : x12_7 < (l0_4.length : Int) := of_decide_eq_true (by first | (with_reducible assumption) | assumption)
               obtain ⟨ad249, e249, hx249_0, hx249_1, hx249_2⟩ := at_T52 HR0_4.out x12_7 p249 q249
               have hw249_2 := hx249_2
               have hw249_1 := hx249_1
               have hw249_0 := hx249_0
               cases e249
               replace hx249_0 := (HB.out.cell (World.block_lt_of_cell? w _ hx249_0)).trans hx249_0
               replace hx249_1 := (HB.out.cell (World.block_lt_of_cell? w _ hx249_1)).trans hx249_1
               replace hx249_2 := (HB.out.cell (World.block_lt_of_cell? w _ hx249_2)).trans hx249_2
               replace p249 := eq_true p249
               replace q249 := eq_true q249
               refine start_ (n := 9) (S := fun w' => w'.cell? ⟨gb240, 0, none⟩ = some (.int .i64 a0_0) ∧ w'.cell? ⟨gb240, 1, none⟩ = some (.int .i64 a0_1) ∧ w'.cell? ⟨gb240, 2, none⟩ = some (.slice A0_2 l0_2.length c0_2) ∧ w'.cell? ⟨gb240, 3, none⟩ = some (.slice A0_3 l0_3.length c0_3) ∧ w'.cell? ⟨gb240, 4, none⟩ = some (.slice (some ad249) l0_4.length c0_4) ∧ w'.cell? (ad249.add ((x12_7).toNat * 3)) = some (.int .i64 ((rd_T52 l0_4 x12_7).f0)) ∧ w'.cell? ⟨(ad249.add ((x12_7).toNat * 3)).block, (ad249.add ((x12_7).toNat * 3)).off + 1, none⟩ = some (.int .i64 ((rd_T52 l0_4 x12_7).f1)) ∧ w'.cell? ⟨(ad249.add ((x12_7).toNat * 3)).block, (ad249.add ((x12_7).toNat * 3)).off + 2, none⟩ = some (.int .i64 ((rd_T52 l0_4 x12_7).f2))) (ds := []) #[false, false, false, false, false, false, false, false, false] (by kernel_rfl) rfl rfl ⟨(q3q BK240.out 0).trans rfl, (q3q BK240.out 1).trans rfl, (q3q BK240.out 2).trans rfl, (q3q BK240.out 3).trans rfl, (q3q BK240.out 4).trans rfl, ((HB.out.cell (World.block_lt_of_cell? w _ hw249_0)).trans hw249_0), ((HB.out.cell (World.block_lt_of_cell? w _ hw249_1)).trans hw249_1), ((HB.out.cell (World.block_lt_of_cell? w _ hw249_2)).trans hw249_2)⟩ (fun hHeld => ?_); refine with_tabW fQ1.tab31 fQ1.bits31 (fun HT_ HW_ => ?_)
               generalize wr.drew = w91 at BK240 HB hx249_0 hx249_1 hx249_2 hHeld ⊢
               refine pure_ (i := 1) (N := some 141) (v := ?_) (a' := ?_) (bA 9 2) rfl rfl (q17q HT_.out (by kernel_rfl)) (fun _ _ _ h => h) (Or.inl ⟨by rfl, ?_⟩) ?_ ?_
               rotate_left
               ·intro w'
                go_simp
                with_reducible rfl
               rotate_left
               ·simp only [Act.put, sA_, sZ_, sS_, i64_w, i32_w]
                rfl
               refine pure_ (i := 3) (N := some 143) (v := ?_) (a' := ?_) (bA 9 10) rfl rfl (q17q HT_.out (by kernel_rfl)) (fun _ _ _ h => h) (Or.inl ⟨by rfl, ?_⟩) ?_ ?_
               rotate_left
               ·intro w'
                go_simp
                with_reducible rfl
               rotate_left
               ·simp only [Act.put, sA_, sZ_, sS_, i64_w, i32_w]
                rfl
               refine pure_ (i := 6) (N := some 146) (v := ?_) (a' := ?_) (bA 9 74) rfl rfl (q17q HT_.out (by kernel_rfl)) (fun _ _ _ h => h) (Or.inl ⟨by rfl, ?_⟩) ?_ ?_
               rotate_left
               ·intro w'
                go_simp
                with_reducible rfl
               rotate_left
               ·simp only [Act.put, sA_, sZ_, sS_, i64_w, i32_w]
                rfl
               refine take_ (i := 0) (N := some 140) (v := ?_) (a' := ?_) (bA 9 75) rfl rfl (q32q HT_.out HW_.out (by kernel_rfl)) (fun _ _ _ h => h) (Or.inl ⟨by rfl, ?_⟩) hHeld ?_ ?_
               rotate_left
               ·rintro w' ⟨s0, s1, s2, s3, s4, s5, s6, s7⟩
                go_simp
                with_reducible rfl
               rotate_left
               ·simp only [Act.put, sA_, sZ_, sS_, i64_w, i32_w]
                rfl
               refine take_ (i := 2) (N := some 142) (v := ?_) (a' := ?_) (bA 9 79) rfl rfl (q32q HT_.out HW_.out (by kernel_rfl)) (fun _ _ _ h => h) (Or.inl ⟨by rfl, ?_⟩) hHeld ?_ ?_
               rotate_left
               ·rintro w' ⟨s0, s1, s2, s3, s4, s5, s6, s7⟩
                go_simp
                with_reducible rfl
               rotate_left
               ·simp only [Act.put, sA_, sZ_, sS_, i64_w, i32_w]
                rfl
               refine pure_ (i := 4) (N := some 144) (v := ?_) (a' := ?_) (bA 9 95) rfl rfl (q17q HT_.out (by kernel_rfl)) (fun _ _ _ h => h) (Or.inl ⟨by rfl, ?_⟩) ?_ ?_
               rotate_left
               ·intro w'
                go_simp
                with_reducible rfl
               rotate_left
               ·simp only [Act.put, sA_, sZ_, sS_, i64_w, i32_w]
                rfl
               refine take_ (i := 5) (N := some 145) (v := ?_) (a' := ?_) (bA 9 127) rfl rfl (q32q HT_.out HW_.out (by kernel_rfl)) (fun _ _ _ h => h) (Or.inl ⟨by rfl, ?_⟩) hHeld ?_ ?_
               rotate_left
               ·rintro w' ⟨s0, s1, s2, s3, s4, s5, s6, s7⟩
                go_simp
                with_reducible rfl
               rotate_left
               ·simp only [Act.put, sA_, sZ_, sS_, i64_w, i32_w]
                rfl
               refine one_ (i := 7) (N := some 147) (bA 9 255) rfl rfl (q39q HT_.out (by kernel_rfl)) (by decide) (fun K hK => ?_)
               refine goes_ Try.func68 (by kernel_rfl) rfl #[.agg #[.int .i64 a0_0, .int .i64 a0_1, .slice A0_2 l0_2.length c0_2, .slice A0_3 l0_3.length c0_3, .slice (some ad249) l0_4.length c0_4], .agg #[.int .i64 ((rd_T52 l0_4 x12_7).f0), .int .i64 ((rd_T52 l0_4 x12_7).f1), .int .i64 ((rd_T52 l0_4 x12_7).f2)], .int .i64 a2] (by rfl) rfl rfl (by (try simp only [List.map_toArray, List.map_cons, List.map_nil]); first | done | rfl) ?_
               with_reducible refine (fQ22.calls a0_0 a0_1 _ _ l0_2 _ _ l0_3 _ _ l0_4 ((rd_T52 l0_4 x12_7).f0) ((rd_T52 l0_4 x12_7).f1) ((rd_T52 l0_4 x12_7).f2) a2 true _ ?side1 ?side2 ?side3 ?side4 ?side5 ?side6 A88.out).mono ?_
               (case side1 => repeat (first | exact (Kd.q19q HR0_2.out HB.out) | (with_reducible refine Kd.C_alloc ?_ _) | (with_reducible refine Kd.C_drewN ?_ _) | (with_reducible refine Kd.C_drew ?_)))
               (case side2 => exact HC0_2.out)
               (case side3 => repeat (first | exact (Kd.q19q HR0_3.out HB.out) | (with_reducible refine Kd.C_alloc ?_ _) | (with_reducible refine Kd.C_drewN ?_ _) | (with_reducible refine Kd.C_drew ?_)))
               (case side4 => exact HC0_3.out)
               (case side5 => repeat (first | exact (Kd.q19q HR0_4.out HB.out) | (with_reducible refine Kd.C_alloc ?_ _) | (with_reducible refine Kd.C_drewN ?_ _) | (with_reducible refine Kd.C_drew ?_)))
               (case side6 => exact HC0_4.out)
               rintro e w92 ⟨rfl, hb⟩
               refine ⟨_, rfl, ?_⟩
               have n0_ := Aq.mk (q13q (g := gb240) (o := .cells #[.int .i64 a0_0, .int .i64 a0_1, .slice A0_2 l0_2.length c0_2, .slice A0_3 l0_3.length c0_3, .slice (some ad249) l0_4.length c0_4] 47 (0, 0)) BK240.out hb)
               have n1_ := Aq.mk (q10q (by repeat (with_reducible first | exact HB.out | apply q4q | apply q0q | apply q2q | refine q5q ?_ GE240.out)) hb)
               clear BK240
               clear HB
               have BK240 := n0_
               have HB := n1_
               clear n0_ n1_
               (try clear hb)
               (try clear hb2)
               (try clear hk)
               (try clear hi)
               refine hK.out _ _ ⟨(q3q BK240.out 0).trans rfl, (q3q BK240.out 1).trans rfl, (q3q BK240.out 2).trans rfl, (q3q BK240.out 3).trans rfl, (q3q BK240.out 4).trans rfl, ((HB.out.cell (World.block_lt_of_cell? w _ hw249_0)).trans hw249_0), ((HB.out.cell (World.block_lt_of_cell? w _ hw249_1)).trans hw249_1), ((HB.out.cell (World.block_lt_of_cell? w _ hw249_2)).trans hw249_2)⟩ (fun hHeld => ?_)
               clear hK K
               refine norm_ (a' := ?_) ?_ ?_
               rotate_left
               ·show Act.put _ (some 147) _ = _
                simp only [Act.put, sA_, sZ_, sS_, i64_w, i32_w]
                rfl
               refine pure_ (i := 8) (N := some 148) (v := ?_) (a' := ?_) (bA 9 511) rfl rfl (q17q HT_.out (by kernel_rfl)) (fun _ _ _ h => h) (Or.inl ⟨by rfl, ?_⟩) ?_ ?_
               rotate_left
               ·intro w'
                go_simp
                with_reducible rfl
               rotate_left
               ·simp only [Act.put, sA_, sZ_, sS_, i64_w, i32_w]
                rfl
               refine done_ (done_of HT_.out (by kernel_rfl)) ?_
               try go_wp2
               go_roundg k7
               case measure => have := HJ3.out; have := HJ9.out; have := HJ20.out; have := HK4.out; have := HK5.out; have := HK6.out; have := HK7.out; omega
               case rel => exact ⟨(wrap64 (x12_7 + 1)), (by first | rfl | (simp; done) | (simp [*]; done)), H', ⟨by have := HJ3.out; have := HJ9.out; have := HJ20.out; have := HK4.out; have := HK5.out; have := HK6.out; have := HK7.out; omega⟩, ⟨BK240.out⟩, ⟨by repeat (with_reducible first | exact HB.out | apply q4q | apply q0q | apply q2q | refine q5q ?_ GE240.out)⟩⟩
end Go.Proofs.Ytkkgbbfojmnopaa.G
end
