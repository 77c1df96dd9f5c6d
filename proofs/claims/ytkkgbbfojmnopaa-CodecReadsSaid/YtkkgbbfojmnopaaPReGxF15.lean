import Derived.Test.YtkkgbbfojmnopaaPReGx0
import Derived.Test.YtkkgbbfojmnopaaPReGxF30
set_option linter.unusedVariables false
set_option linter.unusedSimpArgs false
section
namespace Go.Proofs.Ytkkgbbfojmnopaa.G
open Go.RowKit Go.Proofs.YtkkgbbfojmnopaaW.PrintWords Go.Proofs.YtkkgbbfojmnopaaW.PrintLast Go.Proofs.YtkkgbbfojmnopaaW.PrintMore
attribute [local go_sem] q26q q27q q34q q35q q22q q23q q28q q29q
def fQ7.l0 : Nat → Int → List (S47) → List (S47) → Option (Bool)
 | 0, _, _, _ => none
 | k + 1, x5, x392000, x393000 => if x5 < (x392000.length : Int) then (if 0 ≤ x5 then (if x5 < (x393000.length : Int) then ((fQ5.f k ((rd_T47 x392000 x5).f0) ((rd_T47 x392000 x5).f1) ((rd_T47 x392000 x5).f2) ((rd_T47 x392000 x5).f3) ((rd_T47 x392000 x5).f4) ((rd_T47 x393000 x5).f0) ((rd_T47 x393000 x5).f1) ((rd_T47 x393000 x5).f2) ((rd_T47 x393000 x5).f3) ((rd_T47 x393000 x5).f4)).bind fun t395 => (if t395 = true then (fQ7.l0 k (wrap64 (x5 + 1)) x392000 x393000) else (some false))) else (none)) else (none)) else (some true)
def fQ7.f (k : Nat) (l0_0 : List (S47)) (l1_0 : List (S47)) : Option (Bool) := if (l0_0.length : Int) = (l1_0.length : Int) then (fQ7.l0 k 0 l0_0 l1_0) else (some false)
def fQ7.T6 : Bool × List (List Nat × List Nat) := (true, [([], []), ([0], [0]), ([], []), ([1, 2], [1, 2]), ([3], [3]), ([], []), ([5], [5]), ([], []), ([6, 7], [6, 7]), ([8], [8]), ([4, 9], [4, 9]), ([10], [10])])
def fQ7.B6 : List Nat := [0, 1, 0, 7, 15, 0, 32, 0, 224, 480, 1023, 2047]
theorem fQ7.tab6 : rtab .any (opsOf Try.f15 6) = fQ7.T6 := by kernel_rfl
theorem fQ7.bits6 : waitsOk fQ7.T6.2 fQ7.B6 = true := by kernel_rfl
set_option maxHeartbeats 8000000 in
set_option maxRecDepth 100000 in
theorem fQ7.calls (k : Nat) (A0_0 : Option Addr) (c0_0 : Nat) (l0_0 : List (S47)) (A1_0 : Option Addr) (c1_0 : Nat) (l1_0 : List (S47)) (r : Bool) (w : World) (hr0_0 : Kd.C k47 w A0_0 l0_0.length l0_0) (hc0_0 : l0_0.length ≤ c0_0) (hr1_0 : Kd.C k47 w A1_0 l1_0.length l1_0) (hc1_0 : l1_0.length ≤ c1_0) (h : fQ7.f k l0_0 l1_0 = some r) :
  Calls Try.prog 15 #[.agg #[.slice A0_0 l0_0.length c0_0], .agg #[.slice A1_0 l1_0.length c1_0]] w fun e w' => e = .returned (.bool r) ∧ Below w.heap.size w w' := by
 have hu24 := Try.underlying24
 have hu47 := Try.underlying47
 have HR0_0 := Aq.mk hr0_0
 have HC0_0 := Aq.mk hc0_0
 clear hr0_0 hc0_0
 have HR1_0 := Aq.mk hr1_0
 have HC1_0 := Aq.mk hc1_0
 clear hr1_0 hc1_0
 have HB := Aq.mk (Below.refl w.heap.size w)
 have H : (if (l0_0.length : Int) = (l1_0.length : Int) then (fQ7.l0 k 0 l0_0 l1_0) else (some false)) = some r := h
 clear h
 by_cases c3 : (l0_0.length : Int) = (l1_0.length : Int)
 case neg =>
  rw [if_neg c3] at H
  have c3b0 : ((l0_0.length : Int) == (l1_0.length : Int)) = false := beq_eq_false_iff_ne.mpr c3
  have c3b1 : ((l0_0.length : Int) != (l1_0.length : Int)) = true := bne_iff_ne.mpr c3
  have c3b2 : (l0_0.length == l1_0.length) = false := by first | simpa using c3 | (simp at c3 ⊢; omega)
  obtain rfl := Option.some.inj H
  go_enter Try.func15, Try.ntmps15
  go_wp2_with (first | ((with_reducible refine q12q (N := 2) rfl ?_); refine q11q ?hg (N := 2) ?hd (cs := #[.slice A0_0 l0_0.length c0_0]) (t := 24) ?hr ?_; (case hd => rfl); (case hg => rfl); (case hr => first | (go_simp; done) | (go_simp; rfl)); intro gb391 hg w24 hbox hb; have n0_ := Aq.mk (q10q (by repeat (with_reducible first | exact HB.out | apply q4q | apply q0q | apply q2q)) hb); have n1_ := Aq.mk (hbox); have n2_ := Aq.mk ((by rw [hg]; exact (q6q (by repeat (with_reducible first | exact HB.out | apply q4q | apply q0q | apply q2q))) : w.heap.size ≤ gb391)); have n3_ := Aq.mk ((by rw [hg]; exact (q6q (by repeat (with_reducible first | exact HB.out | apply q4q | apply q0q | apply q2q))) : w.heap.size ≤ gb391)); clear HB; have HB := n0_; have BK391 := n1_; have GW391 := n2_; have GE391 := n3_; clear n0_ n1_ n2_ n3_; clear hb hbox hg) | ((with_reducible refine q12q (N := 3) rfl ?_); refine q11q ?hg (N := 3) ?hd (cs := #[.slice A1_0 l1_0.length c1_0]) (t := 24) ?hr ?_; (case hd => rfl); (case hg => rfl); (case hr => first | (go_simp; done) | (go_simp; rfl)); intro gb392 hg w25 hbox hb; have n0_ := Aq.mk (q13q (g := gb391) (o := .cells #[.slice A0_0 l0_0.length c0_0] 24 (0, 0)) BK391.out hb); have n1_ := Aq.mk (q10q (by repeat (with_reducible first | exact HB.out | apply q4q | apply q0q | apply q2q | refine q5q ?_ GE391.out)) hb); have n2_ := Aq.mk (hbox); have n3_ := Aq.mk ((by rw [hg]; exact (q6q (by repeat (with_reducible first | exact HB.out | apply q4q | apply q0q | apply q2q | refine q5q ?_ GE391.out))) : w.heap.size ≤ gb392)); have n4_ := Aq.mk ((by rw [hg]; exact (q6q (by repeat (with_reducible first | exact HB.out | apply q4q | apply q0q | apply q2q | refine q5q ?_ GE391.out))) : w.heap.size ≤ gb392)); have n5_ := Aq.mk ((by rw [hg]; exact Nat.ne_of_lt (q16q (g := gb391) (o := .cells #[.slice A0_0 l0_0.length c0_0] 24 (0, 0)) BK391.out) : gb391 ≠ gb392)); have n6_ := Aq.mk ((by rw [hg]; exact Nat.ne_of_gt (q16q (g := gb391) (o := .cells #[.slice A0_0 l0_0.length c0_0] 24 (0, 0)) BK391.out) : gb392 ≠ gb391)); clear BK391; clear HB; have BK391 := n0_; have HB := n1_; have BK392 := n2_; have GW392 := n3_; have GE392 := n4_; have NB391_392 := n5_; have NB392_391 := n6_; clear n0_ n1_ n2_ n3_ n4_ n5_ n6_; clear hb hbox hg; have hnb26 := NB391_392.out; have hnc26 := NB392_391.out; have hcz27_0 : w25.cell? ⟨gb391, 0, none⟩ = some (.slice A0_0 l0_0.length c0_0) := (q3q BK391.out 0).trans rfl; have hfz27_0 := q1q BK391.out 0; have hcz28_0 : w25.cell? ⟨gb392, 0, none⟩ = some (.slice A1_0 l1_0.length c1_0) := (q3q BK392.out 0).trans rfl; have hfz28_0 := q1q BK392.out 0))
  go_ret
  exact ⟨by first | rfl | (simp [*] <;> rfl), by repeat (with_reducible first | exact HB.out | apply q4q | apply q0q | apply q2q | refine q5q ?_ GE391.out | refine q5q ?_ GE392.out)⟩
 rw [if_pos c3] at H
 have c3b0 : ((l0_0.length : Int) == (l1_0.length : Int)) = true := beq_iff_eq.mpr c3
 have c3b1 : ((l0_0.length : Int) != (l1_0.length : Int)) = false := bne_eq_false_iff_eq.mpr c3
 have c3b2 : (l0_0.length == l1_0.length) = true := by first | simpa using c3 | (simp at c3 ⊢; omega)
 clear c3
 have H' := Aq.mk H
 clear H
 go_enter Try.func15, Try.ntmps15
 go_wp2_with (first | ((with_reducible refine q12q (N := 2) rfl ?_); refine q11q ?hg (N := 2) ?hd (cs := #[.slice A0_0 l0_0.length c0_0]) (t := 24) ?hr ?_; (case hd => rfl); (case hg => rfl); (case hr => first | (go_simp; done) | (go_simp; rfl)); intro gb391 hg w4 hbox hb; have n0_ := Aq.mk (q10q (by repeat (with_reducible first | exact HB.out | apply q4q | apply q0q | apply q2q)) hb); have n1_ := Aq.mk (hbox); have n2_ := Aq.mk ((by rw [hg]; exact (q6q (by repeat (with_reducible first | exact HB.out | apply q4q | apply q0q | apply q2q))) : w.heap.size ≤ gb391)); have n3_ := Aq.mk ((by rw [hg]; exact (q6q (by repeat (with_reducible first | exact HB.out | apply q4q | apply q0q | apply q2q))) : w.heap.size ≤ gb391)); clear HB; have HB := n0_; have BK391 := n1_; have GW391 := n2_; have GE391 := n3_; clear n0_ n1_ n2_ n3_; clear hb hbox hg) | ((with_reducible refine q12q (N := 3) rfl ?_); refine q11q ?hg (N := 3) ?hd (cs := #[.slice A1_0 l1_0.length c1_0]) (t := 24) ?hr ?_; (case hd => rfl); (case hg => rfl); (case hr => first | (go_simp; done) | (go_simp; rfl)); intro gb392 hg w5 hbox hb; have n0_ := Aq.mk (q13q (g := gb391) (o := .cells #[.slice A0_0 l0_0.length c0_0] 24 (0, 0)) BK391.out hb); have n1_ := Aq.mk (q10q (by repeat (with_reducible first | exact HB.out | apply q4q | apply q0q | apply q2q | refine q5q ?_ GE391.out)) hb); have n2_ := Aq.mk (hbox); have n3_ := Aq.mk ((by rw [hg]; exact (q6q (by repeat (with_reducible first | exact HB.out | apply q4q | apply q0q | apply q2q | refine q5q ?_ GE391.out))) : w.heap.size ≤ gb392)); have n4_ := Aq.mk ((by rw [hg]; exact (q6q (by repeat (with_reducible first | exact HB.out | apply q4q | apply q0q | apply q2q | refine q5q ?_ GE391.out))) : w.heap.size ≤ gb392)); have n5_ := Aq.mk ((by rw [hg]; exact Nat.ne_of_lt (q16q (g := gb391) (o := .cells #[.slice A0_0 l0_0.length c0_0] 24 (0, 0)) BK391.out) : gb391 ≠ gb392)); have n6_ := Aq.mk ((by rw [hg]; exact Nat.ne_of_gt (q16q (g := gb391) (o := .cells #[.slice A0_0 l0_0.length c0_0] 24 (0, 0)) BK391.out) : gb392 ≠ gb391)); clear BK391; clear HB; have BK391 := n0_; have HB := n1_; have BK392 := n2_; have GW392 := n3_; have GE392 := n4_; have NB391_392 := n5_; have NB392_391 := n6_; clear n0_ n1_ n2_ n3_ n4_ n5_ n6_; clear hb hbox hg; have hnb6 := NB391_392.out; have hnc6 := NB392_391.out; have hcz7_0 : w5.cell? ⟨gb391, 0, none⟩ = some (.slice A0_0 l0_0.length c0_0) := (q3q BK391.out 0).trans rfl; have hfz7_0 := q1q BK391.out 0; have hcz8_0 : w5.cell? ⟨gb392, 0, none⟩ = some (.slice A1_0 l1_0.length c1_0) := (q3q BK392.out 0).trans rfl; have hfz8_0 := q1q BK392.out 0))
 go_loopg [5] k (fun kq v5 w' => ∃ (x5_1 : Int), v5 = .int .i64 x5_1 ∧ Aq (fQ7.l0 kq x5_1 l0_0 l1_0 = some r) ∧ Aq (kq ≤ k) ∧ Aq (w'.heap[gb391]? = some (.cells #[(.slice A0_0 l0_0.length c0_0)] 24 (0, 0))) ∧ Aq (w'.heap[gb392]? = some (.cells #[(.slice A1_0 l1_0.length c1_0)] 24 (0, 0))) ∧ Aq (Below w.heap.size w w'))
 case atStart => exact ⟨(0), (by first | rfl | (simp; done) | (simp [*]; done)), H', ⟨Nat.le_refl _⟩, ⟨BK391.out⟩, ⟨BK392.out⟩, ⟨by repeat (with_reducible first | exact HB.out | apply q4q | apply q0q | apply q2q | refine q5q ?_ GE391.out | refine q5q ?_ GE392.out)⟩⟩
 case round =>
  clear H'
  try clear c3b0
  try clear c3b1
  try clear c3b2
  try clear hcz7_0
  try clear hcz8_0
  try clear hfz7_0
  try clear hfz8_0
  obtain ⟨x5_1, rfl, HA, HK1, BK391, BK392, HB⟩ := hrel
  cases gk with
  | zero => exact absurd HA.out (by simp [fQ7.l0])
  | succ k1 =>
   have H := HA.out
   clear HA
   simp only [fQ7.l0] at H
   by_cases c9 : x5_1 < (l0_0.length : Int)
   case neg =>
    rw [if_neg c9] at H
    have c9b0 : decide (x5_1 < (l0_0.length : Int)) = false := decide_eq_false c9
    clear c9
    obtain rfl := Option.some.inj H
    have hnb22 := NB391_392.out
    have hnc22 := NB392_391.out
    have hcz23_0 : wr.cell? ⟨gb391, 0, none⟩ = some (.slice A0_0 l0_0.length c0_0) := (q3q BK391.out 0).trans rfl
    have hfz23_0 := q1q BK391.out 0
    go_wp2
    go_ret
    exact ⟨by first | rfl | (simp [*] <;> rfl), by repeat (with_reducible first | exact HB.out | apply q4q | apply q0q | apply q2q | refine q5q ?_ GE391.out | refine q5q ?_ GE392.out)⟩
   rw [if_pos c9] at H
   have c9b0 : decide (x5_1 < (l0_0.length : Int)) = true := decide_eq_true c9
   clear c9
   by_cases c10 : 0 ≤ x5_1
   case neg =>
    rw [if_neg c10] at H
    exact absurd H (by simp)
   rw [if_pos c10] at H
   have c10b0 : decide (0 ≤ x5_1) = true := decide_eq_true c10
   clear c10
   by_cases c11 : x5_1 < (l1_0.length : Int)
   case neg =>
    rw [if_neg c11] at H
    exact absurd H (by simp)
   rw [if_pos c11] at H
   have c11b0 : decide (x5_1 < (l1_0.length : Int)) = true := decide_eq_true c11
   clear c11
   replace H := Option.bind_eq_some_iff.mp H
   obtain ⟨t395, A120, H⟩ := H
   replace H : (if t395 = true then (fQ7.l0 k1 (wrap64 (x5_1 + 1)) l0_0 l1_0) else (some false)) = some r := H
   have A12 := Aq.mk A120
   clear A120
   by_cases c13 : t395 = true
   case neg =>
    replace c13 := Bool.eq_false_iff.mpr c13
    subst c13
    have H1 : (some false) = some r := by rw [if_neg (show ¬ (false = true) by decide)] at H; exact H
    clear H
    have H := H1
    clear H1
    obtain rfl := Option.some.inj H
    have hnb18 := NB391_392.out
    have hnc18 := NB392_391.out
    have hcz19_0 : wr.cell? ⟨gb391, 0, none⟩ = some (.slice A0_0 l0_0.length c0_0) := (q3q BK391.out 0).trans rfl
    have hfz19_0 := q1q BK391.out 0
    try go_wp2
    have n0_ := Aq.mk (q9q BK391.out)
    have n1_ := Aq.mk (q9q BK392.out)
    have n2_ := Aq.mk (q2q HB.out)
    clear BK391
    clear BK392
    clear HB
    have BK391 := n0_
    have BK392 := n1_
    have HB := n2_
    clear n0_ n1_ n2_
    have p393 : 0 ≤ (x5_1 : Int) := of_decide_eq_true (by first | (with_reducible assumption) | assumption)
    have q393 : x5_1 < (l0_0.length : Int) := of_decide_eq_true (by first | (with_reducible assumption) | assumption)
    obtain ⟨ad393, A393_2, c393_2, A393_3, c393_3, A393_4, c393_4, e393, hx393_0, hx393_1, hx393_2, hx393_3, hx393_4, hl393_2, hi393_2, hl393_3, hi393_3, hl393_4, hi393_4⟩ := at_T47 HR0_0.out x5_1 p393 q393
    have hw393_4 := hx393_4
    have hw393_3 := hx393_3
    have hw393_2 := hx393_2
    have hw393_1 := hx393_1
    have hw393_0 := hx393_0
    cases e393
    replace hx393_0 := (HB.out.cell (World.block_lt_of_cell? w _ hx393_0)).trans hx393_0
    replace hx393_1 := (HB.out.cell (World.block_lt_of_cell? w _ hx393_1)).trans hx393_1
    replace hx393_2 := (HB.out.cell (World.block_lt_of_cell? w _ hx393_2)).trans hx393_2
    replace hx393_3 := (HB.out.cell (World.block_lt_of_cell? w _ hx393_3)).trans hx393_3
    replace hx393_4 := (HB.out.cell (World.block_lt_of_cell? w _ hx393_4)).trans hx393_4
    have HR393_2 := Aq.mk hi393_2
    have HC393_2 := Aq.mk hl393_2
    clear hi393_2 hl393_2
    have HR393_3 := Aq.mk hi393_3
    have HC393_3 := Aq.mk hl393_3
    clear hi393_3 hl393_3
    have HR393_4 := Aq.mk hi393_4
    have HC393_4 := Aq.mk hl393_4
    clear hi393_4 hl393_4
    replace p393 := eq_true p393
    replace q393 := eq_true q393
    have p394 : 0 ≤ (x5_1 : Int) := of_decide_eq_true (by first | (with_reducible assumption) | assumption)
    have q394 : x5_1 < (l1_0.length : Int) := of_decide_eq_true (by first | (with_reducible assumption) | assumption)
    obtain ⟨ad394, A394_2, c394_2, A394_3, c394_3, A394_4, c394_4, e394, hx394_0, hx394_1, hx394_2, hx394_3, hx394_4, hl394_2, hi394_2, hl394_3, hi394_3, hl394_4, hi394_4⟩ := at_T47 HR1_0.out x5_1 p394 q394
    have hw394_4 := hx394_4
    have hw394_3 := hx394_3
    have hw394_2 := hx394_2
    have hw394_1 := hx394_1
    have hw394_0 := hx394_0
    cases e394
    replace hx394_0 := (HB.out.cell (World.block_lt_of_cell? w _ hx394_0)).trans hx394_0
    replace hx394_1 := (HB.out.cell (World.block_lt_of_cell? w _ hx394_1)).trans hx394_1
    replace hx394_2 := (HB.out.cell (World.block_lt_of_cell? w _ hx394_2)).trans hx394_2
    replace hx394_3 := (HB.out.cell (World.block_lt_of_cell? w _ hx394_3)).trans hx394_3
    replace hx394_4 := (HB.out.cell (World.block_lt_of_cell? w _ hx394_4)).trans hx394_4
    have HR394_2 := Aq.mk hi394_2
    have HC394_2 := Aq.mk hl394_2
    clear hi394_2 hl394_2
    have HR394_3 := Aq.mk hi394_3
    have HC394_3 := Aq.mk hl394_3
    clear hi394_3 hl394_3
    have HR394_4 := Aq.mk hi394_4
    have HC394_4 := Aq.mk hl394_4
    clear hi394_4 hl394_4
    replace p394 := eq_true p394
    replace q394 := eq_true q394
    refine start_ (n := 12) (S := fun w' => w'.cell? ⟨gb391, 0, none⟩ = some (.slice (some ad393) l0_0.length c0_0) ∧ w'.cell? ⟨gb392, 0, none⟩ = some (.slice (some ad394) l1_0.length c1_0) ∧ w'.cell? (ad393.add ((x5_1).toNat * 5)) = some (.int .i64 ((rd_T47 l0_0 x5_1).f0)) ∧ w'.cell? ⟨(ad393.add ((x5_1).toNat * 5)).block, (ad393.add ((x5_1).toNat * 5)).off + 1, none⟩ = some (.int .i64 ((rd_T47 l0_0 x5_1).f1)) ∧ w'.cell? ⟨(ad393.add ((x5_1).toNat * 5)).block, (ad393.add ((x5_1).toNat * 5)).off + 2, none⟩ = some (.slice A393_2 ((rd_T47 l0_0 x5_1).f2).length c393_2) ∧ w'.cell? ⟨(ad393.add ((x5_1).toNat * 5)).block, (ad393.add ((x5_1).toNat * 5)).off + 3, none⟩ = some (.slice A393_3 ((rd_T47 l0_0 x5_1).f3).length c393_3) ∧ w'.cell? ⟨(ad393.add ((x5_1).toNat * 5)).block, (ad393.add ((x5_1).toNat * 5)).off + 4, none⟩ = some (.slice A393_4 ((rd_T47 l0_0 x5_1).f4).length c393_4) ∧ w'.cell? (ad394.add ((x5_1).toNat * 5)) = some (.int .i64 ((rd_T47 l1_0 x5_1).f0)) ∧ w'.cell? ⟨(ad394.add ((x5_1).toNat * 5)).block, (ad394.add ((x5_1).toNat * 5)).off + 1, none⟩ = some (.int .i64 ((rd_T47 l1_0 x5_1).f1)) ∧ w'.cell? ⟨(ad394.add ((x5_1).toNat * 5)).block, (ad394.add ((x5_1).toNat * 5)).off + 2, none⟩ = some (.slice A394_2 ((rd_T47 l1_0 x5_1).f2).length c394_2) ∧ w'.cell? ⟨(ad394.add ((x5_1).toNat * 5)).block, (ad394.add ((x5_1).toNat * 5)).off + 3, none⟩ = some (.slice A394_3 ((rd_T47 l1_0 x5_1).f3).length c394_3) ∧ w'.cell? ⟨(ad394.add ((x5_1).toNat * 5)).block, (ad394.add ((x5_1).toNat * 5)).off + 4, none⟩ = some (.slice A394_4 ((rd_T47 l1_0 x5_1).f4).length c394_4)) (ds := []) #[false, false, false, false, false, false, false, false, false, false, false, false] (by kernel_rfl) rfl rfl ⟨(q3q BK391.out 0).trans rfl, (q3q BK392.out 0).trans rfl, ((HB.out.cell (World.block_lt_of_cell? w _ hw393_0)).trans hw393_0), ((HB.out.cell (World.block_lt_of_cell? w _ hw393_1)).trans hw393_1), ((HB.out.cell (World.block_lt_of_cell? w _ hw393_2)).trans hw393_2), ((HB.out.cell (World.block_lt_of_cell? w _ hw393_3)).trans hw393_3), ((HB.out.cell (World.block_lt_of_cell? w _ hw393_4)).trans hw393_4), ((HB.out.cell (World.block_lt_of_cell? w _ hw394_0)).trans hw394_0), ((HB.out.cell (World.block_lt_of_cell? w _ hw394_1)).trans hw394_1), ((HB.out.cell (World.block_lt_of_cell? w _ hw394_2)).trans hw394_2), ((HB.out.cell (World.block_lt_of_cell? w _ hw394_3)).trans hw394_3), ((HB.out.cell (World.block_lt_of_cell? w _ hw394_4)).trans hw394_4)⟩ (fun hHeld => ?_); refine with_tabW fQ7.tab6 fQ7.bits6 (fun HT_ HW_ => ?_)
    generalize wr.drew = w20 at BK391 BK392 HB HR393_2 HR393_3 HR393_4 HR394_2 HR394_3 HR394_4 hx393_0 hx393_1 hx393_2 hx393_3 hx393_4 hx394_0 hx394_1 hx394_2 hx394_3 hx394_4 hHeld ⊢
    refine pure_ (i := 0) (N := some 20) (v := ?_) (a' := ?_) (bA 12 1) rfl rfl (q17q HT_.out (by kernel_rfl)) (fun _ _ _ h => h) (Or.inl ⟨by rfl, ?_⟩) ?_ ?_
    rotate_left
    ·intro w'
     go_simp
     with_reducible rfl
    rotate_left
    ·simp only [Act.put, sA_, sZ_, sS_, i64_w, i32_w]
     rfl
    refine pure_ (i := 2) (N := some 22) (v := ?_) (a' := ?_) (bA 12 5) rfl rfl (q17q HT_.out (by kernel_rfl)) (fun _ _ _ h => h) (Or.inl ⟨by rfl, ?_⟩) ?_ ?_
    rotate_left
    ·intro w'
     go_simp
     with_reducible rfl
    rotate_left
    ·simp only [Act.put, sA_, sZ_, sS_, i64_w, i32_w]
     rfl
    refine pure_ (i := 5) (N := some 25) (v := ?_) (a' := ?_) (bA 12 37) rfl rfl (q17q HT_.out (by kernel_rfl)) (fun _ _ _ h => h) (Or.inl ⟨by rfl, ?_⟩) ?_ ?_
    rotate_left
    ·intro w'
     go_simp
     with_reducible rfl
    rotate_left
    ·simp only [Act.put, sA_, sZ_, sS_, i64_w, i32_w]
     rfl
    refine pure_ (i := 7) (N := some 27) (v := ?_) (a' := ?_) (bA 12 165) rfl rfl (q17q HT_.out (by kernel_rfl)) (fun _ _ _ h => h) (Or.inl ⟨by rfl, ?_⟩) ?_ ?_
    rotate_left
    ·intro w'
     go_simp
     with_reducible rfl
    rotate_left
    ·simp only [Act.put, sA_, sZ_, sS_, i64_w, i32_w]
     rfl
    refine take_ (i := 1) (N := some 21) (v := ?_) (a' := ?_) (bA 12 167) rfl rfl (q32q HT_.out HW_.out (by kernel_rfl)) (fun _ _ _ h => h) (Or.inl ⟨by rfl, ?_⟩) hHeld ?_ ?_
    rotate_left
    ·rintro w' ⟨s0, s1, s2, s3, s4, s5, s6, s7, s8, s9, s10, s11⟩
     go_simp
     with_reducible rfl
    rotate_left
    ·simp only [Act.put, sA_, sZ_, sS_, i64_w, i32_w]
     rfl
    refine pure_ (i := 3) (N := some 23) (v := ?_) (a' := ?_) (bA 12 175) rfl rfl (q17q HT_.out (by kernel_rfl)) (fun _ _ _ h => h) (Or.inl ⟨by rfl, ?_⟩) ?_ ?_
    rotate_left
    ·intro w'
     go_simp
     with_reducible rfl
    rotate_left
    ·simp only [Act.put, sA_, sZ_, sS_, i64_w, i32_w]
     rfl
    refine take_ (i := 4) (N := some 24) (v := ?_) (a' := ?_) (bA 12 191) rfl rfl (q32q HT_.out HW_.out (by kernel_rfl)) (fun _ _ _ h => h) (Or.inl ⟨by rfl, ?_⟩) hHeld ?_ ?_
    rotate_left
    ·rintro w' ⟨s0, s1, s2, s3, s4, s5, s6, s7, s8, s9, s10, s11⟩
     go_simp
     with_reducible rfl
    rotate_left
    ·simp only [Act.put, sA_, sZ_, sS_, i64_w, i32_w]
     rfl
    refine take_ (i := 6) (N := some 26) (v := ?_) (a' := ?_) (bA 12 255) rfl rfl (q32q HT_.out HW_.out (by kernel_rfl)) (fun _ _ _ h => h) (Or.inl ⟨by rfl, ?_⟩) hHeld ?_ ?_
    rotate_left
    ·rintro w' ⟨s0, s1, s2, s3, s4, s5, s6, s7, s8, s9, s10, s11⟩
     go_simp
     with_reducible rfl
    rotate_left
    ·simp only [Act.put, sA_, sZ_, sS_, i64_w, i32_w]
     rfl
    refine pure_ (i := 8) (N := some 28) (v := ?_) (a' := ?_) (bA 12 511) rfl rfl (q17q HT_.out (by kernel_rfl)) (fun _ _ _ h => h) (Or.inl ⟨by rfl, ?_⟩) ?_ ?_
    rotate_left
    ·intro w'
     go_simp
     with_reducible rfl
    rotate_left
    ·simp only [Act.put, sA_, sZ_, sS_, i64_w, i32_w]
     rfl
    refine take_ (i := 9) (N := some 29) (v := ?_) (a' := ?_) (bA 12 1023) rfl rfl (q32q HT_.out HW_.out (by kernel_rfl)) (fun _ _ _ h => h) (Or.inl ⟨by rfl, ?_⟩) hHeld ?_ ?_
    rotate_left
    ·rintro w' ⟨s0, s1, s2, s3, s4, s5, s6, s7, s8, s9, s10, s11⟩
     go_simp
     with_reducible rfl
    rotate_left
    ·simp only [Act.put, sA_, sZ_, sS_, i64_w, i32_w]
     rfl
    refine one_ (i := 10) (N := some 30) (bA 12 2047) rfl rfl (q39q HT_.out (by kernel_rfl)) (by decide) (fun K hK => ?_)
    refine goes_ Try.func30 (by kernel_rfl) rfl #[.agg #[.int .i64 ((rd_T47 l0_0 x5_1).f0), .int .i64 ((rd_T47 l0_0 x5_1).f1), .slice A393_2 ((rd_T47 l0_0 x5_1).f2).length c393_2, .slice A393_3 ((rd_T47 l0_0 x5_1).f3).length c393_3, .slice A393_4 ((rd_T47 l0_0 x5_1).f4).length c393_4], .agg #[.int .i64 ((rd_T47 l1_0 x5_1).f0), .int .i64 ((rd_T47 l1_0 x5_1).f1), .slice A394_2 ((rd_T47 l1_0 x5_1).f2).length c394_2, .slice A394_3 ((rd_T47 l1_0 x5_1).f3).length c394_3, .slice A394_4 ((rd_T47 l1_0 x5_1).f4).length c394_4]] (by rfl) rfl rfl (by (try simp only [List.map_toArray, List.map_cons, List.map_nil]); first | done | rfl) ?_
    with_reducible refine (fQ5.calls k1 ((rd_T47 l0_0 x5_1).f0) ((rd_T47 l0_0 x5_1).f1) _ _ ((rd_T47 l0_0 x5_1).f2) _ _ ((rd_T47 l0_0 x5_1).f3) _ _ ((rd_T47 l0_0 x5_1).f4) ((rd_T47 l1_0 x5_1).f0) ((rd_T47 l1_0 x5_1).f1) _ _ ((rd_T47 l1_0 x5_1).f2) _ _ ((rd_T47 l1_0 x5_1).f3) _ _ ((rd_T47 l1_0 x5_1).f4) false _ ?side1 ?side2 ?side3 ?side4 ?side5 ?side6 ?side7 ?side8 ?side9 ?side10 ?side11 ?side12 A12.out).mono ?_
    (case side1 => repeat (first | exact (Kd.q19q HR393_2.out HB.out) | (with_reducible refine Kd.C_alloc ?_ _) | (with_reducible refine Kd.C_drewN ?_ _) | (with_reducible refine Kd.C_drew ?_)))
    (case side2 => exact HC393_2.out)
    (case side3 => repeat (first | exact (Kd.q19q HR393_3.out HB.out) | (with_reducible refine Kd.C_alloc ?_ _) | (with_reducible refine Kd.C_drewN ?_ _) | (with_reducible refine Kd.C_drew ?_)))
    (case side4 => exact HC393_3.out)
    (case side5 => repeat (first | exact (Kd.q19q HR393_4.out HB.out) | (with_reducible refine Kd.C_alloc ?_ _) | (with_reducible refine Kd.C_drewN ?_ _) | (with_reducible refine Kd.C_drew ?_)))
    (case side6 => exact HC393_4.out)
    (case side7 => repeat (first | exact (Kd.q19q HR394_2.out HB.out) | (with_reducible refine Kd.C_alloc ?_ _) | (with_reducible refine Kd.C_drewN ?_ _) | (with_reducible refine Kd.C_drew ?_)))
    (case side8 => exact HC394_2.out)
    (case side9 => repeat (first | exact (Kd.q19q HR394_3.out HB.out) | (with_reducible refine Kd.C_alloc ?_ _) | (with_reducible refine Kd.C_drewN ?_ _) | (with_reducible refine Kd.C_drew ?_)))
    (case side10 => exact HC394_3.out)
    (case side11 => repeat (first | exact (Kd.q19q HR394_4.out HB.out) | (with_reducible refine Kd.C_alloc ?_ _) | (with_reducible refine Kd.C_drewN ?_ _) | (with_reducible refine Kd.C_drew ?_)))
    (case side12 => exact HC394_4.out)
    rintro e w21 ⟨rfl, hb⟩
    refine ⟨_, rfl, ?_⟩
    have n0_ := Aq.mk (q13q (g := gb391) (o := .cells #[.slice (some ad393) l0_0.length c0_0] 24 (0, 0)) BK391.out hb)
    have n1_ := Aq.mk (q13q (g := gb392) (o := .cells #[.slice (some ad394) l1_0.length c1_0] 24 (0, 0)) BK392.out hb)
    have n2_ := Aq.mk (q10q (by repeat (with_reducible first | exact HB.out | apply q4q | apply q0q | apply q2q | refine q5q ?_ GE391.out | refine q5q ?_ GE392.out)) hb)
    clear BK391
    clear BK392
    clear HB
    have BK391 := n0_
    have BK392 := n1_
    have HB := n2_
    clear n0_ n1_ n2_
    (try clear hb)
    (try clear hb2)
    (try clear hk)
    (try clear hi)
    refine hK.out _ _ ⟨(q3q BK391.out 0).trans rfl, (q3q BK392.out 0).trans rfl, ((HB.out.cell (World.block_lt_of_cell? w _ hw393_0)).trans hw393_0), ((HB.out.cell (World.block_lt_of_cell? w _ hw393_1)).trans hw393_1), ((HB.out.cell (World.block_lt_of_cell? w _ hw393_2)).trans hw393_2), ((HB.out.cell (World.block_lt_of_cell? w _ hw393_3)).trans hw393_3), ((HB.out.cell (World.block_lt_of_cell? w _ hw393_4)).trans hw393_4), ((HB.out.cell (World.block_lt_of_cell? w _ hw394_0)).trans hw394_0), ((HB.out.cell (World.block_lt_of_cell? w _ hw394_1)).trans hw394_1), ((HB.out.cell (World.block_lt_of_cell? w _ hw394_2)).trans hw394_2), ((HB.out.cell (World.block_lt_of_cell? w _ hw394_3)).trans hw394_3), ((HB.out.cell (World.block_lt_of_cell? w _ hw394_4)).trans hw394_4)⟩ (fun hHeld => ?_)
    clear hK K
    refine norm_ (a' := ?_) ?_ ?_
    rotate_left
    ·show Act.put _ (some 30) _ = _
     simp only [Act.put, sA_, sZ_, sS_, i64_w, i32_w]
     rfl
    refine pure_ (i := 11) (N := some 31) (v := ?_) (a' := ?_) (bA 12 4095) rfl rfl (q17q HT_.out (by kernel_rfl)) (fun _ _ _ h => h) (Or.inl ⟨by rfl, ?_⟩) ?_ ?_
    rotate_left
    ·intro w'
     go_simp
     with_reducible rfl
    rotate_left
    ·simp only [Act.put, sA_, sZ_, sS_, i64_w, i32_w]
     rfl
    refine done_ (done_of HT_.out (by kernel_rfl)) ?_
    try go_wp2
    go_ret
    exact ⟨by first | rfl | (simp [*] <;> rfl), by repeat (with_reducible first | exact HB.out | apply q4q | apply q0q | apply q2q | refine q5q ?_ GE391.out | refine q5q ?_ GE392.out)⟩
   subst c13
   have H1 : (fQ7.l0 k1 (wrap64 (x5_1 + 1)) l0_0 l1_0) = some r := by rw [if_pos rfl] at H; exact H
   clear H
   have H := H1
   clear H1
   have H' := Aq.mk H
   clear H
   have hnb14 := NB391_392.out
   have hnc14 := NB392_391.out
   have hcz15_0 : wr.cell? ⟨gb391, 0, none⟩ = some (.slice A0_0 l0_0.length c0_0) := (q3q BK391.out 0).trans rfl
   have hfz15_0 := q1q BK391.out 0
   try go_wp2
   have n0_ := Aq.mk (q9q BK391.out)
   have n1_ := Aq.mk (q9q BK392.out)
   have n2_ := Aq.mk (q2q HB.out)
   clear BK391
   clear BK392
   clear HB
   have BK391 := n0_
   have BK392 := n1_
   have HB := n2_
   clear n0_ n1_ n2_
   have p393 : 0 ≤ (x5_1 : Int) := of_decide_eq_true (by first | (with_reducible assumption) | assumption)
   have q393 : x5_1 < (l0_0.length : Int) := of_decide_eq_true (by first | (with_reducible assumption) | assumption)
   obtain ⟨ad393, A393_2, c393_2, A393_3, c393_3, A393_4, c393_4, e393, hx393_0, hx393_1, hx393_2, hx393_3, hx393_4, hl393_2, hi393_2, hl393_3, hi393_3, hl393_4, hi393_4⟩ := at_T47 HR0_0.out x5_1 p393 q393
   have hw393_4 := hx393_4
   have hw393_3 := hx393_3
   have hw393_2 := hx393_2
   have hw393_1 := hx393_1
   have hw393_0 := hx393_0
   cases e393
   replace hx393_0 := (HB.out.cell (World.block_lt_of_cell? w _ hx393_0)).trans hx393_0
   replace hx393_1 := (HB.out.cell (World.block_lt_of_cell? w _ hx393_1)).trans hx393_1
   replace hx393_2 := (HB.out.cell (World.block_lt_of_cell? w _ hx393_2)).trans hx393_2
   replace hx393_3 := (HB.out.cell (World.block_lt_of_cell? w _ hx393_3)).trans hx393_3
   replace hx393_4 := (HB.out.cell (World.block_lt_of_cell? w _ hx393_4)).trans hx393_4
   have HR393_2 := Aq.mk hi393_2
   have HC393_2 := Aq.mk hl393_2
   clear hi393_2 hl393_2
   have HR393_3 := Aq.mk hi393_3
   have HC393_3 := Aq.mk hl393_3
   clear hi393_3 hl393_3
   have HR393_4 := Aq.mk hi393_4
   have HC393_4 := Aq.mk hl393_4
   clear hi393_4 hl393_4
   replace p393 := eq_true p393
   replace q393 := eq_true q393
   have p394 : 0 ≤ (x5_1 : Int) := of_decide_eq_true (by first | (with_reducible assumption) | assumption)
   have q394 : x5_1 < (l1_0.length : Int) := of_decide_eq_true (by first | (with_reducible assumption) | assumption)
   obtain ⟨ad394, A394_2, c394_2, A394_3, c394_3, A394_4, c394_4, e394, hx394_0, hx394_1, hx394_2, hx394_3, hx394_4, hl394_2, hi394_2, hl394_3, hi394_3, hl394_4, hi394_4⟩ := at_T47 HR1_0.out x5_1 p394 q394
   have hw394_4 := hx394_4
   have hw394_3 := hx394_3
   have hw394_2 := hx394_2
   have hw394_1 := hx394_1
   have hw394_0 := hx394_0
   cases e394
   replace hx394_0 := (HB.out.cell (World.block_lt_of_cell? w _ hx394_0)).trans hx394_0
   replace hx394_1 := (HB.out.cell (World.block_lt_of_cell? w _ hx394_1)).trans hx394_1
   replace hx394_2 := (HB.out.cell (World.block_lt_of_cell? w _ hx394_2)).trans hx394_2
   replace hx394_3 := (HB.out.cell (World.block_lt_of_cell? w _ hx394_3)).trans hx394_3
   replace hx394_4 := (HB.out.cell (World.block_lt_of_cell? w _ hx394_4)).trans hx394_4
   have HR394_2 := Aq.mk hi394_2
   have HC394_2 := Aq.mk hl394_2
   clear hi394_2 hl394_2
   have HR394_3 := Aq.mk hi394_3
   have HC394_3 := Aq.mk hl394_3
   clear hi394_3 hl394_3
   have HR394_4 := Aq.mk hi394_4
   have HC394_4 := Aq.mk hl394_4
   clear hi394_4 hl394_4
   replace p394 := eq_true p394
   replace q394 := eq_true q394
   refine start_ (n := 12) (S := fun w' => w'.cell? ⟨gb391, 0, none⟩ = some (.slice (some ad393) l0_0.length c0_0) ∧ w'.cell? ⟨gb392, 0, none⟩ = some (.slice (some ad394) l1_0.length c1_0) ∧ w'.cell? (ad393.add ((x5_1).toNat * 5)) = some (.int .i64 ((rd_T47 l0_0 x5_1).f0)) ∧ w'.cell? ⟨(ad393.add ((x5_1).toNat * 5)).block, (ad393.add ((x5_1).toNat * 5)).off + 1, none⟩ = some (.int .i64 ((rd_T47 l0_0 x5_1).f1)) ∧ w'.cell? ⟨(ad393.add ((x5_1).toNat * 5)).block, (ad393.add ((x5_1).toNat * 5)).off + 2, none⟩ = some (.slice A393_2 ((rd_T47 l0_0 x5_1).f2).length c393_2) ∧ w'.cell? ⟨(ad393.add ((x5_1).toNat * 5)).block, (ad393.add ((x5_1).toNat * 5)).off + 3, none⟩ = some (.slice A393_3 ((rd_T47 l0_0 x5_1).f3).length c393_3) ∧ w'.cell? ⟨(ad393.add ((x5_1).toNat * 5)).block, (ad393.add ((x5_1).toNat * 5)).off + 4, none⟩ = some (.slice A393_4 ((rd_T47 l0_0 x5_1).f4).length c393_4) ∧ w'.cell? (ad394.add ((x5_1).toNat * 5)) = some (.int .i64 ((rd_T47 l1_0 x5_1).f0)) ∧ w'.cell? ⟨(ad394.add ((x5_1).toNat * 5)).block, (ad394.add ((x5_1).toNat * 5)).off + 1, none⟩ = some (.int .i64 ((rd_T47 l1_0 x5_1).f1)) ∧ w'.cell? ⟨(ad394.add ((x5_1).toNat * 5)).block, (ad394.add ((x5_1).toNat * 5)).off + 2, none⟩ = some (.slice A394_2 ((rd_T47 l1_0 x5_1).f2).length c394_2) ∧ w'.cell? ⟨(ad394.add ((x5_1).toNat * 5)).block, (ad394.add ((x5_1).toNat * 5)).off + 3, none⟩ = some (.slice A394_3 ((rd_T47 l1_0 x5_1).f3).length c394_3) ∧ w'.cell? ⟨(ad394.add ((x5_1).toNat * 5)).block, (ad394.add ((x5_1).toNat * 5)).off + 4, none⟩ = some (.slice A394_4 ((rd_T47 l1_0 x5_1).f4).length c394_4)) (ds := []) #[false, false, false, false, false, false, false, false, false, false, false, false] (by kernel_rfl) rfl rfl ⟨(q3q BK391.out 0).trans rfl, (q3q BK392.out 0).trans rfl, ((HB.out.cell (World.block_lt_of_cell? w _ hw393_0)).trans hw393_0), ((HB.out.cell (World.block_lt_of_cell? w _ hw393_1)).trans hw393_1), ((HB.out.cell (World.block_lt_of_cell? w _ hw393_2)).trans hw393_2), ((HB.out.cell (World.block_lt_of_cell? w _ hw393_3)).trans hw393_3), ((HB.out.cell (World.block_lt_of_cell? w _ hw393_4)).trans hw393_4), ((HB.out.cell (World.block_lt_of_cell? w _ hw394_0)).trans hw394_0), ((HB.out.cell (World.block_lt_of_cell? w _ hw394_1)).trans hw394_1), ((HB.out.cell (World.block_lt_of_cell? w _ hw394_2)).trans hw394_2), ((HB.out.cell (World.block_lt_of_cell? w _ hw394_3)).trans hw394_3), ((HB.out.cell (World.block_lt_of_cell? w _ hw394_4)).trans hw394_4)⟩ (fun hHeld => ?_); refine with_tabW fQ7.tab6 fQ7.bits6 (fun HT_ HW_ => ?_)
   generalize wr.drew = w16 at BK391 BK392 HB HR393_2 HR393_3 HR393_4 HR394_2 HR394_3 HR394_4 hx393_0 hx393_1 hx393_2 hx393_3 hx393_4 hx394_0 hx394_1 hx394_2 hx394_3 hx394_4 hHeld ⊢
   refine pure_ (i := 0) (N := some 20) (v := ?_) (a' := ?_) (bA 12 1) rfl rfl (q17q HT_.out (by kernel_rfl)) (fun _ _ _ h => h) (Or.inl ⟨by rfl, ?_⟩) ?_ ?_
   rotate_left
   ·intro w'
    go_simp
    with_reducible rfl
   rotate_left
   ·simp only [Act.put, sA_, sZ_, sS_, i64_w, i32_w]
    rfl
   refine pure_ (i := 2) (N := some 22) (v := ?_) (a' := ?_) (bA 12 5) rfl rfl (q17q HT_.out (by kernel_rfl)) (fun _ _ _ h => h) (Or.inl ⟨by rfl, ?_⟩) ?_ ?_
   rotate_left
   ·intro w'
    go_simp
    with_reducible rfl
   rotate_left
   ·simp only [Act.put, sA_, sZ_, sS_, i64_w, i32_w]
    rfl
   refine pure_ (i := 5) (N := some 25) (v := ?_) (a' := ?_) (bA 12 37) rfl rfl (q17q HT_.out (by kernel_rfl)) (fun _ _ _ h => h) (Or.inl ⟨by rfl, ?_⟩) ?_ ?_
   rotate_left
   ·intro w'
    go_simp
    with_reducible rfl
   rotate_left
   ·simp only [Act.put, sA_, sZ_, sS_, i64_w, i32_w]
    rfl
   refine pure_ (i := 7) (N := some 27) (v := ?_) (a' := ?_) (bA 12 165) rfl rfl (q17q HT_.out (by kernel_rfl)) (fun _ _ _ h => h) (Or.inl ⟨by rfl, ?_⟩) ?_ ?_
   rotate_left
   ·intro w'
    go_simp
    with_reducible rfl
   rotate_left
   ·simp only [Act.put, sA_, sZ_, sS_, i64_w, i32_w]
    rfl
   refine take_ (i := 1) (N := some 21) (v := ?_) (a' := ?_) (bA 12 167) rfl rfl (q32q HT_.out HW_.out (by kernel_rfl)) (fun _ _ _ h => h) (Or.inl ⟨by rfl, ?_⟩) hHeld ?_ ?_
   rotate_left
   ·rintro w' ⟨s0, s1, s2, s3, s4, s5, s6, s7, s8, s9, s10, s11⟩
    go_simp
    with_reducible rfl
   rotate_left
   ·simp only [Act.put, sA_, sZ_, sS_, i64_w, i32_w]
    rfl
   refine pure_ (i := 3) (N := some 23) (v := ?_) (a' := ?_) (bA 12 175) rfl rfl (q17q HT_.out (by kernel_rfl)) (fun _ _ _ h => h) (Or.inl ⟨by rfl, ?_⟩) ?_ ?_
   rotate_left
   ·intro w'
    go_simp
    with_reducible rfl
   rotate_left
   ·simp only [Act.put, sA_, sZ_, sS_, i64_w, i32_w]
    rfl
   refine take_ (i := 4) (N := some 24) (v := ?_) (a' := ?_) (bA 12 191) rfl rfl (q32q HT_.out HW_.out (by kernel_rfl)) (fun _ _ _ h => h) (Or.inl ⟨by rfl, ?_⟩) hHeld ?_ ?_
   rotate_left
   ·rintro w' ⟨s0, s1, s2, s3, s4, s5, s6, s7, s8, s9, s10, s11⟩
    go_simp
    with_reducible rfl
   rotate_left
   ·simp only [Act.put, sA_, sZ_, sS_, i64_w, i32_w]
    rfl
   refine take_ (i := 6) (N := some 26) (v := ?_) (a' := ?_) (bA 12 255) rfl rfl (q32q HT_.out HW_.out (by kernel_rfl)) (fun _ _ _ h => h) (Or.inl ⟨by rfl, ?_⟩) hHeld ?_ ?_
   rotate_left
   ·rintro w' ⟨s0, s1, s2, s3, s4, s5, s6, s7, s8, s9, s10, s11⟩
    go_simp
    with_reducible rfl
   rotate_left
   ·simp only [Act.put, sA_, sZ_, sS_, i64_w, i32_w]
    rfl
   refine pure_ (i := 8) (N := some 28) (v := ?_) (a' := ?_) (bA 12 511) rfl rfl (q17q HT_.out (by kernel_rfl)) (fun _ _ _ h => h) (Or.inl ⟨by rfl, ?_⟩) ?_ ?_
   rotate_left
   ·intro w'
    go_simp
    with_reducible rfl
   rotate_left
   ·simp only [Act.put, sA_, sZ_, sS_, i64_w, i32_w]
    rfl
   refine take_ (i := 9) (N := some 29) (v := ?_) (a' := ?_) (bA 12 1023) rfl rfl (q32q HT_.out HW_.out (by kernel_rfl)) (fun _ _ _ h => h) (Or.inl ⟨by rfl, ?_⟩) hHeld ?_ ?_
   rotate_left
   ·rintro w' ⟨s0, s1, s2, s3, s4, s5, s6, s7, s8, s9, s10, s11⟩
    go_simp
    with_reducible rfl
   rotate_left
   ·simp only [Act.put, sA_, sZ_, sS_, i64_w, i32_w]
    rfl
   refine one_ (i := 10) (N := some 30) (bA 12 2047) rfl rfl (q39q HT_.out (by kernel_rfl)) (by decide) (fun K hK => ?_)
   refine goes_ Try.func30 (by kernel_rfl) rfl #[.agg #[.int .i64 ((rd_T47 l0_0 x5_1).f0), .int .i64 ((rd_T47 l0_0 x5_1).f1), .slice A393_2 ((rd_T47 l0_0 x5_1).f2).length c393_2, .slice A393_3 ((rd_T47 l0_0 x5_1).f3).length c393_3, .slice A393_4 ((rd_T47 l0_0 x5_1).f4).length c393_4], .agg #[.int .i64 ((rd_T47 l1_0 x5_1).f0), .int .i64 ((rd_T47 l1_0 x5_1).f1), .slice A394_2 ((rd_T47 l1_0 x5_1).f2).length c394_2, .slice A394_3 ((rd_T47 l1_0 x5_1).f3).length c394_3, .slice A394_4 ((rd_T47 l1_0 x5_1).f4).length c394_4]] (by rfl) rfl rfl (by (try simp only [List.map_toArray, List.map_cons, List.map_nil]); first | done | rfl) ?_
   with_reducible refine (fQ5.calls k1 ((rd_T47 l0_0 x5_1).f0) ((rd_T47 l0_0 x5_1).f1) _ _ ((rd_T47 l0_0 x5_1).f2) _ _ ((rd_T47 l0_0 x5_1).f3) _ _ ((rd_T47 l0_0 x5_1).f4) ((rd_T47 l1_0 x5_1).f0) ((rd_T47 l1_0 x5_1).f1) _ _ ((rd_T47 l1_0 x5_1).f2) _ _ ((rd_T47 l1_0 x5_1).f3) _ _ ((rd_T47 l1_0 x5_1).f4) true _ ?side1 ?side2 ?side3 ?side4 ?side5 ?side6 ?side7 ?side8 ?side9 ?side10 ?side11 ?side12 A12.out).mono ?_
   (case side1 => repeat (first | exact (Kd.q19q HR393_2.out HB.out) | (with_reducible refine Kd.C_alloc ?_ _) | (with_reducible refine Kd.C_drewN ?_ _) | (with_reducible refine Kd.C_drew ?_)))
   (case side2 => exact HC393_2.out)
   (case side3 => repeat (first | exact (Kd.q19q HR393_3.out HB.out) | (with_reducible refine Kd.C_alloc ?_ _) | (with_reducible refine Kd.C_drewN ?_ _) | (with_reducible refine Kd.C_drew ?_)))
   (case side4 => exact HC393_3.out)
   (case side5 => repeat (first | exact (Kd.q19q HR393_4.out HB.out) | (with_reducible refine Kd.C_alloc ?_ _) | (with_reducible refine Kd.C_drewN ?_ _) | (with_reducible refine Kd.C_drew ?_)))
   (case side6 => exact HC393_4.out)
   (case side7 => repeat (first | exact (Kd.q19q HR394_2.out HB.out) | (with_reducible refine Kd.C_alloc ?_ _) | (with_reducible refine Kd.C_drewN ?_ _) | (with_reducible refine Kd.C_drew ?_)))
   (case side8 => exact HC394_2.out)
   (case side9 => repeat (first | exact (Kd.q19q HR394_3.out HB.out) | (with_reducible refine Kd.C_alloc ?_ _) | (with_reducible refine Kd.C_drewN ?_ _) | (with_reducible refine Kd.C_drew ?_)))
   (case side10 => exact HC394_3.out)
   (case side11 => repeat (first | exact (Kd.q19q HR394_4.out HB.out) | (with_reducible refine Kd.C_alloc ?_ _) | (with_reducible refine Kd.C_drewN ?_ _) | (with_reducible refine Kd.C_drew ?_)))
   (case side12 => exact HC394_4.out)
   rintro e w17 ⟨rfl, hb⟩
   refine ⟨_, rfl, ?_⟩
   have n0_ := Aq.mk (q13q (g := gb391) (o := .cells #[.slice (some ad393) l0_0.length c0_0] 24 (0, 0)) BK391.out hb)
   have n1_ := Aq.mk (q13q (g := gb392) (o := .cells #[.slice (some ad394) l1_0.length c1_0] 24 (0, 0)) BK392.out hb)
   have n2_ := Aq.mk (q10q (by repeat (with_reducible first | exact HB.out | apply q4q | apply q0q | apply q2q | refine q5q ?_ GE391.out | refine q5q ?_ GE392.out)) hb)
   clear BK391
   clear BK392
   clear HB
   have BK391 := n0_
   have BK392 := n1_
   have HB := n2_
   clear n0_ n1_ n2_
   (try clear hb)
   (try clear hb2)
   (try clear hk)
   (try clear hi)
   refine hK.out _ _ ⟨(q3q BK391.out 0).trans rfl, (q3q BK392.out 0).trans rfl, ((HB.out.cell (World.block_lt_of_cell? w _ hw393_0)).trans hw393_0), ((HB.out.cell (World.block_lt_of_cell? w _ hw393_1)).trans hw393_1), ((HB.out.cell (World.block_lt_of_cell? w _ hw393_2)).trans hw393_2), ((HB.out.cell (World.block_lt_of_cell? w _ hw393_3)).trans hw393_3), ((HB.out.cell (World.block_lt_of_cell? w _ hw393_4)).trans hw393_4), ((HB.out.cell (World.block_lt_of_cell? w _ hw394_0)).trans hw394_0), ((HB.out.cell (World.block_lt_of_cell? w _ hw394_1)).trans hw394_1), ((HB.out.cell (World.block_lt_of_cell? w _ hw394_2)).trans hw394_2), ((HB.out.cell (World.block_lt_of_cell? w _ hw394_3)).trans hw394_3), ((HB.out.cell (World.block_lt_of_cell? w _ hw394_4)).trans hw394_4)⟩ (fun hHeld => ?_)
   clear hK K
   refine norm_ (a' := ?_) ?_ ?_
   rotate_left
   ·show Act.put _ (some 30) _ = _
    simp only [Act.put, sA_, sZ_, sS_, i64_w, i32_w]
    rfl
   refine pure_ (i := 11) (N := some 31) (v := ?_) (a' := ?_) (bA 12 4095) rfl rfl (q17q HT_.out (by kernel_rfl)) (fun _ _ _ h => h) (Or.inl ⟨by rfl, ?_⟩) ?_ ?_
   rotate_left
   ·intro w'
    go_simp
    with_reducible rfl
   rotate_left
   ·simp only [Act.put, sA_, sZ_, sS_, i64_w, i32_w]
    rfl
   refine done_ (done_of HT_.out (by kernel_rfl)) ?_
   try go_wp2
   go_roundg k1
   case measure => have := HK1.out; omega
   case rel => exact ⟨(wrap64 (x5_1 + 1)), (by first | rfl | (simp; done) | (simp [*]; done)), H', ⟨by have := HK1.out; omega⟩, ⟨BK391.out⟩, ⟨BK392.out⟩, ⟨by repeat (with_reducible first | exact HB.out | apply q4q | apply q0q | apply q2q | refine q5q ?_ GE391.out | refine q5q ?_ GE392.out)⟩⟩
end Go.Proofs.Ytkkgbbfojmnopaa.G
end
