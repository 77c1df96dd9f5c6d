import Derived.Test.YtkkgbbfojmnopaaPLaGx0
import Derived.Test.YtkkgbbfojmnopaaPLaGxF21
import Derived.Test.YtkkgbbfojmnopaaPLaGxF22
import Derived.Test.YtkkgbbfojmnopaaPLaGxF23
set_option linter.unusedVariables false
set_option linter.unusedSimpArgs false
section
namespace Go.Proofs.Ytkkgbbfojmnopaa.G
open Go.RowKit Go.Proofs.YtkkgbbfojmnopaaW.PrintWords Go.Proofs.YtkkgbbfojmnopaaW.PrintLast Go.Proofs.YtkkgbbfojmnopaaW.PrintMore
attribute [local go_sem] q25q q26q q30q q31q q20q q21q q27q q28q
def tallowref21_Encode.l0 : Nat → ByteArray → Int → List (S47) → Option (ByteArray × Int)
 | 0, _, _, _ => none
 | k + 1, x5, x6, x289000 => if x6 < (x289000.length : Int) then (if 0 ≤ x6 then ((tallowref21_proto.f k ((rd_T47 x289000 x6).f0) ((rd_T47 x289000 x6).f1) ((rd_T47 x289000 x6).f2) ((rd_T47 x289000 x6).f3) ((rd_T47 x289000 x6).f4)).bind fun t292 => (if x5.size + t292.size ≤ 9223372036854775807 then (tallowref21_Encode.l0 k (x5 ++ t292) (wrap64 (x6 + 1)) x289000) else (none))) else (none)) else (if (x5.size : Int) > 262144 then (some ((⟨#[]⟩ : ByteArray), 3)) else (some (x5, 0)))
def tallowref21_Encode.f (k : Nat) (l0_0 : List (S47)) : Option (ByteArray × Int) := (tallowref20_Check.f k l0_0).bind fun t289 => (if t289 = 0 then ((tallowref21_natural.f k (l0_0.length : Int)).bind fun t290 => (tallowref21_Encode.l0 k t290 0 l0_0)) else (some ((⟨#[]⟩ : ByteArray), t289)))
set_option maxHeartbeats 8000000 in
set_option maxRecDepth 100000 in
theorem tallowref21_Encode.calls (k : Nat) (A0_0 : Option Addr) (c0_0 : Nat) (l0_0 : List (S47)) (r1 : ByteArray) (r2 : Int) (w : World) (hr0_0 : Kd.C k47 w A0_0 l0_0.length l0_0) (hc0_0 : l0_0.length ≤ c0_0) (h : tallowref21_Encode.f k l0_0 = some (r1, r2)) :
  Calls Try.prog 11 #[.agg #[.slice A0_0 l0_0.length c0_0]] w fun e w' => e = .returned (.tuple #[.string r1, .int .i64 r2]) ∧ Below w.heap.size w w' := by
 have hu24 := Try.underlying24
 have hu47 := Try.underlying47
 have HR0_0 := Aq.mk hr0_0
 have HC0_0 := Aq.mk hc0_0
 clear hr0_0 hc0_0
 have HB := Aq.mk (Below.refl w.heap.size w)
 have H : ((tallowref20_Check.f k l0_0).bind fun t289 => (if t289 = 0 then ((tallowref21_natural.f k (l0_0.length : Int)).bind fun t290 => (tallowref21_Encode.l0 k t290 0 l0_0)) else (some ((⟨#[]⟩ : ByteArray), t289)))) = some (r1, r2) := h
 clear h
 replace H := Option.bind_eq_some_iff.mp H
 obtain ⟨t289, A20, H⟩ := H
 replace H : (if t289 = 0 then ((tallowref21_natural.f k (l0_0.length : Int)).bind fun t290 => (tallowref21_Encode.l0 k t290 0 l0_0)) else (some ((⟨#[]⟩ : ByteArray), t289))) = some (r1, r2) := H
 have A2 := Aq.mk A20
 clear A20
 by_cases c3 : t289 = 0
 case neg =>
  rw [if_neg c3] at H
  have c3b0 : (t289 == 0) = false := beq_eq_false_iff_ne.mpr c3
  have c3b1 : (t289 != 0) = true := bne_iff_ne.mpr c3
  simp only [Option.some.injEq, Prod.mk.injEq] at H
  obtain ⟨rfl, rfl⟩ := H
  go_enter Try.func11, Try.ntmps11
  go_wp2_with (first | ((with_reducible refine q13q (N := 1) rfl ?_); refine q11q ?hg (N := 1) ?hd (cs := #[.slice A0_0 l0_0.length c0_0]) (t := 24) ?hr ?_; (case hd => rfl); (case hg => rfl); (case hr => first | (go_simp; done) | (go_simp; rfl)); intro gb288 hg w19 hbox hb; have n0_ := Aq.mk (q10q (by repeat (with_reducible first | exact HB.out | apply q4q | apply q0q | apply q2q)) hb); have n1_ := Aq.mk (hbox); have n2_ := Aq.mk ((by rw [hg]; exact (q8q (by repeat (with_reducible first | exact HB.out | apply q4q | apply q0q | apply q2q))) : w.heap.size ≤ gb288)); have n3_ := Aq.mk ((by rw [hg]; exact (q8q (by repeat (with_reducible first | exact HB.out | apply q4q | apply q0q | apply q2q))) : w.heap.size ≤ gb288)); clear HB; have HB := n0_; have BK288 := n1_; have GW288 := n2_; have GE288 := n3_; clear n0_ n1_ n2_ n3_; clear hb hbox hg; have hcz20_0 : w19.cell? ⟨gb288, 0, none⟩ = some (.slice A0_0 l0_0.length c0_0) := (q1q BK288.out 0).trans rfl; have hfz20_0 := q3q BK288.out 0) | ((with_reducible refine q17q (f := 21) rfl ?_); refine q29q (some 8) rfl rfl Try.func21 (by kernel_rfl) rfl #[.agg #[.slice A0_0 l0_0.length c0_0]] rfl (by (try simp only [List.map_toArray, List.map_cons, List.map_nil]); first | done | rfl) ?_; (with_reducible refine (tallowref20_Check.calls k _ _ l0_0 t289 _ ?side1 ?side2 A2.out).mono ?_); (case side1 => repeat (first | exact (Kd.q19q HR0_0.out HB.out) | (with_reducible refine Kd.C_alloc ?_ _) | (with_reducible refine Kd.C_drewN ?_ _) | (with_reducible refine Kd.C_drew ?_))); (case side2 => exact HC0_0.out); rintro e w21 ⟨rfl, hb⟩; refine ⟨_, rfl, ?_⟩; have n0_ := Aq.mk (q12q (g := gb288) (o := .cells #[.slice A0_0 l0_0.length c0_0] 24 (0, 0)) BK288.out hb); have n1_ := Aq.mk (q10q (by repeat (with_reducible first | exact HB.out | apply q4q | apply q0q | apply q2q | refine q5q ?_ GE288.out)) hb); clear BK288; clear HB; have BK288 := n0_; have HB := n1_; clear n0_ n1_; (try clear hb); (try clear hb2); (try clear hk); (try clear hi)))
  go_ret2
  exact ⟨by first | rfl | (simp [*] <;> rfl), by repeat (with_reducible first | exact HB.out | apply q4q | apply q0q | apply q2q | refine q5q ?_ GE288.out)⟩
 rw [if_pos c3] at H
 have c3b0 : (t289 == 0) = true := beq_iff_eq.mpr c3
 have c3b1 : (t289 != 0) = false := bne_eq_false_iff_eq.mpr c3
 clear c3
 replace H := Option.bind_eq_some_iff.mp H
 obtain ⟨t290, A40, H⟩ := H
 replace H : (tallowref21_Encode.l0 k t290 0 l0_0) = some (r1, r2) := H
 have A4 := Aq.mk A40
 clear A40
 have H' := Aq.mk H
 clear H
 go_enter Try.func11, Try.ntmps11
 go_wp2_with (first | ((with_reducible refine q13q (N := 1) rfl ?_); refine q11q ?hg (N := 1) ?hd (cs := #[.slice A0_0 l0_0.length c0_0]) (t := 24) ?hr ?_; (case hd => rfl); (case hg => rfl); (case hr => first | (go_simp; done) | (go_simp; rfl)); intro gb288 hg w5 hbox hb; have n0_ := Aq.mk (q10q (by repeat (with_reducible first | exact HB.out | apply q4q | apply q0q | apply q2q)) hb); have n1_ := Aq.mk (hbox); have n2_ := Aq.mk ((by rw [hg]; exact (q8q (by repeat (with_reducible first | exact HB.out | apply q4q | apply q0q | apply q2q))) : w.heap.size ≤ gb288)); have n3_ := Aq.mk ((by rw [hg]; exact (q8q (by repeat (with_reducible first | exact HB.out | apply q4q | apply q0q | apply q2q))) : w.heap.size ≤ gb288)); clear HB; have HB := n0_; have BK288 := n1_; have GW288 := n2_; have GE288 := n3_; clear n0_ n1_ n2_ n3_; clear hb hbox hg; have hcz6_0 : w5.cell? ⟨gb288, 0, none⟩ = some (.slice A0_0 l0_0.length c0_0) := (q1q BK288.out 0).trans rfl; have hfz6_0 := q3q BK288.out 0) | ((with_reducible refine q17q (f := 21) rfl ?_); refine q29q (some 8) rfl rfl Try.func21 (by kernel_rfl) rfl #[.agg #[.slice A0_0 l0_0.length c0_0]] rfl (by (try simp only [List.map_toArray, List.map_cons, List.map_nil]); first | done | rfl) ?_; (with_reducible refine (tallowref20_Check.calls k _ _ l0_0 t289 _ ?side1 ?side2 A2.out).mono ?_); (case side1 => repeat (first | exact (Kd.q19q HR0_0.out HB.out) | (with_reducible refine Kd.C_alloc ?_ _) | (with_reducible refine Kd.C_drewN ?_ _) | (with_reducible refine Kd.C_drew ?_))); (case side2 => exact HC0_0.out); rintro e w7 ⟨rfl, hb⟩; refine ⟨_, rfl, ?_⟩; have n0_ := Aq.mk (q12q (g := gb288) (o := .cells #[.slice A0_0 l0_0.length c0_0] 24 (0, 0)) BK288.out hb); have n1_ := Aq.mk (q10q (by repeat (with_reducible first | exact HB.out | apply q4q | apply q0q | apply q2q | refine q5q ?_ GE288.out)) hb); clear BK288; clear HB; have BK288 := n0_; have HB := n1_; clear n0_ n1_; (try clear hb); (try clear hb2); (try clear hk); (try clear hi); have hcz8_0 : w7.cell? ⟨gb288, 0, none⟩ = some (.slice A0_0 l0_0.length c0_0) := (q1q BK288.out 0).trans rfl; have hfz8_0 := q3q BK288.out 0) | ((with_reducible refine q17q (f := 22) rfl ?_); refine q29q (some 15) rfl rfl Try.func22 (by kernel_rfl) rfl #[.int .i64 (l0_0.length : Int)] rfl (by (try simp only [List.map_toArray, List.map_cons, List.map_nil]); first | done | rfl) ?_; (with_reducible refine (tallowref21_natural.calls k (l0_0.length : Int) t290 _ A4.out).mono ?_); rintro e w9 ⟨rfl, hb⟩; refine ⟨_, rfl, ?_⟩; have n0_ := Aq.mk (q12q (g := gb288) (o := .cells #[.slice A0_0 l0_0.length c0_0] 24 (0, 0)) BK288.out hb); have n1_ := Aq.mk (q10q (by repeat (with_reducible first | exact HB.out | apply q4q | apply q0q | apply q2q | refine q5q ?_ GE288.out)) hb); clear BK288; clear HB; have BK288 := n0_; have HB := n1_; clear n0_ n1_; (try clear hb); (try clear hb2); (try clear hk); (try clear hi)))
 go_loopg [5, 6] k (fun kq v5 v6 w' => ∃ (x5_1 : ByteArray) (x6_1 : Int), v5 = .string x5_1 ∧ v6 = .int .i64 x6_1 ∧ Aq (tallowref21_Encode.l0 kq x5_1 x6_1 l0_0 = some (r1, r2)) ∧ Aq (kq ≤ k) ∧ Aq (w'.heap[gb288]? = some (.cells #[(.slice A0_0 l0_0.length c0_0)] 24 (0, 0))) ∧ Aq (Below w.heap.size w w'))
 case atStart => exact ⟨(t290), (0), (by first | rfl | (simp; done) | (simp [*]; done)), (by first | rfl | (simp; done) | (simp [*]; done)), H', ⟨Nat.le_refl _⟩, ⟨BK288.out⟩, ⟨by repeat (with_reducible first | exact HB.out | apply q4q | apply q0q | apply q2q | refine q5q ?_ GE288.out)⟩⟩
 case round =>
  clear H'
  try clear c1
  try clear c2
  try clear p2
  try clear c3
  try clear c3b0
  try clear c3b1
  try clear hcz6_0
  try clear hcz8_0
  try clear hfz6_0
  try clear hfz8_0
  obtain ⟨x5_1, x6_1, rfl, rfl, HA, HK1, BK288, HB⟩ := hrel
  cases gk with
  | zero => exact absurd HA.out (by simp [tallowref21_Encode.l0])
  | succ k1 =>
   have H := HA.out
   clear HA
   simp only [tallowref21_Encode.l0] at H
   by_cases c10 : x6_1 < (l0_0.length : Int)
   case neg =>
    rw [if_neg c10] at H
    have c10b0 : decide (x6_1 < (l0_0.length : Int)) = false := decide_eq_false c10
    clear c10
    by_cases c16 : (x5_1.size : Int) > 262144
    ·rw [if_pos c16] at H
     have c16b0 : decide (262144 < (x5_1.size : Int)) = true := decide_eq_true c16
     have c16b1 : decide (262144 < x5_1.size) = true := decide_eq_true (by omega)
     clear c16
     simp only [Option.some.injEq, Prod.mk.injEq] at H
     obtain ⟨rfl, rfl⟩ := H
     have hcz17_0 : wr.cell? ⟨gb288, 0, none⟩ = some (.slice A0_0 l0_0.length c0_0) := (q1q BK288.out 0).trans rfl
     have hfz17_0 := q3q BK288.out 0
     go_wp2
     go_ret2
     exact ⟨by first | rfl | (simp [*] <;> rfl), by repeat (with_reducible first | exact HB.out | apply q4q | apply q0q | apply q2q | refine q5q ?_ GE288.out)⟩
    rw [if_neg c16] at H
    have c16b0 : decide (262144 < (x5_1.size : Int)) = false := decide_eq_false c16
    have c16b1 : decide (262144 < x5_1.size) = false := decide_eq_false (by omega)
    clear c16
    simp only [Option.some.injEq, Prod.mk.injEq] at H
    obtain ⟨rfl, rfl⟩ := H
    have hcz18_0 : wr.cell? ⟨gb288, 0, none⟩ = some (.slice A0_0 l0_0.length c0_0) := (q1q BK288.out 0).trans rfl
    have hfz18_0 := q3q BK288.out 0
    go_wp2
    go_ret2
    exact ⟨by first | rfl | (simp [*] <;> rfl), by repeat (with_reducible first | exact HB.out | apply q4q | apply q0q | apply q2q | refine q5q ?_ GE288.out)⟩
   rw [if_pos c10] at H
   have c10b0 : decide (x6_1 < (l0_0.length : Int)) = true := decide_eq_true c10
   clear c10
   by_cases c11 : 0 ≤ x6_1
   case neg =>
    rw [if_neg c11] at H
    exact absurd H (by simp)
   rw [if_pos c11] at H
   have c11b0 : decide (0 ≤ x6_1) = true := decide_eq_true c11
   clear c11
   replace H := Option.bind_eq_some_iff.mp H
   obtain ⟨t292, A120, H⟩ := H
   replace H : (if x5_1.size + t292.size ≤ 9223372036854775807 then (tallowref21_Encode.l0 k1 (x5_1 ++ t292) (wrap64 (x6_1 + 1)) l0_0) else (none)) = some (r1, r2) := H
   have A12 := Aq.mk A120
   clear A120
   by_cases c13 : x5_1.size + t292.size ≤ 9223372036854775807
   case neg =>
    rw [if_neg c13] at H
    exact absurd H (by simp)
   rw [if_pos c13] at H
   have c13b0 := eq_true c13
   have c13b1 : decide (x5_1.size + t292.size ≤ 9223372036854775807) = true := decide_eq_true c13
   try have c13b2 : (9223372036854775807 < x5_1.size + t292.size) = False := eq_false (Nat.not_lt.2 c13)
   have H' := Aq.mk H
   clear H
   have hcz14_0 : wr.cell? ⟨gb288, 0, none⟩ = some (.slice A0_0 l0_0.length c0_0) := (q1q BK288.out 0).trans rfl
   have hfz14_0 := q3q BK288.out 0
   have p291 : 0 ≤ (x6_1 : Int) := of_decide_eq_true (by first | (with_reducible assumption) | assumption)
   have q291 : x6_1 < (l0_0.length : Int) := of_decide_eq_true (by first | (with_reducible assumption) | assumption)
   obtain ⟨ad291, A291_2, c291_2, A291_3, c291_3, A291_4, c291_4, e291, hx291_0, hx291_1, hx291_2, hx291_3, hx291_4, hl291_2, hi291_2, hl291_3, hi291_3, hl291_4, hi291_4⟩ := at_T47 HR0_0.out x6_1 p291 q291
   cases e291
   replace hx291_0 := (HB.out.cell (World.block_lt_of_cell? w _ hx291_0)).trans hx291_0
   replace hx291_1 := (HB.out.cell (World.block_lt_of_cell? w _ hx291_1)).trans hx291_1
   replace hx291_2 := (HB.out.cell (World.block_lt_of_cell? w _ hx291_2)).trans hx291_2
   replace hx291_3 := (HB.out.cell (World.block_lt_of_cell? w _ hx291_3)).trans hx291_3
   replace hx291_4 := (HB.out.cell (World.block_lt_of_cell? w _ hx291_4)).trans hx291_4
   have HR291_2 := Aq.mk hi291_2
   have HC291_2 := Aq.mk hl291_2
   clear hi291_2 hl291_2
   have HR291_3 := Aq.mk hi291_3
   have HC291_3 := Aq.mk hl291_3
   clear hi291_3 hl291_3
   have HR291_4 := Aq.mk hi291_4
   have HC291_4 := Aq.mk hl291_4
   clear hi291_4 hl291_4
   replace p291 := eq_true p291
   replace q291 := eq_true q291
   go_wp2_with (first | ((with_reducible refine q17q (f := 23) rfl ?_); refine q29q (some 29) rfl rfl Try.func23 (by kernel_rfl) rfl #[.agg #[.int .i64 ((rd_T47 l0_0 x6_1).f0), .int .i64 ((rd_T47 l0_0 x6_1).f1), .slice A291_2 ((rd_T47 l0_0 x6_1).f2).length c291_2, .slice A291_3 ((rd_T47 l0_0 x6_1).f3).length c291_3, .slice A291_4 ((rd_T47 l0_0 x6_1).f4).length c291_4]] rfl (by (try simp only [List.map_toArray, List.map_cons, List.map_nil]); first | done | rfl) ?_; (with_reducible refine (tallowref21_proto.calls k1 ((rd_T47 l0_0 x6_1).f0) ((rd_T47 l0_0 x6_1).f1) _ _ ((rd_T47 l0_0 x6_1).f2) _ _ ((rd_T47 l0_0 x6_1).f3) _ _ ((rd_T47 l0_0 x6_1).f4) t292 _ ?side1 ?side2 ?side3 ?side4 ?side5 ?side6 A12.out).mono ?_); (case side1 => repeat (first | exact (Kd.q19q HR291_2.out HB.out) | (with_reducible refine Kd.C_alloc ?_ _) | (with_reducible refine Kd.C_drewN ?_ _) | (with_reducible refine Kd.C_drew ?_))); (case side2 => exact HC291_2.out); (case side3 => repeat (first | exact (Kd.q19q HR291_3.out HB.out) | (with_reducible refine Kd.C_alloc ?_ _) | (with_reducible refine Kd.C_drewN ?_ _) | (with_reducible refine Kd.C_drew ?_))); (case side4 => exact HC291_3.out); (case side5 => repeat (first | exact (Kd.q19q HR291_4.out HB.out) | (with_reducible refine Kd.C_alloc ?_ _) | (with_reducible refine Kd.C_drewN ?_ _) | (with_reducible refine Kd.C_drew ?_))); (case side6 => exact HC291_4.out); rintro e w15 ⟨rfl, hb⟩; refine ⟨_, rfl, ?_⟩; have n0_ := Aq.mk (q12q (g := gb288) (o := .cells #[.slice (some ad291) l0_0.length c0_0] 24 (0, 0)) BK288.out hb); have n1_ := Aq.mk (q10q (by repeat (with_reducible first | exact HB.out | apply q4q | apply q0q | apply q2q | refine q5q ?_ GE288.out)) hb); clear BK288; clear HB; have BK288 := n0_; have HB := n1_; clear n0_ n1_; (try clear hb); (try clear hb2); (try clear hk); (try clear hi)))
   go_roundg k1
   case measure => have := HK1.out; omega
   case rel => exact ⟨(x5_1 ++ t292), (wrap64 (x6_1 + 1)), (by first | rfl | (simp; done) | (simp [*]; done)), (by first | rfl | (simp; done) | (simp [*]; done)), H', ⟨by have := HK1.out; omega⟩, ⟨BK288.out⟩, ⟨by repeat (with_reducible first | exact HB.out | apply q4q | apply q0q | apply q2q | refine q5q ?_ GE288.out)⟩⟩
end Go.Proofs.Ytkkgbbfojmnopaa.G
end
