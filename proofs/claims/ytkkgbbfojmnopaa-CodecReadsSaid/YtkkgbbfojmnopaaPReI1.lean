import Derived.Test.YtkkgbbfojmnopaaPReGxF67
import Derived.Test.YtkkgbbfojmnopaaPReIK
import Derived.Lib.Hide
set_option linter.unusedVariables false
set_option linter.unusedSimpArgs false
section
namespace Go.Proofs.Ytkkgbbfojmnopaa.G
open Go.RowKit Go.Proofs.YtkkgbbfojmnopaaW.PrintWords Go.Proofs.YtkkgbbfojmnopaaW.PrintLast Go.Proofs.YtkkgbbfojmnopaaW.PrintMore
theorem rbelow_eq (a b : Int) : fQ17.f a b = some (decide (0 ≤ a ∧ a < b)) := by
 unfold fQ17.f
 by_cases h : a ≥ 0
 ·rw [if_pos h]; congr 1; rw [decide_eq_decide]; omega
 rw [if_neg h]; congr 1; symm; rw [decide_eq_false_iff_not]; omega
theorem rbelow_any (a b : Int) (w : World) : Calls Try.prog 67 #[.int .i64 a, .int .i64 b] w fun e w' => e = .returned (.bool (decide (0 ≤ a ∧ a < b))) ∧ Drawn0 w w' := fQ17.calls a b _ w (rbelow_eq a b)
set_option maxHeartbeats 8000000 in
set_option maxRecDepth 100000 in
theorem insG0 (op : Int) (hop : op = 0 ∨ op = 5 ∨ op = 8 ∨ op = 13 ∨ op = 19 ∨ op = 30 ∨ op = 31 ∨ op = 32) (a0_0 a0_1 : Int) (A0_2 : Option Addr) (c0_2 : Nat) (l0_2 : List (S50)) (A0_3 : Option Addr) (c0_3 : Nat) (l0_3 : List (S42)) (A0_4 : Option Addr) (c0_4 : Nat) (l0_4 : List (S52)) (a b protos : Int) (w : World) (hr0_3 : Kd.C k42 w A0_3 l0_3.length l0_3) :
  Calls Try.prog 68 #[.agg #[.int .i64 a0_0, .int .i64 a0_1, .slice A0_2 l0_2.length c0_2, .slice A0_3 l0_3.length c0_3, .slice A0_4 l0_4.length c0_4], .agg #[.int .i64 (op), .int .i64 a, .int .i64 b], .int .i64 protos] w fun e w' => e = .returned (.bool (insK 0 a0_1 l0_2.length l0_4.length l0_3 protos a b)) ∧ Below w.heap.size w w' := by
 rcases hop with rfl | rfl | rfl | rfl | rfl | rfl | rfl | rfl
 all_goals
  generalize hres : insK 0 a0_1 l0_2.length l0_4.length l0_3 protos a b = res
  have HRES := Aq.mk hres
  clear hres
  have HC := Aq.mk hr0_3
  clear hr0_3
  have HB := Aq.mk (Below.refl w.heap.size w)
  go_enter Try.func68, Try.ntmps68
  go_wp2_with (first | ((with_reducible refine q12q (N := 3) rfl ?_); refine q11q ?hg (N := 3) ?hd (cs := #[.int .i64 a0_0, .int .i64 a0_1, .slice A0_2 l0_2.length c0_2, .slice A0_3 l0_3.length c0_3, .slice A0_4 l0_4.length c0_4]) (t := 47) ?hr ?_; (case hd => rfl); (case hg => rfl); (case hr => first | (go_simp; done) | (go_simp; rfl)); intro g3 hg3 w3 hbox3 hb3; have G3 := Aq.mk hg3; clear hg3; have B3 := Aq.mk hbox3; clear hbox3; have HB3 := Aq.mk hb3; clear hb3) | ((with_reducible refine q12q (N := 4) rfl ?_); (first | (refine q11q ?hg (N := 4) ?hd (cs := #[.int .i64 (0), .int .i64 a, .int .i64 b]) (t := 52) ?hr ?_; (case hd => rfl); (case hg => rfl); (case hr => first | (go_simp; done) | (go_simp; rfl))) | (refine q11q ?hg (N := 4) ?hd (cs := #[.int .i64 (5), .int .i64 a, .int .i64 b]) (t := 52) ?hr ?_; (case hd => rfl); (case hg => rfl); (case hr => first | (go_simp; done) | (go_simp; rfl))) | (refine q11q ?hg (N := 4) ?hd (cs := #[.int .i64 (8), .int .i64 a, .int .i64 b]) (t := 52) ?hr ?_; (case hd => rfl); (case hg => rfl); (case hr => first | (go_simp; done) | (go_simp; rfl))) | (refine q11q ?hg (N := 4) ?hd (cs := #[.int .i64 (13), .int .i64 a, .int .i64 b]) (t := 52) ?hr ?_; (case hd => rfl); (case hg => rfl); (case hr => first | (go_simp; done) | (go_simp; rfl))) | (refine q11q ?hg (N := 4) ?hd (cs := #[.int .i64 (19), .int .i64 a, .int .i64 b]) (t := 52) ?hr ?_; (case hd => rfl); (case hg => rfl); (case hr => first | (go_simp; done) | (go_simp; rfl))) | (refine q11q ?hg (N := 4) ?hd (cs := #[.int .i64 (30), .int .i64 a, .int .i64 b]) (t := 52) ?hr ?_; (case hd => rfl); (case hg => rfl); (case hr => first | (go_simp; done) | (go_simp; rfl))) | (refine q11q ?hg (N := 4) ?hd (cs := #[.int .i64 (31), .int .i64 a, .int .i64 b]) (t := 52) ?hr ?_; (case hd => rfl); (case hg => rfl); (case hr => first | (go_simp; done) | (go_simp; rfl))) | (refine q11q ?hg (N := 4) ?hd (cs := #[.int .i64 (32), .int .i64 a, .int .i64 b]) (t := 52) ?hr ?_; (case hd => rfl); (case hg => rfl); (case hr => first | (go_simp; done) | (go_simp; rfl)))); intro g5 hg5 w5 hbox5 hb5; have G5 := Aq.mk hg5; clear hg5; have HB5 := Aq.mk (hb5); clear hb5; have B5 := Aq.mk hbox5; clear hbox5; have lg3 := Aq.mk (Array.getElem?_eq_some_iff.1 B3.out).1; have F3 := Aq.mk ((HB5.out.block g3 lg3.out).trans B3.out); have HBV := Aq.mk (HB3.out.trans (HB5.out.mono HB3.out.size)); have P0 : w5.cell? ⟨g3, 0, none⟩ = some (.int .i64 a0_0) := (q3q F3.out 0).trans rfl; have P1 : w5.cell? ⟨g3, 1, none⟩ = some (.int .i64 a0_1) := (q3q F3.out 1).trans rfl; have P2 : w5.cell? ⟨g3, 2, none⟩ = some (.slice A0_2 l0_2.length c0_2) := (q3q F3.out 2).trans rfl; have P3 : w5.cell? ⟨g3, 3, none⟩ = some (.slice A0_3 l0_3.length c0_3) := (q3q F3.out 3).trans rfl; have P4 : w5.cell? ⟨g3, 4, none⟩ = some (.slice A0_4 l0_4.length c0_4) := (q3q F3.out 4).trans rfl; have C50 : w5.cell? ⟨g5, 0, none⟩ = some (.int .i64 _) := (q3q B5.out 0).trans rfl; have C51 : w5.cell? ⟨g5, 1, none⟩ = some (.int .i64 a) := (q3q B5.out 1).trans rfl; have C52 : w5.cell? ⟨g5, 2, none⟩ = some (.int .i64 b) := (q3q B5.out 2).trans rfl))
  refine (rbelow_any a a0_1 _).mono ?_
  obtain ⟨rg, hrg⟩ : ∃ x, decide (0 ≤ a ∧ a < a0_1) = x := ⟨_, rfl⟩
  rw [hrg]
  rintro e w' ⟨rfl, ⟨n1, rfl⟩⟩
  have HRG := Aq.mk hrg
  clear hrg
  go_wp2_with fail
  refine (rbelow_any b l0_4.length _).mono ?_
  obtain ⟨pl, hpl⟩ : ∃ x, decide (0 ≤ b ∧ b < (l0_4.length : Int)) = x := ⟨_, rfl⟩
  rw [hpl]
  rintro e w' ⟨rfl, ⟨n2, rfl⟩⟩
  have HPL := Aq.mk hpl
  clear hpl
  cases rg with
  | false =>
   go_wp2_with fail
   go_ret
   exact ⟨by first | (rw [← HRES.out]; unfold insK; simp [HRG.out, HPL.out]; done) | (rw [← HRES.out]; unfold insK; rw [HRG.out, HPL.out]; simp), by repeat (first | exact HBV.out | apply q0q | apply q2q)⟩
  | true =>
   go_wp2_with fail
   go_ret
   exact ⟨by first | (rw [← HRES.out]; unfold insK; simp [HRG.out, HPL.out]; done) | (rw [← HRES.out]; unfold insK; rw [HRG.out, HPL.out]; simp), by repeat (first | exact HBV.out | apply q0q | apply q2q)⟩
set_option maxHeartbeats 8000000 in
set_option maxRecDepth 100000 in
theorem ins1 (a0_0 a0_1 : Int) (A0_2 : Option Addr) (c0_2 : Nat) (l0_2 : List (S50)) (A0_3 : Option Addr) (c0_3 : Nat) (l0_3 : List (S42)) (A0_4 : Option Addr) (c0_4 : Nat) (l0_4 : List (S52)) (a b protos : Int) (w : World) (hr0_3 : Kd.C k42 w A0_3 l0_3.length l0_3) :
  Calls Try.prog 68 #[.agg #[.int .i64 a0_0, .int .i64 a0_1, .slice A0_2 l0_2.length c0_2, .slice A0_3 l0_3.length c0_3, .slice A0_4 l0_4.length c0_4], .agg #[.int .i64 (1), .int .i64 a, .int .i64 b], .int .i64 protos] w fun e w' => e = .returned (.bool (insK 1 a0_1 l0_2.length l0_4.length l0_3 protos a b)) ∧ Below w.heap.size w w' := by
 generalize hres : insK 1 a0_1 l0_2.length l0_4.length l0_3 protos a b = res
 have HRES := Aq.mk hres
 clear hres
 have HC := Aq.mk hr0_3
 clear hr0_3
 have HB := Aq.mk (Below.refl w.heap.size w)
 go_enter Try.func68, Try.ntmps68
 go_wp2_with (first | ((with_reducible refine q12q (N := 3) rfl ?_); refine q11q ?hg (N := 3) ?hd (cs := #[.int .i64 a0_0, .int .i64 a0_1, .slice A0_2 l0_2.length c0_2, .slice A0_3 l0_3.length c0_3, .slice A0_4 l0_4.length c0_4]) (t := 47) ?hr ?_; (case hd => rfl); (case hg => rfl); (case hr => first | (go_simp; done) | (go_simp; rfl)); intro g3 hg3 w3 hbox3 hb3; have G3 := Aq.mk hg3; clear hg3; have B3 := Aq.mk hbox3; clear hbox3; have HB3 := Aq.mk hb3; clear hb3) | ((with_reducible refine q12q (N := 4) rfl ?_); refine q11q ?hg (N := 4) ?hd (cs := #[.int .i64 (1), .int .i64 a, .int .i64 b]) (t := 52) ?hr ?_; (case hd => rfl); (case hg => rfl); (case hr => first | (go_simp; done) | (go_simp; rfl)); intro g5 hg5 w5 hbox5 hb5; have G5 := Aq.mk hg5; clear hg5; have HB5 := Aq.mk (hb5); clear hb5; have B5 := Aq.mk hbox5; clear hbox5; have lg3 := Aq.mk (Array.getElem?_eq_some_iff.1 B3.out).1; have F3 := Aq.mk ((HB5.out.block g3 lg3.out).trans B3.out); have HBV := Aq.mk (HB3.out.trans (HB5.out.mono HB3.out.size)); have P0 : w5.cell? ⟨g3, 0, none⟩ = some (.int .i64 a0_0) := (q3q F3.out 0).trans rfl; have P1 : w5.cell? ⟨g3, 1, none⟩ = some (.int .i64 a0_1) := (q3q F3.out 1).trans rfl; have P2 : w5.cell? ⟨g3, 2, none⟩ = some (.slice A0_2 l0_2.length c0_2) := (q3q F3.out 2).trans rfl; have P3 : w5.cell? ⟨g3, 3, none⟩ = some (.slice A0_3 l0_3.length c0_3) := (q3q F3.out 3).trans rfl; have P4 : w5.cell? ⟨g3, 4, none⟩ = some (.slice A0_4 l0_4.length c0_4) := (q3q F3.out 4).trans rfl; have C50 : w5.cell? ⟨g5, 0, none⟩ = some (.int .i64 (1)) := (q3q B5.out 0).trans rfl; have C51 : w5.cell? ⟨g5, 1, none⟩ = some (.int .i64 a) := (q3q B5.out 1).trans rfl; have C52 : w5.cell? ⟨g5, 2, none⟩ = some (.int .i64 b) := (q3q B5.out 2).trans rfl))
 refine (rbelow_any a a0_1 _).mono ?_
 obtain ⟨rg, hrg⟩ : ∃ x, decide (0 ≤ a ∧ a < a0_1) = x := ⟨_, rfl⟩
 rw [hrg]
 rintro e w' ⟨rfl, ⟨n1, rfl⟩⟩
 have HRG := Aq.mk hrg
 clear hrg
 go_wp2_with fail
 refine (rbelow_any b l0_4.length _).mono ?_
 obtain ⟨pl, hpl⟩ : ∃ x, decide (0 ≤ b ∧ b < (l0_4.length : Int)) = x := ⟨_, rfl⟩
 rw [hpl]
 rintro e w' ⟨rfl, ⟨n2, rfl⟩⟩
 have HPL := Aq.mk hpl
 clear hpl
 cases rg with
 | false =>
  go_wp2_with fail
  go_ret
  exact ⟨by first | (rw [← HRES.out]; unfold insK; simp [HRG.out, HPL.out]; done) | (rw [← HRES.out]; unfold insK; rw [HRG.out, HPL.out]; simp), by repeat (first | exact HBV.out | apply q0q | apply q2q)⟩
 | true =>
  by_cases h0 : b = 0
  ·have b0 : (b == 0) = true := beq_iff_eq.mpr h0
   go_wp2_with fail
   go_ret
   exact ⟨by first | (rw [← HRES.out]; unfold insK; simp [HRG.out, HPL.out, h0]; done) | (rw [← HRES.out]; unfold insK; rw [HRG.out, HPL.out]; simp [h0]), by repeat (first | exact HBV.out | apply q0q | apply q2q)⟩
  have b0 : (b == 0) = false := beq_eq_false_iff_ne.mpr h0
  go_wp2_with fail
  go_ret
  exact ⟨by first | (rw [← HRES.out]; unfold insK; simp [HRG.out, HPL.out, h0, b0]; done) | (rw [← HRES.out]; unfold insK; rw [HRG.out, HPL.out]; simp [h0, b0]), by repeat (first | exact HBV.out | apply q0q | apply q2q)⟩
set_option maxHeartbeats 8000000 in
set_option maxRecDepth 100000 in
theorem ins2 (a0_0 a0_1 : Int) (A0_2 : Option Addr) (c0_2 : Nat) (l0_2 : List (S50)) (A0_3 : Option Addr) (c0_3 : Nat) (l0_3 : List (S42)) (A0_4 : Option Addr) (c0_4 : Nat) (l0_4 : List (S52)) (a b protos : Int) (w : World) (hr0_3 : Kd.C k42 w A0_3 l0_3.length l0_3) :
  Calls Try.prog 68 #[.agg #[.int .i64 a0_0, .int .i64 a0_1, .slice A0_2 l0_2.length c0_2, .slice A0_3 l0_3.length c0_3, .slice A0_4 l0_4.length c0_4], .agg #[.int .i64 (2), .int .i64 a, .int .i64 b], .int .i64 protos] w fun e w' => e = .returned (.bool (insK 2 a0_1 l0_2.length l0_4.length l0_3 protos a b)) ∧ Below w.heap.size w w' := by
 generalize hres : insK 2 a0_1 l0_2.length l0_4.length l0_3 protos a b = res
 have HRES := Aq.mk hres
 clear hres
 have HC := Aq.mk hr0_3
 clear hr0_3
 have HB := Aq.mk (Below.refl w.heap.size w)
 go_enter Try.func68, Try.ntmps68
 go_wp2_with (first | ((with_reducible refine q12q (N := 3) rfl ?_); refine q11q ?hg (N := 3) ?hd (cs := #[.int .i64 a0_0, .int .i64 a0_1, .slice A0_2 l0_2.length c0_2, .slice A0_3 l0_3.length c0_3, .slice A0_4 l0_4.length c0_4]) (t := 47) ?hr ?_; (case hd => rfl); (case hg => rfl); (case hr => first | (go_simp; done) | (go_simp; rfl)); intro g3 hg3 w3 hbox3 hb3; have G3 := Aq.mk hg3; clear hg3; have B3 := Aq.mk hbox3; clear hbox3; have HB3 := Aq.mk hb3; clear hb3) | ((with_reducible refine q12q (N := 4) rfl ?_); refine q11q ?hg (N := 4) ?hd (cs := #[.int .i64 (2), .int .i64 a, .int .i64 b]) (t := 52) ?hr ?_; (case hd => rfl); (case hg => rfl); (case hr => first | (go_simp; done) | (go_simp; rfl)); intro g5 hg5 w5 hbox5 hb5; have G5 := Aq.mk hg5; clear hg5; have HB5 := Aq.mk (hb5); clear hb5; have B5 := Aq.mk hbox5; clear hbox5; have lg3 := Aq.mk (Array.getElem?_eq_some_iff.1 B3.out).1; have F3 := Aq.mk ((HB5.out.block g3 lg3.out).trans B3.out); have HBV := Aq.mk (HB3.out.trans (HB5.out.mono HB3.out.size)); have P0 : w5.cell? ⟨g3, 0, none⟩ = some (.int .i64 a0_0) := (q3q F3.out 0).trans rfl; have P1 : w5.cell? ⟨g3, 1, none⟩ = some (.int .i64 a0_1) := (q3q F3.out 1).trans rfl; have P2 : w5.cell? ⟨g3, 2, none⟩ = some (.slice A0_2 l0_2.length c0_2) := (q3q F3.out 2).trans rfl; have P3 : w5.cell? ⟨g3, 3, none⟩ = some (.slice A0_3 l0_3.length c0_3) := (q3q F3.out 3).trans rfl; have P4 : w5.cell? ⟨g3, 4, none⟩ = some (.slice A0_4 l0_4.length c0_4) := (q3q F3.out 4).trans rfl; have C50 : w5.cell? ⟨g5, 0, none⟩ = some (.int .i64 (2)) := (q3q B5.out 0).trans rfl; have C51 : w5.cell? ⟨g5, 1, none⟩ = some (.int .i64 a) := (q3q B5.out 1).trans rfl; have C52 : w5.cell? ⟨g5, 2, none⟩ = some (.int .i64 b) := (q3q B5.out 2).trans rfl))
 refine (rbelow_any a a0_1 _).mono ?_
 obtain ⟨rg, hrg⟩ : ∃ x, decide (0 ≤ a ∧ a < a0_1) = x := ⟨_, rfl⟩
 rw [hrg]
 rintro e w' ⟨rfl, ⟨n1, rfl⟩⟩
 have HRG := Aq.mk hrg
 clear hrg
 go_wp2_with fail
 refine (rbelow_any b l0_4.length _).mono ?_
 obtain ⟨pl, hpl⟩ : ∃ x, decide (0 ≤ b ∧ b < (l0_4.length : Int)) = x := ⟨_, rfl⟩
 rw [hpl]
 rintro e w' ⟨rfl, ⟨n2, rfl⟩⟩
 have HPL := Aq.mk hpl
 clear hpl
 cases rg with
 | false =>
  go_wp2_with fail
  go_ret
  exact ⟨by first | (rw [← HRES.out]; unfold insK; simp [HRG.out, HPL.out]; done) | (rw [← HRES.out]; unfold insK; rw [HRG.out, HPL.out]; simp), by repeat (first | exact HBV.out | apply q0q | apply q2q)⟩
 | true =>
  go_wp2_with fail
  refine (rbelow_any b (l0_3.length : Int) _).mono ?_
  obtain ⟨tb, htb⟩ : ∃ x, decide (0 ≤ b ∧ b < (l0_3.length : Int)) = x := ⟨_, rfl⟩
  rw [htb]
  rintro e w' ⟨rfl, ⟨n3, rfl⟩⟩
  have Htb := Aq.mk htb
  clear htb
  go_wp2_with fail
  go_ret
  exact ⟨by first | (rw [← HRES.out]; unfold insK; simp [HRG.out, HPL.out, Htb.out]; done) | (rw [← HRES.out]; unfold insK; rw [HRG.out, HPL.out]; simp [Htb.out]), by repeat (first | exact HBV.out | apply q0q | apply q2q)⟩
set_option maxHeartbeats 8000000 in
set_option maxRecDepth 100000 in
theorem insG3 (op : Int) (hop : op = 3 ∨ op = 4 ∨ op = 9 ∨ op = 10) (a0_0 a0_1 : Int) (A0_2 : Option Addr) (c0_2 : Nat) (l0_2 : List (S50)) (A0_3 : Option Addr) (c0_3 : Nat) (l0_3 : List (S42)) (A0_4 : Option Addr) (c0_4 : Nat) (l0_4 : List (S52)) (a b protos : Int) (w : World) (hr0_3 : Kd.C k42 w A0_3 l0_3.length l0_3) :
  Calls Try.prog 68 #[.agg #[.int .i64 a0_0, .int .i64 a0_1, .slice A0_2 l0_2.length c0_2, .slice A0_3 l0_3.length c0_3, .slice A0_4 l0_4.length c0_4], .agg #[.int .i64 (op), .int .i64 a, .int .i64 b], .int .i64 protos] w fun e w' => e = .returned (.bool (insK 4 a0_1 l0_2.length l0_4.length l0_3 protos a b)) ∧ Below w.heap.size w w' := by
 rcases hop with rfl | rfl | rfl | rfl
 all_goals
  generalize hres : insK 4 a0_1 l0_2.length l0_4.length l0_3 protos a b = res
  have HRES := Aq.mk hres
  clear hres
  have HC := Aq.mk hr0_3
  clear hr0_3
  have HB := Aq.mk (Below.refl w.heap.size w)
  go_enter Try.func68, Try.ntmps68
  go_wp2_with (first | ((with_reducible refine q12q (N := 3) rfl ?_); refine q11q ?hg (N := 3) ?hd (cs := #[.int .i64 a0_0, .int .i64 a0_1, .slice A0_2 l0_2.length c0_2, .slice A0_3 l0_3.length c0_3, .slice A0_4 l0_4.length c0_4]) (t := 47) ?hr ?_; (case hd => rfl); (case hg => rfl); (case hr => first | (go_simp; done) | (go_simp; rfl)); intro g3 hg3 w3 hbox3 hb3; have G3 := Aq.mk hg3; clear hg3; have B3 := Aq.mk hbox3; clear hbox3; have HB3 := Aq.mk hb3; clear hb3) | ((with_reducible refine q12q (N := 4) rfl ?_); (first | (refine q11q ?hg (N := 4) ?hd (cs := #[.int .i64 (3), .int .i64 a, .int .i64 b]) (t := 52) ?hr ?_; (case hd => rfl); (case hg => rfl); (case hr => first | (go_simp; done) | (go_simp; rfl))) | (refine q11q ?hg (N := 4) ?hd (cs := #[.int .i64 (4), .int .i64 a, .int .i64 b]) (t := 52) ?hr ?_; (case hd => rfl); (case hg => rfl); (case hr => first | (go_simp; done) | (go_simp; rfl))) | (refine q11q ?hg (N := 4) ?hd (cs := #[.int .i64 (9), .int .i64 a, .int .i64 b]) (t := 52) ?hr ?_; (case hd => rfl); (case hg => rfl); (case hr => first | (go_simp; done) | (go_simp; rfl))) | (refine q11q ?hg (N := 4) ?hd (cs := #[.int .i64 (10), .int .i64 a, .int .i64 b]) (t := 52) ?hr ?_; (case hd => rfl); (case hg => rfl); (case hr => first | (go_simp; done) | (go_simp; rfl)))); intro g5 hg5 w5 hbox5 hb5; have G5 := Aq.mk hg5; clear hg5; have HB5 := Aq.mk (hb5); clear hb5; have B5 := Aq.mk hbox5; clear hbox5; have lg3 := Aq.mk (Array.getElem?_eq_some_iff.1 B3.out).1; have F3 := Aq.mk ((HB5.out.block g3 lg3.out).trans B3.out); have HBV := Aq.mk (HB3.out.trans (HB5.out.mono HB3.out.size)); have P0 : w5.cell? ⟨g3, 0, none⟩ = some (.int .i64 a0_0) := (q3q F3.out 0).trans rfl; have P1 : w5.cell? ⟨g3, 1, none⟩ = some (.int .i64 a0_1) := (q3q F3.out 1).trans rfl; have P2 : w5.cell? ⟨g3, 2, none⟩ = some (.slice A0_2 l0_2.length c0_2) := (q3q F3.out 2).trans rfl; have P3 : w5.cell? ⟨g3, 3, none⟩ = some (.slice A0_3 l0_3.length c0_3) := (q3q F3.out 3).trans rfl; have P4 : w5.cell? ⟨g3, 4, none⟩ = some (.slice A0_4 l0_4.length c0_4) := (q3q F3.out 4).trans rfl; have C50 : w5.cell? ⟨g5, 0, none⟩ = some (.int .i64 _) := (q3q B5.out 0).trans rfl; have C51 : w5.cell? ⟨g5, 1, none⟩ = some (.int .i64 a) := (q3q B5.out 1).trans rfl; have C52 : w5.cell? ⟨g5, 2, none⟩ = some (.int .i64 b) := (q3q B5.out 2).trans rfl))
  refine (rbelow_any a a0_1 _).mono ?_
  obtain ⟨rg, hrg⟩ : ∃ x, decide (0 ≤ a ∧ a < a0_1) = x := ⟨_, rfl⟩
  rw [hrg]
  rintro e w' ⟨rfl, ⟨n1, rfl⟩⟩
  have HRG := Aq.mk hrg
  clear hrg
  go_wp2_with fail
  refine (rbelow_any b l0_4.length _).mono ?_
  obtain ⟨pl, hpl⟩ : ∃ x, decide (0 ≤ b ∧ b < (l0_4.length : Int)) = x := ⟨_, rfl⟩
  rw [hpl]
  rintro e w' ⟨rfl, ⟨n2, rfl⟩⟩
  have HPL := Aq.mk hpl
  clear hpl
  cases rg with
  | false =>
   go_wp2_with fail
   go_ret
   exact ⟨by first | (rw [← HRES.out]; unfold insK; simp [HRG.out, HPL.out]; done) | (rw [← HRES.out]; unfold insK; rw [HRG.out, HPL.out]; simp), by repeat (first | exact HBV.out | apply q0q | apply q2q)⟩
  | true =>
   go_wp2_with fail
   refine (rbelow_any b a0_1 _).mono ?_
   obtain ⟨tb, htb⟩ : ∃ x, decide (0 ≤ b ∧ b < a0_1) = x := ⟨_, rfl⟩
   rw [htb]
   rintro e w' ⟨rfl, ⟨n3, rfl⟩⟩
   have Htb := Aq.mk htb
   clear htb
   go_wp2_with fail
   go_ret
   exact ⟨by first | (rw [← HRES.out]; unfold insK; simp [HRG.out, HPL.out, Htb.out]; done) | (rw [← HRES.out]; unfold insK; rw [HRG.out, HPL.out]; simp [Htb.out]), by repeat (first | exact HBV.out | apply q0q | apply q2q)⟩
set_option maxHeartbeats 8000000 in
set_option maxRecDepth 100000 in
theorem insG6 (op : Int) (hop : op = 6 ∨ op = 7) (a0_0 a0_1 : Int) (A0_2 : Option Addr) (c0_2 : Nat) (l0_2 : List (S50)) (A0_3 : Option Addr) (c0_3 : Nat) (l0_3 : List (S42)) (A0_4 : Option Addr) (c0_4 : Nat) (l0_4 : List (S52)) (a b protos : Int) (w : World) (hr0_3 : Kd.C k42 w A0_3 l0_3.length l0_3) :
  Calls Try.prog 68 #[.agg #[.int .i64 a0_0, .int .i64 a0_1, .slice A0_2 l0_2.length c0_2, .slice A0_3 l0_3.length c0_3, .slice A0_4 l0_4.length c0_4], .agg #[.int .i64 (op), .int .i64 a, .int .i64 b], .int .i64 protos] w fun e w' => e = .returned (.bool (insK 5 a0_1 l0_2.length l0_4.length l0_3 protos a b)) ∧ Below w.heap.size w w' := by
 rcases hop with rfl | rfl
 all_goals
  generalize hres : insK 5 a0_1 l0_2.length l0_4.length l0_3 protos a b = res
  have HRES := Aq.mk hres
  clear hres
  have HC := Aq.mk hr0_3
  clear hr0_3
  have HB := Aq.mk (Below.refl w.heap.size w)
  go_enter Try.func68, Try.ntmps68
  go_wp2_with (first | ((with_reducible refine q12q (N := 3) rfl ?_); refine q11q ?hg (N := 3) ?hd (cs := #[.int .i64 a0_0, .int .i64 a0_1, .slice A0_2 l0_2.length c0_2, .slice A0_3 l0_3.length c0_3, .slice A0_4 l0_4.length c0_4]) (t := 47) ?hr ?_; (case hd => rfl); (case hg => rfl); (case hr => first | (go_simp; done) | (go_simp; rfl)); intro g3 hg3 w3 hbox3 hb3; have G3 := Aq.mk hg3; clear hg3; have B3 := Aq.mk hbox3; clear hbox3; have HB3 := Aq.mk hb3; clear hb3) | ((with_reducible refine q12q (N := 4) rfl ?_); (first | (refine q11q ?hg (N := 4) ?hd (cs := #[.int .i64 (6), .int .i64 a, .int .i64 b]) (t := 52) ?hr ?_; (case hd => rfl); (case hg => rfl); (case hr => first | (go_simp; done) | (go_simp; rfl))) | (refine q11q ?hg (N := 4) ?hd (cs := #[.int .i64 (7), .int .i64 a, .int .i64 b]) (t := 52) ?hr ?_; (case hd => rfl); (case hg => rfl); (case hr => first | (go_simp; done) | (go_simp; rfl)))); intro g5 hg5 w5 hbox5 hb5; have G5 := Aq.mk hg5; clear hg5; have HB5 := Aq.mk (hb5); clear hb5; have B5 := Aq.mk hbox5; clear hbox5; have lg3 := Aq.mk (Array.getElem?_eq_some_iff.1 B3.out).1; have F3 := Aq.mk ((HB5.out.block g3 lg3.out).trans B3.out); have HBV := Aq.mk (HB3.out.trans (HB5.out.mono HB3.out.size)); have P0 : w5.cell? ⟨g3, 0, none⟩ = some (.int .i64 a0_0) := (q3q F3.out 0).trans rfl; have P1 : w5.cell? ⟨g3, 1, none⟩ = some (.int .i64 a0_1) := (q3q F3.out 1).trans rfl; have P2 : w5.cell? ⟨g3, 2, none⟩ = some (.slice A0_2 l0_2.length c0_2) := (q3q F3.out 2).trans rfl; have P3 : w5.cell? ⟨g3, 3, none⟩ = some (.slice A0_3 l0_3.length c0_3) := (q3q F3.out 3).trans rfl; have P4 : w5.cell? ⟨g3, 4, none⟩ = some (.slice A0_4 l0_4.length c0_4) := (q3q F3.out 4).trans rfl; have C50 : w5.cell? ⟨g5, 0, none⟩ = some (.int .i64 _) := (q3q B5.out 0).trans rfl; have C51 : w5.cell? ⟨g5, 1, none⟩ = some (.int .i64 a) := (q3q B5.out 1).trans rfl; have C52 : w5.cell? ⟨g5, 2, none⟩ = some (.int .i64 b) := (q3q B5.out 2).trans rfl))
  refine (rbelow_any a a0_1 _).mono ?_
  obtain ⟨rg, hrg⟩ : ∃ x, decide (0 ≤ a ∧ a < a0_1) = x := ⟨_, rfl⟩
  rw [hrg]
  rintro e w' ⟨rfl, ⟨n1, rfl⟩⟩
  have HRG := Aq.mk hrg
  clear hrg
  go_wp2_with fail
  refine (rbelow_any b l0_4.length _).mono ?_
  obtain ⟨pl, hpl⟩ : ∃ x, decide (0 ≤ b ∧ b < (l0_4.length : Int)) = x := ⟨_, rfl⟩
  rw [hpl]
  rintro e w' ⟨rfl, ⟨n2, rfl⟩⟩
  have HPL := Aq.mk hpl
  clear hpl
  cases rg with
  | false =>
   go_wp2_with fail
   go_ret
   exact ⟨by first | (rw [← HRES.out]; unfold insK; simp [HRG.out, HPL.out]; done) | (rw [← HRES.out]; unfold insK; rw [HRG.out, HPL.out]; simp), by repeat (first | exact HBV.out | apply q0q | apply q2q)⟩
  | true =>
   go_wp2_with fail
   refine (rbelow_any b (l0_2.length : Int) _).mono ?_
   obtain ⟨tb, htb⟩ : ∃ x, decide (0 ≤ b ∧ b < (l0_2.length : Int)) = x := ⟨_, rfl⟩
   rw [htb]
   rintro e w' ⟨rfl, ⟨n3, rfl⟩⟩
   have Htb := Aq.mk htb
   clear htb
   go_wp2_with fail
   go_ret
   exact ⟨by first | (rw [← HRES.out]; unfold insK; simp [HRG.out, HPL.out, Htb.out]; done) | (rw [← HRES.out]; unfold insK; rw [HRG.out, HPL.out]; simp [Htb.out]), by repeat (first | exact HBV.out | apply q0q | apply q2q)⟩
set_option maxHeartbeats 8000000 in
set_option maxRecDepth 100000 in
theorem insG14 (op : Int) (hop : op = 14 ∨ op = 26 ∨ op = 27 ∨ op = 28 ∨ op = 29) (a0_0 a0_1 : Int) (A0_2 : Option Addr) (c0_2 : Nat) (l0_2 : List (S50)) (A0_3 : Option Addr) (c0_3 : Nat) (l0_3 : List (S42)) (A0_4 : Option Addr) (c0_4 : Nat) (l0_4 : List (S52)) (a b protos : Int) (w : World) (hr0_3 : Kd.C k42 w A0_3 l0_3.length l0_3) :
  Calls Try.prog 68 #[.agg #[.int .i64 a0_0, .int .i64 a0_1, .slice A0_2 l0_2.length c0_2, .slice A0_3 l0_3.length c0_3, .slice A0_4 l0_4.length c0_4], .agg #[.int .i64 (op), .int .i64 a, .int .i64 b], .int .i64 protos] w fun e w' => e = .returned (.bool (insK 6 a0_1 l0_2.length l0_4.length l0_3 protos a b)) ∧ Below w.heap.size w w' := by
 rcases hop with rfl | rfl | rfl | rfl | rfl
 all_goals
  generalize hres : insK 6 a0_1 l0_2.length l0_4.length l0_3 protos a b = res
  have HRES := Aq.mk hres
  clear hres
  have HC := Aq.mk hr0_3
  clear hr0_3
  have HB := Aq.mk (Below.refl w.heap.size w)
  go_enter Try.func68, Try.ntmps68
  go_wp2_with (first | ((with_reducible refine q12q (N := 3) rfl ?_); refine q11q ?hg (N := 3) ?hd (cs := #[.int .i64 a0_0, .int .i64 a0_1, .slice A0_2 l0_2.length c0_2, .slice A0_3 l0_3.length c0_3, .slice A0_4 l0_4.length c0_4]) (t := 47) ?hr ?_; (case hd => rfl); (case hg => rfl); (case hr => first | (go_simp; done) | (go_simp; rfl)); intro g3 hg3 w3 hbox3 hb3; have G3 := Aq.mk hg3; clear hg3; have B3 := Aq.mk hbox3; clear hbox3; have HB3 := Aq.mk hb3; clear hb3) | ((with_reducible refine q12q (N := 4) rfl ?_); (first | (refine q11q ?hg (N := 4) ?hd (cs := #[.int .i64 (14), .int .i64 a, .int .i64 b]) (t := 52) ?hr ?_; (case hd => rfl); (case hg => rfl); (case hr => first | (go_simp; done) | (go_simp; rfl))) | (refine q11q ?hg (N := 4) ?hd (cs := #[.int .i64 (26), .int .i64 a, .int .i64 b]) (t := 52) ?hr ?_; (case hd => rfl); (case hg => rfl); (case hr => first | (go_simp; done) | (go_simp; rfl))) | (refine q11q ?hg (N := 4) ?hd (cs := #[.int .i64 (27), .int .i64 a, .int .i64 b]) (t := 52) ?hr ?_; (case hd => rfl); (case hg => rfl); (case hr => first | (go_simp; done) | (go_simp; rfl))) | (refine q11q ?hg (N := 4) ?hd (cs := #[.int .i64 (28), .int .i64 a, .int .i64 b]) (t := 52) ?hr ?_; (case hd => rfl); (case hg => rfl); (case hr => first | (go_simp; done) | (go_simp; rfl))) | (refine q11q ?hg (N := 4) ?hd (cs := #[.int .i64 (29), .int .i64 a, .int .i64 b]) (t := 52) ?hr ?_; (case hd => rfl); (case hg => rfl); (case hr => first | (go_simp; done) | (go_simp; rfl)))); intro g5 hg5 w5 hbox5 hb5; have G5 := Aq.mk hg5; clear hg5; have HB5 := Aq.mk (hb5); clear hb5; have B5 := Aq.mk hbox5; clear hbox5; have lg3 := Aq.mk (Array.getElem?_eq_some_iff.1 B3.out).1; have F3 := Aq.mk ((HB5.out.block g3 lg3.out).trans B3.out); have HBV := Aq.mk (HB3.out.trans (HB5.out.mono HB3.out.size)); have P0 : w5.cell? ⟨g3, 0, none⟩ = some (.int .i64 a0_0) := (q3q F3.out 0).trans rfl; have P1 : w5.cell? ⟨g3, 1, none⟩ = some (.int .i64 a0_1) := (q3q F3.out 1).trans rfl; have P2 : w5.cell? ⟨g3, 2, none⟩ = some (.slice A0_2 l0_2.length c0_2) := (q3q F3.out 2).trans rfl; have P3 : w5.cell? ⟨g3, 3, none⟩ = some (.slice A0_3 l0_3.length c0_3) := (q3q F3.out 3).trans rfl; have P4 : w5.cell? ⟨g3, 4, none⟩ = some (.slice A0_4 l0_4.length c0_4) := (q3q F3.out 4).trans rfl; have C50 : w5.cell? ⟨g5, 0, none⟩ = some (.int .i64 _) := (q3q B5.out 0).trans rfl; have C51 : w5.cell? ⟨g5, 1, none⟩ = some (.int .i64 a) := (q3q B5.out 1).trans rfl; have C52 : w5.cell? ⟨g5, 2, none⟩ = some (.int .i64 b) := (q3q B5.out 2).trans rfl))
  refine (rbelow_any a a0_1 _).mono ?_
  obtain ⟨rg, hrg⟩ : ∃ x, decide (0 ≤ a ∧ a < a0_1) = x := ⟨_, rfl⟩
  rw [hrg]
  rintro e w' ⟨rfl, ⟨n1, rfl⟩⟩
  have HRG := Aq.mk hrg
  clear hrg
  go_wp2_with fail
  refine (rbelow_any b l0_4.length _).mono ?_
  obtain ⟨pl, hpl⟩ : ∃ x, decide (0 ≤ b ∧ b < (l0_4.length : Int)) = x := ⟨_, rfl⟩
  rw [hpl]
  rintro e w' ⟨rfl, ⟨n2, rfl⟩⟩
  have HPL := Aq.mk hpl
  clear hpl
  obtain ⟨m, hm⟩ : ∃ x, wrap64 (a0_1 - 1) = x := ⟨_, rfl⟩
  have hm1 : IntKind.i64.wrap (a0_1 - 1) = m := (i64_w _).trans hm
  have HM := Aq.mk hm
  clear hm
  go_wp2_with fail
  refine (rbelow_any a m _).mono ?_
  obtain ⟨tb, htb⟩ : ∃ x, decide (0 ≤ a ∧ a < m) = x := ⟨_, rfl⟩
  rw [htb]
  rintro e w' ⟨rfl, ⟨n3, rfl⟩⟩
  have Htb := Aq.mk htb
  clear htb
  clear hm1
  cases tb with
  | false =>
   go_wp2_with fail
   go_ret
   exact ⟨by first | (rw [← HRES.out]; unfold insK; simp [HRG.out, HPL.out, HM.out, Htb.out]; done) | (rw [← HRES.out]; unfold insK; rw [HRG.out, HPL.out]; simp [HM.out, Htb.out]), by repeat (first | exact HBV.out | apply q0q | apply q2q)⟩
  | true =>
   go_wp2_with fail
   go_ret
   exact ⟨by first | (rw [← HRES.out]; unfold insK; simp [HRG.out, HPL.out, HM.out, Htb.out]; done) | (rw [← HRES.out]; unfold insK; rw [HRG.out, HPL.out]; simp [HM.out, Htb.out]), by repeat (first | exact HBV.out | apply q0q | apply q2q)⟩
set_option maxHeartbeats 8000000 in
set_option maxRecDepth 100000 in
theorem insG15 (op : Int) (hop : op = 15 ∨ op = 16) (a0_0 a0_1 : Int) (A0_2 : Option Addr) (c0_2 : Nat) (l0_2 : List (S50)) (A0_3 : Option Addr) (c0_3 : Nat) (l0_3 : List (S42)) (A0_4 : Option Addr) (c0_4 : Nat) (l0_4 : List (S52)) (a b protos : Int) (w : World) (hr0_3 : Kd.C k42 w A0_3 l0_3.length l0_3) :
  Calls Try.prog 68 #[.agg #[.int .i64 a0_0, .int .i64 a0_1, .slice A0_2 l0_2.length c0_2, .slice A0_3 l0_3.length c0_3, .slice A0_4 l0_4.length c0_4], .agg #[.int .i64 (op), .int .i64 a, .int .i64 b], .int .i64 protos] w fun e w' => e = .returned (.bool (insK 9 a0_1 l0_2.length l0_4.length l0_3 protos a b)) ∧ Below w.heap.size w w' := by
 rcases hop with rfl | rfl
 all_goals
  generalize hres : insK 9 a0_1 l0_2.length l0_4.length l0_3 protos a b = res
  have HRES := Aq.mk hres
  clear hres
  have HC := Aq.mk hr0_3
  clear hr0_3
  have HB := Aq.mk (Below.refl w.heap.size w)
  go_enter Try.func68, Try.ntmps68
  go_wp2_with (first | ((with_reducible refine q12q (N := 3) rfl ?_); refine q11q ?hg (N := 3) ?hd (cs := #[.int .i64 a0_0, .int .i64 a0_1, .slice A0_2 l0_2.length c0_2, .slice A0_3 l0_3.length c0_3, .slice A0_4 l0_4.length c0_4]) (t := 47) ?hr ?_; (case hd => rfl); (case hg => rfl); (case hr => first | (go_simp; done) | (go_simp; rfl)); intro g3 hg3 w3 hbox3 hb3; have G3 := Aq.mk hg3; clear hg3; have B3 := Aq.mk hbox3; clear hbox3; have HB3 := Aq.mk hb3; clear hb3) | ((with_reducible refine q12q (N := 4) rfl ?_); (first | (refine q11q ?hg (N := 4) ?hd (cs := #[.int .i64 (15), .int .i64 a, .int .i64 b]) (t := 52) ?hr ?_; (case hd => rfl); (case hg => rfl); (case hr => first | (go_simp; done) | (go_simp; rfl))) | (refine q11q ?hg (N := 4) ?hd (cs := #[.int .i64 (16), .int .i64 a, .int .i64 b]) (t := 52) ?hr ?_; (case hd => rfl); (case hg => rfl); (case hr => first | (go_simp; done) | (go_simp; rfl)))); intro g5 hg5 w5 hbox5 hb5; have G5 := Aq.mk hg5; clear hg5; have HB5 := Aq.mk (hb5); clear hb5; have B5 := Aq.mk hbox5; clear hbox5; have lg3 := Aq.mk (Array.getElem?_eq_some_iff.1 B3.out).1; have F3 := Aq.mk ((HB5.out.block g3 lg3.out).trans B3.out); have HBV := Aq.mk (HB3.out.trans (HB5.out.mono HB3.out.size)); have P0 : w5.cell? ⟨g3, 0, none⟩ = some (.int .i64 a0_0) := (q3q F3.out 0).trans rfl; have P1 : w5.cell? ⟨g3, 1, none⟩ = some (.int .i64 a0_1) := (q3q F3.out 1).trans rfl; have P2 : w5.cell? ⟨g3, 2, none⟩ = some (.slice A0_2 l0_2.length c0_2) := (q3q F3.out 2).trans rfl; have P3 : w5.cell? ⟨g3, 3, none⟩ = some (.slice A0_3 l0_3.length c0_3) := (q3q F3.out 3).trans rfl; have P4 : w5.cell? ⟨g3, 4, none⟩ = some (.slice A0_4 l0_4.length c0_4) := (q3q F3.out 4).trans rfl; have C50 : w5.cell? ⟨g5, 0, none⟩ = some (.int .i64 _) := (q3q B5.out 0).trans rfl; have C51 : w5.cell? ⟨g5, 1, none⟩ = some (.int .i64 a) := (q3q B5.out 1).trans rfl; have C52 : w5.cell? ⟨g5, 2, none⟩ = some (.int .i64 b) := (q3q B5.out 2).trans rfl))
  refine (rbelow_any a a0_1 _).mono ?_
  obtain ⟨rg, hrg⟩ : ∃ x, decide (0 ≤ a ∧ a < a0_1) = x := ⟨_, rfl⟩
  rw [hrg]
  rintro e w' ⟨rfl, ⟨n1, rfl⟩⟩
  have HRG := Aq.mk hrg
  clear hrg
  go_wp2_with fail
  refine (rbelow_any b l0_4.length _).mono ?_
  obtain ⟨pl, hpl⟩ : ∃ x, decide (0 ≤ b ∧ b < (l0_4.length : Int)) = x := ⟨_, rfl⟩
  rw [hpl]
  rintro e w' ⟨rfl, ⟨n2, rfl⟩⟩
  have HPL := Aq.mk hpl
  clear hpl
  obtain ⟨m, hm⟩ : ∃ x, wrap64 (a0_1 - 2) = x := ⟨_, rfl⟩
  have hm1 : IntKind.i64.wrap (a0_1 - 2) = m := (i64_w _).trans hm
  have HM := Aq.mk hm
  clear hm
  go_wp2_with fail
  refine (rbelow_any a m _).mono ?_
  obtain ⟨tb, htb⟩ : ∃ x, decide (0 ≤ a ∧ a < m) = x := ⟨_, rfl⟩
  rw [htb]
  rintro e w' ⟨rfl, ⟨n3, rfl⟩⟩
  have Htb := Aq.mk htb
  clear htb
  clear hm1
  cases tb with
  | false =>
   go_wp2_with fail
   go_ret
   exact ⟨by first | (rw [← HRES.out]; unfold insK; simp [HRG.out, HPL.out, HM.out, Htb.out]; done) | (rw [← HRES.out]; unfold insK; rw [HRG.out, HPL.out]; simp [HM.out, Htb.out]), by repeat (first | exact HBV.out | apply q0q | apply q2q)⟩
  | true =>
   go_wp2_with fail
   go_ret
   exact ⟨by first | (rw [← HRES.out]; unfold insK; simp [HRG.out, HPL.out, HM.out, Htb.out]; done) | (rw [← HRES.out]; unfold insK; rw [HRG.out, HPL.out]; simp [HM.out, Htb.out]), by repeat (first | exact HBV.out | apply q0q | apply q2q)⟩
set_option maxHeartbeats 8000000 in
set_option maxRecDepth 100000 in
theorem ins17 (a0_0 a0_1 : Int) (A0_2 : Option Addr) (c0_2 : Nat) (l0_2 : List (S50)) (A0_3 : Option Addr) (c0_3 : Nat) (l0_3 : List (S42)) (A0_4 : Option Addr) (c0_4 : Nat) (l0_4 : List (S52)) (a b protos : Int) (w : World) (hr0_3 : Kd.C k42 w A0_3 l0_3.length l0_3) :
  Calls Try.prog 68 #[.agg #[.int .i64 a0_0, .int .i64 a0_1, .slice A0_2 l0_2.length c0_2, .slice A0_3 l0_3.length c0_3, .slice A0_4 l0_4.length c0_4], .agg #[.int .i64 (17), .int .i64 a, .int .i64 b], .int .i64 protos] w fun e w' => e = .returned (.bool (insK 10 a0_1 l0_2.length l0_4.length l0_3 protos a b)) ∧ Below w.heap.size w w' := by
 generalize hres : insK 10 a0_1 l0_2.length l0_4.length l0_3 protos a b = res
 have HRES := Aq.mk hres
 clear hres
 have HC := Aq.mk hr0_3
 clear hr0_3
 have HB := Aq.mk (Below.refl w.heap.size w)
 go_enter Try.func68, Try.ntmps68
 go_wp2_with (first | ((with_reducible refine q12q (N := 3) rfl ?_); refine q11q ?hg (N := 3) ?hd (cs := #[.int .i64 a0_0, .int .i64 a0_1, .slice A0_2 l0_2.length c0_2, .slice A0_3 l0_3.length c0_3, .slice A0_4 l0_4.length c0_4]) (t := 47) ?hr ?_; (case hd => rfl); (case hg => rfl); (case hr => first | (go_simp; done) | (go_simp; rfl)); intro g3 hg3 w3 hbox3 hb3; have G3 := Aq.mk hg3; clear hg3; have B3 := Aq.mk hbox3; clear hbox3; have HB3 := Aq.mk hb3; clear hb3) | ((with_reducible refine q12q (N := 4) rfl ?_); refine q11q ?hg (N := 4) ?hd (cs := #[.int .i64 (17), .int .i64 a, .int .i64 b]) (t := 52) ?hr ?_; (case hd => rfl); (case hg => rfl); (case hr => first | (go_simp; done) | (go_simp; rfl)); intro g5 hg5 w5 hbox5 hb5; have G5 := Aq.mk hg5; clear hg5; have HB5 := Aq.mk (hb5); clear hb5; have B5 := Aq.mk hbox5; clear hbox5; have lg3 := Aq.mk (Array.getElem?_eq_some_iff.1 B3.out).1; have F3 := Aq.mk ((HB5.out.block g3 lg3.out).trans B3.out); have HBV := Aq.mk (HB3.out.trans (HB5.out.mono HB3.out.size)); have P0 : w5.cell? ⟨g3, 0, none⟩ = some (.int .i64 a0_0) := (q3q F3.out 0).trans rfl; have P1 : w5.cell? ⟨g3, 1, none⟩ = some (.int .i64 a0_1) := (q3q F3.out 1).trans rfl; have P2 : w5.cell? ⟨g3, 2, none⟩ = some (.slice A0_2 l0_2.length c0_2) := (q3q F3.out 2).trans rfl; have P3 : w5.cell? ⟨g3, 3, none⟩ = some (.slice A0_3 l0_3.length c0_3) := (q3q F3.out 3).trans rfl; have P4 : w5.cell? ⟨g3, 4, none⟩ = some (.slice A0_4 l0_4.length c0_4) := (q3q F3.out 4).trans rfl; have C50 : w5.cell? ⟨g5, 0, none⟩ = some (.int .i64 (17)) := (q3q B5.out 0).trans rfl; have C51 : w5.cell? ⟨g5, 1, none⟩ = some (.int .i64 a) := (q3q B5.out 1).trans rfl; have C52 : w5.cell? ⟨g5, 2, none⟩ = some (.int .i64 b) := (q3q B5.out 2).trans rfl))
 refine (rbelow_any a a0_1 _).mono ?_
 obtain ⟨rg, hrg⟩ : ∃ x, decide (0 ≤ a ∧ a < a0_1) = x := ⟨_, rfl⟩
 rw [hrg]
 rintro e w' ⟨rfl, ⟨n1, rfl⟩⟩
 have HRG := Aq.mk hrg
 clear hrg
 go_wp2_with fail
 refine (rbelow_any b l0_4.length _).mono ?_
 obtain ⟨pl, hpl⟩ : ∃ x, decide (0 ≤ b ∧ b < (l0_4.length : Int)) = x := ⟨_, rfl⟩
 rw [hpl]
 rintro e w' ⟨rfl, ⟨n2, rfl⟩⟩
 have HPL := Aq.mk hpl
 clear hpl
 cases rg with
 | false =>
  go_wp2_with fail
  go_ret
  exact ⟨by first | (rw [← HRES.out]; unfold insK; simp [HRG.out, HPL.out]; done) | (rw [← HRES.out]; unfold insK; rw [HRG.out, HPL.out]; simp), by repeat (first | exact HBV.out | apply q0q | apply q2q)⟩
 | true =>
  by_cases h0 : 0 < b
  ·have b0 : decide (0 < b) = true := decide_eq_true h0
   go_wp2_with fail
   go_ret
   exact ⟨by first | (rw [← HRES.out]; unfold insK; simp [HRG.out, HPL.out, h0, b0]; done) | (rw [← HRES.out]; unfold insK; rw [HRG.out, HPL.out]; simp [h0, b0]), by repeat (first | exact HBV.out | apply q0q | apply q2q)⟩
  have b0 : decide (0 < b) = false := decide_eq_false h0
  go_wp2_with fail
  go_ret
  exact ⟨by first | (rw [← HRES.out]; unfold insK; simp [HRG.out, HPL.out, h0, b0]; done) | (rw [← HRES.out]; unfold insK; rw [HRG.out, HPL.out]; simp [h0, b0]), by repeat (first | exact HBV.out | apply q0q | apply q2q)⟩
set_option maxHeartbeats 8000000 in
set_option maxRecDepth 100000 in
theorem ins18 (a0_0 a0_1 : Int) (A0_2 : Option Addr) (c0_2 : Nat) (l0_2 : List (S50)) (A0_3 : Option Addr) (c0_3 : Nat) (l0_3 : List (S42)) (A0_4 : Option Addr) (c0_4 : Nat) (l0_4 : List (S52)) (a b protos : Int) (w : World) (hr0_3 : Kd.C k42 w A0_3 l0_3.length l0_3) :
  Calls Try.prog 68 #[.agg #[.int .i64 a0_0, .int .i64 a0_1, .slice A0_2 l0_2.length c0_2, .slice A0_3 l0_3.length c0_3, .slice A0_4 l0_4.length c0_4], .agg #[.int .i64 (18), .int .i64 a, .int .i64 b], .int .i64 protos] w fun e w' => e = .returned (.bool (insK 11 a0_1 l0_2.length l0_4.length l0_3 protos a b)) ∧ Below w.heap.size w w' := by
 generalize hres : insK 11 a0_1 l0_2.length l0_4.length l0_3 protos a b = res
 have HRES := Aq.mk hres
 clear hres
 have HC := Aq.mk hr0_3
 clear hr0_3
 have HB := Aq.mk (Below.refl w.heap.size w)
 go_enter Try.func68, Try.ntmps68
 go_wp2_with (first | ((with_reducible refine q12q (N := 3) rfl ?_); refine q11q ?hg (N := 3) ?hd (cs := #[.int .i64 a0_0, .int .i64 a0_1, .slice A0_2 l0_2.length c0_2, .slice A0_3 l0_3.length c0_3, .slice A0_4 l0_4.length c0_4]) (t := 47) ?hr ?_; (case hd => rfl); (case hg => rfl); (case hr => first | (go_simp; done) | (go_simp; rfl)); intro g3 hg3 w3 hbox3 hb3; have G3 := Aq.mk hg3; clear hg3; have B3 := Aq.mk hbox3; clear hbox3; have HB3 := Aq.mk hb3; clear hb3) | ((with_reducible refine q12q (N := 4) rfl ?_); refine q11q ?hg (N := 4) ?hd (cs := #[.int .i64 (18), .int .i64 a, .int .i64 b]) (t := 52) ?hr ?_; (case hd => rfl); (case hg => rfl); (case hr => first | (go_simp; done) | (go_simp; rfl)); intro g5 hg5 w5 hbox5 hb5; have G5 := Aq.mk hg5; clear hg5; have HB5 := Aq.mk (hb5); clear hb5; have B5 := Aq.mk hbox5; clear hbox5; have lg3 := Aq.mk (Array.getElem?_eq_some_iff.1 B3.out).1; have F3 := Aq.mk ((HB5.out.block g3 lg3.out).trans B3.out); have HBV := Aq.mk (HB3.out.trans (HB5.out.mono HB3.out.size)); have P0 : w5.cell? ⟨g3, 0, none⟩ = some (.int .i64 a0_0) := (q3q F3.out 0).trans rfl; have P1 : w5.cell? ⟨g3, 1, none⟩ = some (.int .i64 a0_1) := (q3q F3.out 1).trans rfl; have P2 : w5.cell? ⟨g3, 2, none⟩ = some (.slice A0_2 l0_2.length c0_2) := (q3q F3.out 2).trans rfl; have P3 : w5.cell? ⟨g3, 3, none⟩ = some (.slice A0_3 l0_3.length c0_3) := (q3q F3.out 3).trans rfl; have P4 : w5.cell? ⟨g3, 4, none⟩ = some (.slice A0_4 l0_4.length c0_4) := (q3q F3.out 4).trans rfl; have C50 : w5.cell? ⟨g5, 0, none⟩ = some (.int .i64 (18)) := (q3q B5.out 0).trans rfl; have C51 : w5.cell? ⟨g5, 1, none⟩ = some (.int .i64 a) := (q3q B5.out 1).trans rfl; have C52 : w5.cell? ⟨g5, 2, none⟩ = some (.int .i64 b) := (q3q B5.out 2).trans rfl))
 refine (rbelow_any a a0_1 _).mono ?_
 obtain ⟨rg, hrg⟩ : ∃ x, decide (0 ≤ a ∧ a < a0_1) = x := ⟨_, rfl⟩
 rw [hrg]
 rintro e w' ⟨rfl, ⟨n1, rfl⟩⟩
 have HRG := Aq.mk hrg
 clear hrg
 go_wp2_with fail
 refine (rbelow_any b l0_4.length _).mono ?_
 obtain ⟨pl, hpl⟩ : ∃ x, decide (0 ≤ b ∧ b < (l0_4.length : Int)) = x := ⟨_, rfl⟩
 rw [hpl]
 rintro e w' ⟨rfl, ⟨n2, rfl⟩⟩
 have HPL := Aq.mk hpl
 clear hpl
 cases rg with
 | false =>
  go_wp2_with fail
  go_ret
  exact ⟨by first | (rw [← HRES.out]; unfold insK; simp [HRG.out, HPL.out]; done) | (rw [← HRES.out]; unfold insK; rw [HRG.out, HPL.out]; simp), by repeat (first | exact HBV.out | apply q0q | apply q2q)⟩
 | true =>
  by_cases h0 : 0 ≤ b
  case neg =>
   have b0 : decide (0 ≤ b) = false := decide_eq_false h0
   go_wp2_with fail
   go_ret
   exact ⟨by first | (rw [← HRES.out]; unfold insK; simp [HRG.out, HPL.out, h0, b0]; done) | (rw [← HRES.out]; unfold insK; rw [HRG.out, HPL.out]; simp [h0, b0]), by repeat (first | exact HBV.out | apply q0q | apply q2q)⟩
  have b0 : decide (0 ≤ b) = true := decide_eq_true h0
  by_cases h1 : b ≤ 20
  case neg =>
   have b1 : decide (b ≤ 20) = false := decide_eq_false h1
   go_wp2_with fail
   go_ret
   exact ⟨by first | (rw [← HRES.out]; unfold insK; simp [HRG.out, HPL.out, h0, h1, b0, b1]; done) | (rw [← HRES.out]; unfold insK; rw [HRG.out, HPL.out]; simp [h0, h1, b0, b1]), by repeat (first | exact HBV.out | apply q0q | apply q2q)⟩
  have b1 : decide (b ≤ 20) = true := decide_eq_true h1
  obtain ⟨m, hm⟩ : ∃ x, wrap64 (a0_1 - b) = x := ⟨_, rfl⟩
  have hm1 : IntKind.i64.wrap (a0_1 - b) = m := (i64_w _).trans hm
  have HM := Aq.mk hm
  clear hm
  go_wp2_with fail
  refine (rbelow_any a m _).mono ?_
  obtain ⟨tb, htb⟩ : ∃ x, decide (0 ≤ a ∧ a < m) = x := ⟨_, rfl⟩
  rw [htb]
  rintro e w' ⟨rfl, ⟨n3, rfl⟩⟩
  have Htb := Aq.mk htb
  clear htb
  clear hm1
  go_wp2_with fail
  go_ret
  exact ⟨by first | (rw [← HRES.out]; unfold insK; simp [HRG.out, HPL.out, h0, h1, b0, b1, HM.out, Htb.out]; done) | (rw [← HRES.out]; unfold insK; rw [HRG.out, HPL.out]; simp [h0, h1, b0, b1, HM.out, Htb.out]), by repeat (first | exact HBV.out | apply q0q | apply q2q)⟩
set_option maxHeartbeats 8000000 in
set_option maxRecDepth 100000 in
theorem ins20 (a0_0 a0_1 : Int) (A0_2 : Option Addr) (c0_2 : Nat) (l0_2 : List (S50)) (A0_3 : Option Addr) (c0_3 : Nat) (l0_3 : List (S42)) (A0_4 : Option Addr) (c0_4 : Nat) (l0_4 : List (S52)) (a b protos : Int) (w : World) (hr0_3 : Kd.C k42 w A0_3 l0_3.length l0_3) :
  Calls Try.prog 68 #[.agg #[.int .i64 a0_0, .int .i64 a0_1, .slice A0_2 l0_2.length c0_2, .slice A0_3 l0_3.length c0_3, .slice A0_4 l0_4.length c0_4], .agg #[.int .i64 (20), .int .i64 a, .int .i64 b], .int .i64 protos] w fun e w' => e = .returned (.bool (insK 13 a0_1 l0_2.length l0_4.length l0_3 protos a b)) ∧ Below w.heap.size w w' := by
 generalize hres : insK 13 a0_1 l0_2.length l0_4.length l0_3 protos a b = res
 have HRES := Aq.mk hres
 clear hres
 have HC := Aq.mk hr0_3
 clear hr0_3
 have HB := Aq.mk (Below.refl w.heap.size w)
 go_enter Try.func68, Try.ntmps68
 go_wp2_with (first | ((with_reducible refine q12q (N := 3) rfl ?_); refine q11q ?hg (N := 3) ?hd (cs := #[.int .i64 a0_0, .int .i64 a0_1, .slice A0_2 l0_2.length c0_2, .slice A0_3 l0_3.length c0_3, .slice A0_4 l0_4.length c0_4]) (t := 47) ?hr ?_; (case hd => rfl); (case hg => rfl); (case hr => first | (go_simp; done) | (go_simp; rfl)); intro g3 hg3 w3 hbox3 hb3; have G3 := Aq.mk hg3; clear hg3; have B3 := Aq.mk hbox3; clear hbox3; have HB3 := Aq.mk hb3; clear hb3) | ((with_reducible refine q12q (N := 4) rfl ?_); refine q11q ?hg (N := 4) ?hd (cs := #[.int .i64 (20), .int .i64 a, .int .i64 b]) (t := 52) ?hr ?_; (case hd => rfl); (case hg => rfl); (case hr => first | (go_simp; done) | (go_simp; rfl)); intro g5 hg5 w5 hbox5 hb5; have G5 := Aq.mk hg5; clear hg5; have HB5 := Aq.mk (hb5); clear hb5; have B5 := Aq.mk hbox5; clear hbox5; have lg3 := Aq.mk (Array.getElem?_eq_some_iff.1 B3.out).1; have F3 := Aq.mk ((HB5.out.block g3 lg3.out).trans B3.out); have HBV := Aq.mk (HB3.out.trans (HB5.out.mono HB3.out.size)); have P0 : w5.cell? ⟨g3, 0, none⟩ = some (.int .i64 a0_0) := (q3q F3.out 0).trans rfl; have P1 : w5.cell? ⟨g3, 1, none⟩ = some (.int .i64 a0_1) := (q3q F3.out 1).trans rfl; have P2 : w5.cell? ⟨g3, 2, none⟩ = some (.slice A0_2 l0_2.length c0_2) := (q3q F3.out 2).trans rfl; have P3 : w5.cell? ⟨g3, 3, none⟩ = some (.slice A0_3 l0_3.length c0_3) := (q3q F3.out 3).trans rfl; have P4 : w5.cell? ⟨g3, 4, none⟩ = some (.slice A0_4 l0_4.length c0_4) := (q3q F3.out 4).trans rfl; have C50 : w5.cell? ⟨g5, 0, none⟩ = some (.int .i64 (20)) := (q3q B5.out 0).trans rfl; have C51 : w5.cell? ⟨g5, 1, none⟩ = some (.int .i64 a) := (q3q B5.out 1).trans rfl; have C52 : w5.cell? ⟨g5, 2, none⟩ = some (.int .i64 b) := (q3q B5.out 2).trans rfl))
 refine (rbelow_any a a0_1 _).mono ?_
 obtain ⟨rg, hrg⟩ : ∃ x, decide (0 ≤ a ∧ a < a0_1) = x := ⟨_, rfl⟩
 rw [hrg]
 rintro e w' ⟨rfl, ⟨n1, rfl⟩⟩
 have HRG := Aq.mk hrg
 clear hrg
 go_wp2_with fail
 refine (rbelow_any b l0_4.length _).mono ?_
 obtain ⟨pl, hpl⟩ : ∃ x, decide (0 ≤ b ∧ b < (l0_4.length : Int)) = x := ⟨_, rfl⟩
 rw [hpl]
 rintro e w' ⟨rfl, ⟨n2, rfl⟩⟩
 have HPL := Aq.mk hpl
 clear hpl
 by_cases h0 : a = 0
 ·have b0 : (a == 0) = true := beq_iff_eq.mpr h0
  go_wp2_with fail
  go_ret
  exact ⟨by first | (rw [← HRES.out]; unfold insK; simp [HRG.out, HPL.out, h0, b0]; done) | (rw [← HRES.out]; unfold insK; rw [HRG.out, HPL.out]; simp [h0, b0]), by repeat (first | exact HBV.out | apply q0q | apply q2q)⟩
 have b0 : (a == 0) = false := beq_eq_false_iff_ne.mpr h0
 go_wp2_with fail
 go_ret
 exact ⟨by first | (rw [← HRES.out]; unfold insK; simp [HRG.out, HPL.out, h0, b0]; done) | (rw [← HRES.out]; unfold insK; rw [HRG.out, HPL.out]; simp [h0, b0]), by repeat (first | exact HBV.out | apply q0q | apply q2q)⟩
set_option maxHeartbeats 8000000 in
set_option maxRecDepth 100000 in
theorem insG21 (op : Int) (hop : op = 21 ∨ op = 22 ∨ op = 23 ∨ op = 24 ∨ op = 35) (a0_0 a0_1 : Int) (A0_2 : Option Addr) (c0_2 : Nat) (l0_2 : List (S50)) (A0_3 : Option Addr) (c0_3 : Nat) (l0_3 : List (S42)) (A0_4 : Option Addr) (c0_4 : Nat) (l0_4 : List (S52)) (a b protos : Int) (w : World) (hr0_3 : Kd.C k42 w A0_3 l0_3.length l0_3) :
  Calls Try.prog 68 #[.agg #[.int .i64 a0_0, .int .i64 a0_1, .slice A0_2 l0_2.length c0_2, .slice A0_3 l0_3.length c0_3, .slice A0_4 l0_4.length c0_4], .agg #[.int .i64 (op), .int .i64 a, .int .i64 b], .int .i64 protos] w fun e w' => e = .returned (.bool (insK 12 a0_1 l0_2.length l0_4.length l0_3 protos a b)) ∧ Below w.heap.size w w' := by
 rcases hop with rfl | rfl | rfl | rfl | rfl
 all_goals
  generalize hres : insK 12 a0_1 l0_2.length l0_4.length l0_3 protos a b = res
  have HRES := Aq.mk hres
  clear hres
  have HC := Aq.mk hr0_3
  clear hr0_3
  have HB := Aq.mk (Below.refl w.heap.size w)
  go_enter Try.func68, Try.ntmps68
  go_wp2_with (first | ((with_reducible refine q12q (N := 3) rfl ?_); refine q11q ?hg (N := 3) ?hd (cs := #[.int .i64 a0_0, .int .i64 a0_1, .slice A0_2 l0_2.length c0_2, .slice A0_3 l0_3.length c0_3, .slice A0_4 l0_4.length c0_4]) (t := 47) ?hr ?_; (case hd => rfl); (case hg => rfl); (case hr => first | (go_simp; done) | (go_simp; rfl)); intro g3 hg3 w3 hbox3 hb3; have G3 := Aq.mk hg3; clear hg3; have B3 := Aq.mk hbox3; clear hbox3; have HB3 := Aq.mk hb3; clear hb3) | ((with_reducible refine q12q (N := 4) rfl ?_); (first | (refine q11q ?hg (N := 4) ?hd (cs := #[.int .i64 (21), .int .i64 a, .int .i64 b]) (t := 52) ?hr ?_; (case hd => rfl); (case hg => rfl); (case hr => first | (go_simp; done) | (go_simp; rfl))) | (refine q11q ?hg (N := 4) ?hd (cs := #[.int .i64 (22), .int .i64 a, .int .i64 b]) (t := 52) ?hr ?_; (case hd => rfl); (case hg => rfl); (case hr => first | (go_simp; done) | (go_simp; rfl))) | (refine q11q ?hg (N := 4) ?hd (cs := #[.int .i64 (23), .int .i64 a, .int .i64 b]) (t := 52) ?hr ?_; (case hd => rfl); (case hg => rfl); (case hr => first | (go_simp; done) | (go_simp; rfl))) | (refine q11q ?hg (N := 4) ?hd (cs := #[.int .i64 (24), .int .i64 a, .int .i64 b]) (t := 52) ?hr ?_; (case hd => rfl); (case hg => rfl); (case hr => first | (go_simp; done) | (go_simp; rfl))) | (refine q11q ?hg (N := 4) ?hd (cs := #[.int .i64 (35), .int .i64 a, .int .i64 b]) (t := 52) ?hr ?_; (case hd => rfl); (case hg => rfl); (case hr => first | (go_simp; done) | (go_simp; rfl)))); intro g5 hg5 w5 hbox5 hb5; have G5 := Aq.mk hg5; clear hg5; have HB5 := Aq.mk (hb5); clear hb5; have B5 := Aq.mk hbox5; clear hbox5; have lg3 := Aq.mk (Array.getElem?_eq_some_iff.1 B3.out).1; have F3 := Aq.mk ((HB5.out.block g3 lg3.out).trans B3.out); have HBV := Aq.mk (HB3.out.trans (HB5.out.mono HB3.out.size)); have P0 : w5.cell? ⟨g3, 0, none⟩ = some (.int .i64 a0_0) := (q3q F3.out 0).trans rfl; have P1 : w5.cell? ⟨g3, 1, none⟩ = some (.int .i64 a0_1) := (q3q F3.out 1).trans rfl; have P2 : w5.cell? ⟨g3, 2, none⟩ = some (.slice A0_2 l0_2.length c0_2) := (q3q F3.out 2).trans rfl; have P3 : w5.cell? ⟨g3, 3, none⟩ = some (.slice A0_3 l0_3.length c0_3) := (q3q F3.out 3).trans rfl; have P4 : w5.cell? ⟨g3, 4, none⟩ = some (.slice A0_4 l0_4.length c0_4) := (q3q F3.out 4).trans rfl; have C50 : w5.cell? ⟨g5, 0, none⟩ = some (.int .i64 _) := (q3q B5.out 0).trans rfl; have C51 : w5.cell? ⟨g5, 1, none⟩ = some (.int .i64 a) := (q3q B5.out 1).trans rfl; have C52 : w5.cell? ⟨g5, 2, none⟩ = some (.int .i64 b) := (q3q B5.out 2).trans rfl))
  refine (rbelow_any a a0_1 _).mono ?_
  obtain ⟨rg, hrg⟩ : ∃ x, decide (0 ≤ a ∧ a < a0_1) = x := ⟨_, rfl⟩
  rw [hrg]
  rintro e w' ⟨rfl, ⟨n1, rfl⟩⟩
  have HRG := Aq.mk hrg
  clear hrg
  go_wp2_with fail
  refine (rbelow_any b l0_4.length _).mono ?_
  obtain ⟨pl, hpl⟩ : ∃ x, decide (0 ≤ b ∧ b < (l0_4.length : Int)) = x := ⟨_, rfl⟩
  rw [hpl]
  rintro e w' ⟨rfl, ⟨n2, rfl⟩⟩
  have HPL := Aq.mk hpl
  clear hpl
  cases rg with
  | false =>
   go_wp2_with fail
   go_ret
   exact ⟨by first | (rw [← HRES.out]; unfold insK; simp [HRG.out, HPL.out]; done) | (rw [← HRES.out]; unfold insK; rw [HRG.out, HPL.out]; simp), by repeat (first | exact HBV.out | apply q0q | apply q2q)⟩
  | true =>
   go_wp2_with fail
   go_ret
   exact ⟨by first | (rw [← HRES.out]; unfold insK; simp [HRG.out, HPL.out]; done) | (rw [← HRES.out]; unfold insK; rw [HRG.out, HPL.out]; simp), by repeat (first | exact HBV.out | apply q0q | apply q2q)⟩
set_option maxHeartbeats 8000000 in
set_option maxRecDepth 100000 in
theorem ins25 (a0_0 a0_1 : Int) (A0_2 : Option Addr) (c0_2 : Nat) (l0_2 : List (S50)) (A0_3 : Option Addr) (c0_3 : Nat) (l0_3 : List (S42)) (A0_4 : Option Addr) (c0_4 : Nat) (l0_4 : List (S52)) (a b protos : Int) (w : World) (hr0_3 : Kd.C k42 w A0_3 l0_3.length l0_3) :
  Calls Try.prog 68 #[.agg #[.int .i64 a0_0, .int .i64 a0_1, .slice A0_2 l0_2.length c0_2, .slice A0_3 l0_3.length c0_3, .slice A0_4 l0_4.length c0_4], .agg #[.int .i64 (25), .int .i64 a, .int .i64 b], .int .i64 protos] w fun e w' => e = .returned (.bool (insK 7 a0_1 l0_2.length l0_4.length l0_3 protos a b)) ∧ Below w.heap.size w w' := by
 generalize hres : insK 7 a0_1 l0_2.length l0_4.length l0_3 protos a b = res
 have HRES := Aq.mk hres
 clear hres
 have HC := Aq.mk hr0_3
 clear hr0_3
 have HB := Aq.mk (Below.refl w.heap.size w)
 go_enter Try.func68, Try.ntmps68
 go_wp2_with (first | ((with_reducible refine q12q (N := 3) rfl ?_); refine q11q ?hg (N := 3) ?hd (cs := #[.int .i64 a0_0, .int .i64 a0_1, .slice A0_2 l0_2.length c0_2, .slice A0_3 l0_3.length c0_3, .slice A0_4 l0_4.length c0_4]) (t := 47) ?hr ?_; (case hd => rfl); (case hg => rfl); (case hr => first | (go_simp; done) | (go_simp; rfl)); intro g3 hg3 w3 hbox3 hb3; have G3 := Aq.mk hg3; clear hg3; have B3 := Aq.mk hbox3; clear hbox3; have HB3 := Aq.mk hb3; clear hb3) | ((with_reducible refine q12q (N := 4) rfl ?_); refine q11q ?hg (N := 4) ?hd (cs := #[.int .i64 (25), .int .i64 a, .int .i64 b]) (t := 52) ?hr ?_; (case hd => rfl); (case hg => rfl); (case hr => first | (go_simp; done) | (go_simp; rfl)); intro g5 hg5 w5 hbox5 hb5; have G5 := Aq.mk hg5; clear hg5; have HB5 := Aq.mk (hb5); clear hb5; have B5 := Aq.mk hbox5; clear hbox5; have lg3 := Aq.mk (Array.getElem?_eq_some_iff.1 B3.out).1; have F3 := Aq.mk ((HB5.out.block g3 lg3.out).trans B3.out); have HBV := Aq.mk (HB3.out.trans (HB5.out.mono HB3.out.size)); have P0 : w5.cell? ⟨g3, 0, none⟩ = some (.int .i64 a0_0) := (q3q F3.out 0).trans rfl; have P1 : w5.cell? ⟨g3, 1, none⟩ = some (.int .i64 a0_1) := (q3q F3.out 1).trans rfl; have P2 : w5.cell? ⟨g3, 2, none⟩ = some (.slice A0_2 l0_2.length c0_2) := (q3q F3.out 2).trans rfl; have P3 : w5.cell? ⟨g3, 3, none⟩ = some (.slice A0_3 l0_3.length c0_3) := (q3q F3.out 3).trans rfl; have P4 : w5.cell? ⟨g3, 4, none⟩ = some (.slice A0_4 l0_4.length c0_4) := (q3q F3.out 4).trans rfl; have C50 : w5.cell? ⟨g5, 0, none⟩ = some (.int .i64 (25)) := (q3q B5.out 0).trans rfl; have C51 : w5.cell? ⟨g5, 1, none⟩ = some (.int .i64 a) := (q3q B5.out 1).trans rfl; have C52 : w5.cell? ⟨g5, 2, none⟩ = some (.int .i64 b) := (q3q B5.out 2).trans rfl))
 refine (rbelow_any a a0_1 _).mono ?_
 obtain ⟨rg, hrg⟩ : ∃ x, decide (0 ≤ a ∧ a < a0_1) = x := ⟨_, rfl⟩
 rw [hrg]
 rintro e w' ⟨rfl, ⟨n1, rfl⟩⟩
 have HRG := Aq.mk hrg
 clear hrg
 go_wp2_with fail
 refine (rbelow_any b l0_4.length _).mono ?_
 obtain ⟨pl, hpl⟩ : ∃ x, decide (0 ≤ b ∧ b < (l0_4.length : Int)) = x := ⟨_, rfl⟩
 rw [hpl]
 rintro e w' ⟨rfl, ⟨n2, rfl⟩⟩
 have HPL := Aq.mk hpl
 clear hpl
 obtain ⟨m, hm⟩ : ∃ x, wrap64 (a0_1 - 1) = x := ⟨_, rfl⟩
 have hm1 : IntKind.i64.wrap (a0_1 - 1) = m := (i64_w _).trans hm
 have HM := Aq.mk hm
 clear hm
 go_wp2_with fail
 refine (rbelow_any a m _).mono ?_
 obtain ⟨tb, htb⟩ : ∃ x, decide (0 ≤ a ∧ a < m) = x := ⟨_, rfl⟩
 rw [htb]
 rintro e w' ⟨rfl, ⟨n3, rfl⟩⟩
 have Htb := Aq.mk htb
 clear htb
 clear hm1
 cases tb with
 | false =>
  go_wp2_with fail
  go_ret
  exact ⟨by first | (rw [← HRES.out]; unfold insK; simp [HRG.out, HPL.out, HM.out, Htb.out]; done) | (rw [← HRES.out]; unfold insK; rw [HRG.out, HPL.out]; simp [HM.out, Htb.out]), by repeat (first | exact HBV.out | apply q0q | apply q2q)⟩
 | true =>
  by_cases h0 : 0 ≤ b
  ·have b0 : decide (0 ≤ b) = true := decide_eq_true h0
   go_wp2_with fail
   go_ret
   exact ⟨by first | (rw [← HRES.out]; unfold insK; simp [HRG.out, HPL.out, h0, b0, HM.out, Htb.out]; done) | (rw [← HRES.out]; unfold insK; rw [HRG.out, HPL.out]; simp [h0, b0, HM.out, Htb.out]), by repeat (first | exact HBV.out | apply q0q | apply q2q)⟩
  have b0 : decide (0 ≤ b) = false := decide_eq_false h0
  go_wp2_with fail
  go_ret
  exact ⟨by first | (rw [← HRES.out]; unfold insK; simp [HRG.out, HPL.out, h0, b0, HM.out, Htb.out]; done) | (rw [← HRES.out]; unfold insK; rw [HRG.out, HPL.out]; simp [h0, b0, HM.out, Htb.out]), by repeat (first | exact HBV.out | apply q0q | apply q2q)⟩
set_option maxHeartbeats 8000000 in
set_option maxRecDepth 100000 in
theorem insG33 (op : Int) (hop : op = 33 ∨ op = 34) (a0_0 a0_1 : Int) (A0_2 : Option Addr) (c0_2 : Nat) (l0_2 : List (S50)) (A0_3 : Option Addr) (c0_3 : Nat) (l0_3 : List (S42)) (A0_4 : Option Addr) (c0_4 : Nat) (l0_4 : List (S52)) (a b protos : Int) (w : World) (hr0_3 : Kd.C k42 w A0_3 l0_3.length l0_3) :
  Calls Try.prog 68 #[.agg #[.int .i64 a0_0, .int .i64 a0_1, .slice A0_2 l0_2.length c0_2, .slice A0_3 l0_3.length c0_3, .slice A0_4 l0_4.length c0_4], .agg #[.int .i64 (op), .int .i64 a, .int .i64 b], .int .i64 protos] w fun e w' => e = .returned (.bool (insK 8 a0_1 l0_2.length l0_4.length l0_3 protos a b)) ∧ Below w.heap.size w w' := by
 rcases hop with rfl | rfl
 all_goals
  generalize hres : insK 8 a0_1 l0_2.length l0_4.length l0_3 protos a b = res
  have HRES := Aq.mk hres
  clear hres
  have HC := Aq.mk hr0_3
  clear hr0_3
  have HB := Aq.mk (Below.refl w.heap.size w)
  go_enter Try.func68, Try.ntmps68
  go_wp2_with (first | ((with_reducible refine q12q (N := 3) rfl ?_); refine q11q ?hg (N := 3) ?hd (cs := #[.int .i64 a0_0, .int .i64 a0_1, .slice A0_2 l0_2.length c0_2, .slice A0_3 l0_3.length c0_3, .slice A0_4 l0_4.length c0_4]) (t := 47) ?hr ?_; (case hd => rfl); (case hg => rfl); (case hr => first | (go_simp; done) | (go_simp; rfl)); intro g3 hg3 w3 hbox3 hb3; have G3 := Aq.mk hg3; clear hg3; have B3 := Aq.mk hbox3; clear hbox3; have HB3 := Aq.mk hb3; clear hb3) | ((with_reducible refine q12q (N := 4) rfl ?_); (first | (refine q11q ?hg (N := 4) ?hd (cs := #[.int .i64 (33), .int .i64 a, .int .i64 b]) (t := 52) ?hr ?_; (case hd => rfl); (case hg => rfl); (case hr => first | (go_simp; done) | (go_simp; rfl))) | (refine q11q ?hg (N := 4) ?hd (cs := #[.int .i64 (34), .int .i64 a, .int .i64 b]) (t := 52) ?hr ?_; (case hd => rfl); (case hg => rfl); (case hr => first | (go_simp; done) | (go_simp; rfl)))); intro g5 hg5 w5 hbox5 hb5; have G5 := Aq.mk hg5; clear hg5; have HB5 := Aq.mk (hb5); clear hb5; have B5 := Aq.mk hbox5; clear hbox5; have lg3 := Aq.mk (Array.getElem?_eq_some_iff.1 B3.out).1; have F3 := Aq.mk ((HB5.out.block g3 lg3.out).trans B3.out); have HBV := Aq.mk (HB3.out.trans (HB5.out.mono HB3.out.size)); have P0 : w5.cell? ⟨g3, 0, none⟩ = some (.int .i64 a0_0) := (q3q F3.out 0).trans rfl; have P1 : w5.cell? ⟨g3, 1, none⟩ = some (.int .i64 a0_1) := (q3q F3.out 1).trans rfl; have P2 : w5.cell? ⟨g3, 2, none⟩ = some (.slice A0_2 l0_2.length c0_2) := (q3q F3.out 2).trans rfl; have P3 : w5.cell? ⟨g3, 3, none⟩ = some (.slice A0_3 l0_3.length c0_3) := (q3q F3.out 3).trans rfl; have P4 : w5.cell? ⟨g3, 4, none⟩ = some (.slice A0_4 l0_4.length c0_4) := (q3q F3.out 4).trans rfl; have C50 : w5.cell? ⟨g5, 0, none⟩ = some (.int .i64 _) := (q3q B5.out 0).trans rfl; have C51 : w5.cell? ⟨g5, 1, none⟩ = some (.int .i64 a) := (q3q B5.out 1).trans rfl; have C52 : w5.cell? ⟨g5, 2, none⟩ = some (.int .i64 b) := (q3q B5.out 2).trans rfl))
  refine (rbelow_any a a0_1 _).mono ?_
  obtain ⟨rg, hrg⟩ : ∃ x, decide (0 ≤ a ∧ a < a0_1) = x := ⟨_, rfl⟩
  rw [hrg]
  rintro e w' ⟨rfl, ⟨n1, rfl⟩⟩
  have HRG := Aq.mk hrg
  clear hrg
  go_wp2_with fail
  refine (rbelow_any b l0_4.length _).mono ?_
  obtain ⟨pl, hpl⟩ : ∃ x, decide (0 ≤ b ∧ b < (l0_4.length : Int)) = x := ⟨_, rfl⟩
  rw [hpl]
  rintro e w' ⟨rfl, ⟨n2, rfl⟩⟩
  have HPL := Aq.mk hpl
  clear hpl
  obtain ⟨m, hm⟩ : ∃ x, wrap64 (a0_1 - 1) = x := ⟨_, rfl⟩
  have hm1 : IntKind.i64.wrap (a0_1 - 1) = m := (i64_w _).trans hm
  have HM := Aq.mk hm
  clear hm
  go_wp2_with fail
  refine (rbelow_any a m _).mono ?_
  obtain ⟨tb, htb⟩ : ∃ x, decide (0 ≤ a ∧ a < m) = x := ⟨_, rfl⟩
  rw [htb]
  rintro e w' ⟨rfl, ⟨n3, rfl⟩⟩
  have Htb := Aq.mk htb
  clear htb
  clear hm1
  cases tb with
  | false =>
   go_wp2_with fail
   go_ret
   exact ⟨by first | (rw [← HRES.out]; unfold insK; simp [HRG.out, HPL.out, HM.out, Htb.out]; done) | (rw [← HRES.out]; unfold insK; rw [HRG.out, HPL.out]; simp [HM.out, Htb.out]), by repeat (first | exact HBV.out | apply q0q | apply q2q)⟩
  | true =>
   go_wp2_with fail
   go_ret
   exact ⟨by first | (rw [← HRES.out]; unfold insK; simp [HRG.out, HPL.out, HM.out, Htb.out]; done) | (rw [← HRES.out]; unfold insK; rw [HRG.out, HPL.out]; simp [HM.out, Htb.out]), by repeat (first | exact HBV.out | apply q0q | apply q2q)⟩
set_option maxHeartbeats 8000000 in
set_option maxRecDepth 100000 in
theorem ins36 (a0_0 a0_1 : Int) (A0_2 : Option Addr) (c0_2 : Nat) (l0_2 : List (S50)) (A0_3 : Option Addr) (c0_3 : Nat) (l0_3 : List (S42)) (A0_4 : Option Addr) (c0_4 : Nat) (l0_4 : List (S52)) (a b protos : Int) (w : World) (hr0_3 : Kd.C k42 w A0_3 l0_3.length l0_3) :
  Calls Try.prog 68 #[.agg #[.int .i64 a0_0, .int .i64 a0_1, .slice A0_2 l0_2.length c0_2, .slice A0_3 l0_3.length c0_3, .slice A0_4 l0_4.length c0_4], .agg #[.int .i64 (36), .int .i64 a, .int .i64 b], .int .i64 protos] w fun e w' => e = .returned (.bool (insK 14 a0_1 l0_2.length l0_4.length l0_3 protos a b)) ∧ Below w.heap.size w w' := by
 generalize hres : insK 14 a0_1 l0_2.length l0_4.length l0_3 protos a b = res
 have HRES := Aq.mk hres
 clear hres
 have HC := Aq.mk hr0_3
 clear hr0_3
 have HB := Aq.mk (Below.refl w.heap.size w)
 go_enter Try.func68, Try.ntmps68
 go_wp2_with (first | ((with_reducible refine q12q (N := 3) rfl ?_); refine q11q ?hg (N := 3) ?hd (cs := #[.int .i64 a0_0, .int .i64 a0_1, .slice A0_2 l0_2.length c0_2, .slice A0_3 l0_3.length c0_3, .slice A0_4 l0_4.length c0_4]) (t := 47) ?hr ?_; (case hd => rfl); (case hg => rfl); (case hr => first | (go_simp; done) | (go_simp; rfl)); intro g3 hg3 w3 hbox3 hb3; have G3 := Aq.mk hg3; clear hg3; have B3 := Aq.mk hbox3; clear hbox3; have HB3 := Aq.mk hb3; clear hb3) | ((with_reducible refine q12q (N := 4) rfl ?_); refine q11q ?hg (N := 4) ?hd (cs := #[.int .i64 (36), .int .i64 a, .int .i64 b]) (t := 52) ?hr ?_; (case hd => rfl); (case hg => rfl); (case hr => first | (go_simp; done) | (go_simp; rfl)); intro g5 hg5 w5 hbox5 hb5; have G5 := Aq.mk hg5; clear hg5; have HB5 := Aq.mk (hb5); clear hb5; have B5 := Aq.mk hbox5; clear hbox5; have lg3 := Aq.mk (Array.getElem?_eq_some_iff.1 B3.out).1; have F3 := Aq.mk ((HB5.out.block g3 lg3.out).trans B3.out); have HBV := Aq.mk (HB3.out.trans (HB5.out.mono HB3.out.size)); have P0 : w5.cell? ⟨g3, 0, none⟩ = some (.int .i64 a0_0) := (q3q F3.out 0).trans rfl; have P1 : w5.cell? ⟨g3, 1, none⟩ = some (.int .i64 a0_1) := (q3q F3.out 1).trans rfl; have P2 : w5.cell? ⟨g3, 2, none⟩ = some (.slice A0_2 l0_2.length c0_2) := (q3q F3.out 2).trans rfl; have P3 : w5.cell? ⟨g3, 3, none⟩ = some (.slice A0_3 l0_3.length c0_3) := (q3q F3.out 3).trans rfl; have P4 : w5.cell? ⟨g3, 4, none⟩ = some (.slice A0_4 l0_4.length c0_4) := (q3q F3.out 4).trans rfl; have C50 : w5.cell? ⟨g5, 0, none⟩ = some (.int .i64 (36)) := (q3q B5.out 0).trans rfl; have C51 : w5.cell? ⟨g5, 1, none⟩ = some (.int .i64 a) := (q3q B5.out 1).trans rfl; have C52 : w5.cell? ⟨g5, 2, none⟩ = some (.int .i64 b) := (q3q B5.out 2).trans rfl))
 refine (rbelow_any a a0_1 _).mono ?_
 obtain ⟨rg, hrg⟩ : ∃ x, decide (0 ≤ a ∧ a < a0_1) = x := ⟨_, rfl⟩
 rw [hrg]
 rintro e w' ⟨rfl, ⟨n1, rfl⟩⟩
 have HRG := Aq.mk hrg
 clear hrg
 go_wp2_with fail
 refine (rbelow_any b l0_4.length _).mono ?_
 obtain ⟨pl, hpl⟩ : ∃ x, decide (0 ≤ b ∧ b < (l0_4.length : Int)) = x := ⟨_, rfl⟩
 rw [hpl]
 rintro e w' ⟨rfl, ⟨n2, rfl⟩⟩
 have HPL := Aq.mk hpl
 clear hpl
 by_cases h0 : a = 0
 ·have b0 : (a == 0) = true := beq_iff_eq.mpr h0
  go_wp2_with fail
  go_ret
  exact ⟨by first | (rw [← HRES.out]; unfold insK; simp [HRG.out, HPL.out, h0, b0]; done) | (rw [← HRES.out]; unfold insK; rw [HRG.out, HPL.out]; simp [h0, b0]), by repeat (first | exact HBV.out | apply q0q | apply q2q)⟩
 have b0 : (a == 0) = false := beq_eq_false_iff_ne.mpr h0
 go_wp2_with fail
 go_ret
 exact ⟨by first | (rw [← HRES.out]; unfold insK; simp [HRG.out, HPL.out, h0, b0]; done) | (rw [← HRES.out]; unfold insK; rw [HRG.out, HPL.out]; simp [h0, b0]), by repeat (first | exact HBV.out | apply q0q | apply q2q)⟩
set_option maxHeartbeats 8000000 in
set_option maxRecDepth 100000 in
theorem insD (a0_0 a0_1 : Int) (A0_2 : Option Addr) (c0_2 : Nat) (l0_2 : List (S50)) (A0_3 : Option Addr) (c0_3 : Nat) (l0_3 : List (S42)) (A0_4 : Option Addr) (c0_4 : Nat) (l0_4 : List (S52)) (op : Int) (hd : grpOf op = 99) (a b protos : Int) (w : World) (hr0_3 : Kd.C k42 w A0_3 l0_3.length l0_3) :
  Calls Try.prog 68 #[.agg #[.int .i64 a0_0, .int .i64 a0_1, .slice A0_2 l0_2.length c0_2, .slice A0_3 l0_3.length c0_3, .slice A0_4 l0_4.length c0_4], .agg #[.int .i64 op, .int .i64 a, .int .i64 b], .int .i64 protos] w fun e w' => e = .returned (.bool (insK 99 a0_1 l0_2.length l0_4.length l0_3 protos a b)) ∧ Below w.heap.size w w' := by
 generalize hres : insK 99 a0_1 l0_2.length l0_4.length l0_3 protos a b = res
 have HRES := Aq.mk hres
 clear hres
 have q0 : (op == 0) = false := by rw [beq_eq_false_iff_ne]; rintro rfl; revert hd; decide
 have q1 : (op == 1) = false := by rw [beq_eq_false_iff_ne]; rintro rfl; revert hd; decide
 have q2 : (op == 2) = false := by rw [beq_eq_false_iff_ne]; rintro rfl; revert hd; decide
 have q3 : (op == 3) = false := by rw [beq_eq_false_iff_ne]; rintro rfl; revert hd; decide
 have q4 : (op == 4) = false := by rw [beq_eq_false_iff_ne]; rintro rfl; revert hd; decide
 have q5 : (op == 5) = false := by rw [beq_eq_false_iff_ne]; rintro rfl; revert hd; decide
 have q6 : (op == 6) = false := by rw [beq_eq_false_iff_ne]; rintro rfl; revert hd; decide
 have q7 : (op == 7) = false := by rw [beq_eq_false_iff_ne]; rintro rfl; revert hd; decide
 have q8 : (op == 8) = false := by rw [beq_eq_false_iff_ne]; rintro rfl; revert hd; decide
 have q9 : (op == 9) = false := by rw [beq_eq_false_iff_ne]; rintro rfl; revert hd; decide
 have q10 : (op == 10) = false := by rw [beq_eq_false_iff_ne]; rintro rfl; revert hd; decide
 have q11 : (op == 11) = false := by rw [beq_eq_false_iff_ne]; rintro rfl; revert hd; decide
 have q12 : (op == 12) = false := by rw [beq_eq_false_iff_ne]; rintro rfl; revert hd; decide
 have q13 : (op == 13) = false := by rw [beq_eq_false_iff_ne]; rintro rfl; revert hd; decide
 have q14 : (op == 14) = false := by rw [beq_eq_false_iff_ne]; rintro rfl; revert hd; decide
 have q15 : (op == 15) = false := by rw [beq_eq_false_iff_ne]; rintro rfl; revert hd; decide
 have q16 : (op == 16) = false := by rw [beq_eq_false_iff_ne]; rintro rfl; revert hd; decide
 have q17 : (op == 17) = false := by rw [beq_eq_false_iff_ne]; rintro rfl; revert hd; decide
 have q18 : (op == 18) = false := by rw [beq_eq_false_iff_ne]; rintro rfl; revert hd; decide
 have q19 : (op == 19) = false := by rw [beq_eq_false_iff_ne]; rintro rfl; revert hd; decide
 have q20 : (op == 20) = false := by rw [beq_eq_false_iff_ne]; rintro rfl; revert hd; decide
 have q21 : (op == 21) = false := by rw [beq_eq_false_iff_ne]; rintro rfl; revert hd; decide
 have q22 : (op == 22) = false := by rw [beq_eq_false_iff_ne]; rintro rfl; revert hd; decide
 have q23 : (op == 23) = false := by rw [beq_eq_false_iff_ne]; rintro rfl; revert hd; decide
 have q24 : (op == 24) = false := by rw [beq_eq_false_iff_ne]; rintro rfl; revert hd; decide
 have q25 : (op == 25) = false := by rw [beq_eq_false_iff_ne]; rintro rfl; revert hd; decide
 have q26 : (op == 26) = false := by rw [beq_eq_false_iff_ne]; rintro rfl; revert hd; decide
 have q27 : (op == 27) = false := by rw [beq_eq_false_iff_ne]; rintro rfl; revert hd; decide
 have q28 : (op == 28) = false := by rw [beq_eq_false_iff_ne]; rintro rfl; revert hd; decide
 have q29 : (op == 29) = false := by rw [beq_eq_false_iff_ne]; rintro rfl; revert hd; decide
 have q30 : (op == 30) = false := by rw [beq_eq_false_iff_ne]; rintro rfl; revert hd; decide
 have q31 : (op == 31) = false := by rw [beq_eq_false_iff_ne]; rintro rfl; revert hd; decide
 have q32 : (op == 32) = false := by rw [beq_eq_false_iff_ne]; rintro rfl; revert hd; decide
 have q33 : (op == 33) = false := by rw [beq_eq_false_iff_ne]; rintro rfl; revert hd; decide
 have q34 : (op == 34) = false := by rw [beq_eq_false_iff_ne]; rintro rfl; revert hd; decide
 have q35 : (op == 35) = false := by rw [beq_eq_false_iff_ne]; rintro rfl; revert hd; decide
 have q36 : (op == 36) = false := by rw [beq_eq_false_iff_ne]; rintro rfl; revert hd; decide
 clear hd
 have HC := Aq.mk hr0_3
 clear hr0_3
 have HB := Aq.mk (Below.refl w.heap.size w)
 go_enter Try.func68, Try.ntmps68
 go_wp2_with (first | ((with_reducible refine q12q (N := 3) rfl ?_); refine q11q ?hg (N := 3) ?hd (cs := #[.int .i64 a0_0, .int .i64 a0_1, .slice A0_2 l0_2.length c0_2, .slice A0_3 l0_3.length c0_3, .slice A0_4 l0_4.length c0_4]) (t := 47) ?hr ?_; (case hd => rfl); (case hg => rfl); (case hr => first | (go_simp; done) | (go_simp; rfl)); intro g3 hg3 w3 hbox3 hb3; have G3 := Aq.mk hg3; clear hg3; have B3 := Aq.mk hbox3; clear hbox3; have HB3 := Aq.mk hb3; clear hb3) | ((with_reducible refine q12q (N := 4) rfl ?_); refine q11q ?hg (N := 4) ?hd (cs := #[.int .i64 op, .int .i64 a, .int .i64 b]) (t := 52) ?hr ?_; (case hd => rfl); (case hg => rfl); (case hr => first | (go_simp; done) | (go_simp; rfl)); intro g5 hg5 w5 hbox5 hb5; have G5 := Aq.mk hg5; clear hg5; have HB5 := Aq.mk (hb5); clear hb5; have B5 := Aq.mk hbox5; clear hbox5; have lg3 := Aq.mk (Array.getElem?_eq_some_iff.1 B3.out).1; have F3 := Aq.mk ((HB5.out.block g3 lg3.out).trans B3.out); have HBV := Aq.mk (HB3.out.trans (HB5.out.mono HB3.out.size)); have P0 : w5.cell? ⟨g3, 0, none⟩ = some (.int .i64 a0_0) := (q3q F3.out 0).trans rfl; have P1 : w5.cell? ⟨g3, 1, none⟩ = some (.int .i64 a0_1) := (q3q F3.out 1).trans rfl; have P2 : w5.cell? ⟨g3, 2, none⟩ = some (.slice A0_2 l0_2.length c0_2) := (q3q F3.out 2).trans rfl; have P3 : w5.cell? ⟨g3, 3, none⟩ = some (.slice A0_3 l0_3.length c0_3) := (q3q F3.out 3).trans rfl; have P4 : w5.cell? ⟨g3, 4, none⟩ = some (.slice A0_4 l0_4.length c0_4) := (q3q F3.out 4).trans rfl; have C50 : w5.cell? ⟨g5, 0, none⟩ = some (.int .i64 op) := (q3q B5.out 0).trans rfl; have C51 : w5.cell? ⟨g5, 1, none⟩ = some (.int .i64 a) := (q3q B5.out 1).trans rfl; have C52 : w5.cell? ⟨g5, 2, none⟩ = some (.int .i64 b) := (q3q B5.out 2).trans rfl))
 refine (rbelow_any a a0_1 _).mono ?_
 obtain ⟨rg, hrg⟩ : ∃ x, decide (0 ≤ a ∧ a < a0_1) = x := ⟨_, rfl⟩
 rw [hrg]
 rintro e w' ⟨rfl, ⟨n1, rfl⟩⟩
 have HRG := Aq.mk hrg
 clear hrg
 go_wp2_with fail
 refine (rbelow_any b l0_4.length _).mono ?_
 obtain ⟨pl, hpl⟩ : ∃ x, decide (0 ≤ b ∧ b < (l0_4.length : Int)) = x := ⟨_, rfl⟩
 rw [hpl]
 rintro e w' ⟨rfl, ⟨n2, rfl⟩⟩
 have HPL := Aq.mk hpl
 clear hpl
 go_wp2_with fail
 go_ret
 exact ⟨by first | (rw [← HRES.out]; unfold insK; simp [HRG.out, HPL.out]; done) | (rw [← HRES.out]; unfold insK; rw [HRG.out, HPL.out]; simp), by repeat (first | exact HBV.out | apply q0q | apply q2q)⟩
set_option maxHeartbeats 8000000 in
set_option maxRecDepth 100000 in
theorem insG11 (op : Int) (hop : op = 11 ∨ op = 12) (a0_0 a0_1 : Int) (A0_2 : Option Addr) (c0_2 : Nat) (l0_2 : List (S50)) (A0_3 : Option Addr) (c0_3 : Nat) (l0_3 : List (S42)) (A0_4 : Option Addr) (c0_4 : Nat) (l0_4 : List (S52)) (a b protos : Int) (w : World) (hr0_3 : Kd.C k42 w A0_3 l0_3.length l0_3) :
  Calls Try.prog 68 #[.agg #[.int .i64 a0_0, .int .i64 a0_1, .slice A0_2 l0_2.length c0_2, .slice A0_3 l0_3.length c0_3, .slice A0_4 l0_4.length c0_4], .agg #[.int .i64 (op), .int .i64 a, .int .i64 b], .int .i64 protos] w fun e w' => e = .returned (.bool (insK 3 a0_1 l0_2.length l0_4.length l0_3 protos a b)) ∧ Below w.heap.size w w' := by
 rcases hop with rfl | rfl
 all_goals
  generalize hres : insK 3 a0_1 l0_2.length l0_4.length l0_3 protos a b = res
  have HRES := Aq.mk hres
  clear hres
  have HC := Aq.mk hr0_3
  clear hr0_3
  have HB := Aq.mk (Below.refl w.heap.size w)
  go_enter Try.func68, Try.ntmps68
  go_wp2_with (first | ((with_reducible refine q12q (N := 3) rfl ?_); refine q11q ?hg (N := 3) ?hd (cs := #[.int .i64 a0_0, .int .i64 a0_1, .slice A0_2 l0_2.length c0_2, .slice A0_3 l0_3.length c0_3, .slice A0_4 l0_4.length c0_4]) (t := 47) ?hr ?_; (case hd => rfl); (case hg => rfl); (case hr => first | (go_simp; done) | (go_simp; rfl)); intro g3 hg3 w3 hbox3 hb3; have G3 := Aq.mk hg3; clear hg3; have B3 := Aq.mk hbox3; clear hbox3; have HB3 := Aq.mk hb3; clear hb3) | ((with_reducible refine q12q (N := 4) rfl ?_); (first | (refine q11q ?hg (N := 4) ?hd (cs := #[.int .i64 (11), .int .i64 a, .int .i64 b]) (t := 52) ?hr ?_; (case hd => rfl); (case hg => rfl); (case hr => first | (go_simp; done) | (go_simp; rfl))) | (refine q11q ?hg (N := 4) ?hd (cs := #[.int .i64 (12), .int .i64 a, .int .i64 b]) (t := 52) ?hr ?_; (case hd => rfl); (case hg => rfl); (case hr => first | (go_simp; done) | (go_simp; rfl)))); intro g5 hg5 w5 hbox5 hb5; have G5 := Aq.mk hg5; clear hg5; have HB5 := Aq.mk (hb5); clear hb5; have B5 := Aq.mk hbox5; clear hbox5; have lg3 := Aq.mk (Array.getElem?_eq_some_iff.1 B3.out).1; have F3 := Aq.mk ((HB5.out.block g3 lg3.out).trans B3.out); have HBV := Aq.mk (HB3.out.trans (HB5.out.mono HB3.out.size)); have P0 : w5.cell? ⟨g3, 0, none⟩ = some (.int .i64 a0_0) := (q3q F3.out 0).trans rfl; have P1 : w5.cell? ⟨g3, 1, none⟩ = some (.int .i64 a0_1) := (q3q F3.out 1).trans rfl; have P2 : w5.cell? ⟨g3, 2, none⟩ = some (.slice A0_2 l0_2.length c0_2) := (q3q F3.out 2).trans rfl; have P3 : w5.cell? ⟨g3, 3, none⟩ = some (.slice A0_3 l0_3.length c0_3) := (q3q F3.out 3).trans rfl; have P4 : w5.cell? ⟨g3, 4, none⟩ = some (.slice A0_4 l0_4.length c0_4) := (q3q F3.out 4).trans rfl; have C50 : w5.cell? ⟨g5, 0, none⟩ = some (.int .i64 _) := (q3q B5.out 0).trans rfl; have C51 : w5.cell? ⟨g5, 1, none⟩ = some (.int .i64 a) := (q3q B5.out 1).trans rfl; have C52 : w5.cell? ⟨g5, 2, none⟩ = some (.int .i64 b) := (q3q B5.out 2).trans rfl))
  refine (rbelow_any a a0_1 _).mono ?_
  obtain ⟨rg, hrg⟩ : ∃ x, decide (0 ≤ a ∧ a < a0_1) = x := ⟨_, rfl⟩
  rw [hrg]
  rintro e w' ⟨rfl, ⟨n1, rfl⟩⟩
  have HRG := Aq.mk hrg
  clear hrg
  go_wp2_with fail
  refine (rbelow_any b l0_4.length _).mono ?_
  obtain ⟨pl, hpl⟩ : ∃ x, decide (0 ≤ b ∧ b < (l0_4.length : Int)) = x := ⟨_, rfl⟩
  rw [hpl]
  rintro e w' ⟨rfl, ⟨n2, rfl⟩⟩
  have HPL := Aq.mk hpl
  clear hpl
  cases rg with
  | false =>
   go_wp2_with fail
   go_ret
   exact ⟨by first | (rw [← HRES.out]; unfold insK; simp [HRG.out, HPL.out]; done) | (rw [← HRES.out]; unfold insK; rw [HRG.out, HPL.out]; simp), by repeat (first | exact HBV.out | apply q0q | apply q2q)⟩
  | true =>
   go_wp2_with fail
   refine (rbelow_any b (l0_3.length : Int) _).mono ?_
   obtain ⟨tb, htb⟩ : ∃ x, decide (0 ≤ b ∧ b < (l0_3.length : Int)) = x := ⟨_, rfl⟩
   rw [htb]
   rintro e w' ⟨rfl, ⟨n3, rfl⟩⟩
   have Htb := Aq.mk htb
   clear htb
   cases tb with
   | false =>
    go_wp2_with fail
    go_ret
    exact ⟨by first | (rw [← HRES.out]; unfold insK; simp [HRG.out, HPL.out, Htb.out]; done) | (rw [← HRES.out]; unfold insK; rw [HRG.out, HPL.out]; simp [Htb.out]), by repeat (first | exact HBV.out | apply q0q | apply q2q)⟩
   | true =>
    have hb := of_decide_eq_true Htb.out
    obtain ⟨hb0, hb1⟩ := hb
    obtain ⟨ad, e1, hx0, hx1, hx2⟩ := at_T42 HC.out b hb0 hb1
    cases e1
    replace hx0 := (HBV.out.cell (World.block_lt_of_cell? w _ hx0)).trans hx0
    replace hx1 := (HBV.out.cell (World.block_lt_of_cell? w _ hx1)).trans hx1
    replace hx2 := (HBV.out.cell (World.block_lt_of_cell? w _ hx2)).trans hx2
    replace hb0 := eq_true hb0
    replace hb1 := eq_true hb1
    go_wp2_with fail
    go_ret
    exact ⟨by first | (rw [← HRES.out]; unfold insK; simp [HRG.out, HPL.out, Htb.out]; done) | (rw [← HRES.out]; unfold insK; rw [HRG.out, HPL.out]; simp [Htb.out]), by repeat (first | exact HBV.out | apply q0q | apply q2q)⟩
end Go.Proofs.Ytkkgbbfojmnopaa.G
end
