import Derived.Test.YtpdcedmnkkiekaaPInGxF44
import Derived.Lib.Hide
set_option linter.unusedVariables false
set_option linter.unusedSimpArgs false
section
namespace Go.Proofs.Ytpdcedmnkkiekaa.G
open Go.RowKit Go.Proofs.YtpdcedmnkkiekaaW.PrintWords Go.Proofs.YtpdcedmnkkiekaaW.PrintLast Go.Proofs.YtpdcedmnkkiekaaW.PrintMore
set_option linter.unusedVariables false
set_option linter.unusedSimpArgs false
theorem rbelow_eq (a b : Int) : tallowref20_below.f a b = some (decide (0 ≤ a ∧ a < b)) := by
  unfold tallowref20_below.f
  by_cases h : a ≥ 0
  · rw [if_pos h]; congr 1; rw [decide_eq_decide]; omega
  · rw [if_neg h]; congr 1; symm; rw [decide_eq_false_iff_not]; omega
theorem rbelow_any (a b : Int) (w : World) : Calls Try.prog 44 #[.int .i64 a, .int .i64 b] w fun e w' => e = .returned (.bool (decide (0 ≤ a ∧ a < b))) ∧ Drawn0 w w' := tallowref20_below.calls a b _ w (rbelow_eq a b)
def insK (g : Nat) (regs : Int) (nu nc : Nat) (cs : List S46) (protos a b : Int) : Bool :=
  let rg := decide (0 ≤ a ∧ a < regs)
  let pl := decide (0 ≤ b ∧ b < (nc : Int))
  if g = 0 then rg && (b == 0)
  else if g = 1 then rg && ((b == 0) || (b == 1))
  else if g = 2 then rg && decide (0 ≤ b ∧ b < (cs.length : Int))
  else if g = 3 then rg && (decide (0 ≤ b ∧ b < (cs.length : Int)) && ((rd_T46 cs b).f0 == 5))
  else if g = 4 then rg && decide (0 ≤ b ∧ b < regs)
  else if g = 5 then rg && decide (0 ≤ b ∧ b < (nu : Int))
  else if g = 6 then decide (0 ≤ a ∧ a < wrap64 (regs - 1)) && (b == 0)
  else if g = 7 then decide (0 ≤ a ∧ a < wrap64 (regs - 1)) && (decide (0 ≤ b) && decide (b ≤ 9))
  else if g = 8 then decide (0 ≤ a ∧ a < wrap64 (regs - 1)) && pl
  else if g = 9 then decide (0 ≤ a ∧ a < wrap64 (regs - 2)) && (b == 0)
  else if g = 10 then rg && (decide (0 < b) && decide (b < protos))
  else if g = 11 then rg && (decide (0 ≤ b) && (decide (b ≤ 20) && decide (0 ≤ a ∧ a < wrap64 (regs - b))))
  else if g = 12 then rg && pl
  else if g = 13 then (a == 0) && pl
  else if g = 14 then (a == 0) && (b == 0)
  else false
def grpOf (op : Int) : Nat := if op = 0 then 0 else if op = 1 then 1 else if op = 2 then 2 else if op = 3 then 4 else if op = 4 then 4 else if op = 5 then 0 else if op = 6 then 5 else if op = 7 then 5 else if op = 8 then 0 else if op = 9 then 4 else if op = 10 then 4 else if op = 11 then 3 else if op = 12 then 3 else if op = 13 then 0 else if op = 14 then 6 else if op = 15 then 9 else if op = 16 then 9 else if op = 17 then 10 else if op = 18 then 11 else if op = 19 then 0 else if op = 20 then 13 else if op = 21 then 12 else if op = 22 then 12 else if op = 23 then 12 else if op = 24 then 12 else if op = 25 then 7 else if op = 26 then 6 else if op = 27 then 6 else if op = 28 then 6 else if op = 29 then 6 else if op = 30 then 0 else if op = 31 then 0 else if op = 32 then 0 else if op = 33 then 8 else if op = 34 then 8 else if op = 35 then 12 else if op = 36 then 14 else 99
set_option maxHeartbeats 8000000 in
set_option maxRecDepth 100000 in
theorem ins0 (a0_0 a0_1 : Int) (A0_2 : Option Addr) (c0_2 : Nat) (l0_2 : List (S48)) (A0_3 : Option Addr) (c0_3 : Nat) (l0_3 : List (S46)) (A0_4 : Option Addr) (c0_4 : Nat) (l0_4 : List (S33)) (a b protos : Int) (w : World) (hr0_3 : Kd.C k46 w A0_3 l0_3.length l0_3) :
    Calls Try.prog 45 #[.agg #[.int .i64 a0_0, .int .i64 a0_1, .slice A0_2 l0_2.length c0_2, .slice A0_3 l0_3.length c0_3, .slice A0_4 l0_4.length c0_4], .agg #[.int .i64 (0), .int .i64 a, .int .i64 b], .int .i64 protos] w fun e w' => e = .returned (.bool (insK 0 a0_1 l0_2.length l0_4.length l0_3 protos a b)) ∧ Below w.heap.size w w' := by
  generalize hres : insK 0 a0_1 l0_2.length l0_4.length l0_3 protos a b = res
  have HRES := Aside0.mk hres
  clear hres
  have HC := Aside0.mk hr0_3
  clear hr0_3
  have HB := Aside0.mk (Below.refl w.heap.size w)
  go_enter Try.func45, Try.ntmps45
  go_wp2_with (first | ((with_reducible refine gate_dst (N := 3) rfl ?_); refine box_event ?hg (N := 3) ?hd (cs := #[.int .i64 a0_0, .int .i64 a0_1, .slice A0_2 l0_2.length c0_2, .slice A0_3 l0_3.length c0_3, .slice A0_4 l0_4.length c0_4]) (t := 41) ?hr ?_; (case hd => rfl); (case hg => rfl); (case hr => first | (go_simp; done) | (go_simp; rfl)); intro g3 hg3 w3 hbox3 hb3; have G3 := Aside0.mk hg3; clear hg3; have B3 := Aside0.mk hbox3; clear hbox3; have HB3 := Aside0.mk hb3; clear hb3) | ((with_reducible refine gate_dst (N := 4) rfl ?_); refine box_event ?hg (N := 4) ?hd (cs := #[.int .i64 (0), .int .i64 a, .int .i64 b]) (t := 33) ?hr ?_; (case hd => rfl); (case hg => rfl); (case hr => first | (go_simp; done) | (go_simp; rfl)); intro g5 hg5 w5 hbox5 hb5; have G5 := Aside0.mk hg5; clear hg5; have HB5 := Aside0.mk (hb5); clear hb5; have B5 := Aside0.mk hbox5; clear hbox5; have lg3 := Aside0.mk (Array.getElem?_eq_some_iff.1 B3.out).1; have F3 := Aside0.mk ((HB5.out.block g3 lg3.out).trans B3.out); have HBV := Aside0.mk (HB3.out.trans (HB5.out.mono HB3.out.size)); have P0 : w5.cell? ⟨g3, 0, none⟩ = some (.int .i64 a0_0) := (blk_cell F3.out 0).trans rfl; have P1 : w5.cell? ⟨g3, 1, none⟩ = some (.int .i64 a0_1) := (blk_cell F3.out 1).trans rfl; have P2 : w5.cell? ⟨g3, 2, none⟩ = some (.slice A0_2 l0_2.length c0_2) := (blk_cell F3.out 2).trans rfl; have P3 : w5.cell? ⟨g3, 3, none⟩ = some (.slice A0_3 l0_3.length c0_3) := (blk_cell F3.out 3).trans rfl; have P4 : w5.cell? ⟨g3, 4, none⟩ = some (.slice A0_4 l0_4.length c0_4) := (blk_cell F3.out 4).trans rfl; have C50 : w5.cell? ⟨g5, 0, none⟩ = some (.int .i64 (0)) := (blk_cell B5.out 0).trans rfl; have C51 : w5.cell? ⟨g5, 1, none⟩ = some (.int .i64 a) := (blk_cell B5.out 1).trans rfl; have C52 : w5.cell? ⟨g5, 2, none⟩ = some (.int .i64 b) := (blk_cell B5.out 2).trans rfl))
  refine (rbelow_any a a0_1 _).mono ?_
  obtain ⟨rg, hrg⟩ : ∃ x, decide (0 ≤ a ∧ a < a0_1) = x := ⟨_, rfl⟩
  rw [hrg]
  rintro e w' ⟨rfl, ⟨n1, rfl⟩⟩
  have HRG := Aside0.mk hrg
  clear hrg
  go_wp2_with fail
  refine (rbelow_any b l0_4.length _).mono ?_
  obtain ⟨pl, hpl⟩ : ∃ x, decide (0 ≤ b ∧ b < (l0_4.length : Int)) = x := ⟨_, rfl⟩
  rw [hpl]
  rintro e w' ⟨rfl, ⟨n2, rfl⟩⟩
  have HPL := Aside0.mk hpl
  clear hpl
  cases rg with
  | false =>
    go_wp2_with fail
    go_ret
    exact ⟨by first | (rw [← HRES.out]; unfold insK; simp [HRG.out, HPL.out]; done) | (rw [← HRES.out]; unfold insK; rw [HRG.out, HPL.out]; simp), by repeat (first | exact HBV.out | apply pw_below_drewN | apply below_drew1)⟩
  | true =>
    go_wp2_with fail
    go_ret
    exact ⟨by first | (rw [← HRES.out]; unfold insK; simp [HRG.out, HPL.out]; done) | (rw [← HRES.out]; unfold insK; rw [HRG.out, HPL.out]; simp), by repeat (first | exact HBV.out | apply pw_below_drewN | apply below_drew1)⟩
set_option maxHeartbeats 8000000 in
set_option maxRecDepth 100000 in
theorem ins1 (a0_0 a0_1 : Int) (A0_2 : Option Addr) (c0_2 : Nat) (l0_2 : List (S48)) (A0_3 : Option Addr) (c0_3 : Nat) (l0_3 : List (S46)) (A0_4 : Option Addr) (c0_4 : Nat) (l0_4 : List (S33)) (a b protos : Int) (w : World) (hr0_3 : Kd.C k46 w A0_3 l0_3.length l0_3) :
    Calls Try.prog 45 #[.agg #[.int .i64 a0_0, .int .i64 a0_1, .slice A0_2 l0_2.length c0_2, .slice A0_3 l0_3.length c0_3, .slice A0_4 l0_4.length c0_4], .agg #[.int .i64 (1), .int .i64 a, .int .i64 b], .int .i64 protos] w fun e w' => e = .returned (.bool (insK 1 a0_1 l0_2.length l0_4.length l0_3 protos a b)) ∧ Below w.heap.size w w' := by
  generalize hres : insK 1 a0_1 l0_2.length l0_4.length l0_3 protos a b = res
  have HRES := Aside0.mk hres
  clear hres
  have HC := Aside0.mk hr0_3
  clear hr0_3
  have HB := Aside0.mk (Below.refl w.heap.size w)
  go_enter Try.func45, Try.ntmps45
  go_wp2_with (first | ((with_reducible refine gate_dst (N := 3) rfl ?_); refine box_event ?hg (N := 3) ?hd (cs := #[.int .i64 a0_0, .int .i64 a0_1, .slice A0_2 l0_2.length c0_2, .slice A0_3 l0_3.length c0_3, .slice A0_4 l0_4.length c0_4]) (t := 41) ?hr ?_; (case hd => rfl); (case hg => rfl); (case hr => first | (go_simp; done) | (go_simp; rfl)); intro g3 hg3 w3 hbox3 hb3; have G3 := Aside0.mk hg3; clear hg3; have B3 := Aside0.mk hbox3; clear hbox3; have HB3 := Aside0.mk hb3; clear hb3) | ((with_reducible refine gate_dst (N := 4) rfl ?_); refine box_event ?hg (N := 4) ?hd (cs := #[.int .i64 (1), .int .i64 a, .int .i64 b]) (t := 33) ?hr ?_; (case hd => rfl); (case hg => rfl); (case hr => first | (go_simp; done) | (go_simp; rfl)); intro g5 hg5 w5 hbox5 hb5; have G5 := Aside0.mk hg5; clear hg5; have HB5 := Aside0.mk (hb5); clear hb5; have B5 := Aside0.mk hbox5; clear hbox5; have lg3 := Aside0.mk (Array.getElem?_eq_some_iff.1 B3.out).1; have F3 := Aside0.mk ((HB5.out.block g3 lg3.out).trans B3.out); have HBV := Aside0.mk (HB3.out.trans (HB5.out.mono HB3.out.size)); have P0 : w5.cell? ⟨g3, 0, none⟩ = some (.int .i64 a0_0) := (blk_cell F3.out 0).trans rfl; have P1 : w5.cell? ⟨g3, 1, none⟩ = some (.int .i64 a0_1) := (blk_cell F3.out 1).trans rfl; have P2 : w5.cell? ⟨g3, 2, none⟩ = some (.slice A0_2 l0_2.length c0_2) := (blk_cell F3.out 2).trans rfl; have P3 : w5.cell? ⟨g3, 3, none⟩ = some (.slice A0_3 l0_3.length c0_3) := (blk_cell F3.out 3).trans rfl; have P4 : w5.cell? ⟨g3, 4, none⟩ = some (.slice A0_4 l0_4.length c0_4) := (blk_cell F3.out 4).trans rfl; have C50 : w5.cell? ⟨g5, 0, none⟩ = some (.int .i64 (1)) := (blk_cell B5.out 0).trans rfl; have C51 : w5.cell? ⟨g5, 1, none⟩ = some (.int .i64 a) := (blk_cell B5.out 1).trans rfl; have C52 : w5.cell? ⟨g5, 2, none⟩ = some (.int .i64 b) := (blk_cell B5.out 2).trans rfl))
  refine (rbelow_any a a0_1 _).mono ?_
  obtain ⟨rg, hrg⟩ : ∃ x, decide (0 ≤ a ∧ a < a0_1) = x := ⟨_, rfl⟩
  rw [hrg]
  rintro e w' ⟨rfl, ⟨n1, rfl⟩⟩
  have HRG := Aside0.mk hrg
  clear hrg
  go_wp2_with fail
  refine (rbelow_any b l0_4.length _).mono ?_
  obtain ⟨pl, hpl⟩ : ∃ x, decide (0 ≤ b ∧ b < (l0_4.length : Int)) = x := ⟨_, rfl⟩
  rw [hpl]
  rintro e w' ⟨rfl, ⟨n2, rfl⟩⟩
  have HPL := Aside0.mk hpl
  clear hpl
  cases rg with
  | false =>
    go_wp2_with fail
    go_ret
    exact ⟨by first | (rw [← HRES.out]; unfold insK; simp [HRG.out, HPL.out]; done) | (rw [← HRES.out]; unfold insK; rw [HRG.out, HPL.out]; simp), by repeat (first | exact HBV.out | apply pw_below_drewN | apply below_drew1)⟩
  | true =>
    by_cases h0 : b = 0
    · have b0 : (b == 0) = true := beq_iff_eq.mpr h0
      go_wp2_with fail
      go_ret
      exact ⟨by first | (rw [← HRES.out]; unfold insK; simp [HRG.out, HPL.out, h0]; done) | (rw [← HRES.out]; unfold insK; rw [HRG.out, HPL.out]; simp [h0]), by repeat (first | exact HBV.out | apply pw_below_drewN | apply below_drew1)⟩
    · have b0 : (b == 0) = false := beq_eq_false_iff_ne.mpr h0
      go_wp2_with fail
      go_ret
      exact ⟨by first | (rw [← HRES.out]; unfold insK; simp [HRG.out, HPL.out, h0, b0]; done) | (rw [← HRES.out]; unfold insK; rw [HRG.out, HPL.out]; simp [h0, b0]), by repeat (first | exact HBV.out | apply pw_below_drewN | apply below_drew1)⟩
set_option maxHeartbeats 8000000 in
set_option maxRecDepth 100000 in
theorem ins2 (a0_0 a0_1 : Int) (A0_2 : Option Addr) (c0_2 : Nat) (l0_2 : List (S48)) (A0_3 : Option Addr) (c0_3 : Nat) (l0_3 : List (S46)) (A0_4 : Option Addr) (c0_4 : Nat) (l0_4 : List (S33)) (a b protos : Int) (w : World) (hr0_3 : Kd.C k46 w A0_3 l0_3.length l0_3) :
    Calls Try.prog 45 #[.agg #[.int .i64 a0_0, .int .i64 a0_1, .slice A0_2 l0_2.length c0_2, .slice A0_3 l0_3.length c0_3, .slice A0_4 l0_4.length c0_4], .agg #[.int .i64 (2), .int .i64 a, .int .i64 b], .int .i64 protos] w fun e w' => e = .returned (.bool (insK 2 a0_1 l0_2.length l0_4.length l0_3 protos a b)) ∧ Below w.heap.size w w' := by
  generalize hres : insK 2 a0_1 l0_2.length l0_4.length l0_3 protos a b = res
  have HRES := Aside0.mk hres
  clear hres
  have HC := Aside0.mk hr0_3
  clear hr0_3
  have HB := Aside0.mk (Below.refl w.heap.size w)
  go_enter Try.func45, Try.ntmps45
  go_wp2_with (first | ((with_reducible refine gate_dst (N := 3) rfl ?_); refine box_event ?hg (N := 3) ?hd (cs := #[.int .i64 a0_0, .int .i64 a0_1, .slice A0_2 l0_2.length c0_2, .slice A0_3 l0_3.length c0_3, .slice A0_4 l0_4.length c0_4]) (t := 41) ?hr ?_; (case hd => rfl); (case hg => rfl); (case hr => first | (go_simp; done) | (go_simp; rfl)); intro g3 hg3 w3 hbox3 hb3; have G3 := Aside0.mk hg3; clear hg3; have B3 := Aside0.mk hbox3; clear hbox3; have HB3 := Aside0.mk hb3; clear hb3) | ((with_reducible refine gate_dst (N := 4) rfl ?_); refine box_event ?hg (N := 4) ?hd (cs := #[.int .i64 (2), .int .i64 a, .int .i64 b]) (t := 33) ?hr ?_; (case hd => rfl); (case hg => rfl); (case hr => first | (go_simp; done) | (go_simp; rfl)); intro g5 hg5 w5 hbox5 hb5; have G5 := Aside0.mk hg5; clear hg5; have HB5 := Aside0.mk (hb5); clear hb5; have B5 := Aside0.mk hbox5; clear hbox5; have lg3 := Aside0.mk (Array.getElem?_eq_some_iff.1 B3.out).1; have F3 := Aside0.mk ((HB5.out.block g3 lg3.out).trans B3.out); have HBV := Aside0.mk (HB3.out.trans (HB5.out.mono HB3.out.size)); have P0 : w5.cell? ⟨g3, 0, none⟩ = some (.int .i64 a0_0) := (blk_cell F3.out 0).trans rfl; have P1 : w5.cell? ⟨g3, 1, none⟩ = some (.int .i64 a0_1) := (blk_cell F3.out 1).trans rfl; have P2 : w5.cell? ⟨g3, 2, none⟩ = some (.slice A0_2 l0_2.length c0_2) := (blk_cell F3.out 2).trans rfl; have P3 : w5.cell? ⟨g3, 3, none⟩ = some (.slice A0_3 l0_3.length c0_3) := (blk_cell F3.out 3).trans rfl; have P4 : w5.cell? ⟨g3, 4, none⟩ = some (.slice A0_4 l0_4.length c0_4) := (blk_cell F3.out 4).trans rfl; have C50 : w5.cell? ⟨g5, 0, none⟩ = some (.int .i64 (2)) := (blk_cell B5.out 0).trans rfl; have C51 : w5.cell? ⟨g5, 1, none⟩ = some (.int .i64 a) := (blk_cell B5.out 1).trans rfl; have C52 : w5.cell? ⟨g5, 2, none⟩ = some (.int .i64 b) := (blk_cell B5.out 2).trans rfl))
  refine (rbelow_any a a0_1 _).mono ?_
  obtain ⟨rg, hrg⟩ : ∃ x, decide (0 ≤ a ∧ a < a0_1) = x := ⟨_, rfl⟩
  rw [hrg]
  rintro e w' ⟨rfl, ⟨n1, rfl⟩⟩
  have HRG := Aside0.mk hrg
  clear hrg
  go_wp2_with fail
  refine (rbelow_any b l0_4.length _).mono ?_
  obtain ⟨pl, hpl⟩ : ∃ x, decide (0 ≤ b ∧ b < (l0_4.length : Int)) = x := ⟨_, rfl⟩
  rw [hpl]
  rintro e w' ⟨rfl, ⟨n2, rfl⟩⟩
  have HPL := Aside0.mk hpl
  clear hpl
  cases rg with
  | false =>
    go_wp2_with fail
    go_ret
    exact ⟨by first | (rw [← HRES.out]; unfold insK; simp [HRG.out, HPL.out]; done) | (rw [← HRES.out]; unfold insK; rw [HRG.out, HPL.out]; simp), by repeat (first | exact HBV.out | apply pw_below_drewN | apply below_drew1)⟩
  | true =>
    go_wp2_with fail
    refine (rbelow_any b (l0_3.length : Int) _).mono ?_
    obtain ⟨tb, htb⟩ : ∃ x, decide (0 ≤ b ∧ b < (l0_3.length : Int)) = x := ⟨_, rfl⟩
    rw [htb]
    rintro e w' ⟨rfl, ⟨n3, rfl⟩⟩
    have Htb := Aside0.mk htb
    clear htb
    go_wp2_with fail
    go_ret
    exact ⟨by first | (rw [← HRES.out]; unfold insK; simp [HRG.out, HPL.out, Htb.out]; done) | (rw [← HRES.out]; unfold insK; rw [HRG.out, HPL.out]; simp [Htb.out]), by repeat (first | exact HBV.out | apply pw_below_drewN | apply below_drew1)⟩
set_option maxHeartbeats 8000000 in
set_option maxRecDepth 100000 in
theorem ins3 (a0_0 a0_1 : Int) (A0_2 : Option Addr) (c0_2 : Nat) (l0_2 : List (S48)) (A0_3 : Option Addr) (c0_3 : Nat) (l0_3 : List (S46)) (A0_4 : Option Addr) (c0_4 : Nat) (l0_4 : List (S33)) (a b protos : Int) (w : World) (hr0_3 : Kd.C k46 w A0_3 l0_3.length l0_3) :
    Calls Try.prog 45 #[.agg #[.int .i64 a0_0, .int .i64 a0_1, .slice A0_2 l0_2.length c0_2, .slice A0_3 l0_3.length c0_3, .slice A0_4 l0_4.length c0_4], .agg #[.int .i64 (3), .int .i64 a, .int .i64 b], .int .i64 protos] w fun e w' => e = .returned (.bool (insK 4 a0_1 l0_2.length l0_4.length l0_3 protos a b)) ∧ Below w.heap.size w w' := by
  generalize hres : insK 4 a0_1 l0_2.length l0_4.length l0_3 protos a b = res
  have HRES := Aside0.mk hres
  clear hres
  have HC := Aside0.mk hr0_3
  clear hr0_3
  have HB := Aside0.mk (Below.refl w.heap.size w)
  go_enter Try.func45, Try.ntmps45
  go_wp2_with (first | ((with_reducible refine gate_dst (N := 3) rfl ?_); refine box_event ?hg (N := 3) ?hd (cs := #[.int .i64 a0_0, .int .i64 a0_1, .slice A0_2 l0_2.length c0_2, .slice A0_3 l0_3.length c0_3, .slice A0_4 l0_4.length c0_4]) (t := 41) ?hr ?_; (case hd => rfl); (case hg => rfl); (case hr => first | (go_simp; done) | (go_simp; rfl)); intro g3 hg3 w3 hbox3 hb3; have G3 := Aside0.mk hg3; clear hg3; have B3 := Aside0.mk hbox3; clear hbox3; have HB3 := Aside0.mk hb3; clear hb3) | ((with_reducible refine gate_dst (N := 4) rfl ?_); refine box_event ?hg (N := 4) ?hd (cs := #[.int .i64 (3), .int .i64 a, .int .i64 b]) (t := 33) ?hr ?_; (case hd => rfl); (case hg => rfl); (case hr => first | (go_simp; done) | (go_simp; rfl)); intro g5 hg5 w5 hbox5 hb5; have G5 := Aside0.mk hg5; clear hg5; have HB5 := Aside0.mk (hb5); clear hb5; have B5 := Aside0.mk hbox5; clear hbox5; have lg3 := Aside0.mk (Array.getElem?_eq_some_iff.1 B3.out).1; have F3 := Aside0.mk ((HB5.out.block g3 lg3.out).trans B3.out); have HBV := Aside0.mk (HB3.out.trans (HB5.out.mono HB3.out.size)); have P0 : w5.cell? ⟨g3, 0, none⟩ = some (.int .i64 a0_0) := (blk_cell F3.out 0).trans rfl; have P1 : w5.cell? ⟨g3, 1, none⟩ = some (.int .i64 a0_1) := (blk_cell F3.out 1).trans rfl; have P2 : w5.cell? ⟨g3, 2, none⟩ = some (.slice A0_2 l0_2.length c0_2) := (blk_cell F3.out 2).trans rfl; have P3 : w5.cell? ⟨g3, 3, none⟩ = some (.slice A0_3 l0_3.length c0_3) := (blk_cell F3.out 3).trans rfl; have P4 : w5.cell? ⟨g3, 4, none⟩ = some (.slice A0_4 l0_4.length c0_4) := (blk_cell F3.out 4).trans rfl; have C50 : w5.cell? ⟨g5, 0, none⟩ = some (.int .i64 (3)) := (blk_cell B5.out 0).trans rfl; have C51 : w5.cell? ⟨g5, 1, none⟩ = some (.int .i64 a) := (blk_cell B5.out 1).trans rfl; have C52 : w5.cell? ⟨g5, 2, none⟩ = some (.int .i64 b) := (blk_cell B5.out 2).trans rfl))
  refine (rbelow_any a a0_1 _).mono ?_
  obtain ⟨rg, hrg⟩ : ∃ x, decide (0 ≤ a ∧ a < a0_1) = x := ⟨_, rfl⟩
  rw [hrg]
  rintro e w' ⟨rfl, ⟨n1, rfl⟩⟩
  have HRG := Aside0.mk hrg
  clear hrg
  go_wp2_with fail
  refine (rbelow_any b l0_4.length _).mono ?_
  obtain ⟨pl, hpl⟩ : ∃ x, decide (0 ≤ b ∧ b < (l0_4.length : Int)) = x := ⟨_, rfl⟩
  rw [hpl]
  rintro e w' ⟨rfl, ⟨n2, rfl⟩⟩
  have HPL := Aside0.mk hpl
  clear hpl
  cases rg with
  | false =>
    go_wp2_with fail
    go_ret
    exact ⟨by first | (rw [← HRES.out]; unfold insK; simp [HRG.out, HPL.out]; done) | (rw [← HRES.out]; unfold insK; rw [HRG.out, HPL.out]; simp), by repeat (first | exact HBV.out | apply pw_below_drewN | apply below_drew1)⟩
  | true =>
    go_wp2_with fail
    refine (rbelow_any b a0_1 _).mono ?_
    obtain ⟨tb, htb⟩ : ∃ x, decide (0 ≤ b ∧ b < a0_1) = x := ⟨_, rfl⟩
    rw [htb]
    rintro e w' ⟨rfl, ⟨n3, rfl⟩⟩
    have Htb := Aside0.mk htb
    clear htb
    go_wp2_with fail
    go_ret
    exact ⟨by first | (rw [← HRES.out]; unfold insK; simp [HRG.out, HPL.out, Htb.out]; done) | (rw [← HRES.out]; unfold insK; rw [HRG.out, HPL.out]; simp [Htb.out]), by repeat (first | exact HBV.out | apply pw_below_drewN | apply below_drew1)⟩
set_option maxHeartbeats 8000000 in
set_option maxRecDepth 100000 in
theorem ins4 (a0_0 a0_1 : Int) (A0_2 : Option Addr) (c0_2 : Nat) (l0_2 : List (S48)) (A0_3 : Option Addr) (c0_3 : Nat) (l0_3 : List (S46)) (A0_4 : Option Addr) (c0_4 : Nat) (l0_4 : List (S33)) (a b protos : Int) (w : World) (hr0_3 : Kd.C k46 w A0_3 l0_3.length l0_3) :
    Calls Try.prog 45 #[.agg #[.int .i64 a0_0, .int .i64 a0_1, .slice A0_2 l0_2.length c0_2, .slice A0_3 l0_3.length c0_3, .slice A0_4 l0_4.length c0_4], .agg #[.int .i64 (4), .int .i64 a, .int .i64 b], .int .i64 protos] w fun e w' => e = .returned (.bool (insK 4 a0_1 l0_2.length l0_4.length l0_3 protos a b)) ∧ Below w.heap.size w w' := by
  generalize hres : insK 4 a0_1 l0_2.length l0_4.length l0_3 protos a b = res
  have HRES := Aside0.mk hres
  clear hres
  have HC := Aside0.mk hr0_3
  clear hr0_3
  have HB := Aside0.mk (Below.refl w.heap.size w)
  go_enter Try.func45, Try.ntmps45
  go_wp2_with (first | ((with_reducible refine gate_dst (N := 3) rfl ?_); refine box_event ?hg (N := 3) ?hd (cs := #[.int .i64 a0_0, .int .i64 a0_1, .slice A0_2 l0_2.length c0_2, .slice A0_3 l0_3.length c0_3, .slice A0_4 l0_4.length c0_4]) (t := 41) ?hr ?_; (case hd => rfl); (case hg => rfl); (case hr => first | (go_simp; done) | (go_simp; rfl)); intro g3 hg3 w3 hbox3 hb3; have G3 := Aside0.mk hg3; clear hg3; have B3 := Aside0.mk hbox3; clear hbox3; have HB3 := Aside0.mk hb3; clear hb3) | ((with_reducible refine gate_dst (N := 4) rfl ?_); refine box_event ?hg (N := 4) ?hd (cs := #[.int .i64 (4), .int .i64 a, .int .i64 b]) (t := 33) ?hr ?_; (case hd => rfl); (case hg => rfl); (case hr => first | (go_simp; done) | (go_simp; rfl)); intro g5 hg5 w5 hbox5 hb5; have G5 := Aside0.mk hg5; clear hg5; have HB5 := Aside0.mk (hb5); clear hb5; have B5 := Aside0.mk hbox5; clear hbox5; have lg3 := Aside0.mk (Array.getElem?_eq_some_iff.1 B3.out).1; have F3 := Aside0.mk ((HB5.out.block g3 lg3.out).trans B3.out); have HBV := Aside0.mk (HB3.out.trans (HB5.out.mono HB3.out.size)); have P0 : w5.cell? ⟨g3, 0, none⟩ = some (.int .i64 a0_0) := (blk_cell F3.out 0).trans rfl; have P1 : w5.cell? ⟨g3, 1, none⟩ = some (.int .i64 a0_1) := (blk_cell F3.out 1).trans rfl; have P2 : w5.cell? ⟨g3, 2, none⟩ = some (.slice A0_2 l0_2.length c0_2) := (blk_cell F3.out 2).trans rfl; have P3 : w5.cell? ⟨g3, 3, none⟩ = some (.slice A0_3 l0_3.length c0_3) := (blk_cell F3.out 3).trans rfl; have P4 : w5.cell? ⟨g3, 4, none⟩ = some (.slice A0_4 l0_4.length c0_4) := (blk_cell F3.out 4).trans rfl; have C50 : w5.cell? ⟨g5, 0, none⟩ = some (.int .i64 (4)) := (blk_cell B5.out 0).trans rfl; have C51 : w5.cell? ⟨g5, 1, none⟩ = some (.int .i64 a) := (blk_cell B5.out 1).trans rfl; have C52 : w5.cell? ⟨g5, 2, none⟩ = some (.int .i64 b) := (blk_cell B5.out 2).trans rfl))
  refine (rbelow_any a a0_1 _).mono ?_
  obtain ⟨rg, hrg⟩ : ∃ x, decide (0 ≤ a ∧ a < a0_1) = x := ⟨_, rfl⟩
  rw [hrg]
  rintro e w' ⟨rfl, ⟨n1, rfl⟩⟩
  have HRG := Aside0.mk hrg
  clear hrg
  go_wp2_with fail
  refine (rbelow_any b l0_4.length _).mono ?_
  obtain ⟨pl, hpl⟩ : ∃ x, decide (0 ≤ b ∧ b < (l0_4.length : Int)) = x := ⟨_, rfl⟩
  rw [hpl]
  rintro e w' ⟨rfl, ⟨n2, rfl⟩⟩
  have HPL := Aside0.mk hpl
  clear hpl
  cases rg with
  | false =>
    go_wp2_with fail
    go_ret
    exact ⟨by first | (rw [← HRES.out]; unfold insK; simp [HRG.out, HPL.out]; done) | (rw [← HRES.out]; unfold insK; rw [HRG.out, HPL.out]; simp), by repeat (first | exact HBV.out | apply pw_below_drewN | apply below_drew1)⟩
  | true =>
    go_wp2_with fail
    refine (rbelow_any b a0_1 _).mono ?_
    obtain ⟨tb, htb⟩ : ∃ x, decide (0 ≤ b ∧ b < a0_1) = x := ⟨_, rfl⟩
    rw [htb]
    rintro e w' ⟨rfl, ⟨n3, rfl⟩⟩
    have Htb := Aside0.mk htb
    clear htb
    go_wp2_with fail
    go_ret
    exact ⟨by first | (rw [← HRES.out]; unfold insK; simp [HRG.out, HPL.out, Htb.out]; done) | (rw [← HRES.out]; unfold insK; rw [HRG.out, HPL.out]; simp [Htb.out]), by repeat (first | exact HBV.out | apply pw_below_drewN | apply below_drew1)⟩
set_option maxHeartbeats 8000000 in
set_option maxRecDepth 100000 in
theorem ins5 (a0_0 a0_1 : Int) (A0_2 : Option Addr) (c0_2 : Nat) (l0_2 : List (S48)) (A0_3 : Option Addr) (c0_3 : Nat) (l0_3 : List (S46)) (A0_4 : Option Addr) (c0_4 : Nat) (l0_4 : List (S33)) (a b protos : Int) (w : World) (hr0_3 : Kd.C k46 w A0_3 l0_3.length l0_3) :
    Calls Try.prog 45 #[.agg #[.int .i64 a0_0, .int .i64 a0_1, .slice A0_2 l0_2.length c0_2, .slice A0_3 l0_3.length c0_3, .slice A0_4 l0_4.length c0_4], .agg #[.int .i64 (5), .int .i64 a, .int .i64 b], .int .i64 protos] w fun e w' => e = .returned (.bool (insK 0 a0_1 l0_2.length l0_4.length l0_3 protos a b)) ∧ Below w.heap.size w w' := by
  generalize hres : insK 0 a0_1 l0_2.length l0_4.length l0_3 protos a b = res
  have HRES := Aside0.mk hres
  clear hres
  have HC := Aside0.mk hr0_3
  clear hr0_3
  have HB := Aside0.mk (Below.refl w.heap.size w)
  go_enter Try.func45, Try.ntmps45
  go_wp2_with (first | ((with_reducible refine gate_dst (N := 3) rfl ?_); refine box_event ?hg (N := 3) ?hd (cs := #[.int .i64 a0_0, .int .i64 a0_1, .slice A0_2 l0_2.length c0_2, .slice A0_3 l0_3.length c0_3, .slice A0_4 l0_4.length c0_4]) (t := 41) ?hr ?_; (case hd => rfl); (case hg => rfl); (case hr => first | (go_simp; done) | (go_simp; rfl)); intro g3 hg3 w3 hbox3 hb3; have G3 := Aside0.mk hg3; clear hg3; have B3 := Aside0.mk hbox3; clear hbox3; have HB3 := Aside0.mk hb3; clear hb3) | ((with_reducible refine gate_dst (N := 4) rfl ?_); refine box_event ?hg (N := 4) ?hd (cs := #[.int .i64 (5), .int .i64 a, .int .i64 b]) (t := 33) ?hr ?_; (case hd => rfl); (case hg => rfl); (case hr => first | (go_simp; done) | (go_simp; rfl)); intro g5 hg5 w5 hbox5 hb5; have G5 := Aside0.mk hg5; clear hg5; have HB5 := Aside0.mk (hb5); clear hb5; have B5 := Aside0.mk hbox5; clear hbox5; have lg3 := Aside0.mk (Array.getElem?_eq_some_iff.1 B3.out).1; have F3 := Aside0.mk ((HB5.out.block g3 lg3.out).trans B3.out); have HBV := Aside0.mk (HB3.out.trans (HB5.out.mono HB3.out.size)); have P0 : w5.cell? ⟨g3, 0, none⟩ = some (.int .i64 a0_0) := (blk_cell F3.out 0).trans rfl; have P1 : w5.cell? ⟨g3, 1, none⟩ = some (.int .i64 a0_1) := (blk_cell F3.out 1).trans rfl; have P2 : w5.cell? ⟨g3, 2, none⟩ = some (.slice A0_2 l0_2.length c0_2) := (blk_cell F3.out 2).trans rfl; have P3 : w5.cell? ⟨g3, 3, none⟩ = some (.slice A0_3 l0_3.length c0_3) := (blk_cell F3.out 3).trans rfl; have P4 : w5.cell? ⟨g3, 4, none⟩ = some (.slice A0_4 l0_4.length c0_4) := (blk_cell F3.out 4).trans rfl; have C50 : w5.cell? ⟨g5, 0, none⟩ = some (.int .i64 (5)) := (blk_cell B5.out 0).trans rfl; have C51 : w5.cell? ⟨g5, 1, none⟩ = some (.int .i64 a) := (blk_cell B5.out 1).trans rfl; have C52 : w5.cell? ⟨g5, 2, none⟩ = some (.int .i64 b) := (blk_cell B5.out 2).trans rfl))
  refine (rbelow_any a a0_1 _).mono ?_
  obtain ⟨rg, hrg⟩ : ∃ x, decide (0 ≤ a ∧ a < a0_1) = x := ⟨_, rfl⟩
  rw [hrg]
  rintro e w' ⟨rfl, ⟨n1, rfl⟩⟩
  have HRG := Aside0.mk hrg
  clear hrg
  go_wp2_with fail
  refine (rbelow_any b l0_4.length _).mono ?_
  obtain ⟨pl, hpl⟩ : ∃ x, decide (0 ≤ b ∧ b < (l0_4.length : Int)) = x := ⟨_, rfl⟩
  rw [hpl]
  rintro e w' ⟨rfl, ⟨n2, rfl⟩⟩
  have HPL := Aside0.mk hpl
  clear hpl
  cases rg with
  | false =>
    go_wp2_with fail
    go_ret
    exact ⟨by first | (rw [← HRES.out]; unfold insK; simp [HRG.out, HPL.out]; done) | (rw [← HRES.out]; unfold insK; rw [HRG.out, HPL.out]; simp), by repeat (first | exact HBV.out | apply pw_below_drewN | apply below_drew1)⟩
  | true =>
    go_wp2_with fail
    go_ret
    exact ⟨by first | (rw [← HRES.out]; unfold insK; simp [HRG.out, HPL.out]; done) | (rw [← HRES.out]; unfold insK; rw [HRG.out, HPL.out]; simp), by repeat (first | exact HBV.out | apply pw_below_drewN | apply below_drew1)⟩
set_option maxHeartbeats 8000000 in
set_option maxRecDepth 100000 in
theorem ins6 (a0_0 a0_1 : Int) (A0_2 : Option Addr) (c0_2 : Nat) (l0_2 : List (S48)) (A0_3 : Option Addr) (c0_3 : Nat) (l0_3 : List (S46)) (A0_4 : Option Addr) (c0_4 : Nat) (l0_4 : List (S33)) (a b protos : Int) (w : World) (hr0_3 : Kd.C k46 w A0_3 l0_3.length l0_3) :
    Calls Try.prog 45 #[.agg #[.int .i64 a0_0, .int .i64 a0_1, .slice A0_2 l0_2.length c0_2, .slice A0_3 l0_3.length c0_3, .slice A0_4 l0_4.length c0_4], .agg #[.int .i64 (6), .int .i64 a, .int .i64 b], .int .i64 protos] w fun e w' => e = .returned (.bool (insK 5 a0_1 l0_2.length l0_4.length l0_3 protos a b)) ∧ Below w.heap.size w w' := by
  generalize hres : insK 5 a0_1 l0_2.length l0_4.length l0_3 protos a b = res
  have HRES := Aside0.mk hres
  clear hres
  have HC := Aside0.mk hr0_3
  clear hr0_3
  have HB := Aside0.mk (Below.refl w.heap.size w)
  go_enter Try.func45, Try.ntmps45
  go_wp2_with (first | ((with_reducible refine gate_dst (N := 3) rfl ?_); refine box_event ?hg (N := 3) ?hd (cs := #[.int .i64 a0_0, .int .i64 a0_1, .slice A0_2 l0_2.length c0_2, .slice A0_3 l0_3.length c0_3, .slice A0_4 l0_4.length c0_4]) (t := 41) ?hr ?_; (case hd => rfl); (case hg => rfl); (case hr => first | (go_simp; done) | (go_simp; rfl)); intro g3 hg3 w3 hbox3 hb3; have G3 := Aside0.mk hg3; clear hg3; have B3 := Aside0.mk hbox3; clear hbox3; have HB3 := Aside0.mk hb3; clear hb3) | ((with_reducible refine gate_dst (N := 4) rfl ?_); refine box_event ?hg (N := 4) ?hd (cs := #[.int .i64 (6), .int .i64 a, .int .i64 b]) (t := 33) ?hr ?_; (case hd => rfl); (case hg => rfl); (case hr => first | (go_simp; done) | (go_simp; rfl)); intro g5 hg5 w5 hbox5 hb5; have G5 := Aside0.mk hg5; clear hg5; have HB5 := Aside0.mk (hb5); clear hb5; have B5 := Aside0.mk hbox5; clear hbox5; have lg3 := Aside0.mk (Array.getElem?_eq_some_iff.1 B3.out).1; have F3 := Aside0.mk ((HB5.out.block g3 lg3.out).trans B3.out); have HBV := Aside0.mk (HB3.out.trans (HB5.out.mono HB3.out.size)); have P0 : w5.cell? ⟨g3, 0, none⟩ = some (.int .i64 a0_0) := (blk_cell F3.out 0).trans rfl; have P1 : w5.cell? ⟨g3, 1, none⟩ = some (.int .i64 a0_1) := (blk_cell F3.out 1).trans rfl; have P2 : w5.cell? ⟨g3, 2, none⟩ = some (.slice A0_2 l0_2.length c0_2) := (blk_cell F3.out 2).trans rfl; have P3 : w5.cell? ⟨g3, 3, none⟩ = some (.slice A0_3 l0_3.length c0_3) := (blk_cell F3.out 3).trans rfl; have P4 : w5.cell? ⟨g3, 4, none⟩ = some (.slice A0_4 l0_4.length c0_4) := (blk_cell F3.out 4).trans rfl; have C50 : w5.cell? ⟨g5, 0, none⟩ = some (.int .i64 (6)) := (blk_cell B5.out 0).trans rfl; have C51 : w5.cell? ⟨g5, 1, none⟩ = some (.int .i64 a) := (blk_cell B5.out 1).trans rfl; have C52 : w5.cell? ⟨g5, 2, none⟩ = some (.int .i64 b) := (blk_cell B5.out 2).trans rfl))
  refine (rbelow_any a a0_1 _).mono ?_
  obtain ⟨rg, hrg⟩ : ∃ x, decide (0 ≤ a ∧ a < a0_1) = x := ⟨_, rfl⟩
  rw [hrg]
  rintro e w' ⟨rfl, ⟨n1, rfl⟩⟩
  have HRG := Aside0.mk hrg
  clear hrg
  go_wp2_with fail
  refine (rbelow_any b l0_4.length _).mono ?_
  obtain ⟨pl, hpl⟩ : ∃ x, decide (0 ≤ b ∧ b < (l0_4.length : Int)) = x := ⟨_, rfl⟩
  rw [hpl]
  rintro e w' ⟨rfl, ⟨n2, rfl⟩⟩
  have HPL := Aside0.mk hpl
  clear hpl
  cases rg with
  | false =>
    go_wp2_with fail
    go_ret
    exact ⟨by first | (rw [← HRES.out]; unfold insK; simp [HRG.out, HPL.out]; done) | (rw [← HRES.out]; unfold insK; rw [HRG.out, HPL.out]; simp), by repeat (first | exact HBV.out | apply pw_below_drewN | apply below_drew1)⟩
  | true =>
    go_wp2_with fail
    refine (rbelow_any b (l0_2.length : Int) _).mono ?_
    obtain ⟨tb, htb⟩ : ∃ x, decide (0 ≤ b ∧ b < (l0_2.length : Int)) = x := ⟨_, rfl⟩
    rw [htb]
    rintro e w' ⟨rfl, ⟨n3, rfl⟩⟩
    have Htb := Aside0.mk htb
    clear htb
    go_wp2_with fail
    go_ret
    exact ⟨by first | (rw [← HRES.out]; unfold insK; simp [HRG.out, HPL.out, Htb.out]; done) | (rw [← HRES.out]; unfold insK; rw [HRG.out, HPL.out]; simp [Htb.out]), by repeat (first | exact HBV.out | apply pw_below_drewN | apply below_drew1)⟩
set_option maxHeartbeats 8000000 in
set_option maxRecDepth 100000 in
theorem ins7 (a0_0 a0_1 : Int) (A0_2 : Option Addr) (c0_2 : Nat) (l0_2 : List (S48)) (A0_3 : Option Addr) (c0_3 : Nat) (l0_3 : List (S46)) (A0_4 : Option Addr) (c0_4 : Nat) (l0_4 : List (S33)) (a b protos : Int) (w : World) (hr0_3 : Kd.C k46 w A0_3 l0_3.length l0_3) :
    Calls Try.prog 45 #[.agg #[.int .i64 a0_0, .int .i64 a0_1, .slice A0_2 l0_2.length c0_2, .slice A0_3 l0_3.length c0_3, .slice A0_4 l0_4.length c0_4], .agg #[.int .i64 (7), .int .i64 a, .int .i64 b], .int .i64 protos] w fun e w' => e = .returned (.bool (insK 5 a0_1 l0_2.length l0_4.length l0_3 protos a b)) ∧ Below w.heap.size w w' := by
  generalize hres : insK 5 a0_1 l0_2.length l0_4.length l0_3 protos a b = res
  have HRES := Aside0.mk hres
  clear hres
  have HC := Aside0.mk hr0_3
  clear hr0_3
  have HB := Aside0.mk (Below.refl w.heap.size w)
  go_enter Try.func45, Try.ntmps45
  go_wp2_with (first | ((with_reducible refine gate_dst (N := 3) rfl ?_); refine box_event ?hg (N := 3) ?hd (cs := #[.int .i64 a0_0, .int .i64 a0_1, .slice A0_2 l0_2.length c0_2, .slice A0_3 l0_3.length c0_3, .slice A0_4 l0_4.length c0_4]) (t := 41) ?hr ?_; (case hd => rfl); (case hg => rfl); (case hr => first | (go_simp; done) | (go_simp; rfl)); intro g3 hg3 w3 hbox3 hb3; have G3 := Aside0.mk hg3; clear hg3; have B3 := Aside0.mk hbox3; clear hbox3; have HB3 := Aside0.mk hb3; clear hb3) | ((with_reducible refine gate_dst (N := 4) rfl ?_); refine box_event ?hg (N := 4) ?hd (cs := #[.int .i64 (7), .int .i64 a, .int .i64 b]) (t := 33) ?hr ?_; (case hd => rfl); (case hg => rfl); (case hr => first | (go_simp; done) | (go_simp; rfl)); intro g5 hg5 w5 hbox5 hb5; have G5 := Aside0.mk hg5; clear hg5; have HB5 := Aside0.mk (hb5); clear hb5; have B5 := Aside0.mk hbox5; clear hbox5; have lg3 := Aside0.mk (Array.getElem?_eq_some_iff.1 B3.out).1; have F3 := Aside0.mk ((HB5.out.block g3 lg3.out).trans B3.out); have HBV := Aside0.mk (HB3.out.trans (HB5.out.mono HB3.out.size)); have P0 : w5.cell? ⟨g3, 0, none⟩ = some (.int .i64 a0_0) := (blk_cell F3.out 0).trans rfl; have P1 : w5.cell? ⟨g3, 1, none⟩ = some (.int .i64 a0_1) := (blk_cell F3.out 1).trans rfl; have P2 : w5.cell? ⟨g3, 2, none⟩ = some (.slice A0_2 l0_2.length c0_2) := (blk_cell F3.out 2).trans rfl; have P3 : w5.cell? ⟨g3, 3, none⟩ = some (.slice A0_3 l0_3.length c0_3) := (blk_cell F3.out 3).trans rfl; have P4 : w5.cell? ⟨g3, 4, none⟩ = some (.slice A0_4 l0_4.length c0_4) := (blk_cell F3.out 4).trans rfl; have C50 : w5.cell? ⟨g5, 0, none⟩ = some (.int .i64 (7)) := (blk_cell B5.out 0).trans rfl; have C51 : w5.cell? ⟨g5, 1, none⟩ = some (.int .i64 a) := (blk_cell B5.out 1).trans rfl; have C52 : w5.cell? ⟨g5, 2, none⟩ = some (.int .i64 b) := (blk_cell B5.out 2).trans rfl))
  refine (rbelow_any a a0_1 _).mono ?_
  obtain ⟨rg, hrg⟩ : ∃ x, decide (0 ≤ a ∧ a < a0_1) = x := ⟨_, rfl⟩
  rw [hrg]
  rintro e w' ⟨rfl, ⟨n1, rfl⟩⟩
  have HRG := Aside0.mk hrg
  clear hrg
  go_wp2_with fail
  refine (rbelow_any b l0_4.length _).mono ?_
  obtain ⟨pl, hpl⟩ : ∃ x, decide (0 ≤ b ∧ b < (l0_4.length : Int)) = x := ⟨_, rfl⟩
  rw [hpl]
  rintro e w' ⟨rfl, ⟨n2, rfl⟩⟩
  have HPL := Aside0.mk hpl
  clear hpl
  cases rg with
  | false =>
    go_wp2_with fail
    go_ret
    exact ⟨by first | (rw [← HRES.out]; unfold insK; simp [HRG.out, HPL.out]; done) | (rw [← HRES.out]; unfold insK; rw [HRG.out, HPL.out]; simp), by repeat (first | exact HBV.out | apply pw_below_drewN | apply below_drew1)⟩
  | true =>
    go_wp2_with fail
    refine (rbelow_any b (l0_2.length : Int) _).mono ?_
    obtain ⟨tb, htb⟩ : ∃ x, decide (0 ≤ b ∧ b < (l0_2.length : Int)) = x := ⟨_, rfl⟩
    rw [htb]
    rintro e w' ⟨rfl, ⟨n3, rfl⟩⟩
    have Htb := Aside0.mk htb
    clear htb
    go_wp2_with fail
    go_ret
    exact ⟨by first | (rw [← HRES.out]; unfold insK; simp [HRG.out, HPL.out, Htb.out]; done) | (rw [← HRES.out]; unfold insK; rw [HRG.out, HPL.out]; simp [Htb.out]), by repeat (first | exact HBV.out | apply pw_below_drewN | apply below_drew1)⟩
set_option maxHeartbeats 8000000 in
set_option maxRecDepth 100000 in
theorem ins8 (a0_0 a0_1 : Int) (A0_2 : Option Addr) (c0_2 : Nat) (l0_2 : List (S48)) (A0_3 : Option Addr) (c0_3 : Nat) (l0_3 : List (S46)) (A0_4 : Option Addr) (c0_4 : Nat) (l0_4 : List (S33)) (a b protos : Int) (w : World) (hr0_3 : Kd.C k46 w A0_3 l0_3.length l0_3) :
    Calls Try.prog 45 #[.agg #[.int .i64 a0_0, .int .i64 a0_1, .slice A0_2 l0_2.length c0_2, .slice A0_3 l0_3.length c0_3, .slice A0_4 l0_4.length c0_4], .agg #[.int .i64 (8), .int .i64 a, .int .i64 b], .int .i64 protos] w fun e w' => e = .returned (.bool (insK 0 a0_1 l0_2.length l0_4.length l0_3 protos a b)) ∧ Below w.heap.size w w' := by
  generalize hres : insK 0 a0_1 l0_2.length l0_4.length l0_3 protos a b = res
  have HRES := Aside0.mk hres
  clear hres
  have HC := Aside0.mk hr0_3
  clear hr0_3
  have HB := Aside0.mk (Below.refl w.heap.size w)
  go_enter Try.func45, Try.ntmps45
  go_wp2_with (first | ((with_reducible refine gate_dst (N := 3) rfl ?_); refine box_event ?hg (N := 3) ?hd (cs := #[.int .i64 a0_0, .int .i64 a0_1, .slice A0_2 l0_2.length c0_2, .slice A0_3 l0_3.length c0_3, .slice A0_4 l0_4.length c0_4]) (t := 41) ?hr ?_; (case hd => rfl); (case hg => rfl); (case hr => first | (go_simp; done) | (go_simp; rfl)); intro g3 hg3 w3 hbox3 hb3; have G3 := Aside0.mk hg3; clear hg3; have B3 := Aside0.mk hbox3; clear hbox3; have HB3 := Aside0.mk hb3; clear hb3) | ((with_reducible refine gate_dst (N := 4) rfl ?_); refine box_event ?hg (N := 4) ?hd (cs := #[.int .i64 (8), .int .i64 a, .int .i64 b]) (t := 33) ?hr ?_; (case hd => rfl); (case hg => rfl); (case hr => first | (go_simp; done) | (go_simp; rfl)); intro g5 hg5 w5 hbox5 hb5; have G5 := Aside0.mk hg5; clear hg5; have HB5 := Aside0.mk (hb5); clear hb5; have B5 := Aside0.mk hbox5; clear hbox5; have lg3 := Aside0.mk (Array.getElem?_eq_some_iff.1 B3.out).1; have F3 := Aside0.mk ((HB5.out.block g3 lg3.out).trans B3.out); have HBV := Aside0.mk (HB3.out.trans (HB5.out.mono HB3.out.size)); have P0 : w5.cell? ⟨g3, 0, none⟩ = some (.int .i64 a0_0) := (blk_cell F3.out 0).trans rfl; have P1 : w5.cell? ⟨g3, 1, none⟩ = some (.int .i64 a0_1) := (blk_cell F3.out 1).trans rfl; have P2 : w5.cell? ⟨g3, 2, none⟩ = some (.slice A0_2 l0_2.length c0_2) := (blk_cell F3.out 2).trans rfl; have P3 : w5.cell? ⟨g3, 3, none⟩ = some (.slice A0_3 l0_3.length c0_3) := (blk_cell F3.out 3).trans rfl; have P4 : w5.cell? ⟨g3, 4, none⟩ = some (.slice A0_4 l0_4.length c0_4) := (blk_cell F3.out 4).trans rfl; have C50 : w5.cell? ⟨g5, 0, none⟩ = some (.int .i64 (8)) := (blk_cell B5.out 0).trans rfl; have C51 : w5.cell? ⟨g5, 1, none⟩ = some (.int .i64 a) := (blk_cell B5.out 1).trans rfl; have C52 : w5.cell? ⟨g5, 2, none⟩ = some (.int .i64 b) := (blk_cell B5.out 2).trans rfl))
  refine (rbelow_any a a0_1 _).mono ?_
  obtain ⟨rg, hrg⟩ : ∃ x, decide (0 ≤ a ∧ a < a0_1) = x := ⟨_, rfl⟩
  rw [hrg]
  rintro e w' ⟨rfl, ⟨n1, rfl⟩⟩
  have HRG := Aside0.mk hrg
  clear hrg
  go_wp2_with fail
  refine (rbelow_any b l0_4.length _).mono ?_
  obtain ⟨pl, hpl⟩ : ∃ x, decide (0 ≤ b ∧ b < (l0_4.length : Int)) = x := ⟨_, rfl⟩
  rw [hpl]
  rintro e w' ⟨rfl, ⟨n2, rfl⟩⟩
  have HPL := Aside0.mk hpl
  clear hpl
  cases rg with
  | false =>
    go_wp2_with fail
    go_ret
    exact ⟨by first | (rw [← HRES.out]; unfold insK; simp [HRG.out, HPL.out]; done) | (rw [← HRES.out]; unfold insK; rw [HRG.out, HPL.out]; simp), by repeat (first | exact HBV.out | apply pw_below_drewN | apply below_drew1)⟩
  | true =>
    go_wp2_with fail
    go_ret
    exact ⟨by first | (rw [← HRES.out]; unfold insK; simp [HRG.out, HPL.out]; done) | (rw [← HRES.out]; unfold insK; rw [HRG.out, HPL.out]; simp), by repeat (first | exact HBV.out | apply pw_below_drewN | apply below_drew1)⟩
set_option maxHeartbeats 8000000 in
set_option maxRecDepth 100000 in
theorem ins9 (a0_0 a0_1 : Int) (A0_2 : Option Addr) (c0_2 : Nat) (l0_2 : List (S48)) (A0_3 : Option Addr) (c0_3 : Nat) (l0_3 : List (S46)) (A0_4 : Option Addr) (c0_4 : Nat) (l0_4 : List (S33)) (a b protos : Int) (w : World) (hr0_3 : Kd.C k46 w A0_3 l0_3.length l0_3) :
    Calls Try.prog 45 #[.agg #[.int .i64 a0_0, .int .i64 a0_1, .slice A0_2 l0_2.length c0_2, .slice A0_3 l0_3.length c0_3, .slice A0_4 l0_4.length c0_4], .agg #[.int .i64 (9), .int .i64 a, .int .i64 b], .int .i64 protos] w fun e w' => e = .returned (.bool (insK 4 a0_1 l0_2.length l0_4.length l0_3 protos a b)) ∧ Below w.heap.size w w' := by
  generalize hres : insK 4 a0_1 l0_2.length l0_4.length l0_3 protos a b = res
  have HRES := Aside0.mk hres
  clear hres
  have HC := Aside0.mk hr0_3
  clear hr0_3
  have HB := Aside0.mk (Below.refl w.heap.size w)
  go_enter Try.func45, Try.ntmps45
  go_wp2_with (first | ((with_reducible refine gate_dst (N := 3) rfl ?_); refine box_event ?hg (N := 3) ?hd (cs := #[.int .i64 a0_0, .int .i64 a0_1, .slice A0_2 l0_2.length c0_2, .slice A0_3 l0_3.length c0_3, .slice A0_4 l0_4.length c0_4]) (t := 41) ?hr ?_; (case hd => rfl); (case hg => rfl); (case hr => first | (go_simp; done) | (go_simp; rfl)); intro g3 hg3 w3 hbox3 hb3; have G3 := Aside0.mk hg3; clear hg3; have B3 := Aside0.mk hbox3; clear hbox3; have HB3 := Aside0.mk hb3; clear hb3) | ((with_reducible refine gate_dst (N := 4) rfl ?_); refine box_event ?hg (N := 4) ?hd (cs := #[.int .i64 (9), .int .i64 a, .int .i64 b]) (t := 33) ?hr ?_; (case hd => rfl); (case hg => rfl); (case hr => first | (go_simp; done) | (go_simp; rfl)); intro g5 hg5 w5 hbox5 hb5; have G5 := Aside0.mk hg5; clear hg5; have HB5 := Aside0.mk (hb5); clear hb5; have B5 := Aside0.mk hbox5; clear hbox5; have lg3 := Aside0.mk (Array.getElem?_eq_some_iff.1 B3.out).1; have F3 := Aside0.mk ((HB5.out.block g3 lg3.out).trans B3.out); have HBV := Aside0.mk (HB3.out.trans (HB5.out.mono HB3.out.size)); have P0 : w5.cell? ⟨g3, 0, none⟩ = some (.int .i64 a0_0) := (blk_cell F3.out 0).trans rfl; have P1 : w5.cell? ⟨g3, 1, none⟩ = some (.int .i64 a0_1) := (blk_cell F3.out 1).trans rfl; have P2 : w5.cell? ⟨g3, 2, none⟩ = some (.slice A0_2 l0_2.length c0_2) := (blk_cell F3.out 2).trans rfl; have P3 : w5.cell? ⟨g3, 3, none⟩ = some (.slice A0_3 l0_3.length c0_3) := (blk_cell F3.out 3).trans rfl; have P4 : w5.cell? ⟨g3, 4, none⟩ = some (.slice A0_4 l0_4.length c0_4) := (blk_cell F3.out 4).trans rfl; have C50 : w5.cell? ⟨g5, 0, none⟩ = some (.int .i64 (9)) := (blk_cell B5.out 0).trans rfl; have C51 : w5.cell? ⟨g5, 1, none⟩ = some (.int .i64 a) := (blk_cell B5.out 1).trans rfl; have C52 : w5.cell? ⟨g5, 2, none⟩ = some (.int .i64 b) := (blk_cell B5.out 2).trans rfl))
  refine (rbelow_any a a0_1 _).mono ?_
  obtain ⟨rg, hrg⟩ : ∃ x, decide (0 ≤ a ∧ a < a0_1) = x := ⟨_, rfl⟩
  rw [hrg]
  rintro e w' ⟨rfl, ⟨n1, rfl⟩⟩
  have HRG := Aside0.mk hrg
  clear hrg
  go_wp2_with fail
  refine (rbelow_any b l0_4.length _).mono ?_
  obtain ⟨pl, hpl⟩ : ∃ x, decide (0 ≤ b ∧ b < (l0_4.length : Int)) = x := ⟨_, rfl⟩
  rw [hpl]
  rintro e w' ⟨rfl, ⟨n2, rfl⟩⟩
  have HPL := Aside0.mk hpl
  clear hpl
  cases rg with
  | false =>
    go_wp2_with fail
    go_ret
    exact ⟨by first | (rw [← HRES.out]; unfold insK; simp [HRG.out, HPL.out]; done) | (rw [← HRES.out]; unfold insK; rw [HRG.out, HPL.out]; simp), by repeat (first | exact HBV.out | apply pw_below_drewN | apply below_drew1)⟩
  | true =>
    go_wp2_with fail
    refine (rbelow_any b a0_1 _).mono ?_
    obtain ⟨tb, htb⟩ : ∃ x, decide (0 ≤ b ∧ b < a0_1) = x := ⟨_, rfl⟩
    rw [htb]
    rintro e w' ⟨rfl, ⟨n3, rfl⟩⟩
    have Htb := Aside0.mk htb
    clear htb
    go_wp2_with fail
    go_ret
    exact ⟨by first | (rw [← HRES.out]; unfold insK; simp [HRG.out, HPL.out, Htb.out]; done) | (rw [← HRES.out]; unfold insK; rw [HRG.out, HPL.out]; simp [Htb.out]), by repeat (first | exact HBV.out | apply pw_below_drewN | apply below_drew1)⟩
set_option maxHeartbeats 8000000 in
set_option maxRecDepth 100000 in
theorem ins10 (a0_0 a0_1 : Int) (A0_2 : Option Addr) (c0_2 : Nat) (l0_2 : List (S48)) (A0_3 : Option Addr) (c0_3 : Nat) (l0_3 : List (S46)) (A0_4 : Option Addr) (c0_4 : Nat) (l0_4 : List (S33)) (a b protos : Int) (w : World) (hr0_3 : Kd.C k46 w A0_3 l0_3.length l0_3) :
    Calls Try.prog 45 #[.agg #[.int .i64 a0_0, .int .i64 a0_1, .slice A0_2 l0_2.length c0_2, .slice A0_3 l0_3.length c0_3, .slice A0_4 l0_4.length c0_4], .agg #[.int .i64 (10), .int .i64 a, .int .i64 b], .int .i64 protos] w fun e w' => e = .returned (.bool (insK 4 a0_1 l0_2.length l0_4.length l0_3 protos a b)) ∧ Below w.heap.size w w' := by
  generalize hres : insK 4 a0_1 l0_2.length l0_4.length l0_3 protos a b = res
  have HRES := Aside0.mk hres
  clear hres
  have HC := Aside0.mk hr0_3
  clear hr0_3
  have HB := Aside0.mk (Below.refl w.heap.size w)
  go_enter Try.func45, Try.ntmps45
  go_wp2_with (first | ((with_reducible refine gate_dst (N := 3) rfl ?_); refine box_event ?hg (N := 3) ?hd (cs := #[.int .i64 a0_0, .int .i64 a0_1, .slice A0_2 l0_2.length c0_2, .slice A0_3 l0_3.length c0_3, .slice A0_4 l0_4.length c0_4]) (t := 41) ?hr ?_; (case hd => rfl); (case hg => rfl); (case hr => first | (go_simp; done) | (go_simp; rfl)); intro g3 hg3 w3 hbox3 hb3; have G3 := Aside0.mk hg3; clear hg3; have B3 := Aside0.mk hbox3; clear hbox3; have HB3 := Aside0.mk hb3; clear hb3) | ((with_reducible refine gate_dst (N := 4) rfl ?_); refine box_event ?hg (N := 4) ?hd (cs := #[.int .i64 (10), .int .i64 a, .int .i64 b]) (t := 33) ?hr ?_; (case hd => rfl); (case hg => rfl); (case hr => first | (go_simp; done) | (go_simp; rfl)); intro g5 hg5 w5 hbox5 hb5; have G5 := Aside0.mk hg5; clear hg5; have HB5 := Aside0.mk (hb5); clear hb5; have B5 := Aside0.mk hbox5; clear hbox5; have lg3 := Aside0.mk (Array.getElem?_eq_some_iff.1 B3.out).1; have F3 := Aside0.mk ((HB5.out.block g3 lg3.out).trans B3.out); have HBV := Aside0.mk (HB3.out.trans (HB5.out.mono HB3.out.size)); have P0 : w5.cell? ⟨g3, 0, none⟩ = some (.int .i64 a0_0) := (blk_cell F3.out 0).trans rfl; have P1 : w5.cell? ⟨g3, 1, none⟩ = some (.int .i64 a0_1) := (blk_cell F3.out 1).trans rfl; have P2 : w5.cell? ⟨g3, 2, none⟩ = some (.slice A0_2 l0_2.length c0_2) := (blk_cell F3.out 2).trans rfl; have P3 : w5.cell? ⟨g3, 3, none⟩ = some (.slice A0_3 l0_3.length c0_3) := (blk_cell F3.out 3).trans rfl; have P4 : w5.cell? ⟨g3, 4, none⟩ = some (.slice A0_4 l0_4.length c0_4) := (blk_cell F3.out 4).trans rfl; have C50 : w5.cell? ⟨g5, 0, none⟩ = some (.int .i64 (10)) := (blk_cell B5.out 0).trans rfl; have C51 : w5.cell? ⟨g5, 1, none⟩ = some (.int .i64 a) := (blk_cell B5.out 1).trans rfl; have C52 : w5.cell? ⟨g5, 2, none⟩ = some (.int .i64 b) := (blk_cell B5.out 2).trans rfl))
  refine (rbelow_any a a0_1 _).mono ?_
  obtain ⟨rg, hrg⟩ : ∃ x, decide (0 ≤ a ∧ a < a0_1) = x := ⟨_, rfl⟩
  rw [hrg]
  rintro e w' ⟨rfl, ⟨n1, rfl⟩⟩
  have HRG := Aside0.mk hrg
  clear hrg
  go_wp2_with fail
  refine (rbelow_any b l0_4.length _).mono ?_
  obtain ⟨pl, hpl⟩ : ∃ x, decide (0 ≤ b ∧ b < (l0_4.length : Int)) = x := ⟨_, rfl⟩
  rw [hpl]
  rintro e w' ⟨rfl, ⟨n2, rfl⟩⟩
  have HPL := Aside0.mk hpl
  clear hpl
  cases rg with
  | false =>
    go_wp2_with fail
    go_ret
    exact ⟨by first | (rw [← HRES.out]; unfold insK; simp [HRG.out, HPL.out]; done) | (rw [← HRES.out]; unfold insK; rw [HRG.out, HPL.out]; simp), by repeat (first | exact HBV.out | apply pw_below_drewN | apply below_drew1)⟩
  | true =>
    go_wp2_with fail
    refine (rbelow_any b a0_1 _).mono ?_
    obtain ⟨tb, htb⟩ : ∃ x, decide (0 ≤ b ∧ b < a0_1) = x := ⟨_, rfl⟩
    rw [htb]
    rintro e w' ⟨rfl, ⟨n3, rfl⟩⟩
    have Htb := Aside0.mk htb
    clear htb
    go_wp2_with fail
    go_ret
    exact ⟨by first | (rw [← HRES.out]; unfold insK; simp [HRG.out, HPL.out, Htb.out]; done) | (rw [← HRES.out]; unfold insK; rw [HRG.out, HPL.out]; simp [Htb.out]), by repeat (first | exact HBV.out | apply pw_below_drewN | apply below_drew1)⟩
set_option maxHeartbeats 8000000 in
set_option maxRecDepth 100000 in
theorem ins13 (a0_0 a0_1 : Int) (A0_2 : Option Addr) (c0_2 : Nat) (l0_2 : List (S48)) (A0_3 : Option Addr) (c0_3 : Nat) (l0_3 : List (S46)) (A0_4 : Option Addr) (c0_4 : Nat) (l0_4 : List (S33)) (a b protos : Int) (w : World) (hr0_3 : Kd.C k46 w A0_3 l0_3.length l0_3) :
    Calls Try.prog 45 #[.agg #[.int .i64 a0_0, .int .i64 a0_1, .slice A0_2 l0_2.length c0_2, .slice A0_3 l0_3.length c0_3, .slice A0_4 l0_4.length c0_4], .agg #[.int .i64 (13), .int .i64 a, .int .i64 b], .int .i64 protos] w fun e w' => e = .returned (.bool (insK 0 a0_1 l0_2.length l0_4.length l0_3 protos a b)) ∧ Below w.heap.size w w' := by
  generalize hres : insK 0 a0_1 l0_2.length l0_4.length l0_3 protos a b = res
  have HRES := Aside0.mk hres
  clear hres
  have HC := Aside0.mk hr0_3
  clear hr0_3
  have HB := Aside0.mk (Below.refl w.heap.size w)
  go_enter Try.func45, Try.ntmps45
  go_wp2_with (first | ((with_reducible refine gate_dst (N := 3) rfl ?_); refine box_event ?hg (N := 3) ?hd (cs := #[.int .i64 a0_0, .int .i64 a0_1, .slice A0_2 l0_2.length c0_2, .slice A0_3 l0_3.length c0_3, .slice A0_4 l0_4.length c0_4]) (t := 41) ?hr ?_; (case hd => rfl); (case hg => rfl); (case hr => first | (go_simp; done) | (go_simp; rfl)); intro g3 hg3 w3 hbox3 hb3; have G3 := Aside0.mk hg3; clear hg3; have B3 := Aside0.mk hbox3; clear hbox3; have HB3 := Aside0.mk hb3; clear hb3) | ((with_reducible refine gate_dst (N := 4) rfl ?_); refine box_event ?hg (N := 4) ?hd (cs := #[.int .i64 (13), .int .i64 a, .int .i64 b]) (t := 33) ?hr ?_; (case hd => rfl); (case hg => rfl); (case hr => first | (go_simp; done) | (go_simp; rfl)); intro g5 hg5 w5 hbox5 hb5; have G5 := Aside0.mk hg5; clear hg5; have HB5 := Aside0.mk (hb5); clear hb5; have B5 := Aside0.mk hbox5; clear hbox5; have lg3 := Aside0.mk (Array.getElem?_eq_some_iff.1 B3.out).1; have F3 := Aside0.mk ((HB5.out.block g3 lg3.out).trans B3.out); have HBV := Aside0.mk (HB3.out.trans (HB5.out.mono HB3.out.size)); have P0 : w5.cell? ⟨g3, 0, none⟩ = some (.int .i64 a0_0) := (blk_cell F3.out 0).trans rfl; have P1 : w5.cell? ⟨g3, 1, none⟩ = some (.int .i64 a0_1) := (blk_cell F3.out 1).trans rfl; have P2 : w5.cell? ⟨g3, 2, none⟩ = some (.slice A0_2 l0_2.length c0_2) := (blk_cell F3.out 2).trans rfl; have P3 : w5.cell? ⟨g3, 3, none⟩ = some (.slice A0_3 l0_3.length c0_3) := (blk_cell F3.out 3).trans rfl; have P4 : w5.cell? ⟨g3, 4, none⟩ = some (.slice A0_4 l0_4.length c0_4) := (blk_cell F3.out 4).trans rfl; have C50 : w5.cell? ⟨g5, 0, none⟩ = some (.int .i64 (13)) := (blk_cell B5.out 0).trans rfl; have C51 : w5.cell? ⟨g5, 1, none⟩ = some (.int .i64 a) := (blk_cell B5.out 1).trans rfl; have C52 : w5.cell? ⟨g5, 2, none⟩ = some (.int .i64 b) := (blk_cell B5.out 2).trans rfl))
  refine (rbelow_any a a0_1 _).mono ?_
  obtain ⟨rg, hrg⟩ : ∃ x, decide (0 ≤ a ∧ a < a0_1) = x := ⟨_, rfl⟩
  rw [hrg]
  rintro e w' ⟨rfl, ⟨n1, rfl⟩⟩
  have HRG := Aside0.mk hrg
  clear hrg
  go_wp2_with fail
  refine (rbelow_any b l0_4.length _).mono ?_
  obtain ⟨pl, hpl⟩ : ∃ x, decide (0 ≤ b ∧ b < (l0_4.length : Int)) = x := ⟨_, rfl⟩
  rw [hpl]
  rintro e w' ⟨rfl, ⟨n2, rfl⟩⟩
  have HPL := Aside0.mk hpl
  clear hpl
  cases rg with
  | false =>
    go_wp2_with fail
    go_ret
    exact ⟨by first | (rw [← HRES.out]; unfold insK; simp [HRG.out, HPL.out]; done) | (rw [← HRES.out]; unfold insK; rw [HRG.out, HPL.out]; simp), by repeat (first | exact HBV.out | apply pw_below_drewN | apply below_drew1)⟩
  | true =>
    go_wp2_with fail
    go_ret
    exact ⟨by first | (rw [← HRES.out]; unfold insK; simp [HRG.out, HPL.out]; done) | (rw [← HRES.out]; unfold insK; rw [HRG.out, HPL.out]; simp), by repeat (first | exact HBV.out | apply pw_below_drewN | apply below_drew1)⟩
set_option maxHeartbeats 8000000 in
set_option maxRecDepth 100000 in
theorem ins14 (a0_0 a0_1 : Int) (A0_2 : Option Addr) (c0_2 : Nat) (l0_2 : List (S48)) (A0_3 : Option Addr) (c0_3 : Nat) (l0_3 : List (S46)) (A0_4 : Option Addr) (c0_4 : Nat) (l0_4 : List (S33)) (a b protos : Int) (w : World) (hr0_3 : Kd.C k46 w A0_3 l0_3.length l0_3) :
    Calls Try.prog 45 #[.agg #[.int .i64 a0_0, .int .i64 a0_1, .slice A0_2 l0_2.length c0_2, .slice A0_3 l0_3.length c0_3, .slice A0_4 l0_4.length c0_4], .agg #[.int .i64 (14), .int .i64 a, .int .i64 b], .int .i64 protos] w fun e w' => e = .returned (.bool (insK 6 a0_1 l0_2.length l0_4.length l0_3 protos a b)) ∧ Below w.heap.size w w' := by
  generalize hres : insK 6 a0_1 l0_2.length l0_4.length l0_3 protos a b = res
  have HRES := Aside0.mk hres
  clear hres
  have HC := Aside0.mk hr0_3
  clear hr0_3
  have HB := Aside0.mk (Below.refl w.heap.size w)
  go_enter Try.func45, Try.ntmps45
  go_wp2_with (first | ((with_reducible refine gate_dst (N := 3) rfl ?_); refine box_event ?hg (N := 3) ?hd (cs := #[.int .i64 a0_0, .int .i64 a0_1, .slice A0_2 l0_2.length c0_2, .slice A0_3 l0_3.length c0_3, .slice A0_4 l0_4.length c0_4]) (t := 41) ?hr ?_; (case hd => rfl); (case hg => rfl); (case hr => first | (go_simp; done) | (go_simp; rfl)); intro g3 hg3 w3 hbox3 hb3; have G3 := Aside0.mk hg3; clear hg3; have B3 := Aside0.mk hbox3; clear hbox3; have HB3 := Aside0.mk hb3; clear hb3) | ((with_reducible refine gate_dst (N := 4) rfl ?_); refine box_event ?hg (N := 4) ?hd (cs := #[.int .i64 (14), .int .i64 a, .int .i64 b]) (t := 33) ?hr ?_; (case hd => rfl); (case hg => rfl); (case hr => first | (go_simp; done) | (go_simp; rfl)); intro g5 hg5 w5 hbox5 hb5; have G5 := Aside0.mk hg5; clear hg5; have HB5 := Aside0.mk (hb5); clear hb5; have B5 := Aside0.mk hbox5; clear hbox5; have lg3 := Aside0.mk (Array.getElem?_eq_some_iff.1 B3.out).1; have F3 := Aside0.mk ((HB5.out.block g3 lg3.out).trans B3.out); have HBV := Aside0.mk (HB3.out.trans (HB5.out.mono HB3.out.size)); have P0 : w5.cell? ⟨g3, 0, none⟩ = some (.int .i64 a0_0) := (blk_cell F3.out 0).trans rfl; have P1 : w5.cell? ⟨g3, 1, none⟩ = some (.int .i64 a0_1) := (blk_cell F3.out 1).trans rfl; have P2 : w5.cell? ⟨g3, 2, none⟩ = some (.slice A0_2 l0_2.length c0_2) := (blk_cell F3.out 2).trans rfl; have P3 : w5.cell? ⟨g3, 3, none⟩ = some (.slice A0_3 l0_3.length c0_3) := (blk_cell F3.out 3).trans rfl; have P4 : w5.cell? ⟨g3, 4, none⟩ = some (.slice A0_4 l0_4.length c0_4) := (blk_cell F3.out 4).trans rfl; have C50 : w5.cell? ⟨g5, 0, none⟩ = some (.int .i64 (14)) := (blk_cell B5.out 0).trans rfl; have C51 : w5.cell? ⟨g5, 1, none⟩ = some (.int .i64 a) := (blk_cell B5.out 1).trans rfl; have C52 : w5.cell? ⟨g5, 2, none⟩ = some (.int .i64 b) := (blk_cell B5.out 2).trans rfl))
  refine (rbelow_any a a0_1 _).mono ?_
  obtain ⟨rg, hrg⟩ : ∃ x, decide (0 ≤ a ∧ a < a0_1) = x := ⟨_, rfl⟩
  rw [hrg]
  rintro e w' ⟨rfl, ⟨n1, rfl⟩⟩
  have HRG := Aside0.mk hrg
  clear hrg
  go_wp2_with fail
  refine (rbelow_any b l0_4.length _).mono ?_
  obtain ⟨pl, hpl⟩ : ∃ x, decide (0 ≤ b ∧ b < (l0_4.length : Int)) = x := ⟨_, rfl⟩
  rw [hpl]
  rintro e w' ⟨rfl, ⟨n2, rfl⟩⟩
  have HPL := Aside0.mk hpl
  clear hpl
  obtain ⟨m, hm⟩ : ∃ x, wrap64 (a0_1 - 1) = x := ⟨_, rfl⟩
  have hm1 : IntKind.i64.wrap (a0_1 - 1) = m := (i64_w _).trans hm
  have HM := Aside0.mk hm
  clear hm
  go_wp2_with fail
  refine (rbelow_any a m _).mono ?_
  obtain ⟨tb, htb⟩ : ∃ x, decide (0 ≤ a ∧ a < m) = x := ⟨_, rfl⟩
  rw [htb]
  rintro e w' ⟨rfl, ⟨n3, rfl⟩⟩
  have Htb := Aside0.mk htb
  clear htb
  clear hm1
  cases tb with
  | false =>
    go_wp2_with fail
    go_ret
    exact ⟨by first | (rw [← HRES.out]; unfold insK; simp [HRG.out, HPL.out, HM.out, Htb.out]; done) | (rw [← HRES.out]; unfold insK; rw [HRG.out, HPL.out]; simp [HM.out, Htb.out]), by repeat (first | exact HBV.out | apply pw_below_drewN | apply below_drew1)⟩
  | true =>
    go_wp2_with fail
    go_ret
    exact ⟨by first | (rw [← HRES.out]; unfold insK; simp [HRG.out, HPL.out, HM.out, Htb.out]; done) | (rw [← HRES.out]; unfold insK; rw [HRG.out, HPL.out]; simp [HM.out, Htb.out]), by repeat (first | exact HBV.out | apply pw_below_drewN | apply below_drew1)⟩
set_option maxHeartbeats 8000000 in
set_option maxRecDepth 100000 in
theorem ins15 (a0_0 a0_1 : Int) (A0_2 : Option Addr) (c0_2 : Nat) (l0_2 : List (S48)) (A0_3 : Option Addr) (c0_3 : Nat) (l0_3 : List (S46)) (A0_4 : Option Addr) (c0_4 : Nat) (l0_4 : List (S33)) (a b protos : Int) (w : World) (hr0_3 : Kd.C k46 w A0_3 l0_3.length l0_3) :
    Calls Try.prog 45 #[.agg #[.int .i64 a0_0, .int .i64 a0_1, .slice A0_2 l0_2.length c0_2, .slice A0_3 l0_3.length c0_3, .slice A0_4 l0_4.length c0_4], .agg #[.int .i64 (15), .int .i64 a, .int .i64 b], .int .i64 protos] w fun e w' => e = .returned (.bool (insK 9 a0_1 l0_2.length l0_4.length l0_3 protos a b)) ∧ Below w.heap.size w w' := by
  generalize hres : insK 9 a0_1 l0_2.length l0_4.length l0_3 protos a b = res
  have HRES := Aside0.mk hres
  clear hres
  have HC := Aside0.mk hr0_3
  clear hr0_3
  have HB := Aside0.mk (Below.refl w.heap.size w)
  go_enter Try.func45, Try.ntmps45
  go_wp2_with (first | ((with_reducible refine gate_dst (N := 3) rfl ?_); refine box_event ?hg (N := 3) ?hd (cs := #[.int .i64 a0_0, .int .i64 a0_1, .slice A0_2 l0_2.length c0_2, .slice A0_3 l0_3.length c0_3, .slice A0_4 l0_4.length c0_4]) (t := 41) ?hr ?_; (case hd => rfl); (case hg => rfl); (case hr => first | (go_simp; done) | (go_simp; rfl)); intro g3 hg3 w3 hbox3 hb3; have G3 := Aside0.mk hg3; clear hg3; have B3 := Aside0.mk hbox3; clear hbox3; have HB3 := Aside0.mk hb3; clear hb3) | ((with_reducible refine gate_dst (N := 4) rfl ?_); refine box_event ?hg (N := 4) ?hd (cs := #[.int .i64 (15), .int .i64 a, .int .i64 b]) (t := 33) ?hr ?_; (case hd => rfl); (case hg => rfl); (case hr => first | (go_simp; done) | (go_simp; rfl)); intro g5 hg5 w5 hbox5 hb5; have G5 := Aside0.mk hg5; clear hg5; have HB5 := Aside0.mk (hb5); clear hb5; have B5 := Aside0.mk hbox5; clear hbox5; have lg3 := Aside0.mk (Array.getElem?_eq_some_iff.1 B3.out).1; have F3 := Aside0.mk ((HB5.out.block g3 lg3.out).trans B3.out); have HBV := Aside0.mk (HB3.out.trans (HB5.out.mono HB3.out.size)); have P0 : w5.cell? ⟨g3, 0, none⟩ = some (.int .i64 a0_0) := (blk_cell F3.out 0).trans rfl; have P1 : w5.cell? ⟨g3, 1, none⟩ = some (.int .i64 a0_1) := (blk_cell F3.out 1).trans rfl; have P2 : w5.cell? ⟨g3, 2, none⟩ = some (.slice A0_2 l0_2.length c0_2) := (blk_cell F3.out 2).trans rfl; have P3 : w5.cell? ⟨g3, 3, none⟩ = some (.slice A0_3 l0_3.length c0_3) := (blk_cell F3.out 3).trans rfl; have P4 : w5.cell? ⟨g3, 4, none⟩ = some (.slice A0_4 l0_4.length c0_4) := (blk_cell F3.out 4).trans rfl; have C50 : w5.cell? ⟨g5, 0, none⟩ = some (.int .i64 (15)) := (blk_cell B5.out 0).trans rfl; have C51 : w5.cell? ⟨g5, 1, none⟩ = some (.int .i64 a) := (blk_cell B5.out 1).trans rfl; have C52 : w5.cell? ⟨g5, 2, none⟩ = some (.int .i64 b) := (blk_cell B5.out 2).trans rfl))
  refine (rbelow_any a a0_1 _).mono ?_
  obtain ⟨rg, hrg⟩ : ∃ x, decide (0 ≤ a ∧ a < a0_1) = x := ⟨_, rfl⟩
  rw [hrg]
  rintro e w' ⟨rfl, ⟨n1, rfl⟩⟩
  have HRG := Aside0.mk hrg
  clear hrg
  go_wp2_with fail
  refine (rbelow_any b l0_4.length _).mono ?_
  obtain ⟨pl, hpl⟩ : ∃ x, decide (0 ≤ b ∧ b < (l0_4.length : Int)) = x := ⟨_, rfl⟩
  rw [hpl]
  rintro e w' ⟨rfl, ⟨n2, rfl⟩⟩
  have HPL := Aside0.mk hpl
  clear hpl
  obtain ⟨m, hm⟩ : ∃ x, wrap64 (a0_1 - 2) = x := ⟨_, rfl⟩
  have hm1 : IntKind.i64.wrap (a0_1 - 2) = m := (i64_w _).trans hm
  have HM := Aside0.mk hm
  clear hm
  go_wp2_with fail
  refine (rbelow_any a m _).mono ?_
  obtain ⟨tb, htb⟩ : ∃ x, decide (0 ≤ a ∧ a < m) = x := ⟨_, rfl⟩
  rw [htb]
  rintro e w' ⟨rfl, ⟨n3, rfl⟩⟩
  have Htb := Aside0.mk htb
  clear htb
  clear hm1
  cases tb with
  | false =>
    go_wp2_with fail
    go_ret
    exact ⟨by first | (rw [← HRES.out]; unfold insK; simp [HRG.out, HPL.out, HM.out, Htb.out]; done) | (rw [← HRES.out]; unfold insK; rw [HRG.out, HPL.out]; simp [HM.out, Htb.out]), by repeat (first | exact HBV.out | apply pw_below_drewN | apply below_drew1)⟩
  | true =>
    go_wp2_with fail
    go_ret
    exact ⟨by first | (rw [← HRES.out]; unfold insK; simp [HRG.out, HPL.out, HM.out, Htb.out]; done) | (rw [← HRES.out]; unfold insK; rw [HRG.out, HPL.out]; simp [HM.out, Htb.out]), by repeat (first | exact HBV.out | apply pw_below_drewN | apply below_drew1)⟩
set_option maxHeartbeats 8000000 in
set_option maxRecDepth 100000 in
theorem ins16 (a0_0 a0_1 : Int) (A0_2 : Option Addr) (c0_2 : Nat) (l0_2 : List (S48)) (A0_3 : Option Addr) (c0_3 : Nat) (l0_3 : List (S46)) (A0_4 : Option Addr) (c0_4 : Nat) (l0_4 : List (S33)) (a b protos : Int) (w : World) (hr0_3 : Kd.C k46 w A0_3 l0_3.length l0_3) :
    Calls Try.prog 45 #[.agg #[.int .i64 a0_0, .int .i64 a0_1, .slice A0_2 l0_2.length c0_2, .slice A0_3 l0_3.length c0_3, .slice A0_4 l0_4.length c0_4], .agg #[.int .i64 (16), .int .i64 a, .int .i64 b], .int .i64 protos] w fun e w' => e = .returned (.bool (insK 9 a0_1 l0_2.length l0_4.length l0_3 protos a b)) ∧ Below w.heap.size w w' := by
  generalize hres : insK 9 a0_1 l0_2.length l0_4.length l0_3 protos a b = res
  have HRES := Aside0.mk hres
  clear hres
  have HC := Aside0.mk hr0_3
  clear hr0_3
  have HB := Aside0.mk (Below.refl w.heap.size w)
  go_enter Try.func45, Try.ntmps45
  go_wp2_with (first | ((with_reducible refine gate_dst (N := 3) rfl ?_); refine box_event ?hg (N := 3) ?hd (cs := #[.int .i64 a0_0, .int .i64 a0_1, .slice A0_2 l0_2.length c0_2, .slice A0_3 l0_3.length c0_3, .slice A0_4 l0_4.length c0_4]) (t := 41) ?hr ?_; (case hd => rfl); (case hg => rfl); (case hr => first | (go_simp; done) | (go_simp; rfl)); intro g3 hg3 w3 hbox3 hb3; have G3 := Aside0.mk hg3; clear hg3; have B3 := Aside0.mk hbox3; clear hbox3; have HB3 := Aside0.mk hb3; clear hb3) | ((with_reducible refine gate_dst (N := 4) rfl ?_); refine box_event ?hg (N := 4) ?hd (cs := #[.int .i64 (16), .int .i64 a, .int .i64 b]) (t := 33) ?hr ?_; (case hd => rfl); (case hg => rfl); (case hr => first | (go_simp; done) | (go_simp; rfl)); intro g5 hg5 w5 hbox5 hb5; have G5 := Aside0.mk hg5; clear hg5; have HB5 := Aside0.mk (hb5); clear hb5; have B5 := Aside0.mk hbox5; clear hbox5; have lg3 := Aside0.mk (Array.getElem?_eq_some_iff.1 B3.out).1; have F3 := Aside0.mk ((HB5.out.block g3 lg3.out).trans B3.out); have HBV := Aside0.mk (HB3.out.trans (HB5.out.mono HB3.out.size)); have P0 : w5.cell? ⟨g3, 0, none⟩ = some (.int .i64 a0_0) := (blk_cell F3.out 0).trans rfl; have P1 : w5.cell? ⟨g3, 1, none⟩ = some (.int .i64 a0_1) := (blk_cell F3.out 1).trans rfl; have P2 : w5.cell? ⟨g3, 2, none⟩ = some (.slice A0_2 l0_2.length c0_2) := (blk_cell F3.out 2).trans rfl; have P3 : w5.cell? ⟨g3, 3, none⟩ = some (.slice A0_3 l0_3.length c0_3) := (blk_cell F3.out 3).trans rfl; have P4 : w5.cell? ⟨g3, 4, none⟩ = some (.slice A0_4 l0_4.length c0_4) := (blk_cell F3.out 4).trans rfl; have C50 : w5.cell? ⟨g5, 0, none⟩ = some (.int .i64 (16)) := (blk_cell B5.out 0).trans rfl; have C51 : w5.cell? ⟨g5, 1, none⟩ = some (.int .i64 a) := (blk_cell B5.out 1).trans rfl; have C52 : w5.cell? ⟨g5, 2, none⟩ = some (.int .i64 b) := (blk_cell B5.out 2).trans rfl))
  refine (rbelow_any a a0_1 _).mono ?_
  obtain ⟨rg, hrg⟩ : ∃ x, decide (0 ≤ a ∧ a < a0_1) = x := ⟨_, rfl⟩
  rw [hrg]
  rintro e w' ⟨rfl, ⟨n1, rfl⟩⟩
  have HRG := Aside0.mk hrg
  clear hrg
  go_wp2_with fail
  refine (rbelow_any b l0_4.length _).mono ?_
  obtain ⟨pl, hpl⟩ : ∃ x, decide (0 ≤ b ∧ b < (l0_4.length : Int)) = x := ⟨_, rfl⟩
  rw [hpl]
  rintro e w' ⟨rfl, ⟨n2, rfl⟩⟩
  have HPL := Aside0.mk hpl
  clear hpl
  obtain ⟨m, hm⟩ : ∃ x, wrap64 (a0_1 - 2) = x := ⟨_, rfl⟩
  have hm1 : IntKind.i64.wrap (a0_1 - 2) = m := (i64_w _).trans hm
  have HM := Aside0.mk hm
  clear hm
  go_wp2_with fail
  refine (rbelow_any a m _).mono ?_
  obtain ⟨tb, htb⟩ : ∃ x, decide (0 ≤ a ∧ a < m) = x := ⟨_, rfl⟩
  rw [htb]
  rintro e w' ⟨rfl, ⟨n3, rfl⟩⟩
  have Htb := Aside0.mk htb
  clear htb
  clear hm1
  cases tb with
  | false =>
    go_wp2_with fail
    go_ret
    exact ⟨by first | (rw [← HRES.out]; unfold insK; simp [HRG.out, HPL.out, HM.out, Htb.out]; done) | (rw [← HRES.out]; unfold insK; rw [HRG.out, HPL.out]; simp [HM.out, Htb.out]), by repeat (first | exact HBV.out | apply pw_below_drewN | apply below_drew1)⟩
  | true =>
    go_wp2_with fail
    go_ret
    exact ⟨by first | (rw [← HRES.out]; unfold insK; simp [HRG.out, HPL.out, HM.out, Htb.out]; done) | (rw [← HRES.out]; unfold insK; rw [HRG.out, HPL.out]; simp [HM.out, Htb.out]), by repeat (first | exact HBV.out | apply pw_below_drewN | apply below_drew1)⟩
set_option maxHeartbeats 8000000 in
set_option maxRecDepth 100000 in
theorem ins17 (a0_0 a0_1 : Int) (A0_2 : Option Addr) (c0_2 : Nat) (l0_2 : List (S48)) (A0_3 : Option Addr) (c0_3 : Nat) (l0_3 : List (S46)) (A0_4 : Option Addr) (c0_4 : Nat) (l0_4 : List (S33)) (a b protos : Int) (w : World) (hr0_3 : Kd.C k46 w A0_3 l0_3.length l0_3) :
    Calls Try.prog 45 #[.agg #[.int .i64 a0_0, .int .i64 a0_1, .slice A0_2 l0_2.length c0_2, .slice A0_3 l0_3.length c0_3, .slice A0_4 l0_4.length c0_4], .agg #[.int .i64 (17), .int .i64 a, .int .i64 b], .int .i64 protos] w fun e w' => e = .returned (.bool (insK 10 a0_1 l0_2.length l0_4.length l0_3 protos a b)) ∧ Below w.heap.size w w' := by
  generalize hres : insK 10 a0_1 l0_2.length l0_4.length l0_3 protos a b = res
  have HRES := Aside0.mk hres
  clear hres
  have HC := Aside0.mk hr0_3
  clear hr0_3
  have HB := Aside0.mk (Below.refl w.heap.size w)
  go_enter Try.func45, Try.ntmps45
  go_wp2_with (first | ((with_reducible refine gate_dst (N := 3) rfl ?_); refine box_event ?hg (N := 3) ?hd (cs := #[.int .i64 a0_0, .int .i64 a0_1, .slice A0_2 l0_2.length c0_2, .slice A0_3 l0_3.length c0_3, .slice A0_4 l0_4.length c0_4]) (t := 41) ?hr ?_; (case hd => rfl); (case hg => rfl); (case hr => first | (go_simp; done) | (go_simp; rfl)); intro g3 hg3 w3 hbox3 hb3; have G3 := Aside0.mk hg3; clear hg3; have B3 := Aside0.mk hbox3; clear hbox3; have HB3 := Aside0.mk hb3; clear hb3) | ((with_reducible refine gate_dst (N := 4) rfl ?_); refine box_event ?hg (N := 4) ?hd (cs := #[.int .i64 (17), .int .i64 a, .int .i64 b]) (t := 33) ?hr ?_; (case hd => rfl); (case hg => rfl); (case hr => first | (go_simp; done) | (go_simp; rfl)); intro g5 hg5 w5 hbox5 hb5; have G5 := Aside0.mk hg5; clear hg5; have HB5 := Aside0.mk (hb5); clear hb5; have B5 := Aside0.mk hbox5; clear hbox5; have lg3 := Aside0.mk (Array.getElem?_eq_some_iff.1 B3.out).1; have F3 := Aside0.mk ((HB5.out.block g3 lg3.out).trans B3.out); have HBV := Aside0.mk (HB3.out.trans (HB5.out.mono HB3.out.size)); have P0 : w5.cell? ⟨g3, 0, none⟩ = some (.int .i64 a0_0) := (blk_cell F3.out 0).trans rfl; have P1 : w5.cell? ⟨g3, 1, none⟩ = some (.int .i64 a0_1) := (blk_cell F3.out 1).trans rfl; have P2 : w5.cell? ⟨g3, 2, none⟩ = some (.slice A0_2 l0_2.length c0_2) := (blk_cell F3.out 2).trans rfl; have P3 : w5.cell? ⟨g3, 3, none⟩ = some (.slice A0_3 l0_3.length c0_3) := (blk_cell F3.out 3).trans rfl; have P4 : w5.cell? ⟨g3, 4, none⟩ = some (.slice A0_4 l0_4.length c0_4) := (blk_cell F3.out 4).trans rfl; have C50 : w5.cell? ⟨g5, 0, none⟩ = some (.int .i64 (17)) := (blk_cell B5.out 0).trans rfl; have C51 : w5.cell? ⟨g5, 1, none⟩ = some (.int .i64 a) := (blk_cell B5.out 1).trans rfl; have C52 : w5.cell? ⟨g5, 2, none⟩ = some (.int .i64 b) := (blk_cell B5.out 2).trans rfl))
  refine (rbelow_any a a0_1 _).mono ?_
  obtain ⟨rg, hrg⟩ : ∃ x, decide (0 ≤ a ∧ a < a0_1) = x := ⟨_, rfl⟩
  rw [hrg]
  rintro e w' ⟨rfl, ⟨n1, rfl⟩⟩
  have HRG := Aside0.mk hrg
  clear hrg
  go_wp2_with fail
  refine (rbelow_any b l0_4.length _).mono ?_
  obtain ⟨pl, hpl⟩ : ∃ x, decide (0 ≤ b ∧ b < (l0_4.length : Int)) = x := ⟨_, rfl⟩
  rw [hpl]
  rintro e w' ⟨rfl, ⟨n2, rfl⟩⟩
  have HPL := Aside0.mk hpl
  clear hpl
  cases rg with
  | false =>
    go_wp2_with fail
    go_ret
    exact ⟨by first | (rw [← HRES.out]; unfold insK; simp [HRG.out, HPL.out]; done) | (rw [← HRES.out]; unfold insK; rw [HRG.out, HPL.out]; simp), by repeat (first | exact HBV.out | apply pw_below_drewN | apply below_drew1)⟩
  | true =>
    by_cases h0 : 0 < b
    · have b0 : decide (0 < b) = true := decide_eq_true h0
      go_wp2_with fail
      go_ret
      exact ⟨by first | (rw [← HRES.out]; unfold insK; simp [HRG.out, HPL.out, h0, b0]; done) | (rw [← HRES.out]; unfold insK; rw [HRG.out, HPL.out]; simp [h0, b0]), by repeat (first | exact HBV.out | apply pw_below_drewN | apply below_drew1)⟩
    · have b0 : decide (0 < b) = false := decide_eq_false h0
      go_wp2_with fail
      go_ret
      exact ⟨by first | (rw [← HRES.out]; unfold insK; simp [HRG.out, HPL.out, h0, b0]; done) | (rw [← HRES.out]; unfold insK; rw [HRG.out, HPL.out]; simp [h0, b0]), by repeat (first | exact HBV.out | apply pw_below_drewN | apply below_drew1)⟩
set_option maxHeartbeats 8000000 in
set_option maxRecDepth 100000 in
theorem ins18 (a0_0 a0_1 : Int) (A0_2 : Option Addr) (c0_2 : Nat) (l0_2 : List (S48)) (A0_3 : Option Addr) (c0_3 : Nat) (l0_3 : List (S46)) (A0_4 : Option Addr) (c0_4 : Nat) (l0_4 : List (S33)) (a b protos : Int) (w : World) (hr0_3 : Kd.C k46 w A0_3 l0_3.length l0_3) :
    Calls Try.prog 45 #[.agg #[.int .i64 a0_0, .int .i64 a0_1, .slice A0_2 l0_2.length c0_2, .slice A0_3 l0_3.length c0_3, .slice A0_4 l0_4.length c0_4], .agg #[.int .i64 (18), .int .i64 a, .int .i64 b], .int .i64 protos] w fun e w' => e = .returned (.bool (insK 11 a0_1 l0_2.length l0_4.length l0_3 protos a b)) ∧ Below w.heap.size w w' := by
  generalize hres : insK 11 a0_1 l0_2.length l0_4.length l0_3 protos a b = res
  have HRES := Aside0.mk hres
  clear hres
  have HC := Aside0.mk hr0_3
  clear hr0_3
  have HB := Aside0.mk (Below.refl w.heap.size w)
  go_enter Try.func45, Try.ntmps45
  go_wp2_with (first | ((with_reducible refine gate_dst (N := 3) rfl ?_); refine box_event ?hg (N := 3) ?hd (cs := #[.int .i64 a0_0, .int .i64 a0_1, .slice A0_2 l0_2.length c0_2, .slice A0_3 l0_3.length c0_3, .slice A0_4 l0_4.length c0_4]) (t := 41) ?hr ?_; (case hd => rfl); (case hg => rfl); (case hr => first | (go_simp; done) | (go_simp; rfl)); intro g3 hg3 w3 hbox3 hb3; have G3 := Aside0.mk hg3; clear hg3; have B3 := Aside0.mk hbox3; clear hbox3; have HB3 := Aside0.mk hb3; clear hb3) | ((with_reducible refine gate_dst (N := 4) rfl ?_); refine box_event ?hg (N := 4) ?hd (cs := #[.int .i64 (18), .int .i64 a, .int .i64 b]) (t := 33) ?hr ?_; (case hd => rfl); (case hg => rfl); (case hr => first | (go_simp; done) | (go_simp; rfl)); intro g5 hg5 w5 hbox5 hb5; have G5 := Aside0.mk hg5; clear hg5; have HB5 := Aside0.mk (hb5); clear hb5; have B5 := Aside0.mk hbox5; clear hbox5; have lg3 := Aside0.mk (Array.getElem?_eq_some_iff.1 B3.out).1; have F3 := Aside0.mk ((HB5.out.block g3 lg3.out).trans B3.out); have HBV := Aside0.mk (HB3.out.trans (HB5.out.mono HB3.out.size)); have P0 : w5.cell? ⟨g3, 0, none⟩ = some (.int .i64 a0_0) := (blk_cell F3.out 0).trans rfl; have P1 : w5.cell? ⟨g3, 1, none⟩ = some (.int .i64 a0_1) := (blk_cell F3.out 1).trans rfl; have P2 : w5.cell? ⟨g3, 2, none⟩ = some (.slice A0_2 l0_2.length c0_2) := (blk_cell F3.out 2).trans rfl; have P3 : w5.cell? ⟨g3, 3, none⟩ = some (.slice A0_3 l0_3.length c0_3) := (blk_cell F3.out 3).trans rfl; have P4 : w5.cell? ⟨g3, 4, none⟩ = some (.slice A0_4 l0_4.length c0_4) := (blk_cell F3.out 4).trans rfl; have C50 : w5.cell? ⟨g5, 0, none⟩ = some (.int .i64 (18)) := (blk_cell B5.out 0).trans rfl; have C51 : w5.cell? ⟨g5, 1, none⟩ = some (.int .i64 a) := (blk_cell B5.out 1).trans rfl; have C52 : w5.cell? ⟨g5, 2, none⟩ = some (.int .i64 b) := (blk_cell B5.out 2).trans rfl))
  refine (rbelow_any a a0_1 _).mono ?_
  obtain ⟨rg, hrg⟩ : ∃ x, decide (0 ≤ a ∧ a < a0_1) = x := ⟨_, rfl⟩
  rw [hrg]
  rintro e w' ⟨rfl, ⟨n1, rfl⟩⟩
  have HRG := Aside0.mk hrg
  clear hrg
  go_wp2_with fail
  refine (rbelow_any b l0_4.length _).mono ?_
  obtain ⟨pl, hpl⟩ : ∃ x, decide (0 ≤ b ∧ b < (l0_4.length : Int)) = x := ⟨_, rfl⟩
  rw [hpl]
  rintro e w' ⟨rfl, ⟨n2, rfl⟩⟩
  have HPL := Aside0.mk hpl
  clear hpl
  cases rg with
  | false =>
    go_wp2_with fail
    go_ret
    exact ⟨by first | (rw [← HRES.out]; unfold insK; simp [HRG.out, HPL.out]; done) | (rw [← HRES.out]; unfold insK; rw [HRG.out, HPL.out]; simp), by repeat (first | exact HBV.out | apply pw_below_drewN | apply below_drew1)⟩
  | true =>
    by_cases h0 : 0 ≤ b
    · have b0 : decide (0 ≤ b) = true := decide_eq_true h0
      by_cases h1 : b ≤ 20
      · have b1 : decide (b ≤ 20) = true := decide_eq_true h1
        obtain ⟨m, hm⟩ : ∃ x, wrap64 (a0_1 - b) = x := ⟨_, rfl⟩
        have hm1 : IntKind.i64.wrap (a0_1 - b) = m := (i64_w _).trans hm
        have HM := Aside0.mk hm
        clear hm
        go_wp2_with fail
        refine (rbelow_any a m _).mono ?_
        obtain ⟨tb, htb⟩ : ∃ x, decide (0 ≤ a ∧ a < m) = x := ⟨_, rfl⟩
        rw [htb]
        rintro e w' ⟨rfl, ⟨n3, rfl⟩⟩
        have Htb := Aside0.mk htb
        clear htb
        clear hm1
        go_wp2_with fail
        go_ret
        exact ⟨by first | (rw [← HRES.out]; unfold insK; simp [HRG.out, HPL.out, h0, h1, b0, b1, HM.out, Htb.out]; done) | (rw [← HRES.out]; unfold insK; rw [HRG.out, HPL.out]; simp [h0, h1, b0, b1, HM.out, Htb.out]), by repeat (first | exact HBV.out | apply pw_below_drewN | apply below_drew1)⟩
      · have b1 : decide (b ≤ 20) = false := decide_eq_false h1
        go_wp2_with fail
        go_ret
        exact ⟨by first | (rw [← HRES.out]; unfold insK; simp [HRG.out, HPL.out, h0, h1, b0, b1]; done) | (rw [← HRES.out]; unfold insK; rw [HRG.out, HPL.out]; simp [h0, h1, b0, b1]), by repeat (first | exact HBV.out | apply pw_below_drewN | apply below_drew1)⟩
    · have b0 : decide (0 ≤ b) = false := decide_eq_false h0
      go_wp2_with fail
      go_ret
      exact ⟨by first | (rw [← HRES.out]; unfold insK; simp [HRG.out, HPL.out, h0, b0]; done) | (rw [← HRES.out]; unfold insK; rw [HRG.out, HPL.out]; simp [h0, b0]), by repeat (first | exact HBV.out | apply pw_below_drewN | apply below_drew1)⟩
set_option maxHeartbeats 8000000 in
set_option maxRecDepth 100000 in
theorem ins19 (a0_0 a0_1 : Int) (A0_2 : Option Addr) (c0_2 : Nat) (l0_2 : List (S48)) (A0_3 : Option Addr) (c0_3 : Nat) (l0_3 : List (S46)) (A0_4 : Option Addr) (c0_4 : Nat) (l0_4 : List (S33)) (a b protos : Int) (w : World) (hr0_3 : Kd.C k46 w A0_3 l0_3.length l0_3) :
    Calls Try.prog 45 #[.agg #[.int .i64 a0_0, .int .i64 a0_1, .slice A0_2 l0_2.length c0_2, .slice A0_3 l0_3.length c0_3, .slice A0_4 l0_4.length c0_4], .agg #[.int .i64 (19), .int .i64 a, .int .i64 b], .int .i64 protos] w fun e w' => e = .returned (.bool (insK 0 a0_1 l0_2.length l0_4.length l0_3 protos a b)) ∧ Below w.heap.size w w' := by
  generalize hres : insK 0 a0_1 l0_2.length l0_4.length l0_3 protos a b = res
  have HRES := Aside0.mk hres
  clear hres
  have HC := Aside0.mk hr0_3
  clear hr0_3
  have HB := Aside0.mk (Below.refl w.heap.size w)
  go_enter Try.func45, Try.ntmps45
  go_wp2_with (first | ((with_reducible refine gate_dst (N := 3) rfl ?_); refine box_event ?hg (N := 3) ?hd (cs := #[.int .i64 a0_0, .int .i64 a0_1, .slice A0_2 l0_2.length c0_2, .slice A0_3 l0_3.length c0_3, .slice A0_4 l0_4.length c0_4]) (t := 41) ?hr ?_; (case hd => rfl); (case hg => rfl); (case hr => first | (go_simp; done) | (go_simp; rfl)); intro g3 hg3 w3 hbox3 hb3; have G3 := Aside0.mk hg3; clear hg3; have B3 := Aside0.mk hbox3; clear hbox3; have HB3 := Aside0.mk hb3; clear hb3) | ((with_reducible refine gate_dst (N := 4) rfl ?_); refine box_event ?hg (N := 4) ?hd (cs := #[.int .i64 (19), .int .i64 a, .int .i64 b]) (t := 33) ?hr ?_; (case hd => rfl); (case hg => rfl); (case hr => first | (go_simp; done) | (go_simp; rfl)); intro g5 hg5 w5 hbox5 hb5; have G5 := Aside0.mk hg5; clear hg5; have HB5 := Aside0.mk (hb5); clear hb5; have B5 := Aside0.mk hbox5; clear hbox5; have lg3 := Aside0.mk (Array.getElem?_eq_some_iff.1 B3.out).1; have F3 := Aside0.mk ((HB5.out.block g3 lg3.out).trans B3.out); have HBV := Aside0.mk (HB3.out.trans (HB5.out.mono HB3.out.size)); have P0 : w5.cell? ⟨g3, 0, none⟩ = some (.int .i64 a0_0) := (blk_cell F3.out 0).trans rfl; have P1 : w5.cell? ⟨g3, 1, none⟩ = some (.int .i64 a0_1) := (blk_cell F3.out 1).trans rfl; have P2 : w5.cell? ⟨g3, 2, none⟩ = some (.slice A0_2 l0_2.length c0_2) := (blk_cell F3.out 2).trans rfl; have P3 : w5.cell? ⟨g3, 3, none⟩ = some (.slice A0_3 l0_3.length c0_3) := (blk_cell F3.out 3).trans rfl; have P4 : w5.cell? ⟨g3, 4, none⟩ = some (.slice A0_4 l0_4.length c0_4) := (blk_cell F3.out 4).trans rfl; have C50 : w5.cell? ⟨g5, 0, none⟩ = some (.int .i64 (19)) := (blk_cell B5.out 0).trans rfl; have C51 : w5.cell? ⟨g5, 1, none⟩ = some (.int .i64 a) := (blk_cell B5.out 1).trans rfl; have C52 : w5.cell? ⟨g5, 2, none⟩ = some (.int .i64 b) := (blk_cell B5.out 2).trans rfl))
  refine (rbelow_any a a0_1 _).mono ?_
  obtain ⟨rg, hrg⟩ : ∃ x, decide (0 ≤ a ∧ a < a0_1) = x := ⟨_, rfl⟩
  rw [hrg]
  rintro e w' ⟨rfl, ⟨n1, rfl⟩⟩
  have HRG := Aside0.mk hrg
  clear hrg
  go_wp2_with fail
  refine (rbelow_any b l0_4.length _).mono ?_
  obtain ⟨pl, hpl⟩ : ∃ x, decide (0 ≤ b ∧ b < (l0_4.length : Int)) = x := ⟨_, rfl⟩
  rw [hpl]
  rintro e w' ⟨rfl, ⟨n2, rfl⟩⟩
  have HPL := Aside0.mk hpl
  clear hpl
  cases rg with
  | false =>
    go_wp2_with fail
    go_ret
    exact ⟨by first | (rw [← HRES.out]; unfold insK; simp [HRG.out, HPL.out]; done) | (rw [← HRES.out]; unfold insK; rw [HRG.out, HPL.out]; simp), by repeat (first | exact HBV.out | apply pw_below_drewN | apply below_drew1)⟩
  | true =>
    go_wp2_with fail
    go_ret
    exact ⟨by first | (rw [← HRES.out]; unfold insK; simp [HRG.out, HPL.out]; done) | (rw [← HRES.out]; unfold insK; rw [HRG.out, HPL.out]; simp), by repeat (first | exact HBV.out | apply pw_below_drewN | apply below_drew1)⟩
set_option maxHeartbeats 8000000 in
set_option maxRecDepth 100000 in
theorem ins20 (a0_0 a0_1 : Int) (A0_2 : Option Addr) (c0_2 : Nat) (l0_2 : List (S48)) (A0_3 : Option Addr) (c0_3 : Nat) (l0_3 : List (S46)) (A0_4 : Option Addr) (c0_4 : Nat) (l0_4 : List (S33)) (a b protos : Int) (w : World) (hr0_3 : Kd.C k46 w A0_3 l0_3.length l0_3) :
    Calls Try.prog 45 #[.agg #[.int .i64 a0_0, .int .i64 a0_1, .slice A0_2 l0_2.length c0_2, .slice A0_3 l0_3.length c0_3, .slice A0_4 l0_4.length c0_4], .agg #[.int .i64 (20), .int .i64 a, .int .i64 b], .int .i64 protos] w fun e w' => e = .returned (.bool (insK 13 a0_1 l0_2.length l0_4.length l0_3 protos a b)) ∧ Below w.heap.size w w' := by
  generalize hres : insK 13 a0_1 l0_2.length l0_4.length l0_3 protos a b = res
  have HRES := Aside0.mk hres
  clear hres
  have HC := Aside0.mk hr0_3
  clear hr0_3
  have HB := Aside0.mk (Below.refl w.heap.size w)
  go_enter Try.func45, Try.ntmps45
  go_wp2_with (first | ((with_reducible refine gate_dst (N := 3) rfl ?_); refine box_event ?hg (N := 3) ?hd (cs := #[.int .i64 a0_0, .int .i64 a0_1, .slice A0_2 l0_2.length c0_2, .slice A0_3 l0_3.length c0_3, .slice A0_4 l0_4.length c0_4]) (t := 41) ?hr ?_; (case hd => rfl); (case hg => rfl); (case hr => first | (go_simp; done) | (go_simp; rfl)); intro g3 hg3 w3 hbox3 hb3; have G3 := Aside0.mk hg3; clear hg3; have B3 := Aside0.mk hbox3; clear hbox3; have HB3 := Aside0.mk hb3; clear hb3) | ((with_reducible refine gate_dst (N := 4) rfl ?_); refine box_event ?hg (N := 4) ?hd (cs := #[.int .i64 (20), .int .i64 a, .int .i64 b]) (t := 33) ?hr ?_; (case hd => rfl); (case hg => rfl); (case hr => first | (go_simp; done) | (go_simp; rfl)); intro g5 hg5 w5 hbox5 hb5; have G5 := Aside0.mk hg5; clear hg5; have HB5 := Aside0.mk (hb5); clear hb5; have B5 := Aside0.mk hbox5; clear hbox5; have lg3 := Aside0.mk (Array.getElem?_eq_some_iff.1 B3.out).1; have F3 := Aside0.mk ((HB5.out.block g3 lg3.out).trans B3.out); have HBV := Aside0.mk (HB3.out.trans (HB5.out.mono HB3.out.size)); have P0 : w5.cell? ⟨g3, 0, none⟩ = some (.int .i64 a0_0) := (blk_cell F3.out 0).trans rfl; have P1 : w5.cell? ⟨g3, 1, none⟩ = some (.int .i64 a0_1) := (blk_cell F3.out 1).trans rfl; have P2 : w5.cell? ⟨g3, 2, none⟩ = some (.slice A0_2 l0_2.length c0_2) := (blk_cell F3.out 2).trans rfl; have P3 : w5.cell? ⟨g3, 3, none⟩ = some (.slice A0_3 l0_3.length c0_3) := (blk_cell F3.out 3).trans rfl; have P4 : w5.cell? ⟨g3, 4, none⟩ = some (.slice A0_4 l0_4.length c0_4) := (blk_cell F3.out 4).trans rfl; have C50 : w5.cell? ⟨g5, 0, none⟩ = some (.int .i64 (20)) := (blk_cell B5.out 0).trans rfl; have C51 : w5.cell? ⟨g5, 1, none⟩ = some (.int .i64 a) := (blk_cell B5.out 1).trans rfl; have C52 : w5.cell? ⟨g5, 2, none⟩ = some (.int .i64 b) := (blk_cell B5.out 2).trans rfl))
  refine (rbelow_any a a0_1 _).mono ?_
  obtain ⟨rg, hrg⟩ : ∃ x, decide (0 ≤ a ∧ a < a0_1) = x := ⟨_, rfl⟩
  rw [hrg]
  rintro e w' ⟨rfl, ⟨n1, rfl⟩⟩
  have HRG := Aside0.mk hrg
  clear hrg
  go_wp2_with fail
  refine (rbelow_any b l0_4.length _).mono ?_
  obtain ⟨pl, hpl⟩ : ∃ x, decide (0 ≤ b ∧ b < (l0_4.length : Int)) = x := ⟨_, rfl⟩
  rw [hpl]
  rintro e w' ⟨rfl, ⟨n2, rfl⟩⟩
  have HPL := Aside0.mk hpl
  clear hpl
  by_cases h0 : a = 0
  · have b0 : (a == 0) = true := beq_iff_eq.mpr h0
    go_wp2_with fail
    go_ret
    exact ⟨by first | (rw [← HRES.out]; unfold insK; simp [HRG.out, HPL.out, h0, b0]; done) | (rw [← HRES.out]; unfold insK; rw [HRG.out, HPL.out]; simp [h0, b0]), by repeat (first | exact HBV.out | apply pw_below_drewN | apply below_drew1)⟩
  · have b0 : (a == 0) = false := beq_eq_false_iff_ne.mpr h0
    go_wp2_with fail
    go_ret
    exact ⟨by first | (rw [← HRES.out]; unfold insK; simp [HRG.out, HPL.out, h0, b0]; done) | (rw [← HRES.out]; unfold insK; rw [HRG.out, HPL.out]; simp [h0, b0]), by repeat (first | exact HBV.out | apply pw_below_drewN | apply below_drew1)⟩
set_option maxHeartbeats 8000000 in
set_option maxRecDepth 100000 in
theorem ins21 (a0_0 a0_1 : Int) (A0_2 : Option Addr) (c0_2 : Nat) (l0_2 : List (S48)) (A0_3 : Option Addr) (c0_3 : Nat) (l0_3 : List (S46)) (A0_4 : Option Addr) (c0_4 : Nat) (l0_4 : List (S33)) (a b protos : Int) (w : World) (hr0_3 : Kd.C k46 w A0_3 l0_3.length l0_3) :
    Calls Try.prog 45 #[.agg #[.int .i64 a0_0, .int .i64 a0_1, .slice A0_2 l0_2.length c0_2, .slice A0_3 l0_3.length c0_3, .slice A0_4 l0_4.length c0_4], .agg #[.int .i64 (21), .int .i64 a, .int .i64 b], .int .i64 protos] w fun e w' => e = .returned (.bool (insK 12 a0_1 l0_2.length l0_4.length l0_3 protos a b)) ∧ Below w.heap.size w w' := by
  generalize hres : insK 12 a0_1 l0_2.length l0_4.length l0_3 protos a b = res
  have HRES := Aside0.mk hres
  clear hres
  have HC := Aside0.mk hr0_3
  clear hr0_3
  have HB := Aside0.mk (Below.refl w.heap.size w)
  go_enter Try.func45, Try.ntmps45
  go_wp2_with (first | ((with_reducible refine gate_dst (N := 3) rfl ?_); refine box_event ?hg (N := 3) ?hd (cs := #[.int .i64 a0_0, .int .i64 a0_1, .slice A0_2 l0_2.length c0_2, .slice A0_3 l0_3.length c0_3, .slice A0_4 l0_4.length c0_4]) (t := 41) ?hr ?_; (case hd => rfl); (case hg => rfl); (case hr => first | (go_simp; done) | (go_simp; rfl)); intro g3 hg3 w3 hbox3 hb3; have G3 := Aside0.mk hg3; clear hg3; have B3 := Aside0.mk hbox3; clear hbox3; have HB3 := Aside0.mk hb3; clear hb3) | ((with_reducible refine gate_dst (N := 4) rfl ?_); refine box_event ?hg (N := 4) ?hd (cs := #[.int .i64 (21), .int .i64 a, .int .i64 b]) (t := 33) ?hr ?_; (case hd => rfl); (case hg => rfl); (case hr => first | (go_simp; done) | (go_simp; rfl)); intro g5 hg5 w5 hbox5 hb5; have G5 := Aside0.mk hg5; clear hg5; have HB5 := Aside0.mk (hb5); clear hb5; have B5 := Aside0.mk hbox5; clear hbox5; have lg3 := Aside0.mk (Array.getElem?_eq_some_iff.1 B3.out).1; have F3 := Aside0.mk ((HB5.out.block g3 lg3.out).trans B3.out); have HBV := Aside0.mk (HB3.out.trans (HB5.out.mono HB3.out.size)); have P0 : w5.cell? ⟨g3, 0, none⟩ = some (.int .i64 a0_0) := (blk_cell F3.out 0).trans rfl; have P1 : w5.cell? ⟨g3, 1, none⟩ = some (.int .i64 a0_1) := (blk_cell F3.out 1).trans rfl; have P2 : w5.cell? ⟨g3, 2, none⟩ = some (.slice A0_2 l0_2.length c0_2) := (blk_cell F3.out 2).trans rfl; have P3 : w5.cell? ⟨g3, 3, none⟩ = some (.slice A0_3 l0_3.length c0_3) := (blk_cell F3.out 3).trans rfl; have P4 : w5.cell? ⟨g3, 4, none⟩ = some (.slice A0_4 l0_4.length c0_4) := (blk_cell F3.out 4).trans rfl; have C50 : w5.cell? ⟨g5, 0, none⟩ = some (.int .i64 (21)) := (blk_cell B5.out 0).trans rfl; have C51 : w5.cell? ⟨g5, 1, none⟩ = some (.int .i64 a) := (blk_cell B5.out 1).trans rfl; have C52 : w5.cell? ⟨g5, 2, none⟩ = some (.int .i64 b) := (blk_cell B5.out 2).trans rfl))
  refine (rbelow_any a a0_1 _).mono ?_
  obtain ⟨rg, hrg⟩ : ∃ x, decide (0 ≤ a ∧ a < a0_1) = x := ⟨_, rfl⟩
  rw [hrg]
  rintro e w' ⟨rfl, ⟨n1, rfl⟩⟩
  have HRG := Aside0.mk hrg
  clear hrg
  go_wp2_with fail
  refine (rbelow_any b l0_4.length _).mono ?_
  obtain ⟨pl, hpl⟩ : ∃ x, decide (0 ≤ b ∧ b < (l0_4.length : Int)) = x := ⟨_, rfl⟩
  rw [hpl]
  rintro e w' ⟨rfl, ⟨n2, rfl⟩⟩
  have HPL := Aside0.mk hpl
  clear hpl
  cases rg with
  | false =>
    go_wp2_with fail
    go_ret
    exact ⟨by first | (rw [← HRES.out]; unfold insK; simp [HRG.out, HPL.out]; done) | (rw [← HRES.out]; unfold insK; rw [HRG.out, HPL.out]; simp), by repeat (first | exact HBV.out | apply pw_below_drewN | apply below_drew1)⟩
  | true =>
    go_wp2_with fail
    go_ret
    exact ⟨by first | (rw [← HRES.out]; unfold insK; simp [HRG.out, HPL.out]; done) | (rw [← HRES.out]; unfold insK; rw [HRG.out, HPL.out]; simp), by repeat (first | exact HBV.out | apply pw_below_drewN | apply below_drew1)⟩
set_option maxHeartbeats 8000000 in
set_option maxRecDepth 100000 in
theorem ins22 (a0_0 a0_1 : Int) (A0_2 : Option Addr) (c0_2 : Nat) (l0_2 : List (S48)) (A0_3 : Option Addr) (c0_3 : Nat) (l0_3 : List (S46)) (A0_4 : Option Addr) (c0_4 : Nat) (l0_4 : List (S33)) (a b protos : Int) (w : World) (hr0_3 : Kd.C k46 w A0_3 l0_3.length l0_3) :
    Calls Try.prog 45 #[.agg #[.int .i64 a0_0, .int .i64 a0_1, .slice A0_2 l0_2.length c0_2, .slice A0_3 l0_3.length c0_3, .slice A0_4 l0_4.length c0_4], .agg #[.int .i64 (22), .int .i64 a, .int .i64 b], .int .i64 protos] w fun e w' => e = .returned (.bool (insK 12 a0_1 l0_2.length l0_4.length l0_3 protos a b)) ∧ Below w.heap.size w w' := by
  generalize hres : insK 12 a0_1 l0_2.length l0_4.length l0_3 protos a b = res
  have HRES := Aside0.mk hres
  clear hres
  have HC := Aside0.mk hr0_3
  clear hr0_3
  have HB := Aside0.mk (Below.refl w.heap.size w)
  go_enter Try.func45, Try.ntmps45
  go_wp2_with (first | ((with_reducible refine gate_dst (N := 3) rfl ?_); refine box_event ?hg (N := 3) ?hd (cs := #[.int .i64 a0_0, .int .i64 a0_1, .slice A0_2 l0_2.length c0_2, .slice A0_3 l0_3.length c0_3, .slice A0_4 l0_4.length c0_4]) (t := 41) ?hr ?_; (case hd => rfl); (case hg => rfl); (case hr => first | (go_simp; done) | (go_simp; rfl)); intro g3 hg3 w3 hbox3 hb3; have G3 := Aside0.mk hg3; clear hg3; have B3 := Aside0.mk hbox3; clear hbox3; have HB3 := Aside0.mk hb3; clear hb3) | ((with_reducible refine gate_dst (N := 4) rfl ?_); refine box_event ?hg (N := 4) ?hd (cs := #[.int .i64 (22), .int .i64 a, .int .i64 b]) (t := 33) ?hr ?_; (case hd => rfl); (case hg => rfl); (case hr => first | (go_simp; done) | (go_simp; rfl)); intro g5 hg5 w5 hbox5 hb5; have G5 := Aside0.mk hg5; clear hg5; have HB5 := Aside0.mk (hb5); clear hb5; have B5 := Aside0.mk hbox5; clear hbox5; have lg3 := Aside0.mk (Array.getElem?_eq_some_iff.1 B3.out).1; have F3 := Aside0.mk ((HB5.out.block g3 lg3.out).trans B3.out); have HBV := Aside0.mk (HB3.out.trans (HB5.out.mono HB3.out.size)); have P0 : w5.cell? ⟨g3, 0, none⟩ = some (.int .i64 a0_0) := (blk_cell F3.out 0).trans rfl; have P1 : w5.cell? ⟨g3, 1, none⟩ = some (.int .i64 a0_1) := (blk_cell F3.out 1).trans rfl; have P2 : w5.cell? ⟨g3, 2, none⟩ = some (.slice A0_2 l0_2.length c0_2) := (blk_cell F3.out 2).trans rfl; have P3 : w5.cell? ⟨g3, 3, none⟩ = some (.slice A0_3 l0_3.length c0_3) := (blk_cell F3.out 3).trans rfl; have P4 : w5.cell? ⟨g3, 4, none⟩ = some (.slice A0_4 l0_4.length c0_4) := (blk_cell F3.out 4).trans rfl; have C50 : w5.cell? ⟨g5, 0, none⟩ = some (.int .i64 (22)) := (blk_cell B5.out 0).trans rfl; have C51 : w5.cell? ⟨g5, 1, none⟩ = some (.int .i64 a) := (blk_cell B5.out 1).trans rfl; have C52 : w5.cell? ⟨g5, 2, none⟩ = some (.int .i64 b) := (blk_cell B5.out 2).trans rfl))
  refine (rbelow_any a a0_1 _).mono ?_
  obtain ⟨rg, hrg⟩ : ∃ x, decide (0 ≤ a ∧ a < a0_1) = x := ⟨_, rfl⟩
  rw [hrg]
  rintro e w' ⟨rfl, ⟨n1, rfl⟩⟩
  have HRG := Aside0.mk hrg
  clear hrg
  go_wp2_with fail
  refine (rbelow_any b l0_4.length _).mono ?_
  obtain ⟨pl, hpl⟩ : ∃ x, decide (0 ≤ b ∧ b < (l0_4.length : Int)) = x := ⟨_, rfl⟩
  rw [hpl]
  rintro e w' ⟨rfl, ⟨n2, rfl⟩⟩
  have HPL := Aside0.mk hpl
  clear hpl
  cases rg with
  | false =>
    go_wp2_with fail
    go_ret
    exact ⟨by first | (rw [← HRES.out]; unfold insK; simp [HRG.out, HPL.out]; done) | (rw [← HRES.out]; unfold insK; rw [HRG.out, HPL.out]; simp), by repeat (first | exact HBV.out | apply pw_below_drewN | apply below_drew1)⟩
  | true =>
    go_wp2_with fail
    go_ret
    exact ⟨by first | (rw [← HRES.out]; unfold insK; simp [HRG.out, HPL.out]; done) | (rw [← HRES.out]; unfold insK; rw [HRG.out, HPL.out]; simp), by repeat (first | exact HBV.out | apply pw_below_drewN | apply below_drew1)⟩
set_option maxHeartbeats 8000000 in
set_option maxRecDepth 100000 in
theorem ins23 (a0_0 a0_1 : Int) (A0_2 : Option Addr) (c0_2 : Nat) (l0_2 : List (S48)) (A0_3 : Option Addr) (c0_3 : Nat) (l0_3 : List (S46)) (A0_4 : Option Addr) (c0_4 : Nat) (l0_4 : List (S33)) (a b protos : Int) (w : World) (hr0_3 : Kd.C k46 w A0_3 l0_3.length l0_3) :
    Calls Try.prog 45 #[.agg #[.int .i64 a0_0, .int .i64 a0_1, .slice A0_2 l0_2.length c0_2, .slice A0_3 l0_3.length c0_3, .slice A0_4 l0_4.length c0_4], .agg #[.int .i64 (23), .int .i64 a, .int .i64 b], .int .i64 protos] w fun e w' => e = .returned (.bool (insK 12 a0_1 l0_2.length l0_4.length l0_3 protos a b)) ∧ Below w.heap.size w w' := by
  generalize hres : insK 12 a0_1 l0_2.length l0_4.length l0_3 protos a b = res
  have HRES := Aside0.mk hres
  clear hres
  have HC := Aside0.mk hr0_3
  clear hr0_3
  have HB := Aside0.mk (Below.refl w.heap.size w)
  go_enter Try.func45, Try.ntmps45
  go_wp2_with (first | ((with_reducible refine gate_dst (N := 3) rfl ?_); refine box_event ?hg (N := 3) ?hd (cs := #[.int .i64 a0_0, .int .i64 a0_1, .slice A0_2 l0_2.length c0_2, .slice A0_3 l0_3.length c0_3, .slice A0_4 l0_4.length c0_4]) (t := 41) ?hr ?_; (case hd => rfl); (case hg => rfl); (case hr => first | (go_simp; done) | (go_simp; rfl)); intro g3 hg3 w3 hbox3 hb3; have G3 := Aside0.mk hg3; clear hg3; have B3 := Aside0.mk hbox3; clear hbox3; have HB3 := Aside0.mk hb3; clear hb3) | ((with_reducible refine gate_dst (N := 4) rfl ?_); refine box_event ?hg (N := 4) ?hd (cs := #[.int .i64 (23), .int .i64 a, .int .i64 b]) (t := 33) ?hr ?_; (case hd => rfl); (case hg => rfl); (case hr => first | (go_simp; done) | (go_simp; rfl)); intro g5 hg5 w5 hbox5 hb5; have G5 := Aside0.mk hg5; clear hg5; have HB5 := Aside0.mk (hb5); clear hb5; have B5 := Aside0.mk hbox5; clear hbox5; have lg3 := Aside0.mk (Array.getElem?_eq_some_iff.1 B3.out).1; have F3 := Aside0.mk ((HB5.out.block g3 lg3.out).trans B3.out); have HBV := Aside0.mk (HB3.out.trans (HB5.out.mono HB3.out.size)); have P0 : w5.cell? ⟨g3, 0, none⟩ = some (.int .i64 a0_0) := (blk_cell F3.out 0).trans rfl; have P1 : w5.cell? ⟨g3, 1, none⟩ = some (.int .i64 a0_1) := (blk_cell F3.out 1).trans rfl; have P2 : w5.cell? ⟨g3, 2, none⟩ = some (.slice A0_2 l0_2.length c0_2) := (blk_cell F3.out 2).trans rfl; have P3 : w5.cell? ⟨g3, 3, none⟩ = some (.slice A0_3 l0_3.length c0_3) := (blk_cell F3.out 3).trans rfl; have P4 : w5.cell? ⟨g3, 4, none⟩ = some (.slice A0_4 l0_4.length c0_4) := (blk_cell F3.out 4).trans rfl; have C50 : w5.cell? ⟨g5, 0, none⟩ = some (.int .i64 (23)) := (blk_cell B5.out 0).trans rfl; have C51 : w5.cell? ⟨g5, 1, none⟩ = some (.int .i64 a) := (blk_cell B5.out 1).trans rfl; have C52 : w5.cell? ⟨g5, 2, none⟩ = some (.int .i64 b) := (blk_cell B5.out 2).trans rfl))
  refine (rbelow_any a a0_1 _).mono ?_
  obtain ⟨rg, hrg⟩ : ∃ x, decide (0 ≤ a ∧ a < a0_1) = x := ⟨_, rfl⟩
  rw [hrg]
  rintro e w' ⟨rfl, ⟨n1, rfl⟩⟩
  have HRG := Aside0.mk hrg
  clear hrg
  go_wp2_with fail
  refine (rbelow_any b l0_4.length _).mono ?_
  obtain ⟨pl, hpl⟩ : ∃ x, decide (0 ≤ b ∧ b < (l0_4.length : Int)) = x := ⟨_, rfl⟩
  rw [hpl]
  rintro e w' ⟨rfl, ⟨n2, rfl⟩⟩
  have HPL := Aside0.mk hpl
  clear hpl
  cases rg with
  | false =>
    go_wp2_with fail
    go_ret
    exact ⟨by first | (rw [← HRES.out]; unfold insK; simp [HRG.out, HPL.out]; done) | (rw [← HRES.out]; unfold insK; rw [HRG.out, HPL.out]; simp), by repeat (first | exact HBV.out | apply pw_below_drewN | apply below_drew1)⟩
  | true =>
    go_wp2_with fail
    go_ret
    exact ⟨by first | (rw [← HRES.out]; unfold insK; simp [HRG.out, HPL.out]; done) | (rw [← HRES.out]; unfold insK; rw [HRG.out, HPL.out]; simp), by repeat (first | exact HBV.out | apply pw_below_drewN | apply below_drew1)⟩
set_option maxHeartbeats 8000000 in
set_option maxRecDepth 100000 in
theorem ins24 (a0_0 a0_1 : Int) (A0_2 : Option Addr) (c0_2 : Nat) (l0_2 : List (S48)) (A0_3 : Option Addr) (c0_3 : Nat) (l0_3 : List (S46)) (A0_4 : Option Addr) (c0_4 : Nat) (l0_4 : List (S33)) (a b protos : Int) (w : World) (hr0_3 : Kd.C k46 w A0_3 l0_3.length l0_3) :
    Calls Try.prog 45 #[.agg #[.int .i64 a0_0, .int .i64 a0_1, .slice A0_2 l0_2.length c0_2, .slice A0_3 l0_3.length c0_3, .slice A0_4 l0_4.length c0_4], .agg #[.int .i64 (24), .int .i64 a, .int .i64 b], .int .i64 protos] w fun e w' => e = .returned (.bool (insK 12 a0_1 l0_2.length l0_4.length l0_3 protos a b)) ∧ Below w.heap.size w w' := by
  generalize hres : insK 12 a0_1 l0_2.length l0_4.length l0_3 protos a b = res
  have HRES := Aside0.mk hres
  clear hres
  have HC := Aside0.mk hr0_3
  clear hr0_3
  have HB := Aside0.mk (Below.refl w.heap.size w)
  go_enter Try.func45, Try.ntmps45
  go_wp2_with (first | ((with_reducible refine gate_dst (N := 3) rfl ?_); refine box_event ?hg (N := 3) ?hd (cs := #[.int .i64 a0_0, .int .i64 a0_1, .slice A0_2 l0_2.length c0_2, .slice A0_3 l0_3.length c0_3, .slice A0_4 l0_4.length c0_4]) (t := 41) ?hr ?_; (case hd => rfl); (case hg => rfl); (case hr => first | (go_simp; done) | (go_simp; rfl)); intro g3 hg3 w3 hbox3 hb3; have G3 := Aside0.mk hg3; clear hg3; have B3 := Aside0.mk hbox3; clear hbox3; have HB3 := Aside0.mk hb3; clear hb3) | ((with_reducible refine gate_dst (N := 4) rfl ?_); refine box_event ?hg (N := 4) ?hd (cs := #[.int .i64 (24), .int .i64 a, .int .i64 b]) (t := 33) ?hr ?_; (case hd => rfl); (case hg => rfl); (case hr => first | (go_simp; done) | (go_simp; rfl)); intro g5 hg5 w5 hbox5 hb5; have G5 := Aside0.mk hg5; clear hg5; have HB5 := Aside0.mk (hb5); clear hb5; have B5 := Aside0.mk hbox5; clear hbox5; have lg3 := Aside0.mk (Array.getElem?_eq_some_iff.1 B3.out).1; have F3 := Aside0.mk ((HB5.out.block g3 lg3.out).trans B3.out); have HBV := Aside0.mk (HB3.out.trans (HB5.out.mono HB3.out.size)); have P0 : w5.cell? ⟨g3, 0, none⟩ = some (.int .i64 a0_0) := (blk_cell F3.out 0).trans rfl; have P1 : w5.cell? ⟨g3, 1, none⟩ = some (.int .i64 a0_1) := (blk_cell F3.out 1).trans rfl; have P2 : w5.cell? ⟨g3, 2, none⟩ = some (.slice A0_2 l0_2.length c0_2) := (blk_cell F3.out 2).trans rfl; have P3 : w5.cell? ⟨g3, 3, none⟩ = some (.slice A0_3 l0_3.length c0_3) := (blk_cell F3.out 3).trans rfl; have P4 : w5.cell? ⟨g3, 4, none⟩ = some (.slice A0_4 l0_4.length c0_4) := (blk_cell F3.out 4).trans rfl; have C50 : w5.cell? ⟨g5, 0, none⟩ = some (.int .i64 (24)) := (blk_cell B5.out 0).trans rfl; have C51 : w5.cell? ⟨g5, 1, none⟩ = some (.int .i64 a) := (blk_cell B5.out 1).trans rfl; have C52 : w5.cell? ⟨g5, 2, none⟩ = some (.int .i64 b) := (blk_cell B5.out 2).trans rfl))
  refine (rbelow_any a a0_1 _).mono ?_
  obtain ⟨rg, hrg⟩ : ∃ x, decide (0 ≤ a ∧ a < a0_1) = x := ⟨_, rfl⟩
  rw [hrg]
  rintro e w' ⟨rfl, ⟨n1, rfl⟩⟩
  have HRG := Aside0.mk hrg
  clear hrg
  go_wp2_with fail
  refine (rbelow_any b l0_4.length _).mono ?_
  obtain ⟨pl, hpl⟩ : ∃ x, decide (0 ≤ b ∧ b < (l0_4.length : Int)) = x := ⟨_, rfl⟩
  rw [hpl]
  rintro e w' ⟨rfl, ⟨n2, rfl⟩⟩
  have HPL := Aside0.mk hpl
  clear hpl
  cases rg with
  | false =>
    go_wp2_with fail
    go_ret
    exact ⟨by first | (rw [← HRES.out]; unfold insK; simp [HRG.out, HPL.out]; done) | (rw [← HRES.out]; unfold insK; rw [HRG.out, HPL.out]; simp), by repeat (first | exact HBV.out | apply pw_below_drewN | apply below_drew1)⟩
  | true =>
    go_wp2_with fail
    go_ret
    exact ⟨by first | (rw [← HRES.out]; unfold insK; simp [HRG.out, HPL.out]; done) | (rw [← HRES.out]; unfold insK; rw [HRG.out, HPL.out]; simp), by repeat (first | exact HBV.out | apply pw_below_drewN | apply below_drew1)⟩
set_option maxHeartbeats 8000000 in
set_option maxRecDepth 100000 in
theorem ins25 (a0_0 a0_1 : Int) (A0_2 : Option Addr) (c0_2 : Nat) (l0_2 : List (S48)) (A0_3 : Option Addr) (c0_3 : Nat) (l0_3 : List (S46)) (A0_4 : Option Addr) (c0_4 : Nat) (l0_4 : List (S33)) (a b protos : Int) (w : World) (hr0_3 : Kd.C k46 w A0_3 l0_3.length l0_3) :
    Calls Try.prog 45 #[.agg #[.int .i64 a0_0, .int .i64 a0_1, .slice A0_2 l0_2.length c0_2, .slice A0_3 l0_3.length c0_3, .slice A0_4 l0_4.length c0_4], .agg #[.int .i64 (25), .int .i64 a, .int .i64 b], .int .i64 protos] w fun e w' => e = .returned (.bool (insK 7 a0_1 l0_2.length l0_4.length l0_3 protos a b)) ∧ Below w.heap.size w w' := by
  generalize hres : insK 7 a0_1 l0_2.length l0_4.length l0_3 protos a b = res
  have HRES := Aside0.mk hres
  clear hres
  have HC := Aside0.mk hr0_3
  clear hr0_3
  have HB := Aside0.mk (Below.refl w.heap.size w)
  go_enter Try.func45, Try.ntmps45
  go_wp2_with (first | ((with_reducible refine gate_dst (N := 3) rfl ?_); refine box_event ?hg (N := 3) ?hd (cs := #[.int .i64 a0_0, .int .i64 a0_1, .slice A0_2 l0_2.length c0_2, .slice A0_3 l0_3.length c0_3, .slice A0_4 l0_4.length c0_4]) (t := 41) ?hr ?_; (case hd => rfl); (case hg => rfl); (case hr => first | (go_simp; done) | (go_simp; rfl)); intro g3 hg3 w3 hbox3 hb3; have G3 := Aside0.mk hg3; clear hg3; have B3 := Aside0.mk hbox3; clear hbox3; have HB3 := Aside0.mk hb3; clear hb3) | ((with_reducible refine gate_dst (N := 4) rfl ?_); refine box_event ?hg (N := 4) ?hd (cs := #[.int .i64 (25), .int .i64 a, .int .i64 b]) (t := 33) ?hr ?_; (case hd => rfl); (case hg => rfl); (case hr => first | (go_simp; done) | (go_simp; rfl)); intro g5 hg5 w5 hbox5 hb5; have G5 := Aside0.mk hg5; clear hg5; have HB5 := Aside0.mk (hb5); clear hb5; have B5 := Aside0.mk hbox5; clear hbox5; have lg3 := Aside0.mk (Array.getElem?_eq_some_iff.1 B3.out).1; have F3 := Aside0.mk ((HB5.out.block g3 lg3.out).trans B3.out); have HBV := Aside0.mk (HB3.out.trans (HB5.out.mono HB3.out.size)); have P0 : w5.cell? ⟨g3, 0, none⟩ = some (.int .i64 a0_0) := (blk_cell F3.out 0).trans rfl; have P1 : w5.cell? ⟨g3, 1, none⟩ = some (.int .i64 a0_1) := (blk_cell F3.out 1).trans rfl; have P2 : w5.cell? ⟨g3, 2, none⟩ = some (.slice A0_2 l0_2.length c0_2) := (blk_cell F3.out 2).trans rfl; have P3 : w5.cell? ⟨g3, 3, none⟩ = some (.slice A0_3 l0_3.length c0_3) := (blk_cell F3.out 3).trans rfl; have P4 : w5.cell? ⟨g3, 4, none⟩ = some (.slice A0_4 l0_4.length c0_4) := (blk_cell F3.out 4).trans rfl; have C50 : w5.cell? ⟨g5, 0, none⟩ = some (.int .i64 (25)) := (blk_cell B5.out 0).trans rfl; have C51 : w5.cell? ⟨g5, 1, none⟩ = some (.int .i64 a) := (blk_cell B5.out 1).trans rfl; have C52 : w5.cell? ⟨g5, 2, none⟩ = some (.int .i64 b) := (blk_cell B5.out 2).trans rfl))
  refine (rbelow_any a a0_1 _).mono ?_
  obtain ⟨rg, hrg⟩ : ∃ x, decide (0 ≤ a ∧ a < a0_1) = x := ⟨_, rfl⟩
  rw [hrg]
  rintro e w' ⟨rfl, ⟨n1, rfl⟩⟩
  have HRG := Aside0.mk hrg
  clear hrg
  go_wp2_with fail
  refine (rbelow_any b l0_4.length _).mono ?_
  obtain ⟨pl, hpl⟩ : ∃ x, decide (0 ≤ b ∧ b < (l0_4.length : Int)) = x := ⟨_, rfl⟩
  rw [hpl]
  rintro e w' ⟨rfl, ⟨n2, rfl⟩⟩
  have HPL := Aside0.mk hpl
  clear hpl
  obtain ⟨m, hm⟩ : ∃ x, wrap64 (a0_1 - 1) = x := ⟨_, rfl⟩
  have hm1 : IntKind.i64.wrap (a0_1 - 1) = m := (i64_w _).trans hm
  have HM := Aside0.mk hm
  clear hm
  go_wp2_with fail
  refine (rbelow_any a m _).mono ?_
  obtain ⟨tb, htb⟩ : ∃ x, decide (0 ≤ a ∧ a < m) = x := ⟨_, rfl⟩
  rw [htb]
  rintro e w' ⟨rfl, ⟨n3, rfl⟩⟩
  have Htb := Aside0.mk htb
  clear htb
  clear hm1
  cases tb with
  | false =>
    go_wp2_with fail
    go_ret
    exact ⟨by first | (rw [← HRES.out]; unfold insK; simp [HRG.out, HPL.out, HM.out, Htb.out]; done) | (rw [← HRES.out]; unfold insK; rw [HRG.out, HPL.out]; simp [HM.out, Htb.out]), by repeat (first | exact HBV.out | apply pw_below_drewN | apply below_drew1)⟩
  | true =>
    by_cases h0 : 0 ≤ b
    · have b0 : decide (0 ≤ b) = true := decide_eq_true h0
      go_wp2_with fail
      go_ret
      exact ⟨by first | (rw [← HRES.out]; unfold insK; simp [HRG.out, HPL.out, h0, b0, HM.out, Htb.out]; done) | (rw [← HRES.out]; unfold insK; rw [HRG.out, HPL.out]; simp [h0, b0, HM.out, Htb.out]), by repeat (first | exact HBV.out | apply pw_below_drewN | apply below_drew1)⟩
    · have b0 : decide (0 ≤ b) = false := decide_eq_false h0
      go_wp2_with fail
      go_ret
      exact ⟨by first | (rw [← HRES.out]; unfold insK; simp [HRG.out, HPL.out, h0, b0, HM.out, Htb.out]; done) | (rw [← HRES.out]; unfold insK; rw [HRG.out, HPL.out]; simp [h0, b0, HM.out, Htb.out]), by repeat (first | exact HBV.out | apply pw_below_drewN | apply below_drew1)⟩
set_option maxHeartbeats 8000000 in
set_option maxRecDepth 100000 in
theorem ins26 (a0_0 a0_1 : Int) (A0_2 : Option Addr) (c0_2 : Nat) (l0_2 : List (S48)) (A0_3 : Option Addr) (c0_3 : Nat) (l0_3 : List (S46)) (A0_4 : Option Addr) (c0_4 : Nat) (l0_4 : List (S33)) (a b protos : Int) (w : World) (hr0_3 : Kd.C k46 w A0_3 l0_3.length l0_3) :
    Calls Try.prog 45 #[.agg #[.int .i64 a0_0, .int .i64 a0_1, .slice A0_2 l0_2.length c0_2, .slice A0_3 l0_3.length c0_3, .slice A0_4 l0_4.length c0_4], .agg #[.int .i64 (26), .int .i64 a, .int .i64 b], .int .i64 protos] w fun e w' => e = .returned (.bool (insK 6 a0_1 l0_2.length l0_4.length l0_3 protos a b)) ∧ Below w.heap.size w w' := by
  generalize hres : insK 6 a0_1 l0_2.length l0_4.length l0_3 protos a b = res
  have HRES := Aside0.mk hres
  clear hres
  have HC := Aside0.mk hr0_3
  clear hr0_3
  have HB := Aside0.mk (Below.refl w.heap.size w)
  go_enter Try.func45, Try.ntmps45
  go_wp2_with (first | ((with_reducible refine gate_dst (N := 3) rfl ?_); refine box_event ?hg (N := 3) ?hd (cs := #[.int .i64 a0_0, .int .i64 a0_1, .slice A0_2 l0_2.length c0_2, .slice A0_3 l0_3.length c0_3, .slice A0_4 l0_4.length c0_4]) (t := 41) ?hr ?_; (case hd => rfl); (case hg => rfl); (case hr => first | (go_simp; done) | (go_simp; rfl)); intro g3 hg3 w3 hbox3 hb3; have G3 := Aside0.mk hg3; clear hg3; have B3 := Aside0.mk hbox3; clear hbox3; have HB3 := Aside0.mk hb3; clear hb3) | ((with_reducible refine gate_dst (N := 4) rfl ?_); refine box_event ?hg (N := 4) ?hd (cs := #[.int .i64 (26), .int .i64 a, .int .i64 b]) (t := 33) ?hr ?_; (case hd => rfl); (case hg => rfl); (case hr => first | (go_simp; done) | (go_simp; rfl)); intro g5 hg5 w5 hbox5 hb5; have G5 := Aside0.mk hg5; clear hg5; have HB5 := Aside0.mk (hb5); clear hb5; have B5 := Aside0.mk hbox5; clear hbox5; have lg3 := Aside0.mk (Array.getElem?_eq_some_iff.1 B3.out).1; have F3 := Aside0.mk ((HB5.out.block g3 lg3.out).trans B3.out); have HBV := Aside0.mk (HB3.out.trans (HB5.out.mono HB3.out.size)); have P0 : w5.cell? ⟨g3, 0, none⟩ = some (.int .i64 a0_0) := (blk_cell F3.out 0).trans rfl; have P1 : w5.cell? ⟨g3, 1, none⟩ = some (.int .i64 a0_1) := (blk_cell F3.out 1).trans rfl; have P2 : w5.cell? ⟨g3, 2, none⟩ = some (.slice A0_2 l0_2.length c0_2) := (blk_cell F3.out 2).trans rfl; have P3 : w5.cell? ⟨g3, 3, none⟩ = some (.slice A0_3 l0_3.length c0_3) := (blk_cell F3.out 3).trans rfl; have P4 : w5.cell? ⟨g3, 4, none⟩ = some (.slice A0_4 l0_4.length c0_4) := (blk_cell F3.out 4).trans rfl; have C50 : w5.cell? ⟨g5, 0, none⟩ = some (.int .i64 (26)) := (blk_cell B5.out 0).trans rfl; have C51 : w5.cell? ⟨g5, 1, none⟩ = some (.int .i64 a) := (blk_cell B5.out 1).trans rfl; have C52 : w5.cell? ⟨g5, 2, none⟩ = some (.int .i64 b) := (blk_cell B5.out 2).trans rfl))
  refine (rbelow_any a a0_1 _).mono ?_
  obtain ⟨rg, hrg⟩ : ∃ x, decide (0 ≤ a ∧ a < a0_1) = x := ⟨_, rfl⟩
  rw [hrg]
  rintro e w' ⟨rfl, ⟨n1, rfl⟩⟩
  have HRG := Aside0.mk hrg
  clear hrg
  go_wp2_with fail
  refine (rbelow_any b l0_4.length _).mono ?_
  obtain ⟨pl, hpl⟩ : ∃ x, decide (0 ≤ b ∧ b < (l0_4.length : Int)) = x := ⟨_, rfl⟩
  rw [hpl]
  rintro e w' ⟨rfl, ⟨n2, rfl⟩⟩
  have HPL := Aside0.mk hpl
  clear hpl
  obtain ⟨m, hm⟩ : ∃ x, wrap64 (a0_1 - 1) = x := ⟨_, rfl⟩
  have hm1 : IntKind.i64.wrap (a0_1 - 1) = m := (i64_w _).trans hm
  have HM := Aside0.mk hm
  clear hm
  go_wp2_with fail
  refine (rbelow_any a m _).mono ?_
  obtain ⟨tb, htb⟩ : ∃ x, decide (0 ≤ a ∧ a < m) = x := ⟨_, rfl⟩
  rw [htb]
  rintro e w' ⟨rfl, ⟨n3, rfl⟩⟩
  have Htb := Aside0.mk htb
  clear htb
  clear hm1
  cases tb with
  | false =>
    go_wp2_with fail
    go_ret
    exact ⟨by first | (rw [← HRES.out]; unfold insK; simp [HRG.out, HPL.out, HM.out, Htb.out]; done) | (rw [← HRES.out]; unfold insK; rw [HRG.out, HPL.out]; simp [HM.out, Htb.out]), by repeat (first | exact HBV.out | apply pw_below_drewN | apply below_drew1)⟩
  | true =>
    go_wp2_with fail
    go_ret
    exact ⟨by first | (rw [← HRES.out]; unfold insK; simp [HRG.out, HPL.out, HM.out, Htb.out]; done) | (rw [← HRES.out]; unfold insK; rw [HRG.out, HPL.out]; simp [HM.out, Htb.out]), by repeat (first | exact HBV.out | apply pw_below_drewN | apply below_drew1)⟩
set_option maxHeartbeats 8000000 in
set_option maxRecDepth 100000 in
theorem ins27 (a0_0 a0_1 : Int) (A0_2 : Option Addr) (c0_2 : Nat) (l0_2 : List (S48)) (A0_3 : Option Addr) (c0_3 : Nat) (l0_3 : List (S46)) (A0_4 : Option Addr) (c0_4 : Nat) (l0_4 : List (S33)) (a b protos : Int) (w : World) (hr0_3 : Kd.C k46 w A0_3 l0_3.length l0_3) :
    Calls Try.prog 45 #[.agg #[.int .i64 a0_0, .int .i64 a0_1, .slice A0_2 l0_2.length c0_2, .slice A0_3 l0_3.length c0_3, .slice A0_4 l0_4.length c0_4], .agg #[.int .i64 (27), .int .i64 a, .int .i64 b], .int .i64 protos] w fun e w' => e = .returned (.bool (insK 6 a0_1 l0_2.length l0_4.length l0_3 protos a b)) ∧ Below w.heap.size w w' := by
  generalize hres : insK 6 a0_1 l0_2.length l0_4.length l0_3 protos a b = res
  have HRES := Aside0.mk hres
  clear hres
  have HC := Aside0.mk hr0_3
  clear hr0_3
  have HB := Aside0.mk (Below.refl w.heap.size w)
  go_enter Try.func45, Try.ntmps45
  go_wp2_with (first | ((with_reducible refine gate_dst (N := 3) rfl ?_); refine box_event ?hg (N := 3) ?hd (cs := #[.int .i64 a0_0, .int .i64 a0_1, .slice A0_2 l0_2.length c0_2, .slice A0_3 l0_3.length c0_3, .slice A0_4 l0_4.length c0_4]) (t := 41) ?hr ?_; (case hd => rfl); (case hg => rfl); (case hr => first | (go_simp; done) | (go_simp; rfl)); intro g3 hg3 w3 hbox3 hb3; have G3 := Aside0.mk hg3; clear hg3; have B3 := Aside0.mk hbox3; clear hbox3; have HB3 := Aside0.mk hb3; clear hb3) | ((with_reducible refine gate_dst (N := 4) rfl ?_); refine box_event ?hg (N := 4) ?hd (cs := #[.int .i64 (27), .int .i64 a, .int .i64 b]) (t := 33) ?hr ?_; (case hd => rfl); (case hg => rfl); (case hr => first | (go_simp; done) | (go_simp; rfl)); intro g5 hg5 w5 hbox5 hb5; have G5 := Aside0.mk hg5; clear hg5; have HB5 := Aside0.mk (hb5); clear hb5; have B5 := Aside0.mk hbox5; clear hbox5; have lg3 := Aside0.mk (Array.getElem?_eq_some_iff.1 B3.out).1; have F3 := Aside0.mk ((HB5.out.block g3 lg3.out).trans B3.out); have HBV := Aside0.mk (HB3.out.trans (HB5.out.mono HB3.out.size)); have P0 : w5.cell? ⟨g3, 0, none⟩ = some (.int .i64 a0_0) := (blk_cell F3.out 0).trans rfl; have P1 : w5.cell? ⟨g3, 1, none⟩ = some (.int .i64 a0_1) := (blk_cell F3.out 1).trans rfl; have P2 : w5.cell? ⟨g3, 2, none⟩ = some (.slice A0_2 l0_2.length c0_2) := (blk_cell F3.out 2).trans rfl; have P3 : w5.cell? ⟨g3, 3, none⟩ = some (.slice A0_3 l0_3.length c0_3) := (blk_cell F3.out 3).trans rfl; have P4 : w5.cell? ⟨g3, 4, none⟩ = some (.slice A0_4 l0_4.length c0_4) := (blk_cell F3.out 4).trans rfl; have C50 : w5.cell? ⟨g5, 0, none⟩ = some (.int .i64 (27)) := (blk_cell B5.out 0).trans rfl; have C51 : w5.cell? ⟨g5, 1, none⟩ = some (.int .i64 a) := (blk_cell B5.out 1).trans rfl; have C52 : w5.cell? ⟨g5, 2, none⟩ = some (.int .i64 b) := (blk_cell B5.out 2).trans rfl))
  refine (rbelow_any a a0_1 _).mono ?_
  obtain ⟨rg, hrg⟩ : ∃ x, decide (0 ≤ a ∧ a < a0_1) = x := ⟨_, rfl⟩
  rw [hrg]
  rintro e w' ⟨rfl, ⟨n1, rfl⟩⟩
  have HRG := Aside0.mk hrg
  clear hrg
  go_wp2_with fail
  refine (rbelow_any b l0_4.length _).mono ?_
  obtain ⟨pl, hpl⟩ : ∃ x, decide (0 ≤ b ∧ b < (l0_4.length : Int)) = x := ⟨_, rfl⟩
  rw [hpl]
  rintro e w' ⟨rfl, ⟨n2, rfl⟩⟩
  have HPL := Aside0.mk hpl
  clear hpl
  obtain ⟨m, hm⟩ : ∃ x, wrap64 (a0_1 - 1) = x := ⟨_, rfl⟩
  have hm1 : IntKind.i64.wrap (a0_1 - 1) = m := (i64_w _).trans hm
  have HM := Aside0.mk hm
  clear hm
  go_wp2_with fail
  refine (rbelow_any a m _).mono ?_
  obtain ⟨tb, htb⟩ : ∃ x, decide (0 ≤ a ∧ a < m) = x := ⟨_, rfl⟩
  rw [htb]
  rintro e w' ⟨rfl, ⟨n3, rfl⟩⟩
  have Htb := Aside0.mk htb
  clear htb
  clear hm1
  cases tb with
  | false =>
    go_wp2_with fail
    go_ret
    exact ⟨by first | (rw [← HRES.out]; unfold insK; simp [HRG.out, HPL.out, HM.out, Htb.out]; done) | (rw [← HRES.out]; unfold insK; rw [HRG.out, HPL.out]; simp [HM.out, Htb.out]), by repeat (first | exact HBV.out | apply pw_below_drewN | apply below_drew1)⟩
  | true =>
    go_wp2_with fail
    go_ret
    exact ⟨by first | (rw [← HRES.out]; unfold insK; simp [HRG.out, HPL.out, HM.out, Htb.out]; done) | (rw [← HRES.out]; unfold insK; rw [HRG.out, HPL.out]; simp [HM.out, Htb.out]), by repeat (first | exact HBV.out | apply pw_below_drewN | apply below_drew1)⟩
set_option maxHeartbeats 8000000 in
set_option maxRecDepth 100000 in
theorem ins28 (a0_0 a0_1 : Int) (A0_2 : Option Addr) (c0_2 : Nat) (l0_2 : List (S48)) (A0_3 : Option Addr) (c0_3 : Nat) (l0_3 : List (S46)) (A0_4 : Option Addr) (c0_4 : Nat) (l0_4 : List (S33)) (a b protos : Int) (w : World) (hr0_3 : Kd.C k46 w A0_3 l0_3.length l0_3) :
    Calls Try.prog 45 #[.agg #[.int .i64 a0_0, .int .i64 a0_1, .slice A0_2 l0_2.length c0_2, .slice A0_3 l0_3.length c0_3, .slice A0_4 l0_4.length c0_4], .agg #[.int .i64 (28), .int .i64 a, .int .i64 b], .int .i64 protos] w fun e w' => e = .returned (.bool (insK 6 a0_1 l0_2.length l0_4.length l0_3 protos a b)) ∧ Below w.heap.size w w' := by
  generalize hres : insK 6 a0_1 l0_2.length l0_4.length l0_3 protos a b = res
  have HRES := Aside0.mk hres
  clear hres
  have HC := Aside0.mk hr0_3
  clear hr0_3
  have HB := Aside0.mk (Below.refl w.heap.size w)
  go_enter Try.func45, Try.ntmps45
  go_wp2_with (first | ((with_reducible refine gate_dst (N := 3) rfl ?_); refine box_event ?hg (N := 3) ?hd (cs := #[.int .i64 a0_0, .int .i64 a0_1, .slice A0_2 l0_2.length c0_2, .slice A0_3 l0_3.length c0_3, .slice A0_4 l0_4.length c0_4]) (t := 41) ?hr ?_; (case hd => rfl); (case hg => rfl); (case hr => first | (go_simp; done) | (go_simp; rfl)); intro g3 hg3 w3 hbox3 hb3; have G3 := Aside0.mk hg3; clear hg3; have B3 := Aside0.mk hbox3; clear hbox3; have HB3 := Aside0.mk hb3; clear hb3) | ((with_reducible refine gate_dst (N := 4) rfl ?_); refine box_event ?hg (N := 4) ?hd (cs := #[.int .i64 (28), .int .i64 a, .int .i64 b]) (t := 33) ?hr ?_; (case hd => rfl); (case hg => rfl); (case hr => first | (go_simp; done) | (go_simp; rfl)); intro g5 hg5 w5 hbox5 hb5; have G5 := Aside0.mk hg5; clear hg5; have HB5 := Aside0.mk (hb5); clear hb5; have B5 := Aside0.mk hbox5; clear hbox5; have lg3 := Aside0.mk (Array.getElem?_eq_some_iff.1 B3.out).1; have F3 := Aside0.mk ((HB5.out.block g3 lg3.out).trans B3.out); have HBV := Aside0.mk (HB3.out.trans (HB5.out.mono HB3.out.size)); have P0 : w5.cell? ⟨g3, 0, none⟩ = some (.int .i64 a0_0) := (blk_cell F3.out 0).trans rfl; have P1 : w5.cell? ⟨g3, 1, none⟩ = some (.int .i64 a0_1) := (blk_cell F3.out 1).trans rfl; have P2 : w5.cell? ⟨g3, 2, none⟩ = some (.slice A0_2 l0_2.length c0_2) := (blk_cell F3.out 2).trans rfl; have P3 : w5.cell? ⟨g3, 3, none⟩ = some (.slice A0_3 l0_3.length c0_3) := (blk_cell F3.out 3).trans rfl; have P4 : w5.cell? ⟨g3, 4, none⟩ = some (.slice A0_4 l0_4.length c0_4) := (blk_cell F3.out 4).trans rfl; have C50 : w5.cell? ⟨g5, 0, none⟩ = some (.int .i64 (28)) := (blk_cell B5.out 0).trans rfl; have C51 : w5.cell? ⟨g5, 1, none⟩ = some (.int .i64 a) := (blk_cell B5.out 1).trans rfl; have C52 : w5.cell? ⟨g5, 2, none⟩ = some (.int .i64 b) := (blk_cell B5.out 2).trans rfl))
  refine (rbelow_any a a0_1 _).mono ?_
  obtain ⟨rg, hrg⟩ : ∃ x, decide (0 ≤ a ∧ a < a0_1) = x := ⟨_, rfl⟩
  rw [hrg]
  rintro e w' ⟨rfl, ⟨n1, rfl⟩⟩
  have HRG := Aside0.mk hrg
  clear hrg
  go_wp2_with fail
  refine (rbelow_any b l0_4.length _).mono ?_
  obtain ⟨pl, hpl⟩ : ∃ x, decide (0 ≤ b ∧ b < (l0_4.length : Int)) = x := ⟨_, rfl⟩
  rw [hpl]
  rintro e w' ⟨rfl, ⟨n2, rfl⟩⟩
  have HPL := Aside0.mk hpl
  clear hpl
  obtain ⟨m, hm⟩ : ∃ x, wrap64 (a0_1 - 1) = x := ⟨_, rfl⟩
  have hm1 : IntKind.i64.wrap (a0_1 - 1) = m := (i64_w _).trans hm
  have HM := Aside0.mk hm
  clear hm
  go_wp2_with fail
  refine (rbelow_any a m _).mono ?_
  obtain ⟨tb, htb⟩ : ∃ x, decide (0 ≤ a ∧ a < m) = x := ⟨_, rfl⟩
  rw [htb]
  rintro e w' ⟨rfl, ⟨n3, rfl⟩⟩
  have Htb := Aside0.mk htb
  clear htb
  clear hm1
  cases tb with
  | false =>
    go_wp2_with fail
    go_ret
    exact ⟨by first | (rw [← HRES.out]; unfold insK; simp [HRG.out, HPL.out, HM.out, Htb.out]; done) | (rw [← HRES.out]; unfold insK; rw [HRG.out, HPL.out]; simp [HM.out, Htb.out]), by repeat (first | exact HBV.out | apply pw_below_drewN | apply below_drew1)⟩
  | true =>
    go_wp2_with fail
    go_ret
    exact ⟨by first | (rw [← HRES.out]; unfold insK; simp [HRG.out, HPL.out, HM.out, Htb.out]; done) | (rw [← HRES.out]; unfold insK; rw [HRG.out, HPL.out]; simp [HM.out, Htb.out]), by repeat (first | exact HBV.out | apply pw_below_drewN | apply below_drew1)⟩
set_option maxHeartbeats 8000000 in
set_option maxRecDepth 100000 in
theorem ins29 (a0_0 a0_1 : Int) (A0_2 : Option Addr) (c0_2 : Nat) (l0_2 : List (S48)) (A0_3 : Option Addr) (c0_3 : Nat) (l0_3 : List (S46)) (A0_4 : Option Addr) (c0_4 : Nat) (l0_4 : List (S33)) (a b protos : Int) (w : World) (hr0_3 : Kd.C k46 w A0_3 l0_3.length l0_3) :
    Calls Try.prog 45 #[.agg #[.int .i64 a0_0, .int .i64 a0_1, .slice A0_2 l0_2.length c0_2, .slice A0_3 l0_3.length c0_3, .slice A0_4 l0_4.length c0_4], .agg #[.int .i64 (29), .int .i64 a, .int .i64 b], .int .i64 protos] w fun e w' => e = .returned (.bool (insK 6 a0_1 l0_2.length l0_4.length l0_3 protos a b)) ∧ Below w.heap.size w w' := by
  generalize hres : insK 6 a0_1 l0_2.length l0_4.length l0_3 protos a b = res
  have HRES := Aside0.mk hres
  clear hres
  have HC := Aside0.mk hr0_3
  clear hr0_3
  have HB := Aside0.mk (Below.refl w.heap.size w)
  go_enter Try.func45, Try.ntmps45
  go_wp2_with (first | ((with_reducible refine gate_dst (N := 3) rfl ?_); refine box_event ?hg (N := 3) ?hd (cs := #[.int .i64 a0_0, .int .i64 a0_1, .slice A0_2 l0_2.length c0_2, .slice A0_3 l0_3.length c0_3, .slice A0_4 l0_4.length c0_4]) (t := 41) ?hr ?_; (case hd => rfl); (case hg => rfl); (case hr => first | (go_simp; done) | (go_simp; rfl)); intro g3 hg3 w3 hbox3 hb3; have G3 := Aside0.mk hg3; clear hg3; have B3 := Aside0.mk hbox3; clear hbox3; have HB3 := Aside0.mk hb3; clear hb3) | ((with_reducible refine gate_dst (N := 4) rfl ?_); refine box_event ?hg (N := 4) ?hd (cs := #[.int .i64 (29), .int .i64 a, .int .i64 b]) (t := 33) ?hr ?_; (case hd => rfl); (case hg => rfl); (case hr => first | (go_simp; done) | (go_simp; rfl)); intro g5 hg5 w5 hbox5 hb5; have G5 := Aside0.mk hg5; clear hg5; have HB5 := Aside0.mk (hb5); clear hb5; have B5 := Aside0.mk hbox5; clear hbox5; have lg3 := Aside0.mk (Array.getElem?_eq_some_iff.1 B3.out).1; have F3 := Aside0.mk ((HB5.out.block g3 lg3.out).trans B3.out); have HBV := Aside0.mk (HB3.out.trans (HB5.out.mono HB3.out.size)); have P0 : w5.cell? ⟨g3, 0, none⟩ = some (.int .i64 a0_0) := (blk_cell F3.out 0).trans rfl; have P1 : w5.cell? ⟨g3, 1, none⟩ = some (.int .i64 a0_1) := (blk_cell F3.out 1).trans rfl; have P2 : w5.cell? ⟨g3, 2, none⟩ = some (.slice A0_2 l0_2.length c0_2) := (blk_cell F3.out 2).trans rfl; have P3 : w5.cell? ⟨g3, 3, none⟩ = some (.slice A0_3 l0_3.length c0_3) := (blk_cell F3.out 3).trans rfl; have P4 : w5.cell? ⟨g3, 4, none⟩ = some (.slice A0_4 l0_4.length c0_4) := (blk_cell F3.out 4).trans rfl; have C50 : w5.cell? ⟨g5, 0, none⟩ = some (.int .i64 (29)) := (blk_cell B5.out 0).trans rfl; have C51 : w5.cell? ⟨g5, 1, none⟩ = some (.int .i64 a) := (blk_cell B5.out 1).trans rfl; have C52 : w5.cell? ⟨g5, 2, none⟩ = some (.int .i64 b) := (blk_cell B5.out 2).trans rfl))
  refine (rbelow_any a a0_1 _).mono ?_
  obtain ⟨rg, hrg⟩ : ∃ x, decide (0 ≤ a ∧ a < a0_1) = x := ⟨_, rfl⟩
  rw [hrg]
  rintro e w' ⟨rfl, ⟨n1, rfl⟩⟩
  have HRG := Aside0.mk hrg
  clear hrg
  go_wp2_with fail
  refine (rbelow_any b l0_4.length _).mono ?_
  obtain ⟨pl, hpl⟩ : ∃ x, decide (0 ≤ b ∧ b < (l0_4.length : Int)) = x := ⟨_, rfl⟩
  rw [hpl]
  rintro e w' ⟨rfl, ⟨n2, rfl⟩⟩
  have HPL := Aside0.mk hpl
  clear hpl
  obtain ⟨m, hm⟩ : ∃ x, wrap64 (a0_1 - 1) = x := ⟨_, rfl⟩
  have hm1 : IntKind.i64.wrap (a0_1 - 1) = m := (i64_w _).trans hm
  have HM := Aside0.mk hm
  clear hm
  go_wp2_with fail
  refine (rbelow_any a m _).mono ?_
  obtain ⟨tb, htb⟩ : ∃ x, decide (0 ≤ a ∧ a < m) = x := ⟨_, rfl⟩
  rw [htb]
  rintro e w' ⟨rfl, ⟨n3, rfl⟩⟩
  have Htb := Aside0.mk htb
  clear htb
  clear hm1
  cases tb with
  | false =>
    go_wp2_with fail
    go_ret
    exact ⟨by first | (rw [← HRES.out]; unfold insK; simp [HRG.out, HPL.out, HM.out, Htb.out]; done) | (rw [← HRES.out]; unfold insK; rw [HRG.out, HPL.out]; simp [HM.out, Htb.out]), by repeat (first | exact HBV.out | apply pw_below_drewN | apply below_drew1)⟩
  | true =>
    go_wp2_with fail
    go_ret
    exact ⟨by first | (rw [← HRES.out]; unfold insK; simp [HRG.out, HPL.out, HM.out, Htb.out]; done) | (rw [← HRES.out]; unfold insK; rw [HRG.out, HPL.out]; simp [HM.out, Htb.out]), by repeat (first | exact HBV.out | apply pw_below_drewN | apply below_drew1)⟩
set_option maxHeartbeats 8000000 in
set_option maxRecDepth 100000 in
theorem ins30 (a0_0 a0_1 : Int) (A0_2 : Option Addr) (c0_2 : Nat) (l0_2 : List (S48)) (A0_3 : Option Addr) (c0_3 : Nat) (l0_3 : List (S46)) (A0_4 : Option Addr) (c0_4 : Nat) (l0_4 : List (S33)) (a b protos : Int) (w : World) (hr0_3 : Kd.C k46 w A0_3 l0_3.length l0_3) :
    Calls Try.prog 45 #[.agg #[.int .i64 a0_0, .int .i64 a0_1, .slice A0_2 l0_2.length c0_2, .slice A0_3 l0_3.length c0_3, .slice A0_4 l0_4.length c0_4], .agg #[.int .i64 (30), .int .i64 a, .int .i64 b], .int .i64 protos] w fun e w' => e = .returned (.bool (insK 0 a0_1 l0_2.length l0_4.length l0_3 protos a b)) ∧ Below w.heap.size w w' := by
  generalize hres : insK 0 a0_1 l0_2.length l0_4.length l0_3 protos a b = res
  have HRES := Aside0.mk hres
  clear hres
  have HC := Aside0.mk hr0_3
  clear hr0_3
  have HB := Aside0.mk (Below.refl w.heap.size w)
  go_enter Try.func45, Try.ntmps45
  go_wp2_with (first | ((with_reducible refine gate_dst (N := 3) rfl ?_); refine box_event ?hg (N := 3) ?hd (cs := #[.int .i64 a0_0, .int .i64 a0_1, .slice A0_2 l0_2.length c0_2, .slice A0_3 l0_3.length c0_3, .slice A0_4 l0_4.length c0_4]) (t := 41) ?hr ?_; (case hd => rfl); (case hg => rfl); (case hr => first | (go_simp; done) | (go_simp; rfl)); intro g3 hg3 w3 hbox3 hb3; have G3 := Aside0.mk hg3; clear hg3; have B3 := Aside0.mk hbox3; clear hbox3; have HB3 := Aside0.mk hb3; clear hb3) | ((with_reducible refine gate_dst (N := 4) rfl ?_); refine box_event ?hg (N := 4) ?hd (cs := #[.int .i64 (30), .int .i64 a, .int .i64 b]) (t := 33) ?hr ?_; (case hd => rfl); (case hg => rfl); (case hr => first | (go_simp; done) | (go_simp; rfl)); intro g5 hg5 w5 hbox5 hb5; have G5 := Aside0.mk hg5; clear hg5; have HB5 := Aside0.mk (hb5); clear hb5; have B5 := Aside0.mk hbox5; clear hbox5; have lg3 := Aside0.mk (Array.getElem?_eq_some_iff.1 B3.out).1; have F3 := Aside0.mk ((HB5.out.block g3 lg3.out).trans B3.out); have HBV := Aside0.mk (HB3.out.trans (HB5.out.mono HB3.out.size)); have P0 : w5.cell? ⟨g3, 0, none⟩ = some (.int .i64 a0_0) := (blk_cell F3.out 0).trans rfl; have P1 : w5.cell? ⟨g3, 1, none⟩ = some (.int .i64 a0_1) := (blk_cell F3.out 1).trans rfl; have P2 : w5.cell? ⟨g3, 2, none⟩ = some (.slice A0_2 l0_2.length c0_2) := (blk_cell F3.out 2).trans rfl; have P3 : w5.cell? ⟨g3, 3, none⟩ = some (.slice A0_3 l0_3.length c0_3) := (blk_cell F3.out 3).trans rfl; have P4 : w5.cell? ⟨g3, 4, none⟩ = some (.slice A0_4 l0_4.length c0_4) := (blk_cell F3.out 4).trans rfl; have C50 : w5.cell? ⟨g5, 0, none⟩ = some (.int .i64 (30)) := (blk_cell B5.out 0).trans rfl; have C51 : w5.cell? ⟨g5, 1, none⟩ = some (.int .i64 a) := (blk_cell B5.out 1).trans rfl; have C52 : w5.cell? ⟨g5, 2, none⟩ = some (.int .i64 b) := (blk_cell B5.out 2).trans rfl))
  refine (rbelow_any a a0_1 _).mono ?_
  obtain ⟨rg, hrg⟩ : ∃ x, decide (0 ≤ a ∧ a < a0_1) = x := ⟨_, rfl⟩
  rw [hrg]
  rintro e w' ⟨rfl, ⟨n1, rfl⟩⟩
  have HRG := Aside0.mk hrg
  clear hrg
  go_wp2_with fail
  refine (rbelow_any b l0_4.length _).mono ?_
  obtain ⟨pl, hpl⟩ : ∃ x, decide (0 ≤ b ∧ b < (l0_4.length : Int)) = x := ⟨_, rfl⟩
  rw [hpl]
  rintro e w' ⟨rfl, ⟨n2, rfl⟩⟩
  have HPL := Aside0.mk hpl
  clear hpl
  cases rg with
  | false =>
    go_wp2_with fail
    go_ret
    exact ⟨by first | (rw [← HRES.out]; unfold insK; simp [HRG.out, HPL.out]; done) | (rw [← HRES.out]; unfold insK; rw [HRG.out, HPL.out]; simp), by repeat (first | exact HBV.out | apply pw_below_drewN | apply below_drew1)⟩
  | true =>
    go_wp2_with fail
    go_ret
    exact ⟨by first | (rw [← HRES.out]; unfold insK; simp [HRG.out, HPL.out]; done) | (rw [← HRES.out]; unfold insK; rw [HRG.out, HPL.out]; simp), by repeat (first | exact HBV.out | apply pw_below_drewN | apply below_drew1)⟩
set_option maxHeartbeats 8000000 in
set_option maxRecDepth 100000 in
theorem ins31 (a0_0 a0_1 : Int) (A0_2 : Option Addr) (c0_2 : Nat) (l0_2 : List (S48)) (A0_3 : Option Addr) (c0_3 : Nat) (l0_3 : List (S46)) (A0_4 : Option Addr) (c0_4 : Nat) (l0_4 : List (S33)) (a b protos : Int) (w : World) (hr0_3 : Kd.C k46 w A0_3 l0_3.length l0_3) :
    Calls Try.prog 45 #[.agg #[.int .i64 a0_0, .int .i64 a0_1, .slice A0_2 l0_2.length c0_2, .slice A0_3 l0_3.length c0_3, .slice A0_4 l0_4.length c0_4], .agg #[.int .i64 (31), .int .i64 a, .int .i64 b], .int .i64 protos] w fun e w' => e = .returned (.bool (insK 0 a0_1 l0_2.length l0_4.length l0_3 protos a b)) ∧ Below w.heap.size w w' := by
  generalize hres : insK 0 a0_1 l0_2.length l0_4.length l0_3 protos a b = res
  have HRES := Aside0.mk hres
  clear hres
  have HC := Aside0.mk hr0_3
  clear hr0_3
  have HB := Aside0.mk (Below.refl w.heap.size w)
  go_enter Try.func45, Try.ntmps45
  go_wp2_with (first | ((with_reducible refine gate_dst (N := 3) rfl ?_); refine box_event ?hg (N := 3) ?hd (cs := #[.int .i64 a0_0, .int .i64 a0_1, .slice A0_2 l0_2.length c0_2, .slice A0_3 l0_3.length c0_3, .slice A0_4 l0_4.length c0_4]) (t := 41) ?hr ?_; (case hd => rfl); (case hg => rfl); (case hr => first | (go_simp; done) | (go_simp; rfl)); intro g3 hg3 w3 hbox3 hb3; have G3 := Aside0.mk hg3; clear hg3; have B3 := Aside0.mk hbox3; clear hbox3; have HB3 := Aside0.mk hb3; clear hb3) | ((with_reducible refine gate_dst (N := 4) rfl ?_); refine box_event ?hg (N := 4) ?hd (cs := #[.int .i64 (31), .int .i64 a, .int .i64 b]) (t := 33) ?hr ?_; (case hd => rfl); (case hg => rfl); (case hr => first | (go_simp; done) | (go_simp; rfl)); intro g5 hg5 w5 hbox5 hb5; have G5 := Aside0.mk hg5; clear hg5; have HB5 := Aside0.mk (hb5); clear hb5; have B5 := Aside0.mk hbox5; clear hbox5; have lg3 := Aside0.mk (Array.getElem?_eq_some_iff.1 B3.out).1; have F3 := Aside0.mk ((HB5.out.block g3 lg3.out).trans B3.out); have HBV := Aside0.mk (HB3.out.trans (HB5.out.mono HB3.out.size)); have P0 : w5.cell? ⟨g3, 0, none⟩ = some (.int .i64 a0_0) := (blk_cell F3.out 0).trans rfl; have P1 : w5.cell? ⟨g3, 1, none⟩ = some (.int .i64 a0_1) := (blk_cell F3.out 1).trans rfl; have P2 : w5.cell? ⟨g3, 2, none⟩ = some (.slice A0_2 l0_2.length c0_2) := (blk_cell F3.out 2).trans rfl; have P3 : w5.cell? ⟨g3, 3, none⟩ = some (.slice A0_3 l0_3.length c0_3) := (blk_cell F3.out 3).trans rfl; have P4 : w5.cell? ⟨g3, 4, none⟩ = some (.slice A0_4 l0_4.length c0_4) := (blk_cell F3.out 4).trans rfl; have C50 : w5.cell? ⟨g5, 0, none⟩ = some (.int .i64 (31)) := (blk_cell B5.out 0).trans rfl; have C51 : w5.cell? ⟨g5, 1, none⟩ = some (.int .i64 a) := (blk_cell B5.out 1).trans rfl; have C52 : w5.cell? ⟨g5, 2, none⟩ = some (.int .i64 b) := (blk_cell B5.out 2).trans rfl))
  refine (rbelow_any a a0_1 _).mono ?_
  obtain ⟨rg, hrg⟩ : ∃ x, decide (0 ≤ a ∧ a < a0_1) = x := ⟨_, rfl⟩
  rw [hrg]
  rintro e w' ⟨rfl, ⟨n1, rfl⟩⟩
  have HRG := Aside0.mk hrg
  clear hrg
  go_wp2_with fail
  refine (rbelow_any b l0_4.length _).mono ?_
  obtain ⟨pl, hpl⟩ : ∃ x, decide (0 ≤ b ∧ b < (l0_4.length : Int)) = x := ⟨_, rfl⟩
  rw [hpl]
  rintro e w' ⟨rfl, ⟨n2, rfl⟩⟩
  have HPL := Aside0.mk hpl
  clear hpl
  cases rg with
  | false =>
    go_wp2_with fail
    go_ret
    exact ⟨by first | (rw [← HRES.out]; unfold insK; simp [HRG.out, HPL.out]; done) | (rw [← HRES.out]; unfold insK; rw [HRG.out, HPL.out]; simp), by repeat (first | exact HBV.out | apply pw_below_drewN | apply below_drew1)⟩
  | true =>
    go_wp2_with fail
    go_ret
    exact ⟨by first | (rw [← HRES.out]; unfold insK; simp [HRG.out, HPL.out]; done) | (rw [← HRES.out]; unfold insK; rw [HRG.out, HPL.out]; simp), by repeat (first | exact HBV.out | apply pw_below_drewN | apply below_drew1)⟩
set_option maxHeartbeats 8000000 in
set_option maxRecDepth 100000 in
theorem ins32 (a0_0 a0_1 : Int) (A0_2 : Option Addr) (c0_2 : Nat) (l0_2 : List (S48)) (A0_3 : Option Addr) (c0_3 : Nat) (l0_3 : List (S46)) (A0_4 : Option Addr) (c0_4 : Nat) (l0_4 : List (S33)) (a b protos : Int) (w : World) (hr0_3 : Kd.C k46 w A0_3 l0_3.length l0_3) :
    Calls Try.prog 45 #[.agg #[.int .i64 a0_0, .int .i64 a0_1, .slice A0_2 l0_2.length c0_2, .slice A0_3 l0_3.length c0_3, .slice A0_4 l0_4.length c0_4], .agg #[.int .i64 (32), .int .i64 a, .int .i64 b], .int .i64 protos] w fun e w' => e = .returned (.bool (insK 0 a0_1 l0_2.length l0_4.length l0_3 protos a b)) ∧ Below w.heap.size w w' := by
  generalize hres : insK 0 a0_1 l0_2.length l0_4.length l0_3 protos a b = res
  have HRES := Aside0.mk hres
  clear hres
  have HC := Aside0.mk hr0_3
  clear hr0_3
  have HB := Aside0.mk (Below.refl w.heap.size w)
  go_enter Try.func45, Try.ntmps45
  go_wp2_with (first | ((with_reducible refine gate_dst (N := 3) rfl ?_); refine box_event ?hg (N := 3) ?hd (cs := #[.int .i64 a0_0, .int .i64 a0_1, .slice A0_2 l0_2.length c0_2, .slice A0_3 l0_3.length c0_3, .slice A0_4 l0_4.length c0_4]) (t := 41) ?hr ?_; (case hd => rfl); (case hg => rfl); (case hr => first | (go_simp; done) | (go_simp; rfl)); intro g3 hg3 w3 hbox3 hb3; have G3 := Aside0.mk hg3; clear hg3; have B3 := Aside0.mk hbox3; clear hbox3; have HB3 := Aside0.mk hb3; clear hb3) | ((with_reducible refine gate_dst (N := 4) rfl ?_); refine box_event ?hg (N := 4) ?hd (cs := #[.int .i64 (32), .int .i64 a, .int .i64 b]) (t := 33) ?hr ?_; (case hd => rfl); (case hg => rfl); (case hr => first | (go_simp; done) | (go_simp; rfl)); intro g5 hg5 w5 hbox5 hb5; have G5 := Aside0.mk hg5; clear hg5; have HB5 := Aside0.mk (hb5); clear hb5; have B5 := Aside0.mk hbox5; clear hbox5; have lg3 := Aside0.mk (Array.getElem?_eq_some_iff.1 B3.out).1; have F3 := Aside0.mk ((HB5.out.block g3 lg3.out).trans B3.out); have HBV := Aside0.mk (HB3.out.trans (HB5.out.mono HB3.out.size)); have P0 : w5.cell? ⟨g3, 0, none⟩ = some (.int .i64 a0_0) := (blk_cell F3.out 0).trans rfl; have P1 : w5.cell? ⟨g3, 1, none⟩ = some (.int .i64 a0_1) := (blk_cell F3.out 1).trans rfl; have P2 : w5.cell? ⟨g3, 2, none⟩ = some (.slice A0_2 l0_2.length c0_2) := (blk_cell F3.out 2).trans rfl; have P3 : w5.cell? ⟨g3, 3, none⟩ = some (.slice A0_3 l0_3.length c0_3) := (blk_cell F3.out 3).trans rfl; have P4 : w5.cell? ⟨g3, 4, none⟩ = some (.slice A0_4 l0_4.length c0_4) := (blk_cell F3.out 4).trans rfl; have C50 : w5.cell? ⟨g5, 0, none⟩ = some (.int .i64 (32)) := (blk_cell B5.out 0).trans rfl; have C51 : w5.cell? ⟨g5, 1, none⟩ = some (.int .i64 a) := (blk_cell B5.out 1).trans rfl; have C52 : w5.cell? ⟨g5, 2, none⟩ = some (.int .i64 b) := (blk_cell B5.out 2).trans rfl))
  refine (rbelow_any a a0_1 _).mono ?_
  obtain ⟨rg, hrg⟩ : ∃ x, decide (0 ≤ a ∧ a < a0_1) = x := ⟨_, rfl⟩
  rw [hrg]
  rintro e w' ⟨rfl, ⟨n1, rfl⟩⟩
  have HRG := Aside0.mk hrg
  clear hrg
  go_wp2_with fail
  refine (rbelow_any b l0_4.length _).mono ?_
  obtain ⟨pl, hpl⟩ : ∃ x, decide (0 ≤ b ∧ b < (l0_4.length : Int)) = x := ⟨_, rfl⟩
  rw [hpl]
  rintro e w' ⟨rfl, ⟨n2, rfl⟩⟩
  have HPL := Aside0.mk hpl
  clear hpl
  cases rg with
  | false =>
    go_wp2_with fail
    go_ret
    exact ⟨by first | (rw [← HRES.out]; unfold insK; simp [HRG.out, HPL.out]; done) | (rw [← HRES.out]; unfold insK; rw [HRG.out, HPL.out]; simp), by repeat (first | exact HBV.out | apply pw_below_drewN | apply below_drew1)⟩
  | true =>
    go_wp2_with fail
    go_ret
    exact ⟨by first | (rw [← HRES.out]; unfold insK; simp [HRG.out, HPL.out]; done) | (rw [← HRES.out]; unfold insK; rw [HRG.out, HPL.out]; simp), by repeat (first | exact HBV.out | apply pw_below_drewN | apply below_drew1)⟩
set_option maxHeartbeats 8000000 in
set_option maxRecDepth 100000 in
theorem ins33 (a0_0 a0_1 : Int) (A0_2 : Option Addr) (c0_2 : Nat) (l0_2 : List (S48)) (A0_3 : Option Addr) (c0_3 : Nat) (l0_3 : List (S46)) (A0_4 : Option Addr) (c0_4 : Nat) (l0_4 : List (S33)) (a b protos : Int) (w : World) (hr0_3 : Kd.C k46 w A0_3 l0_3.length l0_3) :
    Calls Try.prog 45 #[.agg #[.int .i64 a0_0, .int .i64 a0_1, .slice A0_2 l0_2.length c0_2, .slice A0_3 l0_3.length c0_3, .slice A0_4 l0_4.length c0_4], .agg #[.int .i64 (33), .int .i64 a, .int .i64 b], .int .i64 protos] w fun e w' => e = .returned (.bool (insK 8 a0_1 l0_2.length l0_4.length l0_3 protos a b)) ∧ Below w.heap.size w w' := by
  generalize hres : insK 8 a0_1 l0_2.length l0_4.length l0_3 protos a b = res
  have HRES := Aside0.mk hres
  clear hres
  have HC := Aside0.mk hr0_3
  clear hr0_3
  have HB := Aside0.mk (Below.refl w.heap.size w)
  go_enter Try.func45, Try.ntmps45
  go_wp2_with (first | ((with_reducible refine gate_dst (N := 3) rfl ?_); refine box_event ?hg (N := 3) ?hd (cs := #[.int .i64 a0_0, .int .i64 a0_1, .slice A0_2 l0_2.length c0_2, .slice A0_3 l0_3.length c0_3, .slice A0_4 l0_4.length c0_4]) (t := 41) ?hr ?_; (case hd => rfl); (case hg => rfl); (case hr => first | (go_simp; done) | (go_simp; rfl)); intro g3 hg3 w3 hbox3 hb3; have G3 := Aside0.mk hg3; clear hg3; have B3 := Aside0.mk hbox3; clear hbox3; have HB3 := Aside0.mk hb3; clear hb3) | ((with_reducible refine gate_dst (N := 4) rfl ?_); refine box_event ?hg (N := 4) ?hd (cs := #[.int .i64 (33), .int .i64 a, .int .i64 b]) (t := 33) ?hr ?_; (case hd => rfl); (case hg => rfl); (case hr => first | (go_simp; done) | (go_simp; rfl)); intro g5 hg5 w5 hbox5 hb5; have G5 := Aside0.mk hg5; clear hg5; have HB5 := Aside0.mk (hb5); clear hb5; have B5 := Aside0.mk hbox5; clear hbox5; have lg3 := Aside0.mk (Array.getElem?_eq_some_iff.1 B3.out).1; have F3 := Aside0.mk ((HB5.out.block g3 lg3.out).trans B3.out); have HBV := Aside0.mk (HB3.out.trans (HB5.out.mono HB3.out.size)); have P0 : w5.cell? ⟨g3, 0, none⟩ = some (.int .i64 a0_0) := (blk_cell F3.out 0).trans rfl; have P1 : w5.cell? ⟨g3, 1, none⟩ = some (.int .i64 a0_1) := (blk_cell F3.out 1).trans rfl; have P2 : w5.cell? ⟨g3, 2, none⟩ = some (.slice A0_2 l0_2.length c0_2) := (blk_cell F3.out 2).trans rfl; have P3 : w5.cell? ⟨g3, 3, none⟩ = some (.slice A0_3 l0_3.length c0_3) := (blk_cell F3.out 3).trans rfl; have P4 : w5.cell? ⟨g3, 4, none⟩ = some (.slice A0_4 l0_4.length c0_4) := (blk_cell F3.out 4).trans rfl; have C50 : w5.cell? ⟨g5, 0, none⟩ = some (.int .i64 (33)) := (blk_cell B5.out 0).trans rfl; have C51 : w5.cell? ⟨g5, 1, none⟩ = some (.int .i64 a) := (blk_cell B5.out 1).trans rfl; have C52 : w5.cell? ⟨g5, 2, none⟩ = some (.int .i64 b) := (blk_cell B5.out 2).trans rfl))
  refine (rbelow_any a a0_1 _).mono ?_
  obtain ⟨rg, hrg⟩ : ∃ x, decide (0 ≤ a ∧ a < a0_1) = x := ⟨_, rfl⟩
  rw [hrg]
  rintro e w' ⟨rfl, ⟨n1, rfl⟩⟩
  have HRG := Aside0.mk hrg
  clear hrg
  go_wp2_with fail
  refine (rbelow_any b l0_4.length _).mono ?_
  obtain ⟨pl, hpl⟩ : ∃ x, decide (0 ≤ b ∧ b < (l0_4.length : Int)) = x := ⟨_, rfl⟩
  rw [hpl]
  rintro e w' ⟨rfl, ⟨n2, rfl⟩⟩
  have HPL := Aside0.mk hpl
  clear hpl
  obtain ⟨m, hm⟩ : ∃ x, wrap64 (a0_1 - 1) = x := ⟨_, rfl⟩
  have hm1 : IntKind.i64.wrap (a0_1 - 1) = m := (i64_w _).trans hm
  have HM := Aside0.mk hm
  clear hm
  go_wp2_with fail
  refine (rbelow_any a m _).mono ?_
  obtain ⟨tb, htb⟩ : ∃ x, decide (0 ≤ a ∧ a < m) = x := ⟨_, rfl⟩
  rw [htb]
  rintro e w' ⟨rfl, ⟨n3, rfl⟩⟩
  have Htb := Aside0.mk htb
  clear htb
  clear hm1
  cases tb with
  | false =>
    go_wp2_with fail
    go_ret
    exact ⟨by first | (rw [← HRES.out]; unfold insK; simp [HRG.out, HPL.out, HM.out, Htb.out]; done) | (rw [← HRES.out]; unfold insK; rw [HRG.out, HPL.out]; simp [HM.out, Htb.out]), by repeat (first | exact HBV.out | apply pw_below_drewN | apply below_drew1)⟩
  | true =>
    go_wp2_with fail
    go_ret
    exact ⟨by first | (rw [← HRES.out]; unfold insK; simp [HRG.out, HPL.out, HM.out, Htb.out]; done) | (rw [← HRES.out]; unfold insK; rw [HRG.out, HPL.out]; simp [HM.out, Htb.out]), by repeat (first | exact HBV.out | apply pw_below_drewN | apply below_drew1)⟩
set_option maxHeartbeats 8000000 in
set_option maxRecDepth 100000 in
theorem ins34 (a0_0 a0_1 : Int) (A0_2 : Option Addr) (c0_2 : Nat) (l0_2 : List (S48)) (A0_3 : Option Addr) (c0_3 : Nat) (l0_3 : List (S46)) (A0_4 : Option Addr) (c0_4 : Nat) (l0_4 : List (S33)) (a b protos : Int) (w : World) (hr0_3 : Kd.C k46 w A0_3 l0_3.length l0_3) :
    Calls Try.prog 45 #[.agg #[.int .i64 a0_0, .int .i64 a0_1, .slice A0_2 l0_2.length c0_2, .slice A0_3 l0_3.length c0_3, .slice A0_4 l0_4.length c0_4], .agg #[.int .i64 (34), .int .i64 a, .int .i64 b], .int .i64 protos] w fun e w' => e = .returned (.bool (insK 8 a0_1 l0_2.length l0_4.length l0_3 protos a b)) ∧ Below w.heap.size w w' := by
  generalize hres : insK 8 a0_1 l0_2.length l0_4.length l0_3 protos a b = res
  have HRES := Aside0.mk hres
  clear hres
  have HC := Aside0.mk hr0_3
  clear hr0_3
  have HB := Aside0.mk (Below.refl w.heap.size w)
  go_enter Try.func45, Try.ntmps45
  go_wp2_with (first | ((with_reducible refine gate_dst (N := 3) rfl ?_); refine box_event ?hg (N := 3) ?hd (cs := #[.int .i64 a0_0, .int .i64 a0_1, .slice A0_2 l0_2.length c0_2, .slice A0_3 l0_3.length c0_3, .slice A0_4 l0_4.length c0_4]) (t := 41) ?hr ?_; (case hd => rfl); (case hg => rfl); (case hr => first | (go_simp; done) | (go_simp; rfl)); intro g3 hg3 w3 hbox3 hb3; have G3 := Aside0.mk hg3; clear hg3; have B3 := Aside0.mk hbox3; clear hbox3; have HB3 := Aside0.mk hb3; clear hb3) | ((with_reducible refine gate_dst (N := 4) rfl ?_); refine box_event ?hg (N := 4) ?hd (cs := #[.int .i64 (34), .int .i64 a, .int .i64 b]) (t := 33) ?hr ?_; (case hd => rfl); (case hg => rfl); (case hr => first | (go_simp; done) | (go_simp; rfl)); intro g5 hg5 w5 hbox5 hb5; have G5 := Aside0.mk hg5; clear hg5; have HB5 := Aside0.mk (hb5); clear hb5; have B5 := Aside0.mk hbox5; clear hbox5; have lg3 := Aside0.mk (Array.getElem?_eq_some_iff.1 B3.out).1; have F3 := Aside0.mk ((HB5.out.block g3 lg3.out).trans B3.out); have HBV := Aside0.mk (HB3.out.trans (HB5.out.mono HB3.out.size)); have P0 : w5.cell? ⟨g3, 0, none⟩ = some (.int .i64 a0_0) := (blk_cell F3.out 0).trans rfl; have P1 : w5.cell? ⟨g3, 1, none⟩ = some (.int .i64 a0_1) := (blk_cell F3.out 1).trans rfl; have P2 : w5.cell? ⟨g3, 2, none⟩ = some (.slice A0_2 l0_2.length c0_2) := (blk_cell F3.out 2).trans rfl; have P3 : w5.cell? ⟨g3, 3, none⟩ = some (.slice A0_3 l0_3.length c0_3) := (blk_cell F3.out 3).trans rfl; have P4 : w5.cell? ⟨g3, 4, none⟩ = some (.slice A0_4 l0_4.length c0_4) := (blk_cell F3.out 4).trans rfl; have C50 : w5.cell? ⟨g5, 0, none⟩ = some (.int .i64 (34)) := (blk_cell B5.out 0).trans rfl; have C51 : w5.cell? ⟨g5, 1, none⟩ = some (.int .i64 a) := (blk_cell B5.out 1).trans rfl; have C52 : w5.cell? ⟨g5, 2, none⟩ = some (.int .i64 b) := (blk_cell B5.out 2).trans rfl))
  refine (rbelow_any a a0_1 _).mono ?_
  obtain ⟨rg, hrg⟩ : ∃ x, decide (0 ≤ a ∧ a < a0_1) = x := ⟨_, rfl⟩
  rw [hrg]
  rintro e w' ⟨rfl, ⟨n1, rfl⟩⟩
  have HRG := Aside0.mk hrg
  clear hrg
  go_wp2_with fail
  refine (rbelow_any b l0_4.length _).mono ?_
  obtain ⟨pl, hpl⟩ : ∃ x, decide (0 ≤ b ∧ b < (l0_4.length : Int)) = x := ⟨_, rfl⟩
  rw [hpl]
  rintro e w' ⟨rfl, ⟨n2, rfl⟩⟩
  have HPL := Aside0.mk hpl
  clear hpl
  obtain ⟨m, hm⟩ : ∃ x, wrap64 (a0_1 - 1) = x := ⟨_, rfl⟩
  have hm1 : IntKind.i64.wrap (a0_1 - 1) = m := (i64_w _).trans hm
  have HM := Aside0.mk hm
  clear hm
  go_wp2_with fail
  refine (rbelow_any a m _).mono ?_
  obtain ⟨tb, htb⟩ : ∃ x, decide (0 ≤ a ∧ a < m) = x := ⟨_, rfl⟩
  rw [htb]
  rintro e w' ⟨rfl, ⟨n3, rfl⟩⟩
  have Htb := Aside0.mk htb
  clear htb
  clear hm1
  cases tb with
  | false =>
    go_wp2_with fail
    go_ret
    exact ⟨by first | (rw [← HRES.out]; unfold insK; simp [HRG.out, HPL.out, HM.out, Htb.out]; done) | (rw [← HRES.out]; unfold insK; rw [HRG.out, HPL.out]; simp [HM.out, Htb.out]), by repeat (first | exact HBV.out | apply pw_below_drewN | apply below_drew1)⟩
  | true =>
    go_wp2_with fail
    go_ret
    exact ⟨by first | (rw [← HRES.out]; unfold insK; simp [HRG.out, HPL.out, HM.out, Htb.out]; done) | (rw [← HRES.out]; unfold insK; rw [HRG.out, HPL.out]; simp [HM.out, Htb.out]), by repeat (first | exact HBV.out | apply pw_below_drewN | apply below_drew1)⟩
set_option maxHeartbeats 8000000 in
set_option maxRecDepth 100000 in
theorem ins35 (a0_0 a0_1 : Int) (A0_2 : Option Addr) (c0_2 : Nat) (l0_2 : List (S48)) (A0_3 : Option Addr) (c0_3 : Nat) (l0_3 : List (S46)) (A0_4 : Option Addr) (c0_4 : Nat) (l0_4 : List (S33)) (a b protos : Int) (w : World) (hr0_3 : Kd.C k46 w A0_3 l0_3.length l0_3) :
    Calls Try.prog 45 #[.agg #[.int .i64 a0_0, .int .i64 a0_1, .slice A0_2 l0_2.length c0_2, .slice A0_3 l0_3.length c0_3, .slice A0_4 l0_4.length c0_4], .agg #[.int .i64 (35), .int .i64 a, .int .i64 b], .int .i64 protos] w fun e w' => e = .returned (.bool (insK 12 a0_1 l0_2.length l0_4.length l0_3 protos a b)) ∧ Below w.heap.size w w' := by
  generalize hres : insK 12 a0_1 l0_2.length l0_4.length l0_3 protos a b = res
  have HRES := Aside0.mk hres
  clear hres
  have HC := Aside0.mk hr0_3
  clear hr0_3
  have HB := Aside0.mk (Below.refl w.heap.size w)
  go_enter Try.func45, Try.ntmps45
  go_wp2_with (first | ((with_reducible refine gate_dst (N := 3) rfl ?_); refine box_event ?hg (N := 3) ?hd (cs := #[.int .i64 a0_0, .int .i64 a0_1, .slice A0_2 l0_2.length c0_2, .slice A0_3 l0_3.length c0_3, .slice A0_4 l0_4.length c0_4]) (t := 41) ?hr ?_; (case hd => rfl); (case hg => rfl); (case hr => first | (go_simp; done) | (go_simp; rfl)); intro g3 hg3 w3 hbox3 hb3; have G3 := Aside0.mk hg3; clear hg3; have B3 := Aside0.mk hbox3; clear hbox3; have HB3 := Aside0.mk hb3; clear hb3) | ((with_reducible refine gate_dst (N := 4) rfl ?_); refine box_event ?hg (N := 4) ?hd (cs := #[.int .i64 (35), .int .i64 a, .int .i64 b]) (t := 33) ?hr ?_; (case hd => rfl); (case hg => rfl); (case hr => first | (go_simp; done) | (go_simp; rfl)); intro g5 hg5 w5 hbox5 hb5; have G5 := Aside0.mk hg5; clear hg5; have HB5 := Aside0.mk (hb5); clear hb5; have B5 := Aside0.mk hbox5; clear hbox5; have lg3 := Aside0.mk (Array.getElem?_eq_some_iff.1 B3.out).1; have F3 := Aside0.mk ((HB5.out.block g3 lg3.out).trans B3.out); have HBV := Aside0.mk (HB3.out.trans (HB5.out.mono HB3.out.size)); have P0 : w5.cell? ⟨g3, 0, none⟩ = some (.int .i64 a0_0) := (blk_cell F3.out 0).trans rfl; have P1 : w5.cell? ⟨g3, 1, none⟩ = some (.int .i64 a0_1) := (blk_cell F3.out 1).trans rfl; have P2 : w5.cell? ⟨g3, 2, none⟩ = some (.slice A0_2 l0_2.length c0_2) := (blk_cell F3.out 2).trans rfl; have P3 : w5.cell? ⟨g3, 3, none⟩ = some (.slice A0_3 l0_3.length c0_3) := (blk_cell F3.out 3).trans rfl; have P4 : w5.cell? ⟨g3, 4, none⟩ = some (.slice A0_4 l0_4.length c0_4) := (blk_cell F3.out 4).trans rfl; have C50 : w5.cell? ⟨g5, 0, none⟩ = some (.int .i64 (35)) := (blk_cell B5.out 0).trans rfl; have C51 : w5.cell? ⟨g5, 1, none⟩ = some (.int .i64 a) := (blk_cell B5.out 1).trans rfl; have C52 : w5.cell? ⟨g5, 2, none⟩ = some (.int .i64 b) := (blk_cell B5.out 2).trans rfl))
  refine (rbelow_any a a0_1 _).mono ?_
  obtain ⟨rg, hrg⟩ : ∃ x, decide (0 ≤ a ∧ a < a0_1) = x := ⟨_, rfl⟩
  rw [hrg]
  rintro e w' ⟨rfl, ⟨n1, rfl⟩⟩
  have HRG := Aside0.mk hrg
  clear hrg
  go_wp2_with fail
  refine (rbelow_any b l0_4.length _).mono ?_
  obtain ⟨pl, hpl⟩ : ∃ x, decide (0 ≤ b ∧ b < (l0_4.length : Int)) = x := ⟨_, rfl⟩
  rw [hpl]
  rintro e w' ⟨rfl, ⟨n2, rfl⟩⟩
  have HPL := Aside0.mk hpl
  clear hpl
  cases rg with
  | false =>
    go_wp2_with fail
    go_ret
    exact ⟨by first | (rw [← HRES.out]; unfold insK; simp [HRG.out, HPL.out]; done) | (rw [← HRES.out]; unfold insK; rw [HRG.out, HPL.out]; simp), by repeat (first | exact HBV.out | apply pw_below_drewN | apply below_drew1)⟩
  | true =>
    go_wp2_with fail
    go_ret
    exact ⟨by first | (rw [← HRES.out]; unfold insK; simp [HRG.out, HPL.out]; done) | (rw [← HRES.out]; unfold insK; rw [HRG.out, HPL.out]; simp), by repeat (first | exact HBV.out | apply pw_below_drewN | apply below_drew1)⟩
set_option maxHeartbeats 8000000 in
set_option maxRecDepth 100000 in
theorem ins36 (a0_0 a0_1 : Int) (A0_2 : Option Addr) (c0_2 : Nat) (l0_2 : List (S48)) (A0_3 : Option Addr) (c0_3 : Nat) (l0_3 : List (S46)) (A0_4 : Option Addr) (c0_4 : Nat) (l0_4 : List (S33)) (a b protos : Int) (w : World) (hr0_3 : Kd.C k46 w A0_3 l0_3.length l0_3) :
    Calls Try.prog 45 #[.agg #[.int .i64 a0_0, .int .i64 a0_1, .slice A0_2 l0_2.length c0_2, .slice A0_3 l0_3.length c0_3, .slice A0_4 l0_4.length c0_4], .agg #[.int .i64 (36), .int .i64 a, .int .i64 b], .int .i64 protos] w fun e w' => e = .returned (.bool (insK 14 a0_1 l0_2.length l0_4.length l0_3 protos a b)) ∧ Below w.heap.size w w' := by
  generalize hres : insK 14 a0_1 l0_2.length l0_4.length l0_3 protos a b = res
  have HRES := Aside0.mk hres
  clear hres
  have HC := Aside0.mk hr0_3
  clear hr0_3
  have HB := Aside0.mk (Below.refl w.heap.size w)
  go_enter Try.func45, Try.ntmps45
  go_wp2_with (first | ((with_reducible refine gate_dst (N := 3) rfl ?_); refine box_event ?hg (N := 3) ?hd (cs := #[.int .i64 a0_0, .int .i64 a0_1, .slice A0_2 l0_2.length c0_2, .slice A0_3 l0_3.length c0_3, .slice A0_4 l0_4.length c0_4]) (t := 41) ?hr ?_; (case hd => rfl); (case hg => rfl); (case hr => first | (go_simp; done) | (go_simp; rfl)); intro g3 hg3 w3 hbox3 hb3; have G3 := Aside0.mk hg3; clear hg3; have B3 := Aside0.mk hbox3; clear hbox3; have HB3 := Aside0.mk hb3; clear hb3) | ((with_reducible refine gate_dst (N := 4) rfl ?_); refine box_event ?hg (N := 4) ?hd (cs := #[.int .i64 (36), .int .i64 a, .int .i64 b]) (t := 33) ?hr ?_; (case hd => rfl); (case hg => rfl); (case hr => first | (go_simp; done) | (go_simp; rfl)); intro g5 hg5 w5 hbox5 hb5; have G5 := Aside0.mk hg5; clear hg5; have HB5 := Aside0.mk (hb5); clear hb5; have B5 := Aside0.mk hbox5; clear hbox5; have lg3 := Aside0.mk (Array.getElem?_eq_some_iff.1 B3.out).1; have F3 := Aside0.mk ((HB5.out.block g3 lg3.out).trans B3.out); have HBV := Aside0.mk (HB3.out.trans (HB5.out.mono HB3.out.size)); have P0 : w5.cell? ⟨g3, 0, none⟩ = some (.int .i64 a0_0) := (blk_cell F3.out 0).trans rfl; have P1 : w5.cell? ⟨g3, 1, none⟩ = some (.int .i64 a0_1) := (blk_cell F3.out 1).trans rfl; have P2 : w5.cell? ⟨g3, 2, none⟩ = some (.slice A0_2 l0_2.length c0_2) := (blk_cell F3.out 2).trans rfl; have P3 : w5.cell? ⟨g3, 3, none⟩ = some (.slice A0_3 l0_3.length c0_3) := (blk_cell F3.out 3).trans rfl; have P4 : w5.cell? ⟨g3, 4, none⟩ = some (.slice A0_4 l0_4.length c0_4) := (blk_cell F3.out 4).trans rfl; have C50 : w5.cell? ⟨g5, 0, none⟩ = some (.int .i64 (36)) := (blk_cell B5.out 0).trans rfl; have C51 : w5.cell? ⟨g5, 1, none⟩ = some (.int .i64 a) := (blk_cell B5.out 1).trans rfl; have C52 : w5.cell? ⟨g5, 2, none⟩ = some (.int .i64 b) := (blk_cell B5.out 2).trans rfl))
  refine (rbelow_any a a0_1 _).mono ?_
  obtain ⟨rg, hrg⟩ : ∃ x, decide (0 ≤ a ∧ a < a0_1) = x := ⟨_, rfl⟩
  rw [hrg]
  rintro e w' ⟨rfl, ⟨n1, rfl⟩⟩
  have HRG := Aside0.mk hrg
  clear hrg
  go_wp2_with fail
  refine (rbelow_any b l0_4.length _).mono ?_
  obtain ⟨pl, hpl⟩ : ∃ x, decide (0 ≤ b ∧ b < (l0_4.length : Int)) = x := ⟨_, rfl⟩
  rw [hpl]
  rintro e w' ⟨rfl, ⟨n2, rfl⟩⟩
  have HPL := Aside0.mk hpl
  clear hpl
  by_cases h0 : a = 0
  · have b0 : (a == 0) = true := beq_iff_eq.mpr h0
    go_wp2_with fail
    go_ret
    exact ⟨by first | (rw [← HRES.out]; unfold insK; simp [HRG.out, HPL.out, h0, b0]; done) | (rw [← HRES.out]; unfold insK; rw [HRG.out, HPL.out]; simp [h0, b0]), by repeat (first | exact HBV.out | apply pw_below_drewN | apply below_drew1)⟩
  · have b0 : (a == 0) = false := beq_eq_false_iff_ne.mpr h0
    go_wp2_with fail
    go_ret
    exact ⟨by first | (rw [← HRES.out]; unfold insK; simp [HRG.out, HPL.out, h0, b0]; done) | (rw [← HRES.out]; unfold insK; rw [HRG.out, HPL.out]; simp [h0, b0]), by repeat (first | exact HBV.out | apply pw_below_drewN | apply below_drew1)⟩
set_option maxHeartbeats 8000000 in
set_option maxRecDepth 100000 in
theorem insD (a0_0 a0_1 : Int) (A0_2 : Option Addr) (c0_2 : Nat) (l0_2 : List (S48)) (A0_3 : Option Addr) (c0_3 : Nat) (l0_3 : List (S46)) (A0_4 : Option Addr) (c0_4 : Nat) (l0_4 : List (S33)) (op : Int) (hd : grpOf op = 99) (a b protos : Int) (w : World) (hr0_3 : Kd.C k46 w A0_3 l0_3.length l0_3) :
    Calls Try.prog 45 #[.agg #[.int .i64 a0_0, .int .i64 a0_1, .slice A0_2 l0_2.length c0_2, .slice A0_3 l0_3.length c0_3, .slice A0_4 l0_4.length c0_4], .agg #[.int .i64 op, .int .i64 a, .int .i64 b], .int .i64 protos] w fun e w' => e = .returned (.bool (insK 99 a0_1 l0_2.length l0_4.length l0_3 protos a b)) ∧ Below w.heap.size w w' := by
  generalize hres : insK 99 a0_1 l0_2.length l0_4.length l0_3 protos a b = res
  have HRES := Aside0.mk hres
  clear hres
  have q0 : (op == 0) = false := by rw [beq_eq_false_iff_ne]; rintro rfl; revert hd; decide
  have q1 : (op == 1) = false := by rw [beq_eq_false_iff_ne]; rintro rfl; revert hd; decide
  have q2 : (op == 2) = false := by rw [beq_eq_false_iff_ne]; rintro rfl; revert hd; decide
  have q3 : (op == 3) = false := by rw [beq_eq_false_iff_ne]; rintro rfl; revert hd; decide
  have q4 : (op == 4) = false := by rw [beq_eq_false_iff_ne]; rintro rfl; revert hd; decide
  have q5 : (op == 5) = false := by rw [beq_eq_false_iff_ne]; rintro rfl; revert hd; decide
  have q6 : (op == 6) = false := by rw [beq_eq_false_iff_ne]; rintro rfl; revert hd; decide
  have q7 : (op == 7) = false := by rw [beq_eq_false_iff_ne]; rintro rfl; revert hd; decide
  have q8 : (op == 8) = false := by rw [beq_eq_false_iff_ne]; rintro rfl; revert hd; decide
  have q9 : (op == 9) = false := by rw [beq_eq_false_iff_ne]; rintro rfl; revert hd; decide
  have q10 : (op == 10) = false := by rw [beq_eq_false_iff_ne]; rintro rfl; revert hd; decide
  have q11 : (op == 11) = false := by rw [beq_eq_false_iff_ne]; rintro rfl; revert hd; decide
  have q12 : (op == 12) = false := by rw [beq_eq_false_iff_ne]; rintro rfl; revert hd; decide
  have q13 : (op == 13) = false := by rw [beq_eq_false_iff_ne]; rintro rfl; revert hd; decide
  have q14 : (op == 14) = false := by rw [beq_eq_false_iff_ne]; rintro rfl; revert hd; decide
  have q15 : (op == 15) = false := by rw [beq_eq_false_iff_ne]; rintro rfl; revert hd; decide
  have q16 : (op == 16) = false := by rw [beq_eq_false_iff_ne]; rintro rfl; revert hd; decide
  have q17 : (op == 17) = false := by rw [beq_eq_false_iff_ne]; rintro rfl; revert hd; decide
  have q18 : (op == 18) = false := by rw [beq_eq_false_iff_ne]; rintro rfl; revert hd; decide
  have q19 : (op == 19) = false := by rw [beq_eq_false_iff_ne]; rintro rfl; revert hd; decide
  have q20 : (op == 20) = false := by rw [beq_eq_false_iff_ne]; rintro rfl; revert hd; decide
  have q21 : (op == 21) = false := by rw [beq_eq_false_iff_ne]; rintro rfl; revert hd; decide
  have q22 : (op == 22) = false := by rw [beq_eq_false_iff_ne]; rintro rfl; revert hd; decide
  have q23 : (op == 23) = false := by rw [beq_eq_false_iff_ne]; rintro rfl; revert hd; decide
  have q24 : (op == 24) = false := by rw [beq_eq_false_iff_ne]; rintro rfl; revert hd; decide
  have q25 : (op == 25) = false := by rw [beq_eq_false_iff_ne]; rintro rfl; revert hd; decide
  have q26 : (op == 26) = false := by rw [beq_eq_false_iff_ne]; rintro rfl; revert hd; decide
  have q27 : (op == 27) = false := by rw [beq_eq_false_iff_ne]; rintro rfl; revert hd; decide
  have q28 : (op == 28) = false := by rw [beq_eq_false_iff_ne]; rintro rfl; revert hd; decide
  have q29 : (op == 29) = false := by rw [beq_eq_false_iff_ne]; rintro rfl; revert hd; decide
  have q30 : (op == 30) = false := by rw [beq_eq_false_iff_ne]; rintro rfl; revert hd; decide
  have q31 : (op == 31) = false := by rw [beq_eq_false_iff_ne]; rintro rfl; revert hd; decide
  have q32 : (op == 32) = false := by rw [beq_eq_false_iff_ne]; rintro rfl; revert hd; decide
  have q33 : (op == 33) = false := by rw [beq_eq_false_iff_ne]; rintro rfl; revert hd; decide
  have q34 : (op == 34) = false := by rw [beq_eq_false_iff_ne]; rintro rfl; revert hd; decide
  have q35 : (op == 35) = false := by rw [beq_eq_false_iff_ne]; rintro rfl; revert hd; decide
  have q36 : (op == 36) = false := by rw [beq_eq_false_iff_ne]; rintro rfl; revert hd; decide
  clear hd
  have HC := Aside0.mk hr0_3
  clear hr0_3
  have HB := Aside0.mk (Below.refl w.heap.size w)
  go_enter Try.func45, Try.ntmps45
  go_wp2_with (first | ((with_reducible refine gate_dst (N := 3) rfl ?_); refine box_event ?hg (N := 3) ?hd (cs := #[.int .i64 a0_0, .int .i64 a0_1, .slice A0_2 l0_2.length c0_2, .slice A0_3 l0_3.length c0_3, .slice A0_4 l0_4.length c0_4]) (t := 41) ?hr ?_; (case hd => rfl); (case hg => rfl); (case hr => first | (go_simp; done) | (go_simp; rfl)); intro g3 hg3 w3 hbox3 hb3; have G3 := Aside0.mk hg3; clear hg3; have B3 := Aside0.mk hbox3; clear hbox3; have HB3 := Aside0.mk hb3; clear hb3) | ((with_reducible refine gate_dst (N := 4) rfl ?_); refine box_event ?hg (N := 4) ?hd (cs := #[.int .i64 op, .int .i64 a, .int .i64 b]) (t := 33) ?hr ?_; (case hd => rfl); (case hg => rfl); (case hr => first | (go_simp; done) | (go_simp; rfl)); intro g5 hg5 w5 hbox5 hb5; have G5 := Aside0.mk hg5; clear hg5; have HB5 := Aside0.mk (hb5); clear hb5; have B5 := Aside0.mk hbox5; clear hbox5; have lg3 := Aside0.mk (Array.getElem?_eq_some_iff.1 B3.out).1; have F3 := Aside0.mk ((HB5.out.block g3 lg3.out).trans B3.out); have HBV := Aside0.mk (HB3.out.trans (HB5.out.mono HB3.out.size)); have P0 : w5.cell? ⟨g3, 0, none⟩ = some (.int .i64 a0_0) := (blk_cell F3.out 0).trans rfl; have P1 : w5.cell? ⟨g3, 1, none⟩ = some (.int .i64 a0_1) := (blk_cell F3.out 1).trans rfl; have P2 : w5.cell? ⟨g3, 2, none⟩ = some (.slice A0_2 l0_2.length c0_2) := (blk_cell F3.out 2).trans rfl; have P3 : w5.cell? ⟨g3, 3, none⟩ = some (.slice A0_3 l0_3.length c0_3) := (blk_cell F3.out 3).trans rfl; have P4 : w5.cell? ⟨g3, 4, none⟩ = some (.slice A0_4 l0_4.length c0_4) := (blk_cell F3.out 4).trans rfl; have C50 : w5.cell? ⟨g5, 0, none⟩ = some (.int .i64 op) := (blk_cell B5.out 0).trans rfl; have C51 : w5.cell? ⟨g5, 1, none⟩ = some (.int .i64 a) := (blk_cell B5.out 1).trans rfl; have C52 : w5.cell? ⟨g5, 2, none⟩ = some (.int .i64 b) := (blk_cell B5.out 2).trans rfl))
  refine (rbelow_any a a0_1 _).mono ?_
  obtain ⟨rg, hrg⟩ : ∃ x, decide (0 ≤ a ∧ a < a0_1) = x := ⟨_, rfl⟩
  rw [hrg]
  rintro e w' ⟨rfl, ⟨n1, rfl⟩⟩
  have HRG := Aside0.mk hrg
  clear hrg
  go_wp2_with fail
  refine (rbelow_any b l0_4.length _).mono ?_
  obtain ⟨pl, hpl⟩ : ∃ x, decide (0 ≤ b ∧ b < (l0_4.length : Int)) = x := ⟨_, rfl⟩
  rw [hpl]
  rintro e w' ⟨rfl, ⟨n2, rfl⟩⟩
  have HPL := Aside0.mk hpl
  clear hpl
  go_wp2_with fail
  go_ret
  exact ⟨by first | (rw [← HRES.out]; unfold insK; simp [HRG.out, HPL.out]; done) | (rw [← HRES.out]; unfold insK; rw [HRG.out, HPL.out]; simp), by repeat (first | exact HBV.out | apply pw_below_drewN | apply below_drew1)⟩
set_option maxHeartbeats 8000000 in
set_option maxRecDepth 100000 in
theorem ins11 (a0_0 a0_1 : Int) (A0_2 : Option Addr) (c0_2 : Nat) (l0_2 : List (S48)) (A0_3 : Option Addr) (c0_3 : Nat) (l0_3 : List (S46)) (A0_4 : Option Addr) (c0_4 : Nat) (l0_4 : List (S33)) (a b protos : Int) (w : World) (hr0_3 : Kd.C k46 w A0_3 l0_3.length l0_3) :
    Calls Try.prog 45 #[.agg #[.int .i64 a0_0, .int .i64 a0_1, .slice A0_2 l0_2.length c0_2, .slice A0_3 l0_3.length c0_3, .slice A0_4 l0_4.length c0_4], .agg #[.int .i64 (11), .int .i64 a, .int .i64 b], .int .i64 protos] w fun e w' => e = .returned (.bool (insK 3 a0_1 l0_2.length l0_4.length l0_3 protos a b)) ∧ Below w.heap.size w w' := by
  generalize hres : insK 3 a0_1 l0_2.length l0_4.length l0_3 protos a b = res
  have HRES := Aside0.mk hres
  clear hres
  have HC := Aside0.mk hr0_3
  clear hr0_3
  have HB := Aside0.mk (Below.refl w.heap.size w)
  go_enter Try.func45, Try.ntmps45
  go_wp2_with (first | ((with_reducible refine gate_dst (N := 3) rfl ?_); refine box_event ?hg (N := 3) ?hd (cs := #[.int .i64 a0_0, .int .i64 a0_1, .slice A0_2 l0_2.length c0_2, .slice A0_3 l0_3.length c0_3, .slice A0_4 l0_4.length c0_4]) (t := 41) ?hr ?_; (case hd => rfl); (case hg => rfl); (case hr => first | (go_simp; done) | (go_simp; rfl)); intro g3 hg3 w3 hbox3 hb3; have G3 := Aside0.mk hg3; clear hg3; have B3 := Aside0.mk hbox3; clear hbox3; have HB3 := Aside0.mk hb3; clear hb3) | ((with_reducible refine gate_dst (N := 4) rfl ?_); refine box_event ?hg (N := 4) ?hd (cs := #[.int .i64 (11), .int .i64 a, .int .i64 b]) (t := 33) ?hr ?_; (case hd => rfl); (case hg => rfl); (case hr => first | (go_simp; done) | (go_simp; rfl)); intro g5 hg5 w5 hbox5 hb5; have G5 := Aside0.mk hg5; clear hg5; have HB5 := Aside0.mk (hb5); clear hb5; have B5 := Aside0.mk hbox5; clear hbox5; have lg3 := Aside0.mk (Array.getElem?_eq_some_iff.1 B3.out).1; have F3 := Aside0.mk ((HB5.out.block g3 lg3.out).trans B3.out); have HBV := Aside0.mk (HB3.out.trans (HB5.out.mono HB3.out.size)); have P0 : w5.cell? ⟨g3, 0, none⟩ = some (.int .i64 a0_0) := (blk_cell F3.out 0).trans rfl; have P1 : w5.cell? ⟨g3, 1, none⟩ = some (.int .i64 a0_1) := (blk_cell F3.out 1).trans rfl; have P2 : w5.cell? ⟨g3, 2, none⟩ = some (.slice A0_2 l0_2.length c0_2) := (blk_cell F3.out 2).trans rfl; have P3 : w5.cell? ⟨g3, 3, none⟩ = some (.slice A0_3 l0_3.length c0_3) := (blk_cell F3.out 3).trans rfl; have P4 : w5.cell? ⟨g3, 4, none⟩ = some (.slice A0_4 l0_4.length c0_4) := (blk_cell F3.out 4).trans rfl; have C50 : w5.cell? ⟨g5, 0, none⟩ = some (.int .i64 (11)) := (blk_cell B5.out 0).trans rfl; have C51 : w5.cell? ⟨g5, 1, none⟩ = some (.int .i64 a) := (blk_cell B5.out 1).trans rfl; have C52 : w5.cell? ⟨g5, 2, none⟩ = some (.int .i64 b) := (blk_cell B5.out 2).trans rfl))
  refine (rbelow_any a a0_1 _).mono ?_
  obtain ⟨rg, hrg⟩ : ∃ x, decide (0 ≤ a ∧ a < a0_1) = x := ⟨_, rfl⟩
  rw [hrg]
  rintro e w' ⟨rfl, ⟨n1, rfl⟩⟩
  have HRG := Aside0.mk hrg
  clear hrg
  go_wp2_with fail
  refine (rbelow_any b l0_4.length _).mono ?_
  obtain ⟨pl, hpl⟩ : ∃ x, decide (0 ≤ b ∧ b < (l0_4.length : Int)) = x := ⟨_, rfl⟩
  rw [hpl]
  rintro e w' ⟨rfl, ⟨n2, rfl⟩⟩
  have HPL := Aside0.mk hpl
  clear hpl
  cases rg with
  | false =>
    go_wp2_with fail
    go_ret
    exact ⟨by first | (rw [← HRES.out]; unfold insK; simp [HRG.out, HPL.out]; done) | (rw [← HRES.out]; unfold insK; rw [HRG.out, HPL.out]; simp), by repeat (first | exact HBV.out | apply pw_below_drewN | apply below_drew1)⟩
  | true =>
    go_wp2_with fail
    refine (rbelow_any b (l0_3.length : Int) _).mono ?_
    obtain ⟨tb, htb⟩ : ∃ x, decide (0 ≤ b ∧ b < (l0_3.length : Int)) = x := ⟨_, rfl⟩
    rw [htb]
    rintro e w' ⟨rfl, ⟨n3, rfl⟩⟩
    have Htb := Aside0.mk htb
    clear htb
    cases tb with
    | false =>
      go_wp2_with fail
      go_ret
      exact ⟨by first | (rw [← HRES.out]; unfold insK; simp [HRG.out, HPL.out, Htb.out]; done) | (rw [← HRES.out]; unfold insK; rw [HRG.out, HPL.out]; simp [Htb.out]), by repeat (first | exact HBV.out | apply pw_below_drewN | apply below_drew1)⟩
    | true =>
      have hb := of_decide_eq_true Htb.out
      obtain ⟨hb0, hb1⟩ := hb
      obtain ⟨ad, e1, hx0, hx1, hx2⟩ := at_T46 HC.out b hb0 hb1
      cases e1
      replace hx0 := (HBV.out.cell (World.block_lt_of_cell? w _ hx0)).trans hx0
      replace hx1 := (HBV.out.cell (World.block_lt_of_cell? w _ hx1)).trans hx1
      replace hx2 := (HBV.out.cell (World.block_lt_of_cell? w _ hx2)).trans hx2
      replace hb0 := eq_true hb0
      replace hb1 := eq_true hb1
      go_wp2_with fail
      go_ret
      exact ⟨by first | (rw [← HRES.out]; unfold insK; simp [HRG.out, HPL.out, Htb.out]; done) | (rw [← HRES.out]; unfold insK; rw [HRG.out, HPL.out]; simp [Htb.out]), by repeat (first | exact HBV.out | apply pw_below_drewN | apply below_drew1)⟩
set_option maxHeartbeats 8000000 in
set_option maxRecDepth 100000 in
theorem ins12 (a0_0 a0_1 : Int) (A0_2 : Option Addr) (c0_2 : Nat) (l0_2 : List (S48)) (A0_3 : Option Addr) (c0_3 : Nat) (l0_3 : List (S46)) (A0_4 : Option Addr) (c0_4 : Nat) (l0_4 : List (S33)) (a b protos : Int) (w : World) (hr0_3 : Kd.C k46 w A0_3 l0_3.length l0_3) :
    Calls Try.prog 45 #[.agg #[.int .i64 a0_0, .int .i64 a0_1, .slice A0_2 l0_2.length c0_2, .slice A0_3 l0_3.length c0_3, .slice A0_4 l0_4.length c0_4], .agg #[.int .i64 (12), .int .i64 a, .int .i64 b], .int .i64 protos] w fun e w' => e = .returned (.bool (insK 3 a0_1 l0_2.length l0_4.length l0_3 protos a b)) ∧ Below w.heap.size w w' := by
  generalize hres : insK 3 a0_1 l0_2.length l0_4.length l0_3 protos a b = res
  have HRES := Aside0.mk hres
  clear hres
  have HC := Aside0.mk hr0_3
  clear hr0_3
  have HB := Aside0.mk (Below.refl w.heap.size w)
  go_enter Try.func45, Try.ntmps45
  go_wp2_with (first | ((with_reducible refine gate_dst (N := 3) rfl ?_); refine box_event ?hg (N := 3) ?hd (cs := #[.int .i64 a0_0, .int .i64 a0_1, .slice A0_2 l0_2.length c0_2, .slice A0_3 l0_3.length c0_3, .slice A0_4 l0_4.length c0_4]) (t := 41) ?hr ?_; (case hd => rfl); (case hg => rfl); (case hr => first | (go_simp; done) | (go_simp; rfl)); intro g3 hg3 w3 hbox3 hb3; have G3 := Aside0.mk hg3; clear hg3; have B3 := Aside0.mk hbox3; clear hbox3; have HB3 := Aside0.mk hb3; clear hb3) | ((with_reducible refine gate_dst (N := 4) rfl ?_); refine box_event ?hg (N := 4) ?hd (cs := #[.int .i64 (12), .int .i64 a, .int .i64 b]) (t := 33) ?hr ?_; (case hd => rfl); (case hg => rfl); (case hr => first | (go_simp; done) | (go_simp; rfl)); intro g5 hg5 w5 hbox5 hb5; have G5 := Aside0.mk hg5; clear hg5; have HB5 := Aside0.mk (hb5); clear hb5; have B5 := Aside0.mk hbox5; clear hbox5; have lg3 := Aside0.mk (Array.getElem?_eq_some_iff.1 B3.out).1; have F3 := Aside0.mk ((HB5.out.block g3 lg3.out).trans B3.out); have HBV := Aside0.mk (HB3.out.trans (HB5.out.mono HB3.out.size)); have P0 : w5.cell? ⟨g3, 0, none⟩ = some (.int .i64 a0_0) := (blk_cell F3.out 0).trans rfl; have P1 : w5.cell? ⟨g3, 1, none⟩ = some (.int .i64 a0_1) := (blk_cell F3.out 1).trans rfl; have P2 : w5.cell? ⟨g3, 2, none⟩ = some (.slice A0_2 l0_2.length c0_2) := (blk_cell F3.out 2).trans rfl; have P3 : w5.cell? ⟨g3, 3, none⟩ = some (.slice A0_3 l0_3.length c0_3) := (blk_cell F3.out 3).trans rfl; have P4 : w5.cell? ⟨g3, 4, none⟩ = some (.slice A0_4 l0_4.length c0_4) := (blk_cell F3.out 4).trans rfl; have C50 : w5.cell? ⟨g5, 0, none⟩ = some (.int .i64 (12)) := (blk_cell B5.out 0).trans rfl; have C51 : w5.cell? ⟨g5, 1, none⟩ = some (.int .i64 a) := (blk_cell B5.out 1).trans rfl; have C52 : w5.cell? ⟨g5, 2, none⟩ = some (.int .i64 b) := (blk_cell B5.out 2).trans rfl))
  refine (rbelow_any a a0_1 _).mono ?_
  obtain ⟨rg, hrg⟩ : ∃ x, decide (0 ≤ a ∧ a < a0_1) = x := ⟨_, rfl⟩
  rw [hrg]
  rintro e w' ⟨rfl, ⟨n1, rfl⟩⟩
  have HRG := Aside0.mk hrg
  clear hrg
  go_wp2_with fail
  refine (rbelow_any b l0_4.length _).mono ?_
  obtain ⟨pl, hpl⟩ : ∃ x, decide (0 ≤ b ∧ b < (l0_4.length : Int)) = x := ⟨_, rfl⟩
  rw [hpl]
  rintro e w' ⟨rfl, ⟨n2, rfl⟩⟩
  have HPL := Aside0.mk hpl
  clear hpl
  cases rg with
  | false =>
    go_wp2_with fail
    go_ret
    exact ⟨by first | (rw [← HRES.out]; unfold insK; simp [HRG.out, HPL.out]; done) | (rw [← HRES.out]; unfold insK; rw [HRG.out, HPL.out]; simp), by repeat (first | exact HBV.out | apply pw_below_drewN | apply below_drew1)⟩
  | true =>
    go_wp2_with fail
    refine (rbelow_any b (l0_3.length : Int) _).mono ?_
    obtain ⟨tb, htb⟩ : ∃ x, decide (0 ≤ b ∧ b < (l0_3.length : Int)) = x := ⟨_, rfl⟩
    rw [htb]
    rintro e w' ⟨rfl, ⟨n3, rfl⟩⟩
    have Htb := Aside0.mk htb
    clear htb
    cases tb with
    | false =>
      go_wp2_with fail
      go_ret
      exact ⟨by first | (rw [← HRES.out]; unfold insK; simp [HRG.out, HPL.out, Htb.out]; done) | (rw [← HRES.out]; unfold insK; rw [HRG.out, HPL.out]; simp [Htb.out]), by repeat (first | exact HBV.out | apply pw_below_drewN | apply below_drew1)⟩
    | true =>
      have hb := of_decide_eq_true Htb.out
      obtain ⟨hb0, hb1⟩ := hb
      obtain ⟨ad, e1, hx0, hx1, hx2⟩ := at_T46 HC.out b hb0 hb1
      cases e1
      replace hx0 := (HBV.out.cell (World.block_lt_of_cell? w _ hx0)).trans hx0
      replace hx1 := (HBV.out.cell (World.block_lt_of_cell? w _ hx1)).trans hx1
      replace hx2 := (HBV.out.cell (World.block_lt_of_cell? w _ hx2)).trans hx2
      replace hb0 := eq_true hb0
      replace hb1 := eq_true hb1
      go_wp2_with fail
      go_ret
      exact ⟨by first | (rw [← HRES.out]; unfold insK; simp [HRG.out, HPL.out, Htb.out]; done) | (rw [← HRES.out]; unfold insK; rw [HRG.out, HPL.out]; simp [Htb.out]), by repeat (first | exact HBV.out | apply pw_below_drewN | apply below_drew1)⟩
end Go.Proofs.Ytpdcedmnkkiekaa.G
end
