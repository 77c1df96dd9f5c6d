import Derived.Test.YtpdcedmnkkiekaaPCKGx0
import Derived.Test.YtpdcedmnkkiekaaPCKGxE33
import Derived.Test.YtpdcedmnkkiekaaPCKGxE46
import Derived.Test.YtpdcedmnkkiekaaPCKGxE48
set_option linter.unusedVariables false
set_option linter.unusedSimpArgs false
section
namespace Go.Proofs.Ytpdcedmnkkiekaa.G
open Go.RowKit Go.Proofs.YtpdcedmnkkiekaaW.PrintWords Go.Proofs.YtpdcedmnkkiekaaW.PrintLast Go.Proofs.YtpdcedmnkkiekaaW.PrintMore
attribute [local go_sem] max2_int min2_int max_two min_two max_three min_three max_four min_four
set_option linter.unusedVariables false
set_option linter.unusedSimpArgs false
attribute [local go_sem high] eqA33 eqA46 eqA48
mutual
def tallowref20_same.j0 : Nat → Bool → Int → Int → List (S48) → List (S46) → List (S33) → Int → Int → List (S48) → List (S46) → List (S33) → Option (Bool)
 | 0, _, _, _, _, _, _, _, _, _, _, _ => none
 | k + 1, x46, x139000, x139001, x139002, x139003, x139004, x140000, x140001, x140002, x140003, x140004 => if x46 = true then (some false) else (tallowref20_same.l0 k 0 x139000 x139001 x139002 x139003 x139004 x140000 x140001 x140002 x140003 x140004)
def tallowref20_same.l0 : Nat → Int → Int → Int → List (S48) → List (S46) → List (S33) → Int → Int → List (S48) → List (S46) → List (S33) → Option (Bool)
 | 0, _, _, _, _, _, _, _, _, _, _, _ => none
 | k + 1, x5, x139000, x139001, x139002, x139003, x139004, x140000, x140001, x140002, x140003, x140004 => if x5 < (x139002.length : Int) then (if 0 ≤ x5 then (if x5 < (x140002.length : Int) then (if (!(((rd_T48 x139002 x5).f0) == ((rd_T48 x140002 x5).f0)) || (!(((rd_T48 x139002 x5).f1) == ((rd_T48 x140002 x5).f1)))) = true then (some false) else (tallowref20_same.l0 k (wrap64 (x5 + 1)) x139000 x139001 x139002 x139003 x139004 x140000 x140001 x140002 x140003 x140004)) else (none)) else (none)) else (tallowref20_same.l1 k 0 x139000 x139001 x139002 x139003 x139004 x140000 x140001 x140002 x140003 x140004)
def tallowref20_same.l1 : Nat → Int → Int → Int → List (S48) → List (S46) → List (S33) → Int → Int → List (S48) → List (S46) → List (S33) → Option (Bool)
 | 0, _, _, _, _, _, _, _, _, _, _, _ => none
 | k + 1, x6, x139000, x139001, x139002, x139003, x139004, x140000, x140001, x140002, x140003, x140004 => if x6 < (x139003.length : Int) then (if 0 ≤ x6 then (if x6 < (x140003.length : Int) then (if (!(((rd_T46 x139003 x6).f0) == ((rd_T46 x140003 x6).f0)) || (!(((rd_T46 x139003 x6).f1) == ((rd_T46 x140003 x6).f1)) || (!((((rd_T46 x139003 x6).f2).toList) == (((rd_T46 x140003 x6).f2).toList))))) = true then (some false) else (tallowref20_same.l1 k (wrap64 (x6 + 1)) x139000 x139001 x139002 x139003 x139004 x140000 x140001 x140002 x140003 x140004)) else (none)) else (none)) else (tallowref20_same.l2 k 0 x139000 x139001 x139002 x139003 x139004 x140000 x140001 x140002 x140003 x140004)
def tallowref20_same.l2 : Nat → Int → Int → Int → List (S48) → List (S46) → List (S33) → Int → Int → List (S48) → List (S46) → List (S33) → Option (Bool)
 | 0, _, _, _, _, _, _, _, _, _, _, _ => none
 | k + 1, x7, x139000, x139001, x139002, x139003, x139004, x140000, x140001, x140002, x140003, x140004 => if x7 < (x139004.length : Int) then (if 0 ≤ x7 then (if x7 < (x140004.length : Int) then (if (!(((rd_T33 x139004 x7).f0) == ((rd_T33 x140004 x7).f0)) || (!(((rd_T33 x139004 x7).f1) == ((rd_T33 x140004 x7).f1)) || (!(((rd_T33 x139004 x7).f2) == ((rd_T33 x140004 x7).f2))))) = true then (some false) else (tallowref20_same.l2 k (wrap64 (x7 + 1)) x139000 x139001 x139002 x139003 x139004 x140000 x140001 x140002 x140003 x140004)) else (none)) else (none)) else (some true)
end
def tallowref20_same.f (k : Nat) (a0_0 : Int) (a0_1 : Int) (l0_2 : List (S48)) (l0_3 : List (S46)) (l0_4 : List (S33)) (a1_0 : Int) (a1_1 : Int) (l1_2 : List (S48)) (l1_3 : List (S46)) (l1_4 : List (S33)) : Option (Bool) := if a0_0 = a1_0 then (if a0_1 = a1_1 then (if (l0_2.length : Int) = (l1_2.length : Int) then (if (l0_3.length : Int) = (l1_3.length : Int) then (tallowref20_same.j0 k ((l0_4.length : Int) != (l1_4.length : Int)) a0_0 a0_1 l0_2 l0_3 l0_4 a1_0 a1_1 l1_2 l1_3 l1_4) else (tallowref20_same.j0 k true a0_0 a0_1 l0_2 l0_3 l0_4 a1_0 a1_1 l1_2 l1_3 l1_4)) else (tallowref20_same.j0 k true a0_0 a0_1 l0_2 l0_3 l0_4 a1_0 a1_1 l1_2 l1_3 l1_4)) else (tallowref20_same.j0 k true a0_0 a0_1 l0_2 l0_3 l0_4 a1_0 a1_1 l1_2 l1_3 l1_4)) else (tallowref20_same.j0 k true a0_0 a0_1 l0_2 l0_3 l0_4 a1_0 a1_1 l1_2 l1_3 l1_4)
theorem tallowref20_same.mono_l : ∀ k, (∀ y0 y1 y2 y3 y4 y5 y6 y7 y8 y9 y10, LeO (tallowref20_same.j0 k y0 y1 y2 y3 y4 y5 y6 y7 y8 y9 y10) (tallowref20_same.j0 (k + 1) y0 y1 y2 y3 y4 y5 y6 y7 y8 y9 y10)) ∧ (∀ y0 y1 y2 y3 y4 y5 y6 y7 y8 y9 y10, LeO (tallowref20_same.l0 k y0 y1 y2 y3 y4 y5 y6 y7 y8 y9 y10) (tallowref20_same.l0 (k + 1) y0 y1 y2 y3 y4 y5 y6 y7 y8 y9 y10)) ∧ (∀ y0 y1 y2 y3 y4 y5 y6 y7 y8 y9 y10, LeO (tallowref20_same.l1 k y0 y1 y2 y3 y4 y5 y6 y7 y8 y9 y10) (tallowref20_same.l1 (k + 1) y0 y1 y2 y3 y4 y5 y6 y7 y8 y9 y10)) ∧ (∀ y0 y1 y2 y3 y4 y5 y6 y7 y8 y9 y10, LeO (tallowref20_same.l2 k y0 y1 y2 y3 y4 y5 y6 y7 y8 y9 y10) (tallowref20_same.l2 (k + 1) y0 y1 y2 y3 y4 y5 y6 y7 y8 y9 y10))
 | 0 => ⟨fun _ _ _ _ _ _ _ _ _ _ _ r h => by simp [tallowref20_same.j0] at h, fun _ _ _ _ _ _ _ _ _ _ _ r h => by simp [tallowref20_same.l0] at h, fun _ _ _ _ _ _ _ _ _ _ _ r h => by simp [tallowref20_same.l1] at h, fun _ _ _ _ _ _ _ _ _ _ _ r h => by simp [tallowref20_same.l2] at h⟩
 | k + 1 => by
  obtain ⟨ih0, ih1, ih2, ih3⟩ := tallowref20_same.mono_l k
  refine ⟨?_, ?_, ?_, ?_⟩
  ·intro y0 y1 y2 y3 y4 y5 y6 y7 y8 y9 y10
   unfold tallowref20_same.j0
   repeat' first
   | (with_reducible exact ih0 _ _ _ _ _ _ _ _ _ _ _)
   | (with_reducible exact ih1 _ _ _ _ _ _ _ _ _ _ _)
   | (with_reducible exact ih2 _ _ _ _ _ _ _ _ _ _ _)
   | (with_reducible exact ih3 _ _ _ _ _ _ _ _ _ _ _)
   | (with_reducible exact LeO.refl _)
   | (with_reducible exact LeO.none _)
   | (with_reducible refine LeO.ite ?_ ?_)
   | (with_reducible refine LeO.bind ?_ (fun _ => ?_))
   | exact ih0 _ _ _ _ _ _ _ _ _ _ _
   | exact ih1 _ _ _ _ _ _ _ _ _ _ _
   | exact ih2 _ _ _ _ _ _ _ _ _ _ _
   | exact ih3 _ _ _ _ _ _ _ _ _ _ _
   | exact LeO.none _
   | refine LeO.ite ?_ ?_
   | refine LeO.bind ?_ (fun _ => ?_)
  ·intro y0 y1 y2 y3 y4 y5 y6 y7 y8 y9 y10
   unfold tallowref20_same.l0
   repeat' first
   | (with_reducible exact ih0 _ _ _ _ _ _ _ _ _ _ _)
   | (with_reducible exact ih1 _ _ _ _ _ _ _ _ _ _ _)
   | (with_reducible exact ih2 _ _ _ _ _ _ _ _ _ _ _)
   | (with_reducible exact ih3 _ _ _ _ _ _ _ _ _ _ _)
   | (with_reducible exact LeO.refl _)
   | (with_reducible exact LeO.none _)
   | (with_reducible refine LeO.ite ?_ ?_)
   | (with_reducible refine LeO.bind ?_ (fun _ => ?_))
   | exact ih0 _ _ _ _ _ _ _ _ _ _ _
   | exact ih1 _ _ _ _ _ _ _ _ _ _ _
   | exact ih2 _ _ _ _ _ _ _ _ _ _ _
   | exact ih3 _ _ _ _ _ _ _ _ _ _ _
   | exact LeO.none _
   | refine LeO.ite ?_ ?_
   | refine LeO.bind ?_ (fun _ => ?_)
  ·intro y0 y1 y2 y3 y4 y5 y6 y7 y8 y9 y10
   unfold tallowref20_same.l1
   repeat' first
   | (with_reducible exact ih0 _ _ _ _ _ _ _ _ _ _ _)
   | (with_reducible exact ih1 _ _ _ _ _ _ _ _ _ _ _)
   | (with_reducible exact ih2 _ _ _ _ _ _ _ _ _ _ _)
   | (with_reducible exact ih3 _ _ _ _ _ _ _ _ _ _ _)
   | (with_reducible exact LeO.refl _)
   | (with_reducible exact LeO.none _)
   | (with_reducible refine LeO.ite ?_ ?_)
   | (with_reducible refine LeO.bind ?_ (fun _ => ?_))
   | exact ih0 _ _ _ _ _ _ _ _ _ _ _
   | exact ih1 _ _ _ _ _ _ _ _ _ _ _
   | exact ih2 _ _ _ _ _ _ _ _ _ _ _
   | exact ih3 _ _ _ _ _ _ _ _ _ _ _
   | exact LeO.none _
   | refine LeO.ite ?_ ?_
   | refine LeO.bind ?_ (fun _ => ?_)
  ·intro y0 y1 y2 y3 y4 y5 y6 y7 y8 y9 y10
   unfold tallowref20_same.l2
   repeat' first
   | (with_reducible exact ih0 _ _ _ _ _ _ _ _ _ _ _)
   | (with_reducible exact ih1 _ _ _ _ _ _ _ _ _ _ _)
   | (with_reducible exact ih2 _ _ _ _ _ _ _ _ _ _ _)
   | (with_reducible exact ih3 _ _ _ _ _ _ _ _ _ _ _)
   | (with_reducible exact LeO.refl _)
   | (with_reducible exact LeO.none _)
   | (with_reducible refine LeO.ite ?_ ?_)
   | (with_reducible refine LeO.bind ?_ (fun _ => ?_))
   | exact ih0 _ _ _ _ _ _ _ _ _ _ _
   | exact ih1 _ _ _ _ _ _ _ _ _ _ _
   | exact ih2 _ _ _ _ _ _ _ _ _ _ _
   | exact ih3 _ _ _ _ _ _ _ _ _ _ _
   | exact LeO.none _
   | refine LeO.ite ?_ ?_
   | refine LeO.bind ?_ (fun _ => ?_)
theorem tallowref20_same.mono : ∀ a0 a1 a2 a3 a4 a5 a6 a7 a8 a9 k, LeO (tallowref20_same.f k a0 a1 a2 a3 a4 a5 a6 a7 a8 a9) (tallowref20_same.f (k + 1) a0 a1 a2 a3 a4 a5 a6 a7 a8 a9) := by
 intro a0 a1 a2 a3 a4 a5 a6 a7 a8 a9 k
 obtain ⟨ih0, ih1, ih2, ih3⟩ := tallowref20_same.mono_l k
 unfold tallowref20_same.f
 repeat' first
   | (with_reducible exact ih0 _ _ _ _ _ _ _ _ _ _ _)
   | (with_reducible exact ih1 _ _ _ _ _ _ _ _ _ _ _)
   | (with_reducible exact ih2 _ _ _ _ _ _ _ _ _ _ _)
   | (with_reducible exact ih3 _ _ _ _ _ _ _ _ _ _ _)
   | (with_reducible exact LeO.refl _)
   | (with_reducible exact LeO.none _)
   | (with_reducible refine LeO.ite ?_ ?_)
   | (with_reducible refine LeO.bind ?_ (fun _ => ?_))
   | exact ih0 _ _ _ _ _ _ _ _ _ _ _
   | exact ih1 _ _ _ _ _ _ _ _ _ _ _
   | exact ih2 _ _ _ _ _ _ _ _ _ _ _
   | exact ih3 _ _ _ _ _ _ _ _ _ _ _
   | exact LeO.none _
   | refine LeO.ite ?_ ?_
   | refine LeO.bind ?_ (fun _ => ?_)
set_option maxHeartbeats 8000000 in
set_option maxRecDepth 100000 in
theorem tallowref20_same.calls (k : Nat) (a0_0 : Int) (a0_1 : Int) (A0_2 : Option Addr) (c0_2 : Nat) (l0_2 : List (S48)) (A0_3 : Option Addr) (c0_3 : Nat) (l0_3 : List (S46)) (A0_4 : Option Addr) (c0_4 : Nat) (l0_4 : List (S33)) (a1_0 : Int) (a1_1 : Int) (A1_2 : Option Addr) (c1_2 : Nat) (l1_2 : List (S48)) (A1_3 : Option Addr) (c1_3 : Nat) (l1_3 : List (S46)) (A1_4 : Option Addr) (c1_4 : Nat) (l1_4 : List (S33)) (r : Bool) (w : World) (hr0_2 : Kd.C k48 w A0_2 l0_2.length l0_2) (hc0_2 : l0_2.length ≤ c0_2) (hr0_3 : Kd.C k46 w A0_3 l0_3.length l0_3) (hc0_3 : l0_3.length ≤ c0_3) (hr0_4 : Kd.C k33 w A0_4 l0_4.length l0_4) (hc0_4 : l0_4.length ≤ c0_4) (hr1_2 : Kd.C k48 w A1_2 l1_2.length l1_2) (hc1_2 : l1_2.length ≤ c1_2) (hr1_3 : Kd.C k46 w A1_3 l1_3.length l1_3) (hc1_3 : l1_3.length ≤ c1_3) (hr1_4 : Kd.C k33 w A1_4 l1_4.length l1_4) (hc1_4 : l1_4.length ≤ c1_4) (h : tallowref20_same.f k a0_0 a0_1 l0_2 l0_3 l0_4 a1_0 a1_1 l1_2 l1_3 l1_4 = some r) :
  Calls Try.prog 32 #[.agg #[.int .i64 a0_0, .int .i64 a0_1, .slice A0_2 l0_2.length c0_2, .slice A0_3 l0_3.length c0_3, .slice A0_4 l0_4.length c0_4], .agg #[.int .i64 a1_0, .int .i64 a1_1, .slice A1_2 l1_2.length c1_2, .slice A1_3 l1_3.length c1_3, .slice A1_4 l1_4.length c1_4]] w fun e w' => e = .returned (.bool r) ∧ Below w.heap.size w w' := by
 have hu41 := Try.underlying41
 have hu48 := Try.underlying48
 have hu46 := Try.underlying46
 have hu33 := Try.underlying33
 have HR0_2 := Aside0.mk hr0_2
 have HC0_2 := Aside0.mk hc0_2
 clear hr0_2 hc0_2
 have HR0_3 := Aside0.mk hr0_3
 have HC0_3 := Aside0.mk hc0_3
 clear hr0_3 hc0_3
 have HR0_4 := Aside0.mk hr0_4
 have HC0_4 := Aside0.mk hc0_4
 clear hr0_4 hc0_4
 have HR1_2 := Aside0.mk hr1_2
 have HC1_2 := Aside0.mk hc1_2
 clear hr1_2 hc1_2
 have HR1_3 := Aside0.mk hr1_3
 have HC1_3 := Aside0.mk hc1_3
 clear hr1_3 hc1_3
 have HR1_4 := Aside0.mk hr1_4
 have HC1_4 := Aside0.mk hc1_4
 clear hr1_4 hc1_4
 have HB := Aside0.mk (Below.refl w.heap.size w)
 have H : (if a0_0 = a1_0 then (if a0_1 = a1_1 then (if (l0_2.length : Int) = (l1_2.length : Int) then (if (l0_3.length : Int) = (l1_3.length : Int) then (tallowref20_same.j0 k ((l0_4.length : Int) != (l1_4.length : Int)) a0_0 a0_1 l0_2 l0_3 l0_4 a1_0 a1_1 l1_2 l1_3 l1_4) else (tallowref20_same.j0 k true a0_0 a0_1 l0_2 l0_3 l0_4 a1_0 a1_1 l1_2 l1_3 l1_4)) else (tallowref20_same.j0 k true a0_0 a0_1 l0_2 l0_3 l0_4 a1_0 a1_1 l1_2 l1_3 l1_4)) else (tallowref20_same.j0 k true a0_0 a0_1 l0_2 l0_3 l0_4 a1_0 a1_1 l1_2 l1_3 l1_4)) else (tallowref20_same.j0 k true a0_0 a0_1 l0_2 l0_3 l0_4 a1_0 a1_1 l1_2 l1_3 l1_4)) = some r := h
 clear h
 have HC3 := Aside0.mk H
 clear H
 go_enter Try.func32, Try.ntmps32
 go_upto_region 1 with (first | ((with_reducible refine gate_dst (N := 2) rfl ?_); (try (refine gate_guard (by rfl) ?_; dsimp only)); refine box_event ?hg (N := 2) ?hd (cs := #[.int .i64 a0_0, .int .i64 a0_1, .slice A0_2 l0_2.length c0_2, .slice A0_3 l0_3.length c0_3, .slice A0_4 l0_4.length c0_4]) (t := 41) ?hr ?_; (case hd => rfl); (case hg => rfl); (case hr => first | (go_simp; done) | (go_simp; rfl)); intro gb138 hg w4 hbox hb; have n0_ := Aside0.mk (below_step (by repeat (first | (with_reducible first | exact HB.out | apply below_alloc | apply q0q | apply q2q) | exact HB.out)) hb); have n1_ := Aside0.mk (hbox); have n2_ := Aside0.mk ((by rw [hg]; exact (below_size (by repeat (first | (with_reducible first | exact HB.out | apply below_alloc | apply q0q | apply q2q) | exact HB.out))) : w.heap.size ≤ gb138)); have n3_ := Aside0.mk ((by rw [hg]; exact (below_size (by repeat (first | (with_reducible first | exact HB.out | apply below_alloc | apply q0q | apply q2q) | exact HB.out))) : w.heap.size ≤ gb138)); clear HB; have HB := n0_; have BK138 := n1_; have GW138 := n2_; have GE138 := n3_; clear n0_ n1_ n2_ n3_; clear hb hbox hg) | ((with_reducible refine gate_dst (N := 3) rfl ?_); (try (refine gate_guard (by rfl) ?_; dsimp only)); refine box_event ?hg (N := 3) ?hd (cs := #[.int .i64 a1_0, .int .i64 a1_1, .slice A1_2 l1_2.length c1_2, .slice A1_3 l1_3.length c1_3, .slice A1_4 l1_4.length c1_4]) (t := 41) ?hr ?_; (case hd => rfl); (case hg => rfl); (case hr => first | (go_simp; done) | (go_simp; rfl)); intro gb139 hg w5 hbox hb; have n0_ := Aside0.mk (blk_below (g := gb138) (o := .cells #[.int .i64 a0_0, .int .i64 a0_1, .slice A0_2 l0_2.length c0_2, .slice A0_3 l0_3.length c0_3, .slice A0_4 l0_4.length c0_4] 41 (0, 0)) (by (with_reducible repeat (first | refine blk_drewN ?_ _ | refine blk_drew ?_ | refine blk_alloc ?_ _)); exact BK138.out) hb); have n1_ := Aside0.mk (below_step (by repeat (first | (with_reducible first | exact HB.out | apply below_alloc | apply q0q | apply q2q | refine below_set ?_ GE138.out) | exact HB.out)) hb); have n2_ := Aside0.mk (hbox); have n3_ := Aside0.mk ((by rw [hg]; exact (below_size (by repeat (first | (with_reducible first | exact HB.out | apply below_alloc | apply q0q | apply q2q | refine below_set ?_ GE138.out) | exact HB.out))) : w.heap.size ≤ gb139)); have n4_ := Aside0.mk ((by rw [hg]; exact (below_size (by repeat (first | (with_reducible first | exact HB.out | apply below_alloc | apply q0q | apply q2q | refine below_set ?_ GE138.out) | exact HB.out))) : w.heap.size ≤ gb139)); have n5_ := Aside0.mk ((by rw [hg]; exact Nat.ne_of_lt (blk_lt (g := gb138) (o := .cells #[.int .i64 a0_0, .int .i64 a0_1, .slice A0_2 l0_2.length c0_2, .slice A0_3 l0_3.length c0_3, .slice A0_4 l0_4.length c0_4] 41 (0, 0)) (by (with_reducible repeat (first | refine blk_drewN ?_ _ | refine blk_drew ?_ | refine blk_alloc ?_ _)); exact BK138.out)) : gb138 ≠ gb139)); have n6_ := Aside0.mk ((by rw [hg]; exact Nat.ne_of_gt (blk_lt (g := gb138) (o := .cells #[.int .i64 a0_0, .int .i64 a0_1, .slice A0_2 l0_2.length c0_2, .slice A0_3 l0_3.length c0_3, .slice A0_4 l0_4.length c0_4] 41 (0, 0)) (by (with_reducible repeat (first | refine blk_drewN ?_ _ | refine blk_drew ?_ | refine blk_alloc ?_ _)); exact BK138.out)) : gb139 ≠ gb138)); clear BK138; clear HB; have BK138 := n0_; have HB := n1_; have BK139 := n2_; have GW139 := n3_; have GE139 := n4_; have NB138_139 := n5_; have NB139_138 := n6_; clear n0_ n1_ n2_ n3_ n4_ n5_ n6_; clear hb hbox hg))
 repeat (go_quiet (first | ((with_reducible refine gate_dst (N := 2) rfl ?_); (try (refine gate_guard (by rfl) ?_; dsimp only)); refine box_event ?hg (N := 2) ?hd (cs := #[.int .i64 a0_0, .int .i64 a0_1, .slice A0_2 l0_2.length c0_2, .slice A0_3 l0_3.length c0_3, .slice A0_4 l0_4.length c0_4]) (t := 41) ?hr ?_; (case hd => rfl); (case hg => rfl); (case hr => first | (go_simp; done) | (go_simp; rfl)); intro gb138 hg w4 hbox hb; have n0_ := Aside0.mk (below_step (by repeat (first | (with_reducible first | exact HB.out | apply below_alloc | apply q0q | apply q2q) | exact HB.out)) hb); have n1_ := Aside0.mk (hbox); have n2_ := Aside0.mk ((by rw [hg]; exact (below_size (by repeat (first | (with_reducible first | exact HB.out | apply below_alloc | apply q0q | apply q2q) | exact HB.out))) : w.heap.size ≤ gb138)); have n3_ := Aside0.mk ((by rw [hg]; exact (below_size (by repeat (first | (with_reducible first | exact HB.out | apply below_alloc | apply q0q | apply q2q) | exact HB.out))) : w.heap.size ≤ gb138)); clear HB; have HB := n0_; have BK138 := n1_; have GW138 := n2_; have GE138 := n3_; clear n0_ n1_ n2_ n3_; clear hb hbox hg) | ((with_reducible refine gate_dst (N := 3) rfl ?_); (try (refine gate_guard (by rfl) ?_; dsimp only)); refine box_event ?hg (N := 3) ?hd (cs := #[.int .i64 a1_0, .int .i64 a1_1, .slice A1_2 l1_2.length c1_2, .slice A1_3 l1_3.length c1_3, .slice A1_4 l1_4.length c1_4]) (t := 41) ?hr ?_; (case hd => rfl); (case hg => rfl); (case hr => first | (go_simp; done) | (go_simp; rfl)); intro gb139 hg w5 hbox hb; have n0_ := Aside0.mk (blk_below (g := gb138) (o := .cells #[.int .i64 a0_0, .int .i64 a0_1, .slice A0_2 l0_2.length c0_2, .slice A0_3 l0_3.length c0_3, .slice A0_4 l0_4.length c0_4] 41 (0, 0)) (by (with_reducible repeat (first | refine blk_drewN ?_ _ | refine blk_drew ?_ | refine blk_alloc ?_ _)); exact BK138.out) hb); have n1_ := Aside0.mk (below_step (by repeat (first | (with_reducible first | exact HB.out | apply below_alloc | apply q0q | apply q2q | refine below_set ?_ GE138.out) | exact HB.out)) hb); have n2_ := Aside0.mk (hbox); have n3_ := Aside0.mk ((by rw [hg]; exact (below_size (by repeat (first | (with_reducible first | exact HB.out | apply below_alloc | apply q0q | apply q2q | refine below_set ?_ GE138.out) | exact HB.out))) : w.heap.size ≤ gb139)); have n4_ := Aside0.mk ((by rw [hg]; exact (below_size (by repeat (first | (with_reducible first | exact HB.out | apply below_alloc | apply q0q | apply q2q | refine below_set ?_ GE138.out) | exact HB.out))) : w.heap.size ≤ gb139)); have n5_ := Aside0.mk ((by rw [hg]; exact Nat.ne_of_lt (blk_lt (g := gb138) (o := .cells #[.int .i64 a0_0, .int .i64 a0_1, .slice A0_2 l0_2.length c0_2, .slice A0_3 l0_3.length c0_3, .slice A0_4 l0_4.length c0_4] 41 (0, 0)) (by (with_reducible repeat (first | refine blk_drewN ?_ _ | refine blk_drew ?_ | refine blk_alloc ?_ _)); exact BK138.out)) : gb138 ≠ gb139)); have n6_ := Aside0.mk ((by rw [hg]; exact Nat.ne_of_gt (blk_lt (g := gb138) (o := .cells #[.int .i64 a0_0, .int .i64 a0_1, .slice A0_2 l0_2.length c0_2, .slice A0_3 l0_3.length c0_3, .slice A0_4 l0_4.length c0_4] 41 (0, 0)) (by (with_reducible repeat (first | refine blk_drewN ?_ _ | refine blk_drew ?_ | refine blk_alloc ?_ _)); exact BK138.out)) : gb139 ≠ gb138)); clear BK138; clear HB; have BK138 := n0_; have HB := n1_; have BK139 := n2_; have GW139 := n3_; have GE139 := n4_; have NB138_139 := n5_; have NB139_138 := n6_; clear n0_ n1_ n2_ n3_ n4_ n5_ n6_; clear hb hbox hg)); go_upto_region 1 with (first | ((with_reducible refine gate_dst (N := 2) rfl ?_); (try (refine gate_guard (by rfl) ?_; dsimp only)); refine box_event ?hg (N := 2) ?hd (cs := #[.int .i64 a0_0, .int .i64 a0_1, .slice A0_2 l0_2.length c0_2, .slice A0_3 l0_3.length c0_3, .slice A0_4 l0_4.length c0_4]) (t := 41) ?hr ?_; (case hd => rfl); (case hg => rfl); (case hr => first | (go_simp; done) | (go_simp; rfl)); intro gb138 hg w4 hbox hb; have n0_ := Aside0.mk (below_step (by repeat (first | (with_reducible first | exact HB.out | apply below_alloc | apply q0q | apply q2q) | exact HB.out)) hb); have n1_ := Aside0.mk (hbox); have n2_ := Aside0.mk ((by rw [hg]; exact (below_size (by repeat (first | (with_reducible first | exact HB.out | apply below_alloc | apply q0q | apply q2q) | exact HB.out))) : w.heap.size ≤ gb138)); have n3_ := Aside0.mk ((by rw [hg]; exact (below_size (by repeat (first | (with_reducible first | exact HB.out | apply below_alloc | apply q0q | apply q2q) | exact HB.out))) : w.heap.size ≤ gb138)); clear HB; have HB := n0_; have BK138 := n1_; have GW138 := n2_; have GE138 := n3_; clear n0_ n1_ n2_ n3_; clear hb hbox hg) | ((with_reducible refine gate_dst (N := 3) rfl ?_); (try (refine gate_guard (by rfl) ?_; dsimp only)); refine box_event ?hg (N := 3) ?hd (cs := #[.int .i64 a1_0, .int .i64 a1_1, .slice A1_2 l1_2.length c1_2, .slice A1_3 l1_3.length c1_3, .slice A1_4 l1_4.length c1_4]) (t := 41) ?hr ?_; (case hd => rfl); (case hg => rfl); (case hr => first | (go_simp; done) | (go_simp; rfl)); intro gb139 hg w5 hbox hb; have n0_ := Aside0.mk (blk_below (g := gb138) (o := .cells #[.int .i64 a0_0, .int .i64 a0_1, .slice A0_2 l0_2.length c0_2, .slice A0_3 l0_3.length c0_3, .slice A0_4 l0_4.length c0_4] 41 (0, 0)) (by (with_reducible repeat (first | refine blk_drewN ?_ _ | refine blk_drew ?_ | refine blk_alloc ?_ _)); exact BK138.out) hb); have n1_ := Aside0.mk (below_step (by repeat (first | (with_reducible first | exact HB.out | apply below_alloc | apply q0q | apply q2q | refine below_set ?_ GE138.out) | exact HB.out)) hb); have n2_ := Aside0.mk (hbox); have n3_ := Aside0.mk ((by rw [hg]; exact (below_size (by repeat (first | (with_reducible first | exact HB.out | apply below_alloc | apply q0q | apply q2q | refine below_set ?_ GE138.out) | exact HB.out))) : w.heap.size ≤ gb139)); have n4_ := Aside0.mk ((by rw [hg]; exact (below_size (by repeat (first | (with_reducible first | exact HB.out | apply below_alloc | apply q0q | apply q2q | refine below_set ?_ GE138.out) | exact HB.out))) : w.heap.size ≤ gb139)); have n5_ := Aside0.mk ((by rw [hg]; exact Nat.ne_of_lt (blk_lt (g := gb138) (o := .cells #[.int .i64 a0_0, .int .i64 a0_1, .slice A0_2 l0_2.length c0_2, .slice A0_3 l0_3.length c0_3, .slice A0_4 l0_4.length c0_4] 41 (0, 0)) (by (with_reducible repeat (first | refine blk_drewN ?_ _ | refine blk_drew ?_ | refine blk_alloc ?_ _)); exact BK138.out)) : gb138 ≠ gb139)); have n6_ := Aside0.mk ((by rw [hg]; exact Nat.ne_of_gt (blk_lt (g := gb138) (o := .cells #[.int .i64 a0_0, .int .i64 a0_1, .slice A0_2 l0_2.length c0_2, .slice A0_3 l0_3.length c0_3, .slice A0_4 l0_4.length c0_4] 41 (0, 0)) (by (with_reducible repeat (first | refine blk_drewN ?_ _ | refine blk_drew ?_ | refine blk_alloc ?_ _)); exact BK138.out)) : gb139 ≠ gb138)); clear BK138; clear HB; have BK138 := n0_; have HB := n1_; have BK139 := n2_; have GW139 := n3_; have GE139 := n4_; have NB138_139 := n5_; have NB139_138 := n6_; clear n0_ n1_ n2_ n3_ n4_ n5_ n6_; clear hb hbox hg)))
 (try simp only [Act.put, List.setIfInBounds_toArray, List.set_cons_zero, List.set_cons_succ])
 go_cut [46] (fun v46 wc => ∃ (kq : Nat) (x46_2 : Bool), v46 = .bool x46_2 ∧ Aside0 (tallowref20_same.j0 kq x46_2 a0_0 a0_1 l0_2 l0_3 l0_4 a1_0 a1_1 l1_2 l1_3 l1_4 = some r) ∧ Aside0 (kq ≤ k) ∧ Aside0 (wc.heap[gb138]? = some (.cells #[.int .i64 a0_0, .int .i64 a0_1, (.slice A0_2 l0_2.length c0_2), (.slice A0_3 l0_3.length c0_3), (.slice A0_4 l0_4.length c0_4)] 41 (0, 0))) ∧ Aside0 (wc.heap[gb139]? = some (.cells #[.int .i64 a1_0, .int .i64 a1_1, (.slice A1_2 l1_2.length c1_2), (.slice A1_3 l1_3.length c1_3), (.slice A1_4 l1_4.length c1_4)] 41 (0, 0))) ∧ Aside0 (Below w.heap.size w wc))
 case first =>
  have H := HC3.out
  clear HC3
  by_cases c6 : a0_0 = a1_0
  ·rw [if_pos c6] at H
   have c6b0 : (a0_0 == a1_0) = true := beq_iff_eq.mpr c6
   have c6b1 : (a0_0 != a1_0) = false := bne_eq_false_iff_eq.mpr c6
   clear c6
   (first | rw [c6b0] | (simp only [i64_w, i32_w]; rw [c6b0]) | skip)
   by_cases c7 : a0_1 = a1_1
   ·rw [if_pos c7] at H
    have c7b0 : (a0_1 == a1_1) = true := beq_iff_eq.mpr c7
    have c7b1 : (a0_1 != a1_1) = false := bne_eq_false_iff_eq.mpr c7
    clear c7
    by_cases c8 : (l0_2.length : Int) = (l1_2.length : Int)
    ·rw [if_pos c8] at H
     have c8b0 : ((l0_2.length : Int) == (l1_2.length : Int)) = true := beq_iff_eq.mpr c8
     have c8b1 : ((l0_2.length : Int) != (l1_2.length : Int)) = false := bne_eq_false_iff_eq.mpr c8
     have c8b2 : (l0_2.length == l1_2.length) = true := by first | simpa using c8 | (simp at c8 ⊢; omega)
     clear c8
     by_cases c9 : (l0_3.length : Int) = (l1_3.length : Int)
     ·rw [if_pos c9] at H
      have c9b0 : ((l0_3.length : Int) == (l1_3.length : Int)) = true := beq_iff_eq.mpr c9
      have c9b1 : ((l0_3.length : Int) != (l1_3.length : Int)) = false := bne_eq_false_iff_eq.mpr c9
      have c9b2 : (l0_3.length == l1_3.length) = true := by first | simpa using c9 | (simp at c9 ⊢; omega)
      clear c9
      have H' := Aside0.mk H
      clear H
      have hnb10 := NB138_139.out
      have hnc10 := NB139_138.out
      have hcz11_0 : w5.cell? ⟨gb138, 0, none⟩ = some (.int .i64 a0_0) := (q1q BK138.out 0).trans rfl
      have hcz11_1 : w5.cell? ⟨gb138, 1, none⟩ = some (.int .i64 a0_1) := (q1q BK138.out 1).trans rfl
      have hcz11_2 : w5.cell? ⟨gb138, 2, none⟩ = some (.slice A0_2 l0_2.length c0_2) := (q1q BK138.out 2).trans rfl
      have hcz11_3 : w5.cell? ⟨gb138, 3, none⟩ = some (.slice A0_3 l0_3.length c0_3) := (q1q BK138.out 3).trans rfl
      have hcz11_4 : w5.cell? ⟨gb138, 4, none⟩ = some (.slice A0_4 l0_4.length c0_4) := (q1q BK138.out 4).trans rfl
      have hfz11_0 := blk_frozen BK138.out 0
      have hfz11_1 := blk_frozen BK138.out 1
      have hfz11_2 := blk_frozen BK138.out 2
      have hfz11_3 := blk_frozen BK138.out 3
      have hfz11_4 := blk_frozen BK138.out 4
      have hcz12_0 : w5.cell? ⟨gb139, 0, none⟩ = some (.int .i64 a1_0) := (q1q BK139.out 0).trans rfl
      have hcz12_1 : w5.cell? ⟨gb139, 1, none⟩ = some (.int .i64 a1_1) := (q1q BK139.out 1).trans rfl
      have hcz12_2 : w5.cell? ⟨gb139, 2, none⟩ = some (.slice A1_2 l1_2.length c1_2) := (q1q BK139.out 2).trans rfl
      have hcz12_3 : w5.cell? ⟨gb139, 3, none⟩ = some (.slice A1_3 l1_3.length c1_3) := (q1q BK139.out 3).trans rfl
      have hcz12_4 : w5.cell? ⟨gb139, 4, none⟩ = some (.slice A1_4 l1_4.length c1_4) := (q1q BK139.out 4).trans rfl
      have hfz12_0 := blk_frozen BK139.out 0
      have hfz12_1 := blk_frozen BK139.out 1
      have hfz12_2 := blk_frozen BK139.out 2
      have hfz12_3 := blk_frozen BK139.out 3
      have hfz12_4 := blk_frozen BK139.out 4
      go_wp2
      repeat (go_quiet (fail); try go_wp2)
      go_meet
      case rel => exact ⟨_, (((l0_4.length : Int) != (l1_4.length : Int))), (by first | rfl | (simp; done) | (simp [*]; done)), H', ⟨by first | omega | exact Nat.le_refl _⟩, ⟨by (with_reducible repeat (first | refine blk_drewN ?_ _ | refine blk_drew ?_ | refine blk_alloc ?_ _)); exact BK138.out⟩, ⟨by (with_reducible repeat (first | refine blk_drewN ?_ _ | refine blk_drew ?_ | refine blk_alloc ?_ _)); exact BK139.out⟩, ⟨by repeat (first | (with_reducible first | exact HB.out | apply below_alloc | apply q0q | apply q2q | refine below_set ?_ GE138.out | refine below_set ?_ GE139.out) | exact HB.out)⟩⟩
     ·rw [if_neg c9] at H
      have c9b0 : ((l0_3.length : Int) == (l1_3.length : Int)) = false := beq_eq_false_iff_ne.mpr c9
      have c9b1 : ((l0_3.length : Int) != (l1_3.length : Int)) = true := bne_iff_ne.mpr c9
      have c9b2 : (l0_3.length == l1_3.length) = false := by first | simpa using c9 | (simp at c9 ⊢; omega)
      have H' := Aside0.mk H
      clear H
      have hnb13 := NB138_139.out
      have hnc13 := NB139_138.out
      have hcz14_0 : w5.cell? ⟨gb138, 0, none⟩ = some (.int .i64 a0_0) := (q1q BK138.out 0).trans rfl
      have hcz14_1 : w5.cell? ⟨gb138, 1, none⟩ = some (.int .i64 a0_1) := (q1q BK138.out 1).trans rfl
      have hcz14_2 : w5.cell? ⟨gb138, 2, none⟩ = some (.slice A0_2 l0_2.length c0_2) := (q1q BK138.out 2).trans rfl
      have hcz14_3 : w5.cell? ⟨gb138, 3, none⟩ = some (.slice A0_3 l0_3.length c0_3) := (q1q BK138.out 3).trans rfl
      have hcz14_4 : w5.cell? ⟨gb138, 4, none⟩ = some (.slice A0_4 l0_4.length c0_4) := (q1q BK138.out 4).trans rfl
      have hfz14_0 := blk_frozen BK138.out 0
      have hfz14_1 := blk_frozen BK138.out 1
      have hfz14_2 := blk_frozen BK138.out 2
      have hfz14_3 := blk_frozen BK138.out 3
      have hfz14_4 := blk_frozen BK138.out 4
      have hcz15_0 : w5.cell? ⟨gb139, 0, none⟩ = some (.int .i64 a1_0) := (q1q BK139.out 0).trans rfl
      have hcz15_1 : w5.cell? ⟨gb139, 1, none⟩ = some (.int .i64 a1_1) := (q1q BK139.out 1).trans rfl
      have hcz15_2 : w5.cell? ⟨gb139, 2, none⟩ = some (.slice A1_2 l1_2.length c1_2) := (q1q BK139.out 2).trans rfl
      have hcz15_3 : w5.cell? ⟨gb139, 3, none⟩ = some (.slice A1_3 l1_3.length c1_3) := (q1q BK139.out 3).trans rfl
      have hcz15_4 : w5.cell? ⟨gb139, 4, none⟩ = some (.slice A1_4 l1_4.length c1_4) := (q1q BK139.out 4).trans rfl
      have hfz15_0 := blk_frozen BK139.out 0
      have hfz15_1 := blk_frozen BK139.out 1
      have hfz15_2 := blk_frozen BK139.out 2
      have hfz15_3 := blk_frozen BK139.out 3
      have hfz15_4 := blk_frozen BK139.out 4
      go_wp2
      repeat (go_quiet (fail); try go_wp2)
      go_meet
      case rel => exact ⟨_, (true), (by first | rfl | (simp; done) | (simp [*]; done)), H', ⟨by first | omega | exact Nat.le_refl _⟩, ⟨by (with_reducible repeat (first | refine blk_drewN ?_ _ | refine blk_drew ?_ | refine blk_alloc ?_ _)); exact BK138.out⟩, ⟨by (with_reducible repeat (first | refine blk_drewN ?_ _ | refine blk_drew ?_ | refine blk_alloc ?_ _)); exact BK139.out⟩, ⟨by repeat (first | (with_reducible first | exact HB.out | apply below_alloc | apply q0q | apply q2q | refine below_set ?_ GE138.out | refine below_set ?_ GE139.out) | exact HB.out)⟩⟩
    ·rw [if_neg c8] at H
     have c8b0 : ((l0_2.length : Int) == (l1_2.length : Int)) = false := beq_eq_false_iff_ne.mpr c8
     have c8b1 : ((l0_2.length : Int) != (l1_2.length : Int)) = true := bne_iff_ne.mpr c8
     have c8b2 : (l0_2.length == l1_2.length) = false := by first | simpa using c8 | (simp at c8 ⊢; omega)
     have H' := Aside0.mk H
     clear H
     have hnb16 := NB138_139.out
     have hnc16 := NB139_138.out
     have hcz17_0 : w5.cell? ⟨gb138, 0, none⟩ = some (.int .i64 a0_0) := (q1q BK138.out 0).trans rfl
     have hcz17_1 : w5.cell? ⟨gb138, 1, none⟩ = some (.int .i64 a0_1) := (q1q BK138.out 1).trans rfl
     have hcz17_2 : w5.cell? ⟨gb138, 2, none⟩ = some (.slice A0_2 l0_2.length c0_2) := (q1q BK138.out 2).trans rfl
     have hcz17_3 : w5.cell? ⟨gb138, 3, none⟩ = some (.slice A0_3 l0_3.length c0_3) := (q1q BK138.out 3).trans rfl
     have hcz17_4 : w5.cell? ⟨gb138, 4, none⟩ = some (.slice A0_4 l0_4.length c0_4) := (q1q BK138.out 4).trans rfl
     have hfz17_0 := blk_frozen BK138.out 0
     have hfz17_1 := blk_frozen BK138.out 1
     have hfz17_2 := blk_frozen BK138.out 2
     have hfz17_3 := blk_frozen BK138.out 3
     have hfz17_4 := blk_frozen BK138.out 4
     have hcz18_0 : w5.cell? ⟨gb139, 0, none⟩ = some (.int .i64 a1_0) := (q1q BK139.out 0).trans rfl
     have hcz18_1 : w5.cell? ⟨gb139, 1, none⟩ = some (.int .i64 a1_1) := (q1q BK139.out 1).trans rfl
     have hcz18_2 : w5.cell? ⟨gb139, 2, none⟩ = some (.slice A1_2 l1_2.length c1_2) := (q1q BK139.out 2).trans rfl
     have hcz18_3 : w5.cell? ⟨gb139, 3, none⟩ = some (.slice A1_3 l1_3.length c1_3) := (q1q BK139.out 3).trans rfl
     have hcz18_4 : w5.cell? ⟨gb139, 4, none⟩ = some (.slice A1_4 l1_4.length c1_4) := (q1q BK139.out 4).trans rfl
     have hfz18_0 := blk_frozen BK139.out 0
     have hfz18_1 := blk_frozen BK139.out 1
     have hfz18_2 := blk_frozen BK139.out 2
     have hfz18_3 := blk_frozen BK139.out 3
     have hfz18_4 := blk_frozen BK139.out 4
     go_wp2
     repeat (go_quiet (fail); try go_wp2)
     go_meet
     case rel => exact ⟨_, (true), (by first | rfl | (simp; done) | (simp [*]; done)), H', ⟨by first | omega | exact Nat.le_refl _⟩, ⟨by (with_reducible repeat (first | refine blk_drewN ?_ _ | refine blk_drew ?_ | refine blk_alloc ?_ _)); exact BK138.out⟩, ⟨by (with_reducible repeat (first | refine blk_drewN ?_ _ | refine blk_drew ?_ | refine blk_alloc ?_ _)); exact BK139.out⟩, ⟨by repeat (first | (with_reducible first | exact HB.out | apply below_alloc | apply q0q | apply q2q | refine below_set ?_ GE138.out | refine below_set ?_ GE139.out) | exact HB.out)⟩⟩
   ·rw [if_neg c7] at H
    have c7b0 : (a0_1 == a1_1) = false := beq_eq_false_iff_ne.mpr c7
    have c7b1 : (a0_1 != a1_1) = true := bne_iff_ne.mpr c7
    have H' := Aside0.mk H
    clear H
    have hnb19 := NB138_139.out
    have hnc19 := NB139_138.out
    have hcz20_0 : w5.cell? ⟨gb138, 0, none⟩ = some (.int .i64 a0_0) := (q1q BK138.out 0).trans rfl
    have hcz20_1 : w5.cell? ⟨gb138, 1, none⟩ = some (.int .i64 a0_1) := (q1q BK138.out 1).trans rfl
    have hcz20_2 : w5.cell? ⟨gb138, 2, none⟩ = some (.slice A0_2 l0_2.length c0_2) := (q1q BK138.out 2).trans rfl
    have hcz20_3 : w5.cell? ⟨gb138, 3, none⟩ = some (.slice A0_3 l0_3.length c0_3) := (q1q BK138.out 3).trans rfl
    have hcz20_4 : w5.cell? ⟨gb138, 4, none⟩ = some (.slice A0_4 l0_4.length c0_4) := (q1q BK138.out 4).trans rfl
    have hfz20_0 := blk_frozen BK138.out 0
    have hfz20_1 := blk_frozen BK138.out 1
    have hfz20_2 := blk_frozen BK138.out 2
    have hfz20_3 := blk_frozen BK138.out 3
    have hfz20_4 := blk_frozen BK138.out 4
    have hcz21_0 : w5.cell? ⟨gb139, 0, none⟩ = some (.int .i64 a1_0) := (q1q BK139.out 0).trans rfl
    have hcz21_1 : w5.cell? ⟨gb139, 1, none⟩ = some (.int .i64 a1_1) := (q1q BK139.out 1).trans rfl
    have hcz21_2 : w5.cell? ⟨gb139, 2, none⟩ = some (.slice A1_2 l1_2.length c1_2) := (q1q BK139.out 2).trans rfl
    have hcz21_3 : w5.cell? ⟨gb139, 3, none⟩ = some (.slice A1_3 l1_3.length c1_3) := (q1q BK139.out 3).trans rfl
    have hcz21_4 : w5.cell? ⟨gb139, 4, none⟩ = some (.slice A1_4 l1_4.length c1_4) := (q1q BK139.out 4).trans rfl
    have hfz21_0 := blk_frozen BK139.out 0
    have hfz21_1 := blk_frozen BK139.out 1
    have hfz21_2 := blk_frozen BK139.out 2
    have hfz21_3 := blk_frozen BK139.out 3
    have hfz21_4 := blk_frozen BK139.out 4
    go_wp2
    repeat (go_quiet (fail); try go_wp2)
    go_meet
    case rel => exact ⟨_, (true), (by first | rfl | (simp; done) | (simp [*]; done)), H', ⟨by first | omega | exact Nat.le_refl _⟩, ⟨by (with_reducible repeat (first | refine blk_drewN ?_ _ | refine blk_drew ?_ | refine blk_alloc ?_ _)); exact BK138.out⟩, ⟨by (with_reducible repeat (first | refine blk_drewN ?_ _ | refine blk_drew ?_ | refine blk_alloc ?_ _)); exact BK139.out⟩, ⟨by repeat (first | (with_reducible first | exact HB.out | apply below_alloc | apply q0q | apply q2q | refine below_set ?_ GE138.out | refine below_set ?_ GE139.out) | exact HB.out)⟩⟩
  ·rw [if_neg c6] at H
   have c6b0 : (a0_0 == a1_0) = false := beq_eq_false_iff_ne.mpr c6
   have c6b1 : (a0_0 != a1_0) = true := bne_iff_ne.mpr c6
   (first | rw [c6b0] | (simp only [i64_w, i32_w]; rw [c6b0]) | skip)
   have H' := Aside0.mk H
   clear H
   have hnb22 := NB138_139.out
   have hnc22 := NB139_138.out
   have hcz23_0 : w5.cell? ⟨gb138, 0, none⟩ = some (.int .i64 a0_0) := (q1q BK138.out 0).trans rfl
   have hcz23_1 : w5.cell? ⟨gb138, 1, none⟩ = some (.int .i64 a0_1) := (q1q BK138.out 1).trans rfl
   have hcz23_2 : w5.cell? ⟨gb138, 2, none⟩ = some (.slice A0_2 l0_2.length c0_2) := (q1q BK138.out 2).trans rfl
   have hcz23_3 : w5.cell? ⟨gb138, 3, none⟩ = some (.slice A0_3 l0_3.length c0_3) := (q1q BK138.out 3).trans rfl
   have hcz23_4 : w5.cell? ⟨gb138, 4, none⟩ = some (.slice A0_4 l0_4.length c0_4) := (q1q BK138.out 4).trans rfl
   have hfz23_0 := blk_frozen BK138.out 0
   have hfz23_1 := blk_frozen BK138.out 1
   have hfz23_2 := blk_frozen BK138.out 2
   have hfz23_3 := blk_frozen BK138.out 3
   have hfz23_4 := blk_frozen BK138.out 4
   have hcz24_0 : w5.cell? ⟨gb139, 0, none⟩ = some (.int .i64 a1_0) := (q1q BK139.out 0).trans rfl
   have hcz24_1 : w5.cell? ⟨gb139, 1, none⟩ = some (.int .i64 a1_1) := (q1q BK139.out 1).trans rfl
   have hcz24_2 : w5.cell? ⟨gb139, 2, none⟩ = some (.slice A1_2 l1_2.length c1_2) := (q1q BK139.out 2).trans rfl
   have hcz24_3 : w5.cell? ⟨gb139, 3, none⟩ = some (.slice A1_3 l1_3.length c1_3) := (q1q BK139.out 3).trans rfl
   have hcz24_4 : w5.cell? ⟨gb139, 4, none⟩ = some (.slice A1_4 l1_4.length c1_4) := (q1q BK139.out 4).trans rfl
   have hfz24_0 := blk_frozen BK139.out 0
   have hfz24_1 := blk_frozen BK139.out 1
   have hfz24_2 := blk_frozen BK139.out 2
   have hfz24_3 := blk_frozen BK139.out 3
   have hfz24_4 := blk_frozen BK139.out 4
   go_wp2
   repeat (go_quiet (fail); try go_wp2)
   go_meet
   case rel => exact ⟨_, (true), (by first | rfl | (simp; done) | (simp [*]; done)), H', ⟨by first | omega | exact Nat.le_refl _⟩, ⟨by (with_reducible repeat (first | refine blk_drewN ?_ _ | refine blk_drew ?_ | refine blk_alloc ?_ _)); exact BK138.out⟩, ⟨by (with_reducible repeat (first | refine blk_drewN ?_ _ | refine blk_drew ?_ | refine blk_alloc ?_ _)); exact BK139.out⟩, ⟨by repeat (first | (with_reducible first | exact HB.out | apply below_alloc | apply q0q | apply q2q | refine below_set ?_ GE138.out | refine below_set ?_ GE139.out) | exact HB.out)⟩⟩
 case rest =>
  clear HC3
  try clear c1
  try clear c2
  try clear p2
  try clear c3
  try clear c6
  try clear c6b0
  try clear c6b1
  try clear c7
  try clear c7b0
  try clear c7b1
  try clear c8
  try clear c8b0
  try clear c8b1
  try clear c8b2
  try clear c9
  try clear c9b0
  try clear c9b1
  try clear c9b2
  try clear c10
  try clear c13
  try clear c16
  try clear c19
  try clear c22
  try clear hcz11_0
  try clear hcz11_1
  try clear hcz11_2
  try clear hcz11_3
  try clear hcz11_4
  try clear hcz12_0
  try clear hcz12_1
  try clear hcz12_2
  try clear hcz12_3
  try clear hcz12_4
  try clear hcz14_0
  try clear hcz14_1
  try clear hcz14_2
  try clear hcz14_3
  try clear hcz14_4
  try clear hcz15_0
  try clear hcz15_1
  try clear hcz15_2
  try clear hcz15_3
  try clear hcz15_4
  try clear hcz17_0
  try clear hcz17_1
  try clear hcz17_2
  try clear hcz17_3
  try clear hcz17_4
  try clear hcz18_0
  try clear hcz18_1
  try clear hcz18_2
  try clear hcz18_3
  try clear hcz18_4
  try clear hcz20_0
  try clear hcz20_1
  try clear hcz20_2
  try clear hcz20_3
  try clear hcz20_4
  try clear hcz21_0
  try clear hcz21_1
  try clear hcz21_2
  try clear hcz21_3
  try clear hcz21_4
  try clear hcz23_0
  try clear hcz23_1
  try clear hcz23_2
  try clear hcz23_3
  try clear hcz23_4
  try clear hcz24_0
  try clear hcz24_1
  try clear hcz24_2
  try clear hcz24_3
  try clear hcz24_4
  try clear hfz11_0
  try clear hfz11_1
  try clear hfz11_2
  try clear hfz11_3
  try clear hfz11_4
  try clear hfz12_0
  try clear hfz12_1
  try clear hfz12_2
  try clear hfz12_3
  try clear hfz12_4
  try clear hfz14_0
  try clear hfz14_1
  try clear hfz14_2
  try clear hfz14_3
  try clear hfz14_4
  try clear hfz15_0
  try clear hfz15_1
  try clear hfz15_2
  try clear hfz15_3
  try clear hfz15_4
  try clear hfz17_0
  try clear hfz17_1
  try clear hfz17_2
  try clear hfz17_3
  try clear hfz17_4
  try clear hfz18_0
  try clear hfz18_1
  try clear hfz18_2
  try clear hfz18_3
  try clear hfz18_4
  try clear hfz20_0
  try clear hfz20_1
  try clear hfz20_2
  try clear hfz20_3
  try clear hfz20_4
  try clear hfz21_0
  try clear hfz21_1
  try clear hfz21_2
  try clear hfz21_3
  try clear hfz21_4
  try clear hfz23_0
  try clear hfz23_1
  try clear hfz23_2
  try clear hfz23_3
  try clear hfz23_4
  try clear hfz24_0
  try clear hfz24_1
  try clear hfz24_2
  try clear hfz24_3
  try clear hfz24_4
  obtain ⟨kq, x46_2, rfl, HA, HJ2, BK138, BK139, HB⟩ := hcut
  cases kq with
  | zero => exact absurd HA.out (by simp [tallowref20_same.j0])
  | succ kj2 =>
   have H := HA.out
   clear HA
   simp only [tallowref20_same.j0] at H
   by_cases c25 : x46_2 = true
   ·subst c25
    have H1 : (some false) = some r := by rw [if_pos rfl] at H; exact H
    clear H
    have H := H1
    clear H1
    obtain rfl := Option.some.inj H
    go_wp2
    repeat (go_quiet (fail); try go_wp2)
    go_ret
    exact ⟨by first | rfl | (simp [errW_none, errW_some] <;> rfl) | (simp [*, errW_none, errW_some] <;> rfl), by repeat (first | (with_reducible first | exact HB.out | apply below_alloc | apply q0q | apply q2q | refine below_set ?_ GE138.out | refine below_set ?_ GE139.out) | exact HB.out)⟩
   ·replace c25 := Bool.eq_false_iff.mpr c25
    subst c25
    have H1 : (tallowref20_same.l0 kj2 0 a0_0 a0_1 l0_2 l0_3 l0_4 a1_0 a1_1 l1_2 l1_3 l1_4) = some r := by rw [if_neg (show ¬ (false = true) by decide)] at H; exact H
    clear H
    have H := H1
    clear H1
    have H' := Aside0.mk H
    clear H
    go_wp2
    repeat (go_quiet (fail); try go_wp2)
    go_loopg [5] kj2 (fun kq v5 w' => ∃ (x5_2 : Int), v5 = .int .i64 x5_2 ∧ Aside0 (tallowref20_same.l0 kq x5_2 a0_0 a0_1 l0_2 l0_3 l0_4 a1_0 a1_1 l1_2 l1_3 l1_4 = some r) ∧ Aside0 (kq ≤ kj2) ∧ Aside0 (w'.heap[gb138]? = some (.cells #[.int .i64 a0_0, .int .i64 a0_1, (.slice A0_2 l0_2.length c0_2), (.slice A0_3 l0_3.length c0_3), (.slice A0_4 l0_4.length c0_4)] 41 (0, 0))) ∧ Aside0 (w'.heap[gb139]? = some (.cells #[.int .i64 a1_0, .int .i64 a1_1, (.slice A1_2 l1_2.length c1_2), (.slice A1_3 l1_3.length c1_3), (.slice A1_4 l1_4.length c1_4)] 41 (0, 0))) ∧ Aside0 (Below w.heap.size w w'))
    case atStart => exact ⟨(0), (by first | rfl | (simp; done) | (simp [*]; done)), H', ⟨Nat.le_refl _⟩, ⟨by (with_reducible repeat (first | refine blk_drewN ?_ _ | refine blk_drew ?_ | refine blk_alloc ?_ _)); exact BK138.out⟩, ⟨by (with_reducible repeat (first | refine blk_drewN ?_ _ | refine blk_drew ?_ | refine blk_alloc ?_ _)); exact BK139.out⟩, ⟨by repeat (first | (with_reducible first | exact HB.out | apply below_alloc | apply q0q | apply q2q | refine below_set ?_ GE138.out | refine below_set ?_ GE139.out) | exact HB.out)⟩⟩
    case round =>
     clear H'
     try clear c1
     try clear c2
     try clear p2
     try clear c3
     try clear c6
     try clear c6b0
     try clear c6b1
     try clear c7
     try clear c7b0
     try clear c7b1
     try clear c8
     try clear c8b0
     try clear c8b1
     try clear c8b2
     try clear c9
     try clear c9b0
     try clear c9b1
     try clear c9b2
     try clear c10
     try clear c13
     try clear c16
     try clear c19
     try clear c22
     try clear c25
     try clear hcz11_0
     try clear hcz11_1
     try clear hcz11_2
     try clear hcz11_3
     try clear hcz11_4
     try clear hcz12_0
     try clear hcz12_1
     try clear hcz12_2
     try clear hcz12_3
     try clear hcz12_4
     try clear hcz14_0
     try clear hcz14_1
     try clear hcz14_2
     try clear hcz14_3
     try clear hcz14_4
     try clear hcz15_0
     try clear hcz15_1
     try clear hcz15_2
     try clear hcz15_3
     try clear hcz15_4
     try clear hcz17_0
     try clear hcz17_1
     try clear hcz17_2
     try clear hcz17_3
     try clear hcz17_4
     try clear hcz18_0
     try clear hcz18_1
     try clear hcz18_2
     try clear hcz18_3
     try clear hcz18_4
     try clear hcz20_0
     try clear hcz20_1
     try clear hcz20_2
     try clear hcz20_3
     try clear hcz20_4
     try clear hcz21_0
     try clear hcz21_1
     try clear hcz21_2
     try clear hcz21_3
     try clear hcz21_4
     try clear hcz23_0
     try clear hcz23_1
     try clear hcz23_2
     try clear hcz23_3
     try clear hcz23_4
     try clear hcz24_0
     try clear hcz24_1
     try clear hcz24_2
     try clear hcz24_3
     try clear hcz24_4
     try clear hfz11_0
     try clear hfz11_1
     try clear hfz11_2
     try clear hfz11_3
     try clear hfz11_4
     try clear hfz12_0
     try clear hfz12_1
     try clear hfz12_2
     try clear hfz12_3
     try clear hfz12_4
     try clear hfz14_0
     try clear hfz14_1
     try clear hfz14_2
     try clear hfz14_3
     try clear hfz14_4
     try clear hfz15_0
     try clear hfz15_1
     try clear hfz15_2
     try clear hfz15_3
     try clear hfz15_4
     try clear hfz17_0
     try clear hfz17_1
     try clear hfz17_2
     try clear hfz17_3
     try clear hfz17_4
     try clear hfz18_0
     try clear hfz18_1
     try clear hfz18_2
     try clear hfz18_3
     try clear hfz18_4
     try clear hfz20_0
     try clear hfz20_1
     try clear hfz20_2
     try clear hfz20_3
     try clear hfz20_4
     try clear hfz21_0
     try clear hfz21_1
     try clear hfz21_2
     try clear hfz21_3
     try clear hfz21_4
     try clear hfz23_0
     try clear hfz23_1
     try clear hfz23_2
     try clear hfz23_3
     try clear hfz23_4
     try clear hfz24_0
     try clear hfz24_1
     try clear hfz24_2
     try clear hfz24_3
     try clear hfz24_4
     try clear p2
     obtain ⟨x5_2, rfl, HA, HK2, BK138, BK139, HB⟩ := hrel
     cases gk with
     | zero => exact absurd HA.out (by simp [tallowref20_same.l0])
     | succ k2 =>
      have H := HA.out
      clear HA
      simp only [tallowref20_same.l0] at H
      by_cases c26 : x5_2 < (l0_2.length : Int)
      ·rw [if_pos c26] at H
       have c26b0 : decide (x5_2 < (l0_2.length : Int)) = true := decide_eq_true c26
       clear c26
       by_cases c27 : 0 ≤ x5_2
       ·rw [if_pos c27] at H
        have c27b0 : decide (0 ≤ x5_2) = true := decide_eq_true c27
        clear c27
        by_cases c28 : x5_2 < (l1_2.length : Int)
        ·rw [if_pos c28] at H
         have c28b0 : decide (x5_2 < (l1_2.length : Int)) = true := decide_eq_true c28
         clear c28
         by_cases c29 : (!(((rd_T48 l0_2 x5_2).f0) == ((rd_T48 l1_2 x5_2).f0)) || (!(((rd_T48 l0_2 x5_2).f1) == ((rd_T48 l1_2 x5_2).f1)))) = true
         ·rw [if_pos c29] at H
          have c29b0 : (!(((rd_T48 l0_2 x5_2).f0) == ((rd_T48 l1_2 x5_2).f0)) || (!(((rd_T48 l0_2 x5_2).f1) == ((rd_T48 l1_2 x5_2).f1)))) = true := c29
          clear c29
          obtain rfl := Option.some.inj H
          have hnb30 := NB138_139.out
          have hnc30 := NB139_138.out
          have hcz31_0 : wr.cell? ⟨gb138, 0, none⟩ = some (.int .i64 a0_0) := (q1q BK138.out 0).trans rfl
          have hcz31_1 : wr.cell? ⟨gb138, 1, none⟩ = some (.int .i64 a0_1) := (q1q BK138.out 1).trans rfl
          have hcz31_2 : wr.cell? ⟨gb138, 2, none⟩ = some (.slice A0_2 l0_2.length c0_2) := (q1q BK138.out 2).trans rfl
          have hcz31_3 : wr.cell? ⟨gb138, 3, none⟩ = some (.slice A0_3 l0_3.length c0_3) := (q1q BK138.out 3).trans rfl
          have hcz31_4 : wr.cell? ⟨gb138, 4, none⟩ = some (.slice A0_4 l0_4.length c0_4) := (q1q BK138.out 4).trans rfl
          have hfz31_0 := blk_frozen BK138.out 0
          have hfz31_1 := blk_frozen BK138.out 1
          have hfz31_2 := blk_frozen BK138.out 2
          have hfz31_3 := blk_frozen BK138.out 3
          have hfz31_4 := blk_frozen BK138.out 4
          have p140 : 0 ≤ (x5_2 : Int) := of_decide_eq_true (by first | (with_reducible assumption) | assumption)
          have q140 : x5_2 < (l0_2.length : Int) := of_decide_eq_true (by first | (with_reducible assumption) | assumption)
          obtain ⟨ad140, e140, hx140_0, hx140_1⟩ := at_T48 HR0_2.out x5_2 p140 q140
          cases e140
          replace hx140_0 := (HB.out.cell (World.block_lt_of_cell? w _ hx140_0)).trans hx140_0
          replace hx140_1 := (HB.out.cell (World.block_lt_of_cell? w _ hx140_1)).trans hx140_1
          replace p140 := eq_true p140
          replace q140 := eq_true q140
          have hcz32_0 : wr.cell? ⟨gb139, 0, none⟩ = some (.int .i64 a1_0) := (q1q BK139.out 0).trans rfl
          have hcz32_1 : wr.cell? ⟨gb139, 1, none⟩ = some (.int .i64 a1_1) := (q1q BK139.out 1).trans rfl
          have hcz32_2 : wr.cell? ⟨gb139, 2, none⟩ = some (.slice A1_2 l1_2.length c1_2) := (q1q BK139.out 2).trans rfl
          have hcz32_3 : wr.cell? ⟨gb139, 3, none⟩ = some (.slice A1_3 l1_3.length c1_3) := (q1q BK139.out 3).trans rfl
          have hcz32_4 : wr.cell? ⟨gb139, 4, none⟩ = some (.slice A1_4 l1_4.length c1_4) := (q1q BK139.out 4).trans rfl
          have hfz32_0 := blk_frozen BK139.out 0
          have hfz32_1 := blk_frozen BK139.out 1
          have hfz32_2 := blk_frozen BK139.out 2
          have hfz32_3 := blk_frozen BK139.out 3
          have hfz32_4 := blk_frozen BK139.out 4
          have p141 : 0 ≤ (x5_2 : Int) := of_decide_eq_true (by first | (with_reducible assumption) | assumption)
          have q141 : x5_2 < (l1_2.length : Int) := of_decide_eq_true (by first | (with_reducible assumption) | assumption)
          obtain ⟨ad141, e141, hx141_0, hx141_1⟩ := at_T48 HR1_2.out x5_2 p141 q141
          cases e141
          replace hx141_0 := (HB.out.cell (World.block_lt_of_cell? w _ hx141_0)).trans hx141_0
          replace hx141_1 := (HB.out.cell (World.block_lt_of_cell? w _ hx141_1)).trans hx141_1
          replace p141 := eq_true p141
          replace q141 := eq_true q141
          go_wp2
          repeat (go_quiet (fail); try go_wp2)
          go_ret
          exact ⟨by first | rfl | (simp [errW_none, errW_some] <;> rfl) | (simp [*, errW_none, errW_some] <;> rfl), by repeat (first | (with_reducible first | exact HB.out | apply below_alloc | apply q0q | apply q2q | refine below_set ?_ GE138.out | refine below_set ?_ GE139.out) | exact HB.out)⟩
         ·rw [if_neg c29] at H
          have c29b0 : (!(((rd_T48 l0_2 x5_2).f0) == ((rd_T48 l1_2 x5_2).f0)) || (!(((rd_T48 l0_2 x5_2).f1) == ((rd_T48 l1_2 x5_2).f1)))) = false := by simpa using c29
          clear c29
          have H' := Aside0.mk H
          clear H
          have hnb33 := NB138_139.out
          have hnc33 := NB139_138.out
          have hcz34_0 : wr.cell? ⟨gb138, 0, none⟩ = some (.int .i64 a0_0) := (q1q BK138.out 0).trans rfl
          have hcz34_1 : wr.cell? ⟨gb138, 1, none⟩ = some (.int .i64 a0_1) := (q1q BK138.out 1).trans rfl
          have hcz34_2 : wr.cell? ⟨gb138, 2, none⟩ = some (.slice A0_2 l0_2.length c0_2) := (q1q BK138.out 2).trans rfl
          have hcz34_3 : wr.cell? ⟨gb138, 3, none⟩ = some (.slice A0_3 l0_3.length c0_3) := (q1q BK138.out 3).trans rfl
          have hcz34_4 : wr.cell? ⟨gb138, 4, none⟩ = some (.slice A0_4 l0_4.length c0_4) := (q1q BK138.out 4).trans rfl
          have hfz34_0 := blk_frozen BK138.out 0
          have hfz34_1 := blk_frozen BK138.out 1
          have hfz34_2 := blk_frozen BK138.out 2
          have hfz34_3 := blk_frozen BK138.out 3
          have hfz34_4 := blk_frozen BK138.out 4
          have p140 : 0 ≤ (x5_2 : Int) := of_decide_eq_true (by first | (with_reducible assumption) | assumption)
          have q140 : x5_2 < (l0_2.length : Int) := of_decide_eq_true (by first | (with_reducible assumption) | assumption)
          obtain ⟨ad140, e140, hx140_0, hx140_1⟩ := at_T48 HR0_2.out x5_2 p140 q140
          cases e140
          replace hx140_0 := (HB.out.cell (World.block_lt_of_cell? w _ hx140_0)).trans hx140_0
          replace hx140_1 := (HB.out.cell (World.block_lt_of_cell? w _ hx140_1)).trans hx140_1
          replace p140 := eq_true p140
          replace q140 := eq_true q140
          have hcz35_0 : wr.cell? ⟨gb139, 0, none⟩ = some (.int .i64 a1_0) := (q1q BK139.out 0).trans rfl
          have hcz35_1 : wr.cell? ⟨gb139, 1, none⟩ = some (.int .i64 a1_1) := (q1q BK139.out 1).trans rfl
          have hcz35_2 : wr.cell? ⟨gb139, 2, none⟩ = some (.slice A1_2 l1_2.length c1_2) := (q1q BK139.out 2).trans rfl
          have hcz35_3 : wr.cell? ⟨gb139, 3, none⟩ = some (.slice A1_3 l1_3.length c1_3) := (q1q BK139.out 3).trans rfl
          have hcz35_4 : wr.cell? ⟨gb139, 4, none⟩ = some (.slice A1_4 l1_4.length c1_4) := (q1q BK139.out 4).trans rfl
          have hfz35_0 := blk_frozen BK139.out 0
          have hfz35_1 := blk_frozen BK139.out 1
          have hfz35_2 := blk_frozen BK139.out 2
          have hfz35_3 := blk_frozen BK139.out 3
          have hfz35_4 := blk_frozen BK139.out 4
          have p141 : 0 ≤ (x5_2 : Int) := of_decide_eq_true (by first | (with_reducible assumption) | assumption)
          have q141 : x5_2 < (l1_2.length : Int) := of_decide_eq_true (by first | (with_reducible assumption) | assumption)
          obtain ⟨ad141, e141, hx141_0, hx141_1⟩ := at_T48 HR1_2.out x5_2 p141 q141
          cases e141
          replace hx141_0 := (HB.out.cell (World.block_lt_of_cell? w _ hx141_0)).trans hx141_0
          replace hx141_1 := (HB.out.cell (World.block_lt_of_cell? w _ hx141_1)).trans hx141_1
          replace p141 := eq_true p141
          replace q141 := eq_true q141
          go_wp2
          repeat (go_quiet (fail); try go_wp2)
          go_roundg k2
          case measure => have := HJ2.out; have := HK2.out; omega
          case rel => exact ⟨(wrap64 (x5_2 + 1)), (by first | rfl | (simp; done) | (simp [*]; done)), H', ⟨by have := HJ2.out; have := HK2.out; omega⟩, ⟨by (with_reducible repeat (first | refine blk_drewN ?_ _ | refine blk_drew ?_ | refine blk_alloc ?_ _)); exact BK138.out⟩, ⟨by (with_reducible repeat (first | refine blk_drewN ?_ _ | refine blk_drew ?_ | refine blk_alloc ?_ _)); exact BK139.out⟩, ⟨by repeat (first | (with_reducible first | exact HB.out | apply below_alloc | apply q0q | apply q2q | refine below_set ?_ GE138.out | refine below_set ?_ GE139.out) | exact HB.out)⟩⟩
        ·rw [if_neg c28] at H
         exact absurd H (by simp)
       ·rw [if_neg c27] at H
        exact absurd H (by simp)
      ·rw [if_neg c26] at H
       have c26b0 : decide (x5_2 < (l0_2.length : Int)) = false := decide_eq_false c26
       clear c26
       have H' := Aside0.mk H
       clear H
       have hnb36 := NB138_139.out
       have hnc36 := NB139_138.out
       have hcz37_0 : wr.cell? ⟨gb138, 0, none⟩ = some (.int .i64 a0_0) := (q1q BK138.out 0).trans rfl
       have hcz37_1 : wr.cell? ⟨gb138, 1, none⟩ = some (.int .i64 a0_1) := (q1q BK138.out 1).trans rfl
       have hcz37_2 : wr.cell? ⟨gb138, 2, none⟩ = some (.slice A0_2 l0_2.length c0_2) := (q1q BK138.out 2).trans rfl
       have hcz37_3 : wr.cell? ⟨gb138, 3, none⟩ = some (.slice A0_3 l0_3.length c0_3) := (q1q BK138.out 3).trans rfl
       have hcz37_4 : wr.cell? ⟨gb138, 4, none⟩ = some (.slice A0_4 l0_4.length c0_4) := (q1q BK138.out 4).trans rfl
       have hfz37_0 := blk_frozen BK138.out 0
       have hfz37_1 := blk_frozen BK138.out 1
       have hfz37_2 := blk_frozen BK138.out 2
       have hfz37_3 := blk_frozen BK138.out 3
       have hfz37_4 := blk_frozen BK138.out 4
       go_wp2
       repeat (go_quiet (fail); try go_wp2)
       go_loopg [6] k2 (fun kq v6 w' => ∃ (x6_3 : Int), v6 = .int .i64 x6_3 ∧ Aside0 (tallowref20_same.l1 kq x6_3 a0_0 a0_1 l0_2 l0_3 l0_4 a1_0 a1_1 l1_2 l1_3 l1_4 = some r) ∧ Aside0 (kq ≤ k2) ∧ Aside0 (w'.heap[gb138]? = some (.cells #[.int .i64 a0_0, .int .i64 a0_1, (.slice A0_2 l0_2.length c0_2), (.slice A0_3 l0_3.length c0_3), (.slice A0_4 l0_4.length c0_4)] 41 (0, 0))) ∧ Aside0 (w'.heap[gb139]? = some (.cells #[.int .i64 a1_0, .int .i64 a1_1, (.slice A1_2 l1_2.length c1_2), (.slice A1_3 l1_3.length c1_3), (.slice A1_4 l1_4.length c1_4)] 41 (0, 0))) ∧ Aside0 (Below w.heap.size w w'))
       case atStart => exact ⟨(0), (by first | rfl | (simp; done) | (simp [*]; done)), H', ⟨Nat.le_refl _⟩, ⟨by (with_reducible repeat (first | refine blk_drewN ?_ _ | refine blk_drew ?_ | refine blk_alloc ?_ _)); exact BK138.out⟩, ⟨by (with_reducible repeat (first | refine blk_drewN ?_ _ | refine blk_drew ?_ | refine blk_alloc ?_ _)); exact BK139.out⟩, ⟨by repeat (first | (with_reducible first | exact HB.out | apply below_alloc | apply q0q | apply q2q | refine below_set ?_ GE138.out | refine below_set ?_ GE139.out) | exact HB.out)⟩⟩
       case round =>
        clear H'
        try clear c1
        try clear p1
        try clear q1
        try clear hx1
        try clear c2
        try clear p2
        try clear c3
        try clear c6
        try clear c6b0
        try clear c6b1
        try clear p6
        try clear c7
        try clear c7b0
        try clear c7b1
        try clear c8
        try clear c8b0
        try clear c8b1
        try clear c8b2
        try clear c9
        try clear c9b0
        try clear c9b1
        try clear c9b2
        try clear c10
        try clear c13
        try clear p14
        try clear q14
        try clear hx14
        try clear c16
        try clear c19
        try clear c22
        try clear c25
        try clear c26
        try clear c26b0
        try clear c27
        try clear c27b0
        try clear c28
        try clear c28b0
        try clear c29
        try clear c29b0
        try clear c30
        try clear c33
        try clear c36
        try clear hcz11_0
        try clear hcz11_1
        try clear hcz11_2
        try clear hcz11_3
        try clear hcz11_4
        try clear hcz12_0
        try clear hcz12_1
        try clear hcz12_2
        try clear hcz12_3
        try clear hcz12_4
        try clear hcz14_0
        try clear hcz14_1
        try clear hcz14_2
        try clear hcz14_3
        try clear hcz14_4
        try clear hcz15_0
        try clear hcz15_1
        try clear hcz15_2
        try clear hcz15_3
        try clear hcz15_4
        try clear hcz17_0
        try clear hcz17_1
        try clear hcz17_2
        try clear hcz17_3
        try clear hcz17_4
        try clear hcz18_0
        try clear hcz18_1
        try clear hcz18_2
        try clear hcz18_3
        try clear hcz18_4
        try clear hcz20_0
        try clear hcz20_1
        try clear hcz20_2
        try clear hcz20_3
        try clear hcz20_4
        try clear hcz21_0
        try clear hcz21_1
        try clear hcz21_2
        try clear hcz21_3
        try clear hcz21_4
        try clear hcz23_0
        try clear hcz23_1
        try clear hcz23_2
        try clear hcz23_3
        try clear hcz23_4
        try clear hcz24_0
        try clear hcz24_1
        try clear hcz24_2
        try clear hcz24_3
        try clear hcz24_4
        try clear hcz31_0
        try clear hcz31_1
        try clear hcz31_2
        try clear hcz31_3
        try clear hcz31_4
        try clear hcz32_0
        try clear hcz32_1
        try clear hcz32_2
        try clear hcz32_3
        try clear hcz32_4
        try clear hcz34_0
        try clear hcz34_1
        try clear hcz34_2
        try clear hcz34_3
        try clear hcz34_4
        try clear hcz35_0
        try clear hcz35_1
        try clear hcz35_2
        try clear hcz35_3
        try clear hcz35_4
        try clear hcz37_0
        try clear hcz37_1
        try clear hcz37_2
        try clear hcz37_3
        try clear hcz37_4
        try clear hfz11_0
        try clear hfz11_1
        try clear hfz11_2
        try clear hfz11_3
        try clear hfz11_4
        try clear hfz12_0
        try clear hfz12_1
        try clear hfz12_2
        try clear hfz12_3
        try clear hfz12_4
        try clear hfz14_0
        try clear hfz14_1
        try clear hfz14_2
        try clear hfz14_3
        try clear hfz14_4
        try clear hfz15_0
        try clear hfz15_1
        try clear hfz15_2
        try clear hfz15_3
        try clear hfz15_4
        try clear hfz17_0
        try clear hfz17_1
        try clear hfz17_2
        try clear hfz17_3
        try clear hfz17_4
        try clear hfz18_0
        try clear hfz18_1
        try clear hfz18_2
        try clear hfz18_3
        try clear hfz18_4
        try clear hfz20_0
        try clear hfz20_1
        try clear hfz20_2
        try clear hfz20_3
        try clear hfz20_4
        try clear hfz21_0
        try clear hfz21_1
        try clear hfz21_2
        try clear hfz21_3
        try clear hfz21_4
        try clear hfz23_0
        try clear hfz23_1
        try clear hfz23_2
        try clear hfz23_3
        try clear hfz23_4
        try clear hfz24_0
        try clear hfz24_1
        try clear hfz24_2
        try clear hfz24_3
        try clear hfz24_4
        try clear hfz31_0
        try clear hfz31_1
        try clear hfz31_2
        try clear hfz31_3
        try clear hfz31_4
        try clear hfz32_0
        try clear hfz32_1
        try clear hfz32_2
        try clear hfz32_3
        try clear hfz32_4
        try clear hfz34_0
        try clear hfz34_1
        try clear hfz34_2
        try clear hfz34_3
        try clear hfz34_4
        try clear hfz35_0
        try clear hfz35_1
        try clear hfz35_2
        try clear hfz35_3
        try clear hfz35_4
        try clear hfz37_0
        try clear hfz37_1
        try clear hfz37_2
        try clear hfz37_3
        try clear hfz37_4
        try clear hx140_0
        try clear hx140_1
        try clear hx141_0
        try clear hx141_1
        try clear p140
        try clear p141
        try clear p2
        try clear q140
        try clear q141
        obtain ⟨x6_3, rfl, HA, HK3, BK138, BK139, HB⟩ := hrel
        cases gk with
        | zero => exact absurd HA.out (by simp [tallowref20_same.l1])
        | succ k3 =>
         have H := HA.out
         clear HA
         simp only [tallowref20_same.l1] at H
         by_cases c38 : x6_3 < (l0_3.length : Int)
         ·rw [if_pos c38] at H
          have c38b0 : decide (x6_3 < (l0_3.length : Int)) = true := decide_eq_true c38
          clear c38
          by_cases c39 : 0 ≤ x6_3
          ·rw [if_pos c39] at H
           have c39b0 : decide (0 ≤ x6_3) = true := decide_eq_true c39
           clear c39
           by_cases c40 : x6_3 < (l1_3.length : Int)
           ·rw [if_pos c40] at H
            have c40b0 : decide (x6_3 < (l1_3.length : Int)) = true := decide_eq_true c40
            clear c40
            by_cases c41 : (!(((rd_T46 l0_3 x6_3).f0) == ((rd_T46 l1_3 x6_3).f0)) || (!(((rd_T46 l0_3 x6_3).f1) == ((rd_T46 l1_3 x6_3).f1)) || (!((((rd_T46 l0_3 x6_3).f2).toList) == (((rd_T46 l1_3 x6_3).f2).toList))))) = true
            ·rw [if_pos c41] at H
             have c41b0 : (!(((rd_T46 l0_3 x6_3).f0) == ((rd_T46 l1_3 x6_3).f0)) || (!(((rd_T46 l0_3 x6_3).f1) == ((rd_T46 l1_3 x6_3).f1)) || (!((((rd_T46 l0_3 x6_3).f2).toList) == (((rd_T46 l1_3 x6_3).f2).toList))))) = true := c41
             clear c41
             obtain rfl := Option.some.inj H
             have hnb42 := NB138_139.out
             have hnc42 := NB139_138.out
             have hcz43_0 : wr.cell? ⟨gb138, 0, none⟩ = some (.int .i64 a0_0) := (q1q BK138.out 0).trans rfl
             have hcz43_1 : wr.cell? ⟨gb138, 1, none⟩ = some (.int .i64 a0_1) := (q1q BK138.out 1).trans rfl
             have hcz43_2 : wr.cell? ⟨gb138, 2, none⟩ = some (.slice A0_2 l0_2.length c0_2) := (q1q BK138.out 2).trans rfl
             have hcz43_3 : wr.cell? ⟨gb138, 3, none⟩ = some (.slice A0_3 l0_3.length c0_3) := (q1q BK138.out 3).trans rfl
             have hcz43_4 : wr.cell? ⟨gb138, 4, none⟩ = some (.slice A0_4 l0_4.length c0_4) := (q1q BK138.out 4).trans rfl
             have hfz43_0 := blk_frozen BK138.out 0
             have hfz43_1 := blk_frozen BK138.out 1
             have hfz43_2 := blk_frozen BK138.out 2
             have hfz43_3 := blk_frozen BK138.out 3
             have hfz43_4 := blk_frozen BK138.out 4
             have p142 : 0 ≤ (x6_3 : Int) := of_decide_eq_true (by first | (with_reducible assumption) | assumption)
             have q142 : x6_3 < (l0_3.length : Int) := of_decide_eq_true (by first | (with_reducible assumption) | assumption)
             obtain ⟨ad142, e142, hx142_0, hx142_1, hx142_2⟩ := at_T46 HR0_3.out x6_3 p142 q142
             cases e142
             replace hx142_0 := (HB.out.cell (World.block_lt_of_cell? w _ hx142_0)).trans hx142_0
             replace hx142_1 := (HB.out.cell (World.block_lt_of_cell? w _ hx142_1)).trans hx142_1
             replace hx142_2 := (HB.out.cell (World.block_lt_of_cell? w _ hx142_2)).trans hx142_2
             replace p142 := eq_true p142
             replace q142 := eq_true q142
             have hcz44_0 : wr.cell? ⟨gb139, 0, none⟩ = some (.int .i64 a1_0) := (q1q BK139.out 0).trans rfl
             have hcz44_1 : wr.cell? ⟨gb139, 1, none⟩ = some (.int .i64 a1_1) := (q1q BK139.out 1).trans rfl
             have hcz44_2 : wr.cell? ⟨gb139, 2, none⟩ = some (.slice A1_2 l1_2.length c1_2) := (q1q BK139.out 2).trans rfl
             have hcz44_3 : wr.cell? ⟨gb139, 3, none⟩ = some (.slice A1_3 l1_3.length c1_3) := (q1q BK139.out 3).trans rfl
             have hcz44_4 : wr.cell? ⟨gb139, 4, none⟩ = some (.slice A1_4 l1_4.length c1_4) := (q1q BK139.out 4).trans rfl
             have hfz44_0 := blk_frozen BK139.out 0
             have hfz44_1 := blk_frozen BK139.out 1
             have hfz44_2 := blk_frozen BK139.out 2
             have hfz44_3 := blk_frozen BK139.out 3
             have hfz44_4 := blk_frozen BK139.out 4
             have p143 : 0 ≤ (x6_3 : Int) := of_decide_eq_true (by first | (with_reducible assumption) | assumption)
             have q143 : x6_3 < (l1_3.length : Int) := of_decide_eq_true (by first | (with_reducible assumption) | assumption)
             obtain ⟨ad143, e143, hx143_0, hx143_1, hx143_2⟩ := at_T46 HR1_3.out x6_3 p143 q143
             cases e143
             replace hx143_0 := (HB.out.cell (World.block_lt_of_cell? w _ hx143_0)).trans hx143_0
             replace hx143_1 := (HB.out.cell (World.block_lt_of_cell? w _ hx143_1)).trans hx143_1
             replace hx143_2 := (HB.out.cell (World.block_lt_of_cell? w _ hx143_2)).trans hx143_2
             replace p143 := eq_true p143
             replace q143 := eq_true q143
             go_wp2
             repeat (go_quiet (fail); try go_wp2)
             go_ret
             exact ⟨by first | rfl | (simp [errW_none, errW_some] <;> rfl) | (simp [*, errW_none, errW_some] <;> rfl), by repeat (first | (with_reducible first | exact HB.out | apply below_alloc | apply q0q | apply q2q | refine below_set ?_ GE138.out | refine below_set ?_ GE139.out) | exact HB.out)⟩
            ·rw [if_neg c41] at H
             have c41b0 : (!(((rd_T46 l0_3 x6_3).f0) == ((rd_T46 l1_3 x6_3).f0)) || (!(((rd_T46 l0_3 x6_3).f1) == ((rd_T46 l1_3 x6_3).f1)) || (!((((rd_T46 l0_3 x6_3).f2).toList) == (((rd_T46 l1_3 x6_3).f2).toList))))) = false := by simpa using c41
             clear c41
             have H' := Aside0.mk H
             clear H
             have hnb45 := NB138_139.out
             have hnc45 := NB139_138.out
             have hcz46_0 : wr.cell? ⟨gb138, 0, none⟩ = some (.int .i64 a0_0) := (q1q BK138.out 0).trans rfl
             have hcz46_1 : wr.cell? ⟨gb138, 1, none⟩ = some (.int .i64 a0_1) := (q1q BK138.out 1).trans rfl
             have hcz46_2 : wr.cell? ⟨gb138, 2, none⟩ = some (.slice A0_2 l0_2.length c0_2) := (q1q BK138.out 2).trans rfl
             have hcz46_3 : wr.cell? ⟨gb138, 3, none⟩ = some (.slice A0_3 l0_3.length c0_3) := (q1q BK138.out 3).trans rfl
             have hcz46_4 : wr.cell? ⟨gb138, 4, none⟩ = some (.slice A0_4 l0_4.length c0_4) := (q1q BK138.out 4).trans rfl
             have hfz46_0 := blk_frozen BK138.out 0
             have hfz46_1 := blk_frozen BK138.out 1
             have hfz46_2 := blk_frozen BK138.out 2
             have hfz46_3 := blk_frozen BK138.out 3
             have hfz46_4 := blk_frozen BK138.out 4
             have p142 : 0 ≤ (x6_3 : Int) := of_decide_eq_true (by first | (with_reducible assumption) | assumption)
             have q142 : x6_3 < (l0_3.length : Int) := of_decide_eq_true (by first | (with_reducible assumption) | assumption)
             obtain ⟨ad142, e142, hx142_0, hx142_1, hx142_2⟩ := at_T46 HR0_3.out x6_3 p142 q142
             cases e142
             replace hx142_0 := (HB.out.cell (World.block_lt_of_cell? w _ hx142_0)).trans hx142_0
             replace hx142_1 := (HB.out.cell (World.block_lt_of_cell? w _ hx142_1)).trans hx142_1
             replace hx142_2 := (HB.out.cell (World.block_lt_of_cell? w _ hx142_2)).trans hx142_2
             replace p142 := eq_true p142
             replace q142 := eq_true q142
             have hcz47_0 : wr.cell? ⟨gb139, 0, none⟩ = some (.int .i64 a1_0) := (q1q BK139.out 0).trans rfl
             have hcz47_1 : wr.cell? ⟨gb139, 1, none⟩ = some (.int .i64 a1_1) := (q1q BK139.out 1).trans rfl
             have hcz47_2 : wr.cell? ⟨gb139, 2, none⟩ = some (.slice A1_2 l1_2.length c1_2) := (q1q BK139.out 2).trans rfl
             have hcz47_3 : wr.cell? ⟨gb139, 3, none⟩ = some (.slice A1_3 l1_3.length c1_3) := (q1q BK139.out 3).trans rfl
             have hcz47_4 : wr.cell? ⟨gb139, 4, none⟩ = some (.slice A1_4 l1_4.length c1_4) := (q1q BK139.out 4).trans rfl
             have hfz47_0 := blk_frozen BK139.out 0
             have hfz47_1 := blk_frozen BK139.out 1
             have hfz47_2 := blk_frozen BK139.out 2
             have hfz47_3 := blk_frozen BK139.out 3
             have hfz47_4 := blk_frozen BK139.out 4
             have p143 : 0 ≤ (x6_3 : Int) := of_decide_eq_true (by first | (with_reducible assumption) | assumption)
             have q143 : x6_3 < (l1_3.length : Int) := of_decide_eq_true (by first | (with_reducible assumption) | assumption)
             obtain ⟨ad143, e143, hx143_0, hx143_1, hx143_2⟩ := at_T46 HR1_3.out x6_3 p143 q143
             cases e143
             replace hx143_0 := (HB.out.cell (World.block_lt_of_cell? w _ hx143_0)).trans hx143_0
             replace hx143_1 := (HB.out.cell (World.block_lt_of_cell? w _ hx143_1)).trans hx143_1
             replace hx143_2 := (HB.out.cell (World.block_lt_of_cell? w _ hx143_2)).trans hx143_2
             replace p143 := eq_true p143
             replace q143 := eq_true q143
             go_wp2
             repeat (go_quiet (fail); try go_wp2)
             go_roundg k3
             case measure => have := HJ2.out; have := HK2.out; have := HK3.out; omega
             case rel => exact ⟨(wrap64 (x6_3 + 1)), (by first | rfl | (simp; done) | (simp [*]; done)), H', ⟨by have := HJ2.out; have := HK2.out; have := HK3.out; omega⟩, ⟨by (with_reducible repeat (first | refine blk_drewN ?_ _ | refine blk_drew ?_ | refine blk_alloc ?_ _)); exact BK138.out⟩, ⟨by (with_reducible repeat (first | refine blk_drewN ?_ _ | refine blk_drew ?_ | refine blk_alloc ?_ _)); exact BK139.out⟩, ⟨by repeat (first | (with_reducible first | exact HB.out | apply below_alloc | apply q0q | apply q2q | refine below_set ?_ GE138.out | refine below_set ?_ GE139.out) | exact HB.out)⟩⟩
           ·rw [if_neg c40] at H
            exact absurd H (by simp)
          ·rw [if_neg c39] at H
           exact absurd H (by simp)
         ·rw [if_neg c38] at H
          have c38b0 : decide (x6_3 < (l0_3.length : Int)) = false := decide_eq_false c38
          clear c38
          have H' := Aside0.mk H
          clear H
          have hnb48 := NB138_139.out
          have hnc48 := NB139_138.out
          have hcz49_0 : wr.cell? ⟨gb138, 0, none⟩ = some (.int .i64 a0_0) := (q1q BK138.out 0).trans rfl
          have hcz49_1 : wr.cell? ⟨gb138, 1, none⟩ = some (.int .i64 a0_1) := (q1q BK138.out 1).trans rfl
          have hcz49_2 : wr.cell? ⟨gb138, 2, none⟩ = some (.slice A0_2 l0_2.length c0_2) := (q1q BK138.out 2).trans rfl
          have hcz49_3 : wr.cell? ⟨gb138, 3, none⟩ = some (.slice A0_3 l0_3.length c0_3) := (q1q BK138.out 3).trans rfl
          have hcz49_4 : wr.cell? ⟨gb138, 4, none⟩ = some (.slice A0_4 l0_4.length c0_4) := (q1q BK138.out 4).trans rfl
          have hfz49_0 := blk_frozen BK138.out 0
          have hfz49_1 := blk_frozen BK138.out 1
          have hfz49_2 := blk_frozen BK138.out 2
          have hfz49_3 := blk_frozen BK138.out 3
          have hfz49_4 := blk_frozen BK138.out 4
          go_wp2
          repeat (go_quiet (fail); try go_wp2)
          go_loopg [7] k3 (fun kq v7 w' => ∃ (x7_4 : Int), v7 = .int .i64 x7_4 ∧ Aside0 (tallowref20_same.l2 kq x7_4 a0_0 a0_1 l0_2 l0_3 l0_4 a1_0 a1_1 l1_2 l1_3 l1_4 = some r) ∧ Aside0 (kq ≤ k3) ∧ Aside0 (w'.heap[gb138]? = some (.cells #[.int .i64 a0_0, .int .i64 a0_1, (.slice A0_2 l0_2.length c0_2), (.slice A0_3 l0_3.length c0_3), (.slice A0_4 l0_4.length c0_4)] 41 (0, 0))) ∧ Aside0 (w'.heap[gb139]? = some (.cells #[.int .i64 a1_0, .int .i64 a1_1, (.slice A1_2 l1_2.length c1_2), (.slice A1_3 l1_3.length c1_3), (.slice A1_4 l1_4.length c1_4)] 41 (0, 0))) ∧ Aside0 (Below w.heap.size w w'))
          case atStart => exact ⟨(0), (by first | rfl | (simp; done) | (simp [*]; done)), H', ⟨Nat.le_refl _⟩, ⟨by (with_reducible repeat (first | refine blk_drewN ?_ _ | refine blk_drew ?_ | refine blk_alloc ?_ _)); exact BK138.out⟩, ⟨by (with_reducible repeat (first | refine blk_drewN ?_ _ | refine blk_drew ?_ | refine blk_alloc ?_ _)); exact BK139.out⟩, ⟨by repeat (first | (with_reducible first | exact HB.out | apply below_alloc | apply q0q | apply q2q | refine below_set ?_ GE138.out | refine below_set ?_ GE139.out) | exact HB.out)⟩⟩
          case round =>
           clear H'
           try clear c1
           try clear p1
           try clear q1
           try clear hx1
           try clear c2
           try clear p2
           try clear c3
           try clear c4
           try clear c6
           try clear c6b0
           try clear c6b1
           try clear p6
           try clear c7
           try clear c7b0
           try clear c7b1
           try clear c8
           try clear c8b0
           try clear c8b1
           try clear c8b2
           try clear c9
           try clear c9b0
           try clear c9b1
           try clear c9b2
           try clear c10
           try clear c13
           try clear p14
           try clear q14
           try clear hx14
           try clear c16
           try clear c19
           try clear c22
           try clear c25
           try clear c26
           try clear c26b0
           try clear c27
           try clear c27b0
           try clear c28
           try clear c28b0
           try clear c29
           try clear c29b0
           try clear c30
           try clear c33
           try clear c36
           try clear c38
           try clear c38b0
           try clear c39
           try clear c39b0
           try clear c40
           try clear c40b0
           try clear c41
           try clear c41b0
           try clear c42
           try clear c45
           try clear c48
           try clear hcz11_0
           try clear hcz11_1
           try clear hcz11_2
           try clear hcz11_3
           try clear hcz11_4
           try clear hcz12_0
           try clear hcz12_1
           try clear hcz12_2
           try clear hcz12_3
           try clear hcz12_4
           try clear hcz14_0
           try clear hcz14_1
           try clear hcz14_2
           try clear hcz14_3
           try clear hcz14_4
           try clear hcz15_0
           try clear hcz15_1
           try clear hcz15_2
           try clear hcz15_3
           try clear hcz15_4
           try clear hcz17_0
           try clear hcz17_1
           try clear hcz17_2
           try clear hcz17_3
           try clear hcz17_4
           try clear hcz18_0
           try clear hcz18_1
           try clear hcz18_2
           try clear hcz18_3
           try clear hcz18_4
           try clear hcz20_0
           try clear hcz20_1
           try clear hcz20_2
           try clear hcz20_3
           try clear hcz20_4
           try clear hcz21_0
           try clear hcz21_1
           try clear hcz21_2
           try clear hcz21_3
           try clear hcz21_4
           try clear hcz23_0
           try clear hcz23_1
           try clear hcz23_2
           try clear hcz23_3
           try clear hcz23_4
           try clear hcz24_0
           try clear hcz24_1
           try clear hcz24_2
           try clear hcz24_3
           try clear hcz24_4
           try clear hcz31_0
           try clear hcz31_1
           try clear hcz31_2
           try clear hcz31_3
           try clear hcz31_4
           try clear hcz32_0
           try clear hcz32_1
           try clear hcz32_2
           try clear hcz32_3
           try clear hcz32_4
           try clear hcz34_0
           try clear hcz34_1
           try clear hcz34_2
           try clear hcz34_3
           try clear hcz34_4
           try clear hcz35_0
           try clear hcz35_1
           try clear hcz35_2
           try clear hcz35_3
           try clear hcz35_4
           try clear hcz37_0
           try clear hcz37_1
           try clear hcz37_2
           try clear hcz37_3
           try clear hcz37_4
           try clear hcz43_0
           try clear hcz43_1
           try clear hcz43_2
           try clear hcz43_3
           try clear hcz43_4
           try clear hcz44_0
           try clear hcz44_1
           try clear hcz44_2
           try clear hcz44_3
           try clear hcz44_4
           try clear hcz46_0
           try clear hcz46_1
           try clear hcz46_2
           try clear hcz46_3
           try clear hcz46_4
           try clear hcz47_0
           try clear hcz47_1
           try clear hcz47_2
           try clear hcz47_3
           try clear hcz47_4
           try clear hcz49_0
           try clear hcz49_1
           try clear hcz49_2
           try clear hcz49_3
           try clear hcz49_4
           try clear hfz11_0
           try clear hfz11_1
           try clear hfz11_2
           try clear hfz11_3
           try clear hfz11_4
           try clear hfz12_0
           try clear hfz12_1
           try clear hfz12_2
           try clear hfz12_3
           try clear hfz12_4
           try clear hfz14_0
           try clear hfz14_1
           try clear hfz14_2
           try clear hfz14_3
           try clear hfz14_4
           try clear hfz15_0
           try clear hfz15_1
           try clear hfz15_2
           try clear hfz15_3
           try clear hfz15_4
           try clear hfz17_0
           try clear hfz17_1
           try clear hfz17_2
           try clear hfz17_3
           try clear hfz17_4
           try clear hfz18_0
           try clear hfz18_1
           try clear hfz18_2
           try clear hfz18_3
           try clear hfz18_4
           try clear hfz20_0
           try clear hfz20_1
           try clear hfz20_2
           try clear hfz20_3
           try clear hfz20_4
           try clear hfz21_0
           try clear hfz21_1
           try clear hfz21_2
           try clear hfz21_3
           try clear hfz21_4
           try clear hfz23_0
           try clear hfz23_1
           try clear hfz23_2
           try clear hfz23_3
           try clear hfz23_4
           try clear hfz24_0
           try clear hfz24_1
           try clear hfz24_2
           try clear hfz24_3
           try clear hfz24_4
           try clear hfz31_0
           try clear hfz31_1
           try clear hfz31_2
           try clear hfz31_3
           try clear hfz31_4
           try clear hfz32_0
           try clear hfz32_1
           try clear hfz32_2
           try clear hfz32_3
           try clear hfz32_4
           try clear hfz34_0
           try clear hfz34_1
           try clear hfz34_2
           try clear hfz34_3
           try clear hfz34_4
           try clear hfz35_0
           try clear hfz35_1
           try clear hfz35_2
           try clear hfz35_3
           try clear hfz35_4
           try clear hfz37_0
           try clear hfz37_1
           try clear hfz37_2
           try clear hfz37_3
           try clear hfz37_4
           try clear hfz43_0
           try clear hfz43_1
           try clear hfz43_2
           try clear hfz43_3
           try clear hfz43_4
           try clear hfz44_0
           try clear hfz44_1
           try clear hfz44_2
           try clear hfz44_3
           try clear hfz44_4
           try clear hfz46_0
           try clear hfz46_1
           try clear hfz46_2
           try clear hfz46_3
           try clear hfz46_4
           try clear hfz47_0
           try clear hfz47_1
           try clear hfz47_2
           try clear hfz47_3
           try clear hfz47_4
           try clear hfz49_0
           try clear hfz49_1
           try clear hfz49_2
           try clear hfz49_3
           try clear hfz49_4
           try clear hx140_0
           try clear hx140_1
           try clear hx141_0
           try clear hx141_1
           try clear hx142_0
           try clear hx142_1
           try clear hx142_2
           try clear hx143_0
           try clear hx143_1
           try clear hx143_2
           try clear p1
           try clear p14
           try clear p140
           try clear p141
           try clear p142
           try clear p143
           try clear p2
           try clear p6
           try clear q1
           try clear q14
           try clear q140
           try clear q141
           try clear q142
           try clear q143
           obtain ⟨x7_4, rfl, HA, HK4, BK138, BK139, HB⟩ := hrel
           cases gk with
           | zero => exact absurd HA.out (by simp [tallowref20_same.l2])
           | succ k4 =>
            have H := HA.out
            clear HA
            simp only [tallowref20_same.l2] at H
            by_cases c50 : x7_4 < (l0_4.length : Int)
            ·rw [if_pos c50] at H
             have c50b0 : decide (x7_4 < (l0_4.length : Int)) = true := decide_eq_true c50
             clear c50
             by_cases c51 : 0 ≤ x7_4
             ·rw [if_pos c51] at H
              have c51b0 : decide (0 ≤ x7_4) = true := decide_eq_true c51
              clear c51
              by_cases c52 : x7_4 < (l1_4.length : Int)
              ·rw [if_pos c52] at H
               have c52b0 : decide (x7_4 < (l1_4.length : Int)) = true := decide_eq_true c52
               clear c52
               by_cases c53 : (!(((rd_T33 l0_4 x7_4).f0) == ((rd_T33 l1_4 x7_4).f0)) || (!(((rd_T33 l0_4 x7_4).f1) == ((rd_T33 l1_4 x7_4).f1)) || (!(((rd_T33 l0_4 x7_4).f2) == ((rd_T33 l1_4 x7_4).f2))))) = true
               ·rw [if_pos c53] at H
                have c53b0 : (!(((rd_T33 l0_4 x7_4).f0) == ((rd_T33 l1_4 x7_4).f0)) || (!(((rd_T33 l0_4 x7_4).f1) == ((rd_T33 l1_4 x7_4).f1)) || (!(((rd_T33 l0_4 x7_4).f2) == ((rd_T33 l1_4 x7_4).f2))))) = true := c53
                clear c53
                obtain rfl := Option.some.inj H
                have hnb54 := NB138_139.out
                have hnc54 := NB139_138.out
                have hcz55_0 : wr.cell? ⟨gb138, 0, none⟩ = some (.int .i64 a0_0) := (q1q BK138.out 0).trans rfl
                have hcz55_1 : wr.cell? ⟨gb138, 1, none⟩ = some (.int .i64 a0_1) := (q1q BK138.out 1).trans rfl
                have hcz55_2 : wr.cell? ⟨gb138, 2, none⟩ = some (.slice A0_2 l0_2.length c0_2) := (q1q BK138.out 2).trans rfl
                have hcz55_3 : wr.cell? ⟨gb138, 3, none⟩ = some (.slice A0_3 l0_3.length c0_3) := (q1q BK138.out 3).trans rfl
                have hcz55_4 : wr.cell? ⟨gb138, 4, none⟩ = some (.slice A0_4 l0_4.length c0_4) := (q1q BK138.out 4).trans rfl
                have hfz55_0 := blk_frozen BK138.out 0
                have hfz55_1 := blk_frozen BK138.out 1
                have hfz55_2 := blk_frozen BK138.out 2
                have hfz55_3 := blk_frozen BK138.out 3
                have hfz55_4 := blk_frozen BK138.out 4
                have p144 : 0 ≤ (x7_4 : Int) := of_decide_eq_true (by first | (with_reducible assumption) | assumption)
                have q144 : x7_4 < (l0_4.length : Int) := of_decide_eq_true (by first | (with_reducible assumption) | assumption)
                obtain ⟨ad144, e144, hx144_0, hx144_1, hx144_2⟩ := at_T33 HR0_4.out x7_4 p144 q144
                cases e144
                replace hx144_0 := (HB.out.cell (World.block_lt_of_cell? w _ hx144_0)).trans hx144_0
                replace hx144_1 := (HB.out.cell (World.block_lt_of_cell? w _ hx144_1)).trans hx144_1
                replace hx144_2 := (HB.out.cell (World.block_lt_of_cell? w _ hx144_2)).trans hx144_2
                replace p144 := eq_true p144
                replace q144 := eq_true q144
                have hcz56_0 : wr.cell? ⟨gb139, 0, none⟩ = some (.int .i64 a1_0) := (q1q BK139.out 0).trans rfl
                have hcz56_1 : wr.cell? ⟨gb139, 1, none⟩ = some (.int .i64 a1_1) := (q1q BK139.out 1).trans rfl
                have hcz56_2 : wr.cell? ⟨gb139, 2, none⟩ = some (.slice A1_2 l1_2.length c1_2) := (q1q BK139.out 2).trans rfl
                have hcz56_3 : wr.cell? ⟨gb139, 3, none⟩ = some (.slice A1_3 l1_3.length c1_3) := (q1q BK139.out 3).trans rfl
                have hcz56_4 : wr.cell? ⟨gb139, 4, none⟩ = some (.slice A1_4 l1_4.length c1_4) := (q1q BK139.out 4).trans rfl
                have hfz56_0 := blk_frozen BK139.out 0
                have hfz56_1 := blk_frozen BK139.out 1
                have hfz56_2 := blk_frozen BK139.out 2
                have hfz56_3 := blk_frozen BK139.out 3
                have hfz56_4 := blk_frozen BK139.out 4
                have p145 : 0 ≤ (x7_4 : Int) := of_decide_eq_true (by first | (with_reducible assumption) | assumption)
                have q145 : x7_4 < (l1_4.length : Int) := of_decide_eq_true (by first | (with_reducible assumption) | assumption)
                obtain ⟨ad145, e145, hx145_0, hx145_1, hx145_2⟩ := at_T33 HR1_4.out x7_4 p145 q145
                cases e145
                replace hx145_0 := (HB.out.cell (World.block_lt_of_cell? w _ hx145_0)).trans hx145_0
                replace hx145_1 := (HB.out.cell (World.block_lt_of_cell? w _ hx145_1)).trans hx145_1
                replace hx145_2 := (HB.out.cell (World.block_lt_of_cell? w _ hx145_2)).trans hx145_2
                replace p145 := eq_true p145
                replace q145 := eq_true q145
                go_wp2
                repeat (go_quiet (fail); try go_wp2)
                go_ret
                exact ⟨by first | rfl | (simp [errW_none, errW_some] <;> rfl) | (simp [*, errW_none, errW_some] <;> rfl), by repeat (first | (with_reducible first | exact HB.out | apply below_alloc | apply q0q | apply q2q | refine below_set ?_ GE138.out | refine below_set ?_ GE139.out) | exact HB.out)⟩
               ·rw [if_neg c53] at H
                have c53b0 : (!(((rd_T33 l0_4 x7_4).f0) == ((rd_T33 l1_4 x7_4).f0)) || (!(((rd_T33 l0_4 x7_4).f1) == ((rd_T33 l1_4 x7_4).f1)) || (!(((rd_T33 l0_4 x7_4).f2) == ((rd_T33 l1_4 x7_4).f2))))) = false := by simpa using c53
                clear c53
                have H' := Aside0.mk H
                clear H
                have hnb57 := NB138_139.out
                have hnc57 := NB139_138.out
                have hcz58_0 : wr.cell? ⟨gb138, 0, none⟩ = some (.int .i64 a0_0) := (q1q BK138.out 0).trans rfl
                have hcz58_1 : wr.cell? ⟨gb138, 1, none⟩ = some (.int .i64 a0_1) := (q1q BK138.out 1).trans rfl
                have hcz58_2 : wr.cell? ⟨gb138, 2, none⟩ = some (.slice A0_2 l0_2.length c0_2) := (q1q BK138.out 2).trans rfl
                have hcz58_3 : wr.cell? ⟨gb138, 3, none⟩ = some (.slice A0_3 l0_3.length c0_3) := (q1q BK138.out 3).trans rfl
                have hcz58_4 : wr.cell? ⟨gb138, 4, none⟩ = some (.slice A0_4 l0_4.length c0_4) := (q1q BK138.out 4).trans rfl
                have hfz58_0 := blk_frozen BK138.out 0
                have hfz58_1 := blk_frozen BK138.out 1
                have hfz58_2 := blk_frozen BK138.out 2
                have hfz58_3 := blk_frozen BK138.out 3
                have hfz58_4 := blk_frozen BK138.out 4
                have p144 : 0 ≤ (x7_4 : Int) := of_decide_eq_true (by first | (with_reducible assumption) | assumption)
                have q144 : x7_4 < (l0_4.length : Int) := of_decide_eq_true (by first | (with_reducible assumption) | assumption)
                obtain ⟨ad144, e144, hx144_0, hx144_1, hx144_2⟩ := at_T33 HR0_4.out x7_4 p144 q144
                cases e144
                replace hx144_0 := (HB.out.cell (World.block_lt_of_cell? w _ hx144_0)).trans hx144_0
                replace hx144_1 := (HB.out.cell (World.block_lt_of_cell? w _ hx144_1)).trans hx144_1
                replace hx144_2 := (HB.out.cell (World.block_lt_of_cell? w _ hx144_2)).trans hx144_2
                replace p144 := eq_true p144
                replace q144 := eq_true q144
                have hcz59_0 : wr.cell? ⟨gb139, 0, none⟩ = some (.int .i64 a1_0) := (q1q BK139.out 0).trans rfl
                have hcz59_1 : wr.cell? ⟨gb139, 1, none⟩ = some (.int .i64 a1_1) := (q1q BK139.out 1).trans rfl
                have hcz59_2 : wr.cell? ⟨gb139, 2, none⟩ = some (.slice A1_2 l1_2.length c1_2) := (q1q BK139.out 2).trans rfl
                have hcz59_3 : wr.cell? ⟨gb139, 3, none⟩ = some (.slice A1_3 l1_3.length c1_3) := (q1q BK139.out 3).trans rfl
                have hcz59_4 : wr.cell? ⟨gb139, 4, none⟩ = some (.slice A1_4 l1_4.length c1_4) := (q1q BK139.out 4).trans rfl
                have hfz59_0 := blk_frozen BK139.out 0
                have hfz59_1 := blk_frozen BK139.out 1
                have hfz59_2 := blk_frozen BK139.out 2
                have hfz59_3 := blk_frozen BK139.out 3
                have hfz59_4 := blk_frozen BK139.out 4
                have p145 : 0 ≤ (x7_4 : Int) := of_decide_eq_true (by first | (with_reducible assumption) | assumption)
                have q145 : x7_4 < (l1_4.length : Int) := of_decide_eq_true (by first | (with_reducible assumption) | assumption)
                obtain ⟨ad145, e145, hx145_0, hx145_1, hx145_2⟩ := at_T33 HR1_4.out x7_4 p145 q145
                cases e145
                replace hx145_0 := (HB.out.cell (World.block_lt_of_cell? w _ hx145_0)).trans hx145_0
                replace hx145_1 := (HB.out.cell (World.block_lt_of_cell? w _ hx145_1)).trans hx145_1
                replace hx145_2 := (HB.out.cell (World.block_lt_of_cell? w _ hx145_2)).trans hx145_2
                replace p145 := eq_true p145
                replace q145 := eq_true q145
                go_wp2
                repeat (go_quiet (fail); try go_wp2)
                go_roundg k4
                case measure => have := HJ2.out; have := HK2.out; have := HK3.out; have := HK4.out; omega
                case rel => exact ⟨(wrap64 (x7_4 + 1)), (by first | rfl | (simp; done) | (simp [*]; done)), H', ⟨by have := HJ2.out; have := HK2.out; have := HK3.out; have := HK4.out; omega⟩, ⟨by (with_reducible repeat (first | refine blk_drewN ?_ _ | refine blk_drew ?_ | refine blk_alloc ?_ _)); exact BK138.out⟩, ⟨by (with_reducible repeat (first | refine blk_drewN ?_ _ | refine blk_drew ?_ | refine blk_alloc ?_ _)); exact BK139.out⟩, ⟨by repeat (first | (with_reducible first | exact HB.out | apply below_alloc | apply q0q | apply q2q | refine below_set ?_ GE138.out | refine below_set ?_ GE139.out) | exact HB.out)⟩⟩
              ·rw [if_neg c52] at H
               exact absurd H (by simp)
             ·rw [if_neg c51] at H
              exact absurd H (by simp)
            ·rw [if_neg c50] at H
             have c50b0 : decide (x7_4 < (l0_4.length : Int)) = false := decide_eq_false c50
             clear c50
             obtain rfl := Option.some.inj H
             have hnb60 := NB138_139.out
             have hnc60 := NB139_138.out
             have hcz61_0 : wr.cell? ⟨gb138, 0, none⟩ = some (.int .i64 a0_0) := (q1q BK138.out 0).trans rfl
             have hcz61_1 : wr.cell? ⟨gb138, 1, none⟩ = some (.int .i64 a0_1) := (q1q BK138.out 1).trans rfl
             have hcz61_2 : wr.cell? ⟨gb138, 2, none⟩ = some (.slice A0_2 l0_2.length c0_2) := (q1q BK138.out 2).trans rfl
             have hcz61_3 : wr.cell? ⟨gb138, 3, none⟩ = some (.slice A0_3 l0_3.length c0_3) := (q1q BK138.out 3).trans rfl
             have hcz61_4 : wr.cell? ⟨gb138, 4, none⟩ = some (.slice A0_4 l0_4.length c0_4) := (q1q BK138.out 4).trans rfl
             have hfz61_0 := blk_frozen BK138.out 0
             have hfz61_1 := blk_frozen BK138.out 1
             have hfz61_2 := blk_frozen BK138.out 2
             have hfz61_3 := blk_frozen BK138.out 3
             have hfz61_4 := blk_frozen BK138.out 4
             go_wp2
             repeat (go_quiet (fail); try go_wp2)
             go_ret
             exact ⟨by first | rfl | (simp [errW_none, errW_some] <;> rfl) | (simp [*, errW_none, errW_some] <;> rfl), by repeat (first | (with_reducible first | exact HB.out | apply below_alloc | apply q0q | apply q2q | refine below_set ?_ GE138.out | refine below_set ?_ GE139.out) | exact HB.out)⟩
end Go.Proofs.Ytpdcedmnkkiekaa.G
end
