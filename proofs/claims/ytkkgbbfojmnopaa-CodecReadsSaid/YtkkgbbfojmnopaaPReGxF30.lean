import Derived.Test.YtkkgbbfojmnopaaPReGx0
import Derived.Test.YtkkgbbfojmnopaaPReGxE42
import Derived.Test.YtkkgbbfojmnopaaPReGxE50
import Derived.Test.YtkkgbbfojmnopaaPReGxE52
set_option linter.unusedVariables false
set_option linter.unusedSimpArgs false
section
namespace Go.Proofs.Ytkkgbbfojmnopaa.G
open Go.RowKit Go.Proofs.YtkkgbbfojmnopaaW.PrintWords Go.Proofs.YtkkgbbfojmnopaaW.PrintLast Go.Proofs.YtkkgbbfojmnopaaW.PrintMore
attribute [local go_sem] q26q q27q q34q q35q q22q q23q q28q q29q
attribute [local go_sem high] eqA42 eqA50 eqA52
mutual
def fQ5.j0 : Nat → Bool → Int → Int → List (S50) → List (S42) → List (S52) → Int → Int → List (S50) → List (S42) → List (S52) → Option (Bool)
 | 0, _, _, _, _, _, _, _, _, _, _, _ => none
 | k + 1, x46, x384000, x384001, x384002, x384003, x384004, x385000, x385001, x385002, x385003, x385004 => if x46 = true then (some false) else (fQ5.l0 k 0 x384000 x384001 x384002 x384003 x384004 x385000 x385001 x385002 x385003 x385004)
def fQ5.l0 : Nat → Int → Int → Int → List (S50) → List (S42) → List (S52) → Int → Int → List (S50) → List (S42) → List (S52) → Option (Bool)
 | 0, _, _, _, _, _, _, _, _, _, _, _ => none
 | k + 1, x5, x384000, x384001, x384002, x384003, x384004, x385000, x385001, x385002, x385003, x385004 => if x5 < (x384002.length : Int) then (if 0 ≤ x5 then (if x5 < (x385002.length : Int) then (if (!(((rd_T50 x384002 x5).f0) == ((rd_T50 x385002 x5).f0)) || (!(((rd_T50 x384002 x5).f1) == ((rd_T50 x385002 x5).f1)))) = true then (some false) else (fQ5.l0 k (wrap64 (x5 + 1)) x384000 x384001 x384002 x384003 x384004 x385000 x385001 x385002 x385003 x385004)) else (none)) else (none)) else (fQ5.l1 k 0 x384000 x384001 x384002 x384003 x384004 x385000 x385001 x385002 x385003 x385004)
def fQ5.l1 : Nat → Int → Int → Int → List (S50) → List (S42) → List (S52) → Int → Int → List (S50) → List (S42) → List (S52) → Option (Bool)
 | 0, _, _, _, _, _, _, _, _, _, _, _ => none
 | k + 1, x6, x384000, x384001, x384002, x384003, x384004, x385000, x385001, x385002, x385003, x385004 => if x6 < (x384003.length : Int) then (if 0 ≤ x6 then (if x6 < (x385003.length : Int) then (if (!(((rd_T42 x384003 x6).f0) == ((rd_T42 x385003 x6).f0)) || (!(((rd_T42 x384003 x6).f1) == ((rd_T42 x385003 x6).f1)) || (!((((rd_T42 x384003 x6).f2).toList) == (((rd_T42 x385003 x6).f2).toList))))) = true then (some false) else (fQ5.l1 k (wrap64 (x6 + 1)) x384000 x384001 x384002 x384003 x384004 x385000 x385001 x385002 x385003 x385004)) else (none)) else (none)) else (fQ5.l2 k 0 x384000 x384001 x384002 x384003 x384004 x385000 x385001 x385002 x385003 x385004)
def fQ5.l2 : Nat → Int → Int → Int → List (S50) → List (S42) → List (S52) → Int → Int → List (S50) → List (S42) → List (S52) → Option (Bool)
 | 0, _, _, _, _, _, _, _, _, _, _, _ => none
 | k + 1, x7, x384000, x384001, x384002, x384003, x384004, x385000, x385001, x385002, x385003, x385004 => if x7 < (x384004.length : Int) then (if 0 ≤ x7 then (if x7 < (x385004.length : Int) then (if (!(((rd_T52 x384004 x7).f0) == ((rd_T52 x385004 x7).f0)) || (!(((rd_T52 x384004 x7).f1) == ((rd_T52 x385004 x7).f1)) || (!(((rd_T52 x384004 x7).f2) == ((rd_T52 x385004 x7).f2))))) = true then (some false) else (fQ5.l2 k (wrap64 (x7 + 1)) x384000 x384001 x384002 x384003 x384004 x385000 x385001 x385002 x385003 x385004)) else (none)) else (none)) else (some true)
end
def fQ5.f (k : Nat) (a0_0 : Int) (a0_1 : Int) (l0_2 : List (S50)) (l0_3 : List (S42)) (l0_4 : List (S52)) (a1_0 : Int) (a1_1 : Int) (l1_2 : List (S50)) (l1_3 : List (S42)) (l1_4 : List (S52)) : Option (Bool) := if a0_0 = a1_0 then (if a0_1 = a1_1 then (if (l0_2.length : Int) = (l1_2.length : Int) then (if (l0_3.length : Int) = (l1_3.length : Int) then (fQ5.j0 k ((l0_4.length : Int) != (l1_4.length : Int)) a0_0 a0_1 l0_2 l0_3 l0_4 a1_0 a1_1 l1_2 l1_3 l1_4) else (fQ5.j0 k true a0_0 a0_1 l0_2 l0_3 l0_4 a1_0 a1_1 l1_2 l1_3 l1_4)) else (fQ5.j0 k true a0_0 a0_1 l0_2 l0_3 l0_4 a1_0 a1_1 l1_2 l1_3 l1_4)) else (fQ5.j0 k true a0_0 a0_1 l0_2 l0_3 l0_4 a1_0 a1_1 l1_2 l1_3 l1_4)) else (fQ5.j0 k true a0_0 a0_1 l0_2 l0_3 l0_4 a1_0 a1_1 l1_2 l1_3 l1_4)
set_option maxHeartbeats 8000000 in
set_option maxRecDepth 100000 in
theorem fQ5.calls (k : Nat) (a0_0 : Int) (a0_1 : Int) (A0_2 : Option Addr) (c0_2 : Nat) (l0_2 : List (S50)) (A0_3 : Option Addr) (c0_3 : Nat) (l0_3 : List (S42)) (A0_4 : Option Addr) (c0_4 : Nat) (l0_4 : List (S52)) (a1_0 : Int) (a1_1 : Int) (A1_2 : Option Addr) (c1_2 : Nat) (l1_2 : List (S50)) (A1_3 : Option Addr) (c1_3 : Nat) (l1_3 : List (S42)) (A1_4 : Option Addr) (c1_4 : Nat) (l1_4 : List (S52)) (r : Bool) (w : World) (hr0_2 : Kd.C k50 w A0_2 l0_2.length l0_2) (hc0_2 : l0_2.length ≤ c0_2) (hr0_3 : Kd.C k42 w A0_3 l0_3.length l0_3) (hc0_3 : l0_3.length ≤ c0_3) (hr0_4 : Kd.C k52 w A0_4 l0_4.length l0_4) (hc0_4 : l0_4.length ≤ c0_4) (hr1_2 : Kd.C k50 w A1_2 l1_2.length l1_2) (hc1_2 : l1_2.length ≤ c1_2) (hr1_3 : Kd.C k42 w A1_3 l1_3.length l1_3) (hc1_3 : l1_3.length ≤ c1_3) (hr1_4 : Kd.C k52 w A1_4 l1_4.length l1_4) (hc1_4 : l1_4.length ≤ c1_4) (h : fQ5.f k a0_0 a0_1 l0_2 l0_3 l0_4 a1_0 a1_1 l1_2 l1_3 l1_4 = some r) :
  Calls Try.prog 30 #[.agg #[.int .i64 a0_0, .int .i64 a0_1, .slice A0_2 l0_2.length c0_2, .slice A0_3 l0_3.length c0_3, .slice A0_4 l0_4.length c0_4], .agg #[.int .i64 a1_0, .int .i64 a1_1, .slice A1_2 l1_2.length c1_2, .slice A1_3 l1_3.length c1_3, .slice A1_4 l1_4.length c1_4]] w fun e w' => e = .returned (.bool r) ∧ Below w.heap.size w w' := by
 have hu47 := Try.underlying47
 have hu50 := Try.underlying50
 have hu42 := Try.underlying42
 have hu52 := Try.underlying52
 have HR0_2 := Aq.mk hr0_2
 have HC0_2 := Aq.mk hc0_2
 clear hr0_2 hc0_2
 have HR0_3 := Aq.mk hr0_3
 have HC0_3 := Aq.mk hc0_3
 clear hr0_3 hc0_3
 have HR0_4 := Aq.mk hr0_4
 have HC0_4 := Aq.mk hc0_4
 clear hr0_4 hc0_4
 have HR1_2 := Aq.mk hr1_2
 have HC1_2 := Aq.mk hc1_2
 clear hr1_2 hc1_2
 have HR1_3 := Aq.mk hr1_3
 have HC1_3 := Aq.mk hc1_3
 clear hr1_3 hc1_3
 have HR1_4 := Aq.mk hr1_4
 have HC1_4 := Aq.mk hc1_4
 clear hr1_4 hc1_4
 have HB := Aq.mk (Below.refl w.heap.size w)
 have H : (if a0_0 = a1_0 then (if a0_1 = a1_1 then (if (l0_2.length : Int) = (l1_2.length : Int) then (if (l0_3.length : Int) = (l1_3.length : Int) then (fQ5.j0 k ((l0_4.length : Int) != (l1_4.length : Int)) a0_0 a0_1 l0_2 l0_3 l0_4 a1_0 a1_1 l1_2 l1_3 l1_4) else (fQ5.j0 k true a0_0 a0_1 l0_2 l0_3 l0_4 a1_0 a1_1 l1_2 l1_3 l1_4)) else (fQ5.j0 k true a0_0 a0_1 l0_2 l0_3 l0_4 a1_0 a1_1 l1_2 l1_3 l1_4)) else (fQ5.j0 k true a0_0 a0_1 l0_2 l0_3 l0_4 a1_0 a1_1 l1_2 l1_3 l1_4)) else (fQ5.j0 k true a0_0 a0_1 l0_2 l0_3 l0_4 a1_0 a1_1 l1_2 l1_3 l1_4)) = some r := h
 clear h
 have HC3 := Aq.mk H
 clear H
 go_enter Try.func30, Try.ntmps30
 go_upto_region 1 with (first | ((with_reducible refine q12q (N := 2) rfl ?_); (try (refine q20q (by rfl) ?_; dsimp only)); refine q11q ?hg (N := 2) ?hd (cs := #[.int .i64 a0_0, .int .i64 a0_1, .slice A0_2 l0_2.length c0_2, .slice A0_3 l0_3.length c0_3, .slice A0_4 l0_4.length c0_4]) (t := 47) ?hr ?_; (case hd => rfl); (case hg => rfl); (case hr => first | (go_simp; done) | (go_simp; rfl)); intro gb383 hg w4 hbox hb; have n0_ := Aq.mk (q10q (by repeat (with_reducible first | exact HB.out | apply q4q | apply q0q | apply q2q)) hb); have n1_ := Aq.mk (hbox); have n2_ := Aq.mk ((by rw [hg]; exact (q6q (by repeat (with_reducible first | exact HB.out | apply q4q | apply q0q | apply q2q))) : w.heap.size ≤ gb383)); have n3_ := Aq.mk ((by rw [hg]; exact (q6q (by repeat (with_reducible first | exact HB.out | apply q4q | apply q0q | apply q2q))) : w.heap.size ≤ gb383)); clear HB; have HB := n0_; have BK383 := n1_; have GW383 := n2_; have GE383 := n3_; clear n0_ n1_ n2_ n3_; clear hb hbox hg) | ((with_reducible refine q12q (N := 3) rfl ?_); (try (refine q20q (by rfl) ?_; dsimp only)); refine q11q ?hg (N := 3) ?hd (cs := #[.int .i64 a1_0, .int .i64 a1_1, .slice A1_2 l1_2.length c1_2, .slice A1_3 l1_3.length c1_3, .slice A1_4 l1_4.length c1_4]) (t := 47) ?hr ?_; (case hd => rfl); (case hg => rfl); (case hr => first | (go_simp; done) | (go_simp; rfl)); intro gb384 hg w5 hbox hb; have n0_ := Aq.mk (q13q (g := gb383) (o := .cells #[.int .i64 a0_0, .int .i64 a0_1, .slice A0_2 l0_2.length c0_2, .slice A0_3 l0_3.length c0_3, .slice A0_4 l0_4.length c0_4] 47 (0, 0)) BK383.out hb); have n1_ := Aq.mk (q10q (by repeat (with_reducible first | exact HB.out | apply q4q | apply q0q | apply q2q | refine q5q ?_ GE383.out)) hb); have n2_ := Aq.mk (hbox); have n3_ := Aq.mk ((by rw [hg]; exact (q6q (by repeat (with_reducible first | exact HB.out | apply q4q | apply q0q | apply q2q | refine q5q ?_ GE383.out))) : w.heap.size ≤ gb384)); have n4_ := Aq.mk ((by rw [hg]; exact (q6q (by repeat (with_reducible first | exact HB.out | apply q4q | apply q0q | apply q2q | refine q5q ?_ GE383.out))) : w.heap.size ≤ gb384)); have n5_ := Aq.mk ((by rw [hg]; exact Nat.ne_of_lt (q16q (g := gb383) (o := .cells #[.int .i64 a0_0, .int .i64 a0_1, .slice A0_2 l0_2.length c0_2, .slice A0_3 l0_3.length c0_3, .slice A0_4 l0_4.length c0_4] 47 (0, 0)) BK383.out) : gb383 ≠ gb384)); have n6_ := Aq.mk ((by rw [hg]; exact Nat.ne_of_gt (q16q (g := gb383) (o := .cells #[.int .i64 a0_0, .int .i64 a0_1, .slice A0_2 l0_2.length c0_2, .slice A0_3 l0_3.length c0_3, .slice A0_4 l0_4.length c0_4] 47 (0, 0)) BK383.out) : gb384 ≠ gb383)); clear BK383; clear HB; have BK383 := n0_; have HB := n1_; have BK384 := n2_; have GW384 := n3_; have GE384 := n4_; have NB383_384 := n5_; have NB384_383 := n6_; clear n0_ n1_ n2_ n3_ n4_ n5_ n6_; clear hb hbox hg))
 repeat (go_quiet (first | ((with_reducible refine q12q (N := 2) rfl ?_); (try (refine q20q (by rfl) ?_; dsimp only)); refine q11q ?hg (N := 2) ?hd (cs := #[.int .i64 a0_0, .int .i64 a0_1, .slice A0_2 l0_2.length c0_2, .slice A0_3 l0_3.length c0_3, .slice A0_4 l0_4.length c0_4]) (t := 47) ?hr ?_; (case hd => rfl); (case hg => rfl); (case hr => first | (go_simp; done) | (go_simp; rfl)); intro gb383 hg w4 hbox hb; have n0_ := Aq.mk (q10q (by repeat (with_reducible first | exact HB.out | apply q4q | apply q0q | apply q2q)) hb); have n1_ := Aq.mk (hbox); have n2_ := Aq.mk ((by rw [hg]; exact (q6q (by repeat (with_reducible first | exact HB.out | apply q4q | apply q0q | apply q2q))) : w.heap.size ≤ gb383)); have n3_ := Aq.mk ((by rw [hg]; exact (q6q (by repeat (with_reducible first | exact HB.out | apply q4q | apply q0q | apply q2q))) : w.heap.size ≤ gb383)); clear HB; have HB := n0_; have BK383 := n1_; have GW383 := n2_; have GE383 := n3_; clear n0_ n1_ n2_ n3_; clear hb hbox hg) | ((with_reducible refine q12q (N := 3) rfl ?_); (try (refine q20q (by rfl) ?_; dsimp only)); refine q11q ?hg (N := 3) ?hd (cs := #[.int .i64 a1_0, .int .i64 a1_1, .slice A1_2 l1_2.length c1_2, .slice A1_3 l1_3.length c1_3, .slice A1_4 l1_4.length c1_4]) (t := 47) ?hr ?_; (case hd => rfl); (case hg => rfl); (case hr => first | (go_simp; done) | (go_simp; rfl)); intro gb384 hg w5 hbox hb; have n0_ := Aq.mk (q13q (g := gb383) (o := .cells #[.int .i64 a0_0, .int .i64 a0_1, .slice A0_2 l0_2.length c0_2, .slice A0_3 l0_3.length c0_3, .slice A0_4 l0_4.length c0_4] 47 (0, 0)) BK383.out hb); have n1_ := Aq.mk (q10q (by repeat (with_reducible first | exact HB.out | apply q4q | apply q0q | apply q2q | refine q5q ?_ GE383.out)) hb); have n2_ := Aq.mk (hbox); have n3_ := Aq.mk ((by rw [hg]; exact (q6q (by repeat (with_reducible first | exact HB.out | apply q4q | apply q0q | apply q2q | refine q5q ?_ GE383.out))) : w.heap.size ≤ gb384)); have n4_ := Aq.mk ((by rw [hg]; exact (q6q (by repeat (with_reducible first | exact HB.out | apply q4q | apply q0q | apply q2q | refine q5q ?_ GE383.out))) : w.heap.size ≤ gb384)); have n5_ := Aq.mk ((by rw [hg]; exact Nat.ne_of_lt (q16q (g := gb383) (o := .cells #[.int .i64 a0_0, .int .i64 a0_1, .slice A0_2 l0_2.length c0_2, .slice A0_3 l0_3.length c0_3, .slice A0_4 l0_4.length c0_4] 47 (0, 0)) BK383.out) : gb383 ≠ gb384)); have n6_ := Aq.mk ((by rw [hg]; exact Nat.ne_of_gt (q16q (g := gb383) (o := .cells #[.int .i64 a0_0, .int .i64 a0_1, .slice A0_2 l0_2.length c0_2, .slice A0_3 l0_3.length c0_3, .slice A0_4 l0_4.length c0_4] 47 (0, 0)) BK383.out) : gb384 ≠ gb383)); clear BK383; clear HB; have BK383 := n0_; have HB := n1_; have BK384 := n2_; have GW384 := n3_; have GE384 := n4_; have NB383_384 := n5_; have NB384_383 := n6_; clear n0_ n1_ n2_ n3_ n4_ n5_ n6_; clear hb hbox hg)); go_upto_region 1 with (first | ((with_reducible refine q12q (N := 2) rfl ?_); (try (refine q20q (by rfl) ?_; dsimp only)); refine q11q ?hg (N := 2) ?hd (cs := #[.int .i64 a0_0, .int .i64 a0_1, .slice A0_2 l0_2.length c0_2, .slice A0_3 l0_3.length c0_3, .slice A0_4 l0_4.length c0_4]) (t := 47) ?hr ?_; (case hd => rfl); (case hg => rfl); (case hr => first | (go_simp; done) | (go_simp; rfl)); intro gb383 hg w4 hbox hb; have n0_ := Aq.mk (q10q (by repeat (with_reducible first | exact HB.out | apply q4q | apply q0q | apply q2q)) hb); have n1_ := Aq.mk (hbox); have n2_ := Aq.mk ((by rw [hg]; exact (q6q (by repeat (with_reducible first | exact HB.out | apply q4q | apply q0q | apply q2q))) : w.heap.size ≤ gb383)); have n3_ := Aq.mk ((by rw [hg]; exact (q6q (by repeat (with_reducible first | exact HB.out | apply q4q | apply q0q | apply q2q))) : w.heap.size ≤ gb383)); clear HB; have HB := n0_; have BK383 := n1_; have GW383 := n2_; have GE383 := n3_; clear n0_ n1_ n2_ n3_; clear hb hbox hg) | ((with_reducible refine q12q (N := 3) rfl ?_); (try (refine q20q (by rfl) ?_; dsimp only)); refine q11q ?hg (N := 3) ?hd (cs := #[.int .i64 a1_0, .int .i64 a1_1, .slice A1_2 l1_2.length c1_2, .slice A1_3 l1_3.length c1_3, .slice A1_4 l1_4.length c1_4]) (t := 47) ?hr ?_; (case hd => rfl); (case hg => rfl); (case hr => first | (go_simp; done) | (go_simp; rfl)); intro gb384 hg w5 hbox hb; have n0_ := Aq.mk (q13q (g := gb383) (o := .cells #[.int .i64 a0_0, .int .i64 a0_1, .slice A0_2 l0_2.length c0_2, .slice A0_3 l0_3.length c0_3, .slice A0_4 l0_4.length c0_4] 47 (0, 0)) BK383.out hb); have n1_ := Aq.mk (q10q (by repeat (with_reducible first | exact HB.out | apply q4q | apply q0q | apply q2q | refine q5q ?_ GE383.out)) hb); have n2_ := Aq.mk (hbox); have n3_ := Aq.mk ((by rw [hg]; exact (q6q (by repeat (with_reducible first | exact HB.out | apply q4q | apply q0q | apply q2q | refine q5q ?_ GE383.out))) : w.heap.size ≤ gb384)); have n4_ := Aq.mk ((by rw [hg]; exact (q6q (by repeat (with_reducible first | exact HB.out | apply q4q | apply q0q | apply q2q | refine q5q ?_ GE383.out))) : w.heap.size ≤ gb384)); have n5_ := Aq.mk ((by rw [hg]; exact Nat.ne_of_lt (q16q (g := gb383) (o := .cells #[.int .i64 a0_0, .int .i64 a0_1, .slice A0_2 l0_2.length c0_2, .slice A0_3 l0_3.length c0_3, .slice A0_4 l0_4.length c0_4] 47 (0, 0)) BK383.out) : gb383 ≠ gb384)); have n6_ := Aq.mk ((by rw [hg]; exact Nat.ne_of_gt (q16q (g := gb383) (o := .cells #[.int .i64 a0_0, .int .i64 a0_1, .slice A0_2 l0_2.length c0_2, .slice A0_3 l0_3.length c0_3, .slice A0_4 l0_4.length c0_4] 47 (0, 0)) BK383.out) : gb384 ≠ gb383)); clear BK383; clear HB; have BK383 := n0_; have HB := n1_; have BK384 := n2_; have GW384 := n3_; have GE384 := n4_; have NB383_384 := n5_; have NB384_383 := n6_; clear n0_ n1_ n2_ n3_ n4_ n5_ n6_; clear hb hbox hg)))
 (try simp only [Act.put, List.setIfInBounds_toArray, List.set_cons_zero, List.set_cons_succ])
 go_cut [46] (fun v46 wc => ∃ (kq : Nat) (x46_2 : Bool), v46 = .bool x46_2 ∧ Aq (fQ5.j0 kq x46_2 a0_0 a0_1 l0_2 l0_3 l0_4 a1_0 a1_1 l1_2 l1_3 l1_4 = some r) ∧ Aq (kq ≤ k) ∧ Aq (wc.heap[gb383]? = some (.cells #[.int .i64 a0_0, .int .i64 a0_1, (.slice A0_2 l0_2.length c0_2), (.slice A0_3 l0_3.length c0_3), (.slice A0_4 l0_4.length c0_4)] 47 (0, 0))) ∧ Aq (wc.heap[gb384]? = some (.cells #[.int .i64 a1_0, .int .i64 a1_1, (.slice A1_2 l1_2.length c1_2), (.slice A1_3 l1_3.length c1_3), (.slice A1_4 l1_4.length c1_4)] 47 (0, 0))) ∧ Aq (Below w.heap.size w wc))
 case first =>
  have H := HC3.out
  clear HC3
  by_cases c6 : a0_0 = a1_0
  case neg =>
   rw [if_neg c6] at H
   have c6b0 : (a0_0 == a1_0) = false := beq_eq_false_iff_ne.mpr c6
   have c6b1 : (a0_0 != a1_0) = true := bne_iff_ne.mpr c6
   (first | rw [c6b0] | (simp only [i64_w, i32_w]; rw [c6b0]) | skip)
   have H' := Aq.mk H
   clear H
   have hnb22 := NB383_384.out
   have hnc22 := NB384_383.out
   have hcz23_0 : w5.cell? ⟨gb383, 0, none⟩ = some (.int .i64 a0_0) := (q3q BK383.out 0).trans rfl
   have hcz23_1 : w5.cell? ⟨gb383, 1, none⟩ = some (.int .i64 a0_1) := (q3q BK383.out 1).trans rfl
   have hcz23_2 : w5.cell? ⟨gb383, 2, none⟩ = some (.slice A0_2 l0_2.length c0_2) := (q3q BK383.out 2).trans rfl
   have hcz23_3 : w5.cell? ⟨gb383, 3, none⟩ = some (.slice A0_3 l0_3.length c0_3) := (q3q BK383.out 3).trans rfl
   have hcz23_4 : w5.cell? ⟨gb383, 4, none⟩ = some (.slice A0_4 l0_4.length c0_4) := (q3q BK383.out 4).trans rfl
   have hfz23_0 := q1q BK383.out 0
   have hfz23_1 := q1q BK383.out 1
   have hfz23_2 := q1q BK383.out 2
   have hfz23_3 := q1q BK383.out 3
   have hfz23_4 := q1q BK383.out 4
   have hcz24_0 : w5.cell? ⟨gb384, 0, none⟩ = some (.int .i64 a1_0) := (q3q BK384.out 0).trans rfl
   have hcz24_1 : w5.cell? ⟨gb384, 1, none⟩ = some (.int .i64 a1_1) := (q3q BK384.out 1).trans rfl
   have hcz24_2 : w5.cell? ⟨gb384, 2, none⟩ = some (.slice A1_2 l1_2.length c1_2) := (q3q BK384.out 2).trans rfl
   have hcz24_3 : w5.cell? ⟨gb384, 3, none⟩ = some (.slice A1_3 l1_3.length c1_3) := (q3q BK384.out 3).trans rfl
   have hcz24_4 : w5.cell? ⟨gb384, 4, none⟩ = some (.slice A1_4 l1_4.length c1_4) := (q3q BK384.out 4).trans rfl
   have hfz24_0 := q1q BK384.out 0
   have hfz24_1 := q1q BK384.out 1
   have hfz24_2 := q1q BK384.out 2
   have hfz24_3 := q1q BK384.out 3
   have hfz24_4 := q1q BK384.out 4
   go_wp2
   repeat (go_quiet (fail); try go_wp2)
   go_meet
   case rel => exact ⟨_, (true), (by first | rfl | (simp; done) | (simp [*]; done)), H', ⟨by first | omega | exact Nat.le_refl _⟩, ⟨BK383.out⟩, ⟨BK384.out⟩, ⟨by repeat (with_reducible first | exact HB.out | apply q4q | apply q0q | apply q2q | refine q5q ?_ GE383.out | refine q5q ?_ GE384.out)⟩⟩
  rw [if_pos c6] at H
  have c6b0 : (a0_0 == a1_0) = true := beq_iff_eq.mpr c6
  have c6b1 : (a0_0 != a1_0) = false := bne_eq_false_iff_eq.mpr c6
  clear c6
  (first | rw [c6b0] | (simp only [i64_w, i32_w]; rw [c6b0]) | skip)
  by_cases c7 : a0_1 = a1_1
  case neg =>
   rw [if_neg c7] at H
   have c7b0 : (a0_1 == a1_1) = false := beq_eq_false_iff_ne.mpr c7
   have c7b1 : (a0_1 != a1_1) = true := bne_iff_ne.mpr c7
   have H' := Aq.mk H
   clear H
   have hnb19 := NB383_384.out
   have hnc19 := NB384_383.out
   have hcz20_0 : w5.cell? ⟨gb383, 0, none⟩ = some (.int .i64 a0_0) := (q3q BK383.out 0).trans rfl
   have hcz20_1 : w5.cell? ⟨gb383, 1, none⟩ = some (.int .i64 a0_1) := (q3q BK383.out 1).trans rfl
   have hcz20_2 : w5.cell? ⟨gb383, 2, none⟩ = some (.slice A0_2 l0_2.length c0_2) := (q3q BK383.out 2).trans rfl
   have hcz20_3 : w5.cell? ⟨gb383, 3, none⟩ = some (.slice A0_3 l0_3.length c0_3) := (q3q BK383.out 3).trans rfl
   have hcz20_4 : w5.cell? ⟨gb383, 4, none⟩ = some (.slice A0_4 l0_4.length c0_4) := (q3q BK383.out 4).trans rfl
   have hfz20_0 := q1q BK383.out 0
   have hfz20_1 := q1q BK383.out 1
   have hfz20_2 := q1q BK383.out 2
   have hfz20_3 := q1q BK383.out 3
   have hfz20_4 := q1q BK383.out 4
   have hcz21_0 : w5.cell? ⟨gb384, 0, none⟩ = some (.int .i64 a1_0) := (q3q BK384.out 0).trans rfl
   have hcz21_1 : w5.cell? ⟨gb384, 1, none⟩ = some (.int .i64 a1_1) := (q3q BK384.out 1).trans rfl
   have hcz21_2 : w5.cell? ⟨gb384, 2, none⟩ = some (.slice A1_2 l1_2.length c1_2) := (q3q BK384.out 2).trans rfl
   have hcz21_3 : w5.cell? ⟨gb384, 3, none⟩ = some (.slice A1_3 l1_3.length c1_3) := (q3q BK384.out 3).trans rfl
   have hcz21_4 : w5.cell? ⟨gb384, 4, none⟩ = some (.slice A1_4 l1_4.length c1_4) := (q3q BK384.out 4).trans rfl
   have hfz21_0 := q1q BK384.out 0
   have hfz21_1 := q1q BK384.out 1
   have hfz21_2 := q1q BK384.out 2
   have hfz21_3 := q1q BK384.out 3
   have hfz21_4 := q1q BK384.out 4
   go_wp2
   repeat (go_quiet (fail); try go_wp2)
   go_meet
   case rel => exact ⟨_, (true), (by first | rfl | (simp; done) | (simp [*]; done)), H', ⟨by first | omega | exact Nat.le_refl _⟩, ⟨BK383.out⟩, ⟨BK384.out⟩, ⟨by repeat (with_reducible first | exact HB.out | apply q4q | apply q0q | apply q2q | refine q5q ?_ GE383.out | refine q5q ?_ GE384.out)⟩⟩
  rw [if_pos c7] at H
  have c7b0 : (a0_1 == a1_1) = true := beq_iff_eq.mpr c7
  have c7b1 : (a0_1 != a1_1) = false := bne_eq_false_iff_eq.mpr c7
  clear c7
  by_cases c8 : (l0_2.length : Int) = (l1_2.length : Int)
  case neg =>
   rw [if_neg c8] at H
   have c8b0 : ((l0_2.length : Int) == (l1_2.length : Int)) = false := beq_eq_false_iff_ne.mpr c8
   have c8b1 : ((l0_2.length : Int) != (l1_2.length : Int)) = true := bne_iff_ne.mpr c8
   have c8b2 : (l0_2.length == l1_2.length) = false := by first | simpa using c8 | (simp at c8 ⊢; omega)
   have H' := Aq.mk H
   clear H
   have hnb16 := NB383_384.out
   have hnc16 := NB384_383.out
   have hcz17_0 : w5.cell? ⟨gb383, 0, none⟩ = some (.int .i64 a0_0) := (q3q BK383.out 0).trans rfl
   have hcz17_1 : w5.cell? ⟨gb383, 1, none⟩ = some (.int .i64 a0_1) := (q3q BK383.out 1).trans rfl
   have hcz17_2 : w5.cell? ⟨gb383, 2, none⟩ = some (.slice A0_2 l0_2.length c0_2) := (q3q BK383.out 2).trans rfl
   have hcz17_3 : w5.cell? ⟨gb383, 3, none⟩ = some (.slice A0_3 l0_3.length c0_3) := (q3q BK383.out 3).trans rfl
   have hcz17_4 : w5.cell? ⟨gb383, 4, none⟩ = some (.slice A0_4 l0_4.length c0_4) := (q3q BK383.out 4).trans rfl
   have hfz17_0 := q1q BK383.out 0
   have hfz17_1 := q1q BK383.out 1
   have hfz17_2 := q1q BK383.out 2
   have hfz17_3 := q1q BK383.out 3
   have hfz17_4 := q1q BK383.out 4
   have hcz18_0 : w5.cell? ⟨gb384, 0, none⟩ = some (.int .i64 a1_0) := (q3q BK384.out 0).trans rfl
   have hcz18_1 : w5.cell? ⟨gb384, 1, none⟩ = some (.int .i64 a1_1) := (q3q BK384.out 1).trans rfl
   have hcz18_2 : w5.cell? ⟨gb384, 2, none⟩ = some (.slice A1_2 l1_2.length c1_2) := (q3q BK384.out 2).trans rfl
   have hcz18_3 : w5.cell? ⟨gb384, 3, none⟩ = some (.slice A1_3 l1_3.length c1_3) := (q3q BK384.out 3).trans rfl
   have hcz18_4 : w5.cell? ⟨gb384, 4, none⟩ = some (.slice A1_4 l1_4.length c1_4) := (q3q BK384.out 4).trans rfl
   have hfz18_0 := q1q BK384.out 0
   have hfz18_1 := q1q BK384.out 1
   have hfz18_2 := q1q BK384.out 2
   have hfz18_3 := q1q BK384.out 3
   have hfz18_4 := q1q BK384.out 4
   go_wp2
   repeat (go_quiet (fail); try go_wp2)
   go_meet
   case rel => exact ⟨_, (true), (by first | rfl | (simp; done) | (simp [*]; done)), H', ⟨by first | omega | exact Nat.le_refl _⟩, ⟨BK383.out⟩, ⟨BK384.out⟩, ⟨by repeat (with_reducible first | exact HB.out | apply q4q | apply q0q | apply q2q | refine q5q ?_ GE383.out | refine q5q ?_ GE384.out)⟩⟩
  rw [if_pos c8] at H
  have c8b0 : ((l0_2.length : Int) == (l1_2.length : Int)) = true := beq_iff_eq.mpr c8
  have c8b1 : ((l0_2.length : Int) != (l1_2.length : Int)) = false := bne_eq_false_iff_eq.mpr c8
  have c8b2 : (l0_2.length == l1_2.length) = true := by first | simpa using c8 | (simp at c8 ⊢; omega)
  clear c8
  by_cases c9 : (l0_3.length : Int) = (l1_3.length : Int)
  case neg =>
   rw [if_neg c9] at H
   have c9b0 : ((l0_3.length : Int) == (l1_3.length : Int)) = false := beq_eq_false_iff_ne.mpr c9
   have c9b1 : ((l0_3.length : Int) != (l1_3.length : Int)) = true := bne_iff_ne.mpr c9
   have c9b2 : (l0_3.length == l1_3.length) = false := by first | simpa using c9 | (simp at c9 ⊢; omega)
   have H' := Aq.mk H
   clear H
   have hnb13 := NB383_384.out
   have hnc13 := NB384_383.out
   have hcz14_0 : w5.cell? ⟨gb383, 0, none⟩ = some (.int .i64 a0_0) := (q3q BK383.out 0).trans rfl
   have hcz14_1 : w5.cell? ⟨gb383, 1, none⟩ = some (.int .i64 a0_1) := (q3q BK383.out 1).trans rfl
   have hcz14_2 : w5.cell? ⟨gb383, 2, none⟩ = some (.slice A0_2 l0_2.length c0_2) := (q3q BK383.out 2).trans rfl
   have hcz14_3 : w5.cell? ⟨gb383, 3, none⟩ = some (.slice A0_3 l0_3.length c0_3) := (q3q BK383.out 3).trans rfl
   have hcz14_4 : w5.cell? ⟨gb383, 4, none⟩ = some (.slice A0_4 l0_4.length c0_4) := (q3q BK383.out 4).trans rfl
   have hfz14_0 := q1q BK383.out 0
   have hfz14_1 := q1q BK383.out 1
   have hfz14_2 := q1q BK383.out 2
   have hfz14_3 := q1q BK383.out 3
   have hfz14_4 := q1q BK383.out 4
   have hcz15_0 : w5.cell? ⟨gb384, 0, none⟩ = some (.int .i64 a1_0) := (q3q BK384.out 0).trans rfl
   have hcz15_1 : w5.cell? ⟨gb384, 1, none⟩ = some (.int .i64 a1_1) := (q3q BK384.out 1).trans rfl
   have hcz15_2 : w5.cell? ⟨gb384, 2, none⟩ = some (.slice A1_2 l1_2.length c1_2) := (q3q BK384.out 2).trans rfl
   have hcz15_3 : w5.cell? ⟨gb384, 3, none⟩ = some (.slice A1_3 l1_3.length c1_3) := (q3q BK384.out 3).trans rfl
   have hcz15_4 : w5.cell? ⟨gb384, 4, none⟩ = some (.slice A1_4 l1_4.length c1_4) := (q3q BK384.out 4).trans rfl
   have hfz15_0 := q1q BK384.out 0
   have hfz15_1 := q1q BK384.out 1
   have hfz15_2 := q1q BK384.out 2
   have hfz15_3 := q1q BK384.out 3
   have hfz15_4 := q1q BK384.out 4
   go_wp2
   repeat (go_quiet (fail); try go_wp2)
   go_meet
   case rel => exact ⟨_, (true), (by first | rfl | (simp; done) | (simp [*]; done)), H', ⟨by first | omega | exact Nat.le_refl _⟩, ⟨BK383.out⟩, ⟨BK384.out⟩, ⟨by repeat (with_reducible first | exact HB.out | apply q4q | apply q0q | apply q2q | refine q5q ?_ GE383.out | refine q5q ?_ GE384.out)⟩⟩
  rw [if_pos c9] at H
  have c9b0 : ((l0_3.length : Int) == (l1_3.length : Int)) = true := beq_iff_eq.mpr c9
  have c9b1 : ((l0_3.length : Int) != (l1_3.length : Int)) = false := bne_eq_false_iff_eq.mpr c9
  have c9b2 : (l0_3.length == l1_3.length) = true := by first | simpa using c9 | (simp at c9 ⊢; omega)
  clear c9
  have H' := Aq.mk H
  clear H
  have hnb10 := NB383_384.out
  have hnc10 := NB384_383.out
  have hcz11_0 : w5.cell? ⟨gb383, 0, none⟩ = some (.int .i64 a0_0) := (q3q BK383.out 0).trans rfl
  have hcz11_1 : w5.cell? ⟨gb383, 1, none⟩ = some (.int .i64 a0_1) := (q3q BK383.out 1).trans rfl
  have hcz11_2 : w5.cell? ⟨gb383, 2, none⟩ = some (.slice A0_2 l0_2.length c0_2) := (q3q BK383.out 2).trans rfl
  have hcz11_3 : w5.cell? ⟨gb383, 3, none⟩ = some (.slice A0_3 l0_3.length c0_3) := (q3q BK383.out 3).trans rfl
  have hcz11_4 : w5.cell? ⟨gb383, 4, none⟩ = some (.slice A0_4 l0_4.length c0_4) := (q3q BK383.out 4).trans rfl
  have hfz11_0 := q1q BK383.out 0
  have hfz11_1 := q1q BK383.out 1
  have hfz11_2 := q1q BK383.out 2
  have hfz11_3 := q1q BK383.out 3
  have hfz11_4 := q1q BK383.out 4
  have hcz12_0 : w5.cell? ⟨gb384, 0, none⟩ = some (.int .i64 a1_0) := (q3q BK384.out 0).trans rfl
  have hcz12_1 : w5.cell? ⟨gb384, 1, none⟩ = some (.int .i64 a1_1) := (q3q BK384.out 1).trans rfl
  have hcz12_2 : w5.cell? ⟨gb384, 2, none⟩ = some (.slice A1_2 l1_2.length c1_2) := (q3q BK384.out 2).trans rfl
  have hcz12_3 : w5.cell? ⟨gb384, 3, none⟩ = some (.slice A1_3 l1_3.length c1_3) := (q3q BK384.out 3).trans rfl
  have hcz12_4 : w5.cell? ⟨gb384, 4, none⟩ = some (.slice A1_4 l1_4.length c1_4) := (q3q BK384.out 4).trans rfl
  have hfz12_0 := q1q BK384.out 0
  have hfz12_1 := q1q BK384.out 1
  have hfz12_2 := q1q BK384.out 2
  have hfz12_3 := q1q BK384.out 3
  have hfz12_4 := q1q BK384.out 4
  go_wp2
  repeat (go_quiet (fail); try go_wp2)
  go_meet
  case rel => exact ⟨_, (((l0_4.length : Int) != (l1_4.length : Int))), (by first | rfl | (simp; done) | (simp [*]; done)), H', ⟨by first | omega | exact Nat.le_refl _⟩, ⟨BK383.out⟩, ⟨BK384.out⟩, ⟨by repeat (with_reducible first | exact HB.out | apply q4q | apply q0q | apply q2q | refine q5q ?_ GE383.out | refine q5q ?_ GE384.out)⟩⟩
 case rest =>
  clear HC3
  obtain ⟨kq, x46_2, rfl, HA, HJ2, BK383, BK384, HB⟩ := hcut
  cases kq with
  | zero => exact absurd HA.out (by simp [fQ5.j0])
  | succ kj2 =>
   have H := HA.out
   clear HA
   simp only [fQ5.j0] at H
   by_cases c25 : x46_2 = true
   ·subst c25
    have H1 : (some false) = some r := by rw [if_pos rfl] at H; exact H
    clear H
    have H := H1
    clear H1
    obtain rfl := Option.some.inj H
    go_wp2
    repeat (go_quiet (fail); try go_wp2)
    go_ret
    exact ⟨by first | rfl | (simp [*] <;> rfl), by repeat (with_reducible first | exact HB.out | apply q4q | apply q0q | apply q2q | refine q5q ?_ GE383.out | refine q5q ?_ GE384.out)⟩
   replace c25 := Bool.eq_false_iff.mpr c25
   subst c25
   have H1 : (fQ5.l0 kj2 0 a0_0 a0_1 l0_2 l0_3 l0_4 a1_0 a1_1 l1_2 l1_3 l1_4) = some r := by rw [if_neg (show ¬ (false = true) by decide)] at H; exact H
   clear H
   have H := H1
   clear H1
   have H' := Aq.mk H
   clear H
   go_wp2
   repeat (go_quiet (fail); try go_wp2)
   go_loopg [5] kj2 (fun kq v5 w' => ∃ (x5_2 : Int), v5 = .int .i64 x5_2 ∧ Aq (fQ5.l0 kq x5_2 a0_0 a0_1 l0_2 l0_3 l0_4 a1_0 a1_1 l1_2 l1_3 l1_4 = some r) ∧ Aq (kq ≤ kj2) ∧ Aq (w'.heap[gb383]? = some (.cells #[.int .i64 a0_0, .int .i64 a0_1, (.slice A0_2 l0_2.length c0_2), (.slice A0_3 l0_3.length c0_3), (.slice A0_4 l0_4.length c0_4)] 47 (0, 0))) ∧ Aq (w'.heap[gb384]? = some (.cells #[.int .i64 a1_0, .int .i64 a1_1, (.slice A1_2 l1_2.length c1_2), (.slice A1_3 l1_3.length c1_3), (.slice A1_4 l1_4.length c1_4)] 47 (0, 0))) ∧ Aq (Below w.heap.size w w'))
   case atStart => exact ⟨(0), (by first | rfl | (simp; done) | (simp [*]; done)), H', ⟨Nat.le_refl _⟩, ⟨BK383.out⟩, ⟨BK384.out⟩, ⟨by repeat (with_reducible first | exact HB.out | apply q4q | apply q0q | apply q2q | refine q5q ?_ GE383.out | refine q5q ?_ GE384.out)⟩⟩
   case round =>
    clear H'
    obtain ⟨x5_2, rfl, HA, HK2, BK383, BK384, HB⟩ := hrel
    cases gk with
    | zero => exact absurd HA.out (by simp [fQ5.l0])
    | succ k2 =>
     have H := HA.out
     clear HA
     simp only [fQ5.l0] at H
     by_cases c26 : x5_2 < (l0_2.length : Int)
     ·rw [if_pos c26] at H
      have c26b0 : decide (x5_2 < (l0_2.length : Int)) = true := decide_eq_true c26
      clear c26
      by_cases c27 : 0 ≤ x5_2
      case neg =>
       rw [if_neg c27] at H
       exact absurd H (by simp)
      rw [if_pos c27] at H
      have c27b0 : decide (0 ≤ x5_2) = true := decide_eq_true c27
      clear c27
      by_cases c28 : x5_2 < (l1_2.length : Int)
      case neg =>
       rw [if_neg c28] at H
       exact absurd H (by simp)
      rw [if_pos c28] at H
      have c28b0 : decide (x5_2 < (l1_2.length : Int)) = true := decide_eq_true c28
      clear c28
      by_cases c29 : (!(((rd_T50 l0_2 x5_2).f0) == ((rd_T50 l1_2 x5_2).f0)) || (!(((rd_T50 l0_2 x5_2).f1) == ((rd_T50 l1_2 x5_2).f1)))) = true
      ·rw [if_pos c29] at H
       have c29b0 : (!(((rd_T50 l0_2 x5_2).f0) == ((rd_T50 l1_2 x5_2).f0)) || (!(((rd_T50 l0_2 x5_2).f1) == ((rd_T50 l1_2 x5_2).f1)))) = true := c29
       clear c29
       obtain rfl := Option.some.inj H
       have hnb30 := NB383_384.out
       have hnc30 := NB384_383.out
       have hcz31_0 : wr.cell? ⟨gb383, 0, none⟩ = some (.int .i64 a0_0) := (q3q BK383.out 0).trans rfl
       have hcz31_1 : wr.cell? ⟨gb383, 1, none⟩ = some (.int .i64 a0_1) := (q3q BK383.out 1).trans rfl
       have hcz31_2 : wr.cell? ⟨gb383, 2, none⟩ = some (.slice A0_2 l0_2.length c0_2) := (q3q BK383.out 2).trans rfl
       have hcz31_3 : wr.cell? ⟨gb383, 3, none⟩ = some (.slice A0_3 l0_3.length c0_3) := (q3q BK383.out 3).trans rfl
       have hcz31_4 : wr.cell? ⟨gb383, 4, none⟩ = some (.slice A0_4 l0_4.length c0_4) := (q3q BK383.out 4).trans rfl
       have hfz31_0 := q1q BK383.out 0
       have hfz31_1 := q1q BK383.out 1
       have hfz31_2 := q1q BK383.out 2
       have hfz31_3 := q1q BK383.out 3
       have hfz31_4 := q1q BK383.out 4
       have p385 : 0 ≤ (x5_2 : Int) := of_decide_eq_true (by first | (with_reducible assumption) | assumption)
       have q385 : x5_2 < (l0_2.length : Int) := of_decide_eq_true (by first | (with_reducible assumption) | assumption)
       obtain ⟨ad385, e385, hx385_0, hx385_1⟩ := at_T50 HR0_2.out x5_2 p385 q385
       cases e385
       replace hx385_0 := (HB.out.cell (World.block_lt_of_cell? w _ hx385_0)).trans hx385_0
       replace hx385_1 := (HB.out.cell (World.block_lt_of_cell? w _ hx385_1)).trans hx385_1
       replace p385 := eq_true p385
       replace q385 := eq_true q385
       have hcz32_0 : wr.cell? ⟨gb384, 0, none⟩ = some (.int .i64 a1_0) := (q3q BK384.out 0).trans rfl
       have hcz32_1 : wr.cell? ⟨gb384, 1, none⟩ = some (.int .i64 a1_1) := (q3q BK384.out 1).trans rfl
       have hcz32_2 : wr.cell? ⟨gb384, 2, none⟩ = some (.slice A1_2 l1_2.length c1_2) := (q3q BK384.out 2).trans rfl
       have hcz32_3 : wr.cell? ⟨gb384, 3, none⟩ = some (.slice A1_3 l1_3.length c1_3) := (q3q BK384.out 3).trans rfl
       have hcz32_4 : wr.cell? ⟨gb384, 4, none⟩ = some (.slice A1_4 l1_4.length c1_4) := (q3q BK384.out 4).trans rfl
       have hfz32_0 := q1q BK384.out 0
       have hfz32_1 := q1q BK384.out 1
       have hfz32_2 := q1q BK384.out 2
       have hfz32_3 := q1q BK384.out 3
       have hfz32_4 := q1q BK384.out 4
       have p386 : 0 ≤ (x5_2 : Int) := of_decide_eq_true (by first | (with_reducible assumption) | assumption)
       have q386 : x5_2 < (l1_2.length : Int) := of_decide_eq_true (by first | (with_reducible assumption) | assumption)
       obtain ⟨ad386, e386, hx386_0, hx386_1⟩ := at_T50 HR1_2.out x5_2 p386 q386
       cases e386
       replace hx386_0 := (HB.out.cell (World.block_lt_of_cell? w _ hx386_0)).trans hx386_0
       replace hx386_1 := (HB.out.cell (World.block_lt_of_cell? w _ hx386_1)).trans hx386_1
       replace p386 := eq_true p386
       replace q386 := eq_true q386
       go_wp2
       repeat (go_quiet (fail); try go_wp2)
       go_ret
       exact ⟨by first | rfl | (simp [*] <;> rfl), by repeat (with_reducible first | exact HB.out | apply q4q | apply q0q | apply q2q | refine q5q ?_ GE383.out | refine q5q ?_ GE384.out)⟩
      rw [if_neg c29] at H
      have c29b0 : (!(((rd_T50 l0_2 x5_2).f0) == ((rd_T50 l1_2 x5_2).f0)) || (!(((rd_T50 l0_2 x5_2).f1) == ((rd_T50 l1_2 x5_2).f1)))) = false := by simpa using c29
      clear c29
      have H' := Aq.mk H
      clear H
      have hnb33 := NB383_384.out
      have hnc33 := NB384_383.out
      have hcz34_0 : wr.cell? ⟨gb383, 0, none⟩ = some (.int .i64 a0_0) := (q3q BK383.out 0).trans rfl
      have hcz34_1 : wr.cell? ⟨gb383, 1, none⟩ = some (.int .i64 a0_1) := (q3q BK383.out 1).trans rfl
      have hcz34_2 : wr.cell? ⟨gb383, 2, none⟩ = some (.slice A0_2 l0_2.length c0_2) := (q3q BK383.out 2).trans rfl
      have hcz34_3 : wr.cell? ⟨gb383, 3, none⟩ = some (.slice A0_3 l0_3.length c0_3) := (q3q BK383.out 3).trans rfl
      have hcz34_4 : wr.cell? ⟨gb383, 4, none⟩ = some (.slice A0_4 l0_4.length c0_4) := (q3q BK383.out 4).trans rfl
      have hfz34_0 := q1q BK383.out 0
      have hfz34_1 := q1q BK383.out 1
      have hfz34_2 := q1q BK383.out 2
      have hfz34_3 := q1q BK383.out 3
      have hfz34_4 := q1q BK383.out 4
      have p385 : 0 ≤ (x5_2 : Int) := of_decide_eq_true (by first | (with_reducible assumption) | assumption)
      have q385 : x5_2 < (l0_2.length : Int) := of_decide_eq_true (by first | (with_reducible assumption) | assumption)
      obtain ⟨ad385, e385, hx385_0, hx385_1⟩ := at_T50 HR0_2.out x5_2 p385 q385
      cases e385
      replace hx385_0 := (HB.out.cell (World.block_lt_of_cell? w _ hx385_0)).trans hx385_0
      replace hx385_1 := (HB.out.cell (World.block_lt_of_cell? w _ hx385_1)).trans hx385_1
      replace p385 := eq_true p385
      replace q385 := eq_true q385
      have hcz35_0 : wr.cell? ⟨gb384, 0, none⟩ = some (.int .i64 a1_0) := (q3q BK384.out 0).trans rfl
      have hcz35_1 : wr.cell? ⟨gb384, 1, none⟩ = some (.int .i64 a1_1) := (q3q BK384.out 1).trans rfl
      have hcz35_2 : wr.cell? ⟨gb384, 2, none⟩ = some (.slice A1_2 l1_2.length c1_2) := (q3q BK384.out 2).trans rfl
      have hcz35_3 : wr.cell? ⟨gb384, 3, none⟩ = some (.slice A1_3 l1_3.length c1_3) := (q3q BK384.out 3).trans rfl
      have hcz35_4 : wr.cell? ⟨gb384, 4, none⟩ = some (.slice A1_4 l1_4.length c1_4) := (q3q BK384.out 4).trans rfl
      have hfz35_0 := q1q BK384.out 0
      have hfz35_1 := q1q BK384.out 1
      have hfz35_2 := q1q BK384.out 2
      have hfz35_3 := q1q BK384.out 3
      have hfz35_4 := q1q BK384.out 4
      have p386 : 0 ≤ (x5_2 : Int) := of_decide_eq_true (by first | (with_reducible assumption) | assumption)
      have q386 : x5_2 < (l1_2.length : Int) := of_decide_eq_true (by first | (with_reducible assumption) | assumption)
      obtain ⟨ad386, e386, hx386_0, hx386_1⟩ := at_T50 HR1_2.out x5_2 p386 q386
      cases e386
      replace hx386_0 := (HB.out.cell (World.block_lt_of_cell? w _ hx386_0)).trans hx386_0
      replace hx386_1 := (HB.out.cell (World.block_lt_of_cell? w _ hx386_1)).trans hx386_1
      replace p386 := eq_true p386
      replace q386 := eq_true q386
      go_wp2
      repeat (go_quiet (fail); try go_wp2)
      go_roundg k2
      case measure => have := HJ2.out; have := HK2.out; omega
      case rel => exact ⟨(wrap64 (x5_2 + 1)), (by first | rfl | (simp; done) | (simp [*]; done)), H', ⟨by have := HJ2.out; have := HK2.out; omega⟩, ⟨BK383.out⟩, ⟨BK384.out⟩, ⟨by repeat (with_reducible first | exact HB.out | apply q4q | apply q0q | apply q2q | refine q5q ?_ GE383.out | refine q5q ?_ GE384.out)⟩⟩
     rw [if_neg c26] at H
     have c26b0 : decide (x5_2 < (l0_2.length : Int)) = false := decide_eq_false c26
     clear c26
     have H' := Aq.mk H
     clear H
     have hnb36 := NB383_384.out
     have hnc36 := NB384_383.out
     have hcz37_0 : wr.cell? ⟨gb383, 0, none⟩ = some (.int .i64 a0_0) := (q3q BK383.out 0).trans rfl
     have hcz37_1 : wr.cell? ⟨gb383, 1, none⟩ = some (.int .i64 a0_1) := (q3q BK383.out 1).trans rfl
     have hcz37_2 : wr.cell? ⟨gb383, 2, none⟩ = some (.slice A0_2 l0_2.length c0_2) := (q3q BK383.out 2).trans rfl
     have hcz37_3 : wr.cell? ⟨gb383, 3, none⟩ = some (.slice A0_3 l0_3.length c0_3) := (q3q BK383.out 3).trans rfl
     have hcz37_4 : wr.cell? ⟨gb383, 4, none⟩ = some (.slice A0_4 l0_4.length c0_4) := (q3q BK383.out 4).trans rfl
     have hfz37_0 := q1q BK383.out 0
     have hfz37_1 := q1q BK383.out 1
     have hfz37_2 := q1q BK383.out 2
     have hfz37_3 := q1q BK383.out 3
     have hfz37_4 := q1q BK383.out 4
     go_wp2
     repeat (go_quiet (fail); try go_wp2)
     go_loopg [6] k2 (fun kq v6 w' => ∃ (x6_3 : Int), v6 = .int .i64 x6_3 ∧ Aq (fQ5.l1 kq x6_3 a0_0 a0_1 l0_2 l0_3 l0_4 a1_0 a1_1 l1_2 l1_3 l1_4 = some r) ∧ Aq (kq ≤ k2) ∧ Aq (w'.heap[gb383]? = some (.cells #[.int .i64 a0_0, .int .i64 a0_1, (.slice A0_2 l0_2.length c0_2), (.slice A0_3 l0_3.length c0_3), (.slice A0_4 l0_4.length c0_4)] 47 (0, 0))) ∧ Aq (w'.heap[gb384]? = some (.cells #[.int .i64 a1_0, .int .i64 a1_1, (.slice A1_2 l1_2.length c1_2), (.slice A1_3 l1_3.length c1_3), (.slice A1_4 l1_4.length c1_4)] 47 (0, 0))) ∧ Aq (Below w.heap.size w w'))
     case atStart => exact ⟨(0), (by first | rfl | (simp; done) | (simp [*]; done)), H', ⟨Nat.le_refl _⟩, ⟨BK383.out⟩, ⟨BK384.out⟩, ⟨by repeat (with_reducible first | exact HB.out | apply q4q | apply q0q | apply q2q | refine q5q ?_ GE383.out | refine q5q ?_ GE384.out)⟩⟩
     case round =>
      clear H'
      try clear c26b0
      try clear hcz37_0
      try clear hcz37_1
      try clear hcz37_2
      try clear hcz37_3
      try clear hcz37_4
      try clear hfz37_0
      try clear hfz37_1
      try clear hfz37_2
      try clear hfz37_3
      try clear hfz37_4
      obtain ⟨x6_3, rfl, HA, HK3, BK383, BK384, HB⟩ := hrel
      cases gk with
      | zero => exact absurd HA.out (by simp [fQ5.l1])
      | succ k3 =>
       have H := HA.out
       clear HA
       simp only [fQ5.l1] at H
       by_cases c38 : x6_3 < (l0_3.length : Int)
       ·rw [if_pos c38] at H
        have c38b0 : decide (x6_3 < (l0_3.length : Int)) = true := decide_eq_true c38
        clear c38
        by_cases c39 : 0 ≤ x6_3
        case neg =>
         rw [if_neg c39] at H
         exact absurd H (by simp)
        rw [if_pos c39] at H
        have c39b0 : decide (0 ≤ x6_3) = true := decide_eq_true c39
        clear c39
        by_cases c40 : x6_3 < (l1_3.length : Int)
        case neg =>
         rw [if_neg c40] at H
         exact absurd H (by simp)
        rw [if_pos c40] at H
        have c40b0 : decide (x6_3 < (l1_3.length : Int)) = true := decide_eq_true c40
        clear c40
        by_cases c41 : (!(((rd_T42 l0_3 x6_3).f0) == ((rd_T42 l1_3 x6_3).f0)) || (!(((rd_T42 l0_3 x6_3).f1) == ((rd_T42 l1_3 x6_3).f1)) || (!((((rd_T42 l0_3 x6_3).f2).toList) == (((rd_T42 l1_3 x6_3).f2).toList))))) = true
        ·rw [if_pos c41] at H
         have c41b0 : (!(((rd_T42 l0_3 x6_3).f0) == ((rd_T42 l1_3 x6_3).f0)) || (!(((rd_T42 l0_3 x6_3).f1) == ((rd_T42 l1_3 x6_3).f1)) || (!((((rd_T42 l0_3 x6_3).f2).toList) == (((rd_T42 l1_3 x6_3).f2).toList))))) = true := c41
         clear c41
         obtain rfl := Option.some.inj H
         have hnb42 := NB383_384.out
         have hnc42 := NB384_383.out
         have hcz43_0 : wr.cell? ⟨gb383, 0, none⟩ = some (.int .i64 a0_0) := (q3q BK383.out 0).trans rfl
         have hcz43_1 : wr.cell? ⟨gb383, 1, none⟩ = some (.int .i64 a0_1) := (q3q BK383.out 1).trans rfl
         have hcz43_2 : wr.cell? ⟨gb383, 2, none⟩ = some (.slice A0_2 l0_2.length c0_2) := (q3q BK383.out 2).trans rfl
         have hcz43_3 : wr.cell? ⟨gb383, 3, none⟩ = some (.slice A0_3 l0_3.length c0_3) := (q3q BK383.out 3).trans rfl
         have hcz43_4 : wr.cell? ⟨gb383, 4, none⟩ = some (.slice A0_4 l0_4.length c0_4) := (q3q BK383.out 4).trans rfl
         have hfz43_0 := q1q BK383.out 0
         have hfz43_1 := q1q BK383.out 1
         have hfz43_2 := q1q BK383.out 2
         have hfz43_3 := q1q BK383.out 3
         have hfz43_4 := q1q BK383.out 4
         have p387 : 0 ≤ (x6_3 : Int) := of_decide_eq_true (by first | (with_reducible assumption) | assumption)
         have q387 : x6_3 < (l0_3.length : Int) := of_decide_eq_true (by first | (with_reducible assumption) | assumption)
         obtain ⟨ad387, e387, hx387_0, hx387_1, hx387_2⟩ := at_T42 HR0_3.out x6_3 p387 q387
         cases e387
         replace hx387_0 := (HB.out.cell (World.block_lt_of_cell? w _ hx387_0)).trans hx387_0
         replace hx387_1 := (HB.out.cell (World.block_lt_of_cell? w _ hx387_1)).trans hx387_1
         replace hx387_2 := (HB.out.cell (World.block_lt_of_cell? w _ hx387_2)).trans hx387_2
         replace p387 := eq_true p387
         replace q387 := eq_true q387
         have hcz44_0 : wr.cell? ⟨gb384, 0, none⟩ = some (.int .i64 a1_0) := (q3q BK384.out 0).trans rfl
         have hcz44_1 : wr.cell? ⟨gb384, 1, none⟩ = some (.int .i64 a1_1) := (q3q BK384.out 1).trans rfl
         have hcz44_2 : wr.cell? ⟨gb384, 2, none⟩ = some (.slice A1_2 l1_2.length c1_2) := (q3q BK384.out 2).trans rfl
         have hcz44_3 : wr.cell? ⟨gb384, 3, none⟩ = some (.slice A1_3 l1_3.length c1_3) := (q3q BK384.out 3).trans rfl
         have hcz44_4 : wr.cell? ⟨gb384, 4, none⟩ = some (.slice A1_4 l1_4.length c1_4) := (q3q BK384.out 4).trans rfl
         have hfz44_0 := q1q BK384.out 0
         have hfz44_1 := q1q BK384.out 1
         have hfz44_2 := q1q BK384.out 2
         have hfz44_3 := q1q BK384.out 3
         have hfz44_4 := q1q BK384.out 4
         have p388 : 0 ≤ (x6_3 : Int) := of_decide_eq_true (by first | (with_reducible assumption) | assumption)
         have q388 : x6_3 < (l1_3.length : Int) := of_decide_eq_true (by first | (with_reducible assumption) | assumption)
         obtain ⟨ad388, e388, hx388_0, hx388_1, hx388_2⟩ := at_T42 HR1_3.out x6_3 p388 q388
         cases e388
         replace hx388_0 := (HB.out.cell (World.block_lt_of_cell? w _ hx388_0)).trans hx388_0
         replace hx388_1 := (HB.out.cell (World.block_lt_of_cell? w _ hx388_1)).trans hx388_1
         replace hx388_2 := (HB.out.cell (World.block_lt_of_cell? w _ hx388_2)).trans hx388_2
         replace p388 := eq_true p388
         replace q388 := eq_true q388
         go_wp2
         repeat (go_quiet (fail); try go_wp2)
         go_ret
         exact ⟨by first | rfl | (simp [*] <;> rfl), by repeat (with_reducible first | exact HB.out | apply q4q | apply q0q | apply q2q | refine q5q ?_ GE383.out | refine q5q ?_ GE384.out)⟩
        rw [if_neg c41] at H
        have c41b0 : (!(((rd_T42 l0_3 x6_3).f0) == ((rd_T42 l1_3 x6_3).f0)) || (!(((rd_T42 l0_3 x6_3).f1) == ((rd_T42 l1_3 x6_3).f1)) || (!((((rd_T42 l0_3 x6_3).f2).toList) == (((rd_T42 l1_3 x6_3).f2).toList))))) = false := by simpa using c41
        clear c41
        have H' := Aq.mk H
        clear H
        have hnb45 := NB383_384.out
        have hnc45 := NB384_383.out
        have hcz46_0 : wr.cell? ⟨gb383, 0, none⟩ = some (.int .i64 a0_0) := (q3q BK383.out 0).trans rfl
        have hcz46_1 : wr.cell? ⟨gb383, 1, none⟩ = some (.int .i64 a0_1) := (q3q BK383.out 1).trans rfl
        have hcz46_2 : wr.cell? ⟨gb383, 2, none⟩ = some (.slice A0_2 l0_2.length c0_2) := (q3q BK383.out 2).trans rfl
        have hcz46_3 : wr.cell? ⟨gb383, 3, none⟩ = some (.slice A0_3 l0_3.length c0_3) := (q3q BK383.out 3).trans rfl
        have hcz46_4 : wr.cell? ⟨gb383, 4, none⟩ = some (.slice A0_4 l0_4.length c0_4) := (q3q BK383.out 4).trans rfl
        have hfz46_0 := q1q BK383.out 0
        have hfz46_1 := q1q BK383.out 1
        have hfz46_2 := q1q BK383.out 2
        have hfz46_3 := q1q BK383.out 3
        have hfz46_4 := q1q BK383.out 4
        have p387 : 0 ≤ (x6_3 : Int) := of_decide_eq_true (by first | (with_reducible assumption) | assumption)
        have q387 : x6_3 < (l0_3.length : Int) := of_decide_eq_true (by first | (with_reducible assumption) | assumption)
        obtain ⟨ad387, e387, hx387_0, hx387_1, hx387_2⟩ := at_T42 HR0_3.out x6_3 p387 q387
        cases e387
        replace hx387_0 := (HB.out.cell (World.block_lt_of_cell? w _ hx387_0)).trans hx387_0
        replace hx387_1 := (HB.out.cell (World.block_lt_of_cell? w _ hx387_1)).trans hx387_1
        replace hx387_2 := (HB.out.cell (World.block_lt_of_cell? w _ hx387_2)).trans hx387_2
        replace p387 := eq_true p387
        replace q387 := eq_true q387
        have hcz47_0 : wr.cell? ⟨gb384, 0, none⟩ = some (.int .i64 a1_0) := (q3q BK384.out 0).trans rfl
        have hcz47_1 : wr.cell? ⟨gb384, 1, none⟩ = some (.int .i64 a1_1) := (q3q BK384.out 1).trans rfl
        have hcz47_2 : wr.cell? ⟨gb384, 2, none⟩ = some (.slice A1_2 l1_2.length c1_2) := (q3q BK384.out 2).trans rfl
        have hcz47_3 : wr.cell? ⟨gb384, 3, none⟩ = some (.slice A1_3 l1_3.length c1_3) := (q3q BK384.out 3).trans rfl
        have hcz47_4 : wr.cell? ⟨gb384, 4, none⟩ = some (.slice A1_4 l1_4.length c1_4) := (q3q BK384.out 4).trans rfl
        have hfz47_0 := q1q BK384.out 0
        have hfz47_1 := q1q BK384.out 1
        have hfz47_2 := q1q BK384.out 2
        have hfz47_3 := q1q BK384.out 3
        have hfz47_4 := q1q BK384.out 4
        have p388 : 0 ≤ (x6_3 : Int) := of_decide_eq_true (by first | (with_reducible assumption) | assumption)
        have q388 : x6_3 < (l1_3.length : Int) := of_decide_eq_true (by first | (with_reducible assumption) | assumption)
        obtain ⟨ad388, e388, hx388_0, hx388_1, hx388_2⟩ := at_T42 HR1_3.out x6_3 p388 q388
        cases e388
        replace hx388_0 := (HB.out.cell (World.block_lt_of_cell? w _ hx388_0)).trans hx388_0
        replace hx388_1 := (HB.out.cell (World.block_lt_of_cell? w _ hx388_1)).trans hx388_1
        replace hx388_2 := (HB.out.cell (World.block_lt_of_cell? w _ hx388_2)).trans hx388_2
        replace p388 := eq_true p388
        replace q388 := eq_true q388
        go_wp2
        repeat (go_quiet (fail); try go_wp2)
        go_roundg k3
        case measure => have := HJ2.out; have := HK2.out; have := HK3.out; omega
        case rel => exact ⟨(wrap64 (x6_3 + 1)), (by first | rfl | (simp; done) | (simp [*]; done)), H', ⟨by have := HJ2.out; have := HK2.out; have := HK3.out; omega⟩, ⟨BK383.out⟩, ⟨BK384.out⟩, ⟨by repeat (with_reducible first | exact HB.out | apply q4q | apply q0q | apply q2q | refine q5q ?_ GE383.out | refine q5q ?_ GE384.out)⟩⟩
       rw [if_neg c38] at H
       have c38b0 : decide (x6_3 < (l0_3.length : Int)) = false := decide_eq_false c38
       clear c38
       have H' := Aq.mk H
       clear H
       have hnb48 := NB383_384.out
       have hnc48 := NB384_383.out
       have hcz49_0 : wr.cell? ⟨gb383, 0, none⟩ = some (.int .i64 a0_0) := (q3q BK383.out 0).trans rfl
       have hcz49_1 : wr.cell? ⟨gb383, 1, none⟩ = some (.int .i64 a0_1) := (q3q BK383.out 1).trans rfl
       have hcz49_2 : wr.cell? ⟨gb383, 2, none⟩ = some (.slice A0_2 l0_2.length c0_2) := (q3q BK383.out 2).trans rfl
       have hcz49_3 : wr.cell? ⟨gb383, 3, none⟩ = some (.slice A0_3 l0_3.length c0_3) := (q3q BK383.out 3).trans rfl
       have hcz49_4 : wr.cell? ⟨gb383, 4, none⟩ = some (.slice A0_4 l0_4.length c0_4) := (q3q BK383.out 4).trans rfl
       have hfz49_0 := q1q BK383.out 0
       have hfz49_1 := q1q BK383.out 1
       have hfz49_2 := q1q BK383.out 2
       have hfz49_3 := q1q BK383.out 3
       have hfz49_4 := q1q BK383.out 4
       go_wp2
       repeat (go_quiet (fail); try go_wp2)
       go_loopg [7] k3 (fun kq v7 w' => ∃ (x7_4 : Int), v7 = .int .i64 x7_4 ∧ Aq (fQ5.l2 kq x7_4 a0_0 a0_1 l0_2 l0_3 l0_4 a1_0 a1_1 l1_2 l1_3 l1_4 = some r) ∧ Aq (kq ≤ k3) ∧ Aq (w'.heap[gb383]? = some (.cells #[.int .i64 a0_0, .int .i64 a0_1, (.slice A0_2 l0_2.length c0_2), (.slice A0_3 l0_3.length c0_3), (.slice A0_4 l0_4.length c0_4)] 47 (0, 0))) ∧ Aq (w'.heap[gb384]? = some (.cells #[.int .i64 a1_0, .int .i64 a1_1, (.slice A1_2 l1_2.length c1_2), (.slice A1_3 l1_3.length c1_3), (.slice A1_4 l1_4.length c1_4)] 47 (0, 0))) ∧ Aq (Below w.heap.size w w'))
       case atStart => exact ⟨(0), (by first | rfl | (simp; done) | (simp [*]; done)), H', ⟨Nat.le_refl _⟩, ⟨BK383.out⟩, ⟨BK384.out⟩, ⟨by repeat (with_reducible first | exact HB.out | apply q4q | apply q0q | apply q2q | refine q5q ?_ GE383.out | refine q5q ?_ GE384.out)⟩⟩
       case round =>
        clear H'
        try clear c38b0
        try clear hcz49_0
        try clear hcz49_1
        try clear hcz49_2
        try clear hcz49_3
        try clear hcz49_4
        try clear hfz49_0
        try clear hfz49_1
        try clear hfz49_2
        try clear hfz49_3
        try clear hfz49_4
        obtain ⟨x7_4, rfl, HA, HK4, BK383, BK384, HB⟩ := hrel
        cases gk with
        | zero => exact absurd HA.out (by simp [fQ5.l2])
        | succ k4 =>
         have H := HA.out
         clear HA
         simp only [fQ5.l2] at H
         by_cases c50 : x7_4 < (l0_4.length : Int)
         case neg =>
          rw [if_neg c50] at H
          have c50b0 : decide (x7_4 < (l0_4.length : Int)) = false := decide_eq_false c50
          clear c50
          obtain rfl := Option.some.inj H
          have hnb60 := NB383_384.out
          have hnc60 := NB384_383.out
          have hcz61_0 : wr.cell? ⟨gb383, 0, none⟩ = some (.int .i64 a0_0) := (q3q BK383.out 0).trans rfl
          have hcz61_1 : wr.cell? ⟨gb383, 1, none⟩ = some (.int .i64 a0_1) := (q3q BK383.out 1).trans rfl
          have hcz61_2 : wr.cell? ⟨gb383, 2, none⟩ = some (.slice A0_2 l0_2.length c0_2) := (q3q BK383.out 2).trans rfl
          have hcz61_3 : wr.cell? ⟨gb383, 3, none⟩ = some (.slice A0_3 l0_3.length c0_3) := (q3q BK383.out 3).trans rfl
          have hcz61_4 : wr.cell? ⟨gb383, 4, none⟩ = some (.slice A0_4 l0_4.length c0_4) := (q3q BK383.out 4).trans rfl
          have hfz61_0 := q1q BK383.out 0
          have hfz61_1 := q1q BK383.out 1
          have hfz61_2 := q1q BK383.out 2
          have hfz61_3 := q1q BK383.out 3
          have hfz61_4 := q1q BK383.out 4
          go_wp2
          repeat (go_quiet (fail); try go_wp2)
          go_ret
          exact ⟨by first | rfl | (simp [*] <;> rfl), by repeat (with_reducible first | exact HB.out | apply q4q | apply q0q | apply q2q | refine q5q ?_ GE383.out | refine q5q ?_ GE384.out)⟩
         rw [if_pos c50] at H
         have c50b0 : decide (x7_4 < (l0_4.length : Int)) = true := decide_eq_true c50
         clear c50
         by_cases c51 : 0 ≤ x7_4
         case neg =>
          rw [if_neg c51] at H
          exact absurd H (by simp)
         rw [if_pos c51] at H
         have c51b0 : decide (0 ≤ x7_4) = true := decide_eq_true c51
         clear c51
         by_cases c52 : x7_4 < (l1_4.length : Int)
         case neg =>
          rw [if_neg c52] at H
          exact absurd H (by simp)
         rw [if_pos c52] at H
         have c52b0 : decide (x7_4 < (l1_4.length : Int)) = true := decide_eq_true c52
         clear c52
         by_cases c53 : (!(((rd_T52 l0_4 x7_4).f0) == ((rd_T52 l1_4 x7_4).f0)) || (!(((rd_T52 l0_4 x7_4).f1) == ((rd_T52 l1_4 x7_4).f1)) || (!(((rd_T52 l0_4 x7_4).f2) == ((rd_T52 l1_4 x7_4).f2))))) = true
         ·rw [if_pos c53] at H
          have c53b0 : (!(((rd_T52 l0_4 x7_4).f0) == ((rd_T52 l1_4 x7_4).f0)) || (!(((rd_T52 l0_4 x7_4).f1) == ((rd_T52 l1_4 x7_4).f1)) || (!(((rd_T52 l0_4 x7_4).f2) == ((rd_T52 l1_4 x7_4).f2))))) = true := c53
          clear c53
          obtain rfl := Option.some.inj H
          have hnb54 := NB383_384.out
          have hnc54 := NB384_383.out
          have hcz55_0 : wr.cell? ⟨gb383, 0, none⟩ = some (.int .i64 a0_0) := (q3q BK383.out 0).trans rfl
          have hcz55_1 : wr.cell? ⟨gb383, 1, none⟩ = some (.int .i64 a0_1) := (q3q BK383.out 1).trans rfl
          have hcz55_2 : wr.cell? ⟨gb383, 2, none⟩ = some (.slice A0_2 l0_2.length c0_2) := (q3q BK383.out 2).trans rfl
          have hcz55_3 : wr.cell? ⟨gb383, 3, none⟩ = some (.slice A0_3 l0_3.length c0_3) := (q3q BK383.out 3).trans rfl
          have hcz55_4 : wr.cell? ⟨gb383, 4, none⟩ = some (.slice A0_4 l0_4.length c0_4) := (q3q BK383.out 4).trans rfl
          have hfz55_0 := q1q BK383.out 0
          have hfz55_1 := q1q BK383.out 1
          have hfz55_2 := q1q BK383.out 2
          have hfz55_3 := q1q BK383.out 3
          have hfz55_4 := q1q BK383.out 4
          have p389 : 0 ≤ (x7_4 : Int) := of_decide_eq_true (by first | (with_reducible assumption) | assumption)
          have q389 : x7_4 < (l0_4.length : Int) := of_decide_eq_true (by first | (with_reducible assumption) | assumption)
          obtain ⟨ad389, e389, hx389_0, hx389_1, hx389_2⟩ := at_T52 HR0_4.out x7_4 p389 q389
          cases e389
          replace hx389_0 := (HB.out.cell (World.block_lt_of_cell? w _ hx389_0)).trans hx389_0
          replace hx389_1 := (HB.out.cell (World.block_lt_of_cell? w _ hx389_1)).trans hx389_1
          replace hx389_2 := (HB.out.cell (World.block_lt_of_cell? w _ hx389_2)).trans hx389_2
          replace p389 := eq_true p389
          replace q389 := eq_true q389
          have hcz56_0 : wr.cell? ⟨gb384, 0, none⟩ = some (.int .i64 a1_0) := (q3q BK384.out 0).trans rfl
          have hcz56_1 : wr.cell? ⟨gb384, 1, none⟩ = some (.int .i64 a1_1) := (q3q BK384.out 1).trans rfl
          have hcz56_2 : wr.cell? ⟨gb384, 2, none⟩ = some (.slice A1_2 l1_2.length c1_2) := (q3q BK384.out 2).trans rfl
          have hcz56_3 : wr.cell? ⟨gb384, 3, none⟩ = some (.slice A1_3 l1_3.length c1_3) := (q3q BK384.out 3).trans rfl
          have hcz56_4 : wr.cell? ⟨gb384, 4, none⟩ = some (.slice A1_4 l1_4.length c1_4) := (q3q BK384.out 4).trans rfl
          have hfz56_0 := q1q BK384.out 0
          have hfz56_1 := q1q BK384.out 1
          have hfz56_2 := q1q BK384.out 2
          have hfz56_3 := q1q BK384.out 3
          have hfz56_4 := q1q BK384.out 4
          have p390 : 0 ≤ (x7_4 : Int) := of_decide_eq_true (by first | (with_reducible assumption) | assumption)
          have q390 : x7_4 < (l1_4.length : Int) := of_decide_eq_true (by first | (with_reducible assumption) | assumption)
          obtain ⟨ad390, e390, hx390_0, hx390_1, hx390_2⟩ := at_T52 HR1_4.out x7_4 p390 q390
          cases e390
          replace hx390_0 := (HB.out.cell (World.block_lt_of_cell? w _ hx390_0)).trans hx390_0
          replace hx390_1 := (HB.out.cell (World.block_lt_of_cell? w _ hx390_1)).trans hx390_1
          replace hx390_2 := (HB.out.cell (World.block_lt_of_cell? w _ hx390_2)).trans hx390_2
          replace p390 := eq_true p390
          replace q390 := eq_true q390
          go_wp2
          repeat (go_quiet (fail); try go_wp2)
          go_ret
          exact ⟨by first | rfl | (simp [*] <;> rfl), by repeat (with_reducible first | exact HB.out | apply q4q | apply q0q | apply q2q | refine q5q ?_ GE383.out | refine q5q ?_ GE384.out)⟩
         rw [if_neg c53] at H
         have c53b0 : (!(((rd_T52 l0_4 x7_4).f0) == ((rd_T52 l1_4 x7_4).f0)) || (!(((rd_T52 l0_4 x7_4).f1) == ((rd_T52 l1_4 x7_4).f1)) || (!(((rd_T52 l0_4 x7_4).f2) == ((rd_T52 l1_4 x7_4).f2))))) = false := by simpa using c53
         clear c53
         have H' := Aq.mk H
         clear H
         have hnb57 := NB383_384.out
         have hnc57 := NB384_383.out
         have hcz58_0 : wr.cell? ⟨gb383, 0, none⟩ = some (.int .i64 a0_0) := (q3q BK383.out 0).trans rfl
         have hcz58_1 : wr.cell? ⟨gb383, 1, none⟩ = some (.int .i64 a0_1) := (q3q BK383.out 1).trans rfl
         have hcz58_2 : wr.cell? ⟨gb383, 2, none⟩ = some (.slice A0_2 l0_2.length c0_2) := (q3q BK383.out 2).trans rfl
         have hcz58_3 : wr.cell? ⟨gb383, 3, none⟩ = some (.slice A0_3 l0_3.length c0_3) := (q3q BK383.out 3).trans rfl
         have hcz58_4 : wr.cell? ⟨gb383, 4, none⟩ = some (.slice A0_4 l0_4.length c0_4) := (q3q BK383.out 4).trans rfl
         have hfz58_0 := q1q BK383.out 0
         have hfz58_1 := q1q BK383.out 1
         have hfz58_2 := q1q BK383.out 2
         have hfz58_3 := q1q BK383.out 3
         have hfz58_4 := q1q BK383.out 4
         have p389 : 0 ≤ (x7_4 : Int) := of_decide_eq_true (by first | (with_reducible assumption) | assumption)
         have q389 : x7_4 < (l0_4.length : Int) := of_decide_eq_true (by first | (with_reducible assumption) | assumption)
         obtain ⟨ad389, e389, hx389_0, hx389_1, hx389_2⟩ := at_T52 HR0_4.out x7_4 p389 q389
         cases e389
         replace hx389_0 := (HB.out.cell (World.block_lt_of_cell? w _ hx389_0)).trans hx389_0
         replace hx389_1 := (HB.out.cell (World.block_lt_of_cell? w _ hx389_1)).trans hx389_1
         replace hx389_2 := (HB.out.cell (World.block_lt_of_cell? w _ hx389_2)).trans hx389_2
         replace p389 := eq_true p389
         replace q389 := eq_true q389
         have hcz59_0 : wr.cell? ⟨gb384, 0, none⟩ = some (.int .i64 a1_0) := (q3q BK384.out 0).trans rfl
         have hcz59_1 : wr.cell? ⟨gb384, 1, none⟩ = some (.int .i64 a1_1) := (q3q BK384.out 1).trans rfl
         have hcz59_2 : wr.cell? ⟨gb384, 2, none⟩ = some (.slice A1_2 l1_2.length c1_2) := (q3q BK384.out 2).trans rfl
         have hcz59_3 : wr.cell? ⟨gb384, 3, none⟩ = some (.slice A1_3 l1_3.length c1_3) := (q3q BK384.out 3).trans rfl
         have hcz59_4 : wr.cell? ⟨gb384, 4, none⟩ = some (.slice A1_4 l1_4.length c1_4) := (q3q BK384.out 4).trans rfl
         have hfz59_0 := q1q BK384.out 0
         have hfz59_1 := q1q BK384.out 1
         have hfz59_2 := q1q BK384.out 2
         have hfz59_3 := q1q BK384.out 3
         have hfz59_4 := q1q BK384.out 4
         have p390 : 0 ≤ (x7_4 : Int) := of_decide_eq_true (by first | (with_reducible assumption) | assumption)
         have q390 : x7_4 < (l1_4.length : Int) := of_decide_eq_true (by first | (with_reducible assumption) | assumption)
         obtain ⟨ad390, e390, hx390_0, hx390_1, hx390_2⟩ := at_T52 HR1_4.out x7_4 p390 q390
         cases e390
         replace hx390_0 := (HB.out.cell (World.block_lt_of_cell? w _ hx390_0)).trans hx390_0
         replace hx390_1 := (HB.out.cell (World.block_lt_of_cell? w _ hx390_1)).trans hx390_1
         replace hx390_2 := (HB.out.cell (World.block_lt_of_cell? w _ hx390_2)).trans hx390_2
         replace p390 := eq_true p390
         replace q390 := eq_true q390
         go_wp2
         repeat (go_quiet (fail); try go_wp2)
         go_roundg k4
         case measure => have := HJ2.out; have := HK2.out; have := HK3.out; have := HK4.out; omega
         case rel => exact ⟨(wrap64 (x7_4 + 1)), (by first | rfl | (simp; done) | (simp [*]; done)), H', ⟨by have := HJ2.out; have := HK2.out; have := HK3.out; have := HK4.out; omega⟩, ⟨BK383.out⟩, ⟨BK384.out⟩, ⟨by repeat (with_reducible first | exact HB.out | apply q4q | apply q0q | apply q2q | refine q5q ?_ GE383.out | refine q5q ?_ GE384.out)⟩⟩
end Go.Proofs.Ytkkgbbfojmnopaa.G
end
