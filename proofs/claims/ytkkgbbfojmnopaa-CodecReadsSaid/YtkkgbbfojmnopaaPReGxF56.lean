import Derived.Test.YtkkgbbfojmnopaaPReGx0
import Derived.Test.YtkkgbbfojmnopaaPReGxF60
set_option linter.unusedVariables false
set_option linter.unusedSimpArgs false
section
namespace Go.Proofs.Ytkkgbbfojmnopaa.G
open Go.RowKit Go.Proofs.YtkkgbbfojmnopaaW.PrintWords Go.Proofs.YtkkgbbfojmnopaaW.PrintLast Go.Proofs.YtkkgbbfojmnopaaW.PrintMore
attribute [local go_sem] q26q q27q q34q q35q q22q q23q q28q q29q
def code_up.f (a0_0 : Int) (a0_1 : Int) (l0_2 : List (S50)) (l0_3 : List (S42)) (l0_4 : List (S52)) (a0_5 : Int) (a1 : Int) : Option (Bool) := (fQ14.f a1 (l0_2.length : Int)).bind fun t145 => (some t145)
set_option maxHeartbeats 8000000 in
set_option maxRecDepth 100000 in
theorem code_up.calls (a0_0 : Int) (a0_1 : Int) (A0_2 : Option Addr) (c0_2 : Nat) (l0_2 : List (S50)) (A0_3 : Option Addr) (c0_3 : Nat) (l0_3 : List (S42)) (A0_4 : Option Addr) (c0_4 : Nat) (l0_4 : List (S52)) (a0_5 : Int) (a1 : Int) (r : Bool) (w : World) (hr0_2 : Kd.C k50 w A0_2 l0_2.length l0_2) (hc0_2 : l0_2.length ≤ c0_2) (hr0_3 : Kd.C k42 w A0_3 l0_3.length l0_3) (hc0_3 : l0_3.length ≤ c0_3) (hr0_4 : Kd.C k52 w A0_4 l0_4.length l0_4) (hc0_4 : l0_4.length ≤ c0_4) (h : code_up.f a0_0 a0_1 l0_2 l0_3 l0_4 a0_5 a1 = some r) :
  Calls Try.prog 56 #[.agg #[.int .i64 a0_0, .int .i64 a0_1, .slice A0_2 l0_2.length c0_2, .slice A0_3 l0_3.length c0_3, .slice A0_4 l0_4.length c0_4, .int .i64 a0_5], .int .i64 a1] w fun e w' => e = .returned (.bool r) ∧ Below w.heap.size w w' := by
 have hu77 := Try.underlying77
 have HR0_2 := Aq.mk hr0_2
 have HC0_2 := Aq.mk hc0_2
 clear hr0_2 hc0_2
 have HR0_3 := Aq.mk hr0_3
 have HC0_3 := Aq.mk hc0_3
 clear hr0_3 hc0_3
 have HR0_4 := Aq.mk hr0_4
 have HC0_4 := Aq.mk hc0_4
 clear hr0_4 hc0_4
 have HB := Aq.mk (Below.refl w.heap.size w)
 have H : ((fQ14.f a1 (l0_2.length : Int)).bind fun t145 => (some t145)) = some r := h
 clear h
 replace H := Option.bind_eq_some_iff.mp H
 obtain ⟨t145, A30, H⟩ := H
 replace H : (some t145) = some r := H
 have A3 := Aq.mk A30
 clear A30
 obtain rfl := Option.some.inj H
 go_enter Try.func56, Try.ntmps56
 go_wp2_with (first | ((with_reducible refine q12q (N := 2) rfl ?_); refine q11q ?hg (N := 2) ?hd (cs := #[.int .i64 a0_0, .int .i64 a0_1, .slice A0_2 l0_2.length c0_2, .slice A0_3 l0_3.length c0_3, .slice A0_4 l0_4.length c0_4, .int .i64 a0_5]) (t := 77) ?hr ?_; (case hd => rfl); (case hg => rfl); (case hr => first | (go_simp; done) | (go_simp; rfl)); intro gb144 hg w4 hbox hb; have n0_ := Aq.mk (q10q (by repeat (with_reducible first | exact HB.out | apply q4q | apply q0q | apply q2q)) hb); have n1_ := Aq.mk (hbox); have n2_ := Aq.mk ((by rw [hg]; exact (q6q (by repeat (with_reducible first | exact HB.out | apply q4q | apply q0q | apply q2q))) : w.heap.size ≤ gb144)); have n3_ := Aq.mk ((by rw [hg]; exact (q6q (by repeat (with_reducible first | exact HB.out | apply q4q | apply q0q | apply q2q))) : w.heap.size ≤ gb144)); clear HB; have HB := n0_; have BK144 := n1_; have GW144 := n2_; have GE144 := n3_; clear n0_ n1_ n2_ n3_; clear hb hbox hg; have hcz5_0 : w4.cell? ⟨gb144, 0, none⟩ = some (.int .i64 a0_0) := (q3q BK144.out 0).trans rfl; have hcz5_1 : w4.cell? ⟨gb144, 1, none⟩ = some (.int .i64 a0_1) := (q3q BK144.out 1).trans rfl; have hcz5_2 : w4.cell? ⟨gb144, 2, none⟩ = some (.slice A0_2 l0_2.length c0_2) := (q3q BK144.out 2).trans rfl; have hcz5_3 : w4.cell? ⟨gb144, 3, none⟩ = some (.slice A0_3 l0_3.length c0_3) := (q3q BK144.out 3).trans rfl; have hcz5_4 : w4.cell? ⟨gb144, 4, none⟩ = some (.slice A0_4 l0_4.length c0_4) := (q3q BK144.out 4).trans rfl; have hcz5_5 : w4.cell? ⟨gb144, 5, none⟩ = some (.int .i64 a0_5) := (q3q BK144.out 5).trans rfl; have hfz5_0 := q1q BK144.out 0; have hfz5_1 := q1q BK144.out 1; have hfz5_2 := q1q BK144.out 2; have hfz5_3 := q1q BK144.out 3; have hfz5_4 := q1q BK144.out 4; have hfz5_5 := q1q BK144.out 5) | ((with_reducible refine q15q (f := 60) rfl ?_); refine q24q (some 10) rfl rfl Try.func60 (by kernel_rfl) rfl #[.int .i64 a1, .int .i64 (l0_2.length : Int)] rfl (by (try simp only [List.map_toArray, List.map_cons, List.map_nil]); first | done | rfl) ?_; (with_reducible refine (fQ14.calls a1 (l0_2.length : Int) t145 _ A3.out).mono ?_); rintro e w' ⟨rfl, ⟨nd, rfl⟩⟩; refine ⟨_, rfl, ?_⟩))
 go_ret
 exact ⟨by first | rfl | (simp [*] <;> rfl), by repeat (with_reducible first | exact HB.out | apply q4q | apply q0q | apply q2q | refine q5q ?_ GE144.out)⟩
end Go.Proofs.Ytkkgbbfojmnopaa.G
end
