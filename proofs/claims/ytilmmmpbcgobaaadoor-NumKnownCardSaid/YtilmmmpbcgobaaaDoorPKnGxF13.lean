import Derived.Test.YtilmmmpbcgobaaaDoorPKnGx0
import Derived.Test.YtilmmmpbcgobaaaDoorPKnGxF38
import Derived.Test.YtilmmmpbcgobaaaDoorPKnGxF39
import Derived.Test.YtilmmmpbcgobaaaDoorPKnGxF40
import Derived.Test.YtilmmmpbcgobaaaDoorPKnGxF41
import Derived.Test.YtilmmmpbcgobaaaDoorPKnGxF43
import Derived.Test.YtilmmmpbcgobaaaDoorPKnGxF44
import Derived.Test.YtilmmmpbcgobaaaDoorPKnGxF45
import Derived.Test.YtilmmmpbcgobaaaDoorPKnGxF46
import Derived.Test.YtilmmmpbcgobaaaDoorPKnGxF47
import Derived.Test.YtilmmmpbcgobaaaDoorPKnGxF48
set_option linter.unusedVariables false
set_option linter.unusedSimpArgs false
section
namespace Go.Proofs.YtilmmmpbcgobaaaDoor.G
open Go.RowKit Go.Proofs.YtilmmmpbcgobaaaDoorW.PrintWords Go.Proofs.YtilmmmpbcgobaaaDoorW.PrintLast Go.Proofs.YtilmmmpbcgobaaaDoorW.PrintMore
attribute [local go_sem] max2_int min2_int max_two min_two max_three min_three max_four min_four
set_option linter.unusedVariables false
set_option linter.unusedSimpArgs false
def opsV : Array Value := #[.func (.func 38) #[] #[], .func (.func 39) #[] #[], .func (.func 40) #[] #[], .func (.func 41) #[] #[], .func (.func 43) #[] #[], .func (.func 44) #[] #[], .func (.func 45) #[] #[], .func (.func 46) #[] #[], .func (.func 47) #[] #[], .func (.func 48) #[] #[]]
set_option maxHeartbeats 4000000 in
set_option maxRecDepth 100000 in
theorem ops_any (w : World) : Calls Tryd.prog 25 #[] w fun e w' => ∃ b, e = .returned (.slice (some ⟨b, 0, none⟩) 10 10) ∧ Below w.heap.size w w' ∧ w'.heap[b]? = some (.cells opsV 42 (0, 0)) := by
  go_enter Tryd.func25, Tryd.ntmps25
  go_wp2
  go_ret
  exact ⟨w.heap.size, rfl, below_alloc (Below.refl _ _) _, blk_new _ _⟩
set_option maxHeartbeats 4000000 in
set_option maxRecDepth 100000 in
theorem do0 (a b r : Int) (w : World) (hc : ∀ w', Calls Tryd.prog 38 #[.int .i64 a, .int .i64 b] w' fun e w'' => e = .returned (.int .i64 r) ∧ Below w'.heap.size w' w'') :
    Calls Tryd.prog 13 #[.int .i64 0, .int .i64 a, .int .i64 b] w fun e w' => e = .returned (.tuple #[.int .i64 r, .int .i64 0]) ∧ Below w.heap.size w w' := by
  have HC := Aside0.mk hc
  clear hc
  by_cases hz : b = 0
  · have hb0 : (b == 0) = true := beq_iff_eq.mpr hz
    clear hz
    go_enter Tryd.func13, Tryd.ntmps13
    go_wp2_with fail
    refine (ops_any _).mono ?_
    rintro e w1 ⟨g, rfl, hb1, hk⟩
    have hcell : w1.cell? ⟨g, 0, none⟩ = some (.func (.func 38) #[] #[]) := (blk_cell hk 0).trans rfl
    have HB := Aside0.mk hb1
    clear hb1 hk
    go_wp2_with fail
    refine (HC.out _).mono ?_
    rintro e w2 ⟨rfl, hb2⟩
    have HB2 := Aside0.mk (HB.out.trans (hb2.mono HB.out.size))
    clear hb2
    go_wp2
    go_ret2
    exact ⟨rfl, by repeat (first | exact HB2.out | apply pw_below_drewN | apply below_drew1)⟩
  · have hb0 : (b == 0) = false := beq_eq_false_iff_ne.mpr hz
    clear hz
    go_enter Tryd.func13, Tryd.ntmps13
    go_wp2_with fail
    refine (ops_any _).mono ?_
    rintro e w1 ⟨g, rfl, hb1, hk⟩
    have hcell : w1.cell? ⟨g, 0, none⟩ = some (.func (.func 38) #[] #[]) := (blk_cell hk 0).trans rfl
    have HB := Aside0.mk hb1
    clear hb1 hk
    go_wp2_with fail
    refine (HC.out _).mono ?_
    rintro e w2 ⟨rfl, hb2⟩
    have HB2 := Aside0.mk (HB.out.trans (hb2.mono HB.out.size))
    clear hb2
    go_wp2
    go_ret2
    exact ⟨rfl, by repeat (first | exact HB2.out | apply pw_below_drewN | apply below_drew1)⟩
set_option maxHeartbeats 4000000 in
set_option maxRecDepth 100000 in
theorem do1 (a b r : Int) (w : World) (hc : ∀ w', Calls Tryd.prog 39 #[.int .i64 a, .int .i64 b] w' fun e w'' => e = .returned (.int .i64 r) ∧ Below w'.heap.size w' w'') :
    Calls Tryd.prog 13 #[.int .i64 1, .int .i64 a, .int .i64 b] w fun e w' => e = .returned (.tuple #[.int .i64 r, .int .i64 0]) ∧ Below w.heap.size w w' := by
  have HC := Aside0.mk hc
  clear hc
  by_cases hz : b = 0
  · have hb0 : (b == 0) = true := beq_iff_eq.mpr hz
    clear hz
    go_enter Tryd.func13, Tryd.ntmps13
    go_wp2_with fail
    refine (ops_any _).mono ?_
    rintro e w1 ⟨g, rfl, hb1, hk⟩
    have hcell : w1.cell? ⟨g, 1, none⟩ = some (.func (.func 39) #[] #[]) := (blk_cell hk 1).trans rfl
    have HB := Aside0.mk hb1
    clear hb1 hk
    go_wp2_with fail
    refine (HC.out _).mono ?_
    rintro e w2 ⟨rfl, hb2⟩
    have HB2 := Aside0.mk (HB.out.trans (hb2.mono HB.out.size))
    clear hb2
    go_wp2
    go_ret2
    exact ⟨rfl, by repeat (first | exact HB2.out | apply pw_below_drewN | apply below_drew1)⟩
  · have hb0 : (b == 0) = false := beq_eq_false_iff_ne.mpr hz
    clear hz
    go_enter Tryd.func13, Tryd.ntmps13
    go_wp2_with fail
    refine (ops_any _).mono ?_
    rintro e w1 ⟨g, rfl, hb1, hk⟩
    have hcell : w1.cell? ⟨g, 1, none⟩ = some (.func (.func 39) #[] #[]) := (blk_cell hk 1).trans rfl
    have HB := Aside0.mk hb1
    clear hb1 hk
    go_wp2_with fail
    refine (HC.out _).mono ?_
    rintro e w2 ⟨rfl, hb2⟩
    have HB2 := Aside0.mk (HB.out.trans (hb2.mono HB.out.size))
    clear hb2
    go_wp2
    go_ret2
    exact ⟨rfl, by repeat (first | exact HB2.out | apply pw_below_drewN | apply below_drew1)⟩
set_option maxHeartbeats 4000000 in
set_option maxRecDepth 100000 in
theorem do2 (a b r : Int) (w : World) (hc : ∀ w', Calls Tryd.prog 40 #[.int .i64 a, .int .i64 b] w' fun e w'' => e = .returned (.int .i64 r) ∧ Below w'.heap.size w' w'') :
    Calls Tryd.prog 13 #[.int .i64 2, .int .i64 a, .int .i64 b] w fun e w' => e = .returned (.tuple #[.int .i64 r, .int .i64 0]) ∧ Below w.heap.size w w' := by
  have HC := Aside0.mk hc
  clear hc
  by_cases hz : b = 0
  · have hb0 : (b == 0) = true := beq_iff_eq.mpr hz
    clear hz
    go_enter Tryd.func13, Tryd.ntmps13
    go_wp2_with fail
    refine (ops_any _).mono ?_
    rintro e w1 ⟨g, rfl, hb1, hk⟩
    have hcell : w1.cell? ⟨g, 2, none⟩ = some (.func (.func 40) #[] #[]) := (blk_cell hk 2).trans rfl
    have HB := Aside0.mk hb1
    clear hb1 hk
    go_wp2_with fail
    refine (HC.out _).mono ?_
    rintro e w2 ⟨rfl, hb2⟩
    have HB2 := Aside0.mk (HB.out.trans (hb2.mono HB.out.size))
    clear hb2
    go_wp2
    go_ret2
    exact ⟨rfl, by repeat (first | exact HB2.out | apply pw_below_drewN | apply below_drew1)⟩
  · have hb0 : (b == 0) = false := beq_eq_false_iff_ne.mpr hz
    clear hz
    go_enter Tryd.func13, Tryd.ntmps13
    go_wp2_with fail
    refine (ops_any _).mono ?_
    rintro e w1 ⟨g, rfl, hb1, hk⟩
    have hcell : w1.cell? ⟨g, 2, none⟩ = some (.func (.func 40) #[] #[]) := (blk_cell hk 2).trans rfl
    have HB := Aside0.mk hb1
    clear hb1 hk
    go_wp2_with fail
    refine (HC.out _).mono ?_
    rintro e w2 ⟨rfl, hb2⟩
    have HB2 := Aside0.mk (HB.out.trans (hb2.mono HB.out.size))
    clear hb2
    go_wp2
    go_ret2
    exact ⟨rfl, by repeat (first | exact HB2.out | apply pw_below_drewN | apply below_drew1)⟩
set_option maxHeartbeats 4000000 in
set_option maxRecDepth 100000 in
theorem do3 (a b r : Int) (w : World) (hb : b ≠ 0) (hc : ∀ w', Calls Tryd.prog 41 #[.int .i64 a, .int .i64 b] w' fun e w'' => e = .returned (.int .i64 r) ∧ Below w'.heap.size w' w'') :
    Calls Tryd.prog 13 #[.int .i64 3, .int .i64 a, .int .i64 b] w fun e w' => e = .returned (.tuple #[.int .i64 r, .int .i64 0]) ∧ Below w.heap.size w w' := by
  have HC := Aside0.mk hc
  clear hc
  have hb0 : (b == 0) = false := beq_eq_false_iff_ne.mpr hb
  go_enter Tryd.func13, Tryd.ntmps13
  go_wp2_with fail
  refine (ops_any _).mono ?_
  rintro e w1 ⟨g, rfl, hb1, hk⟩
  have hcell : w1.cell? ⟨g, 3, none⟩ = some (.func (.func 41) #[] #[]) := (blk_cell hk 3).trans rfl
  have HB := Aside0.mk hb1
  clear hb1 hk
  go_wp2_with fail
  refine (HC.out _).mono ?_
  rintro e w2 ⟨rfl, hb2⟩
  have HB2 := Aside0.mk (HB.out.trans (hb2.mono HB.out.size))
  clear hb2
  go_wp2
  go_ret2
  exact ⟨rfl, by repeat (first | exact HB2.out | apply pw_below_drewN | apply below_drew1)⟩
set_option maxHeartbeats 4000000 in
set_option maxRecDepth 100000 in
theorem do4 (a b r : Int) (w : World) (hb : b ≠ 0) (hc : ∀ w', Calls Tryd.prog 43 #[.int .i64 a, .int .i64 b] w' fun e w'' => e = .returned (.int .i64 r) ∧ Below w'.heap.size w' w'') :
    Calls Tryd.prog 13 #[.int .i64 4, .int .i64 a, .int .i64 b] w fun e w' => e = .returned (.tuple #[.int .i64 r, .int .i64 0]) ∧ Below w.heap.size w w' := by
  have HC := Aside0.mk hc
  clear hc
  have hb0 : (b == 0) = false := beq_eq_false_iff_ne.mpr hb
  go_enter Tryd.func13, Tryd.ntmps13
  go_wp2_with fail
  refine (ops_any _).mono ?_
  rintro e w1 ⟨g, rfl, hb1, hk⟩
  have hcell : w1.cell? ⟨g, 4, none⟩ = some (.func (.func 43) #[] #[]) := (blk_cell hk 4).trans rfl
  have HB := Aside0.mk hb1
  clear hb1 hk
  go_wp2_with fail
  refine (HC.out _).mono ?_
  rintro e w2 ⟨rfl, hb2⟩
  have HB2 := Aside0.mk (HB.out.trans (hb2.mono HB.out.size))
  clear hb2
  go_wp2
  go_ret2
  exact ⟨rfl, by repeat (first | exact HB2.out | apply pw_below_drewN | apply below_drew1)⟩
set_option maxHeartbeats 4000000 in
set_option maxRecDepth 100000 in
theorem do5 (a b r : Int) (w : World) (hc : ∀ w', Calls Tryd.prog 44 #[.int .i64 a, .int .i64 b] w' fun e w'' => e = .returned (.int .i64 r) ∧ Below w'.heap.size w' w'') :
    Calls Tryd.prog 13 #[.int .i64 5, .int .i64 a, .int .i64 b] w fun e w' => e = .returned (.tuple #[.int .i64 r, .int .i64 0]) ∧ Below w.heap.size w w' := by
  have HC := Aside0.mk hc
  clear hc
  by_cases hz : b = 0
  · have hb0 : (b == 0) = true := beq_iff_eq.mpr hz
    clear hz
    go_enter Tryd.func13, Tryd.ntmps13
    go_wp2_with fail
    refine (ops_any _).mono ?_
    rintro e w1 ⟨g, rfl, hb1, hk⟩
    have hcell : w1.cell? ⟨g, 5, none⟩ = some (.func (.func 44) #[] #[]) := (blk_cell hk 5).trans rfl
    have HB := Aside0.mk hb1
    clear hb1 hk
    go_wp2_with fail
    refine (HC.out _).mono ?_
    rintro e w2 ⟨rfl, hb2⟩
    have HB2 := Aside0.mk (HB.out.trans (hb2.mono HB.out.size))
    clear hb2
    go_wp2
    go_ret2
    exact ⟨rfl, by repeat (first | exact HB2.out | apply pw_below_drewN | apply below_drew1)⟩
  · have hb0 : (b == 0) = false := beq_eq_false_iff_ne.mpr hz
    clear hz
    go_enter Tryd.func13, Tryd.ntmps13
    go_wp2_with fail
    refine (ops_any _).mono ?_
    rintro e w1 ⟨g, rfl, hb1, hk⟩
    have hcell : w1.cell? ⟨g, 5, none⟩ = some (.func (.func 44) #[] #[]) := (blk_cell hk 5).trans rfl
    have HB := Aside0.mk hb1
    clear hb1 hk
    go_wp2_with fail
    refine (HC.out _).mono ?_
    rintro e w2 ⟨rfl, hb2⟩
    have HB2 := Aside0.mk (HB.out.trans (hb2.mono HB.out.size))
    clear hb2
    go_wp2
    go_ret2
    exact ⟨rfl, by repeat (first | exact HB2.out | apply pw_below_drewN | apply below_drew1)⟩
set_option maxHeartbeats 4000000 in
set_option maxRecDepth 100000 in
theorem do6 (a b r : Int) (w : World) (hc : ∀ w', Calls Tryd.prog 45 #[.int .i64 a, .int .i64 b] w' fun e w'' => e = .returned (.int .i64 r) ∧ Below w'.heap.size w' w'') :
    Calls Tryd.prog 13 #[.int .i64 6, .int .i64 a, .int .i64 b] w fun e w' => e = .returned (.tuple #[.int .i64 r, .int .i64 0]) ∧ Below w.heap.size w w' := by
  have HC := Aside0.mk hc
  clear hc
  by_cases hz : b = 0
  · have hb0 : (b == 0) = true := beq_iff_eq.mpr hz
    clear hz
    go_enter Tryd.func13, Tryd.ntmps13
    go_wp2_with fail
    refine (ops_any _).mono ?_
    rintro e w1 ⟨g, rfl, hb1, hk⟩
    have hcell : w1.cell? ⟨g, 6, none⟩ = some (.func (.func 45) #[] #[]) := (blk_cell hk 6).trans rfl
    have HB := Aside0.mk hb1
    clear hb1 hk
    go_wp2_with fail
    refine (HC.out _).mono ?_
    rintro e w2 ⟨rfl, hb2⟩
    have HB2 := Aside0.mk (HB.out.trans (hb2.mono HB.out.size))
    clear hb2
    go_wp2
    go_ret2
    exact ⟨rfl, by repeat (first | exact HB2.out | apply pw_below_drewN | apply below_drew1)⟩
  · have hb0 : (b == 0) = false := beq_eq_false_iff_ne.mpr hz
    clear hz
    go_enter Tryd.func13, Tryd.ntmps13
    go_wp2_with fail
    refine (ops_any _).mono ?_
    rintro e w1 ⟨g, rfl, hb1, hk⟩
    have hcell : w1.cell? ⟨g, 6, none⟩ = some (.func (.func 45) #[] #[]) := (blk_cell hk 6).trans rfl
    have HB := Aside0.mk hb1
    clear hb1 hk
    go_wp2_with fail
    refine (HC.out _).mono ?_
    rintro e w2 ⟨rfl, hb2⟩
    have HB2 := Aside0.mk (HB.out.trans (hb2.mono HB.out.size))
    clear hb2
    go_wp2
    go_ret2
    exact ⟨rfl, by repeat (first | exact HB2.out | apply pw_below_drewN | apply below_drew1)⟩
set_option maxHeartbeats 4000000 in
set_option maxRecDepth 100000 in
theorem do7 (a b r : Int) (w : World) (hc : ∀ w', Calls Tryd.prog 46 #[.int .i64 a, .int .i64 b] w' fun e w'' => e = .returned (.int .i64 r) ∧ Below w'.heap.size w' w'') :
    Calls Tryd.prog 13 #[.int .i64 7, .int .i64 a, .int .i64 b] w fun e w' => e = .returned (.tuple #[.int .i64 r, .int .i64 0]) ∧ Below w.heap.size w w' := by
  have HC := Aside0.mk hc
  clear hc
  by_cases hz : b = 0
  · have hb0 : (b == 0) = true := beq_iff_eq.mpr hz
    clear hz
    go_enter Tryd.func13, Tryd.ntmps13
    go_wp2_with fail
    refine (ops_any _).mono ?_
    rintro e w1 ⟨g, rfl, hb1, hk⟩
    have hcell : w1.cell? ⟨g, 7, none⟩ = some (.func (.func 46) #[] #[]) := (blk_cell hk 7).trans rfl
    have HB := Aside0.mk hb1
    clear hb1 hk
    go_wp2_with fail
    refine (HC.out _).mono ?_
    rintro e w2 ⟨rfl, hb2⟩
    have HB2 := Aside0.mk (HB.out.trans (hb2.mono HB.out.size))
    clear hb2
    go_wp2
    go_ret2
    exact ⟨rfl, by repeat (first | exact HB2.out | apply pw_below_drewN | apply below_drew1)⟩
  · have hb0 : (b == 0) = false := beq_eq_false_iff_ne.mpr hz
    clear hz
    go_enter Tryd.func13, Tryd.ntmps13
    go_wp2_with fail
    refine (ops_any _).mono ?_
    rintro e w1 ⟨g, rfl, hb1, hk⟩
    have hcell : w1.cell? ⟨g, 7, none⟩ = some (.func (.func 46) #[] #[]) := (blk_cell hk 7).trans rfl
    have HB := Aside0.mk hb1
    clear hb1 hk
    go_wp2_with fail
    refine (HC.out _).mono ?_
    rintro e w2 ⟨rfl, hb2⟩
    have HB2 := Aside0.mk (HB.out.trans (hb2.mono HB.out.size))
    clear hb2
    go_wp2
    go_ret2
    exact ⟨rfl, by repeat (first | exact HB2.out | apply pw_below_drewN | apply below_drew1)⟩
set_option maxHeartbeats 4000000 in
set_option maxRecDepth 100000 in
theorem do8 (a b r : Int) (w : World) (hc : ∀ w', Calls Tryd.prog 47 #[.int .i64 a, .int .i64 b] w' fun e w'' => e = .returned (.int .i64 r) ∧ Below w'.heap.size w' w'') :
    Calls Tryd.prog 13 #[.int .i64 8, .int .i64 a, .int .i64 b] w fun e w' => e = .returned (.tuple #[.int .i64 r, .int .i64 0]) ∧ Below w.heap.size w w' := by
  have HC := Aside0.mk hc
  clear hc
  by_cases hz : b = 0
  · have hb0 : (b == 0) = true := beq_iff_eq.mpr hz
    clear hz
    go_enter Tryd.func13, Tryd.ntmps13
    go_wp2_with fail
    refine (ops_any _).mono ?_
    rintro e w1 ⟨g, rfl, hb1, hk⟩
    have hcell : w1.cell? ⟨g, 8, none⟩ = some (.func (.func 47) #[] #[]) := (blk_cell hk 8).trans rfl
    have HB := Aside0.mk hb1
    clear hb1 hk
    go_wp2_with fail
    refine (HC.out _).mono ?_
    rintro e w2 ⟨rfl, hb2⟩
    have HB2 := Aside0.mk (HB.out.trans (hb2.mono HB.out.size))
    clear hb2
    go_wp2
    go_ret2
    exact ⟨rfl, by repeat (first | exact HB2.out | apply pw_below_drewN | apply below_drew1)⟩
  · have hb0 : (b == 0) = false := beq_eq_false_iff_ne.mpr hz
    clear hz
    go_enter Tryd.func13, Tryd.ntmps13
    go_wp2_with fail
    refine (ops_any _).mono ?_
    rintro e w1 ⟨g, rfl, hb1, hk⟩
    have hcell : w1.cell? ⟨g, 8, none⟩ = some (.func (.func 47) #[] #[]) := (blk_cell hk 8).trans rfl
    have HB := Aside0.mk hb1
    clear hb1 hk
    go_wp2_with fail
    refine (HC.out _).mono ?_
    rintro e w2 ⟨rfl, hb2⟩
    have HB2 := Aside0.mk (HB.out.trans (hb2.mono HB.out.size))
    clear hb2
    go_wp2
    go_ret2
    exact ⟨rfl, by repeat (first | exact HB2.out | apply pw_below_drewN | apply below_drew1)⟩
set_option maxHeartbeats 4000000 in
set_option maxRecDepth 100000 in
theorem do9 (a b r : Int) (w : World) (hc : ∀ w', Calls Tryd.prog 48 #[.int .i64 a, .int .i64 b] w' fun e w'' => e = .returned (.int .i64 r) ∧ Below w'.heap.size w' w'') :
    Calls Tryd.prog 13 #[.int .i64 9, .int .i64 a, .int .i64 b] w fun e w' => e = .returned (.tuple #[.int .i64 r, .int .i64 0]) ∧ Below w.heap.size w w' := by
  have HC := Aside0.mk hc
  clear hc
  by_cases hz : b = 0
  · have hb0 : (b == 0) = true := beq_iff_eq.mpr hz
    clear hz
    go_enter Tryd.func13, Tryd.ntmps13
    go_wp2_with fail
    refine (ops_any _).mono ?_
    rintro e w1 ⟨g, rfl, hb1, hk⟩
    have hcell : w1.cell? ⟨g, 9, none⟩ = some (.func (.func 48) #[] #[]) := (blk_cell hk 9).trans rfl
    have HB := Aside0.mk hb1
    clear hb1 hk
    go_wp2_with fail
    refine (HC.out _).mono ?_
    rintro e w2 ⟨rfl, hb2⟩
    have HB2 := Aside0.mk (HB.out.trans (hb2.mono HB.out.size))
    clear hb2
    go_wp2
    go_ret2
    exact ⟨rfl, by repeat (first | exact HB2.out | apply pw_below_drewN | apply below_drew1)⟩
  · have hb0 : (b == 0) = false := beq_eq_false_iff_ne.mpr hz
    clear hz
    go_enter Tryd.func13, Tryd.ntmps13
    go_wp2_with fail
    refine (ops_any _).mono ?_
    rintro e w1 ⟨g, rfl, hb1, hk⟩
    have hcell : w1.cell? ⟨g, 9, none⟩ = some (.func (.func 48) #[] #[]) := (blk_cell hk 9).trans rfl
    have HB := Aside0.mk hb1
    clear hb1 hk
    go_wp2_with fail
    refine (HC.out _).mono ?_
    rintro e w2 ⟨rfl, hb2⟩
    have HB2 := Aside0.mk (HB.out.trans (hb2.mono HB.out.size))
    clear hb2
    go_wp2
    go_ret2
    exact ⟨rfl, by repeat (first | exact HB2.out | apply pw_below_drewN | apply below_drew1)⟩
def doF (op a b : Int) : Option Int := if op = 0 then num_ops_1.f a b else if op = 1 then num_ops_2.f a b else if op = 2 then num_ops_3.f a b else if op = 3 then num_ops_4.f a b else if op = 4 then num_ops_5.f a b else if op = 5 then num_ops_6.f a b else if op = 6 then num_ops_7.f a b else if op = 7 then num_ops_8.f a b else if op = 8 then num_up.f a b else num_ops_9.f a b
set_option maxHeartbeats 4000000 in
set_option maxRecDepth 100000 in
theorem do_out (op a b : Int) (w : World) (h : op < 0 ∨ 9 < op) :
    Calls Tryd.prog 13 #[.int .i64 op, .int .i64 a, .int .i64 b] w fun e w' => e = .returned (.tuple #[.int .i64 0, .int .i64 2]) ∧ Below w.heap.size w w' := by
  by_cases h0 : op < 0
  · have c0 : decide (op < 0) = true := decide_eq_true h0
    clear h
    go_enter Tryd.func13, Tryd.ntmps13
    go_wp2
    go_ret2
    exact ⟨rfl, by repeat (first | exact Below.refl _ _ | apply pw_below_drewN | apply below_drew1)⟩
  · have c0 : decide (op < 0) = false := decide_eq_false h0
    have c1 : decide (9 < op) = true := decide_eq_true (by omega)
    clear h
    go_enter Tryd.func13, Tryd.ntmps13
    go_wp2
    go_ret2
    exact ⟨rfl, by repeat (first | exact Below.refl _ _ | apply pw_below_drewN | apply below_drew1)⟩
set_option maxHeartbeats 4000000 in
set_option maxRecDepth 100000 in
theorem do_zero (op a : Int) (w : World) (h : op = 3 ∨ op = 4) :
    Calls Tryd.prog 13 #[.int .i64 op, .int .i64 a, .int .i64 0] w fun e w' => e = .returned (.tuple #[.int .i64 0, .int .i64 8]) ∧ Below w.heap.size w w' := by
  rcases h with rfl | rfl
  all_goals
    go_enter Tryd.func13, Tryd.ntmps13
    go_wp2
    go_ret2
    exact ⟨rfl, by repeat (first | exact Below.refl _ _ | apply pw_below_drewN | apply below_drew1)⟩
theorem drawn_below {w w' : World} (h : Drawn0 w w') : Below w.heap.size w w' := by obtain ⟨n, rfl⟩ := h; exact pw_below_drewN (Below.refl _ _) _
def num_Do.f (a0 a1 a2 : Int) : Option (Int × Int) := if a0 < 0 ∨ 9 < a0 then some (0, 2) else if a2 = 0 ∧ (a0 = 3 ∨ a0 = 4) then some (0, 8) else (doF a0 a1 a2).bind fun v => some (v, 0)
theorem num_Do.calls (a0 a1 a2 : Int) (r1 r2 : Int) (w : World) (h : num_Do.f a0 a1 a2 = some (r1, r2)) :
    Calls Tryd.prog 13 #[.int .i64 a0, .int .i64 a1, .int .i64 a2] w fun e w' => e = .returned (.tuple #[.int .i64 r1, .int .i64 r2]) ∧ Below w.heap.size w w' := by
  unfold num_Do.f at h
  by_cases h0 : a0 < 0 ∨ 9 < a0
  · rw [if_pos h0] at h
    obtain ⟨rfl, rfl⟩ := Prod.mk.inj (Option.some.inj h)
    exact do_out a0 a1 a2 w h0
  · rw [if_neg h0] at h
    by_cases h1 : a2 = 0 ∧ (a0 = 3 ∨ a0 = 4)
    · rw [if_pos h1] at h
      obtain ⟨rfl, rfl⟩ := Prod.mk.inj (Option.some.inj h)
      rw [h1.1]
      exact do_zero a0 a1 w h1.2
    · rw [if_neg h1] at h
      obtain ⟨v, hv, h2⟩ := Option.bind_eq_some_iff.mp h
      obtain ⟨rfl, rfl⟩ := Prod.mk.inj (Option.some.inj h2)
      rcases (by omega : a0 = 0 ∨ a0 = 1 ∨ a0 = 2 ∨ a0 = 3 ∨ a0 = 4 ∨ a0 = 5 ∨ a0 = 6 ∨ a0 = 7 ∨ a0 = 8 ∨ a0 = 9) with rfl | rfl | rfl | rfl | rfl | rfl | rfl | rfl | rfl | rfl
      · exact do0 a1 a2 v w (fun w' => (num_ops_1.calls a1 a2 v w' hv).mono fun _ _ h => ⟨h.1, drawn_below h.2⟩)
      · exact do1 a1 a2 v w (fun w' => (num_ops_2.calls a1 a2 v w' hv).mono fun _ _ h => ⟨h.1, drawn_below h.2⟩)
      · exact do2 a1 a2 v w (fun w' => (num_ops_3.calls a1 a2 v w' hv).mono fun _ _ h => ⟨h.1, drawn_below h.2⟩)
      · exact do3 a1 a2 v w (fun e => h1 ⟨e, by decide⟩) (fun w' => (num_ops_4.calls a1 a2 v w' hv).mono fun _ _ h => ⟨h.1, drawn_below h.2⟩)
      · exact do4 a1 a2 v w (fun e => h1 ⟨e, by decide⟩) (fun w' => (num_ops_5.calls a1 a2 v w' hv).mono fun _ _ h => ⟨h.1, drawn_below h.2⟩)
      · exact do5 a1 a2 v w (fun w' => (num_ops_6.calls a1 a2 v w' hv).mono fun _ _ h => ⟨h.1, drawn_below h.2⟩)
      · exact do6 a1 a2 v w (fun w' => (num_ops_7.calls a1 a2 v w' hv).mono fun _ _ h => ⟨h.1, drawn_below h.2⟩)
      · exact do7 a1 a2 v w (fun w' => (num_ops_8.calls a1 a2 v w' hv).mono fun _ _ h => ⟨h.1, drawn_below h.2⟩)
      · exact do8 a1 a2 v w (fun w' => num_up.calls a1 a2 v w' hv)
      · exact do9 a1 a2 v w (fun w' => num_ops_9.calls a1 a2 v w' hv)
end Go.Proofs.YtilmmmpbcgobaaaDoor.G
end
