import Derived.Test.YtkkgbbfojmnopaaPReGx0
import Derived.Test.YtkkgbbfojmnopaaPReGxF40
set_option linter.unusedVariables false
set_option linter.unusedSimpArgs false
section
namespace Go.Proofs.Ytkkgbbfojmnopaa.G
open Go.RowKit Go.Proofs.YtkkgbbfojmnopaaW.PrintWords Go.Proofs.YtkkgbbfojmnopaaW.PrintLast Go.Proofs.YtkkgbbfojmnopaaW.PrintMore
attribute [local go_sem] q26q q27q q34q q35q q22q q23q q28q q29q
def fQ8.l0 : Nat → Int → List (S47) → Option (Int)
 | 0, _, _ => none
 | k + 1, x3, x252000 => if x3 < (x252000.length : Int) then (if 0 ≤ x3 then ((fQ1.f k ((rd_T47 x252000 x3).f0) ((rd_T47 x252000 x3).f1) ((rd_T47 x252000 x3).f2) ((rd_T47 x252000 x3).f3) ((rd_T47 x252000 x3).f4) (x3 == 0) (x252000.length : Int)).bind fun t253 => (if t253 = 0 then (fQ8.l0 k (wrap64 (x3 + 1)) x252000) else (some t253))) else (none)) else (some 0)
def fQ8.f (k : Nat) (l0_0 : List (S47)) : Option (Int) := if (l0_0.length : Int) = 0 then (some 2) else (if (l0_0.length : Int) > 256 then (some 3) else (fQ8.l0 k 0 l0_0))
def fQ8.T8 : Bool × List (List Nat × List Nat) := (true, [([], []), ([0], [0]), ([], []), ([1, 2], [1, 2]), ([3], [3]), ([], []), ([5], [5]), ([], []), ([7], [7]), ([8], [8]), ([4, 6, 9], [4, 6, 9]), ([10, 10, 0, 1, 2, 3, 4, 5, 6, 7, 8, 9, 10], [10])])
def fQ8.B8 : List Nat := [0, 1, 0, 7, 15, 0, 32, 0, 128, 384, 1023, 2047]
theorem fQ8.tab8 : rtab .any (opsOf Try.f21 8) = fQ8.T8 := by kernel_rfl
theorem fQ8.bits8 : waitsOk fQ8.T8.2 fQ8.B8 = true := by kernel_rfl
set_option maxHeartbeats 8000000 in
set_option maxRecDepth 100000 in
theorem fQ8.calls (k : Nat) (A0_0 : Option Addr) (c0_0 : Nat) (l0_0 : List (S47)) (r : Int) (w : World) (hr0_0 : Kd.C k47 w A0_0 l0_0.length l0_0) (hc0_0 : l0_0.length ≤ c0_0) (h : fQ8.f k l0_0 = some r) :
  Calls Try.prog 21 #[.agg #[.slice A0_0 l0_0.length c0_0]] w fun e w' => e = .returned (.int .i64 r) ∧ Below w.heap.size w w' := by
 have hu24 := Try.underlying24
 have hu47 := Try.underlying47
 have HR0_0 := Aq.mk hr0_0
 have HC0_0 := Aq.mk hc0_0
 clear hr0_0 hc0_0
 have HB := Aq.mk (Below.refl w.heap.size w)
 have H : (if (l0_0.length : Int) = 0 then (some 2) else (if (l0_0.length : Int) > 256 then (some 3) else (fQ8.l0 k 0 l0_0))) = some r := h
 clear h
 by_cases c2 : (l0_0.length : Int) = 0
 ·rw [if_pos c2] at H
  have c2b0 : ((l0_0.length : Int) == 0) = true := beq_iff_eq.mpr c2
  have c2b1 : ((l0_0.length : Int) != 0) = false := bne_eq_false_iff_eq.mpr c2
  clear c2
  obtain rfl := Option.some.inj H
  go_enter Try.func21, Try.ntmps21
  go_wp2_with (first | ((with_reducible refine q12q (N := 1) rfl ?_); refine q11q ?hg (N := 1) ?hd (cs := #[.slice A0_0 l0_0.length c0_0]) (t := 24) ?hr ?_; (case hd => rfl); (case hg => rfl); (case hr => first | (go_simp; done) | (go_simp; rfl)); intro gb251 hg w3 hbox hb; have n0_ := Aq.mk (q10q (by repeat (with_reducible first | exact HB.out | apply q4q | apply q0q | apply q2q)) hb); have n1_ := Aq.mk (hbox); have n2_ := Aq.mk ((by rw [hg]; exact (q6q (by repeat (with_reducible first | exact HB.out | apply q4q | apply q0q | apply q2q))) : w.heap.size ≤ gb251)); have n3_ := Aq.mk ((by rw [hg]; exact (q6q (by repeat (with_reducible first | exact HB.out | apply q4q | apply q0q | apply q2q))) : w.heap.size ≤ gb251)); clear HB; have HB := n0_; have BK251 := n1_; have GW251 := n2_; have GE251 := n3_; clear n0_ n1_ n2_ n3_; clear hb hbox hg; have hcz4_0 : w3.cell? ⟨gb251, 0, none⟩ = some (.slice A0_0 l0_0.length c0_0) := (q3q BK251.out 0).trans rfl; have hfz4_0 := q1q BK251.out 0))
  go_ret
  exact ⟨by first | rfl | (simp [*] <;> rfl), by repeat (with_reducible first | exact HB.out | apply q4q | apply q0q | apply q2q | refine q5q ?_ GE251.out)⟩
 rw [if_neg c2] at H
 have c2b0 : ((l0_0.length : Int) == 0) = false := beq_eq_false_iff_ne.mpr c2
 have c2b1 : ((l0_0.length : Int) != 0) = true := bne_iff_ne.mpr c2
 have c2b2 : ¬ (l0_0 = []) := fun h_ => c2 (by rw [h_]; rfl)
 by_cases c5 : (l0_0.length : Int) > 256
 ·rw [if_pos c5] at H
  have c5b0 : decide (256 < (l0_0.length : Int)) = true := decide_eq_true c5
  have c5b1 : decide (256 < l0_0.length) = true := decide_eq_true (by omega)
  clear c5
  obtain rfl := Option.some.inj H
  go_enter Try.func21, Try.ntmps21
  go_wp2_with (first | ((with_reducible refine q12q (N := 1) rfl ?_); refine q11q ?hg (N := 1) ?hd (cs := #[.slice A0_0 l0_0.length c0_0]) (t := 24) ?hr ?_; (case hd => rfl); (case hg => rfl); (case hr => first | (go_simp; done) | (go_simp; rfl)); intro gb251 hg w6 hbox hb; have n0_ := Aq.mk (q10q (by repeat (with_reducible first | exact HB.out | apply q4q | apply q0q | apply q2q)) hb); have n1_ := Aq.mk (hbox); have n2_ := Aq.mk ((by rw [hg]; exact (q6q (by repeat (with_reducible first | exact HB.out | apply q4q | apply q0q | apply q2q))) : w.heap.size ≤ gb251)); have n3_ := Aq.mk ((by rw [hg]; exact (q6q (by repeat (with_reducible first | exact HB.out | apply q4q | apply q0q | apply q2q))) : w.heap.size ≤ gb251)); clear HB; have HB := n0_; have BK251 := n1_; have GW251 := n2_; have GE251 := n3_; clear n0_ n1_ n2_ n3_; clear hb hbox hg; have hcz7_0 : w6.cell? ⟨gb251, 0, none⟩ = some (.slice A0_0 l0_0.length c0_0) := (q3q BK251.out 0).trans rfl; have hfz7_0 := q1q BK251.out 0))
  go_ret
  exact ⟨by first | rfl | (simp [*] <;> rfl), by repeat (with_reducible first | exact HB.out | apply q4q | apply q0q | apply q2q | refine q5q ?_ GE251.out)⟩
 rw [if_neg c5] at H
 have c5b0 : decide (256 < (l0_0.length : Int)) = false := decide_eq_false c5
 have c5b1 : decide (256 < l0_0.length) = false := decide_eq_false (by omega)
 clear c5
 have H' := Aq.mk H
 clear H
 go_enter Try.func21, Try.ntmps21
 go_wp2_with (first | ((with_reducible refine q12q (N := 1) rfl ?_); refine q11q ?hg (N := 1) ?hd (cs := #[.slice A0_0 l0_0.length c0_0]) (t := 24) ?hr ?_; (case hd => rfl); (case hg => rfl); (case hr => first | (go_simp; done) | (go_simp; rfl)); intro gb251 hg w8 hbox hb; have n0_ := Aq.mk (q10q (by repeat (with_reducible first | exact HB.out | apply q4q | apply q0q | apply q2q)) hb); have n1_ := Aq.mk (hbox); have n2_ := Aq.mk ((by rw [hg]; exact (q6q (by repeat (with_reducible first | exact HB.out | apply q4q | apply q0q | apply q2q))) : w.heap.size ≤ gb251)); have n3_ := Aq.mk ((by rw [hg]; exact (q6q (by repeat (with_reducible first | exact HB.out | apply q4q | apply q0q | apply q2q))) : w.heap.size ≤ gb251)); clear HB; have HB := n0_; have BK251 := n1_; have GW251 := n2_; have GE251 := n3_; clear n0_ n1_ n2_ n3_; clear hb hbox hg; have hcz9_0 : w8.cell? ⟨gb251, 0, none⟩ = some (.slice A0_0 l0_0.length c0_0) := (q3q BK251.out 0).trans rfl; have hfz9_0 := q1q BK251.out 0))
 go_loopg [3] k (fun kq v3 w' => ∃ (x3_1 : Int), v3 = .int .i64 x3_1 ∧ Aq (fQ8.l0 kq x3_1 l0_0 = some r) ∧ Aq (kq ≤ k) ∧ Aq (w'.heap[gb251]? = some (.cells #[(.slice A0_0 l0_0.length c0_0)] 24 (0, 0))) ∧ Aq (Below w.heap.size w w'))
 case atStart => exact ⟨(0), (by first | rfl | (simp; done) | (simp [*]; done)), H', ⟨Nat.le_refl _⟩, ⟨BK251.out⟩, ⟨by repeat (with_reducible first | exact HB.out | apply q4q | apply q0q | apply q2q | refine q5q ?_ GE251.out)⟩⟩
 case round =>
  clear H'
  try clear c2
  try clear c2b0
  try clear c2b1
  try clear c2b2
  try clear c5b0
  try clear c5b1
  try clear hcz9_0
  try clear hfz9_0
  obtain ⟨x3_1, rfl, HA, HK1, BK251, HB⟩ := hrel
  cases gk with
  | zero => exact absurd HA.out (by simp [fQ8.l0])
  | succ k1 =>
   have H := HA.out
   clear HA
   simp only [fQ8.l0] at H
   by_cases c10 : x3_1 < (l0_0.length : Int)
   case neg =>
    rw [if_neg c10] at H
    have c10b0 : decide (x3_1 < (l0_0.length : Int)) = false := decide_eq_false c10
    clear c10
    obtain rfl := Option.some.inj H
    have hcz20_0 : wr.cell? ⟨gb251, 0, none⟩ = some (.slice A0_0 l0_0.length c0_0) := (q3q BK251.out 0).trans rfl
    have hfz20_0 := q1q BK251.out 0
    go_wp2
    go_ret
    exact ⟨by first | rfl | (simp [*] <;> rfl), by repeat (with_reducible first | exact HB.out | apply q4q | apply q0q | apply q2q | refine q5q ?_ GE251.out)⟩
   rw [if_pos c10] at H
   have c10b0 : decide (x3_1 < (l0_0.length : Int)) = true := decide_eq_true c10
   clear c10
   by_cases c11 : 0 ≤ x3_1
   case neg =>
    rw [if_neg c11] at H
    exact absurd H (by simp)
   rw [if_pos c11] at H
   have c11b0 : decide (0 ≤ x3_1) = true := decide_eq_true c11
   clear c11
   replace H := Option.bind_eq_some_iff.mp H
   obtain ⟨t253, A120, H⟩ := H
   replace H : (if t253 = 0 then (fQ8.l0 k1 (wrap64 (x3_1 + 1)) l0_0) else (some t253)) = some r := H
   have A12 := Aq.mk A120
   clear A120
   by_cases c13 : t253 = 0
   case neg =>
    rw [if_neg c13] at H
    have c13b0 : (t253 == 0) = false := beq_eq_false_iff_ne.mpr c13
    have c13b1 : (t253 != 0) = true := bne_iff_ne.mpr c13
    obtain rfl := Option.some.inj H
    have hcz17_0 : wr.cell? ⟨gb251, 0, none⟩ = some (.slice A0_0 l0_0.length c0_0) := (q3q BK251.out 0).trans rfl
    have hfz17_0 := q1q BK251.out 0
    try go_wp2
    have n0_ := Aq.mk (q9q BK251.out)
    have n1_ := Aq.mk (q2q HB.out)
    clear BK251
    clear HB
    have BK251 := n0_
    have HB := n1_
    clear n0_ n1_
    have p252 : 0 ≤ (x3_1 : Int) := of_decide_eq_true (by first | (with_reducible assumption) | assumption)
    have q252 : x3_1 < (l0_0.length : Int) := of_decide_eq_true (by first | (with_reducible assumption) | assumption)
    obtain ⟨ad252, A252_2, c252_2, A252_3, c252_3, A252_4, c252_4, e252, hx252_0, hx252_1, hx252_2, hx252_3, hx252_4, hl252_2, hi252_2, hl252_3, hi252_3, hl252_4, hi252_4⟩ := at_T47 HR0_0.out x3_1 p252 q252
    have hw252_4 := hx252_4
    have hw252_3 := hx252_3
    have hw252_2 := hx252_2
    have hw252_1 := hx252_1
    have hw252_0 := hx252_0
    cases e252
    replace hx252_0 := (HB.out.cell (World.block_lt_of_cell? w _ hx252_0)).trans hx252_0
    replace hx252_1 := (HB.out.cell (World.block_lt_of_cell? w _ hx252_1)).trans hx252_1
    replace hx252_2 := (HB.out.cell (World.block_lt_of_cell? w _ hx252_2)).trans hx252_2
    replace hx252_3 := (HB.out.cell (World.block_lt_of_cell? w _ hx252_3)).trans hx252_3
    replace hx252_4 := (HB.out.cell (World.block_lt_of_cell? w _ hx252_4)).trans hx252_4
    have HR252_2 := Aq.mk hi252_2
    have HC252_2 := Aq.mk hl252_2
    clear hi252_2 hl252_2
    have HR252_3 := Aq.mk hi252_3
    have HC252_3 := Aq.mk hl252_3
    clear hi252_3 hl252_3
    have HR252_4 := Aq.mk hi252_4
    have HC252_4 := Aq.mk hl252_4
    clear hi252_4 hl252_4
    replace p252 := eq_true p252
    replace q252 := eq_true q252
    refine start_ (n := 12) (S := fun w' => w'.cell? ⟨gb251, 0, none⟩ = some (.slice (some ad252) l0_0.length c0_0) ∧ w'.cell? (ad252.add ((x3_1).toNat * 5)) = some (.int .i64 ((rd_T47 l0_0 x3_1).f0)) ∧ w'.cell? ⟨(ad252.add ((x3_1).toNat * 5)).block, (ad252.add ((x3_1).toNat * 5)).off + 1, none⟩ = some (.int .i64 ((rd_T47 l0_0 x3_1).f1)) ∧ w'.cell? ⟨(ad252.add ((x3_1).toNat * 5)).block, (ad252.add ((x3_1).toNat * 5)).off + 2, none⟩ = some (.slice A252_2 ((rd_T47 l0_0 x3_1).f2).length c252_2) ∧ w'.cell? ⟨(ad252.add ((x3_1).toNat * 5)).block, (ad252.add ((x3_1).toNat * 5)).off + 3, none⟩ = some (.slice A252_3 ((rd_T47 l0_0 x3_1).f3).length c252_3) ∧ w'.cell? ⟨(ad252.add ((x3_1).toNat * 5)).block, (ad252.add ((x3_1).toNat * 5)).off + 4, none⟩ = some (.slice A252_4 ((rd_T47 l0_0 x3_1).f4).length c252_4)) (ds := []) #[false, false, false, false, false, false, false, false, false, false, false, false] (by kernel_rfl) rfl rfl ⟨(q3q BK251.out 0).trans rfl, ((HB.out.cell (World.block_lt_of_cell? w _ hw252_0)).trans hw252_0), ((HB.out.cell (World.block_lt_of_cell? w _ hw252_1)).trans hw252_1), ((HB.out.cell (World.block_lt_of_cell? w _ hw252_2)).trans hw252_2), ((HB.out.cell (World.block_lt_of_cell? w _ hw252_3)).trans hw252_3), ((HB.out.cell (World.block_lt_of_cell? w _ hw252_4)).trans hw252_4)⟩ (fun hHeld => ?_); refine with_tabW fQ8.tab8 fQ8.bits8 (fun HT_ HW_ => ?_)
    generalize wr.drew = w18 at BK251 HB HR252_2 HR252_3 HR252_4 hx252_0 hx252_1 hx252_2 hx252_3 hx252_4 hHeld ⊢
    refine pure_ (i := 0) (N := some 20) (v := ?_) (a' := ?_) (bA 12 1) rfl rfl (q17q HT_.out (by kernel_rfl)) (fun _ _ _ h => h) (Or.inl ⟨by rfl, ?_⟩) ?_ ?_
    rotate_left
    ·intro w'
     go_simp
     with_reducible rfl
    rotate_left
    ·simp only [Act.put, sA_, sZ_, sS_, i64_w, i32_w]
     rfl
    refine pure_ (i := 2) (N := some 22) (v := ?_) (a' := ?_) (bA 12 5) rfl rfl (q17q HT_.out (by kernel_rfl)) (fun _ _ _ h => h) (Or.inl ⟨by rfl, ?_⟩) ?_ ?_
    rotate_left
    ·intro w'
     go_simp
     with_reducible rfl
    rotate_left
    ·simp only [Act.put, sA_, sZ_, sS_, i64_w, i32_w]
     rfl
    refine pure_ (i := 5) (N := some 25) (v := ?_) (a' := ?_) (bA 12 37) rfl rfl (q17q HT_.out (by kernel_rfl)) (fun _ _ _ h => h) (Or.inl ⟨by rfl, ?_⟩) ?_ ?_
    rotate_left
    ·intro w'
     go_simp
     with_reducible rfl
    rotate_left
    ·simp only [Act.put, sA_, sZ_, sS_, i64_w, i32_w]
     rfl
    refine pure_ (i := 6) (N := some 26) (v := ?_) (a' := ?_) (bA 12 101) rfl rfl (q17q HT_.out (by kernel_rfl)) (fun _ _ _ h => h) (Or.inl ⟨by rfl, ?_⟩) ?_ ?_
    rotate_left
    ·intro w'
     go_simp
     with_reducible rfl
    rotate_left
    ·simp only [Act.put, sA_, sZ_, sS_, i64_w, i32_w]
     rfl
    refine pure_ (i := 7) (N := some 27) (v := ?_) (a' := ?_) (bA 12 229) rfl rfl (q17q HT_.out (by kernel_rfl)) (fun _ _ _ h => h) (Or.inl ⟨by rfl, ?_⟩) ?_ ?_
    rotate_left
    ·intro w'
     go_simp
     with_reducible rfl
    rotate_left
    ·simp only [Act.put, sA_, sZ_, sS_, i64_w, i32_w]
     rfl
    refine take_ (i := 1) (N := some 21) (v := ?_) (a' := ?_) (bA 12 231) rfl rfl (q32q HT_.out HW_.out (by kernel_rfl)) (fun _ _ _ h => h) (Or.inl ⟨by rfl, ?_⟩) hHeld ?_ ?_
    rotate_left
    ·rintro w' ⟨s0, s1, s2, s3, s4, s5⟩
     go_simp
     with_reducible rfl
    rotate_left
    ·simp only [Act.put, sA_, sZ_, sS_, i64_w, i32_w]
     rfl
    refine pure_ (i := 3) (N := some 23) (v := ?_) (a' := ?_) (bA 12 239) rfl rfl (q17q HT_.out (by kernel_rfl)) (fun _ _ _ h => h) (Or.inl ⟨by rfl, ?_⟩) ?_ ?_
    rotate_left
    ·intro w'
     go_simp
     with_reducible rfl
    rotate_left
    ·simp only [Act.put, sA_, sZ_, sS_, i64_w, i32_w]
     rfl
    refine take_ (i := 4) (N := some 24) (v := ?_) (a' := ?_) (bA 12 255) rfl rfl (q32q HT_.out HW_.out (by kernel_rfl)) (fun _ _ _ h => h) (Or.inl ⟨by rfl, ?_⟩) hHeld ?_ ?_
    rotate_left
    ·rintro w' ⟨s0, s1, s2, s3, s4, s5⟩
     go_simp
     with_reducible rfl
    rotate_left
    ·simp only [Act.put, sA_, sZ_, sS_, i64_w, i32_w]
     rfl
    refine take_ (i := 8) (N := some 28) (v := ?_) (a' := ?_) (bA 12 511) rfl rfl (q32q HT_.out HW_.out (by kernel_rfl)) (fun _ _ _ h => h) (Or.inl ⟨by rfl, ?_⟩) hHeld ?_ ?_
    rotate_left
    ·rintro w' ⟨s0, s1, s2, s3, s4, s5⟩
     go_simp
     with_reducible rfl
    rotate_left
    ·simp only [Act.put, sA_, sZ_, sS_, i64_w, i32_w]
     rfl
    refine pure_ (i := 9) (N := some 29) (v := ?_) (a' := ?_) (bA 12 1023) rfl rfl (q17q HT_.out (by kernel_rfl)) (fun _ _ _ h => h) (Or.inl ⟨by rfl, ?_⟩) ?_ ?_
    rotate_left
    ·intro w'
     go_simp
     with_reducible rfl
    rotate_left
    ·simp only [Act.put, sA_, sZ_, sS_, i64_w, i32_w]
     rfl
    refine one_ (i := 10) (N := some 30) (bA 12 2047) rfl rfl (q39q HT_.out (by kernel_rfl)) (by decide) (fun K hK => ?_)
    refine goes_ Try.func40 (by kernel_rfl) rfl #[.agg #[.int .i64 ((rd_T47 l0_0 x3_1).f0), .int .i64 ((rd_T47 l0_0 x3_1).f1), .slice A252_2 ((rd_T47 l0_0 x3_1).f2).length c252_2, .slice A252_3 ((rd_T47 l0_0 x3_1).f3).length c252_3, .slice A252_4 ((rd_T47 l0_0 x3_1).f4).length c252_4], .bool (x3_1 == 0), .int .i64 (l0_0.length : Int)] (by rfl) rfl rfl (by (try simp only [List.map_toArray, List.map_cons, List.map_nil]); first | done | rfl) ?_
    with_reducible refine (fQ1.calls k1 ((rd_T47 l0_0 x3_1).f0) ((rd_T47 l0_0 x3_1).f1) _ _ ((rd_T47 l0_0 x3_1).f2) _ _ ((rd_T47 l0_0 x3_1).f3) _ _ ((rd_T47 l0_0 x3_1).f4) (x3_1 == 0) (l0_0.length : Int) t253 _ ?side1 ?side2 ?side3 ?side4 ?side5 ?side6 A12.out).mono ?_
    (case side1 => repeat (first | exact (Kd.q19q HR252_2.out HB.out) | (with_reducible refine Kd.C_alloc ?_ _) | (with_reducible refine Kd.C_drewN ?_ _) | (with_reducible refine Kd.C_drew ?_)))
    (case side2 => exact HC252_2.out)
    (case side3 => repeat (first | exact (Kd.q19q HR252_3.out HB.out) | (with_reducible refine Kd.C_alloc ?_ _) | (with_reducible refine Kd.C_drewN ?_ _) | (with_reducible refine Kd.C_drew ?_)))
    (case side4 => exact HC252_3.out)
    (case side5 => repeat (first | exact (Kd.q19q HR252_4.out HB.out) | (with_reducible refine Kd.C_alloc ?_ _) | (with_reducible refine Kd.C_drewN ?_ _) | (with_reducible refine Kd.C_drew ?_)))
    (case side6 => exact HC252_4.out)
    rintro e w19 ⟨rfl, hb⟩
    refine ⟨_, rfl, ?_⟩
    have n0_ := Aq.mk (q13q (g := gb251) (o := .cells #[.slice (some ad252) l0_0.length c0_0] 24 (0, 0)) BK251.out hb)
    have n1_ := Aq.mk (q10q (by repeat (with_reducible first | exact HB.out | apply q4q | apply q0q | apply q2q | refine q5q ?_ GE251.out)) hb)
    clear BK251
    clear HB
    have BK251 := n0_
    have HB := n1_
    clear n0_ n1_
    (try clear hb)
    (try clear hb2)
    (try clear hk)
    (try clear hi)
    refine hK.out _ _ ⟨(q3q BK251.out 0).trans rfl, ((HB.out.cell (World.block_lt_of_cell? w _ hw252_0)).trans hw252_0), ((HB.out.cell (World.block_lt_of_cell? w _ hw252_1)).trans hw252_1), ((HB.out.cell (World.block_lt_of_cell? w _ hw252_2)).trans hw252_2), ((HB.out.cell (World.block_lt_of_cell? w _ hw252_3)).trans hw252_3), ((HB.out.cell (World.block_lt_of_cell? w _ hw252_4)).trans hw252_4)⟩ (fun hHeld => ?_)
    clear hK K
    refine norm_ (a' := ?_) ?_ ?_
    rotate_left
    ·show Act.put _ (some 30) _ = _
     simp only [Act.put, sA_, sZ_, sS_, i64_w, i32_w]
     rfl
    refine pure_ (i := 11) (N := some 4) (v := ?_) (a' := ?_) (bA 12 4095) rfl rfl (q17q HT_.out (by kernel_rfl)) (fun _ _ _ h => h) (Or.inl ⟨by rfl, ?_⟩) ?_ ?_
    rotate_left
    ·intro w'
     go_simp
     with_reducible rfl
    rotate_left
    ·simp only [Act.put, sA_, sZ_, sS_, i64_w, i32_w]
     rfl
    refine done_ (done_of HT_.out (by kernel_rfl)) ?_
    try go_wp2
    go_ret
    exact ⟨by first | rfl | (simp [*] <;> rfl), by repeat (with_reducible first | exact HB.out | apply q4q | apply q0q | apply q2q | refine q5q ?_ GE251.out)⟩
   rw [if_pos c13] at H
   have c13b0 : (t253 == 0) = true := beq_iff_eq.mpr c13
   have c13b1 : (t253 != 0) = false := bne_eq_false_iff_eq.mpr c13
   clear c13
   have H' := Aq.mk H
   clear H
   have hcz14_0 : wr.cell? ⟨gb251, 0, none⟩ = some (.slice A0_0 l0_0.length c0_0) := (q3q BK251.out 0).trans rfl
   have hfz14_0 := q1q BK251.out 0
   try go_wp2
   have n0_ := Aq.mk (q9q BK251.out)
   have n1_ := Aq.mk (q2q HB.out)
   clear BK251
   clear HB
   have BK251 := n0_
   have HB := n1_
   clear n0_ n1_
   have p252 : 0 ≤ (x3_1 : Int) := of_decide_eq_true (by first | (with_reducible assumption) | assumption)
   have q252 : x3_1 < (l0_0.length : Int) := of_decide_eq_true (by first | (with_reducible assumption) | assumption)
   obtain ⟨ad252, A252_2, c252_2, A252_3, c252_3, A252_4, c252_4, e252, hx252_0, hx252_1, hx252_2, hx252_3, hx252_4, hl252_2, hi252_2, hl252_3, hi252_3, hl252_4, hi252_4⟩ := at_T47 HR0_0.out x3_1 p252 q252
   have hw252_4 := hx252_4
   have hw252_3 := hx252_3
   have hw252_2 := hx252_2
   have hw252_1 := hx252_1
   have hw252_0 := hx252_0
   cases e252
   replace hx252_0 := (HB.out.cell (World.block_lt_of_cell? w _ hx252_0)).trans hx252_0
   replace hx252_1 := (HB.out.cell (World.block_lt_of_cell? w _ hx252_1)).trans hx252_1
   replace hx252_2 := (HB.out.cell (World.block_lt_of_cell? w _ hx252_2)).trans hx252_2
   replace hx252_3 := (HB.out.cell (World.block_lt_of_cell? w _ hx252_3)).trans hx252_3
   replace hx252_4 := (HB.out.cell (World.block_lt_of_cell? w _ hx252_4)).trans hx252_4
   have HR252_2 := Aq.mk hi252_2
   have HC252_2 := Aq.mk hl252_2
   clear hi252_2 hl252_2
   have HR252_3 := Aq.mk hi252_3
   have HC252_3 := Aq.mk hl252_3
   clear hi252_3 hl252_3
   have HR252_4 := Aq.mk hi252_4
   have HC252_4 := Aq.mk hl252_4
   clear hi252_4 hl252_4
   replace p252 := eq_true p252
   replace q252 := eq_true q252
   refine start_ (n := 12) (S := fun w' => w'.cell? ⟨gb251, 0, none⟩ = some (.slice (some ad252) l0_0.length c0_0) ∧ w'.cell? (ad252.add ((x3_1).toNat * 5)) = some (.int .i64 ((rd_T47 l0_0 x3_1).f0)) ∧ w'.cell? ⟨(ad252.add ((x3_1).toNat * 5)).block, (ad252.add ((x3_1).toNat * 5)).off + 1, none⟩ = some (.int .i64 ((rd_T47 l0_0 x3_1).f1)) ∧ w'.cell? ⟨(ad252.add ((x3_1).toNat * 5)).block, (ad252.add ((x3_1).toNat * 5)).off + 2, none⟩ = some (.slice A252_2 ((rd_T47 l0_0 x3_1).f2).length c252_2) ∧ w'.cell? ⟨(ad252.add ((x3_1).toNat * 5)).block, (ad252.add ((x3_1).toNat * 5)).off + 3, none⟩ = some (.slice A252_3 ((rd_T47 l0_0 x3_1).f3).length c252_3) ∧ w'.cell? ⟨(ad252.add ((x3_1).toNat * 5)).block, (ad252.add ((x3_1).toNat * 5)).off + 4, none⟩ = some (.slice A252_4 ((rd_T47 l0_0 x3_1).f4).length c252_4)) (ds := []) #[false, false, false, false, false, false, false, false, false, false, false, false] (by kernel_rfl) rfl rfl ⟨(q3q BK251.out 0).trans rfl, ((HB.out.cell (World.block_lt_of_cell? w _ hw252_0)).trans hw252_0), ((HB.out.cell (World.block_lt_of_cell? w _ hw252_1)).trans hw252_1), ((HB.out.cell (World.block_lt_of_cell? w _ hw252_2)).trans hw252_2), ((HB.out.cell (World.block_lt_of_cell? w _ hw252_3)).trans hw252_3), ((HB.out.cell (World.block_lt_of_cell? w _ hw252_4)).trans hw252_4)⟩ (fun hHeld => ?_); refine with_tabW fQ8.tab8 fQ8.bits8 (fun HT_ HW_ => ?_)
   generalize wr.drew = w15 at BK251 HB HR252_2 HR252_3 HR252_4 hx252_0 hx252_1 hx252_2 hx252_3 hx252_4 hHeld ⊢
   refine pure_ (i := 0) (N := some 20) (v := ?_) (a' := ?_) (bA 12 1) rfl rfl (q17q HT_.out (by kernel_rfl)) (fun _ _ _ h => h) (Or.inl ⟨by rfl, ?_⟩) ?_ ?_
   rotate_left
   ·intro w'
    go_simp
    with_reducible rfl
   rotate_left
   ·simp only [Act.put, sA_, sZ_, sS_, i64_w, i32_w]
    rfl
   refine pure_ (i := 2) (N := some 22) (v := ?_) (a' := ?_) (bA 12 5) rfl rfl (q17q HT_.out (by kernel_rfl)) (fun _ _ _ h => h) (Or.inl ⟨by rfl, ?_⟩) ?_ ?_
   rotate_left
   ·intro w'
    go_simp
    with_reducible rfl
   rotate_left
   ·simp only [Act.put, sA_, sZ_, sS_, i64_w, i32_w]
    rfl
   refine pure_ (i := 5) (N := some 25) (v := ?_) (a' := ?_) (bA 12 37) rfl rfl (q17q HT_.out (by kernel_rfl)) (fun _ _ _ h => h) (Or.inl ⟨by rfl, ?_⟩) ?_ ?_
   rotate_left
   ·intro w'
    go_simp
    with_reducible rfl
   rotate_left
   ·simp only [Act.put, sA_, sZ_, sS_, i64_w, i32_w]
    rfl
   refine pure_ (i := 6) (N := some 26) (v := ?_) (a' := ?_) (bA 12 101) rfl rfl (q17q HT_.out (by kernel_rfl)) (fun _ _ _ h => h) (Or.inl ⟨by rfl, ?_⟩) ?_ ?_
   rotate_left
   ·intro w'
    go_simp
    with_reducible rfl
   rotate_left
   ·simp only [Act.put, sA_, sZ_, sS_, i64_w, i32_w]
    rfl
   refine pure_ (i := 7) (N := some 27) (v := ?_) (a' := ?_) (bA 12 229) rfl rfl (q17q HT_.out (by kernel_rfl)) (fun _ _ _ h => h) (Or.inl ⟨by rfl, ?_⟩) ?_ ?_
   rotate_left
   ·intro w'
    go_simp
    with_reducible rfl
   rotate_left
   ·simp only [Act.put, sA_, sZ_, sS_, i64_w, i32_w]
    rfl
   refine take_ (i := 1) (N := some 21) (v := ?_) (a' := ?_) (bA 12 231) rfl rfl (q32q HT_.out HW_.out (by kernel_rfl)) (fun _ _ _ h => h) (Or.inl ⟨by rfl, ?_⟩) hHeld ?_ ?_
   rotate_left
   ·rintro w' ⟨s0, s1, s2, s3, s4, s5⟩
    go_simp
    with_reducible rfl
   rotate_left
   ·simp only [Act.put, sA_, sZ_, sS_, i64_w, i32_w]
    rfl
   refine pure_ (i := 3) (N := some 23) (v := ?_) (a' := ?_) (bA 12 239) rfl rfl (q17q HT_.out (by kernel_rfl)) (fun _ _ _ h => h) (Or.inl ⟨by rfl, ?_⟩) ?_ ?_
   rotate_left
   ·intro w'
    go_simp
    with_reducible rfl
   rotate_left
   ·simp only [Act.put, sA_, sZ_, sS_, i64_w, i32_w]
    rfl
   refine take_ (i := 4) (N := some 24) (v := ?_) (a' := ?_) (bA 12 255) rfl rfl (q32q HT_.out HW_.out (by kernel_rfl)) (fun _ _ _ h => h) (Or.inl ⟨by rfl, ?_⟩) hHeld ?_ ?_
   rotate_left
   ·rintro w' ⟨s0, s1, s2, s3, s4, s5⟩
    go_simp
    with_reducible rfl
   rotate_left
   ·simp only [Act.put, sA_, sZ_, sS_, i64_w, i32_w]
    rfl
   refine take_ (i := 8) (N := some 28) (v := ?_) (a' := ?_) (bA 12 511) rfl rfl (q32q HT_.out HW_.out (by kernel_rfl)) (fun _ _ _ h => h) (Or.inl ⟨by rfl, ?_⟩) hHeld ?_ ?_
   rotate_left
   ·rintro w' ⟨s0, s1, s2, s3, s4, s5⟩
    go_simp
    with_reducible rfl
   rotate_left
   ·simp only [Act.put, sA_, sZ_, sS_, i64_w, i32_w]
    rfl
   refine pure_ (i := 9) (N := some 29) (v := ?_) (a' := ?_) (bA 12 1023) rfl rfl (q17q HT_.out (by kernel_rfl)) (fun _ _ _ h => h) (Or.inl ⟨by rfl, ?_⟩) ?_ ?_
   rotate_left
   ·intro w'
    go_simp
    with_reducible rfl
   rotate_left
   ·simp only [Act.put, sA_, sZ_, sS_, i64_w, i32_w]
    rfl
   refine one_ (i := 10) (N := some 30) (bA 12 2047) rfl rfl (q39q HT_.out (by kernel_rfl)) (by decide) (fun K hK => ?_)
   refine goes_ Try.func40 (by kernel_rfl) rfl #[.agg #[.int .i64 ((rd_T47 l0_0 x3_1).f0), .int .i64 ((rd_T47 l0_0 x3_1).f1), .slice A252_2 ((rd_T47 l0_0 x3_1).f2).length c252_2, .slice A252_3 ((rd_T47 l0_0 x3_1).f3).length c252_3, .slice A252_4 ((rd_T47 l0_0 x3_1).f4).length c252_4], .bool (x3_1 == 0), .int .i64 (l0_0.length : Int)] (by rfl) rfl rfl (by (try simp only [List.map_toArray, List.map_cons, List.map_nil]); first | done | rfl) ?_
   with_reducible refine (fQ1.calls k1 ((rd_T47 l0_0 x3_1).f0) ((rd_T47 l0_0 x3_1).f1) _ _ ((rd_T47 l0_0 x3_1).f2) _ _ ((rd_T47 l0_0 x3_1).f3) _ _ ((rd_T47 l0_0 x3_1).f4) (x3_1 == 0) (l0_0.length : Int) t253 _ ?side1 ?side2 ?side3 ?side4 ?side5 ?side6 A12.out).mono ?_
   (case side1 => repeat (first | exact (Kd.q19q HR252_2.out HB.out) | (with_reducible refine Kd.C_alloc ?_ _) | (with_reducible refine Kd.C_drewN ?_ _) | (with_reducible refine Kd.C_drew ?_)))
   (case side2 => exact HC252_2.out)
   (case side3 => repeat (first | exact (Kd.q19q HR252_3.out HB.out) | (with_reducible refine Kd.C_alloc ?_ _) | (with_reducible refine Kd.C_drewN ?_ _) | (with_reducible refine Kd.C_drew ?_)))
   (case side4 => exact HC252_3.out)
   (case side5 => repeat (first | exact (Kd.q19q HR252_4.out HB.out) | (with_reducible refine Kd.C_alloc ?_ _) | (with_reducible refine Kd.C_drewN ?_ _) | (with_reducible refine Kd.C_drew ?_)))
   (case side6 => exact HC252_4.out)
   rintro e w16 ⟨rfl, hb⟩
   refine ⟨_, rfl, ?_⟩
   have n0_ := Aq.mk (q13q (g := gb251) (o := .cells #[.slice (some ad252) l0_0.length c0_0] 24 (0, 0)) BK251.out hb)
   have n1_ := Aq.mk (q10q (by repeat (with_reducible first | exact HB.out | apply q4q | apply q0q | apply q2q | refine q5q ?_ GE251.out)) hb)
   clear BK251
   clear HB
   have BK251 := n0_
   have HB := n1_
   clear n0_ n1_
   (try clear hb)
   (try clear hb2)
   (try clear hk)
   (try clear hi)
   refine hK.out _ _ ⟨(q3q BK251.out 0).trans rfl, ((HB.out.cell (World.block_lt_of_cell? w _ hw252_0)).trans hw252_0), ((HB.out.cell (World.block_lt_of_cell? w _ hw252_1)).trans hw252_1), ((HB.out.cell (World.block_lt_of_cell? w _ hw252_2)).trans hw252_2), ((HB.out.cell (World.block_lt_of_cell? w _ hw252_3)).trans hw252_3), ((HB.out.cell (World.block_lt_of_cell? w _ hw252_4)).trans hw252_4)⟩ (fun hHeld => ?_)
   clear hK K
   refine norm_ (a' := ?_) ?_ ?_
   rotate_left
   ·show Act.put _ (some 30) _ = _
    simp only [Act.put, sA_, sZ_, sS_, i64_w, i32_w]
    rfl
   refine pure_ (i := 11) (N := some 4) (v := ?_) (a' := ?_) (bA 12 4095) rfl rfl (q17q HT_.out (by kernel_rfl)) (fun _ _ _ h => h) (Or.inl ⟨by rfl, ?_⟩) ?_ ?_
   rotate_left
   ·intro w'
    go_simp
    with_reducible rfl
   rotate_left
   ·simp only [Act.put, sA_, sZ_, sS_, i64_w, i32_w]
    rfl
   refine done_ (done_of HT_.out (by kernel_rfl)) ?_
   try go_wp2
   go_roundg k1
   case measure => have := HK1.out; omega
   case rel => exact ⟨(wrap64 (x3_1 + 1)), (by first | rfl | (simp; done) | (simp [*]; done)), H', ⟨by have := HK1.out; omega⟩, ⟨BK251.out⟩, ⟨by repeat (with_reducible first | exact HB.out | apply q4q | apply q0q | apply q2q | refine q5q ?_ GE251.out)⟩⟩
end Go.Proofs.Ytkkgbbfojmnopaa.G
end
