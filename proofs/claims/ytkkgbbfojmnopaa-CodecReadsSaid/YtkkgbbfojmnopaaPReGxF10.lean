import Derived.Test.YtkkgbbfojmnopaaPReGx0
import Derived.Test.YtkkgbbfojmnopaaPReGxF16
import Derived.Test.YtkkgbbfojmnopaaPReGxF19
import Derived.Test.YtkkgbbfojmnopaaPReGxF20
set_option linter.unusedVariables false
set_option linter.unusedSimpArgs false
section
namespace Go.Proofs.Ytkkgbbfojmnopaa.G
open Go.RowKit Go.Proofs.YtkkgbbfojmnopaaW.PrintWords Go.Proofs.YtkkgbbfojmnopaaW.PrintLast Go.Proofs.YtkkgbbfojmnopaaW.PrintMore
attribute [local go_sem] q26q q27q q34q q35q q22q q23q q28q q29q
def fQ13.l0 : Nat → List Int → List (S47) → Int → Int → Option (ByteArray × Int)
 | 0, _, _, _, _ => none
 | k + 1, x5, x19, x20, x21 => if x21 < x20 then (if 0 ≤ x21 then (if x21 < (x19.length : Int) then ((fQ6.f k x5 ((rd_T47 x19 x21).f0) ((rd_T47 x19 x21).f1) ((rd_T47 x19 x21).f2) ((rd_T47 x19 x21).f3) ((rd_T47 x19 x21).f4)).bind fun t237 => (fQ13.l0 k t237 x19 x20 (wrap64 (x21 + 1)))) else (none)) else (none)) else (if (x5.length : Int) > 262144 then (some ((⟨#[]⟩ : ByteArray), 3)) else (some (strOfNums x5, 0)))
def fQ13.f (k : Nat) (l0_0 : List (S47)) : Option (ByteArray × Int) := (fQ16.f k l0_0).bind fun t228 => (if t228 = 0 then ((fQ9.f k ([] : List Int) (([(l0_0.length : Int)] : List Int))).bind fun t232 => (fQ13.l0 k t232 l0_0 (l0_0.length : Int) 0)) else (some ((⟨#[]⟩ : ByteArray), t228)))
set_option maxHeartbeats 8000000 in
set_option maxRecDepth 100000 in
theorem fQ13.calls (k : Nat) (A0_0 : Option Addr) (c0_0 : Nat) (l0_0 : List (S47)) (r1 : ByteArray) (r2 : Int) (w : World) (hr0_0 : Kd.C k47 w A0_0 l0_0.length l0_0) (hc0_0 : l0_0.length ≤ c0_0) (h : fQ13.f k l0_0 = some (r1, r2)) :
  Calls Try.prog 10 #[.agg #[.slice A0_0 l0_0.length c0_0]] w fun e w' => e = .returned (.tuple #[.string r1, .int .i64 r2]) ∧ Below w.heap.size w w' := by
 have hu24 := Try.underlying24
 have hu47 := Try.underlying47
 have HR0_0 := Aq.mk hr0_0
 have HC0_0 := Aq.mk hc0_0
 clear hr0_0 hc0_0
 have HB := Aq.mk (Below.refl w.heap.size w)
 have H : ((fQ16.f k l0_0).bind fun t228 => (if t228 = 0 then ((fQ9.f k ([] : List Int) (([(l0_0.length : Int)] : List Int))).bind fun t232 => (fQ13.l0 k t232 l0_0 (l0_0.length : Int) 0)) else (some ((⟨#[]⟩ : ByteArray), t228)))) = some (r1, r2) := h
 clear h
 replace H := Option.bind_eq_some_iff.mp H
 obtain ⟨t228, A20, H⟩ := H
 replace H : (if t228 = 0 then ((fQ9.f k ([] : List Int) (([(l0_0.length : Int)] : List Int))).bind fun t232 => (fQ13.l0 k t232 l0_0 (l0_0.length : Int) 0)) else (some ((⟨#[]⟩ : ByteArray), t228))) = some (r1, r2) := H
 have A2 := Aq.mk A20
 clear A20
 by_cases c3 : t228 = 0
 case neg =>
  rw [if_neg c3] at H
  have c3b0 : (t228 == 0) = false := beq_eq_false_iff_ne.mpr c3
  have c3b1 : (t228 != 0) = true := bne_iff_ne.mpr c3
  simp only [Option.some.injEq, Prod.mk.injEq] at H
  obtain ⟨rfl, rfl⟩ := H
  go_enter Try.func10, Try.ntmps10
  go_wp2_with (first | ((with_reducible refine q12q (N := 1) rfl ?_); refine q11q ?hg (N := 1) ?hd (cs := #[.slice A0_0 l0_0.length c0_0]) (t := 24) ?hr ?_; (case hd => rfl); (case hg => rfl); (case hr => first | (go_simp; done) | (go_simp; rfl)); intro gb227 hg w29 hbox hb; have n0_ := Aq.mk (q10q (by repeat (with_reducible first | exact HB.out | apply q4q | apply q0q | apply q2q)) hb); have n1_ := Aq.mk (hbox); have n2_ := Aq.mk ((by rw [hg]; exact (q6q (by repeat (with_reducible first | exact HB.out | apply q4q | apply q0q | apply q2q))) : w.heap.size ≤ gb227)); have n3_ := Aq.mk ((by rw [hg]; exact (q6q (by repeat (with_reducible first | exact HB.out | apply q4q | apply q0q | apply q2q))) : w.heap.size ≤ gb227)); clear HB; have HB := n0_; have BK227 := n1_; have GW227 := n2_; have GE227 := n3_; clear n0_ n1_ n2_ n3_; clear hb hbox hg; have hcz30_0 : w29.cell? ⟨gb227, 0, none⟩ = some (.slice A0_0 l0_0.length c0_0) := (q3q BK227.out 0).trans rfl; have hfz30_0 := q1q BK227.out 0) | ((with_reducible refine q15q (f := 16) rfl ?_); refine q24q (some 9) rfl rfl Try.func16 (by kernel_rfl) rfl #[.agg #[.slice A0_0 l0_0.length c0_0]] rfl (by (try simp only [List.map_toArray, List.map_cons, List.map_nil]); first | done | rfl) ?_; (with_reducible refine (fQ16.calls k _ _ l0_0 t228 _ ?side1 ?side2 A2.out).mono ?_); (case side1 => repeat (first | exact (Kd.q19q HR0_0.out HB.out) | (with_reducible refine Kd.C_alloc ?_ _) | (with_reducible refine Kd.C_drewN ?_ _) | (with_reducible refine Kd.C_drew ?_))); (case side2 => exact HC0_0.out); rintro e w31 ⟨rfl, hb⟩; refine ⟨_, rfl, ?_⟩; have n0_ := Aq.mk (q13q (g := gb227) (o := .cells #[.slice A0_0 l0_0.length c0_0] 24 (0, 0)) BK227.out hb); have n1_ := Aq.mk (q10q (by repeat (with_reducible first | exact HB.out | apply q4q | apply q0q | apply q2q | refine q5q ?_ GE227.out)) hb); clear BK227; clear HB; have BK227 := n0_; have HB := n1_; clear n0_ n1_; (try clear hb); (try clear hb2); (try clear hk); (try clear hi)))
  go_ret2
  exact ⟨by first | rfl | (simp [*] <;> rfl), by repeat (with_reducible first | exact HB.out | apply q4q | apply q0q | apply q2q | refine q5q ?_ GE227.out)⟩
 rw [if_pos c3] at H
 have c3b0 : (t228 == 0) = true := beq_iff_eq.mpr c3
 have c3b1 : (t228 != 0) = false := bne_eq_false_iff_eq.mpr c3
 clear c3
 obtain ⟨y229, hy229⟩ : ∃ y_ : List Int, y_ = (([(l0_0.length : Int)] : List Int)) := ⟨_, rfl⟩
 replace H : ((fQ9.f k ([] : List Int) y229).bind fun t232 => (fQ13.l0 k t232 l0_0 (l0_0.length : Int) 0)) = some (r1, r2) := by first | (rw [hy229]; with_reducible exact H) | (have H2_ := (Option.bind_some _ _).symm.trans H; rw [hy229]; with_reducible exact H2_) | (have H2_ := (Option.bind_some _ _).symm.trans H; with_reducible exact H2_) | with_reducible exact H | (rw [hy229]; exact H) | exact H
 have Ny229 := Aq.mk hy229
 clear hy229
 replace H := Option.bind_eq_some_iff.mp H
 obtain ⟨t232, A40, H⟩ := H
 replace H : (fQ13.l0 k t232 l0_0 (l0_0.length : Int) 0) = some (r1, r2) := H
 have A4 := Aq.mk A40
 clear A40
 have H' := Aq.mk H
 clear H
 go_enter Try.func10, Try.ntmps10
 go_wp2_with (first | ((with_reducible refine q12q (N := 1) rfl ?_); refine q11q ?hg (N := 1) ?hd (cs := #[.slice A0_0 l0_0.length c0_0]) (t := 24) ?hr ?_; (case hd => rfl); (case hg => rfl); (case hr => first | (go_simp; done) | (go_simp; rfl)); intro gb227 hg w5 hbox hb; have n0_ := Aq.mk (q10q (by repeat (with_reducible first | exact HB.out | apply q4q | apply q0q | apply q2q)) hb); have n1_ := Aq.mk (hbox); have n2_ := Aq.mk ((by rw [hg]; exact (q6q (by repeat (with_reducible first | exact HB.out | apply q4q | apply q0q | apply q2q))) : w.heap.size ≤ gb227)); have n3_ := Aq.mk ((by rw [hg]; exact (q6q (by repeat (with_reducible first | exact HB.out | apply q4q | apply q0q | apply q2q))) : w.heap.size ≤ gb227)); clear HB; have HB := n0_; have BK227 := n1_; have GW227 := n2_; have GE227 := n3_; clear n0_ n1_ n2_ n3_; clear hb hbox hg; have hcz6_0 : w5.cell? ⟨gb227, 0, none⟩ = some (.slice A0_0 l0_0.length c0_0) := (q3q BK227.out 0).trans rfl; have hfz6_0 := q1q BK227.out 0) | ((with_reducible refine q15q (f := 16) rfl ?_); refine q24q (some 9) rfl rfl Try.func16 (by kernel_rfl) rfl #[.agg #[.slice A0_0 l0_0.length c0_0]] rfl (by (try simp only [List.map_toArray, List.map_cons, List.map_nil]); first | done | rfl) ?_; (with_reducible refine (fQ16.calls k _ _ l0_0 t228 _ ?side1 ?side2 A2.out).mono ?_); (case side1 => repeat (first | exact (Kd.q19q HR0_0.out HB.out) | (with_reducible refine Kd.C_alloc ?_ _) | (with_reducible refine Kd.C_drewN ?_ _) | (with_reducible refine Kd.C_drew ?_))); (case side2 => exact HC0_0.out); rintro e w7 ⟨rfl, hb⟩; refine ⟨_, rfl, ?_⟩; have n0_ := Aq.mk (q13q (g := gb227) (o := .cells #[.slice A0_0 l0_0.length c0_0] 24 (0, 0)) BK227.out hb); have n1_ := Aq.mk (q10q (by repeat (with_reducible first | exact HB.out | apply q4q | apply q0q | apply q2q | refine q5q ?_ GE227.out)) hb); clear BK227; clear HB; have BK227 := n0_; have HB := n1_; clear n0_ n1_; (try clear hb); (try clear hb2); (try clear hk); (try clear hi); have hcz8_0 : w7.cell? ⟨gb227, 0, none⟩ = some (.slice A0_0 l0_0.length c0_0) := (q3q BK227.out 0).trans rfl; have hfz8_0 := q1q BK227.out 0) | ((with_reducible refine q12q (N := 16) rfl ?_); refine Kd.R_lit (Kd.int .i64) _ 3 ?hg (N := 16) ?hd (xs := ([(l0_0.length : Int)] : List Int)) (inner := [.int .i64 (l0_0.length : Int)]) (ok := fun _ => True) (okp := fun _ => True) ?hr ?hp (fun _ hk => hk) trivial (Below.refl _ _) (Nat.le_refl _) (by simp) ?_; (case hd => rfl); (case hg => rfl); (case hr => first | (go_simp; done) | (go_simp; rfl)); (case hp => exact (Reps.one (show Kd.M (Kd.int .i64) _ _ _ (l0_0.length : Int) [.int .i64 (l0_0.length : Int)] from rfl) (Reps.none _ _))); intro v230 w9 ho10 hb hg_ hnew_; clear hg_ hnew_; (first | rw [← Ny229.out] at ho10 | (simp only [Int.reduceToNat] at ho10; rw [← Ny229.out] at ho10)); have n0_ := Aq.mk (Kd.R_lower ho10 (q6q (by repeat (with_reducible first | exact HB.out | apply q4q | apply q0q | apply q2q | refine q5q ?_ GE227.out)))); have n1_ := Aq.mk (q13q (g := gb227) (o := .cells #[.slice A0_0 l0_0.length c0_0] 24 (0, 0)) BK227.out hb); have n2_ := Aq.mk (q10q (by repeat (with_reducible first | exact HB.out | apply q4q | apply q0q | apply q2q | refine q5q ?_ GE227.out)) hb); clear BK227; clear HB; have HO231 := n0_; have BK227 := n1_; have HB := n2_; clear n0_ n1_ n2_; clear hb ho10; obtain ⟨Ao11, co11, eo11⟩ := Kd.q33q HO231.out; subst eo11) | ((with_reducible refine q15q (f := 19) rfl ?_); refine q24q (some 17) rfl rfl Try.func19 (by kernel_rfl) rfl #[.slice none 0 0, .slice Ao11 y229.length co11] rfl (by (try simp only [List.map_toArray, List.map_cons, List.map_nil]); first | done | rfl) ?_; (refine (fQ9.calls k (fun k_ => some k_ = (.slice none 0 0 : Value).ownBlock) (.slice none 0 0) ([] : List Int) _ _ y229 t232 w _ ?side1 ?side2 ?side3 ?side4 A4.out).mono ?_); (case side1 => repeat (with_reducible first | exact HB.out | apply q4q | apply q0q | apply q2q | refine q5q ?_ GE227.out)); (case side2 => exact Kd.R_nil _ _ _ _ _); (case side3 => exact Kd.C_kept_own (HO231.out) (fun k_ hk_ hs_ => (fun e_ => by simp [Value.ownBlock] at e_) hs_)); (case side4 => exact (Kd.R_reads' HO231.out).2.1); rintro e w12 ⟨v233, rfl, ho0, hb, hkp⟩; refine ⟨_, rfl, ?_⟩; have n0_ := Aq.mk (blk_kept BK227.out hkp (fun hs_ => (fun e_ => by simp [Value.ownBlock] at e_) hs_)); have n1_ := Aq.mk (Kd.q30q (ok' := fun k_ => True) (Kd.R_keptB (HO231.out) hkp (fun k_ hk_ hs_ => (fun e_ => by simp [Value.ownBlock] at e_) hs_)) (fun k_ hk_ => trivial)); have n2_ := Aq.mk (Kd.q30q (ok' := fun k_ => True) ho0 (fun k_ hk_ => trivial)); have n3_ := Aq.mk (hb); clear BK227; clear HO231; clear HB; have BK227 := n0_; have HO231 := n1_; have HO234 := n2_; have HB := n3_; clear n0_ n1_ n2_ n3_; (try clear hb); (try clear hkp); (try clear ho0); have hcz13_0 : w12.cell? ⟨gb227, 0, none⟩ = some (.slice A0_0 l0_0.length c0_0) := (q3q BK227.out 0).trans rfl; have hfz13_0 := q1q BK227.out 0))
 go_loopg [5, 21] k (fun kq v5 v21 w' => ∃ (x5_1 : List Int) (x21_1 : Int), v21 = .int .i64 x21_1 ∧ Aq (fQ13.l0 kq x5_1 l0_0 (l0_0.length : Int) x21_1 = some (r1, r2)) ∧ Aq (kq ≤ k) ∧ Aq (Kd.R (Kd.int .u8) 5 w' w.heap.size (fun _ => True) v5 x5_1) ∧ Aq (w'.heap[gb227]? = some (.cells #[(.slice A0_0 l0_0.length c0_0)] 24 (0, 0))) ∧ Aq (Below w.heap.size w w'))
 case atStart => exact ⟨(t232), (0), (by first | rfl | (simp; done) | (simp [*]; done)), H', ⟨Nat.le_refl _⟩, ⟨by (with_reducible repeat (first | apply Kd.R_alloc | apply Kd.R_drewN | apply Kd.q40q)); exact HO234.out⟩, ⟨BK227.out⟩, ⟨by repeat (with_reducible first | exact HB.out | apply q4q | apply q0q | apply q2q | refine q5q ?_ GE227.out)⟩⟩
 case round =>
  clear H'
  try clear c3b0
  try clear c3b1
  try clear hcz13_0
  try clear hcz6_0
  try clear hcz8_0
  try clear hfz13_0
  try clear hfz6_0
  try clear hfz8_0
  obtain ⟨x5_1, x21_1, rfl, HA, HK1, HO_5, BK227, HB⟩ := hrel
  cases gk with
  | zero => exact absurd HA.out (by simp [fQ13.l0])
  | succ k1 =>
   have H := HA.out
   clear HA
   simp only [fQ13.l0] at H
   by_cases c14 : x21_1 < (l0_0.length : Int)
   case neg =>
    rw [if_neg c14] at H
    have c14b0 : decide (x21_1 < (l0_0.length : Int)) = false := decide_eq_false c14
    clear c14
    by_cases c25 : (x5_1.length : Int) > 262144
    ·rw [if_pos c25] at H
     have c25b0 : decide (262144 < (x5_1.length : Int)) = true := decide_eq_true c25
     have c25b1 : decide (262144 < x5_1.length) = true := decide_eq_true (by omega)
     clear c25
     simp only [Option.some.injEq, Prod.mk.injEq] at H
     obtain ⟨rfl, rfl⟩ := H
     obtain ⟨Ao26, co26, eo26⟩ := Kd.q33q HO_5.out
     subst eo26
     go_wp2
     go_ret2
     exact ⟨by first | rfl | (simp [*] <;> rfl), by repeat (with_reducible first | exact HB.out | apply q4q | apply q0q | apply q2q | refine q5q ?_ GE227.out)⟩
    rw [if_neg c25] at H
    have c25b0 : decide (262144 < (x5_1.length : Int)) = false := decide_eq_false c25
    have c25b1 : decide (262144 < x5_1.length) = false := decide_eq_false (by omega)
    clear c25
    simp only [Option.some.injEq, Prod.mk.injEq] at H
    obtain ⟨rfl, rfl⟩ := H
    obtain ⟨Ao27, co27, eo27⟩ := Kd.q33q HO_5.out
    subst eo27
    have hcv28 := own_string (P := Try.prog) Try.underlying38 Try.underlying5 Try.underlying9 (Kd.own_of_R HO_5.out)
    go_wp2
    go_ret2
    exact ⟨by first | rfl | (simp [*] <;> rfl), by repeat (with_reducible first | exact HB.out | apply q4q | apply q0q | apply q2q | refine q5q ?_ GE227.out)⟩
   rw [if_pos c14] at H
   have c14b0 : decide (x21_1 < (l0_0.length : Int)) = true := decide_eq_true c14
   clear c14
   by_cases c15 : 0 ≤ x21_1
   case neg =>
    rw [if_neg c15] at H
    exact absurd H (by simp)
   rw [if_pos c15] at H
   have c15b0 : decide (0 ≤ x21_1) = true := decide_eq_true c15
   clear c15
   by_cases c16 : x21_1 < (l0_0.length : Int)
   case neg =>
    rw [if_neg c16] at H
    exact absurd H (by simp)
   rw [if_pos c16] at H
   have c16b0 : decide (x21_1 < (l0_0.length : Int)) = true := decide_eq_true c16
   clear c16
   replace H := Option.bind_eq_some_iff.mp H
   obtain ⟨t237, A170, H⟩ := H
   replace H : (fQ13.l0 k1 t237 l0_0 (l0_0.length : Int) (wrap64 (x21_1 + 1))) = some (r1, r2) := H
   have A17 := Aq.mk A170
   clear A170
   have H' := Aq.mk H
   clear H
   have p235 : 0 ≤ (x21_1 : Int) := of_decide_eq_true (by first | (with_reducible assumption) | assumption)
   have q235 : x21_1 < (l0_0.length : Int) := of_decide_eq_true (by first | (with_reducible assumption) | assumption)
   obtain ⟨ad235, A235_2, c235_2, A235_3, c235_3, A235_4, c235_4, e235, hx235_0, hx235_1, hx235_2, hx235_3, hx235_4, hl235_2, hi235_2, hl235_3, hi235_3, hl235_4, hi235_4⟩ := at_T47 HR0_0.out x21_1 p235 q235
   cases e235
   replace hx235_0 := (HB.out.cell (World.block_lt_of_cell? w _ hx235_0)).trans hx235_0
   replace hx235_1 := (HB.out.cell (World.block_lt_of_cell? w _ hx235_1)).trans hx235_1
   replace hx235_2 := (HB.out.cell (World.block_lt_of_cell? w _ hx235_2)).trans hx235_2
   replace hx235_3 := (HB.out.cell (World.block_lt_of_cell? w _ hx235_3)).trans hx235_3
   replace hx235_4 := (HB.out.cell (World.block_lt_of_cell? w _ hx235_4)).trans hx235_4
   have HR235_2 := Aq.mk hi235_2
   have HC235_2 := Aq.mk hl235_2
   clear hi235_2 hl235_2
   have HR235_3 := Aq.mk hi235_3
   have HC235_3 := Aq.mk hl235_3
   clear hi235_3 hl235_3
   have HR235_4 := Aq.mk hi235_4
   have HC235_4 := Aq.mk hl235_4
   clear hi235_4 hl235_4
   replace p235 := eq_true p235
   replace q235 := eq_true q235
   go_wp2_with (first | ((with_reducible refine q12q (N := 7) rfl ?_); refine q11q ?hg (N := 7) ?hd (cs := #[.int .i64 0, .int .i64 0, .slice none 0 0, .slice none 0 0, .slice none 0 0]) (t := 47) ?hr ?_; (case hd => rfl); (case hg => rfl); (case hr => first | (go_simp; done) | (go_simp; rfl)); intro gb236 hg w18 hbox hb; have n0_ := Aq.mk (Kd.q38q HO_5.out hb); have n1_ := Aq.mk (q13q (g := gb227) (o := .cells #[.slice (some ad235) l0_0.length c0_0] 24 (0, 0)) BK227.out hb); have n2_ := Aq.mk (q10q (by repeat (with_reducible first | exact HB.out | apply q4q | apply q0q | apply q2q | refine q5q ?_ GE227.out)) hb); have n3_ := Aq.mk (hbox); have n4_ := Aq.mk ((by rw [hg]; exact (q6q (by repeat (with_reducible first | exact HB.out | apply q4q | apply q0q | apply q2q | refine q5q ?_ GE227.out))) : w.heap.size ≤ gb236)); have n5_ := Aq.mk ((by rw [hg]; exact (q6q (by repeat (with_reducible first | exact HB.out | apply q4q | apply q0q | apply q2q | refine q5q ?_ GE227.out))) : w.heap.size ≤ gb236)); have n6_ := Aq.mk ((by rw [hg]; exact Nat.ne_of_lt (q16q (g := gb227) (o := .cells #[.slice (some ad235) l0_0.length c0_0] 24 (0, 0)) BK227.out) : gb227 ≠ gb236)); have n7_ := Aq.mk ((by rw [hg]; exact Nat.ne_of_gt (q16q (g := gb227) (o := .cells #[.slice (some ad235) l0_0.length c0_0] 24 (0, 0)) BK227.out) : gb236 ≠ gb227)); clear HO_5; clear BK227; clear HB; have HO_5 := n0_; have BK227 := n1_; have HB := n2_; have BK236 := n3_; have GW236 := n4_; have GE236 := n5_; have NB227_236 := n6_; have NB236_227 := n7_; clear n0_ n1_ n2_ n3_ n4_ n5_ n6_ n7_; clear hb hbox hg; have hnb19 := NB236_227.out; have hnc19 := NB227_236.out; have hcz20_0 : w18.cell? ⟨gb236, 0, none⟩ = some (.int .i64 0) := (q3q BK236.out 0).trans rfl; have hcz20_1 : w18.cell? ⟨gb236, 1, none⟩ = some (.int .i64 0) := (q3q BK236.out 1).trans rfl; have hcz20_2 : w18.cell? ⟨gb236, 2, none⟩ = some (.slice none 0 0) := (q3q BK236.out 2).trans rfl; have hcz20_3 : w18.cell? ⟨gb236, 3, none⟩ = some (.slice none 0 0) := (q3q BK236.out 3).trans rfl; have hcz20_4 : w18.cell? ⟨gb236, 4, none⟩ = some (.slice none 0 0) := (q3q BK236.out 4).trans rfl; have hfz20_0 := q1q BK236.out 0; have hfz20_1 := q1q BK236.out 1; have hfz20_2 := q1q BK236.out 2; have hfz20_3 := q1q BK236.out 3; have hfz20_4 := q1q BK236.out 4) | ((with_reducible refine gate_store (t := 47) (p := 7) rfl ?_); refine store_event (t := 47) (p := 7) (v := ?vo_w21) (w1 := (((((w18.setCell ⟨gb236, 0, none⟩ (.int .i64 ((rd_T47 l0_0 x21_1).f0))).setCell ⟨gb236, 1, none⟩ (.int .i64 ((rd_T47 l0_0 x21_1).f1))).setCell ⟨gb236, 2, none⟩ (.slice A235_2 ((rd_T47 l0_0 x21_1).f2).length c235_2)).setCell ⟨gb236, 3, none⟩ (.slice A235_3 ((rd_T47 l0_0 x21_1).f3).length c235_3)).setCell ⟨gb236, 4, none⟩ (.slice A235_4 ((rd_T47 l0_0 x21_1).f4).length c235_4))) ?hg ?ho ?hn ?hr ?_; (case ho => rfl); (case hg => rfl); (case hn => rfl); (case hr => first | (go_simp; done) | (go_simp; rfl)); intro w21 hw; have n0_ : Aq (Kd.R (Kd.int .u8) 5 w21 w.heap.size (fun _ => True) u5 x5_1) := ⟨(by rw [hw]; exact (by (with_reducible repeat (first | apply Kd.R_alloc | apply Kd.R_drewN | apply Kd.q40q)); exact Kd.q30q (Kd.R_far (p := ⟨gb236, 4, none⟩) (Kd.R_far (p := ⟨gb236, 3, none⟩) (Kd.R_far (p := ⟨gb236, 2, none⟩) (Kd.R_far (p := ⟨gb236, 1, none⟩) (Kd.R_far (p := ⟨gb236, 0, none⟩) (Kd.R_types HO_5.out BK236.out (by decide)) (fun _ hk => hk.2) (.int .i64 ((rd_T47 l0_0 x21_1).f0))) (fun _ hk => hk.2) (.int .i64 ((rd_T47 l0_0 x21_1).f1))) (fun _ hk => hk.2) (.slice A235_2 ((rd_T47 l0_0 x21_1).f2).length c235_2)) (fun _ hk => hk.2) (.slice A235_3 ((rd_T47 l0_0 x21_1).f3).length c235_3)) (fun _ hk => hk.2) (.slice A235_4 ((rd_T47 l0_0 x21_1).f4).length c235_4)) (fun _ hk => trivial)))⟩; have n1_ : Aq (w21.heap[gb227]? = some (.cells #[.slice (some ad235) l0_0.length c0_0] 24 (0, 0))) := ⟨(by rw [hw]; exact (by (with_reducible repeat (first | refine q8q ?_ _ | refine q9q ?_ | refine q7q ?_ _)); refine q18q ?_ NB227_236.out _; (with_reducible repeat (first | refine q8q ?_ _ | refine q9q ?_ | refine q7q ?_ _)); refine q18q ?_ NB227_236.out _; (with_reducible repeat (first | refine q8q ?_ _ | refine q9q ?_ | refine q7q ?_ _)); refine q18q ?_ NB227_236.out _; (with_reducible repeat (first | refine q8q ?_ _ | refine q9q ?_ | refine q7q ?_ _)); refine q18q ?_ NB227_236.out _; (with_reducible repeat (first | refine q8q ?_ _ | refine q9q ?_ | refine q7q ?_ _)); refine q18q ?_ NB227_236.out _; (with_reducible repeat (first | refine q8q ?_ _ | refine q9q ?_ | refine q7q ?_ _)); exact BK227.out))⟩; have n2_ : Aq (w21.heap[gb236]? = some (.cells #[.int .i64 ((rd_T47 l0_0 x21_1).f0), .int .i64 ((rd_T47 l0_0 x21_1).f1), .slice A235_2 ((rd_T47 l0_0 x21_1).f2).length c235_2, .slice A235_3 ((rd_T47 l0_0 x21_1).f3).length c235_3, .slice A235_4 ((rd_T47 l0_0 x21_1).f4).length c235_4] 47 (0, 0))) := ⟨(by rw [hw]; exact (by (with_reducible repeat (first | refine q8q ?_ _ | refine q9q ?_ | refine q7q ?_ _)); refine q14q (cs := #[.int .i64 ((rd_T47 l0_0 x21_1).f0), .int .i64 ((rd_T47 l0_0 x21_1).f1), .slice A235_2 ((rd_T47 l0_0 x21_1).f2).length c235_2, .slice A235_3 ((rd_T47 l0_0 x21_1).f3).length c235_3, .slice none 0 0]) ?_ 4 _ rfl; (with_reducible repeat (first | refine q8q ?_ _ | refine q9q ?_ | refine q7q ?_ _)); refine q14q (cs := #[.int .i64 ((rd_T47 l0_0 x21_1).f0), .int .i64 ((rd_T47 l0_0 x21_1).f1), .slice A235_2 ((rd_T47 l0_0 x21_1).f2).length c235_2, .slice none 0 0, .slice none 0 0]) ?_ 3 _ rfl; (with_reducible repeat (first | refine q8q ?_ _ | refine q9q ?_ | refine q7q ?_ _)); refine q14q (cs := #[.int .i64 ((rd_T47 l0_0 x21_1).f0), .int .i64 ((rd_T47 l0_0 x21_1).f1), .slice none 0 0, .slice none 0 0, .slice none 0 0]) ?_ 2 _ rfl; (with_reducible repeat (first | refine q8q ?_ _ | refine q9q ?_ | refine q7q ?_ _)); refine q14q (cs := #[.int .i64 ((rd_T47 l0_0 x21_1).f0), .int .i64 0, .slice none 0 0, .slice none 0 0, .slice none 0 0]) ?_ 1 _ rfl; (with_reducible repeat (first | refine q8q ?_ _ | refine q9q ?_ | refine q7q ?_ _)); refine q14q (cs := #[.int .i64 0, .int .i64 0, .slice none 0 0, .slice none 0 0, .slice none 0 0]) ?_ 0 _ rfl; (with_reducible repeat (first | refine q8q ?_ _ | refine q9q ?_ | refine q7q ?_ _)); exact BK236.out))⟩; have n3_ : Aq (Below w.heap.size w w21) := ⟨(by rw [hw]; exact (by repeat (with_reducible first | exact HB.out | apply q4q | apply q0q | apply q2q | refine q5q ?_ GE227.out | refine q5q ?_ GE236.out)))⟩; clear hw; clear HO_5; clear BK227; clear BK236; clear HB; have HO_5 := n0_; have BK227 := n1_; have BK236 := n2_; have HB := n3_; clear n0_ n1_ n2_ n3_; have hcz22_0 : w21.cell? ⟨gb236, 0, none⟩ = some (.int .i64 ((rd_T47 l0_0 x21_1).f0)) := (q3q BK236.out 0).trans rfl; have hcz22_1 : w21.cell? ⟨gb236, 1, none⟩ = some (.int .i64 ((rd_T47 l0_0 x21_1).f1)) := (q3q BK236.out 1).trans rfl; have hcz22_2 : w21.cell? ⟨gb236, 2, none⟩ = some (.slice A235_2 ((rd_T47 l0_0 x21_1).f2).length c235_2) := (q3q BK236.out 2).trans rfl; have hcz22_3 : w21.cell? ⟨gb236, 3, none⟩ = some (.slice A235_3 ((rd_T47 l0_0 x21_1).f3).length c235_3) := (q3q BK236.out 3).trans rfl; have hcz22_4 : w21.cell? ⟨gb236, 4, none⟩ = some (.slice A235_4 ((rd_T47 l0_0 x21_1).f4).length c235_4) := (q3q BK236.out 4).trans rfl; have hfz22_0 := q1q BK236.out 0; have hfz22_1 := q1q BK236.out 1; have hfz22_2 := q1q BK236.out 2; have hfz22_3 := q1q BK236.out 3; have hfz22_4 := q1q BK236.out 4; obtain ⟨Ao23, co23, eo23⟩ := Kd.q33q HO_5.out; subst eo23) | ((with_reducible refine q15q (f := 20) rfl ?_); refine q24q (some 27) rfl rfl Try.func20 (by kernel_rfl) rfl #[.slice Ao23 x5_1.length co23, .agg #[.int .i64 ((rd_T47 l0_0 x21_1).f0), .int .i64 ((rd_T47 l0_0 x21_1).f1), .slice A235_2 ((rd_T47 l0_0 x21_1).f2).length c235_2, .slice A235_3 ((rd_T47 l0_0 x21_1).f3).length c235_3, .slice A235_4 ((rd_T47 l0_0 x21_1).f4).length c235_4]] rfl (by (try simp only [List.map_toArray, List.map_cons, List.map_nil]); first | done | rfl) ?_; (with_reducible refine (fQ6.calls k1 (fun k_ => some k_ = (.slice Ao23 x5_1.length co23 : Value).ownBlock) (.slice Ao23 x5_1.length co23) x5_1 ((rd_T47 l0_0 x21_1).f0) ((rd_T47 l0_0 x21_1).f1) _ _ ((rd_T47 l0_0 x21_1).f2) _ _ ((rd_T47 l0_0 x21_1).f3) _ _ ((rd_T47 l0_0 x21_1).f4) t237 w _ ?side1 ?side2 ?side3 ?side4 ?side5 ?side6 ?side7 ?side8 A17.out).mono ?_); (case side1 => repeat (with_reducible first | exact HB.out | apply q4q | apply q0q | apply q2q | refine q5q ?_ GE227.out | refine q5q ?_ GE236.out)); (case side2 => exact Kd.R_tight rfl HO_5.out); (case side3 => exact Kd.C_kept_came k50_heap HR235_2.out (by repeat (with_reducible first | exact HB.out | apply q4q | apply q0q | apply q2q | refine q5q ?_ GE227.out | refine q5q ?_ GE236.out)) (fun k_ hs_ => (fun e_ => Kd.R_base HO_5.out k_ e_.symm) hs_)); (case side4 => exact HC235_2.out); (case side5 => exact Kd.C_kept_came k42_heap HR235_3.out (by repeat (with_reducible first | exact HB.out | apply q4q | apply q0q | apply q2q | refine q5q ?_ GE227.out | refine q5q ?_ GE236.out)) (fun k_ hs_ => (fun e_ => Kd.R_base HO_5.out k_ e_.symm) hs_)); (case side6 => exact HC235_3.out); (case side7 => exact Kd.C_kept_came k52_heap HR235_4.out (by repeat (with_reducible first | exact HB.out | apply q4q | apply q0q | apply q2q | refine q5q ?_ GE227.out | refine q5q ?_ GE236.out)) (fun k_ hs_ => (fun e_ => Kd.R_base HO_5.out k_ e_.symm) hs_)); (case side8 => exact HC235_4.out); rintro e w24 ⟨v238, rfl, ho0, hb, hkp⟩; refine ⟨_, rfl, ?_⟩; have n0_ := Aq.mk (blk_kept BK227.out hkp (fun hs_ => (fun e_ => (Kd.R_ne HO_5.out BK227.out (by decide)) e_) hs_)); have n1_ := Aq.mk (blk_kept BK236.out hkp (fun hs_ => (fun e_ => (Kd.R_ne HO_5.out BK236.out (by decide)) e_) hs_)); have n2_ := Aq.mk (Kd.q30q (ok' := fun k_ => True) ho0 (fun k_ hk_ => trivial)); have n3_ := Aq.mk (hb); clear BK227; clear BK236; clear HB; clear HO_5; have BK227 := n0_; have BK236 := n1_; have HO239 := n2_; have HB := n3_; clear n0_ n1_ n2_ n3_; (try clear hb); (try clear hkp); (try clear ho0)))
   go_roundg k1
   case measure => have := HK1.out; omega
   case rel => exact ⟨(t237), (wrap64 (x21_1 + 1)), (by first | rfl | (simp; done) | (simp [*]; done)), H', ⟨by have := HK1.out; omega⟩, ⟨by (with_reducible repeat (first | apply Kd.R_alloc | apply Kd.R_drewN | apply Kd.q40q)); exact HO239.out⟩, ⟨BK227.out⟩, ⟨by repeat (with_reducible first | exact HB.out | apply q4q | apply q0q | apply q2q | refine q5q ?_ GE227.out | refine q5q ?_ GE236.out)⟩⟩
end Go.Proofs.Ytkkgbbfojmnopaa.G
end
