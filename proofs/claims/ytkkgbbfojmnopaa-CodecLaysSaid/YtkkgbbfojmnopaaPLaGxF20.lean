import Derived.Test.YtkkgbbfojmnopaaPLaGx0
import Derived.Test.YtkkgbbfojmnopaaPLaGxF19
import Derived.Test.YtkkgbbfojmnopaaPLaGxF39
set_option linter.unusedVariables false
set_option linter.unusedSimpArgs false
section
namespace Go.Proofs.Ytkkgbbfojmnopaa.G
open Go.RowKit Go.Proofs.YtkkgbbfojmnopaaW.PrintWords Go.Proofs.YtkkgbbfojmnopaaW.PrintLast Go.Proofs.YtkkgbbfojmnopaaW.PrintMore
attribute [local go_sem] q25q q26q q30q q31q q20q q21q q27q q28q
mutual
def codec_proto.l0 : Nat → List Int → List (S50) → Int → Int → Int → Int → List (S50) → List (S42) → List (S52) → Option (List Int)
 | 0, _, _, _, _, _, _, _, _, _ => none
 | k + 1, x0, x23, x24, x25, x182000, x182001, x182002, x182003, x182004 => if x25 < x24 then (if 0 ≤ x25 then (if x25 < (x23.length : Int) then (if (rd_T50 x23 x25).f0 = true then ((codec_ints.f k x0 (([1, (rd_T50 x23 x25).f1] : List Int))).bind fun t193 => (codec_proto.l0 k t193 x23 x24 (wrap64 (x25 + 1)) x182000 x182001 x182002 x182003 x182004)) else ((codec_ints.f k x0 (([0, (rd_T50 x23 x25).f1] : List Int))).bind fun t199 => (codec_proto.l0 k t199 x23 x24 (wrap64 (x25 + 1)) x182000 x182001 x182002 x182003 x182004))) else (none)) else (none)) else ((codec_ints.f k x0 (([(x182003.length : Int)] : List Int))).bind fun t205 => (codec_proto.l1 k t205 x182003 (x182003.length : Int) 0 x182000 x182001 x182002 x182003 x182004))
def codec_proto.l1 : Nat → List Int → List (S42) → Int → Int → Int → Int → List (S50) → List (S42) → List (S52) → Option (List Int)
 | 0, _, _, _, _, _, _, _, _, _ => none
 | k + 1, x0, x45, x46, x47, x182000, x182001, x182002, x182003, x182004 => if x47 < x46 then (if 0 ≤ x47 then (if x47 < (x45.length : Int) then ((codec_constant.f k x0 ((rd_T42 x45 x47).f0) ((rd_T42 x45 x47).f1) ((rd_T42 x45 x47).f2)).bind fun t210 => (codec_proto.l1 k t210 x45 x46 (wrap64 (x47 + 1)) x182000 x182001 x182002 x182003 x182004)) else (none)) else (none)) else ((codec_ints.f k x0 (([(x182004.length : Int)] : List Int))).bind fun t216 => (codec_proto.l2 k t216 x182004 (x182004.length : Int) 0))
def codec_proto.l2 : Nat → List Int → List (S52) → Int → Int → Option (List Int)
 | 0, _, _, _, _ => none
 | k + 1, x0, x62, x63, x64 => if x64 < x63 then (if 0 ≤ x64 then (if x64 < (x62.length : Int) then ((codec_ints.f k x0 (([(rd_T52 x62 x64).f0, (rd_T52 x62 x64).f1, (rd_T52 x62 x64).f2] : List Int))).bind fun t224 => (codec_proto.l2 k t224 x62 x63 (wrap64 (x64 + 1)))) else (none)) else (none)) else (some x0)
end
def codec_proto.f (k : Nat) (l0 : List Int) (a1_0 : Int) (a1_1 : Int) (l1_2 : List (S50)) (l1_3 : List (S42)) (l1_4 : List (S52)) : Option (List Int) := (codec_ints.f k l0 (([a1_0, a1_1, (l1_2.length : Int)] : List Int))).bind fun t185 => (codec_proto.l0 k t185 l1_2 (l1_2.length : Int) 0 a1_0 a1_1 l1_2 l1_3 l1_4)
set_option maxHeartbeats 8000000 in
set_option maxRecDepth 100000 in
theorem codec_proto.calls (k : Nat) (P0_ : Nat → Prop) (u9000_ : Value) (l0 : List Int) (a1_0 : Int) (a1_1 : Int) (A1_2 : Option Addr) (c1_2 : Nat) (l1_2 : List (S50)) (A1_3 : Option Addr) (c1_3 : Nat) (l1_3 : List (S42)) (A1_4 : Option Addr) (c1_4 : Nat) (l1_4 : List (S52)) (r : List Int) (w0 w : World) (hB : Below w0.heap.size w0 w) (ho0 : Kd.R (Kd.int .u8) 5 w w0.heap.size P0_ u9000_ l0) (hr1_2 : ∀ W_, Kept w W_ (fun k_ => P0_ k_) → Kd.C k50 W_ A1_2 l1_2.length l1_2) (hc1_2 : l1_2.length ≤ c1_2) (hr1_3 : ∀ W_, Kept w W_ (fun k_ => P0_ k_) → Kd.C k42 W_ A1_3 l1_3.length l1_3) (hc1_3 : l1_3.length ≤ c1_3) (hr1_4 : ∀ W_, Kept w W_ (fun k_ => P0_ k_) → Kd.C k52 W_ A1_4 l1_4.length l1_4) (hc1_4 : l1_4.length ≤ c1_4) (h : codec_proto.f k l0 a1_0 a1_1 l1_2 l1_3 l1_4 = some r) :
  Calls Try.prog 20 #[u9000_, .agg #[.int .i64 a1_0, .int .i64 a1_1, .slice A1_2 l1_2.length c1_2, .slice A1_3 l1_3.length c1_3, .slice A1_4 l1_4.length c1_4]] w fun e w' => ∃ v0_ : Value, e = .returned (v0_) ∧ Kd.R (Kd.int .u8) 5 w' w0.heap.size (fun k_ => (P0_ k_ ∨ w.heap.size ≤ k_)) v0_ r ∧ Below w0.heap.size w0 w' ∧ Kept w w' (fun k_ => P0_ k_) := by
 have hu47 := Try.underlying47
 have hu50 := Try.underlying50
 have hu42 := Try.underlying42
 have hu52 := Try.underlying52
 have HO0 := Aq.mk (show Kd.R (Kd.int .u8) 5 w w0.heap.size (fun k_ => (P0_ k_ ∨ w.heap.size ≤ k_)) u9000_ l0 from Kd.q23q ho0 (fun k_ hk => (.inl hk)))
 have HR1_2 := Aq.mk hr1_2
 have HC1_2 := Aq.mk hc1_2
 clear hr1_2 hc1_2
 have HR1_3 := Aq.mk hr1_3
 have HC1_3 := Aq.mk hc1_3
 clear hr1_3 hc1_3
 have HR1_4 := Aq.mk hr1_4
 have HC1_4 := Aq.mk hc1_4
 clear hr1_4 hc1_4
 have HK := Aq.mk (Kept.refl w (fun k_ => P0_ k_))
 have HW0 := Aq.mk hB.size
 have HB := Aq.mk hB
 clear hB
 have H : ((codec_ints.f k l0 (([a1_0, a1_1, (l1_2.length : Int)] : List Int))).bind fun t185 => (codec_proto.l0 k t185 l1_2 (l1_2.length : Int) 0 a1_0 a1_1 l1_2 l1_3 l1_4)) = some r := h
 clear h
 obtain ⟨y182, hy182⟩ : ∃ y_ : List Int, y_ = (([a1_0, a1_1, (l1_2.length : Int)] : List Int)) := ⟨_, rfl⟩
 replace H : ((codec_ints.f k l0 y182).bind fun t185 => (codec_proto.l0 k t185 l1_2 (l1_2.length : Int) 0 a1_0 a1_1 l1_2 l1_3 l1_4)) = some r := by first | (rw [hy182]; with_reducible exact H) | (have H2_ := (Option.bind_some _ _).symm.trans H; rw [hy182]; with_reducible exact H2_) | (have H2_ := (Option.bind_some _ _).symm.trans H; with_reducible exact H2_) | with_reducible exact H | (rw [hy182]; exact H) | exact H
 have Ny182 := Aq.mk hy182
 clear hy182
 replace H := Option.bind_eq_some_iff.mp H
 obtain ⟨t185, A30, H⟩ := H
 replace H : (codec_proto.l0 k t185 l1_2 (l1_2.length : Int) 0 a1_0 a1_1 l1_2 l1_3 l1_4) = some r := H
 have A3 := Aq.mk A30
 clear A30
 have H' := Aq.mk H
 clear H
 go_enter Try.func20, Try.ntmps20
 go_wp2_with (first | ((with_reducible refine q13q (N := 3) rfl ?_); refine q11q ?hg (N := 3) ?hd (cs := #[.int .i64 a1_0, .int .i64 a1_1, .slice A1_2 l1_2.length c1_2, .slice A1_3 l1_3.length c1_3, .slice A1_4 l1_4.length c1_4]) (t := 47) ?hr ?_; (case hd => rfl); (case hg => rfl); (case hr => first | (go_simp; done) | (go_simp; rfl)); intro gb181 hg w4 hbox hb; have n0_ := Aq.mk (Kd.q36q HO0.out hb); have n1_ := Aq.mk (Kept.below (S := (fun k_ => P0_ k_)) (by repeat (first | (with_reducible first | exact HK.out | apply Kept.alloc | apply Kept.drewN | apply Kept.drew) | exact HK.out)) hb); have n2_ := Aq.mk (q10q (by repeat (with_reducible first | exact HB.out | apply q4q | apply q0q | apply q2q)) hb); have n3_ := Aq.mk (hbox); have n4_ := Aq.mk ((by rw [hg]; exact (by first | exact HK.out.1 | exact (show Kept w _ (fun k_ => P0_ k_) from by repeat (first | (with_reducible first | exact HK.out | apply Kept.alloc | apply Kept.drewN | apply Kept.drew) | exact HK.out)).1) : w.heap.size ≤ gb181)); have n5_ := Aq.mk ((by rw [hg]; exact (q8q (by repeat (with_reducible first | exact HB.out | apply q4q | apply q0q | apply q2q))) : w0.heap.size ≤ gb181)); clear HO0; clear HK; clear HB; have HO0 := n0_; have HK := n1_; have HB := n2_; have BK181 := n3_; have GW181 := n4_; have GE181 := n5_; clear n0_ n1_ n2_ n3_ n4_ n5_; clear hb hbox hg; have hcz5_0 : w4.cell? ⟨gb181, 0, none⟩ = some (.int .i64 a1_0) := (q1q BK181.out 0).trans rfl; have hcz5_1 : w4.cell? ⟨gb181, 1, none⟩ = some (.int .i64 a1_1) := (q1q BK181.out 1).trans rfl; have hcz5_2 : w4.cell? ⟨gb181, 2, none⟩ = some (.slice A1_2 l1_2.length c1_2) := (q1q BK181.out 2).trans rfl; have hcz5_3 : w4.cell? ⟨gb181, 3, none⟩ = some (.slice A1_3 l1_3.length c1_3) := (q1q BK181.out 3).trans rfl; have hcz5_4 : w4.cell? ⟨gb181, 4, none⟩ = some (.slice A1_4 l1_4.length c1_4) := (q1q BK181.out 4).trans rfl; have hfz5_0 := q3q BK181.out 0; have hfz5_1 := q3q BK181.out 1; have hfz5_2 := q3q BK181.out 2; have hfz5_3 := q3q BK181.out 3; have hfz5_4 := q3q BK181.out 4) | ((with_reducible refine q13q (N := 20) rfl ?_); refine Kd.R_lit (Kd.int .i64) _ 3 ?hg (N := 20) ?hd (xs := ([a1_0, a1_1, (l1_2.length : Int)] : List Int)) (inner := [.int .i64 a1_0, .int .i64 a1_1, .int .i64 (l1_2.length : Int)]) (ok := fun _ => True) (okp := fun _ => True) ?hr ?hp (fun _ hk => hk) trivial (Below.refl _ _) (Nat.le_refl _) (by simp) ?_; (case hd => rfl); (case hg => rfl); (case hr => first | (go_simp; done) | (go_simp; rfl)); (case hp => exact (Reps.one (show Kd.M (Kd.int .i64) _ _ _ a1_0 [.int .i64 a1_0] from rfl) (Reps.one (show Kd.M (Kd.int .i64) _ _ _ a1_1 [.int .i64 a1_1] from rfl) (Reps.one (show Kd.M (Kd.int .i64) _ _ _ (l1_2.length : Int) [.int .i64 (l1_2.length : Int)] from rfl) (Reps.none _ _))))); intro v183 w6 ho7 hb hg_ hnew_; clear hg_ hnew_; (first | rw [← Ny182.out] at ho7 | (simp only [Int.reduceToNat] at ho7; rw [← Ny182.out] at ho7)); have n0_ := Aq.mk (Kd.q36q HO0.out hb); have n1_ := Aq.mk (Kd.R_lower (Kd.R_newM (M := fun k_ => (P0_ k_ ∨ w.heap.size ≤ k_)) ho7 (by first | exact HK.out.1 | exact (show Kept w _ (fun k_ => P0_ k_) from by repeat (first | (with_reducible first | exact HK.out | apply Kept.alloc | apply Kept.drewN | apply Kept.drew | refine Kept.setCell ?_ (.inr GW181.out) _) | exact HK.out)).1) (fun k_ h_ => .inr h_)) (q8q (by repeat (with_reducible first | exact HB.out | apply q4q | apply q0q | apply q2q | refine q5q ?_ GE181.out)))); have n2_ := Aq.mk (q12q (g := gb181) (o := .cells #[.int .i64 a1_0, .int .i64 a1_1, .slice A1_2 l1_2.length c1_2, .slice A1_3 l1_3.length c1_3, .slice A1_4 l1_4.length c1_4] 47 (0, 0)) BK181.out hb); have n3_ := Aq.mk (Kept.below (S := (fun k_ => P0_ k_)) (by repeat (first | (with_reducible first | exact HK.out | apply Kept.alloc | apply Kept.drewN | apply Kept.drew | refine Kept.setCell ?_ (.inr GW181.out) _) | exact HK.out)) hb); have n4_ := Aq.mk (q10q (by repeat (with_reducible first | exact HB.out | apply q4q | apply q0q | apply q2q | refine q5q ?_ GE181.out)) hb); clear HO0; clear BK181; clear HK; clear HB; have HO0 := n0_; have HO184 := n1_; have BK181 := n2_; have HK := n3_; have HB := n4_; clear n0_ n1_ n2_ n3_ n4_; clear hb ho7; obtain ⟨Ao8, co8, eo8⟩ := Kd.q32q HO0.out; subst eo8; obtain ⟨Ao9, co9, eo9⟩ := Kd.q32q HO184.out; subst eo9) | ((with_reducible refine q17q (f := 19) rfl ?_); refine q29q (some 21) rfl rfl Try.func19 (by kernel_rfl) rfl #[.slice Ao8 l0.length co8, .slice Ao9 y182.length co9] rfl (by (try simp only [List.map_toArray, List.map_cons, List.map_nil]); first | done | rfl) ?_; (with_reducible refine (codec_ints.calls k (fun k_ => some k_ = (.slice Ao8 l0.length co8 : Value).ownBlock) (.slice Ao8 l0.length co8) l0 _ _ y182 t185 w0 _ ?side1 ?side2 ?side3 ?side4 A3.out).mono ?_); (case side1 => repeat (with_reducible first | exact HB.out | apply q4q | apply q0q | apply q2q | refine q5q ?_ GE181.out)); (case side2 => exact Kd.R_tight rfl HO0.out); (case side3 => exact Kd.C_kept_own ((Kd.q33q HO184.out (Kd.q37q HO0.out) (by decide))) (fun k_ hk_ hs_ => (hk_.2) hs_)); (case side4 => exact (Kd.R_reads' HO184.out).2.1); rintro e w10 ⟨v186, rfl, ho0, hb, hkp⟩; refine ⟨_, rfl, ?_⟩; have n0_ := Aq.mk (blk_kept BK181.out hkp (fun hs_ => (fun e_ => (Kd.R_ne HO0.out BK181.out (by decide)) e_) hs_)); have n1_ := Aq.mk (Kd.q23q (ok' := fun k_ => (P0_ k_ ∨ w.heap.size ≤ k_)) (Kd.R_keptB ((Kd.q33q HO184.out (Kd.q37q HO0.out) (by decide))) hkp (fun k_ hk_ hs_ => (hk_.2) hs_)) (fun k_ hk_ => hk_.1.1.1)); have n2_ := Aq.mk (Kd.q23q (ok' := fun k_ => (P0_ k_ ∨ w.heap.size ≤ k_)) ho0 (fun k_ hk_ => Or.elim hk_ (fun hs_ => (HO0.out.1 k_ (hs_).symm)) (fun hn_ => (.inr (Nat.le_trans (by first | exact HK.out.1 | exact (show Kept w _ (fun k_ => P0_ k_) from by repeat (first | (with_reducible first | exact HK.out | apply Kept.alloc | apply Kept.drewN | apply Kept.drew | refine Kept.setCell ?_ (.inr GW181.out) _) | exact HK.out)).1) hn_))))); have n3_ := Aq.mk (Kept.then_ (S := (fun k_ => P0_ k_)) (by repeat (first | (with_reducible first | exact HK.out | apply Kept.alloc | apply Kept.drewN | apply Kept.drew | refine Kept.setCell ?_ (.inr GW181.out) _) | exact HK.out)) hkp (fun k_ hs_ => (fun e_ => (HO0.out.1 k_ e_.symm)) hs_)); have n4_ := Aq.mk (hb); clear BK181; clear HO184; clear HK; clear HB; clear HO0; have BK181 := n0_; have HO184 := n1_; have HO187 := n2_; have HK := n3_; have HB := n4_; clear n0_ n1_ n2_ n3_ n4_; (try clear hb); (try clear hkp); (try clear ho0); have hcz11_0 : w10.cell? ⟨gb181, 0, none⟩ = some (.int .i64 a1_0) := (q1q BK181.out 0).trans rfl; have hcz11_1 : w10.cell? ⟨gb181, 1, none⟩ = some (.int .i64 a1_1) := (q1q BK181.out 1).trans rfl; have hcz11_2 : w10.cell? ⟨gb181, 2, none⟩ = some (.slice A1_2 l1_2.length c1_2) := (q1q BK181.out 2).trans rfl; have hcz11_3 : w10.cell? ⟨gb181, 3, none⟩ = some (.slice A1_3 l1_3.length c1_3) := (q1q BK181.out 3).trans rfl; have hcz11_4 : w10.cell? ⟨gb181, 4, none⟩ = some (.slice A1_4 l1_4.length c1_4) := (q1q BK181.out 4).trans rfl; have hfz11_0 := q3q BK181.out 0; have hfz11_1 := q3q BK181.out 1; have hfz11_2 := q3q BK181.out 2; have hfz11_3 := q3q BK181.out 3; have hfz11_4 := q3q BK181.out 4))
 go_loopg [0, 25] k (fun kq v0 v25 w' => ∃ (x0_1 : List Int) (x25_1 : Int), v25 = .int .i64 x25_1 ∧ Aq (codec_proto.l0 kq x0_1 l1_2 (l1_2.length : Int) x25_1 a1_0 a1_1 l1_2 l1_3 l1_4 = some r) ∧ Aq (kq ≤ k) ∧ Aq (Kd.R (Kd.int .u8) 5 w' w0.heap.size (fun k_ => (P0_ k_ ∨ w.heap.size ≤ k_)) v0 x0_1) ∧ Aq (w'.heap[gb181]? = some (.cells #[.int .i64 a1_0, .int .i64 a1_1, (.slice A1_2 l1_2.length c1_2), (.slice A1_3 l1_3.length c1_3), (.slice A1_4 l1_4.length c1_4)] 47 (0, 0))) ∧ Aq (Kept w w' (fun k_ => P0_ k_)) ∧ Aq (Below w0.heap.size w0 w'))
 case atStart => exact ⟨(t185), (0), (by first | rfl | (simp; done) | (simp [*]; done)), H', ⟨Nat.le_refl _⟩, ⟨by (with_reducible repeat (first | apply Kd.R_alloc | apply Kd.R_drewN | apply Kd.q34q)); exact HO187.out⟩, ⟨BK181.out⟩, ⟨by repeat (first | (with_reducible first | exact HK.out | apply Kept.alloc | apply Kept.drewN | apply Kept.drew | refine Kept.setCell ?_ (.inr GW181.out) _) | exact HK.out)⟩, ⟨by repeat (with_reducible first | exact HB.out | apply q4q | apply q0q | apply q2q | refine q5q ?_ GE181.out)⟩⟩
 case round =>
  clear H'
  try clear c1
  try clear c2
  try clear p2
  try clear hcz11_0
  try clear hcz11_1
  try clear hcz11_2
  try clear hcz11_3
  try clear hcz11_4
  try clear hcz5_0
  try clear hcz5_1
  try clear hcz5_2
  try clear hcz5_3
  try clear hcz5_4
  try clear hfz11_0
  try clear hfz11_1
  try clear hfz11_2
  try clear hfz11_3
  try clear hfz11_4
  try clear hfz5_0
  try clear hfz5_1
  try clear hfz5_2
  try clear hfz5_3
  try clear hfz5_4
  obtain ⟨x0_1, x25_1, rfl, HA, HK1, HO_0, BK181, HK, HB⟩ := hrel
  cases gk with
  | zero => exact absurd HA.out (by simp [codec_proto.l0])
  | succ k1 =>
   have H := HA.out
   clear HA
   simp only [codec_proto.l0] at H
   by_cases c12 : x25_1 < (l1_2.length : Int)
   ·rw [if_pos c12] at H
    have c12b0 : decide (x25_1 < (l1_2.length : Int)) = true := decide_eq_true c12
    clear c12
    by_cases c13 : 0 ≤ x25_1
    case neg =>
     rw [if_neg c13] at H
     exact absurd H (by simp)
    rw [if_pos c13] at H
    have c13b0 : decide (0 ≤ x25_1) = true := decide_eq_true c13
    clear c13
    by_cases c14 : x25_1 < (l1_2.length : Int)
    case neg =>
     rw [if_neg c14] at H
     exact absurd H (by simp)
    rw [if_pos c14] at H
    have c14b0 : decide (x25_1 < (l1_2.length : Int)) = true := decide_eq_true c14
    clear c14
    obtain ⟨bq15, hbq15⟩ : ∃ b_ : Bool, b_ = ((rd_T50 l1_2 x25_1).f0) := ⟨_, rfl⟩
    replace H : (if bq15 = true then ((codec_ints.f k1 x0_1 (([1, (rd_T50 l1_2 x25_1).f1] : List Int))).bind fun t193 => (codec_proto.l0 k1 t193 l1_2 (l1_2.length : Int) (wrap64 (x25_1 + 1)) a1_0 a1_1 l1_2 l1_3 l1_4)) else ((codec_ints.f k1 x0_1 (([0, (rd_T50 l1_2 x25_1).f1] : List Int))).bind fun t199 => (codec_proto.l0 k1 t199 l1_2 (l1_2.length : Int) (wrap64 (x25_1 + 1)) a1_0 a1_1 l1_2 l1_3 l1_4))) = some r := by rw [← hbq15] at H; exact H
    have Nbq15 := Aq.mk hbq15
    clear hbq15
    by_cases c16 : bq15 = true
    ·subst c16
     have H1 : ((codec_ints.f k1 x0_1 (([1, (rd_T50 l1_2 x25_1).f1] : List Int))).bind fun t193 => (codec_proto.l0 k1 t193 l1_2 (l1_2.length : Int) (wrap64 (x25_1 + 1)) a1_0 a1_1 l1_2 l1_3 l1_4)) = some r := by rw [if_pos rfl] at H; exact H
     clear H
     have H := H1
     clear H1
     obtain ⟨y190, hy190⟩ : ∃ y_ : List Int, y_ = (([1, (rd_T50 l1_2 x25_1).f1] : List Int)) := ⟨_, rfl⟩
     replace H : ((codec_ints.f k1 x0_1 y190).bind fun t193 => (codec_proto.l0 k1 t193 l1_2 (l1_2.length : Int) (wrap64 (x25_1 + 1)) a1_0 a1_1 l1_2 l1_3 l1_4)) = some r := by first | (rw [hy190]; with_reducible exact H) | (have H2_ := (Option.bind_some _ _).symm.trans H; rw [hy190]; with_reducible exact H2_) | (have H2_ := (Option.bind_some _ _).symm.trans H; with_reducible exact H2_) | with_reducible exact H | (rw [hy190]; exact H) | exact H
     have Ny190 := Aq.mk hy190
     clear hy190
     replace H := Option.bind_eq_some_iff.mp H
     obtain ⟨t193, A170, H⟩ := H
     replace H : (codec_proto.l0 k1 t193 l1_2 (l1_2.length : Int) (wrap64 (x25_1 + 1)) a1_0 a1_1 l1_2 l1_3 l1_4) = some r := H
     have A17 := Aq.mk A170
     clear A170
     have H' := Aq.mk H
     clear H
     have p188 : 0 ≤ (x25_1 : Int) := of_decide_eq_true (by first | (with_reducible assumption) | assumption)
     have q188 : x25_1 < (l1_2.length : Int) := of_decide_eq_true (by first | (with_reducible assumption) | assumption)
     obtain ⟨ad188, e188, hx188_0, hx188_1⟩ := at_T50 (Kd.C_kept_now HR1_2.out HK.out) x25_1 p188 q188
     (try rw [← Nbq15.out] at hx188_0)
     cases e188
     replace p188 := eq_true p188
     replace q188 := eq_true q188
     go_wp2_with (first | ((with_reducible refine q13q (N := 6) rfl ?_); refine q11q ?hg (N := 6) ?hd (cs := #[.bool false, .int .i64 0]) (t := 50) ?hr ?_; (case hd => rfl); (case hg => rfl); (case hr => first | (go_simp; done) | (go_simp; rfl)); intro gb189 hg w18 hbox hb; have n0_ := Aq.mk (Kd.q36q HO_0.out hb); have n1_ := Aq.mk (q12q (g := gb181) (o := .cells #[.int .i64 a1_0, .int .i64 a1_1, .slice (some ad188) l1_2.length c1_2, .slice A1_3 l1_3.length c1_3, .slice A1_4 l1_4.length c1_4] 47 (0, 0)) BK181.out hb); have n2_ := Aq.mk (Kept.below (S := (fun k_ => P0_ k_)) (by repeat (first | (with_reducible first | exact HK.out | apply Kept.alloc | apply Kept.drewN | apply Kept.drew | refine Kept.setCell ?_ (.inr GW181.out) _) | exact HK.out)) hb); have n3_ := Aq.mk (q10q (by repeat (with_reducible first | exact HB.out | apply q4q | apply q0q | apply q2q | refine q5q ?_ GE181.out)) hb); have n4_ := Aq.mk (hbox); have n5_ := Aq.mk ((by rw [hg]; exact (by first | exact HK.out.1 | exact (show Kept w _ (fun k_ => P0_ k_) from by repeat (first | (with_reducible first | exact HK.out | apply Kept.alloc | apply Kept.drewN | apply Kept.drew | refine Kept.setCell ?_ (.inr GW181.out) _) | exact HK.out)).1) : w.heap.size ≤ gb189)); have n6_ := Aq.mk ((by rw [hg]; exact (q8q (by repeat (with_reducible first | exact HB.out | apply q4q | apply q0q | apply q2q | refine q5q ?_ GE181.out))) : w0.heap.size ≤ gb189)); have n7_ := Aq.mk ((by rw [hg]; exact Nat.ne_of_lt (q16q (g := gb181) (o := .cells #[.int .i64 a1_0, .int .i64 a1_1, .slice (some ad188) l1_2.length c1_2, .slice A1_3 l1_3.length c1_3, .slice A1_4 l1_4.length c1_4] 47 (0, 0)) BK181.out) : gb181 ≠ gb189)); have n8_ := Aq.mk ((by rw [hg]; exact Nat.ne_of_gt (q16q (g := gb181) (o := .cells #[.int .i64 a1_0, .int .i64 a1_1, .slice (some ad188) l1_2.length c1_2, .slice A1_3 l1_3.length c1_3, .slice A1_4 l1_4.length c1_4] 47 (0, 0)) BK181.out) : gb189 ≠ gb181)); clear HO_0; clear BK181; clear HK; clear HB; have HO_0 := n0_; have BK181 := n1_; have HK := n2_; have HB := n3_; have BK189 := n4_; have GW189 := n5_; have GE189 := n6_; have NB181_189 := n7_; have NB189_181 := n8_; clear n0_ n1_ n2_ n3_ n4_ n5_ n6_ n7_ n8_; clear hb hbox hg; have hnb19 := NB189_181.out; have hnc19 := NB181_189.out; have hcz20_0 : w18.cell? ⟨gb189, 0, none⟩ = some (.bool false) := (q1q BK189.out 0).trans rfl; have hcz20_1 : w18.cell? ⟨gb189, 1, none⟩ = some (.int .i64 0) := (q1q BK189.out 1).trans rfl; have hfz20_0 := q3q BK189.out 0; have hfz20_1 := q3q BK189.out 1) | ((with_reducible refine q13q (N := 35) rfl ?_); refine Kd.R_lit (Kd.int .i64) _ 3 ?hg (N := 35) ?hd (xs := ([1, (rd_T50 l1_2 x25_1).f1] : List Int)) (inner := [.int .i64 1, .int .i64 ((rd_T50 l1_2 x25_1).f1)]) (ok := fun _ => True) (okp := fun _ => True) ?hr ?hp (fun _ hk => hk) trivial (Below.refl _ _) (Nat.le_refl _) (by simp) ?_; (case hd => rfl); (case hg => rfl); (case hr => first | (go_simp; done) | (go_simp; rfl)); (case hp => exact (Reps.one (show Kd.M (Kd.int .i64) _ _ _ 1 [.int .i64 1] from rfl) (Reps.one (show Kd.M (Kd.int .i64) _ _ _ ((rd_T50 l1_2 x25_1).f1) [.int .i64 ((rd_T50 l1_2 x25_1).f1)] from rfl) (Reps.none _ _)))); intro v191 w21 ho22 hb hg_ hnew_; clear hg_ hnew_; (first | rw [← Ny190.out] at ho22 | (simp only [Int.reduceToNat] at ho22; rw [← Ny190.out] at ho22)); have n0_ := Aq.mk (Kd.q36q (by (with_reducible repeat (first | apply Kd.R_alloc | apply Kd.R_drewN | apply Kd.q34q)); exact (Kd.q23q (Kd.R_far (p := ⟨gb189, 1, none⟩) (Kd.R_far (p := ⟨gb189, 0, none⟩) (Kd.q38q HO_0.out BK189.out (by decide)) (fun _ hk => hk.2) (.bool true)) (fun _ hk => hk.2) (.int .i64 ((rd_T50 l1_2 x25_1).f1))) (fun _ h_ => h_.1))) hb); have n1_ := Aq.mk (Kd.R_lower (Kd.R_newM (M := fun k_ => (P0_ k_ ∨ w.heap.size ≤ k_)) ho22 (show Kept w _ (fun k_ => P0_ k_) from by repeat (first | (with_reducible first | exact HK.out | apply Kept.alloc | apply Kept.drewN | apply Kept.drew | refine Kept.setCell ?_ (.inr GW181.out) _ | refine Kept.setCell ?_ (.inr GW189.out) _) | exact HK.out)).1 (fun k_ h_ => .inr h_)) (q8q (by repeat (with_reducible first | exact HB.out | apply q4q | apply q0q | apply q2q | refine q5q ?_ GE181.out | refine q5q ?_ GE189.out)))); have n2_ := Aq.mk (q12q (g := gb181) (o := .cells #[.int .i64 a1_0, .int .i64 a1_1, .slice (some ad188) l1_2.length c1_2, .slice A1_3 l1_3.length c1_3, .slice A1_4 l1_4.length c1_4] 47 (0, 0)) (by (with_reducible repeat (first | refine q7q ?_ _ | refine q9q ?_ | refine q6q ?_ _)); refine q14q ?_ NB181_189.out _; (with_reducible repeat (first | refine q7q ?_ _ | refine q9q ?_ | refine q6q ?_ _)); refine q14q ?_ NB181_189.out _; (with_reducible repeat (first | refine q7q ?_ _ | refine q9q ?_ | refine q6q ?_ _)); exact BK181.out) hb); have n3_ := Aq.mk (q12q (g := gb189) (o := .cells #[.bool true, .int .i64 ((rd_T50 l1_2 x25_1).f1)] 50 (0, 0)) (by (with_reducible repeat (first | refine q7q ?_ _ | refine q9q ?_ | refine q6q ?_ _)); refine q15q (cs := #[.bool true, .int .i64 0]) ?_ 1 _ rfl; (with_reducible repeat (first | refine q7q ?_ _ | refine q9q ?_ | refine q6q ?_ _)); refine q15q (cs := #[.bool false, .int .i64 0]) ?_ 0 _ rfl; (with_reducible repeat (first | refine q7q ?_ _ | refine q9q ?_ | refine q6q ?_ _)); exact BK189.out) hb); have n4_ := Aq.mk (Kept.below (S := (fun k_ => P0_ k_)) (by repeat (first | (with_reducible first | exact HK.out | apply Kept.alloc | apply Kept.drewN | apply Kept.drew | refine Kept.setCell ?_ (.inr GW181.out) _ | refine Kept.setCell ?_ (.inr GW189.out) _) | exact HK.out)) hb); have n5_ := Aq.mk (q10q (by repeat (with_reducible first | exact HB.out | apply q4q | apply q0q | apply q2q | refine q5q ?_ GE181.out | refine q5q ?_ GE189.out)) hb); clear HO_0; clear BK181; clear BK189; clear HK; clear HB; have HO_0 := n0_; have HO192 := n1_; have BK181 := n2_; have BK189 := n3_; have HK := n4_; have HB := n5_; clear n0_ n1_ n2_ n3_ n4_ n5_; clear hb ho22; obtain ⟨Ao23, co23, eo23⟩ := Kd.q32q HO_0.out; subst eo23; obtain ⟨Ao24, co24, eo24⟩ := Kd.q32q HO192.out; subst eo24) | ((with_reducible refine q17q (f := 19) rfl ?_); refine q29q (some 36) rfl rfl Try.func19 (by kernel_rfl) rfl #[.slice Ao23 x0_1.length co23, .slice Ao24 y190.length co24] rfl (by (try simp only [List.map_toArray, List.map_cons, List.map_nil]); first | done | rfl) ?_; (with_reducible refine (codec_ints.calls k1 (fun k_ => some k_ = (.slice Ao23 x0_1.length co23 : Value).ownBlock) (.slice Ao23 x0_1.length co23) x0_1 _ _ y190 t193 w0 _ ?side1 ?side2 ?side3 ?side4 A17.out).mono ?_); (case side1 => repeat (with_reducible first | exact HB.out | apply q4q | apply q0q | apply q2q | refine q5q ?_ GE181.out | refine q5q ?_ GE189.out)); (case side2 => exact Kd.R_tight rfl HO_0.out); (case side3 => exact Kd.C_kept_own ((Kd.q33q HO192.out (Kd.q37q HO_0.out) (by decide))) (fun k_ hk_ hs_ => (hk_.2) hs_)); (case side4 => exact (Kd.R_reads' HO192.out).2.1); rintro e w25 ⟨v194, rfl, ho0, hb, hkp⟩; refine ⟨_, rfl, ?_⟩; have n0_ := Aq.mk (blk_kept BK181.out hkp (fun hs_ => (fun e_ => (Kd.R_ne HO_0.out BK181.out (by decide)) e_) hs_)); have n1_ := Aq.mk (blk_kept BK189.out hkp (fun hs_ => (fun e_ => (Kd.R_ne HO_0.out BK189.out (by decide)) e_) hs_)); have n2_ := Aq.mk (Kd.q23q (ok' := fun k_ => (P0_ k_ ∨ w.heap.size ≤ k_)) (Kd.R_keptB ((Kd.q33q HO192.out (Kd.q37q HO_0.out) (by decide))) hkp (fun k_ hk_ hs_ => (hk_.2) hs_)) (fun k_ hk_ => hk_.1.1.1)); have n3_ := Aq.mk (Kd.q23q (ok' := fun k_ => (P0_ k_ ∨ w.heap.size ≤ k_)) ho0 (fun k_ hk_ => Or.elim hk_ (fun hs_ => (HO_0.out.1 k_ (hs_).symm)) (fun hn_ => (.inr (Nat.le_trans (by first | exact HK.out.1 | exact (show Kept w _ (fun k_ => P0_ k_) from by repeat (first | (with_reducible first | exact HK.out | apply Kept.alloc | apply Kept.drewN | apply Kept.drew | refine Kept.setCell ?_ (.inr GW181.out) _ | refine Kept.setCell ?_ (.inr GW189.out) _) | exact HK.out)).1) hn_))))); have n4_ := Aq.mk (Kept.then_ (S := (fun k_ => P0_ k_)) (by repeat (first | (with_reducible first | exact HK.out | apply Kept.alloc | apply Kept.drewN | apply Kept.drew | refine Kept.setCell ?_ (.inr GW181.out) _ | refine Kept.setCell ?_ (.inr GW189.out) _) | exact HK.out)) hkp (fun k_ hs_ => (fun e_ => (HO_0.out.1 k_ e_.symm)) hs_)); have n5_ := Aq.mk (hb); clear BK181; clear BK189; clear HO192; clear HK; clear HB; clear HO_0; have BK181 := n0_; have BK189 := n1_; have HO192 := n2_; have HO195 := n3_; have HK := n4_; have HB := n5_; clear n0_ n1_ n2_ n3_ n4_ n5_; (try clear hb); (try clear hkp); (try clear ho0)))
     go_roundg k1
     case measure => have := HK1.out; omega
     case rel => exact ⟨(t193), (wrap64 (x25_1 + 1)), (by first | rfl | (simp; done) | (simp [*]; done)), H', ⟨by have := HK1.out; omega⟩, ⟨by (with_reducible repeat (first | apply Kd.R_alloc | apply Kd.R_drewN | apply Kd.q34q)); exact HO195.out⟩, ⟨BK181.out⟩, ⟨by repeat (first | (with_reducible first | exact HK.out | apply Kept.alloc | apply Kept.drewN | apply Kept.drew | refine Kept.setCell ?_ (.inr GW181.out) _ | refine Kept.setCell ?_ (.inr GW189.out) _) | exact HK.out)⟩, ⟨by repeat (with_reducible first | exact HB.out | apply q4q | apply q0q | apply q2q | refine q5q ?_ GE181.out | refine q5q ?_ GE189.out)⟩⟩
    replace c16 := Bool.eq_false_iff.mpr c16
    subst c16
    have H1 : ((codec_ints.f k1 x0_1 (([0, (rd_T50 l1_2 x25_1).f1] : List Int))).bind fun t199 => (codec_proto.l0 k1 t199 l1_2 (l1_2.length : Int) (wrap64 (x25_1 + 1)) a1_0 a1_1 l1_2 l1_3 l1_4)) = some r := by rw [if_neg (show ¬ (false = true) by decide)] at H; exact H
    clear H
    have H := H1
    clear H1
    obtain ⟨y196, hy196⟩ : ∃ y_ : List Int, y_ = (([0, (rd_T50 l1_2 x25_1).f1] : List Int)) := ⟨_, rfl⟩
    replace H : ((codec_ints.f k1 x0_1 y196).bind fun t199 => (codec_proto.l0 k1 t199 l1_2 (l1_2.length : Int) (wrap64 (x25_1 + 1)) a1_0 a1_1 l1_2 l1_3 l1_4)) = some r := by first | (rw [hy196]; with_reducible exact H) | (have H2_ := (Option.bind_some _ _).symm.trans H; rw [hy196]; with_reducible exact H2_) | (have H2_ := (Option.bind_some _ _).symm.trans H; with_reducible exact H2_) | with_reducible exact H | (rw [hy196]; exact H) | exact H
    have Ny196 := Aq.mk hy196
    clear hy196
    replace H := Option.bind_eq_some_iff.mp H
    obtain ⟨t199, A260, H⟩ := H
    replace H : (codec_proto.l0 k1 t199 l1_2 (l1_2.length : Int) (wrap64 (x25_1 + 1)) a1_0 a1_1 l1_2 l1_3 l1_4) = some r := H
    have A26 := Aq.mk A260
    clear A260
    have H' := Aq.mk H
    clear H
    have p188 : 0 ≤ (x25_1 : Int) := of_decide_eq_true (by first | (with_reducible assumption) | assumption)
    have q188 : x25_1 < (l1_2.length : Int) := of_decide_eq_true (by first | (with_reducible assumption) | assumption)
    obtain ⟨ad188, e188, hx188_0, hx188_1⟩ := at_T50 (Kd.C_kept_now HR1_2.out HK.out) x25_1 p188 q188
    (try rw [← Nbq15.out] at hx188_0)
    cases e188
    replace p188 := eq_true p188
    replace q188 := eq_true q188
    go_wp2_with (first | ((with_reducible refine q13q (N := 6) rfl ?_); refine q11q ?hg (N := 6) ?hd (cs := #[.bool false, .int .i64 0]) (t := 50) ?hr ?_; (case hd => rfl); (case hg => rfl); (case hr => first | (go_simp; done) | (go_simp; rfl)); intro gb189 hg w27 hbox hb; have n0_ := Aq.mk (Kd.q36q HO_0.out hb); have n1_ := Aq.mk (q12q (g := gb181) (o := .cells #[.int .i64 a1_0, .int .i64 a1_1, .slice (some ad188) l1_2.length c1_2, .slice A1_3 l1_3.length c1_3, .slice A1_4 l1_4.length c1_4] 47 (0, 0)) BK181.out hb); have n2_ := Aq.mk (Kept.below (S := (fun k_ => P0_ k_)) (by repeat (first | (with_reducible first | exact HK.out | apply Kept.alloc | apply Kept.drewN | apply Kept.drew | refine Kept.setCell ?_ (.inr GW181.out) _) | exact HK.out)) hb); have n3_ := Aq.mk (q10q (by repeat (with_reducible first | exact HB.out | apply q4q | apply q0q | apply q2q | refine q5q ?_ GE181.out)) hb); have n4_ := Aq.mk (hbox); have n5_ := Aq.mk ((by rw [hg]; exact (by first | exact HK.out.1 | exact (show Kept w _ (fun k_ => P0_ k_) from by repeat (first | (with_reducible first | exact HK.out | apply Kept.alloc | apply Kept.drewN | apply Kept.drew | refine Kept.setCell ?_ (.inr GW181.out) _) | exact HK.out)).1) : w.heap.size ≤ gb189)); have n6_ := Aq.mk ((by rw [hg]; exact (q8q (by repeat (with_reducible first | exact HB.out | apply q4q | apply q0q | apply q2q | refine q5q ?_ GE181.out))) : w0.heap.size ≤ gb189)); have n7_ := Aq.mk ((by rw [hg]; exact Nat.ne_of_lt (q16q (g := gb181) (o := .cells #[.int .i64 a1_0, .int .i64 a1_1, .slice (some ad188) l1_2.length c1_2, .slice A1_3 l1_3.length c1_3, .slice A1_4 l1_4.length c1_4] 47 (0, 0)) BK181.out) : gb181 ≠ gb189)); have n8_ := Aq.mk ((by rw [hg]; exact Nat.ne_of_gt (q16q (g := gb181) (o := .cells #[.int .i64 a1_0, .int .i64 a1_1, .slice (some ad188) l1_2.length c1_2, .slice A1_3 l1_3.length c1_3, .slice A1_4 l1_4.length c1_4] 47 (0, 0)) BK181.out) : gb189 ≠ gb181)); clear HO_0; clear BK181; clear HK; clear HB; have HO_0 := n0_; have BK181 := n1_; have HK := n2_; have HB := n3_; have BK189 := n4_; have GW189 := n5_; have GE189 := n6_; have NB181_189 := n7_; have NB189_181 := n8_; clear n0_ n1_ n2_ n3_ n4_ n5_ n6_ n7_ n8_; clear hb hbox hg; have hnb28 := NB189_181.out; have hnc28 := NB181_189.out; have hcz29_0 : w27.cell? ⟨gb189, 0, none⟩ = some (.bool false) := (q1q BK189.out 0).trans rfl; have hcz29_1 : w27.cell? ⟨gb189, 1, none⟩ = some (.int .i64 0) := (q1q BK189.out 1).trans rfl; have hfz29_0 := q3q BK189.out 0; have hfz29_1 := q3q BK189.out 1) | ((with_reducible refine q13q (N := 35) rfl ?_); refine Kd.R_lit (Kd.int .i64) _ 3 ?hg (N := 35) ?hd (xs := ([0, (rd_T50 l1_2 x25_1).f1] : List Int)) (inner := [.int .i64 0, .int .i64 ((rd_T50 l1_2 x25_1).f1)]) (ok := fun _ => True) (okp := fun _ => True) ?hr ?hp (fun _ hk => hk) trivial (Below.refl _ _) (Nat.le_refl _) (by simp) ?_; (case hd => rfl); (case hg => rfl); (case hr => first | (go_simp; done) | (go_simp; rfl)); (case hp => exact (Reps.one (show Kd.M (Kd.int .i64) _ _ _ 0 [.int .i64 0] from rfl) (Reps.one (show Kd.M (Kd.int .i64) _ _ _ ((rd_T50 l1_2 x25_1).f1) [.int .i64 ((rd_T50 l1_2 x25_1).f1)] from rfl) (Reps.none _ _)))); intro v197 w30 ho31 hb hg_ hnew_; clear hg_ hnew_; (first | rw [← Ny196.out] at ho31 | (simp only [Int.reduceToNat] at ho31; rw [← Ny196.out] at ho31)); have n0_ := Aq.mk (Kd.q36q (by (with_reducible repeat (first | apply Kd.R_alloc | apply Kd.R_drewN | apply Kd.q34q)); exact (Kd.q23q (Kd.R_far (p := ⟨gb189, 1, none⟩) (Kd.R_far (p := ⟨gb189, 0, none⟩) (Kd.q38q HO_0.out BK189.out (by decide)) (fun _ hk => hk.2) (.bool false)) (fun _ hk => hk.2) (.int .i64 ((rd_T50 l1_2 x25_1).f1))) (fun _ h_ => h_.1))) hb); have n1_ := Aq.mk (Kd.R_lower (Kd.R_newM (M := fun k_ => (P0_ k_ ∨ w.heap.size ≤ k_)) ho31 (show Kept w _ (fun k_ => P0_ k_) from by repeat (first | (with_reducible first | exact HK.out | apply Kept.alloc | apply Kept.drewN | apply Kept.drew | refine Kept.setCell ?_ (.inr GW181.out) _ | refine Kept.setCell ?_ (.inr GW189.out) _) | exact HK.out)).1 (fun k_ h_ => .inr h_)) (q8q (by repeat (with_reducible first | exact HB.out | apply q4q | apply q0q | apply q2q | refine q5q ?_ GE181.out | refine q5q ?_ GE189.out)))); have n2_ := Aq.mk (q12q (g := gb181) (o := .cells #[.int .i64 a1_0, .int .i64 a1_1, .slice (some ad188) l1_2.length c1_2, .slice A1_3 l1_3.length c1_3, .slice A1_4 l1_4.length c1_4] 47 (0, 0)) (by (with_reducible repeat (first | refine q7q ?_ _ | refine q9q ?_ | refine q6q ?_ _)); refine q14q ?_ NB181_189.out _; (with_reducible repeat (first | refine q7q ?_ _ | refine q9q ?_ | refine q6q ?_ _)); refine q14q ?_ NB181_189.out _; (with_reducible repeat (first | refine q7q ?_ _ | refine q9q ?_ | refine q6q ?_ _)); exact BK181.out) hb); have n3_ := Aq.mk (q12q (g := gb189) (o := .cells #[.bool false, .int .i64 ((rd_T50 l1_2 x25_1).f1)] 50 (0, 0)) (by (with_reducible repeat (first | refine q7q ?_ _ | refine q9q ?_ | refine q6q ?_ _)); refine q15q (cs := #[.bool false, .int .i64 0]) ?_ 1 _ rfl; (with_reducible repeat (first | refine q7q ?_ _ | refine q9q ?_ | refine q6q ?_ _)); refine q15q (cs := #[.bool false, .int .i64 0]) ?_ 0 _ rfl; (with_reducible repeat (first | refine q7q ?_ _ | refine q9q ?_ | refine q6q ?_ _)); exact BK189.out) hb); have n4_ := Aq.mk (Kept.below (S := (fun k_ => P0_ k_)) (by repeat (first | (with_reducible first | exact HK.out | apply Kept.alloc | apply Kept.drewN | apply Kept.drew | refine Kept.setCell ?_ (.inr GW181.out) _ | refine Kept.setCell ?_ (.inr GW189.out) _) | exact HK.out)) hb); have n5_ := Aq.mk (q10q (by repeat (with_reducible first | exact HB.out | apply q4q | apply q0q | apply q2q | refine q5q ?_ GE181.out | refine q5q ?_ GE189.out)) hb); clear HO_0; clear BK181; clear BK189; clear HK; clear HB; have HO_0 := n0_; have HO198 := n1_; have BK181 := n2_; have BK189 := n3_; have HK := n4_; have HB := n5_; clear n0_ n1_ n2_ n3_ n4_ n5_; clear hb ho31; obtain ⟨Ao32, co32, eo32⟩ := Kd.q32q HO_0.out; subst eo32; obtain ⟨Ao33, co33, eo33⟩ := Kd.q32q HO198.out; subst eo33) | ((with_reducible refine q17q (f := 19) rfl ?_); refine q29q (some 36) rfl rfl Try.func19 (by kernel_rfl) rfl #[.slice Ao32 x0_1.length co32, .slice Ao33 y196.length co33] rfl (by (try simp only [List.map_toArray, List.map_cons, List.map_nil]); first | done | rfl) ?_; (with_reducible refine (codec_ints.calls k1 (fun k_ => some k_ = (.slice Ao32 x0_1.length co32 : Value).ownBlock) (.slice Ao32 x0_1.length co32) x0_1 _ _ y196 t199 w0 _ ?side1 ?side2 ?side3 ?side4 A26.out).mono ?_); (case side1 => repeat (with_reducible first | exact HB.out | apply q4q | apply q0q | apply q2q | refine q5q ?_ GE181.out | refine q5q ?_ GE189.out)); (case side2 => exact Kd.R_tight rfl HO_0.out); (case side3 => exact Kd.C_kept_own ((Kd.q33q HO198.out (Kd.q37q HO_0.out) (by decide))) (fun k_ hk_ hs_ => (hk_.2) hs_)); (case side4 => exact (Kd.R_reads' HO198.out).2.1); rintro e w34 ⟨v200, rfl, ho0, hb, hkp⟩; refine ⟨_, rfl, ?_⟩; have n0_ := Aq.mk (blk_kept BK181.out hkp (fun hs_ => (fun e_ => (Kd.R_ne HO_0.out BK181.out (by decide)) e_) hs_)); have n1_ := Aq.mk (blk_kept BK189.out hkp (fun hs_ => (fun e_ => (Kd.R_ne HO_0.out BK189.out (by decide)) e_) hs_)); have n2_ := Aq.mk (Kd.q23q (ok' := fun k_ => (P0_ k_ ∨ w.heap.size ≤ k_)) (Kd.R_keptB ((Kd.q33q HO198.out (Kd.q37q HO_0.out) (by decide))) hkp (fun k_ hk_ hs_ => (hk_.2) hs_)) (fun k_ hk_ => hk_.1.1.1)); have n3_ := Aq.mk (Kd.q23q (ok' := fun k_ => (P0_ k_ ∨ w.heap.size ≤ k_)) ho0 (fun k_ hk_ => Or.elim hk_ (fun hs_ => (HO_0.out.1 k_ (hs_).symm)) (fun hn_ => (.inr (Nat.le_trans (by first | exact HK.out.1 | exact (show Kept w _ (fun k_ => P0_ k_) from by repeat (first | (with_reducible first | exact HK.out | apply Kept.alloc | apply Kept.drewN | apply Kept.drew | refine Kept.setCell ?_ (.inr GW181.out) _ | refine Kept.setCell ?_ (.inr GW189.out) _) | exact HK.out)).1) hn_))))); have n4_ := Aq.mk (Kept.then_ (S := (fun k_ => P0_ k_)) (by repeat (first | (with_reducible first | exact HK.out | apply Kept.alloc | apply Kept.drewN | apply Kept.drew | refine Kept.setCell ?_ (.inr GW181.out) _ | refine Kept.setCell ?_ (.inr GW189.out) _) | exact HK.out)) hkp (fun k_ hs_ => (fun e_ => (HO_0.out.1 k_ e_.symm)) hs_)); have n5_ := Aq.mk (hb); clear BK181; clear BK189; clear HO198; clear HK; clear HB; clear HO_0; have BK181 := n0_; have BK189 := n1_; have HO198 := n2_; have HO201 := n3_; have HK := n4_; have HB := n5_; clear n0_ n1_ n2_ n3_ n4_ n5_; (try clear hb); (try clear hkp); (try clear ho0)))
    go_roundg k1
    case measure => have := HK1.out; omega
    case rel => exact ⟨(t199), (wrap64 (x25_1 + 1)), (by first | rfl | (simp; done) | (simp [*]; done)), H', ⟨by have := HK1.out; omega⟩, ⟨by (with_reducible repeat (first | apply Kd.R_alloc | apply Kd.R_drewN | apply Kd.q34q)); exact HO201.out⟩, ⟨BK181.out⟩, ⟨by repeat (first | (with_reducible first | exact HK.out | apply Kept.alloc | apply Kept.drewN | apply Kept.drew | refine Kept.setCell ?_ (.inr GW181.out) _ | refine Kept.setCell ?_ (.inr GW189.out) _) | exact HK.out)⟩, ⟨by repeat (with_reducible first | exact HB.out | apply q4q | apply q0q | apply q2q | refine q5q ?_ GE181.out | refine q5q ?_ GE189.out)⟩⟩
   rw [if_neg c12] at H
   have c12b0 : decide (x25_1 < (l1_2.length : Int)) = false := decide_eq_false c12
   clear c12
   obtain ⟨y202, hy202⟩ : ∃ y_ : List Int, y_ = (([(l1_3.length : Int)] : List Int)) := ⟨_, rfl⟩
   replace H : ((codec_ints.f k1 x0_1 y202).bind fun t205 => (codec_proto.l1 k1 t205 l1_3 (l1_3.length : Int) 0 a1_0 a1_1 l1_2 l1_3 l1_4)) = some r := by first | (rw [hy202]; with_reducible exact H) | (have H2_ := (Option.bind_some _ _).symm.trans H; rw [hy202]; with_reducible exact H2_) | (have H2_ := (Option.bind_some _ _).symm.trans H; with_reducible exact H2_) | with_reducible exact H | (rw [hy202]; exact H) | exact H
   have Ny202 := Aq.mk hy202
   clear hy202
   replace H := Option.bind_eq_some_iff.mp H
   obtain ⟨t205, A350, H⟩ := H
   replace H : (codec_proto.l1 k1 t205 l1_3 (l1_3.length : Int) 0 a1_0 a1_1 l1_2 l1_3 l1_4) = some r := H
   have A35 := Aq.mk A350
   clear A350
   have H' := Aq.mk H
   clear H
   have hcz36_0 : wr.cell? ⟨gb181, 0, none⟩ = some (.int .i64 a1_0) := (q1q BK181.out 0).trans rfl
   have hcz36_1 : wr.cell? ⟨gb181, 1, none⟩ = some (.int .i64 a1_1) := (q1q BK181.out 1).trans rfl
   have hcz36_2 : wr.cell? ⟨gb181, 2, none⟩ = some (.slice A1_2 l1_2.length c1_2) := (q1q BK181.out 2).trans rfl
   have hcz36_3 : wr.cell? ⟨gb181, 3, none⟩ = some (.slice A1_3 l1_3.length c1_3) := (q1q BK181.out 3).trans rfl
   have hcz36_4 : wr.cell? ⟨gb181, 4, none⟩ = some (.slice A1_4 l1_4.length c1_4) := (q1q BK181.out 4).trans rfl
   have hfz36_0 := q3q BK181.out 0
   have hfz36_1 := q3q BK181.out 1
   have hfz36_2 := q3q BK181.out 2
   have hfz36_3 := q3q BK181.out 3
   have hfz36_4 := q3q BK181.out 4
   go_wp2_with (first | ((with_reducible refine q13q (N := 42) rfl ?_); refine Kd.R_lit (Kd.int .i64) _ 3 ?hg (N := 42) ?hd (xs := ([(l1_3.length : Int)] : List Int)) (inner := [.int .i64 (l1_3.length : Int)]) (ok := fun _ => True) (okp := fun _ => True) ?hr ?hp (fun _ hk => hk) trivial (Below.refl _ _) (Nat.le_refl _) (by simp) ?_; (case hd => rfl); (case hg => rfl); (case hr => first | (go_simp; done) | (go_simp; rfl)); (case hp => exact (Reps.one (show Kd.M (Kd.int .i64) _ _ _ (l1_3.length : Int) [.int .i64 (l1_3.length : Int)] from rfl) (Reps.none _ _))); intro v203 w37 ho38 hb hg_ hnew_; clear hg_ hnew_; (first | rw [← Ny202.out] at ho38 | (simp only [Int.reduceToNat] at ho38; rw [← Ny202.out] at ho38)); have n0_ := Aq.mk (Kd.q36q HO_0.out hb); have n1_ := Aq.mk (Kd.R_lower (Kd.R_newM (M := fun k_ => (P0_ k_ ∨ w.heap.size ≤ k_)) ho38 (by first | exact HK.out.1 | exact (show Kept w _ (fun k_ => P0_ k_) from by repeat (first | (with_reducible first | exact HK.out | apply Kept.alloc | apply Kept.drewN | apply Kept.drew | refine Kept.setCell ?_ (.inr GW181.out) _) | exact HK.out)).1) (fun k_ h_ => .inr h_)) (q8q (by repeat (with_reducible first | exact HB.out | apply q4q | apply q0q | apply q2q | refine q5q ?_ GE181.out)))); have n2_ := Aq.mk (q12q (g := gb181) (o := .cells #[.int .i64 a1_0, .int .i64 a1_1, .slice A1_2 l1_2.length c1_2, .slice A1_3 l1_3.length c1_3, .slice A1_4 l1_4.length c1_4] 47 (0, 0)) BK181.out hb); have n3_ := Aq.mk (Kept.below (S := (fun k_ => P0_ k_)) (by repeat (first | (with_reducible first | exact HK.out | apply Kept.alloc | apply Kept.drewN | apply Kept.drew | refine Kept.setCell ?_ (.inr GW181.out) _) | exact HK.out)) hb); have n4_ := Aq.mk (q10q (by repeat (with_reducible first | exact HB.out | apply q4q | apply q0q | apply q2q | refine q5q ?_ GE181.out)) hb); clear HO_0; clear BK181; clear HK; clear HB; have HO_0 := n0_; have HO204 := n1_; have BK181 := n2_; have HK := n3_; have HB := n4_; clear n0_ n1_ n2_ n3_ n4_; clear hb ho38; obtain ⟨Ao39, co39, eo39⟩ := Kd.q32q HO_0.out; subst eo39; obtain ⟨Ao40, co40, eo40⟩ := Kd.q32q HO204.out; subst eo40) | ((with_reducible refine q17q (f := 19) rfl ?_); refine q29q (some 43) rfl rfl Try.func19 (by kernel_rfl) rfl #[.slice Ao39 x0_1.length co39, .slice Ao40 y202.length co40] rfl (by (try simp only [List.map_toArray, List.map_cons, List.map_nil]); first | done | rfl) ?_; (with_reducible refine (codec_ints.calls k1 (fun k_ => some k_ = (.slice Ao39 x0_1.length co39 : Value).ownBlock) (.slice Ao39 x0_1.length co39) x0_1 _ _ y202 t205 w0 _ ?side1 ?side2 ?side3 ?side4 A35.out).mono ?_); (case side1 => repeat (with_reducible first | exact HB.out | apply q4q | apply q0q | apply q2q | refine q5q ?_ GE181.out)); (case side2 => exact Kd.R_tight rfl HO_0.out); (case side3 => exact Kd.C_kept_own ((Kd.q33q HO204.out (Kd.q37q HO_0.out) (by decide))) (fun k_ hk_ hs_ => (hk_.2) hs_)); (case side4 => exact (Kd.R_reads' HO204.out).2.1); rintro e w41 ⟨v206, rfl, ho0, hb, hkp⟩; refine ⟨_, rfl, ?_⟩; have n0_ := Aq.mk (blk_kept BK181.out hkp (fun hs_ => (fun e_ => (Kd.R_ne HO_0.out BK181.out (by decide)) e_) hs_)); have n1_ := Aq.mk (Kd.q23q (ok' := fun k_ => (P0_ k_ ∨ w.heap.size ≤ k_)) (Kd.R_keptB ((Kd.q33q HO204.out (Kd.q37q HO_0.out) (by decide))) hkp (fun k_ hk_ hs_ => (hk_.2) hs_)) (fun k_ hk_ => hk_.1.1.1)); have n2_ := Aq.mk (Kd.q23q (ok' := fun k_ => (P0_ k_ ∨ w.heap.size ≤ k_)) ho0 (fun k_ hk_ => Or.elim hk_ (fun hs_ => (HO_0.out.1 k_ (hs_).symm)) (fun hn_ => (.inr (Nat.le_trans (by first | exact HK.out.1 | exact (show Kept w _ (fun k_ => P0_ k_) from by repeat (first | (with_reducible first | exact HK.out | apply Kept.alloc | apply Kept.drewN | apply Kept.drew | refine Kept.setCell ?_ (.inr GW181.out) _) | exact HK.out)).1) hn_))))); have n3_ := Aq.mk (Kept.then_ (S := (fun k_ => P0_ k_)) (by repeat (first | (with_reducible first | exact HK.out | apply Kept.alloc | apply Kept.drewN | apply Kept.drew | refine Kept.setCell ?_ (.inr GW181.out) _) | exact HK.out)) hkp (fun k_ hs_ => (fun e_ => (HO_0.out.1 k_ e_.symm)) hs_)); have n4_ := Aq.mk (hb); clear BK181; clear HO204; clear HK; clear HB; clear HO_0; have BK181 := n0_; have HO204 := n1_; have HO207 := n2_; have HK := n3_; have HB := n4_; clear n0_ n1_ n2_ n3_ n4_; (try clear hb); (try clear hkp); (try clear ho0); have hcz42_0 : w41.cell? ⟨gb181, 0, none⟩ = some (.int .i64 a1_0) := (q1q BK181.out 0).trans rfl; have hcz42_1 : w41.cell? ⟨gb181, 1, none⟩ = some (.int .i64 a1_1) := (q1q BK181.out 1).trans rfl; have hcz42_2 : w41.cell? ⟨gb181, 2, none⟩ = some (.slice A1_2 l1_2.length c1_2) := (q1q BK181.out 2).trans rfl; have hcz42_3 : w41.cell? ⟨gb181, 3, none⟩ = some (.slice A1_3 l1_3.length c1_3) := (q1q BK181.out 3).trans rfl; have hcz42_4 : w41.cell? ⟨gb181, 4, none⟩ = some (.slice A1_4 l1_4.length c1_4) := (q1q BK181.out 4).trans rfl; have hfz42_0 := q3q BK181.out 0; have hfz42_1 := q3q BK181.out 1; have hfz42_2 := q3q BK181.out 2; have hfz42_3 := q3q BK181.out 3; have hfz42_4 := q3q BK181.out 4))
   go_loopg [0, 47] k1 (fun kq v0 v47 w' => ∃ (x0_2 : List Int) (x47_2 : Int), v47 = .int .i64 x47_2 ∧ Aq (codec_proto.l1 kq x0_2 l1_3 (l1_3.length : Int) x47_2 a1_0 a1_1 l1_2 l1_3 l1_4 = some r) ∧ Aq (kq ≤ k1) ∧ Aq (Kd.R (Kd.int .u8) 5 w' w0.heap.size (fun k_ => (P0_ k_ ∨ w.heap.size ≤ k_)) v0 x0_2) ∧ Aq (w'.heap[gb181]? = some (.cells #[.int .i64 a1_0, .int .i64 a1_1, (.slice A1_2 l1_2.length c1_2), (.slice A1_3 l1_3.length c1_3), (.slice A1_4 l1_4.length c1_4)] 47 (0, 0))) ∧ Aq (Kept w w' (fun k_ => P0_ k_)) ∧ Aq (Below w0.heap.size w0 w'))
   case atStart => exact ⟨(t205), (0), (by first | rfl | (simp; done) | (simp [*]; done)), H', ⟨Nat.le_refl _⟩, ⟨by (with_reducible repeat (first | apply Kd.R_alloc | apply Kd.R_drewN | apply Kd.q34q)); exact HO207.out⟩, ⟨BK181.out⟩, ⟨by repeat (first | (with_reducible first | exact HK.out | apply Kept.alloc | apply Kept.drewN | apply Kept.drew | refine Kept.setCell ?_ (.inr GW181.out) _) | exact HK.out)⟩, ⟨by repeat (with_reducible first | exact HB.out | apply q4q | apply q0q | apply q2q | refine q5q ?_ GE181.out)⟩⟩
   case round =>
    clear H'
    try clear c1
    try clear p1
    try clear q1
    try clear hx1
    try clear c2
    try clear p2
    try clear p6
    try clear c12
    try clear c12b0
    try clear c13
    try clear c13b0
    try clear c14
    try clear c14b0
    try clear q15
    try clear c16
    try clear p18
    try clear q18
    try clear hx18
    try clear c19
    try clear c20
    try clear c28
    try clear hcz11_0
    try clear hcz11_1
    try clear hcz11_2
    try clear hcz11_3
    try clear hcz11_4
    try clear hcz20_0
    try clear hcz20_1
    try clear hcz29_0
    try clear hcz29_1
    try clear hcz36_0
    try clear hcz36_1
    try clear hcz36_2
    try clear hcz36_3
    try clear hcz36_4
    try clear hcz42_0
    try clear hcz42_1
    try clear hcz42_2
    try clear hcz42_3
    try clear hcz42_4
    try clear hcz5_0
    try clear hcz5_1
    try clear hcz5_2
    try clear hcz5_3
    try clear hcz5_4
    try clear hfz11_0
    try clear hfz11_1
    try clear hfz11_2
    try clear hfz11_3
    try clear hfz11_4
    try clear hfz20_0
    try clear hfz20_1
    try clear hfz29_0
    try clear hfz29_1
    try clear hfz36_0
    try clear hfz36_1
    try clear hfz36_2
    try clear hfz36_3
    try clear hfz36_4
    try clear hfz42_0
    try clear hfz42_1
    try clear hfz42_2
    try clear hfz42_3
    try clear hfz42_4
    try clear hfz5_0
    try clear hfz5_1
    try clear hfz5_2
    try clear hfz5_3
    try clear hfz5_4
    try clear hx188_0
    try clear hx188_1
    try clear p188
    try clear p2
    try clear q188
    obtain ⟨x0_2, x47_2, rfl, HA, HK2, HO_0, BK181, HK, HB⟩ := hrel
    cases gk with
    | zero => exact absurd HA.out (by simp [codec_proto.l1])
    | succ k2 =>
     have H := HA.out
     clear HA
     simp only [codec_proto.l1] at H
     by_cases c43 : x47_2 < (l1_3.length : Int)
     ·rw [if_pos c43] at H
      have c43b0 : decide (x47_2 < (l1_3.length : Int)) = true := decide_eq_true c43
      clear c43
      by_cases c44 : 0 ≤ x47_2
      case neg =>
       rw [if_neg c44] at H
       exact absurd H (by simp)
      rw [if_pos c44] at H
      have c44b0 : decide (0 ≤ x47_2) = true := decide_eq_true c44
      clear c44
      by_cases c45 : x47_2 < (l1_3.length : Int)
      case neg =>
       rw [if_neg c45] at H
       exact absurd H (by simp)
      rw [if_pos c45] at H
      have c45b0 : decide (x47_2 < (l1_3.length : Int)) = true := decide_eq_true c45
      clear c45
      replace H := Option.bind_eq_some_iff.mp H
      obtain ⟨t210, A460, H⟩ := H
      replace H : (codec_proto.l1 k2 t210 l1_3 (l1_3.length : Int) (wrap64 (x47_2 + 1)) a1_0 a1_1 l1_2 l1_3 l1_4) = some r := H
      have A46 := Aq.mk A460
      clear A460
      have H' := Aq.mk H
      clear H
      have p208 : 0 ≤ (x47_2 : Int) := of_decide_eq_true (by first | (with_reducible assumption) | assumption)
      have q208 : x47_2 < (l1_3.length : Int) := of_decide_eq_true (by first | (with_reducible assumption) | assumption)
      obtain ⟨ad208, e208, hx208_0, hx208_1, hx208_2⟩ := at_T42 (Kd.C_kept_now HR1_3.out HK.out) x47_2 p208 q208
      cases e208
      replace p208 := eq_true p208
      replace q208 := eq_true q208
      go_wp2_with (first | ((with_reducible refine q13q (N := 9) rfl ?_); refine q11q ?hg (N := 9) ?hd (cs := #[.int .i64 0, .int .i64 0, .string (⟨#[]⟩ : ByteArray)]) (t := 42) ?hr ?_; (case hd => rfl); (case hg => rfl); (case hr => first | (go_simp; done) | (go_simp; rfl)); intro gb209 hg w47 hbox hb; have n0_ := Aq.mk (Kd.q36q HO_0.out hb); have n1_ := Aq.mk (q12q (g := gb181) (o := .cells #[.int .i64 a1_0, .int .i64 a1_1, .slice A1_2 l1_2.length c1_2, .slice (some ad208) l1_3.length c1_3, .slice A1_4 l1_4.length c1_4] 47 (0, 0)) BK181.out hb); have n2_ := Aq.mk (Kept.below (S := (fun k_ => P0_ k_)) (by repeat (first | (with_reducible first | exact HK.out | apply Kept.alloc | apply Kept.drewN | apply Kept.drew | refine Kept.setCell ?_ (.inr GW181.out) _) | exact HK.out)) hb); have n3_ := Aq.mk (q10q (by repeat (with_reducible first | exact HB.out | apply q4q | apply q0q | apply q2q | refine q5q ?_ GE181.out)) hb); have n4_ := Aq.mk (hbox); have n5_ := Aq.mk ((by rw [hg]; exact (by first | exact HK.out.1 | exact (show Kept w _ (fun k_ => P0_ k_) from by repeat (first | (with_reducible first | exact HK.out | apply Kept.alloc | apply Kept.drewN | apply Kept.drew | refine Kept.setCell ?_ (.inr GW181.out) _) | exact HK.out)).1) : w.heap.size ≤ gb209)); have n6_ := Aq.mk ((by rw [hg]; exact (q8q (by repeat (with_reducible first | exact HB.out | apply q4q | apply q0q | apply q2q | refine q5q ?_ GE181.out))) : w0.heap.size ≤ gb209)); have n7_ := Aq.mk ((by rw [hg]; exact Nat.ne_of_lt (q16q (g := gb181) (o := .cells #[.int .i64 a1_0, .int .i64 a1_1, .slice A1_2 l1_2.length c1_2, .slice (some ad208) l1_3.length c1_3, .slice A1_4 l1_4.length c1_4] 47 (0, 0)) BK181.out) : gb181 ≠ gb209)); have n8_ := Aq.mk ((by rw [hg]; exact Nat.ne_of_gt (q16q (g := gb181) (o := .cells #[.int .i64 a1_0, .int .i64 a1_1, .slice A1_2 l1_2.length c1_2, .slice (some ad208) l1_3.length c1_3, .slice A1_4 l1_4.length c1_4] 47 (0, 0)) BK181.out) : gb209 ≠ gb181)); clear HO_0; clear BK181; clear HK; clear HB; have HO_0 := n0_; have BK181 := n1_; have HK := n2_; have HB := n3_; have BK209 := n4_; have GW209 := n5_; have GE209 := n6_; have NB181_209 := n7_; have NB209_181 := n8_; clear n0_ n1_ n2_ n3_ n4_ n5_ n6_ n7_ n8_; clear hb hbox hg; have hnb48 := NB209_181.out; have hnc48 := NB181_209.out; have hcz49_0 : w47.cell? ⟨gb209, 0, none⟩ = some (.int .i64 0) := (q1q BK209.out 0).trans rfl; have hcz49_1 : w47.cell? ⟨gb209, 1, none⟩ = some (.int .i64 0) := (q1q BK209.out 1).trans rfl; have hcz49_2 : w47.cell? ⟨gb209, 2, none⟩ = some (.string (⟨#[]⟩ : ByteArray)) := (q1q BK209.out 2).trans rfl; have hfz49_0 := q3q BK209.out 0; have hfz49_1 := q3q BK209.out 1; have hfz49_2 := q3q BK209.out 2) | ((with_reducible refine gate_store (t := 42) (p := 9) rfl ?_); refine store_event (t := 42) (p := 9) (v := ?vo_w50) (w1 := (((w47.setCell ⟨gb209, 0, none⟩ (.int .i64 ((rd_T42 l1_3 x47_2).f0))).setCell ⟨gb209, 1, none⟩ (.int .i64 ((rd_T42 l1_3 x47_2).f1))).setCell ⟨gb209, 2, none⟩ (.string ((rd_T42 l1_3 x47_2).f2)))) ?hg ?ho ?hn ?hr ?_; (case ho => rfl); (case hg => rfl); (case hn => rfl); (case hr => first | (go_simp; done) | (go_simp; rfl)); intro w50 hw; have n0_ : Aq (Kd.R (Kd.int .u8) 5 w50 w0.heap.size (fun k_ => (P0_ k_ ∨ w.heap.size ≤ k_)) u0 x0_2) := ⟨(by rw [hw]; exact (by (with_reducible repeat (first | apply Kd.R_alloc | apply Kd.R_drewN | apply Kd.q34q)); exact Kd.q23q (Kd.R_far (p := ⟨gb209, 2, none⟩) (Kd.R_far (p := ⟨gb209, 1, none⟩) (Kd.R_far (p := ⟨gb209, 0, none⟩) (Kd.q38q HO_0.out BK209.out (by decide)) (fun _ hk => hk.2) (.int .i64 ((rd_T42 l1_3 x47_2).f0))) (fun _ hk => hk.2) (.int .i64 ((rd_T42 l1_3 x47_2).f1))) (fun _ hk => hk.2) (.string ((rd_T42 l1_3 x47_2).f2))) (fun _ hk => hk.1)))⟩; have n1_ : Aq (w50.heap[gb181]? = some (.cells #[.int .i64 a1_0, .int .i64 a1_1, .slice A1_2 l1_2.length c1_2, .slice (some ad208) l1_3.length c1_3, .slice A1_4 l1_4.length c1_4] 47 (0, 0))) := ⟨(by rw [hw]; exact (by (with_reducible repeat (first | refine q7q ?_ _ | refine q9q ?_ | refine q6q ?_ _)); refine q14q ?_ NB181_209.out _; (with_reducible repeat (first | refine q7q ?_ _ | refine q9q ?_ | refine q6q ?_ _)); refine q14q ?_ NB181_209.out _; (with_reducible repeat (first | refine q7q ?_ _ | refine q9q ?_ | refine q6q ?_ _)); refine q14q ?_ NB181_209.out _; (with_reducible repeat (first | refine q7q ?_ _ | refine q9q ?_ | refine q6q ?_ _)); exact BK181.out))⟩; have n2_ : Aq (w50.heap[gb209]? = some (.cells #[.int .i64 ((rd_T42 l1_3 x47_2).f0), .int .i64 ((rd_T42 l1_3 x47_2).f1), .string ((rd_T42 l1_3 x47_2).f2)] 42 (0, 0))) := ⟨(by rw [hw]; exact (by (with_reducible repeat (first | refine q7q ?_ _ | refine q9q ?_ | refine q6q ?_ _)); refine q15q (cs := #[.int .i64 ((rd_T42 l1_3 x47_2).f0), .int .i64 ((rd_T42 l1_3 x47_2).f1), .string (⟨#[]⟩ : ByteArray)]) ?_ 2 _ rfl; (with_reducible repeat (first | refine q7q ?_ _ | refine q9q ?_ | refine q6q ?_ _)); refine q15q (cs := #[.int .i64 ((rd_T42 l1_3 x47_2).f0), .int .i64 0, .string (⟨#[]⟩ : ByteArray)]) ?_ 1 _ rfl; (with_reducible repeat (first | refine q7q ?_ _ | refine q9q ?_ | refine q6q ?_ _)); refine q15q (cs := #[.int .i64 0, .int .i64 0, .string (⟨#[]⟩ : ByteArray)]) ?_ 0 _ rfl; (with_reducible repeat (first | refine q7q ?_ _ | refine q9q ?_ | refine q6q ?_ _)); exact BK209.out))⟩; have n3_ : Aq (Kept w w50 (fun k_ => P0_ k_)) := ⟨(by rw [hw]; exact (by repeat (first | (with_reducible first | exact HK.out | apply Kept.alloc | apply Kept.drewN | apply Kept.drew | refine Kept.setCell ?_ (.inr GW181.out) _ | refine Kept.setCell ?_ (.inr GW209.out) _) | exact HK.out)))⟩; have n4_ : Aq (Below w0.heap.size w0 w50) := ⟨(by rw [hw]; exact (by repeat (with_reducible first | exact HB.out | apply q4q | apply q0q | apply q2q | refine q5q ?_ GE181.out | refine q5q ?_ GE209.out)))⟩; clear hw; clear HO_0; clear BK181; clear BK209; clear HK; clear HB; have HO_0 := n0_; have BK181 := n1_; have BK209 := n2_; have HK := n3_; have HB := n4_; clear n0_ n1_ n2_ n3_ n4_; have hcz51_0 : w50.cell? ⟨gb209, 0, none⟩ = some (.int .i64 ((rd_T42 l1_3 x47_2).f0)) := (q1q BK209.out 0).trans rfl; have hcz51_1 : w50.cell? ⟨gb209, 1, none⟩ = some (.int .i64 ((rd_T42 l1_3 x47_2).f1)) := (q1q BK209.out 1).trans rfl; have hcz51_2 : w50.cell? ⟨gb209, 2, none⟩ = some (.string ((rd_T42 l1_3 x47_2).f2)) := (q1q BK209.out 2).trans rfl; have hfz51_0 := q3q BK209.out 0; have hfz51_1 := q3q BK209.out 1; have hfz51_2 := q3q BK209.out 2; obtain ⟨Ao52, co52, eo52⟩ := Kd.q32q HO_0.out; subst eo52) | ((with_reducible refine q17q (f := 39) rfl ?_); refine q29q (some 53) rfl rfl Try.func39 (by kernel_rfl) rfl #[.slice Ao52 x0_2.length co52, .agg #[.int .i64 ((rd_T42 l1_3 x47_2).f0), .int .i64 ((rd_T42 l1_3 x47_2).f1), .string ((rd_T42 l1_3 x47_2).f2)]] rfl (by (try simp only [List.map_toArray, List.map_cons, List.map_nil]); first | done | rfl) ?_; (with_reducible refine (codec_constant.calls k2 (fun k_ => some k_ = (.slice Ao52 x0_2.length co52 : Value).ownBlock) (.slice Ao52 x0_2.length co52) x0_2 ((rd_T42 l1_3 x47_2).f0) ((rd_T42 l1_3 x47_2).f1) ((rd_T42 l1_3 x47_2).f2) t210 w0 _ ?side1 ?side2 A46.out).mono ?_); (case side1 => repeat (with_reducible first | exact HB.out | apply q4q | apply q0q | apply q2q | refine q5q ?_ GE181.out | refine q5q ?_ GE209.out)); (case side2 => exact Kd.R_tight rfl HO_0.out); rintro e w53 ⟨v211, rfl, ho0, hb, hkp⟩; refine ⟨_, rfl, ?_⟩; have n0_ := Aq.mk (blk_kept BK181.out hkp (fun hs_ => (fun e_ => (Kd.R_ne HO_0.out BK181.out (by decide)) e_) hs_)); have n1_ := Aq.mk (blk_kept BK209.out hkp (fun hs_ => (fun e_ => (Kd.R_ne HO_0.out BK209.out (by decide)) e_) hs_)); have n2_ := Aq.mk (Kd.q23q (ok' := fun k_ => (P0_ k_ ∨ w.heap.size ≤ k_)) ho0 (fun k_ hk_ => Or.elim hk_ (fun hs_ => (HO_0.out.1 k_ (hs_).symm)) (fun hn_ => (.inr (Nat.le_trans (by first | exact HK.out.1 | exact (show Kept w _ (fun k_ => P0_ k_) from by repeat (first | (with_reducible first | exact HK.out | apply Kept.alloc | apply Kept.drewN | apply Kept.drew | refine Kept.setCell ?_ (.inr GW181.out) _ | refine Kept.setCell ?_ (.inr GW209.out) _) | exact HK.out)).1) hn_))))); have n3_ := Aq.mk (Kept.then_ (S := (fun k_ => P0_ k_)) (by repeat (first | (with_reducible first | exact HK.out | apply Kept.alloc | apply Kept.drewN | apply Kept.drew | refine Kept.setCell ?_ (.inr GW181.out) _ | refine Kept.setCell ?_ (.inr GW209.out) _) | exact HK.out)) hkp (fun k_ hs_ => (fun e_ => (HO_0.out.1 k_ e_.symm)) hs_)); have n4_ := Aq.mk (hb); clear BK181; clear BK209; clear HK; clear HB; clear HO_0; have BK181 := n0_; have BK209 := n1_; have HO212 := n2_; have HK := n3_; have HB := n4_; clear n0_ n1_ n2_ n3_ n4_; (try clear hb); (try clear hkp); (try clear ho0)))
      go_roundg k2
      case measure => have := HK1.out; have := HK2.out; omega
      case rel => exact ⟨(t210), (wrap64 (x47_2 + 1)), (by first | rfl | (simp; done) | (simp [*]; done)), H', ⟨by have := HK1.out; have := HK2.out; omega⟩, ⟨by (with_reducible repeat (first | apply Kd.R_alloc | apply Kd.R_drewN | apply Kd.q34q)); exact HO212.out⟩, ⟨BK181.out⟩, ⟨by repeat (first | (with_reducible first | exact HK.out | apply Kept.alloc | apply Kept.drewN | apply Kept.drew | refine Kept.setCell ?_ (.inr GW181.out) _ | refine Kept.setCell ?_ (.inr GW209.out) _) | exact HK.out)⟩, ⟨by repeat (with_reducible first | exact HB.out | apply q4q | apply q0q | apply q2q | refine q5q ?_ GE181.out | refine q5q ?_ GE209.out)⟩⟩
     rw [if_neg c43] at H
     have c43b0 : decide (x47_2 < (l1_3.length : Int)) = false := decide_eq_false c43
     clear c43
     obtain ⟨y213, hy213⟩ : ∃ y_ : List Int, y_ = (([(l1_4.length : Int)] : List Int)) := ⟨_, rfl⟩
     replace H : ((codec_ints.f k2 x0_2 y213).bind fun t216 => (codec_proto.l2 k2 t216 l1_4 (l1_4.length : Int) 0)) = some r := by first | (rw [hy213]; with_reducible exact H) | (have H2_ := (Option.bind_some _ _).symm.trans H; rw [hy213]; with_reducible exact H2_) | (have H2_ := (Option.bind_some _ _).symm.trans H; with_reducible exact H2_) | with_reducible exact H | (rw [hy213]; exact H) | exact H
     have Ny213 := Aq.mk hy213
     clear hy213
     replace H := Option.bind_eq_some_iff.mp H
     obtain ⟨t216, A540, H⟩ := H
     replace H : (codec_proto.l2 k2 t216 l1_4 (l1_4.length : Int) 0) = some r := H
     have A54 := Aq.mk A540
     clear A540
     have H' := Aq.mk H
     clear H
     have hcz55_0 : wr.cell? ⟨gb181, 0, none⟩ = some (.int .i64 a1_0) := (q1q BK181.out 0).trans rfl
     have hcz55_1 : wr.cell? ⟨gb181, 1, none⟩ = some (.int .i64 a1_1) := (q1q BK181.out 1).trans rfl
     have hcz55_2 : wr.cell? ⟨gb181, 2, none⟩ = some (.slice A1_2 l1_2.length c1_2) := (q1q BK181.out 2).trans rfl
     have hcz55_3 : wr.cell? ⟨gb181, 3, none⟩ = some (.slice A1_3 l1_3.length c1_3) := (q1q BK181.out 3).trans rfl
     have hcz55_4 : wr.cell? ⟨gb181, 4, none⟩ = some (.slice A1_4 l1_4.length c1_4) := (q1q BK181.out 4).trans rfl
     have hfz55_0 := q3q BK181.out 0
     have hfz55_1 := q3q BK181.out 1
     have hfz55_2 := q3q BK181.out 2
     have hfz55_3 := q3q BK181.out 3
     have hfz55_4 := q3q BK181.out 4
     go_wp2_with (first | ((with_reducible refine q13q (N := 59) rfl ?_); refine Kd.R_lit (Kd.int .i64) _ 3 ?hg (N := 59) ?hd (xs := ([(l1_4.length : Int)] : List Int)) (inner := [.int .i64 (l1_4.length : Int)]) (ok := fun _ => True) (okp := fun _ => True) ?hr ?hp (fun _ hk => hk) trivial (Below.refl _ _) (Nat.le_refl _) (by simp) ?_; (case hd => rfl); (case hg => rfl); (case hr => first | (go_simp; done) | (go_simp; rfl)); (case hp => exact (Reps.one (show Kd.M (Kd.int .i64) _ _ _ (l1_4.length : Int) [.int .i64 (l1_4.length : Int)] from rfl) (Reps.none _ _))); intro v214 w56 ho57 hb hg_ hnew_; clear hg_ hnew_; (first | rw [← Ny213.out] at ho57 | (simp only [Int.reduceToNat] at ho57; rw [← Ny213.out] at ho57)); have n0_ := Aq.mk (Kd.q36q HO_0.out hb); have n1_ := Aq.mk (Kd.R_lower (Kd.R_newM (M := fun k_ => (P0_ k_ ∨ w.heap.size ≤ k_)) ho57 (by first | exact HK.out.1 | exact (show Kept w _ (fun k_ => P0_ k_) from by repeat (first | (with_reducible first | exact HK.out | apply Kept.alloc | apply Kept.drewN | apply Kept.drew | refine Kept.setCell ?_ (.inr GW181.out) _) | exact HK.out)).1) (fun k_ h_ => .inr h_)) (q8q (by repeat (with_reducible first | exact HB.out | apply q4q | apply q0q | apply q2q | refine q5q ?_ GE181.out)))); have n2_ := Aq.mk (q12q (g := gb181) (o := .cells #[.int .i64 a1_0, .int .i64 a1_1, .slice A1_2 l1_2.length c1_2, .slice A1_3 l1_3.length c1_3, .slice A1_4 l1_4.length c1_4] 47 (0, 0)) BK181.out hb); have n3_ := Aq.mk (Kept.below (S := (fun k_ => P0_ k_)) (by repeat (first | (with_reducible first | exact HK.out | apply Kept.alloc | apply Kept.drewN | apply Kept.drew | refine Kept.setCell ?_ (.inr GW181.out) _) | exact HK.out)) hb); have n4_ := Aq.mk (q10q (by repeat (with_reducible first | exact HB.out | apply q4q | apply q0q | apply q2q | refine q5q ?_ GE181.out)) hb); clear HO_0; clear BK181; clear HK; clear HB; have HO_0 := n0_; have HO215 := n1_; have BK181 := n2_; have HK := n3_; have HB := n4_; clear n0_ n1_ n2_ n3_ n4_; clear hb ho57; obtain ⟨Ao58, co58, eo58⟩ := Kd.q32q HO_0.out; subst eo58; obtain ⟨Ao59, co59, eo59⟩ := Kd.q32q HO215.out; subst eo59) | ((with_reducible refine q17q (f := 19) rfl ?_); refine q29q (some 60) rfl rfl Try.func19 (by kernel_rfl) rfl #[.slice Ao58 x0_2.length co58, .slice Ao59 y213.length co59] rfl (by (try simp only [List.map_toArray, List.map_cons, List.map_nil]); first | done | rfl) ?_; (with_reducible refine (codec_ints.calls k2 (fun k_ => some k_ = (.slice Ao58 x0_2.length co58 : Value).ownBlock) (.slice Ao58 x0_2.length co58) x0_2 _ _ y213 t216 w0 _ ?side1 ?side2 ?side3 ?side4 A54.out).mono ?_); (case side1 => repeat (with_reducible first | exact HB.out | apply q4q | apply q0q | apply q2q | refine q5q ?_ GE181.out)); (case side2 => exact Kd.R_tight rfl HO_0.out); (case side3 => exact Kd.C_kept_own ((Kd.q33q HO215.out (Kd.q37q HO_0.out) (by decide))) (fun k_ hk_ hs_ => (hk_.2) hs_)); (case side4 => exact (Kd.R_reads' HO215.out).2.1); rintro e w60 ⟨v217, rfl, ho0, hb, hkp⟩; refine ⟨_, rfl, ?_⟩; have n0_ := Aq.mk (blk_kept BK181.out hkp (fun hs_ => (fun e_ => (Kd.R_ne HO_0.out BK181.out (by decide)) e_) hs_)); have n1_ := Aq.mk (Kd.q23q (ok' := fun k_ => (P0_ k_ ∨ w.heap.size ≤ k_)) (Kd.R_keptB ((Kd.q33q HO215.out (Kd.q37q HO_0.out) (by decide))) hkp (fun k_ hk_ hs_ => (hk_.2) hs_)) (fun k_ hk_ => hk_.1.1.1)); have n2_ := Aq.mk (Kd.q23q (ok' := fun k_ => (P0_ k_ ∨ w.heap.size ≤ k_)) ho0 (fun k_ hk_ => Or.elim hk_ (fun hs_ => (HO_0.out.1 k_ (hs_).symm)) (fun hn_ => (.inr (Nat.le_trans (by first | exact HK.out.1 | exact (show Kept w _ (fun k_ => P0_ k_) from by repeat (first | (with_reducible first | exact HK.out | apply Kept.alloc | apply Kept.drewN | apply Kept.drew | refine Kept.setCell ?_ (.inr GW181.out) _) | exact HK.out)).1) hn_))))); have n3_ := Aq.mk (Kept.then_ (S := (fun k_ => P0_ k_)) (by repeat (first | (with_reducible first | exact HK.out | apply Kept.alloc | apply Kept.drewN | apply Kept.drew | refine Kept.setCell ?_ (.inr GW181.out) _) | exact HK.out)) hkp (fun k_ hs_ => (fun e_ => (HO_0.out.1 k_ e_.symm)) hs_)); have n4_ := Aq.mk (hb); clear BK181; clear HO215; clear HK; clear HB; clear HO_0; have BK181 := n0_; have HO215 := n1_; have HO218 := n2_; have HK := n3_; have HB := n4_; clear n0_ n1_ n2_ n3_ n4_; (try clear hb); (try clear hkp); (try clear ho0); have hcz61_0 : w60.cell? ⟨gb181, 0, none⟩ = some (.int .i64 a1_0) := (q1q BK181.out 0).trans rfl; have hcz61_1 : w60.cell? ⟨gb181, 1, none⟩ = some (.int .i64 a1_1) := (q1q BK181.out 1).trans rfl; have hcz61_2 : w60.cell? ⟨gb181, 2, none⟩ = some (.slice A1_2 l1_2.length c1_2) := (q1q BK181.out 2).trans rfl; have hcz61_3 : w60.cell? ⟨gb181, 3, none⟩ = some (.slice A1_3 l1_3.length c1_3) := (q1q BK181.out 3).trans rfl; have hcz61_4 : w60.cell? ⟨gb181, 4, none⟩ = some (.slice A1_4 l1_4.length c1_4) := (q1q BK181.out 4).trans rfl; have hfz61_0 := q3q BK181.out 0; have hfz61_1 := q3q BK181.out 1; have hfz61_2 := q3q BK181.out 2; have hfz61_3 := q3q BK181.out 3; have hfz61_4 := q3q BK181.out 4))
     go_loopg [0, 64] k2 (fun kq v0 v64 w' => ∃ (x0_3 : List Int) (x64_3 : Int), v64 = .int .i64 x64_3 ∧ Aq (codec_proto.l2 kq x0_3 l1_4 (l1_4.length : Int) x64_3 = some r) ∧ Aq (kq ≤ k2) ∧ Aq (Kd.R (Kd.int .u8) 5 w' w0.heap.size (fun k_ => (P0_ k_ ∨ w.heap.size ≤ k_)) v0 x0_3) ∧ Aq (w'.heap[gb181]? = some (.cells #[.int .i64 a1_0, .int .i64 a1_1, (.slice A1_2 l1_2.length c1_2), (.slice A1_3 l1_3.length c1_3), (.slice A1_4 l1_4.length c1_4)] 47 (0, 0))) ∧ Aq (Kept w w' (fun k_ => P0_ k_)) ∧ Aq (Below w0.heap.size w0 w'))
     case atStart => exact ⟨(t216), (0), (by first | rfl | (simp; done) | (simp [*]; done)), H', ⟨Nat.le_refl _⟩, ⟨by (with_reducible repeat (first | apply Kd.R_alloc | apply Kd.R_drewN | apply Kd.q34q)); exact HO218.out⟩, ⟨BK181.out⟩, ⟨by repeat (first | (with_reducible first | exact HK.out | apply Kept.alloc | apply Kept.drewN | apply Kept.drew | refine Kept.setCell ?_ (.inr GW181.out) _) | exact HK.out)⟩, ⟨by repeat (with_reducible first | exact HB.out | apply q4q | apply q0q | apply q2q | refine q5q ?_ GE181.out)⟩⟩
     case round =>
      clear H'
      try clear c1
      try clear p1
      try clear q1
      try clear hx1
      try clear c2
      try clear p2
      try clear q2
      try clear hx2
      try clear c3
      try clear c4
      try clear p6
      try clear c12
      try clear c12b0
      try clear c13
      try clear c13b0
      try clear c14
      try clear c14b0
      try clear q15
      try clear c16
      try clear p18
      try clear q18
      try clear hx18
      try clear c19
      try clear c20
      try clear p20
      try clear q20
      try clear hx20
      try clear c28
      try clear c39
      try clear c43
      try clear c43b0
      try clear c44
      try clear c44b0
      try clear c45
      try clear c45b0
      try clear c48
      try clear hcz11_0
      try clear hcz11_1
      try clear hcz11_2
      try clear hcz11_3
      try clear hcz11_4
      try clear hcz20_0
      try clear hcz20_1
      try clear hcz29_0
      try clear hcz29_1
      try clear hcz36_0
      try clear hcz36_1
      try clear hcz36_2
      try clear hcz36_3
      try clear hcz36_4
      try clear hcz42_0
      try clear hcz42_1
      try clear hcz42_2
      try clear hcz42_3
      try clear hcz42_4
      try clear hcz49_0
      try clear hcz49_1
      try clear hcz49_2
      try clear hcz51_0
      try clear hcz51_1
      try clear hcz51_2
      try clear hcz55_0
      try clear hcz55_1
      try clear hcz55_2
      try clear hcz55_3
      try clear hcz55_4
      try clear hcz5_0
      try clear hcz5_1
      try clear hcz5_2
      try clear hcz5_3
      try clear hcz5_4
      try clear hcz61_0
      try clear hcz61_1
      try clear hcz61_2
      try clear hcz61_3
      try clear hcz61_4
      try clear hfz11_0
      try clear hfz11_1
      try clear hfz11_2
      try clear hfz11_3
      try clear hfz11_4
      try clear hfz20_0
      try clear hfz20_1
      try clear hfz29_0
      try clear hfz29_1
      try clear hfz36_0
      try clear hfz36_1
      try clear hfz36_2
      try clear hfz36_3
      try clear hfz36_4
      try clear hfz42_0
      try clear hfz42_1
      try clear hfz42_2
      try clear hfz42_3
      try clear hfz42_4
      try clear hfz49_0
      try clear hfz49_1
      try clear hfz49_2
      try clear hfz51_0
      try clear hfz51_1
      try clear hfz51_2
      try clear hfz55_0
      try clear hfz55_1
      try clear hfz55_2
      try clear hfz55_3
      try clear hfz55_4
      try clear hfz5_0
      try clear hfz5_1
      try clear hfz5_2
      try clear hfz5_3
      try clear hfz5_4
      try clear hfz61_0
      try clear hfz61_1
      try clear hfz61_2
      try clear hfz61_3
      try clear hfz61_4
      try clear hx188_0
      try clear hx188_1
      try clear hx208_0
      try clear hx208_1
      try clear hx208_2
      try clear p1
      try clear p18
      try clear p188
      try clear p2
      try clear p208
      try clear p6
      try clear q1
      try clear q15
      try clear q18
      try clear q188
      try clear q208
      obtain ⟨x0_3, x64_3, rfl, HA, HK3, HO_0, BK181, HK, HB⟩ := hrel
      cases gk with
      | zero => exact absurd HA.out (by simp [codec_proto.l2])
      | succ k3 =>
       have H := HA.out
       clear HA
       simp only [codec_proto.l2] at H
       by_cases c62 : x64_3 < (l1_4.length : Int)
       case neg =>
        rw [if_neg c62] at H
        have c62b0 : decide (x64_3 < (l1_4.length : Int)) = false := decide_eq_false c62
        clear c62
        obtain rfl := Option.some.inj H
        go_wp2
        go_ret
        exact ⟨_, by first | rfl | (simp [*] <;> rfl), by (with_reducible repeat (first | apply Kd.R_alloc | apply Kd.R_drewN | apply Kd.q34q)); exact HO_0.out, by repeat (with_reducible first | exact HB.out | apply q4q | apply q0q | apply q2q | refine q5q ?_ GE181.out), by repeat (first | (with_reducible first | exact HK.out | apply Kept.alloc | apply Kept.drewN | apply Kept.drew | refine Kept.setCell ?_ (.inr GW181.out) _) | exact HK.out)⟩
       rw [if_pos c62] at H
       have c62b0 : decide (x64_3 < (l1_4.length : Int)) = true := decide_eq_true c62
       clear c62
       by_cases c63 : 0 ≤ x64_3
       case neg =>
        rw [if_neg c63] at H
        exact absurd H (by simp)
       rw [if_pos c63] at H
       have c63b0 : decide (0 ≤ x64_3) = true := decide_eq_true c63
       clear c63
       by_cases c64 : x64_3 < (l1_4.length : Int)
       case neg =>
        rw [if_neg c64] at H
        exact absurd H (by simp)
       rw [if_pos c64] at H
       have c64b0 : decide (x64_3 < (l1_4.length : Int)) = true := decide_eq_true c64
       clear c64
       obtain ⟨y221, hy221⟩ : ∃ y_ : List Int, y_ = (([(rd_T52 l1_4 x64_3).f0, (rd_T52 l1_4 x64_3).f1, (rd_T52 l1_4 x64_3).f2] : List Int)) := ⟨_, rfl⟩
       replace H : ((codec_ints.f k3 x0_3 y221).bind fun t224 => (codec_proto.l2 k3 t224 l1_4 (l1_4.length : Int) (wrap64 (x64_3 + 1)))) = some r := by first | (rw [hy221]; with_reducible exact H) | (have H2_ := (Option.bind_some _ _).symm.trans H; rw [hy221]; with_reducible exact H2_) | (have H2_ := (Option.bind_some _ _).symm.trans H; with_reducible exact H2_) | with_reducible exact H | (rw [hy221]; exact H) | exact H
       have Ny221 := Aq.mk hy221
       clear hy221
       replace H := Option.bind_eq_some_iff.mp H
       obtain ⟨t224, A650, H⟩ := H
       replace H : (codec_proto.l2 k3 t224 l1_4 (l1_4.length : Int) (wrap64 (x64_3 + 1))) = some r := H
       have A65 := Aq.mk A650
       clear A650
       have H' := Aq.mk H
       clear H
       have p219 : 0 ≤ (x64_3 : Int) := of_decide_eq_true (by first | (with_reducible assumption) | assumption)
       have q219 : x64_3 < (l1_4.length : Int) := of_decide_eq_true (by first | (with_reducible assumption) | assumption)
       obtain ⟨ad219, e219, hx219_0, hx219_1, hx219_2⟩ := at_T52 (Kd.C_kept_now HR1_4.out HK.out) x64_3 p219 q219
       cases e219
       replace p219 := eq_true p219
       replace q219 := eq_true q219
       go_wp2_with (first | ((with_reducible refine q13q (N := 11) rfl ?_); refine q11q ?hg (N := 11) ?hd (cs := #[.int .i64 0, .int .i64 0, .int .i64 0]) (t := 52) ?hr ?_; (case hd => rfl); (case hg => rfl); (case hr => first | (go_simp; done) | (go_simp; rfl)); intro gb220 hg w66 hbox hb; have n0_ := Aq.mk (Kd.q36q HO_0.out hb); have n1_ := Aq.mk (q12q (g := gb181) (o := .cells #[.int .i64 a1_0, .int .i64 a1_1, .slice A1_2 l1_2.length c1_2, .slice A1_3 l1_3.length c1_3, .slice (some ad219) l1_4.length c1_4] 47 (0, 0)) BK181.out hb); have n2_ := Aq.mk (Kept.below (S := (fun k_ => P0_ k_)) (by repeat (first | (with_reducible first | exact HK.out | apply Kept.alloc | apply Kept.drewN | apply Kept.drew | refine Kept.setCell ?_ (.inr GW181.out) _) | exact HK.out)) hb); have n3_ := Aq.mk (q10q (by repeat (with_reducible first | exact HB.out | apply q4q | apply q0q | apply q2q | refine q5q ?_ GE181.out)) hb); have n4_ := Aq.mk (hbox); have n5_ := Aq.mk ((by rw [hg]; exact (by first | exact HK.out.1 | exact (show Kept w _ (fun k_ => P0_ k_) from by repeat (first | (with_reducible first | exact HK.out | apply Kept.alloc | apply Kept.drewN | apply Kept.drew | refine Kept.setCell ?_ (.inr GW181.out) _) | exact HK.out)).1) : w.heap.size ≤ gb220)); have n6_ := Aq.mk ((by rw [hg]; exact (q8q (by repeat (with_reducible first | exact HB.out | apply q4q | apply q0q | apply q2q | refine q5q ?_ GE181.out))) : w0.heap.size ≤ gb220)); have n7_ := Aq.mk ((by rw [hg]; exact Nat.ne_of_lt (q16q (g := gb181) (o := .cells #[.int .i64 a1_0, .int .i64 a1_1, .slice A1_2 l1_2.length c1_2, .slice A1_3 l1_3.length c1_3, .slice (some ad219) l1_4.length c1_4] 47 (0, 0)) BK181.out) : gb181 ≠ gb220)); have n8_ := Aq.mk ((by rw [hg]; exact Nat.ne_of_gt (q16q (g := gb181) (o := .cells #[.int .i64 a1_0, .int .i64 a1_1, .slice A1_2 l1_2.length c1_2, .slice A1_3 l1_3.length c1_3, .slice (some ad219) l1_4.length c1_4] 47 (0, 0)) BK181.out) : gb220 ≠ gb181)); clear HO_0; clear BK181; clear HK; clear HB; have HO_0 := n0_; have BK181 := n1_; have HK := n2_; have HB := n3_; have BK220 := n4_; have GW220 := n5_; have GE220 := n6_; have NB181_220 := n7_; have NB220_181 := n8_; clear n0_ n1_ n2_ n3_ n4_ n5_ n6_ n7_ n8_; clear hb hbox hg; have hnb67 := NB220_181.out; have hnc67 := NB181_220.out; have hcz68_0 : w66.cell? ⟨gb220, 0, none⟩ = some (.int .i64 0) := (q1q BK220.out 0).trans rfl; have hcz68_1 : w66.cell? ⟨gb220, 1, none⟩ = some (.int .i64 0) := (q1q BK220.out 1).trans rfl; have hcz68_2 : w66.cell? ⟨gb220, 2, none⟩ = some (.int .i64 0) := (q1q BK220.out 2).trans rfl; have hfz68_0 := q3q BK220.out 0; have hfz68_1 := q3q BK220.out 1; have hfz68_2 := q3q BK220.out 2) | ((with_reducible refine q13q (N := 75) rfl ?_); refine Kd.R_lit (Kd.int .i64) _ 3 ?hg (N := 75) ?hd (xs := ([(rd_T52 l1_4 x64_3).f0, (rd_T52 l1_4 x64_3).f1, (rd_T52 l1_4 x64_3).f2] : List Int)) (inner := [.int .i64 ((rd_T52 l1_4 x64_3).f0), .int .i64 ((rd_T52 l1_4 x64_3).f1), .int .i64 ((rd_T52 l1_4 x64_3).f2)]) (ok := fun _ => True) (okp := fun _ => True) ?hr ?hp (fun _ hk => hk) trivial (Below.refl _ _) (Nat.le_refl _) (by simp) ?_; (case hd => rfl); (case hg => rfl); (case hr => first | (go_simp; done) | (go_simp; rfl)); (case hp => exact (Reps.one (show Kd.M (Kd.int .i64) _ _ _ ((rd_T52 l1_4 x64_3).f0) [.int .i64 ((rd_T52 l1_4 x64_3).f0)] from rfl) (Reps.one (show Kd.M (Kd.int .i64) _ _ _ ((rd_T52 l1_4 x64_3).f1) [.int .i64 ((rd_T52 l1_4 x64_3).f1)] from rfl) (Reps.one (show Kd.M (Kd.int .i64) _ _ _ ((rd_T52 l1_4 x64_3).f2) [.int .i64 ((rd_T52 l1_4 x64_3).f2)] from rfl) (Reps.none _ _))))); intro v222 w69 ho70 hb hg_ hnew_; clear hg_ hnew_; (first | rw [← Ny221.out] at ho70 | (simp only [Int.reduceToNat] at ho70; rw [← Ny221.out] at ho70)); have n0_ := Aq.mk (Kd.q36q (by (with_reducible repeat (first | apply Kd.R_alloc | apply Kd.R_drewN | apply Kd.q34q)); exact (Kd.q23q (Kd.R_far (p := ⟨gb220, 2, none⟩) (Kd.R_far (p := ⟨gb220, 1, none⟩) (Kd.R_far (p := ⟨gb220, 0, none⟩) (Kd.q38q HO_0.out BK220.out (by decide)) (fun _ hk => hk.2) (.int .i64 ((rd_T52 l1_4 x64_3).f0))) (fun _ hk => hk.2) (.int .i64 ((rd_T52 l1_4 x64_3).f1))) (fun _ hk => hk.2) (.int .i64 ((rd_T52 l1_4 x64_3).f2))) (fun _ h_ => h_.1))) hb); have n1_ := Aq.mk (Kd.R_lower (Kd.R_newM (M := fun k_ => (P0_ k_ ∨ w.heap.size ≤ k_)) ho70 (show Kept w _ (fun k_ => P0_ k_) from by repeat (first | (with_reducible first | exact HK.out | apply Kept.alloc | apply Kept.drewN | apply Kept.drew | refine Kept.setCell ?_ (.inr GW181.out) _ | refine Kept.setCell ?_ (.inr GW220.out) _) | exact HK.out)).1 (fun k_ h_ => .inr h_)) (q8q (by repeat (with_reducible first | exact HB.out | apply q4q | apply q0q | apply q2q | refine q5q ?_ GE181.out | refine q5q ?_ GE220.out)))); have n2_ := Aq.mk (q12q (g := gb181) (o := .cells #[.int .i64 a1_0, .int .i64 a1_1, .slice A1_2 l1_2.length c1_2, .slice A1_3 l1_3.length c1_3, .slice (some ad219) l1_4.length c1_4] 47 (0, 0)) (by (with_reducible repeat (first | refine q7q ?_ _ | refine q9q ?_ | refine q6q ?_ _)); refine q14q ?_ NB181_220.out _; (with_reducible repeat (first | refine q7q ?_ _ | refine q9q ?_ | refine q6q ?_ _)); refine q14q ?_ NB181_220.out _; (with_reducible repeat (first | refine q7q ?_ _ | refine q9q ?_ | refine q6q ?_ _)); refine q14q ?_ NB181_220.out _; (with_reducible repeat (first | refine q7q ?_ _ | refine q9q ?_ | refine q6q ?_ _)); exact BK181.out) hb); have n3_ := Aq.mk (q12q (g := gb220) (o := .cells #[.int .i64 ((rd_T52 l1_4 x64_3).f0), .int .i64 ((rd_T52 l1_4 x64_3).f1), .int .i64 ((rd_T52 l1_4 x64_3).f2)] 52 (0, 0)) (by (with_reducible repeat (first | refine q7q ?_ _ | refine q9q ?_ | refine q6q ?_ _)); refine q15q (cs := #[.int .i64 ((rd_T52 l1_4 x64_3).f0), .int .i64 ((rd_T52 l1_4 x64_3).f1), .int .i64 0]) ?_ 2 _ rfl; (with_reducible repeat (first | refine q7q ?_ _ | refine q9q ?_ | refine q6q ?_ _)); refine q15q (cs := #[.int .i64 ((rd_T52 l1_4 x64_3).f0), .int .i64 0, .int .i64 0]) ?_ 1 _ rfl; (with_reducible repeat (first | refine q7q ?_ _ | refine q9q ?_ | refine q6q ?_ _)); refine q15q (cs := #[.int .i64 0, .int .i64 0, .int .i64 0]) ?_ 0 _ rfl; (with_reducible repeat (first | refine q7q ?_ _ | refine q9q ?_ | refine q6q ?_ _)); exact BK220.out) hb); have n4_ := Aq.mk (Kept.below (S := (fun k_ => P0_ k_)) (by repeat (first | (with_reducible first | exact HK.out | apply Kept.alloc | apply Kept.drewN | apply Kept.drew | refine Kept.setCell ?_ (.inr GW181.out) _ | refine Kept.setCell ?_ (.inr GW220.out) _) | exact HK.out)) hb); have n5_ := Aq.mk (q10q (by repeat (with_reducible first | exact HB.out | apply q4q | apply q0q | apply q2q | refine q5q ?_ GE181.out | refine q5q ?_ GE220.out)) hb); clear HO_0; clear BK181; clear BK220; clear HK; clear HB; have HO_0 := n0_; have HO223 := n1_; have BK181 := n2_; have BK220 := n3_; have HK := n4_; have HB := n5_; clear n0_ n1_ n2_ n3_ n4_ n5_; clear hb ho70; obtain ⟨Ao71, co71, eo71⟩ := Kd.q32q HO_0.out; subst eo71; obtain ⟨Ao72, co72, eo72⟩ := Kd.q32q HO223.out; subst eo72) | ((with_reducible refine q17q (f := 19) rfl ?_); refine q29q (some 76) rfl rfl Try.func19 (by kernel_rfl) rfl #[.slice Ao71 x0_3.length co71, .slice Ao72 y221.length co72] rfl (by (try simp only [List.map_toArray, List.map_cons, List.map_nil]); first | done | rfl) ?_; (with_reducible refine (codec_ints.calls k3 (fun k_ => some k_ = (.slice Ao71 x0_3.length co71 : Value).ownBlock) (.slice Ao71 x0_3.length co71) x0_3 _ _ y221 t224 w0 _ ?side1 ?side2 ?side3 ?side4 A65.out).mono ?_); (case side1 => repeat (with_reducible first | exact HB.out | apply q4q | apply q0q | apply q2q | refine q5q ?_ GE181.out | refine q5q ?_ GE220.out)); (case side2 => exact Kd.R_tight rfl HO_0.out); (case side3 => exact Kd.C_kept_own ((Kd.q33q HO223.out (Kd.q37q HO_0.out) (by decide))) (fun k_ hk_ hs_ => (hk_.2) hs_)); (case side4 => exact (Kd.R_reads' HO223.out).2.1); rintro e w73 ⟨v225, rfl, ho0, hb, hkp⟩; refine ⟨_, rfl, ?_⟩; have n0_ := Aq.mk (blk_kept BK181.out hkp (fun hs_ => (fun e_ => (Kd.R_ne HO_0.out BK181.out (by decide)) e_) hs_)); have n1_ := Aq.mk (blk_kept BK220.out hkp (fun hs_ => (fun e_ => (Kd.R_ne HO_0.out BK220.out (by decide)) e_) hs_)); have n2_ := Aq.mk (Kd.q23q (ok' := fun k_ => (P0_ k_ ∨ w.heap.size ≤ k_)) (Kd.R_keptB ((Kd.q33q HO223.out (Kd.q37q HO_0.out) (by decide))) hkp (fun k_ hk_ hs_ => (hk_.2) hs_)) (fun k_ hk_ => hk_.1.1.1)); have n3_ := Aq.mk (Kd.q23q (ok' := fun k_ => (P0_ k_ ∨ w.heap.size ≤ k_)) ho0 (fun k_ hk_ => Or.elim hk_ (fun hs_ => (HO_0.out.1 k_ (hs_).symm)) (fun hn_ => (.inr (Nat.le_trans (by first | exact HK.out.1 | exact (show Kept w _ (fun k_ => P0_ k_) from by repeat (first | (with_reducible first | exact HK.out | apply Kept.alloc | apply Kept.drewN | apply Kept.drew | refine Kept.setCell ?_ (.inr GW181.out) _ | refine Kept.setCell ?_ (.inr GW220.out) _) | exact HK.out)).1) hn_))))); have n4_ := Aq.mk (Kept.then_ (S := (fun k_ => P0_ k_)) (by repeat (first | (with_reducible first | exact HK.out | apply Kept.alloc | apply Kept.drewN | apply Kept.drew | refine Kept.setCell ?_ (.inr GW181.out) _ | refine Kept.setCell ?_ (.inr GW220.out) _) | exact HK.out)) hkp (fun k_ hs_ => (fun e_ => (HO_0.out.1 k_ e_.symm)) hs_)); have n5_ := Aq.mk (hb); clear BK181; clear BK220; clear HO223; clear HK; clear HB; clear HO_0; have BK181 := n0_; have BK220 := n1_; have HO223 := n2_; have HO226 := n3_; have HK := n4_; have HB := n5_; clear n0_ n1_ n2_ n3_ n4_ n5_; (try clear hb); (try clear hkp); (try clear ho0)))
       go_roundg k3
       case measure => have := HK1.out; have := HK2.out; have := HK3.out; omega
       case rel => exact ⟨(t224), (wrap64 (x64_3 + 1)), (by first | rfl | (simp; done) | (simp [*]; done)), H', ⟨by have := HK1.out; have := HK2.out; have := HK3.out; omega⟩, ⟨by (with_reducible repeat (first | apply Kd.R_alloc | apply Kd.R_drewN | apply Kd.q34q)); exact HO226.out⟩, ⟨BK181.out⟩, ⟨by repeat (first | (with_reducible first | exact HK.out | apply Kept.alloc | apply Kept.drewN | apply Kept.drew | refine Kept.setCell ?_ (.inr GW181.out) _ | refine Kept.setCell ?_ (.inr GW220.out) _) | exact HK.out)⟩, ⟨by repeat (with_reducible first | exact HB.out | apply q4q | apply q0q | apply q2q | refine q5q ?_ GE181.out | refine q5q ?_ GE220.out)⟩⟩
end Go.Proofs.Ytkkgbbfojmnopaa.G
end
