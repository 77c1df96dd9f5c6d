import Derived.Test.YtkkgbbfojmnopaaPLaE11
import Derived.Test.YtkkgbbfojmnopaaPLaGx0
import Derived.Test.YtkkgbbfojmnopaaPLaGxF10
import Derived.Test.YtkkgbbfojmnopaaPLaGxF17
import Derived.Test.YtkkgbbfojmnopaaPLaGxF18
set_option linter.unusedVariables false
set_option linter.unusedSimpArgs false
section
namespace Go.Proofs.Ytkkgbbfojmnopaa.G
open Go.RowKit Go.Proofs.YtkkgbbfojmnopaaW.PrintWords Go.Proofs.YtkkgbbfojmnopaaW.PrintLast Go.Proofs.YtkkgbbfojmnopaaW.PrintMore
attribute [local go_sem] q25q q26q q30q q31q q20q q21q q27q q28q
def tallowlaw21_works.f (k : Nat)  : Option (Bool) := (tallowlaw21_least.f ([] : List (S42))).bind fun t314 => ((codec_Encode.f k t314).bind fun bt317 => ((codec_Decode.f k bt317.1).bind fun bt319 => (if bt317.2 = 0 then (if bt317.1.toList = ([1, 0, 1, 0, 0, 2, 0, 0, 0, 19, 0, 0] : List UInt8) then (if bt319.2 = 0 then ((tallowlaw21_least.f ([] : List (S42))).bind fun t324 => ((code_Same.f k bt319.1 t324).bind fun t327 => (some t327))) else (none)) else (none)) else (none))))
def tallowlaw21_works.T3 : Bool × List (List Nat × List Nat) := (true, [([], []), ([0], [0]), ([1], [1]), ([2], [2]), ([3, 2], [2, 3]), ([2, 4], [2, 4]), ([5, 2], [5]), ([6], [6]), ([7, 6], [6, 7]), ([6, 8], [6, 8]), ([9, 6], [9]), ([10], [10]), ([10, 10], [10]), ([11, 12, 12, 10], [10, 11, 12]), ([10, 13], [10, 13]), ([14, 13, 0, 1, 2, 3, 4, 5, 6, 7, 8, 9, 10, 11, 12, 13, 14], [14])])
def tallowlaw21_works.B3 : List Nat := [0, 1, 3, 7, 15, 31, 63, 127, 255, 511, 1023, 2047, 2047, 8191, 16383, 32767]
theorem tallowlaw21_works.tab3 : rtab .any (opsOf Try.f12 3) = tallowlaw21_works.T3 := by kernel_rfl
theorem tallowlaw21_works.bits3 : waitsOk tallowlaw21_works.T3.2 tallowlaw21_works.B3 = true := by kernel_rfl
set_option maxHeartbeats 8000000 in
set_option maxRecDepth 100000 in
theorem tallowlaw21_works.calls (k : Nat)  (r : Bool) (w : World) (h : tallowlaw21_works.f k  = some r) :
  Calls Try.prog 12 #[] w fun e w' => e = .returned (.bool r) ∧ Below w.heap.size w w' := by
 have hu24 := Try.underlying24
 have HB := Aq.mk (Below.refl w.heap.size w)
 have H : ((tallowlaw21_least.f ([] : List (S42))).bind fun t314 => ((codec_Encode.f k t314).bind fun bt317 => ((codec_Decode.f k bt317.1).bind fun bt319 => (if bt317.2 = 0 then (if bt317.1.toList = ([1, 0, 1, 0, 0, 2, 0, 0, 0, 19, 0, 0] : List UInt8) then (if bt319.2 = 0 then ((tallowlaw21_least.f ([] : List (S42))).bind fun t324 => ((code_Same.f k bt319.1 t324).bind fun t327 => (some t327))) else (none)) else (none)) else (none))))) = some r := h
 clear h
 replace H := Option.bind_eq_some_iff.mp H
 obtain ⟨t314, A10, H⟩ := H
 replace H : ((codec_Encode.f k t314).bind fun bt317 => ((codec_Decode.f k bt317.1).bind fun bt319 => (if bt317.2 = 0 then (if bt317.1.toList = ([1, 0, 1, 0, 0, 2, 0, 0, 0, 19, 0, 0] : List UInt8) then (if bt319.2 = 0 then ((tallowlaw21_least.f ([] : List (S42))).bind fun t324 => ((code_Same.f k bt319.1 t324).bind fun t327 => (some t327))) else (none)) else (none)) else (none)))) = some r := H
 have A1 := Aq.mk A10
 clear A10
 replace H := Option.bind_eq_some_iff.mp H
 obtain ⟨⟨t317, t318⟩, A20, H⟩ := H
 replace H : ((codec_Decode.f k t317).bind fun bt319 => (if t318 = 0 then (if t317.toList = ([1, 0, 1, 0, 0, 2, 0, 0, 0, 19, 0, 0] : List UInt8) then (if bt319.2 = 0 then ((tallowlaw21_least.f ([] : List (S42))).bind fun t324 => ((code_Same.f k bt319.1 t324).bind fun t327 => (some t327))) else (none)) else (none)) else (none))) = some r := H
 have A2 := Aq.mk A20
 clear A20
 replace H := Option.bind_eq_some_iff.mp H
 obtain ⟨⟨t319, t322⟩, A30, H⟩ := H
 replace H : (if t318 = 0 then (if t317.toList = ([1, 0, 1, 0, 0, 2, 0, 0, 0, 19, 0, 0] : List UInt8) then (if t322 = 0 then ((tallowlaw21_least.f ([] : List (S42))).bind fun t324 => ((code_Same.f k t319 t324).bind fun t327 => (some t327))) else (none)) else (none)) else (none)) = some r := H
 have A3 := Aq.mk A30
 clear A30
 by_cases c4 : t318 = 0
 case neg =>
  rw [if_neg c4] at H; cases H
 rw [if_pos c4] at H
 have c4b0 : (t318 == 0) = true := beq_iff_eq.mpr c4
 have c4b1 : (t318 != 0) = false := bne_eq_false_iff_eq.mpr c4
 clear c4
 by_cases c5 : t317.toList = ([1, 0, 1, 0, 0, 2, 0, 0, 0, 19, 0, 0] : List UInt8)
 case neg =>
  rw [if_neg c5] at H; cases H
 rw [if_pos c5] at H
 have c5b0 : (t317.toList == ([1, 0, 1, 0, 0, 2, 0, 0, 0, 19, 0, 0] : List UInt8)) = true := beq_iff_eq.mpr c5
 have c5b1 : (t317.toList != ([1, 0, 1, 0, 0, 2, 0, 0, 0, 19, 0, 0] : List UInt8)) = false := bne_eq_false_iff_eq.mpr c5
 clear c5
 by_cases c6 : t322 = 0
 case neg =>
  rw [if_neg c6] at H; cases H
 rw [if_pos c6] at H
 have c6b0 : (t322 == 0) = true := beq_iff_eq.mpr c6
 have c6b1 : (t322 != 0) = false := bne_eq_false_iff_eq.mpr c6
 clear c6
 replace H := Option.bind_eq_some_iff.mp H
 obtain ⟨t324, A70, H⟩ := H
 replace H : ((code_Same.f k t319 t324).bind fun t327 => (some t327)) = some r := H
 have A7 := Aq.mk A70
 clear A70
 replace H := Option.bind_eq_some_iff.mp H
 obtain ⟨t327, A80, H⟩ := H
 replace H : (some t327) = some r := H
 have A8 := Aq.mk A80
 clear A80
 obtain rfl := Option.some.inj H
 go_enter Try.func12, Try.ntmps12
 try go_wp2_with (first | ((with_reducible refine q17q (f := 18) rfl ?_); refine q29q (some 6) rfl rfl Try.func18 (by kernel_rfl) rfl #[.slice none 0 0] rfl (by (try simp only [List.map_toArray, List.map_cons, List.map_nil]); first | done | rfl) ?_; (refine (tallowlaw21_least.calls (fun k_ => False) _ _ ([] : List (S42)) t314 _ ?side1 A1.out).mono ?_); (case side1 => exact Kd.V_nil _ _ _ _ _); rintro e w9 ⟨v315, rfl, ho0, hb⟩; refine ⟨_, rfl, ?_⟩; have n0_ := Aq.mk (Kd.N_lower (Kd.N_mono (ok' := fun k_ => True) ho0 (fun k_ hk_ => trivial)) (q8q (by repeat (with_reducible first | exact HB.out | apply q4q | apply q0q | apply q2q)))); have n1_ := Aq.mk (q10q (by repeat (with_reducible first | exact HB.out | apply q4q | apply q0q | apply q2q)) hb); clear HB; have HO316 := n0_; have HB := n1_; clear n0_ n1_; (try clear hb); (try clear hb2); (try clear hk); (try clear hi); (try clear ho0); obtain ⟨Ao10, co10, eo10⟩ := Kd.N_slice HO316.out; subst eo10) | ((with_reducible refine q17q (f := 10) rfl ?_); refine q29q (some 7) rfl rfl Try.func10 (by kernel_rfl) rfl #[.agg #[.slice Ao10 t314.length co10]] rfl (by (try simp only [List.map_toArray, List.map_cons, List.map_nil]); first | done | rfl) ?_; (with_reducible refine (codec_Encode.calls k _ _ t314 t317 t318 _ ?side1 ?side2 A2.out).mono ?_); (case side1 => exact (Kd.N_reads' HO316.out).2.2); (case side2 => exact (Kd.N_reads' HO316.out).2.1); rintro e w11 ⟨rfl, hb⟩; refine ⟨_, rfl, ?_⟩; have n0_ := Aq.mk (Kd.N_below HO316.out hb); have n1_ := Aq.mk (q10q (by repeat (with_reducible first | exact HB.out | apply q4q | apply q0q | apply q2q)) hb); clear HO316; clear HB; have HO316 := n0_; have HB := n1_; clear n0_ n1_; (try clear hb); (try clear hb2); (try clear hk); (try clear hi)) | ((with_reducible refine q17q (f := 13) rfl ?_); refine q29q (some 12) rfl rfl Try.func13 (by kernel_rfl) rfl #[.string t317] rfl (by (try simp only [List.map_toArray, List.map_cons, List.map_nil]); first | done | rfl) ?_; (with_reducible refine (codec_Decode.calls k t317 t319 t322 _ A3.out).mono ?_); rintro e w12 ⟨v320, rfl, ho0, hb⟩; refine ⟨_, rfl, ?_⟩; have n0_ := Aq.mk (Kd.N_elder' HO316.out (Kd.N_base ho0) hb); have n1_ := Aq.mk (Kd.N_lower (Kd.N_mono (ok' := fun k_ => some k_ ≠ (.slice Ao10 t314.length co10 : Value).ownBlock) ho0 (fun k_ hk_ => (Kd.fresh' (Kd.N_lt HO316.out) k_ hk_))) (q8q (by repeat (with_reducible first | exact HB.out | apply q4q | apply q0q | apply q2q)))); have n2_ := Aq.mk (q10q (by repeat (with_reducible first | exact HB.out | apply q4q | apply q0q | apply q2q)) hb); clear HO316; clear HB; have HO316 := n0_; have HO321 := n1_; have HB := n2_; clear n0_ n1_ n2_; (try clear hb); (try clear hb2); (try clear hk); (try clear hi); (try clear ho0)) | ((with_reducible refine q13q (N := 3) rfl ?_); refine q11q ?hg (N := 3) ?hd (cs := #[.slice none 0 0]) (t := 24) ?hr ?_; (case hd => rfl); (case hg => rfl); (case hr => first | (go_simp; done) | (go_simp; rfl)); intro gb323 hg w13 hbox hb; have n0_ := Aq.mk (Kd.N_below (Kd.N_elderB HO316.out gb323 (Nat.le_of_eq hg.symm)) hb); have n1_ := Aq.mk (Kd.N_below (Kd.N_elderB HO321.out gb323 (Nat.le_of_eq hg.symm)) hb); have n2_ := Aq.mk (q10q (by repeat (with_reducible first | exact HB.out | apply q4q | apply q0q | apply q2q)) hb); have n3_ := Aq.mk (hbox); have n4_ := Aq.mk ((by rw [hg]; exact (q8q (by repeat (with_reducible first | exact HB.out | apply q4q | apply q0q | apply q2q))) : w.heap.size ≤ gb323)); have n5_ := Aq.mk ((by rw [hg]; exact (q8q (by repeat (with_reducible first | exact HB.out | apply q4q | apply q0q | apply q2q))) : w.heap.size ≤ gb323)); clear HO316; clear HO321; clear HB; have HO316 := n0_; have HO321 := n1_; have HB := n2_; have BK323 := n3_; have GW323 := n4_; have GE323 := n5_; clear n0_ n1_ n2_ n3_ n4_ n5_; clear hb hbox hg; obtain ⟨Ao14, co14, eo14⟩ := Kd.N_slice HO321.out; subst eo14; have hcz15_0 : w13.cell? ⟨gb323, 0, none⟩ = some (.slice none 0 0) := (q1q BK323.out 0).trans rfl; have hfz15_0 := q3q BK323.out 0))
 have n0_ : Aq (Kd.N k47 47 (w13.setCell ⟨gb323, 0, none⟩ (.slice Ao14 t319.length co14)) w.heap.size (fun k_ => some k_ ≠ (.slice Ao14 t319.length co14 : Value).ownBlock ∧ k_ ≠ gb323) (.slice Ao10 t314.length co10) t314) := ⟨by (with_reducible repeat (first | apply Kd.N_alloc | apply Kd.N_drewN | apply Kd.N_drew)); exact Kd.N_mono (Kd.N_far (p := ⟨gb323, 0, none⟩) (Kd.N_mono HO316.out (fun k_ hk => (⟨hk, hk.2⟩ : _ ∧ k_ ≠ gb323))) (fun _ hk => hk.2) (.slice Ao14 t319.length co14)) (fun _ hk => ⟨hk.1.1.2, hk.1.2⟩)⟩
 have n1_ : Aq (Kd.N k47 47 (w13.setCell ⟨gb323, 0, none⟩ (.slice Ao14 t319.length co14)) w.heap.size (fun k_ => some k_ ≠ (.slice Ao10 t314.length co10 : Value).ownBlock ∧ k_ ≠ gb323) (.slice Ao14 t319.length co14) t319) := ⟨by (with_reducible repeat (first | apply Kd.N_alloc | apply Kd.N_drewN | apply Kd.N_drew)); exact Kd.N_mono (Kd.N_far (p := ⟨gb323, 0, none⟩) (Kd.N_mono HO321.out (fun k_ hk => (⟨hk, hk.2⟩ : _ ∧ k_ ≠ gb323))) (fun _ hk => hk.2) (.slice Ao14 t319.length co14)) (fun _ hk => ⟨hk.1.1, hk.1.2⟩)⟩
 have n2_ : Aq ((w13.setCell ⟨gb323, 0, none⟩ (.slice Ao14 t319.length co14)).heap[gb323]? = some (.cells #[.slice Ao14 t319.length co14] 24 (0, 0))) := ⟨by (with_reducible repeat (first | refine q7q ?_ _ | refine q9q ?_ | refine q6q ?_ _)); refine q15q (cs := #[.slice none 0 0]) ?_ 0 _ rfl; (with_reducible repeat (first | refine q7q ?_ _ | refine q9q ?_ | refine q6q ?_ _)); exact BK323.out⟩
 have n3_ : Aq (Below w.heap.size w (w13.setCell ⟨gb323, 0, none⟩ (.slice Ao14 t319.length co14))) := ⟨by repeat (with_reducible first | exact HB.out | apply q4q | apply q0q | apply q2q | refine q5q ?_ GE323.out)⟩
 (try clear HO316)
 (try clear HO321)
 (try clear BK323)
 (try clear HB)
 generalize (w13.setCell ⟨gb323, 0, none⟩ (.slice Ao14 t319.length co14)) = w16 at n0_ n1_ n2_ n3_ ⊢
 have HO316 := n0_
 have HO321 := n1_
 have BK323 := n2_
 have HB := n3_
 clear n0_ n1_ n2_ n3_
 have n0_ := Aq.mk (Kd.N_drew HO316.out)
 have n1_ := Aq.mk (Kd.N_drew HO321.out)
 have n2_ := Aq.mk (q9q BK323.out)
 have n3_ := Aq.mk (q2q HB.out)
 clear HO316
 clear HO321
 clear BK323
 clear HB
 have HO316 := n0_
 have HO321 := n1_
 have BK323 := n2_
 have HB := n3_
 clear n0_ n1_ n2_ n3_
 refine start_ (n := 16) (S := fun w' => w'.cell? ⟨gb323, 0, none⟩ = some (.slice Ao14 t319.length co14)) (ds := []) #[false, false, false, false, false, false, false, false, false, false, false, false, false, false, false, false] (by kernel_rfl) rfl rfl ((q1q BK323.out 0).trans rfl) (fun hHeld => ?_); refine with_tabW tallowlaw21_works.tab3 tallowlaw21_works.bits3 (fun HT_ HW_ => ?_)
 generalize w16.drew = w17 at HO316 HO321 BK323 HB hHeld ⊢
 refine pure_ (i := 0) (N := some 15) (v := ?_) (a' := ?_) (bA 16 1) rfl rfl (q18q HT_.out (by kernel_rfl)) (fun _ _ _ h => h) (Or.inl ⟨by rfl, ?_⟩) ?_ ?_
 rotate_left
 ·intro w'
  go_simp
  with_reducible rfl
 rotate_left
 ·simp only [Act.put, sA_, sZ_, sS_, i64_w, i32_w]
  rfl
 refine pure_ (i := 1) (N := some 16) (v := ?_) (a' := ?_) (bA 16 3) rfl rfl (q18q HT_.out (by kernel_rfl)) (fun _ _ _ h => h) (Or.inl ⟨by rfl, ?_⟩) ?_ ?_
 rotate_left
 ·intro w'
  go_simp
  with_reducible rfl
 rotate_left
 ·simp only [Act.put, sA_, sZ_, sS_, i64_w, i32_w]
  rfl
 refine pure_ (i := 2) (N := some 17) (v := ?_) (a' := ?_) (bA 16 7) rfl rfl (q18q HT_.out (by kernel_rfl)) (fun _ _ _ h => h) (Or.inl ⟨by rfl, ?_⟩) ?_ ?_
 rotate_left
 ·intro w'
  go_simp
  with_reducible rfl
 rotate_left
 ·simp only [Act.put, sA_, sZ_, sS_, i64_w, i32_w]
  rfl
 refine pure_ (i := 3) (N := some 18) (v := ?_) (a' := ?_) (bA 16 15) rfl rfl (q18q HT_.out (by kernel_rfl)) (fun _ _ _ h => h) (Or.inl ⟨by rfl, ?_⟩) ?_ ?_
 rotate_left
 ·intro w'
  go_simp
  with_reducible rfl
 rotate_left
 ·simp only [Act.put, sA_, sZ_, sS_, i64_w, i32_w]
  rfl
 refine pure_ (i := 4) (N := some 19) (v := ?_) (a' := ?_) (bA 16 31) rfl rfl (q18q HT_.out (by kernel_rfl)) (fun _ _ _ h => h) (Or.inl ⟨by rfl, ?_⟩) ?_ ?_
 rotate_left
 ·intro w'
  go_simp
  with_reducible rfl
 rotate_left
 ·simp only [Act.put, sA_, sZ_, sS_, i64_w, i32_w]
  rfl
 refine pure_ (i := 5) (N := some 20) (v := ?_) (a' := ?_) (bA 16 63) rfl rfl (q18q HT_.out (by kernel_rfl)) (fun _ _ _ h => h) (Or.inl ⟨by rfl, ?_⟩) ?_ ?_
 rotate_left
 ·intro w'
  go_simp
  with_reducible rfl
 rotate_left
 ·simp only [Act.put, sA_, sZ_, sS_, i64_w, i32_w]
  rfl
 refine pure_ (i := 6) (N := some 21) (v := ?_) (a' := ?_) (bA 16 127) rfl rfl (q18q HT_.out (by kernel_rfl)) (fun _ _ _ h => h) (Or.inl ⟨by rfl, ?_⟩) ?_ ?_
 rotate_left
 ·intro w'
  go_simp
  with_reducible rfl
 rotate_left
 ·simp only [Act.put, sA_, sZ_, sS_, i64_w, i32_w]
  rfl
 refine pure_ (i := 7) (N := some 22) (v := ?_) (a' := ?_) (bA 16 255) rfl rfl (q18q HT_.out (by kernel_rfl)) (fun _ _ _ h => h) (Or.inl ⟨by rfl, ?_⟩) ?_ ?_
 rotate_left
 ·intro w'
  go_simp
  with_reducible rfl
 rotate_left
 ·simp only [Act.put, sA_, sZ_, sS_, i64_w, i32_w]
  rfl
 refine pure_ (i := 8) (N := some 23) (v := ?_) (a' := ?_) (bA 16 511) rfl rfl (q18q HT_.out (by kernel_rfl)) (fun _ _ _ h => h) (Or.inl ⟨by rfl, ?_⟩) ?_ ?_
 rotate_left
 ·intro w'
  go_simp
  with_reducible rfl
 rotate_left
 ·simp only [Act.put, sA_, sZ_, sS_, i64_w, i32_w]
  rfl
 refine pure_ (i := 9) (N := some 24) (v := ?_) (a' := ?_) (bA 16 1023) rfl rfl (q18q HT_.out (by kernel_rfl)) (fun _ _ _ h => h) (Or.inl ⟨by rfl, ?_⟩) ?_ ?_
 rotate_left
 ·intro w'
  go_simp
  with_reducible rfl
 rotate_left
 ·simp only [Act.put, sA_, sZ_, sS_, i64_w, i32_w]
  rfl
 refine pure_ (i := 10) (N := some 25) (v := ?_) (a' := ?_) (bA 16 2047) rfl rfl (q18q HT_.out (by kernel_rfl)) (fun _ _ _ h => h) (Or.inl ⟨by rfl, ?_⟩) ?_ ?_
 rotate_left
 ·intro w'
  go_simp
  with_reducible rfl
 rotate_left
 ·simp only [Act.put, sA_, sZ_, sS_, i64_w, i32_w]
  rfl
 refine take_ (i := 11) (N := some 26) (v := ?_) (a' := ?_) (bA 16 4095) rfl rfl (q24q HT_.out HW_.out (by kernel_rfl)) (fun _ _ _ h => h) (Or.inl ⟨by rfl, ?_⟩) hHeld ?_ ?_
 rotate_left
 ·intro w' s0
  go_simp
  with_reducible rfl
 rotate_left
 ·simp only [Act.put, sA_, sZ_, sS_, i64_w, i32_w]
  rfl
 refine one_ (i := 12) (N := some 27) (bA 16 8191) rfl rfl (q35q HT_.out (by kernel_rfl)) (by decide) (fun K hK => ?_)
 refine goes_ Try.func18 (by kernel_rfl) rfl #[.slice none 0 0] (by rfl) rfl rfl (by (try simp only [List.map_toArray, List.map_cons, List.map_nil]); first | done | rfl) ?_
 refine (tallowlaw21_least.calls (fun k_ => False) _ _ ([] : List (S42)) t324 _ ?side1 A7.out).mono ?_
 (case side1 => exact Kd.V_nil _ _ _ _ _)
 rintro e w18 ⟨v325, rfl, ho0, hb⟩
 refine ⟨_, rfl, ?_⟩
 have n0_ := Aq.mk (Kd.N_elder' HO316.out (Kd.N_base ho0) hb)
 have n1_ := Aq.mk (Kd.N_elder' HO321.out (Kd.N_base ho0) hb)
 have n2_ := Aq.mk (Kd.N_lower (Kd.N_mono (ok' := fun k_ => some k_ ≠ (.slice Ao10 t314.length co10 : Value).ownBlock ∧ some k_ ≠ (.slice Ao14 t319.length co14 : Value).ownBlock ∧ k_ ≠ gb323) ho0 (fun k_ hk_ => ⟨Or.elim hk_ (fun hs_ => (hs_).elim) (fun hn_ => (Kd.fresh' (Kd.N_lt HO316.out) k_ hn_)), Or.elim hk_ (fun hs_ => (hs_).elim) (fun hn_ => (Kd.fresh' (Kd.N_lt HO321.out) k_ hn_)), Or.elim hk_ (fun hs_ => (hs_).elim) (fun hn_ => (Kd.freshB (g := gb323) (o := .cells #[.slice Ao14 t319.length co14] 24 (0, 0)) BK323.out k_ hn_))⟩)) (q8q (by repeat (with_reducible first | exact HB.out | apply q4q | apply q0q | apply q2q | refine q5q ?_ GE323.out))))
 have n3_ := Aq.mk (q12q (g := gb323) (o := .cells #[.slice Ao14 t319.length co14] 24 (0, 0)) BK323.out hb)
 have n4_ := Aq.mk (q10q (by repeat (with_reducible first | exact HB.out | apply q4q | apply q0q | apply q2q | refine q5q ?_ GE323.out)) hb)
 clear HO316
 clear HO321
 clear BK323
 clear HB
 have HO316 := n0_
 have HO321 := n1_
 have HO326 := n2_
 have BK323 := n3_
 have HB := n4_
 clear n0_ n1_ n2_ n3_ n4_
 (try clear hb)
 (try clear hb2)
 (try clear hk)
 (try clear hi)
 (try clear ho0)
 obtain ⟨Ao19, co19, eo19⟩ := Kd.N_slice HO326.out
 (first | subst eo19 | (injection eo19 with f1_ f2_ f3_; have f4_ := f1_.symm; have f5_ := f3_.symm; clear f1_ f2_ f3_; subst f4_; subst f5_))
 refine hK.out _ _ ((q1q BK323.out 0).trans rfl) (fun hHeld => ?_)
 clear hK K
 refine norm_ (a' := ?_) ?_ ?_
 rotate_left
 ·show Act.put _ (some 27) _ = _
  simp only [Act.put, sA_, sZ_, sS_, i64_w, i32_w]
  rfl
 refine one_ (i := 13) (N := some 28) (bA 16 16383) rfl rfl (q35q HT_.out (by kernel_rfl)) (by decide) (fun K hK => ?_)
 refine goes_ Try.func17 (by kernel_rfl) rfl #[.agg #[.slice Ao14 t319.length co14], .agg #[.slice Ao19 t324.length co19]] (by rfl) rfl rfl (by (try simp only [List.map_toArray, List.map_cons, List.map_nil]); first | done | rfl) ?_
 with_reducible refine (code_Same.calls k _ _ t319 _ _ t324 t327 _ ?side1 ?side2 ?side3 ?side4 A8.out).mono ?_
 (case side1 => exact (Kd.N_reads' HO321.out).2.2)
 (case side2 => exact (Kd.N_reads' HO321.out).2.1)
 (case side3 => exact (Kd.N_reads' HO326.out).2.2)
 (case side4 => exact (Kd.N_reads' HO326.out).2.1)
 rintro e w20 ⟨rfl, hb⟩
 refine ⟨_, rfl, ?_⟩
 have n0_ := Aq.mk (Kd.N_below HO316.out hb)
 have n1_ := Aq.mk (Kd.N_below HO321.out hb)
 have n2_ := Aq.mk (Kd.N_below HO326.out hb)
 have n3_ := Aq.mk (q12q (g := gb323) (o := .cells #[.slice Ao14 t319.length co14] 24 (0, 0)) BK323.out hb)
 have n4_ := Aq.mk (q10q (by repeat (with_reducible first | exact HB.out | apply q4q | apply q0q | apply q2q | refine q5q ?_ GE323.out)) hb)
 clear HO316
 clear HO321
 clear HO326
 clear BK323
 clear HB
 have HO316 := n0_
 have HO321 := n1_
 have HO326 := n2_
 have BK323 := n3_
 have HB := n4_
 clear n0_ n1_ n2_ n3_ n4_
 (try clear hb)
 (try clear hb2)
 (try clear hk)
 (try clear hi)
 refine hK.out _ _ ((q1q BK323.out 0).trans rfl) (fun hHeld => ?_)
 clear hK K
 refine norm_ (a' := ?_) ?_ ?_
 rotate_left
 ·show Act.put _ (some 28) _ = _
  simp only [Act.put, sA_, sZ_, sS_, i64_w, i32_w]
  rfl
 refine pure_ (i := 14) (N := some 29) (v := ?_) (a' := ?_) (bA 16 32767) rfl rfl (q18q HT_.out (by kernel_rfl)) (fun _ _ _ h => h) (Or.inl ⟨by rfl, ?_⟩) ?_ ?_
 rotate_left
 ·intro w'
  go_simp
  with_reducible rfl
 rotate_left
 ·simp only [Act.put, sA_, sZ_, sS_, i64_w, i32_w]
  rfl
 refine pure_ (i := 15) (N := some 0) (v := ?_) (a' := ?_) (bA 16 65535) rfl rfl (q18q HT_.out (by kernel_rfl)) (fun _ _ _ h => h) (Or.inl ⟨by rfl, ?_⟩) ?_ ?_
 rotate_left
 ·intro w'
  go_simp
  with_reducible rfl
 rotate_left
 ·simp only [Act.put, sA_, sZ_, sS_, i64_w, i32_w]
  rfl
 refine done_ (done_of HT_.out (by kernel_rfl)) ?_
 try go_wp2
 go_ret
 exact ⟨by first | rfl | (simp [*] <;> rfl), by repeat (with_reducible first | exact HB.out | apply q4q | apply q0q | apply q2q | refine q5q ?_ GE323.out)⟩
end Go.Proofs.Ytkkgbbfojmnopaa.G
end
