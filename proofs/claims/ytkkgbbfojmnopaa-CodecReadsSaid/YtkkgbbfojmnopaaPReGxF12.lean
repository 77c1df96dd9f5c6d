import Derived.Test.YtkkgbbfojmnopaaPReE11
import Derived.Test.YtkkgbbfojmnopaaPReGx0
import Derived.Test.YtkkgbbfojmnopaaPReGxF10
import Derived.Test.YtkkgbbfojmnopaaPReGxF17
import Derived.Test.YtkkgbbfojmnopaaPReGxF18
set_option linter.unusedVariables false
set_option linter.unusedSimpArgs false
section
namespace Go.Proofs.Ytkkgbbfojmnopaa.G
open Go.RowKit Go.Proofs.YtkkgbbfojmnopaaW.PrintWords Go.Proofs.YtkkgbbfojmnopaaW.PrintLast Go.Proofs.YtkkgbbfojmnopaaW.PrintMore
attribute [local go_sem] q26q q27q q34q q35q q22q q23q q28q q29q
def fQ11.f (k : Nat)  : Option (Bool) := (fQ20.f ([] : List (S42))).bind fun t300 => ((fQ13.f k t300).bind fun bt303 => ((fQ15.f k bt303.1).bind fun bt305 => (if bt303.2 = 0 then (if bt303.1.toList = ([1, 0, 1, 0, 0, 2, 0, 0, 0, 19, 0, 0] : List UInt8) then (if bt305.2 = 0 then ((fQ20.f ([] : List (S42))).bind fun t310 => ((fQ25.f k bt305.1 t310).bind fun t313 => (some t313))) else (some false)) else (some false)) else (some false))))
def fQ11.T3 : Bool × List (List Nat × List Nat) := (true, [([], []), ([0], [0]), ([1], [1]), ([2], [2]), ([3, 2], [2, 3]), ([2, 4], [2, 4]), ([5, 2], [5]), ([6], [6]), ([7, 6], [6, 7]), ([6, 8], [6, 8]), ([9, 6], [9]), ([10], [10]), ([10, 10], [10]), ([11, 12, 12, 10], [10, 11, 12]), ([10, 13], [10, 13]), ([14, 13, 0, 1, 2, 3, 4, 5, 6, 7, 8, 9, 10, 11, 12, 13, 14], [14])])
def fQ11.B3 : List Nat := [0, 1, 3, 7, 15, 31, 63, 127, 255, 511, 1023, 2047, 2047, 8191, 16383, 32767]
theorem fQ11.tab3 : rtab .any (opsOf Try.f12 3) = fQ11.T3 := by kernel_rfl
theorem fQ11.bits3 : waitsOk fQ11.T3.2 fQ11.B3 = true := by kernel_rfl
set_option maxHeartbeats 8000000 in
set_option maxRecDepth 100000 in
theorem fQ11.calls (k : Nat)  (r : Bool) (w : World) (h : fQ11.f k  = some r) :
  Calls Try.prog 12 #[] w fun e w' => e = .returned (.bool r) ∧ Below w.heap.size w w' := by
 have hu24 := Try.underlying24
 have HB := Aq.mk (Below.refl w.heap.size w)
 have H : ((fQ20.f ([] : List (S42))).bind fun t300 => ((fQ13.f k t300).bind fun bt303 => ((fQ15.f k bt303.1).bind fun bt305 => (if bt303.2 = 0 then (if bt303.1.toList = ([1, 0, 1, 0, 0, 2, 0, 0, 0, 19, 0, 0] : List UInt8) then (if bt305.2 = 0 then ((fQ20.f ([] : List (S42))).bind fun t310 => ((fQ25.f k bt305.1 t310).bind fun t313 => (some t313))) else (some false)) else (some false)) else (some false))))) = some r := h
 clear h
 replace H := Option.bind_eq_some_iff.mp H
 obtain ⟨t300, A10, H⟩ := H
 replace H : ((fQ13.f k t300).bind fun bt303 => ((fQ15.f k bt303.1).bind fun bt305 => (if bt303.2 = 0 then (if bt303.1.toList = ([1, 0, 1, 0, 0, 2, 0, 0, 0, 19, 0, 0] : List UInt8) then (if bt305.2 = 0 then ((fQ20.f ([] : List (S42))).bind fun t310 => ((fQ25.f k bt305.1 t310).bind fun t313 => (some t313))) else (some false)) else (some false)) else (some false)))) = some r := H
 have A1 := Aq.mk A10
 clear A10
 replace H := Option.bind_eq_some_iff.mp H
 obtain ⟨⟨t303, t304⟩, A20, H⟩ := H
 replace H : ((fQ15.f k t303).bind fun bt305 => (if t304 = 0 then (if t303.toList = ([1, 0, 1, 0, 0, 2, 0, 0, 0, 19, 0, 0] : List UInt8) then (if bt305.2 = 0 then ((fQ20.f ([] : List (S42))).bind fun t310 => ((fQ25.f k bt305.1 t310).bind fun t313 => (some t313))) else (some false)) else (some false)) else (some false))) = some r := H
 have A2 := Aq.mk A20
 clear A20
 replace H := Option.bind_eq_some_iff.mp H
 obtain ⟨⟨t305, t308⟩, A30, H⟩ := H
 replace H : (if t304 = 0 then (if t303.toList = ([1, 0, 1, 0, 0, 2, 0, 0, 0, 19, 0, 0] : List UInt8) then (if t308 = 0 then ((fQ20.f ([] : List (S42))).bind fun t310 => ((fQ25.f k t305 t310).bind fun t313 => (some t313))) else (some false)) else (some false)) else (some false)) = some r := H
 have A3 := Aq.mk A30
 clear A30
 by_cases c4 : t304 = 0
 case neg =>
  rw [if_neg c4] at H
  have c4b0 : (t304 == 0) = false := beq_eq_false_iff_ne.mpr c4
  have c4b1 : (t304 != 0) = true := bne_iff_ne.mpr c4
  obtain rfl := Option.some.inj H
  go_enter Try.func12, Try.ntmps12
  try go_wp2_with (first | ((with_reducible refine q15q (f := 18) rfl ?_); refine q24q (some 6) rfl rfl Try.func18 (by kernel_rfl) rfl #[.slice none 0 0] rfl (by (try simp only [List.map_toArray, List.map_cons, List.map_nil]); first | done | rfl) ?_; (refine (fQ20.calls (fun k_ => False) _ _ ([] : List (S42)) t300 _ ?side1 A1.out).mono ?_); (case side1 => exact Kd.V_nil _ _ _ _ _); rintro e w39 ⟨v301, rfl, ho0, hb⟩; refine ⟨_, rfl, ?_⟩; have n0_ := Aq.mk (Kd.N_lower (Kd.q21q (ok' := fun k_ => True) ho0 (fun k_ hk_ => trivial)) (q6q (by repeat (with_reducible first | exact HB.out | apply q4q | apply q0q | apply q2q)))); have n1_ := Aq.mk (q10q (by repeat (with_reducible first | exact HB.out | apply q4q | apply q0q | apply q2q)) hb); clear HB; have HO302 := n0_; have HB := n1_; clear n0_ n1_; (try clear hb); (try clear hb2); (try clear hk); (try clear hi); (try clear ho0); obtain ⟨Ao40, co40, eo40⟩ := Kd.q37q HO302.out; subst eo40) | ((with_reducible refine q15q (f := 10) rfl ?_); refine q24q (some 7) rfl rfl Try.func10 (by kernel_rfl) rfl #[.agg #[.slice Ao40 t300.length co40]] rfl (by (try simp only [List.map_toArray, List.map_cons, List.map_nil]); first | done | rfl) ?_; (with_reducible refine (fQ13.calls k _ _ t300 t303 t304 _ ?side1 ?side2 A2.out).mono ?_); (case side1 => exact (Kd.q25q HO302.out).2.2); (case side2 => exact (Kd.q25q HO302.out).2.1); rintro e w41 ⟨rfl, hb⟩; refine ⟨_, rfl, ?_⟩; have n0_ := Aq.mk (Kd.q31q HO302.out hb); have n1_ := Aq.mk (q10q (by repeat (with_reducible first | exact HB.out | apply q4q | apply q0q | apply q2q)) hb); clear HO302; clear HB; have HO302 := n0_; have HB := n1_; clear n0_ n1_; (try clear hb); (try clear hb2); (try clear hk); (try clear hi)) | ((with_reducible refine q15q (f := 13) rfl ?_); refine q24q (some 12) rfl rfl Try.func13 (by kernel_rfl) rfl #[.string t303] rfl (by (try simp only [List.map_toArray, List.map_cons, List.map_nil]); first | done | rfl) ?_; (with_reducible refine (fQ15.calls k t303 t305 t308 _ A3.out).mono ?_); rintro e w42 ⟨v306, rfl, ho0, hb⟩; refine ⟨_, rfl, ?_⟩; have n0_ := Aq.mk (Kd.N_elder' HO302.out (Kd.N_base ho0) hb); have n1_ := Aq.mk (Kd.N_lower (Kd.q21q (ok' := fun k_ => some k_ ≠ (.slice Ao40 t300.length co40 : Value).ownBlock) ho0 (fun k_ hk_ => (Kd.fresh' (Kd.N_lt HO302.out) k_ hk_))) (q6q (by repeat (with_reducible first | exact HB.out | apply q4q | apply q0q | apply q2q)))); have n2_ := Aq.mk (q10q (by repeat (with_reducible first | exact HB.out | apply q4q | apply q0q | apply q2q)) hb); clear HO302; clear HB; have HO302 := n0_; have HO307 := n1_; have HB := n2_; clear n0_ n1_ n2_; (try clear hb); (try clear hb2); (try clear hk); (try clear hi); (try clear ho0)) | ((with_reducible refine q12q (N := 3) rfl ?_); refine q11q ?hg (N := 3) ?hd (cs := #[.slice none 0 0]) (t := 24) ?hr ?_; (case hd => rfl); (case hg => rfl); (case hr => first | (go_simp; done) | (go_simp; rfl)); intro gb309 hg w43 hbox hb; have n0_ := Aq.mk (Kd.q31q (Kd.N_elderB HO302.out gb309 (Nat.le_of_eq hg.symm)) hb); have n1_ := Aq.mk (Kd.q31q (Kd.N_elderB HO307.out gb309 (Nat.le_of_eq hg.symm)) hb); have n2_ := Aq.mk (q10q (by repeat (with_reducible first | exact HB.out | apply q4q | apply q0q | apply q2q)) hb); have n3_ := Aq.mk (hbox); have n4_ := Aq.mk ((by rw [hg]; exact (q6q (by repeat (with_reducible first | exact HB.out | apply q4q | apply q0q | apply q2q))) : w.heap.size ≤ gb309)); have n5_ := Aq.mk ((by rw [hg]; exact (q6q (by repeat (with_reducible first | exact HB.out | apply q4q | apply q0q | apply q2q))) : w.heap.size ≤ gb309)); clear HO302; clear HO307; clear HB; have HO302 := n0_; have HO307 := n1_; have HB := n2_; have BK309 := n3_; have GW309 := n4_; have GE309 := n5_; clear n0_ n1_ n2_ n3_ n4_ n5_; clear hb hbox hg; obtain ⟨Ao44, co44, eo44⟩ := Kd.q37q HO307.out; subst eo44; have hcz45_0 : w43.cell? ⟨gb309, 0, none⟩ = some (.slice none 0 0) := (q3q BK309.out 0).trans rfl; have hfz45_0 := q1q BK309.out 0))
  have n0_ : Aq (Kd.N k47 47 (w43.setCell ⟨gb309, 0, none⟩ (.slice Ao44 t305.length co44)) w.heap.size (fun k_ => some k_ ≠ (.slice Ao44 t305.length co44 : Value).ownBlock ∧ k_ ≠ gb309) (.slice Ao40 t300.length co40) t300) := ⟨by (with_reducible repeat (first | apply Kd.N_alloc | apply Kd.N_drewN | apply Kd.q36q)); exact Kd.q21q (Kd.N_far (p := ⟨gb309, 0, none⟩) (Kd.q21q HO302.out (fun k_ hk => (⟨hk, hk.2⟩ : _ ∧ k_ ≠ gb309))) (fun _ hk => hk.2) (.slice Ao44 t305.length co44)) (fun _ hk => ⟨hk.1.1.2, hk.1.2⟩)⟩
  have n1_ : Aq (Kd.N k47 47 (w43.setCell ⟨gb309, 0, none⟩ (.slice Ao44 t305.length co44)) w.heap.size (fun k_ => some k_ ≠ (.slice Ao40 t300.length co40 : Value).ownBlock ∧ k_ ≠ gb309) (.slice Ao44 t305.length co44) t305) := ⟨by (with_reducible repeat (first | apply Kd.N_alloc | apply Kd.N_drewN | apply Kd.q36q)); exact Kd.q21q (Kd.N_far (p := ⟨gb309, 0, none⟩) (Kd.q21q HO307.out (fun k_ hk => (⟨hk, hk.2⟩ : _ ∧ k_ ≠ gb309))) (fun _ hk => hk.2) (.slice Ao44 t305.length co44)) (fun _ hk => ⟨hk.1.1, hk.1.2⟩)⟩
  have n2_ : Aq ((w43.setCell ⟨gb309, 0, none⟩ (.slice Ao44 t305.length co44)).heap[gb309]? = some (.cells #[.slice Ao44 t305.length co44] 24 (0, 0))) := ⟨by (with_reducible repeat (first | refine q8q ?_ _ | refine q9q ?_ | refine q7q ?_ _)); refine q14q (cs := #[.slice none 0 0]) ?_ 0 _ rfl; (with_reducible repeat (first | refine q8q ?_ _ | refine q9q ?_ | refine q7q ?_ _)); exact BK309.out⟩
  have n3_ : Aq (Below w.heap.size w (w43.setCell ⟨gb309, 0, none⟩ (.slice Ao44 t305.length co44))) := ⟨by repeat (with_reducible first | exact HB.out | apply q4q | apply q0q | apply q2q | refine q5q ?_ GE309.out)⟩
  (try clear HO302)
  (try clear HO307)
  (try clear BK309)
  (try clear HB)
  generalize (w43.setCell ⟨gb309, 0, none⟩ (.slice Ao44 t305.length co44)) = w46 at n0_ n1_ n2_ n3_ ⊢
  have HO302 := n0_
  have HO307 := n1_
  have BK309 := n2_
  have HB := n3_
  clear n0_ n1_ n2_ n3_
  have n0_ := Aq.mk (Kd.q36q HO302.out)
  have n1_ := Aq.mk (Kd.q36q HO307.out)
  have n2_ := Aq.mk (q9q BK309.out)
  have n3_ := Aq.mk (q2q HB.out)
  clear HO302
  clear HO307
  clear BK309
  clear HB
  have HO302 := n0_
  have HO307 := n1_
  have BK309 := n2_
  have HB := n3_
  clear n0_ n1_ n2_ n3_
  refine start_ (n := 16) (S := fun w' => True) (ds := []) #[false, false, false, false, false, false, false, false, false, false, false, false, false, false, false, false] (by kernel_rfl) rfl rfl trivial (fun hHeld => ?_); refine with_tabW fQ11.tab3 fQ11.bits3 (fun HT_ HW_ => ?_)
  generalize w46.drew = w47 at HO302 HO307 BK309 HB hHeld ⊢
  refine pure_ (i := 0) (N := some 15) (v := ?_) (a' := ?_) (bA 16 1) rfl rfl (q17q HT_.out (by kernel_rfl)) (fun _ _ _ h => h) (Or.inl ⟨by rfl, ?_⟩) ?_ ?_
  rotate_left
  ·intro w'
   go_simp
   with_reducible rfl
  rotate_left
  ·simp only [Act.put, sA_, sZ_, sS_, i64_w, i32_w]
   rfl
  refine pure_ (i := 1) (N := some 16) (v := ?_) (a' := ?_) (bA 16 3) rfl rfl (q17q HT_.out (by kernel_rfl)) (fun _ _ _ h => h) (Or.inl ⟨by rfl, ?_⟩) ?_ ?_
  rotate_left
  ·intro w'
   go_simp
   with_reducible rfl
  rotate_left
  ·simp only [Act.put, sA_, sZ_, sS_, i64_w, i32_w]
   rfl
  refine pure_ (i := 2) (N := some 17) (v := ?_) (a' := ?_) (bA 16 7) rfl rfl (q17q HT_.out (by kernel_rfl)) (fun _ _ _ h => h) (Or.inl ⟨by rfl, ?_⟩) ?_ ?_
  rotate_left
  ·intro w'
   go_simp
   with_reducible rfl
  rotate_left
  ·simp only [Act.put, sA_, sZ_, sS_, i64_w, i32_w]
   rfl
  refine pure_ (i := 3) (N := some 18) (v := undef) (a' := ?_) (bA 16 15) rfl rfl (q17q HT_.out (by kernel_rfl)) (fun _ _ _ h => h) (Or.inr ⟨by rfl, rfl⟩) ?_ ?_
  rotate_left
  ·simp only [Act.put, sA_, sZ_, sS_, i64_w, i32_w]
   rfl
  refine pure_ (i := 4) (N := some 19) (v := undef) (a' := ?_) (bA 16 31) rfl rfl (q17q HT_.out (by kernel_rfl)) (fun _ _ _ h => h) (Or.inr ⟨by rfl, rfl⟩) ?_ ?_
  rotate_left
  ·simp only [Act.put, sA_, sZ_, sS_, i64_w, i32_w]
   rfl
  refine pure_ (i := 5) (N := some 20) (v := ?_) (a' := ?_) (bA 16 63) rfl rfl (q17q HT_.out (by kernel_rfl)) (fun _ _ _ h => h) (Or.inl ⟨by rfl, ?_⟩) ?_ ?_
  rotate_left
  ·intro w'
   go_simp
   with_reducible rfl
  rotate_left
  ·simp only [Act.put, sA_, sZ_, sS_, i64_w, i32_w]
   rfl
  refine pure_ (i := 6) (N := some 21) (v := ?_) (a' := ?_) (bA 16 127) rfl rfl (q17q HT_.out (by kernel_rfl)) (fun _ _ _ h => h) (Or.inl ⟨by rfl, ?_⟩) ?_ ?_
  rotate_left
  ·intro w'
   go_simp
   with_reducible rfl
  rotate_left
  ·simp only [Act.put, sA_, sZ_, sS_, i64_w, i32_w]
   rfl
  refine pure_ (i := 7) (N := some 22) (v := undef) (a' := ?_) (bA 16 255) rfl rfl (q17q HT_.out (by kernel_rfl)) (fun _ _ _ h => h) (Or.inr ⟨by rfl, rfl⟩) ?_ ?_
  rotate_left
  ·simp only [Act.put, sA_, sZ_, sS_, i64_w, i32_w]
   rfl
  refine pure_ (i := 8) (N := some 23) (v := undef) (a' := ?_) (bA 16 511) rfl rfl (q17q HT_.out (by kernel_rfl)) (fun _ _ _ h => h) (Or.inr ⟨by rfl, rfl⟩) ?_ ?_
  rotate_left
  ·simp only [Act.put, sA_, sZ_, sS_, i64_w, i32_w]
   rfl
  refine pure_ (i := 9) (N := some 24) (v := ?_) (a' := ?_) (bA 16 1023) rfl rfl (q17q HT_.out (by kernel_rfl)) (fun _ _ _ h => h) (Or.inl ⟨by rfl, ?_⟩) ?_ ?_
  rotate_left
  ·intro w'
   go_simp
   with_reducible rfl
  rotate_left
  ·simp only [Act.put, sA_, sZ_, sS_, i64_w, i32_w]
   rfl
  refine pure_ (i := 10) (N := some 25) (v := ?_) (a' := ?_) (bA 16 2047) rfl rfl (q17q HT_.out (by kernel_rfl)) (fun _ _ _ h => h) (Or.inl ⟨by rfl, ?_⟩) ?_ ?_
  rotate_left
  ·intro w'
   go_simp
   with_reducible rfl
  rotate_left
  ·simp only [Act.put, sA_, sZ_, sS_, i64_w, i32_w]
   rfl
  refine pure_ (i := 11) (N := some 26) (v := undef) (a' := ?_) (bA 16 4095) rfl rfl (q17q HT_.out (by kernel_rfl)) (fun _ _ _ h => h) (Or.inr ⟨by rfl, rfl⟩) ?_ ?_
  rotate_left
  ·simp only [Act.put, sA_, sZ_, sS_, i64_w, i32_w]
   rfl
  refine pure_ (i := 12) (N := some 27) (v := undef) (a' := ?_) (bA 16 8191) rfl rfl (q17q HT_.out (by kernel_rfl)) (fun _ _ _ h => h) (Or.inr ⟨by rfl, rfl⟩) ?_ ?_
  rotate_left
  ·simp only [Act.put, sA_, sZ_, sS_, i64_w, i32_w]
   rfl
  refine pure_ (i := 13) (N := some 28) (v := undef) (a' := ?_) (bA 16 16383) rfl rfl (q17q HT_.out (by kernel_rfl)) (fun _ _ _ h => h) (Or.inr ⟨by rfl, rfl⟩) ?_ ?_
  rotate_left
  ·simp only [Act.put, sA_, sZ_, sS_, i64_w, i32_w]
   rfl
  refine pure_ (i := 14) (N := some 29) (v := ?_) (a' := ?_) (bA 16 32767) rfl rfl (q17q HT_.out (by kernel_rfl)) (fun _ _ _ h => h) (Or.inl ⟨by rfl, ?_⟩) ?_ ?_
  rotate_left
  ·intro w'
   go_simp
   with_reducible rfl
  rotate_left
  ·simp only [Act.put, sA_, sZ_, sS_, i64_w, i32_w]
   rfl
  refine pure_ (i := 15) (N := some 0) (v := ?_) (a' := ?_) (bA 16 65535) rfl rfl (q17q HT_.out (by kernel_rfl)) (fun _ _ _ h => h) (Or.inl ⟨by rfl, ?_⟩) ?_ ?_
  rotate_left
  ·intro w'
   go_simp
   with_reducible rfl
  rotate_left
  ·simp only [Act.put, sA_, sZ_, sS_, i64_w, i32_w]
   rfl
  refine done_ (done_of HT_.out (by kernel_rfl)) ?_
  try go_wp2
  go_ret
  exact ⟨by first | rfl | (simp [*] <;> rfl), by repeat (with_reducible first | exact HB.out | apply q4q | apply q0q | apply q2q | refine q5q ?_ GE309.out)⟩
 rw [if_pos c4] at H
 have c4b0 : (t304 == 0) = true := beq_iff_eq.mpr c4
 have c4b1 : (t304 != 0) = false := bne_eq_false_iff_eq.mpr c4
 clear c4
 by_cases c5 : t303.toList = ([1, 0, 1, 0, 0, 2, 0, 0, 0, 19, 0, 0] : List UInt8)
 case neg =>
  rw [if_neg c5] at H
  have c5b0 : (t303.toList == ([1, 0, 1, 0, 0, 2, 0, 0, 0, 19, 0, 0] : List UInt8)) = false := beq_eq_false_iff_ne.mpr c5
  have c5b1 : (t303.toList != ([1, 0, 1, 0, 0, 2, 0, 0, 0, 19, 0, 0] : List UInt8)) = true := bne_iff_ne.mpr c5
  obtain rfl := Option.some.inj H
  go_enter Try.func12, Try.ntmps12
  try go_wp2_with (first | ((with_reducible refine q15q (f := 18) rfl ?_); refine q24q (some 6) rfl rfl Try.func18 (by kernel_rfl) rfl #[.slice none 0 0] rfl (by (try simp only [List.map_toArray, List.map_cons, List.map_nil]); first | done | rfl) ?_; (refine (fQ20.calls (fun k_ => False) _ _ ([] : List (S42)) t300 _ ?side1 A1.out).mono ?_); (case side1 => exact Kd.V_nil _ _ _ _ _); rintro e w30 ⟨v301, rfl, ho0, hb⟩; refine ⟨_, rfl, ?_⟩; have n0_ := Aq.mk (Kd.N_lower (Kd.q21q (ok' := fun k_ => True) ho0 (fun k_ hk_ => trivial)) (q6q (by repeat (with_reducible first | exact HB.out | apply q4q | apply q0q | apply q2q)))); have n1_ := Aq.mk (q10q (by repeat (with_reducible first | exact HB.out | apply q4q | apply q0q | apply q2q)) hb); clear HB; have HO302 := n0_; have HB := n1_; clear n0_ n1_; (try clear hb); (try clear hb2); (try clear hk); (try clear hi); (try clear ho0); obtain ⟨Ao31, co31, eo31⟩ := Kd.q37q HO302.out; subst eo31) | ((with_reducible refine q15q (f := 10) rfl ?_); refine q24q (some 7) rfl rfl Try.func10 (by kernel_rfl) rfl #[.agg #[.slice Ao31 t300.length co31]] rfl (by (try simp only [List.map_toArray, List.map_cons, List.map_nil]); first | done | rfl) ?_; (with_reducible refine (fQ13.calls k _ _ t300 t303 t304 _ ?side1 ?side2 A2.out).mono ?_); (case side1 => exact (Kd.q25q HO302.out).2.2); (case side2 => exact (Kd.q25q HO302.out).2.1); rintro e w32 ⟨rfl, hb⟩; refine ⟨_, rfl, ?_⟩; have n0_ := Aq.mk (Kd.q31q HO302.out hb); have n1_ := Aq.mk (q10q (by repeat (with_reducible first | exact HB.out | apply q4q | apply q0q | apply q2q)) hb); clear HO302; clear HB; have HO302 := n0_; have HB := n1_; clear n0_ n1_; (try clear hb); (try clear hb2); (try clear hk); (try clear hi)) | ((with_reducible refine q15q (f := 13) rfl ?_); refine q24q (some 12) rfl rfl Try.func13 (by kernel_rfl) rfl #[.string t303] rfl (by (try simp only [List.map_toArray, List.map_cons, List.map_nil]); first | done | rfl) ?_; (with_reducible refine (fQ15.calls k t303 t305 t308 _ A3.out).mono ?_); rintro e w33 ⟨v306, rfl, ho0, hb⟩; refine ⟨_, rfl, ?_⟩; have n0_ := Aq.mk (Kd.N_elder' HO302.out (Kd.N_base ho0) hb); have n1_ := Aq.mk (Kd.N_lower (Kd.q21q (ok' := fun k_ => some k_ ≠ (.slice Ao31 t300.length co31 : Value).ownBlock) ho0 (fun k_ hk_ => (Kd.fresh' (Kd.N_lt HO302.out) k_ hk_))) (q6q (by repeat (with_reducible first | exact HB.out | apply q4q | apply q0q | apply q2q)))); have n2_ := Aq.mk (q10q (by repeat (with_reducible first | exact HB.out | apply q4q | apply q0q | apply q2q)) hb); clear HO302; clear HB; have HO302 := n0_; have HO307 := n1_; have HB := n2_; clear n0_ n1_ n2_; (try clear hb); (try clear hb2); (try clear hk); (try clear hi); (try clear ho0)) | ((with_reducible refine q12q (N := 3) rfl ?_); refine q11q ?hg (N := 3) ?hd (cs := #[.slice none 0 0]) (t := 24) ?hr ?_; (case hd => rfl); (case hg => rfl); (case hr => first | (go_simp; done) | (go_simp; rfl)); intro gb309 hg w34 hbox hb; have n0_ := Aq.mk (Kd.q31q (Kd.N_elderB HO302.out gb309 (Nat.le_of_eq hg.symm)) hb); have n1_ := Aq.mk (Kd.q31q (Kd.N_elderB HO307.out gb309 (Nat.le_of_eq hg.symm)) hb); have n2_ := Aq.mk (q10q (by repeat (with_reducible first | exact HB.out | apply q4q | apply q0q | apply q2q)) hb); have n3_ := Aq.mk (hbox); have n4_ := Aq.mk ((by rw [hg]; exact (q6q (by repeat (with_reducible first | exact HB.out | apply q4q | apply q0q | apply q2q))) : w.heap.size ≤ gb309)); have n5_ := Aq.mk ((by rw [hg]; exact (q6q (by repeat (with_reducible first | exact HB.out | apply q4q | apply q0q | apply q2q))) : w.heap.size ≤ gb309)); clear HO302; clear HO307; clear HB; have HO302 := n0_; have HO307 := n1_; have HB := n2_; have BK309 := n3_; have GW309 := n4_; have GE309 := n5_; clear n0_ n1_ n2_ n3_ n4_ n5_; clear hb hbox hg; obtain ⟨Ao35, co35, eo35⟩ := Kd.q37q HO307.out; subst eo35; have hcz36_0 : w34.cell? ⟨gb309, 0, none⟩ = some (.slice none 0 0) := (q3q BK309.out 0).trans rfl; have hfz36_0 := q1q BK309.out 0))
  have n0_ : Aq (Kd.N k47 47 (w34.setCell ⟨gb309, 0, none⟩ (.slice Ao35 t305.length co35)) w.heap.size (fun k_ => some k_ ≠ (.slice Ao35 t305.length co35 : Value).ownBlock ∧ k_ ≠ gb309) (.slice Ao31 t300.length co31) t300) := ⟨by (with_reducible repeat (first | apply Kd.N_alloc | apply Kd.N_drewN | apply Kd.q36q)); exact Kd.q21q (Kd.N_far (p := ⟨gb309, 0, none⟩) (Kd.q21q HO302.out (fun k_ hk => (⟨hk, hk.2⟩ : _ ∧ k_ ≠ gb309))) (fun _ hk => hk.2) (.slice Ao35 t305.length co35)) (fun _ hk => ⟨hk.1.1.2, hk.1.2⟩)⟩
  have n1_ : Aq (Kd.N k47 47 (w34.setCell ⟨gb309, 0, none⟩ (.slice Ao35 t305.length co35)) w.heap.size (fun k_ => some k_ ≠ (.slice Ao31 t300.length co31 : Value).ownBlock ∧ k_ ≠ gb309) (.slice Ao35 t305.length co35) t305) := ⟨by (with_reducible repeat (first | apply Kd.N_alloc | apply Kd.N_drewN | apply Kd.q36q)); exact Kd.q21q (Kd.N_far (p := ⟨gb309, 0, none⟩) (Kd.q21q HO307.out (fun k_ hk => (⟨hk, hk.2⟩ : _ ∧ k_ ≠ gb309))) (fun _ hk => hk.2) (.slice Ao35 t305.length co35)) (fun _ hk => ⟨hk.1.1, hk.1.2⟩)⟩
  have n2_ : Aq ((w34.setCell ⟨gb309, 0, none⟩ (.slice Ao35 t305.length co35)).heap[gb309]? = some (.cells #[.slice Ao35 t305.length co35] 24 (0, 0))) := ⟨by (with_reducible repeat (first | refine q8q ?_ _ | refine q9q ?_ | refine q7q ?_ _)); refine q14q (cs := #[.slice none 0 0]) ?_ 0 _ rfl; (with_reducible repeat (first | refine q8q ?_ _ | refine q9q ?_ | refine q7q ?_ _)); exact BK309.out⟩
  have n3_ : Aq (Below w.heap.size w (w34.setCell ⟨gb309, 0, none⟩ (.slice Ao35 t305.length co35))) := ⟨by repeat (with_reducible first | exact HB.out | apply q4q | apply q0q | apply q2q | refine q5q ?_ GE309.out)⟩
  (try clear HO302)
  (try clear HO307)
  (try clear BK309)
  (try clear HB)
  generalize (w34.setCell ⟨gb309, 0, none⟩ (.slice Ao35 t305.length co35)) = w37 at n0_ n1_ n2_ n3_ ⊢
  have HO302 := n0_
  have HO307 := n1_
  have BK309 := n2_
  have HB := n3_
  clear n0_ n1_ n2_ n3_
  have n0_ := Aq.mk (Kd.q36q HO302.out)
  have n1_ := Aq.mk (Kd.q36q HO307.out)
  have n2_ := Aq.mk (q9q BK309.out)
  have n3_ := Aq.mk (q2q HB.out)
  clear HO302
  clear HO307
  clear BK309
  clear HB
  have HO302 := n0_
  have HO307 := n1_
  have BK309 := n2_
  have HB := n3_
  clear n0_ n1_ n2_ n3_
  refine start_ (n := 16) (S := fun w' => True) (ds := []) #[false, false, false, false, false, false, false, false, false, false, false, false, false, false, false, false] (by kernel_rfl) rfl rfl trivial (fun hHeld => ?_); refine with_tabW fQ11.tab3 fQ11.bits3 (fun HT_ HW_ => ?_)
  generalize w37.drew = w38 at HO302 HO307 BK309 HB hHeld ⊢
  refine pure_ (i := 0) (N := some 15) (v := ?_) (a' := ?_) (bA 16 1) rfl rfl (q17q HT_.out (by kernel_rfl)) (fun _ _ _ h => h) (Or.inl ⟨by rfl, ?_⟩) ?_ ?_
  rotate_left
  ·intro w'
   go_simp
   with_reducible rfl
  rotate_left
  ·simp only [Act.put, sA_, sZ_, sS_, i64_w, i32_w]
   rfl
  refine pure_ (i := 1) (N := some 16) (v := ?_) (a' := ?_) (bA 16 3) rfl rfl (q17q HT_.out (by kernel_rfl)) (fun _ _ _ h => h) (Or.inl ⟨by rfl, ?_⟩) ?_ ?_
  rotate_left
  ·intro w'
   go_simp
   with_reducible rfl
  rotate_left
  ·simp only [Act.put, sA_, sZ_, sS_, i64_w, i32_w]
   rfl
  refine pure_ (i := 2) (N := some 17) (v := ?_) (a' := ?_) (bA 16 7) rfl rfl (q17q HT_.out (by kernel_rfl)) (fun _ _ _ h => h) (Or.inl ⟨by rfl, ?_⟩) ?_ ?_
  rotate_left
  ·intro w'
   go_simp
   with_reducible rfl
  rotate_left
  ·simp only [Act.put, sA_, sZ_, sS_, i64_w, i32_w]
   rfl
  refine pure_ (i := 3) (N := some 18) (v := ?_) (a' := ?_) (bA 16 15) rfl rfl (q17q HT_.out (by kernel_rfl)) (fun _ _ _ h => h) (Or.inl ⟨by rfl, ?_⟩) ?_ ?_
  rotate_left
  ·intro w'
   go_simp
   with_reducible rfl
  rotate_left
  ·simp only [Act.put, sA_, sZ_, sS_, i64_w, i32_w]
   rfl
  refine pure_ (i := 4) (N := some 19) (v := ?_) (a' := ?_) (bA 16 31) rfl rfl (q17q HT_.out (by kernel_rfl)) (fun _ _ _ h => h) (Or.inl ⟨by rfl, ?_⟩) ?_ ?_
  rotate_left
  ·intro w'
   go_simp
   with_reducible rfl
  rotate_left
  ·simp only [Act.put, sA_, sZ_, sS_, i64_w, i32_w]
   rfl
  refine pure_ (i := 5) (N := some 20) (v := ?_) (a' := ?_) (bA 16 63) rfl rfl (q17q HT_.out (by kernel_rfl)) (fun _ _ _ h => h) (Or.inl ⟨by rfl, ?_⟩) ?_ ?_
  rotate_left
  ·intro w'
   go_simp
   with_reducible rfl
  rotate_left
  ·simp only [Act.put, sA_, sZ_, sS_, i64_w, i32_w]
   rfl
  refine pure_ (i := 6) (N := some 21) (v := ?_) (a' := ?_) (bA 16 127) rfl rfl (q17q HT_.out (by kernel_rfl)) (fun _ _ _ h => h) (Or.inl ⟨by rfl, ?_⟩) ?_ ?_
  rotate_left
  ·intro w'
   go_simp
   with_reducible rfl
  rotate_left
  ·simp only [Act.put, sA_, sZ_, sS_, i64_w, i32_w]
   rfl
  refine pure_ (i := 7) (N := some 22) (v := undef) (a' := ?_) (bA 16 255) rfl rfl (q17q HT_.out (by kernel_rfl)) (fun _ _ _ h => h) (Or.inr ⟨by rfl, rfl⟩) ?_ ?_
  rotate_left
  ·simp only [Act.put, sA_, sZ_, sS_, i64_w, i32_w]
   rfl
  refine pure_ (i := 8) (N := some 23) (v := undef) (a' := ?_) (bA 16 511) rfl rfl (q17q HT_.out (by kernel_rfl)) (fun _ _ _ h => h) (Or.inr ⟨by rfl, rfl⟩) ?_ ?_
  rotate_left
  ·simp only [Act.put, sA_, sZ_, sS_, i64_w, i32_w]
   rfl
  refine pure_ (i := 9) (N := some 24) (v := ?_) (a' := ?_) (bA 16 1023) rfl rfl (q17q HT_.out (by kernel_rfl)) (fun _ _ _ h => h) (Or.inl ⟨by rfl, ?_⟩) ?_ ?_
  rotate_left
  ·intro w'
   go_simp
   with_reducible rfl
  rotate_left
  ·simp only [Act.put, sA_, sZ_, sS_, i64_w, i32_w]
   rfl
  refine pure_ (i := 10) (N := some 25) (v := ?_) (a' := ?_) (bA 16 2047) rfl rfl (q17q HT_.out (by kernel_rfl)) (fun _ _ _ h => h) (Or.inl ⟨by rfl, ?_⟩) ?_ ?_
  rotate_left
  ·intro w'
   go_simp
   with_reducible rfl
  rotate_left
  ·simp only [Act.put, sA_, sZ_, sS_, i64_w, i32_w]
   rfl
  refine pure_ (i := 11) (N := some 26) (v := undef) (a' := ?_) (bA 16 4095) rfl rfl (q17q HT_.out (by kernel_rfl)) (fun _ _ _ h => h) (Or.inr ⟨by rfl, rfl⟩) ?_ ?_
  rotate_left
  ·simp only [Act.put, sA_, sZ_, sS_, i64_w, i32_w]
   rfl
  refine pure_ (i := 12) (N := some 27) (v := undef) (a' := ?_) (bA 16 8191) rfl rfl (q17q HT_.out (by kernel_rfl)) (fun _ _ _ h => h) (Or.inr ⟨by rfl, rfl⟩) ?_ ?_
  rotate_left
  ·simp only [Act.put, sA_, sZ_, sS_, i64_w, i32_w]
   rfl
  refine pure_ (i := 13) (N := some 28) (v := undef) (a' := ?_) (bA 16 16383) rfl rfl (q17q HT_.out (by kernel_rfl)) (fun _ _ _ h => h) (Or.inr ⟨by rfl, rfl⟩) ?_ ?_
  rotate_left
  ·simp only [Act.put, sA_, sZ_, sS_, i64_w, i32_w]
   rfl
  refine pure_ (i := 14) (N := some 29) (v := ?_) (a' := ?_) (bA 16 32767) rfl rfl (q17q HT_.out (by kernel_rfl)) (fun _ _ _ h => h) (Or.inl ⟨by rfl, ?_⟩) ?_ ?_
  rotate_left
  ·intro w'
   go_simp
   with_reducible rfl
  rotate_left
  ·simp only [Act.put, sA_, sZ_, sS_, i64_w, i32_w]
   rfl
  refine pure_ (i := 15) (N := some 0) (v := ?_) (a' := ?_) (bA 16 65535) rfl rfl (q17q HT_.out (by kernel_rfl)) (fun _ _ _ h => h) (Or.inl ⟨by rfl, ?_⟩) ?_ ?_
  rotate_left
  ·intro w'
   go_simp
   with_reducible rfl
  rotate_left
  ·simp only [Act.put, sA_, sZ_, sS_, i64_w, i32_w]
   rfl
  refine done_ (done_of HT_.out (by kernel_rfl)) ?_
  try go_wp2
  go_ret
  exact ⟨by first | rfl | (simp [*] <;> rfl), by repeat (with_reducible first | exact HB.out | apply q4q | apply q0q | apply q2q | refine q5q ?_ GE309.out)⟩
 rw [if_pos c5] at H
 have c5b0 : (t303.toList == ([1, 0, 1, 0, 0, 2, 0, 0, 0, 19, 0, 0] : List UInt8)) = true := beq_iff_eq.mpr c5
 have c5b1 : (t303.toList != ([1, 0, 1, 0, 0, 2, 0, 0, 0, 19, 0, 0] : List UInt8)) = false := bne_eq_false_iff_eq.mpr c5
 clear c5
 by_cases c6 : t308 = 0
 case neg =>
  rw [if_neg c6] at H
  have c6b0 : (t308 == 0) = false := beq_eq_false_iff_ne.mpr c6
  have c6b1 : (t308 != 0) = true := bne_iff_ne.mpr c6
  obtain rfl := Option.some.inj H
  go_enter Try.func12, Try.ntmps12
  try go_wp2_with (first | ((with_reducible refine q15q (f := 18) rfl ?_); refine q24q (some 6) rfl rfl Try.func18 (by kernel_rfl) rfl #[.slice none 0 0] rfl (by (try simp only [List.map_toArray, List.map_cons, List.map_nil]); first | done | rfl) ?_; (refine (fQ20.calls (fun k_ => False) _ _ ([] : List (S42)) t300 _ ?side1 A1.out).mono ?_); (case side1 => exact Kd.V_nil _ _ _ _ _); rintro e w21 ⟨v301, rfl, ho0, hb⟩; refine ⟨_, rfl, ?_⟩; have n0_ := Aq.mk (Kd.N_lower (Kd.q21q (ok' := fun k_ => True) ho0 (fun k_ hk_ => trivial)) (q6q (by repeat (with_reducible first | exact HB.out | apply q4q | apply q0q | apply q2q)))); have n1_ := Aq.mk (q10q (by repeat (with_reducible first | exact HB.out | apply q4q | apply q0q | apply q2q)) hb); clear HB; have HO302 := n0_; have HB := n1_; clear n0_ n1_; (try clear hb); (try clear hb2); (try clear hk); (try clear hi); (try clear ho0); obtain ⟨Ao22, co22, eo22⟩ := Kd.q37q HO302.out; subst eo22) | ((with_reducible refine q15q (f := 10) rfl ?_); refine q24q (some 7) rfl rfl Try.func10 (by kernel_rfl) rfl #[.agg #[.slice Ao22 t300.length co22]] rfl (by (try simp only [List.map_toArray, List.map_cons, List.map_nil]); first | done | rfl) ?_; (with_reducible refine (fQ13.calls k _ _ t300 t303 t304 _ ?side1 ?side2 A2.out).mono ?_); (case side1 => exact (Kd.q25q HO302.out).2.2); (case side2 => exact (Kd.q25q HO302.out).2.1); rintro e w23 ⟨rfl, hb⟩; refine ⟨_, rfl, ?_⟩; have n0_ := Aq.mk (Kd.q31q HO302.out hb); have n1_ := Aq.mk (q10q (by repeat (with_reducible first | exact HB.out | apply q4q | apply q0q | apply q2q)) hb); clear HO302; clear HB; have HO302 := n0_; have HB := n1_; clear n0_ n1_; (try clear hb); (try clear hb2); (try clear hk); (try clear hi)) | ((with_reducible refine q15q (f := 13) rfl ?_); refine q24q (some 12) rfl rfl Try.func13 (by kernel_rfl) rfl #[.string t303] rfl (by (try simp only [List.map_toArray, List.map_cons, List.map_nil]); first | done | rfl) ?_; (with_reducible refine (fQ15.calls k t303 t305 t308 _ A3.out).mono ?_); rintro e w24 ⟨v306, rfl, ho0, hb⟩; refine ⟨_, rfl, ?_⟩; have n0_ := Aq.mk (Kd.N_elder' HO302.out (Kd.N_base ho0) hb); have n1_ := Aq.mk (Kd.N_lower (Kd.q21q (ok' := fun k_ => some k_ ≠ (.slice Ao22 t300.length co22 : Value).ownBlock) ho0 (fun k_ hk_ => (Kd.fresh' (Kd.N_lt HO302.out) k_ hk_))) (q6q (by repeat (with_reducible first | exact HB.out | apply q4q | apply q0q | apply q2q)))); have n2_ := Aq.mk (q10q (by repeat (with_reducible first | exact HB.out | apply q4q | apply q0q | apply q2q)) hb); clear HO302; clear HB; have HO302 := n0_; have HO307 := n1_; have HB := n2_; clear n0_ n1_ n2_; (try clear hb); (try clear hb2); (try clear hk); (try clear hi); (try clear ho0)) | ((with_reducible refine q12q (N := 3) rfl ?_); refine q11q ?hg (N := 3) ?hd (cs := #[.slice none 0 0]) (t := 24) ?hr ?_; (case hd => rfl); (case hg => rfl); (case hr => first | (go_simp; done) | (go_simp; rfl)); intro gb309 hg w25 hbox hb; have n0_ := Aq.mk (Kd.q31q (Kd.N_elderB HO302.out gb309 (Nat.le_of_eq hg.symm)) hb); have n1_ := Aq.mk (Kd.q31q (Kd.N_elderB HO307.out gb309 (Nat.le_of_eq hg.symm)) hb); have n2_ := Aq.mk (q10q (by repeat (with_reducible first | exact HB.out | apply q4q | apply q0q | apply q2q)) hb); have n3_ := Aq.mk (hbox); have n4_ := Aq.mk ((by rw [hg]; exact (q6q (by repeat (with_reducible first | exact HB.out | apply q4q | apply q0q | apply q2q))) : w.heap.size ≤ gb309)); have n5_ := Aq.mk ((by rw [hg]; exact (q6q (by repeat (with_reducible first | exact HB.out | apply q4q | apply q0q | apply q2q))) : w.heap.size ≤ gb309)); clear HO302; clear HO307; clear HB; have HO302 := n0_; have HO307 := n1_; have HB := n2_; have BK309 := n3_; have GW309 := n4_; have GE309 := n5_; clear n0_ n1_ n2_ n3_ n4_ n5_; clear hb hbox hg; obtain ⟨Ao26, co26, eo26⟩ := Kd.q37q HO307.out; subst eo26; have hcz27_0 : w25.cell? ⟨gb309, 0, none⟩ = some (.slice none 0 0) := (q3q BK309.out 0).trans rfl; have hfz27_0 := q1q BK309.out 0))
  have n0_ : Aq (Kd.N k47 47 (w25.setCell ⟨gb309, 0, none⟩ (.slice Ao26 t305.length co26)) w.heap.size (fun k_ => some k_ ≠ (.slice Ao26 t305.length co26 : Value).ownBlock ∧ k_ ≠ gb309) (.slice Ao22 t300.length co22) t300) := ⟨by (with_reducible repeat (first | apply Kd.N_alloc | apply Kd.N_drewN | apply Kd.q36q)); exact Kd.q21q (Kd.N_far (p := ⟨gb309, 0, none⟩) (Kd.q21q HO302.out (fun k_ hk => (⟨hk, hk.2⟩ : _ ∧ k_ ≠ gb309))) (fun _ hk => hk.2) (.slice Ao26 t305.length co26)) (fun _ hk => ⟨hk.1.1.2, hk.1.2⟩)⟩
  have n1_ : Aq (Kd.N k47 47 (w25.setCell ⟨gb309, 0, none⟩ (.slice Ao26 t305.length co26)) w.heap.size (fun k_ => some k_ ≠ (.slice Ao22 t300.length co22 : Value).ownBlock ∧ k_ ≠ gb309) (.slice Ao26 t305.length co26) t305) := ⟨by (with_reducible repeat (first | apply Kd.N_alloc | apply Kd.N_drewN | apply Kd.q36q)); exact Kd.q21q (Kd.N_far (p := ⟨gb309, 0, none⟩) (Kd.q21q HO307.out (fun k_ hk => (⟨hk, hk.2⟩ : _ ∧ k_ ≠ gb309))) (fun _ hk => hk.2) (.slice Ao26 t305.length co26)) (fun _ hk => ⟨hk.1.1, hk.1.2⟩)⟩
  have n2_ : Aq ((w25.setCell ⟨gb309, 0, none⟩ (.slice Ao26 t305.length co26)).heap[gb309]? = some (.cells #[.slice Ao26 t305.length co26] 24 (0, 0))) := ⟨by (with_reducible repeat (first | refine q8q ?_ _ | refine q9q ?_ | refine q7q ?_ _)); refine q14q (cs := #[.slice none 0 0]) ?_ 0 _ rfl; (with_reducible repeat (first | refine q8q ?_ _ | refine q9q ?_ | refine q7q ?_ _)); exact BK309.out⟩
  have n3_ : Aq (Below w.heap.size w (w25.setCell ⟨gb309, 0, none⟩ (.slice Ao26 t305.length co26))) := ⟨by repeat (with_reducible first | exact HB.out | apply q4q | apply q0q | apply q2q | refine q5q ?_ GE309.out)⟩
  (try clear HO302)
  (try clear HO307)
  (try clear BK309)
  (try clear HB)
  generalize (w25.setCell ⟨gb309, 0, none⟩ (.slice Ao26 t305.length co26)) = w28 at n0_ n1_ n2_ n3_ ⊢
  have HO302 := n0_
  have HO307 := n1_
  have BK309 := n2_
  have HB := n3_
  clear n0_ n1_ n2_ n3_
  have n0_ := Aq.mk (Kd.q36q HO302.out)
  have n1_ := Aq.mk (Kd.q36q HO307.out)
  have n2_ := Aq.mk (q9q BK309.out)
  have n3_ := Aq.mk (q2q HB.out)
  clear HO302
  clear HO307
  clear BK309
  clear HB
  have HO302 := n0_
  have HO307 := n1_
  have BK309 := n2_
  have HB := n3_
  clear n0_ n1_ n2_ n3_
  refine start_ (n := 16) (S := fun w' => True) (ds := []) #[false, false, false, false, false, false, false, false, false, false, false, false, false, false, false, false] (by kernel_rfl) rfl rfl trivial (fun hHeld => ?_); refine with_tabW fQ11.tab3 fQ11.bits3 (fun HT_ HW_ => ?_)
  generalize w28.drew = w29 at HO302 HO307 BK309 HB hHeld ⊢
  refine pure_ (i := 0) (N := some 15) (v := ?_) (a' := ?_) (bA 16 1) rfl rfl (q17q HT_.out (by kernel_rfl)) (fun _ _ _ h => h) (Or.inl ⟨by rfl, ?_⟩) ?_ ?_
  rotate_left
  ·intro w'
   go_simp
   with_reducible rfl
  rotate_left
  ·simp only [Act.put, sA_, sZ_, sS_, i64_w, i32_w]
   rfl
  refine pure_ (i := 1) (N := some 16) (v := ?_) (a' := ?_) (bA 16 3) rfl rfl (q17q HT_.out (by kernel_rfl)) (fun _ _ _ h => h) (Or.inl ⟨by rfl, ?_⟩) ?_ ?_
  rotate_left
  ·intro w'
   go_simp
   with_reducible rfl
  rotate_left
  ·simp only [Act.put, sA_, sZ_, sS_, i64_w, i32_w]
   rfl
  refine pure_ (i := 2) (N := some 17) (v := ?_) (a' := ?_) (bA 16 7) rfl rfl (q17q HT_.out (by kernel_rfl)) (fun _ _ _ h => h) (Or.inl ⟨by rfl, ?_⟩) ?_ ?_
  rotate_left
  ·intro w'
   go_simp
   with_reducible rfl
  rotate_left
  ·simp only [Act.put, sA_, sZ_, sS_, i64_w, i32_w]
   rfl
  refine pure_ (i := 3) (N := some 18) (v := ?_) (a' := ?_) (bA 16 15) rfl rfl (q17q HT_.out (by kernel_rfl)) (fun _ _ _ h => h) (Or.inl ⟨by rfl, ?_⟩) ?_ ?_
  rotate_left
  ·intro w'
   go_simp
   with_reducible rfl
  rotate_left
  ·simp only [Act.put, sA_, sZ_, sS_, i64_w, i32_w]
   rfl
  refine pure_ (i := 4) (N := some 19) (v := ?_) (a' := ?_) (bA 16 31) rfl rfl (q17q HT_.out (by kernel_rfl)) (fun _ _ _ h => h) (Or.inl ⟨by rfl, ?_⟩) ?_ ?_
  rotate_left
  ·intro w'
   go_simp
   with_reducible rfl
  rotate_left
  ·simp only [Act.put, sA_, sZ_, sS_, i64_w, i32_w]
   rfl
  refine pure_ (i := 5) (N := some 20) (v := ?_) (a' := ?_) (bA 16 63) rfl rfl (q17q HT_.out (by kernel_rfl)) (fun _ _ _ h => h) (Or.inl ⟨by rfl, ?_⟩) ?_ ?_
  rotate_left
  ·intro w'
   go_simp
   with_reducible rfl
  rotate_left
  ·simp only [Act.put, sA_, sZ_, sS_, i64_w, i32_w]
   rfl
  refine pure_ (i := 6) (N := some 21) (v := ?_) (a' := ?_) (bA 16 127) rfl rfl (q17q HT_.out (by kernel_rfl)) (fun _ _ _ h => h) (Or.inl ⟨by rfl, ?_⟩) ?_ ?_
  rotate_left
  ·intro w'
   go_simp
   with_reducible rfl
  rotate_left
  ·simp only [Act.put, sA_, sZ_, sS_, i64_w, i32_w]
   rfl
  refine pure_ (i := 7) (N := some 22) (v := ?_) (a' := ?_) (bA 16 255) rfl rfl (q17q HT_.out (by kernel_rfl)) (fun _ _ _ h => h) (Or.inl ⟨by rfl, ?_⟩) ?_ ?_
  rotate_left
  ·intro w'
   go_simp
   with_reducible rfl
  rotate_left
  ·simp only [Act.put, sA_, sZ_, sS_, i64_w, i32_w]
   rfl
  refine pure_ (i := 8) (N := some 23) (v := ?_) (a' := ?_) (bA 16 511) rfl rfl (q17q HT_.out (by kernel_rfl)) (fun _ _ _ h => h) (Or.inl ⟨by rfl, ?_⟩) ?_ ?_
  rotate_left
  ·intro w'
   go_simp
   with_reducible rfl
  rotate_left
  ·simp only [Act.put, sA_, sZ_, sS_, i64_w, i32_w]
   rfl
  refine pure_ (i := 9) (N := some 24) (v := ?_) (a' := ?_) (bA 16 1023) rfl rfl (q17q HT_.out (by kernel_rfl)) (fun _ _ _ h => h) (Or.inl ⟨by rfl, ?_⟩) ?_ ?_
  rotate_left
  ·intro w'
   go_simp
   with_reducible rfl
  rotate_left
  ·simp only [Act.put, sA_, sZ_, sS_, i64_w, i32_w]
   rfl
  refine pure_ (i := 10) (N := some 25) (v := ?_) (a' := ?_) (bA 16 2047) rfl rfl (q17q HT_.out (by kernel_rfl)) (fun _ _ _ h => h) (Or.inl ⟨by rfl, ?_⟩) ?_ ?_
  rotate_left
  ·intro w'
   go_simp
   with_reducible rfl
  rotate_left
  ·simp only [Act.put, sA_, sZ_, sS_, i64_w, i32_w]
   rfl
  refine pure_ (i := 11) (N := some 26) (v := undef) (a' := ?_) (bA 16 4095) rfl rfl (q17q HT_.out (by kernel_rfl)) (fun _ _ _ h => h) (Or.inr ⟨by rfl, rfl⟩) ?_ ?_
  rotate_left
  ·simp only [Act.put, sA_, sZ_, sS_, i64_w, i32_w]
   rfl
  refine pure_ (i := 12) (N := some 27) (v := undef) (a' := ?_) (bA 16 8191) rfl rfl (q17q HT_.out (by kernel_rfl)) (fun _ _ _ h => h) (Or.inr ⟨by rfl, rfl⟩) ?_ ?_
  rotate_left
  ·simp only [Act.put, sA_, sZ_, sS_, i64_w, i32_w]
   rfl
  refine pure_ (i := 13) (N := some 28) (v := undef) (a' := ?_) (bA 16 16383) rfl rfl (q17q HT_.out (by kernel_rfl)) (fun _ _ _ h => h) (Or.inr ⟨by rfl, rfl⟩) ?_ ?_
  rotate_left
  ·simp only [Act.put, sA_, sZ_, sS_, i64_w, i32_w]
   rfl
  refine pure_ (i := 14) (N := some 29) (v := ?_) (a' := ?_) (bA 16 32767) rfl rfl (q17q HT_.out (by kernel_rfl)) (fun _ _ _ h => h) (Or.inl ⟨by rfl, ?_⟩) ?_ ?_
  rotate_left
  ·intro w'
   go_simp
   with_reducible rfl
  rotate_left
  ·simp only [Act.put, sA_, sZ_, sS_, i64_w, i32_w]
   rfl
  refine pure_ (i := 15) (N := some 0) (v := ?_) (a' := ?_) (bA 16 65535) rfl rfl (q17q HT_.out (by kernel_rfl)) (fun _ _ _ h => h) (Or.inl ⟨by rfl, ?_⟩) ?_ ?_
  rotate_left
  ·intro w'
   go_simp
   with_reducible rfl
  rotate_left
  ·simp only [Act.put, sA_, sZ_, sS_, i64_w, i32_w]
   rfl
  refine done_ (done_of HT_.out (by kernel_rfl)) ?_
  try go_wp2
  go_ret
  exact ⟨by first | rfl | (simp [*] <;> rfl), by repeat (with_reducible first | exact HB.out | apply q4q | apply q0q | apply q2q | refine q5q ?_ GE309.out)⟩
 rw [if_pos c6] at H
 have c6b0 : (t308 == 0) = true := beq_iff_eq.mpr c6
 have c6b1 : (t308 != 0) = false := bne_eq_false_iff_eq.mpr c6
 clear c6
 replace H := Option.bind_eq_some_iff.mp H
 obtain ⟨t310, A70, H⟩ := H
 replace H : ((fQ25.f k t305 t310).bind fun t313 => (some t313)) = some r := H
 have A7 := Aq.mk A70
 clear A70
 replace H := Option.bind_eq_some_iff.mp H
 obtain ⟨t313, A80, H⟩ := H
 replace H : (some t313) = some r := H
 have A8 := Aq.mk A80
 clear A80
 obtain rfl := Option.some.inj H
 go_enter Try.func12, Try.ntmps12
 try go_wp2_with (first | ((with_reducible refine q15q (f := 18) rfl ?_); refine q24q (some 6) rfl rfl Try.func18 (by kernel_rfl) rfl #[.slice none 0 0] rfl (by (try simp only [List.map_toArray, List.map_cons, List.map_nil]); first | done | rfl) ?_; (refine (fQ20.calls (fun k_ => False) _ _ ([] : List (S42)) t300 _ ?side1 A1.out).mono ?_); (case side1 => exact Kd.V_nil _ _ _ _ _); rintro e w9 ⟨v301, rfl, ho0, hb⟩; refine ⟨_, rfl, ?_⟩; have n0_ := Aq.mk (Kd.N_lower (Kd.q21q (ok' := fun k_ => True) ho0 (fun k_ hk_ => trivial)) (q6q (by repeat (with_reducible first | exact HB.out | apply q4q | apply q0q | apply q2q)))); have n1_ := Aq.mk (q10q (by repeat (with_reducible first | exact HB.out | apply q4q | apply q0q | apply q2q)) hb); clear HB; have HO302 := n0_; have HB := n1_; clear n0_ n1_; (try clear hb); (try clear hb2); (try clear hk); (try clear hi); (try clear ho0); obtain ⟨Ao10, co10, eo10⟩ := Kd.q37q HO302.out; subst eo10) | ((with_reducible refine q15q (f := 10) rfl ?_); refine q24q (some 7) rfl rfl Try.func10 (by kernel_rfl) rfl #[.agg #[.slice Ao10 t300.length co10]] rfl (by (try simp only [List.map_toArray, List.map_cons, List.map_nil]); first | done | rfl) ?_; (with_reducible refine (fQ13.calls k _ _ t300 t303 t304 _ ?side1 ?side2 A2.out).mono ?_); (case side1 => exact (Kd.q25q HO302.out).2.2); (case side2 => exact (Kd.q25q HO302.out).2.1); rintro e w11 ⟨rfl, hb⟩; refine ⟨_, rfl, ?_⟩; have n0_ := Aq.mk (Kd.q31q HO302.out hb); have n1_ := Aq.mk (q10q (by repeat (with_reducible first | exact HB.out | apply q4q | apply q0q | apply q2q)) hb); clear HO302; clear HB; have HO302 := n0_; have HB := n1_; clear n0_ n1_; (try clear hb); (try clear hb2); (try clear hk); (try clear hi)) | ((with_reducible refine q15q (f := 13) rfl ?_); refine q24q (some 12) rfl rfl Try.func13 (by kernel_rfl) rfl #[.string t303] rfl (by (try simp only [List.map_toArray, List.map_cons, List.map_nil]); first | done | rfl) ?_; (with_reducible refine (fQ15.calls k t303 t305 t308 _ A3.out).mono ?_); rintro e w12 ⟨v306, rfl, ho0, hb⟩; refine ⟨_, rfl, ?_⟩; have n0_ := Aq.mk (Kd.N_elder' HO302.out (Kd.N_base ho0) hb); have n1_ := Aq.mk (Kd.N_lower (Kd.q21q (ok' := fun k_ => some k_ ≠ (.slice Ao10 t300.length co10 : Value).ownBlock) ho0 (fun k_ hk_ => (Kd.fresh' (Kd.N_lt HO302.out) k_ hk_))) (q6q (by repeat (with_reducible first | exact HB.out | apply q4q | apply q0q | apply q2q)))); have n2_ := Aq.mk (q10q (by repeat (with_reducible first | exact HB.out | apply q4q | apply q0q | apply q2q)) hb); clear HO302; clear HB; have HO302 := n0_; have HO307 := n1_; have HB := n2_; clear n0_ n1_ n2_; (try clear hb); (try clear hb2); (try clear hk); (try clear hi); (try clear ho0)) | ((with_reducible refine q12q (N := 3) rfl ?_); refine q11q ?hg (N := 3) ?hd (cs := #[.slice none 0 0]) (t := 24) ?hr ?_; (case hd => rfl); (case hg => rfl); (case hr => first | (go_simp; done) | (go_simp; rfl)); intro gb309 hg w13 hbox hb; have n0_ := Aq.mk (Kd.q31q (Kd.N_elderB HO302.out gb309 (Nat.le_of_eq hg.symm)) hb); have n1_ := Aq.mk (Kd.q31q (Kd.N_elderB HO307.out gb309 (Nat.le_of_eq hg.symm)) hb); have n2_ := Aq.mk (q10q (by repeat (with_reducible first | exact HB.out | apply q4q | apply q0q | apply q2q)) hb); have n3_ := Aq.mk (hbox); have n4_ := Aq.mk ((by rw [hg]; exact (q6q (by repeat (with_reducible first | exact HB.out | apply q4q | apply q0q | apply q2q))) : w.heap.size ≤ gb309)); have n5_ := Aq.mk ((by rw [hg]; exact (q6q (by repeat (with_reducible first | exact HB.out | apply q4q | apply q0q | apply q2q))) : w.heap.size ≤ gb309)); clear HO302; clear HO307; clear HB; have HO302 := n0_; have HO307 := n1_; have HB := n2_; have BK309 := n3_; have GW309 := n4_; have GE309 := n5_; clear n0_ n1_ n2_ n3_ n4_ n5_; clear hb hbox hg; obtain ⟨Ao14, co14, eo14⟩ := Kd.q37q HO307.out; subst eo14; have hcz15_0 : w13.cell? ⟨gb309, 0, none⟩ = some (.slice none 0 0) := (q3q BK309.out 0).trans rfl; have hfz15_0 := q1q BK309.out 0))
 have n0_ : Aq (Kd.N k47 47 (w13.setCell ⟨gb309, 0, none⟩ (.slice Ao14 t305.length co14)) w.heap.size (fun k_ => some k_ ≠ (.slice Ao14 t305.length co14 : Value).ownBlock ∧ k_ ≠ gb309) (.slice Ao10 t300.length co10) t300) := ⟨by (with_reducible repeat (first | apply Kd.N_alloc | apply Kd.N_drewN | apply Kd.q36q)); exact Kd.q21q (Kd.N_far (p := ⟨gb309, 0, none⟩) (Kd.q21q HO302.out (fun k_ hk => (⟨hk, hk.2⟩ : _ ∧ k_ ≠ gb309))) (fun _ hk => hk.2) (.slice Ao14 t305.length co14)) (fun _ hk => ⟨hk.1.1.2, hk.1.2⟩)⟩
 have n1_ : Aq (Kd.N k47 47 (w13.setCell ⟨gb309, 0, none⟩ (.slice Ao14 t305.length co14)) w.heap.size (fun k_ => some k_ ≠ (.slice Ao10 t300.length co10 : Value).ownBlock ∧ k_ ≠ gb309) (.slice Ao14 t305.length co14) t305) := ⟨by (with_reducible repeat (first | apply Kd.N_alloc | apply Kd.N_drewN | apply Kd.q36q)); exact Kd.q21q (Kd.N_far (p := ⟨gb309, 0, none⟩) (Kd.q21q HO307.out (fun k_ hk => (⟨hk, hk.2⟩ : _ ∧ k_ ≠ gb309))) (fun _ hk => hk.2) (.slice Ao14 t305.length co14)) (fun _ hk => ⟨hk.1.1, hk.1.2⟩)⟩
 have n2_ : Aq ((w13.setCell ⟨gb309, 0, none⟩ (.slice Ao14 t305.length co14)).heap[gb309]? = some (.cells #[.slice Ao14 t305.length co14] 24 (0, 0))) := ⟨by (with_reducible repeat (first | refine q8q ?_ _ | refine q9q ?_ | refine q7q ?_ _)); refine q14q (cs := #[.slice none 0 0]) ?_ 0 _ rfl; (with_reducible repeat (first | refine q8q ?_ _ | refine q9q ?_ | refine q7q ?_ _)); exact BK309.out⟩
 have n3_ : Aq (Below w.heap.size w (w13.setCell ⟨gb309, 0, none⟩ (.slice Ao14 t305.length co14))) := ⟨by repeat (with_reducible first | exact HB.out | apply q4q | apply q0q | apply q2q | refine q5q ?_ GE309.out)⟩
 (try clear HO302)
 (try clear HO307)
 (try clear BK309)
 (try clear HB)
 generalize (w13.setCell ⟨gb309, 0, none⟩ (.slice Ao14 t305.length co14)) = w16 at n0_ n1_ n2_ n3_ ⊢
 have HO302 := n0_
 have HO307 := n1_
 have BK309 := n2_
 have HB := n3_
 clear n0_ n1_ n2_ n3_
 have n0_ := Aq.mk (Kd.q36q HO302.out)
 have n1_ := Aq.mk (Kd.q36q HO307.out)
 have n2_ := Aq.mk (q9q BK309.out)
 have n3_ := Aq.mk (q2q HB.out)
 clear HO302
 clear HO307
 clear BK309
 clear HB
 have HO302 := n0_
 have HO307 := n1_
 have BK309 := n2_
 have HB := n3_
 clear n0_ n1_ n2_ n3_
 refine start_ (n := 16) (S := fun w' => w'.cell? ⟨gb309, 0, none⟩ = some (.slice Ao14 t305.length co14)) (ds := []) #[false, false, false, false, false, false, false, false, false, false, false, false, false, false, false, false] (by kernel_rfl) rfl rfl ((q3q BK309.out 0).trans rfl) (fun hHeld => ?_); refine with_tabW fQ11.tab3 fQ11.bits3 (fun HT_ HW_ => ?_)
 generalize w16.drew = w17 at HO302 HO307 BK309 HB hHeld ⊢
 refine pure_ (i := 0) (N := some 15) (v := ?_) (a' := ?_) (bA 16 1) rfl rfl (q17q HT_.out (by kernel_rfl)) (fun _ _ _ h => h) (Or.inl ⟨by rfl, ?_⟩) ?_ ?_
 rotate_left
 ·intro w'
  go_simp
  with_reducible rfl
 rotate_left
 ·simp only [Act.put, sA_, sZ_, sS_, i64_w, i32_w]
  rfl
 refine pure_ (i := 1) (N := some 16) (v := ?_) (a' := ?_) (bA 16 3) rfl rfl (q17q HT_.out (by kernel_rfl)) (fun _ _ _ h => h) (Or.inl ⟨by rfl, ?_⟩) ?_ ?_
 rotate_left
 ·intro w'
  go_simp
  with_reducible rfl
 rotate_left
 ·simp only [Act.put, sA_, sZ_, sS_, i64_w, i32_w]
  rfl
 refine pure_ (i := 2) (N := some 17) (v := ?_) (a' := ?_) (bA 16 7) rfl rfl (q17q HT_.out (by kernel_rfl)) (fun _ _ _ h => h) (Or.inl ⟨by rfl, ?_⟩) ?_ ?_
 rotate_left
 ·intro w'
  go_simp
  with_reducible rfl
 rotate_left
 ·simp only [Act.put, sA_, sZ_, sS_, i64_w, i32_w]
  rfl
 refine pure_ (i := 3) (N := some 18) (v := ?_) (a' := ?_) (bA 16 15) rfl rfl (q17q HT_.out (by kernel_rfl)) (fun _ _ _ h => h) (Or.inl ⟨by rfl, ?_⟩) ?_ ?_
 rotate_left
 ·intro w'
  go_simp
  with_reducible rfl
 rotate_left
 ·simp only [Act.put, sA_, sZ_, sS_, i64_w, i32_w]
  rfl
 refine pure_ (i := 4) (N := some 19) (v := ?_) (a' := ?_) (bA 16 31) rfl rfl (q17q HT_.out (by kernel_rfl)) (fun _ _ _ h => h) (Or.inl ⟨by rfl, ?_⟩) ?_ ?_
 rotate_left
 ·intro w'
  go_simp
  with_reducible rfl
 rotate_left
 ·simp only [Act.put, sA_, sZ_, sS_, i64_w, i32_w]
  rfl
 refine pure_ (i := 5) (N := some 20) (v := ?_) (a' := ?_) (bA 16 63) rfl rfl (q17q HT_.out (by kernel_rfl)) (fun _ _ _ h => h) (Or.inl ⟨by rfl, ?_⟩) ?_ ?_
 rotate_left
 ·intro w'
  go_simp
  with_reducible rfl
 rotate_left
 ·simp only [Act.put, sA_, sZ_, sS_, i64_w, i32_w]
  rfl
 refine pure_ (i := 6) (N := some 21) (v := ?_) (a' := ?_) (bA 16 127) rfl rfl (q17q HT_.out (by kernel_rfl)) (fun _ _ _ h => h) (Or.inl ⟨by rfl, ?_⟩) ?_ ?_
 rotate_left
 ·intro w'
  go_simp
  with_reducible rfl
 rotate_left
 ·simp only [Act.put, sA_, sZ_, sS_, i64_w, i32_w]
  rfl
 refine pure_ (i := 7) (N := some 22) (v := ?_) (a' := ?_) (bA 16 255) rfl rfl (q17q HT_.out (by kernel_rfl)) (fun _ _ _ h => h) (Or.inl ⟨by rfl, ?_⟩) ?_ ?_
 rotate_left
 ·intro w'
  go_simp
  with_reducible rfl
 rotate_left
 ·simp only [Act.put, sA_, sZ_, sS_, i64_w, i32_w]
  rfl
 refine pure_ (i := 8) (N := some 23) (v := ?_) (a' := ?_) (bA 16 511) rfl rfl (q17q HT_.out (by kernel_rfl)) (fun _ _ _ h => h) (Or.inl ⟨by rfl, ?_⟩) ?_ ?_
 rotate_left
 ·intro w'
  go_simp
  with_reducible rfl
 rotate_left
 ·simp only [Act.put, sA_, sZ_, sS_, i64_w, i32_w]
  rfl
 refine pure_ (i := 9) (N := some 24) (v := ?_) (a' := ?_) (bA 16 1023) rfl rfl (q17q HT_.out (by kernel_rfl)) (fun _ _ _ h => h) (Or.inl ⟨by rfl, ?_⟩) ?_ ?_
 rotate_left
 ·intro w'
  go_simp
  with_reducible rfl
 rotate_left
 ·simp only [Act.put, sA_, sZ_, sS_, i64_w, i32_w]
  rfl
 refine pure_ (i := 10) (N := some 25) (v := ?_) (a' := ?_) (bA 16 2047) rfl rfl (q17q HT_.out (by kernel_rfl)) (fun _ _ _ h => h) (Or.inl ⟨by rfl, ?_⟩) ?_ ?_
 rotate_left
 ·intro w'
  go_simp
  with_reducible rfl
 rotate_left
 ·simp only [Act.put, sA_, sZ_, sS_, i64_w, i32_w]
  rfl
 refine take_ (i := 11) (N := some 26) (v := ?_) (a' := ?_) (bA 16 4095) rfl rfl (q32q HT_.out HW_.out (by kernel_rfl)) (fun _ _ _ h => h) (Or.inl ⟨by rfl, ?_⟩) hHeld ?_ ?_
 rotate_left
 ·intro w' s0
  go_simp
  with_reducible rfl
 rotate_left
 ·simp only [Act.put, sA_, sZ_, sS_, i64_w, i32_w]
  rfl
 refine one_ (i := 12) (N := some 27) (bA 16 8191) rfl rfl (q39q HT_.out (by kernel_rfl)) (by decide) (fun K hK => ?_)
 refine goes_ Try.func18 (by kernel_rfl) rfl #[.slice none 0 0] (by rfl) rfl rfl (by (try simp only [List.map_toArray, List.map_cons, List.map_nil]); first | done | rfl) ?_
 refine (fQ20.calls (fun k_ => False) _ _ ([] : List (S42)) t310 _ ?side1 A7.out).mono ?_
 (case side1 => exact Kd.V_nil _ _ _ _ _)
 rintro e w18 ⟨v311, rfl, ho0, hb⟩
 refine ⟨_, rfl, ?_⟩
 have n0_ := Aq.mk (Kd.N_elder' HO302.out (Kd.N_base ho0) hb)
 have n1_ := Aq.mk (Kd.N_elder' HO307.out (Kd.N_base ho0) hb)
 have n2_ := Aq.mk (Kd.N_lower (Kd.q21q (ok' := fun k_ => some k_ ≠ (.slice Ao10 t300.length co10 : Value).ownBlock ∧ some k_ ≠ (.slice Ao14 t305.length co14 : Value).ownBlock ∧ k_ ≠ gb309) ho0 (fun k_ hk_ => ⟨Or.elim hk_ (fun hs_ => (hs_).elim) (fun hn_ => (Kd.fresh' (Kd.N_lt HO302.out) k_ hn_)), Or.elim hk_ (fun hs_ => (hs_).elim) (fun hn_ => (Kd.fresh' (Kd.N_lt HO307.out) k_ hn_)), Or.elim hk_ (fun hs_ => (hs_).elim) (fun hn_ => (Kd.freshB (g := gb309) (o := .cells #[.slice Ao14 t305.length co14] 24 (0, 0)) BK309.out k_ hn_))⟩)) (q6q (by repeat (with_reducible first | exact HB.out | apply q4q | apply q0q | apply q2q | refine q5q ?_ GE309.out))))
 have n3_ := Aq.mk (q13q (g := gb309) (o := .cells #[.slice Ao14 t305.length co14] 24 (0, 0)) BK309.out hb)
 have n4_ := Aq.mk (q10q (by repeat (with_reducible first | exact HB.out | apply q4q | apply q0q | apply q2q | refine q5q ?_ GE309.out)) hb)
 clear HO302
 clear HO307
 clear BK309
 clear HB
 have HO302 := n0_
 have HO307 := n1_
 have HO312 := n2_
 have BK309 := n3_
 have HB := n4_
 clear n0_ n1_ n2_ n3_ n4_
 (try clear hb)
 (try clear hb2)
 (try clear hk)
 (try clear hi)
 (try clear ho0)
 obtain ⟨Ao19, co19, eo19⟩ := Kd.q37q HO312.out
 (first | subst eo19 | (injection eo19 with f1_ f2_ f3_; have f4_ := f1_.symm; have f5_ := f3_.symm; clear f1_ f2_ f3_; subst f4_; subst f5_))
 refine hK.out _ _ ((q3q BK309.out 0).trans rfl) (fun hHeld => ?_)
 clear hK K
 refine norm_ (a' := ?_) ?_ ?_
 rotate_left
 ·show Act.put _ (some 27) _ = _
  simp only [Act.put, sA_, sZ_, sS_, i64_w, i32_w]
  rfl
 refine one_ (i := 13) (N := some 28) (bA 16 16383) rfl rfl (q39q HT_.out (by kernel_rfl)) (by decide) (fun K hK => ?_)
 refine goes_ Try.func17 (by kernel_rfl) rfl #[.agg #[.slice Ao14 t305.length co14], .agg #[.slice Ao19 t310.length co19]] (by rfl) rfl rfl (by (try simp only [List.map_toArray, List.map_cons, List.map_nil]); first | done | rfl) ?_
 with_reducible refine (fQ25.calls k _ _ t305 _ _ t310 t313 _ ?side1 ?side2 ?side3 ?side4 A8.out).mono ?_
 (case side1 => exact (Kd.q25q HO307.out).2.2)
 (case side2 => exact (Kd.q25q HO307.out).2.1)
 (case side3 => exact (Kd.q25q HO312.out).2.2)
 (case side4 => exact (Kd.q25q HO312.out).2.1)
 rintro e w20 ⟨rfl, hb⟩
 refine ⟨_, rfl, ?_⟩
 have n0_ := Aq.mk (Kd.q31q HO302.out hb)
 have n1_ := Aq.mk (Kd.q31q HO307.out hb)
 have n2_ := Aq.mk (Kd.q31q HO312.out hb)
 have n3_ := Aq.mk (q13q (g := gb309) (o := .cells #[.slice Ao14 t305.length co14] 24 (0, 0)) BK309.out hb)
 have n4_ := Aq.mk (q10q (by repeat (with_reducible first | exact HB.out | apply q4q | apply q0q | apply q2q | refine q5q ?_ GE309.out)) hb)
 clear HO302
 clear HO307
 clear HO312
 clear BK309
 clear HB
 have HO302 := n0_
 have HO307 := n1_
 have HO312 := n2_
 have BK309 := n3_
 have HB := n4_
 clear n0_ n1_ n2_ n3_ n4_
 (try clear hb)
 (try clear hb2)
 (try clear hk)
 (try clear hi)
 refine hK.out _ _ ((q3q BK309.out 0).trans rfl) (fun hHeld => ?_)
 clear hK K
 refine norm_ (a' := ?_) ?_ ?_
 rotate_left
 ·show Act.put _ (some 28) _ = _
  simp only [Act.put, sA_, sZ_, sS_, i64_w, i32_w]
  rfl
 refine pure_ (i := 14) (N := some 29) (v := ?_) (a' := ?_) (bA 16 32767) rfl rfl (q17q HT_.out (by kernel_rfl)) (fun _ _ _ h => h) (Or.inl ⟨by rfl, ?_⟩) ?_ ?_
 rotate_left
 ·intro w'
  go_simp
  with_reducible rfl
 rotate_left
 ·simp only [Act.put, sA_, sZ_, sS_, i64_w, i32_w]
  rfl
 refine pure_ (i := 15) (N := some 0) (v := ?_) (a' := ?_) (bA 16 65535) rfl rfl (q17q HT_.out (by kernel_rfl)) (fun _ _ _ h => h) (Or.inl ⟨by rfl, ?_⟩) ?_ ?_
 rotate_left
 ·intro w'
  go_simp
  with_reducible rfl
 rotate_left
 ·simp only [Act.put, sA_, sZ_, sS_, i64_w, i32_w]
  rfl
 refine done_ (done_of HT_.out (by kernel_rfl)) ?_
 try go_wp2
 go_ret
 exact ⟨by first | rfl | (simp [*] <;> rfl), by repeat (with_reducible first | exact HB.out | apply q4q | apply q0q | apply q2q | refine q5q ?_ GE309.out)⟩
end Go.Proofs.Ytkkgbbfojmnopaa.G
end
