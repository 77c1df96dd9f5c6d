import Derived.Test.YtkkgbbfojmnopaaPLaGx0
set_option linter.unusedVariables false
set_option linter.unusedSimpArgs false
section
namespace Go.Proofs.Ytkkgbbfojmnopaa.G
open Go.RowKit Go.Proofs.YtkkgbbfojmnopaaW.PrintWords Go.Proofs.YtkkgbbfojmnopaaW.PrintLast Go.Proofs.YtkkgbbfojmnopaaW.PrintMore
attribute [local go_sem] q25q q26q q30q q31q q20q q21q q27q q28q
def tallowref21_Number.f : Nat → Int → Option (ByteArray)
 | 0, _ => none
 | k + 1, a0 => if a0 < 128 then (some (strOfNums (([(a0) % 256] : List Int)))) else ((some (([(128 + ((Int.tmod a0 128) % 256)) % 256] : List Int) : List Int)).bind fun y257 => ((tallowref21_Number.f k (IntKind.u64.wrap (Int.tdiv a0 128))).bind fun t260 => (if (strOfNums y257).size + t260.size ≤ 9223372036854775807 then (some ((strOfNums y257) ++ t260)) else (none))))
def tallowref21_Number.T3 : Bool × List (List Nat × List Nat) := (true, [([], []), ([0], [0]), ([1], [1]), ([2], [2]), ([3], [3]), ([4], [4]), ([], []), ([6], [6]), ([7], [7]), ([5, 8], [5, 8]), ([9, 8, 0, 1, 2, 3, 4, 5, 6, 7, 8, 9], [9])])
def tallowref21_Number.B3 : List Nat := [0, 1, 3, 7, 15, 31, 0, 64, 192, 511, 1023]
theorem tallowref21_Number.tab3 : rtab .any (opsOf Try.f41 3) = tallowref21_Number.T3 := by kernel_rfl
theorem tallowref21_Number.bits3 : waitsOk tallowref21_Number.T3.2 tallowref21_Number.B3 = true := by kernel_rfl
set_option maxHeartbeats 8000000 in
set_option maxRecDepth 100000 in
theorem tallowref21_Number.calls (k : Nat) : ∀ (a0 : Int) (r : ByteArray) (w : World) (h : tallowref21_Number.f k a0 = some r),
  Calls Try.prog 41 #[.int .u64 a0] w fun e w' => e = .returned (.string r) ∧ Below w.heap.size w w' := by
 induction k using Nat.strongRecOn with
 | _ k ih =>
 intro a0 r w h
 cases k with
 | zero => exact absurd h (by simp [tallowref21_Number.f])
 | succ k =>
 simp only [tallowref21_Number.f] at h
 have HB := Aq.mk (Below.refl w.heap.size w)
 have H : (if a0 < 128 then (some (strOfNums (([(a0) % 256] : List Int)))) else ((some (([(128 + ((Int.tmod a0 128) % 256)) % 256] : List Int) : List Int)).bind fun y257 => ((tallowref21_Number.f k (IntKind.u64.wrap (Int.tdiv a0 128))).bind fun t260 => (if (strOfNums y257).size + t260.size ≤ 9223372036854775807 then (some ((strOfNums y257) ++ t260)) else (none))))) = some r := h
 clear h
 by_cases c2 : a0 < 128
 ·rw [if_pos c2] at H
  have c2b0 : decide (a0 < 128) = true := decide_eq_true c2
  clear c2
  obtain ⟨y254, hy254⟩ : ∃ y_ : List Int, y_ = (([(a0) % 256] : List Int)) := ⟨_, rfl⟩
  replace H : (some (strOfNums y254)) = some r := by first | (rw [hy254]; with_reducible exact H) | (have H2_ := (Option.bind_some _ _).symm.trans H; rw [hy254]; with_reducible exact H2_) | (have H2_ := (Option.bind_some _ _).symm.trans H; with_reducible exact H2_) | with_reducible exact H | (rw [hy254]; exact H) | exact H
  have Ny254 := Aq.mk hy254
  clear hy254
  obtain rfl := Option.some.inj H
  go_enter Try.func41, Try.ntmps41
  go_wp2_with (first | ((with_reducible refine q13q (N := 7) rfl ?_); refine Kd.R_lit (Kd.int .u8) _ 5 ?hg (N := 7) ?hd (xs := ([(a0) % 256] : List Int)) (inner := [.int .u8 ((a0) % 256)]) (ok := fun _ => True) (okp := fun _ => True) ?hr ?hp (fun _ hk => hk) trivial (Below.refl _ _) (Nat.le_refl _) (by simp) ?_; (case hd => rfl); (case hg => rfl); (case hr => first | (go_simp; done) | (go_simp; rfl) | (go_simp; simp [IntKind.wrap, IntKind.bits, IntKind.signed])); (case hp => exact (Reps.one (show Kd.M (Kd.int .u8) _ _ _ ((a0) % 256) [.int .u8 ((a0) % 256)] from rfl) (Reps.none _ _))); intro v255 w3 ho4 hb hg_ hnew_; clear hg_ hnew_; (first | rw [← Ny254.out] at ho4 | (simp only [Int.reduceToNat] at ho4; rw [← Ny254.out] at ho4)); have n0_ := Aq.mk (Kd.R_lower ho4 (q8q (by repeat (with_reducible first | exact HB.out | apply q4q | apply q0q | apply q2q)))); have n1_ := Aq.mk (q10q (by repeat (with_reducible first | exact HB.out | apply q4q | apply q0q | apply q2q)) hb); clear HB; have HO256 := n0_; have HB := n1_; clear n0_ n1_; clear hb ho4; have hcv5 := own_string (P := Try.prog) Try.underlying38 Try.underlying5 Try.underlying9 (Kd.own_of_R HO256.out)))
  go_ret
  exact ⟨by first | rfl | (simp [*] <;> rfl), by repeat (with_reducible first | exact HB.out | apply q4q | apply q0q | apply q2q)⟩
 rw [if_neg c2] at H
 have c2b0 : decide (a0 < 128) = false := decide_eq_false c2
 clear c2
 obtain ⟨y257, hy257⟩ : ∃ y_ : List Int, y_ = (([(128 + ((Int.tmod a0 128) % 256)) % 256] : List Int)) := ⟨_, rfl⟩
 replace H : ((tallowref21_Number.f k (IntKind.u64.wrap (Int.tdiv a0 128))).bind fun t260 => (if (strOfNums y257).size + t260.size ≤ 9223372036854775807 then (some ((strOfNums y257) ++ t260)) else (none))) = some r := by first | (rw [hy257]; with_reducible exact H) | (have H2_ := (Option.bind_some _ _).symm.trans H; rw [hy257]; with_reducible exact H2_) | (have H2_ := (Option.bind_some _ _).symm.trans H; with_reducible exact H2_) | with_reducible exact H | (rw [hy257]; exact H) | exact H
 have Ny257 := Aq.mk hy257
 clear hy257
 replace H := Option.bind_eq_some_iff.mp H
 obtain ⟨t260, A60, H⟩ := H
 replace H : (if (strOfNums y257).size + t260.size ≤ 9223372036854775807 then (some ((strOfNums y257) ++ t260)) else (none)) = some r := H
 have A6 := Aq.mk A60
 clear A60
 by_cases c7 : (strOfNums y257).size + t260.size ≤ 9223372036854775807
 case neg =>
  rw [if_neg c7] at H
  exact absurd H (by simp)
 rw [if_pos c7] at H
 have c7b0 := eq_true c7
 have c7b1 : decide ((strOfNums y257).size + t260.size ≤ 9223372036854775807) = true := decide_eq_true c7
 try have c7b2 : (9223372036854775807 < (strOfNums y257).size + t260.size) = False := eq_false (Nat.not_lt.2 c7)
 obtain rfl := Option.some.inj H
 go_enter Try.func41, Try.ntmps41
 try go_wp2
 have n0_ := Aq.mk (q2q HB.out)
 clear HB
 have HB := n0_
 clear n0_
 refine start_ (n := 11) (S := fun w' => True) (ds := []) #[false, false, false, false, false, false, false, false, false, false, false] (by kernel_rfl) rfl rfl trivial (fun hHeld => ?_); refine with_tabW tallowref21_Number.tab3 tallowref21_Number.bits3 (fun HT_ HW_ => ?_)
 generalize w.drew = w8 at HB hHeld ⊢
 refine pure_ (i := 0) (N := some 9) (v := ?_) (a' := ?_) (bA 11 1) rfl rfl (q18q HT_.out (by kernel_rfl)) (fun _ _ _ h => h) (Or.inl ⟨by rfl, ?_⟩) ?_ ?_
 rotate_left
 ·intro w'
  go_simp
  with_reducible rfl
 rotate_left
 ·simp only [Act.put, sA_, sZ_, sS_, i64_w, i32_w]
  rfl
 refine pure_ (i := 1) (N := some 10) (v := ?_) (a' := ?_) (bA 11 3) rfl rfl (q18q HT_.out (by kernel_rfl)) (fun _ _ _ h => h) (Or.inl ⟨by rfl, ?_⟩) ?_ ?_
 rotate_left
 ·intro w'
  go_simp
  with_reducible rfl
 rotate_left
 ·simp only [Act.put, sA_, sZ_, sS_, i64_w, i32_w]
  rfl
 refine pure_ (i := 2) (N := some 11) (v := ?_) (a' := ?_) (bA 11 7) rfl rfl (q18q HT_.out (by kernel_rfl)) (fun _ _ _ h => h) (Or.inl ⟨by rfl, ?_⟩) ?_ ?_
 rotate_left
 ·intro w'
  go_simp
  with_reducible rfl
 rotate_left
 ·simp only [Act.put, sA_, sZ_, sS_, i64_w, i32_w]
  rfl
 refine pure_ (i := 3) (N := some 12) (v := ?_) (a' := ?_) (bA 11 15) rfl rfl (q18q HT_.out (by kernel_rfl)) (fun _ _ _ h => h) (Or.inl ⟨by rfl, ?_⟩) ?_ ?_
 rotate_left
 ·intro w'
  go_simp
  with_reducible rfl
 rotate_left
 ·simp only [Act.put, sA_, sZ_, sS_, i64_w, i32_w]
  rfl
 refine pure_ (i := 6) (N := some 15) (v := ?_) (a' := ?_) (bA 11 79) rfl rfl (q18q HT_.out (by kernel_rfl)) (fun _ _ _ h => h) (Or.inl ⟨by rfl, ?_⟩) ?_ ?_
 rotate_left
 ·intro w'
  go_simp
  with_reducible rfl
 rotate_left
 ·simp only [Act.put, sA_, sZ_, sS_, i64_w, i32_w]
  rfl
 refine pure_ (i := 7) (N := some 16) (v := ?_) (a' := ?_) (bA 11 207) rfl rfl (q18q HT_.out (by kernel_rfl)) (fun _ _ _ h => h) (Or.inl ⟨by rfl, ?_⟩) ?_ ?_
 rotate_left
 ·intro w'
  go_simp
  with_reducible rfl
 rotate_left
 ·simp only [Act.put, sA_, sZ_, sS_, i64_w, i32_w]
  rfl
 refine join_ (σ := Value) 2 #[true, true, true, true, true, true, true, true, true, false, false] (fun s_ => [(13, s_), (14, .string (strOfNums y257)), (17, .string t260)]) (fun s_ w' => (Kd.R (Kd.int .u8) 5 w' w.heap.size (fun _ => True) s_ y257) ∧ (Below w.heap.size w w')) ?_ ?_
 rotate_left
 ·intro hCont
  refine two_ (i := 4) (j := 8) (Ni := some 13) (Nj := some 17) #[true, true, true, true, true, false, true, true, false, false, false] #[true, true, true, true, false, false, true, true, true, false, false] rfl rfl rfl rfl (two_of HT_.out (by kernel_rfl)) (by decide) (by decide) (fun K hK => ?_) (fun K hK => ?_)
  ·skip
   refine Kd.R_lit_step (Kd.int .u8) _ 5 ?hg (N := 13) ?hd (xs := ([(128 + ((Int.tmod a0 128) % 256)) % 256] : List Int)) (inner := [.int .u8 ((128 + ((Int.tmod a0 128) % 256)) % 256)]) (ok := fun _ => True) (okp := fun _ => True) ?hr ?hp (fun _ hk => hk) trivial (Below.refl _ _) (Nat.le_refl _) (by simp) ?_; (case hd => rfl); (case hg => rfl); (case hr => first | (go_simp; done) | (go_simp; rfl) | (go_simp; simp [IntKind.wrap, IntKind.bits, IntKind.signed])); (case hp => exact (Reps.one (show Kd.M (Kd.int .u8) _ _ _ ((128 + ((Int.tmod a0 128) % 256)) % 256) [.int .u8 ((128 + ((Int.tmod a0 128) % 256)) % 256)] from rfl) (Reps.none _ _)))
   intro v258 w9 ho10 hb hg_ hnew_
   clear hg_ hnew_
   (first | rw [← Ny257.out] at ho10 | (simp only [Int.reduceToNat] at ho10; rw [← Ny257.out] at ho10))
   have n0_ := Aq.mk (Kd.R_lower ho10 (q8q (by repeat (with_reducible first | exact HB.out | apply q4q | apply q0q | apply q2q))))
   have n1_ := Aq.mk (q10q (by repeat (with_reducible first | exact HB.out | apply q4q | apply q0q | apply q2q)) hb)
   clear HB
   have HO259 := n0_
   have HB := n1_
   clear n0_ n1_
   clear hb ho10
   refine hK.out _ _ trivial (fun hHeld => ?_)
   clear hK K
   refine norm_ (a' := ?_) ?_ ?_
   rotate_left
   ·show Act.put _ (some 13) _ = _
    simp only [Act.put, sA_, sZ_, sS_, i64_w, i32_w]
    rfl
   refine two_ (i := 5) (j := 8) (Ni := some 14) (Nj := some 17) #[true, true, true, true, true, true, true, true, false, false, false] #[true, true, true, true, true, false, true, true, true, false, false] rfl rfl rfl rfl (two_of HT_.out (by kernel_rfl)) (by decide) (by decide) (fun K hK => ?_) (fun K hK => ?_)
   ·skip
    have hcv11 := own_string (P := Try.prog) Try.underlying38 Try.underlying5 Try.underlying9 (Kd.own_of_R HO259.out)
    refine value_ (w1 := ?_) (v := ?_) (by rfl) rfl ?_ ?_
    rotate_left 2
    ·go_simp
     constructor
     ·rfl
     ·rfl
    clear hcv11
    refine hK.out _ _ trivial (fun hHeld => ?_)
    clear hK K
    refine norm_ (a' := ?_) ?_ ?_
    rotate_left
    ·show Act.put _ (some 14) _ = _
     simp only [Act.put, sA_, sZ_, sS_, i64_w, i32_w]
     rfl
    refine one_ (i := 8) (N := some 17) (bA 11 511) rfl rfl (q35q HT_.out (by kernel_rfl)) (by decide) (fun K hK => ?_)
    refine goes_ Try.func41 (by kernel_rfl) rfl #[.int .u64 (IntKind.u64.wrap (Int.tdiv a0 128))] (by rfl) rfl rfl (by (try simp only [List.map_toArray, List.map_cons, List.map_nil]); first | done | rfl) ?_
    with_reducible refine (ih k (by omega) (IntKind.u64.wrap (Int.tdiv a0 128)) t260 _ A6.out).mono ?_
    rintro e w12 ⟨rfl, hb⟩
    refine ⟨_, rfl, ?_⟩
    have n0_ := Aq.mk (Kd.q36q HO259.out hb)
    have n1_ := Aq.mk (q10q (by repeat (with_reducible first | exact HB.out | apply q4q | apply q0q | apply q2q)) hb)
    clear HO259
    clear HB
    have HO259 := n0_
    have HB := n1_
    clear n0_ n1_
    (try clear hb)
    (try clear hb2)
    (try clear hk)
    (try clear hi)
    refine hK.out _ _ trivial (fun hHeld => ?_)
    clear hK K
    refine norm_ (a' := ?_) ?_ ?_
    rotate_left
    ·show Act.put _ (some 17) _ = _
     simp only [Act.put, sA_, sZ_, sS_, i64_w, i32_w]
     rfl
    exact norm_ (by simp only [putAll, Act.put, List.setIfInBounds_toArray, List.set_cons_zero, List.set_cons_succ]) (hCont (v258) _ ⟨HO259.out, (by repeat (with_reducible first | exact HB.out | apply q4q | apply q0q | apply q2q))⟩)
   ·skip
    refine goes_ Try.func41 (by kernel_rfl) rfl #[.int .u64 (IntKind.u64.wrap (Int.tdiv a0 128))] (by rfl) rfl rfl (by (try simp only [List.map_toArray, List.map_cons, List.map_nil]); first | done | rfl) ?_
    with_reducible refine (ih k (by omega) (IntKind.u64.wrap (Int.tdiv a0 128)) t260 _ A6.out).mono ?_
    rintro e w11 ⟨rfl, hb⟩
    refine ⟨_, rfl, ?_⟩
    have n0_ := Aq.mk (Kd.q36q HO259.out hb)
    have n1_ := Aq.mk (q10q (by repeat (with_reducible first | exact HB.out | apply q4q | apply q0q | apply q2q)) hb)
    clear HO259
    clear HB
    have HO259 := n0_
    have HB := n1_
    clear n0_ n1_
    (try clear hb)
    (try clear hb2)
    (try clear hk)
    (try clear hi)
    refine hK.out _ _ trivial (fun hHeld => ?_)
    clear hK K
    refine norm_ (a' := ?_) ?_ ?_
    rotate_left
    ·show Act.put _ (some 17) _ = _
     simp only [Act.put, sA_, sZ_, sS_, i64_w, i32_w]
     rfl
    refine one_ (i := 5) (N := some 14) (bA 11 511) rfl rfl (q35q HT_.out (by kernel_rfl)) (by decide) (fun K hK => ?_)
    have hcv12 := own_string (P := Try.prog) Try.underlying38 Try.underlying5 Try.underlying9 (Kd.own_of_R HO259.out)
    refine value_ (w1 := ?_) (v := ?_) (by rfl) rfl ?_ ?_
    rotate_left 2
    ·go_simp
     constructor
     ·rfl
     ·rfl
    clear hcv12
    refine hK.out _ _ trivial (fun hHeld => ?_)
    clear hK K
    refine norm_ (a' := ?_) ?_ ?_
    rotate_left
    ·show Act.put _ (some 14) _ = _
     simp only [Act.put, sA_, sZ_, sS_, i64_w, i32_w]
     rfl
    exact norm_ (by simp only [putAll, Act.put, List.setIfInBounds_toArray, List.set_cons_zero, List.set_cons_succ]) (hCont (v258) _ ⟨HO259.out, (by repeat (with_reducible first | exact HB.out | apply q4q | apply q0q | apply q2q))⟩)
  ·skip
   refine goes_ Try.func41 (by kernel_rfl) rfl #[.int .u64 (IntKind.u64.wrap (Int.tdiv a0 128))] (by rfl) rfl rfl (by (try simp only [List.map_toArray, List.map_cons, List.map_nil]); first | done | rfl) ?_
   with_reducible refine (ih k (by omega) (IntKind.u64.wrap (Int.tdiv a0 128)) t260 _ A6.out).mono ?_
   rintro e w9 ⟨rfl, hb⟩
   refine ⟨_, rfl, ?_⟩
   have n0_ := Aq.mk (q10q (by repeat (with_reducible first | exact HB.out | apply q4q | apply q0q | apply q2q)) hb)
   clear HB
   have HB := n0_
   clear n0_
   (try clear hb)
   (try clear hb2)
   (try clear hk)
   (try clear hi)
   refine hK.out _ _ trivial (fun hHeld => ?_)
   clear hK K
   refine norm_ (a' := ?_) ?_ ?_
   rotate_left
   ·show Act.put _ (some 17) _ = _
    simp only [Act.put, sA_, sZ_, sS_, i64_w, i32_w]
    rfl
   refine one_ (i := 4) (N := some 13) (bA 11 479) rfl rfl (q35q HT_.out (by kernel_rfl)) (by decide) (fun K hK => ?_)
   refine Kd.R_lit_step (Kd.int .u8) _ 5 ?hg (N := 13) ?hd (xs := ([(128 + ((Int.tmod a0 128) % 256)) % 256] : List Int)) (inner := [.int .u8 ((128 + ((Int.tmod a0 128) % 256)) % 256)]) (ok := fun _ => True) (okp := fun _ => True) ?hr ?hp (fun _ hk => hk) trivial (Below.refl _ _) (Nat.le_refl _) (by simp) ?_; (case hd => rfl); (case hg => rfl); (case hr => first | (go_simp; done) | (go_simp; rfl) | (go_simp; simp [IntKind.wrap, IntKind.bits, IntKind.signed])); (case hp => exact (Reps.one (show Kd.M (Kd.int .u8) _ _ _ ((128 + ((Int.tmod a0 128) % 256)) % 256) [.int .u8 ((128 + ((Int.tmod a0 128) % 256)) % 256)] from rfl) (Reps.none _ _)))
   intro v258 w10 ho11 hb hg_ hnew_
   clear hg_ hnew_
   (first | rw [← Ny257.out] at ho11 | (simp only [Int.reduceToNat] at ho11; rw [← Ny257.out] at ho11))
   have n0_ := Aq.mk (Kd.R_lower ho11 (q8q (by repeat (with_reducible first | exact HB.out | apply q4q | apply q0q | apply q2q))))
   have n1_ := Aq.mk (q10q (by repeat (with_reducible first | exact HB.out | apply q4q | apply q0q | apply q2q)) hb)
   clear HB
   have HO259 := n0_
   have HB := n1_
   clear n0_ n1_
   clear hb ho11
   refine hK.out _ _ trivial (fun hHeld => ?_)
   clear hK K
   refine norm_ (a' := ?_) ?_ ?_
   rotate_left
   ·show Act.put _ (some 13) _ = _
    simp only [Act.put, sA_, sZ_, sS_, i64_w, i32_w]
    rfl
   refine one_ (i := 5) (N := some 14) (bA 11 511) rfl rfl (q35q HT_.out (by kernel_rfl)) (by decide) (fun K hK => ?_)
   have hcv12 := own_string (P := Try.prog) Try.underlying38 Try.underlying5 Try.underlying9 (Kd.own_of_R HO259.out)
   refine value_ (w1 := ?_) (v := ?_) (by rfl) rfl ?_ ?_
   rotate_left 2
   ·go_simp
    constructor
    ·rfl
    ·rfl
   clear hcv12
   refine hK.out _ _ trivial (fun hHeld => ?_)
   clear hK K
   refine norm_ (a' := ?_) ?_ ?_
   rotate_left
   ·show Act.put _ (some 14) _ = _
    simp only [Act.put, sA_, sZ_, sS_, i64_w, i32_w]
    rfl
   exact norm_ (by simp only [putAll, Act.put, List.setIfInBounds_toArray, List.set_cons_zero, List.set_cons_succ]) (hCont (v258) _ ⟨HO259.out, (by repeat (with_reducible first | exact HB.out | apply q4q | apply q0q | apply q2q))⟩)
 rintro v258 w13 ⟨h0_, h1_⟩
 have n0_ : Aq (Kd.R (Kd.int .u8) 5 w13 w.heap.size (fun _ => True) v258 y257) := ⟨h0_⟩
 have n1_ : Aq (Below w.heap.size w w13) := ⟨h1_⟩
 clear HB
 clear h0_ h1_
 have HO259 := n0_
 have HB := n1_
 clear n0_ n1_
 have hHeld := trivial
 refine norm_ (a' := ?_) ?_ ?_
 rotate_left
 ·simp only [putAll, Act.put, List.setIfInBounds_toArray, List.set_cons_zero, List.set_cons_succ]
  rfl
 refine pure_ (i := 9) (N := some 18) (v := ?_) (a' := ?_) (bA 11 1023) rfl rfl (q18q HT_.out (by kernel_rfl)) (fun _ _ _ h => h) (Or.inl ⟨by rfl, ?_⟩) ?_ ?_
 rotate_left
 ·intro w'
  go_simp
  with_reducible rfl
 rotate_left
 ·simp only [Act.put, sA_, sZ_, sS_, i64_w, i32_w]
  rfl
 refine pure_ (i := 10) (N := some 2) (v := ?_) (a' := ?_) (bA 11 2047) rfl rfl (q18q HT_.out (by kernel_rfl)) (fun _ _ _ h => h) (Or.inl ⟨by rfl, ?_⟩) ?_ ?_
 rotate_left
 ·intro w'
  go_simp
  with_reducible rfl
 rotate_left
 ·simp only [Act.put, sA_, sZ_, sS_, i64_w, i32_w]
  rfl
 refine done_ (done_of HT_.out (by kernel_rfl)) ?_
 try go_wp2
 go_ret
 exact ⟨by first | rfl | (simp [*] <;> rfl), by repeat (with_reducible first | exact HB.out | apply q4q | apply q0q | apply q2q)⟩
end Go.Proofs.Ytkkgbbfojmnopaa.G
end
