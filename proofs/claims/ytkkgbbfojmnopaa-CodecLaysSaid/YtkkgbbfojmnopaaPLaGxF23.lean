import Derived.Test.YtkkgbbfojmnopaaPLaGx0
import Derived.Test.YtkkgbbfojmnopaaPLaGxF41
import Derived.Test.YtkkgbbfojmnopaaPLaGxF22
import Derived.Test.YtkkgbbfojmnopaaPLaGxF42
set_option linter.unusedVariables false
set_option linter.unusedSimpArgs false
section
namespace Go.Proofs.Ytkkgbbfojmnopaa.G
open Go.RowKit Go.Proofs.YtkkgbbfojmnopaaW.PrintWords Go.Proofs.YtkkgbbfojmnopaaW.PrintLast Go.Proofs.YtkkgbbfojmnopaaW.PrintMore
attribute [local go_sem] q25q q26q q30q q31q q20q q21q q27q q28q
mutual
def tallowref21_proto.l0 : Nat → ByteArray → Int → Int → Int → List (S50) → List (S42) → List (S52) → Option (ByteArray)
 | 0, _, _, _, _, _, _, _ => none
 | k + 1, x3, x4, x263000, x263001, x263002, x263003, x263004 => if x4 < (x263002.length : Int) then (if 0 ≤ x4 then (if (rd_T50 x263002 x4).f0 = true then ((tallowref21_natural.f k 1).bind fun t267 => (if x3.size + t267.size ≤ 9223372036854775807 then ((tallowref21_natural.f k ((rd_T50 x263002 x4).f1)).bind fun t269 => (if (x3 ++ t267).size + t269.size ≤ 9223372036854775807 then (tallowref21_proto.l0 k ((x3 ++ t267) ++ t269) (wrap64 (x4 + 1)) x263000 x263001 x263002 x263003 x263004) else (none))) else (none))) else ((tallowref21_natural.f k 0).bind fun t270 => (if x3.size + t270.size ≤ 9223372036854775807 then ((tallowref21_natural.f k ((rd_T50 x263002 x4).f1)).bind fun t272 => (if (x3 ++ t270).size + t272.size ≤ 9223372036854775807 then (tallowref21_proto.l0 k ((x3 ++ t270) ++ t272) (wrap64 (x4 + 1)) x263000 x263001 x263002 x263003 x263004) else (none))) else (none)))) else (none)) else ((tallowref21_natural.f k (x263003.length : Int)).bind fun t273 => (if x3.size + t273.size ≤ 9223372036854775807 then (tallowref21_proto.l1 k (x3 ++ t273) 0 x263000 x263001 x263002 x263003 x263004) else (none)))
def tallowref21_proto.l1 : Nat → ByteArray → Int → Int → Int → List (S50) → List (S42) → List (S52) → Option (ByteArray)
 | 0, _, _, _, _, _, _, _ => none
 | k + 1, x3, x6, x263000, x263001, x263002, x263003, x263004 => if x6 < (x263003.length : Int) then (if 0 ≤ x6 then (if ((rd_T42 x263003 x6).f0) = 3 then ((tallowref21_natural.f k 0).bind fun t276 => (if x3.size + t276.size ≤ 9223372036854775807 then ((tallowref21_signed.f ((rd_T42 x263003 x6).f1)).bind fun t277 => ((tallowref21_Number.f k t277).bind fun t278 => (if (x3 ++ t276).size + t278.size ≤ 9223372036854775807 then (tallowref21_proto.l1 k ((x3 ++ t276) ++ t278) (wrap64 (x6 + 1)) x263000 x263001 x263002 x263003 x263004) else (none)))) else (none))) else ((tallowref21_natural.f k 1).bind fun t279 => (if x3.size + t279.size ≤ 9223372036854775807 then ((tallowref21_natural.f k (((rd_T42 x263003 x6).f2).size : Int)).bind fun t280 => (if (x3 ++ t279).size + t280.size ≤ 9223372036854775807 then (if ((x3 ++ t279) ++ t280).size + ((rd_T42 x263003 x6).f2).size ≤ 9223372036854775807 then (tallowref21_proto.l1 k (((x3 ++ t279) ++ t280) ++ ((rd_T42 x263003 x6).f2)) (wrap64 (x6 + 1)) x263000 x263001 x263002 x263003 x263004) else (none)) else (none))) else (none)))) else (none)) else ((tallowref21_natural.f k (x263004.length : Int)).bind fun t281 => (if x3.size + t281.size ≤ 9223372036854775807 then (tallowref21_proto.l2 k (x3 ++ t281) 0 x263000 x263001 x263002 x263003 x263004) else (none)))
def tallowref21_proto.l2 : Nat → ByteArray → Int → Int → Int → List (S50) → List (S42) → List (S52) → Option (ByteArray)
 | 0, _, _, _, _, _, _, _ => none
 | k + 1, x3, x8, x263000, x263001, x263002, x263003, x263004 => if x8 < (x263004.length : Int) then (if 0 ≤ x8 then ((tallowref21_natural.f k ((rd_T52 x263004 x8).f0)).bind fun t283 => (if x3.size + t283.size ≤ 9223372036854775807 then ((tallowref21_natural.f k ((rd_T52 x263004 x8).f1)).bind fun t285 => (if (x3 ++ t283).size + t285.size ≤ 9223372036854775807 then ((tallowref21_natural.f k ((rd_T52 x263004 x8).f2)).bind fun t287 => (if ((x3 ++ t283) ++ t285).size + t287.size ≤ 9223372036854775807 then (tallowref21_proto.l2 k (((x3 ++ t283) ++ t285) ++ t287) (wrap64 (x8 + 1)) x263000 x263001 x263002 x263003 x263004) else (none))) else (none))) else (none))) else (none)) else (some x3)
end
def tallowref21_proto.f (k : Nat) (a0_0 : Int) (a0_1 : Int) (l0_2 : List (S50)) (l0_3 : List (S42)) (l0_4 : List (S52)) : Option (ByteArray) := (tallowref21_natural.f k a0_0).bind fun t263 => ((tallowref21_natural.f k a0_1).bind fun t264 => (if t263.size + t264.size ≤ 9223372036854775807 then ((tallowref21_natural.f k (l0_2.length : Int)).bind fun t265 => (if (t263 ++ t264).size + t265.size ≤ 9223372036854775807 then (tallowref21_proto.l0 k ((t263 ++ t264) ++ t265) 0 a0_0 a0_1 l0_2 l0_3 l0_4) else (none))) else (none)))
def tallowref21_proto.T1 : Bool × List (List Nat × List Nat) := (true, [([], []), ([0], [0]), ([1], [1]), ([], []), ([3], [3]), ([4, 2], [4]), ([2, 5], [2, 5]), ([], []), ([7], [7]), ([8], [8]), ([9, 5], [9]), ([6, 10], [6, 10]), ([11, 10, 0, 1, 2, 3, 4, 5, 6, 7, 8, 9, 10, 11], [11])])
def tallowref21_proto.B1 : List Nat := [0, 1, 3, 0, 8, 31, 63, 0, 128, 384, 959, 2047, 4095]
theorem tallowref21_proto.tab1 : rtab .any (opsOf Try.f23 1) = tallowref21_proto.T1 := by kernel_rfl
theorem tallowref21_proto.bits1 : waitsOk tallowref21_proto.T1.2 tallowref21_proto.B1 = true := by kernel_rfl
def tallowref21_proto.T8 : Bool × List (List Nat × List Nat) := (true, [([], []), ([], []), ([1], [1]), ([0, 2], [0, 2]), ([], []), ([4], [4]), ([], []), ([5, 6], [5, 6]), ([7], [7]), ([8], [8]), ([9, 2], [9]), ([3, 10], [3, 10]), ([11, 10, 0, 1, 2, 3, 4, 5, 6, 7, 8, 9, 10, 11], [0, 11])])
def tallowref21_proto.B8 : List Nat := [0, 0, 2, 7, 0, 16, 0, 112, 240, 496, 1014, 2047, 4095]
theorem tallowref21_proto.tab8 : rtab .any (opsOf Try.f23 8) = tallowref21_proto.T8 := by kernel_rfl
theorem tallowref21_proto.bits8 : waitsOk tallowref21_proto.T8.2 tallowref21_proto.B8 = true := by kernel_rfl
def tallowref21_proto.T15 : Bool × List (List Nat × List Nat) := (true, [([], []), ([], []), ([0, 1], [0, 1]), ([], []), ([3], [3]), ([4, 1], [4]), ([5, 5], [5]), ([2, 6], [2, 6]), ([7, 6, 0, 1, 2, 3, 4, 5, 6, 7], [0, 7])])
def tallowref21_proto.B15 : List Nat := [0, 0, 3, 0, 8, 26, 58, 127, 255]
theorem tallowref21_proto.tab15 : rtab .any (opsOf Try.f23 15) = tallowref21_proto.T15 := by kernel_rfl
theorem tallowref21_proto.bits15 : waitsOk tallowref21_proto.T15.2 tallowref21_proto.B15 = true := by kernel_rfl
def tallowref21_proto.T16 : Bool × List (List Nat × List Nat) := (true, [([], []), ([], []), ([0, 1], [0, 1]), ([], []), ([3], [3]), ([4], [4]), ([5, 1], [5]), ([2, 6], [2, 6]), ([], []), ([8], [8]), ([7, 9], [7, 9]), ([10, 6, 0, 1, 2, 3, 4, 5, 6, 7, 8, 9, 10], [0, 10])])
def tallowref21_proto.B16 : List Nat := [0, 0, 3, 0, 8, 24, 58, 127, 0, 256, 1023, 2047]
theorem tallowref21_proto.tab16 : rtab .any (opsOf Try.f23 16) = tallowref21_proto.T16 := by kernel_rfl
theorem tallowref21_proto.bits16 : waitsOk tallowref21_proto.T16.2 tallowref21_proto.B16 = true := by kernel_rfl
def tallowref21_proto.T21 : Bool × List (List Nat × List Nat) := (true, [([], []), ([], []), ([1], [1]), ([], []), ([2, 3], [2, 3]), ([4], [4]), ([5], [5]), ([6], [6]), ([0, 7], [0, 7]), ([], []), ([9], [9]), ([], []), ([10, 11], [10, 11]), ([12], [12]), ([13], [13]), ([14, 7], [14]), ([8, 15], [8, 15]), ([], []), ([17], [17]), ([], []), ([18, 19], [18, 19]), ([20], [20]), ([21], [21]), ([22, 15], [22]), ([16, 23], [16, 23]), ([24, 23, 0, 1, 2, 3, 4, 5, 6, 7, 8, 9, 10, 11, 12, 13, 14, 15, 16, 17, 18, 19, 20, 21, 22, 23, 24], [0, 24])])
def tallowref21_proto.B21 : List Nat := [0, 0, 2, 0, 14, 30, 62, 126, 255, 0, 512, 0, 3584, 7680, 15872, 32510, 65535, 0, 131072, 0, 917504, 1966080, 4063232, 8322814, 16777215, 33554431]
theorem tallowref21_proto.tab21 : rtab .any (opsOf Try.f23 21) = tallowref21_proto.T21 := by kernel_rfl
theorem tallowref21_proto.bits21 : waitsOk tallowref21_proto.T21.2 tallowref21_proto.B21 = true := by kernel_rfl
set_option maxHeartbeats 8000000 in
set_option maxRecDepth 100000 in
theorem tallowref21_proto.calls (k : Nat) (a0_0 : Int) (a0_1 : Int) (A0_2 : Option Addr) (c0_2 : Nat) (l0_2 : List (S50)) (A0_3 : Option Addr) (c0_3 : Nat) (l0_3 : List (S42)) (A0_4 : Option Addr) (c0_4 : Nat) (l0_4 : List (S52)) (r : ByteArray) (w : World) (hr0_2 : Kd.C k50 w A0_2 l0_2.length l0_2) (hc0_2 : l0_2.length ≤ c0_2) (hr0_3 : Kd.C k42 w A0_3 l0_3.length l0_3) (hc0_3 : l0_3.length ≤ c0_3) (hr0_4 : Kd.C k52 w A0_4 l0_4.length l0_4) (hc0_4 : l0_4.length ≤ c0_4) (h : tallowref21_proto.f k a0_0 a0_1 l0_2 l0_3 l0_4 = some r) :
  Calls Try.prog 23 #[.agg #[.int .i64 a0_0, .int .i64 a0_1, .slice A0_2 l0_2.length c0_2, .slice A0_3 l0_3.length c0_3, .slice A0_4 l0_4.length c0_4]] w fun e w' => e = .returned (.string r) ∧ Below w.heap.size w w' := by
 have hu47 := Try.underlying47
 have hu42 := Try.underlying42
 have HR0_2 := Aq.mk hr0_2
 have HC0_2 := Aq.mk hc0_2
 clear hr0_2 hc0_2
 have HR0_3 := Aq.mk hr0_3
 have HC0_3 := Aq.mk hc0_3
 clear hr0_3 hc0_3
 have HR0_4 := Aq.mk hr0_4
 have HC0_4 := Aq.mk hc0_4
 clear hr0_4 hc0_4
 have HB := Aq.mk (Below.refl w.heap.size w)
 have H : ((tallowref21_natural.f k a0_0).bind fun t263 => ((tallowref21_natural.f k a0_1).bind fun t264 => (if t263.size + t264.size ≤ 9223372036854775807 then ((tallowref21_natural.f k (l0_2.length : Int)).bind fun t265 => (if (t263 ++ t264).size + t265.size ≤ 9223372036854775807 then (tallowref21_proto.l0 k ((t263 ++ t264) ++ t265) 0 a0_0 a0_1 l0_2 l0_3 l0_4) else (none))) else (none)))) = some r := h
 clear h
 replace H := Option.bind_eq_some_iff.mp H
 obtain ⟨t263, A20, H⟩ := H
 replace H : ((tallowref21_natural.f k a0_1).bind fun t264 => (if t263.size + t264.size ≤ 9223372036854775807 then ((tallowref21_natural.f k (l0_2.length : Int)).bind fun t265 => (if (t263 ++ t264).size + t265.size ≤ 9223372036854775807 then (tallowref21_proto.l0 k ((t263 ++ t264) ++ t265) 0 a0_0 a0_1 l0_2 l0_3 l0_4) else (none))) else (none))) = some r := H
 have A2 := Aq.mk A20
 clear A20
 replace H := Option.bind_eq_some_iff.mp H
 obtain ⟨t264, A30, H⟩ := H
 replace H : (if t263.size + t264.size ≤ 9223372036854775807 then ((tallowref21_natural.f k (l0_2.length : Int)).bind fun t265 => (if (t263 ++ t264).size + t265.size ≤ 9223372036854775807 then (tallowref21_proto.l0 k ((t263 ++ t264) ++ t265) 0 a0_0 a0_1 l0_2 l0_3 l0_4) else (none))) else (none)) = some r := H
 have A3 := Aq.mk A30
 clear A30
 by_cases c4 : t263.size + t264.size ≤ 9223372036854775807
 case neg =>
  rw [if_neg c4] at H
  exact absurd H (by simp)
 rw [if_pos c4] at H
 have c4b0 := eq_true c4
 have c4b1 : decide (t263.size + t264.size ≤ 9223372036854775807) = true := decide_eq_true c4
 try have c4b2 : (9223372036854775807 < t263.size + t264.size) = False := eq_false (Nat.not_lt.2 c4)
 replace H := Option.bind_eq_some_iff.mp H
 obtain ⟨t265, A50, H⟩ := H
 replace H : (if (t263 ++ t264).size + t265.size ≤ 9223372036854775807 then (tallowref21_proto.l0 k ((t263 ++ t264) ++ t265) 0 a0_0 a0_1 l0_2 l0_3 l0_4) else (none)) = some r := H
 have A5 := Aq.mk A50
 clear A50
 by_cases c6 : (t263 ++ t264).size + t265.size ≤ 9223372036854775807
 case neg =>
  rw [if_neg c6] at H
  exact absurd H (by simp)
 rw [if_pos c6] at H
 have c6b0 := eq_true c6
 have c6b1 : decide ((t263 ++ t264).size + t265.size ≤ 9223372036854775807) = true := decide_eq_true c6
 try have c6b2 : (9223372036854775807 < (t263 ++ t264).size + t265.size) = False := eq_false (Nat.not_lt.2 c6)
 try (have c6b3 := c6b2; simp only [ByteArray.size_append] at c6b3)
 have H' := Aq.mk H
 clear H
 go_enter Try.func23, Try.ntmps23
 try go_wp2_with (first | ((with_reducible refine q13q (N := 1) rfl ?_); refine q11q ?hg (N := 1) ?hd (cs := #[.int .i64 a0_0, .int .i64 a0_1, .slice A0_2 l0_2.length c0_2, .slice A0_3 l0_3.length c0_3, .slice A0_4 l0_4.length c0_4]) (t := 47) ?hr ?_; (case hd => rfl); (case hg => rfl); (case hr => first | (go_simp; done) | (go_simp; rfl)); intro gb262 hg w7 hbox hb; have n0_ := Aq.mk (q10q (by repeat (with_reducible first | exact HB.out | apply q4q | apply q0q | apply q2q)) hb); have n1_ := Aq.mk (hbox); have n2_ := Aq.mk ((by rw [hg]; exact (q8q (by repeat (with_reducible first | exact HB.out | apply q4q | apply q0q | apply q2q))) : w.heap.size ≤ gb262)); have n3_ := Aq.mk ((by rw [hg]; exact (q8q (by repeat (with_reducible first | exact HB.out | apply q4q | apply q0q | apply q2q))) : w.heap.size ≤ gb262)); clear HB; have HB := n0_; have BK262 := n1_; have GW262 := n2_; have GE262 := n3_; clear n0_ n1_ n2_ n3_; clear hb hbox hg))
 have n0_ := Aq.mk (q9q BK262.out)
 have n1_ := Aq.mk (q2q HB.out)
 clear BK262
 clear HB
 have BK262 := n0_
 have HB := n1_
 clear n0_ n1_
 refine start_ (n := 13) (S := fun w' => w'.cell? ⟨gb262, 0, none⟩ = some (.int .i64 a0_0) ∧ w'.cell? ⟨gb262, 1, none⟩ = some (.int .i64 a0_1) ∧ w'.cell? ⟨gb262, 2, none⟩ = some (.slice A0_2 l0_2.length c0_2) ∧ w'.cell? ⟨gb262, 3, none⟩ = some (.slice A0_3 l0_3.length c0_3) ∧ w'.cell? ⟨gb262, 4, none⟩ = some (.slice A0_4 l0_4.length c0_4)) (ds := []) #[false, false, false, false, false, false, false, false, false, false, false, false, false] (by kernel_rfl) rfl rfl ⟨(q1q BK262.out 0).trans rfl, (q1q BK262.out 1).trans rfl, (q1q BK262.out 2).trans rfl, (q1q BK262.out 3).trans rfl, (q1q BK262.out 4).trans rfl⟩ (fun hHeld => ?_); refine with_tabW tallowref21_proto.tab1 tallowref21_proto.bits1 (fun HT_ HW_ => ?_)
 generalize w7.drew = w8 at BK262 HB hHeld ⊢
 refine pure_ (i := 0) (N := some 9) (v := ?_) (a' := ?_) (bA 13 1) rfl rfl (q18q HT_.out (by kernel_rfl)) (fun _ _ _ h => h) (Or.inl ⟨by rfl, ?_⟩) ?_ ?_
 rotate_left
 ·intro w'
  go_simp
  with_reducible rfl
 rotate_left
 ·simp only [Act.put, sA_, sZ_, sS_, i64_w, i32_w]
  rfl
 refine pure_ (i := 3) (N := some 12) (v := ?_) (a' := ?_) (bA 13 9) rfl rfl (q18q HT_.out (by kernel_rfl)) (fun _ _ _ h => h) (Or.inl ⟨by rfl, ?_⟩) ?_ ?_
 rotate_left
 ·intro w'
  go_simp
  with_reducible rfl
 rotate_left
 ·simp only [Act.put, sA_, sZ_, sS_, i64_w, i32_w]
  rfl
 refine pure_ (i := 7) (N := some 16) (v := ?_) (a' := ?_) (bA 13 137) rfl rfl (q18q HT_.out (by kernel_rfl)) (fun _ _ _ h => h) (Or.inl ⟨by rfl, ?_⟩) ?_ ?_
 rotate_left
 ·intro w'
  go_simp
  with_reducible rfl
 rotate_left
 ·simp only [Act.put, sA_, sZ_, sS_, i64_w, i32_w]
  rfl
 refine take_ (i := 1) (N := some 10) (v := ?_) (a' := ?_) (bA 13 139) rfl rfl (q24q HT_.out HW_.out (by kernel_rfl)) (fun _ _ _ h => h) (Or.inl ⟨by rfl, ?_⟩) hHeld ?_ ?_
 rotate_left
 ·rintro w' ⟨s0, s1, s2, s3, s4⟩
  go_simp
  with_reducible rfl
 rotate_left
 ·simp only [Act.put, sA_, sZ_, sS_, i64_w, i32_w]
  rfl
 refine take_ (i := 4) (N := some 13) (v := ?_) (a' := ?_) (bA 13 155) rfl rfl (q24q HT_.out HW_.out (by kernel_rfl)) (fun _ _ _ h => h) (Or.inl ⟨by rfl, ?_⟩) hHeld ?_ ?_
 rotate_left
 ·rintro w' ⟨s0, s1, s2, s3, s4⟩
  go_simp
  with_reducible rfl
 rotate_left
 ·simp only [Act.put, sA_, sZ_, sS_, i64_w, i32_w]
  rfl
 refine take_ (i := 8) (N := some 17) (v := ?_) (a' := ?_) (bA 13 411) rfl rfl (q24q HT_.out HW_.out (by kernel_rfl)) (fun _ _ _ h => h) (Or.inl ⟨by rfl, ?_⟩) hHeld ?_ ?_
 rotate_left
 ·rintro w' ⟨s0, s1, s2, s3, s4⟩
  go_simp
  with_reducible rfl
 rotate_left
 ·simp only [Act.put, sA_, sZ_, sS_, i64_w, i32_w]
  rfl
 refine pure_ (i := 9) (N := some 18) (v := ?_) (a' := ?_) (bA 13 923) rfl rfl (q18q HT_.out (by kernel_rfl)) (fun _ _ _ h => h) (Or.inl ⟨by rfl, ?_⟩) ?_ ?_
 rotate_left
 ·intro w'
  go_simp
  with_reducible rfl
 rotate_left
 ·simp only [Act.put, sA_, sZ_, sS_, i64_w, i32_w]
  rfl
 refine one_ (i := 2) (N := some 11) (bA 13 927) rfl rfl (q35q HT_.out (by kernel_rfl)) (by decide) (fun K hK => ?_)
 refine goes_ Try.func22 (by kernel_rfl) rfl #[.int .i64 a0_0] (by rfl) rfl rfl (by (try simp only [List.map_toArray, List.map_cons, List.map_nil]); first | done | rfl) ?_
 with_reducible refine (tallowref21_natural.calls k a0_0 t263 _ A2.out).mono ?_
 rintro e w9 ⟨rfl, hb⟩
 refine ⟨_, rfl, ?_⟩
 have n0_ := Aq.mk (q12q (g := gb262) (o := .cells #[.int .i64 a0_0, .int .i64 a0_1, .slice A0_2 l0_2.length c0_2, .slice A0_3 l0_3.length c0_3, .slice A0_4 l0_4.length c0_4] 47 (0, 0)) (by exact BK262.out) hb)
 have n1_ := Aq.mk (q10q (by repeat (with_reducible first | exact HB.out | apply q4q | apply q0q | apply q2q | refine q5q ?_ GE262.out)) hb)
 clear BK262
 clear HB
 have BK262 := n0_
 have HB := n1_
 clear n0_ n1_
 (try clear hb)
 (try clear hb2)
 (try clear hk)
 (try clear hi)
 refine hK.out _ _ ⟨(q1q BK262.out 0).trans rfl, (q1q BK262.out 1).trans rfl, (q1q BK262.out 2).trans rfl, (q1q BK262.out 3).trans rfl, (q1q BK262.out 4).trans rfl⟩ (fun hHeld => ?_)
 clear hK K
 refine norm_ (a' := ?_) ?_ ?_
 rotate_left
 ·show Act.put _ (some 11) _ = _
  simp only [Act.put, sA_, sZ_, sS_, i64_w, i32_w]
  rfl
 refine one_ (i := 5) (N := some 14) (bA 13 959) rfl rfl (q35q HT_.out (by kernel_rfl)) (by decide) (fun K hK => ?_)
 refine goes_ Try.func22 (by kernel_rfl) rfl #[.int .i64 a0_1] (by rfl) rfl rfl (by (try simp only [List.map_toArray, List.map_cons, List.map_nil]); first | done | rfl) ?_
 with_reducible refine (tallowref21_natural.calls k a0_1 t264 _ A3.out).mono ?_
 rintro e w10 ⟨rfl, hb⟩
 refine ⟨_, rfl, ?_⟩
 have n0_ := Aq.mk (q12q (g := gb262) (o := .cells #[.int .i64 a0_0, .int .i64 a0_1, .slice A0_2 l0_2.length c0_2, .slice A0_3 l0_3.length c0_3, .slice A0_4 l0_4.length c0_4] 47 (0, 0)) (by exact BK262.out) hb)
 have n1_ := Aq.mk (q10q (by repeat (with_reducible first | exact HB.out | apply q4q | apply q0q | apply q2q | refine q5q ?_ GE262.out)) hb)
 clear BK262
 clear HB
 have BK262 := n0_
 have HB := n1_
 clear n0_ n1_
 (try clear hb)
 (try clear hb2)
 (try clear hk)
 (try clear hi)
 refine hK.out _ _ ⟨(q1q BK262.out 0).trans rfl, (q1q BK262.out 1).trans rfl, (q1q BK262.out 2).trans rfl, (q1q BK262.out 3).trans rfl, (q1q BK262.out 4).trans rfl⟩ (fun hHeld => ?_)
 clear hK K
 refine norm_ (a' := ?_) ?_ ?_
 rotate_left
 ·show Act.put _ (some 14) _ = _
  simp only [Act.put, sA_, sZ_, sS_, i64_w, i32_w]
  rfl
 refine pure_ (i := 6) (N := some 15) (v := ?_) (a' := ?_) (bA 13 1023) rfl rfl (q18q HT_.out (by kernel_rfl)) (fun _ _ _ h => h) (Or.inl ⟨by rfl, ?_⟩) ?_ ?_
 rotate_left
 ·intro w'
  go_simp
  with_reducible rfl
 rotate_left
 ·simp only [Act.put, sA_, sZ_, sS_, i64_w, i32_w]
  rfl
 refine one_ (i := 10) (N := some 19) (bA 13 2047) rfl rfl (q35q HT_.out (by kernel_rfl)) (by decide) (fun K hK => ?_)
 refine goes_ Try.func22 (by kernel_rfl) rfl #[.int .i64 (l0_2.length : Int)] (by rfl) rfl rfl (by (try simp only [List.map_toArray, List.map_cons, List.map_nil]); first | done | rfl) ?_
 with_reducible refine (tallowref21_natural.calls k (l0_2.length : Int) t265 _ A5.out).mono ?_
 rintro e w11 ⟨rfl, hb⟩
 refine ⟨_, rfl, ?_⟩
 have n0_ := Aq.mk (q12q (g := gb262) (o := .cells #[.int .i64 a0_0, .int .i64 a0_1, .slice A0_2 l0_2.length c0_2, .slice A0_3 l0_3.length c0_3, .slice A0_4 l0_4.length c0_4] 47 (0, 0)) (by exact BK262.out) hb)
 have n1_ := Aq.mk (q10q (by repeat (with_reducible first | exact HB.out | apply q4q | apply q0q | apply q2q | refine q5q ?_ GE262.out)) hb)
 clear BK262
 clear HB
 have BK262 := n0_
 have HB := n1_
 clear n0_ n1_
 (try clear hb)
 (try clear hb2)
 (try clear hk)
 (try clear hi)
 refine hK.out _ _ ⟨(q1q BK262.out 0).trans rfl, (q1q BK262.out 1).trans rfl, (q1q BK262.out 2).trans rfl, (q1q BK262.out 3).trans rfl, (q1q BK262.out 4).trans rfl⟩ (fun hHeld => ?_)
 clear hK K
 refine norm_ (a' := ?_) ?_ ?_
 rotate_left
 ·show Act.put _ (some 19) _ = _
  simp only [Act.put, sA_, sZ_, sS_, i64_w, i32_w]
  rfl
 refine pure_ (i := 11) (N := some 20) (v := ?_) (a' := ?_) (bA 13 4095) rfl rfl (q18q HT_.out (by kernel_rfl)) (fun _ _ _ h => h) (Or.inl ⟨by rfl, ?_⟩) ?_ ?_
 rotate_left
 ·intro w'
  go_simp
  with_reducible rfl
 rotate_left
 ·simp only [Act.put, sA_, sZ_, sS_, i64_w, i32_w]
  rfl
 refine pure_ (i := 12) (N := some 3) (v := ?_) (a' := ?_) (bA 13 8191) rfl rfl (q18q HT_.out (by kernel_rfl)) (fun _ _ _ h => h) (Or.inl ⟨by rfl, ?_⟩) ?_ ?_
 rotate_left
 ·intro w'
  go_simp
  with_reducible rfl
 rotate_left
 ·simp only [Act.put, sA_, sZ_, sS_, i64_w, i32_w]
  rfl
 refine done_ (done_of HT_.out (by kernel_rfl)) ?_
 try go_wp2
 go_loopg [3, 4] k (fun kq v3 v4 w' => ∃ (x3_1 : ByteArray) (x4_1 : Int), v3 = .string x3_1 ∧ v4 = .int .i64 x4_1 ∧ Aq (tallowref21_proto.l0 kq x3_1 x4_1 a0_0 a0_1 l0_2 l0_3 l0_4 = some r) ∧ Aq (kq ≤ k) ∧ Aq (w'.heap[gb262]? = some (.cells #[.int .i64 a0_0, .int .i64 a0_1, (.slice A0_2 l0_2.length c0_2), (.slice A0_3 l0_3.length c0_3), (.slice A0_4 l0_4.length c0_4)] 47 (0, 0))) ∧ Aq (Below w.heap.size w w'))
 case atStart => exact ⟨((t263 ++ t264) ++ t265), (0), (by first | rfl | (simp; done) | (simp [*]; done)), (by first | rfl | (simp; done) | (simp [*]; done)), H', ⟨Nat.le_refl _⟩, ⟨BK262.out⟩, ⟨by repeat (with_reducible first | exact HB.out | apply q4q | apply q0q | apply q2q | refine q5q ?_ GE262.out)⟩⟩
 case round =>
  clear H'
  try clear c2
  try clear p2
  try clear c4
  try clear c4b0
  try clear c4b1
  try clear c4b2
  try clear c6
  try clear c6b0
  try clear c6b1
  try clear c6b2
  obtain ⟨x3_1, x4_1, rfl, rfl, HA, HK1, BK262, HB⟩ := hrel
  cases gk with
  | zero => exact absurd HA.out (by simp [tallowref21_proto.l0])
  | succ k1 =>
   have H := HA.out
   clear HA
   simp only [tallowref21_proto.l0] at H
   by_cases c12 : x4_1 < (l0_2.length : Int)
   ·rw [if_pos c12] at H
    have c12b0 : decide (x4_1 < (l0_2.length : Int)) = true := decide_eq_true c12
    clear c12
    by_cases c13 : 0 ≤ x4_1
    case neg =>
     rw [if_neg c13] at H
     exact absurd H (by simp)
    rw [if_pos c13] at H
    have c13b0 : decide (0 ≤ x4_1) = true := decide_eq_true c13
    clear c13
    obtain ⟨bq14, hbq14⟩ : ∃ b_ : Bool, b_ = ((rd_T50 l0_2 x4_1).f0) := ⟨_, rfl⟩
    replace H : (if bq14 = true then ((tallowref21_natural.f k1 1).bind fun t267 => (if x3_1.size + t267.size ≤ 9223372036854775807 then ((tallowref21_natural.f k1 ((rd_T50 l0_2 x4_1).f1)).bind fun t269 => (if (x3_1 ++ t267).size + t269.size ≤ 9223372036854775807 then (tallowref21_proto.l0 k1 ((x3_1 ++ t267) ++ t269) (wrap64 (x4_1 + 1)) a0_0 a0_1 l0_2 l0_3 l0_4) else (none))) else (none))) else ((tallowref21_natural.f k1 0).bind fun t270 => (if x3_1.size + t270.size ≤ 9223372036854775807 then ((tallowref21_natural.f k1 ((rd_T50 l0_2 x4_1).f1)).bind fun t272 => (if (x3_1 ++ t270).size + t272.size ≤ 9223372036854775807 then (tallowref21_proto.l0 k1 ((x3_1 ++ t270) ++ t272) (wrap64 (x4_1 + 1)) a0_0 a0_1 l0_2 l0_3 l0_4) else (none))) else (none)))) = some r := by rw [← hbq14] at H; exact H
    have Nbq14 := Aq.mk hbq14
    clear hbq14
    by_cases c15 : bq14 = true
    ·subst c15
     have H1 : ((tallowref21_natural.f k1 1).bind fun t267 => (if x3_1.size + t267.size ≤ 9223372036854775807 then ((tallowref21_natural.f k1 ((rd_T50 l0_2 x4_1).f1)).bind fun t269 => (if (x3_1 ++ t267).size + t269.size ≤ 9223372036854775807 then (tallowref21_proto.l0 k1 ((x3_1 ++ t267) ++ t269) (wrap64 (x4_1 + 1)) a0_0 a0_1 l0_2 l0_3 l0_4) else (none))) else (none))) = some r := by rw [if_pos rfl] at H; exact H
     clear H
     have H := H1
     clear H1
     replace H := Option.bind_eq_some_iff.mp H
     obtain ⟨t267, A160, H⟩ := H
     replace H : (if x3_1.size + t267.size ≤ 9223372036854775807 then ((tallowref21_natural.f k1 ((rd_T50 l0_2 x4_1).f1)).bind fun t269 => (if (x3_1 ++ t267).size + t269.size ≤ 9223372036854775807 then (tallowref21_proto.l0 k1 ((x3_1 ++ t267) ++ t269) (wrap64 (x4_1 + 1)) a0_0 a0_1 l0_2 l0_3 l0_4) else (none))) else (none)) = some r := H
     have A16 := Aq.mk A160
     clear A160
     by_cases c17 : x3_1.size + t267.size ≤ 9223372036854775807
     case neg =>
      rw [if_neg c17] at H
      exact absurd H (by simp)
     rw [if_pos c17] at H
     have c17b0 := eq_true c17
     have c17b1 : decide (x3_1.size + t267.size ≤ 9223372036854775807) = true := decide_eq_true c17
     try have c17b2 : (9223372036854775807 < x3_1.size + t267.size) = False := eq_false (Nat.not_lt.2 c17)
     replace H := Option.bind_eq_some_iff.mp H
     obtain ⟨t269, A180, H⟩ := H
     replace H : (if (x3_1 ++ t267).size + t269.size ≤ 9223372036854775807 then (tallowref21_proto.l0 k1 ((x3_1 ++ t267) ++ t269) (wrap64 (x4_1 + 1)) a0_0 a0_1 l0_2 l0_3 l0_4) else (none)) = some r := H
     have A18 := Aq.mk A180
     clear A180
     by_cases c19 : (x3_1 ++ t267).size + t269.size ≤ 9223372036854775807
     case neg =>
      rw [if_neg c19] at H
      exact absurd H (by simp)
     rw [if_pos c19] at H
     have c19b0 := eq_true c19
     have c19b1 : decide ((x3_1 ++ t267).size + t269.size ≤ 9223372036854775807) = true := decide_eq_true c19
     try have c19b2 : (9223372036854775807 < (x3_1 ++ t267).size + t269.size) = False := eq_false (Nat.not_lt.2 c19)
     try (have c19b3 := c19b2; simp only [ByteArray.size_append] at c19b3)
     have H' := Aq.mk H
     clear H
     have hcz20_0 : wr.cell? ⟨gb262, 0, none⟩ = some (.int .i64 a0_0) := (q1q BK262.out 0).trans rfl
     have hcz20_1 : wr.cell? ⟨gb262, 1, none⟩ = some (.int .i64 a0_1) := (q1q BK262.out 1).trans rfl
     have hcz20_2 : wr.cell? ⟨gb262, 2, none⟩ = some (.slice A0_2 l0_2.length c0_2) := (q1q BK262.out 2).trans rfl
     have hcz20_3 : wr.cell? ⟨gb262, 3, none⟩ = some (.slice A0_3 l0_3.length c0_3) := (q1q BK262.out 3).trans rfl
     have hcz20_4 : wr.cell? ⟨gb262, 4, none⟩ = some (.slice A0_4 l0_4.length c0_4) := (q1q BK262.out 4).trans rfl
     have hfz20_0 := q3q BK262.out 0
     have hfz20_1 := q3q BK262.out 1
     have hfz20_2 := q3q BK262.out 2
     have hfz20_3 := q3q BK262.out 3
     have hfz20_4 := q3q BK262.out 4
     have p266 : 0 ≤ (x4_1 : Int) := of_decide_eq_true (by first | (with_reducible assumption) | assumption)
     have q266 : x4_1 < (l0_2.length : Int) := of_decide_eq_true (by first | (with_reducible assumption) | assumption)
     obtain ⟨ad266, e266, hx266_0, hx266_1⟩ := at_T50 HR0_2.out x4_1 p266 q266
     (try rw [← Nbq14.out] at hx266_0)
     cases e266
     replace hx266_0 := (HB.out.cell (World.block_lt_of_cell? w _ hx266_0)).trans hx266_0
     replace hx266_1 := (HB.out.cell (World.block_lt_of_cell? w _ hx266_1)).trans hx266_1
     replace p266 := eq_true p266
     replace q266 := eq_true q266
     try go_wp2
     have n0_ := Aq.mk (q9q BK262.out)
     have n1_ := Aq.mk (q2q HB.out)
     clear BK262
     clear HB
     have BK262 := n0_
     have HB := n1_
     clear n0_ n1_
     have p268 : 0 ≤ (x4_1 : Int) := of_decide_eq_true (by first | (with_reducible assumption) | assumption)
     have q268 : x4_1 < (l0_2.length : Int) := of_decide_eq_true (by first | (with_reducible assumption) | assumption)
     obtain ⟨ad268, e268, hx268_0, hx268_1⟩ := at_T50 HR0_2.out x4_1 p268 q268
     have hw268_1 := hx268_1
     have hw268_0 := hx268_0
     try rw [← Nbq14.out] at hw268_0
     (try rw [← Nbq14.out] at hx268_0)
     obtain rfl : ad266 = ad268 := (by injection e268)
     replace hx268_0 := (HB.out.cell (World.block_lt_of_cell? w _ hx268_0)).trans hx268_0
     replace hx268_1 := (HB.out.cell (World.block_lt_of_cell? w _ hx268_1)).trans hx268_1
     replace p268 := eq_true p268
     replace q268 := eq_true q268
     refine start_ (n := 13) (S := fun w' => w'.cell? ⟨gb262, 0, none⟩ = some (.int .i64 a0_0) ∧ w'.cell? ⟨gb262, 1, none⟩ = some (.int .i64 a0_1) ∧ w'.cell? ⟨gb262, 2, none⟩ = some (.slice (some ad266) l0_2.length c0_2) ∧ w'.cell? ⟨gb262, 3, none⟩ = some (.slice A0_3 l0_3.length c0_3) ∧ w'.cell? ⟨gb262, 4, none⟩ = some (.slice A0_4 l0_4.length c0_4) ∧ w'.cell? (ad266.add ((x4_1).toNat * 2)) = some (.bool (true)) ∧ w'.cell? ⟨(ad266.add ((x4_1).toNat * 2)).block, (ad266.add ((x4_1).toNat * 2)).off + 1, none⟩ = some (.int .i64 ((rd_T50 l0_2 x4_1).f1))) (ds := []) #[false, false, false, false, false, false, false, false, false, false, false, false, false] (by kernel_rfl) rfl rfl ⟨(q1q BK262.out 0).trans rfl, (q1q BK262.out 1).trans rfl, (q1q BK262.out 2).trans rfl, (q1q BK262.out 3).trans rfl, (q1q BK262.out 4).trans rfl, ((HB.out.cell (World.block_lt_of_cell? w _ hw268_0)).trans hw268_0), ((HB.out.cell (World.block_lt_of_cell? w _ hw268_1)).trans hw268_1)⟩ (fun hHeld => ?_); refine with_tabW tallowref21_proto.tab8 tallowref21_proto.bits8 (fun HT_ HW_ => ?_)
     generalize wr.drew = w21 at BK262 HB hx268_0 hx268_1 hHeld ⊢
     refine pure_ (i := 0) (N := some 34) (v := ?_) (a' := ?_) (bA 13 1) rfl rfl (q18q HT_.out (by kernel_rfl)) (fun _ _ _ h => h) (Or.inl ⟨by rfl, ?_⟩) ?_ ?_
     rotate_left
     ·intro w'
      go_simp
      with_reducible rfl
     rotate_left
     ·simp only [Act.put, sA_, sZ_, sS_, i64_w, i32_w]
      rfl
     refine pure_ (i := 1) (N := some 35) (v := ?_) (a' := ?_) (bA 13 3) rfl rfl (q18q HT_.out (by kernel_rfl)) (fun _ _ _ h => h) (Or.inl ⟨by rfl, ?_⟩) ?_ ?_
     rotate_left
     ·intro w'
      go_simp
      with_reducible rfl
     rotate_left
     ·simp only [Act.put, sA_, sZ_, sS_, i64_w, i32_w]
      rfl
     refine pure_ (i := 4) (N := some 38) (v := ?_) (a' := ?_) (bA 13 19) rfl rfl (q18q HT_.out (by kernel_rfl)) (fun _ _ _ h => h) (Or.inl ⟨by rfl, ?_⟩) ?_ ?_
     rotate_left
     ·intro w'
      go_simp
      with_reducible rfl
     rotate_left
     ·simp only [Act.put, sA_, sZ_, sS_, i64_w, i32_w]
      rfl
     refine pure_ (i := 6) (N := some 40) (v := ?_) (a' := ?_) (bA 13 83) rfl rfl (q18q HT_.out (by kernel_rfl)) (fun _ _ _ h => h) (Or.inl ⟨by rfl, ?_⟩) ?_ ?_
     rotate_left
     ·intro w'
      go_simp
      with_reducible rfl
     rotate_left
     ·simp only [Act.put, sA_, sZ_, sS_, i64_w, i32_w]
      rfl
     refine take_ (i := 5) (N := some 39) (v := ?_) (a' := ?_) (bA 13 115) rfl rfl (q24q HT_.out HW_.out (by kernel_rfl)) (fun _ _ _ h => h) (Or.inl ⟨by rfl, ?_⟩) hHeld ?_ ?_
     rotate_left
     ·rintro w' ⟨s0, s1, s2, s3, s4, s5, s6⟩
      go_simp
      with_reducible rfl
     rotate_left
     ·simp only [Act.put, sA_, sZ_, sS_, i64_w, i32_w]
      rfl
     refine pure_ (i := 7) (N := some 41) (v := ?_) (a' := ?_) (bA 13 243) rfl rfl (q18q HT_.out (by kernel_rfl)) (fun _ _ _ h => h) (Or.inl ⟨by rfl, ?_⟩) ?_ ?_
     rotate_left
     ·intro w'
      go_simp
      with_reducible rfl
     rotate_left
     ·simp only [Act.put, sA_, sZ_, sS_, i64_w, i32_w]
      rfl
     refine pure_ (i := 8) (N := some 42) (v := ?_) (a' := ?_) (bA 13 499) rfl rfl (q18q HT_.out (by kernel_rfl)) (fun _ _ _ h => h) (Or.inl ⟨by rfl, ?_⟩) ?_ ?_
     rotate_left
     ·intro w'
      go_simp
      with_reducible rfl
     rotate_left
     ·simp only [Act.put, sA_, sZ_, sS_, i64_w, i32_w]
      rfl
     refine take_ (i := 9) (N := some 43) (v := ?_) (a' := ?_) (bA 13 1011) rfl rfl (q24q HT_.out HW_.out (by kernel_rfl)) (fun _ _ _ h => h) (Or.inl ⟨by rfl, ?_⟩) hHeld ?_ ?_
     rotate_left
     ·rintro w' ⟨s0, s1, s2, s3, s4, s5, s6⟩
      go_simp
      with_reducible rfl
     rotate_left
     ·simp only [Act.put, sA_, sZ_, sS_, i64_w, i32_w]
      rfl
     refine one_ (i := 2) (N := some 36) (bA 13 1015) rfl rfl (q35q HT_.out (by kernel_rfl)) (by decide) (fun K hK => ?_)
     refine goes_ Try.func22 (by kernel_rfl) rfl #[.int .i64 1] (by rfl) rfl rfl (by (try simp only [List.map_toArray, List.map_cons, List.map_nil]); first | done | rfl) ?_
     with_reducible refine (tallowref21_natural.calls k1 1 t267 _ A16.out).mono ?_
     rintro e w22 ⟨rfl, hb⟩
     refine ⟨_, rfl, ?_⟩
     have n0_ := Aq.mk (q12q (g := gb262) (o := .cells #[.int .i64 a0_0, .int .i64 a0_1, .slice (some ad266) l0_2.length c0_2, .slice A0_3 l0_3.length c0_3, .slice A0_4 l0_4.length c0_4] 47 (0, 0)) (by exact BK262.out) hb)
     have n1_ := Aq.mk (q10q (by repeat (with_reducible first | exact HB.out | apply q4q | apply q0q | apply q2q | refine q5q ?_ GE262.out)) hb)
     clear BK262
     clear HB
     have BK262 := n0_
     have HB := n1_
     clear n0_ n1_
     (try clear hb)
     (try clear hb2)
     (try clear hk)
     (try clear hi)
     refine hK.out _ _ ⟨(q1q BK262.out 0).trans rfl, (q1q BK262.out 1).trans rfl, (q1q BK262.out 2).trans rfl, (q1q BK262.out 3).trans rfl, (q1q BK262.out 4).trans rfl, ((HB.out.cell (World.block_lt_of_cell? w _ hw268_0)).trans hw268_0), ((HB.out.cell (World.block_lt_of_cell? w _ hw268_1)).trans hw268_1)⟩ (fun hHeld => ?_)
     clear hK K
     refine norm_ (a' := ?_) ?_ ?_
     rotate_left
     ·show Act.put _ (some 36) _ = _
      simp only [Act.put, sA_, sZ_, sS_, i64_w, i32_w]
      rfl
     refine pure_ (i := 3) (N := some 37) (v := ?_) (a' := ?_) (bA 13 1023) rfl rfl (q18q HT_.out (by kernel_rfl)) (fun _ _ _ h => h) (Or.inl ⟨by rfl, ?_⟩) ?_ ?_
     rotate_left
     ·intro w'
      go_simp
      with_reducible rfl
     rotate_left
     ·simp only [Act.put, sA_, sZ_, sS_, i64_w, i32_w]
      rfl
     refine one_ (i := 10) (N := some 44) (bA 13 2047) rfl rfl (q35q HT_.out (by kernel_rfl)) (by decide) (fun K hK => ?_)
     refine goes_ Try.func22 (by kernel_rfl) rfl #[.int .i64 ((rd_T50 l0_2 x4_1).f1)] (by rfl) rfl rfl (by (try simp only [List.map_toArray, List.map_cons, List.map_nil]); first | done | rfl) ?_
     with_reducible refine (tallowref21_natural.calls k1 ((rd_T50 l0_2 x4_1).f1) t269 _ A18.out).mono ?_
     rintro e w23 ⟨rfl, hb⟩
     refine ⟨_, rfl, ?_⟩
     have n0_ := Aq.mk (q12q (g := gb262) (o := .cells #[.int .i64 a0_0, .int .i64 a0_1, .slice (some ad266) l0_2.length c0_2, .slice A0_3 l0_3.length c0_3, .slice A0_4 l0_4.length c0_4] 47 (0, 0)) (by exact BK262.out) hb)
     have n1_ := Aq.mk (q10q (by repeat (with_reducible first | exact HB.out | apply q4q | apply q0q | apply q2q | refine q5q ?_ GE262.out)) hb)
     clear BK262
     clear HB
     have BK262 := n0_
     have HB := n1_
     clear n0_ n1_
     (try clear hb)
     (try clear hb2)
     (try clear hk)
     (try clear hi)
     refine hK.out _ _ ⟨(q1q BK262.out 0).trans rfl, (q1q BK262.out 1).trans rfl, (q1q BK262.out 2).trans rfl, (q1q BK262.out 3).trans rfl, (q1q BK262.out 4).trans rfl, ((HB.out.cell (World.block_lt_of_cell? w _ hw268_0)).trans hw268_0), ((HB.out.cell (World.block_lt_of_cell? w _ hw268_1)).trans hw268_1)⟩ (fun hHeld => ?_)
     clear hK K
     refine norm_ (a' := ?_) ?_ ?_
     rotate_left
     ·show Act.put _ (some 44) _ = _
      simp only [Act.put, sA_, sZ_, sS_, i64_w, i32_w]
      rfl
     refine pure_ (i := 11) (N := some 45) (v := ?_) (a' := ?_) (bA 13 4095) rfl rfl (q18q HT_.out (by kernel_rfl)) (fun _ _ _ h => h) (Or.inl ⟨by rfl, ?_⟩) ?_ ?_
     rotate_left
     ·intro w'
      go_simp
      with_reducible rfl
     rotate_left
     ·simp only [Act.put, sA_, sZ_, sS_, i64_w, i32_w]
      rfl
     refine pure_ (i := 12) (N := some 3) (v := ?_) (a' := ?_) (bA 13 8191) rfl rfl (q18q HT_.out (by kernel_rfl)) (fun _ _ _ h => h) (Or.inl ⟨by rfl, ?_⟩) ?_ ?_
     rotate_left
     ·intro w'
      go_simp
      with_reducible rfl
     rotate_left
     ·simp only [Act.put, sA_, sZ_, sS_, i64_w, i32_w]
      rfl
     refine done_ (done_of HT_.out (by kernel_rfl)) ?_
     try go_wp2
     go_roundg k1
     case measure => have := HK1.out; omega
     case rel => exact ⟨((x3_1 ++ t267) ++ t269), (wrap64 (x4_1 + 1)), (by first | rfl | (simp; done) | (simp [*]; done)), (by first | rfl | (simp; done) | (simp [*]; done)), H', ⟨by have := HK1.out; omega⟩, ⟨BK262.out⟩, ⟨by repeat (with_reducible first | exact HB.out | apply q4q | apply q0q | apply q2q | refine q5q ?_ GE262.out)⟩⟩
    replace c15 := Bool.eq_false_iff.mpr c15
    subst c15
    have H1 : ((tallowref21_natural.f k1 0).bind fun t270 => (if x3_1.size + t270.size ≤ 9223372036854775807 then ((tallowref21_natural.f k1 ((rd_T50 l0_2 x4_1).f1)).bind fun t272 => (if (x3_1 ++ t270).size + t272.size ≤ 9223372036854775807 then (tallowref21_proto.l0 k1 ((x3_1 ++ t270) ++ t272) (wrap64 (x4_1 + 1)) a0_0 a0_1 l0_2 l0_3 l0_4) else (none))) else (none))) = some r := by rw [if_neg (show ¬ (false = true) by decide)] at H; exact H
    clear H
    have H := H1
    clear H1
    replace H := Option.bind_eq_some_iff.mp H
    obtain ⟨t270, A240, H⟩ := H
    replace H : (if x3_1.size + t270.size ≤ 9223372036854775807 then ((tallowref21_natural.f k1 ((rd_T50 l0_2 x4_1).f1)).bind fun t272 => (if (x3_1 ++ t270).size + t272.size ≤ 9223372036854775807 then (tallowref21_proto.l0 k1 ((x3_1 ++ t270) ++ t272) (wrap64 (x4_1 + 1)) a0_0 a0_1 l0_2 l0_3 l0_4) else (none))) else (none)) = some r := H
    have A24 := Aq.mk A240
    clear A240
    by_cases c25 : x3_1.size + t270.size ≤ 9223372036854775807
    case neg =>
     rw [if_neg c25] at H
     exact absurd H (by simp)
    rw [if_pos c25] at H
    have c25b0 := eq_true c25
    have c25b1 : decide (x3_1.size + t270.size ≤ 9223372036854775807) = true := decide_eq_true c25
    try have c25b2 : (9223372036854775807 < x3_1.size + t270.size) = False := eq_false (Nat.not_lt.2 c25)
    replace H := Option.bind_eq_some_iff.mp H
    obtain ⟨t272, A260, H⟩ := H
    replace H : (if (x3_1 ++ t270).size + t272.size ≤ 9223372036854775807 then (tallowref21_proto.l0 k1 ((x3_1 ++ t270) ++ t272) (wrap64 (x4_1 + 1)) a0_0 a0_1 l0_2 l0_3 l0_4) else (none)) = some r := H
    have A26 := Aq.mk A260
    clear A260
    by_cases c27 : (x3_1 ++ t270).size + t272.size ≤ 9223372036854775807
    case neg =>
     rw [if_neg c27] at H
     exact absurd H (by simp)
    rw [if_pos c27] at H
    have c27b0 := eq_true c27
    have c27b1 : decide ((x3_1 ++ t270).size + t272.size ≤ 9223372036854775807) = true := decide_eq_true c27
    try have c27b2 : (9223372036854775807 < (x3_1 ++ t270).size + t272.size) = False := eq_false (Nat.not_lt.2 c27)
    try (have c27b3 := c27b2; simp only [ByteArray.size_append] at c27b3)
    have H' := Aq.mk H
    clear H
    have hcz28_0 : wr.cell? ⟨gb262, 0, none⟩ = some (.int .i64 a0_0) := (q1q BK262.out 0).trans rfl
    have hcz28_1 : wr.cell? ⟨gb262, 1, none⟩ = some (.int .i64 a0_1) := (q1q BK262.out 1).trans rfl
    have hcz28_2 : wr.cell? ⟨gb262, 2, none⟩ = some (.slice A0_2 l0_2.length c0_2) := (q1q BK262.out 2).trans rfl
    have hcz28_3 : wr.cell? ⟨gb262, 3, none⟩ = some (.slice A0_3 l0_3.length c0_3) := (q1q BK262.out 3).trans rfl
    have hcz28_4 : wr.cell? ⟨gb262, 4, none⟩ = some (.slice A0_4 l0_4.length c0_4) := (q1q BK262.out 4).trans rfl
    have hfz28_0 := q3q BK262.out 0
    have hfz28_1 := q3q BK262.out 1
    have hfz28_2 := q3q BK262.out 2
    have hfz28_3 := q3q BK262.out 3
    have hfz28_4 := q3q BK262.out 4
    have p266 : 0 ≤ (x4_1 : Int) := of_decide_eq_true (by first | (with_reducible assumption) | assumption)
    have q266 : x4_1 < (l0_2.length : Int) := of_decide_eq_true (by first | (with_reducible assumption) | assumption)
    obtain ⟨ad266, e266, hx266_0, hx266_1⟩ := at_T50 HR0_2.out x4_1 p266 q266
    (try rw [← Nbq14.out] at hx266_0)
    cases e266
    replace hx266_0 := (HB.out.cell (World.block_lt_of_cell? w _ hx266_0)).trans hx266_0
    replace hx266_1 := (HB.out.cell (World.block_lt_of_cell? w _ hx266_1)).trans hx266_1
    replace p266 := eq_true p266
    replace q266 := eq_true q266
    try go_wp2
    have n0_ := Aq.mk (q9q BK262.out)
    have n1_ := Aq.mk (q2q HB.out)
    clear BK262
    clear HB
    have BK262 := n0_
    have HB := n1_
    clear n0_ n1_
    have p271 : 0 ≤ (x4_1 : Int) := of_decide_eq_true (by first | (with_reducible assumption) | assumption)
    have q271 : x4_1 < (l0_2.length : Int) := of_decide_eq_true (by first | (with_reducible assumption) | assumption)
    obtain ⟨ad271, e271, hx271_0, hx271_1⟩ := at_T50 HR0_2.out x4_1 p271 q271
    have hw271_1 := hx271_1
    have hw271_0 := hx271_0
    try rw [← Nbq14.out] at hw271_0
    (try rw [← Nbq14.out] at hx271_0)
    obtain rfl : ad266 = ad271 := (by injection e271)
    replace hx271_0 := (HB.out.cell (World.block_lt_of_cell? w _ hx271_0)).trans hx271_0
    replace hx271_1 := (HB.out.cell (World.block_lt_of_cell? w _ hx271_1)).trans hx271_1
    replace p271 := eq_true p271
    replace q271 := eq_true q271
    refine start_ (n := 13) (S := fun w' => w'.cell? ⟨gb262, 0, none⟩ = some (.int .i64 a0_0) ∧ w'.cell? ⟨gb262, 1, none⟩ = some (.int .i64 a0_1) ∧ w'.cell? ⟨gb262, 2, none⟩ = some (.slice (some ad266) l0_2.length c0_2) ∧ w'.cell? ⟨gb262, 3, none⟩ = some (.slice A0_3 l0_3.length c0_3) ∧ w'.cell? ⟨gb262, 4, none⟩ = some (.slice A0_4 l0_4.length c0_4) ∧ w'.cell? (ad266.add ((x4_1).toNat * 2)) = some (.bool (false)) ∧ w'.cell? ⟨(ad266.add ((x4_1).toNat * 2)).block, (ad266.add ((x4_1).toNat * 2)).off + 1, none⟩ = some (.int .i64 ((rd_T50 l0_2 x4_1).f1))) (ds := []) #[false, false, false, false, false, false, false, false, false, false, false, false, false] (by kernel_rfl) rfl rfl ⟨(q1q BK262.out 0).trans rfl, (q1q BK262.out 1).trans rfl, (q1q BK262.out 2).trans rfl, (q1q BK262.out 3).trans rfl, (q1q BK262.out 4).trans rfl, ((HB.out.cell (World.block_lt_of_cell? w _ hw271_0)).trans hw271_0), ((HB.out.cell (World.block_lt_of_cell? w _ hw271_1)).trans hw271_1)⟩ (fun hHeld => ?_); refine with_tabW tallowref21_proto.tab8 tallowref21_proto.bits8 (fun HT_ HW_ => ?_)
    generalize wr.drew = w29 at BK262 HB hx271_0 hx271_1 hHeld ⊢
    refine pure_ (i := 0) (N := some 34) (v := ?_) (a' := ?_) (bA 13 1) rfl rfl (q18q HT_.out (by kernel_rfl)) (fun _ _ _ h => h) (Or.inl ⟨by rfl, ?_⟩) ?_ ?_
    rotate_left
    ·intro w'
     go_simp
     with_reducible rfl
    rotate_left
    ·simp only [Act.put, sA_, sZ_, sS_, i64_w, i32_w]
     rfl
    refine pure_ (i := 1) (N := some 35) (v := ?_) (a' := ?_) (bA 13 3) rfl rfl (q18q HT_.out (by kernel_rfl)) (fun _ _ _ h => h) (Or.inl ⟨by rfl, ?_⟩) ?_ ?_
    rotate_left
    ·intro w'
     go_simp
     with_reducible rfl
    rotate_left
    ·simp only [Act.put, sA_, sZ_, sS_, i64_w, i32_w]
     rfl
    refine pure_ (i := 4) (N := some 38) (v := ?_) (a' := ?_) (bA 13 19) rfl rfl (q18q HT_.out (by kernel_rfl)) (fun _ _ _ h => h) (Or.inl ⟨by rfl, ?_⟩) ?_ ?_
    rotate_left
    ·intro w'
     go_simp
     with_reducible rfl
    rotate_left
    ·simp only [Act.put, sA_, sZ_, sS_, i64_w, i32_w]
     rfl
    refine pure_ (i := 6) (N := some 40) (v := ?_) (a' := ?_) (bA 13 83) rfl rfl (q18q HT_.out (by kernel_rfl)) (fun _ _ _ h => h) (Or.inl ⟨by rfl, ?_⟩) ?_ ?_
    rotate_left
    ·intro w'
     go_simp
     with_reducible rfl
    rotate_left
    ·simp only [Act.put, sA_, sZ_, sS_, i64_w, i32_w]
     rfl
    refine take_ (i := 5) (N := some 39) (v := ?_) (a' := ?_) (bA 13 115) rfl rfl (q24q HT_.out HW_.out (by kernel_rfl)) (fun _ _ _ h => h) (Or.inl ⟨by rfl, ?_⟩) hHeld ?_ ?_
    rotate_left
    ·rintro w' ⟨s0, s1, s2, s3, s4, s5, s6⟩
     go_simp
     with_reducible rfl
    rotate_left
    ·simp only [Act.put, sA_, sZ_, sS_, i64_w, i32_w]
     rfl
    refine pure_ (i := 7) (N := some 41) (v := ?_) (a' := ?_) (bA 13 243) rfl rfl (q18q HT_.out (by kernel_rfl)) (fun _ _ _ h => h) (Or.inl ⟨by rfl, ?_⟩) ?_ ?_
    rotate_left
    ·intro w'
     go_simp
     with_reducible rfl
    rotate_left
    ·simp only [Act.put, sA_, sZ_, sS_, i64_w, i32_w]
     rfl
    refine pure_ (i := 8) (N := some 42) (v := ?_) (a' := ?_) (bA 13 499) rfl rfl (q18q HT_.out (by kernel_rfl)) (fun _ _ _ h => h) (Or.inl ⟨by rfl, ?_⟩) ?_ ?_
    rotate_left
    ·intro w'
     go_simp
     with_reducible rfl
    rotate_left
    ·simp only [Act.put, sA_, sZ_, sS_, i64_w, i32_w]
     rfl
    refine take_ (i := 9) (N := some 43) (v := ?_) (a' := ?_) (bA 13 1011) rfl rfl (q24q HT_.out HW_.out (by kernel_rfl)) (fun _ _ _ h => h) (Or.inl ⟨by rfl, ?_⟩) hHeld ?_ ?_
    rotate_left
    ·rintro w' ⟨s0, s1, s2, s3, s4, s5, s6⟩
     go_simp
     with_reducible rfl
    rotate_left
    ·simp only [Act.put, sA_, sZ_, sS_, i64_w, i32_w]
     rfl
    refine one_ (i := 2) (N := some 36) (bA 13 1015) rfl rfl (q35q HT_.out (by kernel_rfl)) (by decide) (fun K hK => ?_)
    refine goes_ Try.func22 (by kernel_rfl) rfl #[.int .i64 0] (by rfl) rfl rfl (by (try simp only [List.map_toArray, List.map_cons, List.map_nil]); first | done | rfl) ?_
    with_reducible refine (tallowref21_natural.calls k1 0 t270 _ A24.out).mono ?_
    rintro e w30 ⟨rfl, hb⟩
    refine ⟨_, rfl, ?_⟩
    have n0_ := Aq.mk (q12q (g := gb262) (o := .cells #[.int .i64 a0_0, .int .i64 a0_1, .slice (some ad266) l0_2.length c0_2, .slice A0_3 l0_3.length c0_3, .slice A0_4 l0_4.length c0_4] 47 (0, 0)) (by exact BK262.out) hb)
    have n1_ := Aq.mk (q10q (by repeat (with_reducible first | exact HB.out | apply q4q | apply q0q | apply q2q | refine q5q ?_ GE262.out)) hb)
    clear BK262
    clear HB
    have BK262 := n0_
    have HB := n1_
    clear n0_ n1_
    (try clear hb)
    (try clear hb2)
    (try clear hk)
    (try clear hi)
    refine hK.out _ _ ⟨(q1q BK262.out 0).trans rfl, (q1q BK262.out 1).trans rfl, (q1q BK262.out 2).trans rfl, (q1q BK262.out 3).trans rfl, (q1q BK262.out 4).trans rfl, ((HB.out.cell (World.block_lt_of_cell? w _ hw271_0)).trans hw271_0), ((HB.out.cell (World.block_lt_of_cell? w _ hw271_1)).trans hw271_1)⟩ (fun hHeld => ?_)
    clear hK K
    refine norm_ (a' := ?_) ?_ ?_
    rotate_left
    ·show Act.put _ (some 36) _ = _
     simp only [Act.put, sA_, sZ_, sS_, i64_w, i32_w]
     rfl
    refine pure_ (i := 3) (N := some 37) (v := ?_) (a' := ?_) (bA 13 1023) rfl rfl (q18q HT_.out (by kernel_rfl)) (fun _ _ _ h => h) (Or.inl ⟨by rfl, ?_⟩) ?_ ?_
    rotate_left
    ·intro w'
     go_simp
     with_reducible rfl
    rotate_left
    ·simp only [Act.put, sA_, sZ_, sS_, i64_w, i32_w]
     rfl
    refine one_ (i := 10) (N := some 44) (bA 13 2047) rfl rfl (q35q HT_.out (by kernel_rfl)) (by decide) (fun K hK => ?_)
    refine goes_ Try.func22 (by kernel_rfl) rfl #[.int .i64 ((rd_T50 l0_2 x4_1).f1)] (by rfl) rfl rfl (by (try simp only [List.map_toArray, List.map_cons, List.map_nil]); first | done | rfl) ?_
    with_reducible refine (tallowref21_natural.calls k1 ((rd_T50 l0_2 x4_1).f1) t272 _ A26.out).mono ?_
    rintro e w31 ⟨rfl, hb⟩
    refine ⟨_, rfl, ?_⟩
    have n0_ := Aq.mk (q12q (g := gb262) (o := .cells #[.int .i64 a0_0, .int .i64 a0_1, .slice (some ad266) l0_2.length c0_2, .slice A0_3 l0_3.length c0_3, .slice A0_4 l0_4.length c0_4] 47 (0, 0)) (by exact BK262.out) hb)
    have n1_ := Aq.mk (q10q (by repeat (with_reducible first | exact HB.out | apply q4q | apply q0q | apply q2q | refine q5q ?_ GE262.out)) hb)
    clear BK262
    clear HB
    have BK262 := n0_
    have HB := n1_
    clear n0_ n1_
    (try clear hb)
    (try clear hb2)
    (try clear hk)
    (try clear hi)
    refine hK.out _ _ ⟨(q1q BK262.out 0).trans rfl, (q1q BK262.out 1).trans rfl, (q1q BK262.out 2).trans rfl, (q1q BK262.out 3).trans rfl, (q1q BK262.out 4).trans rfl, ((HB.out.cell (World.block_lt_of_cell? w _ hw271_0)).trans hw271_0), ((HB.out.cell (World.block_lt_of_cell? w _ hw271_1)).trans hw271_1)⟩ (fun hHeld => ?_)
    clear hK K
    refine norm_ (a' := ?_) ?_ ?_
    rotate_left
    ·show Act.put _ (some 44) _ = _
     simp only [Act.put, sA_, sZ_, sS_, i64_w, i32_w]
     rfl
    refine pure_ (i := 11) (N := some 45) (v := ?_) (a' := ?_) (bA 13 4095) rfl rfl (q18q HT_.out (by kernel_rfl)) (fun _ _ _ h => h) (Or.inl ⟨by rfl, ?_⟩) ?_ ?_
    rotate_left
    ·intro w'
     go_simp
     with_reducible rfl
    rotate_left
    ·simp only [Act.put, sA_, sZ_, sS_, i64_w, i32_w]
     rfl
    refine pure_ (i := 12) (N := some 3) (v := ?_) (a' := ?_) (bA 13 8191) rfl rfl (q18q HT_.out (by kernel_rfl)) (fun _ _ _ h => h) (Or.inl ⟨by rfl, ?_⟩) ?_ ?_
    rotate_left
    ·intro w'
     go_simp
     with_reducible rfl
    rotate_left
    ·simp only [Act.put, sA_, sZ_, sS_, i64_w, i32_w]
     rfl
    refine done_ (done_of HT_.out (by kernel_rfl)) ?_
    try go_wp2
    go_roundg k1
    case measure => have := HK1.out; omega
    case rel => exact ⟨((x3_1 ++ t270) ++ t272), (wrap64 (x4_1 + 1)), (by first | rfl | (simp; done) | (simp [*]; done)), (by first | rfl | (simp; done) | (simp [*]; done)), H', ⟨by have := HK1.out; omega⟩, ⟨BK262.out⟩, ⟨by repeat (with_reducible first | exact HB.out | apply q4q | apply q0q | apply q2q | refine q5q ?_ GE262.out)⟩⟩
   rw [if_neg c12] at H
   have c12b0 : decide (x4_1 < (l0_2.length : Int)) = false := decide_eq_false c12
   clear c12
   replace H := Option.bind_eq_some_iff.mp H
   obtain ⟨t273, A320, H⟩ := H
   replace H : (if x3_1.size + t273.size ≤ 9223372036854775807 then (tallowref21_proto.l1 k1 (x3_1 ++ t273) 0 a0_0 a0_1 l0_2 l0_3 l0_4) else (none)) = some r := H
   have A32 := Aq.mk A320
   clear A320
   by_cases c33 : x3_1.size + t273.size ≤ 9223372036854775807
   case neg =>
    rw [if_neg c33] at H
    exact absurd H (by simp)
   rw [if_pos c33] at H
   have c33b0 := eq_true c33
   have c33b1 : decide (x3_1.size + t273.size ≤ 9223372036854775807) = true := decide_eq_true c33
   try have c33b2 : (9223372036854775807 < x3_1.size + t273.size) = False := eq_false (Nat.not_lt.2 c33)
   have H' := Aq.mk H
   clear H
   have hcz34_0 : wr.cell? ⟨gb262, 0, none⟩ = some (.int .i64 a0_0) := (q1q BK262.out 0).trans rfl
   have hcz34_1 : wr.cell? ⟨gb262, 1, none⟩ = some (.int .i64 a0_1) := (q1q BK262.out 1).trans rfl
   have hcz34_2 : wr.cell? ⟨gb262, 2, none⟩ = some (.slice A0_2 l0_2.length c0_2) := (q1q BK262.out 2).trans rfl
   have hcz34_3 : wr.cell? ⟨gb262, 3, none⟩ = some (.slice A0_3 l0_3.length c0_3) := (q1q BK262.out 3).trans rfl
   have hcz34_4 : wr.cell? ⟨gb262, 4, none⟩ = some (.slice A0_4 l0_4.length c0_4) := (q1q BK262.out 4).trans rfl
   have hfz34_0 := q3q BK262.out 0
   have hfz34_1 := q3q BK262.out 1
   have hfz34_2 := q3q BK262.out 2
   have hfz34_3 := q3q BK262.out 3
   have hfz34_4 := q3q BK262.out 4
   go_wp2_with (first | ((with_reducible refine q17q (f := 22) rfl ?_); refine q29q (some 50) rfl rfl Try.func22 (by kernel_rfl) rfl #[.int .i64 (l0_3.length : Int)] rfl (by (try simp only [List.map_toArray, List.map_cons, List.map_nil]); first | done | rfl) ?_; (with_reducible refine (tallowref21_natural.calls k1 (l0_3.length : Int) t273 _ A32.out).mono ?_); rintro e w35 ⟨rfl, hb⟩; refine ⟨_, rfl, ?_⟩; have n0_ := Aq.mk (q12q (g := gb262) (o := .cells #[.int .i64 a0_0, .int .i64 a0_1, .slice A0_2 l0_2.length c0_2, .slice A0_3 l0_3.length c0_3, .slice A0_4 l0_4.length c0_4] 47 (0, 0)) (by exact BK262.out) hb); have n1_ := Aq.mk (q10q (by repeat (with_reducible first | exact HB.out | apply q4q | apply q0q | apply q2q | refine q5q ?_ GE262.out)) hb); clear BK262; clear HB; have BK262 := n0_; have HB := n1_; clear n0_ n1_; (try clear hb); (try clear hb2); (try clear hk); (try clear hi)))
   go_loopg [3, 6] k1 (fun kq v3 v6 w' => ∃ (x3_2 : ByteArray) (x6_2 : Int), v3 = .string x3_2 ∧ v6 = .int .i64 x6_2 ∧ Aq (tallowref21_proto.l1 kq x3_2 x6_2 a0_0 a0_1 l0_2 l0_3 l0_4 = some r) ∧ Aq (kq ≤ k1) ∧ Aq (w'.heap[gb262]? = some (.cells #[.int .i64 a0_0, .int .i64 a0_1, (.slice A0_2 l0_2.length c0_2), (.slice A0_3 l0_3.length c0_3), (.slice A0_4 l0_4.length c0_4)] 47 (0, 0))) ∧ Aq (Below w.heap.size w w'))
   case atStart => exact ⟨(x3_1 ++ t273), (0), (by first | rfl | (simp; done) | (simp [*]; done)), (by first | rfl | (simp; done) | (simp [*]; done)), H', ⟨Nat.le_refl _⟩, ⟨BK262.out⟩, ⟨by repeat (with_reducible first | exact HB.out | apply q4q | apply q0q | apply q2q | refine q5q ?_ GE262.out)⟩⟩
   case round =>
    clear H'
    try clear c1
    try clear q1
    try clear c2
    try clear p2
    try clear q2
    try clear hx2
    try clear c3
    try clear c4
    try clear c4b0
    try clear c4b1
    try clear c4b2
    try clear c6
    try clear c6b0
    try clear c6b1
    try clear c6b2
    try clear p6
    try clear c12
    try clear c12b0
    try clear c13
    try clear c13b0
    try clear q14
    try clear c15
    try clear c17
    try clear c17b0
    try clear c17b1
    try clear c17b2
    try clear c19
    try clear c19b0
    try clear c19b1
    try clear c19b2
    try clear c22
    try clear c25
    try clear c25b0
    try clear c25b1
    try clear c25b2
    try clear p26
    try clear q26
    try clear hx26
    try clear c27
    try clear c27b0
    try clear c27b1
    try clear c27b2
    try clear p27
    try clear q27
    try clear hx27
    try clear c33
    try clear c33b0
    try clear c33b1
    try clear c33b2
    try clear hcz20_0
    try clear hcz20_1
    try clear hcz20_2
    try clear hcz20_3
    try clear hcz20_4
    try clear hcz28_0
    try clear hcz28_1
    try clear hcz28_2
    try clear hcz28_3
    try clear hcz28_4
    try clear hcz34_0
    try clear hcz34_1
    try clear hcz34_2
    try clear hcz34_3
    try clear hcz34_4
    try clear hfz20_0
    try clear hfz20_1
    try clear hfz20_2
    try clear hfz20_3
    try clear hfz20_4
    try clear hfz28_0
    try clear hfz28_1
    try clear hfz28_2
    try clear hfz28_3
    try clear hfz28_4
    try clear hfz34_0
    try clear hfz34_1
    try clear hfz34_2
    try clear hfz34_3
    try clear hfz34_4
    try clear hx266_0
    try clear hx266_1
    try clear hx268_0
    try clear hx268_1
    try clear hx271_0
    try clear hx271_1
    try clear p2
    try clear p266
    try clear p268
    try clear p271
    try clear q266
    try clear q268
    try clear q271
    obtain ⟨x3_2, x6_2, rfl, rfl, HA, HK2, BK262, HB⟩ := hrel
    cases gk with
    | zero => exact absurd HA.out (by simp [tallowref21_proto.l1])
    | succ k2 =>
     have H := HA.out
     clear HA
     simp only [tallowref21_proto.l1] at H
     by_cases c36 : x6_2 < (l0_3.length : Int)
     ·rw [if_pos c36] at H
      have c36b0 : decide (x6_2 < (l0_3.length : Int)) = true := decide_eq_true c36
      clear c36
      by_cases c37 : 0 ≤ x6_2
      case neg =>
       rw [if_neg c37] at H
       exact absurd H (by simp)
      rw [if_pos c37] at H
      have c37b0 : decide (0 ≤ x6_2) = true := decide_eq_true c37
      clear c37
      by_cases c38 : ((rd_T42 l0_3 x6_2).f0) = 3
      ·rw [if_pos c38] at H
       have c38b0 : (((rd_T42 l0_3 x6_2).f0) == 3) = true := beq_iff_eq.mpr c38
       have c38b1 : (((rd_T42 l0_3 x6_2).f0) != 3) = false := bne_eq_false_iff_eq.mpr c38
       clear c38
       replace H := Option.bind_eq_some_iff.mp H
       obtain ⟨t276, A390, H⟩ := H
       replace H : (if x3_2.size + t276.size ≤ 9223372036854775807 then ((tallowref21_signed.f ((rd_T42 l0_3 x6_2).f1)).bind fun t277 => ((tallowref21_Number.f k2 t277).bind fun t278 => (if (x3_2 ++ t276).size + t278.size ≤ 9223372036854775807 then (tallowref21_proto.l1 k2 ((x3_2 ++ t276) ++ t278) (wrap64 (x6_2 + 1)) a0_0 a0_1 l0_2 l0_3 l0_4) else (none)))) else (none)) = some r := H
       have A39 := Aq.mk A390
       clear A390
       by_cases c40 : x3_2.size + t276.size ≤ 9223372036854775807
       case neg =>
        rw [if_neg c40] at H
        exact absurd H (by simp)
       rw [if_pos c40] at H
       have c40b0 := eq_true c40
       have c40b1 : decide (x3_2.size + t276.size ≤ 9223372036854775807) = true := decide_eq_true c40
       try have c40b2 : (9223372036854775807 < x3_2.size + t276.size) = False := eq_false (Nat.not_lt.2 c40)
       replace H := Option.bind_eq_some_iff.mp H
       obtain ⟨t277, A410, H⟩ := H
       replace H : ((tallowref21_Number.f k2 t277).bind fun t278 => (if (x3_2 ++ t276).size + t278.size ≤ 9223372036854775807 then (tallowref21_proto.l1 k2 ((x3_2 ++ t276) ++ t278) (wrap64 (x6_2 + 1)) a0_0 a0_1 l0_2 l0_3 l0_4) else (none))) = some r := H
       have A41 := Aq.mk A410
       clear A410
       replace H := Option.bind_eq_some_iff.mp H
       obtain ⟨t278, A420, H⟩ := H
       replace H : (if (x3_2 ++ t276).size + t278.size ≤ 9223372036854775807 then (tallowref21_proto.l1 k2 ((x3_2 ++ t276) ++ t278) (wrap64 (x6_2 + 1)) a0_0 a0_1 l0_2 l0_3 l0_4) else (none)) = some r := H
       have A42 := Aq.mk A420
       clear A420
       by_cases c43 : (x3_2 ++ t276).size + t278.size ≤ 9223372036854775807
       case neg =>
        rw [if_neg c43] at H
        exact absurd H (by simp)
       rw [if_pos c43] at H
       have c43b0 := eq_true c43
       have c43b1 : decide ((x3_2 ++ t276).size + t278.size ≤ 9223372036854775807) = true := decide_eq_true c43
       try have c43b2 : (9223372036854775807 < (x3_2 ++ t276).size + t278.size) = False := eq_false (Nat.not_lt.2 c43)
       try (have c43b3 := c43b2; simp only [ByteArray.size_append] at c43b3)
       have H' := Aq.mk H
       clear H
       have hcz44_0 : wr.cell? ⟨gb262, 0, none⟩ = some (.int .i64 a0_0) := (q1q BK262.out 0).trans rfl
       have hcz44_1 : wr.cell? ⟨gb262, 1, none⟩ = some (.int .i64 a0_1) := (q1q BK262.out 1).trans rfl
       have hcz44_2 : wr.cell? ⟨gb262, 2, none⟩ = some (.slice A0_2 l0_2.length c0_2) := (q1q BK262.out 2).trans rfl
       have hcz44_3 : wr.cell? ⟨gb262, 3, none⟩ = some (.slice A0_3 l0_3.length c0_3) := (q1q BK262.out 3).trans rfl
       have hcz44_4 : wr.cell? ⟨gb262, 4, none⟩ = some (.slice A0_4 l0_4.length c0_4) := (q1q BK262.out 4).trans rfl
       have hfz44_0 := q3q BK262.out 0
       have hfz44_1 := q3q BK262.out 1
       have hfz44_2 := q3q BK262.out 2
       have hfz44_3 := q3q BK262.out 3
       have hfz44_4 := q3q BK262.out 4
       have p274 : 0 ≤ (x6_2 : Int) := of_decide_eq_true (by first | (with_reducible assumption) | assumption)
       have q274 : x6_2 < (l0_3.length : Int) := of_decide_eq_true (by first | (with_reducible assumption) | assumption)
       obtain ⟨ad274, e274, hx274_0, hx274_1, hx274_2⟩ := at_T42 HR0_3.out x6_2 p274 q274
       cases e274
       replace hx274_0 := (HB.out.cell (World.block_lt_of_cell? w _ hx274_0)).trans hx274_0
       replace hx274_1 := (HB.out.cell (World.block_lt_of_cell? w _ hx274_1)).trans hx274_1
       replace hx274_2 := (HB.out.cell (World.block_lt_of_cell? w _ hx274_2)).trans hx274_2
       replace p274 := eq_true p274
       replace q274 := eq_true q274
       try go_wp2_with (first | ((with_reducible refine q13q (N := 7) rfl ?_); refine q11q ?hg (N := 7) ?hd (cs := #[.int .i64 0, .int .i64 0, .string (⟨#[]⟩ : ByteArray)]) (t := 42) ?hr ?_; (case hd => rfl); (case hg => rfl); (case hr => first | (go_simp; done) | (go_simp; rfl)); intro gb275 hg w45 hbox hb; have n0_ := Aq.mk (q12q (g := gb262) (o := .cells #[.int .i64 a0_0, .int .i64 a0_1, .slice A0_2 l0_2.length c0_2, .slice (some ad274) l0_3.length c0_3, .slice A0_4 l0_4.length c0_4] 47 (0, 0)) (by exact BK262.out) hb); have n1_ := Aq.mk (q10q (by repeat (with_reducible first | exact HB.out | apply q4q | apply q0q | apply q2q | refine q5q ?_ GE262.out)) hb); have n2_ := Aq.mk (hbox); have n3_ := Aq.mk ((by rw [hg]; exact (q8q (by repeat (with_reducible first | exact HB.out | apply q4q | apply q0q | apply q2q | refine q5q ?_ GE262.out))) : w.heap.size ≤ gb275)); have n4_ := Aq.mk ((by rw [hg]; exact (q8q (by repeat (with_reducible first | exact HB.out | apply q4q | apply q0q | apply q2q | refine q5q ?_ GE262.out))) : w.heap.size ≤ gb275)); have n5_ := Aq.mk ((by rw [hg]; exact Nat.ne_of_lt (q16q (g := gb262) (o := .cells #[.int .i64 a0_0, .int .i64 a0_1, .slice A0_2 l0_2.length c0_2, .slice (some ad274) l0_3.length c0_3, .slice A0_4 l0_4.length c0_4] 47 (0, 0)) BK262.out) : gb262 ≠ gb275)); have n6_ := Aq.mk ((by rw [hg]; exact Nat.ne_of_gt (q16q (g := gb262) (o := .cells #[.int .i64 a0_0, .int .i64 a0_1, .slice A0_2 l0_2.length c0_2, .slice (some ad274) l0_3.length c0_3, .slice A0_4 l0_4.length c0_4] 47 (0, 0)) BK262.out) : gb275 ≠ gb262)); clear BK262; clear HB; have BK262 := n0_; have HB := n1_; have BK275 := n2_; have GW275 := n3_; have GE275 := n4_; have NB262_275 := n5_; have NB275_262 := n6_; clear n0_ n1_ n2_ n3_ n4_ n5_ n6_; clear hb hbox hg; have hnb46 := NB275_262.out; have hnc46 := NB262_275.out; have hcz47_0 : w45.cell? ⟨gb275, 0, none⟩ = some (.int .i64 0) := (q1q BK275.out 0).trans rfl; have hcz47_1 : w45.cell? ⟨gb275, 1, none⟩ = some (.int .i64 0) := (q1q BK275.out 1).trans rfl; have hcz47_2 : w45.cell? ⟨gb275, 2, none⟩ = some (.string (⟨#[]⟩ : ByteArray)) := (q1q BK275.out 2).trans rfl; have hfz47_0 := q3q BK275.out 0; have hfz47_1 := q3q BK275.out 1; have hfz47_2 := q3q BK275.out 2))
       have n0_ : Aq ((((w45.setCell ⟨gb275, 0, none⟩ (.int .i64 ((rd_T42 l0_3 x6_2).f0))).setCell ⟨gb275, 1, none⟩ (.int .i64 ((rd_T42 l0_3 x6_2).f1))).setCell ⟨gb275, 2, none⟩ (.string ((rd_T42 l0_3 x6_2).f2))).heap[gb262]? = some (.cells #[.int .i64 a0_0, .int .i64 a0_1, .slice A0_2 l0_2.length c0_2, .slice (some ad274) l0_3.length c0_3, .slice A0_4 l0_4.length c0_4] 47 (0, 0))) := ⟨by (with_reducible repeat (first | refine q7q ?_ _ | refine q9q ?_ | refine q6q ?_ _)); refine q14q ?_ NB262_275.out _; (with_reducible repeat (first | refine q7q ?_ _ | refine q9q ?_ | refine q6q ?_ _)); refine q14q ?_ NB262_275.out _; (with_reducible repeat (first | refine q7q ?_ _ | refine q9q ?_ | refine q6q ?_ _)); refine q14q ?_ NB262_275.out _; (with_reducible repeat (first | refine q7q ?_ _ | refine q9q ?_ | refine q6q ?_ _)); exact BK262.out⟩
       have n1_ : Aq ((((w45.setCell ⟨gb275, 0, none⟩ (.int .i64 ((rd_T42 l0_3 x6_2).f0))).setCell ⟨gb275, 1, none⟩ (.int .i64 ((rd_T42 l0_3 x6_2).f1))).setCell ⟨gb275, 2, none⟩ (.string ((rd_T42 l0_3 x6_2).f2))).heap[gb275]? = some (.cells #[.int .i64 ((rd_T42 l0_3 x6_2).f0), .int .i64 ((rd_T42 l0_3 x6_2).f1), .string ((rd_T42 l0_3 x6_2).f2)] 42 (0, 0))) := ⟨by (with_reducible repeat (first | refine q7q ?_ _ | refine q9q ?_ | refine q6q ?_ _)); refine q15q (cs := #[.int .i64 ((rd_T42 l0_3 x6_2).f0), .int .i64 ((rd_T42 l0_3 x6_2).f1), .string (⟨#[]⟩ : ByteArray)]) ?_ 2 _ rfl; (with_reducible repeat (first | refine q7q ?_ _ | refine q9q ?_ | refine q6q ?_ _)); refine q15q (cs := #[.int .i64 ((rd_T42 l0_3 x6_2).f0), .int .i64 0, .string (⟨#[]⟩ : ByteArray)]) ?_ 1 _ rfl; (with_reducible repeat (first | refine q7q ?_ _ | refine q9q ?_ | refine q6q ?_ _)); refine q15q (cs := #[.int .i64 0, .int .i64 0, .string (⟨#[]⟩ : ByteArray)]) ?_ 0 _ rfl; (with_reducible repeat (first | refine q7q ?_ _ | refine q9q ?_ | refine q6q ?_ _)); exact BK275.out⟩
       have n2_ : Aq (Below w.heap.size w (((w45.setCell ⟨gb275, 0, none⟩ (.int .i64 ((rd_T42 l0_3 x6_2).f0))).setCell ⟨gb275, 1, none⟩ (.int .i64 ((rd_T42 l0_3 x6_2).f1))).setCell ⟨gb275, 2, none⟩ (.string ((rd_T42 l0_3 x6_2).f2)))) := ⟨by repeat (with_reducible first | exact HB.out | apply q4q | apply q0q | apply q2q | refine q5q ?_ GE262.out | refine q5q ?_ GE275.out)⟩
       (try clear BK262)
       (try clear BK275)
       (try clear HB)
       generalize (((w45.setCell ⟨gb275, 0, none⟩ (.int .i64 ((rd_T42 l0_3 x6_2).f0))).setCell ⟨gb275, 1, none⟩ (.int .i64 ((rd_T42 l0_3 x6_2).f1))).setCell ⟨gb275, 2, none⟩ (.string ((rd_T42 l0_3 x6_2).f2))) = w48 at n0_ n1_ n2_ ⊢
       have BK262 := n0_
       have BK275 := n1_
       have HB := n2_
       clear n0_ n1_ n2_
       have n0_ := Aq.mk (q9q BK262.out)
       have n1_ := Aq.mk (q9q BK275.out)
       have n2_ := Aq.mk (q2q HB.out)
       clear BK262
       clear BK275
       clear HB
       have BK262 := n0_
       have BK275 := n1_
       have HB := n2_
       clear n0_ n1_ n2_
       refine start_ (n := 9) (S := fun w' => w'.cell? ⟨gb275, 0, none⟩ = some (.int .i64 ((rd_T42 l0_3 x6_2).f0)) ∧ w'.cell? ⟨gb275, 1, none⟩ = some (.int .i64 ((rd_T42 l0_3 x6_2).f1)) ∧ w'.cell? ⟨gb275, 2, none⟩ = some (.string ((rd_T42 l0_3 x6_2).f2))) (ds := []) #[false, false, false, false, false, false, false, false, false] (by kernel_rfl) rfl rfl ⟨(q1q BK275.out 0).trans rfl, (q1q BK275.out 1).trans rfl, (q1q BK275.out 2).trans rfl⟩ (fun hHeld => ?_); refine with_tabW tallowref21_proto.tab15 tallowref21_proto.bits15 (fun HT_ HW_ => ?_)
       generalize w48.drew = w49 at BK262 BK275 HB hHeld ⊢
       refine pure_ (i := 0) (N := some 67) (v := ?_) (a' := ?_) (bA 9 1) rfl rfl (q18q HT_.out (by kernel_rfl)) (fun _ _ _ h => h) (Or.inl ⟨by rfl, ?_⟩) ?_ ?_
       rotate_left
       ·intro w'
        go_simp
        with_reducible rfl
       rotate_left
       ·simp only [Act.put, sA_, sZ_, sS_, i64_w, i32_w]
        rfl
       refine pure_ (i := 3) (N := some 70) (v := ?_) (a' := ?_) (bA 9 9) rfl rfl (q18q HT_.out (by kernel_rfl)) (fun _ _ _ h => h) (Or.inl ⟨by rfl, ?_⟩) ?_ ?_
       rotate_left
       ·intro w'
        go_simp
        with_reducible rfl
       rotate_left
       ·simp only [Act.put, sA_, sZ_, sS_, i64_w, i32_w]
        rfl
       refine take_ (i := 4) (N := some 71) (v := ?_) (a' := ?_) (bA 9 25) rfl rfl (q24q HT_.out HW_.out (by kernel_rfl)) (fun _ _ _ h => h) (Or.inl ⟨by rfl, ?_⟩) hHeld ?_ ?_
       rotate_left
       ·rintro w' ⟨s0, s1, s2⟩
        go_simp
        with_reducible rfl
       rotate_left
       ·simp only [Act.put, sA_, sZ_, sS_, i64_w, i32_w]
        rfl
       refine one_ (i := 1) (N := some 68) (bA 9 27) rfl rfl (q35q HT_.out (by kernel_rfl)) (by decide) (fun K hK => ?_)
       refine goes_ Try.func22 (by kernel_rfl) rfl #[.int .i64 0] (by rfl) rfl rfl (by (try simp only [List.map_toArray, List.map_cons, List.map_nil]); first | done | rfl) ?_
       with_reducible refine (tallowref21_natural.calls k2 0 t276 _ A39.out).mono ?_
       rintro e w50 ⟨rfl, hb⟩
       refine ⟨_, rfl, ?_⟩
       have n0_ := Aq.mk (q12q (g := gb262) (o := .cells #[.int .i64 a0_0, .int .i64 a0_1, .slice A0_2 l0_2.length c0_2, .slice (some ad274) l0_3.length c0_3, .slice A0_4 l0_4.length c0_4] 47 (0, 0)) (by exact BK262.out) hb)
       have n1_ := Aq.mk (q12q (g := gb275) (o := .cells #[.int .i64 ((rd_T42 l0_3 x6_2).f0), .int .i64 ((rd_T42 l0_3 x6_2).f1), .string ((rd_T42 l0_3 x6_2).f2)] 42 (0, 0)) (by exact BK275.out) hb)
       have n2_ := Aq.mk (q10q (by repeat (with_reducible first | exact HB.out | apply q4q | apply q0q | apply q2q | refine q5q ?_ GE262.out | refine q5q ?_ GE275.out)) hb)
       clear BK262
       clear BK275
       clear HB
       have BK262 := n0_
       have BK275 := n1_
       have HB := n2_
       clear n0_ n1_ n2_
       (try clear hb)
       (try clear hb2)
       (try clear hk)
       (try clear hi)
       refine hK.out _ _ ⟨(q1q BK275.out 0).trans rfl, (q1q BK275.out 1).trans rfl, (q1q BK275.out 2).trans rfl⟩ (fun hHeld => ?_)
       clear hK K
       refine norm_ (a' := ?_) ?_ ?_
       rotate_left
       ·show Act.put _ (some 68) _ = _
        simp only [Act.put, sA_, sZ_, sS_, i64_w, i32_w]
        rfl
       refine pure_ (i := 2) (N := some 69) (v := ?_) (a' := ?_) (bA 9 31) rfl rfl (q18q HT_.out (by kernel_rfl)) (fun _ _ _ h => h) (Or.inl ⟨by rfl, ?_⟩) ?_ ?_
       rotate_left
       ·intro w'
        go_simp
        with_reducible rfl
       rotate_left
       ·simp only [Act.put, sA_, sZ_, sS_, i64_w, i32_w]
        rfl
       refine one_ (i := 5) (N := some 72) (bA 9 63) rfl rfl (q35q HT_.out (by kernel_rfl)) (by decide) (fun K hK => ?_)
       refine goes_ Try.func42 (by kernel_rfl) rfl #[.int .i64 ((rd_T42 l0_3 x6_2).f1)] (by rfl) rfl rfl (by (try simp only [List.map_toArray, List.map_cons, List.map_nil]); first | done | rfl) ?_
       with_reducible refine (tallowref21_signed.calls ((rd_T42 l0_3 x6_2).f1) t277 _ A41.out).mono ?_
       rintro e w' ⟨rfl, ⟨nd, rfl⟩⟩
       refine ⟨_, rfl, ?_⟩
       refine hK.out _ _ ⟨(q1q BK275.out 0).trans rfl, (q1q BK275.out 1).trans rfl, (q1q BK275.out 2).trans rfl⟩ (fun hHeld => ?_)
       clear hK K
       refine norm_ (a' := ?_) ?_ ?_
       rotate_left
       ·show Act.put _ (some 72) _ = _
        simp only [Act.put, sA_, sZ_, sS_, i64_w, i32_w]
        rfl
       refine one_ (i := 6) (N := some 73) (bA 9 127) rfl rfl (q35q HT_.out (by kernel_rfl)) (by decide) (fun K hK => ?_)
       refine goes_ Try.func41 (by kernel_rfl) rfl #[.int .u64 t277] (by rfl) rfl rfl (by (try simp only [List.map_toArray, List.map_cons, List.map_nil]); first | done | rfl) ?_
       with_reducible refine (tallowref21_Number.calls k2 t277 t278 _ A42.out).mono ?_
       rintro e w51 ⟨rfl, hb⟩
       refine ⟨_, rfl, ?_⟩
       have n0_ := Aq.mk (q12q (g := gb262) (o := .cells #[.int .i64 a0_0, .int .i64 a0_1, .slice A0_2 l0_2.length c0_2, .slice (some ad274) l0_3.length c0_3, .slice A0_4 l0_4.length c0_4] 47 (0, 0)) (by exact BK262.out) hb)
       have n1_ := Aq.mk (q12q (g := gb275) (o := .cells #[.int .i64 ((rd_T42 l0_3 x6_2).f0), .int .i64 ((rd_T42 l0_3 x6_2).f1), .string ((rd_T42 l0_3 x6_2).f2)] 42 (0, 0)) (by exact BK275.out) hb)
       have n2_ := Aq.mk (q10q (by repeat (with_reducible first | exact HB.out | apply q4q | apply q0q | apply q2q | refine q5q ?_ GE262.out | refine q5q ?_ GE275.out)) hb)
       clear BK262
       clear BK275
       clear HB
       have BK262 := n0_
       have BK275 := n1_
       have HB := n2_
       clear n0_ n1_ n2_
       (try clear hb)
       (try clear hb2)
       (try clear hk)
       (try clear hi)
       refine hK.out _ _ ⟨(q1q BK275.out 0).trans rfl, (q1q BK275.out 1).trans rfl, (q1q BK275.out 2).trans rfl⟩ (fun hHeld => ?_)
       clear hK K
       refine norm_ (a' := ?_) ?_ ?_
       rotate_left
       ·show Act.put _ (some 73) _ = _
        simp only [Act.put, sA_, sZ_, sS_, i64_w, i32_w]
        rfl
       refine pure_ (i := 7) (N := some 74) (v := ?_) (a' := ?_) (bA 9 255) rfl rfl (q18q HT_.out (by kernel_rfl)) (fun _ _ _ h => h) (Or.inl ⟨by rfl, ?_⟩) ?_ ?_
       rotate_left
       ·intro w'
        go_simp
        with_reducible rfl
       rotate_left
       ·simp only [Act.put, sA_, sZ_, sS_, i64_w, i32_w]
        rfl
       refine pure_ (i := 8) (N := some 3) (v := ?_) (a' := ?_) (bA 9 511) rfl rfl (q18q HT_.out (by kernel_rfl)) (fun _ _ _ h => h) (Or.inl ⟨by rfl, ?_⟩) ?_ ?_
       rotate_left
       ·intro w'
        go_simp
        with_reducible rfl
       rotate_left
       ·simp only [Act.put, sA_, sZ_, sS_, i64_w, i32_w]
        rfl
       refine done_ (done_of HT_.out (by kernel_rfl)) ?_
       try go_wp2
       go_roundg k2
       case measure => have := HK1.out; have := HK2.out; omega
       case rel => exact ⟨((x3_2 ++ t276) ++ t278), (wrap64 (x6_2 + 1)), (by first | rfl | (simp; done) | (simp [*]; done)), (by first | rfl | (simp; done) | (simp [*]; done)), H', ⟨by have := HK1.out; have := HK2.out; omega⟩, ⟨BK262.out⟩, ⟨by repeat (with_reducible first | exact HB.out | apply q4q | apply q0q | apply q2q | refine q5q ?_ GE262.out | refine q5q ?_ GE275.out)⟩⟩
      rw [if_neg c38] at H
      have c38b0 : (((rd_T42 l0_3 x6_2).f0) == 3) = false := beq_eq_false_iff_ne.mpr c38
      have c38b1 : (((rd_T42 l0_3 x6_2).f0) != 3) = true := bne_iff_ne.mpr c38
      replace H := Option.bind_eq_some_iff.mp H
      obtain ⟨t279, A520, H⟩ := H
      replace H : (if x3_2.size + t279.size ≤ 9223372036854775807 then ((tallowref21_natural.f k2 (((rd_T42 l0_3 x6_2).f2).size : Int)).bind fun t280 => (if (x3_2 ++ t279).size + t280.size ≤ 9223372036854775807 then (if ((x3_2 ++ t279) ++ t280).size + ((rd_T42 l0_3 x6_2).f2).size ≤ 9223372036854775807 then (tallowref21_proto.l1 k2 (((x3_2 ++ t279) ++ t280) ++ ((rd_T42 l0_3 x6_2).f2)) (wrap64 (x6_2 + 1)) a0_0 a0_1 l0_2 l0_3 l0_4) else (none)) else (none))) else (none)) = some r := H
      have A52 := Aq.mk A520
      clear A520
      by_cases c53 : x3_2.size + t279.size ≤ 9223372036854775807
      case neg =>
       rw [if_neg c53] at H
       exact absurd H (by simp)
      rw [if_pos c53] at H
      have c53b0 := eq_true c53
      have c53b1 : decide (x3_2.size + t279.size ≤ 9223372036854775807) = true := decide_eq_true c53
      try have c53b2 : (9223372036854775807 < x3_2.size + t279.size) = False := eq_false (Nat.not_lt.2 c53)
      replace H := Option.bind_eq_some_iff.mp H
      obtain ⟨t280, A540, H⟩ := H
      replace H : (if (x3_2 ++ t279).size + t280.size ≤ 9223372036854775807 then (if ((x3_2 ++ t279) ++ t280).size + ((rd_T42 l0_3 x6_2).f2).size ≤ 9223372036854775807 then (tallowref21_proto.l1 k2 (((x3_2 ++ t279) ++ t280) ++ ((rd_T42 l0_3 x6_2).f2)) (wrap64 (x6_2 + 1)) a0_0 a0_1 l0_2 l0_3 l0_4) else (none)) else (none)) = some r := H
      have A54 := Aq.mk A540
      clear A540
      by_cases c55 : (x3_2 ++ t279).size + t280.size ≤ 9223372036854775807
      case neg =>
       rw [if_neg c55] at H
       exact absurd H (by simp)
      rw [if_pos c55] at H
      have c55b0 := eq_true c55
      have c55b1 : decide ((x3_2 ++ t279).size + t280.size ≤ 9223372036854775807) = true := decide_eq_true c55
      try have c55b2 : (9223372036854775807 < (x3_2 ++ t279).size + t280.size) = False := eq_false (Nat.not_lt.2 c55)
      try (have c55b3 := c55b2; simp only [ByteArray.size_append] at c55b3)
      by_cases c56 : ((x3_2 ++ t279) ++ t280).size + ((rd_T42 l0_3 x6_2).f2).size ≤ 9223372036854775807
      case neg =>
       rw [if_neg c56] at H
       exact absurd H (by simp)
      rw [if_pos c56] at H
      have c56b0 := eq_true c56
      have c56b1 : decide (((x3_2 ++ t279) ++ t280).size + ((rd_T42 l0_3 x6_2).f2).size ≤ 9223372036854775807) = true := decide_eq_true c56
      try have c56b2 : (9223372036854775807 < ((x3_2 ++ t279) ++ t280).size + ((rd_T42 l0_3 x6_2).f2).size) = False := eq_false (Nat.not_lt.2 c56)
      try (have c56b3 := c56b2; simp only [ByteArray.size_append] at c56b3)
      have H' := Aq.mk H
      clear H
      have hcz57_0 : wr.cell? ⟨gb262, 0, none⟩ = some (.int .i64 a0_0) := (q1q BK262.out 0).trans rfl
      have hcz57_1 : wr.cell? ⟨gb262, 1, none⟩ = some (.int .i64 a0_1) := (q1q BK262.out 1).trans rfl
      have hcz57_2 : wr.cell? ⟨gb262, 2, none⟩ = some (.slice A0_2 l0_2.length c0_2) := (q1q BK262.out 2).trans rfl
      have hcz57_3 : wr.cell? ⟨gb262, 3, none⟩ = some (.slice A0_3 l0_3.length c0_3) := (q1q BK262.out 3).trans rfl
      have hcz57_4 : wr.cell? ⟨gb262, 4, none⟩ = some (.slice A0_4 l0_4.length c0_4) := (q1q BK262.out 4).trans rfl
      have hfz57_0 := q3q BK262.out 0
      have hfz57_1 := q3q BK262.out 1
      have hfz57_2 := q3q BK262.out 2
      have hfz57_3 := q3q BK262.out 3
      have hfz57_4 := q3q BK262.out 4
      have p274 : 0 ≤ (x6_2 : Int) := of_decide_eq_true (by first | (with_reducible assumption) | assumption)
      have q274 : x6_2 < (l0_3.length : Int) := of_decide_eq_true (by first | (with_reducible assumption) | assumption)
      obtain ⟨ad274, e274, hx274_0, hx274_1, hx274_2⟩ := at_T42 HR0_3.out x6_2 p274 q274
      cases e274
      replace hx274_0 := (HB.out.cell (World.block_lt_of_cell? w _ hx274_0)).trans hx274_0
      replace hx274_1 := (HB.out.cell (World.block_lt_of_cell? w _ hx274_1)).trans hx274_1
      replace hx274_2 := (HB.out.cell (World.block_lt_of_cell? w _ hx274_2)).trans hx274_2
      replace p274 := eq_true p274
      replace q274 := eq_true q274
      try go_wp2_with (first | ((with_reducible refine q13q (N := 7) rfl ?_); refine q11q ?hg (N := 7) ?hd (cs := #[.int .i64 0, .int .i64 0, .string (⟨#[]⟩ : ByteArray)]) (t := 42) ?hr ?_; (case hd => rfl); (case hg => rfl); (case hr => first | (go_simp; done) | (go_simp; rfl)); intro gb275 hg w58 hbox hb; have n0_ := Aq.mk (q12q (g := gb262) (o := .cells #[.int .i64 a0_0, .int .i64 a0_1, .slice A0_2 l0_2.length c0_2, .slice (some ad274) l0_3.length c0_3, .slice A0_4 l0_4.length c0_4] 47 (0, 0)) (by exact BK262.out) hb); have n1_ := Aq.mk (q10q (by repeat (with_reducible first | exact HB.out | apply q4q | apply q0q | apply q2q | refine q5q ?_ GE262.out)) hb); have n2_ := Aq.mk (hbox); have n3_ := Aq.mk ((by rw [hg]; exact (q8q (by repeat (with_reducible first | exact HB.out | apply q4q | apply q0q | apply q2q | refine q5q ?_ GE262.out))) : w.heap.size ≤ gb275)); have n4_ := Aq.mk ((by rw [hg]; exact (q8q (by repeat (with_reducible first | exact HB.out | apply q4q | apply q0q | apply q2q | refine q5q ?_ GE262.out))) : w.heap.size ≤ gb275)); have n5_ := Aq.mk ((by rw [hg]; exact Nat.ne_of_lt (q16q (g := gb262) (o := .cells #[.int .i64 a0_0, .int .i64 a0_1, .slice A0_2 l0_2.length c0_2, .slice (some ad274) l0_3.length c0_3, .slice A0_4 l0_4.length c0_4] 47 (0, 0)) BK262.out) : gb262 ≠ gb275)); have n6_ := Aq.mk ((by rw [hg]; exact Nat.ne_of_gt (q16q (g := gb262) (o := .cells #[.int .i64 a0_0, .int .i64 a0_1, .slice A0_2 l0_2.length c0_2, .slice (some ad274) l0_3.length c0_3, .slice A0_4 l0_4.length c0_4] 47 (0, 0)) BK262.out) : gb275 ≠ gb262)); clear BK262; clear HB; have BK262 := n0_; have HB := n1_; have BK275 := n2_; have GW275 := n3_; have GE275 := n4_; have NB262_275 := n5_; have NB275_262 := n6_; clear n0_ n1_ n2_ n3_ n4_ n5_ n6_; clear hb hbox hg; have hnb59 := NB275_262.out; have hnc59 := NB262_275.out; have hcz60_0 : w58.cell? ⟨gb275, 0, none⟩ = some (.int .i64 0) := (q1q BK275.out 0).trans rfl; have hcz60_1 : w58.cell? ⟨gb275, 1, none⟩ = some (.int .i64 0) := (q1q BK275.out 1).trans rfl; have hcz60_2 : w58.cell? ⟨gb275, 2, none⟩ = some (.string (⟨#[]⟩ : ByteArray)) := (q1q BK275.out 2).trans rfl; have hfz60_0 := q3q BK275.out 0; have hfz60_1 := q3q BK275.out 1; have hfz60_2 := q3q BK275.out 2))
      have n0_ : Aq ((((w58.setCell ⟨gb275, 0, none⟩ (.int .i64 ((rd_T42 l0_3 x6_2).f0))).setCell ⟨gb275, 1, none⟩ (.int .i64 ((rd_T42 l0_3 x6_2).f1))).setCell ⟨gb275, 2, none⟩ (.string ((rd_T42 l0_3 x6_2).f2))).heap[gb262]? = some (.cells #[.int .i64 a0_0, .int .i64 a0_1, .slice A0_2 l0_2.length c0_2, .slice (some ad274) l0_3.length c0_3, .slice A0_4 l0_4.length c0_4] 47 (0, 0))) := ⟨by (with_reducible repeat (first | refine q7q ?_ _ | refine q9q ?_ | refine q6q ?_ _)); refine q14q ?_ NB262_275.out _; (with_reducible repeat (first | refine q7q ?_ _ | refine q9q ?_ | refine q6q ?_ _)); refine q14q ?_ NB262_275.out _; (with_reducible repeat (first | refine q7q ?_ _ | refine q9q ?_ | refine q6q ?_ _)); refine q14q ?_ NB262_275.out _; (with_reducible repeat (first | refine q7q ?_ _ | refine q9q ?_ | refine q6q ?_ _)); exact BK262.out⟩
      have n1_ : Aq ((((w58.setCell ⟨gb275, 0, none⟩ (.int .i64 ((rd_T42 l0_3 x6_2).f0))).setCell ⟨gb275, 1, none⟩ (.int .i64 ((rd_T42 l0_3 x6_2).f1))).setCell ⟨gb275, 2, none⟩ (.string ((rd_T42 l0_3 x6_2).f2))).heap[gb275]? = some (.cells #[.int .i64 ((rd_T42 l0_3 x6_2).f0), .int .i64 ((rd_T42 l0_3 x6_2).f1), .string ((rd_T42 l0_3 x6_2).f2)] 42 (0, 0))) := ⟨by (with_reducible repeat (first | refine q7q ?_ _ | refine q9q ?_ | refine q6q ?_ _)); refine q15q (cs := #[.int .i64 ((rd_T42 l0_3 x6_2).f0), .int .i64 ((rd_T42 l0_3 x6_2).f1), .string (⟨#[]⟩ : ByteArray)]) ?_ 2 _ rfl; (with_reducible repeat (first | refine q7q ?_ _ | refine q9q ?_ | refine q6q ?_ _)); refine q15q (cs := #[.int .i64 ((rd_T42 l0_3 x6_2).f0), .int .i64 0, .string (⟨#[]⟩ : ByteArray)]) ?_ 1 _ rfl; (with_reducible repeat (first | refine q7q ?_ _ | refine q9q ?_ | refine q6q ?_ _)); refine q15q (cs := #[.int .i64 0, .int .i64 0, .string (⟨#[]⟩ : ByteArray)]) ?_ 0 _ rfl; (with_reducible repeat (first | refine q7q ?_ _ | refine q9q ?_ | refine q6q ?_ _)); exact BK275.out⟩
      have n2_ : Aq (Below w.heap.size w (((w58.setCell ⟨gb275, 0, none⟩ (.int .i64 ((rd_T42 l0_3 x6_2).f0))).setCell ⟨gb275, 1, none⟩ (.int .i64 ((rd_T42 l0_3 x6_2).f1))).setCell ⟨gb275, 2, none⟩ (.string ((rd_T42 l0_3 x6_2).f2)))) := ⟨by repeat (with_reducible first | exact HB.out | apply q4q | apply q0q | apply q2q | refine q5q ?_ GE262.out | refine q5q ?_ GE275.out)⟩
      (try clear BK262)
      (try clear BK275)
      (try clear HB)
      generalize (((w58.setCell ⟨gb275, 0, none⟩ (.int .i64 ((rd_T42 l0_3 x6_2).f0))).setCell ⟨gb275, 1, none⟩ (.int .i64 ((rd_T42 l0_3 x6_2).f1))).setCell ⟨gb275, 2, none⟩ (.string ((rd_T42 l0_3 x6_2).f2))) = w61 at n0_ n1_ n2_ ⊢
      have BK262 := n0_
      have BK275 := n1_
      have HB := n2_
      clear n0_ n1_ n2_
      have n0_ := Aq.mk (q9q BK262.out)
      have n1_ := Aq.mk (q9q BK275.out)
      have n2_ := Aq.mk (q2q HB.out)
      clear BK262
      clear BK275
      clear HB
      have BK262 := n0_
      have BK275 := n1_
      have HB := n2_
      clear n0_ n1_ n2_
      refine start_ (n := 12) (S := fun w' => w'.cell? ⟨gb275, 0, none⟩ = some (.int .i64 ((rd_T42 l0_3 x6_2).f0)) ∧ w'.cell? ⟨gb275, 1, none⟩ = some (.int .i64 ((rd_T42 l0_3 x6_2).f1)) ∧ w'.cell? ⟨gb275, 2, none⟩ = some (.string ((rd_T42 l0_3 x6_2).f2))) (ds := []) #[false, false, false, false, false, false, false, false, false, false, false, false] (by kernel_rfl) rfl rfl ⟨(q1q BK275.out 0).trans rfl, (q1q BK275.out 1).trans rfl, (q1q BK275.out 2).trans rfl⟩ (fun hHeld => ?_); refine with_tabW tallowref21_proto.tab16 tallowref21_proto.bits16 (fun HT_ HW_ => ?_)
      generalize w61.drew = w62 at BK262 BK275 HB hHeld ⊢
      refine pure_ (i := 0) (N := some 75) (v := ?_) (a' := ?_) (bA 12 1) rfl rfl (q18q HT_.out (by kernel_rfl)) (fun _ _ _ h => h) (Or.inl ⟨by rfl, ?_⟩) ?_ ?_
      rotate_left
      ·intro w'
       go_simp
       with_reducible rfl
      rotate_left
      ·simp only [Act.put, sA_, sZ_, sS_, i64_w, i32_w]
       rfl
      refine pure_ (i := 3) (N := some 78) (v := ?_) (a' := ?_) (bA 12 9) rfl rfl (q18q HT_.out (by kernel_rfl)) (fun _ _ _ h => h) (Or.inl ⟨by rfl, ?_⟩) ?_ ?_
      rotate_left
      ·intro w'
       go_simp
       with_reducible rfl
      rotate_left
      ·simp only [Act.put, sA_, sZ_, sS_, i64_w, i32_w]
       rfl
      refine pure_ (i := 8) (N := some 83) (v := ?_) (a' := ?_) (bA 12 265) rfl rfl (q18q HT_.out (by kernel_rfl)) (fun _ _ _ h => h) (Or.inl ⟨by rfl, ?_⟩) ?_ ?_
      rotate_left
      ·intro w'
       go_simp
       with_reducible rfl
      rotate_left
      ·simp only [Act.put, sA_, sZ_, sS_, i64_w, i32_w]
       rfl
      refine take_ (i := 4) (N := some 79) (v := ?_) (a' := ?_) (bA 12 281) rfl rfl (q24q HT_.out HW_.out (by kernel_rfl)) (fun _ _ _ h => h) (Or.inl ⟨by rfl, ?_⟩) hHeld ?_ ?_
      rotate_left
      ·rintro w' ⟨s0, s1, s2⟩
       go_simp
       with_reducible rfl
      rotate_left
      ·simp only [Act.put, sA_, sZ_, sS_, i64_w, i32_w]
       rfl
      refine pure_ (i := 5) (N := some 80) (v := ?_) (a' := ?_) (bA 12 313) rfl rfl (q18q HT_.out (by kernel_rfl)) (fun _ _ _ h => h) (Or.inl ⟨by rfl, ?_⟩) ?_ ?_
      rotate_left
      ·intro w'
       go_simp
       with_reducible rfl
      rotate_left
      ·simp only [Act.put, sA_, sZ_, sS_, i64_w, i32_w]
       rfl
      refine take_ (i := 9) (N := some 84) (v := ?_) (a' := ?_) (bA 12 825) rfl rfl (q24q HT_.out HW_.out (by kernel_rfl)) (fun _ _ _ h => h) (Or.inl ⟨by rfl, ?_⟩) hHeld ?_ ?_
      rotate_left
      ·rintro w' ⟨s0, s1, s2⟩
       go_simp
       with_reducible rfl
      rotate_left
      ·simp only [Act.put, sA_, sZ_, sS_, i64_w, i32_w]
       rfl
      refine one_ (i := 1) (N := some 76) (bA 12 827) rfl rfl (q35q HT_.out (by kernel_rfl)) (by decide) (fun K hK => ?_)
      refine goes_ Try.func22 (by kernel_rfl) rfl #[.int .i64 1] (by rfl) rfl rfl (by (try simp only [List.map_toArray, List.map_cons, List.map_nil]); first | done | rfl) ?_
      with_reducible refine (tallowref21_natural.calls k2 1 t279 _ A52.out).mono ?_
      rintro e w63 ⟨rfl, hb⟩
      refine ⟨_, rfl, ?_⟩
      have n0_ := Aq.mk (q12q (g := gb262) (o := .cells #[.int .i64 a0_0, .int .i64 a0_1, .slice A0_2 l0_2.length c0_2, .slice (some ad274) l0_3.length c0_3, .slice A0_4 l0_4.length c0_4] 47 (0, 0)) (by exact BK262.out) hb)
      have n1_ := Aq.mk (q12q (g := gb275) (o := .cells #[.int .i64 ((rd_T42 l0_3 x6_2).f0), .int .i64 ((rd_T42 l0_3 x6_2).f1), .string ((rd_T42 l0_3 x6_2).f2)] 42 (0, 0)) (by exact BK275.out) hb)
      have n2_ := Aq.mk (q10q (by repeat (with_reducible first | exact HB.out | apply q4q | apply q0q | apply q2q | refine q5q ?_ GE262.out | refine q5q ?_ GE275.out)) hb)
      clear BK262
      clear BK275
      clear HB
      have BK262 := n0_
      have BK275 := n1_
      have HB := n2_
      clear n0_ n1_ n2_
      (try clear hb)
      (try clear hb2)
      (try clear hk)
      (try clear hi)
      refine hK.out _ _ ⟨(q1q BK275.out 0).trans rfl, (q1q BK275.out 1).trans rfl, (q1q BK275.out 2).trans rfl⟩ (fun hHeld => ?_)
      clear hK K
      refine norm_ (a' := ?_) ?_ ?_
      rotate_left
      ·show Act.put _ (some 76) _ = _
       simp only [Act.put, sA_, sZ_, sS_, i64_w, i32_w]
       rfl
      refine pure_ (i := 2) (N := some 77) (v := ?_) (a' := ?_) (bA 12 831) rfl rfl (q18q HT_.out (by kernel_rfl)) (fun _ _ _ h => h) (Or.inl ⟨by rfl, ?_⟩) ?_ ?_
      rotate_left
      ·intro w'
       go_simp
       with_reducible rfl
      rotate_left
      ·simp only [Act.put, sA_, sZ_, sS_, i64_w, i32_w]
       rfl
      refine one_ (i := 6) (N := some 81) (bA 12 895) rfl rfl (q35q HT_.out (by kernel_rfl)) (by decide) (fun K hK => ?_)
      refine goes_ Try.func22 (by kernel_rfl) rfl #[.int .i64 (((rd_T42 l0_3 x6_2).f2).size : Int)] (by rfl) rfl rfl (by (try simp only [List.map_toArray, List.map_cons, List.map_nil]); first | done | rfl) ?_
      with_reducible refine (tallowref21_natural.calls k2 (((rd_T42 l0_3 x6_2).f2).size : Int) t280 _ A54.out).mono ?_
      rintro e w64 ⟨rfl, hb⟩
      refine ⟨_, rfl, ?_⟩
      have n0_ := Aq.mk (q12q (g := gb262) (o := .cells #[.int .i64 a0_0, .int .i64 a0_1, .slice A0_2 l0_2.length c0_2, .slice (some ad274) l0_3.length c0_3, .slice A0_4 l0_4.length c0_4] 47 (0, 0)) (by exact BK262.out) hb)
      have n1_ := Aq.mk (q12q (g := gb275) (o := .cells #[.int .i64 ((rd_T42 l0_3 x6_2).f0), .int .i64 ((rd_T42 l0_3 x6_2).f1), .string ((rd_T42 l0_3 x6_2).f2)] 42 (0, 0)) (by exact BK275.out) hb)
      have n2_ := Aq.mk (q10q (by repeat (with_reducible first | exact HB.out | apply q4q | apply q0q | apply q2q | refine q5q ?_ GE262.out | refine q5q ?_ GE275.out)) hb)
      clear BK262
      clear BK275
      clear HB
      have BK262 := n0_
      have BK275 := n1_
      have HB := n2_
      clear n0_ n1_ n2_
      (try clear hb)
      (try clear hb2)
      (try clear hk)
      (try clear hi)
      refine hK.out _ _ ⟨(q1q BK275.out 0).trans rfl, (q1q BK275.out 1).trans rfl, (q1q BK275.out 2).trans rfl⟩ (fun hHeld => ?_)
      clear hK K
      refine norm_ (a' := ?_) ?_ ?_
      rotate_left
      ·show Act.put _ (some 81) _ = _
       simp only [Act.put, sA_, sZ_, sS_, i64_w, i32_w]
       rfl
      refine pure_ (i := 7) (N := some 82) (v := ?_) (a' := ?_) (bA 12 1023) rfl rfl (q18q HT_.out (by kernel_rfl)) (fun _ _ _ h => h) (Or.inl ⟨by rfl, ?_⟩) ?_ ?_
      rotate_left
      ·intro w'
       go_simp
       with_reducible rfl
      rotate_left
      ·simp only [Act.put, sA_, sZ_, sS_, i64_w, i32_w]
       rfl
      refine pure_ (i := 10) (N := some 85) (v := ?_) (a' := ?_) (bA 12 2047) rfl rfl (q18q HT_.out (by kernel_rfl)) (fun _ _ _ h => h) (Or.inl ⟨by rfl, ?_⟩) ?_ ?_
      rotate_left
      ·intro w'
       go_simp
       with_reducible rfl
      rotate_left
      ·simp only [Act.put, sA_, sZ_, sS_, i64_w, i32_w]
       rfl
      refine pure_ (i := 11) (N := some 3) (v := ?_) (a' := ?_) (bA 12 4095) rfl rfl (q18q HT_.out (by kernel_rfl)) (fun _ _ _ h => h) (Or.inl ⟨by rfl, ?_⟩) ?_ ?_
      rotate_left
      ·intro w'
       go_simp
       with_reducible rfl
      rotate_left
      ·simp only [Act.put, sA_, sZ_, sS_, i64_w, i32_w]
       rfl
      refine done_ (done_of HT_.out (by kernel_rfl)) ?_
      try go_wp2
      go_roundg k2
      case measure => have := HK1.out; have := HK2.out; omega
      case rel => exact ⟨(((x3_2 ++ t279) ++ t280) ++ ((rd_T42 l0_3 x6_2).f2)), (wrap64 (x6_2 + 1)), (by first | rfl | (simp; done) | (simp [*]; done)), (by first | rfl | (simp; done) | (simp [*]; done)), H', ⟨by have := HK1.out; have := HK2.out; omega⟩, ⟨BK262.out⟩, ⟨by repeat (with_reducible first | exact HB.out | apply q4q | apply q0q | apply q2q | refine q5q ?_ GE262.out | refine q5q ?_ GE275.out)⟩⟩
     rw [if_neg c36] at H
     have c36b0 : decide (x6_2 < (l0_3.length : Int)) = false := decide_eq_false c36
     clear c36
     replace H := Option.bind_eq_some_iff.mp H
     obtain ⟨t281, A650, H⟩ := H
     replace H : (if x3_2.size + t281.size ≤ 9223372036854775807 then (tallowref21_proto.l2 k2 (x3_2 ++ t281) 0 a0_0 a0_1 l0_2 l0_3 l0_4) else (none)) = some r := H
     have A65 := Aq.mk A650
     clear A650
     by_cases c66 : x3_2.size + t281.size ≤ 9223372036854775807
     case neg =>
      rw [if_neg c66] at H
      exact absurd H (by simp)
     rw [if_pos c66] at H
     have c66b0 := eq_true c66
     have c66b1 : decide (x3_2.size + t281.size ≤ 9223372036854775807) = true := decide_eq_true c66
     try have c66b2 : (9223372036854775807 < x3_2.size + t281.size) = False := eq_false (Nat.not_lt.2 c66)
     have H' := Aq.mk H
     clear H
     have hcz67_0 : wr.cell? ⟨gb262, 0, none⟩ = some (.int .i64 a0_0) := (q1q BK262.out 0).trans rfl
     have hcz67_1 : wr.cell? ⟨gb262, 1, none⟩ = some (.int .i64 a0_1) := (q1q BK262.out 1).trans rfl
     have hcz67_2 : wr.cell? ⟨gb262, 2, none⟩ = some (.slice A0_2 l0_2.length c0_2) := (q1q BK262.out 2).trans rfl
     have hcz67_3 : wr.cell? ⟨gb262, 3, none⟩ = some (.slice A0_3 l0_3.length c0_3) := (q1q BK262.out 3).trans rfl
     have hcz67_4 : wr.cell? ⟨gb262, 4, none⟩ = some (.slice A0_4 l0_4.length c0_4) := (q1q BK262.out 4).trans rfl
     have hfz67_0 := q3q BK262.out 0
     have hfz67_1 := q3q BK262.out 1
     have hfz67_2 := q3q BK262.out 2
     have hfz67_3 := q3q BK262.out 3
     have hfz67_4 := q3q BK262.out 4
     go_wp2_with (first | ((with_reducible refine q17q (f := 22) rfl ?_); refine q29q (some 90) rfl rfl Try.func22 (by kernel_rfl) rfl #[.int .i64 (l0_4.length : Int)] rfl (by (try simp only [List.map_toArray, List.map_cons, List.map_nil]); first | done | rfl) ?_; (with_reducible refine (tallowref21_natural.calls k2 (l0_4.length : Int) t281 _ A65.out).mono ?_); rintro e w68 ⟨rfl, hb⟩; refine ⟨_, rfl, ?_⟩; have n0_ := Aq.mk (q12q (g := gb262) (o := .cells #[.int .i64 a0_0, .int .i64 a0_1, .slice A0_2 l0_2.length c0_2, .slice A0_3 l0_3.length c0_3, .slice A0_4 l0_4.length c0_4] 47 (0, 0)) (by exact BK262.out) hb); have n1_ := Aq.mk (q10q (by repeat (with_reducible first | exact HB.out | apply q4q | apply q0q | apply q2q | refine q5q ?_ GE262.out)) hb); clear BK262; clear HB; have BK262 := n0_; have HB := n1_; clear n0_ n1_; (try clear hb); (try clear hb2); (try clear hk); (try clear hi)))
     go_loopg [3, 8] k2 (fun kq v3 v8 w' => ∃ (x3_3 : ByteArray) (x8_3 : Int), v3 = .string x3_3 ∧ v8 = .int .i64 x8_3 ∧ Aq (tallowref21_proto.l2 kq x3_3 x8_3 a0_0 a0_1 l0_2 l0_3 l0_4 = some r) ∧ Aq (kq ≤ k2) ∧ Aq (w'.heap[gb262]? = some (.cells #[.int .i64 a0_0, .int .i64 a0_1, (.slice A0_2 l0_2.length c0_2), (.slice A0_3 l0_3.length c0_3), (.slice A0_4 l0_4.length c0_4)] 47 (0, 0))) ∧ Aq (Below w.heap.size w w'))
     case atStart => exact ⟨(x3_2 ++ t281), (0), (by first | rfl | (simp; done) | (simp [*]; done)), (by first | rfl | (simp; done) | (simp [*]; done)), H', ⟨Nat.le_refl _⟩, ⟨BK262.out⟩, ⟨by repeat (with_reducible first | exact HB.out | apply q4q | apply q0q | apply q2q | refine q5q ?_ GE262.out)⟩⟩
     case round =>
      clear H'
      try clear c1
      try clear q1
      try clear c2
      try clear p2
      try clear q2
      try clear hx2
      try clear c3
      try clear c4
      try clear c4b0
      try clear c4b1
      try clear c4b2
      try clear c5
      try clear c6
      try clear c6b0
      try clear c6b1
      try clear c6b2
      try clear p6
      try clear c12
      try clear c12b0
      try clear c13
      try clear c13b0
      try clear q14
      try clear c15
      try clear c17
      try clear c17b0
      try clear c17b1
      try clear c17b2
      try clear c19
      try clear c19b0
      try clear c19b1
      try clear c19b2
      try clear c22
      try clear c25
      try clear c25b0
      try clear c25b1
      try clear c25b2
      try clear p26
      try clear q26
      try clear hx26
      try clear c27
      try clear c27b0
      try clear c27b1
      try clear c27b2
      try clear p27
      try clear q27
      try clear hx27
      try clear c33
      try clear c33b0
      try clear c33b1
      try clear c33b2
      try clear c36
      try clear c36b0
      try clear c37
      try clear c37b0
      try clear c38
      try clear c38b0
      try clear c38b1
      try clear c40
      try clear c40b0
      try clear c40b1
      try clear c40b2
      try clear c41
      try clear c42
      try clear c43
      try clear c43b0
      try clear c43b1
      try clear c43b2
      try clear c46
      try clear c53
      try clear c53b0
      try clear c53b1
      try clear c53b2
      try clear c55
      try clear c55b0
      try clear c55b1
      try clear c55b2
      try clear c56
      try clear c56b0
      try clear c56b1
      try clear c56b2
      try clear c59
      try clear p64
      try clear c66
      try clear c66b0
      try clear c66b1
      try clear c66b2
      try clear hcz20_0
      try clear hcz20_1
      try clear hcz20_2
      try clear hcz20_3
      try clear hcz20_4
      try clear hcz28_0
      try clear hcz28_1
      try clear hcz28_2
      try clear hcz28_3
      try clear hcz28_4
      try clear hcz34_0
      try clear hcz34_1
      try clear hcz34_2
      try clear hcz34_3
      try clear hcz34_4
      try clear hcz44_0
      try clear hcz44_1
      try clear hcz44_2
      try clear hcz44_3
      try clear hcz44_4
      try clear hcz47_0
      try clear hcz47_1
      try clear hcz47_2
      try clear hcz57_0
      try clear hcz57_1
      try clear hcz57_2
      try clear hcz57_3
      try clear hcz57_4
      try clear hcz60_0
      try clear hcz60_1
      try clear hcz60_2
      try clear hcz67_0
      try clear hcz67_1
      try clear hcz67_2
      try clear hcz67_3
      try clear hcz67_4
      try clear hfz20_0
      try clear hfz20_1
      try clear hfz20_2
      try clear hfz20_3
      try clear hfz20_4
      try clear hfz28_0
      try clear hfz28_1
      try clear hfz28_2
      try clear hfz28_3
      try clear hfz28_4
      try clear hfz34_0
      try clear hfz34_1
      try clear hfz34_2
      try clear hfz34_3
      try clear hfz34_4
      try clear hfz44_0
      try clear hfz44_1
      try clear hfz44_2
      try clear hfz44_3
      try clear hfz44_4
      try clear hfz47_0
      try clear hfz47_1
      try clear hfz47_2
      try clear hfz57_0
      try clear hfz57_1
      try clear hfz57_2
      try clear hfz57_3
      try clear hfz57_4
      try clear hfz60_0
      try clear hfz60_1
      try clear hfz60_2
      try clear hfz67_0
      try clear hfz67_1
      try clear hfz67_2
      try clear hfz67_3
      try clear hfz67_4
      try clear hx266_0
      try clear hx266_1
      try clear hx268_0
      try clear hx268_1
      try clear hx271_0
      try clear hx271_1
      try clear hx274_0
      try clear hx274_1
      try clear hx274_2
      try clear p2
      try clear p26
      try clear p266
      try clear p268
      try clear p27
      try clear p271
      try clear p274
      try clear p6
      try clear q1
      try clear q14
      try clear q2
      try clear q26
      try clear q266
      try clear q268
      try clear q27
      try clear q271
      try clear q274
      obtain ⟨x3_3, x8_3, rfl, rfl, HA, HK3, BK262, HB⟩ := hrel
      cases gk with
      | zero => exact absurd HA.out (by simp [tallowref21_proto.l2])
      | succ k3 =>
       have H := HA.out
       clear HA
       simp only [tallowref21_proto.l2] at H
       by_cases c69 : x8_3 < (l0_4.length : Int)
       case neg =>
        rw [if_neg c69] at H
        have c69b0 : decide (x8_3 < (l0_4.length : Int)) = false := decide_eq_false c69
        clear c69
        obtain rfl := Option.some.inj H
        have hcz82_0 : wr.cell? ⟨gb262, 0, none⟩ = some (.int .i64 a0_0) := (q1q BK262.out 0).trans rfl
        have hcz82_1 : wr.cell? ⟨gb262, 1, none⟩ = some (.int .i64 a0_1) := (q1q BK262.out 1).trans rfl
        have hcz82_2 : wr.cell? ⟨gb262, 2, none⟩ = some (.slice A0_2 l0_2.length c0_2) := (q1q BK262.out 2).trans rfl
        have hcz82_3 : wr.cell? ⟨gb262, 3, none⟩ = some (.slice A0_3 l0_3.length c0_3) := (q1q BK262.out 3).trans rfl
        have hcz82_4 : wr.cell? ⟨gb262, 4, none⟩ = some (.slice A0_4 l0_4.length c0_4) := (q1q BK262.out 4).trans rfl
        have hfz82_0 := q3q BK262.out 0
        have hfz82_1 := q3q BK262.out 1
        have hfz82_2 := q3q BK262.out 2
        have hfz82_3 := q3q BK262.out 3
        have hfz82_4 := q3q BK262.out 4
        go_wp2
        go_ret
        exact ⟨by first | rfl | (simp [*] <;> rfl), by repeat (with_reducible first | exact HB.out | apply q4q | apply q0q | apply q2q | refine q5q ?_ GE262.out)⟩
       rw [if_pos c69] at H
       have c69b0 : decide (x8_3 < (l0_4.length : Int)) = true := decide_eq_true c69
       clear c69
       by_cases c70 : 0 ≤ x8_3
       case neg =>
        rw [if_neg c70] at H
        exact absurd H (by simp)
       rw [if_pos c70] at H
       have c70b0 : decide (0 ≤ x8_3) = true := decide_eq_true c70
       clear c70
       replace H := Option.bind_eq_some_iff.mp H
       obtain ⟨t283, A710, H⟩ := H
       replace H : (if x3_3.size + t283.size ≤ 9223372036854775807 then ((tallowref21_natural.f k3 ((rd_T52 l0_4 x8_3).f1)).bind fun t285 => (if (x3_3 ++ t283).size + t285.size ≤ 9223372036854775807 then ((tallowref21_natural.f k3 ((rd_T52 l0_4 x8_3).f2)).bind fun t287 => (if ((x3_3 ++ t283) ++ t285).size + t287.size ≤ 9223372036854775807 then (tallowref21_proto.l2 k3 (((x3_3 ++ t283) ++ t285) ++ t287) (wrap64 (x8_3 + 1)) a0_0 a0_1 l0_2 l0_3 l0_4) else (none))) else (none))) else (none)) = some r := H
       have A71 := Aq.mk A710
       clear A710
       by_cases c72 : x3_3.size + t283.size ≤ 9223372036854775807
       case neg =>
        rw [if_neg c72] at H
        exact absurd H (by simp)
       rw [if_pos c72] at H
       have c72b0 := eq_true c72
       have c72b1 : decide (x3_3.size + t283.size ≤ 9223372036854775807) = true := decide_eq_true c72
       try have c72b2 : (9223372036854775807 < x3_3.size + t283.size) = False := eq_false (Nat.not_lt.2 c72)
       replace H := Option.bind_eq_some_iff.mp H
       obtain ⟨t285, A730, H⟩ := H
       replace H : (if (x3_3 ++ t283).size + t285.size ≤ 9223372036854775807 then ((tallowref21_natural.f k3 ((rd_T52 l0_4 x8_3).f2)).bind fun t287 => (if ((x3_3 ++ t283) ++ t285).size + t287.size ≤ 9223372036854775807 then (tallowref21_proto.l2 k3 (((x3_3 ++ t283) ++ t285) ++ t287) (wrap64 (x8_3 + 1)) a0_0 a0_1 l0_2 l0_3 l0_4) else (none))) else (none)) = some r := H
       have A73 := Aq.mk A730
       clear A730
       by_cases c74 : (x3_3 ++ t283).size + t285.size ≤ 9223372036854775807
       case neg =>
        rw [if_neg c74] at H
        exact absurd H (by simp)
       rw [if_pos c74] at H
       have c74b0 := eq_true c74
       have c74b1 : decide ((x3_3 ++ t283).size + t285.size ≤ 9223372036854775807) = true := decide_eq_true c74
       try have c74b2 : (9223372036854775807 < (x3_3 ++ t283).size + t285.size) = False := eq_false (Nat.not_lt.2 c74)
       try (have c74b3 := c74b2; simp only [ByteArray.size_append] at c74b3)
       replace H := Option.bind_eq_some_iff.mp H
       obtain ⟨t287, A750, H⟩ := H
       replace H : (if ((x3_3 ++ t283) ++ t285).size + t287.size ≤ 9223372036854775807 then (tallowref21_proto.l2 k3 (((x3_3 ++ t283) ++ t285) ++ t287) (wrap64 (x8_3 + 1)) a0_0 a0_1 l0_2 l0_3 l0_4) else (none)) = some r := H
       have A75 := Aq.mk A750
       clear A750
       by_cases c76 : ((x3_3 ++ t283) ++ t285).size + t287.size ≤ 9223372036854775807
       case neg =>
        rw [if_neg c76] at H
        exact absurd H (by simp)
       rw [if_pos c76] at H
       have c76b0 := eq_true c76
       have c76b1 : decide (((x3_3 ++ t283) ++ t285).size + t287.size ≤ 9223372036854775807) = true := decide_eq_true c76
       try have c76b2 : (9223372036854775807 < ((x3_3 ++ t283) ++ t285).size + t287.size) = False := eq_false (Nat.not_lt.2 c76)
       try (have c76b3 := c76b2; simp only [ByteArray.size_append] at c76b3)
       have H' := Aq.mk H
       clear H
       have hcz77_0 : wr.cell? ⟨gb262, 0, none⟩ = some (.int .i64 a0_0) := (q1q BK262.out 0).trans rfl
       have hcz77_1 : wr.cell? ⟨gb262, 1, none⟩ = some (.int .i64 a0_1) := (q1q BK262.out 1).trans rfl
       have hcz77_2 : wr.cell? ⟨gb262, 2, none⟩ = some (.slice A0_2 l0_2.length c0_2) := (q1q BK262.out 2).trans rfl
       have hcz77_3 : wr.cell? ⟨gb262, 3, none⟩ = some (.slice A0_3 l0_3.length c0_3) := (q1q BK262.out 3).trans rfl
       have hcz77_4 : wr.cell? ⟨gb262, 4, none⟩ = some (.slice A0_4 l0_4.length c0_4) := (q1q BK262.out 4).trans rfl
       have hfz77_0 := q3q BK262.out 0
       have hfz77_1 := q3q BK262.out 1
       have hfz77_2 := q3q BK262.out 2
       have hfz77_3 := q3q BK262.out 3
       have hfz77_4 := q3q BK262.out 4
       try go_wp2
       have n0_ := Aq.mk (q9q BK262.out)
       have n1_ := Aq.mk (q2q HB.out)
       clear BK262
       clear HB
       have BK262 := n0_
       have HB := n1_
       clear n0_ n1_
       have p282 : 0 ≤ (x8_3 : Int) := of_decide_eq_true (by first | (with_reducible assumption) | assumption)
       have q282 : x8_3 < (l0_4.length : Int) := of_decide_eq_true (by first | (with_reducible assumption) | assumption)
       obtain ⟨ad282, e282, hx282_0, hx282_1, hx282_2⟩ := at_T52 HR0_4.out x8_3 p282 q282
       have hw282_2 := hx282_2
       have hw282_1 := hx282_1
       have hw282_0 := hx282_0
       cases e282
       replace hx282_0 := (HB.out.cell (World.block_lt_of_cell? w _ hx282_0)).trans hx282_0
       replace hx282_1 := (HB.out.cell (World.block_lt_of_cell? w _ hx282_1)).trans hx282_1
       replace hx282_2 := (HB.out.cell (World.block_lt_of_cell? w _ hx282_2)).trans hx282_2
       replace p282 := eq_true p282
       replace q282 := eq_true q282
       have p284 : 0 ≤ (x8_3 : Int) := of_decide_eq_true (by first | (with_reducible assumption) | assumption)
       have q284 : x8_3 < (l0_4.length : Int) := of_decide_eq_true (by first | (with_reducible assumption) | assumption)
       obtain ⟨ad284, e284, hx284_0, hx284_1, hx284_2⟩ := at_T52 HR0_4.out x8_3 p284 q284
       have hw284_2 := hx284_2
       have hw284_1 := hx284_1
       have hw284_0 := hx284_0
       obtain rfl : ad282 = ad284 := (by injection e284)
       replace hx284_0 := (HB.out.cell (World.block_lt_of_cell? w _ hx284_0)).trans hx284_0
       replace hx284_1 := (HB.out.cell (World.block_lt_of_cell? w _ hx284_1)).trans hx284_1
       replace hx284_2 := (HB.out.cell (World.block_lt_of_cell? w _ hx284_2)).trans hx284_2
       replace p284 := eq_true p284
       replace q284 := eq_true q284
       have p286 : 0 ≤ (x8_3 : Int) := of_decide_eq_true (by first | (with_reducible assumption) | assumption)
       have q286 : x8_3 < (l0_4.length : Int) := of_decide_eq_true (by first | (with_reducible assumption) | assumption)
       obtain ⟨ad286, e286, hx286_0, hx286_1, hx286_2⟩ := at_T52 HR0_4.out x8_3 p286 q286
       have hw286_2 := hx286_2
       have hw286_1 := hx286_1
       have hw286_0 := hx286_0
       obtain rfl : ad282 = ad286 := (by injection e286)
       replace hx286_0 := (HB.out.cell (World.block_lt_of_cell? w _ hx286_0)).trans hx286_0
       replace hx286_1 := (HB.out.cell (World.block_lt_of_cell? w _ hx286_1)).trans hx286_1
       replace hx286_2 := (HB.out.cell (World.block_lt_of_cell? w _ hx286_2)).trans hx286_2
       replace p286 := eq_true p286
       replace q286 := eq_true q286
       refine start_ (n := 26) (S := fun w' => w'.cell? ⟨gb262, 0, none⟩ = some (.int .i64 a0_0) ∧ w'.cell? ⟨gb262, 1, none⟩ = some (.int .i64 a0_1) ∧ w'.cell? ⟨gb262, 2, none⟩ = some (.slice A0_2 l0_2.length c0_2) ∧ w'.cell? ⟨gb262, 3, none⟩ = some (.slice A0_3 l0_3.length c0_3) ∧ w'.cell? ⟨gb262, 4, none⟩ = some (.slice (some ad282) l0_4.length c0_4) ∧ w'.cell? (ad282.add ((x8_3).toNat * 3)) = some (.int .i64 ((rd_T52 l0_4 x8_3).f0)) ∧ w'.cell? ⟨(ad282.add ((x8_3).toNat * 3)).block, (ad282.add ((x8_3).toNat * 3)).off + 1, none⟩ = some (.int .i64 ((rd_T52 l0_4 x8_3).f1)) ∧ w'.cell? ⟨(ad282.add ((x8_3).toNat * 3)).block, (ad282.add ((x8_3).toNat * 3)).off + 2, none⟩ = some (.int .i64 ((rd_T52 l0_4 x8_3).f2)) ∧ w'.cell? (ad282.add ((x8_3).toNat * 3)) = some (.int .i64 ((rd_T52 l0_4 x8_3).f0)) ∧ w'.cell? ⟨(ad282.add ((x8_3).toNat * 3)).block, (ad282.add ((x8_3).toNat * 3)).off + 1, none⟩ = some (.int .i64 ((rd_T52 l0_4 x8_3).f1)) ∧ w'.cell? ⟨(ad282.add ((x8_3).toNat * 3)).block, (ad282.add ((x8_3).toNat * 3)).off + 2, none⟩ = some (.int .i64 ((rd_T52 l0_4 x8_3).f2)) ∧ w'.cell? (ad282.add ((x8_3).toNat * 3)) = some (.int .i64 ((rd_T52 l0_4 x8_3).f0)) ∧ w'.cell? ⟨(ad282.add ((x8_3).toNat * 3)).block, (ad282.add ((x8_3).toNat * 3)).off + 1, none⟩ = some (.int .i64 ((rd_T52 l0_4 x8_3).f1)) ∧ w'.cell? ⟨(ad282.add ((x8_3).toNat * 3)).block, (ad282.add ((x8_3).toNat * 3)).off + 2, none⟩ = some (.int .i64 ((rd_T52 l0_4 x8_3).f2))) (ds := []) #[false, false, false, false, false, false, false, false, false, false, false, false, false, false, false, false, false, false, false, false, false, false, false, false, false, false] (by kernel_rfl) rfl rfl ⟨(q1q BK262.out 0).trans rfl, (q1q BK262.out 1).trans rfl, (q1q BK262.out 2).trans rfl, (q1q BK262.out 3).trans rfl, (q1q BK262.out 4).trans rfl, ((HB.out.cell (World.block_lt_of_cell? w _ hw282_0)).trans hw282_0), ((HB.out.cell (World.block_lt_of_cell? w _ hw282_1)).trans hw282_1), ((HB.out.cell (World.block_lt_of_cell? w _ hw282_2)).trans hw282_2), ((HB.out.cell (World.block_lt_of_cell? w _ hw284_0)).trans hw284_0), ((HB.out.cell (World.block_lt_of_cell? w _ hw284_1)).trans hw284_1), ((HB.out.cell (World.block_lt_of_cell? w _ hw284_2)).trans hw284_2), ((HB.out.cell (World.block_lt_of_cell? w _ hw286_0)).trans hw286_0), ((HB.out.cell (World.block_lt_of_cell? w _ hw286_1)).trans hw286_1), ((HB.out.cell (World.block_lt_of_cell? w _ hw286_2)).trans hw286_2)⟩ (fun hHeld => ?_); refine with_tabW tallowref21_proto.tab21 tallowref21_proto.bits21 (fun HT_ HW_ => ?_)
       generalize wr.drew = w78 at BK262 HB hx282_0 hx282_1 hx282_2 hx284_0 hx284_1 hx284_2 hx286_0 hx286_1 hx286_2 hHeld ⊢
       refine pure_ (i := 0) (N := some 99) (v := ?_) (a' := ?_) (bA 26 1) rfl rfl (q18q HT_.out (by kernel_rfl)) (fun _ _ _ h => h) (Or.inl ⟨by rfl, ?_⟩) ?_ ?_
       rotate_left
       ·intro w'
        go_simp
        with_reducible rfl
       rotate_left
       ·simp only [Act.put, sA_, sZ_, sS_, i64_w, i32_w]
        rfl
       refine pure_ (i := 1) (N := some 100) (v := ?_) (a' := ?_) (bA 26 3) rfl rfl (q18q HT_.out (by kernel_rfl)) (fun _ _ _ h => h) (Or.inl ⟨by rfl, ?_⟩) ?_ ?_
       rotate_left
       ·intro w'
        go_simp
        with_reducible rfl
       rotate_left
       ·simp only [Act.put, sA_, sZ_, sS_, i64_w, i32_w]
        rfl
       refine pure_ (i := 3) (N := some 102) (v := ?_) (a' := ?_) (bA 26 11) rfl rfl (q18q HT_.out (by kernel_rfl)) (fun _ _ _ h => h) (Or.inl ⟨by rfl, ?_⟩) ?_ ?_
       rotate_left
       ·intro w'
        go_simp
        with_reducible rfl
       rotate_left
       ·simp only [Act.put, sA_, sZ_, sS_, i64_w, i32_w]
        rfl
       refine pure_ (i := 9) (N := some 108) (v := ?_) (a' := ?_) (bA 26 523) rfl rfl (q18q HT_.out (by kernel_rfl)) (fun _ _ _ h => h) (Or.inl ⟨by rfl, ?_⟩) ?_ ?_
       rotate_left
       ·intro w'
        go_simp
        with_reducible rfl
       rotate_left
       ·simp only [Act.put, sA_, sZ_, sS_, i64_w, i32_w]
        rfl
       refine pure_ (i := 11) (N := some 110) (v := ?_) (a' := ?_) (bA 26 2571) rfl rfl (q18q HT_.out (by kernel_rfl)) (fun _ _ _ h => h) (Or.inl ⟨by rfl, ?_⟩) ?_ ?_
       rotate_left
       ·intro w'
        go_simp
        with_reducible rfl
       rotate_left
       ·simp only [Act.put, sA_, sZ_, sS_, i64_w, i32_w]
        rfl
       refine pure_ (i := 17) (N := some 116) (v := ?_) (a' := ?_) (bA 26 133643) rfl rfl (q18q HT_.out (by kernel_rfl)) (fun _ _ _ h => h) (Or.inl ⟨by rfl, ?_⟩) ?_ ?_
       rotate_left
       ·intro w'
        go_simp
        with_reducible rfl
       rotate_left
       ·simp only [Act.put, sA_, sZ_, sS_, i64_w, i32_w]
        rfl
       refine pure_ (i := 19) (N := some 118) (v := ?_) (a' := ?_) (bA 26 657931) rfl rfl (q18q HT_.out (by kernel_rfl)) (fun _ _ _ h => h) (Or.inl ⟨by rfl, ?_⟩) ?_ ?_
       rotate_left
       ·intro w'
        go_simp
        with_reducible rfl
       rotate_left
       ·simp only [Act.put, sA_, sZ_, sS_, i64_w, i32_w]
        rfl
       refine take_ (i := 2) (N := some 101) (v := ?_) (a' := ?_) (bA 26 657935) rfl rfl (q24q HT_.out HW_.out (by kernel_rfl)) (fun _ _ _ h => h) (Or.inl ⟨by rfl, ?_⟩) hHeld ?_ ?_
       rotate_left
       ·rintro w' ⟨s0, s1, s2, s3, s4, s5, s6, s7, s8, s9, s10, s11, s12, s13⟩
        go_simp
        with_reducible rfl
       rotate_left
       ·simp only [Act.put, sA_, sZ_, sS_, i64_w, i32_w]
        rfl
       refine pure_ (i := 4) (N := some 103) (v := ?_) (a' := ?_) (bA 26 657951) rfl rfl (q18q HT_.out (by kernel_rfl)) (fun _ _ _ h => h) (Or.inl ⟨by rfl, ?_⟩) ?_ ?_
       rotate_left
       ·intro w'
        go_simp
        with_reducible rfl
       rotate_left
       ·simp only [Act.put, sA_, sZ_, sS_, i64_w, i32_w]
        rfl
       refine pure_ (i := 5) (N := some 104) (v := ?_) (a' := ?_) (bA 26 657983) rfl rfl (q18q HT_.out (by kernel_rfl)) (fun _ _ _ h => h) (Or.inl ⟨by rfl, ?_⟩) ?_ ?_
       rotate_left
       ·intro w'
        go_simp
        with_reducible rfl
       rotate_left
       ·simp only [Act.put, sA_, sZ_, sS_, i64_w, i32_w]
        rfl
       refine take_ (i := 6) (N := some 105) (v := ?_) (a' := ?_) (bA 26 658047) rfl rfl (q24q HT_.out HW_.out (by kernel_rfl)) (fun _ _ _ h => h) (Or.inl ⟨by rfl, ?_⟩) hHeld ?_ ?_
       rotate_left
       ·rintro w' ⟨s0, s1, s2, s3, s4, s5, s6, s7, s8, s9, s10, s11, s12, s13⟩
        go_simp
        with_reducible rfl
       rotate_left
       ·simp only [Act.put, sA_, sZ_, sS_, i64_w, i32_w]
        rfl
       refine take_ (i := 10) (N := some 109) (v := ?_) (a' := ?_) (bA 26 659071) rfl rfl (q24q HT_.out HW_.out (by kernel_rfl)) (fun _ _ _ h => h) (Or.inl ⟨by rfl, ?_⟩) hHeld ?_ ?_
       rotate_left
       ·rintro w' ⟨s0, s1, s2, s3, s4, s5, s6, s7, s8, s9, s10, s11, s12, s13⟩
        go_simp
        with_reducible rfl
       rotate_left
       ·simp only [Act.put, sA_, sZ_, sS_, i64_w, i32_w]
        rfl
       refine pure_ (i := 12) (N := some 111) (v := ?_) (a' := ?_) (bA 26 663167) rfl rfl (q18q HT_.out (by kernel_rfl)) (fun _ _ _ h => h) (Or.inl ⟨by rfl, ?_⟩) ?_ ?_
       rotate_left
       ·intro w'
        go_simp
        with_reducible rfl
       rotate_left
       ·simp only [Act.put, sA_, sZ_, sS_, i64_w, i32_w]
        rfl
       refine pure_ (i := 13) (N := some 112) (v := ?_) (a' := ?_) (bA 26 671359) rfl rfl (q18q HT_.out (by kernel_rfl)) (fun _ _ _ h => h) (Or.inl ⟨by rfl, ?_⟩) ?_ ?_
       rotate_left
       ·intro w'
        go_simp
        with_reducible rfl
       rotate_left
       ·simp only [Act.put, sA_, sZ_, sS_, i64_w, i32_w]
        rfl
       refine take_ (i := 14) (N := some 113) (v := ?_) (a' := ?_) (bA 26 687743) rfl rfl (q24q HT_.out HW_.out (by kernel_rfl)) (fun _ _ _ h => h) (Or.inl ⟨by rfl, ?_⟩) hHeld ?_ ?_
       rotate_left
       ·rintro w' ⟨s0, s1, s2, s3, s4, s5, s6, s7, s8, s9, s10, s11, s12, s13⟩
        go_simp
        with_reducible rfl
       rotate_left
       ·simp only [Act.put, sA_, sZ_, sS_, i64_w, i32_w]
        rfl
       refine take_ (i := 18) (N := some 117) (v := ?_) (a' := ?_) (bA 26 949887) rfl rfl (q24q HT_.out HW_.out (by kernel_rfl)) (fun _ _ _ h => h) (Or.inl ⟨by rfl, ?_⟩) hHeld ?_ ?_
       rotate_left
       ·rintro w' ⟨s0, s1, s2, s3, s4, s5, s6, s7, s8, s9, s10, s11, s12, s13⟩
        go_simp
        with_reducible rfl
       rotate_left
       ·simp only [Act.put, sA_, sZ_, sS_, i64_w, i32_w]
        rfl
       refine pure_ (i := 20) (N := some 119) (v := ?_) (a' := ?_) (bA 26 1998463) rfl rfl (q18q HT_.out (by kernel_rfl)) (fun _ _ _ h => h) (Or.inl ⟨by rfl, ?_⟩) ?_ ?_
       rotate_left
       ·intro w'
        go_simp
        with_reducible rfl
       rotate_left
       ·simp only [Act.put, sA_, sZ_, sS_, i64_w, i32_w]
        rfl
       refine pure_ (i := 21) (N := some 120) (v := ?_) (a' := ?_) (bA 26 4095615) rfl rfl (q18q HT_.out (by kernel_rfl)) (fun _ _ _ h => h) (Or.inl ⟨by rfl, ?_⟩) ?_ ?_
       rotate_left
       ·intro w'
        go_simp
        with_reducible rfl
       rotate_left
       ·simp only [Act.put, sA_, sZ_, sS_, i64_w, i32_w]
        rfl
       refine take_ (i := 22) (N := some 121) (v := ?_) (a' := ?_) (bA 26 8289919) rfl rfl (q24q HT_.out HW_.out (by kernel_rfl)) (fun _ _ _ h => h) (Or.inl ⟨by rfl, ?_⟩) hHeld ?_ ?_
       rotate_left
       ·rintro w' ⟨s0, s1, s2, s3, s4, s5, s6, s7, s8, s9, s10, s11, s12, s13⟩
        go_simp
        with_reducible rfl
       rotate_left
       ·simp only [Act.put, sA_, sZ_, sS_, i64_w, i32_w]
        rfl
       refine one_ (i := 7) (N := some 106) (bA 26 8290047) rfl rfl (q35q HT_.out (by kernel_rfl)) (by decide) (fun K hK => ?_)
       refine goes_ Try.func22 (by kernel_rfl) rfl #[.int .i64 ((rd_T52 l0_4 x8_3).f0)] (by rfl) rfl rfl (by (try simp only [List.map_toArray, List.map_cons, List.map_nil]); first | done | rfl) ?_
       with_reducible refine (tallowref21_natural.calls k3 ((rd_T52 l0_4 x8_3).f0) t283 _ A71.out).mono ?_
       rintro e w79 ⟨rfl, hb⟩
       refine ⟨_, rfl, ?_⟩
       have n0_ := Aq.mk (q12q (g := gb262) (o := .cells #[.int .i64 a0_0, .int .i64 a0_1, .slice A0_2 l0_2.length c0_2, .slice A0_3 l0_3.length c0_3, .slice (some ad282) l0_4.length c0_4] 47 (0, 0)) (by exact BK262.out) hb)
       have n1_ := Aq.mk (q10q (by repeat (with_reducible first | exact HB.out | apply q4q | apply q0q | apply q2q | refine q5q ?_ GE262.out)) hb)
       clear BK262
       clear HB
       have BK262 := n0_
       have HB := n1_
       clear n0_ n1_
       (try clear hb)
       (try clear hb2)
       (try clear hk)
       (try clear hi)
       refine hK.out _ _ ⟨(q1q BK262.out 0).trans rfl, (q1q BK262.out 1).trans rfl, (q1q BK262.out 2).trans rfl, (q1q BK262.out 3).trans rfl, (q1q BK262.out 4).trans rfl, ((HB.out.cell (World.block_lt_of_cell? w _ hw282_0)).trans hw282_0), ((HB.out.cell (World.block_lt_of_cell? w _ hw282_1)).trans hw282_1), ((HB.out.cell (World.block_lt_of_cell? w _ hw282_2)).trans hw282_2), ((HB.out.cell (World.block_lt_of_cell? w _ hw284_0)).trans hw284_0), ((HB.out.cell (World.block_lt_of_cell? w _ hw284_1)).trans hw284_1), ((HB.out.cell (World.block_lt_of_cell? w _ hw284_2)).trans hw284_2), ((HB.out.cell (World.block_lt_of_cell? w _ hw286_0)).trans hw286_0), ((HB.out.cell (World.block_lt_of_cell? w _ hw286_1)).trans hw286_1), ((HB.out.cell (World.block_lt_of_cell? w _ hw286_2)).trans hw286_2)⟩ (fun hHeld => ?_)
       clear hK K
       refine norm_ (a' := ?_) ?_ ?_
       rotate_left
       ·show Act.put _ (some 106) _ = _
        simp only [Act.put, sA_, sZ_, sS_, i64_w, i32_w]
        rfl
       refine pure_ (i := 8) (N := some 107) (v := ?_) (a' := ?_) (bA 26 8290303) rfl rfl (q18q HT_.out (by kernel_rfl)) (fun _ _ _ h => h) (Or.inl ⟨by rfl, ?_⟩) ?_ ?_
       rotate_left
       ·intro w'
        go_simp
        with_reducible rfl
       rotate_left
       ·simp only [Act.put, sA_, sZ_, sS_, i64_w, i32_w]
        rfl
       refine one_ (i := 15) (N := some 114) (bA 26 8323071) rfl rfl (q35q HT_.out (by kernel_rfl)) (by decide) (fun K hK => ?_)
       refine goes_ Try.func22 (by kernel_rfl) rfl #[.int .i64 ((rd_T52 l0_4 x8_3).f1)] (by rfl) rfl rfl (by (try simp only [List.map_toArray, List.map_cons, List.map_nil]); first | done | rfl) ?_
       with_reducible refine (tallowref21_natural.calls k3 ((rd_T52 l0_4 x8_3).f1) t285 _ A73.out).mono ?_
       rintro e w80 ⟨rfl, hb⟩
       refine ⟨_, rfl, ?_⟩
       have n0_ := Aq.mk (q12q (g := gb262) (o := .cells #[.int .i64 a0_0, .int .i64 a0_1, .slice A0_2 l0_2.length c0_2, .slice A0_3 l0_3.length c0_3, .slice (some ad282) l0_4.length c0_4] 47 (0, 0)) (by exact BK262.out) hb)
       have n1_ := Aq.mk (q10q (by repeat (with_reducible first | exact HB.out | apply q4q | apply q0q | apply q2q | refine q5q ?_ GE262.out)) hb)
       clear BK262
       clear HB
       have BK262 := n0_
       have HB := n1_
       clear n0_ n1_
       (try clear hb)
       (try clear hb2)
       (try clear hk)
       (try clear hi)
       refine hK.out _ _ ⟨(q1q BK262.out 0).trans rfl, (q1q BK262.out 1).trans rfl, (q1q BK262.out 2).trans rfl, (q1q BK262.out 3).trans rfl, (q1q BK262.out 4).trans rfl, ((HB.out.cell (World.block_lt_of_cell? w _ hw282_0)).trans hw282_0), ((HB.out.cell (World.block_lt_of_cell? w _ hw282_1)).trans hw282_1), ((HB.out.cell (World.block_lt_of_cell? w _ hw282_2)).trans hw282_2), ((HB.out.cell (World.block_lt_of_cell? w _ hw284_0)).trans hw284_0), ((HB.out.cell (World.block_lt_of_cell? w _ hw284_1)).trans hw284_1), ((HB.out.cell (World.block_lt_of_cell? w _ hw284_2)).trans hw284_2), ((HB.out.cell (World.block_lt_of_cell? w _ hw286_0)).trans hw286_0), ((HB.out.cell (World.block_lt_of_cell? w _ hw286_1)).trans hw286_1), ((HB.out.cell (World.block_lt_of_cell? w _ hw286_2)).trans hw286_2)⟩ (fun hHeld => ?_)
       clear hK K
       refine norm_ (a' := ?_) ?_ ?_
       rotate_left
       ·show Act.put _ (some 114) _ = _
        simp only [Act.put, sA_, sZ_, sS_, i64_w, i32_w]
        rfl
       refine pure_ (i := 16) (N := some 115) (v := ?_) (a' := ?_) (bA 26 8388607) rfl rfl (q18q HT_.out (by kernel_rfl)) (fun _ _ _ h => h) (Or.inl ⟨by rfl, ?_⟩) ?_ ?_
       rotate_left
       ·intro w'
        go_simp
        with_reducible rfl
       rotate_left
       ·simp only [Act.put, sA_, sZ_, sS_, i64_w, i32_w]
        rfl
       refine one_ (i := 23) (N := some 122) (bA 26 16777215) rfl rfl (q35q HT_.out (by kernel_rfl)) (by decide) (fun K hK => ?_)
       refine goes_ Try.func22 (by kernel_rfl) rfl #[.int .i64 ((rd_T52 l0_4 x8_3).f2)] (by rfl) rfl rfl (by (try simp only [List.map_toArray, List.map_cons, List.map_nil]); first | done | rfl) ?_
       with_reducible refine (tallowref21_natural.calls k3 ((rd_T52 l0_4 x8_3).f2) t287 _ A75.out).mono ?_
       rintro e w81 ⟨rfl, hb⟩
       refine ⟨_, rfl, ?_⟩
       have n0_ := Aq.mk (q12q (g := gb262) (o := .cells #[.int .i64 a0_0, .int .i64 a0_1, .slice A0_2 l0_2.length c0_2, .slice A0_3 l0_3.length c0_3, .slice (some ad282) l0_4.length c0_4] 47 (0, 0)) (by exact BK262.out) hb)
       have n1_ := Aq.mk (q10q (by repeat (with_reducible first | exact HB.out | apply q4q | apply q0q | apply q2q | refine q5q ?_ GE262.out)) hb)
       clear BK262
       clear HB
       have BK262 := n0_
       have HB := n1_
       clear n0_ n1_
       (try clear hb)
       (try clear hb2)
       (try clear hk)
       (try clear hi)
       refine hK.out _ _ ⟨(q1q BK262.out 0).trans rfl, (q1q BK262.out 1).trans rfl, (q1q BK262.out 2).trans rfl, (q1q BK262.out 3).trans rfl, (q1q BK262.out 4).trans rfl, ((HB.out.cell (World.block_lt_of_cell? w _ hw282_0)).trans hw282_0), ((HB.out.cell (World.block_lt_of_cell? w _ hw282_1)).trans hw282_1), ((HB.out.cell (World.block_lt_of_cell? w _ hw282_2)).trans hw282_2), ((HB.out.cell (World.block_lt_of_cell? w _ hw284_0)).trans hw284_0), ((HB.out.cell (World.block_lt_of_cell? w _ hw284_1)).trans hw284_1), ((HB.out.cell (World.block_lt_of_cell? w _ hw284_2)).trans hw284_2), ((HB.out.cell (World.block_lt_of_cell? w _ hw286_0)).trans hw286_0), ((HB.out.cell (World.block_lt_of_cell? w _ hw286_1)).trans hw286_1), ((HB.out.cell (World.block_lt_of_cell? w _ hw286_2)).trans hw286_2)⟩ (fun hHeld => ?_)
       clear hK K
       refine norm_ (a' := ?_) ?_ ?_
       rotate_left
       ·show Act.put _ (some 122) _ = _
        simp only [Act.put, sA_, sZ_, sS_, i64_w, i32_w]
        rfl
       refine pure_ (i := 24) (N := some 123) (v := ?_) (a' := ?_) (bA 26 33554431) rfl rfl (q18q HT_.out (by kernel_rfl)) (fun _ _ _ h => h) (Or.inl ⟨by rfl, ?_⟩) ?_ ?_
       rotate_left
       ·intro w'
        go_simp
        with_reducible rfl
       rotate_left
       ·simp only [Act.put, sA_, sZ_, sS_, i64_w, i32_w]
        rfl
       refine pure_ (i := 25) (N := some 3) (v := ?_) (a' := ?_) (bA 26 67108863) rfl rfl (q18q HT_.out (by kernel_rfl)) (fun _ _ _ h => h) (Or.inl ⟨by rfl, ?_⟩) ?_ ?_
       rotate_left
       ·intro w'
        go_simp
        with_reducible rfl
       rotate_left
       ·simp only [Act.put, sA_, sZ_, sS_, i64_w, i32_w]
        rfl
       refine done_ (done_of HT_.out (by kernel_rfl)) ?_
       try go_wp2
       go_roundg k3
       case measure => have := HK1.out; have := HK2.out; have := HK3.out; omega
       case rel => exact ⟨(((x3_3 ++ t283) ++ t285) ++ t287), (wrap64 (x8_3 + 1)), (by first | rfl | (simp; done) | (simp [*]; done)), (by first | rfl | (simp; done) | (simp [*]; done)), H', ⟨by have := HK1.out; have := HK2.out; have := HK3.out; omega⟩, ⟨BK262.out⟩, ⟨by repeat (with_reducible first | exact HB.out | apply q4q | apply q0q | apply q2q | refine q5q ?_ GE262.out)⟩⟩
end Go.Proofs.Ytkkgbbfojmnopaa.G
end
