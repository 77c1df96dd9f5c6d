import Derived.Test.YtkkgbbfojmnopaaPCuGx0
import Derived.Test.YtkkgbbfojmnopaaPCuE11
import Derived.Test.YtkkgbbfojmnopaaPCuRB
import Derived.Test.YtkkgbbfojmnopaaPCuGxF9
import Derived.Test.YtkkgbbfojmnopaaPCuGxF10
import Derived.Test.YtkkgbbfojmnopaaPCuGxF17
import Derived.Test.YtkkgbbfojmnopaaPCuGxF12
set_option linter.unusedVariables false
set_option linter.unusedSimpArgs false
section
namespace Go.Proofs.Ytkkgbbfojmnopaa.G
open Go.RowKit Go.Proofs.YtkkgbbfojmnopaaW.PrintWords Go.Proofs.YtkkgbbfojmnopaaW.PrintLast Go.Proofs.YtkkgbbfojmnopaaW.PrintMore
attribute [local go_sem] max2_int min2_int max_two min_two max_three min_three max_four min_four
set_option linter.unusedVariables false
set_option linter.unusedSimpArgs false
mutual
def tallowlaw21_CodecCut.j0 : Nat → Int → Int → ByteArray → Bool → List (S47) → Option (Bool)
  | 0, _, _, _, _, _ => none
  | k + 1, x1, x2, x7, x29, x262000 => if x29 = true then ((tallowlaw21_works.f k).bind fun t267 => (some t267)) else (if (x7.size : Int) = 0 then (none) else (if 0 ≤ (Int.tmod (wrap64 (x1)) (x7.size : Int)) then (if (Int.tmod (wrap64 (x1)) (x7.size : Int)) ≤ (x7.size : Int) then ((codec_Decode.f k (x7.extract 0 ((Int.tmod (wrap64 (x1)) (x7.size : Int)) : Int).toNat)).bind fun bt268 => ((some (([x2] : List Int) : List Int)).bind fun y273 => (if x7.size + (strOfNums y273).size ≤ 9223372036854775807 then ((codec_Decode.f k (x7 ++ (strOfNums y273))).bind fun bt276 => (if bt268.2 = 4 then (tallowlaw21_CodecCut.j1 k x2 x7 (Int.tmod (wrap64 (x1)) (x7.size : Int)) (bt276.2 != 4) x262000) else (tallowlaw21_CodecCut.j1 k x2 x7 (Int.tmod (wrap64 (x1)) (x7.size : Int)) true x262000))) else (none)))) else (none)) else (none)))
def tallowlaw21_CodecCut.j1 : Nat → Int → ByteArray → Int → Bool → List (S47) → Option (Bool)
  | 0, _, _, _, _, _ => none
  | k + 1, x2, x7, x9, x57, x262000 => if x57 = true then (some false) else ((some ((bytesOf x7) : List Int)).bind fun y281 => (if 0 ≤ x9 then (if x9 < (y281.length : Int) then ((some (y281.set (x9 : Int).toNat x2 : List Int)).bind fun y284 => ((codec_Decode.f k (strOfNums y284)).bind fun bt285 => (if bt285.2 = 0 then ((code_Same.f k x262000 bt285.1).bind fun t290 => (if (t290 == ((strOfNums y284).toList == x7.toList)) = true then ((tallowlaw21_works.f k).bind fun t291 => (some t291)) else none)) else ((tallowlaw21_works.f k).bind fun t292 => (some t292))))) else (none)) else (none)))
end
def tallowlaw21_CodecCut.f (k : Nat) (l0_0 : List (S47)) (a1 : Int) (a2 : Int) : Option (Bool) := (tallowlaw21_short.f k l0_0).bind fun t262 => ((codec_Encode.f k t262).bind fun bt265 => (if bt265.2 = 0 then (tallowlaw21_CodecCut.j0 k a1 a2 bt265.1 (bt265.1.toList == ([] : List UInt8)) t262) else (tallowlaw21_CodecCut.j0 k a1 a2 bt265.1 true t262)))
def tallowlaw21_CodecCut.T13 : Bool × List (List Nat × List Nat) := (true, [([], []), ([0], [0]), ([1], [1]), ([2], [2]), ([2], [2]), ([3, 4, 2, 2], [2, 3, 4]), ([2], [2]), ([6, 2], [2, 6]), ([2], [2]), ([7, 8, 2], [2, 7, 8]), ([5, 9, 2], [2, 5, 9]), ([2, 10], [2, 10]), ([11, 5], [11]), ([12, 12], [12]), ([12, 13], [12, 13]), ([14, 13, 0, 1, 2, 3, 4, 5, 6, 7, 8, 9, 10, 11, 12, 13, 14], [14])])
def tallowlaw21_CodecCut.B13 : List Nat := [0, 1, 3, 7, 7, 31, 7, 71, 7, 455, 1023, 2047, 4095, 8191, 16383, 32767]
theorem tallowlaw21_CodecCut.tab13 : rtab .any (opsOf Try.f6 13) = tallowlaw21_CodecCut.T13 := by kernel_rfl
theorem tallowlaw21_CodecCut.bits13 : waitsOk tallowlaw21_CodecCut.T13.2 tallowlaw21_CodecCut.B13 = true := by kernel_rfl
set_option maxHeartbeats 8000000 in
set_option maxRecDepth 100000 in
theorem tallowlaw21_CodecCut.calls (k : Nat) (A0_0 : Option Addr) (c0_0 : Nat) (l0_0 : List (S47)) (a1 : Int) (a2 : Int) (r : Bool) (w : World) (hr0_0 : Kd.C k47 w A0_0 l0_0.length l0_0) (hc0_0 : l0_0.length ≤ c0_0) (h : tallowlaw21_CodecCut.f k l0_0 a1 a2 = some r) :
    Calls Try.prog 6 #[.agg #[.slice A0_0 l0_0.length c0_0], .int .u16 a1, .int .u8 a2] w fun e w' => e = .returned (.bool r) ∧ Below w.heap.size w w' := by
  have hu24 := Try.underlying24
  have HR0_0 := Aside0.mk hr0_0
  have HC0_0 := Aside0.mk hc0_0
  clear hr0_0 hc0_0
  have HB := Aside0.mk (Below.refl w.heap.size w)
  have H : ((tallowlaw21_short.f k l0_0).bind fun t262 => ((codec_Encode.f k t262).bind fun bt265 => (if bt265.2 = 0 then (tallowlaw21_CodecCut.j0 k a1 a2 bt265.1 (bt265.1.toList == ([] : List UInt8)) t262) else (tallowlaw21_CodecCut.j0 k a1 a2 bt265.1 true t262)))) = some r := h
  clear h
  replace H := Option.bind_eq_some_iff.mp H
  obtain ⟨t262, A40, H⟩ := H
  replace H : ((codec_Encode.f k t262).bind fun bt265 => (if bt265.2 = 0 then (tallowlaw21_CodecCut.j0 k a1 a2 bt265.1 (bt265.1.toList == ([] : List UInt8)) t262) else (tallowlaw21_CodecCut.j0 k a1 a2 bt265.1 true t262))) = some r := H
  have A4 := Aside0.mk A40
  clear A40
  replace H := Option.bind_eq_some_iff.mp H
  obtain ⟨⟨t265, t266⟩, A50, H⟩ := H
  replace H : (if t266 = 0 then (tallowlaw21_CodecCut.j0 k a1 a2 t265 (t265.toList == ([] : List UInt8)) t262) else (tallowlaw21_CodecCut.j0 k a1 a2 t265 true t262)) = some r := H
  have A5 := Aside0.mk A50
  clear A50
  have HC6 := Aside0.mk H
  clear H
  go_enter Try.func6, Try.ntmps6
  go_upto_region 3 with (first | ((with_reducible refine gate_dst (N := 3) rfl ?_); refine box_event ?hg (N := 3) ?hd (cs := #[.slice A0_0 l0_0.length c0_0]) (t := 24) ?hr ?_; (case hd => rfl); (case hg => rfl); (case hr => first | (go_simp; done) | (go_simp; rfl)); intro gb261 hg w7 hbox hb; have n0_ := Aside0.mk (below_step (by repeat (first | (with_reducible first | exact HB.out | apply below_alloc | apply pw_below_drewN | apply below_drew1) | exact HB.out)) hb); have n1_ := Aside0.mk (hbox); have n2_ := Aside0.mk ((by rw [hg]; exact (below_size (by repeat (first | (with_reducible first | exact HB.out | apply below_alloc | apply pw_below_drewN | apply below_drew1) | exact HB.out))) : w.heap.size ≤ gb261)); have n3_ := Aside0.mk ((by rw [hg]; exact (below_size (by repeat (first | (with_reducible first | exact HB.out | apply below_alloc | apply pw_below_drewN | apply below_drew1) | exact HB.out))) : w.heap.size ≤ gb261)); clear HB; have HB := n0_; have BK261 := n1_; have GW261 := n2_; have GE261 := n3_; clear n0_ n1_ n2_ n3_; clear hb hbox hg; have hcz8_0 : w7.cell? ⟨gb261, 0, none⟩ = some (.slice A0_0 l0_0.length c0_0) := (blk_cell BK261.out 0).trans rfl; have hfz8_0 := blk_frozen BK261.out 0) | ((with_reducible refine gate_callee (f := 9) rfl ?_); refine goesL_ (some 18) rfl rfl Try.func9 (by kernel_rfl) rfl #[.agg #[.slice A0_0 l0_0.length c0_0]] rfl (by (try simp only [List.map_toArray, List.map_cons, List.map_nil]); first | done | rfl | (simp only [List.length_drop, List.length_take]; rfl)) ?_; (with_reducible refine (tallowlaw21_short.calls k _ _ l0_0 t262 _ ?side1 ?side2 A4.out).mono ?_); (case side1 => repeat (first | exact (Kd.C_below HR0_0.out HB.out) | (with_reducible refine Kd.C_alloc ?_ _) | (with_reducible refine Kd.C_drewN ?_ _) | (with_reducible refine Kd.C_drew ?_))); (case side2 => exact HC0_0.out); rintro e w9 ⟨v263, rfl, ho0, hb⟩; refine ⟨_, rfl, ?_⟩; have n0_ := Aside0.mk (Kd.N_lower (Kd.N_mono (ok' := fun k_ => k_ ≠ gb261) (Kd.S_N (Kd.S_bound ho0)) (fun k_ hk_ => (Kd.freshB (g := gb261) (o := .cells #[.slice A0_0 l0_0.length c0_0] 24 (0, 0)) (by (with_reducible repeat (first | refine blk_drewN ?_ _ | refine blk_drew ?_ | refine blk_alloc ?_ _)); exact BK261.out) k_ hk_.2.1))) (below_size (by repeat (first | (with_reducible first | exact HB.out | apply below_alloc | apply pw_below_drewN | apply below_drew1 | refine below_set ?_ GE261.out) | exact HB.out)))); have n1_ := Aside0.mk (blk_below (g := gb261) (o := .cells #[.slice A0_0 l0_0.length c0_0] 24 (0, 0)) (by (with_reducible repeat (first | refine blk_drewN ?_ _ | refine blk_drew ?_ | refine blk_alloc ?_ _)); exact BK261.out) hb); have n2_ := Aside0.mk (below_step (by repeat (first | (with_reducible first | exact HB.out | apply below_alloc | apply pw_below_drewN | apply below_drew1 | refine below_set ?_ GE261.out) | exact HB.out)) hb); clear BK261; clear HB; have HO264 := n0_; have BK261 := n1_; have HB := n2_; clear n0_ n1_ n2_; (try clear hb); (try clear hb2); (try clear hk); (try clear hi); (try clear ho0); obtain ⟨Ao10, co10, eo10⟩ := Kd.N_slice HO264.out; subst eo10; have hcz11_0 : w9.cell? ⟨gb261, 0, none⟩ = some (.slice A0_0 l0_0.length c0_0) := (blk_cell BK261.out 0).trans rfl; have hfz11_0 := blk_frozen BK261.out 0) | ((with_reducible refine gate_callee (f := 10) rfl ?_); refine goesL_ (some 21) rfl rfl Try.func10 (by kernel_rfl) rfl #[.agg #[.slice Ao10 t262.length co10]] rfl (by (try simp only [List.map_toArray, List.map_cons, List.map_nil]); first | done | rfl | (simp only [List.length_drop, List.length_take]; rfl)) ?_; (with_reducible refine (codec_Encode.calls k _ _ t262 t265 t266 _ ?side1 ?side2 A5.out).mono ?_); (case side1 => refine (Kd.N_reads' (e := 47) (base := w.heap.size) (ok := fun k_ => k_ ≠ gb261) (n := t262.length) (c := co10) ?_).2.2; exact (by (with_reducible repeat (first | apply Kd.N_alloc | apply Kd.N_drewN | apply Kd.N_drew)); exact (Kd.N_mono (Kd.N_far (p := ⟨gb261, 0, none⟩) (Kd.N_mono HO264.out (fun k_ hk => (⟨hk, hk⟩ : _ ∧ k_ ≠ gb261))) (fun _ hk => hk.2) (.slice Ao10 t262.length co10)) (fun _ h_ => h_.1)))); (case side2 => exact (Kd.N_reads' HO264.out).2.1); rintro e w12 ⟨rfl, hb⟩; refine ⟨_, rfl, ?_⟩; have n0_ := Aside0.mk (Kd.N_below (by (with_reducible repeat (first | apply Kd.N_alloc | apply Kd.N_drewN | apply Kd.N_drew)); exact (Kd.N_mono (Kd.N_far (p := ⟨gb261, 0, none⟩) (Kd.N_mono HO264.out (fun k_ hk => (⟨hk, hk⟩ : _ ∧ k_ ≠ gb261))) (fun _ hk => hk.2) (.slice Ao10 t262.length co10)) (fun _ h_ => h_.1))) hb); have n1_ := Aside0.mk (blk_below (g := gb261) (o := .cells #[.slice Ao10 t262.length co10] 24 (0, 0)) (by (with_reducible repeat (first | refine blk_drewN ?_ _ | refine blk_drew ?_ | refine blk_alloc ?_ _)); refine blk_put (cs := #[.slice A0_0 l0_0.length c0_0]) ?_ 0 _ rfl; (with_reducible repeat (first | refine blk_drewN ?_ _ | refine blk_drew ?_ | refine blk_alloc ?_ _)); exact BK261.out) hb); have n2_ := Aside0.mk (below_step (by repeat (first | (with_reducible first | exact HB.out | apply below_alloc | apply pw_below_drewN | apply below_drew1 | refine below_set ?_ GE261.out) | exact HB.out)) hb); clear HO264; clear BK261; clear HB; have HO264 := n0_; have BK261 := n1_; have HB := n2_; clear n0_ n1_ n2_; (try clear hb); (try clear hb2); (try clear hk); (try clear hi)))
  (try simp only [Act.put, List.setIfInBounds_toArray, List.set_cons_zero, List.set_cons_succ])
  go_cut [29] (fun v29 wc => ∃ (kq : Nat) (x29_5 : Bool), v29 = .bool x29_5 ∧ Aside0 (tallowlaw21_CodecCut.j0 kq a1 a2 t265 x29_5 t262 = some r) ∧ Aside0 (kq ≤ k) ∧ Aside0 (Kd.N k47 47 wc w.heap.size (fun k_ => k_ ≠ gb261) (.slice Ao10 t262.length co10) t262) ∧ Aside0 (wc.heap[gb261]? = some (.cells #[(.slice Ao10 t262.length co10)] 24 (0, 0))) ∧ Aside0 (Below w.heap.size w wc))
  case first =>
    have H := HC6.out
    clear HC6
    by_cases c13 : t266 = 0
    · rw [if_pos c13] at H
      have c13b0 : (t266 == 0) = true := beq_iff_eq.mpr c13
      have c13b1 : (t266 != 0) = false := bne_eq_false_iff_eq.mpr c13
      clear c13
      (first | rw [c13b0] | (simp only [i64_w, i32_w]; rw [c13b0]) | skip)
      have H' := Aside0.mk H
      clear H
      go_wp2
      go_meet
      case rel => exact ⟨_, ((t265.toList == ([] : List UInt8))), (by first | rfl | (simp; done) | (simp [*]; done)), H', ⟨by first | omega | exact Nat.le_refl _⟩, ⟨by (with_reducible repeat (first | apply Kd.N_alloc | apply Kd.N_drewN | apply Kd.N_drew)); exact HO264.out⟩, ⟨by (with_reducible repeat (first | refine blk_drewN ?_ _ | refine blk_drew ?_ | refine blk_alloc ?_ _)); exact BK261.out⟩, ⟨by repeat (first | (with_reducible first | exact HB.out | apply below_alloc | apply pw_below_drewN | apply below_drew1 | refine below_set ?_ GE261.out) | exact HB.out)⟩⟩
    · rw [if_neg c13] at H
      have c13b0 : (t266 == 0) = false := beq_eq_false_iff_ne.mpr c13
      have c13b1 : (t266 != 0) = true := bne_iff_ne.mpr c13
      (first | rw [c13b0] | (simp only [i64_w, i32_w]; rw [c13b0]) | skip)
      have H' := Aside0.mk H
      clear H
      go_wp2
      go_meet
      case rel => exact ⟨_, (true), (by first | rfl | (simp; done) | (simp [*]; done)), H', ⟨by first | omega | exact Nat.le_refl _⟩, ⟨by (with_reducible repeat (first | apply Kd.N_alloc | apply Kd.N_drewN | apply Kd.N_drew)); exact HO264.out⟩, ⟨by (with_reducible repeat (first | refine blk_drewN ?_ _ | refine blk_drew ?_ | refine blk_alloc ?_ _)); exact BK261.out⟩, ⟨by repeat (first | (with_reducible first | exact HB.out | apply below_alloc | apply pw_below_drewN | apply below_drew1 | refine below_set ?_ GE261.out) | exact HB.out)⟩⟩
  case rest =>
    clear HC6
    try clear c1
    try clear p2
    try clear c6
    try clear c9
    try clear c10
    try clear c13
    try clear c13b0
    try clear c13b1
    try clear hcz11_0
    try clear hcz8_0
    try clear hfz11_0
    try clear hfz8_0
    obtain ⟨kq, x29_5, rfl, HA, HJ5, HO_262000, BK261, HB⟩ := hcut
    cases kq with
    | zero => exact absurd HA.out (by simp [tallowlaw21_CodecCut.j0])
    | succ kj5 =>
      have H := HA.out
      clear HA
      simp only [tallowlaw21_CodecCut.j0] at H
      by_cases c14 : x29_5 = true
      · subst c14
        have H1 : ((tallowlaw21_works.f kj5).bind fun t267 => (some t267)) = some r := by rw [if_pos rfl] at H; exact H
        clear H
        have H := H1
        clear H1
        replace H := Option.bind_eq_some_iff.mp H
        obtain ⟨t267, A150, H⟩ := H
        replace H : (some t267) = some r := H
        have A15 := Aside0.mk A150
        clear A150
        obtain rfl := Option.some.inj H
        go_wp2_with (first | ((with_reducible refine gate_callee (f := 12) rfl ?_); refine goesL_ (some 30) rfl rfl Try.func12 (by kernel_rfl) rfl #[] rfl (by (try simp only [List.map_toArray, List.map_cons, List.map_nil]); first | done | rfl | (simp only [List.length_drop, List.length_take]; rfl)) ?_; (with_reducible refine (tallowlaw21_works.calls kj5  t267 _ A15.out).mono ?_); rintro e w16 ⟨rfl, hb⟩; refine ⟨_, rfl, ?_⟩; have n0_ := Aside0.mk (Kd.N_below (by (with_reducible repeat (first | apply Kd.N_alloc | apply Kd.N_drewN | apply Kd.N_drew)); exact HO_262000.out) hb); have n1_ := Aside0.mk (blk_below (g := gb261) (o := .cells #[.slice Ao10 t262.length co10] 24 (0, 0)) (by (with_reducible repeat (first | refine blk_drewN ?_ _ | refine blk_drew ?_ | refine blk_alloc ?_ _)); exact BK261.out) hb); have n2_ := Aside0.mk (below_step (by repeat (first | (with_reducible first | exact HB.out | apply below_alloc | apply pw_below_drewN | apply below_drew1 | refine below_set ?_ GE261.out) | exact HB.out)) hb); clear HO_262000; clear BK261; clear HB; have HO_262000 := n0_; have BK261 := n1_; have HB := n2_; clear n0_ n1_ n2_; (try clear hb); (try clear hb2); (try clear hk); (try clear hi)))
        go_ret
        exact ⟨by first | rfl | (simp [errW_none, errW_some] <;> rfl) | (simp [*, errW_none, errW_some] <;> rfl), by repeat (first | (with_reducible first | exact HB.out | apply below_alloc | apply pw_below_drewN | apply below_drew1 | refine below_set ?_ GE261.out) | exact HB.out)⟩
      · replace c14 := Bool.eq_false_iff.mpr c14
        subst c14
        have H1 : (if (t265.size : Int) = 0 then (none) else (if 0 ≤ (Int.tmod (wrap64 (a1)) (t265.size : Int)) then (if (Int.tmod (wrap64 (a1)) (t265.size : Int)) ≤ (t265.size : Int) then ((codec_Decode.f kj5 (t265.extract 0 ((Int.tmod (wrap64 (a1)) (t265.size : Int)) : Int).toNat)).bind fun bt268 => ((some (([a2] : List Int) : List Int)).bind fun y273 => (if t265.size + (strOfNums y273).size ≤ 9223372036854775807 then ((codec_Decode.f kj5 (t265 ++ (strOfNums y273))).bind fun bt276 => (if bt268.2 = 4 then (tallowlaw21_CodecCut.j1 kj5 a2 t265 (Int.tmod (wrap64 (a1)) (t265.size : Int)) (bt276.2 != 4) t262) else (tallowlaw21_CodecCut.j1 kj5 a2 t265 (Int.tmod (wrap64 (a1)) (t265.size : Int)) true t262))) else (none)))) else (none)) else (none))) = some r := by rw [if_neg (show ¬ (false = true) by decide)] at H; exact H
        clear H
        have H := H1
        clear H1
        by_cases c17 : (t265.size : Int) = 0
        · rw [if_pos c17] at H
          exact absurd H (by simp)
        · rw [if_neg c17] at H
          have c17b0 : ((t265.size : Int) == 0) = false := beq_eq_false_iff_ne.mpr c17
          have c17b1 : ((t265.size : Int) != 0) = true := bne_iff_ne.mpr c17
          obtain ⟨ji18, hji18⟩ : ∃ j_ : Int, (Int.tmod (wrap64 (a1)) (t265.size : Int)) = j_ := ⟨_, rfl⟩
          replace H : (if 0 ≤ (ji18) then (if (ji18) ≤ (t265.size : Int) then ((codec_Decode.f kj5 (t265.extract 0 ((ji18) : Int).toNat)).bind fun bt268 => ((some (([a2] : List Int) : List Int)).bind fun y273 => (if t265.size + (strOfNums y273).size ≤ 9223372036854775807 then ((codec_Decode.f kj5 (t265 ++ (strOfNums y273))).bind fun bt276 => (if bt268.2 = 4 then (tallowlaw21_CodecCut.j1 kj5 a2 t265 ji18 (bt276.2 != 4) t262) else (tallowlaw21_CodecCut.j1 kj5 a2 t265 ji18 true t262))) else (none)))) else (none)) else (none)) = some r := by first | (rw [hji18] at H; exact H) | (simp only [hji18] at H ⊢; exact H)
          by_cases c19 : 0 ≤ (ji18)
          · rw [if_pos c19] at H
            have c19b0 := eq_true c19
            have c19b1 : decide (0 ≤ (ji18)) = true := decide_eq_true c19
            clear c19
            by_cases c20 : (ji18) ≤ (t265.size : Int)
            · rw [if_pos c20] at H
              have c20b0 := eq_true c20
              have c20b1 : decide ((ji18) ≤ (t265.size : Int)) = true := decide_eq_true c20
              clear c20
              replace H := Option.bind_eq_some_iff.mp H
              obtain ⟨⟨t268, t271⟩, A210, H⟩ := H
              replace H : ((some (([a2] : List Int) : List Int)).bind fun y273 => (if t265.size + (strOfNums y273).size ≤ 9223372036854775807 then ((codec_Decode.f kj5 (t265 ++ (strOfNums y273))).bind fun bt276 => (if t271 = 4 then (tallowlaw21_CodecCut.j1 kj5 a2 t265 ji18 (bt276.2 != 4) t262) else (tallowlaw21_CodecCut.j1 kj5 a2 t265 ji18 true t262))) else (none))) = some r := H
              have A21 := Aside0.mk A210
              clear A210
              obtain ⟨y273, hy273⟩ : ∃ y_ : List Int, y_ = (([a2] : List Int)) := ⟨_, rfl⟩
              replace H : (if t265.size + (strOfNums y273).size ≤ 9223372036854775807 then ((codec_Decode.f kj5 (t265 ++ (strOfNums y273))).bind fun bt276 => (if t271 = 4 then (tallowlaw21_CodecCut.j1 kj5 a2 t265 ji18 (bt276.2 != 4) t262) else (tallowlaw21_CodecCut.j1 kj5 a2 t265 ji18 true t262))) else (none)) = some r := by first | (rw [hy273]; with_reducible exact H) | (have H2_ := (Option.bind_some _ _).symm.trans H; rw [hy273]; with_reducible exact H2_) | (have H2_ := (Option.bind_some _ _).symm.trans H; with_reducible exact H2_) | with_reducible exact H | (rw [hy273]; exact H) | exact H
              have Ny273 := Aside0.mk hy273
              clear hy273
              by_cases c22 : t265.size + (strOfNums y273).size ≤ 9223372036854775807
              · rw [if_pos c22] at H
                have c22b0 := eq_true c22
                have c22b1 : decide (t265.size + (strOfNums y273).size ≤ 9223372036854775807) = true := decide_eq_true c22
                try have c22b2 : (9223372036854775807 < t265.size + (strOfNums y273).size) = False := eq_false (Nat.not_lt.2 c22)
                replace H := Option.bind_eq_some_iff.mp H
                obtain ⟨⟨t276, t279⟩, A230, H⟩ := H
                replace H : (if t271 = 4 then (tallowlaw21_CodecCut.j1 kj5 a2 t265 ji18 (t279 != 4) t262) else (tallowlaw21_CodecCut.j1 kj5 a2 t265 ji18 true t262)) = some r := H
                have A23 := Aside0.mk A230
                clear A230
                have HSZ22 := Aside0.mk c22
                have HC24 := Aside0.mk H
                clear H
                go_upto_region 8 with (first | ((with_reducible refine gate_callee (f := 13) rfl ?_); refine goesL_ (some 40) rfl rfl Try.func13 (by kernel_rfl) rfl #[.string (t265.extract 0 ((ji18) : Int).toNat)] rfl (by (try simp only [List.map_toArray, List.map_cons, List.map_nil]); first | done | (simp only [hji18]; rfl) | rfl | (simp only [List.length_drop, List.length_take]; rfl)) ?_; (with_reducible refine (codec_Decode.calls kj5 (t265.extract 0 ((ji18) : Int).toNat) t268 t271 _ A21.out).mono ?_); rintro e w25 ⟨v269, rfl, ho0, hb⟩; refine ⟨_, rfl, ?_⟩; have n0_ := Aside0.mk (Kd.N_elder' (by (with_reducible repeat (first | apply Kd.N_alloc | apply Kd.N_drewN | apply Kd.N_drew)); exact HO_262000.out) (Kd.N_base ho0) hb); have n1_ := Aside0.mk (Kd.N_lower (Kd.N_mono (ok' := fun k_ => some k_ ≠ (.slice Ao10 t262.length co10 : Value).ownBlock ∧ k_ ≠ gb261) ho0 (fun k_ hk_ => ⟨(Kd.fresh' (Kd.N_lt (by (with_reducible repeat (first | apply Kd.N_alloc | apply Kd.N_drewN | apply Kd.N_drew)); exact HO_262000.out)) k_ hk_), (Kd.freshB (g := gb261) (o := .cells #[.slice Ao10 t262.length co10] 24 (0, 0)) (by (with_reducible repeat (first | refine blk_drewN ?_ _ | refine blk_drew ?_ | refine blk_alloc ?_ _)); exact BK261.out) k_ hk_)⟩)) (below_size (by repeat (first | (with_reducible first | exact HB.out | apply below_alloc | apply pw_below_drewN | apply below_drew1 | refine below_set ?_ GE261.out) | exact HB.out)))); have n2_ := Aside0.mk (blk_below (g := gb261) (o := .cells #[.slice Ao10 t262.length co10] 24 (0, 0)) (by (with_reducible repeat (first | refine blk_drewN ?_ _ | refine blk_drew ?_ | refine blk_alloc ?_ _)); exact BK261.out) hb); have n3_ := Aside0.mk (below_step (by repeat (first | (with_reducible first | exact HB.out | apply below_alloc | apply pw_below_drewN | apply below_drew1 | refine below_set ?_ GE261.out) | exact HB.out)) hb); clear HO_262000; clear BK261; clear HB; have HO_262000 := n0_; have HO270 := n1_; have BK261 := n2_; have HB := n3_; clear n0_ n1_ n2_ n3_; (try clear hb); (try clear hb2); (try clear hk); (try clear hi); (try clear ho0)) | ((with_reducible refine gate_dst (N := 10) rfl ?_); refine box_event ?hg (N := 10) ?hd (cs := #[.slice none 0 0]) (t := 24) ?hr ?_; (case hd => rfl); (case hg => rfl); (case hr => first | (go_simp; done) | (go_simp; rfl)); intro gb272 hg w26 hbox hb; have n0_ := Aside0.mk (Kd.N_below (Kd.N_elderB (by (with_reducible repeat (first | apply Kd.N_alloc | apply Kd.N_drewN | apply Kd.N_drew)); exact HO_262000.out) gb272 (Nat.le_of_eq hg.symm)) hb); have n1_ := Aside0.mk (Kd.N_below (Kd.N_elderB (by (with_reducible repeat (first | apply Kd.N_alloc | apply Kd.N_drewN | apply Kd.N_drew)); exact HO270.out) gb272 (Nat.le_of_eq hg.symm)) hb); have n2_ := Aside0.mk (blk_below (g := gb261) (o := .cells #[.slice Ao10 t262.length co10] 24 (0, 0)) (by (with_reducible repeat (first | refine blk_drewN ?_ _ | refine blk_drew ?_ | refine blk_alloc ?_ _)); exact BK261.out) hb); have n3_ := Aside0.mk (below_step (by repeat (first | (with_reducible first | exact HB.out | apply below_alloc | apply pw_below_drewN | apply below_drew1 | refine below_set ?_ GE261.out) | exact HB.out)) hb); have n4_ := Aside0.mk (hbox); have n5_ := Aside0.mk ((by rw [hg]; exact (below_size (by repeat (first | (with_reducible first | exact HB.out | apply below_alloc | apply pw_below_drewN | apply below_drew1 | refine below_set ?_ GE261.out) | exact HB.out))) : w.heap.size ≤ gb272)); have n6_ := Aside0.mk ((by rw [hg]; exact (below_size (by repeat (first | (with_reducible first | exact HB.out | apply below_alloc | apply pw_below_drewN | apply below_drew1 | refine below_set ?_ GE261.out) | exact HB.out))) : w.heap.size ≤ gb272)); have n7_ := Aside0.mk ((by rw [hg]; exact Nat.ne_of_lt (blk_lt (g := gb261) (o := .cells #[.slice Ao10 t262.length co10] 24 (0, 0)) (by (with_reducible repeat (first | refine blk_drewN ?_ _ | refine blk_drew ?_ | refine blk_alloc ?_ _)); exact BK261.out)) : gb261 ≠ gb272)); have n8_ := Aside0.mk ((by rw [hg]; exact Nat.ne_of_gt (blk_lt (g := gb261) (o := .cells #[.slice Ao10 t262.length co10] 24 (0, 0)) (by (with_reducible repeat (first | refine blk_drewN ?_ _ | refine blk_drew ?_ | refine blk_alloc ?_ _)); exact BK261.out)) : gb272 ≠ gb261)); clear HO_262000; clear HO270; clear BK261; clear HB; have HO_262000 := n0_; have HO270 := n1_; have BK261 := n2_; have HB := n3_; have BK272 := n4_; have GW272 := n5_; have GE272 := n6_; have NB261_272 := n7_; have NB272_261 := n8_; clear n0_ n1_ n2_ n3_ n4_ n5_ n6_ n7_ n8_; clear hb hbox hg; obtain ⟨Ao27, co27, eo27⟩ := Kd.N_slice HO270.out; subst eo27; have hnb28 := NB272_261.out; have hnc28 := NB261_272.out; have hcz29_0 : w26.cell? ⟨gb272, 0, none⟩ = some (.slice none 0 0) := (blk_cell BK272.out 0).trans rfl; have hfz29_0 := blk_frozen BK272.out 0) | ((with_reducible refine gate_dst (N := 46) rfl ?_); refine Kd.R_lit (Kd.int .u8) _ 5 ?hg (N := 46) ?hd (xs := ([a2] : List Int)) (inner := [.int .u8 a2]) (ok := fun _ => True) (okp := fun _ => True) ?hr ?hp (fun _ hk => hk) trivial (Below.refl _ _) (Nat.le_refl _) (by simp) ?_; (case hd => rfl); (case hg => rfl); (case hr => first | (go_simp; done) | (go_simp; rfl)); (case hp => exact (Reps.one (show Kd.M (Kd.int .u8) _ _ _ a2 [.int .u8 a2] from rfl) (Reps.none _ _))); intro v274 w30 ho31 hb hg_ hnew_; clear hg_ hnew_; (first | rw [← Ny273.out] at ho31 | (simp only [Int.reduceToNat] at ho31; rw [← Ny273.out] at ho31)); have n0_ := Aside0.mk (Kd.N_elder' (by (with_reducible repeat (first | apply Kd.N_alloc | apply Kd.N_drewN | apply Kd.N_drew)); exact (Kd.N_mono (Kd.N_far (p := ⟨gb272, 0, none⟩) (Kd.N_mono HO_262000.out (fun k_ hk => (⟨hk, hk.2⟩ : _ ∧ k_ ≠ gb272))) (fun _ hk => hk.2) (.slice Ao27 t268.length co27)) (fun _ h_ => h_.1))) (Kd.R_base ho31) hb); have n1_ := Aside0.mk (Kd.N_elder' (by (with_reducible repeat (first | apply Kd.N_alloc | apply Kd.N_drewN | apply Kd.N_drew)); exact (Kd.N_mono (Kd.N_far (p := ⟨gb272, 0, none⟩) (Kd.N_mono HO270.out (fun k_ hk => (⟨hk, hk.2⟩ : _ ∧ k_ ≠ gb272))) (fun _ hk => hk.2) (.slice Ao27 t268.length co27)) (fun _ h_ => h_.1))) (Kd.R_base ho31) hb); have n2_ := Aside0.mk (Kd.R_lower ho31 (below_size (by repeat (first | (with_reducible first | exact HB.out | apply below_alloc | apply pw_below_drewN | apply below_drew1 | refine below_set ?_ GE261.out | refine below_set ?_ GE272.out) | exact HB.out)))); have n3_ := Aside0.mk (blk_below (g := gb261) (o := .cells #[.slice Ao10 t262.length co10] 24 (0, 0)) (by (with_reducible repeat (first | refine blk_drewN ?_ _ | refine blk_drew ?_ | refine blk_alloc ?_ _)); refine blk_far ?_ NB261_272.out _; (with_reducible repeat (first | refine blk_drewN ?_ _ | refine blk_drew ?_ | refine blk_alloc ?_ _)); exact BK261.out) hb); have n4_ := Aside0.mk (blk_below (g := gb272) (o := .cells #[.slice Ao27 t268.length co27] 24 (0, 0)) (by (with_reducible repeat (first | refine blk_drewN ?_ _ | refine blk_drew ?_ | refine blk_alloc ?_ _)); refine blk_put (cs := #[.slice none 0 0]) ?_ 0 _ rfl; (with_reducible repeat (first | refine blk_drewN ?_ _ | refine blk_drew ?_ | refine blk_alloc ?_ _)); exact BK272.out) hb); have n5_ := Aside0.mk (below_step (by repeat (first | (with_reducible first | exact HB.out | apply below_alloc | apply pw_below_drewN | apply below_drew1 | refine below_set ?_ GE261.out | refine below_set ?_ GE272.out) | exact HB.out)) hb); clear HO_262000; clear HO270; clear BK261; clear BK272; clear HB; have HO_262000 := n0_; have HO270 := n1_; have HO275 := n2_; have BK261 := n3_; have BK272 := n4_; have HB := n5_; clear n0_ n1_ n2_ n3_ n4_ n5_; clear hb ho31; have hcv32 := own_string (P := Try.prog) Try.underlying38 Try.underlying5 Try.underlying9 (Kd.own_of_R HO275.out)) | ((with_reducible refine gate_callee (f := 13) rfl ?_); refine goesL_ (some 49) rfl rfl Try.func13 (by kernel_rfl) rfl #[.string (t265 ++ (strOfNums y273))] rfl (by (try simp only [List.map_toArray, List.map_cons, List.map_nil]); first | done | rfl | (simp only [List.length_drop, List.length_take]; rfl)) ?_; (with_reducible refine (codec_Decode.calls kj5 (t265 ++ (strOfNums y273)) t276 t279 _ A23.out).mono ?_); rintro e w33 ⟨v277, rfl, ho0, hb⟩; refine ⟨_, rfl, ?_⟩; have n0_ := Aside0.mk (Kd.N_elder' (by (with_reducible repeat (first | apply Kd.N_alloc | apply Kd.N_drewN | apply Kd.N_drew)); exact HO_262000.out) (Kd.N_base ho0) hb); have n1_ := Aside0.mk (Kd.N_elder' (by (with_reducible repeat (first | apply Kd.N_alloc | apply Kd.N_drewN | apply Kd.N_drew)); exact HO270.out) (Kd.N_base ho0) hb); have n2_ := Aside0.mk (Kd.R_below (by (with_reducible repeat (first | apply Kd.R_alloc | apply Kd.R_drewN | apply Kd.R_drew)); exact HO275.out) hb); have n3_ := Aside0.mk (Kd.N_lower (Kd.N_mono (ok' := fun k_ => some k_ ≠ (.slice Ao10 t262.length co10 : Value).ownBlock ∧ some k_ ≠ (.slice Ao27 t268.length co27 : Value).ownBlock ∧ some k_ ≠ (v274 : Value).ownBlock ∧ k_ ≠ gb261 ∧ k_ ≠ gb272) ho0 (fun k_ hk_ => ⟨(Kd.fresh' (Kd.N_lt (by (with_reducible repeat (first | apply Kd.N_alloc | apply Kd.N_drewN | apply Kd.N_drew)); exact HO_262000.out)) k_ hk_), (Kd.fresh' (Kd.N_lt (by (with_reducible repeat (first | apply Kd.N_alloc | apply Kd.N_drewN | apply Kd.N_drew)); exact HO270.out)) k_ hk_), (Kd.fresh' (Kd.R_lt (by (with_reducible repeat (first | apply Kd.R_alloc | apply Kd.R_drewN | apply Kd.R_drew)); exact HO275.out)) k_ hk_), (Kd.freshB (g := gb261) (o := .cells #[.slice Ao10 t262.length co10] 24 (0, 0)) (by (with_reducible repeat (first | refine blk_drewN ?_ _ | refine blk_drew ?_ | refine blk_alloc ?_ _)); exact BK261.out) k_ hk_), (Kd.freshB (g := gb272) (o := .cells #[.slice Ao27 t268.length co27] 24 (0, 0)) (by (with_reducible repeat (first | refine blk_drewN ?_ _ | refine blk_drew ?_ | refine blk_alloc ?_ _)); exact BK272.out) k_ hk_)⟩)) (below_size (by repeat (first | (with_reducible first | exact HB.out | apply below_alloc | apply pw_below_drewN | apply below_drew1 | refine below_set ?_ GE261.out | refine below_set ?_ GE272.out) | exact HB.out)))); have n4_ := Aside0.mk (blk_below (g := gb261) (o := .cells #[.slice Ao10 t262.length co10] 24 (0, 0)) (by (with_reducible repeat (first | refine blk_drewN ?_ _ | refine blk_drew ?_ | refine blk_alloc ?_ _)); exact BK261.out) hb); have n5_ := Aside0.mk (blk_below (g := gb272) (o := .cells #[.slice Ao27 t268.length co27] 24 (0, 0)) (by (with_reducible repeat (first | refine blk_drewN ?_ _ | refine blk_drew ?_ | refine blk_alloc ?_ _)); exact BK272.out) hb); have n6_ := Aside0.mk (below_step (by repeat (first | (with_reducible first | exact HB.out | apply below_alloc | apply pw_below_drewN | apply below_drew1 | refine below_set ?_ GE261.out | refine below_set ?_ GE272.out) | exact HB.out)) hb); clear HO_262000; clear HO270; clear HO275; clear BK261; clear BK272; clear HB; have HO_262000 := n0_; have HO270 := n1_; have HO275 := n2_; have HO278 := n3_; have BK261 := n4_; have BK272 := n5_; have HB := n6_; clear n0_ n1_ n2_ n3_ n4_ n5_ n6_; (try clear hb); (try clear hb2); (try clear hk); (try clear hi); (try clear ho0)) | ((with_reducible refine gate_dst (N := 12) rfl ?_); refine box_event ?hg (N := 12) ?hd (cs := #[.slice none 0 0]) (t := 24) ?hr ?_; (case hd => rfl); (case hg => rfl); (case hr => first | (go_simp; done) | (go_simp; rfl)); intro gb280 hg w34 hbox hb; have n0_ := Aside0.mk (Kd.N_below (Kd.N_elderB (by (with_reducible repeat (first | apply Kd.N_alloc | apply Kd.N_drewN | apply Kd.N_drew)); exact HO_262000.out) gb280 (Nat.le_of_eq hg.symm)) hb); have n1_ := Aside0.mk (Kd.N_below (Kd.N_elderB (by (with_reducible repeat (first | apply Kd.N_alloc | apply Kd.N_drewN | apply Kd.N_drew)); exact HO270.out) gb280 (Nat.le_of_eq hg.symm)) hb); have n2_ := Aside0.mk (Kd.R_below (by (with_reducible repeat (first | apply Kd.R_alloc | apply Kd.R_drewN | apply Kd.R_drew)); exact HO275.out) hb); have n3_ := Aside0.mk (Kd.N_below (Kd.N_elderB (by (with_reducible repeat (first | apply Kd.N_alloc | apply Kd.N_drewN | apply Kd.N_drew)); exact HO278.out) gb280 (Nat.le_of_eq hg.symm)) hb); have n4_ := Aside0.mk (blk_below (g := gb261) (o := .cells #[.slice Ao10 t262.length co10] 24 (0, 0)) (by (with_reducible repeat (first | refine blk_drewN ?_ _ | refine blk_drew ?_ | refine blk_alloc ?_ _)); exact BK261.out) hb); have n5_ := Aside0.mk (blk_below (g := gb272) (o := .cells #[.slice Ao27 t268.length co27] 24 (0, 0)) (by (with_reducible repeat (first | refine blk_drewN ?_ _ | refine blk_drew ?_ | refine blk_alloc ?_ _)); exact BK272.out) hb); have n6_ := Aside0.mk (below_step (by repeat (first | (with_reducible first | exact HB.out | apply below_alloc | apply pw_below_drewN | apply below_drew1 | refine below_set ?_ GE261.out | refine below_set ?_ GE272.out) | exact HB.out)) hb); have n7_ := Aside0.mk (hbox); have n8_ := Aside0.mk ((by rw [hg]; exact (below_size (by repeat (first | (with_reducible first | exact HB.out | apply below_alloc | apply pw_below_drewN | apply below_drew1 | refine below_set ?_ GE261.out | refine below_set ?_ GE272.out) | exact HB.out))) : w.heap.size ≤ gb280)); have n9_ := Aside0.mk ((by rw [hg]; exact (below_size (by repeat (first | (with_reducible first | exact HB.out | apply below_alloc | apply pw_below_drewN | apply below_drew1 | refine below_set ?_ GE261.out | refine below_set ?_ GE272.out) | exact HB.out))) : w.heap.size ≤ gb280)); have n10_ := Aside0.mk ((by rw [hg]; exact Nat.ne_of_lt (blk_lt (g := gb261) (o := .cells #[.slice Ao10 t262.length co10] 24 (0, 0)) (by (with_reducible repeat (first | refine blk_drewN ?_ _ | refine blk_drew ?_ | refine blk_alloc ?_ _)); exact BK261.out)) : gb261 ≠ gb280)); have n11_ := Aside0.mk ((by rw [hg]; exact Nat.ne_of_gt (blk_lt (g := gb261) (o := .cells #[.slice Ao10 t262.length co10] 24 (0, 0)) (by (with_reducible repeat (first | refine blk_drewN ?_ _ | refine blk_drew ?_ | refine blk_alloc ?_ _)); exact BK261.out)) : gb280 ≠ gb261)); have n12_ := Aside0.mk ((by rw [hg]; exact Nat.ne_of_lt (blk_lt (g := gb272) (o := .cells #[.slice Ao27 t268.length co27] 24 (0, 0)) (by (with_reducible repeat (first | refine blk_drewN ?_ _ | refine blk_drew ?_ | refine blk_alloc ?_ _)); exact BK272.out)) : gb272 ≠ gb280)); have n13_ := Aside0.mk ((by rw [hg]; exact Nat.ne_of_gt (blk_lt (g := gb272) (o := .cells #[.slice Ao27 t268.length co27] 24 (0, 0)) (by (with_reducible repeat (first | refine blk_drewN ?_ _ | refine blk_drew ?_ | refine blk_alloc ?_ _)); exact BK272.out)) : gb280 ≠ gb272)); clear HO_262000; clear HO270; clear HO275; clear HO278; clear BK261; clear BK272; clear HB; have HO_262000 := n0_; have HO270 := n1_; have HO275 := n2_; have HO278 := n3_; have BK261 := n4_; have BK272 := n5_; have HB := n6_; have BK280 := n7_; have GW280 := n8_; have GE280 := n9_; have NB261_280 := n10_; have NB280_261 := n11_; have NB272_280 := n12_; have NB280_272 := n13_; clear n0_ n1_ n2_ n3_ n4_ n5_ n6_ n7_ n8_ n9_ n10_ n11_ n12_ n13_; clear hb hbox hg; obtain ⟨Ao35, co35, eo35⟩ := Kd.N_slice HO278.out; subst eo35; have hnb36 := NB280_261.out; have hnc36 := NB261_280.out; have hnb37 := NB280_272.out; have hnc37 := NB272_280.out; have hcz38_0 : w34.cell? ⟨gb280, 0, none⟩ = some (.slice none 0 0) := (blk_cell BK280.out 0).trans rfl; have hfz38_0 := blk_frozen BK280.out 0))
                (try simp only [Act.put, List.setIfInBounds_toArray, List.set_cons_zero, List.set_cons_succ])
                go_cut [57] (fun v57 wc => ∃ (kq : Nat) (x57_23 : Bool), v57 = .bool x57_23 ∧ Aside0 (tallowlaw21_CodecCut.j1 kq a2 t265 ji18 x57_23 t262 = some r) ∧ Aside0 (kq ≤ kj5) ∧ Aside0 (Kd.N k47 47 wc w.heap.size (fun k_ => some k_ ≠ ((.slice Ao27 t268.length co27) : Value).ownBlock ∧ some k_ ≠ ((.slice Ao35 t276.length co35) : Value).ownBlock ∧ k_ ≠ gb261 ∧ k_ ≠ gb272 ∧ k_ ≠ gb280) (.slice Ao10 t262.length co10) t262) ∧ Aside0 (Kd.N k47 47 wc w.heap.size (fun k_ => some k_ ≠ ((.slice Ao10 t262.length co10) : Value).ownBlock ∧ some k_ ≠ ((.slice Ao35 t276.length co35) : Value).ownBlock ∧ k_ ≠ gb261 ∧ k_ ≠ gb272 ∧ k_ ≠ gb280) (.slice Ao27 t268.length co27) t268) ∧ Aside0 (Kd.N k47 47 wc w.heap.size (fun k_ => some k_ ≠ ((.slice Ao10 t262.length co10) : Value).ownBlock ∧ some k_ ≠ ((.slice Ao27 t268.length co27) : Value).ownBlock ∧ k_ ≠ gb261 ∧ k_ ≠ gb272 ∧ k_ ≠ gb280) (.slice Ao35 t276.length co35) t276) ∧ Aside0 (wc.heap[gb261]? = some (.cells #[(.slice Ao10 t262.length co10)] 24 (0, 0))) ∧ Aside0 (wc.heap[gb272]? = some (.cells #[(.slice Ao27 t268.length co27)] 24 (0, 0))) ∧ Aside0 (wc.heap[gb280]? = some (.cells #[(.slice Ao35 t276.length co35)] 24 (0, 0))) ∧ Aside0 (Below w.heap.size w wc))
                case first =>
                  have H := HC24.out
                  clear HC24
                  by_cases c39 : t271 = 4
                  · rw [if_pos c39] at H
                    have c39b0 : (t271 == 4) = true := beq_iff_eq.mpr c39
                    have c39b1 : (t271 != 4) = false := bne_eq_false_iff_eq.mpr c39
                    clear c39
                    (first | rw [c39b0] | (simp only [i64_w, i32_w]; rw [c39b0]) | skip)
                    have H' := Aside0.mk H
                    clear H
                    go_wp2
                    go_meet
                    case rel => exact ⟨_, ((t279 != 4)), (by first | rfl | (simp; done) | (simp [*]; done)), H', ⟨by have := HJ5.out; first | omega | exact Nat.le_refl _⟩, ⟨by (with_reducible repeat (first | apply Kd.N_alloc | apply Kd.N_drewN | apply Kd.N_drew)); exact Kd.N_mono (Kd.N_far (p := ⟨gb280, 0, none⟩) (Kd.N_mono HO_262000.out (fun k_ hk => (⟨hk, hk.2⟩ : _ ∧ k_ ≠ gb280))) (fun _ hk => hk.2) (.slice Ao35 t276.length co35)) (fun _ hk => ⟨hk.1.1.1.1.1.2, ⟨hk.1.1.2, ⟨hk.1.1.1.1.1.1, ⟨hk.1.1.1.1.2, hk.1.2⟩⟩⟩⟩)⟩, ⟨by (with_reducible repeat (first | apply Kd.N_alloc | apply Kd.N_drewN | apply Kd.N_drew)); exact Kd.N_mono (Kd.N_far (p := ⟨gb280, 0, none⟩) (Kd.N_mono HO270.out (fun k_ hk => (⟨hk, hk.2⟩ : _ ∧ k_ ≠ gb280))) (fun _ hk => hk.2) (.slice Ao35 t276.length co35)) (fun _ hk => ⟨hk.1.1.1.1.1.1, ⟨hk.1.1.2, ⟨hk.1.1.1.1.1.2, ⟨hk.1.1.1.1.2, hk.1.2⟩⟩⟩⟩)⟩, ⟨by (with_reducible repeat (first | apply Kd.N_alloc | apply Kd.N_drewN | apply Kd.N_drew)); exact Kd.N_mono (Kd.N_far (p := ⟨gb280, 0, none⟩) (Kd.N_mono HO278.out (fun k_ hk => (⟨hk, hk.2⟩ : _ ∧ k_ ≠ gb280))) (fun _ hk => hk.2) (.slice Ao35 t276.length co35)) (fun _ hk => ⟨hk.1.1.1, ⟨hk.1.1.2.1, ⟨hk.1.1.2.2.2.1, ⟨hk.1.1.2.2.2.2, hk.1.2⟩⟩⟩⟩)⟩, ⟨by (with_reducible repeat (first | refine blk_drewN ?_ _ | refine blk_drew ?_ | refine blk_alloc ?_ _)); refine blk_far ?_ NB261_280.out _; (with_reducible repeat (first | refine blk_drewN ?_ _ | refine blk_drew ?_ | refine blk_alloc ?_ _)); exact BK261.out⟩, ⟨by (with_reducible repeat (first | refine blk_drewN ?_ _ | refine blk_drew ?_ | refine blk_alloc ?_ _)); refine blk_far ?_ NB272_280.out _; (with_reducible repeat (first | refine blk_drewN ?_ _ | refine blk_drew ?_ | refine blk_alloc ?_ _)); exact BK272.out⟩, ⟨by (with_reducible repeat (first | refine blk_drewN ?_ _ | refine blk_drew ?_ | refine blk_alloc ?_ _)); refine blk_put (cs := #[.slice none 0 0]) ?_ 0 _ rfl; (with_reducible repeat (first | refine blk_drewN ?_ _ | refine blk_drew ?_ | refine blk_alloc ?_ _)); exact BK280.out⟩, ⟨by repeat (first | (with_reducible first | exact HB.out | apply below_alloc | apply pw_below_drewN | apply below_drew1 | refine below_set ?_ GE261.out | refine below_set ?_ GE272.out | refine below_set ?_ GE280.out) | exact HB.out)⟩⟩
                  · rw [if_neg c39] at H
                    have c39b0 : (t271 == 4) = false := beq_eq_false_iff_ne.mpr c39
                    have c39b1 : (t271 != 4) = true := bne_iff_ne.mpr c39
                    (first | rw [c39b0] | (simp only [i64_w, i32_w]; rw [c39b0]) | skip)
                    have H' := Aside0.mk H
                    clear H
                    go_wp2
                    go_meet
                    case rel => exact ⟨_, (true), (by first | rfl | (simp; done) | (simp [*]; done)), H', ⟨by have := HJ5.out; first | omega | exact Nat.le_refl _⟩, ⟨by (with_reducible repeat (first | apply Kd.N_alloc | apply Kd.N_drewN | apply Kd.N_drew)); exact Kd.N_mono (Kd.N_far (p := ⟨gb280, 0, none⟩) (Kd.N_mono HO_262000.out (fun k_ hk => (⟨hk, hk.2⟩ : _ ∧ k_ ≠ gb280))) (fun _ hk => hk.2) (.slice Ao35 t276.length co35)) (fun _ hk => ⟨hk.1.1.1.1.1.2, ⟨hk.1.1.2, ⟨hk.1.1.1.1.1.1, ⟨hk.1.1.1.1.2, hk.1.2⟩⟩⟩⟩)⟩, ⟨by (with_reducible repeat (first | apply Kd.N_alloc | apply Kd.N_drewN | apply Kd.N_drew)); exact Kd.N_mono (Kd.N_far (p := ⟨gb280, 0, none⟩) (Kd.N_mono HO270.out (fun k_ hk => (⟨hk, hk.2⟩ : _ ∧ k_ ≠ gb280))) (fun _ hk => hk.2) (.slice Ao35 t276.length co35)) (fun _ hk => ⟨hk.1.1.1.1.1.1, ⟨hk.1.1.2, ⟨hk.1.1.1.1.1.2, ⟨hk.1.1.1.1.2, hk.1.2⟩⟩⟩⟩)⟩, ⟨by (with_reducible repeat (first | apply Kd.N_alloc | apply Kd.N_drewN | apply Kd.N_drew)); exact Kd.N_mono (Kd.N_far (p := ⟨gb280, 0, none⟩) (Kd.N_mono HO278.out (fun k_ hk => (⟨hk, hk.2⟩ : _ ∧ k_ ≠ gb280))) (fun _ hk => hk.2) (.slice Ao35 t276.length co35)) (fun _ hk => ⟨hk.1.1.1, ⟨hk.1.1.2.1, ⟨hk.1.1.2.2.2.1, ⟨hk.1.1.2.2.2.2, hk.1.2⟩⟩⟩⟩)⟩, ⟨by (with_reducible repeat (first | refine blk_drewN ?_ _ | refine blk_drew ?_ | refine blk_alloc ?_ _)); refine blk_far ?_ NB261_280.out _; (with_reducible repeat (first | refine blk_drewN ?_ _ | refine blk_drew ?_ | refine blk_alloc ?_ _)); exact BK261.out⟩, ⟨by (with_reducible repeat (first | refine blk_drewN ?_ _ | refine blk_drew ?_ | refine blk_alloc ?_ _)); refine blk_far ?_ NB272_280.out _; (with_reducible repeat (first | refine blk_drewN ?_ _ | refine blk_drew ?_ | refine blk_alloc ?_ _)); exact BK272.out⟩, ⟨by (with_reducible repeat (first | refine blk_drewN ?_ _ | refine blk_drew ?_ | refine blk_alloc ?_ _)); refine blk_put (cs := #[.slice none 0 0]) ?_ 0 _ rfl; (with_reducible repeat (first | refine blk_drewN ?_ _ | refine blk_drew ?_ | refine blk_alloc ?_ _)); exact BK280.out⟩, ⟨by repeat (first | (with_reducible first | exact HB.out | apply below_alloc | apply pw_below_drewN | apply below_drew1 | refine below_set ?_ GE261.out | refine below_set ?_ GE272.out | refine below_set ?_ GE280.out) | exact HB.out)⟩⟩
                case rest =>
                  clear HC24
                  try clear c1
                  try clear c2
                  try clear p2
                  try clear c3
                  try clear hcv3
                  try clear c6
                  try clear p6
                  try clear c9
                  try clear c10
                  try clear c12
                  try clear c13
                  try clear c13b0
                  try clear c13b1
                  try clear c14
                  try clear c17
                  try clear c17b0
                  try clear c17b1
                  try clear c19
                  try clear c19b0
                  try clear c19b1
                  try clear c20
                  try clear c20b0
                  try clear c20b1
                  try clear c22
                  try clear c22b0
                  try clear c22b1
                  try clear c22b2
                  try clear c28
                  try clear hcv32
                  try clear c36
                  try clear c37
                  try clear c39
                  try clear c39b0
                  try clear c39b1
                  try clear hcz11_0
                  try clear hcz29_0
                  try clear hcz38_0
                  try clear hcz8_0
                  try clear hfz11_0
                  try clear hfz29_0
                  try clear hfz38_0
                  try clear hfz8_0
                  try clear p2
                  obtain ⟨kq, x57_23, rfl, HA, HJ23, HO_262000, HO_273000, HO_281000, BK261, BK272, BK280, HB⟩ := hcut
                  cases kq with
                  | zero => exact absurd HA.out (by simp [tallowlaw21_CodecCut.j1])
                  | succ kj23 =>
                    have H := HA.out
                    clear HA
                    simp only [tallowlaw21_CodecCut.j1] at H
                    by_cases c40 : x57_23 = true
                    · subst c40
                      have H1 : (some false) = some r := by rw [if_pos rfl] at H; exact H
                      clear H
                      have H := H1
                      clear H1
                      obtain rfl := Option.some.inj H
                      go_wp2
                      go_ret
                      exact ⟨by first | rfl | (simp [errW_none, errW_some] <;> rfl) | (simp only [← hji18]; first | rfl | (simp [errW_none, errW_some] <;> rfl)) | (simp [*, errW_none, errW_some] <;> rfl), by repeat (first | (with_reducible first | exact HB.out | apply below_alloc | apply pw_below_drewN | apply below_drew1 | refine below_set ?_ GE261.out | refine below_set ?_ GE272.out | refine below_set ?_ GE280.out) | exact HB.out)⟩
                    · replace c40 := Bool.eq_false_iff.mpr c40
                      subst c40
                      simp only [Bool.false_eq_true, if_false, Option.bind_some] at H
                      by_cases c41 : 0 ≤ ji18
                      · rw [if_pos c41] at H
                        by_cases c42 : ji18 < ((bytesOf t265).length : Int)
                        · rw [if_pos c42] at H
                          obtain ⟨⟨t285, t288⟩, A440, H⟩ := Option.bind_eq_some_iff.mp H
                          have A44 := Aside0.mk A440
                          have HH := Aside0.mk H
                          clear H A440
                          rw [bytesOf_length] at c42
                          have HC262 := Aside0.mk (Kd.N_reads' HO_262000.out).2.2
                          have HCap := Aside0.mk (Kd.N_reads' HO_262000.out).2.1
                          clear HO_262000 HO_273000 HO_281000 BK272 BK280 HO264
                          have kb := fun W : World => print_bytes (P := Try.prog) 9 38 5 Try.underlying9 Try.underlying38 Try.underlying5 t265 W
                          go_upto_region 11 with (fail)
                          clear kb
                          obtain ⟨wB, hwB⟩ : ∃ x, x = Lib.bytesWorld wc 5 t265 := ⟨_, rfl⟩
                          obtain ⟨b, hb⟩ : ∃ x, x = wc.heap.size := ⟨_, rfl⟩
                          obtain ⟨cB, hcB⟩ : ∃ x, x = grownCap wc t265.size 0 5 := ⟨_, rfl⟩
                          rw [← hwB, ← hb, ← hcB]
                          have HRB := Aside0.mk (show RB wB b t265.size (bytesOf t265) from by rw [hwB, hb]; exact RB.new wc t265 (by have := HSZ22.out; omega))
                          have HBc : Below wc.heap.size wc wB := hwB ▸ bytes_below (Below.refl _ _) (Nat.le_refl _) 5 t265
                          have HNB := Aside0.mk (show gb261 ≠ b by have := blk_lt BK261.out; omega)
                          have HLB := Aside0.mk (show w.heap.size ≤ b by rw [hb]; exact HB.out.size)
                          have n1_ := Aside0.mk (blk_below BK261.out HBc)
                          have n2_ := Aside0.mk (below_step HB.out HBc)
                          have HBw := Aside0.mk (show Below b wc wB from hb ▸ HBc)
                          have HCw := Aside0.mk HC262.out
                          have HBq := Aside0.mk hb
                          clear BK261 HB HC262 HBc hb hcB hwB
                          have BK261 := n1_
                          have HB := n2_
                          clear n1_ n2_
                          have hjn : ji18.toNat < t265.size := by omega
                          have cj := HRB.out.cell _ hjn
                          have fj := HRB.out.free _ hjn
                          go_upto_region 12 with (fail)
                          obtain ⟨wC, hwC⟩ : ∃ x, x = wB.setCell ⟨b, ji18.toNat, none⟩ (.int .u8 a2) := ⟨_, rfl⟩
                          rw [← hwC]
                          obtain ⟨ys, hys⟩ : ∃ x, x = (bytesOf t265).set ji18.toNat a2 := ⟨_, rfl⟩
                          have HYS := Aside0.mk hys
                          rw [← hys] at A44 HH
                          have n0_ := Aside0.mk (show RB wC b t265.size ys from by rw [hwC, hys]; exact HRB.out.put _ _ hjn)
                          have n1_ := Aside0.mk (show wC.heap[gb261]? = some (.cells #[.slice Ao10 t262.length co10] 24 (0, 0)) from hwC ▸ blk_far BK261.out HNB.out _)
                          have n2_ := Aside0.mk (show Below w.heap.size w wC from hwC ▸ HB.out.setCell (p := ⟨b, ji18.toNat, none⟩) HLB.out _)
                          have n3_ := Aside0.mk (show k47.C wC Ao10 t262.length t262 from Kd.C_below HCw.out (HBq.out ▸ (show Below b wc wC from hwC ▸ HBw.out.setCell (p := ⟨b, ji18.toNat, none⟩) (Nat.le_refl _) _)))
                          clear HRB BK261 HB HCw HBw hwC hys cj fj HNB
                          have HRB := n0_
                          have BK261 := n1_
                          have HB := n2_
                          have HC262 := n3_
                          clear n0_ n1_ n2_ n3_
                          have ks := HRB.out.string (c := cB)
                          go_wp2_with fail
                          refine (codec_Decode.calls kj23 (strOfNums ys) t285 t288 _ A44.out).mono ?_
                          rintro e wD ⟨v5, rfl, hN5, hb5⟩
                          obtain ⟨A5, c5, rfl⟩ := Kd.N_slice hN5
                          clear ks
                          go_upto_region 13 with (fail)
                          obtain ⟨wF, hwF⟩ : ∃ x, x = wD.alloc (.cells #[.slice A5 t285.length c5] 24) := ⟨_, rfl⟩
                          rw [← hwF]
                          have hDF : Below wD.heap.size wD wF := hwF ▸ below_alloc (Below.refl _ _) _
                          have hbF : Below wC.heap.size wC wF := hb5.trans (hDF.mono hb5.size)
                          have BK15 := Aside0.mk (show wF.heap[wD.heap.size]? = some (.cells #[.slice A5 t285.length c5] 24 (0, 0)) from hwF ▸ blk_new _ _)
                          have HC285 := Aside0.mk (Kd.C_below (Kd.N_reads' hN5).2.2 hDF)
                          have HCap5 := Aside0.mk (Kd.N_reads' hN5).2.1
                          have n0_ := Aside0.mk (blk_below BK261.out hbF)
                          have n1_ := Aside0.mk (below_step HB.out hbF)
                          have n2_ := Aside0.mk (HRB.out.below hbF)
                          have n3_ := Aside0.mk (Kd.C_below HC262.out hbF)
                          clear hwF hDF hbF hN5 hb5 HRB BK261 HB HC262
                          have BK261 := n0_
                          have HB := n1_
                          have HRB := n2_
                          have HC262 := n3_
                          clear n0_ n1_ n2_ n3_
                          generalize wD.heap.size = g15 at BK15 ⊢
                          have H := HH.out
                          clear HH
                          by_cases c45 : t288 = 0
                          · rw [if_pos c45] at H
                            have c45b0 : (t288 == 0) = true := beq_iff_eq.mpr c45
                            have c45b1 : (t288 != 0) = false := bne_eq_false_iff_eq.mpr c45
                            clear c45
                            obtain ⟨t290, A460, H⟩ := Option.bind_eq_some_iff.mp H
                            have A46 := Aside0.mk A460
                            clear A460
                            by_cases c47 : (t290 == ((strOfNums ys).toList == t265.toList)) = true
                            · rw [if_pos c47] at H
                              have c47b0 : (t290 == ((strOfNums ys).toList == t265.toList)) = true := c47
                              (try (have c47b1 : decide (t290 = ((strOfNums ys).toList == t265.toList)) = true := by simpa using c47))
                              (try (have c47b2 : (t290 == ((strOfNums ys).toList == t265.toList)) = true := by simpa using c47))
                              clear c47
                              obtain ⟨t291, A480, H⟩ := Option.bind_eq_some_iff.mp H
                              obtain rfl := Option.some.inj H
                              have A48 := Aside0.mk A480
                              clear A480 H
                              have n1_ := Aside0.mk (blk_drew BK261.out)
                              have n2_ := Aside0.mk (blk_drew BK15.out)
                              have n3_ := Aside0.mk (below_drew1 HB.out)
                              have n4_ := Aside0.mk (RB.below HRB.out (below_drew (Below.refl _ _)))
                              have n5_ := Aside0.mk (Kd.C_drew HC262.out)
                              have n6_ := Aside0.mk (Kd.C_drew HC285.out)
                              clear BK261 BK15 HB HRB HC262 HC285
                              have BK261 := n1_
                              have BK15 := n2_
                              have HB := n3_
                              have HRB := n4_
                              have HC262 := n5_
                              have HC285 := n6_
                              clear n1_ n2_ n3_ n4_ n5_ n6_
                              refine start_ (n := 16) (S := fun w' => w'.cell? ⟨gb261, 0, none⟩ = some (.slice Ao10 t262.length co10) ∧ w'.cell? ⟨g15, 0, none⟩ = some (.slice A5 t285.length c5) ∧ RB w' b t265.size ys) (ds := []) #[false, false, false, false, false, false, false, false, false, false, false, false, false, false, false, false] (by kernel_rfl) rfl rfl ⟨(blk_cell BK261.out 0).trans rfl, (blk_cell BK15.out 0).trans rfl, HRB.out⟩ (fun hHeld => ?_); refine with_tabW tallowlaw21_CodecCut.tab13 tallowlaw21_CodecCut.bits13 (fun HT_ HW_ => ?_)
                              generalize wF.drew = w8 at BK261 BK15 HB HRB HC262 HC285 hHeld ⊢
                              refine pure_ (i := 0) (N := some 70) (v := ?_) (a' := ?_) #[true, false, false, false, false, false, false, false, false, false, false, false, false, false, false, false] rfl rfl (any_of HT_.out (by kernel_rfl)) (fun _ _ _ h => h) (Or.inl ⟨by rfl, ?_⟩) ?_ ?_
                              rotate_left
                              · intro w'
                                go_simp
                                with_reducible rfl
                              rotate_left
                              · simp only [Act.put, List.setIfInBounds_toArray, List.set_cons_zero, List.set_cons_succ, i64_w, i32_w]
                                rfl
                              refine pure_ (i := 1) (N := some 71) (v := ?_) (a' := ?_) #[true, true, false, false, false, false, false, false, false, false, false, false, false, false, false, false] rfl rfl (any_of HT_.out (by kernel_rfl)) (fun _ _ _ h => h) (Or.inl ⟨by rfl, ?_⟩) ?_ ?_
                              rotate_left
                              · intro w'
                                go_simp
                                with_reducible rfl
                              rotate_left
                              · simp only [Act.put, List.setIfInBounds_toArray, List.set_cons_zero, List.set_cons_succ, i64_w, i32_w]
                                rfl
                              refine pure_ (i := 2) (N := some 72) (v := ?_) (a' := ?_) #[true, true, true, false, false, false, false, false, false, false, false, false, false, false, false, false] rfl rfl (any_of HT_.out (by kernel_rfl)) (fun _ _ _ h => h) (Or.inl ⟨by rfl, ?_⟩) ?_ ?_
                              rotate_left
                              · intro w'
                                go_simp
                                with_reducible rfl
                              rotate_left
                              · simp only [Act.put, List.setIfInBounds_toArray, List.set_cons_zero, List.set_cons_succ, i64_w, i32_w]
                                rfl
                              refine pure_ (i := 6) (N := some 76) (v := ?_) (a' := ?_) #[true, true, true, false, false, false, true, false, false, false, false, false, false, false, false, false] rfl rfl (any_of HT_.out (by kernel_rfl)) (fun _ _ _ h => h) (Or.inl ⟨by rfl, ?_⟩) ?_ ?_
                              rotate_left
                              · intro w'
                                go_simp
                                with_reducible rfl
                              rotate_left
                              · simp only [Act.put, List.setIfInBounds_toArray, List.set_cons_zero, List.set_cons_succ, i64_w, i32_w]
                                rfl
                              refine take_ (i := 7) (N := some 77) (v := ?_) (a' := ?_) #[true, true, true, false, false, false, true, true, false, false, false, false, false, false, false, false] rfl rfl (take_ofW HT_.out HW_.out (by kernel_rfl)) (fun _ _ _ h => h) (Or.inl ⟨by rfl, ?_⟩) hHeld ?_ ?_
                              rotate_left
                              · rintro w' ⟨s0, s1, s2⟩
                                have s3 := s2.string (c := cB)
                                go_simp
                                with_reducible rfl
                              rotate_left
                              · simp only [Act.put, List.setIfInBounds_toArray, List.set_cons_zero, List.set_cons_succ, i64_w, i32_w]
                                rfl
                              refine pure_ (i := 8) (N := some 78) (v := ?_) (a' := ?_) #[true, true, true, false, false, false, true, true, true, false, false, false, false, false, false, false] rfl rfl (any_of HT_.out (by kernel_rfl)) (fun _ _ _ h => h) (Or.inl ⟨by rfl, ?_⟩) ?_ ?_
                              rotate_left
                              · intro w'
                                go_simp
                                with_reducible rfl
                              rotate_left
                              · simp only [Act.put, List.setIfInBounds_toArray, List.set_cons_zero, List.set_cons_succ, i64_w, i32_w]
                                rfl
                              refine pure_ (i := 9) (N := some 79) (v := ?_) (a' := ?_) #[true, true, true, false, false, false, true, true, true, true, false, false, false, false, false, false] rfl rfl (any_of HT_.out (by kernel_rfl)) (fun _ _ _ h => h) (Or.inl ⟨by rfl, ?_⟩) ?_ ?_
                              rotate_left
                              · intro w'
                                go_simp
                                with_reducible rfl
                              rotate_left
                              · simp only [Act.put, List.setIfInBounds_toArray, List.set_cons_zero, List.set_cons_succ, i64_w, i32_w]
                                rfl
                              refine take_ (i := 3) (N := some 73) (v := ?_) (a' := ?_) #[true, true, true, true, false, false, true, true, true, true, false, false, false, false, false, false] rfl rfl (take_ofW HT_.out HW_.out (by kernel_rfl)) (fun _ _ _ h => h) (Or.inl ⟨by rfl, ?_⟩) hHeld ?_ ?_
                              rotate_left
                              · rintro w' ⟨s0, s1, s2⟩
                                go_simp
                                with_reducible rfl
                              rotate_left
                              · simp only [Act.put, List.setIfInBounds_toArray, List.set_cons_zero, List.set_cons_succ, i64_w, i32_w]
                                rfl
                              refine take_ (i := 4) (N := some 74) (v := ?_) (a' := ?_) #[true, true, true, true, true, false, true, true, true, true, false, false, false, false, false, false] rfl rfl (take_ofW HT_.out HW_.out (by kernel_rfl)) (fun _ _ _ h => h) (Or.inl ⟨by rfl, ?_⟩) hHeld ?_ ?_
                              rotate_left
                              · rintro w' ⟨s0, s1, s2⟩
                                go_simp
                                with_reducible rfl
                              rotate_left
                              · simp only [Act.put, List.setIfInBounds_toArray, List.set_cons_zero, List.set_cons_succ, i64_w, i32_w]
                                rfl
                              refine one_ (i := 5) (N := some 75) #[true, true, true, true, true, true, true, true, true, true, false, false, false, false, false, false] rfl rfl (one_of HT_.out (by kernel_rfl)) (by decide) (fun K hK => ?_)
                              refine goes_ Try.func17 (by kernel_rfl) rfl #[.agg #[.slice Ao10 t262.length co10], .agg #[.slice A5 t285.length c5]] (by rfl) rfl rfl (by (try simp only [List.map_toArray, List.map_cons, List.map_nil]); first | done | rfl | (simp only [List.length_drop, List.length_take]; rfl)) ?_
                              with_reducible refine (code_Same.calls kj23 _ _ t262 _ _ t285 t290 _ HC262.out HCap.out HC285.out HCap5.out A46.out).mono ?_
                              rintro e w9 ⟨rfl, hb⟩
                              refine ⟨_, rfl, ?_⟩
                              have n1_ := Aside0.mk (blk_below BK261.out hb)
                              have n2_ := Aside0.mk (blk_below BK15.out hb)
                              have n3_ := Aside0.mk (below_step HB.out hb)
                              have n4_ := Aside0.mk (RB.below HRB.out hb)
                              clear BK261 BK15 HB HRB HC262 HC285 hb
                              have BK261 := n1_
                              have BK15 := n2_
                              have HB := n3_
                              have HRB := n4_
                              clear n1_ n2_ n3_ n4_
                              refine hK.out _ _ ⟨(blk_cell BK261.out 0).trans rfl, (blk_cell BK15.out 0).trans rfl, HRB.out⟩ (fun hHeld => ?_)
                              clear hK K
                              refine norm_ (a' := ?_) ?_ ?_
                              rotate_left
                              · show Act.put _ (some 75) _ = _
                                simp only [Act.put, List.setIfInBounds_toArray, List.set_cons_zero, List.set_cons_succ, i64_w, i32_w]
                                rfl
                              refine pure_ (i := 10) (N := some 80) (v := ?_) (a' := ?_) #[true, true, true, true, true, true, true, true, true, true, true, false, false, false, false, false] rfl rfl (any_of HT_.out (by kernel_rfl)) (fun _ _ _ h => h) (Or.inl ⟨by rfl, ?_⟩) ?_ ?_
                              rotate_left
                              · intro w'
                                go_simp
                                with_reducible rfl
                              rotate_left
                              · simp only [Act.put, List.setIfInBounds_toArray, List.set_cons_zero, List.set_cons_succ, i64_w, i32_w]
                                rfl
                              refine pure_ (i := 11) (N := some 81) (v := ?_) (a' := ?_) #[true, true, true, true, true, true, true, true, true, true, true, true, false, false, false, false] rfl rfl (any_of HT_.out (by kernel_rfl)) (fun _ _ _ h => h) (Or.inl ⟨by rfl, ?_⟩) ?_ ?_
                              rotate_left
                              · intro w'
                                go_simp
                                with_reducible rfl
                              rotate_left
                              · simp only [Act.put, List.setIfInBounds_toArray, List.set_cons_zero, List.set_cons_succ, i64_w, i32_w]
                                rfl
                              refine pure_ (i := 12) (N := some 82) (v := ?_) (a' := ?_) #[true, true, true, true, true, true, true, true, true, true, true, true, true, false, false, false] rfl rfl (any_of HT_.out (by kernel_rfl)) (fun _ _ _ h => h) (Or.inl ⟨by rfl, ?_⟩) ?_ ?_
                              rotate_left
                              · intro w'
                                go_simp
                                with_reducible rfl
                              rotate_left
                              · simp only [Act.put, List.setIfInBounds_toArray, List.set_cons_zero, List.set_cons_succ, i64_w, i32_w]
                                rfl
                              refine one_ (i := 13) (N := some 83) #[true, true, true, true, true, true, true, true, true, true, true, true, true, true, false, false] rfl rfl (one_of HT_.out (by kernel_rfl)) (by decide) (fun K hK => ?_)
                              refine goes_ Try.func12 (by kernel_rfl) rfl #[] (by rfl) rfl rfl (by (try simp only [List.map_toArray, List.map_cons, List.map_nil]); first | done | rfl | (simp only [List.length_drop, List.length_take]; rfl)) ?_
                              with_reducible refine (tallowlaw21_works.calls kj23 t291 _ A48.out).mono ?_
                              rintro e w10 ⟨rfl, hb⟩
                              refine ⟨_, rfl, ?_⟩
                              have n1_ := Aside0.mk (blk_below BK261.out hb)
                              have n2_ := Aside0.mk (blk_below BK15.out hb)
                              have n3_ := Aside0.mk (below_step HB.out hb)
                              have n4_ := Aside0.mk (RB.below HRB.out hb)
                              clear BK261 BK15 HB HRB hb
                              have BK261 := n1_
                              have BK15 := n2_
                              have HB := n3_
                              have HRB := n4_
                              clear n1_ n2_ n3_ n4_
                              refine hK.out _ _ ⟨(blk_cell BK261.out 0).trans rfl, (blk_cell BK15.out 0).trans rfl, HRB.out⟩ (fun hHeld => ?_)
                              clear hK K
                              refine norm_ (a' := ?_) ?_ ?_
                              rotate_left
                              · show Act.put _ (some 83) _ = _
                                simp only [Act.put, List.setIfInBounds_toArray, List.set_cons_zero, List.set_cons_succ, i64_w, i32_w]
                                rfl
                              refine pure_ (i := 14) (N := some 84) (v := ?_) (a' := ?_) #[true, true, true, true, true, true, true, true, true, true, true, true, true, true, true, false] rfl rfl (any_of HT_.out (by kernel_rfl)) (fun _ _ _ h => h) (Or.inl ⟨by rfl, ?_⟩) ?_ ?_
                              rotate_left
                              · intro w'
                                go_simp
                                with_reducible rfl
                              rotate_left
                              · simp only [Act.put, List.setIfInBounds_toArray, List.set_cons_zero, List.set_cons_succ, i64_w, i32_w]
                                rfl
                              refine pure_ (i := 15) (N := some 6) (v := ?_) (a' := ?_) #[true, true, true, true, true, true, true, true, true, true, true, true, true, true, true, true] rfl rfl (any_of HT_.out (by kernel_rfl)) (fun _ _ _ h => h) (Or.inl ⟨by rfl, ?_⟩) ?_ ?_
                              rotate_left
                              · intro w'
                                go_simp
                                with_reducible rfl
                              rotate_left
                              · simp only [Act.put, List.setIfInBounds_toArray, List.set_cons_zero, List.set_cons_succ, i64_w, i32_w]
                                rfl
                              refine done_ (done_of HT_.out (by kernel_rfl)) ?_
                              try go_wp2
                              go_ret
                              exact ⟨rfl, HB.out⟩
                            · rw [if_neg c47] at H; cases H
                          · rw [if_neg c45] at H
                            have c45b0 : (t288 == 0) = false := beq_eq_false_iff_ne.mpr c45
                            have c45b1 : (t288 != 0) = true := bne_iff_ne.mpr c45
                            obtain ⟨t291, A480, H⟩ := Option.bind_eq_some_iff.mp H
                            obtain rfl := Option.some.inj H
                            have A48 := Aside0.mk A480
                            clear A480 H
                            have n1_ := Aside0.mk (blk_drew BK261.out)
                            have n2_ := Aside0.mk (blk_drew BK15.out)
                            have n3_ := Aside0.mk (below_drew1 HB.out)
                            have n4_ := Aside0.mk (RB.below HRB.out (below_drew (Below.refl _ _)))
                            have n5_ := Aside0.mk (Kd.C_drew HC262.out)
                            have n6_ := Aside0.mk (Kd.C_drew HC285.out)
                            clear BK261 BK15 HB HRB HC262 HC285
                            have BK261 := n1_
                            have BK15 := n2_
                            have HB := n3_
                            have HRB := n4_
                            have HC262 := n5_
                            have HC285 := n6_
                            clear n1_ n2_ n3_ n4_ n5_ n6_
                            refine start_ (n := 16) (S := fun w' => w'.cell? ⟨gb261, 0, none⟩ = some (.slice Ao10 t262.length co10) ∧ w'.cell? ⟨g15, 0, none⟩ = some (.slice A5 t285.length c5) ∧ RB w' b t265.size ys) (ds := []) #[false, false, false, false, false, false, false, false, false, false, false, false, false, false, false, false] (by kernel_rfl) rfl rfl ⟨(blk_cell BK261.out 0).trans rfl, (blk_cell BK15.out 0).trans rfl, HRB.out⟩ (fun hHeld => ?_); refine with_tabW tallowlaw21_CodecCut.tab13 tallowlaw21_CodecCut.bits13 (fun HT_ HW_ => ?_)
                            generalize wF.drew = w8 at BK261 BK15 HB HRB HC262 HC285 hHeld ⊢
                            refine pure_ (i := 0) (N := some 70) (v := ?_) (a' := ?_) #[true, false, false, false, false, false, false, false, false, false, false, false, false, false, false, false] rfl rfl (any_of HT_.out (by kernel_rfl)) (fun _ _ _ h => h) (Or.inl ⟨by rfl, ?_⟩) ?_ ?_
                            rotate_left
                            · intro w'
                              go_simp
                              with_reducible rfl
                            rotate_left
                            · simp only [Act.put, List.setIfInBounds_toArray, List.set_cons_zero, List.set_cons_succ, i64_w, i32_w]
                              rfl
                            refine pure_ (i := 1) (N := some 71) (v := ?_) (a' := ?_) #[true, true, false, false, false, false, false, false, false, false, false, false, false, false, false, false] rfl rfl (any_of HT_.out (by kernel_rfl)) (fun _ _ _ h => h) (Or.inl ⟨by rfl, ?_⟩) ?_ ?_
                            rotate_left
                            · intro w'
                              go_simp
                              with_reducible rfl
                            rotate_left
                            · simp only [Act.put, List.setIfInBounds_toArray, List.set_cons_zero, List.set_cons_succ, i64_w, i32_w]
                              rfl
                            refine pure_ (i := 2) (N := some 72) (v := ?_) (a' := ?_) #[true, true, true, false, false, false, false, false, false, false, false, false, false, false, false, false] rfl rfl (any_of HT_.out (by kernel_rfl)) (fun _ _ _ h => h) (Or.inl ⟨by rfl, ?_⟩) ?_ ?_
                            rotate_left
                            · intro w'
                              go_simp
                              with_reducible rfl
                            rotate_left
                            · simp only [Act.put, List.setIfInBounds_toArray, List.set_cons_zero, List.set_cons_succ, i64_w, i32_w]
                              rfl
                            refine pure_ (i := 3) (N := some 73) (v := undef) (a' := ?_) #[true, true, true, true, false, false, false, false, false, false, false, false, false, false, false, false] rfl rfl (any_of HT_.out (by kernel_rfl)) (fun _ _ _ h => h) (Or.inr ⟨by rfl, rfl⟩) ?_ ?_
                            rotate_left
                            · simp only [Act.put, List.setIfInBounds_toArray, List.set_cons_zero, List.set_cons_succ, i64_w, i32_w]
                              rfl
                            refine pure_ (i := 4) (N := some 74) (v := undef) (a' := ?_) #[true, true, true, true, true, false, false, false, false, false, false, false, false, false, false, false] rfl rfl (any_of HT_.out (by kernel_rfl)) (fun _ _ _ h => h) (Or.inr ⟨by rfl, rfl⟩) ?_ ?_
                            rotate_left
                            · simp only [Act.put, List.setIfInBounds_toArray, List.set_cons_zero, List.set_cons_succ, i64_w, i32_w]
                              rfl
                            refine pure_ (i := 5) (N := some 75) (v := undef) (a' := ?_) #[true, true, true, true, true, true, false, false, false, false, false, false, false, false, false, false] rfl rfl (any_of HT_.out (by kernel_rfl)) (fun _ _ _ h => h) (Or.inr ⟨by rfl, rfl⟩) ?_ ?_
                            rotate_left
                            · simp only [Act.put, List.setIfInBounds_toArray, List.set_cons_zero, List.set_cons_succ, i64_w, i32_w]
                              rfl
                            refine pure_ (i := 6) (N := some 76) (v := undef) (a' := ?_) #[true, true, true, true, true, true, true, false, false, false, false, false, false, false, false, false] rfl rfl (any_of HT_.out (by kernel_rfl)) (fun _ _ _ h => h) (Or.inr ⟨by rfl, rfl⟩) ?_ ?_
                            rotate_left
                            · simp only [Act.put, List.setIfInBounds_toArray, List.set_cons_zero, List.set_cons_succ, i64_w, i32_w]
                              rfl
                            refine pure_ (i := 7) (N := some 77) (v := undef) (a' := ?_) #[true, true, true, true, true, true, true, true, false, false, false, false, false, false, false, false] rfl rfl (any_of HT_.out (by kernel_rfl)) (fun _ _ _ h => h) (Or.inr ⟨by rfl, rfl⟩) ?_ ?_
                            rotate_left
                            · simp only [Act.put, List.setIfInBounds_toArray, List.set_cons_zero, List.set_cons_succ, i64_w, i32_w]
                              rfl
                            refine pure_ (i := 8) (N := some 78) (v := undef) (a' := ?_) #[true, true, true, true, true, true, true, true, true, false, false, false, false, false, false, false] rfl rfl (any_of HT_.out (by kernel_rfl)) (fun _ _ _ h => h) (Or.inr ⟨by rfl, rfl⟩) ?_ ?_
                            rotate_left
                            · simp only [Act.put, List.setIfInBounds_toArray, List.set_cons_zero, List.set_cons_succ, i64_w, i32_w]
                              rfl
                            refine pure_ (i := 9) (N := some 79) (v := undef) (a' := ?_) #[true, true, true, true, true, true, true, true, true, true, false, false, false, false, false, false] rfl rfl (any_of HT_.out (by kernel_rfl)) (fun _ _ _ h => h) (Or.inr ⟨by rfl, rfl⟩) ?_ ?_
                            rotate_left
                            · simp only [Act.put, List.setIfInBounds_toArray, List.set_cons_zero, List.set_cons_succ, i64_w, i32_w]
                              rfl
                            refine pure_ (i := 10) (N := some 80) (v := undef) (a' := ?_) #[true, true, true, true, true, true, true, true, true, true, true, false, false, false, false, false] rfl rfl (any_of HT_.out (by kernel_rfl)) (fun _ _ _ h => h) (Or.inr ⟨by rfl, rfl⟩) ?_ ?_
                            rotate_left
                            · simp only [Act.put, List.setIfInBounds_toArray, List.set_cons_zero, List.set_cons_succ, i64_w, i32_w]
                              rfl
                            refine pure_ (i := 11) (N := some 81) (v := ?_) (a' := ?_) #[true, true, true, true, true, true, true, true, true, true, true, true, false, false, false, false] rfl rfl (any_of HT_.out (by kernel_rfl)) (fun _ _ _ h => h) (Or.inl ⟨by rfl, ?_⟩) ?_ ?_
                            rotate_left
                            · intro w'
                              go_simp
                              with_reducible rfl
                            rotate_left
                            · simp only [Act.put, List.setIfInBounds_toArray, List.set_cons_zero, List.set_cons_succ, i64_w, i32_w]
                              rfl
                            refine pure_ (i := 12) (N := some 82) (v := ?_) (a' := ?_) #[true, true, true, true, true, true, true, true, true, true, true, true, true, false, false, false] rfl rfl (any_of HT_.out (by kernel_rfl)) (fun _ _ _ h => h) (Or.inl ⟨by rfl, ?_⟩) ?_ ?_
                            rotate_left
                            · intro w'
                              go_simp
                              with_reducible rfl
                            rotate_left
                            · simp only [Act.put, List.setIfInBounds_toArray, List.set_cons_zero, List.set_cons_succ, i64_w, i32_w]
                              rfl
                            refine one_ (i := 13) (N := some 83) #[true, true, true, true, true, true, true, true, true, true, true, true, true, true, false, false] rfl rfl (one_of HT_.out (by kernel_rfl)) (by decide) (fun K hK => ?_)
                            refine goes_ Try.func12 (by kernel_rfl) rfl #[] (by rfl) rfl rfl (by (try simp only [List.map_toArray, List.map_cons, List.map_nil]); first | done | rfl | (simp only [List.length_drop, List.length_take]; rfl)) ?_
                            with_reducible refine (tallowlaw21_works.calls kj23 t291 _ A48.out).mono ?_
                            rintro e w10 ⟨rfl, hb⟩
                            refine ⟨_, rfl, ?_⟩
                            have n1_ := Aside0.mk (blk_below BK261.out hb)
                            have n2_ := Aside0.mk (blk_below BK15.out hb)
                            have n3_ := Aside0.mk (below_step HB.out hb)
                            have n4_ := Aside0.mk (RB.below HRB.out hb)
                            clear BK261 BK15 HB HRB hb
                            have BK261 := n1_
                            have BK15 := n2_
                            have HB := n3_
                            have HRB := n4_
                            clear n1_ n2_ n3_ n4_
                            refine hK.out _ _ ⟨(blk_cell BK261.out 0).trans rfl, (blk_cell BK15.out 0).trans rfl, HRB.out⟩ (fun hHeld => ?_)
                            clear hK K
                            refine norm_ (a' := ?_) ?_ ?_
                            rotate_left
                            · show Act.put _ (some 83) _ = _
                              simp only [Act.put, List.setIfInBounds_toArray, List.set_cons_zero, List.set_cons_succ, i64_w, i32_w]
                              rfl
                            refine pure_ (i := 14) (N := some 84) (v := ?_) (a' := ?_) #[true, true, true, true, true, true, true, true, true, true, true, true, true, true, true, false] rfl rfl (any_of HT_.out (by kernel_rfl)) (fun _ _ _ h => h) (Or.inl ⟨by rfl, ?_⟩) ?_ ?_
                            rotate_left
                            · intro w'
                              go_simp
                              with_reducible rfl
                            rotate_left
                            · simp only [Act.put, List.setIfInBounds_toArray, List.set_cons_zero, List.set_cons_succ, i64_w, i32_w]
                              rfl
                            refine pure_ (i := 15) (N := some 6) (v := ?_) (a' := ?_) #[true, true, true, true, true, true, true, true, true, true, true, true, true, true, true, true] rfl rfl (any_of HT_.out (by kernel_rfl)) (fun _ _ _ h => h) (Or.inl ⟨by rfl, ?_⟩) ?_ ?_
                            rotate_left
                            · intro w'
                              go_simp
                              with_reducible rfl
                            rotate_left
                            · simp only [Act.put, List.setIfInBounds_toArray, List.set_cons_zero, List.set_cons_succ, i64_w, i32_w]
                              rfl
                            refine done_ (done_of HT_.out (by kernel_rfl)) ?_
                            try go_wp2
                            go_ret
                            exact ⟨rfl, HB.out⟩
                        · rw [if_neg c42] at H; cases H
                      · rw [if_neg c41] at H; cases H
              · rw [if_neg c22] at H
                exact absurd H (by simp)
            · rw [if_neg c20] at H
              exact absurd H (by simp)
          · rw [if_neg c19] at H
            exact absurd H (by simp)
end Go.Proofs.Ytkkgbbfojmnopaa.G
end
