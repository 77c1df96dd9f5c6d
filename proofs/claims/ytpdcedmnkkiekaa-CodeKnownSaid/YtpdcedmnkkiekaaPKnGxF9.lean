import Derived.Deep.RegionLaw
import Derived.Deep.Cut
import Derived.Shelf.Abstract
import Derived.Test.YtpdcedmnkkiekaaPKnKY
import Derived.Lib.Hide
set_option linter.unusedVariables false
set_option linter.unusedSimpArgs false
section
namespace Go.Proofs.Ytpdcedmnkkiekaa.G
open Go.Shelf Go.RowKit Go.Proofs.YtpdcedmnkkiekaaW.PrintWords Go.Proofs.YtpdcedmnkkiekaaW.PrintLast Go.Proofs.YtpdcedmnkkiekaaW.PrintMore
set_option linter.unusedVariables false
set_option linter.unusedSimpArgs false
set_option maxHeartbeats 20000000 in
set_option maxRecDepth 100000 in
theorem known_any (w : World) : Calls Try.prog 9 #[] w fun e w' => e = .returned (.bool true) ∧ Below w.heap.size w w' := by
  have hu28 := Try.underlying28
  have hu41 := Try.underlying41
  have hu26 := Try.underlying26
  go_enter Try.func9, Try.ntmps9
  go_upto_region 1 with (fail)
  go_cut [1] from 331 (fun v1 wx => v1 = .slice (some ⟨w.heap.size, 0, none⟩) 36 36 ∧ KA w wx)
  case first =>
    go_wp2_with fail
    go_meet
    case rel => exact ⟨rfl, below_alloc (Below.refl _ _) _, (blk_new _ _).trans (congrArg (fun x => some (Obj.cells x 33 (0, 0))) okI_flat)⟩
  obtain ⟨rfl, hA⟩ := hcut
  have HA := Aside0.mk hA
  clear hA
  go_upto_region 2 with (fail)
  go_cut [2] from 331 (fun v2 wx => ∃ gb, v2 = .slice (some ⟨gb, 0, none⟩) 39 39 ∧ KB w gb wx)
  case first =>
    go_wp2_with fail
    go_meet
    case rel => exact ⟨_, rfl, below_alloc HA.out.1 _, blk_alloc HA.out.2 _, blk_lt HA.out.2, (blk_new _ _).trans (congrArg (fun x => some (Obj.cells x 33 (0, 0))) badI_flat)⟩
  clear HA
  obtain ⟨gb, rfl, hB⟩ := hcut
  have HB := Aside0.mk hB
  clear hB
  go_step
  go_step
  go_cut [0] from 331 (fun _ wx => Below w.heap.size w wx)
  case first =>
    go_wp2_with fail
    go_loopw [3] (fun v3 wr => ∃ i : Nat, v3 = .int .i64 i ∧ i ≤ 75 ∧ Aside0 (KB w gb wr)) (fun v3 _ => 75 - (intOf v3).toNat)
    case atStart => exact ⟨0, rfl, by omega, HB⟩
    case round =>
      clear HB
      obtain ⟨i, rfl, hi, HB⟩ := hrel
      by_cases hlt : i < 75
      · obtain ⟨hkf, hkz⟩ := knR_f hlt
        have HKF := Aside0.mk hkf
        have HKZ := Aside0.mk hkz
        clear hkf hkz
        go_upto_if 111 with (fail)
        go_cut [] from 331 (fun wx => wx = wr.alloc (.cells #[.int .i64 (knI i).f0, .int .i64 (knI i).f1, .int .i64 (knI i).f2] 33))
        case first =>
          clear HKF HKZ
          by_cases h36 : i < 36
          · have y0 : ∀ o, (wr.alloc o).cell? ⟨w.heap.size, i * 3, none⟩ = some (.int .i64 (knI i).f0) := fun o => ((HB.out.below (below_alloc (Below.refl _ _) o)).ok h36).1
            have y1 : ∀ o, (wr.alloc o).cell? ⟨w.heap.size, i * 3 + 1, none⟩ = some (.int .i64 (knI i).f1) := fun o => ((HB.out.below (below_alloc (Below.refl _ _) o)).ok h36).2.1
            have y2 : ∀ o, (wr.alloc o).cell? ⟨w.heap.size, i * 3 + 2, none⟩ = some (.int .i64 (knI i).f2) := fun o => ((HB.out.below (below_alloc (Below.refl _ _) o)).ok h36).2.2
            have hb36 : decide (i < 36) = true := decide_eq_true h36
            have hc36 : decide ((i : Int) < 36) = true := decide_eq_true (by omega)
            go_wp2_with fail
            go_meet
            case rel => rfl
          · obtain ⟨m, hm⟩ : ∃ m, i = 36 + m := ⟨i - 36, by omega⟩
            subst hm
            have hm : m < 39 := by omega
            have y0 : ∀ o, (wr.alloc o).cell? ⟨gb, m * 3, none⟩ = some (.int .i64 (knI (36 + m)).f0) := fun o => ((HB.out.below (below_alloc (Below.refl _ _) o)).bad hm).1
            have y1 : ∀ o, (wr.alloc o).cell? ⟨gb, m * 3 + 1, none⟩ = some (.int .i64 (knI (36 + m)).f1) := fun o => ((HB.out.below (below_alloc (Below.refl _ _) o)).bad hm).2.1
            have y2 : ∀ o, (wr.alloc o).cell? ⟨gb, m * 3 + 2, none⟩ = some (.int .i64 (knI (36 + m)).f2) := fun o => ((HB.out.below (below_alloc (Below.refl _ _) o)).bad hm).2.2
            have hb36 : decide (36 + m < 36) = false := decide_eq_false (by omega)
            have hc36 : decide (((36 + m : Nat) : Int) < 36) = false := decide_eq_false (by omega)
            have hi36 : ((36 + m : Nat) : Int) - 36 = (m : Int) := by omega
            go_wp2_with fail
            go_meet
            case rel => rfl
        case rest =>
          subst hcut
          go_wp2_with fail
          refine (one_exact 3 _ _ 2 2 rfl _).mono ?_
          rintro e w' ⟨rfl, rfl⟩
          go_upto_region 12 with (fail)
          have hwz := HB.out.1.size
          have HL : Aside0 (LpAt w gb (knI i) (wr.heap.size + 1 + 1 + 1 + 1) (wr.heap.size + 1 + 1 + 1) (wr.heap.size + 1 + 1 + 1 + 1 + 1) (wr.heap.size + 1) ((((((wr.alloc (Obj.cells #[.int .i64 (knI i).f0, .int .i64 (knI i).f1, .int .i64 (knI i).f2] 33)).alloc (Obj.cells #[.int .i64 (knI i).f0, .int .i64 (knI i).f1, .int .i64 (knI i).f2, .int .i64 0, .int .i64 0, .int .i64 0] 33)).alloc (Obj.cells #[.slice (some ⟨wr.heap.size + 1 + 1 + 1, 0, none⟩) 1 1] 28)).alloc (Obj.cells #[.int .i64 0, .int .i64 3, .slice none 0 0, .slice (some ⟨wr.heap.size + 1 + 1 + 1 + 1 + 1, 0, none⟩) 2 2, .slice (some ⟨wr.heap.size + 1, 0, none⟩) 2 2] 41)).alloc (Obj.cells #[.slice (some ⟨wr.heap.size + 1 + 1 + 1, 0, none⟩) 1 1] 28)).alloc (Obj.cells #[.int .i64 3, .int .i64 5, .string ⟨#[]⟩, .int .i64 5, .int .i64 0, .string ⟨#[120]⟩] 46))) := ⟨HB.out.below (by repeat (first | exact Below.refl _ _ | apply below_alloc)), (by repeat (first | exact blk_new' (by simp) | apply blk_alloc)), (by repeat (first | exact blk_new' (by simp) | apply blk_alloc)), (by repeat (first | exact blk_new' (by simp) | apply blk_alloc)), (by repeat (first | exact blk_new' (by simp) | apply blk_alloc)), by omega, by omega⟩
          clear HB hwz
          generalize ((((((wr.alloc (Obj.cells #[.int .i64 (knI i).f0, .int .i64 (knI i).f1, .int .i64 (knI i).f2] 33)).alloc (Obj.cells #[.int .i64 (knI i).f0, .int .i64 (knI i).f1, .int .i64 (knI i).f2, .int .i64 0, .int .i64 0, .int .i64 0] 33)).alloc (Obj.cells #[.slice (some ⟨wr.heap.size + 1 + 1 + 1, 0, none⟩) 1 1] 28)).alloc (Obj.cells #[.int .i64 0, .int .i64 3, .slice none 0 0, .slice (some ⟨wr.heap.size + 1 + 1 + 1 + 1 + 1, 0, none⟩) 2 2, .slice (some ⟨wr.heap.size + 1, 0, none⟩) 2 2] 41)).alloc (Obj.cells #[.slice (some ⟨wr.heap.size + 1 + 1 + 1, 0, none⟩) 1 1] 28)).alloc (Obj.cells #[.int .i64 3, .int .i64 5, .string ⟨#[]⟩, .int .i64 5, .int .i64 0, .string ⟨#[120]⟩] 46)) = W12 at *
          generalize wr.heap.size + 1 + 1 + 1 + 1 + 1 = bc at *
          generalize wr.heap.size + 1 + 1 + 1 + 1 = bx at *
          generalize wr.heap.size + 1 + 1 + 1 = r at *
          generalize wr.heap.size + 1 = bk at *
          have hF28 := field28
          have cv0 : W12.cell? ⟨bx, 0, none⟩ = some (.slice (some ⟨r, 0, none⟩) 1 1) := HL.out.cell
          have q1 : ∀ o1, (W12.alloc o1).cell? ⟨bx, 0, none⟩ = some (.slice (some ⟨r, 0, none⟩) 1 1) := fun o1 => (HL.out.below (by (repeat (first | exact Below.refl _ _ | apply below_drew | apply below_alloc)); done)).cell
          have q2 : ∀ o1 o2, ((W12.alloc o1).alloc o2).cell? ⟨bx, 0, none⟩ = some (.slice (some ⟨r, 0, none⟩) 1 1) := fun o1 o2 => (HL.out.below (by (repeat (first | exact Below.refl _ _ | apply below_drew | apply below_alloc)); done)).cell
          have q3 : ∀ o1 o2 o3, (((W12.alloc o1).alloc o2).alloc o3).cell? ⟨bx, 0, none⟩ = some (.slice (some ⟨r, 0, none⟩) 1 1) := fun o1 o2 o3 => (HL.out.below (by (repeat (first | exact Below.refl _ _ | apply below_drew | apply below_alloc)); done)).cell
          have q4 : ∀ o1 o2 o3 o4, ((((W12.alloc o1).alloc o2).alloc o3).alloc o4).cell? ⟨bx, 0, none⟩ = some (.slice (some ⟨r, 0, none⟩) 1 1) := fun o1 o2 o3 o4 => (HL.out.below (by (repeat (first | exact Below.refl _ _ | apply below_drew | apply below_alloc)); done)).cell
          have q1d : ∀ o1, (W12.drew.alloc o1).cell? ⟨bx, 0, none⟩ = some (.slice (some ⟨r, 0, none⟩) 1 1) := fun o1 => (HL.out.below (by (repeat (first | exact Below.refl _ _ | apply below_drew | apply below_alloc)); done)).cell
          have q2d : ∀ o1 o2, ((W12.drew.alloc o1).alloc o2).cell? ⟨bx, 0, none⟩ = some (.slice (some ⟨r, 0, none⟩) 1 1) := fun o1 o2 => (HL.out.below (by (repeat (first | exact Below.refl _ _ | apply below_drew | apply below_alloc)); done)).cell
          have q3d : ∀ o1 o2 o3, (((W12.drew.alloc o1).alloc o2).alloc o3).cell? ⟨bx, 0, none⟩ = some (.slice (some ⟨r, 0, none⟩) 1 1) := fun o1 o2 o3 => (HL.out.below (by (repeat (first | exact Below.refl _ _ | apply below_drew | apply below_alloc)); done)).cell
          have q4d : ∀ o1 o2 o3 o4, ((((W12.drew.alloc o1).alloc o2).alloc o3).alloc o4).cell? ⟨bx, 0, none⟩ = some (.slice (some ⟨r, 0, none⟩) 1 1) := fun o1 o2 o3 o4 => (HL.out.below (by (repeat (first | exact Below.refl _ _ | apply below_drew | apply below_alloc)); done)).cell
          go_region_law
            (first
              | (refine goes_ (f := 20) (N := some 138) Try.func20 (by kernel_rfl) rfl #[.int .i64 1, .slice (some ⟨W12.heap.size, 0, none⟩) 1 1] rfl rfl rfl (by simp [Act.eval]) ?_; refine (one_exact 1 _ _ 1 1 rfl _).mono ?_; rintro e w8 ⟨rfl, rfl⟩; refine ⟨_, rfl, ?_⟩)
              | (refine N_append_lies (Kd.raw 5) rfl (.tmp 135) (.tmp 142) 26 41 (.agg #[(.int .i64 0), (.int .i64 0), (.slice none 0 0), (.slice none 0 0), (.slice none 0 0)]) 88 rfl Try.underlying26 info41 rfl (by decide) w.heap.size (.slice (some ⟨r, 0, none⟩) 1 1) [cA bc bk] (c0 (.slice none 0 0) W12.heap.size) (c0 (.slice none 0 0) W12.heap.size) (fun _ => True) (fun _ => False) _ (by simp [Act.eval]) (by simp [Act.eval]; rfl) (by first | exact blk_new' (by simp) | (apply blk_drew; exact blk_new' (by simp))) (raw_FK _ _ _ rfl (c0_one _)) (fun _ hk => hk.elim) (fun _ _ => trivial) (N_one (HL.out.below (by (repeat (first | exact Below.refl _ _ | apply below_drew | apply below_alloc)); done)).kr rfl (cA_one _ _) HL.out.hr trivial) (HL.out.below (by (repeat (first | exact Below.refl _ _ | apply below_drew | apply below_alloc)); done)).kb.1.size (by show 1 + 1 ≤ maxLen; simp [maxLen]) (by show (1 + 1) * 88 ≤ 140737488355328; decide) ?_; intro v10 w10 HN10 hg10 hb10; obtain ⟨A10, cp10, rfl⟩ := Kd.N_slice HN10; have HE10 := Aside0.mk (LpAt.next (bz := W12.heap.size) (HL.out.below (by (repeat (first | exact Below.refl _ _ | apply below_drew | apply below_alloc)); done)) (by (repeat (first | exact blk_new _ _ | apply blk_drew | apply blk_alloc)); done) hg10 hb10 HN10); have kx10 := (hg10.block bx (blk_lt (HL.out.below (by (repeat (first | exact Below.refl _ _ | apply below_drew | apply below_alloc)); done)).kx) (fun e => by injection e with e; have h2 := HL.out.kx; rw [e, HL.out.kr] at h2; simp at h2)).trans (HL.out.below (by (repeat (first | exact Below.refl _ _ | apply below_drew | apply below_alloc)); done)).kx; have hc10 : w10.cell? ⟨bx, 0, none⟩ = some (.slice (some ⟨r, 0, none⟩) 1 1) := (blk_cell kx10 0).trans rfl; have f10 : w10.frozen? ⟨bx, 0, none⟩ = false := blk_frozen kx10 0; clear kx10 HN10 hg10 hb10))
          all_goals
            clear cv0 q1 q2 q3 q4 q1d q2d q3d q4d hc10 f10
            generalize (w10.setCell ⟨bx, 0, none⟩ (.slice A10 2 cp10)) = W13 at *
            have cx13 : W13.cell? ⟨bx, 0, none⟩ = some (.slice A10 2 cp10) := (blk_cell HE10.out.2.1 0).trans rfl
            go_wp2_with fail
            refine (check_n 99 HE10.out.2.2.1 HE10.out.2.2.2 HKF.out).mono ?_
            rintro e w14 ⟨rfl, hb⟩
            have HB2 := Aside0.mk (HE10.out.1.below hb)
            clear hb
            by_cases h36 : i < 36
            · have hkz : (knR i == 0) = true := HKZ.out.trans (decide_eq_true h36)
              have hc36 : decide ((i : Int) < 36) = true := decide_eq_true (by omega)
              go_wp2_with fail
              go_roundw
              case rel => exact ⟨i + 1, by simp, by omega, HB2⟩
              case measure => simp [intOf]; omega
            · have hkz : (knR i == 0) = false := HKZ.out.trans (decide_eq_false h36)
              have hc36 : decide ((i : Int) < 36) = false := decide_eq_false (by omega)
              go_wp2_with fail
              go_roundw
              case rel => exact ⟨i + 1, by simp, by omega, HB2⟩
              case measure => simp [intOf]; omega
      · have hi75 : i = 75 := by omega
        subst hi75
        go_wp2_with fail
        go_meet
        case rel => exact HB.out.1
  clear HB
  have HB := Aside0.mk hcut
  clear hcut
  go_upto_region 15 with (fail)
  go_cut [6] from 331 (fun v6 wx => ∃ bx r b0, v6 = .pointer (some ⟨bx, 0, none⟩) ∧ CnAt w wx bx r b0 (.slice none 0 0))
  case first =>
    go_wp2_with fail
    refine (one_exact 1 _ _ 1 1 rfl _).mono ?_
    rintro e w' ⟨rfl, rfl⟩
    go_wp2_with fail
    go_meet
    case rel => exact ⟨_, _, _, rfl, by repeat (first | exact HB.out | apply below_alloc), blk_new' (by simp), blk_alloc (blk_new' (by simp)) _, blk_alloc (blk_alloc (blk_alloc (blk_new _ _) _) _) _, by have := HB.out.size; simp; omega, by have := HB.out.size; simp; omega⟩
  clear HB
  obtain ⟨bx, r, b0, rfl, hC⟩ := hcut
  have HC := Aside0.mk hC
  clear hC
  go_upto_region 16 with (fail)
  go_cut [] from 331 (fun wx => ∃ r cp b0 bu bc, UpAt w wx bx r cp b0 bu bc (.slice none 0 0) 249 59)
  case first =>
    have cx := HC.out.cells.1
    have hsz := blk_lt HC.out.kr
    have cxa : ∀ o1 o2 o3, (((wc.alloc o1).alloc o2).alloc o3).cell? ⟨bx, 0, none⟩ = some (.slice (some ⟨r, 0, none⟩) 1 1) := fun o1 o2 o3 => (((HC.out.below (below_alloc (below_alloc (below_alloc (Below.refl _ _) o1) o2) o3))).cells).1
    go_wp2_with (at_builtin; (refine Kd.N_append (Kd.raw 5) (w0 := wc) w.heap.size rfl (.tmp 157) (.tmp 165) 26 41 (.agg #[(.int .i64 0), (.int .i64 0), (.slice none 0 0), (.slice none 0 0), (.slice none 0 0)]) 88 rfl Try.underlying26 info41 rfl ?aD ?aE (.slice (some ⟨r, 0, none⟩) 1 1) [c0 (.slice none 0 0) b0] (c1 wc.heap.size (wc.heap.size + 1)) (c1 wc.heap.size (wc.heap.size + 1)) (fun _ => True) (fun _ => False) ?aS ?aX ?aP ?aK ?aF (N_one (blk_alloc (blk_alloc HC.out.kr _) _) rfl ?aO HC.out.hr trivial) ((below_alloc (below_alloc (Below.refl wc.heap.size wc) _) _).mono HC.out.bel.size) ?aZ ?aL ?_; (case aD => decide); (case aE => decide); (case aS => simp [Act.eval]); (case aX => simp [Act.eval]); (case aP => exact raw_FK _ _ _ rfl (c1_one _ _)); (case aK => exact fun _ hk => hk.elim); (case aF => exact fun _ _ => trivial); (case aO => exact c0_one _); (case aZ => have := HC.out.bel.size; simp; omega); (case aL => show (1 + 1) * 88 ≤ 140737488355328; decide); intro v1 w1 HN1 hb1 hg1 hat1; (obtain ⟨g1, cp1, rfl, _, _, _⟩ := Kd.N_form HN1 (Nat.zero_lt_succ _)); (have HU2 := Aside0.mk (up_of HC.out hb1 hg1 HN1)); (have kx1 := (hg1.block bx (blk_lt (blk_alloc (blk_alloc HC.out.kx _) _)) (fun e => by injection e with e; have h2 := HC.out.kx; rw [e, HC.out.kr] at h2; simp at h2)).trans (blk_alloc (blk_alloc HC.out.kx _) _)); (have cx1 : w1.cell? ⟨bx, 0, none⟩ = some (.slice (some ⟨r, 0, none⟩) 1 1) := (blk_cell kx1 0).trans rfl); (have fx1 : w1.frozen? ⟨bx, 0, none⟩ = false := blk_frozen kx1 0); clear HN1 hb1 hg1 hat1 kx1))
    go_meet
    case rel => exact ⟨_, _, _, _, _, HU2.out⟩
  clear HC
  obtain ⟨r, cp, b0, bu, bc, hU⟩ := hcut
  have HU := Aside0.mk hU
  clear hU
  go_upto_region 17 with (fail)
  go_cut [7] from 331 (fun v wx => v = .int .i64 0 ∧ UpAt w wx bx r cp b0 bu bc (.slice none 0 0) 249 59)
  case first =>
    have cx := HU.out.cells.1
    go_wp2_with fail
    obtain ⟨hC, hcp⟩ := HU.out.C (l0 := []) (Nat.le_refl 0) (nil48 _)
    refine (check_n 99 hC hcp up_a).mono ?_
    rintro e w' ⟨rfl, hb⟩
    have HU2 := Aside0.mk (HU.out.below hb)
    clear hC hcp cx
    go_wp2_with fail
    go_meet
    case rel => exact ⟨rfl, HU2.out⟩
  clear HU
  obtain ⟨rfl, hU⟩ := hcut
  have HU := Aside0.mk hU
  clear hU
  go_upto_region 18 with (fail)
  go_cut [] from 331 (fun wx => ∃ bz, wx.heap[bz]? = some (.cells #[.bool false, .int .i64 0] 48 (0, 0)) ∧ UpAt w wx bx r cp b0 bu bc (.slice (some ⟨bz, 0, none⟩) 1 1) 249 59)
  case first =>
    have cxa : ∀ o, _ := fun o => (HU.out.below (below_alloc (Below.refl _ _) o)).cells
    have cx := HU.out.cells.1
    have z0 : ∀ o, (wc.alloc o).cell? ⟨r, 2, none⟩ = some (.slice none 0 0) := fun o => (cxa o).2.1
    have f0 : ∀ o, (wc.alloc o).frozen? ⟨r, 2, none⟩ = false := fun o => (cxa o).2.2.1
    clear cxa
    go_wp2_with fail
    go_meet
    case rel => exact ⟨wc.heap.size, blk_far (blk_new _ _) (by have := HU.out.hr; show wc.heap.size ≠ r; omega) _, (HU.out.below (below_alloc (Below.refl _ _) _)).set0 rfl⟩
  clear HU
  obtain ⟨bz, hz, hU⟩ := hcut
  have HU := Aside0.mk hU
  have HZ := Aside0.mk hz
  clear hU hz
  go_upto_region 19 with (fail)
  go_cut [8] from 331 (fun v wx => v = .int .i64 2 ∧ UpAt w wx bx r cp b0 bu bc (.slice (some ⟨bz, 0, none⟩) 1 1) 249 59 ∧ wx.heap[bz]? = some (.cells #[.bool false, .int .i64 0] 48 (0, 0)))
  case first =>
    have cx := HU.out.cells.1
    go_wp2_with fail
    obtain ⟨hC, hcp⟩ := HU.out.C (l0 := [⟨false, 0⟩]) (Nat.le_refl 1) (C48b (l := [⟨false, 0⟩]) HZ.out rfl (by decide))
    refine (check_n 99 hC hcp up_b).mono ?_
    rintro e w' ⟨rfl, hb⟩
    have HU2 := Aside0.mk (HU.out.below hb)
    clear hC hcp cx
    go_wp2_with fail
    go_meet
    case rel => exact ⟨rfl, HU2.out, blk_below HZ.out hb⟩
  clear HU
  obtain ⟨rfl, hU, _⟩ := hcut
  have HU := Aside0.mk hU
  clear hU
  go_upto_region 20 with (fail)
  go_cut [] from 331 (fun wx => UpAt w wx bx r cp b0 bu bc (.slice none 0 0) 249 59)
  case first =>
    obtain ⟨cx, z0, f0, z7, zx, fx, zy, fy⟩ := HU.out.cells
    go_wp2_with fail
    go_meet
    case rel => exact HU.out.set0 rfl
  clear HU
  have HU := Aside0.mk hcut
  clear hcut
  go_upto_region 21 with (fail)
  go_cut [] from 331 (fun wx => UpAt w wx bx r cp b0 bu bc (.slice none 0 0) 250 59)
  case first =>
    obtain ⟨cx, z0, f0, z7, zx, fx, zy, fy⟩ := HU.out.cells
    go_wp2_with fail
    go_meet
    case rel => exact HU.out.setu 1 (.int .i64 250) 250 59 rfl
  clear HU
  have HU := Aside0.mk hcut
  clear hcut
  go_upto_region 22 with (fail)
  go_cut [9] from 331 (fun v wx => v = .int .i64 2 ∧ UpAt w wx bx r cp b0 bu bc (.slice none 0 0) 250 59)
  case first =>
    have cx := HU.out.cells.1
    go_wp2_with fail
    obtain ⟨hC, hcp⟩ := HU.out.C (l0 := []) (Nat.le_refl 0) (nil48 _)
    refine (check_n 99 hC hcp up_c).mono ?_
    rintro e w' ⟨rfl, hb⟩
    have HU2 := Aside0.mk (HU.out.below hb)
    clear hC hcp cx
    go_wp2_with fail
    go_meet
    case rel => exact ⟨rfl, HU2.out⟩
  clear HU
  obtain ⟨rfl, hU⟩ := hcut
  have HU := Aside0.mk hU
  clear hU
  go_upto_region 23 with (fail)
  go_cut [] from 331 (fun wx => UpAt w wx bx r cp b0 bu bc (.slice none 0 0) 0 59)
  case first =>
    obtain ⟨cx, z0, f0, z7, zx, fx, zy, fy⟩ := HU.out.cells
    go_wp2_with fail
    go_meet
    case rel => exact HU.out.setu 1 (.int .i64 0) 0 59 rfl
  clear HU
  have HU := Aside0.mk hcut
  clear hcut
  go_upto_region 24 with (fail)
  go_cut [] from 331 (fun wx => UpAt w wx bx r cp b0 bu bc (.slice none 0 0) 0 60)
  case first =>
    obtain ⟨cx, z0, f0, z7, zx, fx, zy, fy⟩ := HU.out.cells
    go_wp2_with fail
    go_meet
    case rel => exact HU.out.setu 3 (.int .i64 60) 0 60 rfl
  clear HU
  have HU := Aside0.mk hcut
  clear hcut
  go_upto_region 25 with (fail)
  go_cut [10] from 331 (fun v wx => v = .int .i64 2 ∧ UpAt w wx bx r cp b0 bu bc (.slice none 0 0) 0 60)
  case first =>
    have cx := HU.out.cells.1
    go_wp2_with fail
    obtain ⟨hC, hcp⟩ := HU.out.C (l0 := []) (Nat.le_refl 0) (nil48 _)
    refine (check_n 99 hC hcp up_d).mono ?_
    rintro e w' ⟨rfl, hb⟩
    have HU2 := Aside0.mk (HU.out.below hb)
    clear hC hcp cx
    go_wp2_with fail
    go_meet
    case rel => exact ⟨rfl, HU2.out⟩
  clear HU
  obtain ⟨rfl, hU⟩ := hcut
  have HU := Aside0.mk hU
  clear hU
  go_upto_region 26 with (fail)
  go_cut [11] from 331 (fun v6 wx => ∃ bx r b0, v6 = .pointer (some ⟨bx, 0, none⟩) ∧ CnAt w wx bx r b0 (.slice none 0 0))
  case first =>
    have HB := Aside0.mk HU.out.bel
    go_wp2_with fail
    refine (one_exact 1 _ _ 1 1 rfl _).mono ?_
    rintro e w' ⟨rfl, rfl⟩
    go_wp2_with fail
    go_meet
    case rel => exact ⟨_, _, _, rfl, by repeat (first | exact HB.out | apply below_alloc), blk_new' (by simp), blk_alloc (blk_new' (by simp)) _, blk_alloc (blk_alloc (blk_alloc (blk_new _ _) _) _) _, by have := HB.out.size; simp; omega, by have := HB.out.size; simp; omega⟩
  clear HU
  obtain ⟨cx, cr, cb, rfl, hC⟩ := hcut
  have HC := Aside0.mk hC
  clear hC
  go_upto_region 27 with (fail)
  go_cut [] from 331 (fun wx => ∃ bc txt, txt.size = 4097 ∧ wx.heap[bc]? = some (.cells #[.int .i64 5, .int .i64 0, .string txt] 46 (0, 0)) ∧ CnAt w wx cx cr cb (.slice (some ⟨bc, 0, none⟩) 1 1))
  case first =>
    have hF28 := field28
    have cx0 := HC.out.cells.1
    obtain ⟨Z, hZ, hmk⟩ := mk_bytes
    obtain ⟨txt, htx⟩ : ∃ t, t = strOfNums (List.replicate 4097 (0 : Int)) := ⟨_, rfl⟩
    have hcv1 : (convert 49 9 (.slice (some ⟨wc.heap.size, 0, none⟩) 4097 4097)).run Try.prog (wc.alloc (.cells Z 5)) = .ok (.string txt) (wc.alloc (.cells Z 5)) := by rw [htx]; exact cv_bytes hZ (blk_new _ _)
    have hcv2 : (convert 49 9 (.slice (some ⟨wc.heap.size, 0, none⟩) 4097 4097)).run Try.prog (wc.alloc (.cells Z 5)).drew = .ok (.string txt) (wc.alloc (.cells Z 5)).drew := by rw [htx]; exact cv_bytes hZ (blk_drew (blk_new _ _))
    have hcv3 : (convert 49 9 (.slice (some ⟨wc.heap.size, 0, none⟩) 4097 4097)).run Try.prog (wc.drew.alloc (.cells Z 5)) = .ok (.string txt) (wc.drew.alloc (.cells Z 5)) := by rw [htx]; exact cv_bytes hZ (blk_new' rfl)
    have hts : txt.size = 4097 := by rw [htx]; exact conv_size
    have HTS := Aside0.mk hts
    clear hZ htx hts
    have lc := blk_lt HC.out.kr
    have q1 : ∀ o1, (wc.alloc o1).cell? ⟨cx, 0, none⟩ = some (.slice (some ⟨cr, 0, none⟩) 1 1) := fun o1 => (HC.out.below (below_alloc (Below.refl _ _) o1)).cells.1
    have q2 : ∀ o1 o2, ((wc.alloc o1).alloc o2).cell? ⟨cx, 0, none⟩ = some (.slice (some ⟨cr, 0, none⟩) 1 1) := fun o1 o2 => (HC.out.below (below_alloc (below_alloc (Below.refl _ _) o1) o2)).cells.1
    have z1 : ∀ o1 o2, ((wc.alloc o1).alloc o2).cell? ⟨cr, 3, none⟩ = some (.slice none 0 0) := fun o1 o2 => (HC.out.below (below_alloc (below_alloc (Below.refl _ _) o1) o2)).cells.2.1
    have f1 : ∀ o1 o2, ((wc.alloc o1).alloc o2).frozen? ⟨cr, 3, none⟩ = false := fun o1 o2 => (HC.out.below (below_alloc (below_alloc (Below.refl _ _) o1) o2)).cells.2.2
    have q1d : ∀ o1, (wc.drew.alloc o1).cell? ⟨cx, 0, none⟩ = some (.slice (some ⟨cr, 0, none⟩) 1 1) := fun o1 => (HC.out.below (below_alloc (below_drew (Below.refl _ _)) o1)).cells.1
    have q2d : ∀ o1 o2, ((wc.drew.alloc o1).alloc o2).cell? ⟨cx, 0, none⟩ = some (.slice (some ⟨cr, 0, none⟩) 1 1) := fun o1 o2 => (HC.out.below (below_alloc (below_alloc (below_drew (Below.refl _ _)) o1) o2)).cells.1
    have z1d : ∀ o1 o2, ((wc.drew.alloc o1).alloc o2).cell? ⟨cr, 3, none⟩ = some (.slice none 0 0) := fun o1 o2 => (HC.out.below (below_alloc (below_alloc (below_drew (Below.refl _ _)) o1) o2)).cells.2.1
    have f1d : ∀ o1 o2, ((wc.drew.alloc o1).alloc o2).frozen? ⟨cr, 3, none⟩ = false := fun o1 o2 => (HC.out.below (below_alloc (below_alloc (below_drew (Below.refl _ _)) o1) o2)).cells.2.2
    go_region
    all_goals
      go_wp2_with fail
      go_meet
      case rel => exact ⟨wc.heap.size + 1, txt, HTS.out, blk_drew (blk_new' (by simp)), (HC.out.set _).below (by (repeat (first | exact Below.refl _ _ | apply below_drew | apply below_alloc)); done)⟩
  clear HC
  obtain ⟨bc, txt, hts, hbc, hC⟩ := hcut
  have HC := Aside0.mk hC
  have HZ := Aside0.mk hbc
  have HT := Aside0.mk hts
  clear hC hbc hts
  go_upto_region 28 with (fail)
  go_cut [12] from 331 (fun v wx => v = .int .i64 3 ∧ ∃ s3, CnAt w wx cx cr cb s3)
  case first =>
    have cxx := HC.out.cells.1
    go_wp2_with fail
    obtain ⟨kk, hk⟩ := cn_e HT.out
    refine (check_n kk (HC.out.C (c := ⟨5, 0, txt⟩) HZ.out) (Nat.le_refl 1) hk).mono ?_
    rintro e w' ⟨rfl, hb⟩
    have HC2 := Aside0.mk (HC.out.below hb)
    clear hb cxx
    go_wp2_with fail
    go_meet
    case rel => exact ⟨rfl, _, HC2.out⟩
  clear HC HZ HT
  obtain ⟨rfl, s3, hC⟩ := hcut
  have HC := Aside0.mk hC
  clear hC
  go_upto_region 29 with (fail)
  go_cut [] from 331 (fun wx => ∃ bc, wx.heap[bc]? = some (.cells #[.int .i64 3, .int .i64 0, .string ⟨#[120]⟩] 46 (0, 0)) ∧ CnAt w wx cx cr cb (.slice (some ⟨bc, 0, none⟩) 1 1))
  case first =>
    have cxx := HC.out.cells.1
    have z0 : ∀ o, (wc.alloc o).cell? ⟨cr, 3, none⟩ = some s3 := fun o => ((HC.out.below (below_alloc (Below.refl _ _) o)).cells).2.1
    have f0 : ∀ o, (wc.alloc o).frozen? ⟨cr, 3, none⟩ = false := fun o => ((HC.out.below (below_alloc (Below.refl _ _) o)).cells).2.2
    go_wp2_with fail
    go_meet
    case rel => exact ⟨wc.heap.size, blk_far (blk_new _ _) (by have := blk_lt HC.out.kr; show wc.heap.size ≠ cr; omega) _, (HC.out.below (below_alloc (Below.refl _ _) _)).set _⟩
  clear HC
  obtain ⟨bc, hbc, hC⟩ := hcut
  have HC := Aside0.mk hC
  have HZ := Aside0.mk hbc
  clear hC hbc
  go_upto_region 30 with (fail)
  go_cut [13] from 331 (fun v wx => v = .int .i64 2 ∧ ∃ s3, CnAt w wx cx cr cb s3)
  case first =>
    have cxx := HC.out.cells.1
    go_wp2_with fail
    obtain ⟨kk, hk⟩ : ∃ kk, code_Check.f kk (cnL ⟨3, 0, ⟨#[120]⟩⟩) = some 2 := ⟨99, cn_f⟩
    refine (check_n kk (HC.out.C (c := ⟨3, 0, ⟨#[120]⟩⟩) HZ.out) (Nat.le_refl 1) hk).mono ?_
    rintro e w' ⟨rfl, hb⟩
    have HC2 := Aside0.mk (HC.out.below hb)
    clear hb cxx
    go_wp2_with fail
    go_meet
    case rel => exact ⟨rfl, _, HC2.out⟩
  clear HC HZ
  obtain ⟨rfl, s3, hC⟩ := hcut
  have HC := Aside0.mk hC
  clear hC
  go_upto_region 31 with (fail)
  go_cut [] from 331 (fun wx => ∃ bc, wx.heap[bc]? = some (.cells #[.int .i64 5, .int .i64 1, .string ⟨#[]⟩] 46 (0, 0)) ∧ CnAt w wx cx cr cb (.slice (some ⟨bc, 0, none⟩) 1 1))
  case first =>
    have cxx := HC.out.cells.1
    have z0 : ∀ o, (wc.alloc o).cell? ⟨cr, 3, none⟩ = some s3 := fun o => ((HC.out.below (below_alloc (Below.refl _ _) o)).cells).2.1
    have f0 : ∀ o, (wc.alloc o).frozen? ⟨cr, 3, none⟩ = false := fun o => ((HC.out.below (below_alloc (Below.refl _ _) o)).cells).2.2
    go_wp2_with fail
    go_meet
    case rel => exact ⟨wc.heap.size, blk_far (blk_new _ _) (by have := blk_lt HC.out.kr; show wc.heap.size ≠ cr; omega) _, (HC.out.below (below_alloc (Below.refl _ _) _)).set _⟩
  clear HC
  obtain ⟨bc, hbc, hC⟩ := hcut
  have HC := Aside0.mk hC
  have HZ := Aside0.mk hbc
  clear hC hbc
  go_upto_region 32 with (fail)
  go_cut [14] from 331 (fun v wx => v = .int .i64 2 ∧ ∃ s3, CnAt w wx cx cr cb s3)
  case first =>
    have cxx := HC.out.cells.1
    go_wp2_with fail
    obtain ⟨kk, hk⟩ : ∃ kk, code_Check.f kk (cnL ⟨5, 1, ⟨#[]⟩⟩) = some 2 := ⟨99, cn_g⟩
    refine (check_n kk (HC.out.C (c := ⟨5, 1, ⟨#[]⟩⟩) HZ.out) (Nat.le_refl 1) hk).mono ?_
    rintro e w' ⟨rfl, hb⟩
    have HC2 := Aside0.mk (HC.out.below hb)
    clear hb cxx
    go_wp2_with fail
    go_meet
    case rel => exact ⟨rfl, _, HC2.out⟩
  clear HC HZ
  obtain ⟨rfl, s3, hC⟩ := hcut
  have HC := Aside0.mk hC
  clear hC
  go_upto_region 33 with (fail)
  go_cut [15] from 331 (fun v wx => v = .int .i64 3 ∧ Below w.heap.size w wx)
  case first =>
    go_wp2_with ((with_reducible refine gate_dst (N := 236) rfl ?_); refine Kd.N_make k41 (w0 := wc) wc.heap.size 41 rfl (N' := 236) rfl 26 (.const (.int .i64 257)) (.const (.int .i64 257)) rfl 257 rfl rfl Try.underlying26 (.agg #[(.int .i64 0), (.int .i64 0), (.slice none 0 0), (.slice none 0 0), (.slice none 0 0)]) 88 info41 rfl ?aD ?aE z41 (ok := fun _ => True) (okp := fun _ => False) ?aF (fun _ _ => trivial) trivial ?aG ?aH (Below.refl _ _) (Nat.le_refl _) ?_; (case aD => decide); (case aE => decide); (case aF => exact k41_mkF _ _ z41 (Nat.le_refl 0) (Kd.F_nil _ _ _) (Nat.le_refl 0) (Kd.F_nil _ _ _) (Nat.le_refl 0) (Kd.F_nil _ _ _)); (case aG => decide); (case aH => decide); intro v1 w1 HN1 hb1 _ _; (obtain ⟨A1, cp1, rfl⟩ := Kd.N_slice HN1); (replace HN1 := Aside0.mk HN1); (replace hb1 := Aside0.mk hb1))
    have hr := Kd.N_reads' HN1.out
    have hC : Kd.C k41 w1 A1 257 (List.replicate 257 z41) := by have := hr.2.2; rw [List.length_replicate] at this; exact this
    have hcp : 257 ≤ cp1 := by have := hr.2.1; rw [List.length_replicate] at this; exact this
    refine (check_n 99 hC hcp kn_h).mono ?_
    rintro e w' ⟨rfl, hb⟩
    have HB2 := Aside0.mk ((HC.out.bel.trans (hb1.out.mono HC.out.bel.size)).trans (hb.mono ((HC.out.bel.trans (hb1.out.mono HC.out.bel.size)).size)))
    clear hb hr hC hcp
    go_wp2_with fail
    go_meet
    case rel => exact ⟨rfl, HB2.out⟩
  clear HC
  obtain ⟨rfl, hb⟩ := hcut
  have HB := Aside0.mk hb
  clear hb
  go_upto_region 34 with (fail)
  go_cut [16] from 331 (fun v wx => v = .int .i64 2 ∧ Below w.heap.size w wx)
  case first =>
    go_wp2_with fail
    refine (check_n 99 (lit_K _ 2 1 wc.heap.size (blk_alloc (blk_new _ _) _) (blk_new' (by simp))) (Nat.le_refl 1) kn_i).mono ?_
    rintro e w' ⟨rfl, hb⟩
    have HB2 := Aside0.mk (below_step (below_alloc (below_alloc HB.out _) _) hb)
    clear hb
    go_wp2_with fail
    go_meet
    case rel => exact ⟨rfl, HB2.out⟩
  clear HB
  obtain ⟨rfl, hb⟩ := hcut
  have HB := Aside0.mk hb
  clear hb
  go_upto_region 35 with (fail)
  go_cut [17] from 331 (fun v wx => v = .int .i64 3 ∧ Below w.heap.size w wx)
  case first =>
    go_wp2_with fail
    refine (check_n 99 (lit_K _ 21 30 wc.heap.size (blk_alloc (blk_new _ _) _) (blk_new' (by simp))) (Nat.le_refl 1) kn_j).mono ?_
    rintro e w' ⟨rfl, hb⟩
    have HB2 := Aside0.mk (below_step (below_alloc (below_alloc HB.out _) _) hb)
    clear hb
    go_wp2_with fail
    go_meet
    case rel => exact ⟨rfl, HB2.out⟩
  clear HB
  obtain ⟨rfl, hb⟩ := hcut
  have HB := Aside0.mk hb
  clear hb
  go_upto_region 36 with (fail)
  go_cut [18] from 331 (fun v wx => v = .int .i64 2 ∧ Below w.heap.size w wx)
  case first =>
    go_wp2_with fail
    refine (check_n 99 (lit_K _ (-1) 300 wc.heap.size (blk_alloc (blk_new _ _) _) (blk_new' (by simp))) (Nat.le_refl 1) kn_k).mono ?_
    rintro e w' ⟨rfl, hb⟩
    have HB2 := Aside0.mk (below_step (below_alloc (below_alloc HB.out _) _) hb)
    clear hb
    go_wp2_with fail
    go_meet
    case rel => exact ⟨rfl, HB2.out⟩
  clear HB
  obtain ⟨rfl, hb⟩ := hcut
  have HB := Aside0.mk hb
  clear hb
  go_upto_region 37 with (fail)
  go_cut [19] from 331 (fun v wx => v = .int .i64 2 ∧ Below w.heap.size w wx)
  case first =>
    go_wp2_with fail
    refine (one_exact 1 _ _ 0 0 rfl _).mono ?_
    rintro e w' ⟨rfl, rfl⟩
    go_wp2_with fail
    refine (check_n 99 (lit_K0 _ 0 1 (blk_new' (by simp))) (Nat.le_refl 1) kn_l).mono ?_
    rintro e w' ⟨rfl, hb⟩
    have HB2 := Aside0.mk (below_step (below_alloc (below_alloc HB.out _) _) hb)
    clear hb
    go_wp2_with fail
    go_meet
    case rel => exact ⟨rfl, HB2.out⟩
  clear HB
  obtain ⟨rfl, hb⟩ := hcut
  have HB := Aside0.mk hb
  clear hb
  go_upto_region 38 with (fail)
  go_cut [20] from 331 (fun v wx => v = .int .i64 3 ∧ Below w.heap.size w wx)
  case first =>
    go_wp2_with ((with_reducible refine gate_dst (N := 259) rfl ?_); refine Kd.N_make k33 (w0 := wc) wc.heap.size 33 rfl (N' := 259) rfl 39 (.const (.int .i64 16385)) (.const (.int .i64 16385)) rfl 16385 rfl rfl Try.underlying39 (.agg #[(.int .i64 0), (.int .i64 0), (.int .i64 0)]) 24 minfo33 rfl ?aD ?aE ⟨0, 0, 0⟩ (ok := fun _ => True) (okp := fun _ => False) ?aF (fun _ _ => trivial) trivial ?aG ?aH (Below.refl _ _) (Nat.le_refl _) ?_; (case aD => decide); (case aE => decide); (case aF => exact fun W' _ => k33_mk W' ⟨0, 0, 0⟩); (case aG => decide); (case aH => decide); intro v1 w1 HN1 hb1 _ _; (obtain ⟨A1, cp1, rfl⟩ := Kd.N_slice HN1); (replace HN1 := Aside0.mk HN1); (replace hb1 := Aside0.mk hb1))
    have hr := Kd.N_reads' HN1.out
    have hC : Kd.C k33 w1 A1 (List.replicate 16385 (⟨0, 0, 0⟩ : S33)).length (List.replicate 16385 (⟨0, 0, 0⟩ : S33)) := hr.2.2
    have hcp : (List.replicate 16385 (⟨0, 0, 0⟩ : S33)).length ≤ cp1 := hr.2.1
    obtain ⟨kk, hk⟩ := kn_m
    have hlen : (List.replicate 16385 (⟨0, 0, 0⟩ : S33)).length = 16385 := List.length_replicate ..
    obtain ⟨lz, hlz⟩ : ∃ x, x = List.replicate 16385 (⟨0, 0, 0⟩ : S33) := ⟨_, rfl⟩
    have hzl : (Int.toNat 16385) = 16385 := rfl
    rw [← hlz] at hC hcp hk hlen
    refine (check_n kk (one_m hC hcp hlen) (Nat.le_refl 1) hk).mono ?_
    rintro e w' ⟨rfl, hb⟩
    have hb0 := HB.out.trans (hb1.out.mono HB.out.size)
    have HB2 := Aside0.mk (below_step (below_alloc hb0 _) hb)
    clear hb hb0 hr hC hcp hk hlen hlz hzl
    go_wp2_with fail
    go_meet
    case rel => exact ⟨rfl, HB2.out⟩
  clear HB
  obtain ⟨rfl, hb⟩ := hcut
  have HB := Aside0.mk hb
  clear hb
  go_wp2_with fail
  refine (tallowlaw20_works.calls true _ rfl).mono ?_
  rintro e w2 ⟨rfl, hb⟩
  have HB2 := Aside0.mk (below_step HB.out hb)
  clear hb HB
  go_wp2_with fail
  refine (code_Name.calls 37 _ _ nm37).mono ?_
  rintro e w3 ⟨rfl, hb⟩
  have HB3 := Aside0.mk (below_step HB2.out hb)
  clear hb HB2
  go_wp2_with fail
  refine (code_Op.calls _ _ _ opNil).mono ?_
  rintro e w4 ⟨rfl, hb⟩
  have HB4 := Aside0.mk (below_step HB3.out hb)
  clear hb HB3
  go_wp2_with fail
  refine (code_Op.calls _ _ _ opE).mono ?_
  rintro e w5 ⟨rfl, hb⟩
  have HB5 := Aside0.mk (below_step HB4.out hb)
  clear hb HB4
  go_wp2_with fail
  go_ret
  exact ⟨rfl, HB5.out⟩
end Go.Proofs.Ytpdcedmnkkiekaa.G
end
