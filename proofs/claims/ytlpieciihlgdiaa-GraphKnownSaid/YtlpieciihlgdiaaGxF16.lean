-- written by a program of this session (handprint.sh), over functions proved by hand
import Derived.Test.YtlpieciihlgdiaaGx0
import Derived.Test.YtlpieciihlgdiaaGxF9
import Derived.Test.YtlpieciihlgdiaaGxF14
namespace Go.Proofs.Ytlpieciihlgdiaa.G
open Go.RowKit Go.Proofs.YtlpieciihlgdiaaW.PrintWords Go.Proofs.YtlpieciihlgdiaaW.PrintLast Go.Proofs.YtlpieciihlgdiaaW.PrintMore
attribute [local go_sem] max2_int min2_int max_two min_two max_three min_three max_four min_four   -- for this text's walks alone
-- shrunk
set_option linter.unusedVariables false
set_option linter.unusedSimpArgs false
/-! ### graph_Exact: function 16 -/
def exB (l0 : List S36) (more : List S40) (i : Nat) : Bool := !((rd_T36 l0 (i : Int)).f0 == 0) && !((rd_T36 l0 (i : Int)).f1 == wrap64 ((intoL l0).getD i 0 + cnt (refsL more) ((i : Int) + 1)))
def exTo (l0 : List S36) (more : List S40) (k : Nat) : List Int := ((List.range k).filter (exB l0 more)).map fun (i : Nat) => (i : Int) + 1
def exactL (l0 : List S36) (more : List S40) : List Int := exTo l0 more (intoL l0).length
theorem exTo_yes {l0 : List S36} {more : List S40} {k : Nat} (h : exB l0 more k = true) : exTo l0 more (k + 1) = exTo l0 more k ++ [(k : Int) + 1] := by
 unfold exTo; rw [List.range_succ, List.filter_append]; simp [h]
theorem exTo_no {l0 : List S36} {more : List S40} {k : Nat} (h : exB l0 more k = false) : exTo l0 more (k + 1) = exTo l0 more k := by
 unfold exTo; rw [List.range_succ, List.filter_append]; simp [h]
theorem exTo_le (l0 : List S36) (more : List S40) (k : Nat) : (exTo l0 more k).length ≤ k := by
 unfold exTo; rw [List.length_map]; exact Nat.le_trans (List.length_filter_le _ _) (by simp)
theorem intoL_le (l0 : List S36) : (intoL l0).length ≤ l0.length := by
 unfold intoL; split <;> simp
set_option maxHeartbeats 4000000 in
set_option maxRecDepth 100000 in
theorem exact_any (A0 : Option Addr) (c0 : Nat) (l0 : List S36) (A1 : Option Addr) (c1 : Nat) (more : List S40) (w : World) (hz : sizesB l0 = true) (hzm : more.length ≤ 8796093022208) (hr : Kd.C k36 w A0 l0.length l0) (hc : l0.length ≤ c0) (hr1 : Kd.C k40 w A1 more.length more) (hc1 : more.length ≤ c1) :
  Calls Try.prog 16 #[.agg #[.slice A0 l0.length c0], .slice A1 more.length c1] w fun e w' => RowOut (exactL l0 more) w e w' := by
 have HS := Aside0.mk hr
 have HC := Aside0.mk hc
 have HS1 := Aside0.mk hr1
 have HC1 := Aside0.mk hc1
 have HZ := Aside0.mk hz
 have HZM := Aside0.mk hzm
 have z1 := (sizes_at hz).1
 clear hz hzm hr hc hr1 hc1
 have hmm := @run_makeMap Try.prog
 go_enter Try.func16, Try.ntmps16
 go_wp2_with fail
 (with_reducible refine (refs_any 0 A1 c1 more _ ?h1 HC1.out HZM.out).mono ?_)
 case h1 => exact Kd.C_alloc (Kd.C_alloc HS1.out _) _
 rintro e w3 ⟨v, rfl, HO0, hb⟩
 have HB3 : Aside0 (Below w.heap.size w w3) := Aside0.mk (below_step (below_alloc (below_alloc (Below.refl _ _) _) _) hb)
 obtain ⟨B, hB⟩ : ∃ B, B = w.heap.size + 1 := ⟨_, rfl⟩
 have hB2 : w.heap.size < B := by omega
 have HM3 : Aside0 (Counts w3 B (cnt ((refsL more).take 0))) := ⟨by
  rw [List.take_zero, cnt_nil, hB]
  have h1 := Counts.made (w.alloc (.cells #[.slice A0 l0.length c0] 24))
  have e : (w.alloc (.cells #[.slice A0 l0.length c0] 24)).heap.size = w.heap.size + 1 := by simp
  rw [e] at h1
  exact h1.below hb⟩
 have HG3 : Aside0 (w3.cell? ⟨w.heap.size, 0, none⟩ = some (.slice A0 l0.length c0)) := ⟨(hb.cell (p := ⟨w.heap.size, 0, none⟩) (by simp; omega)).trans (by go_simp)⟩
 rw [← hB]
 obtain ⟨base, hbase⟩ : ∃ base, base = ((w.alloc (.cells #[.slice A0 l0.length c0] 24)).alloc (.map #[] 0)).heap.size := ⟨_, rfl⟩
 have hbB : B < base := by rw [hbase, hB]; simp
 rw [← hbase] at HO0
 have HO : Aside0 (Kd.R (Kd.int .i64) 3 w3 base (fun k => k ≠ B) v (refsL more)) := ⟨Kd.R_mono (Kd.R_bound HO0) (fun k hk => by have := hk.2.1; omega)⟩
 obtain ⟨A3, c3, rfl, h3c, _⟩ := Kd.R_reads HO0
 have HZr : Aside0 ((refsL more).length ≤ 8796093022208) := ⟨Nat.le_trans (refsL_le _) HZM.out⟩
 clear HO0 hb hbase hbB hB h3c
 obtain ⟨n3, hn3⟩ : ∃ n, n = (refsL more).length := ⟨_, rfl⟩
 have hz3 : n3 ≤ 8796093022208 := by rw [hn3]; exact HZr.out
 have HN3 := Aside0.mk hn3
 rw [← hn3] at HO ⊢
 clear hn3 HZr
 go_wp2_with fail
 go_loopw [16] (fun j wi => ∃ m : Nat, m ≤ n3 ∧ j = .int .i64 m ∧ Aside0 (Counts wi B (cnt ((refsL more).take m))) ∧ Aside0 (Kd.R (Kd.int .i64) 3 wi base (fun k => k ≠ B) (.slice A3 n3 c3) (refsL more)) ∧ Aside0 (wi.cell? ⟨w.heap.size, 0, none⟩ = some (.slice A0 l0.length c0)) ∧ Aside0 (Below w.heap.size w wi)) (fun j _ => n3 - (intOf j).toNat)
 case atStart => exact ⟨0, Nat.zero_le _, rfl, HM3, HO, HG3, HB3⟩
 case round =>
  clear HM3 HO HG3 HB3
  obtain ⟨m, hm, rfl, HM, HO, HG, HB⟩ := hrel
  by_cases hmt : m < n3
  ·have hC := (Kd.R_reads' HO.out).2.2
   rw [← HN3.out] at hC
   obtain ⟨ad3, e, y0⟩ := ints_at hC m hmt
   cases e
   have hgl : (refsL more)[m]? = some ((refsL more).getD m 0) := by
    rw [List.getD_eq_getElem?_getD, List.getElem?_eq_getElem (by rw [← HN3.out]; exact hmt)]; rfl
   have hin := refsL_in (List.mem_of_getElem? hgl)
   have HT : Aside0 ((refsL more).take (m + 1) = (refsL more).take m ++ [(refsL more).getD m 0]) := ⟨by
    rw [List.take_add_one, hgl]; rfl⟩
   clear hC hgl
   generalize (refsL more).getD m 0 = n at *
   have hwf : Aside0 ((Lit.int .i64 n).wf = true) := ⟨WalkArith.wf_i64 (by omega)⟩
   have hi1 := Aside0.mk hin.1
   have hi2 := Aside0.mk hin.2
   clear hin
   go_wp2_with (first
    | (at_lookup; refine Counts.lookup HM.out rfl _ _ rfl rfl n rfl hwf.out ?_; intro hwc)
    | (at_mapUpdate; refine Counts.update HM.out rfl _ _ _ rfl rfl n rfl hi1.out hi2.out _ rfl (wrap64_wf _) ?_; intro w5 hM5 hg5))
   replace hM5 : Counts w5 B (cnt ((refsL more).take (m + 1))) := by
    rw [HT.out, cnt_step]
    exact hM5
   have HM5 := Aside0.mk hM5
   have HO5 := Aside0.mk (Kd.R_grown HO.out hg5 (fun k hk => by intro e; injection e with e; exact hk e))
   have HG5 := Aside0.mk (cell_grown hg5 HG.out (fun e => by have := Option.some.inj e; omega))
   have HB5 := Aside0.mk (below_grown HB.out hg5 hB2)
   clear hM5 hg5
   go_roundw
   case rel => exact ⟨m + 1, by omega, by go_num, HM5, HO5, HG5, HB5⟩
   case measure => simp [intOf]; omega
  ·have hmn : m = n3 := by omega
   have HM6 : Aside0 (Counts wr B (cnt (refsL more))) := ⟨by
    have h1 := HM.out
    rw [hmn, HN3.out, List.take_length] at h1
    exact h1⟩
   clear HM hmn HO
   have hg := HG.out
   go_wp2_with fail
   (with_reducible refine (into_any A0 c0 l0 _ HZ.out (Kd.C_below HS.out HB.out) HC.out).mono ?_)
   rintro e w4 ⟨v4, rfl, HO4, hb4⟩
   obtain ⟨A4, c4, rfl, h4c, _⟩ := Kd.R_reads HO4
   have HM4 := Aside0.mk (HM6.out.below hb4)
   have HG4 := Aside0.mk (cell_below hb4 hg)
   have HB4 := Aside0.mk (below_step HB.out hb4)
   have HOi : Aside0 (Kd.C (Kd.int .i64) w4 A4 (intoL l0).length (intoL l0)) := ⟨(Kd.R_reads' HO4).2.2⟩
   have HL4 : Aside0 ((intoL l0).length ≤ l0.length) := ⟨intoL_le l0⟩
   obtain ⟨n4, hn4⟩ : ∃ n, n = (intoL l0).length := ⟨_, rfl⟩
   have HN4 := Aside0.mk hn4
   have hl4 : n4 ≤ l0.length := by rw [hn4]; exact HL4.out
   rw [← hn4] at HOi ⊢
   clear hn4 HO4 hb4 hg HG HB HM6 h4c
   go_wp2_with fail
   have hw4 : w.heap.size ≤ w4.heap.size := HB4.out.size
   go_loopw [8, 28] (fun v8 j wi => ∃ q : Nat, q ≤ n4 ∧ j = .int .i64 q ∧ Aside0 (Kd.R (Kd.int .i64) 3 wi w4.heap.size (fun _ => True) v8 (exTo l0 more q)) ∧ Aside0 (Below w4.heap.size w4 wi)) (fun _ j _ => n4 - (intOf j).toNat)
   case atStart => exact ⟨0, Nat.zero_le _, rfl, ⟨Kd.R_nil _ _ _ _ _⟩, ⟨Below.refl _ _⟩⟩
   case round =>
    obtain ⟨q, hq, rfl, HO, HB⟩ := hrel
    have hg := cell_below HB.out HG4.out
    have HM := Aside0.mk (HM4.out.below HB.out)
    by_cases hqt : q < n4
    ·obtain ⟨ad4, e4, y0⟩ := ints_at (Kd.C_below HOi.out HB.out) q hqt
     have p1 : (0 : Int) ≤ (q : Int) := by omega
     have q1 : (q : Int) < (l0.length : Int) := by omega
     obtain ⟨ad, A2, c2, e, x0, x1, x2, x3, x4, hl2, hi2⟩ := at_T36 (Kd.C_below HS.out (below_step HB4.out HB.out)) (q : Int) p1 q1
     rw [Int.toNat_natCast] at x0 x1 x2 x3 x4
     obtain ⟨nq, hnq⟩ : ∃ n, n = (intoL l0).getD q 0 := ⟨_, rfl⟩
     rw [← hnq] at y0
     have HX : Aside0 (exB l0 more q = (!((rd_T36 l0 (q : Int)).f0 == 0) && !((rd_T36 l0 (q : Int)).f1 == wrap64 (nq + cnt (refsL more) ((q : Int) + 1))))) := ⟨by rw [hnq]; rfl⟩
     clear hnq hl2 hi2
     generalize rd_T36 l0 (q : Int) = x at *
     cases e
     cases e4
     by_cases hk0 : x.f0 = 0
     ·have t0 : (x.f0 == 0) = true := by simpa using hk0
      have t1 : (x.f0 != 0) = false := by simpa using hk0
      have HY : Aside0 (exB l0 more q = false) := ⟨by rw [HX.out, t0]; rfl⟩
      clear hk0
      go_wp2_with fail
      go_roundw
      case rel => exact ⟨q + 1, by omega, by go_num, ⟨by rw [exTo_no HY.out]; exact Kd.R_alloc HO.out _⟩, ⟨below_alloc HB.out _⟩⟩
      case measure => simp [intOf]; omega
     ·have t0 : (x.f0 == 0) = false := by simpa using hk0
      have t1 : (x.f0 != 0) = true := by simpa using hk0
      have HM2 := Aside0.mk (HM.out.kept (World.grownBy_alloc wr (.cells #[.int .i64 x.f0, .int .i64 x.f1, .slice A2 x.f2.length c2, .string x.f3, .int .i64 x.f4] 36) none) (by simp))
      have hwf : Aside0 ((Lit.int .i64 ((q : Int) + 1)).wf = true) := ⟨WalkArith.wf_i64 (by omega)⟩
      have hrun := Counts.run HM2.out ((q : Int) + 1) hwf.out
      generalize cnt (refsL more) ((q : Int) + 1) = cq at *
      by_cases hx : x.f1 = wrap64 (nq + cq)
      ·have t2 : (x.f1 == wrap64 (nq + cq)) = true := by simpa using hx
       have t3 : (x.f1 != wrap64 (nq + cq)) = false := by simpa using hx
       have HY : Aside0 (exB l0 more q = false) := ⟨by rw [HX.out, t0, t2]; rfl⟩
       clear hk0 hx
       go_wp2_with fail
       go_roundw
       case rel => exact ⟨q + 1, by omega, by go_num, ⟨by rw [exTo_no HY.out]; exact Kd.R_alloc HO.out _⟩, ⟨below_alloc HB.out _⟩⟩
       case measure => simp [intOf]; omega
      ·have t2 : (x.f1 == wrap64 (nq + cq)) = false := by simpa using hx
       have t3 : (x.f1 != wrap64 (nq + cq)) = true := by simpa using hx
       have HY : Aside0 (exB l0 more q = true) := ⟨by rw [HX.out, t0, t2]; rfl⟩
       have HL : Aside0 ((exTo l0 more q).length ≤ q) := ⟨exTo_le l0 more q⟩
       have hll : ((exTo l0 more q).length + 1) * 8 ≤ 140737488355328 := by have := HL.out; omega
       have Hll := Aside0.mk hll
       clear hk0 hx hll
       go_wp2_with (at_builtin; (refine Kd.R_append (Kd.int .i64) (w0 := w4) w4.heap.size rfl (.tmp 52) (.tmp 55) 29 3 (.int .i64 0) 8 rfl Try.underlying29 (by kernel_rfl) rfl (by decide) (by omega) u8 (exTo l0 more q) ((q : Int) + 1) [.int .i64 ((q : Int) + 1)] (fun _ => True) (fun _ => False) rfl ?aX ?aP (fun _ hk => hk.elim) (fun _ _ => trivial) ?aO ?aB ?aS Hll.out ?_; (case aX => simp [Act.eval]); (case aP => exact rfl); (case aO => exact Kd.R_alloc HO.out _); (case aB => exact below_alloc HB.out _); (case aS => have := HB.out.size; simp; omega); intro v9 w9 HO9 hb9 hg9 hat9; replace HO9 := Aside0.mk HO9; replace hb9 := Aside0.mk hb9; clear hg9 hat9))
       go_roundw
       case rel => exact ⟨q + 1, by omega, by go_num, ⟨by rw [exTo_yes HY.out]; exact HO9.out⟩, hb9⟩
       case measure => simp [intOf]; omega
    ·have hqn : q = n4 := by omega
     go_wp2_with fail
     go_ret
     refine ⟨_, rfl, ?_, below_step HB4.out HB.out⟩
     have h1 := HO.out
     rw [hqn, HN4.out] at h1
     exact Kd.R_lower h1 hw4
def graph_Exact.f (l0_0 : List S36) (l1 : List S40) : Option (List Int) := if sizesB l0_0 = true ∧ l1.length ≤ 8796093022208 then some (exactL l0_0 l1) else none
theorem graph_Exact.calls (A0_0 : Option Addr) (c0_0 : Nat) (l0_0 : List (S36)) (A1 : Option Addr) (c1 : Nat) (l1 : List (S40)) (r : List Int) (w : World) (hr0_0 : Kd.C k36 w A0_0 l0_0.length l0_0) (hc0_0 : l0_0.length ≤ c0_0) (hr1 : Kd.C k40 w A1 l1.length l1) (hc1 : l1.length ≤ c1) (h : graph_Exact.f l0_0 l1 = some r) :
  Calls Try.prog 16 #[.agg #[.slice A0_0 l0_0.length c0_0], .slice A1 l1.length c1] w fun e w' => ∃ v0_ : Value, e = .returned (v0_) ∧ Kd.R (Kd.int .i64) 3 w' w.heap.size (fun _ => True) v0_ r ∧ Below w.heap.size w w' := by
 unfold graph_Exact.f at h
 by_cases hz : sizesB l0_0 = true ∧ l1.length ≤ 8796093022208
 ·rw [if_pos hz] at h
  obtain rfl := Option.some.inj h
  exact exact_any A0_0 c0_0 l0_0 A1 c1 l1 w hz.1 hz.2 hr0_0 hc0_0 hr1 hc1
 ·rw [if_neg hz] at h
  cases h
end Go.Proofs.Ytlpieciihlgdiaa.G
