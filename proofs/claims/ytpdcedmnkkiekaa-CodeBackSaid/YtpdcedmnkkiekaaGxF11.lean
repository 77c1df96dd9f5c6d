-- written by a program of this session (handprint.sh), over functions proved by hand
import Derived.Test.YtpdcedmnkkiekaaGx0
import Derived.Test.YtpdcedmnkkiekaaGxF10
namespace Go.Proofs.Ytpdcedmnkkiekaa.G
open Go.RowKit Go.Proofs.YtpdcedmnkkiekaaW.PrintWords Go.Proofs.YtpdcedmnkkiekaaW.PrintLast Go.Proofs.YtpdcedmnkkiekaaW.PrintMore
attribute [local go_sem] max2_int min2_int max_two min_two max_three min_three max_four min_four   -- for this text's walks alone
set_option linter.unusedVariables false
set_option linter.unusedSimpArgs false

/-! ### tallowref20_Name: function 11 -/
def nmV : List Value := ((rowsL 0).map Row.nm).map Value.string
def zstr : Array Value := (List.replicate 37 (Value.string ⟨#[]⟩)).toArray
theorem zero56 (w : World) : (zeroValue 56).run Try.prog w = .ok (.agg zstr) w := by kernel_rfl
theorem zstr_size : zstr.size = 37 := by kernel_rfl
theorem nmV_len : nmV.length = 37 := rfl
theorem nmV_one : ∀ q ∈ nmV, q.oneCell' = true := by
  intro q hq
  unfold nmV at hq
  rw [List.mem_map] at hq
  obtain ⟨x, _, rfl⟩ := hq
  rfl
theorem nmV_at (op : Int) (h : 0 ≤ op ∧ op < 37) : nmV[op.toNat]? = some (.string (nameS op)) := by
  obtain ⟨r, hr⟩ := rowsL_get 0 op h.1 h.2
  rw [nameS_row 0 op h.1 r hr]
  unfold nmV
  rw [List.getElem?_map, List.getElem?_map, hr]
  rfl
set_option maxHeartbeats 4000000 in
set_option maxRecDepth 100000 in
theorem rName_any (op : Int) (w : World) : Calls Try.prog 11 #[.int .i64 op] w fun e w' => e = .returned (.string (nameS op)) ∧ Below w.heap.size w w' := by
  have hz := zero56
  have hzs := zstr_size
  generalize zstr = Z at hz hzs
  generalize hres : nameS op = res
  have HRES := Aside0.mk hres
  clear hres
  by_cases hin : 0 ≤ op ∧ op < 37
  · have d1 : decide (op < 0) = false := decide_eq_false (by omega)
    have d2 : decide (36 < op) = false := decide_eq_false (by omega)
    go_enter Try.func11, Try.ntmps11
    go_wp2_with (first | ((with_reducible refine gate_dst (N := 4) rfl ?_); refine Kd.event_run (w1 := w) (v := .agg nmV.toArray) rfl (by kernel_rfl) ?_) | ((with_reducible refine gate_dst (N := 3) rfl ?_); refine box_event ?hg (N := 3) ?hd (cs := Z) (t := 56) ?hr ?_; (case hd => rfl); (case hg => rfl); (case hr => first | (go_simp; done) | (go_simp; rfl)); intro gl hgl wA hboxA hbA; have BKA := Aside0.mk hboxA; have HBA := Aside0.mk hbA; have GLA := Aside0.mk hgl; clear hgl hboxA hbA; refine store_whole rfl rfl 56 3 (.tmp 4) rfl (g := gl) (u := .agg nmV.toArray) (seg := nmV) (cur := Z) (e := 56) rfl rfl (by simp [Value.cells]) (by kernel_rfl) BKA.out (by rw [hzs, nmV_len]) nmV_one ?_; intro w5 kTab bTab fTab zTab; have HB5 := Aside0.mk (HBA.out.trans (bTab.mono (by rw [GLA.out]; exact Nat.le_refl _))); have KTAB := Aside0.mk kTab; clear kTab bTab fTab zTab hz hzs; have hcell : w5.cell? ⟨gl, op.toNat, none⟩ = some (.string res) := (blk_cell KTAB.out op.toNat).trans (by rw [List.getElem?_toArray, nmV_at op hin, HRES.out])))
    go_ret
    exact ⟨rfl, HB5.out⟩
  · have hr : res = ⟨#[]⟩ := by rw [← HRES.out]; exact nameS_out op hin
    by_cases h0 : op < 0
    · have d1 : decide (op < 0) = true := decide_eq_true h0
      go_enter Try.func11, Try.ntmps11
      go_wp2_with (first | ((with_reducible refine gate_dst (N := 4) rfl ?_); refine Kd.event_run (w1 := w) (v := .agg nmV.toArray) rfl (by kernel_rfl) ?_) | ((with_reducible refine gate_dst (N := 3) rfl ?_); refine box_event ?hg (N := 3) ?hd (cs := Z) (t := 56) ?hr ?_; (case hd => rfl); (case hg => rfl); (case hr => first | (go_simp; done) | (go_simp; rfl)); intro gl hgl wA hboxA hbA; have BKA := Aside0.mk hboxA; have HBA := Aside0.mk hbA; have GLA := Aside0.mk hgl; clear hgl hboxA hbA; refine store_whole rfl rfl 56 3 (.tmp 4) rfl (g := gl) (u := .agg nmV.toArray) (seg := nmV) (cur := Z) (e := 56) rfl rfl (by simp [Value.cells]) (by kernel_rfl) BKA.out (by rw [hzs, nmV_len]) nmV_one ?_; intro w5 kTab bTab fTab zTab; have HB5 := Aside0.mk (HBA.out.trans (bTab.mono (by rw [GLA.out]; exact Nat.le_refl _))); have KTAB := Aside0.mk kTab; clear kTab bTab fTab zTab hz hzs))
      go_ret
      first | exact ⟨by rw [hr]; rfl, HB5.out⟩ | exact ⟨rfl, HB5.out⟩
    · have d1 : decide (op < 0) = false := decide_eq_false h0
      have d2 : decide (36 < op) = true := decide_eq_true (by omega)
      go_enter Try.func11, Try.ntmps11
      go_wp2_with (first | ((with_reducible refine gate_dst (N := 4) rfl ?_); refine Kd.event_run (w1 := w) (v := .agg nmV.toArray) rfl (by kernel_rfl) ?_) | ((with_reducible refine gate_dst (N := 3) rfl ?_); refine box_event ?hg (N := 3) ?hd (cs := Z) (t := 56) ?hr ?_; (case hd => rfl); (case hg => rfl); (case hr => first | (go_simp; done) | (go_simp; rfl)); intro gl hgl wA hboxA hbA; have BKA := Aside0.mk hboxA; have HBA := Aside0.mk hbA; have GLA := Aside0.mk hgl; clear hgl hboxA hbA; refine store_whole rfl rfl 56 3 (.tmp 4) rfl (g := gl) (u := .agg nmV.toArray) (seg := nmV) (cur := Z) (e := 56) rfl rfl (by simp [Value.cells]) (by kernel_rfl) BKA.out (by rw [hzs, nmV_len]) nmV_one ?_; intro w5 kTab bTab fTab zTab; have HB5 := Aside0.mk (HBA.out.trans (bTab.mono (by rw [GLA.out]; exact Nat.le_refl _))); have KTAB := Aside0.mk kTab; clear kTab bTab fTab zTab hz hzs))
      go_ret
      first | exact ⟨by rw [hr]; rfl, HB5.out⟩ | exact ⟨rfl, HB5.out⟩
def tallowref20_Name.f (a0 : Int) : Option (ByteArray) := some (nameS a0)
theorem tallowref20_Name.calls (a0 : Int) (r : ByteArray) (w : World) (h : tallowref20_Name.f a0 = some r) :
    Calls Try.prog 11 #[.int .i64 a0] w fun e w' => e = .returned (.string r) ∧ Below w.heap.size w w' := by
  obtain rfl := Option.some.inj h
  exact rName_any a0 w


end Go.Proofs.Ytpdcedmnkkiekaa.G
