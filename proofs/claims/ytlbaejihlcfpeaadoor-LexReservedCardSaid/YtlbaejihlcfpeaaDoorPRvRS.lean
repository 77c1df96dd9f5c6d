import Derived.LaidMore
import Derived.LaidHandle
import Derived.Stop.Joined
import Derived.Lib.IfaceEq
import Derived.Lib.IndexMore
import Derived.Shelf.Abstract
import Derived.LaidEql
import Derived.Stop.Asserts
import Derived.RowKitTokens
import Derived.Lib.LaidTab
import Derived.Lib.AppendIntMem
import Derived.Stop.LaidErr
import Derived.WalkKit
import Derived.Deep.RegionLaw
import Derived.Deep.Cut
import Derived.WalkSpells
import Derived.Maps.OwnOps
import Derived.Maps.OwnSet
import Derived.Maps.Views
import Derived.Maps.RangeWalk
import Derived.Maps.Own
import Derived.Test.YtlbaejihlcfpeaaDoorPRvLX
import Derived.Lib.Hide
set_option linter.unusedVariables false
set_option linter.unusedSimpArgs false
section
namespace Go.Proofs.YtlbaejihlcfpeaaDoor.G
open Go.Proofs.YtlbaejihlcfpeaaDoor.G
open Go.Shelf Go.Extern.Stop Go.Stop Go.Extern Go.RowKit Go.Proofs.YtlbaejihlcfpeaaDoorW.PrintWords Go.Proofs.YtlbaejihlcfpeaaDoorW.PrintLast Go.Proofs.YtlbaejihlcfpeaaDoorW.PrintMore
set_option linter.unusedVariables false
set_option linter.unusedSimpArgs false
def resA (k : Nat) : ByteArray := ⟨(resW.getD k []).toArray⟩
def resC : List Value := (List.range 20).map fun k => .string (resA k)
theorem resA_list (k : Nat) : (resA k).data.toList = resW.getD k [] := by unfold resA; simp
theorem data_inj {a b : ByteArray} (h : a.data.toList = b.data.toList) : a = b := by
  cases a; cases b; congr 1; exact Array.toList_inj.mp h
theorem toList_data' (p : ByteArray) : p.toList = p.data.toList := by cases p; exact ByteArray.toList_mk _
theorem res_of {a : ByteArray} {k : Nat} (hk : k < 20) (h : (resA k).toList = a.toList) : resF a.data.toList = true := by
  rw [toList_data', toList_data', resA_list] at h
  unfold resF
  rw [← h]
  have hl : k < resW.length := hk
  rw [List.getD_eq_getElem?_getD, List.getElem?_eq_getElem hl]
  exact List.contains_iff_mem.mpr (List.getElem_mem hl)
theorem res_none {a : ByteArray} (h : ∀ k, k < 20 → (resA k).toList ≠ a.toList) : resF a.data.toList = false := by
  cases hr : resF a.data.toList with
  | false => rfl
  | true =>
    have hm := List.contains_iff_mem.mp hr
    obtain ⟨k, hk, he⟩ := List.mem_iff_getElem.mp hm
    refine absurd ?_ (h k hk)
    rw [toList_data', toList_data', resA_list, List.getD_eq_getElem?_getD, List.getElem?_eq_getElem hk]
    exact he
theorem resC_at {k : Nat} (h : k < 20) : resC.toArray[k]? = some (.string (resA k)) := by
  have : k < (List.range 20).length := by simpa using h
  unfold resC
  rw [List.getElem?_toArray, List.getElem?_map, List.getElem?_range h]
  rfl
theorem store_whole {P : Program} {ops : Array Oper} {rest : List Oper} {o : Oper} {a : Act} {Q : Exit → Act → World → Prop} {W : World} (hgd : o.guard = none) (hN : o.dst = none) (t : TypeId) (p : Tmp) (x : Operand) (ho : o.op = .store t (.tmp p) x) {g : Nat} {u : Value} {seg : List Value} {cur : Array Value} {e : TypeId}
    (hp : a.eval (.tmp p) = .pointer (some ⟨g, 0, none⟩)) (hx : a.eval x = u) (hu : u.cells.toList = seg) (ht : (P.info? t).map (·.size) = some seg.length) (hh : W.heap[g]? = some (.cells cur e (0, 0))) (hsz : cur.size = seg.length) (h1 : ∀ q ∈ seg, q.oneCell' = true)
    (h : ∀ w', w'.heap[g]? = some (.cells seg.toArray e (0, 0)) → Below g W w' → (∀ k, k ≠ g → w'.heap[k]? = W.heap[k]?) → w'.heap.size = W.heap.size → wpList P ops Q rest a w') : wpList P ops Q (o :: rest) a W := by
  have hs := run_store_run (P := P) (o := 0) t u seg hh hu ht (by omega) h1
  refine store_event (w1 := W.setCells g 0 seg) hgd ho hN ?_ fun w' e' => ?_
  · simp [execOp, ho, hp, hx, hs, Result.andThen]
  · subst e'
    have hsame := setCells_same g seg 0 W
    refine h _ ?_ ⟨hsame.1, hsame.2.1, hsame.2.2.1, by rw [hsame.2.2.2]; exact Nat.le_refl _, fun k hk => setCells_far seg 0 k (by omega)⟩ (fun k hk => setCells_far seg 0 k hk) hsame.2.2.2
    obtain ⟨cur', h3, h4, h5⟩ := setCells_row seg 0 W cur hh (by omega)
    rw [h3]
    have : cur' = seg.toArray := by
      apply Array.toList_inj.mp
      rw [h5]
      simp [List.drop_eq_nil_of_le (show cur.toList.length ≤ 0 + seg.length by rw [Array.length_toList]; omega)]
      omega
    rw [this]
theorem resC_len : resC.length = 20 := by kernel_rfl
theorem resC_one : ∀ q ∈ resC, q.oneCell' = true := by
  intro q hq
  unfold resC at hq
  rw [List.mem_map] at hq
  obtain ⟨x, _, rfl⟩ := hq
  rfl
def z110 : Array Value := (List.replicate 20 (Value.string ⟨#[]⟩)).toArray
theorem zero110 (w : World) : (zeroValue 36).run Tryd.prog w = .ok (.agg z110) w := by kernel_rfl
theorem z110_size : z110.size = 20 := by kernel_rfl
set_option maxHeartbeats 4000000 in
set_option maxRecDepth 100000 in
theorem ref_res_any (a0 : ByteArray) (w : World) : Calls Tryd.prog 6 #[.string a0] w fun e w' => e = .returned (.bool (resF a0.data.toList)) ∧ Below w.heap.size w w' := by
  have hz := zero110
  have hzs := z110_size
  generalize z110 = Z at hz hzs
  generalize hres : resF a0.data.toList = res
  have HRES := Aside0.mk hres
  clear hres
  go_enter Tryd.func6, Tryd.ntmps6
  go_wp2_with (first | ((with_reducible refine gate_dst (N := 5) rfl ?_); refine Kd.event_run (w1 := w) (v := .agg resC.toArray) rfl (by kernel_rfl) ?_) | ((with_reducible refine gate_dst (N := 3) rfl ?_); refine box_event ?hg (N := 3) ?hd (cs := Z) (t := 36) ?hr ?_; (case hd => rfl); (case hg => rfl); (case hr => first | (go_simp; done) | (go_simp; rfl)); intro gl hgl wA hboxA hbA; have BKA := Aside0.mk hboxA; have HBA := Aside0.mk hbA; have GLA := Aside0.mk hgl; clear hgl hboxA hbA; refine store_whole rfl rfl 36 3 (.tmp 5) rfl (g := gl) (u := .agg resC.toArray) (seg := resC) (cur := Z) (e := 36) rfl rfl (by simp [Value.cells]) (by kernel_rfl) BKA.out (by rw [hzs, resC_len]) resC_one ?_; intro w5 kTab bTab fTab zTab; have HB5 := Aside0.mk (HBA.out.trans (bTab.mono (by rw [GLA.out]; exact Nat.le_refl _))); have KTAB := Aside0.mk kTab; clear kTab bTab fTab zTab hz hzs))
  go_loopw [4] (fun v4 wr => ∃ k : Nat, v4 = .int .i64 k ∧ k ≤ 20 ∧ Aside0 (∀ j, j < k → (resA j).toList ≠ a0.toList) ∧ Aside0 (wr.heap[gl]? = some (.cells resC.toArray 36 (0, 0))) ∧ Aside0 (Below w.heap.size w wr)) (fun v4 _ => 20 - (intOf v4).toNat)
  case atStart => exact ⟨0, rfl, by omega, ⟨fun j h => by omega⟩, KTAB, HB5⟩
  case round =>
    clear KTAB HB5 HBA GLA BKA
    obtain ⟨k, rfl, hk, HN, KT, HB⟩ := hrel
    by_cases hk5 : k < 20
    · have hlt : decide ((k : Int) < 20) = true := decide_eq_true (by omega)
      have hk5i : (k : Int) < 20 := by omega
      have hcell : wr.cell? ⟨gl, k, none⟩ = some (.string (resA k)) := (blk_cell KT.out k).trans (resC_at hk5)
      generalize hq : resA k = q at hcell
      have HQ := Aside0.mk hq
      clear hq
      by_cases he : q.toList = a0.toList
      · have hb : (q.toList == a0.toList) = true := beq_iff_eq.mpr he
        have hr : res = true := by rw [← HRES.out]; exact res_of hk5 (by rw [HQ.out]; exact he)
        clear he
        go_wp2_with fail
        go_ret
        exact ⟨by first | rfl | (rw [hr]; rfl), HB.out⟩
      · have hb : (q.toList == a0.toList) = false := beq_eq_false_iff_ne.mpr he
        go_wp2_with fail
        go_roundw
        case rel => exact ⟨k + 1, by go_num, by omega, ⟨fun j hj => by
          by_cases e : j = k
          · subst e; rw [HQ.out]; exact he
          · exact HN.out j (by omega)⟩, KT, HB⟩
        case measure => simp [intOf]; omega
    · have hlt : decide ((k : Int) < 20) = false := decide_eq_false (by omega)
      have hk5i : ¬ (k : Int) < 20 := by omega
      have hr : res = false := by rw [← HRES.out]; exact res_none (fun j hj => HN.out j (by omega))
      go_wp2_with fail
      go_ret
      exact ⟨by first | rfl | (rw [hr]; rfl), HB.out⟩
end Go.Proofs.YtlbaejihlcfpeaaDoor.G
end
