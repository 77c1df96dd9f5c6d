import Derived.Test.YtpdcedmnkkiekaaPKnGx0
import Derived.Test.YtpdcedmnkkiekaaPKnGxF10
set_option linter.unusedVariables false
set_option linter.unusedSimpArgs false
section
namespace Go.Proofs.Ytpdcedmnkkiekaa.G
open Go.RowKit Go.Proofs.YtpdcedmnkkiekaaW.PrintWords Go.Proofs.YtpdcedmnkkiekaaW.PrintLast Go.Proofs.YtpdcedmnkkiekaaW.PrintMore
attribute [local go_sem] max2_int min2_int max_two min_two max_three min_three max_four min_four
set_option linter.unusedVariables false
set_option linter.unusedSimpArgs false
structure Tab (lb bb : Nat) (w : World) : Prop where
  tab : w.heap[lb]? = some (.cells (rowsV bb).toArray 54 (0, 0))
  two : w.cell? ⟨bb, 0, none⟩ = some (.int .i64 2)
  call : w.cell? ⟨bb + 1, 0, none⟩ = some (.int .i64 21)
  num : w.cell? ⟨bb + 2, 0, none⟩ = some (.int .i64 10)
theorem Tab.below {lb bb : Nat} {w w' : World} (h : Tab lb bb w) (hb : Below w.heap.size w w') : Tab lb bb w' :=
  ⟨(hb.block _ (Array.getElem?_eq_some_iff.1 h.tab).1).trans h.tab, (hb.cell (World.block_lt_of_cell? w _ h.two)).trans h.two, (hb.cell (World.block_lt_of_cell? w _ h.call)).trans h.call, (hb.cell (World.block_lt_of_cell? w _ h.num)).trans h.num⟩
theorem Tab.row {lb bb : Nat} {w : World} (h : Tab lb bb w) (k : Nat) (r : Row) (hr : (rowsL bb)[k]? = some r) : w.rangeAt lb (k * 3) r.cells := by
  intro j v hj
  rw [cell_of_row w lb (k * 3 + j) _ 54 (0, 0) h.tab]
  rw [List.getElem?_toArray]
  have h1 := flat_at _ _ _ hr
  have hj3 : j < 3 := by
    have := (List.getElem?_eq_some_iff.1 hj).1
    exact this
  have h2 : (((rowsV bb).drop (k * 3)).take 3)[j]? = some v := by unfold rowsV; rw [h1]; exact hj
  rw [List.getElem?_take_of_lt hj3, List.getElem?_drop] at h2
  exact h2
def firstN (name : ByteArray) : List ByteArray → Int → Int
  | [], _ => -1
  | x :: l, k => if (x.toList == name.toList) = true then k else firstN name l (k + 1)
def opOf (name : ByteArray) : Int := firstN name ((rowsL 0).map Row.nm) 0
set_option maxHeartbeats 4000000 in
set_option maxRecDepth 100000 in
theorem isNamed_any (r : Row) (g1 : Nat) (name : ByteArray) (w : World) (hn : w.cell? ⟨g1, 0, none⟩ = some (.string name)) :
    Calls Try.prog 24 #[.agg #[.string r.nm, .int .i64 r.regs, .func (.func r.kf) #[] r.cap], .pointer (some ⟨g1, 0, none⟩)] w fun e w' => e = .returned (.bool (r.nm.toList == name.toList)) ∧ Below w.heap.size w w' := by
  go_enter Try.func24, Try.ntmps24
  go_wp2_with ((with_reducible refine gate_dst (N := 2) rfl ?_); refine box_event ?hg (N := 2) ?hd (cs := #[.string r.nm, .int .i64 r.regs, .func (.func r.kf) #[] r.cap]) (t := 53) ?hr ?_; (case hd => rfl); (case hg => rfl); (case hr => first | (go_simp; done) | (go_simp; rfl)); intro g3 hg3 w3 hbox3 hb3; have G3 := Aside0.mk hg3; clear hg3; have hn' := (hb3.cell (p := ⟨g1, 0, none⟩) (World.block_lt_of_cell? w _ hn)).trans hn; have HB3 := Aside0.mk hb3; clear hb3; have C30 : w3.cell? ⟨g3, 0, none⟩ = some (.string r.nm) := (blk_cell hbox3 0).trans rfl; clear hbox3)
  go_ret
  exact ⟨by first | rfl | simp, HB3.out⟩
set_option maxHeartbeats 4000000 in
set_option maxRecDepth 100000 in
theorem indexN_any (lb bb g1 : Nat) (name : ByteArray) (w : World) (hT : Tab lb bb w) (hn : w.cell? ⟨g1, 0, none⟩ = some (.string name)) :
    Calls Try.prog 23 #[.slice (some ⟨lb, 0, none⟩) 37 37, .func (.func 24) #[] #[.pointer (some ⟨g1, 0, none⟩)]] w
      fun e w' => e = .returned (.int .i64 (opOf name)) ∧ Below w.heap.size w w' := by
  have HT := Aside0.mk hT
  have HN := Aside0.mk hn
  clear hT hn
  go_enter Try.func23, Try.ntmps23
  go_wp2_with fail
  go_loopw [8] (fun v wr => ∃ k : Nat, v = .int .i64 k ∧ k ≤ 37 ∧ firstN name (((rowsL 0).map Row.nm).drop k) k = opOf name ∧ Below w.heap.size w wr) (fun v _ => 37 - (intOf v).toNat)
  case atStart => exact ⟨0, rfl, Nat.zero_le _, rfl, Below.refl _ _⟩
  case round =>
    obtain ⟨k, rfl, hk, hidx, hbel⟩ := hrel
    have HI := Aside0.mk hidx
    have HBL := Aside0.mk hbel
    have HTr := Aside0.mk (HT.out.below hbel)
    have hn2 := (hbel.cell (p := ⟨g1, 0, none⟩) (World.block_lt_of_cell? w _ HN.out)).trans HN.out
    clear hidx hbel
    by_cases hlt : k < 37
    · obtain ⟨r, hr⟩ := rowsL_get bb k (by omega) (by omega)
      rw [Int.toNat_natCast] at hr
      have hrow := HTr.out.row k r hr
      have c0 : wr.cell? ⟨lb, k * 3, none⟩ = some (.string r.nm) := hrow 0 _ rfl
      have c1 : wr.cell? ⟨lb, k * 3 + 1, none⟩ = some (.int .i64 r.regs) := hrow 1 _ rfl
      have c2 : wr.cell? ⟨lb, k * 3 + 2, none⟩ = some (.func (.func r.kf) #[] r.cap) := hrow 2 _ rfl
      have hx : ((rowsL 0).map Row.nm).drop k = r.nm :: ((rowsL 0).map Row.nm).drop (k + 1) := by
        have h1 : ((rowsL 0).map Row.nm)[k]? = some r.nm := by rw [← rowsL_nm bb, List.getElem?_map, hr]; rfl
        obtain ⟨hl, he⟩ := List.getElem?_eq_some_iff.1 h1
        rw [List.drop_eq_getElem_cons hl, he]
      have HX := Aside0.mk hx
      clear hx hrow hr
      go_wp2_with fail
      refine (isNamed_any r g1 name wr hn2).mono ?_
      rintro e w8 ⟨rfl, hb8⟩
      cases hpx : (r.nm.toList == name.toList) with
      | true =>
        have hz := Aside0.mk (show opOf name = k by rw [← HI.out, HX.out]; show (if (r.nm.toList == name.toList) = true then (k : Int) else _) = k; rw [if_pos hpx])
        have HB8 := Aside0.mk (HBL.out.trans (hb8.mono HBL.out.size))
        clear hb8
        go_wp2_with fail
        go_ret
        exact ⟨by rw [hz.out]; rfl, HB8.out⟩
      | false =>
        have hz := Aside0.mk (show firstN name (((rowsL 0).map Row.nm).drop (k + 1)) ((k + 1 : Nat) : Int) = opOf name by
          rw [← HI.out, HX.out]
          show _ = (if (r.nm.toList == name.toList) = true then (k : Int) else firstN name (((rowsL 0).map Row.nm).drop (k + 1)) ((k : Int) + 1))
          rw [if_neg (by rw [hpx]; decide)]
          rfl)
        have HB8 := Aside0.mk (HBL.out.trans (hb8.mono HBL.out.size))
        clear hb8
        go_wp2_with fail
        go_roundw
        case rel => exact ⟨k + 1, by simp, hlt, hz.out, HB8.out⟩
        case measure => simp [intOf]; omega
    · have hk37 : k = 37 := by omega
      subst hk37
      have hz := Aside0.mk (show opOf name = -1 by rw [← HI.out]; rfl)
      go_wp2_with fail
      go_ret
      exact ⟨by rw [hz.out]; rfl, HBL.out⟩
set_option maxHeartbeats 4000000 in
set_option maxRecDepth 100000 in
theorem Op_any (name : ByteArray) (w : World) : Calls Try.prog 12 #[.string name] w fun e w' => e = .returned (.int .i64 (opOf name)) ∧ Below w.heap.size w w' := by
  have hz := zero54
  have hzs := zrows_size
  generalize zrows = Z at hz hzs
  have hmf : ∀ (fn : Fn) (first cap : Array Value) (w : World), (Instr.makeFunc fn first cap).run Try.prog w = .ok (.func fn first cap) w := fun _ _ _ _ => rfl
  go_enter Try.func12, Try.ntmps12
  go_wp2_with ((with_reducible refine gate_dst (N := 1) rfl ?_); refine box_event ?hg (N := 1) ?hd (cs := #[.string name]) (t := 9) ?hr ?_; (case hd => rfl); (case hg => rfl); (case hr => first | (go_simp; done) | (go_simp; rfl)); intro g1 hg1 w1 hbox1 hb1; have G1 := Aside0.mk hg1; clear hg1; have BK1 := Aside0.mk hbox1; have HB1 := Aside0.mk hb1; clear hbox1 hb1)
  refine (rows_any _).mono ?_
  rintro e wT ⟨bb, rfl, hbT, hbb, kT0, kT1, kT2⟩
  have BK2 := Aside0.mk (blk_below (g := g1) BK1.out hbT)
  have HBT := Aside0.mk (HB1.out.trans (hbT.mono HB1.out.size))
  have KT0 := Aside0.mk kT0
  have KT1 := Aside0.mk kT1
  have KT2 := Aside0.mk kT2
  clear BK1 HB1 hbT hbb kT0 kT1 kT2
  go_wp2_with (first | ((with_reducible refine gate_dst (N := 3) rfl ?_); refine box_event ?hg (N := 3) ?hd (cs := Z) (t := 54) ?hr ?_; (case hd => rfl); (case hg => rfl); (case hr => first | (go_simp; done) | (go_simp; rfl)); intro gl hgl wA hboxA hbA; have BKA := Aside0.mk hboxA; have HBA := Aside0.mk hbA; have GLA := Aside0.mk hgl; clear hgl hboxA hbA) | (refine store_whole rfl rfl 54 3 (.tmp 4) rfl (g := gl) (u := .agg (rowsV bb).toArray) (seg := rowsV bb) (cur := Z) (e := 54) rfl rfl (by simp [Value.cells]) (by kernel_rfl) BKA.out (by rw [hzs, rowsV_len]) (rowsV_one bb) ?_; intro w5 kTab bTab fTab zTab; have hAw := Aside0.mk (HBA.out.trans (bTab.mono (by rw [GLA.out]; exact Nat.le_refl _))); have KTAB := Aside0.mk kTab; clear kTab bTab fTab zTab))
  have HTB := Aside0.mk (Tab.mk KTAB.out ((blk_cell ((hAw.out.block _ (Array.getElem?_eq_some_iff.1 KT0.out).1).trans KT0.out) 0).trans rfl) ((blk_cell ((hAw.out.block _ (Array.getElem?_eq_some_iff.1 KT1.out).1).trans KT1.out) 0).trans rfl) ((blk_cell ((hAw.out.block _ (Array.getElem?_eq_some_iff.1 KT2.out).1).trans KT2.out) 0).trans rfl))
  have hnm := (blk_cell (blk_below (g := g1) BK2.out hAw.out) 0).trans rfl
  refine (indexN_any gl bb g1 name _ HTB.out hnm).mono ?_
  rintro e w8 ⟨rfl, hb8⟩
  have HB8 := Aside0.mk ((HBT.out.trans (hAw.out.mono HBT.out.size)).trans (hb8.mono (HBT.out.trans (hAw.out.mono HBT.out.size)).size))
  clear hb8
  go_wp2_with fail
  go_ret
  exact ⟨rfl, HB8.out⟩
def code_Op.f (a0 : ByteArray) : Option (Int) := some (opOf a0)
theorem code_Op.calls (a0 : ByteArray) (r : Int) (w : World) (h : code_Op.f a0 = some r) :
    Calls Try.prog 12 #[.string a0] w fun e w' => e = .returned (.int .i64 r) ∧ Below w.heap.size w w' := by
  obtain rfl := Option.some.inj h
  exact Op_any a0 w
end Go.Proofs.Ytpdcedmnkkiekaa.G
end
