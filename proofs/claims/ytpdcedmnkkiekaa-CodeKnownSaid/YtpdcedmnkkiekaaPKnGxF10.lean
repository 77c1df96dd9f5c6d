import Derived.Test.YtpdcedmnkkiekaaPKnGx0
import Derived.Test.YtpdcedmnkkiekaaPKnGxF21
set_option linter.unusedVariables false
set_option linter.unusedSimpArgs false
section
namespace Go.Proofs.Ytpdcedmnkkiekaa.G
open Go.RowKit Go.Proofs.YtpdcedmnkkiekaaW.PrintWords Go.Proofs.YtpdcedmnkkiekaaW.PrintLast Go.Proofs.YtpdcedmnkkiekaaW.PrintMore
attribute [local go_sem] max2_int min2_int max_two min_two max_three min_three max_four min_four
set_option linter.unusedVariables false
set_option linter.unusedSimpArgs false
structure Row where
  nm : ByteArray
  regs : Int
  kf : Nat
  cap : Array Value
  most : Int
def Row.cells (r : Row) : List Value := [.string r.nm, .int .i64 r.regs, .func (.func r.kf) #[] r.cap]
theorem store_whole {P : Program} {ops : Array Oper} {rest : List Oper} {o : Oper} {a : Act} {Q : Exit → Act → World → Prop} {W : World} (hgd : o.guard = none) (hN : o.dst = none) (t : TypeId) (p : Tmp) (x : Operand) (ho : o.op = .store t (.tmp p) x) {g : Nat} {u : Value} {seg : List Value} {cur : Array Value} {e : TypeId}
    (hp : a.eval (.tmp p) = .pointer (some ⟨g, 0, none⟩)) (hx : a.eval x = u) (hu : u.cells.toList = seg) (ht : (P.info? t).map (·.size) = some seg.length) (hh : W.heap[g]? = some (.cells cur e (0, 0))) (hsz : cur.size = seg.length) (h1 : ∀ q ∈ seg, q.oneCell' = true)
    (h : ∀ w', w'.heap[g]? = some (.cells seg.toArray e (0, 0)) → Below g W w' → (∀ k, k ≠ g → w'.heap[k]? = W.heap[k]?) → w'.heap.size = W.heap.size → wpList P ops Q rest a w') : wpList P ops Q (o :: rest) a W := by
  have hs := run_store_run (P := P) (o := 0) t u seg hh hu ht (by omega) h1
  refine store_event (w1 := W.setCells g 0 seg) hgd ho hN ?_ fun w' e' => ?_
  · simp [execOp, ho, hp, hx, hs, Result.andThen]
  · subst e'
    have hsame := setCells_same g seg 0 W
    refine h _ ?_ ⟨hsame.1, hsame.2.1, hsame.2.2.1, by rw [hsame.2.2.2]; exact Nat.le_refl _, fun k hk => setCells_far seg 0 k (by omega)⟩ (fun k hk => setCells_far seg 0 k hk) hsame.2.2.2
    obtain ⟨cur', h3, h4, h5⟩ := setCells_row seg 0 W cur hh (by omega)
    rw [h3]
    have : cur' = seg.toArray := by
      apply Array.toList_inj.mp
      rw [h5]
      simp [List.drop_eq_nil_of_le (show cur.toList.length ≤ 0 + seg.length by rw [Array.length_toList]; omega)]
      omega
    rw [this]
theorem below_any (m : Int) (w : World) : Calls Try.prog 34 #[.int .i64 m] w fun e w' => e = .returned (.func (.func 49) #[] #[.pointer (some ⟨w.heap.size, 0, none⟩)]) ∧ Below w.heap.size w w' ∧ w'.heap[w.heap.size]? = some (.cells #[.int .i64 m] 3 (0, 0)) ∧ w'.heap.size = w.heap.size + 1 := by
  have hmf : ∀ (fn : Fn) (first cap : Array Value) (w : World), (Instr.makeFunc fn first cap).run Try.prog w = .ok (.func fn first cap) w := fun _ _ _ _ => rfl
  go_enter Try.func34, Try.ntmps34
  go_wp2
  go_ret
  exact ⟨rfl, below_alloc (Below.refl _ _) _, blk_new w _, by simp⟩
theorem results_c1 {P : Program} {fn : Func} {p : Tmp} {ty : TypeId} {v : Value} (h : fn.results = #[.cell p ty]) (tmps : Array Value) (w : World) (g : Nat) (hp' : tmps.getD p undef = .pointer (some ⟨g, 0, none⟩)) (hrun : (loadVar ty ⟨g, 0, none⟩).run P w = .ok v w) :
    (results fn tmps).run P w = .ok v w := by
  have hp'' : tmps[p]?.getD undef = .pointer (some ⟨g, 0, none⟩) := by simpa using hp'
  simp [results, h, hp'', asAddr, hrun]
def rowsL (b : Nat) : List Row := [⟨⟨#[110, 105, 108]⟩, 1, 33, #[], 0⟩,
  ⟨⟨#[98, 111, 111, 108]⟩, 1, 49, #[.pointer (some ⟨b, 0, none⟩)], 2⟩,
  ⟨⟨#[99, 111, 110, 115, 116]⟩, 1, 35, #[], 0⟩,
  ⟨⟨#[99, 111, 112, 121]⟩, 1, 36, #[], 0⟩,
  ⟨⟨#[115, 116, 111, 114, 101]⟩, 1, 36, #[], 0⟩,
  ⟨⟨#[107, 105, 108, 108]⟩, 1, 33, #[], 0⟩,
  ⟨⟨#[103, 101, 116, 117, 112]⟩, 1, 37, #[], 0⟩,
  ⟨⟨#[115, 101, 116, 117, 112]⟩, 1, 37, #[], 0⟩,
  ⟨⟨#[98, 111, 120]⟩, 1, 33, #[], 0⟩,
  ⟨⟨#[103, 101, 116, 98, 111, 120]⟩, 1, 36, #[], 0⟩,
  ⟨⟨#[115, 101, 116, 98, 111, 120]⟩, 1, 36, #[], 0⟩,
  ⟨⟨#[103, 101, 116, 103, 108, 111, 98]⟩, 1, 38, #[], 0⟩,
  ⟨⟨#[115, 101, 116, 103, 108, 111, 98]⟩, 1, 38, #[], 0⟩,
  ⟨⟨#[116, 97, 98, 108, 101]⟩, 1, 33, #[], 0⟩,
  ⟨⟨#[103, 101, 116]⟩, 2, 33, #[], 0⟩,
  ⟨⟨#[115, 101, 116]⟩, 3, 33, #[], 0⟩,
  ⟨⟨#[112, 117, 116]⟩, 3, 33, #[], 0⟩,
  ⟨⟨#[99, 108, 111, 115, 117, 114, 101]⟩, 1, 39, #[], 0⟩,
  ⟨⟨#[99, 97, 108, 108]⟩, 1, 49, #[.pointer (some ⟨b + 1, 0, none⟩)], 21⟩,
  ⟨⟨#[114, 101, 116]⟩, 1, 33, #[], 0⟩,
  ⟨⟨#[106, 109, 112]⟩, 0, 40, #[], 0⟩,
  ⟨⟨#[105, 102]⟩, 1, 40, #[], 0⟩,
  ⟨⟨#[105, 102, 110, 111, 116]⟩, 1, 40, #[], 0⟩,
  ⟨⟨#[97, 110, 100]⟩, 1, 40, #[], 0⟩,
  ⟨⟨#[111, 114]⟩, 1, 40, #[], 0⟩,
  ⟨⟨#[110, 117, 109]⟩, 2, 49, #[.pointer (some ⟨b + 2, 0, none⟩)], 10⟩,
  ⟨⟨#[99, 97, 116]⟩, 2, 33, #[], 0⟩,
  ⟨⟨#[101, 113]⟩, 2, 33, #[], 0⟩,
  ⟨⟨#[108, 116]⟩, 2, 33, #[], 0⟩,
  ⟨⟨#[108, 101]⟩, 2, 33, #[], 0⟩,
  ⟨⟨#[110, 111, 116]⟩, 1, 33, #[], 0⟩,
  ⟨⟨#[110, 101, 103]⟩, 1, 33, #[], 0⟩,
  ⟨⟨#[108, 101, 110]⟩, 1, 33, #[], 0⟩,
  ⟨⟨#[102, 111, 114]⟩, 2, 40, #[], 0⟩,
  ⟨⟨#[110, 101, 120, 116]⟩, 2, 40, #[], 0⟩,
  ⟨⟨#[116, 114, 121]⟩, 1, 40, #[], 0⟩,
  ⟨⟨#[101, 110, 100, 116, 114, 121]⟩, 0, 33, #[], 0⟩]
def rowsV (b : Nat) : List Value := (rowsL b).flatMap Row.cells
def zrows : Array Value := ((List.replicate 37 ([.string ⟨#[]⟩, .int .i64 0, .nilFunc] : List Value)).flatten).toArray
theorem zero54 (w : World) : (zeroValue 54).run Try.prog w = .ok (.agg zrows) w := by kernel_rfl
theorem zrows_size : zrows.size = 111 := by kernel_rfl
theorem rowsV_len (b : Nat) : (rowsV b).length = 111 := by kernel_rfl
theorem rowsV_one (b : Nat) : ∀ q ∈ rowsV b, q.oneCell' = true := by
  intro q hq
  unfold rowsV at hq
  rw [List.mem_flatMap] at hq
  obtain ⟨r, _, hr⟩ := hq
  unfold Row.cells at hr
  simp only [List.mem_cons, List.not_mem_nil, or_false] at hr
  rcases hr with rfl | rfl | rfl <;> rfl
set_option maxHeartbeats 4000000 in
set_option maxRecDepth 100000 in
theorem rows_any (w : World) : Calls Try.prog 22 #[] w fun e w' => ∃ b, e = .returned (.agg (rowsV b).toArray) ∧ Below w.heap.size w w' ∧ w.heap.size ≤ b ∧ w'.heap[b]? = some (.cells #[.int .i64 2] 3 (0, 0)) ∧ w'.heap[b + 1]? = some (.cells #[.int .i64 21] 3 (0, 0)) ∧ w'.heap[b + 2]? = some (.cells #[.int .i64 10] 3 (0, 0)) := by
  have hz := zero54
  have hzs := zrows_size
  generalize zrows = Z at hz hzs
  go_enter Try.func22, Try.ntmps22
  go_wp2_with (first | ((with_reducible refine gate_dst (N := 0) rfl ?_); refine box_event ?hg (N := 0) ?hd (cs := Z) (t := 54) ?hr ?_; (case hd => rfl); (case hg => rfl); (case hr => first | (go_simp; done) | (go_simp; rfl)); intro g hg w1 hbox hb1))
  refine (below_any 2 _).mono ?_
  rintro e w2 ⟨rfl, bA, kA, sA⟩
  generalize hb0 : w1.heap.size = b at bA kA sA ⊢
  go_wp2_with (fail)
  refine (below_any 21 _).mono ?_
  rintro e w3 ⟨rfl, bB, kB, sB⟩
  rw [sA] at bB kB sB ⊢
  go_wp2_with (fail)
  refine (below_any 10 _).mono ?_
  rintro e w4 ⟨rfl, bC, kC, sC⟩
  rw [sB] at bC kC sC ⊢
  have hgl : g < b := by
    have := (Array.getElem?_eq_some_iff.1 hbox).1
    omega
  subst hg
  have kZ : w4.heap[w.heap.size]? = some (.cells Z 54 (0, 0)) := (bC.block _ (by omega)).trans ((bB.block _ (by omega)).trans ((bA.block _ hgl).trans hbox))
  have kA4 : w4.heap[b]? = some (.cells #[.int .i64 2] 3 (0, 0)) := (bC.block _ (by omega)).trans ((bB.block _ (by omega)).trans kA)
  have kB4 : w4.heap[b + 1]? = some (.cells #[.int .i64 21] 3 (0, 0)) := (bC.block _ (by omega)).trans kB
  have hB4 : Below w.heap.size w w4 := hb1.trans ((bA.mono (Nat.le_of_lt hgl)).trans ((bB.mono (by omega)).trans (bC.mono (by omega))))
  clear kA kB bA bB bC sA sB sC hbox hb1 hb0 hz
  go_wp2_with (first | ((with_reducible refine gate_dst (N := 41) rfl ?_); refine Kd.event_run (w1 := w4) (v := .agg (rowsV b).toArray) rfl (by kernel_rfl) ?_) | (refine store_whole rfl rfl 54 0 (.tmp 41) rfl (g := w.heap.size) (u := .agg (rowsV b).toArray) (seg := rowsV b) (cur := Z) (e := 54) rfl rfl (by simp [Value.cells]) (by kernel_rfl) kZ (by rw [hzs, rowsV_len]) (rowsV_one b) ?_; intro w5 k5 b5 f5 z5))
  (try simp only [Exit.inBlock, Exit.then])
  have hres := run_loadVar_row (P := Try.prog) w5 w.heap.size 54 54 (rowsV b).toArray (0, 0) _ k5 Try.underlying54 rfl (by kernel_rfl)
  exact ⟨rfl, .agg (rowsV b).toArray, results_c1 rfl _ w5 w.heap.size rfl hres, b, rfl, hB4.trans b5, by omega, (f5 _ (by omega)).trans kA4, (f5 _ (by omega)).trans kB4, (f5 _ (by omega)).trans kC⟩
theorem flat_at : ∀ (l : List Row) (k : Nat) (r : Row), l[k]? = some r → ((l.flatMap Row.cells).drop (k * 3)).take 3 = r.cells
  | [], k, r, h => by simp at h
  | x :: l, 0, r, h => by
    obtain rfl : x = r := by simpa using h
    rw [List.flatMap_cons]
    show (x.cells ++ l.flatMap Row.cells).take 3 = _
    exact List.take_left' rfl
  | x :: l, k + 1, r, h => by
    rw [List.flatMap_cons, show (k + 1) * 3 = x.cells.length + k * 3 by (show (k + 1) * 3 = 3 + k * 3); omega, ← List.drop_drop, List.drop_left]
    exact flat_at l k r (by simpa using h)
theorem rowsV_at (b k : Nat) (r : Row) (h : (rowsL b)[k]? = some r) : (rowsV b).toArray.extract (k * 3) (k * 3 + 3) = #[.string r.nm, .int .i64 r.regs, .func (.func r.kf) #[] r.cap] := by
  apply Array.toList_inj.mp
  rw [Array.toList_extract, List.toList_toArray]
  show ((rowsV b).drop (k * 3)).take (k * 3 + 3 - k * 3) = _
  rw [Nat.add_sub_cancel_left]
  exact flat_at _ _ _ h
theorem run_index54 (cs : Array Value) (i : Int) (h0 : 0 ≤ i) (h1 : i < 37) (w : World) : (Instr.index 54 (.agg cs) (.int .i64 i)).run Try.prog w = .ok (.agg (cs.extract (i.toNat * 3) (i.toNat * 3 + 3))) w := by
  have hs : (sizeOf 53).run Try.prog w = .ok 3 w := by kernel_rfl
  have ha : (isAgg 53).run Try.prog w = .ok true w := by kernel_rfl
  simp [Instr.index, run_underlying Try.underlying54, asIntOf, h0, h1, hs, ha, part, Sem.run_bind, Result.andThen]
theorem rowsL_len (b : Nat) : (rowsL b).length = 37 := rfl
theorem rowsL_get (b : Nat) (op : Int) (h0 : 0 ≤ op) (h1 : op < 37) : ∃ r, (rowsL b)[op.toNat]? = some r := ⟨_, List.getElem?_eq_getElem (by rw [rowsL_len]; omega)⟩
def nameS (op : Int) : ByteArray := if 0 ≤ op then (match (rowsL 0)[op.toNat]? with | some r => r.nm | none => ⟨#[]⟩) else ⟨#[]⟩
theorem rowsL_nm (b : Nat) : (rowsL b).map Row.nm = (rowsL 0).map Row.nm := rfl
theorem nameS_row (b : Nat) (op : Int) (h0 : 0 ≤ op) (r : Row) (h : (rowsL b)[op.toNat]? = some r) : nameS op = r.nm := by
  unfold nameS
  rw [if_pos h0]
  have h1 : ((rowsL b).map Row.nm)[op.toNat]? = some r.nm := by rw [List.getElem?_map, h]; rfl
  rw [rowsL_nm, List.getElem?_map] at h1
  cases h2 : (rowsL 0)[op.toNat]? with
  | none => rw [h2] at h1; cases h1
  | some x => rw [h2] at h1; exact Option.some.inj h1
theorem nameS_out (op : Int) (h : ¬ (0 ≤ op ∧ op < 37)) : nameS op = ⟨#[]⟩ := by
  unfold nameS
  by_cases h0 : 0 ≤ op
  · rw [if_pos h0, List.getElem?_eq_none (by rw [rowsL_len]; omega)]
  · rw [if_neg h0]
theorem among_eq (a b : Int) : code_among.f a b = some (decide (0 ≤ a ∧ a < b)) := by
  unfold code_among.f
  by_cases h : a ≥ 0
  · rw [if_pos h]; congr 1; rw [decide_eq_decide]; omega
  · rw [if_neg h]; congr 1; symm; rw [decide_eq_false_iff_not]; omega
theorem among_any (a b : Int) (w : World) : Calls Try.prog 21 #[.int .i64 a, .int .i64 b] w fun e w' => e = .returned (.bool (decide (0 ≤ a ∧ a < b))) ∧ Drawn0 w w' := code_among.calls a b _ w (among_eq a b)
set_option maxHeartbeats 4000000 in
set_option maxRecDepth 100000 in
theorem Name_any (op : Int) (w : World) : Calls Try.prog 10 #[.int .i64 op] w fun e w' => e = .returned (.string (nameS op)) ∧ Below w.heap.size w w' := by
  by_cases hin : 0 ≤ op ∧ op < 37
  · have hd := decide_eq_true hin
    go_enter Try.func10, Try.ntmps10
    go_wp2_with (go_at_call 21; (with_reducible refine (among_any op 37 _).mono ?_); rw [hd]; rintro e w' ⟨rfl, ⟨nd, rfl⟩⟩)
    refine (rows_any _).mono ?_
    rintro e w2 ⟨b, rfl, hb, _⟩
    obtain ⟨r, hr⟩ := rowsL_get b op hin.1 hin.2
    have hidx : ∀ w, (Instr.index 54 (.agg (rowsV b).toArray) (.int .i64 op)).run Try.prog w = .ok (.agg #[.string r.nm, .int .i64 r.regs, .func (.func r.kf) #[] r.cap]) w := fun w => by
      rw [run_index54 _ op hin.1 hin.2, rowsV_at b _ r hr]
    have hnm := Aside0.mk (nameS_row b op hin.1 r hr)
    clear hr
    generalize (rowsV b).toArray = V at hidx ⊢
    have hfld : ∀ (x y z : Value) (w : World), (Instr.field 53 (.agg #[x, y, z]) 0).run Try.prog w = .ok x w := fun _ _ _ _ => by kernel_rfl
    go_wp2
    go_ret
    exact ⟨by rw [hnm.out]; rfl, (pw_below_drewN (Below.refl _ _) _).trans hb⟩
  · have hd := decide_eq_false hin
    rw [nameS_out op hin]
    go_enter Try.func10, Try.ntmps10
    go_wp2_with (go_at_call 21; (with_reducible refine (among_any op 37 _).mono ?_); rw [hd]; rintro e w' ⟨rfl, ⟨nd, rfl⟩⟩)
    go_ret
    exact ⟨rfl, pw_below_drewN (Below.refl _ _) _⟩
def code_Name.f (a0 : Int) : Option (ByteArray) := some (nameS a0)
theorem code_Name.calls (a0 : Int) (r : ByteArray) (w : World) (h : code_Name.f a0 = some r) :
    Calls Try.prog 10 #[.int .i64 a0] w fun e w' => e = .returned (.string r) ∧ Below w.heap.size w w' := by
  obtain rfl := Option.some.inj h
  exact Name_any a0 w
end Go.Proofs.Ytpdcedmnkkiekaa.G
end
