import Derived.Test.YtkkgbbfojmnopaaPReGx0
import Derived.Test.YtkkgbbfojmnopaaPReGxF52
import Derived.Test.YtkkgbbfojmnopaaPReGxF60
import Derived.Test.YtkkgbbfojmnopaaPReGxF54
import Derived.Test.YtkkgbbfojmnopaaPReGxF55
import Derived.Test.YtkkgbbfojmnopaaPReGxF56
import Derived.Test.YtkkgbbfojmnopaaPReGxF57
import Derived.Test.YtkkgbbfojmnopaaPReGxF58
import Derived.Test.YtkkgbbfojmnopaaPReGxF59
set_option maxHeartbeats 8000000
set_option maxRecDepth 100000
set_option linter.unusedVariables false
set_option linter.unusedSimpArgs false
section
namespace Go.Proofs.Ytkkgbbfojmnopaa.G
open Go.RowKit Go.Proofs.YtkkgbbfojmnopaaW.PrintWords Go.Proofs.YtkkgbbfojmnopaaW.PrintLast Go.Proofs.YtkkgbbfojmnopaaW.PrintMore
attribute [local go_sem] q26q q27q q34q q35q q22q q23q q28q q29q
structure Row where
 nm : ByteArray
 regs : Int
 kf : Nat
 cap : Array Value
 most : Int
def Row.cells (r : Row) : List Value := [.string r.nm, .int .i64 r.regs, .func (.func r.kf) #[] r.cap]
theorem store_whole {P : Program} {ops : Array Oper} {rest : List Oper} {o : Oper} {a : Act} {Q : Exit → Act → World → Prop} {W : World} (hgd : o.guard = none) (hN : o.dst = none) (t : TypeId) (p : Tmp) (x : Operand) (ho : o.op = .store t (.tmp p) x) {g : Nat} {u : Value} {seg : List Value} {cur : Array Value} {e : TypeId}
  (hp : a.eval (.tmp p) = .pointer (some ⟨g, 0, none⟩)) (hx : a.eval x = u) (hu : u.cells.toList = seg) (ht : (P.info? t).map (·.size) = some seg.length) (hh : W.heap[g]? = some (.cells cur e (0, 0))) (hsz : cur.size = seg.length) (h1 : ∀ q ∈ seg, q.oneCell' = true)
  (h : ∀ w', w'.heap[g]? = some (.cells seg.toArray e (0, 0)) → Below g W w' → (∀ k, k ≠ g → w'.heap[k]? = W.heap[k]?) → w'.heap.size = W.heap.size → wpList P ops Q rest a w') : wpList P ops Q (o :: rest) a W := by
 have hs := run_store_run (P := P) (o := 0) t u seg hh hu ht (by omega) h1
 refine store_event (w1 := W.setCells g 0 seg) hgd ho hN ?_ fun w' e' => ?_
 ·simp [execOp, ho, hp, hx, hs, Result.andThen]
 ·subst e'
  have hsame := setCells_same g seg 0 W
  refine h _ ?_ ⟨hsame.1, hsame.2.1, hsame.2.2.1, by rw [hsame.2.2.2]; exact Nat.le_refl _, fun k hk => setCells_far seg 0 k (by omega)⟩ (fun k hk => setCells_far seg 0 k hk) hsame.2.2.2
  obtain ⟨cur', h3, h4, h5⟩ := setCells_row seg 0 W cur hh (by omega)
  rw [h3]
  have : cur' = seg.toArray := by
   apply Array.toList_inj.mp
   rw [h5]
   simp [List.drop_eq_nil_of_le (show cur.toList.length ≤ 0 + seg.length by rw [Array.length_toList]; omega)]
   omega
  rw [this]
theorem below_any (m : Int) (w : World) : Calls Try.prog 53 #[.int .i64 m] w fun e w' => e = .returned (.func (.func 70) #[] #[.pointer (some ⟨w.heap.size, 0, none⟩)]) ∧ Below w.heap.size w w' ∧ w'.heap[w.heap.size]? = some (.cells #[.int .i64 m] 3 (0, 0)) ∧ w'.heap.size = w.heap.size + 1 := by
 have hmf : ∀ (fn : Fn) (first cap : Array Value) (w : World), (Instr.makeFunc fn first cap).run Try.prog w = .ok (.func fn first cap) w := fun _ _ _ _ => rfl
 go_enter Try.func53, Try.ntmps53
 go_wp2
 go_ret
 exact ⟨rfl, q4q (Below.refl _ _) _, blk_new w _, by simp⟩
theorem results_c1 {P : Program} {fn : Func} {p : Tmp} {ty : TypeId} {v : Value} (h : fn.results = #[.cell p ty]) (tmps : Array Value) (w : World) (g : Nat) (hp' : tmps.getD p undef = .pointer (some ⟨g, 0, none⟩)) (hrun : (loadVar ty ⟨g, 0, none⟩).run P w = .ok v w) :
  (results fn tmps).run P w = .ok v w := by
 have hp'' : tmps[p]?.getD undef = .pointer (some ⟨g, 0, none⟩) := by simpa using hp'
 simp [results, h, hp'', asAddr, hrun]
def rowsL (b : Nat) : List Row := [⟨⟨#[110, 105, 108]⟩, 1, 52, #[], 0⟩,
 ⟨⟨#[98, 111, 111, 108]⟩, 1, 70, #[.pointer (some ⟨b, 0, none⟩)], 2⟩,
 ⟨⟨#[99, 111, 110, 115, 116]⟩, 1, 54, #[], 0⟩,
 ⟨⟨#[99, 111, 112, 121]⟩, 1, 55, #[], 0⟩,
 ⟨⟨#[115, 116, 111, 114, 101]⟩, 1, 55, #[], 0⟩,
 ⟨⟨#[107, 105, 108, 108]⟩, 1, 52, #[], 0⟩,
 ⟨⟨#[103, 101, 116, 117, 112]⟩, 1, 56, #[], 0⟩,
 ⟨⟨#[115, 101, 116, 117, 112]⟩, 1, 56, #[], 0⟩,
 ⟨⟨#[98, 111, 120]⟩, 1, 52, #[], 0⟩,
 ⟨⟨#[103, 101, 116, 98, 111, 120]⟩, 1, 55, #[], 0⟩,
 ⟨⟨#[115, 101, 116, 98, 111, 120]⟩, 1, 55, #[], 0⟩,
 ⟨⟨#[103, 101, 116, 103, 108, 111, 98]⟩, 1, 57, #[], 0⟩,
 ⟨⟨#[115, 101, 116, 103, 108, 111, 98]⟩, 1, 57, #[], 0⟩,
 ⟨⟨#[116, 97, 98, 108, 101]⟩, 1, 52, #[], 0⟩,
 ⟨⟨#[103, 101, 116]⟩, 2, 52, #[], 0⟩,
 ⟨⟨#[115, 101, 116]⟩, 3, 52, #[], 0⟩,
 ⟨⟨#[112, 117, 116]⟩, 3, 52, #[], 0⟩,
 ⟨⟨#[99, 108, 111, 115, 117, 114, 101]⟩, 1, 58, #[], 0⟩,
 ⟨⟨#[99, 97, 108, 108]⟩, 1, 70, #[.pointer (some ⟨b + 1, 0, none⟩)], 21⟩,
 ⟨⟨#[114, 101, 116]⟩, 1, 52, #[], 0⟩,
 ⟨⟨#[106, 109, 112]⟩, 0, 59, #[], 0⟩,
 ⟨⟨#[105, 102]⟩, 1, 59, #[], 0⟩,
 ⟨⟨#[105, 102, 110, 111, 116]⟩, 1, 59, #[], 0⟩,
 ⟨⟨#[97, 110, 100]⟩, 1, 59, #[], 0⟩,
 ⟨⟨#[111, 114]⟩, 1, 59, #[], 0⟩,
 ⟨⟨#[110, 117, 109]⟩, 2, 70, #[.pointer (some ⟨b + 2, 0, none⟩)], 10⟩,
 ⟨⟨#[99, 97, 116]⟩, 2, 52, #[], 0⟩,
 ⟨⟨#[101, 113]⟩, 2, 52, #[], 0⟩,
 ⟨⟨#[108, 116]⟩, 2, 52, #[], 0⟩,
 ⟨⟨#[108, 101]⟩, 2, 52, #[], 0⟩,
 ⟨⟨#[110, 111, 116]⟩, 1, 52, #[], 0⟩,
 ⟨⟨#[110, 101, 103]⟩, 1, 52, #[], 0⟩,
 ⟨⟨#[108, 101, 110]⟩, 1, 52, #[], 0⟩,
 ⟨⟨#[102, 111, 114]⟩, 2, 59, #[], 0⟩,
 ⟨⟨#[110, 101, 120, 116]⟩, 2, 59, #[], 0⟩,
 ⟨⟨#[116, 114, 121]⟩, 1, 59, #[], 0⟩,
 ⟨⟨#[101, 110, 100, 116, 114, 121]⟩, 0, 52, #[], 0⟩]
def rowsV (b : Nat) : List Value := (rowsL b).flatMap Row.cells
def zrows : Array Value := ((List.replicate 37 ([.string ⟨#[]⟩, .int .i64 0, .nilFunc] : List Value)).flatten).toArray
theorem zero74 (w : World) : (zeroValue 74).run Try.prog w = .ok (.agg zrows) w := by kernel_rfl
theorem zrows_size : zrows.size = 111 := by kernel_rfl
theorem rowsV_len (b : Nat) : (rowsV b).length = 111 := by kernel_rfl
theorem rowsV_one (b : Nat) : ∀ q ∈ rowsV b, q.oneCell' = true := by
 intro q hq
 unfold rowsV at hq
 rw [List.mem_flatMap] at hq
 obtain ⟨r, _, hr⟩ := hq
 unfold Row.cells at hr
 simp only [List.mem_cons, List.not_mem_nil, or_false] at hr
 rcases hr with rfl | rfl | rfl <;> rfl
set_option maxHeartbeats 4000000 in
theorem rows_any (w : World) : Calls Try.prog 31 #[] w fun e w' => ∃ b, e = .returned (.agg (rowsV b).toArray) ∧ Below w.heap.size w w' ∧ w.heap.size ≤ b ∧ w'.heap[b]? = some (.cells #[.int .i64 2] 3 (0, 0)) ∧ w'.heap[b + 1]? = some (.cells #[.int .i64 21] 3 (0, 0)) ∧ w'.heap[b + 2]? = some (.cells #[.int .i64 10] 3 (0, 0)) := by
 have hz := zero74
 have hzs := zrows_size
 generalize zrows = Z at hz hzs
 go_enter Try.func31, Try.ntmps31
 go_wp2_with (first | ((with_reducible refine q12q (N := 0) rfl ?_); refine q11q ?hg (N := 0) ?hd (cs := Z) (t := 74) ?hr ?_; (case hd => rfl); (case hg => rfl); (case hr => first | (go_simp; done) | (go_simp; rfl)); intro g hg w1 hbox hb1))
 refine (below_any 2 _).mono ?_
 rintro e w2 ⟨rfl, bA, kA, sA⟩
 generalize hb0 : w1.heap.size = b at bA kA sA ⊢
 go_wp2_with (fail)
 refine (below_any 21 _).mono ?_
 rintro e w3 ⟨rfl, bB, kB, sB⟩
 rw [sA] at bB kB sB ⊢
 go_wp2_with (fail)
 refine (below_any 10 _).mono ?_
 rintro e w4 ⟨rfl, bC, kC, sC⟩
 rw [sB] at bC kC sC ⊢
 have hgl : g < b := by
  have := (Array.getElem?_eq_some_iff.1 hbox).1
  omega
 subst hg
 have kZ : w4.heap[w.heap.size]? = some (.cells Z 74 (0, 0)) := (bC.block _ (by omega)).trans ((bB.block _ (by omega)).trans ((bA.block _ hgl).trans hbox))
 have kA4 : w4.heap[b]? = some (.cells #[.int .i64 2] 3 (0, 0)) := (bC.block _ (by omega)).trans ((bB.block _ (by omega)).trans kA)
 have kB4 : w4.heap[b + 1]? = some (.cells #[.int .i64 21] 3 (0, 0)) := (bC.block _ (by omega)).trans kB
 have hB4 : Below w.heap.size w w4 := hb1.trans ((bA.mono (Nat.le_of_lt hgl)).trans ((bB.mono (by omega)).trans (bC.mono (by omega))))
 clear kA kB bA bB bC sA sB sC hbox hb1 hb0 hz
 go_wp2_with (first | ((with_reducible refine q12q (N := 41) rfl ?_); refine Kd.event_run (w1 := w4) (v := .agg (rowsV b).toArray) rfl (by kernel_rfl) ?_) | (refine store_whole rfl rfl 74 0 (.tmp 41) rfl (g := w.heap.size) (u := .agg (rowsV b).toArray) (seg := rowsV b) (cur := Z) (e := 74) rfl rfl (by simp [Value.cells]) (by kernel_rfl) kZ (by rw [hzs, rowsV_len]) (rowsV_one b) ?_; intro w5 k5 b5 f5 z5))
 (try simp only [Exit.inBlock, Exit.then])
 have hres := run_loadVar_row (P := Try.prog) w5 w.heap.size 74 74 (rowsV b).toArray (0, 0) _ k5 Try.underlying74 rfl (by kernel_rfl)
 exact ⟨rfl, .agg (rowsV b).toArray, results_c1 rfl _ w5 w.heap.size rfl hres, b, rfl, hB4.trans b5, by omega, (f5 _ (by omega)).trans kA4, (f5 _ (by omega)).trans kB4, (f5 _ (by omega)).trans kC⟩
theorem flat_at : ∀ (l : List Row) (k : Nat) (r : Row), l[k]? = some r → ((l.flatMap Row.cells).drop (k * 3)).take 3 = r.cells
 | [], k, r, h => by simp at h
 | x :: l, 0, r, h => by
  obtain rfl : x = r := by simpa using h
  rw [List.flatMap_cons]
  show (x.cells ++ l.flatMap Row.cells).take 3 = _
  exact List.take_left' rfl
 | x :: l, k + 1, r, h => by
  rw [List.flatMap_cons, show (k + 1) * 3 = x.cells.length + k * 3 by (show (k + 1) * 3 = 3 + k * 3); omega, ← List.drop_drop, List.drop_left]
  exact flat_at l k r (by simpa using h)
theorem rowsL_len (b : Nat) : (rowsL b).length = 37 := rfl
theorem rowsL_get (b : Nat) (op : Int) (h0 : 0 ≤ op) (h1 : op < 37) : ∃ r, (rowsL b)[op.toNat]? = some r := ⟨_, List.getElem?_eq_getElem (by rw [rowsL_len]; omega)⟩
theorem among_eq (a b : Int) : fQ14.f a b = some (decide (0 ≤ a ∧ a < b)) := by
 unfold fQ14.f
 by_cases h : a ≥ 0
 ·rw [if_pos h]; congr 1; rw [decide_eq_decide]; omega
 rw [if_neg h]; congr 1; symm; rw [decide_eq_false_iff_not]; omega
theorem among_any (a b : Int) (w : World) : Calls Try.prog 60 #[.int .i64 a, .int .i64 b] w fun e w' => e = .returned (.bool (decide (0 ≤ a ∧ a < b))) ∧ Drawn0 w w' := fQ14.calls a b _ w (among_eq a b)
def mayF (regs : Int) (rb : Bool) (op a b pregs : Int) : Bool :=
 if (regs = 0 ∧ a ≠ 0) ∨ rb = false then false
 else
  let n := if op = 18 then wrap64 (regs + b) else regs
  decide (n = 0) || decide (0 ≤ a ∧ a < wrap64 (wrap64 (pregs - n) + 1))
set_option maxHeartbeats 4000000 in
theorem may_any (a0_0 : Int) (a0_1 : Int) (A0_2 : Option Addr) (c0_2 : Nat) (l0_2 : List (S50)) (A0_3 : Option Addr) (c0_3 : Nat) (l0_3 : List (S42)) (A0_4 : Option Addr) (c0_4 : Nat) (l0_4 : List (S52)) (a0_5 : Int) (lb : Nat) (op a b : Int) (w : World) (r : Row) (rb : Bool)
  (hop : 0 ≤ op ∧ op < 37) (hrow : w.rangeAt lb (op.toNat * 3) r.cells) (hregs : 0 ≤ r.regs ∧ r.regs ≤ 3)
  (hE : ∀ args w, (callFunc r.kf args).run Try.prog w = .ok (.enter r.kf args) w)
  (hB : ∀ w', Below w.heap.size w w' → Calls Try.prog r.kf (#[.agg #[.int .i64 a0_0, .int .i64 a0_1, .slice A0_2 l0_2.length c0_2, .slice A0_3 l0_3.length c0_3, .slice A0_4 l0_4.length c0_4, .int .i64 a0_5], .int .i64 b] ++ r.cap) w' fun e w'' => e = .returned (.bool rb) ∧ Below w'.heap.size w' w'') :
  Calls Try.prog 63 #[.agg #[.int .i64 a0_0, .int .i64 a0_1, .slice A0_2 l0_2.length c0_2, .slice A0_3 l0_3.length c0_3, .slice A0_4 l0_4.length c0_4, .int .i64 a0_5], .pointer (some ⟨lb, 0, none⟩), .agg #[.int .i64 op, .int .i64 a, .int .i64 b]] w
   fun e w' => e = .returned (.bool (mayF r.regs rb op a b a0_1)) ∧ Below w.heap.size w w' := by
 generalize hres : mayF r.regs rb op a b a0_1 = res
 have HRES := Aq.mk hres
 clear hres
 have HB := Aq.mk (Below.refl w.heap.size w)
 have hd := decide_eq_true hop
 go_enter Try.func63, Try.ntmps63
 go_wp2_with (first | ((with_reducible refine q12q (N := 3) rfl ?_); refine q11q ?hg (N := 3) ?hd (cs := #[.int .i64 a0_0, .int .i64 a0_1, .slice A0_2 l0_2.length c0_2, .slice A0_3 l0_3.length c0_3, .slice A0_4 l0_4.length c0_4, .int .i64 a0_5]) (t := 77) ?hr ?_; (case hd => rfl); (case hg => rfl); (case hr => first | (go_simp; done) | (go_simp; rfl)); intro g3 hg3 w3 hbox3 hb3; have G3 := Aq.mk hg3; clear hg3; have B3 := Aq.mk hbox3; clear hbox3; have HB3 := Aq.mk hb3; clear hb3) | ((with_reducible refine q12q (N := 5) rfl ?_); refine q11q ?hg (N := 5) ?hd (cs := #[.int .i64 op, .int .i64 a, .int .i64 b]) (t := 52) ?hr ?_; (case hd => rfl); (case hg => rfl); (case hr => first | (go_simp; done) | (go_simp; rfl)); intro g5 hg5 w5 hbox5 hb5; have G5 := Aq.mk hg5; clear hg5; have HB5 := Aq.mk (hb5); clear hb5; have C50 : w5.cell? ⟨g5, 0, none⟩ = some (.int .i64 op) := (q3q hbox5 0).trans rfl; have C51 : w5.cell? ⟨g5, 1, none⟩ = some (.int .i64 a) := (q3q hbox5 1).trans rfl; have C52 : w5.cell? ⟨g5, 2, none⟩ = some (.int .i64 b) := (q3q hbox5 2).trans rfl; have B5 := Aq.mk hbox5; clear hbox5) | (go_at_call 60; (with_reducible refine (among_any op 37 _).mono ?_); rw [hd]; rintro e w' ⟨rfl, ⟨nd, rfl⟩⟩))
 have hl0 : lb < w.heap.size := World.block_lt_of_cell? w _ (hrow 0 _ rfl)
 have HBn := Aq.mk ((HB3.out).trans (HB5.out.mono HB3.out.size))
 have R0 : (w5.drewN nd).cell? ⟨lb, op.toNat * 3, none⟩ = some (.string r.nm) := ((q0q HBn.out nd).cell hl0).trans (hrow 0 _ rfl)
 have R1 : (w5.drewN nd).cell? ⟨lb, op.toNat * 3 + 1, none⟩ = some (.int .i64 r.regs) := ((q0q HBn.out nd).cell hl0).trans (hrow 1 _ rfl)
 have R2 : (w5.drewN nd).cell? ⟨lb, op.toNat * 3 + 2, none⟩ = some (.func (.func r.kf) #[] r.cap) := ((q0q HBn.out nd).cell hl0).trans (hrow 2 _ rfl)
 have HBN := Aq.mk (q0q (n := nd) HBn.out)
 generalize hW : w5.drewN nd = W at R0 R1 R2 HBN ⊢
 have D50 : W.cell? ⟨g5, 0, none⟩ = some (.int .i64 op) := by rw [← hW]; exact C50
 have D51 : W.cell? ⟨g5, 1, none⟩ = some (.int .i64 a) := by rw [← hW]; exact C51
 have D52 : W.cell? ⟨g5, 2, none⟩ = some (.int .i64 b) := by rw [← hW]; exact C52
 have lg3 : g3 < w3.heap.size := (Array.getElem?_eq_some_iff.1 B3.out).1
 have D3 := Aq.mk (show W.heap[g3]? = some (.cells #[.int .i64 a0_0, .int .i64 a0_1, .slice A0_2 l0_2.length c0_2, .slice A0_3 l0_3.length c0_3, .slice A0_4 l0_4.length c0_4, .int .i64 a0_5] 77 (0, 0)) from by rw [← hW]; exact (HB5.out.block g3 lg3).trans B3.out)
 have hst : (store ⟨W.heap.size, 2, none⟩ (.func (.func r.kf) #[] r.cap)).run Try.prog (W.alloc (.cells #[.string r.nm, .int .i64 r.regs, .nilFunc] 73)).drew = .ok () (W.alloc (.cells #[.string r.nm, .int .i64 r.regs, .func (.func r.kf) #[] r.cap] 73)).drew := by
  rw [run_store _ _ _ _ _ rfl]
  simp [go_sem]
 have lW : lb < W.heap.size := Nat.lt_of_lt_of_le hl0 HBN.out.size
 have l5 : g5 < W.heap.size := World.block_lt_of_cell? W _ D50
 have A0 : (W.alloc (.cells #[.string ⟨#[]⟩, .int .i64 0, .nilFunc] 73)).cell? ⟨lb, op.toNat * 3, none⟩ = some (.string r.nm) := ((q4q (Below.refl W.heap.size W) _).cell lW).trans R0
 have A1 : (W.alloc (.cells #[.string ⟨#[]⟩, .int .i64 0, .nilFunc] 73)).cell? ⟨lb, op.toNat * 3 + 1, none⟩ = some (.int .i64 r.regs) := ((q4q (Below.refl W.heap.size W) _).cell lW).trans R1
 have A2 : (W.alloc (.cells #[.string ⟨#[]⟩, .int .i64 0, .nilFunc] 73)).cell? ⟨lb, op.toNat * 3 + 2, none⟩ = some (.func (.func r.kf) #[] r.cap) := ((q4q (Below.refl W.heap.size W) _).cell lW).trans R2
 have A5 : (W.alloc (.cells #[.string ⟨#[]⟩, .int .i64 0, .nilFunc] 73)).cell? ⟨g5, 0, none⟩ = some (.int .i64 op) := ((q4q (Below.refl W.heap.size W) _).cell l5).trans D50
 go_region
 have HBV := Aq.mk (show Below w.heap.size w (W.alloc (Obj.cells #[Value.string r.nm, Value.int IntKind.i64 r.regs, Value.func (Fn.func r.kf) #[] r.cap] 73)).drew from q2q (q4q HBN.out _))
 have E70 : (W.alloc (Obj.cells #[Value.string r.nm, Value.int IntKind.i64 r.regs, Value.func (Fn.func r.kf) #[] r.cap] 73)).drew.cell? ⟨W.heap.size, 1, none⟩ = some (.int .i64 r.regs) := (q3q (blk_new W _) 1).trans rfl
 have E71 : (W.alloc (Obj.cells #[Value.string r.nm, Value.int IntKind.i64 r.regs, Value.func (Fn.func r.kf) #[] r.cap] 73)).drew.cell? ⟨W.heap.size, 2, none⟩ = some (.func (.func r.kf) #[] r.cap) := (q3q (blk_new W _) 2).trans rfl
 have HBW := q2q (q4q (Below.refl W.heap.size W) (Obj.cells #[Value.string r.nm, Value.int IntKind.i64 r.regs, Value.func (Fn.func r.kf) #[] r.cap] 73))
 have F50 := (HBW.cell l5).trans D50
 have F51 := (HBW.cell (p := ⟨g5, 1, none⟩) l5).trans D51
 have F52 := (HBW.cell (p := ⟨g5, 2, none⟩) l5).trans D52
 have F3 := Aq.mk ((HBW.block g3 (Array.getElem?_eq_some_iff.1 D3.out).1).trans D3.out)
 generalize (W.alloc (Obj.cells #[Value.string r.nm, Value.int IntKind.i64 r.regs, Value.func (Fn.func r.kf) #[] r.cap] 73)).drew = V at HBV E70 E71 F50 F51 F52 F3 ⊢
 generalize hg7 : W.heap.size = g7 at E70 E71 ⊢
 clear hst A0 A1 A2 A5 lW l5 D50 D51 D52 HBW R0 R1 R2 HBN hW hg7
 have P0 : V.cell? ⟨g3, 0, none⟩ = some (.int .i64 a0_0) := (q3q F3.out 0).trans rfl
 have P1 : V.cell? ⟨g3, 1, none⟩ = some (.int .i64 a0_1) := (q3q F3.out 1).trans rfl
 have P2 : V.cell? ⟨g3, 2, none⟩ = some (.slice A0_2 l0_2.length c0_2) := (q3q F3.out 2).trans rfl
 have P3 : V.cell? ⟨g3, 3, none⟩ = some (.slice A0_3 l0_3.length c0_3) := (q3q F3.out 3).trans rfl
 have P4 : V.cell? ⟨g3, 4, none⟩ = some (.slice A0_4 l0_4.length c0_4) := (q3q F3.out 4).trans rfl
 have P5 : V.cell? ⟨g3, 5, none⟩ = some (.int .i64 a0_5) := (q3q F3.out 5).trans rfl
 by_cases h1 : r.regs = 0 ∧ a ≠ 0
 ·have hr : res = false := by rw [← HRES.out]; unfold mayF; rw [if_pos (.inl h1)]
  have h10 := h1.1
  have h11 : (a == 0) = false := beq_eq_false_iff_ne.mpr h1.2
  go_wp2_with fail
  go_ret
  rw [hr]
  exact ⟨rfl, HBV.out⟩
 have h12 : ((r.regs == 0) && (a != 0)) = false := by
  rcases Bool.eq_false_or_eq_true (r.regs == 0) with h | h
  ·rw [h]; by_cases ha : a = 0
   ·rw [ha]; rfl
   ·exact absurd ⟨beq_iff_eq.mp h, ha⟩ h1
  ·rw [h]; rfl
 by_cases h2 : r.regs = 0
 ·have ha : a = 0 := by by_cases ha : a = 0; exact ha; exact absurd ⟨h2, ha⟩ h1
  subst ha
  go_wp2_with fail
  refine (hB _ HBV.out).mono ?_
  rintro e w8 ⟨rfl, hb8⟩
  have Q70 := (hb8.cell (p := ⟨g7, 1, none⟩) (World.block_lt_of_cell? V _ E70)).trans E70
  have Q50 := (hb8.cell (p := ⟨g5, 0, none⟩) (World.block_lt_of_cell? V _ F50)).trans F50
  have Q51 := (hb8.cell (p := ⟨g5, 1, none⟩) (World.block_lt_of_cell? V _ F51)).trans F51
  have Q52 := (hb8.cell (p := ⟨g5, 2, none⟩) (World.block_lt_of_cell? V _ F52)).trans F52
  have Q1 := (hb8.cell (p := ⟨g3, 1, none⟩) (World.block_lt_of_cell? V _ P1)).trans P1
  have HB8 := Aq.mk (HBV.out.trans (hb8.mono HBV.out.size))
  clear hb8 E70 E71 F50 F51 F52 P0 P1 P2 P3 P4 P5 F3
  cases rb with
  | false =>
   have hr : res = false := by rw [← HRES.out]; unfold mayF; rw [if_pos (.inr rfl)]
   go_wp2_with fail
   go_ret
   rw [hr]
   exact ⟨rfl, HB8.out⟩
  | true =>
   have hr : res = (decide ((if op = 18 then wrap64 (r.regs + b) else r.regs) = 0) || decide ((0 : Int) ≤ 0 ∧ (0 : Int) < wrap64 (wrap64 (a0_1 - (if op = 18 then wrap64 (r.regs + b) else r.regs)) + 1))) := by
    rw [← HRES.out]; unfold mayF; rw [if_neg (by rintro (h | h); exact h1 h; cases h)] <;> (try rfl)
   have HR := Aq.mk hr
   clear hr
   by_cases h18 : op = 18
   case neg =>
    have h180 : (op == 18) = false := beq_eq_false_iff_ne.mpr h18
    have HR' := HR.out
    clear HR
    rw [if_neg h18] at HR'
    obtain ⟨m1, hm1⟩ : ∃ x, wrap64 (a0_1 - r.regs) = x := ⟨_, rfl⟩
    have hm1z : wrap64 a0_1 = m1 := by rw [← hm1, h2]; congr 1; omega
    obtain ⟨m2, hm2⟩ : ∃ x, wrap64 (m1 + 1) = x := ⟨_, rfl⟩
    rw [hm1, hm2] at HR'
    have hm1' : IntKind.i64.wrap (a0_1 - r.regs) = m1 := (i64_w _).trans hm1
    have hm2' : IntKind.i64.wrap (m1 + 1) = m2 := (i64_w _).trans hm2
    have HR := Aq.mk HR'
    clear HR'
    by_cases hn0 : r.regs = 0
    case neg =>
     exact absurd h2 hn0
    have hn1 : (r.regs == 0) = true := beq_iff_eq.mpr hn0
    have hr : res = true := by rw [HR.out, decide_eq_true hn0]; rfl
    clear hm1' hm2' hm1 hm2
    go_wp2_with fail
    go_ret
    rw [hr]
    exact ⟨rfl, HB8.out⟩
   subst h18
   have HR' := HR.out
   clear HR
   rw [if_pos rfl] at HR'
   obtain ⟨n, hn⟩ : ∃ x, wrap64 (r.regs + b) = x := ⟨_, rfl⟩
   rw [hn] at HR'
   have hnw : IntKind.i64.wrap (r.regs + b) = n := (i64_w _).trans hn
   have hnz : r.regs = 0 → wrap64 b = n := fun h => by rw [← hn, h]; congr 1; omega
   have hnz' := hnz h2
   clear hnz hn
   obtain ⟨m1, hm1⟩ : ∃ x, wrap64 (a0_1 - n) = x := ⟨_, rfl⟩
   obtain ⟨m2, hm2⟩ : ∃ x, wrap64 (m1 + 1) = x := ⟨_, rfl⟩
   rw [hm1, hm2] at HR'
   have hm1' : IntKind.i64.wrap (a0_1 - n) = m1 := (i64_w _).trans hm1
   have hm2' : IntKind.i64.wrap (m1 + 1) = m2 := (i64_w _).trans hm2
   have HR := Aq.mk HR'
   clear HR'
   by_cases hn0 : n = 0
   ·have hn1 : (n == 0) = true := beq_iff_eq.mpr hn0
    have hr : res = true := by rw [HR.out, decide_eq_true hn0]; rfl
    clear hm1' hm2' hm1 hm2
    go_wp2_with fail
    go_ret
    rw [hr]
    exact ⟨rfl, HB8.out⟩
   have hn1 : (n == 0) = false := beq_eq_false_iff_ne.mpr hn0
   obtain ⟨bv, hbv⟩ : ∃ x, decide (0 ≤ (0 : Int) ∧ (0 : Int) < m2) = x := ⟨_, rfl⟩
   have hAm : ∀ w, Calls Try.prog 60 #[.int .i64 (0 : Int), .int .i64 m2] w (fun e w' => e = .returned (.bool bv) ∧ Drawn0 w w') := fun w => hbv ▸ among_any (0 : Int) m2 w
   have hr : res = bv := by rw [HR.out, decide_eq_false hn0, ← hbv]; rfl
   clear hbv
   go_wp2_with (go_at_call 60; (with_reducible refine (hAm _).mono ?_); rintro e w' ⟨rfl, ⟨nd2, rfl⟩⟩)
   go_ret
   rw [hr]
   exact ⟨rfl, q0q HB8.out _⟩
 have h20 : (r.regs == 0) = false := beq_eq_false_iff_ne.mpr h2
 go_wp2_with fail
 refine (hB _ HBV.out).mono ?_
 rintro e w8 ⟨rfl, hb8⟩
 have Q70 := (hb8.cell (p := ⟨g7, 1, none⟩) (World.block_lt_of_cell? V _ E70)).trans E70
 have Q50 := (hb8.cell (p := ⟨g5, 0, none⟩) (World.block_lt_of_cell? V _ F50)).trans F50
 have Q51 := (hb8.cell (p := ⟨g5, 1, none⟩) (World.block_lt_of_cell? V _ F51)).trans F51
 have Q52 := (hb8.cell (p := ⟨g5, 2, none⟩) (World.block_lt_of_cell? V _ F52)).trans F52
 have Q1 := (hb8.cell (p := ⟨g3, 1, none⟩) (World.block_lt_of_cell? V _ P1)).trans P1
 have HB8 := Aq.mk (HBV.out.trans (hb8.mono HBV.out.size))
 clear hb8 E70 E71 F50 F51 F52 P0 P1 P2 P3 P4 P5 F3
 cases rb with
 | false =>
  have hr : res = false := by rw [← HRES.out]; unfold mayF; rw [if_pos (.inr rfl)]
  go_wp2_with fail
  go_ret
  rw [hr]
  exact ⟨rfl, HB8.out⟩
 | true =>
  have hr : res = (decide ((if op = 18 then wrap64 (r.regs + b) else r.regs) = 0) || decide (0 ≤ a ∧ a < wrap64 (wrap64 (a0_1 - (if op = 18 then wrap64 (r.regs + b) else r.regs)) + 1))) := by
   rw [← HRES.out]; unfold mayF; rw [if_neg (by rintro (h | h); exact h1 h; cases h)] <;> (try rfl)
  have HR := Aq.mk hr
  clear hr
  by_cases h18 : op = 18
  case neg =>
   have h180 : (op == 18) = false := beq_eq_false_iff_ne.mpr h18
   have HR' := HR.out
   clear HR
   rw [if_neg h18] at HR'
   obtain ⟨m1, hm1⟩ : ∃ x, wrap64 (a0_1 - r.regs) = x := ⟨_, rfl⟩
   obtain ⟨m2, hm2⟩ : ∃ x, wrap64 (m1 + 1) = x := ⟨_, rfl⟩
   rw [hm1, hm2] at HR'
   have hm1' : IntKind.i64.wrap (a0_1 - r.regs) = m1 := (i64_w _).trans hm1
   have hm2' : IntKind.i64.wrap (m1 + 1) = m2 := (i64_w _).trans hm2
   have HR := Aq.mk HR'
   clear HR'
   by_cases hn0 : r.regs = 0
   ·exact absurd hn0 h2
   have hn1 : (r.regs == 0) = false := beq_eq_false_iff_ne.mpr hn0
   obtain ⟨bv, hbv⟩ : ∃ x, decide (0 ≤ a ∧ a < m2) = x := ⟨_, rfl⟩
   have hAm : ∀ w, Calls Try.prog 60 #[.int .i64 a, .int .i64 m2] w (fun e w' => e = .returned (.bool bv) ∧ Drawn0 w w') := fun w => hbv ▸ among_any a m2 w
   have hr : res = bv := by rw [HR.out, decide_eq_false hn0, ← hbv]; rfl
   clear hbv
   go_wp2_with (go_at_call 60; (with_reducible refine (hAm _).mono ?_); rintro e w' ⟨rfl, ⟨nd2, rfl⟩⟩)
   go_ret
   rw [hr]
   exact ⟨rfl, q0q HB8.out _⟩
  subst h18
  have HR' := HR.out
  clear HR
  rw [if_pos rfl] at HR'
  obtain ⟨n, hn⟩ : ∃ x, wrap64 (r.regs + b) = x := ⟨_, rfl⟩
  rw [hn] at HR'
  have hnw : IntKind.i64.wrap (r.regs + b) = n := (i64_w _).trans hn
  have hnz : r.regs = 0 → wrap64 b = n := fun h => by rw [← hn, h]; congr 1; omega
  clear hnz
  obtain ⟨m1, hm1⟩ : ∃ x, wrap64 (a0_1 - n) = x := ⟨_, rfl⟩
  obtain ⟨m2, hm2⟩ : ∃ x, wrap64 (m1 + 1) = x := ⟨_, rfl⟩
  rw [hm1, hm2] at HR'
  have hm1' : IntKind.i64.wrap (a0_1 - n) = m1 := (i64_w _).trans hm1
  have hm2' : IntKind.i64.wrap (m1 + 1) = m2 := (i64_w _).trans hm2
  have HR := Aq.mk HR'
  clear HR'
  by_cases hn0 : n = 0
  ·have hn1 : (n == 0) = true := beq_iff_eq.mpr hn0
   have hr : res = true := by rw [HR.out, decide_eq_true hn0]; rfl
   clear hm1' hm2' hm1 hm2
   go_wp2_with fail
   go_ret
   rw [hr]
   exact ⟨rfl, HB8.out⟩
  have hn1 : (n == 0) = false := beq_eq_false_iff_ne.mpr hn0
  obtain ⟨bv, hbv⟩ : ∃ x, decide (0 ≤ a ∧ a < m2) = x := ⟨_, rfl⟩
  have hAm : ∀ w, Calls Try.prog 60 #[.int .i64 a, .int .i64 m2] w (fun e w' => e = .returned (.bool bv) ∧ Drawn0 w w') := fun w => hbv ▸ among_any a m2 w
  have hr : res = bv := by rw [HR.out, decide_eq_false hn0, ← hbv]; rfl
  clear hbv
  go_wp2_with (go_at_call 60; (with_reducible refine (hAm _).mono ?_); rintro e w' ⟨rfl, ⟨nd2, rfl⟩⟩)
  go_ret
  rw [hr]
  exact ⟨rfl, q0q HB8.out _⟩
def rbF (kf : Nat) (most pregs : Int) (nu : Nat) (cs : List S42) (nc : Nat) (protos b : Int) : Bool :=
 if kf = 52 then b == 0 else if kf = 55 then decide (0 ≤ b ∧ b < pregs) else if kf = 59 then decide (0 ≤ b ∧ b < (nc : Int)) else if kf = 56 then decide (0 ≤ b ∧ b < (nu : Int))
 else if kf = 54 then decide (0 ≤ b ∧ b < (cs.length : Int)) else if kf = 57 then (decide (0 ≤ b ∧ b < (cs.length : Int)) && ((rd_T42 cs b).f0 == 5)) else if kf = 58 then decide (0 < b ∧ b < protos) else decide (0 ≤ b ∧ b < most)
theorem rows_kinds (bb : Nat) : ∀ r ∈ rowsL bb, (0 ≤ r.regs ∧ r.regs ≤ 3) ∧ ((r.cap = #[] ∧ (r.kf = 52 ∨ r.kf = 54 ∨ r.kf = 55 ∨ r.kf = 56 ∨ r.kf = 57 ∨ r.kf = 58 ∨ r.kf = 59)) ∨ (r.kf = 70 ∧ ((r.cap = #[.pointer (some ⟨bb, 0, none⟩)] ∧ r.most = 2) ∨ (r.cap = #[.pointer (some ⟨bb + 1, 0, none⟩)] ∧ r.most = 21) ∨ (r.cap = #[.pointer (some ⟨bb + 2, 0, none⟩)] ∧ r.most = 10)))) := by
 intro r hr
 simp only [rowsL, List.mem_cons, List.not_mem_nil, or_false] at hr
 rcases hr with rfl | rfl | rfl | rfl | rfl | rfl | rfl | rfl | rfl | rfl | rfl | rfl | rfl | rfl | rfl | rfl | rfl | rfl | rfl | rfl | rfl | rfl | rfl | rfl | rfl | rfl | rfl | rfl | rfl | rfl | rfl | rfl | rfl | rfl | rfl | rfl | rfl <;> simp
theorem row_enters (bb : Nat) (r : Row) (hr : r ∈ rowsL bb) : ∀ args w, (callFunc r.kf args).run Try.prog w = .ok (.enter r.kf args) w := by
 obtain ⟨_, ⟨_, h⟩ | ⟨h, _⟩⟩ := rows_kinds bb r hr
 ·rcases h with h | h | h | h | h | h | h <;> rw [h]
  ·exact enters_of Try.func52 (by kernel_rfl) rfl
  ·exact enters_of Try.func54 (by kernel_rfl) rfl
  ·exact enters_of Try.func55 (by kernel_rfl) rfl
  ·exact enters_of Try.func56 (by kernel_rfl) rfl
  ·exact enters_of Try.func57 (by kernel_rfl) rfl
  ·exact enters_of Try.func58 (by kernel_rfl) rfl
  ·exact enters_of Try.func59 (by kernel_rfl) rfl
 ·rw [h]; exact enters_of Try.func70 (by kernel_rfl) rfl
theorem below1_any (cs : Array Value) (b most : Int) (g : Nat) (w : World) (hg : w.cell? ⟨g, 0, none⟩ = some (.int .i64 most)) :
  Calls Try.prog 70 #[.agg cs, .int .i64 b, .pointer (some ⟨g, 0, none⟩)] w fun e w' => e = .returned (.bool (decide (0 ≤ b ∧ b < most))) ∧ Below w.heap.size w w' := by
 obtain ⟨bv, hbv⟩ : ∃ x, decide (0 ≤ b ∧ b < most) = x := ⟨_, rfl⟩
 have hAm : ∀ w, Calls Try.prog 60 #[.int .i64 b, .int .i64 most] w (fun e w' => e = .returned (.bool bv) ∧ Drawn0 w w') := fun w => hbv ▸ among_any b most w
 rw [hbv]
 clear hbv
 go_enter Try.func70, Try.ntmps70
 go_wp2_with (first | ((with_reducible refine q12q (N := 3) rfl ?_); refine q11q ?hg (N := 3) ?hd (cs := cs) (t := 77) ?hr ?_; (case hd => rfl); (case hg => rfl); (case hr => first | (go_simp; done) | (go_simp; rfl)); intro g3 hg3 w3 hbox3 hb3; have G3 := Aq.mk hg3; clear hg3; have B3 := Aq.mk hbox3; clear hbox3; have hg' := (hb3.cell (p := ⟨g, 0, none⟩) (World.block_lt_of_cell? w _ hg)).trans hg; have HB3 := Aq.mk hb3; clear hb3) | (go_at_call 60; (with_reducible refine (hAm _).mono ?_); rintro e w' ⟨rfl, ⟨nd, rfl⟩⟩))
 go_ret
 exact ⟨rfl, q0q HB3.out _⟩
section
variable (a0_0 : Int) (a0_1 : Int) (A0_2 : Option Addr) (c0_2 : Nat) (l0_2 : List (S50)) (A0_3 : Option Addr) (c0_3 : Nat) (l0_3 : List (S42)) (A0_4 : Option Addr) (c0_4 : Nat) (l0_4 : List (S52)) (a0_5 : Int)
theorem row_calls (bb : Nat) (r : Row) (hr : r ∈ rowsL bb) (b : Int) (w : World) (hr0_2 : Kd.C k50 w A0_2 l0_2.length l0_2) (hc0_2 : l0_2.length ≤ c0_2) (hr0_3 : Kd.C k42 w A0_3 l0_3.length l0_3) (hc0_3 : l0_3.length ≤ c0_3) (hr0_4 : Kd.C k52 w A0_4 l0_4.length l0_4) (hc0_4 : l0_4.length ≤ c0_4)
  (h1 : w.cell? ⟨bb, 0, none⟩ = some (.int .i64 2)) (h2 : w.cell? ⟨bb + 1, 0, none⟩ = some (.int .i64 21)) (h3 : w.cell? ⟨bb + 2, 0, none⟩ = some (.int .i64 10)) :
  Calls Try.prog r.kf (#[.agg #[.int .i64 a0_0, .int .i64 a0_1, .slice A0_2 l0_2.length c0_2, .slice A0_3 l0_3.length c0_3, .slice A0_4 l0_4.length c0_4, .int .i64 a0_5], .int .i64 b] ++ r.cap) w
   fun e w' => e = .returned (.bool (rbF r.kf r.most a0_1 l0_2.length l0_3 l0_4.length a0_5 b)) ∧ Below w.heap.size w w' := by
 obtain ⟨_, ⟨hcap, h⟩ | ⟨h, hc⟩⟩ := rows_kinds bb r hr
 ·rw [hcap]
  rcases h with h | h | h | h | h | h | h <;> rw [h]
  ·exact code_zero.calls a0_0 a0_1 A0_2 c0_2 l0_2 A0_3 c0_3 l0_3 A0_4 c0_4 l0_4 a0_5 b _ w hr0_2 hc0_2 hr0_3 hc0_3 hr0_4 hc0_4 rfl
  ·exact fQ23.calls a0_0 a0_1 A0_2 c0_2 l0_2 A0_3 c0_3 l0_3 A0_4 c0_4 l0_4 a0_5 b _ w hr0_2 hc0_2 hr0_3 hc0_3 hr0_4 hc0_4 (by unfold fQ23.f; rw [among_eq]; rfl)
  ·exact code_reg.calls a0_0 a0_1 A0_2 c0_2 l0_2 A0_3 c0_3 l0_3 A0_4 c0_4 l0_4 a0_5 b _ w hr0_2 hc0_2 hr0_3 hc0_3 hr0_4 hc0_4 (by unfold code_reg.f; rw [among_eq]; rfl)
  ·exact code_up.calls a0_0 a0_1 A0_2 c0_2 l0_2 A0_3 c0_3 l0_3 A0_4 c0_4 l0_4 a0_5 b _ w hr0_2 hc0_2 hr0_3 hc0_3 hr0_4 hc0_4 (by unfold code_up.f; rw [among_eq]; rfl)
  ·refine code_global.calls a0_0 a0_1 A0_2 c0_2 l0_2 A0_3 c0_3 l0_3 A0_4 c0_4 l0_4 a0_5 b _ w hr0_2 hc0_2 hr0_3 hc0_3 hr0_4 hc0_4 ?_
   unfold code_global.f fQ23.f
   rw [among_eq]
   show (if decide (0 ≤ b ∧ b < (l0_3.length : Int)) = true then _ else _) = some (decide (0 ≤ b ∧ b < (l0_3.length : Int)) && ((rd_T42 l0_3 b).f0 == 5))
   by_cases hb : 0 ≤ b ∧ b < (l0_3.length : Int)
   case neg =>
    rw [decide_eq_false hb, if_neg (by decide)]; rfl
   rw [decide_eq_true hb, if_pos rfl, if_pos hb.1, if_pos hb.2]; rfl
  ·refine code_proto.calls a0_0 a0_1 A0_2 c0_2 l0_2 A0_3 c0_3 l0_3 A0_4 c0_4 l0_4 a0_5 b _ w hr0_2 hc0_2 hr0_3 hc0_3 hr0_4 hc0_4 ?_
   unfold code_proto.f
   show _ = some (decide (0 < b ∧ b < a0_5))
   by_cases hb : b > 0
   ·rw [if_pos hb]; congr 1; rw [decide_eq_decide]; omega
   rw [if_neg hb]; congr 1; symm; rw [decide_eq_false_iff_not]; omega
  ·exact code_target.calls a0_0 a0_1 A0_2 c0_2 l0_2 A0_3 c0_3 l0_3 A0_4 c0_4 l0_4 a0_5 b _ w hr0_2 hc0_2 hr0_3 hc0_3 hr0_4 hc0_4 (by unfold code_target.f; rw [among_eq]; rfl)
 ·rw [h]
  rcases hc with ⟨hc, hm⟩ | ⟨hc, hm⟩ | ⟨hc, hm⟩ <;> rw [hc, hm]
  ·exact below1_any _ b 2 bb w h1
  ·exact below1_any _ b 21 (bb + 1) w h2
  ·exact below1_any _ b 10 (bb + 2) w h3
end
structure Tab (lb bb : Nat) (w : World) : Prop where
 tab : w.heap[lb]? = some (.cells (rowsV bb).toArray 74 (0, 0))
 two : w.cell? ⟨bb, 0, none⟩ = some (.int .i64 2)
 call : w.cell? ⟨bb + 1, 0, none⟩ = some (.int .i64 21)
 num : w.cell? ⟨bb + 2, 0, none⟩ = some (.int .i64 10)
theorem Tab.below {lb bb : Nat} {w w' : World} (h : Tab lb bb w) (hb : Below w.heap.size w w') : Tab lb bb w' :=
 ⟨(hb.block _ (Array.getElem?_eq_some_iff.1 h.tab).1).trans h.tab, (hb.cell (World.block_lt_of_cell? w _ h.two)).trans h.two, (hb.cell (World.block_lt_of_cell? w _ h.call)).trans h.call, (hb.cell (World.block_lt_of_cell? w _ h.num)).trans h.num⟩
theorem Tab.row {lb bb : Nat} {w : World} (h : Tab lb bb w) (k : Nat) (r : Row) (hr : (rowsL bb)[k]? = some r) : w.rangeAt lb (k * 3) r.cells := by
 intro j v hj
 rw [cell_of_row w lb (k * 3 + j) _ 74 (0, 0) h.tab]
 rw [List.getElem?_toArray]
 have h1 := flat_at _ _ _ hr
 have hj3 : j < 3 := by
  have := (List.getElem?_eq_some_iff.1 hj).1
  exact this
 have h2 : (((rowsV bb).drop (k * 3)).take 3)[j]? = some v := by unfold rowsV; rw [h1]; exact hj
 rw [List.getElem?_take_of_lt hj3, List.getElem?_drop] at h2
 exact h2
def mayI (regs : Int) (nu : Nat) (cs : List S42) (nc : Nat) (protos : Int) (i : S52) : Bool :=
 if 0 ≤ i.f0 ∧ i.f0 < 37 then
  match (rowsL 0)[i.f0.toNat]? with
  | some r => mayF r.regs (rbF r.kf r.most regs nu cs nc protos i.f2) i.f0 i.f1 i.f2 regs
  | none => false
 else false
theorem mayI_row (bb : Nat) (regs : Int) (nu : Nat) (cs : List S42) (nc : Nat) (protos : Int) (i : S52) (h : 0 ≤ i.f0 ∧ i.f0 < 37) (r : Row) (hr : (rowsL bb)[i.f0.toNat]? = some r) :
  mayI regs nu cs nc protos i = mayF r.regs (rbF r.kf r.most regs nu cs nc protos i.f2) i.f0 i.f1 i.f2 regs := by
 unfold mayI
 rw [if_pos h]
 have hm : (rowsL bb).map (fun r => (r.regs, r.kf, r.most)) = (rowsL 0).map (fun r => (r.regs, r.kf, r.most)) := rfl
 have h1 : ((rowsL bb).map (fun r => (r.regs, r.kf, r.most)))[i.f0.toNat]? = some (r.regs, r.kf, r.most) := by rw [List.getElem?_map, hr]; rfl
 rw [hm, List.getElem?_map] at h1
 cases h2 : (rowsL 0)[i.f0.toNat]? with
 | none => rw [h2] at h1; cases h1
 | some x =>
  rw [h2] at h1
  have h3 := Option.some.inj h1
  simp only [Prod.mk.injEq] at h3
  obtain ⟨e1, e2, e3⟩ := h3
  show mayF x.regs (rbF x.kf x.most regs nu cs nc protos i.f2) i.f0 i.f1 i.f2 regs = _
  rw [e1, e2, e3]
section
variable (a0_0 : Int) (a0_1 : Int) (A0_2 : Option Addr) (c0_2 : Nat) (l0_2 : List (S50)) (A0_3 : Option Addr) (c0_3 : Nat) (l0_3 : List (S42)) (A0_4 : Option Addr) (c0_4 : Nat) (l0_4 : List (S52)) (a0_5 : Int)
abbrev place : Value := .agg #[.int .i64 a0_0, .int .i64 a0_1, .slice A0_2 l0_2.length c0_2, .slice A0_3 l0_3.length c0_3, .slice A0_4 l0_4.length c0_4, .int .i64 a0_5]
structure Fn3 (w : World) : Prop where
 r2 : Kd.C k50 w A0_2 l0_2.length l0_2
 c2 : l0_2.length ≤ c0_2
 r3 : Kd.C k42 w A0_3 l0_3.length l0_3
 c3 : l0_3.length ≤ c0_3
 r4 : Kd.C k52 w A0_4 l0_4.length l0_4
 c4 : l0_4.length ≤ c0_4
theorem may_all (lb bb : Nat) (i : S52) (w : World) (hT : Tab lb bb w) (hF : Fn3 A0_2 c0_2 l0_2 A0_3 c0_3 l0_3 A0_4 c0_4 l0_4 w) :
  Calls Try.prog 63 #[place a0_0 a0_1 A0_2 c0_2 l0_2 A0_3 c0_3 l0_3 A0_4 c0_4 l0_4 a0_5, .pointer (some ⟨lb, 0, none⟩), .agg #[.int .i64 i.f0, .int .i64 i.f1, .int .i64 i.f2]] w
   fun e w' => e = .returned (.bool (mayI a0_1 l0_2.length l0_3 l0_4.length a0_5 i)) ∧ Below w.heap.size w w' := by
 by_cases hop : 0 ≤ i.f0 ∧ i.f0 < 37
 ·obtain ⟨r, hr⟩ := rowsL_get bb i.f0 hop.1 hop.2
  have hm := List.mem_of_getElem? hr
  rw [mayI_row bb _ _ _ _ _ i hop r hr]
  refine may_any a0_0 a0_1 A0_2 c0_2 l0_2 A0_3 c0_3 l0_3 A0_4 c0_4 l0_4 a0_5 lb i.f0 i.f1 i.f2 w r _ hop (hT.row _ r hr) (rows_kinds bb r hm).1 (row_enters bb r hm) (fun w' hb => ?_)
  have hT' := hT.below hb
  exact row_calls a0_0 a0_1 A0_2 c0_2 l0_2 A0_3 c0_3 l0_3 A0_4 c0_4 l0_4 a0_5 bb r hm i.f2 w' (Kd.q19q hF.r2 hb) hF.c2 (Kd.q19q hF.r3 hb) hF.c3 (Kd.q19q hF.r4 hb) hF.c4 hT'.two hT'.call hT'.num
 have hr : mayI a0_1 l0_2.length l0_3 l0_4.length a0_5 i = false := by unfold mayI; rw [if_neg hop]
 rw [hr]
 clear hr
 have hd := decide_eq_false hop
 obtain ⟨op, a, b⟩ := i
 dsimp only at hop hd ⊢
 go_enter Try.func63, Try.ntmps63
 go_wp2_with (first | ((with_reducible refine q12q (N := 3) rfl ?_); refine q11q ?hg (N := 3) ?hd (cs := #[.int .i64 a0_0, .int .i64 a0_1, .slice A0_2 l0_2.length c0_2, .slice A0_3 l0_3.length c0_3, .slice A0_4 l0_4.length c0_4, .int .i64 a0_5]) (t := 77) ?hr ?_; (case hd => rfl); (case hg => rfl); (case hr => first | (go_simp; done) | (go_simp; rfl)); intro g3 hg3 w3 hbox3 hb3; have G3 := Aq.mk hg3; clear hg3; have B3 := Aq.mk hbox3; clear hbox3; have HB3 := Aq.mk hb3; clear hb3) | ((with_reducible refine q12q (N := 5) rfl ?_); refine q11q ?hg (N := 5) ?hd (cs := #[.int .i64 op, .int .i64 a, .int .i64 b]) (t := 52) ?hr ?_; (case hd => rfl); (case hg => rfl); (case hr => first | (go_simp; done) | (go_simp; rfl)); intro g5 hg5 w5 hbox5 hb5; have G5 := Aq.mk hg5; clear hg5; have HB5 := Aq.mk (hb5); clear hb5; have C50 : w5.cell? ⟨g5, 0, none⟩ = some (.int .i64 op) := (q3q hbox5 0).trans rfl; have B5 := Aq.mk hbox5; clear hbox5) | (go_at_call 60; (with_reducible refine (among_any op 37 _).mono ?_); rw [hd]; rintro e w' ⟨rfl, ⟨nd, rfl⟩⟩))
 go_ret
 exact ⟨rfl, q0q (HB3.out.trans (HB5.out.mono HB3.out.size)) _⟩
end
section
variable (a0_0 : Int) (a0_1 : Int) (A0_2 : Option Addr) (c0_2 : Nat) (l0_2 : List (S50)) (A0_3 : Option Addr) (c0_3 : Nat) (l0_3 : List (S42)) (A0_4 : Option Addr) (c0_4 : Nat) (l0_4 : List (S52)) (a0_5 : Int)
theorem Fn3.below {w w' : World} (h : Fn3 A0_2 c0_2 l0_2 A0_3 c0_3 l0_3 A0_4 c0_4 l0_4 w) (hb : Below w.heap.size w w') : Fn3 A0_2 c0_2 l0_2 A0_3 c0_3 l0_3 A0_4 c0_4 l0_4 w' :=
 ⟨Kd.q19q h.r2 hb, h.c2, Kd.q19q h.r3 hb, h.c3, Kd.q19q h.r4 hb, h.c4⟩
structure Cl (lb bb g1 g2 : Nat) (w : World) : Prop where
 tab : Tab lb bb w
 fn : Fn3 A0_2 c0_2 l0_2 A0_3 c0_3 l0_3 A0_4 c0_4 l0_4 w
 p : w.heap[g1]? = some (.cells #[.int .i64 a0_0, .int .i64 a0_1, .slice A0_2 l0_2.length c0_2, .slice A0_3 l0_3.length c0_3, .slice A0_4 l0_4.length c0_4, .int .i64 a0_5] 77 (0, 0))
 l : w.cell? ⟨g2, 0, none⟩ = some (.pointer (some ⟨lb, 0, none⟩))
theorem Cl.below {lb bb g1 g2 : Nat} {w w' : World} (h : Cl a0_0 a0_1 A0_2 c0_2 l0_2 A0_3 c0_3 l0_3 A0_4 c0_4 l0_4 a0_5 lb bb g1 g2 w) (hb : Below w.heap.size w w') : Cl a0_0 a0_1 A0_2 c0_2 l0_2 A0_3 c0_3 l0_3 A0_4 c0_4 l0_4 a0_5 lb bb g1 g2 w' :=
 ⟨h.tab.below hb, h.fn.below _ _ _ _ _ _ _ _ _ hb, (hb.block _ (Array.getElem?_eq_some_iff.1 h.p).1).trans h.p, (hb.cell (World.block_lt_of_cell? w _ h.l)).trans h.l⟩
set_option maxHeartbeats 4000000 in
theorem not_may (lb bb g1 g2 : Nat) (i : S52) (w : World) (hC : Cl a0_0 a0_1 A0_2 c0_2 l0_2 A0_3 c0_3 l0_3 A0_4 c0_4 l0_4 a0_5 lb bb g1 g2 w) :
  Calls Try.prog 62 #[.agg #[.int .i64 i.f0, .int .i64 i.f1, .int .i64 i.f2], .pointer (some ⟨g1, 0, none⟩), .pointer (some ⟨g2, 0, none⟩)] w
   fun e w' => e = .returned (.bool (!mayI a0_1 l0_2.length l0_3 l0_4.length a0_5 i)) ∧ Below w.heap.size w w' := by
 have HC := Aq.mk hC
 clear hC
 go_enter Try.func62, Try.ntmps62
 go_wp2_with ((with_reducible refine q12q (N := 3) rfl ?_); refine q11q ?hg (N := 3) ?hd (cs := #[.int .i64 i.f0, .int .i64 i.f1, .int .i64 i.f2]) (t := 52) ?hr ?_; (case hd => rfl); (case hg => rfl); (case hr => first | (go_simp; done) | (go_simp; rfl)); intro g3 hg3 w3 hbox3 hb3; have G3 := Aq.mk hg3; clear hg3; have HB3 := Aq.mk hb3; have HC3 := Aq.mk (HC.out.below _ _ _ _ _ _ _ _ _ _ _ _ hb3); clear hb3; have C30 : w3.cell? ⟨g3, 0, none⟩ = some (.int .i64 i.f0) := (q3q hbox3 0).trans rfl; have C31 : w3.cell? ⟨g3, 1, none⟩ = some (.int .i64 i.f1) := (q3q hbox3 1).trans rfl; have C32 : w3.cell? ⟨g3, 2, none⟩ = some (.int .i64 i.f2) := (q3q hbox3 2).trans rfl; have L3 := HC3.out.l; have P0 : w3.cell? ⟨g1, 0, none⟩ = some (.int .i64 a0_0) := (q3q HC3.out.p 0).trans rfl; have P1 : w3.cell? ⟨g1, 1, none⟩ = some (.int .i64 a0_1) := (q3q HC3.out.p 1).trans rfl; have P2 : w3.cell? ⟨g1, 2, none⟩ = some (.slice A0_2 l0_2.length c0_2) := (q3q HC3.out.p 2).trans rfl; have P3 : w3.cell? ⟨g1, 3, none⟩ = some (.slice A0_3 l0_3.length c0_3) := (q3q HC3.out.p 3).trans rfl; have P4 : w3.cell? ⟨g1, 4, none⟩ = some (.slice A0_4 l0_4.length c0_4) := (q3q HC3.out.p 4).trans rfl; have P5 : w3.cell? ⟨g1, 5, none⟩ = some (.int .i64 a0_5) := (q3q HC3.out.p 5).trans rfl; clear hbox3)
 refine (may_all a0_0 a0_1 A0_2 c0_2 l0_2 A0_3 c0_3 l0_3 A0_4 c0_4 l0_4 a0_5 lb bb i _ HC3.out.tab HC3.out.fn).mono ?_
 rintro e w8 ⟨rfl, hb8⟩
 go_wp2_with fail
 go_ret
 exact ⟨rfl, HB3.out.trans (hb8.mono HB3.out.size)⟩
def idxF (p : S52 → Bool) : List S52 → Int → Int
 | [], _ => -1
 | x :: l, k => if p x = true then k else idxF p l (k + 1)
set_option maxHeartbeats 4000000 in
theorem index_any (lb bb g1 g2 : Nat) (w : World) (hC : Cl a0_0 a0_1 A0_2 c0_2 l0_2 A0_3 c0_3 l0_3 A0_4 c0_4 l0_4 a0_5 lb bb g1 g2 w) (hl : l0_4.length ≤ 1000000) :
  Calls Try.prog 71 #[.slice A0_4 l0_4.length c0_4, .func (.func 62) #[] #[.pointer (some ⟨g1, 0, none⟩), .pointer (some ⟨g2, 0, none⟩)]] w
   fun e w' => e = .returned (.int .i64 (idxF (fun i => !mayI a0_1 l0_2.length l0_3 l0_4.length a0_5 i) l0_4 0)) ∧ Below w.heap.size w w' := by
 have HC := Aq.mk hC
 clear hC
 generalize hp : (fun i => !mayI a0_1 l0_2.length l0_3 l0_4.length a0_5 i) = p
 have HP := Aq.mk hp
 clear hp
 go_enter Try.func71, Try.ntmps71
 go_wp2_with fail
 go_loopw [8] (fun v wr => ∃ k : Nat, v = .int .i64 k ∧ k ≤ l0_4.length ∧ idxF p (l0_4.drop k) k = idxF p l0_4 0 ∧ Below w.heap.size w wr) (fun v _ => l0_4.length - (intOf v).toNat)
 case atStart => exact ⟨0, rfl, Nat.zero_le _, rfl, Below.refl _ _⟩
 case round =>
  obtain ⟨k, rfl, hk, hidx, hbel⟩ := hrel
  have HI := Aq.mk hidx
  have HBL := Aq.mk hbel
  have HCr := Aq.mk (HC.out.below _ _ _ _ _ _ _ _ _ _ _ _ hbel)
  clear hidx hbel
  by_cases hlt : k < l0_4.length
  case neg =>
   have hz := Aq.mk (show idxF p l0_4 0 = -1 by rw [← HI.out, List.drop_eq_nil_of_le (by omega)]; rfl)
   go_wp2_with fail
   go_ret
   exact ⟨by rw [hz.out]; rfl, HBL.out⟩
  obtain ⟨ad, hA, c0, c1, c2⟩ := at_T52 HCr.out.fn.r4 k (by omega) (by omega)
  subst hA
  simp only [Int.toNat_natCast] at c0 c1 c2
  have hx : l0_4.drop k = rd_T52 l0_4 k :: l0_4.drop (k + 1) := by
   rw [List.drop_eq_getElem_cons hlt]
   congr 1
   unfold rd_T52
   rw [Int.toNat_natCast, List.getD_eq_getElem?_getD, List.getElem?_eq_getElem hlt]
   rfl
  have HX := Aq.mk hx
  clear hx
  obtain ⟨x, hxx⟩ : ∃ x, rd_T52 l0_4 k = x := ⟨_, rfl⟩
  have HXX := Aq.mk hxx
  rw [hxx] at c0 c1 c2
  clear hxx
  go_wp2_with fail
  refine (not_may a0_0 a0_1 A0_2 c0_2 l0_2 A0_3 c0_3 l0_3 (some ad) c0_4 l0_4 a0_5 lb bb g1 g2 x wr HCr.out).mono ?_
  rw [show (!mayI a0_1 l0_2.length l0_3 l0_4.length a0_5 x) = p x by rw [← HP.out]]
  rintro e w8 ⟨rfl, hb8⟩
  cases hpx : p x with
  | true =>
   have hz := Aq.mk (show idxF p l0_4 0 = k by rw [← HI.out, HX.out, HXX.out]; show (if p x = true then (k : Int) else _) = k; rw [if_pos hpx])
   have HB8 := Aq.mk (HBL.out.trans (hb8.mono HBL.out.size))
   clear hb8
   go_wp2_with fail
   go_ret
   exact ⟨by rw [hz.out]; rfl, HB8.out⟩
  | false =>
   have hz := Aq.mk (show idxF p (l0_4.drop (k + 1)) ((k + 1 : Nat) : Int) = idxF p l0_4 0 by
    rw [← HI.out, HX.out, HXX.out]
    show _ = (if p x = true then (k : Int) else idxF p (l0_4.drop (k + 1)) ((k : Int) + 1))
    rw [if_neg (by rw [hpx]; decide)]
    rfl)
   have HB8 := Aq.mk (HBL.out.trans (hb8.mono HBL.out.size))
   clear hb8
   go_wp2_with fail
   go_roundw
   case rel => exact ⟨k + 1, by simp, hlt, hz.out, HB8.out⟩
   case measure => simp [intOf]; omega
theorem idxF_pos (p : S52 → Bool) : ∀ (l : List S52) (k : Int), 0 ≤ k → (idxF p l k ≥ 0 ↔ l.any p = true)
 | [], k, _ => by simp [idxF]
 | x :: l, k, h => by
  unfold idxF
  by_cases hp : p x = true
  ·rw [if_pos hp]; simp [hp, h]
  rw [if_neg hp, idxF_pos p l (k + 1) (by omega)]; simp [hp]
set_option maxHeartbeats 4000000 in
theorem contains_any (lb bb g1 g2 : Nat) (w : World) (hC : Cl a0_0 a0_1 A0_2 c0_2 l0_2 A0_3 c0_3 l0_3 A0_4 c0_4 l0_4 a0_5 lb bb g1 g2 w) (hl : l0_4.length ≤ 1000000) :
  Calls Try.prog 61 #[.slice A0_4 l0_4.length c0_4, .func (.func 62) #[] #[.pointer (some ⟨g1, 0, none⟩), .pointer (some ⟨g2, 0, none⟩)]] w
   fun e w' => e = .returned (.bool (l0_4.any fun i => !mayI a0_1 l0_2.length l0_3 l0_4.length a0_5 i)) ∧ Below w.heap.size w w' := by
 obtain ⟨n, hn⟩ : ∃ n, idxF (fun i => !mayI a0_1 l0_2.length l0_3 l0_4.length a0_5 i) l0_4 0 = n := ⟨_, rfl⟩
 have hr : (l0_4.any fun i => !mayI a0_1 l0_2.length l0_3 l0_4.length a0_5 i) = decide (0 ≤ n) := by
  have := idxF_pos (fun i => !mayI a0_1 l0_2.length l0_3 l0_4.length a0_5 i) l0_4 0 (Int.le_refl _)
  rw [hn] at this
  rw [Bool.eq_iff_iff, decide_eq_true_iff]
  exact this.symm
 have hc := index_any a0_0 a0_1 A0_2 c0_2 l0_2 A0_3 c0_3 l0_3 A0_4 c0_4 l0_4 a0_5 lb bb g1 g2 w hC hl
 rw [hn] at hc
 rw [hr]
 clear hr hC hn
 have HCC := Aq.mk hc
 clear hc
 go_enter Try.func61, Try.ntmps61
 go_wp2_with (with_reducible refine (HCC.out).mono ?_)
 rintro e w8 ⟨rfl, hb8⟩
 go_wp2_with fail
 go_ret
 exact ⟨rfl, hb8⟩
end
def notAny (regs : Int) (nu : Nat) (cs : List S42) (protos : Int) (l : List S52) : Option Bool := if l.length ≤ 1000000 then some (l.any fun i => !mayI regs nu cs l.length protos i) else none
theorem notAny_len {regs : Int} {nu : Nat} {cs : List S42} {protos : Int} {l : List S52} {r : Bool} (h : notAny regs nu cs protos l = some r) : l.length ≤ 1000000 := by
 unfold notAny at h
 by_cases hl : l.length ≤ 1000000
 ·exact hl
 rw [if_neg hl] at h; cases h
theorem notAny_val {regs : Int} {nu : Nat} {cs : List S42} {protos : Int} {l : List S52} {r : Bool} (h : notAny regs nu cs protos l = some r) : (l.any fun i => !mayI regs nu cs l.length protos i) = r := by
 unfold notAny at h
 rw [if_pos (notAny_len (by unfold notAny; exact h))] at h
 exact Option.some.inj h
theorem base_up {w0 w w' : World} (h : Below w0.heap.size w0 w) (k : Below w.heap.size w w') : Below w0.heap.size w0 w' := h.trans (k.mono h.size)
theorem cl_now {a0_0 : Int} {a0_1 : Int} {A0_2 : Option Addr} {c0_2 : Nat} {l0_2 : List (S50)} {A0_3 : Option Addr} {c0_3 : Nat} {l0_3 : List (S42)} {A0_4 : Option Addr} {c0_4 : Nat} {l0_4 : List (S52)} {a0_5 : Int} {lb bb g1 g2 : Nat} {w w' : World}
  (hT : Tab lb bb w) (h2 : Kd.C k50 w A0_2 l0_2.length l0_2) (e2 : l0_2.length ≤ c0_2) (h3 : Kd.C k42 w A0_3 l0_3.length l0_3) (e3 : l0_3.length ≤ c0_3) (h4 : Kd.C k52 w A0_4 l0_4.length l0_4) (e4 : l0_4.length ≤ c0_4)
  (hl : w.heap[g2]? = some (.cells #[.pointer (some ⟨lb, 0, none⟩)] 79 (0, 0))) (hp : w'.heap[g1]? = some (.cells #[.int .i64 a0_0, .int .i64 a0_1, .slice A0_2 l0_2.length c0_2, .slice A0_3 l0_3.length c0_3, .slice A0_4 l0_4.length c0_4, .int .i64 a0_5] 77 (0, 0))) (hb : Below w.heap.size w w') :
  Cl a0_0 a0_1 A0_2 c0_2 l0_2 A0_3 c0_3 l0_3 A0_4 c0_4 l0_4 a0_5 lb bb g1 g2 w' :=
 ⟨hT.below hb, ⟨Kd.q19q h2 hb, e2, Kd.q19q h3 hb, e3, Kd.q19q h4 hb, e4⟩, hp, (q3q ((hb.block _ (Array.getElem?_eq_some_iff.1 hl).1).trans hl) 0).trans rfl⟩
mutual
def fQ2.j2 : Nat → Int → Int → Int → List (S50) → List (S42) → List (S52) → Int → Option (Int)
 | 0, _, _, _, _, _, _, _ => none
 | k + 1, x1, x116000, x116001, x116002, x116003, x116004, x116005 => fQ2.l0 k x1 x116002 (x116002.length : Int) 0 x116000 x116001 x116002 x116003 x116004 x116005
def fQ2.l0 : Nat → Int → List (S50) → Int → Int → Int → Int → List (S50) → List (S42) → List (S52) → Int → Option (Int)
 | 0, _, _, _, _, _, _, _, _, _, _ => none
 | k + 1, x1, x75, x76, x77, x116000, x116001, x116002, x116003, x116004, x116005 => if x77 < x76 then (if 0 ≤ x77 then (if x77 < (x75.length : Int) then (if (rd_T50 x75 x77).f0 = true then ((fQ14.f ((rd_T50 x75 x77).f1) 250).bind fun t118 => (if t118 = true then (if ((rd_T50 x75 x77).f0 = true) then (fQ2.l0 k x1 x75 x76 (wrap64 (x77 + 1)) x116000 x116001 x116002 x116003 x116004 x116005) else ((fQ14.f ((rd_T50 x75 x77).f1) 60).bind fun t119 => (if t119 = true then (fQ2.l0 k x1 x75 x76 (wrap64 (x77 + 1)) x116000 x116001 x116002 x116003 x116004 x116005) else (some 2)))) else (some 2))) else (if ((rd_T50 x75 x77).f0 = true) then (fQ2.l0 k x1 x75 x76 (wrap64 (x77 + 1)) x116000 x116001 x116002 x116003 x116004 x116005) else ((fQ14.f ((rd_T50 x75 x77).f1) 60).bind fun t120 => (if t120 = true then (fQ2.l0 k x1 x75 x76 (wrap64 (x77 + 1)) x116000 x116001 x116002 x116003 x116004 x116005) else (some 2))))) else (none)) else (none)) else (fQ2.l1 k x1 false x116003 (x116003.length : Int) 0 x116000 x116001 x116002 x116003 x116004 x116005)
def fQ2.l1 : Nat → Int → Bool → List (S42) → Int → Int → Int → Int → List (S50) → List (S42) → List (S52) → Int → Option (Int)
 | 0, _, _, _, _, _, _, _, _, _, _, _ => none
 | k + 1, x1, x9, x103, x104, x105, x116000, x116001, x116002, x116003, x116004, x116005 => if x105 < x104 then (if 0 ≤ x105 then (if x105 < (x103.length : Int) then (if x9 = true then (if ((rd_T42 x103 x105).f0) = 3 then (if ((rd_T42 x103 x105).f2).toList = ([] : List UInt8) then (fQ2.l1 k x1 true x103 x104 (wrap64 (x105 + 1)) x116000 x116001 x116002 x116003 x116004 x116005) else (if ((rd_T42 x103 x105).f0) = 5 then (if (((rd_T42 x103 x105).f1) = 0) then (fQ2.l1 k x1 true x103 x104 (wrap64 (x105 + 1)) x116000 x116001 x116002 x116003 x116004 x116005) else (some 2)) else (some 2))) else (if ((rd_T42 x103 x105).f0) = 5 then (if (((rd_T42 x103 x105).f1) = 0) then (fQ2.l1 k x1 true x103 x104 (wrap64 (x105 + 1)) x116000 x116001 x116002 x116003 x116004 x116005) else (some 2)) else (some 2))) else (if ((rd_T42 x103 x105).f0) = 3 then (if ((rd_T42 x103 x105).f2).toList = ([] : List UInt8) then (fQ2.l1 k x1 (decide ((((rd_T42 x103 x105).f2).size : Int) > 4096)) x103 x104 (wrap64 (x105 + 1)) x116000 x116001 x116002 x116003 x116004 x116005) else (if ((rd_T42 x103 x105).f0) = 5 then (if (((rd_T42 x103 x105).f1) = 0) then (fQ2.l1 k x1 (decide ((((rd_T42 x103 x105).f2).size : Int) > 4096)) x103 x104 (wrap64 (x105 + 1)) x116000 x116001 x116002 x116003 x116004 x116005) else (some 2)) else (some 2))) else (if ((rd_T42 x103 x105).f0) = 5 then (if (((rd_T42 x103 x105).f1) = 0) then (fQ2.l1 k x1 (decide ((((rd_T42 x103 x105).f2).size : Int) > 4096)) x103 x104 (wrap64 (x105 + 1)) x116000 x116001 x116002 x116003 x116004 x116005) else (some 2)) else (some 2)))) else (none)) else (none)) else (if x9 = true then (some 3) else (if (x116004.length : Int) = 0 then (some 2) else ((notAny x116001 x116002.length x116003 x116005 x116004).bind fun t123 => (if t123 = true then (some 2) else (some 0)))))
def fQ2.j0 : Nat → Int → Bool → Bool → Int → Int → List (S50) → List (S42) → List (S52) → Int → Option (Int)
 | 0, _, _, _, _, _, _, _, _, _ => none
 | k + 1, x1, x2, x12, x116000, x116001, x116002, x116003, x116004, x116005 => if x12 = true then (some 2) else (if x116000 > 20 then (fQ2.j1 k x1 x2 true x116000 x116001 x116002 x116003 x116004 x116005) else (if x116001 > 250 then (fQ2.j1 k x1 x2 true x116000 x116001 x116002 x116003 x116004 x116005) else (if (x116002.length : Int) > 60 then (fQ2.j1 k x1 x2 true x116000 x116001 x116002 x116003 x116004 x116005) else (if (x116003.length : Int) > 4096 then (fQ2.j1 k x1 x2 true x116000 x116001 x116002 x116003 x116004 x116005) else (fQ2.j1 k x1 x2 (decide ((x116004.length : Int) > 16384)) x116000 x116001 x116002 x116003 x116004 x116005)))))
def fQ2.j1 : Nat → Int → Bool → Bool → Int → Int → List (S50) → List (S42) → List (S52) → Int → Option (Int)
 | 0, _, _, _, _, _, _, _, _, _ => none
 | k + 1, x1, x2, x23, x116000, x116001, x116002, x116003, x116004, x116005 => if x23 = true then (some 3) else (if x116000 > x116001 then (some 2) else (if x2 = true then (if (x116002.length : Int) > 0 then (some 2) else (fQ2.j2 k x1 x116000 x116001 x116002 x116003 x116004 x116005)) else (fQ2.j2 k x1 x116000 x116001 x116002 x116003 x116004 x116005)))
end
def fQ2.f (k : Nat) (a0_0 : Int) (a0_1 : Int) (l0_2 : List (S50)) (l0_3 : List (S42)) (l0_4 : List (S52)) (a0_5 : Int) (a1 : Int) (a2 : Bool) : Option (Int) := if a0_0 < 0 then (fQ2.j0 k a1 a2 true a0_0 a0_1 l0_2 l0_3 l0_4 a0_5) else (fQ2.j0 k a1 a2 (decide (a0_1 < 0)) a0_0 a0_1 l0_2 l0_3 l0_4 a0_5)
theorem fQ2.calls (k : Nat) (a0_0 : Int) (a0_1 : Int) (A0_2 : Option Addr) (c0_2 : Nat) (l0_2 : List (S50)) (A0_3 : Option Addr) (c0_3 : Nat) (l0_3 : List (S42)) (A0_4 : Option Addr) (c0_4 : Nat) (l0_4 : List (S52)) (a0_5 : Int) (a1 : Int) (a2 : Bool) (r : Int) (w0 : World) (lb bb : Nat) (hT : Tab lb bb w0) (hr0_2 : Kd.C k50 w0 A0_2 l0_2.length l0_2) (hc0_2 : l0_2.length ≤ c0_2) (hr0_3 : Kd.C k42 w0 A0_3 l0_3.length l0_3) (hc0_3 : l0_3.length ≤ c0_3) (hr0_4 : Kd.C k52 w0 A0_4 l0_4.length l0_4) (hc0_4 : l0_4.length ≤ c0_4) (h : fQ2.f k a0_0 a0_1 l0_2 l0_3 l0_4 a0_5 a1 a2 = some r) :
  Calls Try.prog 32 #[.agg #[.int .i64 a0_0, .int .i64 a0_1, .slice A0_2 l0_2.length c0_2, .slice A0_3 l0_3.length c0_3, .slice A0_4 l0_4.length c0_4, .int .i64 a0_5], .pointer (some ⟨lb, 0, none⟩), .bool a2] w0 fun e w' => e = .returned (.int .i64 r) ∧ Below w0.heap.size w0 w' := by
 have hu77 := Try.underlying77
 have hu50 := Try.underlying50
 have hu42 := Try.underlying42
 have HR0_2 := Aq.mk hr0_2
 have HC0_2 := Aq.mk hc0_2
 clear hr0_2 hc0_2
 have HR0_3 := Aq.mk hr0_3
 have HC0_3 := Aq.mk hc0_3
 clear hr0_3 hc0_3
 have HR0_4 := Aq.mk hr0_4
 have HC0_4 := Aq.mk hc0_4
 clear hr0_4 hc0_4
 have HB := Aq.mk (Below.refl w0.heap.size w0)
 have H : (if a0_0 < 0 then (fQ2.j0 k a1 a2 true a0_0 a0_1 l0_2 l0_3 l0_4 a0_5) else (fQ2.j0 k a1 a2 (decide (a0_1 < 0)) a0_0 a0_1 l0_2 l0_3 l0_4 a0_5)) = some r := h
 clear h
 have HC4 := Aq.mk H
 clear H
 go_enter Try.func32, Try.ntmps32
 go_upto_block 0 with (first | ((with_reducible refine q12q (N := 3) rfl ?_); (try (refine q20q (by rfl) ?_; dsimp only)); refine q11q ?hg (N := 3) ?hd (cs := #[.int .i64 a0_0, .int .i64 a0_1, .slice A0_2 l0_2.length c0_2, .slice A0_3 l0_3.length c0_3, .slice A0_4 l0_4.length c0_4, .int .i64 a0_5]) (t := 77) ?hr ?_; (case hd => rfl); (case hg => rfl); (case hr => first | (go_simp; done) | (go_simp; rfl)); intro gb115 hg w5 hbox hb; have n0_ := Aq.mk (q10q (by repeat (with_reducible first | exact HB.out | apply q4q | apply q0q | apply q2q)) hb); have n1_ := Aq.mk (hbox); have n2_ := Aq.mk ((by rw [hg]; exact (q6q (by repeat (with_reducible first | exact HB.out | apply q4q | apply q0q | apply q2q))) : w0.heap.size ≤ gb115)); have n3_ := Aq.mk ((by rw [hg]; exact (q6q (by repeat (with_reducible first | exact HB.out | apply q4q | apply q0q | apply q2q))) : w0.heap.size ≤ gb115)); clear HB; have HB := n0_; have BK115 := n1_; have GW115 := n2_; have GE115 := n3_; clear n0_ n1_ n2_ n3_; clear hb hbox hg) | ((with_reducible refine q12q (N := 4) rfl ?_); refine q11q ?hg (N := 4) ?hd (cs := #[.pointer (some ⟨lb, 0, none⟩)]) (t := 79) ?hr ?_; (case hd => rfl); (case hg => rfl); (case hr => first | (go_simp; done) | (go_simp; rfl)); intro gbl hgl w hboxl hbl; have BKL := Aq.mk hboxl; have nb1_ := Aq.mk (q13q (g := gb115) BK115.out hbl); clear BK115; have BK115 := nb1_; clear nb1_; have HB0 := Aq.mk (q10q HB.out hbl); clear HB hgl hboxl hbl))
 (try simp only [Act.put, List.setIfInBounds_toArray, List.set_cons_zero, List.set_cons_succ])
 have hr2_ := Aq.mk (Kd.q19q HR0_2.out HB0.out)
 have hr3_ := Aq.mk (Kd.q19q HR0_3.out HB0.out)
 have hr4_ := Aq.mk (Kd.q19q HR0_4.out HB0.out)
 clear HR0_2 HR0_3 HR0_4
 have HR0_2 := hr2_
 have HR0_3 := hr3_
 have HR0_4 := hr4_
 clear hr2_ hr3_ hr4_
 have HTB := Aq.mk (hT.below HB0.out)
 clear hT
 have HB := Aq.mk (Below.refl w.heap.size w)
 go_cut [] (fun wc => ∃ (kq : Nat), Aq (fQ2.j2 kq a1 a0_0 a0_1 l0_2 l0_3 l0_4 a0_5 = some r) ∧ Aq (kq ≤ k) ∧ Aq (wc.heap[gb115]? = some (.cells #[.int .i64 a0_0, .int .i64 a0_1, (.slice A0_2 l0_2.length c0_2), (.slice A0_3 l0_3.length c0_3), (.slice A0_4 l0_4.length c0_4), .int .i64 a0_5] 77 (0, 0))) ∧ Aq (Below w.heap.size w wc))
 case first =>
  have H := HC4.out
  clear HC4
  have HC6 := Aq.mk H
  clear H
  go_upto_region 1 with (fail)
  go_cut [12] (fun v12 wc => ∃ (kq : Nat) (x12_5 : Bool), v12 = .bool x12_5 ∧ Aq (fQ2.j0 kq a1 a2 x12_5 a0_0 a0_1 l0_2 l0_3 l0_4 a0_5 = some r) ∧ Aq (kq ≤ k) ∧ Aq (wc.heap[gb115]? = some (.cells #[.int .i64 a0_0, .int .i64 a0_1, (.slice A0_2 l0_2.length c0_2), (.slice A0_3 l0_3.length c0_3), (.slice A0_4 l0_4.length c0_4), .int .i64 a0_5] 77 (0, 0))) ∧ Aq (Below w.heap.size w wc))
  case first =>
   have H := HC6.out
   clear HC6
   by_cases c7 : a0_0 < 0
   ·rw [if_pos c7] at H
    have c7b0 : decide (a0_0 < 0) = true := decide_eq_true c7
    clear c7
    (first | rw [c7b0] | (simp only [i64_w, i32_w]; rw [c7b0]) | skip)
    have H' := Aq.mk H
    clear H
    have hcz8_0 : w.cell? ⟨gb115, 0, none⟩ = some (.int .i64 a0_0) := (q3q BK115.out 0).trans rfl
    have hcz8_1 : w.cell? ⟨gb115, 1, none⟩ = some (.int .i64 a0_1) := (q3q BK115.out 1).trans rfl
    have hcz8_2 : w.cell? ⟨gb115, 2, none⟩ = some (.slice A0_2 l0_2.length c0_2) := (q3q BK115.out 2).trans rfl
    have hcz8_3 : w.cell? ⟨gb115, 3, none⟩ = some (.slice A0_3 l0_3.length c0_3) := (q3q BK115.out 3).trans rfl
    have hcz8_4 : w.cell? ⟨gb115, 4, none⟩ = some (.slice A0_4 l0_4.length c0_4) := (q3q BK115.out 4).trans rfl
    have hcz8_5 : w.cell? ⟨gb115, 5, none⟩ = some (.int .i64 a0_5) := (q3q BK115.out 5).trans rfl
    have hfz8_0 := q1q BK115.out 0
    have hfz8_1 := q1q BK115.out 1
    have hfz8_2 := q1q BK115.out 2
    have hfz8_3 := q1q BK115.out 3
    have hfz8_4 := q1q BK115.out 4
    have hfz8_5 := q1q BK115.out 5
    go_wp2
    go_meet
    case rel => exact ⟨_, (true), (by first | rfl | (simp; done) | (simp [*]; done)), H', ⟨by first | omega | exact Nat.le_refl _⟩, ⟨BK115.out⟩, ⟨by repeat (with_reducible first | exact HB.out | apply q4q | apply q0q | apply q2q | refine q5q ?_ GE115.out)⟩⟩
   rw [if_neg c7] at H
   have c7b0 : decide (a0_0 < 0) = false := decide_eq_false c7
   clear c7
   (first | rw [c7b0] | (simp only [i64_w, i32_w]; rw [c7b0]) | skip)
   have H' := Aq.mk H
   clear H
   have hcz9_0 : w.cell? ⟨gb115, 0, none⟩ = some (.int .i64 a0_0) := (q3q BK115.out 0).trans rfl
   have hcz9_1 : w.cell? ⟨gb115, 1, none⟩ = some (.int .i64 a0_1) := (q3q BK115.out 1).trans rfl
   have hcz9_2 : w.cell? ⟨gb115, 2, none⟩ = some (.slice A0_2 l0_2.length c0_2) := (q3q BK115.out 2).trans rfl
   have hcz9_3 : w.cell? ⟨gb115, 3, none⟩ = some (.slice A0_3 l0_3.length c0_3) := (q3q BK115.out 3).trans rfl
   have hcz9_4 : w.cell? ⟨gb115, 4, none⟩ = some (.slice A0_4 l0_4.length c0_4) := (q3q BK115.out 4).trans rfl
   have hcz9_5 : w.cell? ⟨gb115, 5, none⟩ = some (.int .i64 a0_5) := (q3q BK115.out 5).trans rfl
   have hfz9_0 := q1q BK115.out 0
   have hfz9_1 := q1q BK115.out 1
   have hfz9_2 := q1q BK115.out 2
   have hfz9_3 := q1q BK115.out 3
   have hfz9_4 := q1q BK115.out 4
   have hfz9_5 := q1q BK115.out 5
   go_wp2
   go_meet
   case rel => exact ⟨_, (decide (a0_1 < 0)), (by first | rfl | (simp; done) | (simp [*]; done)), H', ⟨by first | omega | exact Nat.le_refl _⟩, ⟨BK115.out⟩, ⟨by repeat (with_reducible first | exact HB.out | apply q4q | apply q0q | apply q2q | refine q5q ?_ GE115.out)⟩⟩
  case rest =>
   clear HC6
   obtain ⟨kq, x12_5, rfl, HA, HJ5, BK115, HB⟩ := hcut
   cases kq with
   | zero => exact absurd HA.out (by simp [fQ2.j0])
   | succ kj5 =>
    have H := HA.out
    clear HA
    simp only [fQ2.j0] at H
    by_cases c10 : x12_5 = true
    ·subst c10
     have H1 : (some 2) = some r := by rw [if_pos rfl] at H; exact H
     clear H
     have H := H1
     clear H1
     obtain rfl := Option.some.inj H
     go_wp2
     go_ret
     exact ⟨by first | rfl | (simp [*] <;> rfl), base_up HB0.out (by repeat (with_reducible first | exact HB.out | apply q4q | apply q0q | apply q2q | refine q5q ?_ GE115.out))⟩
    replace c10 := Bool.eq_false_iff.mpr c10
    subst c10
    have H1 : (if a0_0 > 20 then (fQ2.j1 kj5 a1 a2 true a0_0 a0_1 l0_2 l0_3 l0_4 a0_5) else (if a0_1 > 250 then (fQ2.j1 kj5 a1 a2 true a0_0 a0_1 l0_2 l0_3 l0_4 a0_5) else (if (l0_2.length : Int) > 60 then (fQ2.j1 kj5 a1 a2 true a0_0 a0_1 l0_2 l0_3 l0_4 a0_5) else (if (l0_3.length : Int) > 4096 then (fQ2.j1 kj5 a1 a2 true a0_0 a0_1 l0_2 l0_3 l0_4 a0_5) else (fQ2.j1 kj5 a1 a2 (decide ((l0_4.length : Int) > 16384)) a0_0 a0_1 l0_2 l0_3 l0_4 a0_5))))) = some r := by rw [if_neg (show ¬ (false = true) by decide)] at H; exact H
    clear H
    have H := H1
    clear H1
    have HC11 := Aq.mk H
    clear H
    go_upto_region 3 with (fail)
    go_cut [23] (fun v23 wc => ∃ (kq : Nat) (x23_10 : Bool), v23 = .bool x23_10 ∧ Aq (fQ2.j1 kq a1 a2 x23_10 a0_0 a0_1 l0_2 l0_3 l0_4 a0_5 = some r) ∧ Aq (kq ≤ kj5) ∧ Aq (wc.heap[gb115]? = some (.cells #[.int .i64 a0_0, .int .i64 a0_1, (.slice A0_2 l0_2.length c0_2), (.slice A0_3 l0_3.length c0_3), (.slice A0_4 l0_4.length c0_4), .int .i64 a0_5] 77 (0, 0))) ∧ Aq (Below w.heap.size w wc))
    case first =>
     have H := HC11.out
     clear HC11
     by_cases c12 : a0_0 > 20
     ·rw [if_pos c12] at H
      have c12b0 : decide (20 < a0_0) = true := decide_eq_true c12
      clear c12
      (first | rw [c12b0] | (simp only [i64_w, i32_w]; rw [c12b0]) | skip)
      have H' := Aq.mk H
      clear H
      have hcz13_0 : wc.cell? ⟨gb115, 0, none⟩ = some (.int .i64 a0_0) := (q3q BK115.out 0).trans rfl
      have hcz13_1 : wc.cell? ⟨gb115, 1, none⟩ = some (.int .i64 a0_1) := (q3q BK115.out 1).trans rfl
      have hcz13_2 : wc.cell? ⟨gb115, 2, none⟩ = some (.slice A0_2 l0_2.length c0_2) := (q3q BK115.out 2).trans rfl
      have hcz13_3 : wc.cell? ⟨gb115, 3, none⟩ = some (.slice A0_3 l0_3.length c0_3) := (q3q BK115.out 3).trans rfl
      have hcz13_4 : wc.cell? ⟨gb115, 4, none⟩ = some (.slice A0_4 l0_4.length c0_4) := (q3q BK115.out 4).trans rfl
      have hcz13_5 : wc.cell? ⟨gb115, 5, none⟩ = some (.int .i64 a0_5) := (q3q BK115.out 5).trans rfl
      have hfz13_0 := q1q BK115.out 0
      have hfz13_1 := q1q BK115.out 1
      have hfz13_2 := q1q BK115.out 2
      have hfz13_3 := q1q BK115.out 3
      have hfz13_4 := q1q BK115.out 4
      have hfz13_5 := q1q BK115.out 5
      go_wp2
      go_meet
      case rel => exact ⟨_, (true), (by first | rfl | (simp; done) | (simp [*]; done)), H', ⟨by have := HJ5.out; first | omega | exact Nat.le_refl _⟩, ⟨BK115.out⟩, ⟨by repeat (with_reducible first | exact HB.out | apply q4q | apply q0q | apply q2q | refine q5q ?_ GE115.out)⟩⟩
     rw [if_neg c12] at H
     have c12b0 : decide (20 < a0_0) = false := decide_eq_false c12
     clear c12
     (first | rw [c12b0] | (simp only [i64_w, i32_w]; rw [c12b0]) | skip)
     by_cases c14 : a0_1 > 250
     ·rw [if_pos c14] at H
      have c14b0 : decide (250 < a0_1) = true := decide_eq_true c14
      clear c14
      have H' := Aq.mk H
      clear H
      have hcz15_0 : wc.cell? ⟨gb115, 0, none⟩ = some (.int .i64 a0_0) := (q3q BK115.out 0).trans rfl
      have hcz15_1 : wc.cell? ⟨gb115, 1, none⟩ = some (.int .i64 a0_1) := (q3q BK115.out 1).trans rfl
      have hcz15_2 : wc.cell? ⟨gb115, 2, none⟩ = some (.slice A0_2 l0_2.length c0_2) := (q3q BK115.out 2).trans rfl
      have hcz15_3 : wc.cell? ⟨gb115, 3, none⟩ = some (.slice A0_3 l0_3.length c0_3) := (q3q BK115.out 3).trans rfl
      have hcz15_4 : wc.cell? ⟨gb115, 4, none⟩ = some (.slice A0_4 l0_4.length c0_4) := (q3q BK115.out 4).trans rfl
      have hcz15_5 : wc.cell? ⟨gb115, 5, none⟩ = some (.int .i64 a0_5) := (q3q BK115.out 5).trans rfl
      have hfz15_0 := q1q BK115.out 0
      have hfz15_1 := q1q BK115.out 1
      have hfz15_2 := q1q BK115.out 2
      have hfz15_3 := q1q BK115.out 3
      have hfz15_4 := q1q BK115.out 4
      have hfz15_5 := q1q BK115.out 5
      go_wp2
      go_meet
      case rel => exact ⟨_, (true), (by first | rfl | (simp; done) | (simp [*]; done)), H', ⟨by have := HJ5.out; first | omega | exact Nat.le_refl _⟩, ⟨BK115.out⟩, ⟨by repeat (with_reducible first | exact HB.out | apply q4q | apply q0q | apply q2q | refine q5q ?_ GE115.out)⟩⟩
     rw [if_neg c14] at H
     have c14b0 : decide (250 < a0_1) = false := decide_eq_false c14
     clear c14
     by_cases c16 : (l0_2.length : Int) > 60
     ·rw [if_pos c16] at H
      have c16b0 : decide (60 < (l0_2.length : Int)) = true := decide_eq_true c16
      have c16b1 : decide (60 < l0_2.length) = true := decide_eq_true (by omega)
      clear c16
      have H' := Aq.mk H
      clear H
      have hcz17_0 : wc.cell? ⟨gb115, 0, none⟩ = some (.int .i64 a0_0) := (q3q BK115.out 0).trans rfl
      have hcz17_1 : wc.cell? ⟨gb115, 1, none⟩ = some (.int .i64 a0_1) := (q3q BK115.out 1).trans rfl
      have hcz17_2 : wc.cell? ⟨gb115, 2, none⟩ = some (.slice A0_2 l0_2.length c0_2) := (q3q BK115.out 2).trans rfl
      have hcz17_3 : wc.cell? ⟨gb115, 3, none⟩ = some (.slice A0_3 l0_3.length c0_3) := (q3q BK115.out 3).trans rfl
      have hcz17_4 : wc.cell? ⟨gb115, 4, none⟩ = some (.slice A0_4 l0_4.length c0_4) := (q3q BK115.out 4).trans rfl
      have hcz17_5 : wc.cell? ⟨gb115, 5, none⟩ = some (.int .i64 a0_5) := (q3q BK115.out 5).trans rfl
      have hfz17_0 := q1q BK115.out 0
      have hfz17_1 := q1q BK115.out 1
      have hfz17_2 := q1q BK115.out 2
      have hfz17_3 := q1q BK115.out 3
      have hfz17_4 := q1q BK115.out 4
      have hfz17_5 := q1q BK115.out 5
      go_wp2
      go_meet
      case rel => exact ⟨_, (true), (by first | rfl | (simp; done) | (simp [*]; done)), H', ⟨by have := HJ5.out; first | omega | exact Nat.le_refl _⟩, ⟨BK115.out⟩, ⟨by repeat (with_reducible first | exact HB.out | apply q4q | apply q0q | apply q2q | refine q5q ?_ GE115.out)⟩⟩
     rw [if_neg c16] at H
     have c16b0 : decide (60 < (l0_2.length : Int)) = false := decide_eq_false c16
     have c16b1 : decide (60 < l0_2.length) = false := decide_eq_false (by omega)
     clear c16
     by_cases c18 : (l0_3.length : Int) > 4096
     ·rw [if_pos c18] at H
      have c18b0 : decide (4096 < (l0_3.length : Int)) = true := decide_eq_true c18
      have c18b1 : decide (4096 < l0_3.length) = true := decide_eq_true (by omega)
      clear c18
      have H' := Aq.mk H
      clear H
      have hcz19_0 : wc.cell? ⟨gb115, 0, none⟩ = some (.int .i64 a0_0) := (q3q BK115.out 0).trans rfl
      have hcz19_1 : wc.cell? ⟨gb115, 1, none⟩ = some (.int .i64 a0_1) := (q3q BK115.out 1).trans rfl
      have hcz19_2 : wc.cell? ⟨gb115, 2, none⟩ = some (.slice A0_2 l0_2.length c0_2) := (q3q BK115.out 2).trans rfl
      have hcz19_3 : wc.cell? ⟨gb115, 3, none⟩ = some (.slice A0_3 l0_3.length c0_3) := (q3q BK115.out 3).trans rfl
      have hcz19_4 : wc.cell? ⟨gb115, 4, none⟩ = some (.slice A0_4 l0_4.length c0_4) := (q3q BK115.out 4).trans rfl
      have hcz19_5 : wc.cell? ⟨gb115, 5, none⟩ = some (.int .i64 a0_5) := (q3q BK115.out 5).trans rfl
      have hfz19_0 := q1q BK115.out 0
      have hfz19_1 := q1q BK115.out 1
      have hfz19_2 := q1q BK115.out 2
      have hfz19_3 := q1q BK115.out 3
      have hfz19_4 := q1q BK115.out 4
      have hfz19_5 := q1q BK115.out 5
      go_wp2
      go_meet
      case rel => exact ⟨_, (true), (by first | rfl | (simp; done) | (simp [*]; done)), H', ⟨by have := HJ5.out; first | omega | exact Nat.le_refl _⟩, ⟨BK115.out⟩, ⟨by repeat (with_reducible first | exact HB.out | apply q4q | apply q0q | apply q2q | refine q5q ?_ GE115.out)⟩⟩
     rw [if_neg c18] at H
     have c18b0 : decide (4096 < (l0_3.length : Int)) = false := decide_eq_false c18
     have c18b1 : decide (4096 < l0_3.length) = false := decide_eq_false (by omega)
     clear c18
     have H' := Aq.mk H
     clear H
     have hcz20_0 : wc.cell? ⟨gb115, 0, none⟩ = some (.int .i64 a0_0) := (q3q BK115.out 0).trans rfl
     have hcz20_1 : wc.cell? ⟨gb115, 1, none⟩ = some (.int .i64 a0_1) := (q3q BK115.out 1).trans rfl
     have hcz20_2 : wc.cell? ⟨gb115, 2, none⟩ = some (.slice A0_2 l0_2.length c0_2) := (q3q BK115.out 2).trans rfl
     have hcz20_3 : wc.cell? ⟨gb115, 3, none⟩ = some (.slice A0_3 l0_3.length c0_3) := (q3q BK115.out 3).trans rfl
     have hcz20_4 : wc.cell? ⟨gb115, 4, none⟩ = some (.slice A0_4 l0_4.length c0_4) := (q3q BK115.out 4).trans rfl
     have hcz20_5 : wc.cell? ⟨gb115, 5, none⟩ = some (.int .i64 a0_5) := (q3q BK115.out 5).trans rfl
     have hfz20_0 := q1q BK115.out 0
     have hfz20_1 := q1q BK115.out 1
     have hfz20_2 := q1q BK115.out 2
     have hfz20_3 := q1q BK115.out 3
     have hfz20_4 := q1q BK115.out 4
     have hfz20_5 := q1q BK115.out 5
     go_wp2
     go_meet
     case rel => exact ⟨_, (decide ((l0_4.length : Int) > 16384)), (by first | rfl | (simp; done) | (simp [*]; done)), H', ⟨by have := HJ5.out; first | omega | exact Nat.le_refl _⟩, ⟨BK115.out⟩, ⟨by repeat (with_reducible first | exact HB.out | apply q4q | apply q0q | apply q2q | refine q5q ?_ GE115.out)⟩⟩
    case rest =>
     clear HC11
     obtain ⟨kq, x23_10, rfl, HA, HJ10, BK115, HB⟩ := hcut
     cases kq with
     | zero => exact absurd HA.out (by simp [fQ2.j1])
     | succ kj10 =>
      have H := HA.out
      clear HA
      simp only [fQ2.j1] at H
      by_cases c21 : x23_10 = true
      ·subst c21
       have H1 : (some 3) = some r := by rw [if_pos rfl] at H; exact H
       clear H
       have H := H1
       clear H1
       obtain rfl := Option.some.inj H
       go_wp2
       go_ret
       exact ⟨by first | rfl | (simp [*] <;> rfl), base_up HB0.out (by repeat (with_reducible first | exact HB.out | apply q4q | apply q0q | apply q2q | refine q5q ?_ GE115.out))⟩
      replace c21 := Bool.eq_false_iff.mpr c21
      subst c21
      have H1 : (if a0_0 > a0_1 then (some 2) else (if a2 = true then (if (l0_2.length : Int) > 0 then (some 2) else (fQ2.j2 kj10 a1 a0_0 a0_1 l0_2 l0_3 l0_4 a0_5)) else (fQ2.j2 kj10 a1 a0_0 a0_1 l0_2 l0_3 l0_4 a0_5))) = some r := by rw [if_neg (show ¬ (false = true) by decide)] at H; exact H
      clear H
      have H := H1
      clear H1
      by_cases c22 : a0_0 > a0_1
      ·rw [if_pos c22] at H
       have c22b0 : decide (a0_1 < a0_0) = true := decide_eq_true c22
       clear c22
       obtain rfl := Option.some.inj H
       have hcz23_0 : wc.cell? ⟨gb115, 0, none⟩ = some (.int .i64 a0_0) := (q3q BK115.out 0).trans rfl
       have hcz23_1 : wc.cell? ⟨gb115, 1, none⟩ = some (.int .i64 a0_1) := (q3q BK115.out 1).trans rfl
       have hcz23_2 : wc.cell? ⟨gb115, 2, none⟩ = some (.slice A0_2 l0_2.length c0_2) := (q3q BK115.out 2).trans rfl
       have hcz23_3 : wc.cell? ⟨gb115, 3, none⟩ = some (.slice A0_3 l0_3.length c0_3) := (q3q BK115.out 3).trans rfl
       have hcz23_4 : wc.cell? ⟨gb115, 4, none⟩ = some (.slice A0_4 l0_4.length c0_4) := (q3q BK115.out 4).trans rfl
       have hcz23_5 : wc.cell? ⟨gb115, 5, none⟩ = some (.int .i64 a0_5) := (q3q BK115.out 5).trans rfl
       have hfz23_0 := q1q BK115.out 0
       have hfz23_1 := q1q BK115.out 1
       have hfz23_2 := q1q BK115.out 2
       have hfz23_3 := q1q BK115.out 3
       have hfz23_4 := q1q BK115.out 4
       have hfz23_5 := q1q BK115.out 5
       go_wp2
       go_ret
       exact ⟨by first | rfl | (simp [*] <;> rfl), base_up HB0.out (by repeat (with_reducible first | exact HB.out | apply q4q | apply q0q | apply q2q | refine q5q ?_ GE115.out))⟩
      rw [if_neg c22] at H
      have c22b0 : decide (a0_1 < a0_0) = false := decide_eq_false c22
      clear c22
      by_cases c24 : a2 = true
      case neg =>
       replace c24 := Bool.eq_false_iff.mpr c24
       subst c24
       have H1 : (fQ2.j2 kj10 a1 a0_0 a0_1 l0_2 l0_3 l0_4 a0_5) = some r := by rw [if_neg (show ¬ (false = true) by decide)] at H; exact H
       clear H
       have H := H1
       clear H1
       have H' := Aq.mk H
       clear H
       have hcz28_0 : wc.cell? ⟨gb115, 0, none⟩ = some (.int .i64 a0_0) := (q3q BK115.out 0).trans rfl
       have hcz28_1 : wc.cell? ⟨gb115, 1, none⟩ = some (.int .i64 a0_1) := (q3q BK115.out 1).trans rfl
       have hcz28_2 : wc.cell? ⟨gb115, 2, none⟩ = some (.slice A0_2 l0_2.length c0_2) := (q3q BK115.out 2).trans rfl
       have hcz28_3 : wc.cell? ⟨gb115, 3, none⟩ = some (.slice A0_3 l0_3.length c0_3) := (q3q BK115.out 3).trans rfl
       have hcz28_4 : wc.cell? ⟨gb115, 4, none⟩ = some (.slice A0_4 l0_4.length c0_4) := (q3q BK115.out 4).trans rfl
       have hcz28_5 : wc.cell? ⟨gb115, 5, none⟩ = some (.int .i64 a0_5) := (q3q BK115.out 5).trans rfl
       have hfz28_0 := q1q BK115.out 0
       have hfz28_1 := q1q BK115.out 1
       have hfz28_2 := q1q BK115.out 2
       have hfz28_3 := q1q BK115.out 3
       have hfz28_4 := q1q BK115.out 4
       have hfz28_5 := q1q BK115.out 5
       go_wp2
       go_meet
       case rel => exact ⟨_, H', ⟨by have := HJ5.out; have := HJ10.out; first | omega | exact Nat.le_refl _⟩, ⟨BK115.out⟩, ⟨by repeat (with_reducible first | exact HB.out | apply q4q | apply q0q | apply q2q | refine q5q ?_ GE115.out)⟩⟩
      subst c24
      have H1 : (if (l0_2.length : Int) > 0 then (some 2) else (fQ2.j2 kj10 a1 a0_0 a0_1 l0_2 l0_3 l0_4 a0_5)) = some r := by rw [if_pos rfl] at H; exact H
      clear H
      have H := H1
      clear H1
      by_cases c25 : (l0_2.length : Int) > 0
      ·rw [if_pos c25] at H
       have c25b0 : decide (0 < (l0_2.length : Int)) = true := decide_eq_true c25
       have c25b1 : decide (0 < l0_2.length) = true := decide_eq_true (by omega)
       clear c25
       obtain rfl := Option.some.inj H
       have hcz26_0 : wc.cell? ⟨gb115, 0, none⟩ = some (.int .i64 a0_0) := (q3q BK115.out 0).trans rfl
       have hcz26_1 : wc.cell? ⟨gb115, 1, none⟩ = some (.int .i64 a0_1) := (q3q BK115.out 1).trans rfl
       have hcz26_2 : wc.cell? ⟨gb115, 2, none⟩ = some (.slice A0_2 l0_2.length c0_2) := (q3q BK115.out 2).trans rfl
       have hcz26_3 : wc.cell? ⟨gb115, 3, none⟩ = some (.slice A0_3 l0_3.length c0_3) := (q3q BK115.out 3).trans rfl
       have hcz26_4 : wc.cell? ⟨gb115, 4, none⟩ = some (.slice A0_4 l0_4.length c0_4) := (q3q BK115.out 4).trans rfl
       have hcz26_5 : wc.cell? ⟨gb115, 5, none⟩ = some (.int .i64 a0_5) := (q3q BK115.out 5).trans rfl
       have hfz26_0 := q1q BK115.out 0
       have hfz26_1 := q1q BK115.out 1
       have hfz26_2 := q1q BK115.out 2
       have hfz26_3 := q1q BK115.out 3
       have hfz26_4 := q1q BK115.out 4
       have hfz26_5 := q1q BK115.out 5
       go_wp2
       go_ret
       exact ⟨by first | rfl | (simp [*] <;> rfl), base_up HB0.out (by repeat (with_reducible first | exact HB.out | apply q4q | apply q0q | apply q2q | refine q5q ?_ GE115.out))⟩
      rw [if_neg c25] at H
      have c25b0 : decide (0 < (l0_2.length : Int)) = false := decide_eq_false c25
      have c25b1 : decide (0 < l0_2.length) = false := decide_eq_false (by omega)
      clear c25
      have H' := Aq.mk H
      clear H
      have hcz27_0 : wc.cell? ⟨gb115, 0, none⟩ = some (.int .i64 a0_0) := (q3q BK115.out 0).trans rfl
      have hcz27_1 : wc.cell? ⟨gb115, 1, none⟩ = some (.int .i64 a0_1) := (q3q BK115.out 1).trans rfl
      have hcz27_2 : wc.cell? ⟨gb115, 2, none⟩ = some (.slice A0_2 l0_2.length c0_2) := (q3q BK115.out 2).trans rfl
      have hcz27_3 : wc.cell? ⟨gb115, 3, none⟩ = some (.slice A0_3 l0_3.length c0_3) := (q3q BK115.out 3).trans rfl
      have hcz27_4 : wc.cell? ⟨gb115, 4, none⟩ = some (.slice A0_4 l0_4.length c0_4) := (q3q BK115.out 4).trans rfl
      have hcz27_5 : wc.cell? ⟨gb115, 5, none⟩ = some (.int .i64 a0_5) := (q3q BK115.out 5).trans rfl
      have hfz27_0 := q1q BK115.out 0
      have hfz27_1 := q1q BK115.out 1
      have hfz27_2 := q1q BK115.out 2
      have hfz27_3 := q1q BK115.out 3
      have hfz27_4 := q1q BK115.out 4
      have hfz27_5 := q1q BK115.out 5
      go_wp2
      go_meet
      case rel => exact ⟨_, H', ⟨by have := HJ5.out; have := HJ10.out; first | omega | exact Nat.le_refl _⟩, ⟨BK115.out⟩, ⟨by repeat (with_reducible first | exact HB.out | apply q4q | apply q0q | apply q2q | refine q5q ?_ GE115.out)⟩⟩
 case rest =>
  clear HC4
  obtain ⟨kq, HA, HJ3, BK115, HB⟩ := hcut
  cases kq with
  | zero => exact absurd HA.out (by simp [fQ2.j2])
  | succ kj3 =>
   have H := HA.out
   clear HA
   simp only [fQ2.j2] at H
   have H' := Aq.mk H
   clear H
   have hcz29_0 : wc.cell? ⟨gb115, 0, none⟩ = some (.int .i64 a0_0) := (q3q BK115.out 0).trans rfl
   have hcz29_1 : wc.cell? ⟨gb115, 1, none⟩ = some (.int .i64 a0_1) := (q3q BK115.out 1).trans rfl
   have hcz29_2 : wc.cell? ⟨gb115, 2, none⟩ = some (.slice A0_2 l0_2.length c0_2) := (q3q BK115.out 2).trans rfl
   have hcz29_3 : wc.cell? ⟨gb115, 3, none⟩ = some (.slice A0_3 l0_3.length c0_3) := (q3q BK115.out 3).trans rfl
   have hcz29_4 : wc.cell? ⟨gb115, 4, none⟩ = some (.slice A0_4 l0_4.length c0_4) := (q3q BK115.out 4).trans rfl
   have hcz29_5 : wc.cell? ⟨gb115, 5, none⟩ = some (.int .i64 a0_5) := (q3q BK115.out 5).trans rfl
   have hfz29_0 := q1q BK115.out 0
   have hfz29_1 := q1q BK115.out 1
   have hfz29_2 := q1q BK115.out 2
   have hfz29_3 := q1q BK115.out 3
   have hfz29_4 := q1q BK115.out 4
   have hfz29_5 := q1q BK115.out 5
   go_wp2
   go_loopg [77] kj3 (fun kq v77 w' => ∃ (x77_2 : Int), v77 = .int .i64 x77_2 ∧ Aq (fQ2.l0 kq a1 l0_2 (l0_2.length : Int) x77_2 a0_0 a0_1 l0_2 l0_3 l0_4 a0_5 = some r) ∧ Aq (kq ≤ kj3) ∧ Aq (w'.heap[gb115]? = some (.cells #[.int .i64 a0_0, .int .i64 a0_1, (.slice A0_2 l0_2.length c0_2), (.slice A0_3 l0_3.length c0_3), (.slice A0_4 l0_4.length c0_4), .int .i64 a0_5] 77 (0, 0))) ∧ Aq (Below w.heap.size w w'))
   case atStart => exact ⟨(0), (by first | rfl | (simp; done) | (simp [*]; done)), H', ⟨Nat.le_refl _⟩, ⟨BK115.out⟩, ⟨by repeat (with_reducible first | exact HB.out | apply q4q | apply q0q | apply q2q | refine q5q ?_ GE115.out)⟩⟩
   case round =>
    clear H'
    try clear hcz29_0
    try clear hcz29_1
    try clear hcz29_2
    try clear hcz29_3
    try clear hcz29_4
    try clear hcz29_5
    try clear hfz29_0
    try clear hfz29_1
    try clear hfz29_2
    try clear hfz29_3
    try clear hfz29_4
    try clear hfz29_5
    obtain ⟨x77_2, rfl, HA, HK2, BK115, HB⟩ := hrel
    cases gk with
    | zero => exact absurd HA.out (by simp [fQ2.l0])
    | succ k2 =>
     have H := HA.out
     clear HA
     simp only [fQ2.l0] at H
     by_cases c30 : x77_2 < (l0_2.length : Int)
     ·rw [if_pos c30] at H
      have c30b0 : decide (x77_2 < (l0_2.length : Int)) = true := decide_eq_true c30
      clear c30
      by_cases c31 : 0 ≤ x77_2
      case neg =>
       rw [if_neg c31] at H
       exact absurd H (by simp)
      rw [if_pos c31] at H
      have c31b0 : decide (0 ≤ x77_2) = true := decide_eq_true c31
      clear c31
      by_cases c32 : x77_2 < (l0_2.length : Int)
      case neg =>
       rw [if_neg c32] at H
       exact absurd H (by simp)
      rw [if_pos c32] at H
      have c32b0 : decide (x77_2 < (l0_2.length : Int)) = true := decide_eq_true c32
      clear c32
      obtain ⟨bq33, hbq33⟩ : ∃ b_ : Bool, b_ = ((rd_T50 l0_2 x77_2).f0) := ⟨_, rfl⟩
      replace H : (if bq33 = true then ((fQ14.f ((rd_T50 l0_2 x77_2).f1) 250).bind fun t118 => (if t118 = true then (if (bq33 = true) then (fQ2.l0 k2 a1 l0_2 (l0_2.length : Int) (wrap64 (x77_2 + 1)) a0_0 a0_1 l0_2 l0_3 l0_4 a0_5) else ((fQ14.f ((rd_T50 l0_2 x77_2).f1) 60).bind fun t119 => (if t119 = true then (fQ2.l0 k2 a1 l0_2 (l0_2.length : Int) (wrap64 (x77_2 + 1)) a0_0 a0_1 l0_2 l0_3 l0_4 a0_5) else (some 2)))) else (some 2))) else (if (bq33 = true) then (fQ2.l0 k2 a1 l0_2 (l0_2.length : Int) (wrap64 (x77_2 + 1)) a0_0 a0_1 l0_2 l0_3 l0_4 a0_5) else ((fQ14.f ((rd_T50 l0_2 x77_2).f1) 60).bind fun t120 => (if t120 = true then (fQ2.l0 k2 a1 l0_2 (l0_2.length : Int) (wrap64 (x77_2 + 1)) a0_0 a0_1 l0_2 l0_3 l0_4 a0_5) else (some 2))))) = some r := by rw [← hbq33] at H; exact H
      have Nbq33 := Aq.mk hbq33
      clear hbq33
      by_cases c34 : bq33 = true
      case neg =>
       replace c34 := Bool.eq_false_iff.mpr c34
       subst c34
       have H1 : (if (false = true) then (fQ2.l0 k2 a1 l0_2 (l0_2.length : Int) (wrap64 (x77_2 + 1)) a0_0 a0_1 l0_2 l0_3 l0_4 a0_5) else ((fQ14.f ((rd_T50 l0_2 x77_2).f1) 60).bind fun t120 => (if t120 = true then (fQ2.l0 k2 a1 l0_2 (l0_2.length : Int) (wrap64 (x77_2 + 1)) a0_0 a0_1 l0_2 l0_3 l0_4 a0_5) else (some 2)))) = some r := by rw [if_neg (show ¬ (false = true) by decide)] at H; exact H
       clear H
       have H := H1
       clear H1
       by_cases c52 : (false = true)
       ·exact absurd c52 (by decide)
       skip
       have H1 : ((fQ14.f ((rd_T50 l0_2 x77_2).f1) 60).bind fun t120 => (if t120 = true then (fQ2.l0 k2 a1 l0_2 (l0_2.length : Int) (wrap64 (x77_2 + 1)) a0_0 a0_1 l0_2 l0_3 l0_4 a0_5) else (some 2))) = some r := by rw [if_neg (show ¬ (false = true) by decide)] at H; exact H
       clear H
       have H := H1
       clear H1
       replace H := Option.bind_eq_some_iff.mp H
       obtain ⟨t120, A560, H⟩ := H
       replace H : (if t120 = true then (fQ2.l0 k2 a1 l0_2 (l0_2.length : Int) (wrap64 (x77_2 + 1)) a0_0 a0_1 l0_2 l0_3 l0_4 a0_5) else (some 2)) = some r := H
       have A56 := Aq.mk A560
       clear A560
       by_cases c57 : t120 = true
       case neg =>
        replace c57 := Bool.eq_false_iff.mpr c57
        subst c57
        have H1 : (some 2) = some r := by rw [if_neg (show ¬ (false = true) by decide)] at H; exact H
        clear H
        have H := H1
        clear H1
        obtain rfl := Option.some.inj H
        have p116 : 0 ≤ (x77_2 : Int) := of_decide_eq_true (by first | (with_reducible assumption) | assumption)
        have q116 : x77_2 < (l0_2.length : Int) := of_decide_eq_true (by first | (with_reducible assumption) | assumption)
        obtain ⟨ad116, e116, hx116_0, hx116_1⟩ := at_T50 HR0_2.out x77_2 p116 q116
        (try rw [← Nbq33.out] at hx116_0)
        cases e116
        replace hx116_0 := (HB.out.cell (World.block_lt_of_cell? w _ hx116_0)).trans hx116_0
        replace hx116_1 := (HB.out.cell (World.block_lt_of_cell? w _ hx116_1)).trans hx116_1
        replace p116 := eq_true p116
        replace q116 := eq_true q116
        go_wp2_with (first | ((with_reducible refine q12q (N := 8) rfl ?_); (try (refine q20q (by rfl) ?_; dsimp only)); refine q11q ?hg (N := 8) ?hd (cs := #[.bool false, .int .i64 0]) (t := 50) ?hr ?_; (case hd => rfl); (case hg => rfl); (case hr => first | (go_simp; done) | (go_simp; rfl)); intro gb117 hg w61 hbox hb; have n0_ := Aq.mk (q13q (g := gb115) (o := .cells #[.int .i64 a0_0, .int .i64 a0_1, .slice (some ad116) l0_2.length c0_2, .slice A0_3 l0_3.length c0_3, .slice A0_4 l0_4.length c0_4, .int .i64 a0_5] 77 (0, 0)) BK115.out hb); have n1_ := Aq.mk (q10q (by repeat (with_reducible first | exact HB.out | apply q4q | apply q0q | apply q2q | refine q5q ?_ GE115.out)) hb); have n2_ := Aq.mk (hbox); have n3_ := Aq.mk ((by rw [hg]; exact (q6q (by repeat (with_reducible first | exact HB.out | apply q4q | apply q0q | apply q2q | refine q5q ?_ GE115.out))) : w.heap.size ≤ gb117)); have n4_ := Aq.mk ((by rw [hg]; exact (q6q (by repeat (with_reducible first | exact HB.out | apply q4q | apply q0q | apply q2q | refine q5q ?_ GE115.out))) : w.heap.size ≤ gb117)); have n5_ := Aq.mk ((by rw [hg]; exact Nat.ne_of_lt (q16q (g := gb115) (o := .cells #[.int .i64 a0_0, .int .i64 a0_1, .slice (some ad116) l0_2.length c0_2, .slice A0_3 l0_3.length c0_3, .slice A0_4 l0_4.length c0_4, .int .i64 a0_5] 77 (0, 0)) BK115.out) : gb115 ≠ gb117)); have n6_ := Aq.mk ((by rw [hg]; exact Nat.ne_of_gt (q16q (g := gb115) (o := .cells #[.int .i64 a0_0, .int .i64 a0_1, .slice (some ad116) l0_2.length c0_2, .slice A0_3 l0_3.length c0_3, .slice A0_4 l0_4.length c0_4, .int .i64 a0_5] 77 (0, 0)) BK115.out) : gb117 ≠ gb115)); clear BK115; clear HB; have BK115 := n0_; have HB := n1_; have BK117 := n2_; have GW117 := n3_; have GE117 := n4_; have NB115_117 := n5_; have NB117_115 := n6_; clear n0_ n1_ n2_ n3_ n4_ n5_ n6_; clear hb hbox hg; have hnb62 := NB117_115.out; have hnc62 := NB115_117.out; have hcz63_0 : w61.cell? ⟨gb117, 0, none⟩ = some (.bool false) := (q3q BK117.out 0).trans rfl; have hcz63_1 : w61.cell? ⟨gb117, 1, none⟩ = some (.int .i64 0) := (q3q BK117.out 1).trans rfl; have hfz63_0 := q1q BK117.out 0; have hfz63_1 := q1q BK117.out 1) | (go_at_call 60; (with_reducible refine (fQ14.calls ((rd_T50 l0_2 x77_2).f1) 60 false _ A56.out).mono ?_); rintro e w' ⟨rfl, ⟨nd, rfl⟩⟩))
        go_ret
        exact ⟨by first | rfl | (simp [*] <;> rfl), base_up HB0.out (by repeat (with_reducible first | exact HB.out | apply q4q | apply q0q | apply q2q | refine q5q ?_ GE115.out | refine q5q ?_ GE117.out))⟩
       subst c57
       have H1 : (fQ2.l0 k2 a1 l0_2 (l0_2.length : Int) (wrap64 (x77_2 + 1)) a0_0 a0_1 l0_2 l0_3 l0_4 a0_5) = some r := by rw [if_pos rfl] at H; exact H
       clear H
       have H := H1
       clear H1
       have H' := Aq.mk H
       clear H
       have p116 : 0 ≤ (x77_2 : Int) := of_decide_eq_true (by first | (with_reducible assumption) | assumption)
       have q116 : x77_2 < (l0_2.length : Int) := of_decide_eq_true (by first | (with_reducible assumption) | assumption)
       obtain ⟨ad116, e116, hx116_0, hx116_1⟩ := at_T50 HR0_2.out x77_2 p116 q116
       (try rw [← Nbq33.out] at hx116_0)
       cases e116
       replace hx116_0 := (HB.out.cell (World.block_lt_of_cell? w _ hx116_0)).trans hx116_0
       replace hx116_1 := (HB.out.cell (World.block_lt_of_cell? w _ hx116_1)).trans hx116_1
       replace p116 := eq_true p116
       replace q116 := eq_true q116
       go_wp2_with (first | ((with_reducible refine q12q (N := 8) rfl ?_); (try (refine q20q (by rfl) ?_; dsimp only)); refine q11q ?hg (N := 8) ?hd (cs := #[.bool false, .int .i64 0]) (t := 50) ?hr ?_; (case hd => rfl); (case hg => rfl); (case hr => first | (go_simp; done) | (go_simp; rfl)); intro gb117 hg w58 hbox hb; have n0_ := Aq.mk (q13q (g := gb115) (o := .cells #[.int .i64 a0_0, .int .i64 a0_1, .slice (some ad116) l0_2.length c0_2, .slice A0_3 l0_3.length c0_3, .slice A0_4 l0_4.length c0_4, .int .i64 a0_5] 77 (0, 0)) BK115.out hb); have n1_ := Aq.mk (q10q (by repeat (with_reducible first | exact HB.out | apply q4q | apply q0q | apply q2q | refine q5q ?_ GE115.out)) hb); have n2_ := Aq.mk (hbox); have n3_ := Aq.mk ((by rw [hg]; exact (q6q (by repeat (with_reducible first | exact HB.out | apply q4q | apply q0q | apply q2q | refine q5q ?_ GE115.out))) : w.heap.size ≤ gb117)); have n4_ := Aq.mk ((by rw [hg]; exact (q6q (by repeat (with_reducible first | exact HB.out | apply q4q | apply q0q | apply q2q | refine q5q ?_ GE115.out))) : w.heap.size ≤ gb117)); have n5_ := Aq.mk ((by rw [hg]; exact Nat.ne_of_lt (q16q (g := gb115) (o := .cells #[.int .i64 a0_0, .int .i64 a0_1, .slice (some ad116) l0_2.length c0_2, .slice A0_3 l0_3.length c0_3, .slice A0_4 l0_4.length c0_4, .int .i64 a0_5] 77 (0, 0)) BK115.out) : gb115 ≠ gb117)); have n6_ := Aq.mk ((by rw [hg]; exact Nat.ne_of_gt (q16q (g := gb115) (o := .cells #[.int .i64 a0_0, .int .i64 a0_1, .slice (some ad116) l0_2.length c0_2, .slice A0_3 l0_3.length c0_3, .slice A0_4 l0_4.length c0_4, .int .i64 a0_5] 77 (0, 0)) BK115.out) : gb117 ≠ gb115)); clear BK115; clear HB; have BK115 := n0_; have HB := n1_; have BK117 := n2_; have GW117 := n3_; have GE117 := n4_; have NB115_117 := n5_; have NB117_115 := n6_; clear n0_ n1_ n2_ n3_ n4_ n5_ n6_; clear hb hbox hg; have hnb59 := NB117_115.out; have hnc59 := NB115_117.out; have hcz60_0 : w58.cell? ⟨gb117, 0, none⟩ = some (.bool false) := (q3q BK117.out 0).trans rfl; have hcz60_1 : w58.cell? ⟨gb117, 1, none⟩ = some (.int .i64 0) := (q3q BK117.out 1).trans rfl; have hfz60_0 := q1q BK117.out 0; have hfz60_1 := q1q BK117.out 1) | (go_at_call 60; (with_reducible refine (fQ14.calls ((rd_T50 l0_2 x77_2).f1) 60 true _ A56.out).mono ?_); rintro e w' ⟨rfl, ⟨nd, rfl⟩⟩))
       go_roundg k2
       case measure => have := HJ3.out; have := HK2.out; omega
       case rel => exact ⟨(wrap64 (x77_2 + 1)), (by first | rfl | (simp; done) | (simp [*]; done)), H', ⟨by have := HJ3.out; have := HK2.out; omega⟩, ⟨by (with_reducible repeat (first | refine q8q ?_ _ | refine q9q ?_ | refine q7q ?_ _)); refine q18q ?_ NB115_117.out _; (with_reducible repeat (first | refine q8q ?_ _ | refine q9q ?_ | refine q7q ?_ _)); refine q18q ?_ NB115_117.out _; (with_reducible repeat (first | refine q8q ?_ _ | refine q9q ?_ | refine q7q ?_ _)); exact BK115.out⟩, ⟨by repeat (with_reducible first | exact HB.out | apply q4q | apply q0q | apply q2q | refine q5q ?_ GE115.out | refine q5q ?_ GE117.out)⟩⟩
      subst c34
      have H1 : ((fQ14.f ((rd_T50 l0_2 x77_2).f1) 250).bind fun t118 => (if t118 = true then (if (true = true) then (fQ2.l0 k2 a1 l0_2 (l0_2.length : Int) (wrap64 (x77_2 + 1)) a0_0 a0_1 l0_2 l0_3 l0_4 a0_5) else ((fQ14.f ((rd_T50 l0_2 x77_2).f1) 60).bind fun t119 => (if t119 = true then (fQ2.l0 k2 a1 l0_2 (l0_2.length : Int) (wrap64 (x77_2 + 1)) a0_0 a0_1 l0_2 l0_3 l0_4 a0_5) else (some 2)))) else (some 2))) = some r := by rw [if_pos rfl] at H; exact H
      clear H
      have H := H1
      clear H1
      replace H := Option.bind_eq_some_iff.mp H
      obtain ⟨t118, A350, H⟩ := H
      replace H : (if t118 = true then (if (true = true) then (fQ2.l0 k2 a1 l0_2 (l0_2.length : Int) (wrap64 (x77_2 + 1)) a0_0 a0_1 l0_2 l0_3 l0_4 a0_5) else ((fQ14.f ((rd_T50 l0_2 x77_2).f1) 60).bind fun t119 => (if t119 = true then (fQ2.l0 k2 a1 l0_2 (l0_2.length : Int) (wrap64 (x77_2 + 1)) a0_0 a0_1 l0_2 l0_3 l0_4 a0_5) else (some 2)))) else (some 2)) = some r := H
      have A35 := Aq.mk A350
      clear A350
      by_cases c36 : t118 = true
      case neg =>
       replace c36 := Bool.eq_false_iff.mpr c36
       subst c36
       have H1 : (some 2) = some r := by rw [if_neg (show ¬ (false = true) by decide)] at H; exact H
       clear H
       have H := H1
       clear H1
       obtain rfl := Option.some.inj H
       have p116 : 0 ≤ (x77_2 : Int) := of_decide_eq_true (by first | (with_reducible assumption) | assumption)
       have q116 : x77_2 < (l0_2.length : Int) := of_decide_eq_true (by first | (with_reducible assumption) | assumption)
       obtain ⟨ad116, e116, hx116_0, hx116_1⟩ := at_T50 HR0_2.out x77_2 p116 q116
       (try rw [← Nbq33.out] at hx116_0)
       cases e116
       replace hx116_0 := (HB.out.cell (World.block_lt_of_cell? w _ hx116_0)).trans hx116_0
       replace hx116_1 := (HB.out.cell (World.block_lt_of_cell? w _ hx116_1)).trans hx116_1
       replace p116 := eq_true p116
       replace q116 := eq_true q116
       go_wp2_with (first | ((with_reducible refine q12q (N := 8) rfl ?_); (try (refine q20q (by rfl) ?_; dsimp only)); refine q11q ?hg (N := 8) ?hd (cs := #[.bool false, .int .i64 0]) (t := 50) ?hr ?_; (case hd => rfl); (case hg => rfl); (case hr => first | (go_simp; done) | (go_simp; rfl)); intro gb117 hg w49 hbox hb; have n0_ := Aq.mk (q13q (g := gb115) (o := .cells #[.int .i64 a0_0, .int .i64 a0_1, .slice (some ad116) l0_2.length c0_2, .slice A0_3 l0_3.length c0_3, .slice A0_4 l0_4.length c0_4, .int .i64 a0_5] 77 (0, 0)) BK115.out hb); have n1_ := Aq.mk (q10q (by repeat (with_reducible first | exact HB.out | apply q4q | apply q0q | apply q2q | refine q5q ?_ GE115.out)) hb); have n2_ := Aq.mk (hbox); have n3_ := Aq.mk ((by rw [hg]; exact (q6q (by repeat (with_reducible first | exact HB.out | apply q4q | apply q0q | apply q2q | refine q5q ?_ GE115.out))) : w.heap.size ≤ gb117)); have n4_ := Aq.mk ((by rw [hg]; exact (q6q (by repeat (with_reducible first | exact HB.out | apply q4q | apply q0q | apply q2q | refine q5q ?_ GE115.out))) : w.heap.size ≤ gb117)); have n5_ := Aq.mk ((by rw [hg]; exact Nat.ne_of_lt (q16q (g := gb115) (o := .cells #[.int .i64 a0_0, .int .i64 a0_1, .slice (some ad116) l0_2.length c0_2, .slice A0_3 l0_3.length c0_3, .slice A0_4 l0_4.length c0_4, .int .i64 a0_5] 77 (0, 0)) BK115.out) : gb115 ≠ gb117)); have n6_ := Aq.mk ((by rw [hg]; exact Nat.ne_of_gt (q16q (g := gb115) (o := .cells #[.int .i64 a0_0, .int .i64 a0_1, .slice (some ad116) l0_2.length c0_2, .slice A0_3 l0_3.length c0_3, .slice A0_4 l0_4.length c0_4, .int .i64 a0_5] 77 (0, 0)) BK115.out) : gb117 ≠ gb115)); clear BK115; clear HB; have BK115 := n0_; have HB := n1_; have BK117 := n2_; have GW117 := n3_; have GE117 := n4_; have NB115_117 := n5_; have NB117_115 := n6_; clear n0_ n1_ n2_ n3_ n4_ n5_ n6_; clear hb hbox hg; have hnb50 := NB117_115.out; have hnc50 := NB115_117.out; have hcz51_0 : w49.cell? ⟨gb117, 0, none⟩ = some (.bool false) := (q3q BK117.out 0).trans rfl; have hcz51_1 : w49.cell? ⟨gb117, 1, none⟩ = some (.int .i64 0) := (q3q BK117.out 1).trans rfl; have hfz51_0 := q1q BK117.out 0; have hfz51_1 := q1q BK117.out 1) | (go_at_call 60; (with_reducible refine (fQ14.calls ((rd_T50 l0_2 x77_2).f1) 250 false _ A35.out).mono ?_); rintro e w' ⟨rfl, ⟨nd, rfl⟩⟩))
       go_ret
       exact ⟨by first | rfl | (simp [*] <;> rfl), base_up HB0.out (by repeat (with_reducible first | exact HB.out | apply q4q | apply q0q | apply q2q | refine q5q ?_ GE115.out | refine q5q ?_ GE117.out))⟩
      subst c36
      have H1 : (if (true = true) then (fQ2.l0 k2 a1 l0_2 (l0_2.length : Int) (wrap64 (x77_2 + 1)) a0_0 a0_1 l0_2 l0_3 l0_4 a0_5) else ((fQ14.f ((rd_T50 l0_2 x77_2).f1) 60).bind fun t119 => (if t119 = true then (fQ2.l0 k2 a1 l0_2 (l0_2.length : Int) (wrap64 (x77_2 + 1)) a0_0 a0_1 l0_2 l0_3 l0_4 a0_5) else (some 2)))) = some r := by rw [if_pos rfl] at H; exact H
      clear H
      have H := H1
      clear H1
      by_cases c37 : (true = true)
      case neg =>
       exact absurd rfl c37
      skip
      have H1 : (fQ2.l0 k2 a1 l0_2 (l0_2.length : Int) (wrap64 (x77_2 + 1)) a0_0 a0_1 l0_2 l0_3 l0_4 a0_5) = some r := by rw [if_pos rfl] at H; exact H
      clear H
      have H := H1
      clear H1
      have H' := Aq.mk H
      clear H
      have p116 : 0 ≤ (x77_2 : Int) := of_decide_eq_true (by first | (with_reducible assumption) | assumption)
      have q116 : x77_2 < (l0_2.length : Int) := of_decide_eq_true (by first | (with_reducible assumption) | assumption)
      obtain ⟨ad116, e116, hx116_0, hx116_1⟩ := at_T50 HR0_2.out x77_2 p116 q116
      (try rw [← Nbq33.out] at hx116_0)
      cases e116
      replace hx116_0 := (HB.out.cell (World.block_lt_of_cell? w _ hx116_0)).trans hx116_0
      replace hx116_1 := (HB.out.cell (World.block_lt_of_cell? w _ hx116_1)).trans hx116_1
      replace p116 := eq_true p116
      replace q116 := eq_true q116
      go_wp2_with (first | ((with_reducible refine q12q (N := 8) rfl ?_); (try (refine q20q (by rfl) ?_; dsimp only)); refine q11q ?hg (N := 8) ?hd (cs := #[.bool false, .int .i64 0]) (t := 50) ?hr ?_; (case hd => rfl); (case hg => rfl); (case hr => first | (go_simp; done) | (go_simp; rfl)); intro gb117 hg w38 hbox hb; have n0_ := Aq.mk (q13q (g := gb115) (o := .cells #[.int .i64 a0_0, .int .i64 a0_1, .slice (some ad116) l0_2.length c0_2, .slice A0_3 l0_3.length c0_3, .slice A0_4 l0_4.length c0_4, .int .i64 a0_5] 77 (0, 0)) BK115.out hb); have n1_ := Aq.mk (q10q (by repeat (with_reducible first | exact HB.out | apply q4q | apply q0q | apply q2q | refine q5q ?_ GE115.out)) hb); have n2_ := Aq.mk (hbox); have n3_ := Aq.mk ((by rw [hg]; exact (q6q (by repeat (with_reducible first | exact HB.out | apply q4q | apply q0q | apply q2q | refine q5q ?_ GE115.out))) : w.heap.size ≤ gb117)); have n4_ := Aq.mk ((by rw [hg]; exact (q6q (by repeat (with_reducible first | exact HB.out | apply q4q | apply q0q | apply q2q | refine q5q ?_ GE115.out))) : w.heap.size ≤ gb117)); have n5_ := Aq.mk ((by rw [hg]; exact Nat.ne_of_lt (q16q (g := gb115) (o := .cells #[.int .i64 a0_0, .int .i64 a0_1, .slice (some ad116) l0_2.length c0_2, .slice A0_3 l0_3.length c0_3, .slice A0_4 l0_4.length c0_4, .int .i64 a0_5] 77 (0, 0)) BK115.out) : gb115 ≠ gb117)); have n6_ := Aq.mk ((by rw [hg]; exact Nat.ne_of_gt (q16q (g := gb115) (o := .cells #[.int .i64 a0_0, .int .i64 a0_1, .slice (some ad116) l0_2.length c0_2, .slice A0_3 l0_3.length c0_3, .slice A0_4 l0_4.length c0_4, .int .i64 a0_5] 77 (0, 0)) BK115.out) : gb117 ≠ gb115)); clear BK115; clear HB; have BK115 := n0_; have HB := n1_; have BK117 := n2_; have GW117 := n3_; have GE117 := n4_; have NB115_117 := n5_; have NB117_115 := n6_; clear n0_ n1_ n2_ n3_ n4_ n5_ n6_; clear hb hbox hg; have hnb39 := NB117_115.out; have hnc39 := NB115_117.out; have hcz40_0 : w38.cell? ⟨gb117, 0, none⟩ = some (.bool false) := (q3q BK117.out 0).trans rfl; have hcz40_1 : w38.cell? ⟨gb117, 1, none⟩ = some (.int .i64 0) := (q3q BK117.out 1).trans rfl; have hfz40_0 := q1q BK117.out 0; have hfz40_1 := q1q BK117.out 1) | (go_at_call 60; (with_reducible refine (fQ14.calls ((rd_T50 l0_2 x77_2).f1) 250 true _ A35.out).mono ?_); rintro e w' ⟨rfl, ⟨nd, rfl⟩⟩))
      go_roundg k2
      case measure => have := HJ3.out; have := HK2.out; omega
      case rel => exact ⟨(wrap64 (x77_2 + 1)), (by first | rfl | (simp; done) | (simp [*]; done)), H', ⟨by have := HJ3.out; have := HK2.out; omega⟩, ⟨by (with_reducible repeat (first | refine q8q ?_ _ | refine q9q ?_ | refine q7q ?_ _)); refine q18q ?_ NB115_117.out _; (with_reducible repeat (first | refine q8q ?_ _ | refine q9q ?_ | refine q7q ?_ _)); refine q18q ?_ NB115_117.out _; (with_reducible repeat (first | refine q8q ?_ _ | refine q9q ?_ | refine q7q ?_ _)); exact BK115.out⟩, ⟨by repeat (with_reducible first | exact HB.out | apply q4q | apply q0q | apply q2q | refine q5q ?_ GE115.out | refine q5q ?_ GE117.out)⟩⟩
     rw [if_neg c30] at H
     have c30b0 : decide (x77_2 < (l0_2.length : Int)) = false := decide_eq_false c30
     clear c30
     have H' := Aq.mk H
     clear H
     have hcz64_0 : wr.cell? ⟨gb115, 0, none⟩ = some (.int .i64 a0_0) := (q3q BK115.out 0).trans rfl
     have hcz64_1 : wr.cell? ⟨gb115, 1, none⟩ = some (.int .i64 a0_1) := (q3q BK115.out 1).trans rfl
     have hcz64_2 : wr.cell? ⟨gb115, 2, none⟩ = some (.slice A0_2 l0_2.length c0_2) := (q3q BK115.out 2).trans rfl
     have hcz64_3 : wr.cell? ⟨gb115, 3, none⟩ = some (.slice A0_3 l0_3.length c0_3) := (q3q BK115.out 3).trans rfl
     have hcz64_4 : wr.cell? ⟨gb115, 4, none⟩ = some (.slice A0_4 l0_4.length c0_4) := (q3q BK115.out 4).trans rfl
     have hcz64_5 : wr.cell? ⟨gb115, 5, none⟩ = some (.int .i64 a0_5) := (q3q BK115.out 5).trans rfl
     have hfz64_0 := q1q BK115.out 0
     have hfz64_1 := q1q BK115.out 1
     have hfz64_2 := q1q BK115.out 2
     have hfz64_3 := q1q BK115.out 3
     have hfz64_4 := q1q BK115.out 4
     have hfz64_5 := q1q BK115.out 5
     go_wp2
     go_loopg [9, 105] k2 (fun kq v9 v105 w' => ∃ (x9_3 : Bool) (x105_3 : Int), v9 = .bool x9_3 ∧ v105 = .int .i64 x105_3 ∧ Aq (fQ2.l1 kq a1 x9_3 l0_3 (l0_3.length : Int) x105_3 a0_0 a0_1 l0_2 l0_3 l0_4 a0_5 = some r) ∧ Aq (kq ≤ k2) ∧ Aq (w'.heap[gb115]? = some (.cells #[.int .i64 a0_0, .int .i64 a0_1, (.slice A0_2 l0_2.length c0_2), (.slice A0_3 l0_3.length c0_3), (.slice A0_4 l0_4.length c0_4), .int .i64 a0_5] 77 (0, 0))) ∧ Aq (Below w.heap.size w w'))
     case atStart => exact ⟨(false), (0), (by first | rfl | (simp; done) | (simp [*]; done)), (by first | rfl | (simp; done) | (simp [*]; done)), H', ⟨Nat.le_refl _⟩, ⟨BK115.out⟩, ⟨by repeat (with_reducible first | exact HB.out | apply q4q | apply q0q | apply q2q | refine q5q ?_ GE115.out)⟩⟩
     case round =>
      clear H'
      try clear c30b0
      try clear hcz64_0
      try clear hcz64_1
      try clear hcz64_2
      try clear hcz64_3
      try clear hcz64_4
      try clear hcz64_5
      try clear hfz64_0
      try clear hfz64_1
      try clear hfz64_2
      try clear hfz64_3
      try clear hfz64_4
      try clear hfz64_5
      obtain ⟨x9_3, x105_3, rfl, rfl, HA, HK3, BK115, HB⟩ := hrel
      cases gk with
      | zero => exact absurd HA.out (by simp [fQ2.l1])
      | succ k3 =>
       have H := HA.out
       clear HA
       simp only [fQ2.l1] at H
       by_cases c65 : x105_3 < (l0_3.length : Int)
       case neg =>
        rw [if_neg c65] at H
        have c65b0 : decide (x105_3 < (l0_3.length : Int)) = false := decide_eq_false c65
        clear c65
        by_cases c123 : x9_3 = true
        ·subst c123
         have H1 : (some 3) = some r := by rw [if_pos rfl] at H; exact H
         clear H
         have H := H1
         clear H1
         obtain rfl := Option.some.inj H
         go_wp2
         go_ret
         exact ⟨by first | rfl | (simp [*] <;> rfl), base_up HB0.out (by repeat (with_reducible first | exact HB.out | apply q4q | apply q0q | apply q2q | refine q5q ?_ GE115.out))⟩
        replace c123 := Bool.eq_false_iff.mpr c123
        subst c123
        have H1 : (if (l0_4.length : Int) = 0 then (some 2) else ((notAny a0_1 l0_2.length l0_3 a0_5 l0_4).bind fun t123 => (if t123 = true then (some 2) else (some 0)))) = some r := by rw [if_neg (show ¬ (false = true) by decide)] at H; exact H
        clear H
        have H := H1
        clear H1
        by_cases c124 : (l0_4.length : Int) = 0
        ·rw [if_pos c124] at H
         have c124b0 : ((l0_4.length : Int) == 0) = true := beq_iff_eq.mpr c124
         have c124b1 : ((l0_4.length : Int) != 0) = false := bne_eq_false_iff_eq.mpr c124
         clear c124
         obtain rfl := Option.some.inj H
         have hcz125_0 : wr.cell? ⟨gb115, 0, none⟩ = some (.int .i64 a0_0) := (q3q BK115.out 0).trans rfl
         have hcz125_1 : wr.cell? ⟨gb115, 1, none⟩ = some (.int .i64 a0_1) := (q3q BK115.out 1).trans rfl
         have hcz125_2 : wr.cell? ⟨gb115, 2, none⟩ = some (.slice A0_2 l0_2.length c0_2) := (q3q BK115.out 2).trans rfl
         have hcz125_3 : wr.cell? ⟨gb115, 3, none⟩ = some (.slice A0_3 l0_3.length c0_3) := (q3q BK115.out 3).trans rfl
         have hcz125_4 : wr.cell? ⟨gb115, 4, none⟩ = some (.slice A0_4 l0_4.length c0_4) := (q3q BK115.out 4).trans rfl
         have hcz125_5 : wr.cell? ⟨gb115, 5, none⟩ = some (.int .i64 a0_5) := (q3q BK115.out 5).trans rfl
         have hfz125_0 := q1q BK115.out 0
         have hfz125_1 := q1q BK115.out 1
         have hfz125_2 := q1q BK115.out 2
         have hfz125_3 := q1q BK115.out 3
         have hfz125_4 := q1q BK115.out 4
         have hfz125_5 := q1q BK115.out 5
         go_wp2
         go_ret
         exact ⟨by first | rfl | (simp [*] <;> rfl), base_up HB0.out (by repeat (with_reducible first | exact HB.out | apply q4q | apply q0q | apply q2q | refine q5q ?_ GE115.out))⟩
        rw [if_neg c124] at H
        have c124b0 : ((l0_4.length : Int) == 0) = false := beq_eq_false_iff_ne.mpr c124
        have c124b1 : ((l0_4.length : Int) != 0) = true := bne_iff_ne.mpr c124
        have c124b2 : ¬ (l0_4 = []) := fun h_ => c124 (by rw [h_]; rfl)
        replace H := Option.bind_eq_some_iff.mp H
        obtain ⟨t123, A1260, H⟩ := H
        replace H : (if t123 = true then (some 2) else (some 0)) = some r := H
        have A126 := Aq.mk A1260
        clear A1260
        by_cases c127 : t123 = true
        ·subst c127
         have H1 : (some 2) = some r := by rw [if_pos rfl] at H; exact H
         clear H
         have H := H1
         clear H1
         obtain rfl := Option.some.inj H
         have hcz128_0 : wr.cell? ⟨gb115, 0, none⟩ = some (.int .i64 a0_0) := (q3q BK115.out 0).trans rfl
         have hcz128_1 : wr.cell? ⟨gb115, 1, none⟩ = some (.int .i64 a0_1) := (q3q BK115.out 1).trans rfl
         have hcz128_2 : wr.cell? ⟨gb115, 2, none⟩ = some (.slice A0_2 l0_2.length c0_2) := (q3q BK115.out 2).trans rfl
         have hcz128_3 : wr.cell? ⟨gb115, 3, none⟩ = some (.slice A0_3 l0_3.length c0_3) := (q3q BK115.out 3).trans rfl
         have hcz128_4 : wr.cell? ⟨gb115, 4, none⟩ = some (.slice A0_4 l0_4.length c0_4) := (q3q BK115.out 4).trans rfl
         have hcz128_5 : wr.cell? ⟨gb115, 5, none⟩ = some (.int .i64 a0_5) := (q3q BK115.out 5).trans rfl
         have hfz128_0 := q1q BK115.out 0
         have hfz128_1 := q1q BK115.out 1
         have hfz128_2 := q1q BK115.out 2
         have hfz128_3 := q1q BK115.out 3
         have hfz128_4 := q1q BK115.out 4
         have hfz128_5 := q1q BK115.out 5
         go_wp2_with (first | (go_at_call 61; refine (contains_any a0_0 a0_1 A0_2 c0_2 l0_2 A0_3 c0_3 l0_3 A0_4 c0_4 l0_4 a0_5 lb bb gb115 gbl _ (cl_now HTB.out HR0_2.out HC0_2.out HR0_3.out HC0_3.out HR0_4.out HC0_4.out BKL.out BK115.out HB.out) (notAny_len A126.out)).mono ?_; rw [notAny_val A126.out]; rintro e w129 ⟨rfl, hb⟩; have n0_ := Aq.mk (q13q (g := gb115) (o := .cells #[.int .i64 a0_0, .int .i64 a0_1, .slice A0_2 l0_2.length c0_2, .slice A0_3 l0_3.length c0_3, .slice A0_4 l0_4.length c0_4, .int .i64 a0_5] 77 (0, 0)) BK115.out hb); have n1_ := Aq.mk (q10q (by repeat (with_reducible first | exact HB.out | apply q4q | apply q0q | apply q2q | refine q5q ?_ GE115.out)) hb); clear BK115; clear HB; have BK115 := n0_; have HB := n1_; clear n0_ n1_; (try clear hb); (try clear hb2); (try clear hk); (try clear hi)))
         go_ret
         exact ⟨by first | rfl | (simp [*] <;> rfl), base_up HB0.out (by repeat (with_reducible first | exact HB.out | apply q4q | apply q0q | apply q2q | refine q5q ?_ GE115.out))⟩
        replace c127 := Bool.eq_false_iff.mpr c127
        subst c127
        have H1 : (some 0) = some r := by rw [if_neg (show ¬ (false = true) by decide)] at H; exact H
        clear H
        have H := H1
        clear H1
        obtain rfl := Option.some.inj H
        have hcz130_0 : wr.cell? ⟨gb115, 0, none⟩ = some (.int .i64 a0_0) := (q3q BK115.out 0).trans rfl
        have hcz130_1 : wr.cell? ⟨gb115, 1, none⟩ = some (.int .i64 a0_1) := (q3q BK115.out 1).trans rfl
        have hcz130_2 : wr.cell? ⟨gb115, 2, none⟩ = some (.slice A0_2 l0_2.length c0_2) := (q3q BK115.out 2).trans rfl
        have hcz130_3 : wr.cell? ⟨gb115, 3, none⟩ = some (.slice A0_3 l0_3.length c0_3) := (q3q BK115.out 3).trans rfl
        have hcz130_4 : wr.cell? ⟨gb115, 4, none⟩ = some (.slice A0_4 l0_4.length c0_4) := (q3q BK115.out 4).trans rfl
        have hcz130_5 : wr.cell? ⟨gb115, 5, none⟩ = some (.int .i64 a0_5) := (q3q BK115.out 5).trans rfl
        have hfz130_0 := q1q BK115.out 0
        have hfz130_1 := q1q BK115.out 1
        have hfz130_2 := q1q BK115.out 2
        have hfz130_3 := q1q BK115.out 3
        have hfz130_4 := q1q BK115.out 4
        have hfz130_5 := q1q BK115.out 5
        go_wp2_with (first | (go_at_call 61; refine (contains_any a0_0 a0_1 A0_2 c0_2 l0_2 A0_3 c0_3 l0_3 A0_4 c0_4 l0_4 a0_5 lb bb gb115 gbl _ (cl_now HTB.out HR0_2.out HC0_2.out HR0_3.out HC0_3.out HR0_4.out HC0_4.out BKL.out BK115.out HB.out) (notAny_len A126.out)).mono ?_; rw [notAny_val A126.out]; rintro e w131 ⟨rfl, hb⟩; have n0_ := Aq.mk (q13q (g := gb115) (o := .cells #[.int .i64 a0_0, .int .i64 a0_1, .slice A0_2 l0_2.length c0_2, .slice A0_3 l0_3.length c0_3, .slice A0_4 l0_4.length c0_4, .int .i64 a0_5] 77 (0, 0)) BK115.out hb); have n1_ := Aq.mk (q10q (by repeat (with_reducible first | exact HB.out | apply q4q | apply q0q | apply q2q | refine q5q ?_ GE115.out)) hb); clear BK115; clear HB; have BK115 := n0_; have HB := n1_; clear n0_ n1_; (try clear hb); (try clear hb2); (try clear hk); (try clear hi)))
        go_ret
        exact ⟨by first | rfl | (simp [*] <;> rfl), base_up HB0.out (by repeat (with_reducible first | exact HB.out | apply q4q | apply q0q | apply q2q | refine q5q ?_ GE115.out))⟩
       rw [if_pos c65] at H
       have c65b0 : decide (x105_3 < (l0_3.length : Int)) = true := decide_eq_true c65
       clear c65
       by_cases c66 : 0 ≤ x105_3
       case neg =>
        rw [if_neg c66] at H
        exact absurd H (by simp)
       rw [if_pos c66] at H
       have c66b0 : decide (0 ≤ x105_3) = true := decide_eq_true c66
       clear c66
       by_cases c67 : x105_3 < (l0_3.length : Int)
       case neg =>
        rw [if_neg c67] at H
        exact absurd H (by simp)
       rw [if_pos c67] at H
       have c67b0 : decide (x105_3 < (l0_3.length : Int)) = true := decide_eq_true c67
       clear c67
       by_cases c68 : x9_3 = true
       ·subst c68
        have H1 : (if ((rd_T42 l0_3 x105_3).f0) = 3 then (if ((rd_T42 l0_3 x105_3).f2).toList = ([] : List UInt8) then (fQ2.l1 k3 a1 true l0_3 (l0_3.length : Int) (wrap64 (x105_3 + 1)) a0_0 a0_1 l0_2 l0_3 l0_4 a0_5) else (if ((rd_T42 l0_3 x105_3).f0) = 5 then (if (((rd_T42 l0_3 x105_3).f1) = 0) then (fQ2.l1 k3 a1 true l0_3 (l0_3.length : Int) (wrap64 (x105_3 + 1)) a0_0 a0_1 l0_2 l0_3 l0_4 a0_5) else (some 2)) else (some 2))) else (if ((rd_T42 l0_3 x105_3).f0) = 5 then (if (((rd_T42 l0_3 x105_3).f1) = 0) then (fQ2.l1 k3 a1 true l0_3 (l0_3.length : Int) (wrap64 (x105_3 + 1)) a0_0 a0_1 l0_2 l0_3 l0_4 a0_5) else (some 2)) else (some 2))) = some r := by rw [if_pos rfl] at H; exact H
        clear H
        have H := H1
        clear H1
        by_cases c69 : ((rd_T42 l0_3 x105_3).f0) = 3
        case neg =>
         rw [if_neg c69] at H
         have c69b0 : (((rd_T42 l0_3 x105_3).f0) == 3) = false := beq_eq_false_iff_ne.mpr c69
         have c69b1 : (((rd_T42 l0_3 x105_3).f0) != 3) = true := bne_iff_ne.mpr c69
         by_cases c85 : ((rd_T42 l0_3 x105_3).f0) = 5
         case neg =>
          rw [if_neg c85] at H
          have c85b0 : (((rd_T42 l0_3 x105_3).f0) == 5) = false := beq_eq_false_iff_ne.mpr c85
          have c85b1 : (((rd_T42 l0_3 x105_3).f0) != 5) = true := bne_iff_ne.mpr c85
          obtain rfl := Option.some.inj H
          have p121 : 0 ≤ (x105_3 : Int) := of_decide_eq_true (by first | (with_reducible assumption) | assumption)
          have q121 : x105_3 < (l0_3.length : Int) := of_decide_eq_true (by first | (with_reducible assumption) | assumption)
          obtain ⟨ad121, e121, hx121_0, hx121_1, hx121_2⟩ := at_T42 HR0_3.out x105_3 p121 q121
          cases e121
          replace hx121_0 := (HB.out.cell (World.block_lt_of_cell? w _ hx121_0)).trans hx121_0
          replace hx121_1 := (HB.out.cell (World.block_lt_of_cell? w _ hx121_1)).trans hx121_1
          replace hx121_2 := (HB.out.cell (World.block_lt_of_cell? w _ hx121_2)).trans hx121_2
          replace p121 := eq_true p121
          replace q121 := eq_true q121
          go_wp2_with (first | ((with_reducible refine q12q (N := 11) rfl ?_); (try (refine q20q (by rfl) ?_; dsimp only)); refine q11q ?hg (N := 11) ?hd (cs := #[.int .i64 0, .int .i64 0, .string (⟨#[]⟩ : ByteArray)]) (t := 42) ?hr ?_; (case hd => rfl); (case hg => rfl); (case hr => first | (go_simp; done) | (go_simp; rfl)); intro gb122 hg w93 hbox hb; have n0_ := Aq.mk (q13q (g := gb115) (o := .cells #[.int .i64 a0_0, .int .i64 a0_1, .slice A0_2 l0_2.length c0_2, .slice (some ad121) l0_3.length c0_3, .slice A0_4 l0_4.length c0_4, .int .i64 a0_5] 77 (0, 0)) BK115.out hb); have n1_ := Aq.mk (q10q (by repeat (with_reducible first | exact HB.out | apply q4q | apply q0q | apply q2q | refine q5q ?_ GE115.out)) hb); have n2_ := Aq.mk (hbox); have n3_ := Aq.mk ((by rw [hg]; exact (q6q (by repeat (with_reducible first | exact HB.out | apply q4q | apply q0q | apply q2q | refine q5q ?_ GE115.out))) : w.heap.size ≤ gb122)); have n4_ := Aq.mk ((by rw [hg]; exact (q6q (by repeat (with_reducible first | exact HB.out | apply q4q | apply q0q | apply q2q | refine q5q ?_ GE115.out))) : w.heap.size ≤ gb122)); have n5_ := Aq.mk ((by rw [hg]; exact Nat.ne_of_lt (q16q (g := gb115) (o := .cells #[.int .i64 a0_0, .int .i64 a0_1, .slice A0_2 l0_2.length c0_2, .slice (some ad121) l0_3.length c0_3, .slice A0_4 l0_4.length c0_4, .int .i64 a0_5] 77 (0, 0)) BK115.out) : gb115 ≠ gb122)); have n6_ := Aq.mk ((by rw [hg]; exact Nat.ne_of_gt (q16q (g := gb115) (o := .cells #[.int .i64 a0_0, .int .i64 a0_1, .slice A0_2 l0_2.length c0_2, .slice (some ad121) l0_3.length c0_3, .slice A0_4 l0_4.length c0_4, .int .i64 a0_5] 77 (0, 0)) BK115.out) : gb122 ≠ gb115)); clear BK115; clear HB; have BK115 := n0_; have HB := n1_; have BK122 := n2_; have GW122 := n3_; have GE122 := n4_; have NB115_122 := n5_; have NB122_115 := n6_; clear n0_ n1_ n2_ n3_ n4_ n5_ n6_; clear hb hbox hg; have hnb94 := NB122_115.out; have hnc94 := NB115_122.out; have hcz95_0 : w93.cell? ⟨gb122, 0, none⟩ = some (.int .i64 0) := (q3q BK122.out 0).trans rfl; have hcz95_1 : w93.cell? ⟨gb122, 1, none⟩ = some (.int .i64 0) := (q3q BK122.out 1).trans rfl; have hcz95_2 : w93.cell? ⟨gb122, 2, none⟩ = some (.string (⟨#[]⟩ : ByteArray)) := (q3q BK122.out 2).trans rfl; have hfz95_0 := q1q BK122.out 0; have hfz95_1 := q1q BK122.out 1; have hfz95_2 := q1q BK122.out 2))
          go_ret
          exact ⟨by first | rfl | (simp [*] <;> rfl), base_up HB0.out (by repeat (with_reducible first | exact HB.out | apply q4q | apply q0q | apply q2q | refine q5q ?_ GE115.out | refine q5q ?_ GE122.out))⟩
         rw [if_pos c85] at H
         have c85b0 : (((rd_T42 l0_3 x105_3).f0) == 5) = true := beq_iff_eq.mpr c85
         have c85b1 : (((rd_T42 l0_3 x105_3).f0) != 5) = false := bne_eq_false_iff_eq.mpr c85
         clear c85
         by_cases c86 : (((rd_T42 l0_3 x105_3).f1) = 0)
         case neg =>
          rw [if_neg c86] at H
          have c86b0 : (((rd_T42 l0_3 x105_3).f1) == 0) = false := beq_eq_false_iff_ne.mpr c86
          have c86b1 : (((rd_T42 l0_3 x105_3).f1) != 0) = true := bne_iff_ne.mpr c86
          obtain rfl := Option.some.inj H
          have p121 : 0 ≤ (x105_3 : Int) := of_decide_eq_true (by first | (with_reducible assumption) | assumption)
          have q121 : x105_3 < (l0_3.length : Int) := of_decide_eq_true (by first | (with_reducible assumption) | assumption)
          obtain ⟨ad121, e121, hx121_0, hx121_1, hx121_2⟩ := at_T42 HR0_3.out x105_3 p121 q121
          cases e121
          replace hx121_0 := (HB.out.cell (World.block_lt_of_cell? w _ hx121_0)).trans hx121_0
          replace hx121_1 := (HB.out.cell (World.block_lt_of_cell? w _ hx121_1)).trans hx121_1
          replace hx121_2 := (HB.out.cell (World.block_lt_of_cell? w _ hx121_2)).trans hx121_2
          replace p121 := eq_true p121
          replace q121 := eq_true q121
          go_wp2_with (first | ((with_reducible refine q12q (N := 11) rfl ?_); (try (refine q20q (by rfl) ?_; dsimp only)); refine q11q ?hg (N := 11) ?hd (cs := #[.int .i64 0, .int .i64 0, .string (⟨#[]⟩ : ByteArray)]) (t := 42) ?hr ?_; (case hd => rfl); (case hg => rfl); (case hr => first | (go_simp; done) | (go_simp; rfl)); intro gb122 hg w90 hbox hb; have n0_ := Aq.mk (q13q (g := gb115) (o := .cells #[.int .i64 a0_0, .int .i64 a0_1, .slice A0_2 l0_2.length c0_2, .slice (some ad121) l0_3.length c0_3, .slice A0_4 l0_4.length c0_4, .int .i64 a0_5] 77 (0, 0)) BK115.out hb); have n1_ := Aq.mk (q10q (by repeat (with_reducible first | exact HB.out | apply q4q | apply q0q | apply q2q | refine q5q ?_ GE115.out)) hb); have n2_ := Aq.mk (hbox); have n3_ := Aq.mk ((by rw [hg]; exact (q6q (by repeat (with_reducible first | exact HB.out | apply q4q | apply q0q | apply q2q | refine q5q ?_ GE115.out))) : w.heap.size ≤ gb122)); have n4_ := Aq.mk ((by rw [hg]; exact (q6q (by repeat (with_reducible first | exact HB.out | apply q4q | apply q0q | apply q2q | refine q5q ?_ GE115.out))) : w.heap.size ≤ gb122)); have n5_ := Aq.mk ((by rw [hg]; exact Nat.ne_of_lt (q16q (g := gb115) (o := .cells #[.int .i64 a0_0, .int .i64 a0_1, .slice A0_2 l0_2.length c0_2, .slice (some ad121) l0_3.length c0_3, .slice A0_4 l0_4.length c0_4, .int .i64 a0_5] 77 (0, 0)) BK115.out) : gb115 ≠ gb122)); have n6_ := Aq.mk ((by rw [hg]; exact Nat.ne_of_gt (q16q (g := gb115) (o := .cells #[.int .i64 a0_0, .int .i64 a0_1, .slice A0_2 l0_2.length c0_2, .slice (some ad121) l0_3.length c0_3, .slice A0_4 l0_4.length c0_4, .int .i64 a0_5] 77 (0, 0)) BK115.out) : gb122 ≠ gb115)); clear BK115; clear HB; have BK115 := n0_; have HB := n1_; have BK122 := n2_; have GW122 := n3_; have GE122 := n4_; have NB115_122 := n5_; have NB122_115 := n6_; clear n0_ n1_ n2_ n3_ n4_ n5_ n6_; clear hb hbox hg; have hnb91 := NB122_115.out; have hnc91 := NB115_122.out; have hcz92_0 : w90.cell? ⟨gb122, 0, none⟩ = some (.int .i64 0) := (q3q BK122.out 0).trans rfl; have hcz92_1 : w90.cell? ⟨gb122, 1, none⟩ = some (.int .i64 0) := (q3q BK122.out 1).trans rfl; have hcz92_2 : w90.cell? ⟨gb122, 2, none⟩ = some (.string (⟨#[]⟩ : ByteArray)) := (q3q BK122.out 2).trans rfl; have hfz92_0 := q1q BK122.out 0; have hfz92_1 := q1q BK122.out 1; have hfz92_2 := q1q BK122.out 2))
          go_ret
          exact ⟨by first | rfl | (simp [*] <;> rfl), base_up HB0.out (by repeat (with_reducible first | exact HB.out | apply q4q | apply q0q | apply q2q | refine q5q ?_ GE115.out | refine q5q ?_ GE122.out))⟩
         rw [if_pos c86] at H
         have c86b0 : (((rd_T42 l0_3 x105_3).f1) == 0) = true := beq_iff_eq.mpr c86
         have c86b1 : (((rd_T42 l0_3 x105_3).f1) != 0) = false := bne_eq_false_iff_eq.mpr c86
         clear c86
         have H' := Aq.mk H
         clear H
         have p121 : 0 ≤ (x105_3 : Int) := of_decide_eq_true (by first | (with_reducible assumption) | assumption)
         have q121 : x105_3 < (l0_3.length : Int) := of_decide_eq_true (by first | (with_reducible assumption) | assumption)
         obtain ⟨ad121, e121, hx121_0, hx121_1, hx121_2⟩ := at_T42 HR0_3.out x105_3 p121 q121
         cases e121
         replace hx121_0 := (HB.out.cell (World.block_lt_of_cell? w _ hx121_0)).trans hx121_0
         replace hx121_1 := (HB.out.cell (World.block_lt_of_cell? w _ hx121_1)).trans hx121_1
         replace hx121_2 := (HB.out.cell (World.block_lt_of_cell? w _ hx121_2)).trans hx121_2
         replace p121 := eq_true p121
         replace q121 := eq_true q121
         go_wp2_with (first | ((with_reducible refine q12q (N := 11) rfl ?_); (try (refine q20q (by rfl) ?_; dsimp only)); refine q11q ?hg (N := 11) ?hd (cs := #[.int .i64 0, .int .i64 0, .string (⟨#[]⟩ : ByteArray)]) (t := 42) ?hr ?_; (case hd => rfl); (case hg => rfl); (case hr => first | (go_simp; done) | (go_simp; rfl)); intro gb122 hg w87 hbox hb; have n0_ := Aq.mk (q13q (g := gb115) (o := .cells #[.int .i64 a0_0, .int .i64 a0_1, .slice A0_2 l0_2.length c0_2, .slice (some ad121) l0_3.length c0_3, .slice A0_4 l0_4.length c0_4, .int .i64 a0_5] 77 (0, 0)) BK115.out hb); have n1_ := Aq.mk (q10q (by repeat (with_reducible first | exact HB.out | apply q4q | apply q0q | apply q2q | refine q5q ?_ GE115.out)) hb); have n2_ := Aq.mk (hbox); have n3_ := Aq.mk ((by rw [hg]; exact (q6q (by repeat (with_reducible first | exact HB.out | apply q4q | apply q0q | apply q2q | refine q5q ?_ GE115.out))) : w.heap.size ≤ gb122)); have n4_ := Aq.mk ((by rw [hg]; exact (q6q (by repeat (with_reducible first | exact HB.out | apply q4q | apply q0q | apply q2q | refine q5q ?_ GE115.out))) : w.heap.size ≤ gb122)); have n5_ := Aq.mk ((by rw [hg]; exact Nat.ne_of_lt (q16q (g := gb115) (o := .cells #[.int .i64 a0_0, .int .i64 a0_1, .slice A0_2 l0_2.length c0_2, .slice (some ad121) l0_3.length c0_3, .slice A0_4 l0_4.length c0_4, .int .i64 a0_5] 77 (0, 0)) BK115.out) : gb115 ≠ gb122)); have n6_ := Aq.mk ((by rw [hg]; exact Nat.ne_of_gt (q16q (g := gb115) (o := .cells #[.int .i64 a0_0, .int .i64 a0_1, .slice A0_2 l0_2.length c0_2, .slice (some ad121) l0_3.length c0_3, .slice A0_4 l0_4.length c0_4, .int .i64 a0_5] 77 (0, 0)) BK115.out) : gb122 ≠ gb115)); clear BK115; clear HB; have BK115 := n0_; have HB := n1_; have BK122 := n2_; have GW122 := n3_; have GE122 := n4_; have NB115_122 := n5_; have NB122_115 := n6_; clear n0_ n1_ n2_ n3_ n4_ n5_ n6_; clear hb hbox hg; have hnb88 := NB122_115.out; have hnc88 := NB115_122.out; have hcz89_0 : w87.cell? ⟨gb122, 0, none⟩ = some (.int .i64 0) := (q3q BK122.out 0).trans rfl; have hcz89_1 : w87.cell? ⟨gb122, 1, none⟩ = some (.int .i64 0) := (q3q BK122.out 1).trans rfl; have hcz89_2 : w87.cell? ⟨gb122, 2, none⟩ = some (.string (⟨#[]⟩ : ByteArray)) := (q3q BK122.out 2).trans rfl; have hfz89_0 := q1q BK122.out 0; have hfz89_1 := q1q BK122.out 1; have hfz89_2 := q1q BK122.out 2))
         go_roundg k3
         case measure => have := HJ3.out; have := HK2.out; have := HK3.out; omega
         case rel => exact ⟨(true), (wrap64 (x105_3 + 1)), (by first | rfl | (simp; done) | (simp [*]; done)), (by first | rfl | (simp; done) | (simp [*]; done)), H', ⟨by have := HJ3.out; have := HK2.out; have := HK3.out; omega⟩, ⟨by (with_reducible repeat (first | refine q8q ?_ _ | refine q9q ?_ | refine q7q ?_ _)); refine q18q ?_ NB115_122.out _; (with_reducible repeat (first | refine q8q ?_ _ | refine q9q ?_ | refine q7q ?_ _)); refine q18q ?_ NB115_122.out _; (with_reducible repeat (first | refine q8q ?_ _ | refine q9q ?_ | refine q7q ?_ _)); refine q18q ?_ NB115_122.out _; (with_reducible repeat (first | refine q8q ?_ _ | refine q9q ?_ | refine q7q ?_ _)); exact BK115.out⟩, ⟨by repeat (with_reducible first | exact HB.out | apply q4q | apply q0q | apply q2q | refine q5q ?_ GE115.out | refine q5q ?_ GE122.out)⟩⟩
        rw [if_pos c69] at H
        have c69b0 : (((rd_T42 l0_3 x105_3).f0) == 3) = true := beq_iff_eq.mpr c69
        have c69b1 : (((rd_T42 l0_3 x105_3).f0) != 3) = false := bne_eq_false_iff_eq.mpr c69
        clear c69
        by_cases c70 : ((rd_T42 l0_3 x105_3).f2).toList = ([] : List UInt8)
        ·rw [if_pos c70] at H
         have c70b0 : (((rd_T42 l0_3 x105_3).f2).toList == ([] : List UInt8)) = true := beq_iff_eq.mpr c70
         have c70b1 : (((rd_T42 l0_3 x105_3).f2).toList != ([] : List UInt8)) = false := bne_eq_false_iff_eq.mpr c70
         clear c70
         have H' := Aq.mk H
         clear H
         have p121 : 0 ≤ (x105_3 : Int) := of_decide_eq_true (by first | (with_reducible assumption) | assumption)
         have q121 : x105_3 < (l0_3.length : Int) := of_decide_eq_true (by first | (with_reducible assumption) | assumption)
         obtain ⟨ad121, e121, hx121_0, hx121_1, hx121_2⟩ := at_T42 HR0_3.out x105_3 p121 q121
         cases e121
         replace hx121_0 := (HB.out.cell (World.block_lt_of_cell? w _ hx121_0)).trans hx121_0
         replace hx121_1 := (HB.out.cell (World.block_lt_of_cell? w _ hx121_1)).trans hx121_1
         replace hx121_2 := (HB.out.cell (World.block_lt_of_cell? w _ hx121_2)).trans hx121_2
         replace p121 := eq_true p121
         replace q121 := eq_true q121
         go_wp2_with (first | ((with_reducible refine q12q (N := 11) rfl ?_); (try (refine q20q (by rfl) ?_; dsimp only)); refine q11q ?hg (N := 11) ?hd (cs := #[.int .i64 0, .int .i64 0, .string (⟨#[]⟩ : ByteArray)]) (t := 42) ?hr ?_; (case hd => rfl); (case hg => rfl); (case hr => first | (go_simp; done) | (go_simp; rfl)); intro gb122 hg w71 hbox hb; have n0_ := Aq.mk (q13q (g := gb115) (o := .cells #[.int .i64 a0_0, .int .i64 a0_1, .slice A0_2 l0_2.length c0_2, .slice (some ad121) l0_3.length c0_3, .slice A0_4 l0_4.length c0_4, .int .i64 a0_5] 77 (0, 0)) BK115.out hb); have n1_ := Aq.mk (q10q (by repeat (with_reducible first | exact HB.out | apply q4q | apply q0q | apply q2q | refine q5q ?_ GE115.out)) hb); have n2_ := Aq.mk (hbox); have n3_ := Aq.mk ((by rw [hg]; exact (q6q (by repeat (with_reducible first | exact HB.out | apply q4q | apply q0q | apply q2q | refine q5q ?_ GE115.out))) : w.heap.size ≤ gb122)); have n4_ := Aq.mk ((by rw [hg]; exact (q6q (by repeat (with_reducible first | exact HB.out | apply q4q | apply q0q | apply q2q | refine q5q ?_ GE115.out))) : w.heap.size ≤ gb122)); have n5_ := Aq.mk ((by rw [hg]; exact Nat.ne_of_lt (q16q (g := gb115) (o := .cells #[.int .i64 a0_0, .int .i64 a0_1, .slice A0_2 l0_2.length c0_2, .slice (some ad121) l0_3.length c0_3, .slice A0_4 l0_4.length c0_4, .int .i64 a0_5] 77 (0, 0)) BK115.out) : gb115 ≠ gb122)); have n6_ := Aq.mk ((by rw [hg]; exact Nat.ne_of_gt (q16q (g := gb115) (o := .cells #[.int .i64 a0_0, .int .i64 a0_1, .slice A0_2 l0_2.length c0_2, .slice (some ad121) l0_3.length c0_3, .slice A0_4 l0_4.length c0_4, .int .i64 a0_5] 77 (0, 0)) BK115.out) : gb122 ≠ gb115)); clear BK115; clear HB; have BK115 := n0_; have HB := n1_; have BK122 := n2_; have GW122 := n3_; have GE122 := n4_; have NB115_122 := n5_; have NB122_115 := n6_; clear n0_ n1_ n2_ n3_ n4_ n5_ n6_; clear hb hbox hg; have hnb72 := NB122_115.out; have hnc72 := NB115_122.out; have hcz73_0 : w71.cell? ⟨gb122, 0, none⟩ = some (.int .i64 0) := (q3q BK122.out 0).trans rfl; have hcz73_1 : w71.cell? ⟨gb122, 1, none⟩ = some (.int .i64 0) := (q3q BK122.out 1).trans rfl; have hcz73_2 : w71.cell? ⟨gb122, 2, none⟩ = some (.string (⟨#[]⟩ : ByteArray)) := (q3q BK122.out 2).trans rfl; have hfz73_0 := q1q BK122.out 0; have hfz73_1 := q1q BK122.out 1; have hfz73_2 := q1q BK122.out 2))
         go_roundg k3
         case measure => have := HJ3.out; have := HK2.out; have := HK3.out; omega
         case rel => exact ⟨(true), (wrap64 (x105_3 + 1)), (by first | rfl | (simp; done) | (simp [*]; done)), (by first | rfl | (simp; done) | (simp [*]; done)), H', ⟨by have := HJ3.out; have := HK2.out; have := HK3.out; omega⟩, ⟨by (with_reducible repeat (first | refine q8q ?_ _ | refine q9q ?_ | refine q7q ?_ _)); refine q18q ?_ NB115_122.out _; (with_reducible repeat (first | refine q8q ?_ _ | refine q9q ?_ | refine q7q ?_ _)); refine q18q ?_ NB115_122.out _; (with_reducible repeat (first | refine q8q ?_ _ | refine q9q ?_ | refine q7q ?_ _)); refine q18q ?_ NB115_122.out _; (with_reducible repeat (first | refine q8q ?_ _ | refine q9q ?_ | refine q7q ?_ _)); exact BK115.out⟩, ⟨by repeat (with_reducible first | exact HB.out | apply q4q | apply q0q | apply q2q | refine q5q ?_ GE115.out | refine q5q ?_ GE122.out)⟩⟩
        rw [if_neg c70] at H
        have c70b0 : (((rd_T42 l0_3 x105_3).f2).toList == ([] : List UInt8)) = false := beq_eq_false_iff_ne.mpr c70
        have c70b1 : (((rd_T42 l0_3 x105_3).f2).toList != ([] : List UInt8)) = true := bne_iff_ne.mpr c70
        by_cases c74 : ((rd_T42 l0_3 x105_3).f0) = 5
        case neg =>
         rw [if_neg c74] at H
         have c74b0 : (((rd_T42 l0_3 x105_3).f0) == 5) = false := beq_eq_false_iff_ne.mpr c74
         have c74b1 : (((rd_T42 l0_3 x105_3).f0) != 5) = true := bne_iff_ne.mpr c74
         obtain rfl := Option.some.inj H
         have p121 : 0 ≤ (x105_3 : Int) := of_decide_eq_true (by first | (with_reducible assumption) | assumption)
         have q121 : x105_3 < (l0_3.length : Int) := of_decide_eq_true (by first | (with_reducible assumption) | assumption)
         obtain ⟨ad121, e121, hx121_0, hx121_1, hx121_2⟩ := at_T42 HR0_3.out x105_3 p121 q121
         cases e121
         replace hx121_0 := (HB.out.cell (World.block_lt_of_cell? w _ hx121_0)).trans hx121_0
         replace hx121_1 := (HB.out.cell (World.block_lt_of_cell? w _ hx121_1)).trans hx121_1
         replace hx121_2 := (HB.out.cell (World.block_lt_of_cell? w _ hx121_2)).trans hx121_2
         replace p121 := eq_true p121
         replace q121 := eq_true q121
         go_wp2_with (first | ((with_reducible refine q12q (N := 11) rfl ?_); (try (refine q20q (by rfl) ?_; dsimp only)); refine q11q ?hg (N := 11) ?hd (cs := #[.int .i64 0, .int .i64 0, .string (⟨#[]⟩ : ByteArray)]) (t := 42) ?hr ?_; (case hd => rfl); (case hg => rfl); (case hr => first | (go_simp; done) | (go_simp; rfl)); intro gb122 hg w82 hbox hb; have n0_ := Aq.mk (q13q (g := gb115) (o := .cells #[.int .i64 a0_0, .int .i64 a0_1, .slice A0_2 l0_2.length c0_2, .slice (some ad121) l0_3.length c0_3, .slice A0_4 l0_4.length c0_4, .int .i64 a0_5] 77 (0, 0)) BK115.out hb); have n1_ := Aq.mk (q10q (by repeat (with_reducible first | exact HB.out | apply q4q | apply q0q | apply q2q | refine q5q ?_ GE115.out)) hb); have n2_ := Aq.mk (hbox); have n3_ := Aq.mk ((by rw [hg]; exact (q6q (by repeat (with_reducible first | exact HB.out | apply q4q | apply q0q | apply q2q | refine q5q ?_ GE115.out))) : w.heap.size ≤ gb122)); have n4_ := Aq.mk ((by rw [hg]; exact (q6q (by repeat (with_reducible first | exact HB.out | apply q4q | apply q0q | apply q2q | refine q5q ?_ GE115.out))) : w.heap.size ≤ gb122)); have n5_ := Aq.mk ((by rw [hg]; exact Nat.ne_of_lt (q16q (g := gb115) (o := .cells #[.int .i64 a0_0, .int .i64 a0_1, .slice A0_2 l0_2.length c0_2, .slice (some ad121) l0_3.length c0_3, .slice A0_4 l0_4.length c0_4, .int .i64 a0_5] 77 (0, 0)) BK115.out) : gb115 ≠ gb122)); have n6_ := Aq.mk ((by rw [hg]; exact Nat.ne_of_gt (q16q (g := gb115) (o := .cells #[.int .i64 a0_0, .int .i64 a0_1, .slice A0_2 l0_2.length c0_2, .slice (some ad121) l0_3.length c0_3, .slice A0_4 l0_4.length c0_4, .int .i64 a0_5] 77 (0, 0)) BK115.out) : gb122 ≠ gb115)); clear BK115; clear HB; have BK115 := n0_; have HB := n1_; have BK122 := n2_; have GW122 := n3_; have GE122 := n4_; have NB115_122 := n5_; have NB122_115 := n6_; clear n0_ n1_ n2_ n3_ n4_ n5_ n6_; clear hb hbox hg; have hnb83 := NB122_115.out; have hnc83 := NB115_122.out; have hcz84_0 : w82.cell? ⟨gb122, 0, none⟩ = some (.int .i64 0) := (q3q BK122.out 0).trans rfl; have hcz84_1 : w82.cell? ⟨gb122, 1, none⟩ = some (.int .i64 0) := (q3q BK122.out 1).trans rfl; have hcz84_2 : w82.cell? ⟨gb122, 2, none⟩ = some (.string (⟨#[]⟩ : ByteArray)) := (q3q BK122.out 2).trans rfl; have hfz84_0 := q1q BK122.out 0; have hfz84_1 := q1q BK122.out 1; have hfz84_2 := q1q BK122.out 2))
         go_ret
         exact ⟨by first | rfl | (simp [*] <;> rfl), base_up HB0.out (by repeat (with_reducible first | exact HB.out | apply q4q | apply q0q | apply q2q | refine q5q ?_ GE115.out | refine q5q ?_ GE122.out))⟩
        rw [if_pos c74] at H
        have c74b0 : (((rd_T42 l0_3 x105_3).f0) == 5) = true := beq_iff_eq.mpr c74
        have c74b1 : (((rd_T42 l0_3 x105_3).f0) != 5) = false := bne_eq_false_iff_eq.mpr c74
        clear c74
        by_cases c75 : (((rd_T42 l0_3 x105_3).f1) = 0)
        case neg =>
         rw [if_neg c75] at H
         have c75b0 : (((rd_T42 l0_3 x105_3).f1) == 0) = false := beq_eq_false_iff_ne.mpr c75
         have c75b1 : (((rd_T42 l0_3 x105_3).f1) != 0) = true := bne_iff_ne.mpr c75
         obtain rfl := Option.some.inj H
         have p121 : 0 ≤ (x105_3 : Int) := of_decide_eq_true (by first | (with_reducible assumption) | assumption)
         have q121 : x105_3 < (l0_3.length : Int) := of_decide_eq_true (by first | (with_reducible assumption) | assumption)
         obtain ⟨ad121, e121, hx121_0, hx121_1, hx121_2⟩ := at_T42 HR0_3.out x105_3 p121 q121
         cases e121
         replace hx121_0 := (HB.out.cell (World.block_lt_of_cell? w _ hx121_0)).trans hx121_0
         replace hx121_1 := (HB.out.cell (World.block_lt_of_cell? w _ hx121_1)).trans hx121_1
         replace hx121_2 := (HB.out.cell (World.block_lt_of_cell? w _ hx121_2)).trans hx121_2
         replace p121 := eq_true p121
         replace q121 := eq_true q121
         go_wp2_with (first | ((with_reducible refine q12q (N := 11) rfl ?_); (try (refine q20q (by rfl) ?_; dsimp only)); refine q11q ?hg (N := 11) ?hd (cs := #[.int .i64 0, .int .i64 0, .string (⟨#[]⟩ : ByteArray)]) (t := 42) ?hr ?_; (case hd => rfl); (case hg => rfl); (case hr => first | (go_simp; done) | (go_simp; rfl)); intro gb122 hg w79 hbox hb; have n0_ := Aq.mk (q13q (g := gb115) (o := .cells #[.int .i64 a0_0, .int .i64 a0_1, .slice A0_2 l0_2.length c0_2, .slice (some ad121) l0_3.length c0_3, .slice A0_4 l0_4.length c0_4, .int .i64 a0_5] 77 (0, 0)) BK115.out hb); have n1_ := Aq.mk (q10q (by repeat (with_reducible first | exact HB.out | apply q4q | apply q0q | apply q2q | refine q5q ?_ GE115.out)) hb); have n2_ := Aq.mk (hbox); have n3_ := Aq.mk ((by rw [hg]; exact (q6q (by repeat (with_reducible first | exact HB.out | apply q4q | apply q0q | apply q2q | refine q5q ?_ GE115.out))) : w.heap.size ≤ gb122)); have n4_ := Aq.mk ((by rw [hg]; exact (q6q (by repeat (with_reducible first | exact HB.out | apply q4q | apply q0q | apply q2q | refine q5q ?_ GE115.out))) : w.heap.size ≤ gb122)); have n5_ := Aq.mk ((by rw [hg]; exact Nat.ne_of_lt (q16q (g := gb115) (o := .cells #[.int .i64 a0_0, .int .i64 a0_1, .slice A0_2 l0_2.length c0_2, .slice (some ad121) l0_3.length c0_3, .slice A0_4 l0_4.length c0_4, .int .i64 a0_5] 77 (0, 0)) BK115.out) : gb115 ≠ gb122)); have n6_ := Aq.mk ((by rw [hg]; exact Nat.ne_of_gt (q16q (g := gb115) (o := .cells #[.int .i64 a0_0, .int .i64 a0_1, .slice A0_2 l0_2.length c0_2, .slice (some ad121) l0_3.length c0_3, .slice A0_4 l0_4.length c0_4, .int .i64 a0_5] 77 (0, 0)) BK115.out) : gb122 ≠ gb115)); clear BK115; clear HB; have BK115 := n0_; have HB := n1_; have BK122 := n2_; have GW122 := n3_; have GE122 := n4_; have NB115_122 := n5_; have NB122_115 := n6_; clear n0_ n1_ n2_ n3_ n4_ n5_ n6_; clear hb hbox hg; have hnb80 := NB122_115.out; have hnc80 := NB115_122.out; have hcz81_0 : w79.cell? ⟨gb122, 0, none⟩ = some (.int .i64 0) := (q3q BK122.out 0).trans rfl; have hcz81_1 : w79.cell? ⟨gb122, 1, none⟩ = some (.int .i64 0) := (q3q BK122.out 1).trans rfl; have hcz81_2 : w79.cell? ⟨gb122, 2, none⟩ = some (.string (⟨#[]⟩ : ByteArray)) := (q3q BK122.out 2).trans rfl; have hfz81_0 := q1q BK122.out 0; have hfz81_1 := q1q BK122.out 1; have hfz81_2 := q1q BK122.out 2))
         go_ret
         exact ⟨by first | rfl | (simp [*] <;> rfl), base_up HB0.out (by repeat (with_reducible first | exact HB.out | apply q4q | apply q0q | apply q2q | refine q5q ?_ GE115.out | refine q5q ?_ GE122.out))⟩
        rw [if_pos c75] at H
        have c75b0 : (((rd_T42 l0_3 x105_3).f1) == 0) = true := beq_iff_eq.mpr c75
        have c75b1 : (((rd_T42 l0_3 x105_3).f1) != 0) = false := bne_eq_false_iff_eq.mpr c75
        clear c75
        have H' := Aq.mk H
        clear H
        have p121 : 0 ≤ (x105_3 : Int) := of_decide_eq_true (by first | (with_reducible assumption) | assumption)
        have q121 : x105_3 < (l0_3.length : Int) := of_decide_eq_true (by first | (with_reducible assumption) | assumption)
        obtain ⟨ad121, e121, hx121_0, hx121_1, hx121_2⟩ := at_T42 HR0_3.out x105_3 p121 q121
        cases e121
        replace hx121_0 := (HB.out.cell (World.block_lt_of_cell? w _ hx121_0)).trans hx121_0
        replace hx121_1 := (HB.out.cell (World.block_lt_of_cell? w _ hx121_1)).trans hx121_1
        replace hx121_2 := (HB.out.cell (World.block_lt_of_cell? w _ hx121_2)).trans hx121_2
        replace p121 := eq_true p121
        replace q121 := eq_true q121
        go_wp2_with (first | ((with_reducible refine q12q (N := 11) rfl ?_); (try (refine q20q (by rfl) ?_; dsimp only)); refine q11q ?hg (N := 11) ?hd (cs := #[.int .i64 0, .int .i64 0, .string (⟨#[]⟩ : ByteArray)]) (t := 42) ?hr ?_; (case hd => rfl); (case hg => rfl); (case hr => first | (go_simp; done) | (go_simp; rfl)); intro gb122 hg w76 hbox hb; have n0_ := Aq.mk (q13q (g := gb115) (o := .cells #[.int .i64 a0_0, .int .i64 a0_1, .slice A0_2 l0_2.length c0_2, .slice (some ad121) l0_3.length c0_3, .slice A0_4 l0_4.length c0_4, .int .i64 a0_5] 77 (0, 0)) BK115.out hb); have n1_ := Aq.mk (q10q (by repeat (with_reducible first | exact HB.out | apply q4q | apply q0q | apply q2q | refine q5q ?_ GE115.out)) hb); have n2_ := Aq.mk (hbox); have n3_ := Aq.mk ((by rw [hg]; exact (q6q (by repeat (with_reducible first | exact HB.out | apply q4q | apply q0q | apply q2q | refine q5q ?_ GE115.out))) : w.heap.size ≤ gb122)); have n4_ := Aq.mk ((by rw [hg]; exact (q6q (by repeat (with_reducible first | exact HB.out | apply q4q | apply q0q | apply q2q | refine q5q ?_ GE115.out))) : w.heap.size ≤ gb122)); have n5_ := Aq.mk ((by rw [hg]; exact Nat.ne_of_lt (q16q (g := gb115) (o := .cells #[.int .i64 a0_0, .int .i64 a0_1, .slice A0_2 l0_2.length c0_2, .slice (some ad121) l0_3.length c0_3, .slice A0_4 l0_4.length c0_4, .int .i64 a0_5] 77 (0, 0)) BK115.out) : gb115 ≠ gb122)); have n6_ := Aq.mk ((by rw [hg]; exact Nat.ne_of_gt (q16q (g := gb115) (o := .cells #[.int .i64 a0_0, .int .i64 a0_1, .slice A0_2 l0_2.length c0_2, .slice (some ad121) l0_3.length c0_3, .slice A0_4 l0_4.length c0_4, .int .i64 a0_5] 77 (0, 0)) BK115.out) : gb122 ≠ gb115)); clear BK115; clear HB; have BK115 := n0_; have HB := n1_; have BK122 := n2_; have GW122 := n3_; have GE122 := n4_; have NB115_122 := n5_; have NB122_115 := n6_; clear n0_ n1_ n2_ n3_ n4_ n5_ n6_; clear hb hbox hg; have hnb77 := NB122_115.out; have hnc77 := NB115_122.out; have hcz78_0 : w76.cell? ⟨gb122, 0, none⟩ = some (.int .i64 0) := (q3q BK122.out 0).trans rfl; have hcz78_1 : w76.cell? ⟨gb122, 1, none⟩ = some (.int .i64 0) := (q3q BK122.out 1).trans rfl; have hcz78_2 : w76.cell? ⟨gb122, 2, none⟩ = some (.string (⟨#[]⟩ : ByteArray)) := (q3q BK122.out 2).trans rfl; have hfz78_0 := q1q BK122.out 0; have hfz78_1 := q1q BK122.out 1; have hfz78_2 := q1q BK122.out 2))
        go_roundg k3
        case measure => have := HJ3.out; have := HK2.out; have := HK3.out; omega
        case rel => exact ⟨(true), (wrap64 (x105_3 + 1)), (by first | rfl | (simp; done) | (simp [*]; done)), (by first | rfl | (simp; done) | (simp [*]; done)), H', ⟨by have := HJ3.out; have := HK2.out; have := HK3.out; omega⟩, ⟨by (with_reducible repeat (first | refine q8q ?_ _ | refine q9q ?_ | refine q7q ?_ _)); refine q18q ?_ NB115_122.out _; (with_reducible repeat (first | refine q8q ?_ _ | refine q9q ?_ | refine q7q ?_ _)); refine q18q ?_ NB115_122.out _; (with_reducible repeat (first | refine q8q ?_ _ | refine q9q ?_ | refine q7q ?_ _)); refine q18q ?_ NB115_122.out _; (with_reducible repeat (first | refine q8q ?_ _ | refine q9q ?_ | refine q7q ?_ _)); exact BK115.out⟩, ⟨by repeat (with_reducible first | exact HB.out | apply q4q | apply q0q | apply q2q | refine q5q ?_ GE115.out | refine q5q ?_ GE122.out)⟩⟩
       replace c68 := Bool.eq_false_iff.mpr c68
       subst c68
       have H1 : (if ((rd_T42 l0_3 x105_3).f0) = 3 then (if ((rd_T42 l0_3 x105_3).f2).toList = ([] : List UInt8) then (fQ2.l1 k3 a1 (decide ((((rd_T42 l0_3 x105_3).f2).size : Int) > 4096)) l0_3 (l0_3.length : Int) (wrap64 (x105_3 + 1)) a0_0 a0_1 l0_2 l0_3 l0_4 a0_5) else (if ((rd_T42 l0_3 x105_3).f0) = 5 then (if (((rd_T42 l0_3 x105_3).f1) = 0) then (fQ2.l1 k3 a1 (decide ((((rd_T42 l0_3 x105_3).f2).size : Int) > 4096)) l0_3 (l0_3.length : Int) (wrap64 (x105_3 + 1)) a0_0 a0_1 l0_2 l0_3 l0_4 a0_5) else (some 2)) else (some 2))) else (if ((rd_T42 l0_3 x105_3).f0) = 5 then (if (((rd_T42 l0_3 x105_3).f1) = 0) then (fQ2.l1 k3 a1 (decide ((((rd_T42 l0_3 x105_3).f2).size : Int) > 4096)) l0_3 (l0_3.length : Int) (wrap64 (x105_3 + 1)) a0_0 a0_1 l0_2 l0_3 l0_4 a0_5) else (some 2)) else (some 2))) = some r := by rw [if_neg (show ¬ (false = true) by decide)] at H; exact H
       clear H
       have H := H1
       clear H1
       by_cases c96 : ((rd_T42 l0_3 x105_3).f0) = 3
       case neg =>
        rw [if_neg c96] at H
        have c96b0 : (((rd_T42 l0_3 x105_3).f0) == 3) = false := beq_eq_false_iff_ne.mpr c96
        have c96b1 : (((rd_T42 l0_3 x105_3).f0) != 3) = true := bne_iff_ne.mpr c96
        by_cases c112 : ((rd_T42 l0_3 x105_3).f0) = 5
        case neg =>
         rw [if_neg c112] at H
         have c112b0 : (((rd_T42 l0_3 x105_3).f0) == 5) = false := beq_eq_false_iff_ne.mpr c112
         have c112b1 : (((rd_T42 l0_3 x105_3).f0) != 5) = true := bne_iff_ne.mpr c112
         obtain rfl := Option.some.inj H
         have p121 : 0 ≤ (x105_3 : Int) := of_decide_eq_true (by first | (with_reducible assumption) | assumption)
         have q121 : x105_3 < (l0_3.length : Int) := of_decide_eq_true (by first | (with_reducible assumption) | assumption)
         obtain ⟨ad121, e121, hx121_0, hx121_1, hx121_2⟩ := at_T42 HR0_3.out x105_3 p121 q121
         cases e121
         replace hx121_0 := (HB.out.cell (World.block_lt_of_cell? w _ hx121_0)).trans hx121_0
         replace hx121_1 := (HB.out.cell (World.block_lt_of_cell? w _ hx121_1)).trans hx121_1
         replace hx121_2 := (HB.out.cell (World.block_lt_of_cell? w _ hx121_2)).trans hx121_2
         replace p121 := eq_true p121
         replace q121 := eq_true q121
         go_wp2_with (first | ((with_reducible refine q12q (N := 11) rfl ?_); (try (refine q20q (by rfl) ?_; dsimp only)); refine q11q ?hg (N := 11) ?hd (cs := #[.int .i64 0, .int .i64 0, .string (⟨#[]⟩ : ByteArray)]) (t := 42) ?hr ?_; (case hd => rfl); (case hg => rfl); (case hr => first | (go_simp; done) | (go_simp; rfl)); intro gb122 hg w120 hbox hb; have n0_ := Aq.mk (q13q (g := gb115) (o := .cells #[.int .i64 a0_0, .int .i64 a0_1, .slice A0_2 l0_2.length c0_2, .slice (some ad121) l0_3.length c0_3, .slice A0_4 l0_4.length c0_4, .int .i64 a0_5] 77 (0, 0)) BK115.out hb); have n1_ := Aq.mk (q10q (by repeat (with_reducible first | exact HB.out | apply q4q | apply q0q | apply q2q | refine q5q ?_ GE115.out)) hb); have n2_ := Aq.mk (hbox); have n3_ := Aq.mk ((by rw [hg]; exact (q6q (by repeat (with_reducible first | exact HB.out | apply q4q | apply q0q | apply q2q | refine q5q ?_ GE115.out))) : w.heap.size ≤ gb122)); have n4_ := Aq.mk ((by rw [hg]; exact (q6q (by repeat (with_reducible first | exact HB.out | apply q4q | apply q0q | apply q2q | refine q5q ?_ GE115.out))) : w.heap.size ≤ gb122)); have n5_ := Aq.mk ((by rw [hg]; exact Nat.ne_of_lt (q16q (g := gb115) (o := .cells #[.int .i64 a0_0, .int .i64 a0_1, .slice A0_2 l0_2.length c0_2, .slice (some ad121) l0_3.length c0_3, .slice A0_4 l0_4.length c0_4, .int .i64 a0_5] 77 (0, 0)) BK115.out) : gb115 ≠ gb122)); have n6_ := Aq.mk ((by rw [hg]; exact Nat.ne_of_gt (q16q (g := gb115) (o := .cells #[.int .i64 a0_0, .int .i64 a0_1, .slice A0_2 l0_2.length c0_2, .slice (some ad121) l0_3.length c0_3, .slice A0_4 l0_4.length c0_4, .int .i64 a0_5] 77 (0, 0)) BK115.out) : gb122 ≠ gb115)); clear BK115; clear HB; have BK115 := n0_; have HB := n1_; have BK122 := n2_; have GW122 := n3_; have GE122 := n4_; have NB115_122 := n5_; have NB122_115 := n6_; clear n0_ n1_ n2_ n3_ n4_ n5_ n6_; clear hb hbox hg; have hnb121 := NB122_115.out; have hnc121 := NB115_122.out; have hcz122_0 : w120.cell? ⟨gb122, 0, none⟩ = some (.int .i64 0) := (q3q BK122.out 0).trans rfl; have hcz122_1 : w120.cell? ⟨gb122, 1, none⟩ = some (.int .i64 0) := (q3q BK122.out 1).trans rfl; have hcz122_2 : w120.cell? ⟨gb122, 2, none⟩ = some (.string (⟨#[]⟩ : ByteArray)) := (q3q BK122.out 2).trans rfl; have hfz122_0 := q1q BK122.out 0; have hfz122_1 := q1q BK122.out 1; have hfz122_2 := q1q BK122.out 2))
         go_ret
         exact ⟨by first | rfl | (simp [*] <;> rfl), base_up HB0.out (by repeat (with_reducible first | exact HB.out | apply q4q | apply q0q | apply q2q | refine q5q ?_ GE115.out | refine q5q ?_ GE122.out))⟩
        rw [if_pos c112] at H
        have c112b0 : (((rd_T42 l0_3 x105_3).f0) == 5) = true := beq_iff_eq.mpr c112
        have c112b1 : (((rd_T42 l0_3 x105_3).f0) != 5) = false := bne_eq_false_iff_eq.mpr c112
        clear c112
        by_cases c113 : (((rd_T42 l0_3 x105_3).f1) = 0)
        case neg =>
         rw [if_neg c113] at H
         have c113b0 : (((rd_T42 l0_3 x105_3).f1) == 0) = false := beq_eq_false_iff_ne.mpr c113
         have c113b1 : (((rd_T42 l0_3 x105_3).f1) != 0) = true := bne_iff_ne.mpr c113
         obtain rfl := Option.some.inj H
         have p121 : 0 ≤ (x105_3 : Int) := of_decide_eq_true (by first | (with_reducible assumption) | assumption)
         have q121 : x105_3 < (l0_3.length : Int) := of_decide_eq_true (by first | (with_reducible assumption) | assumption)
         obtain ⟨ad121, e121, hx121_0, hx121_1, hx121_2⟩ := at_T42 HR0_3.out x105_3 p121 q121
         cases e121
         replace hx121_0 := (HB.out.cell (World.block_lt_of_cell? w _ hx121_0)).trans hx121_0
         replace hx121_1 := (HB.out.cell (World.block_lt_of_cell? w _ hx121_1)).trans hx121_1
         replace hx121_2 := (HB.out.cell (World.block_lt_of_cell? w _ hx121_2)).trans hx121_2
         replace p121 := eq_true p121
         replace q121 := eq_true q121
         go_wp2_with (first | ((with_reducible refine q12q (N := 11) rfl ?_); (try (refine q20q (by rfl) ?_; dsimp only)); refine q11q ?hg (N := 11) ?hd (cs := #[.int .i64 0, .int .i64 0, .string (⟨#[]⟩ : ByteArray)]) (t := 42) ?hr ?_; (case hd => rfl); (case hg => rfl); (case hr => first | (go_simp; done) | (go_simp; rfl)); intro gb122 hg w117 hbox hb; have n0_ := Aq.mk (q13q (g := gb115) (o := .cells #[.int .i64 a0_0, .int .i64 a0_1, .slice A0_2 l0_2.length c0_2, .slice (some ad121) l0_3.length c0_3, .slice A0_4 l0_4.length c0_4, .int .i64 a0_5] 77 (0, 0)) BK115.out hb); have n1_ := Aq.mk (q10q (by repeat (with_reducible first | exact HB.out | apply q4q | apply q0q | apply q2q | refine q5q ?_ GE115.out)) hb); have n2_ := Aq.mk (hbox); have n3_ := Aq.mk ((by rw [hg]; exact (q6q (by repeat (with_reducible first | exact HB.out | apply q4q | apply q0q | apply q2q | refine q5q ?_ GE115.out))) : w.heap.size ≤ gb122)); have n4_ := Aq.mk ((by rw [hg]; exact (q6q (by repeat (with_reducible first | exact HB.out | apply q4q | apply q0q | apply q2q | refine q5q ?_ GE115.out))) : w.heap.size ≤ gb122)); have n5_ := Aq.mk ((by rw [hg]; exact Nat.ne_of_lt (q16q (g := gb115) (o := .cells #[.int .i64 a0_0, .int .i64 a0_1, .slice A0_2 l0_2.length c0_2, .slice (some ad121) l0_3.length c0_3, .slice A0_4 l0_4.length c0_4, .int .i64 a0_5] 77 (0, 0)) BK115.out) : gb115 ≠ gb122)); have n6_ := Aq.mk ((by rw [hg]; exact Nat.ne_of_gt (q16q (g := gb115) (o := .cells #[.int .i64 a0_0, .int .i64 a0_1, .slice A0_2 l0_2.length c0_2, .slice (some ad121) l0_3.length c0_3, .slice A0_4 l0_4.length c0_4, .int .i64 a0_5] 77 (0, 0)) BK115.out) : gb122 ≠ gb115)); clear BK115; clear HB; have BK115 := n0_; have HB := n1_; have BK122 := n2_; have GW122 := n3_; have GE122 := n4_; have NB115_122 := n5_; have NB122_115 := n6_; clear n0_ n1_ n2_ n3_ n4_ n5_ n6_; clear hb hbox hg; have hnb118 := NB122_115.out; have hnc118 := NB115_122.out; have hcz119_0 : w117.cell? ⟨gb122, 0, none⟩ = some (.int .i64 0) := (q3q BK122.out 0).trans rfl; have hcz119_1 : w117.cell? ⟨gb122, 1, none⟩ = some (.int .i64 0) := (q3q BK122.out 1).trans rfl; have hcz119_2 : w117.cell? ⟨gb122, 2, none⟩ = some (.string (⟨#[]⟩ : ByteArray)) := (q3q BK122.out 2).trans rfl; have hfz119_0 := q1q BK122.out 0; have hfz119_1 := q1q BK122.out 1; have hfz119_2 := q1q BK122.out 2))
         go_ret
         exact ⟨by first | rfl | (simp [*] <;> rfl), base_up HB0.out (by repeat (with_reducible first | exact HB.out | apply q4q | apply q0q | apply q2q | refine q5q ?_ GE115.out | refine q5q ?_ GE122.out))⟩
        rw [if_pos c113] at H
        have c113b0 : (((rd_T42 l0_3 x105_3).f1) == 0) = true := beq_iff_eq.mpr c113
        have c113b1 : (((rd_T42 l0_3 x105_3).f1) != 0) = false := bne_eq_false_iff_eq.mpr c113
        clear c113
        have H' := Aq.mk H
        clear H
        have p121 : 0 ≤ (x105_3 : Int) := of_decide_eq_true (by first | (with_reducible assumption) | assumption)
        have q121 : x105_3 < (l0_3.length : Int) := of_decide_eq_true (by first | (with_reducible assumption) | assumption)
        obtain ⟨ad121, e121, hx121_0, hx121_1, hx121_2⟩ := at_T42 HR0_3.out x105_3 p121 q121
        cases e121
        replace hx121_0 := (HB.out.cell (World.block_lt_of_cell? w _ hx121_0)).trans hx121_0
        replace hx121_1 := (HB.out.cell (World.block_lt_of_cell? w _ hx121_1)).trans hx121_1
        replace hx121_2 := (HB.out.cell (World.block_lt_of_cell? w _ hx121_2)).trans hx121_2
        replace p121 := eq_true p121
        replace q121 := eq_true q121
        go_wp2_with (first | ((with_reducible refine q12q (N := 11) rfl ?_); (try (refine q20q (by rfl) ?_; dsimp only)); refine q11q ?hg (N := 11) ?hd (cs := #[.int .i64 0, .int .i64 0, .string (⟨#[]⟩ : ByteArray)]) (t := 42) ?hr ?_; (case hd => rfl); (case hg => rfl); (case hr => first | (go_simp; done) | (go_simp; rfl)); intro gb122 hg w114 hbox hb; have n0_ := Aq.mk (q13q (g := gb115) (o := .cells #[.int .i64 a0_0, .int .i64 a0_1, .slice A0_2 l0_2.length c0_2, .slice (some ad121) l0_3.length c0_3, .slice A0_4 l0_4.length c0_4, .int .i64 a0_5] 77 (0, 0)) BK115.out hb); have n1_ := Aq.mk (q10q (by repeat (with_reducible first | exact HB.out | apply q4q | apply q0q | apply q2q | refine q5q ?_ GE115.out)) hb); have n2_ := Aq.mk (hbox); have n3_ := Aq.mk ((by rw [hg]; exact (q6q (by repeat (with_reducible first | exact HB.out | apply q4q | apply q0q | apply q2q | refine q5q ?_ GE115.out))) : w.heap.size ≤ gb122)); have n4_ := Aq.mk ((by rw [hg]; exact (q6q (by repeat (with_reducible first | exact HB.out | apply q4q | apply q0q | apply q2q | refine q5q ?_ GE115.out))) : w.heap.size ≤ gb122)); have n5_ := Aq.mk ((by rw [hg]; exact Nat.ne_of_lt (q16q (g := gb115) (o := .cells #[.int .i64 a0_0, .int .i64 a0_1, .slice A0_2 l0_2.length c0_2, .slice (some ad121) l0_3.length c0_3, .slice A0_4 l0_4.length c0_4, .int .i64 a0_5] 77 (0, 0)) BK115.out) : gb115 ≠ gb122)); have n6_ := Aq.mk ((by rw [hg]; exact Nat.ne_of_gt (q16q (g := gb115) (o := .cells #[.int .i64 a0_0, .int .i64 a0_1, .slice A0_2 l0_2.length c0_2, .slice (some ad121) l0_3.length c0_3, .slice A0_4 l0_4.length c0_4, .int .i64 a0_5] 77 (0, 0)) BK115.out) : gb122 ≠ gb115)); clear BK115; clear HB; have BK115 := n0_; have HB := n1_; have BK122 := n2_; have GW122 := n3_; have GE122 := n4_; have NB115_122 := n5_; have NB122_115 := n6_; clear n0_ n1_ n2_ n3_ n4_ n5_ n6_; clear hb hbox hg; have hnb115 := NB122_115.out; have hnc115 := NB115_122.out; have hcz116_0 : w114.cell? ⟨gb122, 0, none⟩ = some (.int .i64 0) := (q3q BK122.out 0).trans rfl; have hcz116_1 : w114.cell? ⟨gb122, 1, none⟩ = some (.int .i64 0) := (q3q BK122.out 1).trans rfl; have hcz116_2 : w114.cell? ⟨gb122, 2, none⟩ = some (.string (⟨#[]⟩ : ByteArray)) := (q3q BK122.out 2).trans rfl; have hfz116_0 := q1q BK122.out 0; have hfz116_1 := q1q BK122.out 1; have hfz116_2 := q1q BK122.out 2))
        go_roundg k3
        case measure => have := HJ3.out; have := HK2.out; have := HK3.out; omega
        case rel => exact ⟨(decide ((((rd_T42 l0_3 x105_3).f2).size : Int) > 4096)), (wrap64 (x105_3 + 1)), (by first | rfl | (simp; done) | (simp [*]; done)), (by first | rfl | (simp; done) | (simp [*]; done)), H', ⟨by have := HJ3.out; have := HK2.out; have := HK3.out; omega⟩, ⟨by (with_reducible repeat (first | refine q8q ?_ _ | refine q9q ?_ | refine q7q ?_ _)); refine q18q ?_ NB115_122.out _; (with_reducible repeat (first | refine q8q ?_ _ | refine q9q ?_ | refine q7q ?_ _)); refine q18q ?_ NB115_122.out _; (with_reducible repeat (first | refine q8q ?_ _ | refine q9q ?_ | refine q7q ?_ _)); refine q18q ?_ NB115_122.out _; (with_reducible repeat (first | refine q8q ?_ _ | refine q9q ?_ | refine q7q ?_ _)); exact BK115.out⟩, ⟨by repeat (with_reducible first | exact HB.out | apply q4q | apply q0q | apply q2q | refine q5q ?_ GE115.out | refine q5q ?_ GE122.out)⟩⟩
       rw [if_pos c96] at H
       have c96b0 : (((rd_T42 l0_3 x105_3).f0) == 3) = true := beq_iff_eq.mpr c96
       have c96b1 : (((rd_T42 l0_3 x105_3).f0) != 3) = false := bne_eq_false_iff_eq.mpr c96
       clear c96
       by_cases c97 : ((rd_T42 l0_3 x105_3).f2).toList = ([] : List UInt8)
       ·rw [if_pos c97] at H
        have c97b0 : (((rd_T42 l0_3 x105_3).f2).toList == ([] : List UInt8)) = true := beq_iff_eq.mpr c97
        have c97b1 : (((rd_T42 l0_3 x105_3).f2).toList != ([] : List UInt8)) = false := bne_eq_false_iff_eq.mpr c97
        clear c97
        have H' := Aq.mk H
        clear H
        have p121 : 0 ≤ (x105_3 : Int) := of_decide_eq_true (by first | (with_reducible assumption) | assumption)
        have q121 : x105_3 < (l0_3.length : Int) := of_decide_eq_true (by first | (with_reducible assumption) | assumption)
        obtain ⟨ad121, e121, hx121_0, hx121_1, hx121_2⟩ := at_T42 HR0_3.out x105_3 p121 q121
        cases e121
        replace hx121_0 := (HB.out.cell (World.block_lt_of_cell? w _ hx121_0)).trans hx121_0
        replace hx121_1 := (HB.out.cell (World.block_lt_of_cell? w _ hx121_1)).trans hx121_1
        replace hx121_2 := (HB.out.cell (World.block_lt_of_cell? w _ hx121_2)).trans hx121_2
        replace p121 := eq_true p121
        replace q121 := eq_true q121
        go_wp2_with (first | ((with_reducible refine q12q (N := 11) rfl ?_); (try (refine q20q (by rfl) ?_; dsimp only)); refine q11q ?hg (N := 11) ?hd (cs := #[.int .i64 0, .int .i64 0, .string (⟨#[]⟩ : ByteArray)]) (t := 42) ?hr ?_; (case hd => rfl); (case hg => rfl); (case hr => first | (go_simp; done) | (go_simp; rfl)); intro gb122 hg w98 hbox hb; have n0_ := Aq.mk (q13q (g := gb115) (o := .cells #[.int .i64 a0_0, .int .i64 a0_1, .slice A0_2 l0_2.length c0_2, .slice (some ad121) l0_3.length c0_3, .slice A0_4 l0_4.length c0_4, .int .i64 a0_5] 77 (0, 0)) BK115.out hb); have n1_ := Aq.mk (q10q (by repeat (with_reducible first | exact HB.out | apply q4q | apply q0q | apply q2q | refine q5q ?_ GE115.out)) hb); have n2_ := Aq.mk (hbox); have n3_ := Aq.mk ((by rw [hg]; exact (q6q (by repeat (with_reducible first | exact HB.out | apply q4q | apply q0q | apply q2q | refine q5q ?_ GE115.out))) : w.heap.size ≤ gb122)); have n4_ := Aq.mk ((by rw [hg]; exact (q6q (by repeat (with_reducible first | exact HB.out | apply q4q | apply q0q | apply q2q | refine q5q ?_ GE115.out))) : w.heap.size ≤ gb122)); have n5_ := Aq.mk ((by rw [hg]; exact Nat.ne_of_lt (q16q (g := gb115) (o := .cells #[.int .i64 a0_0, .int .i64 a0_1, .slice A0_2 l0_2.length c0_2, .slice (some ad121) l0_3.length c0_3, .slice A0_4 l0_4.length c0_4, .int .i64 a0_5] 77 (0, 0)) BK115.out) : gb115 ≠ gb122)); have n6_ := Aq.mk ((by rw [hg]; exact Nat.ne_of_gt (q16q (g := gb115) (o := .cells #[.int .i64 a0_0, .int .i64 a0_1, .slice A0_2 l0_2.length c0_2, .slice (some ad121) l0_3.length c0_3, .slice A0_4 l0_4.length c0_4, .int .i64 a0_5] 77 (0, 0)) BK115.out) : gb122 ≠ gb115)); clear BK115; clear HB; have BK115 := n0_; have HB := n1_; have BK122 := n2_; have GW122 := n3_; have GE122 := n4_; have NB115_122 := n5_; have NB122_115 := n6_; clear n0_ n1_ n2_ n3_ n4_ n5_ n6_; clear hb hbox hg; have hnb99 := NB122_115.out; have hnc99 := NB115_122.out; have hcz100_0 : w98.cell? ⟨gb122, 0, none⟩ = some (.int .i64 0) := (q3q BK122.out 0).trans rfl; have hcz100_1 : w98.cell? ⟨gb122, 1, none⟩ = some (.int .i64 0) := (q3q BK122.out 1).trans rfl; have hcz100_2 : w98.cell? ⟨gb122, 2, none⟩ = some (.string (⟨#[]⟩ : ByteArray)) := (q3q BK122.out 2).trans rfl; have hfz100_0 := q1q BK122.out 0; have hfz100_1 := q1q BK122.out 1; have hfz100_2 := q1q BK122.out 2))
        go_roundg k3
        case measure => have := HJ3.out; have := HK2.out; have := HK3.out; omega
        case rel => exact ⟨(decide ((((rd_T42 l0_3 x105_3).f2).size : Int) > 4096)), (wrap64 (x105_3 + 1)), (by first | rfl | (simp; done) | (simp [*]; done)), (by first | rfl | (simp; done) | (simp [*]; done)), H', ⟨by have := HJ3.out; have := HK2.out; have := HK3.out; omega⟩, ⟨by (with_reducible repeat (first | refine q8q ?_ _ | refine q9q ?_ | refine q7q ?_ _)); refine q18q ?_ NB115_122.out _; (with_reducible repeat (first | refine q8q ?_ _ | refine q9q ?_ | refine q7q ?_ _)); refine q18q ?_ NB115_122.out _; (with_reducible repeat (first | refine q8q ?_ _ | refine q9q ?_ | refine q7q ?_ _)); refine q18q ?_ NB115_122.out _; (with_reducible repeat (first | refine q8q ?_ _ | refine q9q ?_ | refine q7q ?_ _)); exact BK115.out⟩, ⟨by repeat (with_reducible first | exact HB.out | apply q4q | apply q0q | apply q2q | refine q5q ?_ GE115.out | refine q5q ?_ GE122.out)⟩⟩
       rw [if_neg c97] at H
       have c97b0 : (((rd_T42 l0_3 x105_3).f2).toList == ([] : List UInt8)) = false := beq_eq_false_iff_ne.mpr c97
       have c97b1 : (((rd_T42 l0_3 x105_3).f2).toList != ([] : List UInt8)) = true := bne_iff_ne.mpr c97
       by_cases c101 : ((rd_T42 l0_3 x105_3).f0) = 5
       case neg =>
        rw [if_neg c101] at H
        have c101b0 : (((rd_T42 l0_3 x105_3).f0) == 5) = false := beq_eq_false_iff_ne.mpr c101
        have c101b1 : (((rd_T42 l0_3 x105_3).f0) != 5) = true := bne_iff_ne.mpr c101
        obtain rfl := Option.some.inj H
        have p121 : 0 ≤ (x105_3 : Int) := of_decide_eq_true (by first | (with_reducible assumption) | assumption)
        have q121 : x105_3 < (l0_3.length : Int) := of_decide_eq_true (by first | (with_reducible assumption) | assumption)
        obtain ⟨ad121, e121, hx121_0, hx121_1, hx121_2⟩ := at_T42 HR0_3.out x105_3 p121 q121
        cases e121
        replace hx121_0 := (HB.out.cell (World.block_lt_of_cell? w _ hx121_0)).trans hx121_0
        replace hx121_1 := (HB.out.cell (World.block_lt_of_cell? w _ hx121_1)).trans hx121_1
        replace hx121_2 := (HB.out.cell (World.block_lt_of_cell? w _ hx121_2)).trans hx121_2
        replace p121 := eq_true p121
        replace q121 := eq_true q121
        go_wp2_with (first | ((with_reducible refine q12q (N := 11) rfl ?_); (try (refine q20q (by rfl) ?_; dsimp only)); refine q11q ?hg (N := 11) ?hd (cs := #[.int .i64 0, .int .i64 0, .string (⟨#[]⟩ : ByteArray)]) (t := 42) ?hr ?_; (case hd => rfl); (case hg => rfl); (case hr => first | (go_simp; done) | (go_simp; rfl)); intro gb122 hg w109 hbox hb; have n0_ := Aq.mk (q13q (g := gb115) (o := .cells #[.int .i64 a0_0, .int .i64 a0_1, .slice A0_2 l0_2.length c0_2, .slice (some ad121) l0_3.length c0_3, .slice A0_4 l0_4.length c0_4, .int .i64 a0_5] 77 (0, 0)) BK115.out hb); have n1_ := Aq.mk (q10q (by repeat (with_reducible first | exact HB.out | apply q4q | apply q0q | apply q2q | refine q5q ?_ GE115.out)) hb); have n2_ := Aq.mk (hbox); have n3_ := Aq.mk ((by rw [hg]; exact (q6q (by repeat (with_reducible first | exact HB.out | apply q4q | apply q0q | apply q2q | refine q5q ?_ GE115.out))) : w.heap.size ≤ gb122)); have n4_ := Aq.mk ((by rw [hg]; exact (q6q (by repeat (with_reducible first | exact HB.out | apply q4q | apply q0q | apply q2q | refine q5q ?_ GE115.out))) : w.heap.size ≤ gb122)); have n5_ := Aq.mk ((by rw [hg]; exact Nat.ne_of_lt (q16q (g := gb115) (o := .cells #[.int .i64 a0_0, .int .i64 a0_1, .slice A0_2 l0_2.length c0_2, .slice (some ad121) l0_3.length c0_3, .slice A0_4 l0_4.length c0_4, .int .i64 a0_5] 77 (0, 0)) BK115.out) : gb115 ≠ gb122)); have n6_ := Aq.mk ((by rw [hg]; exact Nat.ne_of_gt (q16q (g := gb115) (o := .cells #[.int .i64 a0_0, .int .i64 a0_1, .slice A0_2 l0_2.length c0_2, .slice (some ad121) l0_3.length c0_3, .slice A0_4 l0_4.length c0_4, .int .i64 a0_5] 77 (0, 0)) BK115.out) : gb122 ≠ gb115)); clear BK115; clear HB; have BK115 := n0_; have HB := n1_; have BK122 := n2_; have GW122 := n3_; have GE122 := n4_; have NB115_122 := n5_; have NB122_115 := n6_; clear n0_ n1_ n2_ n3_ n4_ n5_ n6_; clear hb hbox hg; have hnb110 := NB122_115.out; have hnc110 := NB115_122.out; have hcz111_0 : w109.cell? ⟨gb122, 0, none⟩ = some (.int .i64 0) := (q3q BK122.out 0).trans rfl; have hcz111_1 : w109.cell? ⟨gb122, 1, none⟩ = some (.int .i64 0) := (q3q BK122.out 1).trans rfl; have hcz111_2 : w109.cell? ⟨gb122, 2, none⟩ = some (.string (⟨#[]⟩ : ByteArray)) := (q3q BK122.out 2).trans rfl; have hfz111_0 := q1q BK122.out 0; have hfz111_1 := q1q BK122.out 1; have hfz111_2 := q1q BK122.out 2))
        go_ret
        exact ⟨by first | rfl | (simp [*] <;> rfl), base_up HB0.out (by repeat (with_reducible first | exact HB.out | apply q4q | apply q0q | apply q2q | refine q5q ?_ GE115.out | refine q5q ?_ GE122.out))⟩
       rw [if_pos c101] at H
       have c101b0 : (((rd_T42 l0_3 x105_3).f0) == 5) = true := beq_iff_eq.mpr c101
       have c101b1 : (((rd_T42 l0_3 x105_3).f0) != 5) = false := bne_eq_false_iff_eq.mpr c101
       clear c101
       by_cases c102 : (((rd_T42 l0_3 x105_3).f1) = 0)
       case neg =>
        rw [if_neg c102] at H
        have c102b0 : (((rd_T42 l0_3 x105_3).f1) == 0) = false := beq_eq_false_iff_ne.mpr c102
        have c102b1 : (((rd_T42 l0_3 x105_3).f1) != 0) = true := bne_iff_ne.mpr c102
        obtain rfl := Option.some.inj H
        have p121 : 0 ≤ (x105_3 : Int) := of_decide_eq_true (by first | (with_reducible assumption) | assumption)
        have q121 : x105_3 < (l0_3.length : Int) := of_decide_eq_true (by first | (with_reducible assumption) | assumption)
        obtain ⟨ad121, e121, hx121_0, hx121_1, hx121_2⟩ := at_T42 HR0_3.out x105_3 p121 q121
        cases e121
        replace hx121_0 := (HB.out.cell (World.block_lt_of_cell? w _ hx121_0)).trans hx121_0
        replace hx121_1 := (HB.out.cell (World.block_lt_of_cell? w _ hx121_1)).trans hx121_1
        replace hx121_2 := (HB.out.cell (World.block_lt_of_cell? w _ hx121_2)).trans hx121_2
        replace p121 := eq_true p121
        replace q121 := eq_true q121
        go_wp2_with (first | ((with_reducible refine q12q (N := 11) rfl ?_); (try (refine q20q (by rfl) ?_; dsimp only)); refine q11q ?hg (N := 11) ?hd (cs := #[.int .i64 0, .int .i64 0, .string (⟨#[]⟩ : ByteArray)]) (t := 42) ?hr ?_; (case hd => rfl); (case hg => rfl); (case hr => first | (go_simp; done) | (go_simp; rfl)); intro gb122 hg w106 hbox hb; have n0_ := Aq.mk (q13q (g := gb115) (o := .cells #[.int .i64 a0_0, .int .i64 a0_1, .slice A0_2 l0_2.length c0_2, .slice (some ad121) l0_3.length c0_3, .slice A0_4 l0_4.length c0_4, .int .i64 a0_5] 77 (0, 0)) BK115.out hb); have n1_ := Aq.mk (q10q (by repeat (with_reducible first | exact HB.out | apply q4q | apply q0q | apply q2q | refine q5q ?_ GE115.out)) hb); have n2_ := Aq.mk (hbox); have n3_ := Aq.mk ((by rw [hg]; exact (q6q (by repeat (with_reducible first | exact HB.out | apply q4q | apply q0q | apply q2q | refine q5q ?_ GE115.out))) : w.heap.size ≤ gb122)); have n4_ := Aq.mk ((by rw [hg]; exact (q6q (by repeat (with_reducible first | exact HB.out | apply q4q | apply q0q | apply q2q | refine q5q ?_ GE115.out))) : w.heap.size ≤ gb122)); have n5_ := Aq.mk ((by rw [hg]; exact Nat.ne_of_lt (q16q (g := gb115) (o := .cells #[.int .i64 a0_0, .int .i64 a0_1, .slice A0_2 l0_2.length c0_2, .slice (some ad121) l0_3.length c0_3, .slice A0_4 l0_4.length c0_4, .int .i64 a0_5] 77 (0, 0)) BK115.out) : gb115 ≠ gb122)); have n6_ := Aq.mk ((by rw [hg]; exact Nat.ne_of_gt (q16q (g := gb115) (o := .cells #[.int .i64 a0_0, .int .i64 a0_1, .slice A0_2 l0_2.length c0_2, .slice (some ad121) l0_3.length c0_3, .slice A0_4 l0_4.length c0_4, .int .i64 a0_5] 77 (0, 0)) BK115.out) : gb122 ≠ gb115)); clear BK115; clear HB; have BK115 := n0_; have HB := n1_; have BK122 := n2_; have GW122 := n3_; have GE122 := n4_; have NB115_122 := n5_; have NB122_115 := n6_; clear n0_ n1_ n2_ n3_ n4_ n5_ n6_; clear hb hbox hg; have hnb107 := NB122_115.out; have hnc107 := NB115_122.out; have hcz108_0 : w106.cell? ⟨gb122, 0, none⟩ = some (.int .i64 0) := (q3q BK122.out 0).trans rfl; have hcz108_1 : w106.cell? ⟨gb122, 1, none⟩ = some (.int .i64 0) := (q3q BK122.out 1).trans rfl; have hcz108_2 : w106.cell? ⟨gb122, 2, none⟩ = some (.string (⟨#[]⟩ : ByteArray)) := (q3q BK122.out 2).trans rfl; have hfz108_0 := q1q BK122.out 0; have hfz108_1 := q1q BK122.out 1; have hfz108_2 := q1q BK122.out 2))
        go_ret
        exact ⟨by first | rfl | (simp [*] <;> rfl), base_up HB0.out (by repeat (with_reducible first | exact HB.out | apply q4q | apply q0q | apply q2q | refine q5q ?_ GE115.out | refine q5q ?_ GE122.out))⟩
       rw [if_pos c102] at H
       have c102b0 : (((rd_T42 l0_3 x105_3).f1) == 0) = true := beq_iff_eq.mpr c102
       have c102b1 : (((rd_T42 l0_3 x105_3).f1) != 0) = false := bne_eq_false_iff_eq.mpr c102
       clear c102
       have H' := Aq.mk H
       clear H
       have p121 : 0 ≤ (x105_3 : Int) := of_decide_eq_true (by first | (with_reducible assumption) | assumption)
       have q121 : x105_3 < (l0_3.length : Int) := of_decide_eq_true (by first | (with_reducible assumption) | assumption)
       obtain ⟨ad121, e121, hx121_0, hx121_1, hx121_2⟩ := at_T42 HR0_3.out x105_3 p121 q121
       cases e121
       replace hx121_0 := (HB.out.cell (World.block_lt_of_cell? w _ hx121_0)).trans hx121_0
       replace hx121_1 := (HB.out.cell (World.block_lt_of_cell? w _ hx121_1)).trans hx121_1
       replace hx121_2 := (HB.out.cell (World.block_lt_of_cell? w _ hx121_2)).trans hx121_2
       replace p121 := eq_true p121
       replace q121 := eq_true q121
       go_wp2_with (first | ((with_reducible refine q12q (N := 11) rfl ?_); (try (refine q20q (by rfl) ?_; dsimp only)); refine q11q ?hg (N := 11) ?hd (cs := #[.int .i64 0, .int .i64 0, .string (⟨#[]⟩ : ByteArray)]) (t := 42) ?hr ?_; (case hd => rfl); (case hg => rfl); (case hr => first | (go_simp; done) | (go_simp; rfl)); intro gb122 hg w103 hbox hb; have n0_ := Aq.mk (q13q (g := gb115) (o := .cells #[.int .i64 a0_0, .int .i64 a0_1, .slice A0_2 l0_2.length c0_2, .slice (some ad121) l0_3.length c0_3, .slice A0_4 l0_4.length c0_4, .int .i64 a0_5] 77 (0, 0)) BK115.out hb); have n1_ := Aq.mk (q10q (by repeat (with_reducible first | exact HB.out | apply q4q | apply q0q | apply q2q | refine q5q ?_ GE115.out)) hb); have n2_ := Aq.mk (hbox); have n3_ := Aq.mk ((by rw [hg]; exact (q6q (by repeat (with_reducible first | exact HB.out | apply q4q | apply q0q | apply q2q | refine q5q ?_ GE115.out))) : w.heap.size ≤ gb122)); have n4_ := Aq.mk ((by rw [hg]; exact (q6q (by repeat (with_reducible first | exact HB.out | apply q4q | apply q0q | apply q2q | refine q5q ?_ GE115.out))) : w.heap.size ≤ gb122)); have n5_ := Aq.mk ((by rw [hg]; exact Nat.ne_of_lt (q16q (g := gb115) (o := .cells #[.int .i64 a0_0, .int .i64 a0_1, .slice A0_2 l0_2.length c0_2, .slice (some ad121) l0_3.length c0_3, .slice A0_4 l0_4.length c0_4, .int .i64 a0_5] 77 (0, 0)) BK115.out) : gb115 ≠ gb122)); have n6_ := Aq.mk ((by rw [hg]; exact Nat.ne_of_gt (q16q (g := gb115) (o := .cells #[.int .i64 a0_0, .int .i64 a0_1, .slice A0_2 l0_2.length c0_2, .slice (some ad121) l0_3.length c0_3, .slice A0_4 l0_4.length c0_4, .int .i64 a0_5] 77 (0, 0)) BK115.out) : gb122 ≠ gb115)); clear BK115; clear HB; have BK115 := n0_; have HB := n1_; have BK122 := n2_; have GW122 := n3_; have GE122 := n4_; have NB115_122 := n5_; have NB122_115 := n6_; clear n0_ n1_ n2_ n3_ n4_ n5_ n6_; clear hb hbox hg; have hnb104 := NB122_115.out; have hnc104 := NB115_122.out; have hcz105_0 : w103.cell? ⟨gb122, 0, none⟩ = some (.int .i64 0) := (q3q BK122.out 0).trans rfl; have hcz105_1 : w103.cell? ⟨gb122, 1, none⟩ = some (.int .i64 0) := (q3q BK122.out 1).trans rfl; have hcz105_2 : w103.cell? ⟨gb122, 2, none⟩ = some (.string (⟨#[]⟩ : ByteArray)) := (q3q BK122.out 2).trans rfl; have hfz105_0 := q1q BK122.out 0; have hfz105_1 := q1q BK122.out 1; have hfz105_2 := q1q BK122.out 2))
       go_roundg k3
       case measure => have := HJ3.out; have := HK2.out; have := HK3.out; omega
       case rel => exact ⟨(decide ((((rd_T42 l0_3 x105_3).f2).size : Int) > 4096)), (wrap64 (x105_3 + 1)), (by first | rfl | (simp; done) | (simp [*]; done)), (by first | rfl | (simp; done) | (simp [*]; done)), H', ⟨by have := HJ3.out; have := HK2.out; have := HK3.out; omega⟩, ⟨by (with_reducible repeat (first | refine q8q ?_ _ | refine q9q ?_ | refine q7q ?_ _)); refine q18q ?_ NB115_122.out _; (with_reducible repeat (first | refine q8q ?_ _ | refine q9q ?_ | refine q7q ?_ _)); refine q18q ?_ NB115_122.out _; (with_reducible repeat (first | refine q8q ?_ _ | refine q9q ?_ | refine q7q ?_ _)); refine q18q ?_ NB115_122.out _; (with_reducible repeat (first | refine q8q ?_ _ | refine q9q ?_ | refine q7q ?_ _)); exact BK115.out⟩, ⟨by repeat (with_reducible first | exact HB.out | apply q4q | apply q0q | apply q2q | refine q5q ?_ GE115.out | refine q5q ?_ GE122.out)⟩⟩
def fQ16.l0 : Nat → Int → List (S47) → Int → Int → List (S47) → Option (Int)
 | 0, _, _, _, _, _ => none
 | k + 1, x3, x19, x20, x21, x116000 => if x21 < x20 then (if 0 ≤ x21 then (if x21 < (x19.length : Int) then ((fQ2.f k ((rd_T47 x19 x21).f0) ((rd_T47 x19 x21).f1) ((rd_T47 x19 x21).f2) ((rd_T47 x19 x21).f3) ((rd_T47 x19 x21).f4) (x116000.length : Int) x3 (x21 == 0)).bind fun t118 => (if t118 = 0 then (fQ16.l0 k x3 x19 x20 (wrap64 (x21 + 1)) x116000) else (some t118))) else (none)) else (none)) else (some 0)
def fQ16.f (k : Nat) (l0_0 : List (S47)) : Option (Int) := if (l0_0.length : Int) = 0 then (some 2) else (if (l0_0.length : Int) > 256 then (some 3) else (fQ16.l0 k 0 l0_0 (l0_0.length : Int) 0 l0_0))
theorem fQ16.calls (k : Nat) (A0_0 : Option Addr) (c0_0 : Nat) (l0_0 : List (S47)) (r : Int) (w0 : World) (hr0_0 : Kd.C k47 w0 A0_0 l0_0.length l0_0) (hc0_0 : l0_0.length ≤ c0_0) (h : fQ16.f k l0_0 = some r) :
  Calls Try.prog 16 #[.agg #[.slice A0_0 l0_0.length c0_0]] w0 fun e w' => e = .returned (.int .i64 r) ∧ Below w0.heap.size w0 w' := by
 have hu24 := Try.underlying24
 have hu47 := Try.underlying47
 have hu77 := Try.underlying77
 have HR0_0 := Aq.mk hr0_0
 have HC0_0 := Aq.mk hc0_0
 clear hr0_0 hc0_0
 have HB := Aq.mk (Below.refl w0.heap.size w0)
 have H : (if (l0_0.length : Int) = 0 then (some 2) else (if (l0_0.length : Int) > 256 then (some 3) else (fQ16.l0 k 0 l0_0 (l0_0.length : Int) 0 l0_0))) = some r := h
 clear h
 by_cases c2 : (l0_0.length : Int) = 0
 ·rw [if_pos c2] at H
  have c2b0 : ((l0_0.length : Int) == 0) = true := beq_iff_eq.mpr c2
  have c2b1 : ((l0_0.length : Int) != 0) = false := bne_eq_false_iff_eq.mpr c2
  clear c2
  obtain rfl := Option.some.inj H
  go_enter Try.func16, Try.ntmps16
  go_wp2_with (first | ((with_reducible refine q12q (N := 1) rfl ?_); refine q11q ?hg (N := 1) ?hd (cs := #[.slice A0_0 l0_0.length c0_0]) (t := 24) ?hr ?_; (case hd => rfl); (case hg => rfl); (case hr => first | (go_simp; done) | (go_simp; rfl)); intro gb115 hg w3 hbox hb; have n0_ := Aq.mk (q10q (by repeat (with_reducible first | exact HB.out | apply q4q | apply q0q | apply q2q)) hb); have n1_ := Aq.mk (hbox); have n2_ := Aq.mk ((by rw [hg]; exact (q6q (by repeat (with_reducible first | exact HB.out | apply q4q | apply q0q | apply q2q))) : w0.heap.size ≤ gb115)); have n3_ := Aq.mk ((by rw [hg]; exact (q6q (by repeat (with_reducible first | exact HB.out | apply q4q | apply q0q | apply q2q))) : w0.heap.size ≤ gb115)); clear HB; have HB := n0_; have BK115 := n1_; have GW115 := n2_; have GE115 := n3_; clear n0_ n1_ n2_ n3_; clear hb hbox hg; have hcz4_0 : w3.cell? ⟨gb115, 0, none⟩ = some (.slice A0_0 l0_0.length c0_0) := (q3q BK115.out 0).trans rfl; have hfz4_0 := q1q BK115.out 0))
  go_ret
  exact ⟨by first | rfl | (simp [*] <;> rfl), by repeat (with_reducible first | exact HB.out | apply q4q | apply q0q | apply q2q | refine q5q ?_ GE115.out)⟩
 rw [if_neg c2] at H
 have c2b0 : ((l0_0.length : Int) == 0) = false := beq_eq_false_iff_ne.mpr c2
 have c2b1 : ((l0_0.length : Int) != 0) = true := bne_iff_ne.mpr c2
 have c2b2 : ¬ (l0_0 = []) := fun h_ => c2 (by rw [h_]; rfl)
 by_cases c5 : (l0_0.length : Int) > 256
 ·rw [if_pos c5] at H
  have c5b0 : decide (256 < (l0_0.length : Int)) = true := decide_eq_true c5
  have c5b1 : decide (256 < l0_0.length) = true := decide_eq_true (by omega)
  clear c5
  obtain rfl := Option.some.inj H
  go_enter Try.func16, Try.ntmps16
  go_wp2_with (first | ((with_reducible refine q12q (N := 1) rfl ?_); refine q11q ?hg (N := 1) ?hd (cs := #[.slice A0_0 l0_0.length c0_0]) (t := 24) ?hr ?_; (case hd => rfl); (case hg => rfl); (case hr => first | (go_simp; done) | (go_simp; rfl)); intro gb115 hg w6 hbox hb; have n0_ := Aq.mk (q10q (by repeat (with_reducible first | exact HB.out | apply q4q | apply q0q | apply q2q)) hb); have n1_ := Aq.mk (hbox); have n2_ := Aq.mk ((by rw [hg]; exact (q6q (by repeat (with_reducible first | exact HB.out | apply q4q | apply q0q | apply q2q))) : w0.heap.size ≤ gb115)); have n3_ := Aq.mk ((by rw [hg]; exact (q6q (by repeat (with_reducible first | exact HB.out | apply q4q | apply q0q | apply q2q))) : w0.heap.size ≤ gb115)); clear HB; have HB := n0_; have BK115 := n1_; have GW115 := n2_; have GE115 := n3_; clear n0_ n1_ n2_ n3_; clear hb hbox hg; have hcz7_0 : w6.cell? ⟨gb115, 0, none⟩ = some (.slice A0_0 l0_0.length c0_0) := (q3q BK115.out 0).trans rfl; have hfz7_0 := q1q BK115.out 0))
  go_ret
  exact ⟨by first | rfl | (simp [*] <;> rfl), by repeat (with_reducible first | exact HB.out | apply q4q | apply q0q | apply q2q | refine q5q ?_ GE115.out)⟩
 rw [if_neg c5] at H
 have c5b0 : decide (256 < (l0_0.length : Int)) = false := decide_eq_false c5
 have c5b1 : decide (256 < l0_0.length) = false := decide_eq_false (by omega)
 clear c5
 have H' := Aq.mk H
 clear H
 go_enter Try.func16, Try.ntmps16
 go_wp2_with (first | ((with_reducible refine q12q (N := 1) rfl ?_); refine q11q ?hg (N := 1) ?hd (cs := #[.slice A0_0 l0_0.length c0_0]) (t := 24) ?hr ?_; (case hd => rfl); (case hg => rfl); (case hr => first | (go_simp; done) | (go_simp; rfl)); intro gb115 hg w8 hbox hb; have n0_ := Aq.mk (q10q (by repeat (with_reducible first | exact HB.out | apply q4q | apply q0q | apply q2q)) hb); have n1_ := Aq.mk (hbox); have n2_ := Aq.mk ((by rw [hg]; exact (q6q (by repeat (with_reducible first | exact HB.out | apply q4q | apply q0q | apply q2q))) : w0.heap.size ≤ gb115)); have n3_ := Aq.mk ((by rw [hg]; exact (q6q (by repeat (with_reducible first | exact HB.out | apply q4q | apply q0q | apply q2q))) : w0.heap.size ≤ gb115)); clear HB; have HB := n0_; have BK115 := n1_; have GW115 := n2_; have GE115 := n3_; clear n0_ n1_ n2_ n3_; clear hb hbox hg; have hcz9_0 : w8.cell? ⟨gb115, 0, none⟩ = some (.slice A0_0 l0_0.length c0_0) := (q3q BK115.out 0).trans rfl; have hfz9_0 := q1q BK115.out 0))
 have hz := zero74
 have hzs := zrows_size
 generalize zrows = Z at hz hzs
 refine (rows_any _).mono ?_
 rintro e wT ⟨bb, rfl, hbT, hbb, kT0, kT1, kT2⟩
 have BK1 := Aq.mk (q13q (g := gb115) BK115.out hbT)
 have HBT := Aq.mk (q10q HB.out hbT)
 clear BK115 HB
 go_wp2_with (first | ((with_reducible refine q12q (N := 3) rfl ?_); refine q11q ?hg (N := 3) ?hd (cs := Z) (t := 74) ?hr ?_; (case hd => rfl); (case hg => rfl); (case hr => first | (go_simp; done) | (go_simp; rfl)); intro gl hgl wA hboxA hbA; have BKA := Aq.mk hboxA; have HBA := Aq.mk hbA; have GLA := Aq.mk hgl; clear hgl hboxA hbA) | (refine store_whole rfl rfl 74 3 (.tmp 17) rfl (g := gl) (u := .agg (rowsV bb).toArray) (seg := rowsV bb) (cur := Z) (e := 74) rfl rfl (by simp [Value.cells]) (by kernel_rfl) BKA.out (by rw [hzs, rowsV_len]) (rowsV_one bb) ?_; intro w kTab bTab fTab zTab; have lt115 : gb115 < wT.heap.size := q16q BK1.out; have hAw : Below wT.heap.size wT w := HBA.out.trans (bTab.mono (by rw [GLA.out]; exact Nat.le_refl _)); have BK115 := Aq.mk (q13q (g := gb115) BK1.out hAw); have HB0 := Aq.mk (q10q HBT.out hAw); have HTB := Aq.mk (Tab.mk kTab ((q3q ((hAw.block _ (Array.getElem?_eq_some_iff.1 kT0).1).trans kT0) 0).trans rfl) ((q3q ((hAw.block _ (Array.getElem?_eq_some_iff.1 kT1).1).trans kT1) 0).trans rfl) ((q3q ((hAw.block _ (Array.getElem?_eq_some_iff.1 kT2).1).trans kT2) 0).trans rfl)); have hrn_ := Aq.mk (Kd.q19q HR0_0.out HB0.out); clear HR0_0; have HR0_0 := hrn_; clear hrn_; have HB := Aq.mk (Below.refl w.heap.size w); have hczN : w.cell? ⟨gb115, 0, none⟩ = some (.slice A0_0 l0_0.length c0_0) := (q3q BK115.out 0).trans rfl; clear hz hzs hbT hbb kT0 kT1 kT2 kTab bTab fTab zTab hAw lt115 BK1 HBT BKA HBA))
 go_loopg [21] k (fun kq v21 w' => ∃ (x21_1 : Int), v21 = .int .i64 x21_1 ∧ Aq (fQ16.l0 kq 0 l0_0 (l0_0.length : Int) x21_1 l0_0 = some r) ∧ Aq (kq ≤ k) ∧ Aq (w'.heap[gb115]? = some (.cells #[(.slice A0_0 l0_0.length c0_0)] 24 (0, 0))) ∧ Aq (Below w.heap.size w w'))
 case atStart => exact ⟨(0), (by first | rfl | (simp; done) | (simp [*]; done)), H', ⟨Nat.le_refl _⟩, ⟨BK115.out⟩, ⟨by repeat (with_reducible first | exact HB.out | apply q4q | apply q0q | apply q2q | refine q5q ?_ GE115.out)⟩⟩
 case round =>
  clear H'
  try clear c2
  try clear c2b0
  try clear c2b1
  try clear c2b2
  try clear c5b0
  try clear c5b1
  try clear hcz9_0
  try clear hfz9_0
  obtain ⟨x21_1, rfl, HA, HK1, BK115, HB⟩ := hrel
  cases gk with
  | zero => exact absurd HA.out (by simp [fQ16.l0])
  | succ k1 =>
   have H := HA.out
   clear HA
   simp only [fQ16.l0] at H
   by_cases c10 : x21_1 < (l0_0.length : Int)
   case neg =>
    rw [if_neg c10] at H
    have c10b0 : decide (x21_1 < (l0_0.length : Int)) = false := decide_eq_false c10
    clear c10
    obtain rfl := Option.some.inj H
    go_wp2
    go_ret
    exact ⟨by first | rfl | (simp [*] <;> rfl), base_up HB0.out (by repeat (with_reducible first | exact HB.out | apply q4q | apply q0q | apply q2q | refine q5q ?_ GE115.out))⟩
   rw [if_pos c10] at H
   have c10b0 : decide (x21_1 < (l0_0.length : Int)) = true := decide_eq_true c10
   clear c10
   by_cases c11 : 0 ≤ x21_1
   case neg =>
    rw [if_neg c11] at H
    exact absurd H (by simp)
   rw [if_pos c11] at H
   have c11b0 : decide (0 ≤ x21_1) = true := decide_eq_true c11
   clear c11
   by_cases c12 : x21_1 < (l0_0.length : Int)
   case neg =>
    rw [if_neg c12] at H
    exact absurd H (by simp)
   rw [if_pos c12] at H
   have c12b0 : decide (x21_1 < (l0_0.length : Int)) = true := decide_eq_true c12
   clear c12
   replace H := Option.bind_eq_some_iff.mp H
   obtain ⟨t118, A130, H⟩ := H
   replace H : (if t118 = 0 then (fQ16.l0 k1 0 l0_0 (l0_0.length : Int) (wrap64 (x21_1 + 1)) l0_0) else (some t118)) = some r := H
   have A13 := Aq.mk A130
   clear A130
   by_cases c14 : t118 = 0
   case neg =>
    rw [if_neg c14] at H
    have c14b0 : (t118 == 0) = false := beq_eq_false_iff_ne.mpr c14
    have c14b1 : (t118 != 0) = true := bne_iff_ne.mpr c14
    obtain rfl := Option.some.inj H
    have p116 : 0 ≤ (x21_1 : Int) := of_decide_eq_true (by first | (with_reducible assumption) | assumption)
    have q116 : x21_1 < (l0_0.length : Int) := of_decide_eq_true (by first | (with_reducible assumption) | assumption)
    obtain ⟨ad116, A116_2, c116_2, A116_3, c116_3, A116_4, c116_4, e116, hx116_0, hx116_1, hx116_2, hx116_3, hx116_4, hl116_2, hi116_2, hl116_3, hi116_3, hl116_4, hi116_4⟩ := at_T47 HR0_0.out x21_1 p116 q116
    cases e116
    replace hx116_0 := (HB.out.cell (World.block_lt_of_cell? w _ hx116_0)).trans hx116_0
    replace hx116_1 := (HB.out.cell (World.block_lt_of_cell? w _ hx116_1)).trans hx116_1
    replace hx116_2 := (HB.out.cell (World.block_lt_of_cell? w _ hx116_2)).trans hx116_2
    replace hx116_3 := (HB.out.cell (World.block_lt_of_cell? w _ hx116_3)).trans hx116_3
    replace hx116_4 := (HB.out.cell (World.block_lt_of_cell? w _ hx116_4)).trans hx116_4
    have HR116_2 := Aq.mk hi116_2
    have HC116_2 := Aq.mk hl116_2
    clear hi116_2 hl116_2
    have HR116_3 := Aq.mk hi116_3
    have HC116_3 := Aq.mk hl116_3
    clear hi116_3 hl116_3
    have HR116_4 := Aq.mk hi116_4
    have HC116_4 := Aq.mk hl116_4
    clear hi116_4 hl116_4
    replace p116 := eq_true p116
    replace q116 := eq_true q116
    go_wp2_with (first | ((with_reducible refine q12q (N := 5) rfl ?_); refine q11q ?hg (N := 5) ?hd (cs := #[.int .i64 0, .int .i64 0, .slice none 0 0, .slice none 0 0, .slice none 0 0]) (t := 47) ?hr ?_; (case hd => rfl); (case hg => rfl); (case hr => first | (go_simp; done) | (go_simp; rfl)); intro gb117 hg w20 hbox hb; have n0_ := Aq.mk (q13q (g := gb115) (o := .cells #[.slice (some ad116) l0_0.length c0_0] 24 (0, 0)) BK115.out hb); have n1_ := Aq.mk (q10q (by repeat (with_reducible first | exact HB.out | apply q4q | apply q0q | apply q2q | refine q5q ?_ GE115.out)) hb); have n2_ := Aq.mk (hbox); have n3_ := Aq.mk ((by rw [hg]; exact (q6q (by repeat (with_reducible first | exact HB.out | apply q4q | apply q0q | apply q2q | refine q5q ?_ GE115.out))) : w.heap.size ≤ gb117)); have n4_ := Aq.mk ((by rw [hg]; exact (q6q (by repeat (with_reducible first | exact HB.out | apply q4q | apply q0q | apply q2q | refine q5q ?_ GE115.out))) : w.heap.size ≤ gb117)); have n5_ := Aq.mk ((by rw [hg]; exact Nat.ne_of_lt (q16q (g := gb115) (o := .cells #[.slice (some ad116) l0_0.length c0_0] 24 (0, 0)) BK115.out) : gb115 ≠ gb117)); have n6_ := Aq.mk ((by rw [hg]; exact Nat.ne_of_gt (q16q (g := gb115) (o := .cells #[.slice (some ad116) l0_0.length c0_0] 24 (0, 0)) BK115.out) : gb117 ≠ gb115)); clear BK115; clear HB; have BK115 := n0_; have HB := n1_; have BK117 := n2_; have GW117 := n3_; have GE117 := n4_; have NB115_117 := n5_; have NB117_115 := n6_; clear n0_ n1_ n2_ n3_ n4_ n5_ n6_; clear hb hbox hg; have hnb21 := NB117_115.out; have hnc21 := NB115_117.out; have hcz22_0 : w20.cell? ⟨gb117, 0, none⟩ = some (.int .i64 0) := (q3q BK117.out 0).trans rfl; have hcz22_1 : w20.cell? ⟨gb117, 1, none⟩ = some (.int .i64 0) := (q3q BK117.out 1).trans rfl; have hcz22_2 : w20.cell? ⟨gb117, 2, none⟩ = some (.slice none 0 0) := (q3q BK117.out 2).trans rfl; have hcz22_3 : w20.cell? ⟨gb117, 3, none⟩ = some (.slice none 0 0) := (q3q BK117.out 3).trans rfl; have hcz22_4 : w20.cell? ⟨gb117, 4, none⟩ = some (.slice none 0 0) := (q3q BK117.out 4).trans rfl; have hfz22_0 := q1q BK117.out 0; have hfz22_1 := q1q BK117.out 1; have hfz22_2 := q1q BK117.out 2; have hfz22_3 := q1q BK117.out 3; have hfz22_4 := q1q BK117.out 4; have hcz23_0 : w20.cell? ⟨gb115, 0, none⟩ = some (.slice (some ad116) l0_0.length c0_0) := (q3q BK115.out 0).trans rfl; have hfz23_0 := q1q BK115.out 0) | ((with_reducible refine q15q (f := 32) rfl ?_); refine q24q (some 33) rfl rfl Try.func32 (by kernel_rfl) rfl #[.agg #[.int .i64 ((rd_T47 l0_0 x21_1).f0), .int .i64 ((rd_T47 l0_0 x21_1).f1), .slice A116_2 ((rd_T47 l0_0 x21_1).f2).length c116_2, .slice A116_3 ((rd_T47 l0_0 x21_1).f3).length c116_3, .slice A116_4 ((rd_T47 l0_0 x21_1).f4).length c116_4, .int .i64 (l0_0.length : Int)], .pointer (some ⟨gl, 0, none⟩), .bool (x21_1 == 0)] rfl (by (try simp only [List.map_toArray, List.map_cons, List.map_nil]); first | done | rfl) ?_; (with_reducible refine (fQ2.calls k1 ((rd_T47 l0_0 x21_1).f0) ((rd_T47 l0_0 x21_1).f1) _ _ ((rd_T47 l0_0 x21_1).f2) _ _ ((rd_T47 l0_0 x21_1).f3) _ _ ((rd_T47 l0_0 x21_1).f4) (l0_0.length : Int) 0 (x21_1 == 0) t118 _ gl bb (HTB.out.below (by repeat (with_reducible first | exact HB.out | apply q4q | apply q0q | apply q2q | refine q5q ?_ GE117.out))) ?side1 ?side2 ?side3 ?side4 ?side5 ?side6 A13.out).mono ?_); (case side1 => exact Kd.q19q HR116_2.out (by repeat (with_reducible first | exact HB.out | apply q4q | apply q0q | apply q2q | refine q5q ?_ GE115.out | refine q5q ?_ GE117.out))); (case side2 => exact HC116_2.out); (case side3 => exact Kd.q19q HR116_3.out (by repeat (with_reducible first | exact HB.out | apply q4q | apply q0q | apply q2q | refine q5q ?_ GE115.out | refine q5q ?_ GE117.out))); (case side4 => exact HC116_3.out); (case side5 => exact Kd.q19q HR116_4.out (by repeat (with_reducible first | exact HB.out | apply q4q | apply q0q | apply q2q | refine q5q ?_ GE115.out | refine q5q ?_ GE117.out))); (case side6 => exact HC116_4.out); rintro e w24 ⟨rfl, hb⟩; refine ⟨_, rfl, ?_⟩; have n0_ := Aq.mk (q13q (g := gb115) (o := .cells #[.slice (some ad116) l0_0.length c0_0] 24 (0, 0)) (by (with_reducible repeat (first | refine q8q ?_ _ | refine q9q ?_ | refine q7q ?_ _)); refine q18q ?_ NB115_117.out _; (with_reducible repeat (first | refine q8q ?_ _ | refine q9q ?_ | refine q7q ?_ _)); refine q18q ?_ NB115_117.out _; (with_reducible repeat (first | refine q8q ?_ _ | refine q9q ?_ | refine q7q ?_ _)); refine q18q ?_ NB115_117.out _; (with_reducible repeat (first | refine q8q ?_ _ | refine q9q ?_ | refine q7q ?_ _)); refine q18q ?_ NB115_117.out _; (with_reducible repeat (first | refine q8q ?_ _ | refine q9q ?_ | refine q7q ?_ _)); refine q18q ?_ NB115_117.out _; (with_reducible repeat (first | refine q8q ?_ _ | refine q9q ?_ | refine q7q ?_ _)); exact BK115.out) hb); have n1_ := Aq.mk (q13q (g := gb117) (o := .cells #[.int .i64 ((rd_T47 l0_0 x21_1).f0), .int .i64 ((rd_T47 l0_0 x21_1).f1), .slice A116_2 ((rd_T47 l0_0 x21_1).f2).length c116_2, .slice A116_3 ((rd_T47 l0_0 x21_1).f3).length c116_3, .slice A116_4 ((rd_T47 l0_0 x21_1).f4).length c116_4] 47 (0, 0)) (by (with_reducible repeat (first | refine q8q ?_ _ | refine q9q ?_ | refine q7q ?_ _)); refine q14q (cs := #[.int .i64 ((rd_T47 l0_0 x21_1).f0), .int .i64 ((rd_T47 l0_0 x21_1).f1), .slice A116_2 ((rd_T47 l0_0 x21_1).f2).length c116_2, .slice A116_3 ((rd_T47 l0_0 x21_1).f3).length c116_3, .slice none 0 0]) ?_ 4 _ rfl; (with_reducible repeat (first | refine q8q ?_ _ | refine q9q ?_ | refine q7q ?_ _)); refine q14q (cs := #[.int .i64 ((rd_T47 l0_0 x21_1).f0), .int .i64 ((rd_T47 l0_0 x21_1).f1), .slice A116_2 ((rd_T47 l0_0 x21_1).f2).length c116_2, .slice none 0 0, .slice none 0 0]) ?_ 3 _ rfl; (with_reducible repeat (first | refine q8q ?_ _ | refine q9q ?_ | refine q7q ?_ _)); refine q14q (cs := #[.int .i64 ((rd_T47 l0_0 x21_1).f0), .int .i64 ((rd_T47 l0_0 x21_1).f1), .slice none 0 0, .slice none 0 0, .slice none 0 0]) ?_ 2 _ rfl; (with_reducible repeat (first | refine q8q ?_ _ | refine q9q ?_ | refine q7q ?_ _)); refine q14q (cs := #[.int .i64 ((rd_T47 l0_0 x21_1).f0), .int .i64 0, .slice none 0 0, .slice none 0 0, .slice none 0 0]) ?_ 1 _ rfl; (with_reducible repeat (first | refine q8q ?_ _ | refine q9q ?_ | refine q7q ?_ _)); refine q14q (cs := #[.int .i64 0, .int .i64 0, .slice none 0 0, .slice none 0 0, .slice none 0 0]) ?_ 0 _ rfl; (with_reducible repeat (first | refine q8q ?_ _ | refine q9q ?_ | refine q7q ?_ _)); exact BK117.out) hb); have n2_ := Aq.mk (q10q (by repeat (with_reducible first | exact HB.out | apply q4q | apply q0q | apply q2q | refine q5q ?_ GE115.out | refine q5q ?_ GE117.out)) hb); clear BK115; clear BK117; clear HB; have BK115 := n0_; have BK117 := n1_; have HB := n2_; clear n0_ n1_ n2_; (try clear hb); (try clear hb2); (try clear hk); (try clear hi)))
    go_ret
    exact ⟨by first | rfl | (simp [*] <;> rfl), base_up HB0.out (by repeat (with_reducible first | exact HB.out | apply q4q | apply q0q | apply q2q | refine q5q ?_ GE115.out | refine q5q ?_ GE117.out))⟩
   rw [if_pos c14] at H
   have c14b0 : (t118 == 0) = true := beq_iff_eq.mpr c14
   have c14b1 : (t118 != 0) = false := bne_eq_false_iff_eq.mpr c14
   clear c14
   have H' := Aq.mk H
   clear H
   have p116 : 0 ≤ (x21_1 : Int) := of_decide_eq_true (by first | (with_reducible assumption) | assumption)
   have q116 : x21_1 < (l0_0.length : Int) := of_decide_eq_true (by first | (with_reducible assumption) | assumption)
   obtain ⟨ad116, A116_2, c116_2, A116_3, c116_3, A116_4, c116_4, e116, hx116_0, hx116_1, hx116_2, hx116_3, hx116_4, hl116_2, hi116_2, hl116_3, hi116_3, hl116_4, hi116_4⟩ := at_T47 HR0_0.out x21_1 p116 q116
   cases e116
   replace hx116_0 := (HB.out.cell (World.block_lt_of_cell? w _ hx116_0)).trans hx116_0
   replace hx116_1 := (HB.out.cell (World.block_lt_of_cell? w _ hx116_1)).trans hx116_1
   replace hx116_2 := (HB.out.cell (World.block_lt_of_cell? w _ hx116_2)).trans hx116_2
   replace hx116_3 := (HB.out.cell (World.block_lt_of_cell? w _ hx116_3)).trans hx116_3
   replace hx116_4 := (HB.out.cell (World.block_lt_of_cell? w _ hx116_4)).trans hx116_4
   have HR116_2 := Aq.mk hi116_2
   have HC116_2 := Aq.mk hl116_2
   clear hi116_2 hl116_2
   have HR116_3 := Aq.mk hi116_3
   have HC116_3 := Aq.mk hl116_3
   clear hi116_3 hl116_3
   have HR116_4 := Aq.mk hi116_4
   have HC116_4 := Aq.mk hl116_4
   clear hi116_4 hl116_4
   replace p116 := eq_true p116
   replace q116 := eq_true q116
   go_wp2_with (first | ((with_reducible refine q12q (N := 5) rfl ?_); refine q11q ?hg (N := 5) ?hd (cs := #[.int .i64 0, .int .i64 0, .slice none 0 0, .slice none 0 0, .slice none 0 0]) (t := 47) ?hr ?_; (case hd => rfl); (case hg => rfl); (case hr => first | (go_simp; done) | (go_simp; rfl)); intro gb117 hg w15 hbox hb; have n0_ := Aq.mk (q13q (g := gb115) (o := .cells #[.slice (some ad116) l0_0.length c0_0] 24 (0, 0)) BK115.out hb); have n1_ := Aq.mk (q10q (by repeat (with_reducible first | exact HB.out | apply q4q | apply q0q | apply q2q | refine q5q ?_ GE115.out)) hb); have n2_ := Aq.mk (hbox); have n3_ := Aq.mk ((by rw [hg]; exact (q6q (by repeat (with_reducible first | exact HB.out | apply q4q | apply q0q | apply q2q | refine q5q ?_ GE115.out))) : w.heap.size ≤ gb117)); have n4_ := Aq.mk ((by rw [hg]; exact (q6q (by repeat (with_reducible first | exact HB.out | apply q4q | apply q0q | apply q2q | refine q5q ?_ GE115.out))) : w.heap.size ≤ gb117)); have n5_ := Aq.mk ((by rw [hg]; exact Nat.ne_of_lt (q16q (g := gb115) (o := .cells #[.slice (some ad116) l0_0.length c0_0] 24 (0, 0)) BK115.out) : gb115 ≠ gb117)); have n6_ := Aq.mk ((by rw [hg]; exact Nat.ne_of_gt (q16q (g := gb115) (o := .cells #[.slice (some ad116) l0_0.length c0_0] 24 (0, 0)) BK115.out) : gb117 ≠ gb115)); clear BK115; clear HB; have BK115 := n0_; have HB := n1_; have BK117 := n2_; have GW117 := n3_; have GE117 := n4_; have NB115_117 := n5_; have NB117_115 := n6_; clear n0_ n1_ n2_ n3_ n4_ n5_ n6_; clear hb hbox hg; have hnb16 := NB117_115.out; have hnc16 := NB115_117.out; have hcz17_0 : w15.cell? ⟨gb117, 0, none⟩ = some (.int .i64 0) := (q3q BK117.out 0).trans rfl; have hcz17_1 : w15.cell? ⟨gb117, 1, none⟩ = some (.int .i64 0) := (q3q BK117.out 1).trans rfl; have hcz17_2 : w15.cell? ⟨gb117, 2, none⟩ = some (.slice none 0 0) := (q3q BK117.out 2).trans rfl; have hcz17_3 : w15.cell? ⟨gb117, 3, none⟩ = some (.slice none 0 0) := (q3q BK117.out 3).trans rfl; have hcz17_4 : w15.cell? ⟨gb117, 4, none⟩ = some (.slice none 0 0) := (q3q BK117.out 4).trans rfl; have hfz17_0 := q1q BK117.out 0; have hfz17_1 := q1q BK117.out 1; have hfz17_2 := q1q BK117.out 2; have hfz17_3 := q1q BK117.out 3; have hfz17_4 := q1q BK117.out 4; have hcz18_0 : w15.cell? ⟨gb115, 0, none⟩ = some (.slice (some ad116) l0_0.length c0_0) := (q3q BK115.out 0).trans rfl; have hfz18_0 := q1q BK115.out 0) | ((with_reducible refine q15q (f := 32) rfl ?_); refine q24q (some 33) rfl rfl Try.func32 (by kernel_rfl) rfl #[.agg #[.int .i64 ((rd_T47 l0_0 x21_1).f0), .int .i64 ((rd_T47 l0_0 x21_1).f1), .slice A116_2 ((rd_T47 l0_0 x21_1).f2).length c116_2, .slice A116_3 ((rd_T47 l0_0 x21_1).f3).length c116_3, .slice A116_4 ((rd_T47 l0_0 x21_1).f4).length c116_4, .int .i64 (l0_0.length : Int)], .pointer (some ⟨gl, 0, none⟩), .bool (x21_1 == 0)] rfl (by (try simp only [List.map_toArray, List.map_cons, List.map_nil]); first | done | rfl) ?_; (with_reducible refine (fQ2.calls k1 ((rd_T47 l0_0 x21_1).f0) ((rd_T47 l0_0 x21_1).f1) _ _ ((rd_T47 l0_0 x21_1).f2) _ _ ((rd_T47 l0_0 x21_1).f3) _ _ ((rd_T47 l0_0 x21_1).f4) (l0_0.length : Int) 0 (x21_1 == 0) t118 _ gl bb (HTB.out.below (by repeat (with_reducible first | exact HB.out | apply q4q | apply q0q | apply q2q | refine q5q ?_ GE117.out))) ?side1 ?side2 ?side3 ?side4 ?side5 ?side6 A13.out).mono ?_); (case side1 => exact Kd.q19q HR116_2.out (by repeat (with_reducible first | exact HB.out | apply q4q | apply q0q | apply q2q | refine q5q ?_ GE115.out | refine q5q ?_ GE117.out))); (case side2 => exact HC116_2.out); (case side3 => exact Kd.q19q HR116_3.out (by repeat (with_reducible first | exact HB.out | apply q4q | apply q0q | apply q2q | refine q5q ?_ GE115.out | refine q5q ?_ GE117.out))); (case side4 => exact HC116_3.out); (case side5 => exact Kd.q19q HR116_4.out (by repeat (with_reducible first | exact HB.out | apply q4q | apply q0q | apply q2q | refine q5q ?_ GE115.out | refine q5q ?_ GE117.out))); (case side6 => exact HC116_4.out); rintro e w19 ⟨rfl, hb⟩; refine ⟨_, rfl, ?_⟩; have n0_ := Aq.mk (q13q (g := gb115) (o := .cells #[.slice (some ad116) l0_0.length c0_0] 24 (0, 0)) (by (with_reducible repeat (first | refine q8q ?_ _ | refine q9q ?_ | refine q7q ?_ _)); refine q18q ?_ NB115_117.out _; (with_reducible repeat (first | refine q8q ?_ _ | refine q9q ?_ | refine q7q ?_ _)); refine q18q ?_ NB115_117.out _; (with_reducible repeat (first | refine q8q ?_ _ | refine q9q ?_ | refine q7q ?_ _)); refine q18q ?_ NB115_117.out _; (with_reducible repeat (first | refine q8q ?_ _ | refine q9q ?_ | refine q7q ?_ _)); refine q18q ?_ NB115_117.out _; (with_reducible repeat (first | refine q8q ?_ _ | refine q9q ?_ | refine q7q ?_ _)); refine q18q ?_ NB115_117.out _; (with_reducible repeat (first | refine q8q ?_ _ | refine q9q ?_ | refine q7q ?_ _)); exact BK115.out) hb); have n1_ := Aq.mk (q13q (g := gb117) (o := .cells #[.int .i64 ((rd_T47 l0_0 x21_1).f0), .int .i64 ((rd_T47 l0_0 x21_1).f1), .slice A116_2 ((rd_T47 l0_0 x21_1).f2).length c116_2, .slice A116_3 ((rd_T47 l0_0 x21_1).f3).length c116_3, .slice A116_4 ((rd_T47 l0_0 x21_1).f4).length c116_4] 47 (0, 0)) (by (with_reducible repeat (first | refine q8q ?_ _ | refine q9q ?_ | refine q7q ?_ _)); refine q14q (cs := #[.int .i64 ((rd_T47 l0_0 x21_1).f0), .int .i64 ((rd_T47 l0_0 x21_1).f1), .slice A116_2 ((rd_T47 l0_0 x21_1).f2).length c116_2, .slice A116_3 ((rd_T47 l0_0 x21_1).f3).length c116_3, .slice none 0 0]) ?_ 4 _ rfl; (with_reducible repeat (first | refine q8q ?_ _ | refine q9q ?_ | refine q7q ?_ _)); refine q14q (cs := #[.int .i64 ((rd_T47 l0_0 x21_1).f0), .int .i64 ((rd_T47 l0_0 x21_1).f1), .slice A116_2 ((rd_T47 l0_0 x21_1).f2).length c116_2, .slice none 0 0, .slice none 0 0]) ?_ 3 _ rfl; (with_reducible repeat (first | refine q8q ?_ _ | refine q9q ?_ | refine q7q ?_ _)); refine q14q (cs := #[.int .i64 ((rd_T47 l0_0 x21_1).f0), .int .i64 ((rd_T47 l0_0 x21_1).f1), .slice none 0 0, .slice none 0 0, .slice none 0 0]) ?_ 2 _ rfl; (with_reducible repeat (first | refine q8q ?_ _ | refine q9q ?_ | refine q7q ?_ _)); refine q14q (cs := #[.int .i64 ((rd_T47 l0_0 x21_1).f0), .int .i64 0, .slice none 0 0, .slice none 0 0, .slice none 0 0]) ?_ 1 _ rfl; (with_reducible repeat (first | refine q8q ?_ _ | refine q9q ?_ | refine q7q ?_ _)); refine q14q (cs := #[.int .i64 0, .int .i64 0, .slice none 0 0, .slice none 0 0, .slice none 0 0]) ?_ 0 _ rfl; (with_reducible repeat (first | refine q8q ?_ _ | refine q9q ?_ | refine q7q ?_ _)); exact BK117.out) hb); have n2_ := Aq.mk (q10q (by repeat (with_reducible first | exact HB.out | apply q4q | apply q0q | apply q2q | refine q5q ?_ GE115.out | refine q5q ?_ GE117.out)) hb); clear BK115; clear BK117; clear HB; have BK115 := n0_; have BK117 := n1_; have HB := n2_; clear n0_ n1_ n2_; (try clear hb); (try clear hb2); (try clear hk); (try clear hi)))
   go_roundg k1
   case measure => have := HK1.out; omega
   case rel => exact ⟨(wrap64 (x21_1 + 1)), (by first | rfl | (simp; done) | (simp [*]; done)), H', ⟨by have := HK1.out; omega⟩, ⟨BK115.out⟩, ⟨by repeat (with_reducible first | exact HB.out | apply q4q | apply q0q | apply q2q | refine q5q ?_ GE115.out | refine q5q ?_ GE117.out)⟩⟩
end Go.Proofs.Ytkkgbbfojmnopaa.G
end
