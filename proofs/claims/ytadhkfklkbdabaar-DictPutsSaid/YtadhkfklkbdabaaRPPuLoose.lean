import Derived.Orders
import Derived.Below
import Derived.WalkKit
set_option linter.unusedVariables false
set_option linter.unusedSimpArgs false
section
namespace Go.Proofs.YtadhkfklkbdabaaR.Loose
open Go.RowKit
structure Inv (ops : Array Oper) (V : Nat → Value → World → Prop) (w0 : World) (a0 : Act) (listed : Array Bool) (a : Act) (w : World) : Prop where
 lsize : listed.size = ops.size
 below : Below w0.heap.size w0 w
 defers : a.defers = a0.defers
 size : a.tmps.size = a0.tmps.size
 others : ∀ t, (∀ (i : Nat) (o : Oper), ops[i]? = some o → listed.getD i false = true → o.dst ≠ some t) → a.tmps.getD t undef = a0.tmps.getD t undef
 has : ∀ (i : Nat) (o : Oper) (d : Nat), ops[i]? = some o → o.dst = some d → listed.getD i false = true → V i (a.tmps.getD d undef) w
theorem getD_set {l : Array Bool} {i j : Nat} (h : (l.setIfInBounds i true).getD j false = true) : i = j ∨ l.getD j false = true := by
 by_cases e : i = j
 ·exact .inl e
 ·exact .inr (by rw [← getD_set_ne false e]; exact h)
theorem put_same {a : Act} {d : Nat} {v : Value} (h : d < a.tmps.size) : (a.put (some d) v).tmps.getD d undef = v := by
 show (a.tmps.setIfInBounds d v).getD d undef = v
 simp [h]
theorem put_other {a : Act} {x : Option Tmp} {t : Nat} {v : Value} (h : x ≠ some t) : (a.put x v).tmps.getD t undef = a.tmps.getD t undef := by
 cases x with
 | none => rfl
 | some d =>
  show (a.tmps.setIfInBounds d v).getD t undef = _
  have : d ≠ t := fun e => h (by rw [e])
  simp [this]
theorem put_size {a : Act} {x : Option Tmp} {v : Value} : (a.put x v).tmps.size = a.tmps.size := by
 cases x with
 | none => rfl
 | some d => show (a.tmps.setIfInBounds d v).size = _; simp
theorem put_defers (a : Act) (x : Option Tmp) (v : Value) : (a.put x v).defers = a.defers := by cases x <;> rfl
section
variable {P : Program} {ops : Array Oper} {V : Nat → Value → World → Prop} {w0 : World} {a0 : Act}
theorem Inv.start (h : Below w0.heap.size w0 w0) : Inv ops V w0 a0 (Array.replicate ops.size false) a0 w0 :=
 ⟨by simp, h, rfl, rfl, fun _ _ => rfl, fun i o d hi _ hl => by
  have hlt : i < ops.size := (Array.getElem?_eq_some_iff.1 hi).1
  simp [hlt] at hl⟩
theorem Inv.step (hV : ∀ i v w w', V i v w → Below w.heap.size w w' → V i v w') (hin : ∀ (i : Nat) (o : Oper) (d : Nat), ops[i]? = some o → o.dst = some d → d < a0.tmps.size)
  (hdst : ∀ (i j : Nat) (oi oj : Oper) (d : Nat), ops[i]? = some oi → ops[j]? = some oj → oi.dst = some d → oj.dst = some d → i = j)
  {listed : Array Bool} {a : Act} {w w' : World} (h : Inv ops V w0 a0 listed a w) {i : Nat} {o : Oper} (hi : ops[i]? = some o) {v : Value} (hb : Below w.heap.size w w') (hv : V i v w') :
  Inv ops V w0 a0 (listed.setIfInBounds i true) (a.put o.dst v) w' := by
 have hil : i < listed.size := by rw [h.lsize]; exact (Array.getElem?_eq_some_iff.1 hi).1
 refine ⟨by simp [h.lsize], h.below.trans (hb.mono h.below.size), by rw [put_defers, h.defers], by rw [put_size, h.size], fun t ht => ?_, fun j oj d hj hd hl => ?_⟩
 ·rw [put_other (ht i o hi (by simp [hil]))]
  exact h.others t (fun j oj hj hl => ht j oj hj (getD_set_true hl))
 ·by_cases e : i = j
  ·subst e
   have : oj = o := by rw [hi] at hj; exact (Option.some.inj hj).symm
   subst this
   rw [hd, put_same (by rw [h.size]; exact hin _ _ _ hi hd)]
   exact hv
  ·rw [put_other (fun e2 => e (hdst i j o oj d hi hj e2 hd))]
   exact hV _ _ _ _ (h.has j oj d hj hd ((getD_set hl).resolve_left e)) hb
def Step (P : Program) (ops : Array Oper) (V : Nat → Value → World → Prop) (w0 : World) (a0 : Act) (Q : Exit → Act → World → Prop) (i : Nat) (o : Oper) : Prop :=
 ∀ (listed : Array Bool) (a : Act) (w : World), (∀ e ∈ o.after, Region.binds .any e = true → listed.getD e.on false = true) → Inv ops V w0 a0 listed a w →
  Region.wanted o (yielded ops a.tmps) = true ∧ ∀ K : Act → World → Prop, (∀ v w', Below w.heap.size w w' → V i v w' → K (a.put o.dst v) w') → o.wp P a w K Q
theorem any (hV : ∀ i v w w', V i v w → Below w.heap.size w w' → V i v w') (hin : ∀ (i : Nat) (o : Oper) (d : Nat), ops[i]? = some o → o.dst = some d → d < a0.tmps.size)
  (hdst : ∀ (i j : Nat) (oi oj : Oper) (d : Nat), ops[i]? = some oi → ops[j]? = some oj → oi.dst = some d → oj.dst = some d → i = j)
  {Q : Exit → Act → World → Prop} (hstep : ∀ (i : Nat) (o : Oper), ops[i]? = some o → Step P ops V w0 a0 Q i o)
  (hend : ∀ (listed : Array Bool) (a : Act) (w : World), Region.ready .any ops listed = [] → Inv ops V w0 a0 listed a w → Q .normal a w) :
  ∀ (fuel : Nat) (listed : Array Bool) (a : Act) (w : World), (listed.toList.filter fun b => !b).length ≤ fuel → Inv ops V w0 a0 listed a w → wpAny P .any ops Q fuel listed a w
 | 0, listed, a, w, hf, h => by
  have hr : Region.ready .any ops listed = [] := by
   rw [List.eq_nil_iff_forall_not_mem]
   intro i hi
   obtain ⟨h0, o, ho, _⟩ := mem_ready.1 hi
   have hlt : i < listed.size := by rw [h.lsize]; exact (Array.getElem?_eq_some_iff.1 ho).1
   have : false ∈ listed.toList.filter fun b => !b := List.mem_filter.2 ⟨by
    have : listed[i] = false := by simpa [hlt] using h0
    rw [← this]; exact Array.getElem_mem_toList hlt, rfl⟩
   have h1 := List.length_pos_of_mem this
   omega
  exact ⟨hr, hend listed a w hr h⟩
 | fuel + 1, listed, a, w, hf, h => by
  refine ⟨fun hr => hend listed a w hr h, fun i hi => ?_⟩
  obtain ⟨h0, o, ho, hd⟩ := mem_ready.1 hi
  have hlt : i < listed.size := by rw [h.lsize]; exact (Array.getElem?_eq_some_iff.1 ho).1
  obtain ⟨hw, hk⟩ := hstep i o ho listed a w hd h
  unfold wpOp
  rw [ho]
  simp only [hw, if_true]
  refine .inl (hk _ fun v w' hb hv => ?_)
  refine any hV hin hdst hstep hend fuel _ _ _ ?_ (h.step hV hin hdst ho hb hv)
  have hfalse : listed[i] = false := by simpa [hlt] using h0
  have h1 : ((listed.setIfInBounds i true).toList.filter fun b => !b).length + 1 = (listed.toList.filter fun b => !b).length := by
   rw [Array.toList_setIfInBounds]
   have h2 := List.take_append_drop i listed.toList
   have hl : i < listed.toList.length := by simpa using hlt
   have h3 : listed.toList.drop i = listed.toList[i] :: listed.toList.drop (i + 1) := List.drop_eq_getElem_cons hl
   have h4 : listed.toList[i] = false := by simpa using hfalse
   have h5 : listed.toList.set i true = listed.toList.take i ++ true :: listed.toList.drop (i + 1) := by
    rw [List.set_eq_take_append_cons_drop, if_pos hl]
   rw [h5]
   conv => rhs; rw [← h2, h3, h4]
   simp
   omega
  omega
theorem region {id : Nat} {Q : Exit → Act → World → Prop} (hm : P.follows .mixedOrders = true) (hV : ∀ i v w w', V i v w → Below w.heap.size w w' → V i v w') (hin : ∀ (i : Nat) (o : Oper) (d : Nat), ops[i]? = some o → o.dst = some d → d < a0.tmps.size)
  (hdst : ∀ (i j : Nat) (oi oj : Oper) (d : Nat), ops[i]? = some oi → ops[j]? = some oj → oi.dst = some d → oj.dst = some d → i = j) (hw0 : w0.drew = { w0 with drawn := w0.drawn + 1 })
  (hstep : ∀ (i : Nat) (o : Oper), ops[i]? = some o → Step P ops V w0.drew a0 Q i o)
  (hend : ∀ (listed : Array Bool) (a : Act) (w : World), Region.ready .any ops listed = [] → Inv ops V w0.drew a0 listed a w → Q .normal a w) :
  (Code.region id ops true).wp P Q a0 w0 := by
 refine wp_region_any hm ?_
 rw [← hw0]
 exact any hV hin hdst hstep hend _ _ _ _ (by simp) (Inv.start (Below.refl _ _))
end
end Go.Proofs.YtadhkfklkbdabaaR.Loose
namespace Go.Proofs.YtadhkfklkbdabaaR.Loose
open Go.RowKit
section
variable {P : Program} {ops : Array Oper} {a : Act} {w : World} {Q : Exit → Act → World → Prop}
theorem wanted_none {o : Oper} (h : o.guard = none) (y : Nat → Option Bool) : Region.wanted o y = true := by
 unfold Region.wanted; rw [h]
theorem enters {f : FuncId} {fn : Func} (hf : P.funcs[f]? = some fn) (hname : (fn.name == "runtime.NumGoroutine") = false) (hb : fn.body.isSome = true) (args : Array Value) (w : World) : (callFunc f args).run P w = .ok (.enter f args) w := by
 have hn : fn.body ≠ none := by intro h; rw [h] at hb; cases hb
 have hname' : ¬ fn.name = "runtime.NumGoroutine" := by simpa using hname
 simp [callFunc, hf, hname', hn]
theorem call_step {o : Oper} {K : Act → World → Prop} {f : FuncId} {fn : Func} {as : Array Operand} {ts : Array TypeId} (hf : P.funcs[f]? = some fn) (hname : (fn.name == "runtime.NumGoroutine") = false) (hb : fn.body.isSome = true) (args : Array Value)
  (hop : o.op = .call { callee := .value (.func f), args := as, argTypes := ts }) (hargs : as.map a.eval = args)
  (h : Calls P f args w fun e w' => ∃ v, e = .returned v ∧ K (a.put o.dst v) w') : o.wp P a w K Q := by
 have hrun : (execOp a.eval o).run P w = .ok (.enter f args) w := by
  unfold execOp
  simp [hop, resolve, Deferred.ofValue, invoke, Act.eval, hargs, enters hf hname hb args w]
 unfold Oper.wp
 rw [hrun, Oper.upon_enter]
 refine h.mono fun e w'' hh => ?_
 obtain ⟨v, rfl, hk⟩ := hh
 exact hk
theorem value_step {o : Oper} {K : Act → World → Prop} {v : Value} {w' : World} (hrun : (execOp a.eval o).run P w = .ok (.value v) w') (h : K (a.put o.dst v) w') : o.wp P a w K Q := by
 unfold Oper.wp
 rw [hrun, Oper.upon_value]
 exact h
end
end Go.Proofs.YtadhkfklkbdabaaR.Loose
namespace Go.Proofs.YtadhkfklkbdabaaR.Loose
open Go.RowKit
theorem dsts_of {ops : Array Oper} {l : List (Option Nat)} (h : ops.toList.map (·.dst) = l) (hn : (l.filterMap id).Pairwise (· ≠ ·)) : ∀ (i j : Nat) (oi oj : Oper) (d : Nat), ops[i]? = some oi → ops[j]? = some oj → oi.dst = some d → oj.dst = some d → i = j := by
 have key : ∀ (l : List (Option Nat)), (l.filterMap id).Pairwise (· ≠ ·) → ∀ (i j d : Nat), i < j → l[i]? = some (some d) → l[j]? = some (some d) → False := by
  intro l
  induction l with
  | nil => intro _ i j d _ h _; simp at h
  | cons x l ih =>
   intro hp i j d hij hi hj
   cases j with
   | zero => omega
   | succ j =>
    have hj' : l[j]? = some (some d) := by simpa using hj
    cases i with
    | zero =>
     have hx : x = some d := by simpa using hi
     subst hx
     have hp' : ((d :: l.filterMap id).Pairwise (· ≠ ·)) := hp
     have hm : d ∈ l.filterMap id := List.mem_filterMap.2 ⟨some d, List.mem_of_getElem? hj', rfl⟩
     exact (List.pairwise_cons.1 hp').1 d hm rfl
    | succ i =>
     refine ih ?_ i j d (by omega) (by simpa using hi) hj'
     cases x with
     | none => exact hp
     | some y => exact (List.pairwise_cons.1 (show ((y :: l.filterMap id).Pairwise (· ≠ ·)) from hp)).2
 intro i j oi oj d hi hj e1 e2
 have gi : l[i]? = some (some d) := by
  rw [← h, List.getElem?_map, Array.getElem?_toList, hi]; simp [e1]
 have gj : l[j]? = some (some d) := by
  rw [← h, List.getElem?_map, Array.getElem?_toList, hj]; simp [e2]
 rcases Nat.lt_trichotomy i j with hlt | e | hlt
 ·exact (key l hn i j d hlt gi gj).elim
 ·exact e
 ·exact (key l hn j i d hlt gj gi).elim
theorem no_dst {ops : Array Oper} {t : Nat} (h : (ops.toList.all fun o => decide (o.dst ≠ some t)) = true) : ∀ {listed : Array Bool} (i : Nat) (o : Oper), ops[i]? = some o → listed.getD i false = true → o.dst ≠ some t :=
 fun i o ho _ => of_decide_eq_true (List.all_eq_true.1 h o (List.mem_of_getElem? (i := i) (by rw [Array.getElem?_toList]; exact ho)))
theorem ins_of {ops : Array Oper} {n : Nat} (h : (ops.toList.all fun o => match o.dst with | some d => decide (d < n) | none => true) = true) : ∀ (i : Nat) (o : Oper) (d : Nat), ops[i]? = some o → o.dst = some d → d < n := by
 intro i o d ho hd
 have h1 := List.all_eq_true.1 h o (List.mem_of_getElem? (i := i) (by rw [Array.getElem?_toList]; exact ho))
 rw [hd] at h1
 exact of_decide_eq_true h1
end Go.Proofs.YtadhkfklkbdabaaR.Loose
namespace Go.Proofs.YtadhkfklkbdabaaR.Loose
open Go.RowKit
section
variable {P : Program} {ops : Array Oper} {V : Nat → Value → World → Prop} {w0 : World} {a0 : Act}
end
end Go.Proofs.YtadhkfklkbdabaaR.Loose
namespace Go.Proofs.YtadhkfklkbdabaaR.Loose
open Go.RowKit
end Go.Proofs.YtadhkfklkbdabaaR.Loose
end
