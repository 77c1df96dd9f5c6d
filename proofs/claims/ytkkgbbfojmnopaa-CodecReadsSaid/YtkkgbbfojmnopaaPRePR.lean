import Derived.Test.YtkkgbbfojmnopaaPRePC
import Derived.Test.YtkkgbbfojmnopaaPReGxF21
set_option linter.unusedVariables false
set_option linter.unusedSimpArgs false
section
namespace Go.Proofs.Ytkkgbbfojmnopaa.Z
open Go.RowKit Go.Proofs.Ytkkgbbfojmnopaa.G Go.Proofs.YtkkgbbfojmnopaaW.PrintWords Go.Proofs.YtkkgbbfojmnopaaW.PrintLast Go.Proofs.YtkkgbbfojmnopaaW.PrintMore
theorem r_l3 (p0 p1 : Int) (ups : List S50) (cs : List S42) (code : List S52) (protos : Int) (hl : code.length ≤ 16384) :
  Ev (fun k => fQ1.l3 k protos 0 p0 p1 ups cs code) (if code.all (okI p1 ups cs code protos) = true then 0 else 2) :=
 loop_from (xs := code) (g := fun k i => fQ1.l3 k protos i p0 p1 ups cs code) (rest := fun _ => some 0)
  (fun k i h ho => by
   show fQ1.l3 (k + 1) protos i p0 p1 ups cs code = _
   rw [fQ1.l3, if_pos (by omega), if_pos (by omega), rd33 _ _ h]
   have e : fQ22.f p0 p1 ups cs code code[i].f0 code[i].f1 code[i].f2 protos = some true := by unfold fQ22.f; exact congrArg some ho
   rw [e]
   rw [Option.bind_some]
   rw [if_pos rfl, w_one (by omega)])
  (fun k i h ho => by
   show fQ1.l3 (k + 1) protos i p0 p1 ups cs code = _
   rw [fQ1.l3, if_pos (by omega), if_pos (by omega), rd33 _ _ h]
   have e : fQ22.f p0 p1 ups cs code code[i].f0 code[i].f1 code[i].f2 protos = some false := by unfold fQ22.f; exact congrArg some ho
   rw [e]
   rfl)
  (fun k => by show fQ1.l3 (k + 1) protos code.length p0 p1 ups cs code = _; rw [fQ1.l3, if_neg (by omega)])
  (Ev.now 0)
theorem r_l2 (p0 p1 : Int) (ups : List S50) (cs : List S42) (code : List S52) (protos : Int) (hl : code.length ≤ 16384) (hc : cs.length ≤ 4096) :
  Ev (fun k => fQ1.l2 k protos 0 p0 p1 ups cs code) (if cs.all smC = true then (if code.length = 0 then 2 else if code.all (okI p1 ups cs code protos) = true then 0 else 2) else 3) :=
 loop_from (xs := cs) (g := fun k i => fQ1.l2 k protos i p0 p1 ups cs code) (rest := fun k => if (code.length : Int) = 0 then some 2 else fQ1.l3 k protos 0 p0 p1 ups cs code)
  (fun k i h ho => by
   show fQ1.l2 (k + 1) protos i p0 p1 ups cs code = _
   have h2 := of_decide_eq_true ho
   rw [fQ1.l2, if_pos (by omega), if_pos (by omega), rd46 _ _ h, if_neg (by omega), w_one (by omega)])
  (fun k i h ho => by
   show fQ1.l2 (k + 1) protos i p0 p1 ups cs code = _
   have h2 := of_decide_eq_false ho
   rw [fQ1.l2, if_pos (by omega), if_pos (by omega), rd46 _ _ h, if_pos (by omega)])
  (fun k => by show fQ1.l2 (k + 1) protos cs.length p0 p1 ups cs code = _; rw [fQ1.l2, if_neg (by omega)])
  (by
   by_cases h : code.length = 0
   ·rw [if_pos h]; exact Ev.congr (fun k => by rw [if_pos (by omega)]) (Ev.now 2)
   ·rw [if_neg h]; exact Ev.congr (fun k => by rw [if_neg (by omega)]) (r_l3 p0 p1 ups cs code protos hl))
theorem r_l1 (p0 p1 : Int) (ups : List S50) (cs : List S42) (code : List S52) (protos : Int) (hl : code.length ≤ 16384) (hc : cs.length ≤ 4096) :
  Ev (fun k => fQ1.l1 k protos 0 p0 p1 ups cs code) (if cs.all okC = true then (if cs.all smC = true then (if code.length = 0 then 2 else if code.all (okI p1 ups cs code protos) = true then 0 else 2) else 3) else 2) :=
 loop_from (xs := cs) (g := fun k i => fQ1.l1 k protos i p0 p1 ups cs code) (rest := fun k => fQ1.l2 k protos 0 p0 p1 ups cs code)
  (fun k i h ho => by
   show fQ1.l1 (k + 1) protos i p0 p1 ups cs code = _
   rw [fQ1.l1, if_pos (by omega), if_pos (by omega), rd46 _ _ h, okC_ite, if_pos ho, w_one (by omega)])
  (fun k i h ho => by
   show fQ1.l1 (k + 1) protos i p0 p1 ups cs code = _
   rw [fQ1.l1, if_pos (by omega), if_pos (by omega), rd46 _ _ h, okC_ite, if_neg (by rw [ho]; decide)])
  (fun k => by show fQ1.l1 (k + 1) protos cs.length p0 p1 ups cs code = _; rw [fQ1.l1, if_neg (by omega)])
  (r_l2 p0 p1 ups cs code protos hl hc)
theorem r_l0 (p0 p1 : Int) (ups : List S50) (cs : List S42) (code : List S52) (protos : Int) (hl : code.length ≤ 16384) (hc : cs.length ≤ 4096) (hu : ups.length ≤ 60) :
  Ev (fun k => fQ1.l0 k protos 0 p0 p1 ups cs code) (if ups.all okU = true then (if cs.all okC = true then (if cs.all smC = true then (if code.length = 0 then 2 else if code.all (okI p1 ups cs code protos) = true then 0 else 2) else 3) else 2) else 2) :=
 loop_from (xs := ups) (g := fun k i => fQ1.l0 k protos i p0 p1 ups cs code) (rest := fun k => fQ1.l1 k protos 0 p0 p1 ups cs code)
  (fun k i h ho => by
   show fQ1.l0 (k + 1) protos i p0 p1 ups cs code = _
   rw [fQ1.l0, if_pos (by omega), if_pos (by omega), rd48 _ _ h]
   unfold okU at ho
   cases hf : ups[i].f0 with
   | true => rw [hf, if_pos rfl] at ho; rw [if_pos rfl, rbelow_eq, ho]; rw [Option.bind_some, if_pos rfl, w_one (by omega)]
   | false => rw [hf, if_neg (by decide)] at ho; rw [if_neg (by decide), rbelow_eq, ho]; rw [Option.bind_some, if_pos rfl, w_one (by omega)])
  (fun k i h ho => by
   show fQ1.l0 (k + 1) protos i p0 p1 ups cs code = _
   rw [fQ1.l0, if_pos (by omega), if_pos (by omega), rd48 _ _ h]
   unfold okU at ho
   cases hf : ups[i].f0 with
   | true => rw [hf, if_pos rfl] at ho; rw [if_pos rfl, rbelow_eq, ho]; rfl
   | false => rw [hf, if_neg (by decide)] at ho; rw [if_neg (by decide), rbelow_eq, ho]; rfl)
  (fun k => by show fQ1.l0 (k + 1) protos ups.length p0 p1 ups cs code = _; rw [fQ1.l0, if_neg (by omega)])
  (r_l1 p0 p1 ups cs code protos hl hc)
theorem r_proto (p0 p1 : Int) (ups : List S50) (cs : List S42) (code : List S52) (first : Bool) (protos : Int) : Ev (fun k => fQ1.f k p0 p1 ups cs code first protos) (protoS p0 p1 ups cs code first protos) := by
 have e : ∀ k, fQ1.f k p0 p1 ups cs code first protos = fQ1.j0 k first protos (decide (p0 < 0 ∨ p1 < 0)) p0 p1 ups cs code := fun k => by
  unfold fQ1.f
  by_cases h : p0 < 0
  ·rw [if_pos h, decide_eq_true (.inl h)]
  rw [if_neg h]; congr 1; rw [decide_eq_decide]; omega
 refine Ev.congr e ?_
 unfold protoS
 by_cases h0 : p0 < 0 ∨ p1 < 0
 ·rw [if_pos h0, decide_eq_true h0]
  exact Ev.step (f := fun _ => some 2) (fun k => by rw [fQ1.j0, if_pos rfl]) (Ev.now 2)
 rw [if_neg h0, decide_eq_false h0]
 refine Ev.step (f := fun k => fQ1.j1 k first protos (decide (p0 > 20 ∨ p1 > 250 ∨ ups.length > 60 ∨ cs.length > 4096 ∨ code.length > 16384)) p0 p1 ups cs code) (fun k => by
  rw [fQ1.j0, if_neg (by decide)]
  by_cases h1 : p0 > 20
  ·rw [if_pos h1, decide_eq_true (.inl h1)]
  rw [if_neg h1]
  by_cases h2 : p1 > 250
  ·rw [if_pos h2, decide_eq_true (.inr (.inl h2))]
  rw [if_neg h2]
  by_cases h3 : (ups.length : Int) > 60
  ·rw [if_pos h3, decide_eq_true (.inr (.inr (.inl (by omega))))]
  rw [if_neg h3]
  by_cases h4 : (cs.length : Int) > 4096
  ·rw [if_pos h4, decide_eq_true (.inr (.inr (.inr (.inl (by omega)))))]
  rw [if_neg h4]; congr 1; rw [decide_eq_decide]; omega) ?_
 by_cases h1 : p0 > 20 ∨ p1 > 250 ∨ ups.length > 60 ∨ cs.length > 4096 ∨ code.length > 16384
 ·rw [if_pos h1, decide_eq_true h1]
  exact Ev.step (f := fun _ => some 3) (fun k => by rw [fQ1.j1, if_pos rfl]) (Ev.now 3)
 rw [if_neg h1, decide_eq_false h1]
 refine Ev.step (f := fun k => fQ1.j2 k protos (decide (p0 > p1 ∨ (first = true ∧ ups.length > 0))) p0 p1 ups cs code) (fun k => by
  rw [fQ1.j1, if_neg (by decide)]
  by_cases h2 : p0 > p1
  ·rw [if_pos h2, decide_eq_true (.inl h2)]
  rw [if_neg h2]
  cases first with
  | true =>
   rw [if_pos rfl]; congr 1; rw [decide_eq_decide]; constructor
   ·intro h; exact .inr ⟨rfl, by omega⟩
   ·rintro (h | ⟨_, h⟩) <;> omega
  | false => rw [if_neg (by decide), decide_eq_false (by rintro (h | ⟨h, _⟩); omega; cases h)]) ?_
 by_cases h2 : p0 > p1 ∨ (first = true ∧ ups.length > 0)
 ·rw [if_pos h2, decide_eq_true h2]
  exact Ev.step (f := fun _ => some 2) (fun k => by rw [fQ1.j2, if_pos rfl]) (Ev.now 2)
 rw [if_neg h2, decide_eq_false h2]
 exact Ev.step (f := fun k => fQ1.l0 k protos 0 p0 p1 ups cs code) (fun k => by rw [fQ1.j2, if_neg (by decide)]) (r_l0 p0 p1 ups cs code protos (by omega) (by omega) (by omega))
theorem r_check0 (l : List S47) (hl : l.length ≤ 256) : ∀ (d i : Nat), i + d = l.length → Ev (fun k => fQ8.l0 k i l) (checkS.go l (l.drop i) i)
 | 0, i, hi => by
  obtain rfl : i = l.length := by omega
  rw [List.drop_length]
  exact Ev.step (f := fun _ => some 0) (fun k => by rw [fQ8.l0, if_neg (by omega)]) (Ev.now 0)
 | d + 1, i, hi => by
  have hlt : i < l.length := by omega
  rw [List.drop_eq_getElem_cons hlt]
  have hb : (((i : Nat) : Int) == 0) = (i == 0) := by rw [Bool.eq_iff_iff]; simp
  refine Ev.step (f := fun k => (fQ1.f k l[i].f0 l[i].f1 l[i].f2 l[i].f3 l[i].f4 (i == 0) l.length).bind fun t => if t = 0 then fQ8.l0 k ((i + 1 : Nat) : Int) l else some t) (fun k => by
   rw [fQ8.l0, if_pos (by omega), if_pos (by omega), rd41 _ _ hlt, w_one (by omega), hb]) ?_
  refine Ev.bind (f := fun k t => if t = 0 then fQ8.l0 k ((i + 1 : Nat) : Int) l else some t) (r_proto _ _ _ _ _ _ _) ?_
  unfold checkS.go
  by_cases he : protoS l[i].f0 l[i].f1 l[i].f2 l[i].f3 l[i].f4 (i == 0) l.length = 0
  case neg =>
   simp only [he, if_false]
   exact Ev.now _
  simp only [he, if_true]
  exact r_check0 l hl d (i + 1) (by omega)
theorem r_check (l : List S47) : Ev (fun k => fQ8.f k l) (checkS l) := by
 unfold checkS
 by_cases h0 : l.length = 0
 ·rw [if_pos h0]; exact Ev.congr (f := fun _ => some 2) (fun k => by unfold fQ8.f; rw [if_pos (by omega)]) (Ev.now 2)
 rw [if_neg h0]
 by_cases h1 : l.length > 256
 ·rw [if_pos h1]; exact Ev.congr (f := fun _ => some 3) (fun k => by unfold fQ8.f; rw [if_neg (by omega), if_pos (by omega)]) (Ev.now 3)
 rw [if_neg h1]
 exact Ev.congr (f := fun k => fQ8.l0 k 0 l) (fun k => by unfold fQ8.f; rw [if_neg (by omega), if_neg (by omega)]) (r_check0 l (by omega) l.length 0 (by omega))
end Go.Proofs.Ytkkgbbfojmnopaa.Z
end
