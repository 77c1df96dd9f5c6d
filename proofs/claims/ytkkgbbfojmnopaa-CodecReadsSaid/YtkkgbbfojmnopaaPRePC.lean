import Derived.Test.YtkkgbbfojmnopaaPReGxF16
import Derived.Test.YtkkgbbfojmnopaaPReGxF17
import Derived.Test.YtkkgbbfojmnopaaPReIK
set_option linter.unusedVariables false
set_option linter.unusedSimpArgs false
section
namespace Go.Proofs.Ytkkgbbfojmnopaa.Z
open Go.RowKit Go.Proofs.Ytkkgbbfojmnopaa.G Go.Proofs.YtkkgbbfojmnopaaW.PrintWords Go.Proofs.YtkkgbbfojmnopaaW.PrintLast Go.Proofs.YtkkgbbfojmnopaaW.PrintMore
theorem w_sm {x : Int} (h : -1000000 ≤ x ∧ x ≤ 1000000) : wrap64 x = x := by unfold wrap64; omega
theorem mF (r : Int) (h0 : 1 ≤ r ∧ r ≤ 3) (X : Bool) (op a b regs : Int) (h : ¬ op = 18) (hr : 0 ≤ regs ∧ regs ≤ 250) : mayF r X op a b regs = (decide (0 ≤ a ∧ a < regs - (r - 1)) && X) := by
 unfold mayF
 simp only [h, if_false]
 rw [w_sm (x := regs - r) (by omega), w_sm (x := regs - r + 1) (by omega)]
 cases X with
 | false => simp
 | true =>
  rw [if_neg (by simp; omega), Bool.eq_iff_iff]
  simp
  omega
theorem mF1 (X : Bool) (op a b regs : Int) (h : ¬ op = 18) (hr : 0 ≤ regs ∧ regs ≤ 250) : mayF 1 X op a b regs = (decide (0 ≤ a ∧ a < regs) && X) := by
 rw [mF 1 (by decide) X op a b regs h hr, show regs - (1 - 1) = regs by omega]
theorem mF2 (X : Bool) (op a b regs : Int) (h : ¬ op = 18) (hr : 0 ≤ regs ∧ regs ≤ 250) : mayF 2 X op a b regs = (decide (0 ≤ a ∧ a < wrap64 (regs - 1)) && X) := by
 rw [mF 2 (by decide) X op a b regs h hr, w_sm (x := regs - 1) (by omega), show regs - (2 - 1) = regs - 1 by omega]
theorem mF3 (X : Bool) (op a b regs : Int) (h : ¬ op = 18) (hr : 0 ≤ regs ∧ regs ≤ 250) : mayF 3 X op a b regs = (decide (0 ≤ a ∧ a < wrap64 (regs - 2)) && X) := by
 rw [mF 3 (by decide) X op a b regs h hr, w_sm (x := regs - 2) (by omega), show regs - (3 - 1) = regs - 2 by omega]
theorem mF0 (X : Bool) (op a b regs : Int) (h : ¬ op = 18) (hr : 0 ≤ regs ∧ regs ≤ 250) : mayF 0 X op a b regs = ((a == 0) && X) := by
 unfold mayF
 simp only [h, if_false]
 cases X with
 | false => simp
 | true =>
  by_cases ha : a = 0
  case neg =>
   simp [ha]
  subst ha; simp
theorem may0 (regs : Int) (hr : 0 ≤ regs ∧ regs ≤ 250) (nu : Nat) (cs : List S42) (nc : Nat) (protos a b : Int) : mayI regs nu cs nc protos ⟨0, a, b⟩ = insK 0 regs nu nc cs protos a b := mF1 _ 0 a b regs (by decide) hr
theorem may1 (regs : Int) (hr : 0 ≤ regs ∧ regs ≤ 250) (nu : Nat) (cs : List S42) (nc : Nat) (protos a b : Int) : mayI regs nu cs nc protos ⟨1, a, b⟩ = insK 1 regs nu nc cs protos a b := by
 have e : mayI regs nu cs nc protos ⟨1, a, b⟩ = mayF 1 (rbF 70 2 regs nu cs nc protos b) 1 a b regs := rfl
 rw [e]
 have er : rbF 70 2 regs nu cs nc protos b = decide (0 ≤ b ∧ b < 2) := rfl
 rw [er]
 have ei : insK 1 regs nu nc cs protos a b = (decide (0 ≤ a ∧ a < regs) && ((b == 0) || (b == 1))) := rfl
 rw [ei]
 unfold mayF
 skip
 simp only [show ¬ ((1 : Int) = 18) from by decide, if_false]
 rw [w_sm (x := regs - 1) (by omega), w_sm (x := regs - 1 + 1) (by omega)]
 split
 ·rename_i h
  symm
  rw [Bool.eq_false_iff]
  simp at h ⊢
  omega
 ·rename_i h
  rw [Bool.eq_iff_iff]
  simp at h ⊢
  omega
theorem may2 (regs : Int) (hr : 0 ≤ regs ∧ regs ≤ 250) (nu : Nat) (cs : List S42) (nc : Nat) (protos a b : Int) : mayI regs nu cs nc protos ⟨2, a, b⟩ = insK 2 regs nu nc cs protos a b := mF1 _ 2 a b regs (by decide) hr
theorem may3 (regs : Int) (hr : 0 ≤ regs ∧ regs ≤ 250) (nu : Nat) (cs : List S42) (nc : Nat) (protos a b : Int) : mayI regs nu cs nc protos ⟨3, a, b⟩ = insK 4 regs nu nc cs protos a b := mF1 _ 3 a b regs (by decide) hr
theorem may4 (regs : Int) (hr : 0 ≤ regs ∧ regs ≤ 250) (nu : Nat) (cs : List S42) (nc : Nat) (protos a b : Int) : mayI regs nu cs nc protos ⟨4, a, b⟩ = insK 4 regs nu nc cs protos a b := mF1 _ 4 a b regs (by decide) hr
theorem may5 (regs : Int) (hr : 0 ≤ regs ∧ regs ≤ 250) (nu : Nat) (cs : List S42) (nc : Nat) (protos a b : Int) : mayI regs nu cs nc protos ⟨5, a, b⟩ = insK 0 regs nu nc cs protos a b := mF1 _ 5 a b regs (by decide) hr
theorem may6 (regs : Int) (hr : 0 ≤ regs ∧ regs ≤ 250) (nu : Nat) (cs : List S42) (nc : Nat) (protos a b : Int) : mayI regs nu cs nc protos ⟨6, a, b⟩ = insK 5 regs nu nc cs protos a b := mF1 _ 6 a b regs (by decide) hr
theorem may7 (regs : Int) (hr : 0 ≤ regs ∧ regs ≤ 250) (nu : Nat) (cs : List S42) (nc : Nat) (protos a b : Int) : mayI regs nu cs nc protos ⟨7, a, b⟩ = insK 5 regs nu nc cs protos a b := mF1 _ 7 a b regs (by decide) hr
theorem may8 (regs : Int) (hr : 0 ≤ regs ∧ regs ≤ 250) (nu : Nat) (cs : List S42) (nc : Nat) (protos a b : Int) : mayI regs nu cs nc protos ⟨8, a, b⟩ = insK 0 regs nu nc cs protos a b := mF1 _ 8 a b regs (by decide) hr
theorem may9 (regs : Int) (hr : 0 ≤ regs ∧ regs ≤ 250) (nu : Nat) (cs : List S42) (nc : Nat) (protos a b : Int) : mayI regs nu cs nc protos ⟨9, a, b⟩ = insK 4 regs nu nc cs protos a b := mF1 _ 9 a b regs (by decide) hr
theorem may10 (regs : Int) (hr : 0 ≤ regs ∧ regs ≤ 250) (nu : Nat) (cs : List S42) (nc : Nat) (protos a b : Int) : mayI regs nu cs nc protos ⟨10, a, b⟩ = insK 4 regs nu nc cs protos a b := mF1 _ 10 a b regs (by decide) hr
theorem may11 (regs : Int) (hr : 0 ≤ regs ∧ regs ≤ 250) (nu : Nat) (cs : List S42) (nc : Nat) (protos a b : Int) : mayI regs nu cs nc protos ⟨11, a, b⟩ = insK 3 regs nu nc cs protos a b := mF1 _ 11 a b regs (by decide) hr
theorem may12 (regs : Int) (hr : 0 ≤ regs ∧ regs ≤ 250) (nu : Nat) (cs : List S42) (nc : Nat) (protos a b : Int) : mayI regs nu cs nc protos ⟨12, a, b⟩ = insK 3 regs nu nc cs protos a b := mF1 _ 12 a b regs (by decide) hr
theorem may13 (regs : Int) (hr : 0 ≤ regs ∧ regs ≤ 250) (nu : Nat) (cs : List S42) (nc : Nat) (protos a b : Int) : mayI regs nu cs nc protos ⟨13, a, b⟩ = insK 0 regs nu nc cs protos a b := mF1 _ 13 a b regs (by decide) hr
theorem may14 (regs : Int) (hr : 0 ≤ regs ∧ regs ≤ 250) (nu : Nat) (cs : List S42) (nc : Nat) (protos a b : Int) : mayI regs nu cs nc protos ⟨14, a, b⟩ = insK 6 regs nu nc cs protos a b := mF2 _ 14 a b regs (by decide) hr
theorem may15 (regs : Int) (hr : 0 ≤ regs ∧ regs ≤ 250) (nu : Nat) (cs : List S42) (nc : Nat) (protos a b : Int) : mayI regs nu cs nc protos ⟨15, a, b⟩ = insK 9 regs nu nc cs protos a b := mF3 _ 15 a b regs (by decide) hr
theorem may16 (regs : Int) (hr : 0 ≤ regs ∧ regs ≤ 250) (nu : Nat) (cs : List S42) (nc : Nat) (protos a b : Int) : mayI regs nu cs nc protos ⟨16, a, b⟩ = insK 9 regs nu nc cs protos a b := mF3 _ 16 a b regs (by decide) hr
theorem may17 (regs : Int) (hr : 0 ≤ regs ∧ regs ≤ 250) (nu : Nat) (cs : List S42) (nc : Nat) (protos a b : Int) : mayI regs nu cs nc protos ⟨17, a, b⟩ = insK 10 regs nu nc cs protos a b := by
 have e : mayI regs nu cs nc protos ⟨17, a, b⟩ = mayF 1 (rbF 58 0 regs nu cs nc protos b) 17 a b regs := rfl
 rw [e]
 have er : rbF 58 0 regs nu cs nc protos b = decide (0 < b ∧ b < protos) := rfl
 rw [er]
 have ei : insK 10 regs nu nc cs protos a b = (decide (0 ≤ a ∧ a < regs) && (decide (0 < b) && decide (b < protos))) := rfl
 rw [ei]
 unfold mayF
 skip
 simp only [show ¬ ((17 : Int) = 18) from by decide, if_false]
 rw [w_sm (x := regs - 1) (by omega), w_sm (x := regs - 1 + 1) (by omega)]
 split
 ·rename_i h
  symm
  rw [Bool.eq_false_iff]
  simp at h ⊢
  omega
 ·rename_i h
  rw [Bool.eq_iff_iff]
  simp at h ⊢
  omega
theorem may18 (regs : Int) (hr : 0 ≤ regs ∧ regs ≤ 250) (nu : Nat) (cs : List S42) (nc : Nat) (protos a b : Int) : mayI regs nu cs nc protos ⟨18, a, b⟩ = insK 11 regs nu nc cs protos a b := by
 have e : mayI regs nu cs nc protos ⟨18, a, b⟩ = mayF 1 (rbF 70 21 regs nu cs nc protos b) 18 a b regs := rfl
 rw [e]
 have er : rbF 70 21 regs nu cs nc protos b = decide (0 ≤ b ∧ b < 21) := rfl
 rw [er]
 have ei : insK 11 regs nu nc cs protos a b = (decide (0 ≤ a ∧ a < regs) && (decide (0 ≤ b) && (decide (b ≤ 20) && decide (0 ≤ a ∧ a < wrap64 (regs - b))))) := rfl
 rw [ei]
 unfold mayF
 by_cases hb : 0 ≤ b ∧ b < 21
 case neg =>
  rw [if_pos (.inr (decide_eq_false hb))]
  symm
  rw [Bool.eq_false_iff]
  simp
  omega
 rw [if_neg (by rw [decide_eq_true hb]; simp)]
 simp only [reduceIte]
 rw [w_sm (x := 1 + b) (by omega), w_sm (x := regs - (1 + b)) (by omega), w_sm (x := regs - (1 + b) + 1) (by omega), w_sm (x := regs - b) (by omega), Bool.eq_iff_iff]
 simp
 omega
theorem may19 (regs : Int) (hr : 0 ≤ regs ∧ regs ≤ 250) (nu : Nat) (cs : List S42) (nc : Nat) (protos a b : Int) : mayI regs nu cs nc protos ⟨19, a, b⟩ = insK 0 regs nu nc cs protos a b := mF1 _ 19 a b regs (by decide) hr
theorem may20 (regs : Int) (hr : 0 ≤ regs ∧ regs ≤ 250) (nu : Nat) (cs : List S42) (nc : Nat) (protos a b : Int) : mayI regs nu cs nc protos ⟨20, a, b⟩ = insK 13 regs nu nc cs protos a b := mF0 _ 20 a b regs (by decide) hr
theorem may21 (regs : Int) (hr : 0 ≤ regs ∧ regs ≤ 250) (nu : Nat) (cs : List S42) (nc : Nat) (protos a b : Int) : mayI regs nu cs nc protos ⟨21, a, b⟩ = insK 12 regs nu nc cs protos a b := mF1 _ 21 a b regs (by decide) hr
theorem may22 (regs : Int) (hr : 0 ≤ regs ∧ regs ≤ 250) (nu : Nat) (cs : List S42) (nc : Nat) (protos a b : Int) : mayI regs nu cs nc protos ⟨22, a, b⟩ = insK 12 regs nu nc cs protos a b := mF1 _ 22 a b regs (by decide) hr
theorem may23 (regs : Int) (hr : 0 ≤ regs ∧ regs ≤ 250) (nu : Nat) (cs : List S42) (nc : Nat) (protos a b : Int) : mayI regs nu cs nc protos ⟨23, a, b⟩ = insK 12 regs nu nc cs protos a b := mF1 _ 23 a b regs (by decide) hr
theorem may24 (regs : Int) (hr : 0 ≤ regs ∧ regs ≤ 250) (nu : Nat) (cs : List S42) (nc : Nat) (protos a b : Int) : mayI regs nu cs nc protos ⟨24, a, b⟩ = insK 12 regs nu nc cs protos a b := mF1 _ 24 a b regs (by decide) hr
theorem may25 (regs : Int) (hr : 0 ≤ regs ∧ regs ≤ 250) (nu : Nat) (cs : List S42) (nc : Nat) (protos a b : Int) : mayI regs nu cs nc protos ⟨25, a, b⟩ = insK 7 regs nu nc cs protos a b := by
 have e : mayI regs nu cs nc protos ⟨25, a, b⟩ = mayF 2 (rbF 70 10 regs nu cs nc protos b) 25 a b regs := rfl
 rw [e]
 have er : rbF 70 10 regs nu cs nc protos b = decide (0 ≤ b ∧ b < 10) := rfl
 rw [er]
 have ei : insK 7 regs nu nc cs protos a b = (decide (0 ≤ a ∧ a < wrap64 (regs - 1)) && (decide (0 ≤ b) && decide (b ≤ 9))) := rfl
 rw [ei]
 unfold mayF
 skip
 simp only [show ¬ ((25 : Int) = 18) from by decide, if_false]
 rw [w_sm (x := regs - 2) (by omega), w_sm (x := regs - 2 + 1) (by omega)]
 rw [w_sm (x := regs - 1) (by omega)]
 split
 ·rename_i h
  symm
  rw [Bool.eq_false_iff]
  simp at h ⊢
  omega
 ·rename_i h
  rw [Bool.eq_iff_iff]
  simp at h ⊢
  omega
theorem may26 (regs : Int) (hr : 0 ≤ regs ∧ regs ≤ 250) (nu : Nat) (cs : List S42) (nc : Nat) (protos a b : Int) : mayI regs nu cs nc protos ⟨26, a, b⟩ = insK 6 regs nu nc cs protos a b := mF2 _ 26 a b regs (by decide) hr
theorem may27 (regs : Int) (hr : 0 ≤ regs ∧ regs ≤ 250) (nu : Nat) (cs : List S42) (nc : Nat) (protos a b : Int) : mayI regs nu cs nc protos ⟨27, a, b⟩ = insK 6 regs nu nc cs protos a b := mF2 _ 27 a b regs (by decide) hr
theorem may28 (regs : Int) (hr : 0 ≤ regs ∧ regs ≤ 250) (nu : Nat) (cs : List S42) (nc : Nat) (protos a b : Int) : mayI regs nu cs nc protos ⟨28, a, b⟩ = insK 6 regs nu nc cs protos a b := mF2 _ 28 a b regs (by decide) hr
theorem may29 (regs : Int) (hr : 0 ≤ regs ∧ regs ≤ 250) (nu : Nat) (cs : List S42) (nc : Nat) (protos a b : Int) : mayI regs nu cs nc protos ⟨29, a, b⟩ = insK 6 regs nu nc cs protos a b := mF2 _ 29 a b regs (by decide) hr
theorem may30 (regs : Int) (hr : 0 ≤ regs ∧ regs ≤ 250) (nu : Nat) (cs : List S42) (nc : Nat) (protos a b : Int) : mayI regs nu cs nc protos ⟨30, a, b⟩ = insK 0 regs nu nc cs protos a b := mF1 _ 30 a b regs (by decide) hr
theorem may31 (regs : Int) (hr : 0 ≤ regs ∧ regs ≤ 250) (nu : Nat) (cs : List S42) (nc : Nat) (protos a b : Int) : mayI regs nu cs nc protos ⟨31, a, b⟩ = insK 0 regs nu nc cs protos a b := mF1 _ 31 a b regs (by decide) hr
theorem may32 (regs : Int) (hr : 0 ≤ regs ∧ regs ≤ 250) (nu : Nat) (cs : List S42) (nc : Nat) (protos a b : Int) : mayI regs nu cs nc protos ⟨32, a, b⟩ = insK 0 regs nu nc cs protos a b := mF1 _ 32 a b regs (by decide) hr
theorem may33 (regs : Int) (hr : 0 ≤ regs ∧ regs ≤ 250) (nu : Nat) (cs : List S42) (nc : Nat) (protos a b : Int) : mayI regs nu cs nc protos ⟨33, a, b⟩ = insK 8 regs nu nc cs protos a b := mF2 _ 33 a b regs (by decide) hr
theorem may34 (regs : Int) (hr : 0 ≤ regs ∧ regs ≤ 250) (nu : Nat) (cs : List S42) (nc : Nat) (protos a b : Int) : mayI regs nu cs nc protos ⟨34, a, b⟩ = insK 8 regs nu nc cs protos a b := mF2 _ 34 a b regs (by decide) hr
theorem may35 (regs : Int) (hr : 0 ≤ regs ∧ regs ≤ 250) (nu : Nat) (cs : List S42) (nc : Nat) (protos a b : Int) : mayI regs nu cs nc protos ⟨35, a, b⟩ = insK 12 regs nu nc cs protos a b := mF1 _ 35 a b regs (by decide) hr
theorem may36 (regs : Int) (hr : 0 ≤ regs ∧ regs ≤ 250) (nu : Nat) (cs : List S42) (nc : Nat) (protos a b : Int) : mayI regs nu cs nc protos ⟨36, a, b⟩ = insK 14 regs nu nc cs protos a b := mF0 _ 36 a b regs (by decide) hr
theorem loop_all {α β : Type} {xs : List α} {ok : α → Bool} {bad r : β} {g : Nat → Int → Option β} {rest : Nat → Option β}
  (hstep : ∀ (k i : Nat) (h : i < xs.length), ok xs[i] = true → g (k + 1) i = g k ((i + 1 : Nat) : Int))
  (hbad : ∀ (k i : Nat) (h : i < xs.length), ok xs[i] = false → g (k + 1) i = some bad)
  (hend : ∀ k, g (k + 1) (xs.length : Int) = rest k) (hr : Ev rest r) : ∀ (d i : Nat), i + d = xs.length → Ev (fun k => g k i) (if (xs.drop i).all ok = true then r else bad)
 | 0, i, hi => by
  obtain rfl : i = xs.length := by omega
  rw [List.drop_length, List.all_nil, if_pos rfl]
  exact Ev.step (f := rest) hend hr
 | d + 1, i, hi => by
  have hlt : i < xs.length := by omega
  rw [List.drop_eq_getElem_cons hlt, List.all_cons]
  cases ho : ok xs[i] with
  | true =>
   rw [Bool.true_and]
   exact Ev.step (f := fun k => g k ((i + 1 : Nat) : Int)) (fun k => hstep k i hlt ho) (loop_all hstep hbad hend hr d (i + 1) (by omega))
  | false =>
   rw [Bool.false_and, if_neg (by decide)]
   exact Ev.step (f := fun _ => some bad) (fun k => hbad k i hlt ho) (Ev.now bad)
theorem loop_from {α β : Type} {xs : List α} {ok : α → Bool} {bad r : β} {g : Nat → Int → Option β} {rest : Nat → Option β}
  (hstep : ∀ (k i : Nat) (h : i < xs.length), ok xs[i] = true → g (k + 1) i = g k ((i + 1 : Nat) : Int))
  (hbad : ∀ (k i : Nat) (h : i < xs.length), ok xs[i] = false → g (k + 1) i = some bad)
  (hend : ∀ k, g (k + 1) (xs.length : Int) = rest k) (hr : Ev rest r) : Ev (fun k => g k 0) (if xs.all ok = true then r else bad) := by
 have := loop_all hstep hbad hend hr xs.length 0 (by omega)
 rwa [List.drop_zero] at this
theorem Ev.eq {α : Type} {g : Nat → Option α} {r s : α} (h : Ev g r) (e : r = s) : Ev g s := e ▸ h
theorem rd48 (l : List S50) (i : Nat) (h : i < l.length) : rd_T50 l i = l[i] := by
 unfold rd_T50; rw [List.getD_eq_getElem?_getD]; simp [h]
theorem rd46 (l : List S42) (i : Nat) (h : i < l.length) : rd_T42 l i = l[i] := by
 unfold rd_T42; rw [List.getD_eq_getElem?_getD]; simp [h]
theorem rd33 (l : List S52) (i : Nat) (h : i < l.length) : rd_T52 l i = l[i] := by
 unfold rd_T52; rw [List.getD_eq_getElem?_getD]; simp [h]
theorem rd41 (l : List S47) (i : Nat) (h : i < l.length) : rd_T47 l i = l[i] := by
 unfold rd_T47; rw [List.getD_eq_getElem?_getD]; simp [h]
theorem w_one {i : Nat} (h : i < 1000000) : wrap64 ((i : Int) + 1) = ((i + 1 : Nat) : Int) := by rw [w_sm (by omega)]; omega
def okU (u : S50) : Bool := decide (0 ≤ u.f1 ∧ u.f1 < (if u.f0 = true then 250 else 60))
def okC (c : S42) : Bool := (decide (c.f0 = 3) && decide (c.f2.toList = [])) || (decide (c.f0 = 5) && decide (c.f1 = 0))
def smC (c : S42) : Bool := decide ((c.f2.size : Int) ≤ 4096)
def okI (p1 : Int) (ups : List S50) (cs : List S42) (code : List S52) (protos : Int) (i : S52) : Bool := insK (grpOf i.f0) p1 ups.length code.length cs protos i.f1 i.f2
def protoS (p0 p1 : Int) (ups : List S50) (cs : List S42) (code : List S52) (first : Bool) (protos : Int) : Int :=
 if p0 < 0 ∨ p1 < 0 then 2 else if p0 > 20 ∨ p1 > 250 ∨ ups.length > 60 ∨ cs.length > 4096 ∨ code.length > 16384 then 3 else if p0 > p1 ∨ (first = true ∧ ups.length > 0) then 2
 else if ups.all okU = true then (if cs.all okC = true then (if cs.all smC = true then (if code.length = 0 then 2 else if code.all (okI p1 ups cs code protos) = true then 0 else 2) else 3) else 2) else 2
theorem okC_ite {γ : Type} (c : S42) (x y : γ) : (if c.f0 = 3 then (if c.f2.toList = ([] : List UInt8) then x else (if c.f0 = 5 then (if (c.f1 = 0) then x else y) else y)) else (if c.f0 = 5 then (if (c.f1 = 0) then x else y) else y)) = if okC c = true then x else y := by
 unfold okC
 by_cases h1 : c.f0 = 3
 ·rw [if_pos h1]
  by_cases h2 : c.f2.toList = ([] : List UInt8)
  ·rw [if_pos h2]; simp [h1, h2]
  rw [if_neg h2, if_neg (by omega)]; simp [h1, h2]
 rw [if_neg h1]
 by_cases h2 : c.f0 = 5
 case neg =>
  rw [if_neg h2]; simp [h1, h2]
 rw [if_pos h2]
 by_cases h3 : c.f1 = 0
 ·rw [if_pos h3]; simp [h2, h3]
 rw [if_neg h3]; simp [h2, h3]
theorem may_ok (p1 : Int) (hr : 0 ≤ p1 ∧ p1 ≤ 250) (ups : List S50) (cs : List S42) (code : List S52) (protos : Int) (i : S52) : mayI p1 ups.length cs code.length protos i = okI p1 ups cs code protos i := by
 obtain ⟨op, a, b⟩ := i
 by_cases h : 0 ≤ op ∧ op < 37
 case neg =>
  have e : mayI p1 ups.length cs code.length protos ⟨op, a, b⟩ = false := by unfold mayI; rw [if_neg h]
  have hg : grpOf op = 99 := by
   unfold grpOf
   repeat rw [if_neg (by omega)]
  rw [e]
  unfold okI
  show false = insK (grpOf op) _ _ _ _ _ _ _
  rw [hg]; rfl
 unfold okI
 rcases (by omega : op = 0 ∨ op = 1 ∨ op = 2 ∨ op = 3 ∨ op = 4 ∨ op = 5 ∨ op = 6 ∨ op = 7 ∨ op = 8 ∨ op = 9 ∨ op = 10 ∨ op = 11 ∨ op = 12 ∨ op = 13 ∨ op = 14 ∨ op = 15 ∨ op = 16 ∨ op = 17 ∨ op = 18 ∨ op = 19 ∨ op = 20 ∨ op = 21 ∨ op = 22 ∨ op = 23 ∨ op = 24 ∨ op = 25 ∨ op = 26 ∨ op = 27 ∨ op = 28 ∨ op = 29 ∨ op = 30 ∨ op = 31 ∨ op = 32 ∨ op = 33 ∨ op = 34 ∨ op = 35 ∨ op = 36) with rfl | rfl | rfl | rfl | rfl | rfl | rfl | rfl | rfl | rfl | rfl | rfl | rfl | rfl | rfl | rfl | rfl | rfl | rfl | rfl | rfl | rfl | rfl | rfl | rfl | rfl | rfl | rfl | rfl | rfl | rfl | rfl | rfl | rfl | rfl | rfl | rfl
 ·exact may0 p1 hr _ cs _ protos a b
 ·exact may1 p1 hr _ cs _ protos a b
 ·exact may2 p1 hr _ cs _ protos a b
 ·exact may3 p1 hr _ cs _ protos a b
 ·exact may4 p1 hr _ cs _ protos a b
 ·exact may5 p1 hr _ cs _ protos a b
 ·exact may6 p1 hr _ cs _ protos a b
 ·exact may7 p1 hr _ cs _ protos a b
 ·exact may8 p1 hr _ cs _ protos a b
 ·exact may9 p1 hr _ cs _ protos a b
 ·exact may10 p1 hr _ cs _ protos a b
 ·exact may11 p1 hr _ cs _ protos a b
 ·exact may12 p1 hr _ cs _ protos a b
 ·exact may13 p1 hr _ cs _ protos a b
 ·exact may14 p1 hr _ cs _ protos a b
 ·exact may15 p1 hr _ cs _ protos a b
 ·exact may16 p1 hr _ cs _ protos a b
 ·exact may17 p1 hr _ cs _ protos a b
 ·exact may18 p1 hr _ cs _ protos a b
 ·exact may19 p1 hr _ cs _ protos a b
 ·exact may20 p1 hr _ cs _ protos a b
 ·exact may21 p1 hr _ cs _ protos a b
 ·exact may22 p1 hr _ cs _ protos a b
 ·exact may23 p1 hr _ cs _ protos a b
 ·exact may24 p1 hr _ cs _ protos a b
 ·exact may25 p1 hr _ cs _ protos a b
 ·exact may26 p1 hr _ cs _ protos a b
 ·exact may27 p1 hr _ cs _ protos a b
 ·exact may28 p1 hr _ cs _ protos a b
 ·exact may29 p1 hr _ cs _ protos a b
 ·exact may30 p1 hr _ cs _ protos a b
 ·exact may31 p1 hr _ cs _ protos a b
 ·exact may32 p1 hr _ cs _ protos a b
 ·exact may33 p1 hr _ cs _ protos a b
 ·exact may34 p1 hr _ cs _ protos a b
 ·exact may35 p1 hr _ cs _ protos a b
 ·exact may36 p1 hr _ cs _ protos a b
theorem notAny_eq (p1 : Int) (hr : 0 ≤ p1 ∧ p1 ≤ 250) (ups : List S50) (cs : List S42) (code : List S52) (protos : Int) (hl : code.length ≤ 16384) : notAny p1 ups.length cs protos code = some (!code.all (okI p1 ups cs code protos)) := by
 unfold notAny
 rw [if_pos (by omega)]
 congr 1
 have e : (fun i => !mayI p1 ups.length cs code.length protos i) = fun i => !okI p1 ups cs code protos i := funext fun i => by rw [may_ok p1 hr]
 rw [e, List.any_eq_not_all_not]
 simp
def endT (p1 : Int) (ups : List S50) (cs : List S42) (code : List S52) (protos : Int) : Int := if code.length = 0 then 2 else if code.all (okI p1 ups cs code protos) = true then 0 else 2
theorem c_l1 (x1 p0 p1 : Int) (hr : 0 ≤ p1 ∧ p1 ≤ 250) (ups : List S50) (cs : List S42) (code : List S52) (protos : Int) (hl : code.length ≤ 16384) (hc : cs.length ≤ 4096) : ∀ (d i : Nat) (b : Bool), i + d = cs.length →
  Ev (fun k => fQ2.l1 k x1 b cs cs.length i p0 p1 ups cs code protos) (if (cs.drop i).all okC = true then (if (b || !(cs.drop i).all smC) = true then 3 else endT p1 ups cs code protos) else 2)
 | 0, i, b, hi => by
  obtain rfl : i = cs.length := by omega
  rw [List.drop_length, List.all_nil, List.all_nil, if_pos rfl]
  refine Ev.step (f := fun k => if b = true then some 3 else if (code.length : Int) = 0 then some 2 else (notAny p1 ups.length cs protos code).bind fun t => if t = true then some 2 else some 0) (fun k => by
   rw [fQ2.l1, if_neg (by omega)]) ?_
  cases b with
  | true => exact Ev.congr (fun k => by rw [if_pos rfl]) (Ev.now 3)
  | false =>
   rw [if_neg (by decide)]
   unfold endT
   by_cases h : code.length = 0
   ·rw [if_pos h]; exact Ev.congr (fun k => by rw [if_pos (by omega)]) (Ev.now 2)
   rw [if_neg h, notAny_eq p1 hr _ _ _ _ hl]
   cases code.all (okI p1 ups cs code protos) with
   | true => rw [if_pos rfl]; exact Ev.congr (fun k => by rw [if_neg (by omega), Option.bind_some, if_neg (by decide)]) (Ev.now 0)
   | false => exact Ev.congr (fun k => by rw [if_neg (by omega), Option.bind_some, if_pos (by decide)]) (Ev.now 2)
 | d + 1, i, b, hi => by
  have hlt : i < cs.length := by omega
  rw [List.drop_eq_getElem_cons hlt, List.all_cons, List.all_cons]
  have e0 : ∀ k, fQ2.l1 (k + 1) x1 b cs cs.length i p0 p1 ups cs code protos = if okC cs[i] = true then fQ2.l1 k x1 (b || !smC cs[i]) cs cs.length ((i + 1 : Nat) : Int) p0 p1 ups cs code protos else some 2 := fun k => by
   rw [fQ2.l1, if_pos (by omega), if_pos (by omega), if_pos (by omega), rd46 _ _ hlt, okC_ite, okC_ite, w_one (by omega)]
   cases b with
   | true => rw [if_pos rfl]; try rfl
   | false =>
    rw [if_neg (by decide)]
    have : (decide ((cs[i].f2.size : Int) > 4096)) = (false || !smC cs[i]) := by
     unfold smC
     rw [Bool.false_or, Bool.eq_iff_iff]; simp
    rw [this]
  cases ho : okC cs[i] with
  | true =>
   rw [Bool.true_and]
   refine Ev.step (f := fun k => fQ2.l1 k x1 (b || !smC cs[i]) cs cs.length ((i + 1 : Nat) : Int) p0 p1 ups cs code protos) (fun k => by rw [e0, ho, if_pos rfl]) ?_
   refine Ev.eq (c_l1 x1 p0 p1 hr ups cs code protos hl hc d (i + 1) _ (by omega)) ?_
   have : (b || !smC cs[i] || !(cs.drop (i + 1)).all smC) = (b || !(smC cs[i] && (cs.drop (i + 1)).all smC)) := by cases b <;> cases smC cs[i] <;> rfl
   rw [this]
  | false =>
   rw [Bool.false_and, if_neg (by decide)]
   exact Ev.step (f := fun _ => some 2) (fun k => by rw [e0, ho, if_neg (by decide)]) (Ev.now 2)
theorem c_l0 (x1 p0 p1 : Int) (hr : 0 ≤ p1 ∧ p1 ≤ 250) (ups : List S50) (cs : List S42) (code : List S52) (protos : Int) (hl : code.length ≤ 16384) (hc : cs.length ≤ 4096) (hu : ups.length ≤ 60) :
  Ev (fun k => fQ2.l0 k x1 ups ups.length 0 p0 p1 ups cs code protos) (if ups.all okU = true then (if cs.all okC = true then (if cs.all smC = true then endT p1 ups cs code protos else 3) else 2) else 2) :=
 loop_from (xs := ups) (g := fun k i => fQ2.l0 k x1 ups ups.length i p0 p1 ups cs code protos) (rest := fun k => fQ2.l1 k x1 false cs cs.length 0 p0 p1 ups cs code protos)
  (fun k i h ho => by
   show fQ2.l0 (k + 1) x1 ups ups.length i p0 p1 ups cs code protos = _
   rw [fQ2.l0, if_pos (by omega), if_pos (by omega), if_pos (by omega), rd48 _ _ h]
   unfold okU at ho
   cases hf : ups[i].f0 with
   | true => rw [hf, if_pos rfl] at ho; rw [if_pos rfl, among_eq, ho, Option.bind_some, if_pos rfl, if_pos rfl, w_one (by omega)]
   | false => rw [hf, if_neg (by decide)] at ho; rw [if_neg (by decide), if_neg (by decide), among_eq, ho, Option.bind_some, if_pos rfl, w_one (by omega)])
  (fun k i h ho => by
   show fQ2.l0 (k + 1) x1 ups ups.length i p0 p1 ups cs code protos = _
   rw [fQ2.l0, if_pos (by omega), if_pos (by omega), if_pos (by omega), rd48 _ _ h]
   unfold okU at ho
   cases hf : ups[i].f0 with
   | true => rw [hf, if_pos rfl] at ho; rw [if_pos rfl, among_eq, ho]; rfl
   | false => rw [hf, if_neg (by decide)] at ho; rw [if_neg (by decide), if_neg (by decide), among_eq, ho]; rfl)
  (fun k => by show fQ2.l0 (k + 1) x1 ups ups.length ups.length p0 p1 ups cs code protos = _; rw [fQ2.l0, if_neg (by omega)])
  (by
   have := c_l1 x1 p0 p1 hr ups cs code protos hl hc cs.length 0 false (by omega)
   rw [List.drop_zero] at this
   refine Ev.eq this ?_
   cases cs.all smC <;> rfl)
theorem c_proto (x1 p0 p1 : Int) (ups : List S50) (cs : List S42) (code : List S52) (first : Bool) (protos : Int) : Ev (fun k => fQ2.f k p0 p1 ups cs code protos x1 first) (protoS p0 p1 ups cs code first protos) := by
 have e : ∀ k, fQ2.f k p0 p1 ups cs code protos x1 first = fQ2.j0 k x1 first (decide (p0 < 0 ∨ p1 < 0)) p0 p1 ups cs code protos := fun k => by
  unfold fQ2.f
  by_cases h : p0 < 0
  ·rw [if_pos h, decide_eq_true (.inl h)]
  rw [if_neg h]; congr 1; rw [decide_eq_decide]; omega
 refine Ev.congr e ?_
 unfold protoS
 by_cases h0 : p0 < 0 ∨ p1 < 0
 ·rw [if_pos h0, decide_eq_true h0]
  exact Ev.step (f := fun _ => some 2) (fun k => by rw [fQ2.j0, if_pos rfl]) (Ev.now 2)
 rw [if_neg h0, decide_eq_false h0]
 refine Ev.step (f := fun k => fQ2.j1 k x1 first (decide (p0 > 20 ∨ p1 > 250 ∨ ups.length > 60 ∨ cs.length > 4096 ∨ code.length > 16384)) p0 p1 ups cs code protos) (fun k => by
  rw [fQ2.j0, if_neg (by decide)]
  by_cases h1 : p0 > 20
  ·rw [if_pos h1, decide_eq_true (.inl h1)]
  rw [if_neg h1]
  by_cases h2 : p1 > 250
  ·rw [if_pos h2, decide_eq_true (.inr (.inl h2))]
  rw [if_neg h2]
  by_cases h3 : (ups.length : Int) > 60
  ·rw [if_pos h3, decide_eq_true (.inr (.inr (.inl (by omega))))]
  rw [if_neg h3]
  by_cases h4 : (cs.length : Int) > 4096
  ·rw [if_pos h4, decide_eq_true (.inr (.inr (.inr (.inl (by omega)))))]
  rw [if_neg h4]; congr 1; rw [decide_eq_decide]; omega) ?_
 by_cases h1 : p0 > 20 ∨ p1 > 250 ∨ ups.length > 60 ∨ cs.length > 4096 ∨ code.length > 16384
 ·rw [if_pos h1, decide_eq_true h1]
  exact Ev.step (f := fun _ => some 3) (fun k => by rw [fQ2.j1, if_pos rfl]) (Ev.now 3)
 rw [if_neg h1, decide_eq_false h1]
 by_cases h2 : p0 > p1 ∨ (first = true ∧ ups.length > 0)
 ·rw [if_pos h2]
  refine Ev.step (f := fun _ => some 2) (fun k => ?_) (Ev.now 2)
  rw [fQ2.j1, if_neg (by decide)]
  by_cases h3 : p0 > p1
  ·rw [if_pos h3]
  rw [if_neg h3]
  have h4 := h2.resolve_left h3
  rw [if_pos h4.1, if_pos (by omega)]
 rw [if_neg h2]
 refine Ev.step (f := fun k => fQ2.j2 k x1 p0 p1 ups cs code protos) (fun k => by
  rw [fQ2.j1, if_neg (by decide), if_neg (fun h => h2 (.inl h))]
  by_cases hf : first = true
  ·rw [if_pos hf, if_neg (fun h => h2 (.inr ⟨hf, by omega⟩))]
  ·rw [if_neg hf]) ?_
 exact Ev.step (f := fun k => fQ2.l0 k x1 ups ups.length 0 p0 p1 ups cs code protos) (fun k => by rw [fQ2.j2]) (c_l0 x1 p0 p1 (by omega) ups cs code protos (by omega) (by omega) (by omega))
def checkS (l : List S47) : Int := if l.length = 0 then 2 else if l.length > 256 then 3 else
 let rec go : List S47 → Nat → Int
  | [], _ => 0
  | x :: r, i => let e := protoS x.f0 x.f1 x.f2 x.f3 x.f4 (i == 0) l.length; if e = 0 then go r (i + 1) else e
 go l 0
theorem c_check0 (l : List S47) (x1 : Int) (hl : l.length ≤ 256) : ∀ (d i : Nat), i + d = l.length → Ev (fun k => fQ16.l0 k x1 l l.length i l) (checkS.go l (l.drop i) i)
 | 0, i, hi => by
  obtain rfl : i = l.length := by omega
  rw [List.drop_length]
  exact Ev.step (f := fun _ => some 0) (fun k => by rw [fQ16.l0, if_neg (by omega)]) (Ev.now 0)
 | d + 1, i, hi => by
  have hlt : i < l.length := by omega
  rw [List.drop_eq_getElem_cons hlt]
  have hb : (((i : Nat) : Int) == 0) = (i == 0) := by rw [Bool.eq_iff_iff]; simp
  refine Ev.step (f := fun k => (fQ2.f k l[i].f0 l[i].f1 l[i].f2 l[i].f3 l[i].f4 l.length x1 (i == 0)).bind fun t => if t = 0 then fQ16.l0 k x1 l l.length ((i + 1 : Nat) : Int) l else some t) (fun k => by
   rw [fQ16.l0, if_pos (by omega), if_pos (by omega), if_pos (by omega), rd41 _ _ hlt, w_one (by omega), hb]) ?_
  refine Ev.bind (f := fun k t => if t = 0 then fQ16.l0 k x1 l l.length ((i + 1 : Nat) : Int) l else some t) (c_proto _ _ _ _ _ _ _ _) ?_
  unfold checkS.go
  by_cases he : protoS l[i].f0 l[i].f1 l[i].f2 l[i].f3 l[i].f4 (i == 0) l.length = 0
  case neg =>
   simp only [he, if_false]
   exact Ev.now _
  simp only [he, if_true]
  exact c_check0 l x1 hl d (i + 1) (by omega)
theorem c_check (l : List S47) : Ev (fun k => fQ16.f k l) (checkS l) := by
 unfold checkS
 by_cases h0 : l.length = 0
 ·rw [if_pos h0]; exact Ev.congr (f := fun _ => some 2) (fun k => by unfold fQ16.f; rw [if_pos (by omega)]) (Ev.now 2)
 rw [if_neg h0]
 by_cases h1 : l.length > 256
 ·rw [if_pos h1]; exact Ev.congr (f := fun _ => some 3) (fun k => by unfold fQ16.f; rw [if_neg (by omega), if_pos (by omega)]) (Ev.now 3)
 rw [if_neg h1]
 exact Ev.congr (f := fun k => fQ16.l0 k 0 l l.length 0 l) (fun k => by unfold fQ16.f; rw [if_neg (by omega), if_neg (by omega)]) (c_check0 l 0 (by omega) l.length 0 (by omega))
theorem w_one' {i : Nat} (h : i < 200000000000000) : wrap64 ((i : Int) + 1) = ((i + 1 : Nat) : Int) := by unfold wrap64; omega
theorem zip_from {α : Type} {xs ys : List α} (hl : xs.length = ys.length) (hm : xs.length ≤ 140737488351232) {n : α → α → Bool} {rd : List α → Int → α} (hrd : ∀ (l : List α) (i : Nat) (h : i < l.length), rd l i = l[i])
  {g : Nat → Int → Option Bool} {rest : Nat → Option Bool} {r : Bool}
  (hg : ∀ (k i : Nat), i < xs.length → g (k + 1) i = if n (rd xs i) (rd ys i) = true then some false else g k (wrap64 ((i : Int) + 1)))
  (hend : ∀ k, g (k + 1) (xs.length : Int) = rest k) (hr : Ev rest r) : Ev (fun k => g k 0) (if (xs.zip ys).all (fun p => !n p.1 p.2) = true then r else false) := by
 have hz : (xs.zip ys).length = xs.length := by rw [List.length_zip, ← hl, Nat.min_self]
 refine loop_from (xs := xs.zip ys) (ok := fun p => !n p.1 p.2) (g := g) (rest := rest) ?_ ?_ (by rw [hz]; exact hend) hr
 ·intro k i h ho
  have h1 : i < xs.length := by omega
  have h2 : i < ys.length := by omega
  rw [hg k i h1, hrd _ _ h1, hrd _ _ h2]
  have e : (xs.zip ys)[i] = (xs[i], ys[i]) := List.getElem_zip
  rw [e] at ho
  have : n xs[i] ys[i] = false := by simpa using ho
  rw [this, if_neg (by decide), w_one' (by omega)]
 ·intro k i h ho
  have h1 : i < xs.length := by omega
  have h2 : i < ys.length := by omega
  rw [hg k i h1, hrd _ _ h1, hrd _ _ h2]
  have e : (xs.zip ys)[i] = (xs[i], ys[i]) := List.getElem_zip
  rw [e] at ho
  have : n xs[i] ys[i] = true := by simpa using ho
  rw [this, if_pos rfl]
def n48 (a b : S50) : Bool := (!(a.f0 == b.f0)) || (!(a.f1 == b.f1))
def n46 (a b : S42) : Bool := (!(a.f0 == b.f0)) || ((!(a.f1 == b.f1)) || (!(a.f2.toList == b.f2.toList)))
def n33 (a b : S52) : Bool := (!(a.f0 == b.f0)) || ((!(a.f1 == b.f1)) || (!(a.f2 == b.f2)))
def eqZ {α : Type} (n : α → α → Bool) (xs ys : List α) : Bool := decide (xs.length = ys.length) && (xs.zip ys).all (fun p => !n p.1 p.2)
def sameP (x y : S47) : Bool := decide (x.f0 = y.f0) && (decide (x.f1 = y.f1) && (eqZ n48 x.f2 y.f2 && (eqZ n46 x.f3 y.f3 && eqZ n33 x.f4 y.f4)))
def inB (x : S47) : Prop := x.f2.length ≤ 140737488351232 ∧ x.f3.length ≤ 140737488351232 ∧ x.f4.length ≤ 140737488351232
theorem ite_tf (b : Bool) : (if b = true then true else false) = b := by cases b <;> rfl
theorem c48 (xs ys : List S50) (hm : xs.length ≤ 140737488351232) : Ev (fun k => api_Up_35.f k xs ys) (eqZ n48 xs ys) := by
 refine Ev.congr (f := fun k => (api_Up_64.f k xs ys).bind fun t => some t) (fun k => rfl) ?_
 refine Ev.bind (f := fun _ t => some t) (a := eqZ n48 xs ys) ?_ (Ev.now _)
 unfold eqZ
 by_cases hl : xs.length = ys.length
 case neg =>
  rw [decide_eq_false hl, Bool.false_and]
  exact Ev.congr (f := fun _ => some false) (fun k => by unfold api_Up_64.f; rw [if_neg (by omega)]) (Ev.now _)
 rw [decide_eq_true hl, Bool.true_and]
 refine Ev.congr (f := fun k => api_Up_64.l0 k xs ys xs.length 0) (fun k => by unfold api_Up_64.f; rw [if_pos (by omega)]) ?_
 refine Ev.eq (zip_from hl hm (n := n48) (rd := rd_T50) rd48 (g := fun k i => api_Up_64.l0 k xs ys xs.length i) (rest := fun _ => some true) (fun k i h => by
  show api_Up_64.l0 (k + 1) xs ys xs.length i = _
  rw [api_Up_64.l0, if_pos (by omega), if_pos (by omega), if_pos (by omega), if_pos (by omega)]; rfl) (fun k => by
  show api_Up_64.l0 (k + 1) xs ys xs.length xs.length = _
  rw [api_Up_64.l0, if_neg (by omega)]) (Ev.now true)) (ite_tf _)
theorem c46 (xs ys : List S42) (hm : xs.length ≤ 140737488351232) : Ev (fun k => api_Const_36.f k xs ys) (eqZ n46 xs ys) := by
 refine Ev.congr (f := fun k => (api_Const_65.f k xs ys).bind fun t => some t) (fun k => rfl) ?_
 refine Ev.bind (f := fun _ t => some t) (a := eqZ n46 xs ys) ?_ (Ev.now _)
 unfold eqZ
 by_cases hl : xs.length = ys.length
 case neg =>
  rw [decide_eq_false hl, Bool.false_and]
  exact Ev.congr (f := fun _ => some false) (fun k => by unfold api_Const_65.f; rw [if_neg (by omega)]) (Ev.now _)
 rw [decide_eq_true hl, Bool.true_and]
 refine Ev.congr (f := fun k => api_Const_65.l0 k xs ys xs.length 0) (fun k => by unfold api_Const_65.f; rw [if_pos (by omega)]) ?_
 refine Ev.eq (zip_from hl hm (n := n46) (rd := rd_T42) rd46 (g := fun k i => api_Const_65.l0 k xs ys xs.length i) (rest := fun _ => some true) (fun k i h => by
  show api_Const_65.l0 (k + 1) xs ys xs.length i = _
  rw [api_Const_65.l0, if_pos (by omega), if_pos (by omega), if_pos (by omega), if_pos (by omega)]; rfl) (fun k => by
  show api_Const_65.l0 (k + 1) xs ys xs.length xs.length = _
  rw [api_Const_65.l0, if_neg (by omega)]) (Ev.now true)) (ite_tf _)
theorem c33 (xs ys : List S52) (hm : xs.length ≤ 140737488351232) : Ev (fun k => api_Instr_37.f k xs ys) (eqZ n33 xs ys) := by
 refine Ev.congr (f := fun k => (api_Instr_66.f k xs ys).bind fun t => some t) (fun k => rfl) ?_
 refine Ev.bind (f := fun _ t => some t) (a := eqZ n33 xs ys) ?_ (Ev.now _)
 unfold eqZ
 by_cases hl : xs.length = ys.length
 case neg =>
  rw [decide_eq_false hl, Bool.false_and]
  exact Ev.congr (f := fun _ => some false) (fun k => by unfold api_Instr_66.f; rw [if_neg (by omega)]) (Ev.now _)
 rw [decide_eq_true hl, Bool.true_and]
 refine Ev.congr (f := fun k => api_Instr_66.l0 k xs ys xs.length 0) (fun k => by unfold api_Instr_66.f; rw [if_pos (by omega)]) ?_
 refine Ev.eq (zip_from hl hm (n := n33) (rd := rd_T52) rd33 (g := fun k i => api_Instr_66.l0 k xs ys xs.length i) (rest := fun _ => some true) (fun k i h => by
  show api_Instr_66.l0 (k + 1) xs ys xs.length i = _
  rw [api_Instr_66.l0, if_pos (by omega), if_pos (by omega), if_pos (by omega), if_pos (by omega)]; rfl) (fun k => by
  show api_Instr_66.l0 (k + 1) xs ys xs.length xs.length = _
  rw [api_Instr_66.l0, if_neg (by omega)]) (Ev.now true)) (ite_tf _)
theorem c_same1 (x y : S47) (hx : inB x) : Ev (fun k => fQ24.f k x.f0 x.f1 x.f2 x.f3 x.f4 y.f0 y.f1 y.f2 y.f3 y.f4) (sameP x y) := by
 unfold sameP
 by_cases h0 : x.f0 = y.f0
 case neg => rw [decide_eq_false h0, Bool.false_and]; exact Ev.congr (f := fun _ => some false) (fun k => by unfold fQ24.f; rw [if_neg h0]) (Ev.now _)
 rw [decide_eq_true h0, Bool.true_and]
 by_cases h1 : x.f1 = y.f1
 case neg => rw [decide_eq_false h1, Bool.false_and]; exact Ev.congr (f := fun _ => some false) (fun k => by unfold fQ24.f; rw [if_pos h0, if_neg h1]) (Ev.now _)
 rw [decide_eq_true h1, Bool.true_and]
 refine Ev.congr (f := fun k => (api_Up_35.f k x.f2 y.f2).bind fun t112 => (if t112 = true then ((api_Const_36.f k x.f3 y.f3).bind fun t113 => (if t113 = true then ((api_Instr_37.f k x.f4 y.f4).bind fun t114 => (some t114)) else (some false))) else (some false))) (fun k => by unfold fQ24.f; rw [if_pos h0, if_pos h1]) ?_
 refine Ev.bind (f := fun k t112 => (if t112 = true then ((api_Const_36.f k x.f3 y.f3).bind fun t113 => (if t113 = true then ((api_Instr_37.f k x.f4 y.f4).bind fun t114 => (some t114)) else (some false))) else (some false))) (c48 x.f2 y.f2 hx.1) ?_
 cases eqZ n48 x.f2 y.f2 with
 | false => exact Ev.congr (f := fun _ => some false) (fun k => by rw [if_neg (by decide)]) (Ev.now _)
 | true =>
  rw [Bool.true_and]
  refine Ev.congr (f := fun k => (api_Const_36.f k x.f3 y.f3).bind fun t113 => (if t113 = true then ((api_Instr_37.f k x.f4 y.f4).bind fun t114 => (some t114)) else (some false))) (fun k => by rw [if_pos rfl]) ?_
  refine Ev.bind (f := fun k t113 => (if t113 = true then ((api_Instr_37.f k x.f4 y.f4).bind fun t114 => (some t114)) else (some false))) (c46 x.f3 y.f3 hx.2.1) ?_
  cases eqZ n46 x.f3 y.f3 with
  | false => exact Ev.congr (f := fun _ => some false) (fun k => by rw [if_neg (by decide)]) (Ev.now _)
  | true =>
   rw [Bool.true_and]
   refine Ev.congr (f := fun k => (api_Instr_37.f k x.f4 y.f4).bind fun t114 => (some t114)) (fun k => by rw [if_pos rfl]) ?_
   exact Ev.bind (f := fun _ t => some t) (c33 x.f4 y.f4 hx.2.2) (Ev.now _)
def sameL (xs ys : List S47) : Bool := decide (xs.length = ys.length) && (xs.zip ys).all (fun p => sameP p.1 p.2)
theorem outer {xs ys : List S47} (hl : xs.length = ys.length) (hm : xs.length ≤ 140737488351232) {f : S47 → S47 → Nat → Option Bool} (hf : ∀ x ∈ xs, ∀ y, Ev (f x y) (sameP x y)) {g : Nat → Int → Option Bool}
  (hg : ∀ (k i : Nat) (h1 : i < xs.length) (h2 : i < ys.length), g (k + 1) i = (f xs[i] ys[i] k).bind fun t => if t = true then g k ((i + 1 : Nat) : Int) else some false) (hend : ∀ k, g (k + 1) (xs.length : Int) = some true) :
  ∀ (d i : Nat), i + d = xs.length → Ev (fun k => g k i) (((xs.zip ys).drop i).all fun p => sameP p.1 p.2)
 | 0, i, hi => by
  obtain rfl : i = xs.length := by omega
  rw [List.drop_eq_nil_of_le (by rw [List.length_zip]; omega)]
  exact Ev.step (f := fun _ => some true) hend (Ev.now _)
 | d + 1, i, hi => by
  have h1 : i < xs.length := by omega
  have h2 : i < ys.length := by omega
  have hz : i < (xs.zip ys).length := by rw [List.length_zip]; omega
  rw [List.drop_eq_getElem_cons hz, List.all_cons, List.getElem_zip]
  refine Ev.step (f := fun k => (f xs[i] ys[i] k).bind fun t => if t = true then g k ((i + 1 : Nat) : Int) else some false) (fun k => hg k i h1 h2) ?_
  refine Ev.bind (f := fun k t => if t = true then g k ((i + 1 : Nat) : Int) else some false) (hf xs[i] (List.getElem_mem h1) ys[i]) ?_
  show Ev _ (sameP xs[i] ys[i] && _)
  cases sameP xs[i] ys[i] with
  | false => exact Ev.congr (f := fun _ => some false) (fun k => by rw [if_neg (by decide)]) (Ev.now _)
  | true =>
   rw [Bool.true_and]
   exact Ev.congr (f := fun k => g k ((i + 1 : Nat) : Int)) (fun k => by rw [if_pos rfl]) (outer hl hm hf hg hend d (i + 1) (by omega))
theorem c_Same (xs ys : List S47) (hm : xs.length ≤ 140737488351232) (hx : ∀ x ∈ xs, inB x) : Ev (fun k => fQ25.f k xs ys) (sameL xs ys) := by
 refine Ev.congr (f := fun k => (api_Proto.f k xs ys 0).bind fun t => some t) (fun k => rfl) ?_
 refine Ev.bind (f := fun _ t => some t) (a := sameL xs ys) ?_ (Ev.now _)
 unfold sameL
 by_cases hl : xs.length = ys.length
 case neg => rw [decide_eq_false hl, Bool.false_and]; exact Ev.congr (f := fun _ => some false) (fun k => by unfold api_Proto.f; rw [if_neg (by omega)]) (Ev.now _)
 rw [decide_eq_true hl, Bool.true_and]
 refine Ev.congr (f := fun k => api_Proto.l0 k ys xs xs.length 0) (fun k => by unfold api_Proto.f; rw [if_pos (by omega)]) ?_
 have := outer hl hm (f := fun x y k => fQ24.f k x.f0 x.f1 x.f2 x.f3 x.f4 y.f0 y.f1 y.f2 y.f3 y.f4) (fun x h y => c_same1 x y (hx x h)) (g := fun k i => api_Proto.l0 k ys xs xs.length i) (fun k i h1 h2 => by
   show api_Proto.l0 (k + 1) ys xs xs.length i = _
   rw [api_Proto.l0, if_pos (by omega), if_pos (by omega), if_pos (by omega), if_pos (by omega), rd41 _ _ h1, rd41 _ _ h2, w_one' (by omega)]) (fun k => by
   show api_Proto.l0 (k + 1) ys xs xs.length xs.length = _
   rw [api_Proto.l0, if_neg (by omega)]) xs.length 0 (by omega)
 rw [List.drop_zero] at this
 exact this
theorem eqZ_self {α : Type} {n : α → α → Bool} (hn : ∀ a, n a a = false) (xs : List α) : eqZ n xs xs = true := by
 unfold eqZ
 rw [decide_eq_true rfl, Bool.true_and, List.all_eq_true]
 intro p hp
 have : p.1 = p.2 := by
  obtain ⟨i, hi, rfl⟩ := List.getElem_of_mem hp
  rw [List.getElem_zip]
 rw [this, hn]; rfl
theorem sameP_self (x : S47) : sameP x x = true := by
 unfold sameP
 rw [eqZ_self (by intro a; simp [n48]), eqZ_self (by intro a; simp [n46]), eqZ_self (by intro a; simp [n33])]
 simp
theorem sameL_self (xs : List S47) : sameL xs xs = true := by
 unfold sameL
 rw [decide_eq_true rfl, Bool.true_and, List.all_eq_true]
 intro p hp
 have : p.1 = p.2 := by
  obtain ⟨i, hi, rfl⟩ := List.getElem_of_mem hp
  rw [List.getElem_zip]
 rw [this]; exact sameP_self _
theorem go_zero (l : List S47) : ∀ (r : List S47) (i : Nat), checkS.go l r i = 0 ↔ ∀ j (h : j < r.length), protoS r[j].f0 r[j].f1 r[j].f2 r[j].f3 r[j].f4 (i + j == 0) l.length = 0
 | [], i => by simp [checkS.go]
 | x :: r, i => by
  unfold checkS.go
  constructor
  ·intro h j hj
   by_cases he : protoS x.f0 x.f1 x.f2 x.f3 x.f4 (i == 0) l.length = 0
   case neg =>
    rw [if_neg he] at h
    exact absurd h he
   rw [if_pos he] at h
   rcases j with _ | j
   ·simpa using he
   ·have h2 := (go_zero l r (i + 1)).1 h j (by simpa using hj)
    simpa [show i + (j + 1) = i + 1 + j by omega] using h2
  ·intro h
   have he : protoS x.f0 x.f1 x.f2 x.f3 x.f4 (i == 0) l.length = 0 := h 0 (Nat.zero_lt_succ _)
   rw [if_pos he]
   refine (go_zero l r (i + 1)).2 (fun j hj => ?_)
   have h2 := h (j + 1) (by simpa using hj)
   simpa [show i + (j + 1) = i + 1 + j by omega] using h2
def okAt (x : S47) (i n : Nat) : Prop := protoS x.f0 x.f1 x.f2 x.f3 x.f4 (i == 0) n = 0
theorem checkS_zero (l : List S47) : checkS l = 0 ↔ 0 < l.length ∧ l.length ≤ 256 ∧ ∀ j (h : j < l.length), okAt l[j] j l.length := by
 unfold checkS
 by_cases h0 : l.length = 0
 ·rw [if_pos h0]; constructor
  ·intro h; cases h
  ·intro h; omega
 rw [if_neg h0]
 by_cases h1 : l.length > 256
 ·rw [if_pos h1]; constructor
  ·intro h; cases h
  ·intro h; omega
 rw [if_neg h1, go_zero]
 constructor
 ·intro h
  exact ⟨by omega, by omega, fun j hj => by have := h j hj; simpa [okAt] using this⟩
 ·intro h j hj
  have := h.2.2 j hj
  simpa [okAt] using this
theorem protoS_zero (p0 p1 : Int) (ups : List S50) (cs : List S42) (code : List S52) (first : Bool) (protos : Int) : protoS p0 p1 ups cs code first protos = 0 ↔
  (0 ≤ p0 ∧ p0 ≤ 20 ∧ p0 ≤ p1 ∧ p1 ≤ 250 ∧ ups.length ≤ 60 ∧ cs.length ≤ 4096 ∧ code.length ≤ 16384 ∧ ¬(first = true ∧ ups.length > 0)) ∧ ups.all okU = true ∧ cs.all okC = true ∧ cs.all smC = true ∧ 0 < code.length ∧ code.all (okI p1 ups cs code protos) = true := by
 unfold protoS
 by_cases a1 : p0 < 0 ∨ p1 < 0
 ·rw [if_pos a1]; exact ⟨(fun h => by cases h), fun h => by omega⟩
 rw [if_neg a1]
 by_cases a2 : p0 > 20 ∨ p1 > 250 ∨ ups.length > 60 ∨ cs.length > 4096 ∨ code.length > 16384
 ·rw [if_pos a2]; exact ⟨(fun h => by cases h), fun h => by omega⟩
 rw [if_neg a2]
 by_cases a3 : p0 > p1 ∨ (first = true ∧ ups.length > 0)
 ·rw [if_pos a3]; exact ⟨(fun h => by cases h), fun h => (a3.elim (fun e => by omega) (fun e => h.1.2.2.2.2.2.2.2 e)).elim⟩
 rw [if_neg a3]
 by_cases a4 : ups.all okU = true
 case neg =>
  rw [if_neg a4]; exact ⟨(fun h => by cases h), fun h => absurd h.2.1 a4⟩
 rw [if_pos a4]
 by_cases a5 : cs.all okC = true
 case neg =>
  rw [if_neg a5]; exact ⟨(fun h => by cases h), fun h => absurd h.2.2.1 a5⟩
 rw [if_pos a5]
 by_cases a6 : cs.all smC = true
 case neg =>
  rw [if_neg a6]; exact ⟨(fun h => by cases h), fun h => absurd h.2.2.2.1 a6⟩
 rw [if_pos a6]
 by_cases a7 : code.length = 0
 ·rw [if_pos a7]; exact ⟨(fun h => by cases h), fun h => by omega⟩
 rw [if_neg a7]
 by_cases a8 : code.all (okI p1 ups cs code protos) = true
 case neg =>
  rw [if_neg a8]; exact ⟨(fun h => by cases h), fun h => absurd h.2.2.2.2.2 a8⟩
 rw [if_pos a8]
 exact ⟨fun _ => ⟨⟨by omega, by omega, by omega, by omega, by omega, by omega, by omega, fun e => a3 (.inr e)⟩, a4, a5, a6, by omega, a8⟩, fun _ => rfl⟩
end Go.Proofs.Ytkkgbbfojmnopaa.Z
end
