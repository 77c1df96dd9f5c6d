import Derived.Test.YtkkgbbfojmnopaaPRePC
import Derived.Test.YtkkgbbfojmnopaaPReGxF15
set_option linter.unusedVariables false
set_option linter.unusedSimpArgs false
section
namespace Go.Proofs.Ytkkgbbfojmnopaa.Z
open Go.RowKit Go.Proofs.Ytkkgbbfojmnopaa.G Go.Proofs.YtkkgbbfojmnopaaW.PrintWords Go.Proofs.YtkkgbbfojmnopaaW.PrintLast Go.Proofs.YtkkgbbfojmnopaaW.PrintMore
theorem r_same (x y : S47) (hx : inB x) : Ev (fun k => fQ5.f k x.f0 x.f1 x.f2 x.f3 x.f4 y.f0 y.f1 y.f2 y.f3 y.f4) (sameP x y) := by
 refine Ev.congr (g := fun k => fQ5.f k x.f0 x.f1 x.f2 x.f3 x.f4 y.f0 y.f1 y.f2 y.f3 y.f4) (f := fun k => fQ5.j0 k (!(decide (x.f0 = y.f0 ∧ x.f1 = y.f1 ∧ x.f2.length = y.f2.length ∧ x.f3.length = y.f3.length ∧ x.f4.length = y.f4.length))) x.f0 x.f1 x.f2 x.f3 x.f4 y.f0 y.f1 y.f2 y.f3 y.f4) (fun k => by
  unfold fQ5.f
  by_cases h0 : x.f0 = y.f0
  case neg => rw [if_neg h0, decide_eq_false (fun h => h0 h.1)]; rfl
  rw [if_pos h0]
  by_cases h1 : x.f1 = y.f1
  case neg => rw [if_neg h1, decide_eq_false (fun h => h1 h.2.1)]; rfl
  rw [if_pos h1]
  by_cases h2 : x.f2.length = y.f2.length
  case neg => rw [if_neg (by omega), decide_eq_false (fun h => h2 h.2.2.1)]; rfl
  rw [if_pos (by omega)]
  by_cases h3 : x.f3.length = y.f3.length
  case neg => rw [if_neg (by omega), decide_eq_false (fun h => h3 h.2.2.2.1)]; rfl
  rw [if_pos (by omega)]
  congr 1
  rw [Bool.eq_iff_iff]; simp [h0, h1, h2, h3]; omega) ?_
 by_cases hall : x.f0 = y.f0 ∧ x.f1 = y.f1 ∧ x.f2.length = y.f2.length ∧ x.f3.length = y.f3.length ∧ x.f4.length = y.f4.length
 case neg =>
  rw [decide_eq_false hall]
  have e : sameP x y = false := by
   rw [Bool.eq_false_iff]; intro h; apply hall
   unfold sameP eqZ at h
   simp at h
   exact ⟨h.1, h.2.1, h.2.2.1.1, h.2.2.2.1.1, h.2.2.2.2.1⟩
  rw [e]
  exact Ev.step (f := fun _ => some false) (fun k => by rw [fQ5.j0]; rfl) (Ev.now _)
 rw [decide_eq_true hall]
 obtain ⟨h0, h1, h2, h3, h4⟩ := hall
 refine Ev.step (f := fun k => fQ5.l0 k 0 x.f0 x.f1 x.f2 x.f3 x.f4 y.f0 y.f1 y.f2 y.f3 y.f4) (fun k => by rw [fQ5.j0]; rfl) ?_
 have e : sameP x y = (if (x.f2.zip y.f2).all (fun p => !n48 p.1 p.2) = true then (if (x.f3.zip y.f3).all (fun p => !n46 p.1 p.2) = true then (if (x.f4.zip y.f4).all (fun p => !n33 p.1 p.2) = true then true else false) else false) else false) := by
  unfold sameP eqZ
  rw [decide_eq_true h0, decide_eq_true h1, decide_eq_true h2, decide_eq_true h3, decide_eq_true h4]
  generalize (x.f2.zip y.f2).all (fun p => !n48 p.1 p.2) = a
  generalize (x.f3.zip y.f3).all (fun p => !n46 p.1 p.2) = b
  generalize (x.f4.zip y.f4).all (fun p => !n33 p.1 p.2) = c
  cases a <;> cases b <;> cases c <;> rfl
 rw [e]
 refine zip_from h2 hx.1 (n := n48) (rd := rd_T50) rd48 (g := fun k i => fQ5.l0 k i x.f0 x.f1 x.f2 x.f3 x.f4 y.f0 y.f1 y.f2 y.f3 y.f4) (rest := fun k => fQ5.l1 k 0 x.f0 x.f1 x.f2 x.f3 x.f4 y.f0 y.f1 y.f2 y.f3 y.f4) (fun k i h => by
   show fQ5.l0 (k + 1) i x.f0 x.f1 x.f2 x.f3 x.f4 y.f0 y.f1 y.f2 y.f3 y.f4 = _
   rw [fQ5.l0, if_pos (by omega), if_pos (by omega), if_pos (by omega)]; rfl) (fun k => by
   show fQ5.l0 (k + 1) x.f2.length x.f0 x.f1 x.f2 x.f3 x.f4 y.f0 y.f1 y.f2 y.f3 y.f4 = _
   rw [fQ5.l0, if_neg (by omega)]) ?_
 refine zip_from h3 hx.2.1 (n := n46) (rd := rd_T42) rd46 (g := fun k i => fQ5.l1 k i x.f0 x.f1 x.f2 x.f3 x.f4 y.f0 y.f1 y.f2 y.f3 y.f4) (rest := fun k => fQ5.l2 k 0 x.f0 x.f1 x.f2 x.f3 x.f4 y.f0 y.f1 y.f2 y.f3 y.f4) (fun k i h => by
   show fQ5.l1 (k + 1) i x.f0 x.f1 x.f2 x.f3 x.f4 y.f0 y.f1 y.f2 y.f3 y.f4 = _
   rw [fQ5.l1, if_pos (by omega), if_pos (by omega), if_pos (by omega)]; rfl) (fun k => by
   show fQ5.l1 (k + 1) x.f3.length x.f0 x.f1 x.f2 x.f3 x.f4 y.f0 y.f1 y.f2 y.f3 y.f4 = _
   rw [fQ5.l1, if_neg (by omega)]) ?_
 exact zip_from h4 hx.2.2 (n := n33) (rd := rd_T52) rd33 (g := fun k i => fQ5.l2 k i x.f0 x.f1 x.f2 x.f3 x.f4 y.f0 y.f1 y.f2 y.f3 y.f4) (rest := fun k => some true) (fun k i h => by
   show fQ5.l2 (k + 1) i x.f0 x.f1 x.f2 x.f3 x.f4 y.f0 y.f1 y.f2 y.f3 y.f4 = _
   rw [fQ5.l2, if_pos (by omega), if_pos (by omega), if_pos (by omega)]; rfl) (fun k => by
   show fQ5.l2 (k + 1) x.f4.length x.f0 x.f1 x.f2 x.f3 x.f4 y.f0 y.f1 y.f2 y.f3 y.f4 = _
   rw [fQ5.l2, if_neg (by omega)]) (Ev.now true)
theorem r_Same (xs ys : List S47) (hm : xs.length ≤ 140737488351232) (hx : ∀ x ∈ xs, inB x) : Ev (fun k => fQ7.f k xs ys) (sameL xs ys) := by
 unfold sameL
 by_cases hl : xs.length = ys.length
 case neg => rw [decide_eq_false hl, Bool.false_and]; exact Ev.congr (f := fun _ => some false) (fun k => by unfold fQ7.f; rw [if_neg (by omega)]) (Ev.now _)
 rw [decide_eq_true hl, Bool.true_and]
 refine Ev.congr (f := fun k => fQ7.l0 k 0 xs ys) (fun k => by unfold fQ7.f; rw [if_pos (by omega)]) ?_
 have := outer hl hm (f := fun x y k => fQ5.f k x.f0 x.f1 x.f2 x.f3 x.f4 y.f0 y.f1 y.f2 y.f3 y.f4) (fun x h y => r_same x y (hx x h)) (g := fun k i => fQ7.l0 k i xs ys) (fun k i h1 h2 => by
   show fQ7.l0 (k + 1) i xs ys = _
   rw [fQ7.l0, if_pos (by omega), if_pos (by omega), if_pos (by omega), rd41 _ _ h1, rd41 _ _ h2, w_one' (by omega)]) (fun k => by
   show fQ7.l0 (k + 1) xs.length xs ys = _
   rw [fQ7.l0, if_neg (by omega)]) xs.length 0 (by omega)
 rw [List.drop_zero] at this
 exact this
end Go.Proofs.Ytkkgbbfojmnopaa.Z
end
