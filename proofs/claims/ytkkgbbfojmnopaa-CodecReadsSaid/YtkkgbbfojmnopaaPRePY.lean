import Derived.Test.YtkkgbbfojmnopaaPRePX
import Derived.Test.YtkkgbbfojmnopaaPRePS
import Derived.Test.YtkkgbbfojmnopaaPReGxF4
import Derived.Test.YtkkgbbfojmnopaaPRePJ
set_option linter.unusedVariables false
set_option linter.unusedSimpArgs false
section
namespace Go.Proofs.Ytkkgbbfojmnopaa.Z
open Go.RowKit Go.Proofs.Ytkkgbbfojmnopaa.G Go.Proofs.YtkkgbbfojmnopaaW.PrintWords Go.Proofs.YtkkgbbfojmnopaaW.PrintLast Go.Proofs.YtkkgbbfojmnopaaW.PrintMore
theorem decS_in (s : ByteArray) : (decS s).1.length ≤ 140737488351232 ∧ ∀ x ∈ (decS s).1, inB x := by
 rcases dec_no (s := s) with h | ⟨l, h, _, _, hc, hi⟩
 ·rw [h]; exact ⟨by decide, fun x hx => by cases hx⟩
 ·rw [h]
  obtain ⟨h1, h2⟩ := fine_all hc hi
  refine ⟨by show l.length ≤ _; omega, fun x hx => ?_⟩
  have hok := codP_ok (h2 x hx)
  exact ⟨Nat.le_trans hok.1.2.2.1.1 (by decide), Nat.le_trans hok.1.2.2.2.1.1 (by decide), Nat.le_trans hok.1.2.2.2.2.1 (by decide)⟩
theorem reads_ev (a0 : ByteArray) (h : a0.size ≤ 140737488351232) : Ev (fun k => fQ19.f k a0) true := by
 have h1 : 0 ≤ mn (a0.size : Int) 6000 := by unfold mn; split <;> omega
 have h2 : mn (a0.size : Int) 6000 ≤ (a0.size : Int) := by unfold mn; split <;> omega
 unfold fQ19.f
 simp only [if_pos h1, if_pos h2]
 generalize a0.extract 0 (mn (a0.size : Int) 6000).toNat = s
 obtain ⟨i1, i2⟩ := decS_in s
 refine Ev.bind (dec_ok s) ?_
 refine Ev.bind (decode_ev s) ?_
 refine Ev.bind (Ev.eq (r_Same _ _ i1 i2) (sameL_self _)) ?_
 exact Ev.congr (f := fun k => (fQ11.f k).bind fun t => some t) (fun k => by simp only [if_true]) (Ev.bind (f := fun _ t => some t) works_ok (Ev.now _))
theorem codecReads (a0 : ByteArray) (h : a0.size ≤ 140737488351232) : ∃ k, fQ19.f k a0 = some true := (reads_ev a0 h).rounds
end Go.Proofs.Ytkkgbbfojmnopaa.Z
end
