import Derived.WalkKit
import Derived.WalkLawsBesides
import Derived.Deep.RegionLaw
import Derived.Deep.Cut
import Derived.WalkSpells
import Derived.Recover
import Derived.Laws.Bits64b
import Derived.Test.YtkkgbbfojmnopaaPKnE2
set_option linter.unusedVariables false
set_option linter.unusedSimpArgs false
section
namespace Go.Proofs.Ytkkgbbfojmnopaa.G
open Go.RowKit Go.Proofs.YtkkgbbfojmnopaaW.PrintWords Go.Proofs.YtkkgbbfojmnopaaW.PrintLast Go.Proofs.YtkkgbbfojmnopaaW.PrintMore
set_option linter.unusedVariables false
set_option linter.unusedSimpArgs false
def NatR (base p : Nat) (l : List UInt8) (m : Nat) (w : World) (e : Ending) (w' : World) : Prop := match (Cod.nat m).dec l with
  | some (n, r) => ∃ s' : ByteArray, s'.data.toList = r ∧ e = .returned (.int .i64 n) ∧ w' = w.setCell ⟨p, 0, none⟩ (.string s')
  | none => e = .panicked wrongP ∧ Below base w w' ∧ KeepBut w w' p none
theorem nat_dec (m : Nat) (l : List UInt8) : (Cod.nat m).dec l = (match number l with | some (x, r) => if decide (x ≤ m) = true then some (x, r) else none | none => none) := by
  show (Cod.only Cod.num _).dec l = _
  unfold Cod.only Cod.num
  simp only
  cases number l <;> rfl
theorem nat_none {l : List UInt8} (m : Nat) (h : number l = none) : (Cod.nat m).dec l = none := by rw [nat_dec, h]
theorem nat_some {l r : List UInt8} {n : Nat} (m : Nat) (h : number l = some (n, r)) : (Cod.nat m).dec l = if n ≤ m then some (n, r) else none := by
  rw [nat_dec, h]
  by_cases hm : n ≤ m
  · rw [if_pos hm]; simp [hm]
  · rw [if_neg hm]; simp [hm]
set_option maxHeartbeats 1000000 in
theorem natural_any (base p : Nat) (s : ByteArray) (l : List UInt8) (m : Nat) (w : World) (hc : w.heap[p]? = some (.cells #[.string s] 63 (0, 0))) (hs : s.data.toList = l) (hl : l.length ≤ 10000000) (hp : base ≤ p) (hm : m ≤ 10000000) :
    Calls Try.prog 43 #[.pointer (some ⟨p, 0, none⟩), .int .i64 m] w fun e w' => NatR base p l m w e w' := by
  have HC := Aside0.mk hc
  have HS := Aside0.mk hs
  clear hc hs
  go_enter Try.func43, Try.ntmps43
  go_wp2_with fail
  refine (number_any p s l w HC.out HS.out hl).mono ?_
  intro e w1 h1
  unfold NumR at h1
  cases hn : number l with
  | none =>
    rw [hn] at h1
    obtain ⟨rfl, rfl⟩ := h1
    exact ⟨rfl, by unfold NatR; rw [nat_none m hn]; exact ⟨rfl, Below.refl _ _, KeepBut.refl _ _ _⟩⟩
  | some x =>
    obtain ⟨n, r⟩ := x
    rw [hn] at h1
    obtain ⟨s', hs', rfl, rfl⟩ := h1
    have HN := Aside0.mk (nat_some m hn)
    have hn64 := (Cod.num.un l n r hn).1
    have HN64 := Aside0.mk (show n < 2 ^ 64 from hn64)
    have HB := Aside0.mk ((Below.refl base w).setCell (p := ⟨p, 0, none⟩) hp (.string s'))
    have HK := Aside0.mk ((KeepBut.refl w p none).set_ 0 (.string s'))
    clear hn hn64
    obtain ⟨w2, hw2⟩ : ∃ x, x = w.setCell ⟨p, 0, none⟩ (.string s') := ⟨_, rfl⟩
    rw [← hw2] at HB HK ⊢
    have HW := Aside0.mk hw2
    clear hw2
    go_wp2_with fail
    refine (need_any _ _).mono ?_
    rintro e w3 ⟨rfl, he⟩
    by_cases hnm : n ≤ m
    · rw [decide_eq_true hnm, if_pos rfl] at he
      subst he
      have hd : (Cod.nat m).dec l = some (n, r) := by rw [HN.out, if_pos hnm]
      have hn7 : n ≤ 10000000 := by omega
      go_wp2_with fail
      go_ret
      unfold NatR
      rw [hd]
      exact ⟨s', hs', rfl, HW.out⟩
    · rw [decide_eq_false hnm, if_neg (by decide)] at he
      subst he
      have hd : (Cod.nat m).dec l = none := by rw [HN.out, if_neg hnm]
      exact ⟨rfl, by unfold NatR; rw [hd]; exact ⟨rfl, HB.out, HK.out⟩⟩
end Go.Proofs.Ytkkgbbfojmnopaa.G
end
