import Derived.Test.YtilmmmpbcgobaaaDoorPKnGx0
import Derived.Test.YtilmmmpbcgobaaaDoorPKnGxF21
set_option linter.unusedVariables false
set_option linter.unusedSimpArgs false
section
namespace Go.Proofs.YtilmmmpbcgobaaaDoor.G
open Go.RowKit Go.Proofs.YtilmmmpbcgobaaaDoorW.PrintWords Go.Proofs.YtilmmmpbcgobaaaDoorW.PrintLast Go.Proofs.YtilmmmpbcgobaaaDoorW.PrintMore
attribute [local go_sem] max2_int min2_int max_two min_two max_three min_three max_four min_four
set_option linter.unusedVariables false
set_option linter.unusedSimpArgs false
def firstN (name : ByteArray) : List ByteArray → Int → Int
  | [], _ => -1
  | x :: l, k => if (x.toList == name.toList) = true then k else firstN name l (k + 1)
def num_Op.f (a0 : ByteArray) : Option Int := some (firstN a0 signsL 0)
set_option maxHeartbeats 4000000 in
set_option maxRecDepth 100000 in
theorem num_Op.calls (a0 : ByteArray) (r : Int) (w : World) (hL : LaidS w) (h : num_Op.f a0 = some r) :
    Calls Tryd.prog 23 #[.string a0] w fun e w' => e = .returned (.int .i64 r) ∧ Below w.heap.size w w' := by
  have HL := Aside0.mk hL
  obtain rfl := Option.some.inj h
  clear hL h
  go_enter Tryd.func23, Tryd.ntmps23
  go_wp2_with fail
  go_loopw [4] (fun v wr => ∃ k : Nat, v = .int .i64 k ∧ k ≤ 10 ∧ firstN a0 (signsL.drop k) k = firstN a0 signsL 0 ∧ Below w.heap.size w wr) (fun v _ => 10 - (intOf v).toNat)
  case atStart => exact ⟨0, rfl, Nat.zero_le _, rfl, Below.refl _ _⟩
  case round =>
    obtain ⟨k, rfl, hk, hidx, hbel⟩ := hrel
    have HI := Aside0.mk hidx
    have HBL := Aside0.mk hbel
    have HTr := Aside0.mk (LaidS.below hbel HL.out)
    clear hidx hbel
    by_cases hlt : k < 10
    · have hln : signsL.length = 10 := rfl
      obtain ⟨s, hs⟩ : ∃ s, signsL[k]? = some s := ⟨_, List.getElem?_eq_getElem (by omega)⟩
      have hx : signsL.drop k = s :: signsL.drop (k + 1) := by
        obtain ⟨hl, he⟩ := List.getElem?_eq_some_iff.1 hs
        rw [List.drop_eq_getElem_cons hl, he]
      have HX := Aside0.mk hx
      have HV := Aside0.mk (signsV_at k s hs)
      clear hx hs hln
      go_wp2_with fail
      refine (signs_any _ HTr.out.spc).mono ?_
      rintro e w8 ⟨b, rfl, hb8, hkb⟩
      have hc : w8.cell? ⟨b, k, none⟩ = some (.string s) := (blk_cell hkb k).trans HV.out
      clear hkb
      cases hpx : (s.toList == a0.toList) with
      | true =>
        have hz := Aside0.mk (show firstN a0 signsL 0 = k by rw [← HI.out, HX.out]; show (if (s.toList == a0.toList) = true then (k : Int) else _) = k; rw [if_pos hpx])
        have HB8 := Aside0.mk (HBL.out.trans (hb8.mono HBL.out.size))
        clear hb8
        go_wp2_with fail
        go_ret
        exact ⟨by rw [hz.out]; rfl, by repeat (first | exact HB8.out | apply pw_below_drewN | apply below_drew1)⟩
      | false =>
        have hz := Aside0.mk (show firstN a0 (signsL.drop (k + 1)) ((k + 1 : Nat) : Int) = firstN a0 signsL 0 by
          rw [← HI.out, HX.out]
          show _ = (if (s.toList == a0.toList) = true then (k : Int) else firstN a0 (signsL.drop (k + 1)) ((k : Int) + 1))
          rw [if_neg (by rw [hpx]; decide)]
          rfl)
        have HB8 := Aside0.mk (HBL.out.trans (hb8.mono HBL.out.size))
        clear hb8
        go_wp2_with fail
        go_roundw
        case rel => exact ⟨k + 1, by simp, hlt, hz.out, by repeat (first | exact HB8.out | apply pw_below_drewN | apply below_drew1)⟩
        case measure => simp [intOf]; omega
    · have hk37 : k = 10 := by omega
      subst hk37
      have hz := Aside0.mk (show firstN a0 signsL 0 = -1 by rw [← HI.out]; rfl)
      go_wp2_with fail
      go_ret
      exact ⟨by rw [hz.out]; rfl, by repeat (first | exact HBL.out | apply pw_below_drewN | apply below_drew1)⟩
end Go.Proofs.YtilmmmpbcgobaaaDoor.G
end
