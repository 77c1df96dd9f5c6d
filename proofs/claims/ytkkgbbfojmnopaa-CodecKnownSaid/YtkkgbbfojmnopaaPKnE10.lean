import Derived.WalkKit
import Derived.WalkLawsBesides
import Derived.Deep.RegionLaw
import Derived.Deep.Cut
import Derived.WalkSpells
import Derived.Recover
import Derived.Laws.Bits64b
import Derived.Test.YtkkgbbfojmnopaaPKnE9
set_option linter.unusedVariables false
set_option linter.unusedSimpArgs false
section
namespace Go.Proofs.Ytkkgbbfojmnopaa.G
open Go.RowKit Go.Proofs.YtkkgbbfojmnopaaW.PrintWords Go.Proofs.YtkkgbbfojmnopaaW.PrintLast Go.Proofs.YtkkgbbfojmnopaaW.PrintMore
set_option linter.unusedVariables false
set_option linter.unusedSimpArgs false
set_option maxHeartbeats 1000000 in
theorem list26_any (p : Nat) (l : List UInt8) (w : World) (h : Rdr p l w) :
    Calls Try.prog 26 #[.pointer (some ⟨p, 0, none⟩), .int .i64 256, .func (.func 27) #[.pointer (some ⟨p, 0, none⟩)] #[]] w fun e w' => RdE p (Cod.list 256 (by decide) codP).dec (Ls k47 47) l w e w' := by
  have HR := Aside0.mk h
  have hlt : p < w.heap.size := h.lt
  clear h
  go_enter Try.func26, Try.ntmps26
  go_wp2_with fail
  refine (natural_rd p l 256 w HR.out (by decide)).mono ?_
  intro e w1 h1
  rcases h1.elim with ⟨n, r, v, hd, rfl, rfl, ha⟩ | ⟨hd, rfl, hb, hk⟩
  · have HD := Aside0.mk hd
    have HA := Aside0.mk ha
    have hn : n ≤ 256 := Cod.nat_le hd
    have HL := Aside0.mk (show r.length ≤ 10000000 from Nat.le_trans (Cod.len _ hd) HR.out.len)
    clear hd ha h1
    go_wp2_with fail
    go_loopw [7, 11] (fun v7 v11 wr => ∃ (i : Nat) (xs : List S47) (ri : List UInt8), v11 = .int .i64 (i : Int) ∧ i ≤ n ∧ xs.length = i ∧ Aside0 (Kd.N k47 47 wr w.heap.size (fun k => w.heap.size ≤ k) v7 xs) ∧ Aside0 (Aft p w ri wr) ∧ Aside0 (Cod.RepAt codP n r i xs ri) ∧ Aside0 (ri.length ≤ 10000000)) (fun _ v11 _ => n - (intOf v11).toNat)
    case atStart => exact ⟨0, [], r, rfl, Nat.zero_le _, rfl, ⟨Kd.N_nil _ _ _ _ _⟩, HA, ⟨Cod.RepAt.zero _ _ _⟩, HL⟩
    case round =>
      obtain ⟨i, xs, ri, rfl, hi, hxs, HN, HAr, HP, HLr⟩ := hrel
      by_cases hin : (i : Int) < (n : Int)
      · go_wp2_with fail
        refine (proto_any p ri wr (HAr.out.rdr HLr.out)).mono ?_
        intro e w2 h2
        rcases h2.elim with ⟨x, r2, v, hd2, rfl, ⟨cs, rfl, hfk⟩, ha⟩ | ⟨hd2, rfl, hb, hk⟩
        · obtain ⟨A2, c2, A3, c3, A4, c4, rfl, _⟩ := k47_openF hfk
          have HF := Aside0.mk hfk
          have HA2 := Aside0.mk (HAr.out.trans ha)
          have HN2 := Aside0.mk (Kd.N_keep HN.out ha.keep (fun k hk => by omega))
          have HP2 := Aside0.mk (HP.out.step (by omega) hd2)
          have HL2 := Aside0.mk (show r2.length ≤ 10000000 from Nat.le_trans (Cod.len _ hd2) HLr.out)
          have HW := Aside0.mk (show w.heap.size ≤ wr.heap.size from HAr.out.keep.1)
          have HW2 := Aside0.mk (show w.heap.size ≤ w2.heap.size from HA2.out.keep.1)
          have HO := Aside0.mk (Kd.N_lt HN.out)
          clear hfk ha hd2 h2
          go_wp2_with (at_builtin; (refine Kd.N_append k47 (w0 := w2) w.heap.size rfl (.tmp 13) (.tmp 16) 22 47 (.agg #[(.int .i64 0), (.int .i64 0), (.slice none 0 0), (.slice none 0 0), (.slice none 0 0)]) 88 rfl Try.underlying22 info47 rfl (by decide) (by decide) u7 xs x [.int .i64 x.f0, .int .i64 x.f1, .slice A2 x.f2.length c2, .slice A3 x.f3.length c3, .slice A4 x.f4.length c4] (fun k => w.heap.size ≤ k) (fun k => wr.heap.size ≤ k) ?aS ?aX HF.out ?aK (fun _ hk => Nat.le_trans HW2.out hk) HN2.out (Below.refl _ _) HW2.out ?aL ?_; (case aS => simp [Act.eval]); (case aX => simp [Act.eval]); (case aK => exact fun k hk => ⟨Nat.le_trans HW.out hk, fun e => by have := HO.out k e.symm; omega⟩); (case aL => rw [hxs]; omega); intro v1 w3 HN3 hb3 hg3 hat3; replace HN3 := Aside0.mk HN3; replace hb3 := Aside0.mk hb3; clear hg3 hat3))
          go_roundw
          case rel => exact ⟨i + 1, xs ++ [x], r2, by simp, by omega, by simp [hxs], HN3, ⟨HA2.out.belowB hlt hb3.out⟩, HP2, HL2⟩
          case measure => simp [intOf]; omega
        · exact ⟨rfl, RdE.no (by rw [Cod.list_some HD.out]; exact HP.out.fail (by omega) hd2) (HAr.out.bel.trans hb) (HAr.out.keep.trans hk (.inl rfl))⟩
      · have hz : (Cod.list 256 (by decide) codP).dec l = some (xs, ri) := by rw [Cod.list_some HD.out]; exact HP.out.done (by omega)
        go_wp2_with fail
        go_ret
        exact RdE.yes hz HN.out HAr.out
  · exact ⟨rfl, RdE.no (Cod.list_none hd) hb hk⟩
end Go.Proofs.Ytkkgbbfojmnopaa.G
end
