import Derived.WalkKit
import Derived.WalkLawsBesides
import Derived.Deep.RegionLaw
import Derived.Deep.Cut
import Derived.WalkSpells
import Derived.Recover
import Derived.Laws.Bits64b
import Derived.Test.YtkkgbbfojmnopaaPKnE7
set_option linter.unusedVariables false
set_option linter.unusedSimpArgs false
section
namespace Go.Proofs.Ytkkgbbfojmnopaa.G
open Go.RowKit Go.Proofs.YtkkgbbfojmnopaaW.PrintWords Go.Proofs.YtkkgbbfojmnopaaW.PrintLast Go.Proofs.YtkkgbbfojmnopaaW.PrintMore
set_option linter.unusedVariables false
set_option linter.unusedSimpArgs false
namespace Cod
theorem list_none {α : Type} {m : Nat} {hm : m < 2 ^ 64} {c : Cod α} {l : List UInt8} (h : (nat m).dec l = none) : (list m hm c).dec l = none := by
  show (match (nat m).dec l with | some (n, r) => repDec c n r | none => none) = none
  rw [h]
theorem list_some {α : Type} {m : Nat} {hm : m < 2 ^ 64} {c : Cod α} {l r : List UInt8} {n : Nat} (h : (nat m).dec l = some (n, r)) : (list m hm c).dec l = repDec c n r := by
  show (match (nat m).dec l with | some (n, r) => repDec c n r | none => none) = _
  rw [h]
def RepAt {α : Type} (c : Cod α) (n : Nat) (r : List UInt8) (i : Nat) (xs : List α) (ri : List UInt8) : Prop := repDec c n r = match repDec c (n - i) ri with | some (ys, s) => some (xs ++ ys, s) | none => none
theorem RepAt.zero {α : Type} (c : Cod α) (n : Nat) (r : List UInt8) : RepAt c n r 0 [] r := by
  unfold RepAt
  rw [Nat.sub_zero]
  cases repDec c n r <;> rfl
theorem RepAt.step {α : Type} {c : Cod α} {n i : Nat} {r ri r2 : List UInt8} {xs : List α} {x : α} (h : RepAt c n r i xs ri) (hi : i < n) (hd : c.dec ri = some (x, r2)) : RepAt c n r (i + 1) (xs ++ [x]) r2 := by
  unfold RepAt at h ⊢
  rw [h, show n - i = (n - (i + 1)) + 1 by omega]
  show (match (match c.dec ri with | some (x, r) => (match repDec c (n - (i + 1)) r with | some (xs, s) => some (x :: xs, s) | none => none) | none => none) with | some (ys, s) => some (xs ++ ys, s) | none => none) = _
  rw [hd]
  simp only
  cases repDec c (n - (i + 1)) r2 with
  | none => rfl
  | some y => simp
theorem RepAt.fail {α : Type} {c : Cod α} {n i : Nat} {r ri : List UInt8} {xs : List α} (h : RepAt c n r i xs ri) (hi : i < n) (hd : c.dec ri = none) : repDec c n r = none := by
  unfold RepAt at h
  rw [h, show n - i = (n - (i + 1)) + 1 by omega]
  show (match (match c.dec ri with | some (x, r) => (match repDec c (n - (i + 1)) r with | some (xs, s) => some (x :: xs, s) | none => none) | none => none) with | some (ys, s) => some (xs ++ ys, s) | none => none) = _
  rw [hd]
theorem RepAt.done {α : Type} {c : Cod α} {n i : Nat} {r ri : List UInt8} {xs : List α} (h : RepAt c n r i xs ri) (hi : i = n) : repDec c n r = some (xs, ri) := by
  unfold RepAt at h
  rw [h, show n - i = 0 by omega]
  show some (xs ++ [], ri) = _
  rw [List.append_nil]
end Cod
theorem Aft.belowB {p : Nat} {w w2 w1 : World} {r : List UInt8} (h : Aft p w r w2) (hp : p < w.heap.size) (hb : Below w.heap.size w2 w1) : Aft p w r w1 := by
  obtain ⟨s, hs, hk⟩ := h.blk
  exact ⟨h.bel.trans (hb.mono (Nat.le_of_lt hp)), ⟨Nat.le_trans h.keep.1 hb.size, fun i hi hg hr => (hb.block i hi).trans (h.keep.2 i hi hg hr)⟩, s, hs, (hb.block p hp).trans hk⟩
def Ls {α : Type} (d : Kd α) (e : Nat) (w w' : World) (xs : List α) (v : Value) : Prop := Kd.N d e w' w.heap.size (fun k => w.heap.size ≤ k) v xs
set_option maxHeartbeats 1000000 in
theorem list44_any (p g : Nat) (l : List UInt8) (w : World) (h : Rdr p l w) (hg : w.heap[g]? = some (.cells #[.pointer (some ⟨p, 0, none⟩)] 61 (0, 0))) (hne : g ≠ p) :
    Calls Try.prog 44 #[.pointer (some ⟨p, 0, none⟩), .int .i64 60, .func (.func 45) #[] #[.pointer (some ⟨g, 0, none⟩)]] w fun e w' => RdE p (Cod.list 60 (by decide) codU).dec (Ls k50 50) l w e w' := by
  have HR := Aside0.mk h
  have hlt : p < w.heap.size := h.lt
  have HG := Aside0.mk hg
  have hgl : g < w.heap.size := blk_lt hg
  clear hg
  clear h
  go_enter Try.func44, Try.ntmps44
  go_wp2_with fail
  refine (natural_rd p l 60 w HR.out (by decide)).mono ?_
  intro e w1 h1
  rcases h1.elim with ⟨n, r, v, hd, rfl, rfl, ha⟩ | ⟨hd, rfl, hb, hk⟩
  · have HD := Aside0.mk hd
    have HA := Aside0.mk ha
    have hn : n ≤ 60 := Cod.nat_le hd
    have HL := Aside0.mk (show r.length ≤ 10000000 from Nat.le_trans (Cod.len _ hd) HR.out.len)
    clear hd ha h1
    go_wp2_with fail
    go_loopw [7, 11] (fun v7 v11 wr => ∃ (i : Nat) (xs : List S50) (ri : List UInt8), v11 = .int .i64 (i : Int) ∧ i ≤ n ∧ xs.length = i ∧ Aside0 (Kd.N k50 50 wr w.heap.size (fun k => w.heap.size ≤ k) v7 xs) ∧ Aside0 (Aft p w ri wr) ∧ Aside0 (Cod.RepAt codU n r i xs ri) ∧ Aside0 (ri.length ≤ 10000000)) (fun _ v11 _ => n - (intOf v11).toNat)
    case atStart => exact ⟨0, [], r, rfl, Nat.zero_le _, rfl, ⟨Kd.N_nil _ _ _ _ _⟩, HA, ⟨Cod.RepAt.zero _ _ _⟩, HL⟩
    case round =>
      obtain ⟨i, xs, ri, rfl, hi, hxs, HN, HAr, HP, HLr⟩ := hrel
      by_cases hin : (i : Int) < (n : Int)
      · go_wp2_with fail
        refine (up_any p g ri wr (HAr.out.rdr HLr.out) ((HAr.out.keep.2 g hgl hne (by simp)).trans HG.out) hne).mono ?_
        intro e w2 h2
        rcases h2.elim with ⟨x, r2, v, hd2, rfl, ⟨cs, rfl, hfk⟩, ha⟩ | ⟨hd2, rfl, hb, hk⟩
        · obtain rfl := k50_open (Kd.FK_now hfk)
          have HF := Aside0.mk hfk
          have HA2 := Aside0.mk (HAr.out.trans ha)
          have HN2 := Aside0.mk (Kd.N_keep HN.out ha.keep (fun k hk => by omega))
          have HP2 := Aside0.mk (HP.out.step (by omega) hd2)
          have HL2 := Aside0.mk (show r2.length ≤ 10000000 from Nat.le_trans (Cod.len _ hd2) HLr.out)
          have HW := Aside0.mk (show w.heap.size ≤ wr.heap.size from HAr.out.keep.1)
          have HW2 := Aside0.mk (show w.heap.size ≤ w2.heap.size from HA2.out.keep.1)
          have HO := Aside0.mk (Kd.N_lt HN.out)
          clear hfk ha hd2 h2
          go_wp2_with (at_builtin; (refine Kd.N_append k50 (w0 := w2) w.heap.size rfl (.tmp 13) (.tmp 16) 43 50 (.agg #[(.bool false), (.int .i64 0)]) 16 rfl Try.underlying43 info50 rfl (by decide) (by decide) u7 xs x [.bool x.f0, .int .i64 x.f1] (fun k => w.heap.size ≤ k) (fun k => wr.heap.size ≤ k) ?aS ?aX HF.out ?aK (fun _ hk => Nat.le_trans HW2.out hk) HN2.out (Below.refl _ _) HW2.out ?aL ?_; (case aS => simp [Act.eval]); (case aX => simp [Act.eval]); (case aK => exact fun k hk => ⟨Nat.le_trans HW.out hk, fun e => by have := HO.out k e.symm; omega⟩); (case aL => rw [hxs]; omega); intro v1 w3 HN3 hb3 hg3 hat3; replace HN3 := Aside0.mk HN3; replace hb3 := Aside0.mk hb3; clear hg3 hat3))
          go_roundw
          case rel => exact ⟨i + 1, xs ++ [x], r2, by simp, by omega, by simp [hxs], HN3, ⟨HA2.out.belowB hlt hb3.out⟩, HP2, HL2⟩
          case measure => simp [intOf]; omega
        · exact ⟨rfl, RdE.no (by rw [Cod.list_some HD.out]; exact HP.out.fail (by omega) hd2) (HAr.out.bel.trans hb) (HAr.out.keep.trans hk (.inl rfl))⟩
      · have hz : (Cod.list 60 (by decide) codU).dec l = some (xs, ri) := by rw [Cod.list_some HD.out]; exact HP.out.done (by omega)
        go_wp2_with fail
        go_ret
        exact RdE.yes hz HN.out HAr.out
  · exact ⟨rfl, RdE.no (Cod.list_none hd) hb hk⟩
set_option maxHeartbeats 1000000 in
theorem list48_any (p g : Nat) (l : List UInt8) (w : World) (h : Rdr p l w) (hg : w.heap[g]? = some (.cells #[.pointer (some ⟨p, 0, none⟩)] 61 (0, 0))) (hne : g ≠ p) :
    Calls Try.prog 48 #[.pointer (some ⟨p, 0, none⟩), .int .i64 16384, .func (.func 49) #[] #[.pointer (some ⟨g, 0, none⟩)]] w fun e w' => RdE p (Cod.list 16384 (by decide) codI).dec (Ls k52 52) l w e w' := by
  have HR := Aside0.mk h
  have hlt : p < w.heap.size := h.lt
  have HG := Aside0.mk hg
  have hgl : g < w.heap.size := blk_lt hg
  clear hg
  clear h
  go_enter Try.func48, Try.ntmps48
  go_wp2_with fail
  refine (natural_rd p l 16384 w HR.out (by decide)).mono ?_
  intro e w1 h1
  rcases h1.elim with ⟨n, r, v, hd, rfl, rfl, ha⟩ | ⟨hd, rfl, hb, hk⟩
  · have HD := Aside0.mk hd
    have HA := Aside0.mk ha
    have hn : n ≤ 16384 := Cod.nat_le hd
    have HL := Aside0.mk (show r.length ≤ 10000000 from Nat.le_trans (Cod.len _ hd) HR.out.len)
    clear hd ha h1
    go_wp2_with fail
    go_loopw [7, 11] (fun v7 v11 wr => ∃ (i : Nat) (xs : List S52) (ri : List UInt8), v11 = .int .i64 (i : Int) ∧ i ≤ n ∧ xs.length = i ∧ Aside0 (Kd.N k52 52 wr w.heap.size (fun k => w.heap.size ≤ k) v7 xs) ∧ Aside0 (Aft p w ri wr) ∧ Aside0 (Cod.RepAt codI n r i xs ri) ∧ Aside0 (ri.length ≤ 10000000)) (fun _ v11 _ => n - (intOf v11).toNat)
    case atStart => exact ⟨0, [], r, rfl, Nat.zero_le _, rfl, ⟨Kd.N_nil _ _ _ _ _⟩, HA, ⟨Cod.RepAt.zero _ _ _⟩, HL⟩
    case round =>
      obtain ⟨i, xs, ri, rfl, hi, hxs, HN, HAr, HP, HLr⟩ := hrel
      by_cases hin : (i : Int) < (n : Int)
      · go_wp2_with fail
        refine (instr_any p g ri wr (HAr.out.rdr HLr.out) ((HAr.out.keep.2 g hgl hne (by simp)).trans HG.out) hne).mono ?_
        intro e w2 h2
        rcases h2.elim with ⟨x, r2, v, hd2, rfl, ⟨cs, rfl, hfk⟩, ha⟩ | ⟨hd2, rfl, hb, hk⟩
        · obtain rfl := k52_open (Kd.FK_now hfk)
          have HF := Aside0.mk hfk
          have HA2 := Aside0.mk (HAr.out.trans ha)
          have HN2 := Aside0.mk (Kd.N_keep HN.out ha.keep (fun k hk => by omega))
          have HP2 := Aside0.mk (HP.out.step (by omega) hd2)
          have HL2 := Aside0.mk (show r2.length ≤ 10000000 from Nat.le_trans (Cod.len _ hd2) HLr.out)
          have HW := Aside0.mk (show w.heap.size ≤ wr.heap.size from HAr.out.keep.1)
          have HW2 := Aside0.mk (show w.heap.size ≤ w2.heap.size from HA2.out.keep.1)
          have HO := Aside0.mk (Kd.N_lt HN.out)
          clear hfk ha hd2 h2
          go_wp2_with (at_builtin; (refine Kd.N_append k52 (w0 := w2) w.heap.size rfl (.tmp 13) (.tmp 16) 45 52 (.agg #[(.int .i64 0), (.int .i64 0), (.int .i64 0)]) 24 rfl Try.underlying45 info52 rfl (by decide) (by decide) u7 xs x [.int .i64 x.f0, .int .i64 x.f1, .int .i64 x.f2] (fun k => w.heap.size ≤ k) (fun k => wr.heap.size ≤ k) ?aS ?aX HF.out ?aK (fun _ hk => Nat.le_trans HW2.out hk) HN2.out (Below.refl _ _) HW2.out ?aL ?_; (case aS => simp [Act.eval]); (case aX => simp [Act.eval]); (case aK => exact fun k hk => ⟨Nat.le_trans HW.out hk, fun e => by have := HO.out k e.symm; omega⟩); (case aL => rw [hxs]; omega); intro v1 w3 HN3 hb3 hg3 hat3; replace HN3 := Aside0.mk HN3; replace hb3 := Aside0.mk hb3; clear hg3 hat3))
          go_roundw
          case rel => exact ⟨i + 1, xs ++ [x], r2, by simp, by omega, by simp [hxs], HN3, ⟨HA2.out.belowB hlt hb3.out⟩, HP2, HL2⟩
          case measure => simp [intOf]; omega
        · exact ⟨rfl, RdE.no (by rw [Cod.list_some HD.out]; exact HP.out.fail (by omega) hd2) (HAr.out.bel.trans hb) (HAr.out.keep.trans hk (.inl rfl))⟩
      · have hz : (Cod.list 16384 (by decide) codI).dec l = some (xs, ri) := by rw [Cod.list_some HD.out]; exact HP.out.done (by omega)
        go_wp2_with fail
        go_ret
        exact RdE.yes hz HN.out HAr.out
  · exact ⟨rfl, RdE.no (Cod.list_none hd) hb hk⟩
set_option maxHeartbeats 1000000 in
theorem list46_any (p : Nat) (l : List UInt8) (w : World) (h : Rdr p l w) :
    Calls Try.prog 46 #[.pointer (some ⟨p, 0, none⟩), .int .i64 4096, .func (.func 47) #[.pointer (some ⟨p, 0, none⟩)] #[]] w fun e w' => RdE p (Cod.list 4096 (by decide) codC).dec (Ls k42 42) l w e w' := by
  have HR := Aside0.mk h
  have hlt : p < w.heap.size := h.lt
  clear h
  go_enter Try.func46, Try.ntmps46
  go_wp2_with fail
  refine (natural_rd p l 4096 w HR.out (by decide)).mono ?_
  intro e w1 h1
  rcases h1.elim with ⟨n, r, v, hd, rfl, rfl, ha⟩ | ⟨hd, rfl, hb, hk⟩
  · have HD := Aside0.mk hd
    have HA := Aside0.mk ha
    have hn : n ≤ 4096 := Cod.nat_le hd
    have HL := Aside0.mk (show r.length ≤ 10000000 from Nat.le_trans (Cod.len _ hd) HR.out.len)
    clear hd ha h1
    go_wp2_with fail
    go_loopw [7, 11] (fun v7 v11 wr => ∃ (i : Nat) (xs : List S42) (ri : List UInt8), v11 = .int .i64 (i : Int) ∧ i ≤ n ∧ xs.length = i ∧ Aside0 (Kd.N k42 42 wr w.heap.size (fun k => w.heap.size ≤ k) v7 xs) ∧ Aside0 (Aft p w ri wr) ∧ Aside0 (Cod.RepAt codC n r i xs ri) ∧ Aside0 (ri.length ≤ 10000000)) (fun _ v11 _ => n - (intOf v11).toNat)
    case atStart => exact ⟨0, [], r, rfl, Nat.zero_le _, rfl, ⟨Kd.N_nil _ _ _ _ _⟩, HA, ⟨Cod.RepAt.zero _ _ _⟩, HL⟩
    case round =>
      obtain ⟨i, xs, ri, rfl, hi, hxs, HN, HAr, HP, HLr⟩ := hrel
      by_cases hin : (i : Int) < (n : Int)
      · go_wp2_with fail
        refine (constant_any p ri wr (HAr.out.rdr HLr.out)).mono ?_
        intro e w2 h2
        rcases h2.elim with ⟨x, r2, v, hd2, rfl, ⟨cs, rfl, hfk⟩, ha⟩ | ⟨hd2, rfl, hb, hk⟩
        · obtain rfl := k42_open (Kd.FK_now hfk)
          have HF := Aside0.mk hfk
          have HA2 := Aside0.mk (HAr.out.trans ha)
          have HN2 := Aside0.mk (Kd.N_keep HN.out ha.keep (fun k hk => by omega))
          have HP2 := Aside0.mk (HP.out.step (by omega) hd2)
          have HL2 := Aside0.mk (show r2.length ≤ 10000000 from Nat.le_trans (Cod.len _ hd2) HLr.out)
          have HW := Aside0.mk (show w.heap.size ≤ wr.heap.size from HAr.out.keep.1)
          have HW2 := Aside0.mk (show w.heap.size ≤ w2.heap.size from HA2.out.keep.1)
          have HO := Aside0.mk (Kd.N_lt HN.out)
          clear hfk ha hd2 h2
          go_wp2_with (at_builtin; (refine Kd.N_append k42 (w0 := w2) w.heap.size rfl (.tmp 13) (.tmp 16) 44 42 (.agg #[(.int .i64 0), (.int .i64 0), (.string ⟨#[]⟩)]) 32 rfl Try.underlying44 info42 rfl (by decide) (by decide) u7 xs x [.int .i64 x.f0, .int .i64 x.f1, .string x.f2] (fun k => w.heap.size ≤ k) (fun k => wr.heap.size ≤ k) ?aS ?aX HF.out ?aK (fun _ hk => Nat.le_trans HW2.out hk) HN2.out (Below.refl _ _) HW2.out ?aL ?_; (case aS => simp [Act.eval]); (case aX => simp [Act.eval]); (case aK => exact fun k hk => ⟨Nat.le_trans HW.out hk, fun e => by have := HO.out k e.symm; omega⟩); (case aL => rw [hxs]; omega); intro v1 w3 HN3 hb3 hg3 hat3; replace HN3 := Aside0.mk HN3; replace hb3 := Aside0.mk hb3; clear hg3 hat3))
          go_roundw
          case rel => exact ⟨i + 1, xs ++ [x], r2, by simp, by omega, by simp [hxs], HN3, ⟨HA2.out.belowB hlt hb3.out⟩, HP2, HL2⟩
          case measure => simp [intOf]; omega
        · exact ⟨rfl, RdE.no (by rw [Cod.list_some HD.out]; exact HP.out.fail (by omega) hd2) (HAr.out.bel.trans hb) (HAr.out.keep.trans hk (.inl rfl))⟩
      · have hz : (Cod.list 4096 (by decide) codC).dec l = some (xs, ri) := by rw [Cod.list_some HD.out]; exact HP.out.done (by omega)
        go_wp2_with fail
        go_ret
        exact RdE.yes hz HN.out HAr.out
  · exact ⟨rfl, RdE.no (Cod.list_none hd) hb hk⟩
end Go.Proofs.Ytkkgbbfojmnopaa.G
end
