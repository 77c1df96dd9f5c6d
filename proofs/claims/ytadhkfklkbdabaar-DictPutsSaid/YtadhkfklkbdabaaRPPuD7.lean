import Derived.Deep.RegionLaw
import Derived.Deep.Cut
import Derived.WalkSpells
import Derived.Maps.OwnOps
import Derived.Maps.OwnSet
import Derived.Maps.Views
import Derived.Maps.Own
import Derived.DeepKeys5
import Derived.Outline
import Derived.Deep.AppendLies
import Derived.Laws.CopyRow
import Derived.Laws.CopyOwn
import Derived.StillTailTactics
import Derived.Test.YtadhkfklkbdabaaRPPuD4
import Derived.Test.YtadhkfklkbdabaaRPPuGxF36
import Derived.Test.YtadhkfklkbdabaaRPPuGxF31
set_option linter.unusedVariables false
set_option linter.unusedSimpArgs false
section
namespace Go.Proofs.YtadhkfklkbdabaaR.G
open Go.RowKit Go.Proofs.YtadhkfklkbdabaaRW.PrintWords Go.Proofs.YtadhkfklkbdabaaRW.PrintLast Go.Proofs.YtadhkfklkbdabaaRW.PrintMore
set_option linter.unusedVariables false
set_option linter.unusedSimpArgs false
theorem C_none {w : World} {l : List S24} (h : Kd.C k24 w none l.length l) : l = [] := by
 cases l with
 | nil => rfl
 | cons a r =>
  obtain ⟨_, hA, _⟩ := at_T24 h 0 (by omega) (by simp)
  cases hA
set_option maxHeartbeats 1000000 in
theorem clone_any (A : Option Addr) (c : Nat) (l : List S24) (w : World) (hr : Kd.C k24 w A l.length l) (hl : l.length ≤ 1000000) :
  Calls Try.prog 33 #[.slice A l.length c] w fun e w' => ∃ v, e = .returned v ∧ Kd.R k24 24 w' w.heap.size (fun _ => True) v l ∧ Below w.heap.size w w' := by
 have HR := Aside0.mk hr
 clear hr
 have hq : ∀ (w : World) (a : Option Addr) (n c n' c' : Nat), (binOp .eql 22 (.slice a n c) (.slice none n' c')).run Try.prog w = .ok (.bool a.isNone) w := fun w a n c n' c' => Lib.run_eql_slice_nil w _ _ a n c n' c' Try.underlying22
 have u22 : ∀ w, Sem.run Try.prog (underlying 22) w = .ok (TypeDesc.slice 24) w := run_underlying Try.underlying22
 cases A with
 | none =>
  have := C_none HR.out
  subst this
  clear HR
  go_enter Try.func33, Try.ntmps33
  go_wp2_with fail
  go_ret
  exact ⟨_, rfl, Kd.R_nil _ _ _ _ _, Below.refl _ _⟩
 | some a =>
  go_enter Try.func33, Try.ntmps33
  go_wp2_with (first | ((with_reducible refine gate_dst (N := 5) rfl ?_); refine Kd.R_lit k24 _ 24 ?hg (N := 5) ?hd (xs := ([] : List S24)) (inner := []) (ok := fun _ => True) (okp := fun _ => True) ?hr (Reps.none _ _) (fun _ hk => hk) trivial (Below.refl _ _) (Nat.le_refl _) (by simp) ?_; (case hd => rfl); (case hg => rfl); (case hr => first | (go_simp; done) | (go_simp; rfl)); intro v318 w3 ho4 hb hg_ hnew_; clear hg_ hnew_; have HB := Aside0.mk hb; have HO := Aside0.mk ho4; have HR3 := Aside0.mk (Kd.C_below HR.out hb); clear hb ho4) | (at_builtin; refine Kd.R_append_rows k24 (w0 := w) w.heap.size rfl (.tmp 5) (.tmp 6) 22 24 (.agg #[(.int .i64 0), (.int .i64 0)]) 16 rfl Try.underlying22 info24 rfl (by decide) (by omega) v318 ([] : List (S24)) l _ _ _ (fun _ => True) (fun _ => False) rfl rfl ?aO ?aR (fun _ _ h => h) (fun _ h => h.elim) ?aF ?aB ?aS ?aL ?_; (case aR => exact HR3.out); (case aB => exact HB.out); (case aF => exact (fun _ _ => trivial)); (case aO => exact HO.out); (case aS => exact below_size HB.out); (case aL => simp; omega); intro v106 w7 ho hb hg hat; have HB7 := Aside0.mk hb; have HO7 := Aside0.mk ho; clear ho hb hg hat))
  go_ret
  exact ⟨_, rfl, HO7.out, HB7.out⟩
def idxI (k : S24) (q : List S24) : Int := match idxP k q 0 with | some i => (i : Int) | none => -1
theorem idxP_cons (k : S24) (q : List S24) (j : Nat) (h : 2 * j + 1 < q.length) : idxP k (q.drop (2 * j)) (2 * j) = if sameV (rd_T24 q ((2 * j : Nat) : Int)) k = true then some (2 * j) else idxP k (q.drop (2 * (j + 1))) (2 * (j + 1)) := by
 rw [two_drop h]
 rfl
theorem find_any (p : Nat) (va vg : Value) (Aq : Option Addr) (cq : Nat) (q : List S24) (k : S24) (w : World) (hc : w.heap[p]? = some (.cells #[va, .slice Aq q.length cq, vg] 60 (0, 0))) (hq : Kd.C k24 w Aq q.length q) (hev : q.length % 2 = 0) (hl : q.length ≤ 2000000) :
  Calls Try.prog 52 #[.pointer (some ⟨p, 0, none⟩), .agg #[.int .i64 k.f0, .int .i64 k.f1]] w fun e w' => e = .returned (.int .i64 (idxI k q)) ∧ Below w.heap.size w w' := by
 have HB0 := Aside0.mk (below_alloc (Below.refl w.heap.size w) (.cells #[.int .i64 k.f0, .int .i64 k.f1] 24))
 have HC := Aside0.mk (blk_alloc hc (.cells #[.int .i64 k.f0, .int .i64 k.f1] 24))
 have HK := Aside0.mk (blk_new w (.cells #[.int .i64 k.f0, .int .i64 k.f1] 24))
 have HQ := Aside0.mk (Kd.C_alloc hq (.cells #[.int .i64 k.f0, .int .i64 k.f1] 24))
 clear hc hq
 go_enter Try.func52, Try.ntmps52
 go_wp2_with fail
 obtain ⟨w1, hw1⟩ : ∃ x, x = w.alloc (.cells #[.int .i64 k.f0, .int .i64 k.f1] 24) := ⟨_, rfl⟩
 rw [← hw1] at HB0 HC HK HQ
 try rw [← hw1]
 clear hw1
 go_loopw [5] (fun v wr => ∃ j : Nat, v = .int .i64 ((2 * j : Nat) : Int) ∧ 2 * j ≤ q.length ∧ idxP k (q.drop (2 * j)) (2 * j) = idxP k q 0 ∧ Below w1.heap.size w1 wr) (fun v _ => q.length - (intOf v).toNat)
 case atStart => exact ⟨0, rfl, Nat.zero_le _, rfl, Below.refl _ _⟩
 case round =>
  obtain ⟨j, rfl, hj, hidx, hbel⟩ := hrel
  have HI := Aside0.mk hidx
  have HBL := Aside0.mk (HB0.out.trans (hbel.mono HB0.out.size))
  have HB1 := Aside0.mk hbel
  have HCr := Aside0.mk (Kd.C_below HQ.out hbel)
  have HKr := Aside0.mk (blk_below HK.out hbel)
  have HTr := Aside0.mk (blk_below HC.out hbel)
  have t1 : wr.cell? ⟨p, 1, none⟩ = some (.slice Aq q.length cq) := (blk_cell HTr.out 1).trans rfl
  have c0 : wr.cell? ⟨w.heap.size, 0, none⟩ = some (.int .i64 k.f0) := (blk_cell HKr.out 0).trans rfl
  have c1 : wr.cell? ⟨w.heap.size, 1, none⟩ = some (.int .i64 k.f1) := (blk_cell HKr.out 1).trans rfl
  clear hidx hbel
  by_cases hlt : 2 * j < q.length
  ·obtain ⟨ad, hA, q0, q1⟩ := at_T24 HCr.out ((2 * j : Nat) : Int) (by omega) (by omega)
   subst hA
   simp only [Int.toNat_natCast] at q0 q1
   have HX := Aside0.mk (idxP_cons k q j (by omega))
   obtain ⟨x, hxx⟩ : ∃ x, rd_T24 q ((2 * j : Nat) : Int) = x := ⟨_, rfl⟩
   rw [hxx] at HX q0 q1
   clear hxx
   have hltc : ((2 * j : Nat) : Int) < (q.length : Int) := by omega
   cases hs : sameV x k with
   | true =>
    have e0 : (x.f0 == k.f0) = true := by unfold sameV at hs; rw [Bool.and_eq_true] at hs; exact hs.1
    have e1 : (x.f1 == k.f1) = true := by unfold sameV at hs; rw [Bool.and_eq_true] at hs; exact hs.2
    have hz := Aside0.mk (show idxI k q = ((2 * j : Nat) : Int) by unfold idxI; rw [← HI.out, HX.out, if_pos hs])
    rw [beq_iff_eq] at e0 e1
    go_wp2_with fail
    go_region
    go_wp2_with fail
    go_ret
    exact ⟨by rw [hz.out]; simp, below_drew HBL.out⟩
   | false =>
    have hz := Aside0.mk (show idxP k (q.drop (2 * (j + 1))) (2 * (j + 1)) = idxP k q 0 by rw [← HI.out, HX.out, if_neg (by rw [hs]; decide)])
    by_cases e0 : x.f0 = k.f0
    ·have e1 : ¬ x.f1 = k.f1 := by
      intro h
      unfold sameV at hs
      rw [e0, h] at hs
      simp at hs
     have d1 : (x.f1 == k.f1) = false := beq_eq_false_iff_ne.2 e1
     clear hs
     go_wp2_with fail
     go_region
     go_wp2_with fail
     go_roundw
     case rel => exact ⟨j + 1, by simp; omega, by omega, hz.out, below_drew HB1.out⟩
     case measure => simp [intOf]; omega
    ·have d0 : (x.f0 == k.f0) = false := beq_eq_false_iff_ne.2 e0
     clear hs
     go_wp2_with fail
     go_region
     go_wp2_with fail
     go_roundw
     case rel => exact ⟨j + 1, by simp; omega, by omega, hz.out, below_drew HB1.out⟩
     case measure => simp [intOf]; omega
  ·have hz := Aside0.mk (show idxI k q = -1 by unfold idxI; rw [← HI.out, List.drop_eq_nil_of_le (by omega)]; rfl)
   have hltc : ¬ (((2 * j : Nat) : Int) < (q.length : Int)) := by omega
   go_wp2_with fail
   go_ret
   exact ⟨by rw [hz.out]; rfl, HBL.out⟩
end Go.Proofs.YtadhkfklkbdabaaR.G
end
