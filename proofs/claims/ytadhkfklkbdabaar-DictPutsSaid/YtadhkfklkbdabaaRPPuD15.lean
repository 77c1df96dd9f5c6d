import Derived.Deep.RegionLaw
import Derived.Deep.Cut
import Derived.WalkSpells
import Derived.Maps.OwnOps
import Derived.Maps.OwnSet
import Derived.Maps.Views
import Derived.Maps.Own
import Derived.DeepKeys5
import Derived.Outline
import Derived.Deep.AppendLies
import Derived.Laws.CopyRow
import Derived.Laws.CopyOwn
import Derived.StillTailTactics
import Derived.Test.YtadhkfklkbdabaaRPPuD13
set_option linter.unusedVariables false
set_option linter.unusedSimpArgs false
section
namespace Go.Proofs.YtadhkfklkbdabaaR.G
open Go.RowKit Go.Proofs.YtadhkfklkbdabaaRW.PrintWords Go.Proofs.YtadhkfklkbdabaaRW.PrintLast Go.Proofs.YtadhkfklkbdabaaRW.PrintMore
set_option linter.unusedVariables false
set_option linter.unusedSimpArgs false
theorem run_append_zeros (w : World) (ty : TypeId) (n : Nat) (h0 : 0 < n) (hn : n ≤ 4000000) : ∃ cap cur, n ≤ cap ∧ cap ≤ maxLen ∧ cur.size = cap * 2 ∧
  (Builtin.append_ #[22, 3] ty #[.slice none 0 0, .int .i64 n]).run Try.prog w = .ok (.slice (some ⟨w.heap.size, 0, none⟩) n cap) (w.drew.alloc (.cells cur 24)) := by
 obtain ⟨i, hi, hzi⟩ := Option.map_eq_some_iff.1 info24
 simp only [Prod.mk.injEq] at hzi
 obtain ⟨z1, z2, z3⟩ := hzi
 have hw : IntKind.i64.wrap (n : Int) = (n : Int) := by first | exact wrap_i64 _ (by omega) (by omega) | (simp [IntKind.wrap, IntKind.signed, IntKind.bits]; omega)
 have hge := grownCap_ge w n 0 24
 have hle := grownCap_le_maxLen w n 0 24 (by simp [maxLen]; omega)
 have h1 : ¬ ((n : Int) < 0) := by omega
 have h2 : ¬ (281474976710656 < (n : Int) * 16) := by omega
 have h3 : ¬ n * 2 = 0 := by omega
 have h4 : ¬ n = 0 := by omega
 have h5 : ¬ (9223372036854775807 < (n : Int)) := by omega
 have h6 : ¬ (281474976710656 < Builtin.nextslicecap n 0 * 16) := by rw [nextslicecap_zero h0]; omega
 refine ⟨grownCap w n 0 24, Builtin.zeroCells #[.int .i64 0, .int .i64 0] n ++ Builtin.zeroCells #[.int .i64 0, .int .i64 0] (grownCap w n 0 24 - n), hge, hle, ?_, ?_⟩
 ·rw [Array.size_append, size_zeroCells, size_zeroCells]
  simp
  omega
 ·simp [Builtin.append_, run_underlying Try.underlying22, run_underlying Try.underlying3, sizeOf, typeInfo, zeroValue, hi, z1, z2, z3, Builtin.lenOf, Builtin.firstCells, hw, h1, h2, h3, h4, h5, h6, Question.forced, newRow, grownCap, asInt, asIntOf, Value.cells]
theorem wpList_grow_zeros {ops : Array Oper} {rest : List Oper} {o : Oper} {a : Act} {Q : Exit → Act → World → Prop} {W : World} (hgd : o.guard = none) (s x : Operand)
  (ho : o.op = .call { callee := .builtin .append, args := #[s, x], argTypes := #[22, 3] }) (n : Nat) (hs : a.eval s = .slice none 0 0) (hx : a.eval x = .int .i64 n) (h0 : 0 < n) (hn : n ≤ 4000000)
  (h : ∀ cap cur, n ≤ cap → cap ≤ maxLen → cur.size = cap * 2 → wpList Try.prog ops Q rest (a.put o.dst (.slice (some ⟨W.heap.size, 0, none⟩) n cap)) (W.drew.alloc (.cells cur 24))) : wpList Try.prog ops Q (o :: rest) a W := by
 obtain ⟨cap, cur, h1, h2, h3, hr⟩ := run_append_zeros W o.type n h0 hn
 refine wpList_plain hgd fun K hK => ?_
 unfold Oper.wp execOp
 simp only [ho, resolve, invoke, builtin, Sem.run_bind, Sem.run_pure, Result.andThen_ok, List.map_toArray, List.map_cons, List.map_nil, hs, hx, hr]
 exact hK _ _ (h cap cur h1 h2 h3)
theorem grow56_any (n : Nat) (w : World) (h0 : 0 < n) (hn : n ≤ 4000000) : Calls Try.prog 56 #[.slice none 0 0, .int .i64 n] w fun e w' => ∃ v, e = .returned v ∧ Kd.R k24 24 w' w.heap.size (fun _ => True) v [] ∧ Below w.heap.size w w' := by
 have k0 : (0 : Int) < (n : Int) := by omega
 have k1 : ¬ (n : Int) < 0 := by omega
 go_enter Try.func56, Try.ntmps56
 go_wp2_with (at_builtin; refine wpList_grow_zeros rfl (.tmp 20) (.tmp 21) rfl n rfl rfl h0 hn ?_; intro cap cur h1 h2 h3; have H1 := Aside0.mk h1; have H2 := Aside0.mk h2; have H3 := Aside0.mk h3; clear h1 h2 h3; have k2 : (0 : Int) ≤ (cap : Int) := (by omega); have k3 : ¬ cap = 0 := (by have := H1.out; omega))
 go_ret
 refine ⟨_, rfl, R24_mk (fun _ _ => trivial) ⟨rfl, .inr ⟨w.heap.size, cap, cur, rfl, Nat.le_refl _, ?_, Nat.zero_le _, H2.out, H3.out, by simp [flat24]⟩⟩, below_alloc (below_drew (Below.refl _ _)) _⟩
 exact blk_new w.drew _
set_option maxHeartbeats 2000000 in
theorem concat_any (b : Nat) (A1 A2 A3 : Option Addr) (c1 c2 c3 : Nat) (l1 l2 l3 : List S24) (w : World) (hb : w.heap[b]? = some (.cells #[.slice A1 l1.length c1, .slice A2 l2.length c2, .slice A3 l3.length c3] 22 (0, 0)))
  (hr1 : Kd.C k24 w A1 l1.length l1) (hr2 : Kd.C k24 w A2 l2.length l2) (hr3 : Kd.C k24 w A3 l3.length l3) (h0 : 0 < l1.length) (hl1 : l1.length ≤ 1000000) (hl2 : l2.length ≤ 1500000) (hl3 : l3.length ≤ 1500000) :
  Calls Try.prog 35 #[.slice (some ⟨b, 0, none⟩) 3 3] w fun e w' => ∃ v, e = .returned v ∧ Kd.R k24 24 w' w.heap.size (fun _ => True) v (l1 ++ l2 ++ l3) ∧ Below w.heap.size w w' := by
 have HB := Aside0.mk hb
 have HR1 := Aside0.mk hr1
 have HR2 := Aside0.mk hr2
 have HR3 := Aside0.mk hr3
 clear hb hr1 hr2 hr3
 have e0 : w.cell? ⟨b, 0, none⟩ = some (.slice A1 l1.length c1) := (blk_cell HB.out 0).trans rfl
 have e1 : w.cell? ⟨b, 1, none⟩ = some (.slice A2 l2.length c2) := (blk_cell HB.out 1).trans rfl
 have e2 : w.cell? ⟨b, 2, none⟩ = some (.slice A3 l3.length c3) := (blk_cell HB.out 2).trans rfl
 go_enter Try.func35, Try.ntmps35
 go_wp2_with fail
 go_loopw [3, 11] (fun v3 v11 wr => w = wr ∧ ((v11 = .int .i64 0 ∧ v3 = .int .i64 0) ∨ (v11 = .int .i64 1 ∧ v3 = .int .i64 (l1.length : Int)) ∨ (v11 = .int .i64 2 ∧ v3 = .int .i64 ((l1.length : Int) + (l2.length : Int))) ∨ (v11 = .int .i64 3 ∧ v3 = .int .i64 ((l1.length : Int) + (l2.length : Int) + (l3.length : Int))))) (fun _ v11 _ => 3 - (intOf v11).toNat)
 case atStart => exact ⟨rfl, .inl ⟨rfl, rfl⟩⟩
 case round =>
  obtain ⟨rfl, hrel⟩ := hrel
  rcases hrel with ⟨rfl, rfl⟩ | ⟨rfl, rfl⟩ | ⟨rfl, rfl⟩ | ⟨rfl, rfl⟩
  ·go_wp2_with fail
   go_roundw
   case rel => exact ⟨trivial, .inr (.inl ⟨rfl, by simp⟩)⟩
   case measure => simp [intOf]
  ·go_wp2_with fail
   go_roundw
   case rel => exact ⟨trivial, .inr (.inr (.inl ⟨rfl, by simp⟩))⟩
   case measure => simp [intOf]
  ·go_wp2_with fail
   go_roundw
   case rel => exact ⟨trivial, .inr (.inr (.inr ⟨rfl, by simp⟩))⟩
   case measure => simp [intOf]
  ·clear e0 e1 e2
   have hn : (l1.length : Int) + (l2.length : Int) + (l3.length : Int) = ((l1.length + l2.length + l3.length : Nat) : Int) := by omega
   obtain ⟨n, hn9⟩ : ∃ n, n = l1.length + l2.length + l3.length := ⟨_, rfl⟩
   rw [← hn9] at hn
   rw [hn]
   have HN := Aside0.mk hn9
   have hp : 0 < n := by omega
   have hq : n ≤ 4000000 := by omega
   clear hn hn9
   go_wp2_with fail
   refine (grow56_any n _ hp hq).mono ?_
   rintro e w1 ⟨v, rfl, hv, hb1⟩
   have HV := Aside0.mk hv
   have HB1 := Aside0.mk hb1
   clear hv hb1
   go_wp2_with fail
   go_loopw [6, 27] (fun v6 v27 wx => Aside0 (Below w.heap.size w wx) ∧ ((v27 = .int .i64 0 ∧ Aside0 (Kd.R k24 24 wx w.heap.size (fun _ => True) v6 ([] : List S24))) ∨ (v27 = .int .i64 1 ∧ Aside0 (Kd.R k24 24 wx w.heap.size (fun _ => True) v6 l1)) ∨ (v27 = .int .i64 2 ∧ Aside0 (Kd.R k24 24 wx w.heap.size (fun _ => True) v6 (l1 ++ l2))) ∨ (v27 = .int .i64 3 ∧ Aside0 (Kd.R k24 24 wx w.heap.size (fun _ => True) v6 (l1 ++ l2 ++ l3))))) (fun _ v27 _ => 3 - (intOf v27).toNat)
   case atStart => exact ⟨HB1, .inl ⟨rfl, HV⟩⟩
   case round =>
    clear HV HB1
    obtain ⟨HB2, hrel⟩ := hrel
    have e0 : wr.cell? ⟨b, 0, none⟩ = some (.slice A1 l1.length c1) := (blk_cell (blk_below HB.out HB2.out) 0).trans rfl
    have e1 : wr.cell? ⟨b, 1, none⟩ = some (.slice A2 l2.length c2) := (blk_cell (blk_below HB.out HB2.out) 1).trans rfl
    have e2 : wr.cell? ⟨b, 2, none⟩ = some (.slice A3 l3.length c3) := (blk_cell (blk_below HB.out HB2.out) 2).trans rfl
    have G1 := Aside0.mk (Kd.C_below HR1.out HB2.out)
    have G2 := Aside0.mk (Kd.C_below HR2.out HB2.out)
    have G3 := Aside0.mk (Kd.C_below HR3.out HB2.out)
    rcases hrel with ⟨rfl, HV⟩ | ⟨rfl, HV⟩ | ⟨rfl, HV⟩ | ⟨rfl, HV⟩
    ·go_wp2_with (at_builtin; refine Kd.R_append_rows k24 (w0 := w) w.heap.size rfl (.tmp 31) (.tmp 32) 22 24 (.agg #[(.int .i64 0), (.int .i64 0)]) 16 rfl Try.underlying22 info24 rfl (by decide) (by omega) _ ([] : List S24) l1 _ _ _ (fun _ => True) (fun _ => False) rfl rfl ?aO ?aR (fun _ _ h => h) (fun _ h => h.elim) ?aF ?aB ?aS ?aL ?_; (case aR => exact G1.out); (case aB => exact HB2.out); (case aF => exact (fun _ _ => trivial)); (case aO => exact HV.out); (case aS => exact below_size HB2.out); (case aL => (try simp only [List.length_append, List.length_nil]); omega); intro v106 w7 ho hb hg hat; have HB7 := Aside0.mk hb; have HO7 := Aside0.mk ho; clear ho hb hg hat)
     go_roundw
     case rel => exact ⟨HB7, .inr (.inl ⟨rfl, by simpa using HO7⟩)⟩
     case measure => simp [intOf]
    ·go_wp2_with (at_builtin; refine Kd.R_append_rows k24 (w0 := w) w.heap.size rfl (.tmp 31) (.tmp 32) 22 24 (.agg #[(.int .i64 0), (.int .i64 0)]) 16 rfl Try.underlying22 info24 rfl (by decide) (by omega) _ l1 l2 _ _ _ (fun _ => True) (fun _ => False) rfl rfl ?aO ?aR (fun _ _ h => h) (fun _ h => h.elim) ?aF ?aB ?aS ?aL ?_; (case aR => exact G2.out); (case aB => exact HB2.out); (case aF => exact (fun _ _ => trivial)); (case aO => exact HV.out); (case aS => exact below_size HB2.out); (case aL => (try simp only [List.length_append, List.length_nil]); omega); intro v106 w7 ho hb hg hat; have HB7 := Aside0.mk hb; have HO7 := Aside0.mk ho; clear ho hb hg hat)
     go_roundw
     case rel => exact ⟨HB7, .inr (.inr (.inl ⟨rfl, HO7⟩))⟩
     case measure => simp [intOf]
    ·go_wp2_with (at_builtin; refine Kd.R_append_rows k24 (w0 := w) w.heap.size rfl (.tmp 31) (.tmp 32) 22 24 (.agg #[(.int .i64 0), (.int .i64 0)]) 16 rfl Try.underlying22 info24 rfl (by decide) (by omega) _ (l1 ++ l2) l3 _ _ _ (fun _ => True) (fun _ => False) rfl rfl ?aO ?aR (fun _ _ h => h) (fun _ h => h.elim) ?aF ?aB ?aS ?aL ?_; (case aR => exact G3.out); (case aB => exact HB2.out); (case aF => exact (fun _ _ => trivial)); (case aO => exact HV.out); (case aS => exact below_size HB2.out); (case aL => (try simp only [List.length_append, List.length_nil]); omega); intro v106 w7 ho hb hg hat; have HB7 := Aside0.mk hb; have HO7 := Aside0.mk ho; clear ho hb hg hat)
     go_roundw
     case rel => exact ⟨HB7, .inr (.inr (.inr ⟨rfl, HO7⟩))⟩
     case measure => simp [intOf]
    ·go_wp2_with fail
     go_ret
     exact ⟨_, rfl, HV.out, HB2.out⟩
end Go.Proofs.YtadhkfklkbdabaaR.G
end
