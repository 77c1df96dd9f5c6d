import Derived.LaidMore
import Derived.LaidHandle
import Derived.Stop.Joined
import Derived.Lib.IfaceEq
import Derived.Lib.IndexMore
import Derived.Shelf.Abstract
import Derived.LaidEql
import Derived.Stop.Asserts
import Derived.RowKitTokens
import Derived.Lib.LaidTab
import Derived.Lib.AppendIntMem
import Derived.Stop.LaidErr
import Derived.WalkKit
import Derived.Deep.RegionLaw
import Derived.Deep.Cut
import Derived.WalkSpells
import Derived.Maps.OwnOps
import Derived.Maps.OwnSet
import Derived.Maps.Views
import Derived.Maps.RangeWalk
import Derived.Maps.Own
import Derived.Test.YtlbaejihlcfpeaaGreatDoorPStOW
import Derived.Lib.Hide
set_option linter.unusedVariables false
set_option linter.unusedSimpArgs false
section
namespace Go.Proofs.YtlbaejihlcfpeaaGreatDoor.G
open Go.Proofs.YtlbaejihlcfpeaaGreatDoor.G Go.Proofs.YtlbaejihlcfpeaaGreatDoor.Z
open Go.Shelf Go.Extern.Stop Go.Stop Go.Extern Go.RowKit Go.Proofs.YtlbaejihlcfpeaaGreatDoorW.PrintWords Go.Proofs.YtlbaejihlcfpeaaGreatDoorW.PrintLast Go.Proofs.YtlbaejihlcfpeaaGreatDoorW.PrintMore
set_option linter.unusedVariables false
set_option linter.unusedSimpArgs false
section
open Kd
variable {P : Program} {ops : Array Oper} {rest : List Oper} {o : Oper} {a : Act} {Q : Exit → Act → World → Prop} {α : Type}
theorem R_makeU (d : Kd α) {w0 W : World} (base e : Nat) (hgd : o.guard = none) {N : Tmp} (hd : o.dst = some N) (t : TypeId) (x y : Operand) (ho : o.op = .makeSlice t x y) (n : Int) (hx : a.eval x = .int .u8 n) (hy : a.eval y = .int .u8 n)
    (ht : P.underlying t = some (.slice e)) (z : Value) (bytes : Nat) (hinfo : (P.info? e).map (fun i => (i.zero, i.size, i.bytes)) = some (some z, d.sz, bytes)) (hz : z.cells.size = d.sz) (hs0 : 0 < d.sz) (hb0 : 0 < bytes)
    (z0 : α) {ok okp : Nat → Prop} (hzero : d.M W base okp z0 z.cells.toList) (hok : ∀ k, okp k → ok k) (hfresh : ok W.heap.size) (h0 : 0 ≤ n) (hl : n.toNat * bytes ≤ 281474976710656) (HB : Below base w0 W) (hbase : base ≤ W.heap.size)
    (h : ∀ v1 w1, d.R e w1 base ok v1 (List.replicate n.toNat z0) → Below base w0 w1 → W.grownBy w1 none → (∃ b, v1.ownBlock = some b ∧ W.heap.size ≤ b) → wpList P ops Q rest (a.put o.dst v1) w1) : wpList P ops Q (o :: rest) a W := by
  obtain ⟨m, rfl⟩ := Int.eq_ofNat_of_zero_le h0
  simp only [Int.toNat_natCast] at hl h
  obtain ⟨i0, hi, hzz⟩ := Option.map_eq_some_iff.1 hinfo
  simp only [Prod.mk.injEq] at hzz
  obtain ⟨hz0, hz1, hz2⟩ := hzz
  have hm : m ≤ 281474976710656 := Nat.le_trans (Nat.le_mul_of_pos_right _ hb0) hl
  have hr := run_make (P := P) W t e i0 z ht hi hz0 .u8 .u8 (m : Int) (m : Int) (by omega) (by omega)
    (by
      have h3 : ((i0.bytes * m : Nat) : Int) ≤ 281474976710656 := by rw [hz2, Nat.mul_comm]; omega
      rwa [Int.natCast_mul] at h3) (by omega)
  simp only [Int.toNat_natCast] at hr
  rw [hz1] at hr
  refine R_lit d base e hgd hd (xs := List.replicate m z0) (inner := (madeCells z.cells (m * d.sz)).toList) (okp := okp) (ok := ok) ?_ (reps_made hz hs0 hzero m) hok hfresh HB hbase (by simp; omega) h
  simp [execOp, ho, hx, hy, hr]
end
theorem set_rep (n i : Nat) (h : i < n) : (List.replicate i (10 : Int) ++ List.replicate (n - i) 0).set i 10 = List.replicate (i + 1) 10 ++ List.replicate (n - (i + 1)) 0 := by
  obtain ⟨m, hm⟩ : ∃ m, n - i = m + 1 := ⟨n - i - 1, by omega⟩
  rw [hm, show n - (i + 1) = m by omega, List.replicate_succ, List.set_append_right _ _ (by rw [List.length_replicate]; exact Nat.le_refl _), List.length_replicate, Nat.sub_self, List.set_cons_zero, List.replicate_succ' (n := i)]
  simp
set_option maxHeartbeats 8000000 in
set_option maxRecDepth 100000 in
theorem lines_any (n : Nat) (hn : n ≤ 255) (w : World) :
    Calls Tryz.prog 13 #[.int .u8 n] w fun e w' => ∃ v : Value, e = .returned v ∧ Kd.R (Kd.int .u8) 5 w' w.heap.size (fun _ => True) v (List.replicate n 10) ∧ Below w.heap.size w w' := by
  have HN := Aside0.mk hn
  clear hn
  go_enter Tryz.func13, Tryz.ntmps13
  go_wp2_with (first | ((with_reducible refine gate_dst (N := 6) rfl ?_); refine R_makeU (Kd.int .u8) w.heap.size 5 rfl (N := 6) rfl 36 _ _ rfl (n : Int) rfl rfl Tryz.underlying36 (.int .u8 0) 1 info5 rfl (by decide) (by omega) 0 (ok := fun _ => True) (okp := fun _ => True) rfl (fun _ hk => hk) trivial (by omega) (by have := HN.out; rw [Int.toNat_natCast]; omega) (Below.refl _ _) (Nat.le_refl _) ?_; intro v1 w1 ho hb hg_ hnew_; clear hg_ hnew_; rw [Int.toNat_natCast] at ho; have HO := Aside0.mk ho; have HB := Aside0.mk hb; clear ho hb))
  have hv := HO.out
  have hl := Kd.R_slice hv
  obtain ⟨A, cc, rfl⟩ := hl
  clear hv
  rw [List.length_replicate]
  go_wp2_with fail
  go_loopw [4] (fun v4 wr => ∃ i : Nat, v4 = .int .i64 i ∧ i ≤ n ∧ Aside0 (Kd.R (Kd.int .u8) 5 wr w.heap.size (fun _ => True) (.slice A n cc) (List.replicate i 10 ++ List.replicate (n - i) 0)) ∧ Aside0 (Below w.heap.size w wr)) (fun v4 _ => n - (intOf v4).toNat)
  case atStart => exact ⟨0, rfl, by omega, ⟨by simpa using HO.out⟩, HB⟩
  case round =>
    clear HO HB
    obtain ⟨i, rfl, hi, HO, HB⟩ := hrel
    by_cases hlt : i < n
    · have hlb : decide ((i : Int) < (n : Int)) = true := decide_eq_true (by omega)
      have hli : (i : Int) < (n : Int) := by omega
      have hw : wrap64 ((i : Int) + 1) = (i : Int) + 1 := IntWalk.wrap64_in _ ⟨by omega, by have := HN.out; omega⟩
      have hlen : (List.replicate i (10 : Int) ++ List.replicate (n - i) 0).length = n := by simp; omega
      have p9 : 0 ≤ ((i : Nat) : Int) := by omega
      have q9 : ((i : Nat) : Int) < (((List.replicate i (10 : Int) ++ List.replicate (n - i) 0).length : Nat) : Int) := by rw [hlen]; exact hli
      have HY := Aside0.mk (set_rep n i hlt)
      have hO := HO.out
      obtain ⟨xs, hxs⟩ : ∃ x, x = (List.replicate i (10 : Int) ++ List.replicate (n - i) 0) := ⟨_, rfl⟩
      rw [← hxs] at hO hlen q9 HY
      clear HO
      obtain ⟨g, c2, eo, gb, gl, cl, hg⟩ := Kd.R_form hO (by rw [hlen]; omega)
      injection eo with e1 e2 e3
      subst e1 e3
      have GB := Aside0.mk gb
      obtain ⟨hx, hf⟩ := Kd.R_celln 0 hO ((i : Nat) : Int) p9 hli
      have HP := Kd.R_putg hO ((i : Nat) : Int) 10
      rw [Int.toNat_natCast] at HP hx hf
      have HPP := Aside0.mk HP.1
      clear HP hO e2 gb gl cl hg q9
      go_wp2_with fail
      go_roundw
      case rel => exact ⟨i + 1, by first | rfl | (rw [hw]; rfl), by omega, ⟨by rw [← HY.out]; exact HPP.out⟩, ⟨below_set HB.out GB.out⟩⟩
      case measure =>
        try rw [hw]
        show n - ((i : Int) + 1).toNat < n - (i : Int).toNat
        omega
    · have hlb : decide ((i : Int) < (n : Int)) = false := decide_eq_false (by omega)
      have hli : ¬ (i : Int) < (n : Int) := by omega
      have he : i = n := by omega
      have HE := Aside0.mk he
      clear he
      go_wp2_with fail
      go_ret
      exact ⟨_, rfl, by have := HO.out; rw [HE.out] at this; simpa using this, HB.out⟩
end Go.Proofs.YtlbaejihlcfpeaaGreatDoor.G
end
