import Derived.LaidMore
import Derived.LaidHandle
import Derived.Stop.Joined
import Derived.Lib.IfaceEq
import Derived.Lib.IndexMore
import Derived.Shelf.Abstract
import Derived.LaidEql
import Derived.Stop.Asserts
import Derived.RowKitTokens
import Derived.Lib.LaidTab
import Derived.Lib.AppendIntMem
import Derived.Stop.LaidErr
import Derived.WalkKit
import Derived.Deep.RegionLaw
import Derived.Deep.Cut
import Derived.WalkSpells
import Derived.Maps.OwnOps
import Derived.Maps.OwnSet
import Derived.Maps.Views
import Derived.Maps.RangeWalk
import Derived.Maps.Own
import Derived.Test.YtlbaejihlcfpeaaGreatDoorPStRS
import Derived.Test.YtlbaejihlcfpeaaGreatDoorPStV
import Derived.Lib.Hide
set_option linter.unusedVariables false
set_option linter.unusedSimpArgs false
section
namespace Go.Proofs.YtlbaejihlcfpeaaGreatDoor.G
open Go.Proofs.YtlbaejihlcfpeaaGreatDoor.G
open Go.Shelf Go.Extern.Stop Go.Stop Go.Extern Go.RowKit Go.Proofs.YtlbaejihlcfpeaaGreatDoorW.PrintWords Go.Proofs.YtlbaejihlcfpeaaGreatDoorW.PrintLast Go.Proofs.YtlbaejihlcfpeaaGreatDoorW.PrintMore
set_option linter.unusedVariables false
set_option linter.unusedSimpArgs false
def errV (c : Int) : Value := if c = 0 then .nilIface else .iface 27 (.int .i64 c)
theorem nat_u8 (c : UInt8) : ((c.toNat : Int)).toNat.toUInt8 = c := by simp
theorem ib_any (s : ByteArray) (c : UInt8) (w : World) : Calls Tryz.prog 19 #[.string s, .int .u8 c.toNat] w fun e w' => e = .returned (.int .i64 (Lib.indexByte s.data.toList c)) ∧ w' = w := by
  have := Tryz.strings_IndexByte s (c.toNat : Int) w
  rw [nat_u8] at this
  exact this
theorem among_any (c : UInt8) (l : ByteArray) (w : World) : Calls Tryz.prog 17 #[.int .u8 c.toNat, .string l] w fun e w' => e = .returned (.bool (amF l.data.toList c)) ∧ w' = w := by
  generalize hr : amF l.data.toList c = r
  have HX := Aside0.mk (ib_any l c)
  have hd : decide (0 ≤ Lib.indexByte l.data.toList c) = r := hr
  generalize Lib.indexByte l.data.toList c = i at HX hd
  clear hr
  cases r with
  | true =>
    have h0 : 0 ≤ i := of_decide_eq_true hd
    have hb : decide (i ≥ 0) = true := hd
    go_enter Tryz.func17, Tryz.ntmps17
    go_wp2_with fail
    refine (HX.out _).mono ?_
    rintro e w' ⟨rfl, rfl⟩
    go_wp2_with fail
    go_ret
    exact ⟨rfl, rfl⟩
  | false =>
    have h0 : ¬ 0 ≤ i := of_decide_eq_false hd
    have hb : decide (i ≥ 0) = false := hd
    go_enter Tryz.func17, Tryz.ntmps17
    go_wp2_with fail
    refine (HX.out _).mono ?_
    rintro e w' ⟨rfl, rfl⟩
    go_wp2_with fail
    go_ret
    exact ⟨rfl, rfl⟩
theorem tw_start {p : UInt8 → Bool} (u : List UInt8) : u.takeWhile p = u.take 0 ++ (u.drop 0).takeWhile p := by simp
theorem tw_step {p : UInt8 → Bool} {u : List UInt8} {i : Nat} (h : u.takeWhile p = u.take i ++ (u.drop i).takeWhile p) {c : UInt8} (hc : u[i]? = some c) (hp : p c = true) : u.takeWhile p = u.take (i + 1) ++ (u.drop (i + 1)).takeWhile p := by
  obtain ⟨hl, hcc⟩ := List.getElem?_eq_some_iff.mp hc
  rw [h, List.drop_eq_getElem_cons hl, hcc, List.takeWhile_cons_of_pos hp, List.take_add_one, hc]
  simp
theorem tw_stop {p : UInt8 → Bool} {u : List UInt8} {i : Nat} (h : u.takeWhile p = u.take i ++ (u.drop i).takeWhile p) {c : UInt8} (hc : u[i]? = some c) (hp : p c = false) : (u.takeWhile p).length = i := by
  obtain ⟨hl, hcc⟩ := List.getElem?_eq_some_iff.mp hc
  rw [h, List.drop_eq_getElem_cons hl, hcc, List.takeWhile_cons_of_neg (by rw [hp]; decide), List.append_nil, List.length_take]
  omega
theorem tw_end {p : UInt8 → Bool} {u : List UInt8} {i : Nat} (h : u.takeWhile p = u.take i ++ (u.drop i).takeWhile p) (hi : u.length ≤ i) : (u.takeWhile p).length = u.length := by
  rw [h, List.drop_eq_nil_of_le hi, List.takeWhile_nil, List.append_nil, List.take_of_length_le hi]
theorem get_data (s : ByteArray) (i : Nat) (h : i < s.size) : s.data.toList[i]? = some (s[i]'h) := by
  rw [Array.getElem?_toList]; exact Array.getElem?_eq_getElem h
set_option maxHeartbeats 4000000 in
set_option maxRecDepth 100000 in
theorem long_any (s l : ByteArray) (hs : s.size ≤ 140737488353280) (w : World) : Calls Tryz.prog 32 #[.string s, .string l] w fun e w' => e = .returned (.int .i64 ((s.data.toList.takeWhile (amF l.data.toList)).length : Nat)) ∧ w' = w := by
  generalize hres : (s.data.toList.takeWhile (amF l.data.toList)).length = res
  have HRES := Aside0.mk hres
  have HS := Aside0.mk hs
  clear hres hs
  go_enter Tryz.func32, Tryz.ntmps32
  go_wp2_with fail
  go_loopw [8] (fun v8 wr => ∃ k : Nat, v8 = .int .i64 k ∧ k ≤ s.size ∧ Aside0 (s.data.toList.takeWhile (amF l.data.toList) = s.data.toList.take k ++ (s.data.toList.drop k).takeWhile (amF l.data.toList)) ∧ wr = w) (fun v8 _ => s.size - (intOf v8).toNat)
  case atStart => exact ⟨0, rfl, by omega, ⟨tw_start _⟩, rfl⟩
  case round =>
    obtain ⟨k, rfl, hk, HT, rfl⟩ := hrel
    by_cases hk5 : k < s.size
    · have hlt : decide ((k : Int) < (s.size : Int)) = true := decide_eq_true (by omega)
      have hk5i : (k : Int) < (s.size : Int) := by omega
      have hg := Aside0.mk (get_data s k hk5)
      have hw : wrap64 ((k : Int) + 1) = (k : Int) + 1 := IntWalk.wrap64_in _ ⟨by omega, by have := HS.out; omega⟩
      cases ha : amF l.data.toList (s[k]'hk5) with
      | true =>
        have HA := Aside0.mk ha
        clear ha
        go_wp2_with fail
        refine (among_any _ _ _).mono ?_
        rintro e w' ⟨rfl, rfl⟩
        rw [HA.out]
        go_wp2_with fail
        go_roundw
        case rel => exact ⟨k + 1, by go_num, by omega, ⟨tw_step HT.out hg.out HA.out⟩, by first | trivial | rfl⟩
        case measure =>
          rw [hw]
          clear hw hlt
          show s.size - ((k : Int) + 1).toNat < s.size - (k : Int).toNat
          omega
      | false =>
        have HA := Aside0.mk ha
        clear ha
        have hr : res = k := by rw [← HRES.out]; exact tw_stop HT.out hg.out HA.out
        go_wp2_with fail
        refine (among_any _ _ _).mono ?_
        rintro e w' ⟨rfl, rfl⟩
        rw [HA.out]
        go_wp2_with fail
        go_ret
        exact ⟨by first | rfl | (rw [hr]; rfl), rfl⟩
    · have hlt : decide ((k : Int) < (s.size : Int)) = false := decide_eq_false (by omega)
      have hk5i : ¬ (k : Int) < (s.size : Int) := by omega
      have hr : res = s.size := by rw [← HRES.out]; exact (tw_end HT.out (by rw [Array.length_toList]; show s.size ≤ k; omega)).trans (by rw [Array.length_toList]; rfl)
      go_wp2_with fail
      go_ret
      exact ⟨by first | rfl | (rw [hr]; rfl), rfl⟩
theorem contains_any (s sub : ByteArray) (w : World) (hs : s.size < 4294967281) (hL : Laid w) : Calls Tryz.prog 28 #[.string s, .string sub] w fun e w' => e = .returned (.bool (Lib.contains s.data.toList sub.data.toList)) ∧ w' = w := by
  obtain ⟨m, hm⟩ := hL.mx
  exact Tryz.strings_Contains s sub m w hs hm
theorem index_one (s : List UInt8) (c : UInt8) : Lib.contains s [c] = amF s c := by
  unfold Lib.contains amF
  rw [decide_eq_decide, index_iff]
  have hc := am_contains s c
  unfold amF at hc
  have h2 : (0 ≤ Lib.indexByte s c) ↔ s.contains c = true := by rw [← hc, decide_eq_true_eq]
  rw [h2, List.contains_iff_mem]
  constructor
  · rintro ⟨i, hi, ho⟩
    unfold Lib.occAt at ho
    have := List.isPrefixOf_iff_prefix.mp ho
    obtain ⟨t, ht⟩ := this
    have : c ∈ s.drop i := by rw [← ht]; simp
    exact List.mem_of_mem_drop this
  · intro hm
    obtain ⟨i, hi, he⟩ := List.mem_iff_getElem.mp hm
    refine ⟨i, by omega, ?_⟩
    unfold Lib.occAt
    rw [List.drop_eq_getElem_cons hi, he]
    simp
theorem cat_data (a b : ByteArray) : (a ++ b).data.toList = a.data.toList ++ b.data.toList := by rw [ByteArray.data_append, Array.toList_append]
set_option maxHeartbeats 4000000 in
set_option maxRecDepth 100000 in
theorem res_any (a0 : ByteArray) (w : World) (hL : Laid w) (hs : a0.size ≤ 100000000) : Calls Tryz.prog 16 #[.string a0] w fun e w' => e = .returned (.bool (resF a0.data.toList)) ∧ Below w.heap.size w w' := by
  have hT := res_test a0.data.toList
  have HC1 := Aside0.mk (fun w hL => contains_any a0 ⟨#[32]⟩ w (by omega) hL)
  have HC2 := Aside0.mk (fun w hL => contains_any (⟨wordB.toArray⟩ : ByteArray) (((⟨#[32]⟩ : ByteArray) ++ a0) ++ (⟨#[32]⟩ : ByteArray)) w (by decide) hL)
  have e1 : (⟨#[32]⟩ : ByteArray).data.toList = [32] := rfl
  have e2 : (⟨wordB.toArray⟩ : ByteArray).data.toList = wordB := by simp
  have e3 : (((⟨#[32]⟩ : ByteArray) ++ a0) ++ (⟨#[32]⟩ : ByteArray)).data.toList = 32 :: (a0.data.toList ++ [32]) := by rw [cat_data, cat_data]; simp
  rw [e1, index_one] at HC1
  rw [e2, e3] at HC2
  have e4 : Lib.contains wordB (32 :: (a0.data.toList ++ [32])) = decide (0 ≤ Lib.index wordB (32 :: (a0.data.toList ++ [32]))) := rfl
  rw [e4] at HC2
  have e5 : a0.data.toList = [] ↔ a0.toList = [] := by rw [toList_data']
  generalize hres : resF a0.data.toList = res at hT
  generalize amF a0.data.toList 32 = c1 at HC1 hT
  generalize hc2 : decide (0 ≤ Lib.index wordB (32 :: (a0.data.toList ++ [32]))) = c2 at HC2
  have HS := Aside0.mk hs
  have HL := Aside0.mk hL
  clear hs hL e1 e2 e3 e4 hres
  have hr : res = (!a0.toList.isEmpty && (!c1 && c2)) := by
    subst hc2
    cases res with
    | true =>
      obtain ⟨h1, h2, h3⟩ := hT.mpr rfl
      have h4 : a0.toList.isEmpty = false := List.isEmpty_eq_false_iff.mpr (fun h => h1 (e5.mpr h))
      rw [h4, h2, decide_eq_true h3]; rfl
    | false =>
      cases h4 : a0.toList.isEmpty with
      | true => rfl
      | false =>
        cases c1 with
        | true => rfl
        | false =>
          have : ¬ 0 ≤ Lib.index wordB (32 :: (a0.data.toList ++ [32])) := fun h => by
            have := hT.mp ⟨(fun h' => by rw [e5.mp h'] at h4; cases h4), rfl, h⟩
            cases this
          rw [decide_eq_false this]; rfl
  clear hT e5 hc2
  cases hem : a0.toList.isEmpty with
  | true =>
    have h1 : (a0.toList == ([] : List UInt8)) = true := by rw [List.isEmpty_iff.mp hem]; rfl
    have h2 : (a0.toList != ([] : List UInt8)) = false := by rw [List.isEmpty_iff.mp hem]; rfl
    have h3 : a0.toList = [] := List.isEmpty_iff.mp hem
    rw [hem] at hr
    have HR := Aside0.mk hr
    clear hr
    go_enter Tryz.func16, Tryz.ntmps16
    go_wp2_with fail
    go_ret
    exact ⟨by rw [HR.out]; rfl, Below.refl _ _⟩
  | false =>
    have h3 : a0.toList ≠ [] := List.isEmpty_eq_false_iff.mp hem
    have h1 : (a0.toList == ([] : List UInt8)) = false := beq_eq_false_iff_ne.mpr h3
    have h2 : (a0.toList != ([] : List UInt8)) = true := bne_iff_ne.mpr h3
    rw [hem] at hr
    have HR := Aside0.mk hr
    clear hr
    cases c1 with
    | true =>
      go_enter Tryz.func16, Tryz.ntmps16
      go_wp2_with fail
      refine (HC1.out _ HL.out).mono ?_
      rintro e w' ⟨rfl, rfl⟩
      go_wp2_with fail
      go_ret
      exact ⟨by rw [HR.out]; rfl, Below.refl _ _⟩
    | false =>
      go_enter Tryz.func16, Tryz.ntmps16
      go_wp2_with fail
      refine (HC1.out _ HL.out).mono ?_
      rintro e w' ⟨rfl, rfl⟩
      have hs1 : ¬ 9223372036854775807 < 1 + a0.size := by have := HS.out; omega
      have hs2 : ¬ 9223372036854775807 < 1 + a0.size + 1 := by have := HS.out; omega
      go_wp2_with fail
      refine (HC2.out _ HL.out).mono ?_
      rintro e w' ⟨rfl, rfl⟩
      go_wp2_with fail
      go_ret
      exact ⟨by rw [HR.out]; rfl, Below.refl _ _⟩
theorem isTypeOf27 (v : Value) (w : World) : (Extern.ReflectliteType.typeOf #[.iface 27 v]).run Tryz.prog w = .ok (.iface 98 (.agg #[.pointer (some ⟨7, 27, none⟩)])) w := by kernel_rfl
theorem isComparable27 (w : World) : (cmpX #[.agg #[.pointer (some ⟨7, 27, none⟩)]]).run Tryz.prog w = .ok (.bool true) w := by kernel_rfl
theorem noIs27 (v : Value) (xT : TypeId) (w : World) : (Instr.typeAssert (.iface 27 v) xT 112 true).run Tryz.prog w = .ok (.tuple #[.nilIface, .bool false]) w := run_typeAssert_lacksB Tryz.underlying112 (by kernel_rfl) (by kernel_rfl) v xT w
theorem noUnwrap27 (v : Value) (xT : TypeId) (w : World) : (Instr.typeAssert (.iface 27 v) xT 105 true).run Tryz.prog w = .ok (.tuple #[.nilIface, .bool false]) w := run_typeAssert_lacksB Tryz.underlying105 (by kernel_rfl) (by kernel_rfl) v xT w
theorem noUnwraps27 (v : Value) (xT : TypeId) (w : World) : (Instr.typeAssert (.iface 27 v) xT 107 true).run Tryz.prog w = .ok (.tuple #[.nilIface, .bool false]) w := run_typeAssert_lacksB Tryz.underlying107 (by kernel_rfl) (by kernel_rfl) v xT w
set_option maxRecDepth 100000 in
set_option maxHeartbeats 4000000 in
theorem is_errno (c d : Int) (w : World) :
    Calls Tryz.prog 23 #[.iface 27 (.int .i64 c), .iface 27 (.int .i64 d)] w fun e w' => e = .returned (.bool (c == d)) ∧ w' = w := by
  have h8 := @run_callFunc_extern Tryz.prog 46 _ Extern.ReflectliteType.typeOf Tryz.func46 (by kernel_rfl) (by kernel_rfl) (by kernel_rfl) (by kernel_rfl)
  have h32 := @run_callFunc_extern Tryz.prog 131 _ cmpX Tryz.func131 (by kernel_rfl) (by kernel_rfl) (by kernel_rfl) (by kernel_rfl)
  have tT := isTypeOf27
  have cT := isComparable27
  have mR := isMethodComparable
  have nW := noIs27
  have nU := noUnwrap27
  have nV := noUnwraps27
  have heq := Lib.run_eql_iface_int (P := Tryz.prog) (t := 24) (tx := 27) (k := .i64) w c d Tryz.underlying24 (by kernel_rfl) Tryz.underlying27
  cases hcd : (c == d) with
  | true =>
    rw [hcd] at heq
    go_enter Tryz.func23, Tryz.ntmps23
    go_wp2
    refine wp_loop_rounds 2 ?_
    rw [rounds_succ]
    go_wp2
    go_ret
    exact ⟨rfl, rfl⟩
  | false =>
    rw [hcd] at heq
    go_enter Tryz.func23, Tryz.ntmps23
    go_wp2
    refine wp_loop_rounds 2 ?_
    rw [rounds_succ]
    go_wp2
    go_ret
    exact ⟨rfl, rfl⟩
theorem wrong_any (c : Int) (hc : c ≠ 0) (w : World) : Calls Tryz.prog 54 #[.int .i64 c] w fun e w' => e = .returned (errV (if c = 4 then 14 else c)) ∧ w' = w := by
  have hI := is_errno c 4
  by_cases h4 : c = 4
  · subst h4
    rw [show ((4 : Int) == 4) = true from rfl] at hI
    rw [if_pos rfl, show errV 14 = .iface 27 (.int .i64 14) from if_neg (by decide)]
    go_enter Tryz.func54, Tryz.ntmps54
    go_wp2_with fail
    refine (hI _).mono ?_
    rintro e w' ⟨rfl, rfl⟩
    go_wp2_with fail
    go_ret
    exact ⟨rfl, rfl⟩
  · rw [beq_eq_false_iff_ne.mpr h4] at hI
    rw [if_neg h4, show errV c = .iface 27 (.int .i64 c) from if_neg hc]
    go_enter Tryz.func54, Tryz.ntmps54
    go_wp2_with fail
    refine (hI _).mono ?_
    rintro e w' ⟨rfl, rfl⟩
    go_wp2_with fail
    go_ret
    exact ⟨rfl, rfl⟩
end Go.Proofs.YtlbaejihlcfpeaaGreatDoor.G
end
