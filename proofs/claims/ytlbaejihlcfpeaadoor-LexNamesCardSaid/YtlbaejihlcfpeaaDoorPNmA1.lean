import Derived.LaidMore
import Derived.LaidHandle
import Derived.Stop.Joined
import Derived.Lib.IfaceEq
import Derived.Lib.IndexMore
import Derived.Shelf.Abstract
import Derived.LaidEql
import Derived.Stop.Asserts
import Derived.RowKitTokens
import Derived.Lib.LaidTab
import Derived.Lib.AppendIntMem
import Derived.Stop.LaidErr
import Derived.WalkKit
import Derived.Deep.RegionLaw
import Derived.Deep.Cut
import Derived.WalkSpells
import Derived.Maps.OwnOps
import Derived.Maps.OwnSet
import Derived.Maps.Views
import Derived.Maps.RangeWalk
import Derived.Maps.Own
import Derived.Test.YtlbaejihlcfpeaaDoorPNmRS
import Derived.Test.YtlbaejihlcfpeaaDoorPNmV
import Derived.Lib.Hide
set_option linter.unusedVariables false
set_option linter.unusedSimpArgs false
section
namespace Go.Proofs.YtlbaejihlcfpeaaDoor.G
open Go.Proofs.YtlbaejihlcfpeaaDoor.G
open Go.Shelf Go.Extern.Stop Go.Stop Go.Extern Go.RowKit Go.Proofs.YtlbaejihlcfpeaaDoorW.PrintWords Go.Proofs.YtlbaejihlcfpeaaDoorW.PrintLast Go.Proofs.YtlbaejihlcfpeaaDoorW.PrintMore
set_option linter.unusedVariables false
set_option linter.unusedSimpArgs false
def errV (c : Int) : Value := if c = 0 then .nilIface else .iface 30 (.int .i64 c)
theorem nat_u8 (c : UInt8) : ((c.toNat : Int)).toNat.toUInt8 = c := by simp
theorem ib_any (s : ByteArray) (c : UInt8) (w : World) : Calls Tryd.prog 13 #[.string s, .int .u8 c.toNat] w fun e w' => e = .returned (.int .i64 (Lib.indexByte s.data.toList c)) ∧ w' = w := by
  have := Tryd.strings_IndexByte s (c.toNat : Int) w
  rw [nat_u8] at this
  exact this
theorem among_any (c : UInt8) (l : ByteArray) (w : World) : Calls Tryd.prog 11 #[.int .u8 c.toNat, .string l] w fun e w' => e = .returned (.bool (amF l.data.toList c)) ∧ w' = w := by
  generalize hr : amF l.data.toList c = r
  have HX := Aside0.mk (ib_any l c)
  have hd : decide (0 ≤ Lib.indexByte l.data.toList c) = r := hr
  generalize Lib.indexByte l.data.toList c = i at HX hd
  clear hr
  cases r with
  | true =>
    have h0 : 0 ≤ i := of_decide_eq_true hd
    have hb : decide (i ≥ 0) = true := hd
    go_enter Tryd.func11, Tryd.ntmps11
    go_wp2_with fail
    refine (HX.out _).mono ?_
    rintro e w' ⟨rfl, rfl⟩
    go_wp2_with fail
    go_ret
    exact ⟨rfl, rfl⟩
  | false =>
    have h0 : ¬ 0 ≤ i := of_decide_eq_false hd
    have hb : decide (i ≥ 0) = false := hd
    go_enter Tryd.func11, Tryd.ntmps11
    go_wp2_with fail
    refine (HX.out _).mono ?_
    rintro e w' ⟨rfl, rfl⟩
    go_wp2_with fail
    go_ret
    exact ⟨rfl, rfl⟩
theorem tw_start {p : UInt8 → Bool} (u : List UInt8) : u.takeWhile p = u.take 0 ++ (u.drop 0).takeWhile p := by simp
theorem tw_step {p : UInt8 → Bool} {u : List UInt8} {i : Nat} (h : u.takeWhile p = u.take i ++ (u.drop i).takeWhile p) {c : UInt8} (hc : u[i]? = some c) (hp : p c = true) : u.takeWhile p = u.take (i + 1) ++ (u.drop (i + 1)).takeWhile p := by
  obtain ⟨hl, hcc⟩ := List.getElem?_eq_some_iff.mp hc
  rw [h, List.drop_eq_getElem_cons hl, hcc, List.takeWhile_cons_of_pos hp, List.take_add_one, hc]
  simp
theorem tw_stop {p : UInt8 → Bool} {u : List UInt8} {i : Nat} (h : u.takeWhile p = u.take i ++ (u.drop i).takeWhile p) {c : UInt8} (hc : u[i]? = some c) (hp : p c = false) : (u.takeWhile p).length = i := by
  obtain ⟨hl, hcc⟩ := List.getElem?_eq_some_iff.mp hc
  rw [h, List.drop_eq_getElem_cons hl, hcc, List.takeWhile_cons_of_neg (by rw [hp]; decide), List.append_nil, List.length_take]
  omega
theorem tw_end {p : UInt8 → Bool} {u : List UInt8} {i : Nat} (h : u.takeWhile p = u.take i ++ (u.drop i).takeWhile p) (hi : u.length ≤ i) : (u.takeWhile p).length = u.length := by
  rw [h, List.drop_eq_nil_of_le hi, List.takeWhile_nil, List.append_nil, List.take_of_length_le hi]
theorem get_data (s : ByteArray) (i : Nat) (h : i < s.size) : s.data.toList[i]? = some (s[i]'h) := by
  rw [Array.getElem?_toList]; exact Array.getElem?_eq_getElem h
set_option maxHeartbeats 4000000 in
set_option maxRecDepth 100000 in
theorem long_any (s l : ByteArray) (hs : s.size ≤ 140737488353280) (w : World) : Calls Tryd.prog 21 #[.string s, .string l] w fun e w' => e = .returned (.int .i64 ((s.data.toList.takeWhile (amF l.data.toList)).length : Nat)) ∧ w' = w := by
  generalize hres : (s.data.toList.takeWhile (amF l.data.toList)).length = res
  have HRES := Aside0.mk hres
  have HS := Aside0.mk hs
  clear hres hs
  go_enter Tryd.func21, Tryd.ntmps21
  go_wp2_with fail
  go_loopw [8] (fun v8 wr => ∃ k : Nat, v8 = .int .i64 k ∧ k ≤ s.size ∧ Aside0 (s.data.toList.takeWhile (amF l.data.toList) = s.data.toList.take k ++ (s.data.toList.drop k).takeWhile (amF l.data.toList)) ∧ wr = w) (fun v8 _ => s.size - (intOf v8).toNat)
  case atStart => exact ⟨0, rfl, by omega, ⟨tw_start _⟩, rfl⟩
  case round =>
    obtain ⟨k, rfl, hk, HT, rfl⟩ := hrel
    by_cases hk5 : k < s.size
    · have hlt : decide ((k : Int) < (s.size : Int)) = true := decide_eq_true (by omega)
      have hk5i : (k : Int) < (s.size : Int) := by omega
      have hg := Aside0.mk (get_data s k hk5)
      have hw : wrap64 ((k : Int) + 1) = (k : Int) + 1 := IntWalk.wrap64_in _ ⟨by omega, by have := HS.out; omega⟩
      cases ha : amF l.data.toList (s[k]'hk5) with
      | true =>
        have HA := Aside0.mk ha
        clear ha
        go_wp2_with fail
        refine (among_any _ _ _).mono ?_
        rintro e w' ⟨rfl, rfl⟩
        rw [HA.out]
        go_wp2_with fail
        go_roundw
        case rel => exact ⟨k + 1, by go_num, by omega, ⟨tw_step HT.out hg.out HA.out⟩, by first | trivial | rfl⟩
        case measure =>
          rw [hw]
          clear hw hlt
          show s.size - ((k : Int) + 1).toNat < s.size - (k : Int).toNat
          omega
      | false =>
        have HA := Aside0.mk ha
        clear ha
        have hr : res = k := by rw [← HRES.out]; exact tw_stop HT.out hg.out HA.out
        go_wp2_with fail
        refine (among_any _ _ _).mono ?_
        rintro e w' ⟨rfl, rfl⟩
        rw [HA.out]
        go_wp2_with fail
        go_ret
        exact ⟨by first | rfl | (rw [hr]; rfl), rfl⟩
    · have hlt : decide ((k : Int) < (s.size : Int)) = false := decide_eq_false (by omega)
      have hk5i : ¬ (k : Int) < (s.size : Int) := by omega
      have hr : res = s.size := by rw [← HRES.out]; exact (tw_end HT.out (by rw [Array.length_toList]; show s.size ≤ k; omega)).trans (by rw [Array.length_toList]; rfl)
      go_wp2_with fail
      go_ret
      exact ⟨by first | rfl | (rw [hr]; rfl), rfl⟩
theorem contains_any (s sub : ByteArray) (w : World) (hs : s.size < 4294967281) (hL : Laid w) : Calls Tryd.prog 10 #[.string s, .string sub] w fun e w' => e = .returned (.bool (Lib.contains s.data.toList sub.data.toList)) ∧ w' = w := by
  obtain ⟨m, hm⟩ := hL.mx
  exact Tryd.strings_Contains s sub m w hs hm
theorem sindex_one (s : ByteArray) (c : UInt8) (w : World) : Calls Tryd.prog 17 #[.string s, .string ⟨#[c]⟩] w fun e w' => e = .returned (.int .i64 (Lib.indexByte s.data.toList c)) ∧ w' = w := by
  have HI := Aside0.mk (fun w => Tryd.stringslite_Index_one s c w)
  generalize Lib.indexByte s.data.toList c = r at HI ⊢
  go_enter Tryd.func17, Tryd.ntmps17
  go_wp2_with fail
  refine (HI.out _).mono ?_
  rintro e w' ⟨rfl, rfl⟩
  go_wp2_with fail
  go_ret
  exact ⟨rfl, rfl⟩
theorem contains_one (s : ByteArray) (c : UInt8) (w : World) : Calls Tryd.prog 10 #[.string s, .string ⟨#[c]⟩] w fun e w' => e = .returned (.bool (amF s.data.toList c)) ∧ w' = w := by
  have HI := Aside0.mk (fun w => sindex_one s c w)
  unfold amF
  generalize Lib.indexByte s.data.toList c = r at HI ⊢
  go_enter Tryd.func10, Tryd.ntmps10
  go_wp2_with fail
  refine (HI.out _).mono ?_
  rintro e w' ⟨rfl, rfl⟩
  go_wp2_with fail
  go_ret
  exact ⟨rfl, rfl⟩
theorem cat_data (a b : ByteArray) : (a ++ b).data.toList = a.data.toList ++ b.data.toList := by rw [ByteArray.data_append, Array.toList_append]
set_option maxHeartbeats 4000000 in
set_option maxRecDepth 100000 in
theorem res_any (a0 : ByteArray) (w : World) (hL : Laid w) (hs : a0.size ≤ 140737488353280) : Calls Tryd.prog 5 #[.string a0] w fun e w' => e = .returned (.bool (resF a0.data.toList)) ∧ Below w.heap.size w w' := by
  have hT := res_test a0.data.toList
  have HC1 := Aside0.mk (fun w => contains_one a0 32 w)
  have HC2 := Aside0.mk (fun w hL => contains_any (⟨wordB.toArray⟩ : ByteArray) (((⟨#[32]⟩ : ByteArray) ++ a0) ++ (⟨#[32]⟩ : ByteArray)) w (by decide) hL)
  have e2 : (⟨wordB.toArray⟩ : ByteArray).data.toList = wordB := by simp
  have e3 : (((⟨#[32]⟩ : ByteArray) ++ a0) ++ (⟨#[32]⟩ : ByteArray)).data.toList = 32 :: (a0.data.toList ++ [32]) := by rw [cat_data, cat_data]; simp
  rw [e2, e3] at HC2
  have e4 : Lib.contains wordB (32 :: (a0.data.toList ++ [32])) = decide (0 ≤ Lib.index wordB (32 :: (a0.data.toList ++ [32]))) := rfl
  rw [e4] at HC2
  have e5 : a0.data.toList = [] ↔ a0.toList = [] := by rw [toList_data']
  generalize hres : resF a0.data.toList = res at hT
  generalize amF a0.data.toList 32 = c1 at HC1 hT
  generalize hc2 : decide (0 ≤ Lib.index wordB (32 :: (a0.data.toList ++ [32]))) = c2 at HC2
  have HS := Aside0.mk hs
  have HL := Aside0.mk hL
  clear hs hL e2 e3 e4 hres
  have hr : res = (!a0.toList.isEmpty && (!c1 && c2)) := by
    subst hc2
    cases res with
    | true =>
      obtain ⟨h1, h2, h3⟩ := hT.mpr rfl
      have h4 : a0.toList.isEmpty = false := List.isEmpty_eq_false_iff.mpr (fun h => h1 (e5.mpr h))
      rw [h4, h2, decide_eq_true h3]; rfl
    | false =>
      cases h4 : a0.toList.isEmpty with
      | true => rfl
      | false =>
        cases c1 with
        | true => rfl
        | false =>
          have : ¬ 0 ≤ Lib.index wordB (32 :: (a0.data.toList ++ [32])) := fun h => by
            have := hT.mp ⟨(fun h' => by rw [e5.mp h'] at h4; cases h4), rfl, h⟩
            cases this
          rw [decide_eq_false this]; rfl
  clear hT e5 hc2
  cases hem : a0.toList.isEmpty with
  | true =>
    have h1 : (a0.toList == ([] : List UInt8)) = true := by rw [List.isEmpty_iff.mp hem]; rfl
    have h2 : (a0.toList != ([] : List UInt8)) = false := by rw [List.isEmpty_iff.mp hem]; rfl
    have h3 : a0.toList = [] := List.isEmpty_iff.mp hem
    rw [hem] at hr
    have HR := Aside0.mk hr
    clear hr
    go_enter Tryd.func5, Tryd.ntmps5
    go_wp2_with fail
    go_ret
    exact ⟨by rw [HR.out]; rfl, Below.refl _ _⟩
  | false =>
    have h3 : a0.toList ≠ [] := List.isEmpty_eq_false_iff.mp hem
    have h1 : (a0.toList == ([] : List UInt8)) = false := beq_eq_false_iff_ne.mpr h3
    have h2 : (a0.toList != ([] : List UInt8)) = true := bne_iff_ne.mpr h3
    rw [hem] at hr
    have HR := Aside0.mk hr
    clear hr
    cases c1 with
    | true =>
      go_enter Tryd.func5, Tryd.ntmps5
      go_wp2_with fail
      refine (HC1.out _).mono ?_
      rintro e w' ⟨rfl, rfl⟩
      go_wp2_with fail
      go_ret
      exact ⟨by rw [HR.out]; rfl, Below.refl _ _⟩
    | false =>
      go_enter Tryd.func5, Tryd.ntmps5
      go_wp2_with fail
      refine (HC1.out _).mono ?_
      rintro e w' ⟨rfl, rfl⟩
      have hs1 : ¬ 9223372036854775807 < 1 + a0.size := by have := HS.out; omega
      have hs2 : ¬ 9223372036854775807 < 1 + a0.size + 1 := by have := HS.out; omega
      go_wp2_with fail
      refine (HC2.out _ HL.out).mono ?_
      rintro e w' ⟨rfl, rfl⟩
      go_wp2_with fail
      go_ret
      exact ⟨by rw [HR.out]; rfl, Below.refl _ _⟩
theorem isTypeOf27 (v : Value) (w : World) : (Extern.ReflectliteType.typeOf #[.iface 30 v]).run Tryd.prog w = .ok (.iface 70 (.agg #[.pointer (some ⟨7, 30, none⟩)])) w := by kernel_rfl
theorem isComparable27 (w : World) : (cmpX #[.agg #[.pointer (some ⟨7, 30, none⟩)]]).run Tryd.prog w = .ok (.bool true) w := by kernel_rfl
theorem noIs27 (v : Value) (xT : TypeId) (w : World) : (Instr.typeAssert (.iface 30 v) xT 82 true).run Tryd.prog w = .ok (.tuple #[.nilIface, .bool false]) w := run_typeAssert_lacksB Tryd.underlying82 (by kernel_rfl) (by kernel_rfl) v xT w
theorem noUnwrap27 (v : Value) (xT : TypeId) (w : World) : (Instr.typeAssert (.iface 30 v) xT 77 true).run Tryd.prog w = .ok (.tuple #[.nilIface, .bool false]) w := run_typeAssert_lacksB Tryd.underlying77 (by kernel_rfl) (by kernel_rfl) v xT w
theorem noUnwraps27 (v : Value) (xT : TypeId) (w : World) : (Instr.typeAssert (.iface 30 v) xT 79 true).run Tryd.prog w = .ok (.tuple #[.nilIface, .bool false]) w := run_typeAssert_lacksB Tryd.underlying79 (by kernel_rfl) (by kernel_rfl) v xT w
set_option maxRecDepth 100000 in
set_option maxHeartbeats 4000000 in
theorem is_errno (c d : Int) (w : World) :
    Calls Tryd.prog 16 #[.iface 30 (.int .i64 c), .iface 30 (.int .i64 d)] w fun e w' => e = .returned (.bool (c == d)) ∧ w' = w := by
  have h8 := @run_callFunc_extern Tryd.prog 28 _ Extern.ReflectliteType.typeOf Tryd.func28 (by kernel_rfl) (by kernel_rfl) (by kernel_rfl) (by kernel_rfl)
  have h32 := @run_callFunc_extern Tryd.prog 103 _ cmpX Tryd.func103 (by kernel_rfl) (by kernel_rfl) (by kernel_rfl) (by kernel_rfl)
  have tT := isTypeOf27
  have cT := isComparable27
  have mR := isMethodComparable
  have nW := noIs27
  have nU := noUnwrap27
  have nV := noUnwraps27
  have heq := Lib.run_eql_iface_int (P := Tryd.prog) (t := 26) (tx := 30) (k := .i64) w c d Tryd.underlying26 (by kernel_rfl) Tryd.underlying30
  cases hcd : (c == d) with
  | true =>
    rw [hcd] at heq
    go_enter Tryd.func16, Tryd.ntmps16
    go_wp2
    refine wp_loop_rounds 2 ?_
    rw [rounds_succ]
    go_wp2
    go_ret
    exact ⟨rfl, rfl⟩
  | false =>
    rw [hcd] at heq
    go_enter Tryd.func16, Tryd.ntmps16
    go_wp2
    refine wp_loop_rounds 2 ?_
    rw [rounds_succ]
    go_wp2
    go_ret
    exact ⟨rfl, rfl⟩
theorem wrong_any (c : Int) (hc : c ≠ 0) (w : World) : Calls Tryd.prog 35 #[.int .i64 c] w fun e w' => e = .returned (errV (if c = 4 then 14 else c)) ∧ w' = w := by
  have hI := is_errno c 4
  by_cases h4 : c = 4
  · subst h4
    rw [show ((4 : Int) == 4) = true from rfl] at hI
    rw [if_pos rfl, show errV 14 = .iface 30 (.int .i64 14) from if_neg (by decide)]
    go_enter Tryd.func35, Tryd.ntmps35
    go_wp2_with fail
    refine (hI _).mono ?_
    rintro e w' ⟨rfl, rfl⟩
    go_wp2_with fail
    go_ret
    exact ⟨rfl, rfl⟩
  · rw [beq_eq_false_iff_ne.mpr h4] at hI
    rw [if_neg h4, show errV c = .iface 30 (.int .i64 c) from if_neg hc]
    go_enter Tryd.func35, Tryd.ntmps35
    go_wp2_with fail
    refine (hI _).mono ?_
    rintro e w' ⟨rfl, rfl⟩
    go_wp2_with fail
    go_ret
    exact ⟨rfl, rfl⟩
end Go.Proofs.YtlbaejihlcfpeaaDoor.G
end
