import Derived.LaidMore
import Derived.LaidHandle
import Derived.Stop.Joined
import Derived.Lib.IfaceEq
import Derived.Lib.IndexMore
import Derived.Shelf.Abstract
import Derived.LaidEql
import Derived.Stop.Asserts
import Derived.RowKitTokens
import Derived.Lib.LaidTab
import Derived.Lib.AppendIntMem
import Derived.Stop.LaidErr
import Derived.WalkKit
import Derived.Deep.RegionLaw
import Derived.Deep.Cut
import Derived.WalkSpells
import Derived.Maps.OwnOps
import Derived.Maps.OwnSet
import Derived.Maps.Views
import Derived.Maps.RangeWalk
import Derived.Maps.Own
import Derived.Deep.QuietTactic
import Derived.BigQuiet
import Derived.Test.YtlbaejihlcfpeaaDoorPNmOW
import Derived.Lib.Hide
set_option linter.unusedVariables false
set_option linter.unusedSimpArgs false
section
namespace Go.Proofs.YtlbaejihlcfpeaaDoor.G
open Go.Proofs.YtlbaejihlcfpeaaDoor.G Go.Proofs.YtlbaejihlcfpeaaDoor.Z
open Go.Shelf Go.Extern.Stop Go.Stop Go.Extern Go.RowKit Go.Proofs.YtlbaejihlcfpeaaDoorW.PrintWords Go.Proofs.YtlbaejihlcfpeaaDoorW.PrintLast Go.Proofs.YtlbaejihlcfpeaaDoorW.PrintMore
set_option linter.unusedVariables false
set_option linter.unusedSimpArgs false
theorem lexR_of {s : ByteArray} (hs : s.size ≤ 32768) {x : List Tk × Int × Int} (h : TokR readL unqL s.data.toList 0 [] x) : lexR s = x :=
  TokR.same ⟨_, lexR_tok (by omega)⟩ h
theorem fault0 {w w' : World} {ev : Value} {a : Int} (h : FaultV w w' ev 0 a) : ev = .nilIface := by
  rcases h with ⟨_, h⟩ | ⟨h, _⟩
  · exact h
  · exact absurd rfl h
def pre (u : List UInt8) (i : Nat) : Bool := decide (0 < u.length) && (decide (u.length ≤ 40) && ((decide (i = 0) || (u.head?.map isLet == some true)) && (u.take i).all isAl))
theorem pre_start (u : List UInt8) : pre u 0 = (decide (0 < u.length) && decide (u.length ≤ 40)) := by unfold pre; simp
theorem pre_end (u : List UInt8) : pre u u.length = isNm u := by
  unfold pre isNm
  cases u with
  | nil => rfl
  | cons c r => simp
theorem pre_no {u : List UInt8} {i : Nat} (h : pre u i = false) : isNm u = false := by
  rw [Bool.eq_false_iff]
  intro hn
  unfold isNm at hn
  simp only [Bool.and_eq_true, decide_eq_true_eq] at hn
  obtain ⟨h0, h1, h2, h3⟩ := hn
  have : pre u i = true := by
    unfold pre
    simp only [Bool.and_eq_true, Bool.or_eq_true, decide_eq_true_eq]
    refine ⟨h0, h1, .inr h2, ?_⟩
    exact List.all_eq_true.2 fun x hx => List.all_eq_true.1 h3 x (List.mem_of_mem_take hx)
  rw [h] at this
  cases this
theorem pre_step {u : List UInt8} {i : Nat} {c : UInt8} (hc : u[i]? = some c) (h : pre u i = true) : pre u (i + 1) = (isLet c || (decide (0 < i) && isDig c)) := by
  unfold pre at h ⊢
  simp only [Bool.and_eq_true, Bool.or_eq_true, decide_eq_true_eq] at h
  obtain ⟨h0, h1, h2, h3⟩ := h
  rw [decide_eq_true h0, decide_eq_true h1, decide_eq_false (show ¬ i + 1 = 0 by omega), Bool.true_and, Bool.true_and, Bool.false_or]
  have ht : u.take (i + 1) = u.take i ++ [c] := by rw [List.take_add_one, hc]; rfl
  rw [ht, List.all_append, h3, Bool.true_and]
  cases i with
  | zero =>
    have : u.head? = some c := by rw [List.head?_eq_getElem?]; exact hc
    rw [this]
    simp [isAl]
    intro h; simp [h]
  | succ i =>
    have : u.head?.map isLet = some true := by
      rcases h2 with h2 | h2
      · cases h2
      · exact beq_iff_eq.mp h2
    rw [this]
    simp [isAl]
theorem pre_le {u : List UInt8} {i : Nat} (h : pre u i = true) : u.length ≤ 40 := by
  unfold pre at h
  simp only [Bool.and_eq_true, decide_eq_true_eq] at h
  exact h.2.1
theorem nm_le {u : List UInt8} (h : isNm u = true) : u.length ≤ 40 := by rw [← pre_end] at h; exact pre_le h
theorem not_res {u : List UInt8} (h : isNm u = false) : resF u = false := by
  cases hr : resF u with
  | false => rfl
  | true => rw [res_nm hr] at h; cases h
set_option maxHeartbeats 4000000 in
set_option maxRecDepth 100000 in
theorem res_eq (a0 : ByteArray) (w : World) (hL : Laid w) (hs : a0.size ≤ 140737488353280) : Calls Tryd.prog 5 #[.string a0] w fun e w' => e = .returned (.bool (resF a0.data.toList)) ∧ w' = w := by
  have hT := res_test a0.data.toList
  have HC1 := Aside0.mk (fun w => contains_one a0 32 w)
  have HC2 := Aside0.mk (fun w hL => contains_any (⟨wordB.toArray⟩ : ByteArray) (((⟨#[32]⟩ : ByteArray) ++ a0) ++ (⟨#[32]⟩ : ByteArray)) w (by decide) hL)
  have e2 : (⟨wordB.toArray⟩ : ByteArray).data.toList = wordB := by simp
  have e3 : (((⟨#[32]⟩ : ByteArray) ++ a0) ++ (⟨#[32]⟩ : ByteArray)).data.toList = 32 :: (a0.data.toList ++ [32]) := by rw [cat_data, cat_data]; simp
  rw [e2, e3] at HC2
  have e4 : Lib.contains wordB (32 :: (a0.data.toList ++ [32])) = decide (0 ≤ Lib.index wordB (32 :: (a0.data.toList ++ [32]))) := rfl
  rw [e4] at HC2
  have e5 : a0.data.toList = [] ↔ a0.toList = [] := by rw [toList_data']
  generalize hres : resF a0.data.toList = res at hT
  generalize amF a0.data.toList 32 = c1 at HC1 hT
  generalize hc2 : decide (0 ≤ Lib.index wordB (32 :: (a0.data.toList ++ [32]))) = c2 at HC2
  have HS := Aside0.mk hs
  have HL := Aside0.mk hL
  clear hs hL e2 e3 e4 hres
  have hr : res = (!a0.toList.isEmpty && (!c1 && c2)) := by
    subst hc2
    cases res with
    | true =>
      obtain ⟨h1, h2, h3⟩ := hT.mpr rfl
      have h4 : a0.toList.isEmpty = false := List.isEmpty_eq_false_iff.mpr (fun h => h1 (e5.mpr h))
      rw [h4, h2, decide_eq_true h3]; rfl
    | false =>
      cases h4 : a0.toList.isEmpty with
      | true => rfl
      | false =>
        cases c1 with
        | true => rfl
        | false =>
          have : ¬ 0 ≤ Lib.index wordB (32 :: (a0.data.toList ++ [32])) := fun h => by
            have := hT.mp ⟨(fun h' => by rw [e5.mp h'] at h4; cases h4), rfl, h⟩
            cases this
          rw [decide_eq_false this]; rfl
  clear hT e5 hc2
  cases hem : a0.toList.isEmpty with
  | true =>
    have h1 : (a0.toList == ([] : List UInt8)) = true := by rw [List.isEmpty_iff.mp hem]; rfl
    have h2 : (a0.toList != ([] : List UInt8)) = false := by rw [List.isEmpty_iff.mp hem]; rfl
    have h3 : a0.toList = [] := List.isEmpty_iff.mp hem
    rw [hem] at hr
    have HR := Aside0.mk hr
    clear hr
    go_enter Tryd.func5, Tryd.ntmps5
    go_wp2_with fail
    go_ret
    exact ⟨by rw [HR.out]; rfl, rfl⟩
  | false =>
    have h3 : a0.toList ≠ [] := List.isEmpty_eq_false_iff.mp hem
    have h1 : (a0.toList == ([] : List UInt8)) = false := beq_eq_false_iff_ne.mpr h3
    have h2 : (a0.toList != ([] : List UInt8)) = true := bne_iff_ne.mpr h3
    rw [hem] at hr
    have HR := Aside0.mk hr
    clear hr
    cases c1 with
    | true =>
      go_enter Tryd.func5, Tryd.ntmps5
      go_wp2_with fail
      refine (HC1.out _).mono ?_
      rintro e w' ⟨rfl, rfl⟩
      go_wp2_with fail
      go_ret
      exact ⟨by rw [HR.out]; rfl, rfl⟩
    | false =>
      go_enter Tryd.func5, Tryd.ntmps5
      go_wp2_with fail
      refine (HC1.out _).mono ?_
      rintro e w' ⟨rfl, rfl⟩
      have hs1 : ¬ 9223372036854775807 < 1 + a0.size := by have := HS.out; omega
      have hs2 : ¬ 9223372036854775807 < 1 + a0.size + 1 := by have := HS.out; omega
      go_wp2_with fail
      refine (HC2.out _ HL.out).mono ?_
      rintro e w' ⟨rfl, rfl⟩
      go_wp2_with fail
      go_ret
      exact ⟨by rw [HR.out]; rfl, rfl⟩
def nmS (s : ByteArray) : ByteArray := ((⟨#[32]⟩ : ByteArray) ++ s) ++ (⟨#[40]⟩ : ByteArray)
theorem nmS_data (s : ByteArray) : (nmS s).data.toList = 32 :: (s.data.toList ++ [40]) := by unfold nmS; rw [cat_data, cat_data]; simp
theorem nmS_size (s : ByteArray) : (nmS s).size = s.size + 2 := by
  rw [← size_data, nmS_data]; simp [size_data]
theorem mk_self (s : ByteArray) : (⟨s.data.toList.toArray⟩ : ByteArray) = s := by simp
theorem nm_long {s : ByteArray} (h : isNm s.data.toList = true) (hl : 24 < s.size) : lexR (nmS s) = ([], 14, 0) := by
  refine lexR_of (by rw [nmS_size, ← size_data]; have := nm_le h; omega) ?_
  rw [nmS_data]
  exact name_long h (by rw [size_data]; exact hl)
theorem nm_short {s : ByteArray} (h : isNm s.data.toList = true) (hl : s.size ≤ 24) : lexR (nmS s) = ([⟨if resF s.data.toList then 4 else 1, s, 0, 0⟩, ⟨4, ⟨#[40]⟩, 0, 0⟩, ⟨5, ⟨#[]⟩, 0, 0⟩], 0, 0) := by
  refine lexR_of (by rw [nmS_size]; omega) ?_
  rw [nmS_data]
  have := name_short (numF := readL) (unqF := unqL) h (by rw [size_data]; exact hl)
  rw [mk_self] at this
  exact this
set_option maxHeartbeats 16000000 in
set_option maxRecDepth 100000 in
theorem names_any (s : ByteArray) (w : World) (hL : Laid w) (hs : s.size ≤ 140737488351232) : Calls Tryd.prog 4 #[.string s] w fun e w' => e = .returned (.bool true) ∧ Below w.heap.size w w' := by
  have HL := Aside0.mk hL
  have HS := Aside0.mk hs
  have HV := Aside0.mk (fun w hL => res_any s w hL (by omega))
  have HQV := Aside0.mk (fun w hL => res_eq s w hL (by omega))
  clear hL hs
  go_enter Tryd.func4, Tryd.ntmps4
  go_wp2_with fail
  refine (works_any w HL.out).mono ?_
  rintro e w1 ⟨rfl, hb⟩
  have HB1 := Aside0.mk hb
  have HL1 := Aside0.mk (Laid.below hb HL.out)
  clear hb
  have hsl := size_data s
  have HNM := Aside0.mk (fun (h : s.size = 0 ∨ 40 < s.size) => (show isNm s.data.toList = false from by
    rw [Bool.eq_false_iff]; intro h1; have := nm_le h1; rcases h with h | h
    · rw [← hsl] at h; rw [List.eq_nil_of_length_eq_zero h] at h1; cases h1
    · omega))
  by_cases hz : s.size = 0
  · have HRF := Aside0.mk (not_res (HNM.out (.inl hz)))
    have h0 : decide ((s.size : Int) > 0) = false := decide_eq_false (by omega)
    have h0i : ¬ (0 : Int) < (s.size : Int) := by omega
    clear hsl hz
    go_wp2_with fail
    refine wp_loop_rounds 1 ?_
    rw [rounds_succ]
    go_wp2_with fail
    refine (HV.out _ HL1.out).mono ?_
    rintro e w2 ⟨rfl, hb⟩
    rw [HRF.out]
    have HB2 := Aside0.mk (below_step HB1.out hb)
    clear hb
    go_wp2_with fail
    go_ret
    exact ⟨rfl, HB2.out⟩
  by_cases h40 : 40 < s.size
  · have HRF := Aside0.mk (not_res (HNM.out (.inr h40)))
    have h0 : decide ((s.size : Int) > 0) = true := decide_eq_true (by omega)
    have h0i : (0 : Int) < (s.size : Int) := by omega
    have h1 : decide ((s.size : Int) ≤ 40) = false := decide_eq_false (by omega)
    have h1i : ¬ (s.size : Int) ≤ 40 := by omega
    clear hsl hz h40
    go_wp2_with fail
    refine wp_loop_rounds 1 ?_
    rw [rounds_succ]
    go_wp2_with fail
    refine (HV.out _ HL1.out).mono ?_
    rintro e w2 ⟨rfl, hb⟩
    rw [HRF.out]
    have HB2 := Aside0.mk (below_step HB1.out hb)
    clear hb
    go_wp2_with fail
    go_ret
    exact ⟨rfl, HB2.out⟩
  have h0 : decide ((s.size : Int) > 0) = true := decide_eq_true (by omega)
  have h0i : (0 : Int) < (s.size : Int) := by omega
  have h1 : decide ((s.size : Int) ≤ 40) = true := decide_eq_true (by omega)
  have h1i : (s.size : Int) ≤ 40 := by omega
  have hp0 : pre s.data.toList 0 = true := by rw [pre_start, hsl, decide_eq_true (by omega), decide_eq_true (by omega)]; rfl
  have HP0 := Aside0.mk hp0
  have HSL := Aside0.mk hsl
  clear hp0 hsl HNM
  go_wp2_with fail
  go_loopw [3, 4] (fun v3 v4 wr => ∃ i : Nat, v4 = .int .i64 i ∧ v3 = .bool (pre s.data.toList i) ∧ i ≤ s.size ∧ wr = w1) (fun _ v4 _ => s.size - (intOf v4).toNat)
  case atStart => exact ⟨0, rfl, by rw [HP0.out], by omega, rfl⟩
  case round =>
    obtain ⟨i, rfl, rfl, hi, rfl⟩ := hrel
    have HPE := Aside0.mk (pre_end s.data.toList)
    have HPN := Aside0.mk (fun h => pre_no (u := s.data.toList) (i := i) h)
    have HST := Aside0.mk (fun c hc h => pre_step (u := s.data.toList) (i := i) (c := c) hc h)
    rw [HSL.out] at HPE
    have HII := Aside0.mk (fun (h : i = s.size) => (show pre s.data.toList i = isNm s.data.toList from by rw [h]; exact HPE.out))
    generalize hp : pre s.data.toList i = p at HPN HST HII ⊢
    cases p with
    | false =>
      have HRF := Aside0.mk (not_res (HPN.out rfl))
      clear HPN HST HII hp HPE
      by_cases hlt : i < s.size
      · have hlt1 : decide ((i : Int) < (s.size : Int)) = true := decide_eq_true (by omega)
        have hlt2 : (i : Int) < (s.size : Int) := by omega
        go_wp2_with fail
        refine (HV.out _ HL1.out).mono ?_
        rintro e w2 ⟨rfl, hb⟩
        rw [HRF.out]
        have HB2 := Aside0.mk (below_step HB1.out hb)
        clear hb
        go_wp2_with fail
        go_ret
        exact ⟨rfl, HB2.out⟩
      · have hlt1 : decide ((i : Int) < (s.size : Int)) = false := decide_eq_false (by omega)
        have hlt2 : ¬ (i : Int) < (s.size : Int) := by omega
        go_wp2_with fail
        refine (HV.out _ HL1.out).mono ?_
        rintro e w2 ⟨rfl, hb⟩
        rw [HRF.out]
        have HB2 := Aside0.mk (below_step HB1.out hb)
        clear hb
        go_wp2_with fail
        go_ret
        exact ⟨rfl, HB2.out⟩
    | true =>
      by_cases hlt : i < s.size
      · have hlt1 : decide ((i : Int) < (s.size : Int)) = true := decide_eq_true (by omega)
        have hlt2 : (i : Int) < (s.size : Int) := by omega
        have hw : wrap64 ((i : Int) + 1) = (i : Int) + 1 := IntWalk.wrap64_in _ ⟨by omega, by have := HS.out; omega⟩
        have HSP := Aside0.mk (HST.out _ (get_data s i hlt) rfl)
        clear HPN HST HII hp HPE
        go_upto_region 8 with (fail)
        have hc0 : (s[i]'hlt).toNat < 256 := (s[i]'hlt).toNat_lt
        generalize hcc : s[i]'hlt = c at hc0 HSP ⊢
        clear hcc
        have hcl : (97 ≤ c.toNat ∧ c.toNat ≤ 122) ∨ 122 < c.toNat ∨ (65 ≤ c.toNat ∧ c.toNat ≤ 90) ∨ c.toNat = 95 ∨ (90 < c.toNat ∧ c.toNat < 97 ∧ c.toNat ≠ 95) ∨ c.toNat < 48 ∨ (48 ≤ c.toNat ∧ c.toNat ≤ 57) ∨ (57 < c.toNat ∧ c.toNat < 65) := by omega
        have hcl2 := hcl
        rcases hcl2 with h1 | h1 | h1 | h1 | h1 | h1 | h1 | h1
        · have fa : decide ((c.toNat : Int) ≥ 97) = true := decide_eq_true (by omega)
          have ga : (97 : Int) ≤ (c.toNat : Int) := by omega
          have fb : decide ((c.toNat : Int) ≤ 122) = true := decide_eq_true (by omega)
          have gb : (c.toNat : Int) ≤ 122 := by omega
          have HQ := Aside0.mk (HSP.out.trans (show (isLet c || (decide (0 < i) && isDig c)) = true from by unfold isLet isDig; simp only [Bool.or_eq_true, Bool.and_eq_true, decide_eq_true_eq]; omega))
          clear HSP hcl
          go_wp2_with fail
          go_roundw
          case rel => exact ⟨i + 1, by go_num, by rw [HQ.out], by omega, by first | trivial | rfl⟩
          case measure => first | (show s.size - ((i : Int) + 1).toNat < s.size - (i : Int).toNat; omega) | (show s.size - (1 : Int).toNat < s.size - (i : Int).toNat; omega)
        · have fa : decide ((c.toNat : Int) ≥ 97) = true := decide_eq_true (by omega)
          have ga : (97 : Int) ≤ (c.toNat : Int) := by omega
          have fb : decide ((c.toNat : Int) ≤ 122) = false := decide_eq_false (by omega)
          have gb : ¬ (c.toNat : Int) ≤ 122 := by omega
          have fc : decide ((c.toNat : Int) ≥ 65) = true := decide_eq_true (by omega)
          have gc : (65 : Int) ≤ (c.toNat : Int) := by omega
          have fd : decide ((c.toNat : Int) ≤ 90) = false := decide_eq_false (by omega)
          have gd : ¬ (c.toNat : Int) ≤ 90 := by omega
          have fe : ((c.toNat : Int) == 95) = false := beq_eq_false_iff_ne.mpr (by omega)
          have fh : decide ((c.toNat : Int) ≥ 48) = true := decide_eq_true (by omega)
          have gh : (48 : Int) ≤ (c.toNat : Int) := by omega
          have fk : decide ((c.toNat : Int) ≤ 57) = false := decide_eq_false (by omega)
          have gk : ¬ (c.toNat : Int) ≤ 57 := by omega
          by_cases hi0 : i = 0
          · have gi : decide ((i : Int) > 0) = false := decide_eq_false (by omega)
            have gj : ¬ (0 : Int) < (i : Int) := by omega
            have HQ := Aside0.mk (HSP.out.trans (show (isLet c || (decide (0 < i) && isDig c)) = false from by rw [Bool.eq_false_iff]; unfold isLet isDig; simp only [ne_eq, Bool.or_eq_true, Bool.and_eq_true, decide_eq_true_eq]; omega))
            clear HSP hcl
            go_wp2_with fail
            go_roundw
            case rel => exact ⟨i + 1, by go_num, by rw [HQ.out], by omega, by first | trivial | rfl⟩
            case measure => first | (show s.size - ((i : Int) + 1).toNat < s.size - (i : Int).toNat; omega) | (show s.size - (1 : Int).toNat < s.size - (i : Int).toNat; omega)
          · have gi : decide ((i : Int) > 0) = true := decide_eq_true (by omega)
            have gj : (0 : Int) < (i : Int) := by omega
            have HQ := Aside0.mk (HSP.out.trans (show (isLet c || (decide (0 < i) && isDig c)) = false from by rw [Bool.eq_false_iff]; unfold isLet isDig; simp only [ne_eq, Bool.or_eq_true, Bool.and_eq_true, decide_eq_true_eq]; omega))
            clear HSP hcl
            go_wp2_with fail
            go_roundw
            case rel => exact ⟨i + 1, by go_num, by rw [HQ.out], by omega, by first | trivial | rfl⟩
            case measure => first | (show s.size - ((i : Int) + 1).toNat < s.size - (i : Int).toNat; omega) | (show s.size - (1 : Int).toNat < s.size - (i : Int).toNat; omega)
        · have fa : decide ((c.toNat : Int) ≥ 97) = false := decide_eq_false (by omega)
          have ga : ¬ (97 : Int) ≤ (c.toNat : Int) := by omega
          have fc : decide ((c.toNat : Int) ≥ 65) = true := decide_eq_true (by omega)
          have gc : (65 : Int) ≤ (c.toNat : Int) := by omega
          have fd : decide ((c.toNat : Int) ≤ 90) = true := decide_eq_true (by omega)
          have gd : (c.toNat : Int) ≤ 90 := by omega
          have HQ := Aside0.mk (HSP.out.trans (show (isLet c || (decide (0 < i) && isDig c)) = true from by unfold isLet isDig; simp only [Bool.or_eq_true, Bool.and_eq_true, decide_eq_true_eq]; omega))
          clear HSP hcl
          go_wp2_with fail
          go_roundw
          case rel => exact ⟨i + 1, by go_num, by rw [HQ.out], by omega, by first | trivial | rfl⟩
          case measure => first | (show s.size - ((i : Int) + 1).toNat < s.size - (i : Int).toNat; omega) | (show s.size - (1 : Int).toNat < s.size - (i : Int).toNat; omega)
        · have fa : decide ((c.toNat : Int) ≥ 97) = false := decide_eq_false (by omega)
          have ga : ¬ (97 : Int) ≤ (c.toNat : Int) := by omega
          have fc : decide ((c.toNat : Int) ≥ 65) = true := decide_eq_true (by omega)
          have gc : (65 : Int) ≤ (c.toNat : Int) := by omega
          have fd : decide ((c.toNat : Int) ≤ 90) = false := decide_eq_false (by omega)
          have gd : ¬ (c.toNat : Int) ≤ 90 := by omega
          have fe : ((c.toNat : Int) == 95) = true := beq_iff_eq.mpr (by omega)
          have HQ := Aside0.mk (HSP.out.trans (show (isLet c || (decide (0 < i) && isDig c)) = true from by unfold isLet isDig; simp only [Bool.or_eq_true, Bool.and_eq_true, decide_eq_true_eq]; omega))
          clear HSP hcl
          go_wp2_with fail
          go_roundw
          case rel => exact ⟨i + 1, by go_num, by rw [HQ.out], by omega, by first | trivial | rfl⟩
          case measure => first | (show s.size - ((i : Int) + 1).toNat < s.size - (i : Int).toNat; omega) | (show s.size - (1 : Int).toNat < s.size - (i : Int).toNat; omega)
        · have fa : decide ((c.toNat : Int) ≥ 97) = false := decide_eq_false (by omega)
          have ga : ¬ (97 : Int) ≤ (c.toNat : Int) := by omega
          have fc : decide ((c.toNat : Int) ≥ 65) = true := decide_eq_true (by omega)
          have gc : (65 : Int) ≤ (c.toNat : Int) := by omega
          have fd : decide ((c.toNat : Int) ≤ 90) = false := decide_eq_false (by omega)
          have gd : ¬ (c.toNat : Int) ≤ 90 := by omega
          have fe : ((c.toNat : Int) == 95) = false := beq_eq_false_iff_ne.mpr (by omega)
          have fh : decide ((c.toNat : Int) ≥ 48) = true := decide_eq_true (by omega)
          have gh : (48 : Int) ≤ (c.toNat : Int) := by omega
          have fk : decide ((c.toNat : Int) ≤ 57) = false := decide_eq_false (by omega)
          have gk : ¬ (c.toNat : Int) ≤ 57 := by omega
          by_cases hi0 : i = 0
          · have gi : decide ((i : Int) > 0) = false := decide_eq_false (by omega)
            have gj : ¬ (0 : Int) < (i : Int) := by omega
            have HQ := Aside0.mk (HSP.out.trans (show (isLet c || (decide (0 < i) && isDig c)) = false from by rw [Bool.eq_false_iff]; unfold isLet isDig; simp only [ne_eq, Bool.or_eq_true, Bool.and_eq_true, decide_eq_true_eq]; omega))
            clear HSP hcl
            go_wp2_with fail
            go_roundw
            case rel => exact ⟨i + 1, by go_num, by rw [HQ.out], by omega, by first | trivial | rfl⟩
            case measure => first | (show s.size - ((i : Int) + 1).toNat < s.size - (i : Int).toNat; omega) | (show s.size - (1 : Int).toNat < s.size - (i : Int).toNat; omega)
          · have gi : decide ((i : Int) > 0) = true := decide_eq_true (by omega)
            have gj : (0 : Int) < (i : Int) := by omega
            have HQ := Aside0.mk (HSP.out.trans (show (isLet c || (decide (0 < i) && isDig c)) = false from by rw [Bool.eq_false_iff]; unfold isLet isDig; simp only [ne_eq, Bool.or_eq_true, Bool.and_eq_true, decide_eq_true_eq]; omega))
            clear HSP hcl
            go_wp2_with fail
            go_roundw
            case rel => exact ⟨i + 1, by go_num, by rw [HQ.out], by omega, by first | trivial | rfl⟩
            case measure => first | (show s.size - ((i : Int) + 1).toNat < s.size - (i : Int).toNat; omega) | (show s.size - (1 : Int).toNat < s.size - (i : Int).toNat; omega)
        · have fa : decide ((c.toNat : Int) ≥ 97) = false := decide_eq_false (by omega)
          have ga : ¬ (97 : Int) ≤ (c.toNat : Int) := by omega
          have fc : decide ((c.toNat : Int) ≥ 65) = false := decide_eq_false (by omega)
          have gc : ¬ (65 : Int) ≤ (c.toNat : Int) := by omega
          have fe : ((c.toNat : Int) == 95) = false := beq_eq_false_iff_ne.mpr (by omega)
          have fh : decide ((c.toNat : Int) ≥ 48) = false := decide_eq_false (by omega)
          have gh : ¬ (48 : Int) ≤ (c.toNat : Int) := by omega
          by_cases hi0 : i = 0
          · have gi : decide ((i : Int) > 0) = false := decide_eq_false (by omega)
            have gj : ¬ (0 : Int) < (i : Int) := by omega
            have HQ := Aside0.mk (HSP.out.trans (show (isLet c || (decide (0 < i) && isDig c)) = false from by rw [Bool.eq_false_iff]; unfold isLet isDig; simp only [ne_eq, Bool.or_eq_true, Bool.and_eq_true, decide_eq_true_eq]; omega))
            clear HSP hcl
            go_wp2_with fail
            go_roundw
            case rel => exact ⟨i + 1, by go_num, by rw [HQ.out], by omega, by first | trivial | rfl⟩
            case measure => first | (show s.size - ((i : Int) + 1).toNat < s.size - (i : Int).toNat; omega) | (show s.size - (1 : Int).toNat < s.size - (i : Int).toNat; omega)
          · have gi : decide ((i : Int) > 0) = true := decide_eq_true (by omega)
            have gj : (0 : Int) < (i : Int) := by omega
            have HQ := Aside0.mk (HSP.out.trans (show (isLet c || (decide (0 < i) && isDig c)) = false from by rw [Bool.eq_false_iff]; unfold isLet isDig; simp only [ne_eq, Bool.or_eq_true, Bool.and_eq_true, decide_eq_true_eq]; omega))
            clear HSP hcl
            go_wp2_with fail
            go_roundw
            case rel => exact ⟨i + 1, by go_num, by rw [HQ.out], by omega, by first | trivial | rfl⟩
            case measure => first | (show s.size - ((i : Int) + 1).toNat < s.size - (i : Int).toNat; omega) | (show s.size - (1 : Int).toNat < s.size - (i : Int).toNat; omega)
        · have fa : decide ((c.toNat : Int) ≥ 97) = false := decide_eq_false (by omega)
          have ga : ¬ (97 : Int) ≤ (c.toNat : Int) := by omega
          have fc : decide ((c.toNat : Int) ≥ 65) = false := decide_eq_false (by omega)
          have gc : ¬ (65 : Int) ≤ (c.toNat : Int) := by omega
          have fe : ((c.toNat : Int) == 95) = false := beq_eq_false_iff_ne.mpr (by omega)
          have fh : decide ((c.toNat : Int) ≥ 48) = true := decide_eq_true (by omega)
          have gh : (48 : Int) ≤ (c.toNat : Int) := by omega
          have fk : decide ((c.toNat : Int) ≤ 57) = true := decide_eq_true (by omega)
          have gk : (c.toNat : Int) ≤ 57 := by omega
          by_cases hi0 : i = 0
          · have gi : decide ((i : Int) > 0) = false := decide_eq_false (by omega)
            have gj : ¬ (0 : Int) < (i : Int) := by omega
            have HQ := Aside0.mk (HSP.out.trans (show (isLet c || (decide (0 < i) && isDig c)) = false from by rw [Bool.eq_false_iff]; unfold isLet isDig; simp only [ne_eq, Bool.or_eq_true, Bool.and_eq_true, decide_eq_true_eq]; omega))
            clear HSP hcl
            go_wp2_with fail
            go_roundw
            case rel => exact ⟨i + 1, by go_num, by rw [HQ.out], by omega, by first | trivial | rfl⟩
            case measure => first | (show s.size - ((i : Int) + 1).toNat < s.size - (i : Int).toNat; omega) | (show s.size - (1 : Int).toNat < s.size - (i : Int).toNat; omega)
          · have gi : decide ((i : Int) > 0) = true := decide_eq_true (by omega)
            have gj : (0 : Int) < (i : Int) := by omega
            have HQ := Aside0.mk (HSP.out.trans (show (isLet c || (decide (0 < i) && isDig c)) = true from by unfold isLet isDig; simp only [Bool.or_eq_true, Bool.and_eq_true, decide_eq_true_eq]; omega))
            clear HSP hcl
            go_wp2_with fail
            go_roundw
            case rel => exact ⟨i + 1, by go_num, by rw [HQ.out], by omega, by first | trivial | rfl⟩
            case measure => first | (show s.size - ((i : Int) + 1).toNat < s.size - (i : Int).toNat; omega) | (show s.size - (1 : Int).toNat < s.size - (i : Int).toNat; omega)
        · have fa : decide ((c.toNat : Int) ≥ 97) = false := decide_eq_false (by omega)
          have ga : ¬ (97 : Int) ≤ (c.toNat : Int) := by omega
          have fc : decide ((c.toNat : Int) ≥ 65) = false := decide_eq_false (by omega)
          have gc : ¬ (65 : Int) ≤ (c.toNat : Int) := by omega
          have fe : ((c.toNat : Int) == 95) = false := beq_eq_false_iff_ne.mpr (by omega)
          have fh : decide ((c.toNat : Int) ≥ 48) = true := decide_eq_true (by omega)
          have gh : (48 : Int) ≤ (c.toNat : Int) := by omega
          have fk : decide ((c.toNat : Int) ≤ 57) = false := decide_eq_false (by omega)
          have gk : ¬ (c.toNat : Int) ≤ 57 := by omega
          by_cases hi0 : i = 0
          · have gi : decide ((i : Int) > 0) = false := decide_eq_false (by omega)
            have gj : ¬ (0 : Int) < (i : Int) := by omega
            have HQ := Aside0.mk (HSP.out.trans (show (isLet c || (decide (0 < i) && isDig c)) = false from by rw [Bool.eq_false_iff]; unfold isLet isDig; simp only [ne_eq, Bool.or_eq_true, Bool.and_eq_true, decide_eq_true_eq]; omega))
            clear HSP hcl
            go_wp2_with fail
            go_roundw
            case rel => exact ⟨i + 1, by go_num, by rw [HQ.out], by omega, by first | trivial | rfl⟩
            case measure => first | (show s.size - ((i : Int) + 1).toNat < s.size - (i : Int).toNat; omega) | (show s.size - (1 : Int).toNat < s.size - (i : Int).toNat; omega)
          · have gi : decide ((i : Int) > 0) = true := decide_eq_true (by omega)
            have gj : (0 : Int) < (i : Int) := by omega
            have HQ := Aside0.mk (HSP.out.trans (show (isLet c || (decide (0 < i) && isDig c)) = false from by rw [Bool.eq_false_iff]; unfold isLet isDig; simp only [ne_eq, Bool.or_eq_true, Bool.and_eq_true, decide_eq_true_eq]; omega))
            clear HSP hcl
            go_wp2_with fail
            go_roundw
            case rel => exact ⟨i + 1, by go_num, by rw [HQ.out], by omega, by first | trivial | rfl⟩
            case measure => first | (show s.size - ((i : Int) + 1).toNat < s.size - (i : Int).toNat; omega) | (show s.size - (1 : Int).toNat < s.size - (i : Int).toNat; omega)
      · have hlt1 : decide ((i : Int) < (s.size : Int)) = false := decide_eq_false (by omega)
        have hlt2 : ¬ (i : Int) < (s.size : Int) := by omega
        have HIS := Aside0.mk (HII.out (by omega)).symm
        clear HPN HST HII hp HPE
        have hs1 : ¬ 9223372036854775807 < 1 + s.size := by have := HS.out; omega
        have hs2 : ¬ 9223372036854775807 < 1 + s.size + 1 := by have := HS.out; omega
        by_cases h24 : 24 < s.size
        · have h24a : decide ((s.size : Int) > 24) = true := decide_eq_true (by omega)
          have h24b : (24 : Int) < (s.size : Int) := by omega
          have HX := Aside0.mk (fun w hL => tok_at (nmS s) [] 14 0 (by rw [nm_long HIS.out h24]; rfl) w hL (by rw [nmS_size]; omega))
          unfold nmS at HX
          clear HIS HV
          go_wp2_with fail
          refine (HX.out _ HL1.out).mono ?_
          rintro e w2 ⟨v, ev, rfl, hR, hF, hb⟩
          obtain ⟨A, cc, rfl⟩ := Kd.R_slice hR
          have HF2 := Aside0.mk hF
          have HB2 := Aside0.mk (below_step HB1.out hb)
          have HL2 := Aside0.mk (Laid.below hb HL1.out)
          clear hR hF hb HX
          go_wp2_with fail
          refine (told_true ev 14 0 0 _ w2 HL2.out HF2.out (fun _ => rfl)).mono ?_
          rintro e w3 ⟨rfl, hb⟩
          have HB3 := Aside0.mk (below_step HB2.out hb)
          clear hb
          go_wp2_with fail
          go_ret
          exact ⟨rfl, HB3.out⟩
        · have h24a : decide ((s.size : Int) > 24) = false := decide_eq_false (by omega)
          have h24b : ¬ (24 : Int) < (s.size : Int) := by omega
          have HX := Aside0.mk (fun w hL => tok_at (nmS s) [⟨if resF s.data.toList then 4 else 1, s, 0, 0⟩, ⟨4, ⟨#[40]⟩, 0, 0⟩, ⟨5, ⟨#[]⟩, 0, 0⟩] 0 0 (by rw [nm_short HIS.out (by omega)]; rfl) w hL (by rw [nmS_size]; omega))
          unfold nmS at HX
          clear HIS
          generalize resF s.data.toList = rf at HX HV HQV
          go_wp2_with fail
          refine (HX.out _ HL1.out).mono ?_
          rintro e w2 ⟨v, ev, rfl, hR, hF, hb⟩
          obtain rfl := fault0 hF
          obtain ⟨g, cap, rfl, hg0, hgl, _⟩ := Kd.R_form hR (by simp)
          have HC2 := Aside0.mk (Kd.R_reads' hR).2.2
          have HB2 := Aside0.mk (below_step HB1.out hb)
          have HL2 := Aside0.mk (Laid.below hb HL1.out)
          obtain ⟨ad0, e0, c00, c01, c02, c03⟩ := at_T41 HC2.out 0 (by decide) (by simp)
          obtain rfl : (⟨g, 0, none⟩ : Addr) = ad0 := Option.some.inj e0
          have x00 : w2.cell? ⟨g, 0, none⟩ = some (.int .i64 (if rf then 4 else 1)) := c00
          have x01 : w2.cell? ⟨g, 1, none⟩ = some (.string s) := c01
          have hq : (s.toList == s.toList) = true := beq_self_eq_true _
          clear hR hF hb HX e0 c00 c01 c02 c03 hg0 hgl
          cases rf
          all_goals
            first | rw [if_pos rfl] at x00 | rw [if_neg (by decide)] at x00
            go_upto_region 14 with (fail)
            go_quiet ((go_at_call 5; exact Calls.quiet_of_same (HQV.out _ (Laid.below (pw_below_drewN (Below.refl _ _) _) HL2.out))))
            all_goals
              go_wp2_with fail
              go_ret
              exact ⟨rfl, pw_below_drewN HB2.out _⟩
end Go.Proofs.YtlbaejihlcfpeaaDoor.G
end
