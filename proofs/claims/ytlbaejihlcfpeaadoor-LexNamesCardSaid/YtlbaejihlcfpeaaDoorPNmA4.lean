import Derived.LaidMore
import Derived.LaidHandle
import Derived.Stop.Joined
import Derived.Lib.IfaceEq
import Derived.Lib.IndexMore
import Derived.Shelf.Abstract
import Derived.LaidEql
import Derived.Stop.Asserts
import Derived.RowKitTokens
import Derived.Lib.LaidTab
import Derived.Lib.AppendIntMem
import Derived.Stop.LaidErr
import Derived.WalkKit
import Derived.Deep.RegionLaw
import Derived.Deep.Cut
import Derived.WalkSpells
import Derived.Maps.OwnOps
import Derived.Maps.OwnSet
import Derived.Maps.Views
import Derived.Maps.RangeWalk
import Derived.Maps.Own
import Derived.Test.YtlbaejihlcfpeaaDoorPNmA3
import Derived.Lib.Hide
set_option linter.unusedVariables false
set_option linter.unusedSimpArgs false
section
namespace Go.Proofs.YtlbaejihlcfpeaaDoor.G
open Go.Proofs.YtlbaejihlcfpeaaDoor.G Go.Proofs.YtlbaejihlcfpeaaDoor.Z
open Go.Shelf Go.Extern.Stop Go.Stop Go.Extern Go.RowKit Go.Proofs.YtlbaejihlcfpeaaDoorW.PrintWords Go.Proofs.YtlbaejihlcfpeaaDoorW.PrintLast Go.Proofs.YtlbaejihlcfpeaaDoorW.PrintMore
set_option linter.unusedVariables false
set_option linter.unusedSimpArgs false
theorem drop_head (s : ByteArray) (at_ : Nat) (h : at_ < s.size) : s.data.toList.drop at_ = (s[at_]'h) :: s.data.toList.drop (at_ + 1) := by
  rw [List.drop_eq_getElem_cons (by rw [Array.length_toList]; exact h)]
  rfl
theorem res41c (f : Func) (hf : f.results = #[.cell 5 34, .tmp 6, .tmp 7]) (a : Array Value) (w : World) (P : Nat) (k t n l z e : Value) (h2 : a.getD 5 undef = .pointer (some ⟨P, 0, none⟩)) (h3 : a.getD 6 undef = z) (h4 : a.getD 7 undef = e) (hp : w.heap[P]? = some (.cells #[k, t, n, l] 34 (0, 0))) :
    (results f a).run Tryd.prog w = .ok (.tuple #[.agg #[k, t, n, l], z, e]) w := by
  have c0 : w.cell? ⟨P, 0, none⟩ = some k := (blk_cell hp 0).trans rfl
  have c1 : w.cell? ⟨P, 1, none⟩ = some t := (blk_cell hp 1).trans rfl
  have c2 : w.cell? ⟨P, 2, none⟩ = some n := (blk_cell hp 2).trans rfl
  have c3 : w.cell? ⟨P, 3, none⟩ = some l := (blk_cell hp 3).trans rfl
  have h2' : a[5]?.getD undef = .pointer (some ⟨P, 0, none⟩) := by simpa using h2
  have h3' : a[6]?.getD undef = z := by simpa using h3
  have h4' : a[7]?.getD undef = e := by simpa using h4
  simp [results, hf, h2', h3', h4', asAddr, go_sem, c0, c1, c2, c3]
set_option maxHeartbeats 4000000 in
set_option maxRecDepth 100000 in
theorem cutc_any (b : Nat) (t : ByteArray) (k : Int) (n : Nat) (hn : n ≤ t.size) (w : World) (hb : w.heap[b]? = some (.cells #[.string t] 9 (0, 0))) :
    Calls Tryd.prog 20 #[.int .i64 k, .int .i64 n, .pointer (some ⟨b, 0, none⟩)] w fun e w' => e = .returned (.tuple #[.agg #[.int .i64 k, .string (t.extract 0 n), .int .i64 0, .int .i64 0], .int .i64 n, .nilIface]) ∧ Below w.heap.size w w' := by
  have HBB := Aside0.mk hb
  have hle : (n : Int) ≤ (t.size : Int) := by omega
  clear hb
  go_enter Tryd.func20, Tryd.ntmps20
  go_upto_region 1 with (fail)
  obtain ⟨w1, hw1⟩ : ∃ x, x = w.alloc (.cells #[.int .i64 0, .string ⟨#[]⟩, .int .i64 0, .int .i64 0] 34) := ⟨_, rfl⟩
  rw [← hw1]
  obtain ⟨P, hP⟩ : ∃ x, x = w.heap.size := ⟨_, rfl⟩
  rw [← hP]
  have HB := Aside0.mk (show BX w P w1 from by rw [hw1, hP]; exact BX.new w)
  have HBB1 := Aside0.mk (blk_below HBB.out HB.out.bel)
  clear hw1 hP
  have ct : w1.cell? ⟨b, 0, none⟩ = some (.string t) := (blk_cell HBB1.out 0).trans rfl
  obtain ⟨⟨b0, b1, b2, b3⟩, d0, d1, d2, d3⟩ := HB.out.cells
  go_wp2_with fail
  exact bodyPost_ret (res41c Tryd.f20 rfl _ _ P _ _ _ _ _ _ rfl rfl rfl (HB.out.fin (.int .i64 k) (.string (t.extract 0 n)) (.int .i64 0) (.int .i64 0)).1) rfl ⟨rfl, (HB.out.fin _ _ _ _).2⟩
structure BY (w : World) (P b : Nat) (t : ByteArray) (wr : World) : Prop where
  bx : BX w P wr
  bt : wr.heap[b]? = some (.cells #[.string t] 9 (0, 0))
theorem BY.below {w wr w1 : World} {P b : Nat} {t : ByteArray} (h : BY w P b t wr) (hb : Below wr.heap.size wr w1) : BY w P b t w1 := ⟨h.bx.below hb, blk_below h.bt hb⟩
theorem BY.new (w : World) (t : ByteArray) : BY w (w.heap.size + 1) w.heap.size t ((w.alloc (.cells #[.string t] 9)).alloc (.cells #[.int .i64 0, .string ⟨#[]⟩, .int .i64 0, .int .i64 0] 34)) := by
  refine ⟨⟨below_alloc (below_alloc (Below.refl _ _) _) _, ?_, by omega⟩, blk_alloc (blk_new _ _) _⟩
  have := blk_new (w.alloc (.cells #[.string t] 9)) (.cells #[.int .i64 0, .string ⟨#[]⟩, .int .i64 0, .int .i64 0] 34)
  simpa using this
theorem word_ba (t : ByteArray) (h : 0 < t.size) : wordW readL unqL t.data.toList = if isLet (t[0]'h) then (if (t.data.toList.takeWhile isAl).length > 24 then badW 14 else ⟨0, if resF (t.data.toList.takeWhile isAl) then 4 else 1, ⟨(t.data.toList.takeWhile isAl).toArray⟩, 0, (t.data.toList.takeWhile isAl).length⟩)
    else if isDig (t[0]'h) then numW readL t.data.toList
    else if t[0]'h = 34 then strW unqL t.data.toList
    else if signF t.data.toList = 0 then badW 14 else ⟨0, 4, ⟨(t.data.toList.take (signF t.data.toList)).toArray⟩, 0, signF t.data.toList⟩ := by
  have e : t.data.toList = (t[0]'h) :: t.data.toList.drop 1 := by
    have := drop_head t 0 h
    simpa using this
  generalize hc : t[0]'h = c at e
  generalize t.data.toList.drop 1 = r at e
  rw [e]
  exact word_def c r
theorem sign_ba (t : ByteArray) (h : 0 < t.size) : signF t.data.toList = if pairW.contains (t.data.toList.take 2) then 2 else if oneW.contains (t[0]'h) then 1 else 0 := by
  have e : t.data.toList = (t[0]'h) :: t.data.toList.drop 1 := by
    have := drop_head t 0 h
    simpa using this
  generalize hc : t[0]'h = c at e
  generalize t.data.toList.drop 1 = r at e
  rw [e]
  rfl
theorem short_pair (t : ByteArray) (h : ¬ 1 < t.size) : pairW.contains (t.data.toList.take 2) = false := by
  cases hr : pairW.contains (t.data.toList.take 2) with
  | false => rfl
  | true =>
    obtain ⟨a, b, hab, _⟩ := pair_two hr
    have h2 : (t.data.toList.take 2).length = 2 := by rw [hab]; rfl
    rw [List.length_take, Array.length_toList] at h2
    have : t.data.size = t.size := rfl
    omega
theorem pair_len2 (t : ByteArray) (h : 1 < t.size) : (t.data.toList.take 2).length = 2 := by
  rw [List.length_take, Array.length_toList]
  have : t.data.size = t.size := rfl
  omega
set_option maxHeartbeats 16000000 in
set_option maxRecDepth 100000 in
theorem word_any (t : ByteArray) (w : World) (hL : Laid w) (hs : t.size ≤ 100000000) (h0 : 0 < t.size) :
    Calls Tryd.prog 14 #[.string t] w fun e w' => e = .returned (wdV (wordW readL unqL t.data.toList)) ∧ Below w.heap.size w w' := by
  have hmf : ∀ (fn : Fn) (first cap : Array Value) (w : World), (Instr.makeFunc fn first cap).run Tryd.prog w = .ok (.func fn first cap) w := fun _ _ _ _ => rfl
  generalize hres : wordW readL unqL t.data.toList = res
  rw [word_ba t h0] at hres
  have HRES := Aside0.mk hres
  have HL := Aside0.mk hL
  have HS := Aside0.mk hs
  have h0i : (0 : Int) < (t.size : Int) := by omega
  have HLE := Aside0.mk (among_any (t[0]'h0) (⟨letB.toArray⟩ : ByteArray))
  rw [show (⟨letB.toArray⟩ : ByteArray).data.toList = letB from by simp, am_let] at HLE
  clear hres hL hs
  go_enter Tryd.func14, Tryd.ntmps14
  go_upto_region 1 with (fail)
  obtain ⟨w1, hw1⟩ : ∃ x, x = (w.alloc (.cells #[.string t] 9)).alloc (.cells #[.int .i64 0, .string ⟨#[]⟩, .int .i64 0, .int .i64 0] 34) := ⟨_, rfl⟩
  rw [← hw1]
  obtain ⟨P, hP⟩ : ∃ x, x = w.heap.size + 1 := ⟨_, rfl⟩
  rw [← hP]
  obtain ⟨b, hbb⟩ : ∃ x, x = w.heap.size := ⟨_, rfl⟩
  rw [← hbb]
  have HB := Aside0.mk (show BY w P b t w1 from by rw [hw1, hP, hbb]; exact BY.new w t)
  clear hw1 hP hbb
  have HBE := Aside0.mk HB.out.bx.bel
  have ct : w1.cell? ⟨b, 0, none⟩ = some (.string t) := (blk_cell HB.out.bt 0).trans rfl
  cases hlet : isLet (t[0]'h0) with
  | true =>
    have hr := HRES.out
    rw [hlet, if_pos rfl] at hr
    rw [hlet] at HLE
    have HN := Aside0.mk (fun w => long_any t (⟨(letB ++ digB).toArray⟩ : ByteArray) (by have := HS.out; omega) w)
    rw [show (⟨(letB ++ digB).toArray⟩ : ByteArray).data.toList = letB ++ digB from by simp, fun_al] at HN
    have hn := (List.takeWhile_sublist isAl (l := t.data.toList)).length_le
    rw [Array.length_toList] at hn
    have hns : (t.data.toList.takeWhile isAl).length ≤ t.size := hn
    have hx := mk_ext t (t.data.toList.takeWhile isAl).length
    rw [tw_take] at hx
    have HX2 := Aside0.mk (show (t.extract 0 (t.data.toList.takeWhile isAl).length).data.toList = t.data.toList.takeWhile isAl from by rw [ext0_data, tw_take])
    rw [hx] at hr
    generalize hn2 : (t.data.toList.takeWhile isAl).length = n at *
    rw [← HX2.out] at hr
    have HRES := Aside0.mk hr
    have hle : (n : Int) ≤ (t.size : Int) := by omega
    clear hr hn hx hn2 hlet
    go_wp2_with fail
    refine (HLE.out _).mono ?_
    rintro e w' ⟨rfl, rfl⟩
    go_wp2_with fail
    refine (HN.out _).mono ?_
    rintro e w' ⟨rfl, rfl⟩
    by_cases h24 : n > 24
    · have hb24 : decide ((n : Int) > 24) = true := decide_eq_true (by omega)
      have hi24 : (24 : Int) < (n : Int) := by omega
      have hr := HRES.out
      rw [if_pos h24] at hr
      have HR := Aside0.mk hr
      clear hr
      obtain ⟨⟨b0, b1, b2, b3⟩, d0, d1, d2, d3⟩ := HB.out.bx.cells
      go_wp2_with fail
      exact bodyPost_ret (res41 Tryd.f14 rfl _ _ P _ _ _ _ _ _ rfl rfl rfl (HB.out.bx.fin (.int .i64 0) (.string ⟨#[]⟩) (.int .i64 0) (.int .i64 0)).1) rfl ⟨by rw [← HR.out, wdV_bad, errV_14]; rfl, (HB.out.bx.fin _ _ _ _).2⟩
    · have hb24 : decide ((n : Int) > 24) = false := decide_eq_false (by omega)
      have hi24 : ¬ (24 : Int) < (n : Int) := by omega
      have hr := HRES.out
      rw [if_neg h24] at hr
      have HV := Aside0.mk (fun w hL => res_any (t.extract 0 n) w hL (by rw [ByteArray.size_extract]; have := HS.out; omega))
      generalize resF (t.extract 0 n).data.toList = rf at hr HV
      cases rf with
      | true =>
        rw [if_pos rfl] at hr
        have HR := Aside0.mk hr
        clear hr
        go_wp2_with fail
        refine (HV.out _ (Laid.below HB.out.bx.bel HL.out)).mono ?_
        rintro e w2 ⟨rfl, hb⟩
        have HB1 := Aside0.mk (HB.out.below hb)
        clear hb HB
        have HB := HB1
        clear HB1
        go_wp2_with fail
        refine (cutc_any b t 4 n hns _ HB.out.bt).mono ?_
        rintro e w3 ⟨rfl, hb⟩
        have HB1 := Aside0.mk (HB.out.below hb)
        clear hb HB
        have HB := HB1
        clear HB1
        obtain ⟨⟨b0, b1, b2, b3⟩, d0, d1, d2, d3⟩ := HB.out.bx.cells
        go_wp2_with fail
        exact bodyPost_ret (res41 Tryd.f14 rfl _ _ P _ _ _ _ _ _ rfl rfl rfl (HB.out.bx.fin (.int .i64 4) (.string (t.extract 0 n)) (.int .i64 0) (.int .i64 0)).1) rfl ⟨by rw [← HR.out]; rfl, (HB.out.bx.fin _ _ _ _).2⟩
      | false =>
        rw [if_neg (by decide)] at hr
        have HR := Aside0.mk hr
        clear hr
        go_wp2_with fail
        refine (HV.out _ (Laid.below HB.out.bx.bel HL.out)).mono ?_
        rintro e w2 ⟨rfl, hb⟩
        have HB1 := Aside0.mk (HB.out.below hb)
        clear hb HB
        have HB := HB1
        clear HB1
        go_wp2_with fail
        refine (cutc_any b t 1 n hns _ HB.out.bt).mono ?_
        rintro e w3 ⟨rfl, hb⟩
        have HB1 := Aside0.mk (HB.out.below hb)
        clear hb HB
        have HB := HB1
        clear HB1
        obtain ⟨⟨b0, b1, b2, b3⟩, d0, d1, d2, d3⟩ := HB.out.bx.cells
        go_wp2_with fail
        exact bodyPost_ret (res41 Tryd.f14 rfl _ _ P _ _ _ _ _ _ rfl rfl rfl (HB.out.bx.fin (.int .i64 1) (.string (t.extract 0 n)) (.int .i64 0) (.int .i64 0)).1) rfl ⟨by rw [← HR.out]; rfl, (HB.out.bx.fin _ _ _ _).2⟩
  | false =>
    have hr := HRES.out
    rw [hlet, if_neg (by decide)] at hr
    rw [hlet] at HLE
    have HDI := Aside0.mk (among_any (t[0]'h0) (⟨digB.toArray⟩ : ByteArray))
    rw [show (⟨digB.toArray⟩ : ByteArray).data.toList = digB from by simp, am_dig] at HDI
    have HRES := Aside0.mk hr
    clear hr hlet
    go_wp2_with fail
    refine (HLE.out _).mono ?_
    rintro e w' ⟨rfl, rfl⟩
    cases hdig : isDig (t[0]'h0) with
    | true =>
      have hr := HRES.out
      rw [hdig, if_pos rfl] at hr
      rw [hdig] at HDI
      have HR := Aside0.mk hr
      clear hr hdig
      go_wp2_with fail
      refine (HDI.out _).mono ?_
      rintro e w' ⟨rfl, rfl⟩
      go_wp2_with fail
      refine (number_any t _ (Laid.below HB.out.bx.bel HL.out) HS.out).mono ?_
      rintro e w2 ⟨rfl, hb⟩
      rw [HR.out]
      unfold wdV
      have HB1 := Aside0.mk (HB.out.below hb)
      clear hb HB
      have HB := HB1
      clear HB1
      obtain ⟨⟨b0, b1, b2, b3⟩, d0, d1, d2, d3⟩ := HB.out.bx.cells
      go_wp2_with fail
      exact bodyPost_ret (res41 Tryd.f14 rfl _ _ P _ _ _ _ _ _ rfl rfl rfl (HB.out.bx.fin (.int .i64 res.k) (.string res.t) (.int .i64 res.n) (.int .i64 0)).1) rfl ⟨by rfl, (HB.out.bx.fin _ _ _ _).2⟩
    | false =>
      have hr := HRES.out
      rw [hdig, if_neg (by decide)] at hr
      rw [hdig] at HDI
      have HRES := Aside0.mk hr
      clear hr hdig
      go_wp2_with fail
      refine (HDI.out _).mono ?_
      rintro e w' ⟨rfl, rfl⟩
      by_cases h34 : t[0]'h0 = 34
      · have hb34 : (((t[0]'h0).toNat : Int) == 34) = true := by rw [h34]; rfl
        have hr := HRES.out
        rw [if_pos h34] at hr
        have HR := Aside0.mk hr
        have hh := get_data t 0 h0
        rw [h34, ← List.head?_eq_getElem?] at hh
        have HH := Aside0.mk hh
        clear hr hh h34
        go_wp2_with fail
        refine (str_any t _ HS.out HH.out).mono ?_
        rintro e w2 ⟨rfl, hb⟩
        rw [HR.out]
        unfold wdV
        have HB1 := Aside0.mk (HB.out.below hb)
        clear hb HB
        have HB := HB1
        clear HB1
        obtain ⟨⟨b0, b1, b2, b3⟩, d0, d1, d2, d3⟩ := HB.out.bx.cells
        go_wp2_with fail
        exact bodyPost_ret (res41 Tryd.f14 rfl _ _ P _ _ _ _ _ _ rfl rfl rfl (HB.out.bx.fin (.int .i64 res.k) (.string res.t) (.int .i64 res.n) (.int .i64 0)).1) rfl ⟨by rfl, (HB.out.bx.fin _ _ _ _).2⟩
      · have hb34 : (((t[0]'h0).toNat : Int) == 34) = false := beq_eq_false_iff_ne.mpr (fun h => h34 (UInt8.toNat_inj.mp (by have e : (34 : UInt8).toNat = 34 := rfl; omega)))
        have hr := HRES.out
        rw [if_neg h34] at hr
        have HRES := Aside0.mk hr
        clear hr h34
        by_cases h1 : 1 < t.size
        · have hb1 : decide ((t.size : Int) > 1) = true := decide_eq_true (by omega)
          have hi1 : (1 : Int) < (t.size : Int) := by omega
          have hi2 : (2 : Int) ≤ (t.size : Int) := by omega
          have hpt := pair_test (t.data.toList.take 2) (pair_len2 t h1)
          have HA2 := Aside0.mk (among_any 32 (t.extract 0 2))
          have HC2 := Aside0.mk (fun w hL => contains_any (⟨pairB.toArray⟩ : ByteArray) (t.extract 0 2) w (by decide) hL)
          rw [ext0_data] at HA2
          rw [show (⟨pairB.toArray⟩ : ByteArray).data.toList = pairB from by simp, ext0_data, show Lib.contains pairB (t.data.toList.take 2) = decide (0 ≤ Lib.index pairB (t.data.toList.take 2)) from rfl] at HC2
          generalize amF (t.data.toList.take 2) 32 = ca at HA2 hpt
          generalize hcc : decide (0 ≤ Lib.index pairB (t.data.toList.take 2)) = cc at HC2
          cases ca with
          | true =>
            have HP := Aside0.mk (show pairW.contains (t.data.toList.take 2) = false from by
              cases hc : pairW.contains (t.data.toList.take 2) with
              | false => rfl
              | true => have := (hpt.mpr hc).1; cases this)
            clear hpt hcc
            go_wp2_with fail
            refine (HA2.out _).mono ?_
            rintro e w' ⟨rfl, rfl⟩
            have hone : signF t.data.toList = if oneW.contains (t[0]'h0) then 1 else 0 := by rw [sign_ba t h0, HP.out, if_neg (by decide)]
            have HO := Aside0.mk (among_any (t[0]'h0) (⟨oneW.toArray⟩ : ByteArray))
            rw [show (⟨oneW.toArray⟩ : ByteArray).data.toList = oneW from by simp, am_one] at HO
            generalize oneW.contains (t[0]'h0) = co at hone HO
            cases co with
            | true =>
              rw [if_pos rfl] at hone
              have hr := HRES.out
              rw [hone, if_neg (by decide), mk_ext] at hr
              have HR := Aside0.mk hr
              clear hr hone
              go_wp2_with fail
              refine (HO.out _).mono ?_
              rintro e w' ⟨rfl, rfl⟩
              go_wp2_with fail
              refine (cutc_any b t 4 1 h0 _ HB.out.bt).mono ?_
              rintro e w3 ⟨rfl, hb⟩
              have HB1 := Aside0.mk (HB.out.below hb)
              clear hb HB
              have HB := HB1
              clear HB1
              obtain ⟨⟨b0, b1, b2, b3⟩, d0, d1, d2, d3⟩ := HB.out.bx.cells
              go_wp2_with fail
              exact bodyPost_ret (res41 Tryd.f14 rfl _ _ P _ _ _ _ _ _ rfl rfl rfl (HB.out.bx.fin (.int .i64 4) (.string (t.extract 0 1)) (.int .i64 0) (.int .i64 0)).1) rfl ⟨by rw [← HR.out]; rfl, (HB.out.bx.fin _ _ _ _).2⟩
            | false =>
              rw [if_neg (by decide)] at hone
              have hr := HRES.out
              rw [hone, if_pos rfl] at hr
              have HR := Aside0.mk hr
              clear hr hone
              go_wp2_with fail
              refine (HO.out _).mono ?_
              rintro e w' ⟨rfl, rfl⟩
              obtain ⟨⟨b0, b1, b2, b3⟩, d0, d1, d2, d3⟩ := HB.out.bx.cells
              go_wp2_with fail
              exact bodyPost_ret (res41 Tryd.f14 rfl _ _ P _ _ _ _ _ _ rfl rfl rfl (HB.out.bx.fin (.int .i64 0) (.string ⟨#[]⟩) (.int .i64 0) (.int .i64 0)).1) rfl ⟨by rw [← HR.out, wdV_bad, errV_14]; rfl, (HB.out.bx.fin _ _ _ _).2⟩
          | false =>
            cases cc with
            | true =>
              have hp : pairW.contains (t.data.toList.take 2) = true := hpt.mp ⟨rfl, of_decide_eq_true hcc⟩
              have hr := HRES.out
              have hsg : signF t.data.toList = 2 := by rw [sign_ba t h0, hp, if_pos rfl]
              rw [hsg, if_neg (by decide), mk_ext] at hr
              have HR := Aside0.mk hr
              clear hr hsg hp hcc hpt
              go_wp2_with fail
              refine (HA2.out _).mono ?_
              rintro e w' ⟨rfl, rfl⟩
              go_wp2_with fail
              refine (HC2.out _ (Laid.below HB.out.bx.bel HL.out)).mono ?_
              rintro e w' ⟨rfl, rfl⟩
              go_wp2_with fail
              refine (cutc_any b t 4 2 (by omega) _ HB.out.bt).mono ?_
              rintro e w3 ⟨rfl, hb⟩
              have HB1 := Aside0.mk (HB.out.below hb)
              clear hb HB
              have HB := HB1
              clear HB1
              obtain ⟨⟨b0, b1, b2, b3⟩, d0, d1, d2, d3⟩ := HB.out.bx.cells
              go_wp2_with fail
              exact bodyPost_ret (res41 Tryd.f14 rfl _ _ P _ _ _ _ _ _ rfl rfl rfl (HB.out.bx.fin (.int .i64 4) (.string (t.extract 0 2)) (.int .i64 0) (.int .i64 0)).1) rfl ⟨by rw [← HR.out]; rfl, (HB.out.bx.fin _ _ _ _).2⟩
            | false =>
              have HP := Aside0.mk (show pairW.contains (t.data.toList.take 2) = false from by
                cases hc : pairW.contains (t.data.toList.take 2) with
                | false => rfl
                | true => exact absurd (hpt.mpr hc).2 (of_decide_eq_false hcc))
              clear hpt hcc
              go_wp2_with fail
              refine (HA2.out _).mono ?_
              rintro e w' ⟨rfl, rfl⟩
              go_wp2_with fail
              refine (HC2.out _ (Laid.below HB.out.bx.bel HL.out)).mono ?_
              rintro e w' ⟨rfl, rfl⟩
              have hone : signF t.data.toList = if oneW.contains (t[0]'h0) then 1 else 0 := by rw [sign_ba t h0, HP.out, if_neg (by decide)]
              have HO := Aside0.mk (among_any (t[0]'h0) (⟨oneW.toArray⟩ : ByteArray))
              rw [show (⟨oneW.toArray⟩ : ByteArray).data.toList = oneW from by simp, am_one] at HO
              generalize oneW.contains (t[0]'h0) = co at hone HO
              cases co with
              | true =>
                rw [if_pos rfl] at hone
                have hr := HRES.out
                rw [hone, if_neg (by decide), mk_ext] at hr
                have HR := Aside0.mk hr
                clear hr hone
                go_wp2_with fail
                refine (HO.out _).mono ?_
                rintro e w' ⟨rfl, rfl⟩
                go_wp2_with fail
                refine (cutc_any b t 4 1 h0 _ HB.out.bt).mono ?_
                rintro e w3 ⟨rfl, hb⟩
                have HB1 := Aside0.mk (HB.out.below hb)
                clear hb HB
                have HB := HB1
                clear HB1
                obtain ⟨⟨b0, b1, b2, b3⟩, d0, d1, d2, d3⟩ := HB.out.bx.cells
                go_wp2_with fail
                exact bodyPost_ret (res41 Tryd.f14 rfl _ _ P _ _ _ _ _ _ rfl rfl rfl (HB.out.bx.fin (.int .i64 4) (.string (t.extract 0 1)) (.int .i64 0) (.int .i64 0)).1) rfl ⟨by rw [← HR.out]; rfl, (HB.out.bx.fin _ _ _ _).2⟩
              | false =>
                rw [if_neg (by decide)] at hone
                have hr := HRES.out
                rw [hone, if_pos rfl] at hr
                have HR := Aside0.mk hr
                clear hr hone
                go_wp2_with fail
                refine (HO.out _).mono ?_
                rintro e w' ⟨rfl, rfl⟩
                obtain ⟨⟨b0, b1, b2, b3⟩, d0, d1, d2, d3⟩ := HB.out.bx.cells
                go_wp2_with fail
                exact bodyPost_ret (res41 Tryd.f14 rfl _ _ P _ _ _ _ _ _ rfl rfl rfl (HB.out.bx.fin (.int .i64 0) (.string ⟨#[]⟩) (.int .i64 0) (.int .i64 0)).1) rfl ⟨by rw [← HR.out, wdV_bad, errV_14]; rfl, (HB.out.bx.fin _ _ _ _).2⟩
        · have hb1 : decide ((t.size : Int) > 1) = false := decide_eq_false (by omega)
          have hi1 : ¬ (1 : Int) < (t.size : Int) := by omega
          have HP := Aside0.mk (short_pair t h1)
          have hone : signF t.data.toList = if oneW.contains (t[0]'h0) then 1 else 0 := by rw [sign_ba t h0, HP.out, if_neg (by decide)]
          have HO := Aside0.mk (among_any (t[0]'h0) (⟨oneW.toArray⟩ : ByteArray))
          rw [show (⟨oneW.toArray⟩ : ByteArray).data.toList = oneW from by simp, am_one] at HO
          generalize oneW.contains (t[0]'h0) = co at hone HO
          cases co with
          | true =>
            rw [if_pos rfl] at hone
            have hr := HRES.out
            rw [hone, if_neg (by decide), mk_ext] at hr
            have HR := Aside0.mk hr
            clear hr hone
            go_wp2_with fail
            refine (HO.out _).mono ?_
            rintro e w' ⟨rfl, rfl⟩
            go_wp2_with fail
            refine (cutc_any b t 4 1 h0 _ HB.out.bt).mono ?_
            rintro e w3 ⟨rfl, hb⟩
            have HB1 := Aside0.mk (HB.out.below hb)
            clear hb HB
            have HB := HB1
            clear HB1
            obtain ⟨⟨b0, b1, b2, b3⟩, d0, d1, d2, d3⟩ := HB.out.bx.cells
            go_wp2_with fail
            exact bodyPost_ret (res41 Tryd.f14 rfl _ _ P _ _ _ _ _ _ rfl rfl rfl (HB.out.bx.fin (.int .i64 4) (.string (t.extract 0 1)) (.int .i64 0) (.int .i64 0)).1) rfl ⟨by rw [← HR.out]; rfl, (HB.out.bx.fin _ _ _ _).2⟩
          | false =>
            rw [if_neg (by decide)] at hone
            have hr := HRES.out
            rw [hone, if_pos rfl] at hr
            have HR := Aside0.mk hr
            clear hr hone
            go_wp2_with fail
            refine (HO.out _).mono ?_
            rintro e w' ⟨rfl, rfl⟩
            obtain ⟨⟨b0, b1, b2, b3⟩, d0, d1, d2, d3⟩ := HB.out.bx.cells
            go_wp2_with fail
            exact bodyPost_ret (res41 Tryd.f14 rfl _ _ P _ _ _ _ _ _ rfl rfl rfl (HB.out.bx.fin (.int .i64 0) (.string ⟨#[]⟩) (.int .i64 0) (.int .i64 0)).1) rfl ⟨by rw [← HR.out, wdV_bad, errV_14]; rfl, (HB.out.bx.fin _ _ _ _).2⟩
end Go.Proofs.YtlbaejihlcfpeaaDoor.G
end
