import Derived.LaidMore
import Derived.LaidHandle
import Derived.Stop.Joined
import Derived.Lib.IfaceEq
import Derived.Lib.IndexMore
import Derived.Shelf.Abstract
import Derived.LaidEql
import Derived.Stop.Asserts
import Derived.RowKitTokens
import Derived.Lib.LaidTab
import Derived.Lib.AppendIntMem
import Derived.Stop.LaidErr
import Derived.WalkKit
import Derived.Deep.RegionLaw
import Derived.Deep.Cut
import Derived.WalkSpells
import Derived.Maps.OwnOps
import Derived.Maps.OwnSet
import Derived.Maps.Views
import Derived.Maps.RangeWalk
import Derived.Maps.Own
import Derived.Test.YtlbaejihlcfpeaaDoorPNmA2
import Derived.Lib.Hide
set_option linter.unusedVariables false
set_option linter.unusedSimpArgs false
section
namespace Go.Proofs.YtlbaejihlcfpeaaDoor.G
open Go.Proofs.YtlbaejihlcfpeaaDoor.G Go.Proofs.YtlbaejihlcfpeaaDoor.Z
open Go.Shelf Go.Extern.Stop Go.Stop Go.Extern Go.RowKit Go.Proofs.YtlbaejihlcfpeaaDoorW.PrintWords Go.Proofs.YtlbaejihlcfpeaaDoorW.PrintLast Go.Proofs.YtlbaejihlcfpeaaDoorW.PrintMore
set_option linter.unusedVariables false
set_option linter.unusedSimpArgs false
theorem ib_none : ∀ (l : List UInt8) (c : UInt8), Lib.indexByte l c = -1 → ∀ d ∈ l, d ≠ c
  | [], c, _, d, hd => by cases hd
  | b :: l, c, h, d, hd => by
    unfold Lib.indexByte at h
    by_cases hb : b = c
    · subst hb; rw [beq_self_eq_true, if_pos rfl] at h; cases h
    · rw [beq_eq_false_iff_ne.mpr hb, if_neg (by decide)] at h
      have hg := Lib.indexByte_ge l c
      by_cases h1 : Lib.indexByte l c = -1
      · rcases List.mem_cons.mp hd with rfl | hd
        · exact hb
        · exact ib_none l c h1 d hd
      · rw [beq_eq_false_iff_ne.mpr h1, if_neg (by decide)] at h; omega
theorem ib_some : ∀ (l : List UInt8) (c : UInt8) (i : Nat), Lib.indexByte l c = i → l[i]? = some c ∧ ∀ d ∈ l.take i, d ≠ c
  | [], c, i, h => by cases h
  | b :: l, c, i, h => by
    unfold Lib.indexByte at h
    by_cases hb : b = c
    · subst hb
      rw [beq_self_eq_true, if_pos rfl] at h
      obtain rfl : i = 0 := by omega
      exact ⟨rfl, fun d hd => by cases hd⟩
    · rw [beq_eq_false_iff_ne.mpr hb, if_neg (by decide)] at h
      by_cases h1 : Lib.indexByte l c = -1
      · rw [h1] at h
        have h : (-1 : Int) = i := h
        omega
      · rw [beq_eq_false_iff_ne.mpr h1, if_neg (by decide)] at h
        have hg := Lib.indexByte_ge l c
        obtain ⟨j, rfl⟩ : ∃ j, i = j + 1 := ⟨i - 1, by omega⟩
        obtain ⟨e1, e2⟩ := ib_some l c j (by omega)
        refine ⟨by rw [List.getElem?_cons_succ]; exact e1, fun d hd => ?_⟩
        rw [List.take_succ_cons] at hd
        rcases List.mem_cons.mp hd with rfl | hd
        · exact hb
        · exact e2 d hd
theorem cut_line (t : ByteArray) : ∃ m, (cutF t).1 = t.extract 0 m ∧ (cutF t).1.size = m ∧ m ≤ t.size ∧ (∀ d ∈ t.data.toList.take m, d ≠ 10) ∧ (t.data.toList.drop m = [] ∨ ∃ r, t.data.toList.drop m = 10 :: r) := by
  have hs : t.data.toList.length = t.size := by rw [Array.length_toList]; rfl
  unfold cutF
  by_cases h : 0 ≤ Lib.indexByte t.data.toList 10
  · rw [if_pos h]
    obtain ⟨i, hi⟩ : ∃ i : Nat, Lib.indexByte t.data.toList 10 = i := ⟨_, (Int.toNat_of_nonneg h).symm⟩
    obtain ⟨e1, e2⟩ := ib_some _ _ _ hi
    obtain ⟨hl, he⟩ := List.getElem?_eq_some_iff.mp e1
    rw [hi]
    refine ⟨i, rfl, ?_, by omega, e2, .inr ⟨t.data.toList.drop (i + 1), ?_⟩⟩
    · show (t.extract 0 i).size = i
      rw [ByteArray.size_extract]; omega
    · rw [List.drop_eq_getElem_cons hl, he]
  · rw [if_neg h]
    have h1 : Lib.indexByte t.data.toList 10 = -1 := by have := Lib.indexByte_ge t.data.toList 10; omega
    refine ⟨t.size, ?_, rfl, Nat.le_refl _, fun d hd => ib_none _ _ h1 d (List.mem_of_mem_take hd), .inl (List.drop_eq_nil_of_le (by omega))⟩
    show t = t.extract 0 t.size
    exact (data_inj (by rw [ext0_data, ← hs, List.take_length]))
theorem qend_nil_nl {u : List UInt8} (h : u = [] ∨ ∃ r, u = 10 :: r) : qend u = none := by
  rcases h with rfl | ⟨r, rfl⟩
  · rfl
  · unfold qend; rw [if_pos rfl]
theorem map_map_add (o : Option Nat) (a b : Nat) : (o.map (· + a)).map (· + b) = o.map (· + (a + b)) := by
  cases o
  · rfl
  · rename_i x; show some (x + a + b) = some (x + (a + b)); congr 1; omega
def QI (u : List UInt8) (m a : Nat) : Prop := (a ≤ m ∧ qend (u.drop 1) = (qend (u.drop a)).map (· + (a - 1))) ∨ (a = m + 1 ∧ qend (u.drop 1) = none)
theorem QI.start {u : List UInt8} {m : Nat} (h : 1 ≤ m) : QI u m 1 := .inl ⟨h, by cases qend (u.drop 1) <;> rfl⟩
theorem QI.plain {u : List UInt8} {m a : Nat} {c : UInt8} (h : QI u m a) (ha : 1 ≤ a) (hm : a < m) (hc : u[a]? = some c) (h10 : c ≠ 10) (h34 : c ≠ 34) (h92 : c ≠ 92) : QI u m (a + 1) := by
  rcases h with ⟨_, h⟩ | ⟨h, _⟩
  · obtain ⟨hl, he⟩ := List.getElem?_eq_some_iff.mp hc
    refine .inl ⟨hm, ?_⟩
    rw [List.drop_eq_getElem_cons hl, he, qend_plain h10 h34 h92, map_map_add] at h
    rw [h, show 1 + (a - 1) = a + 1 - 1 by omega]
  · omega
theorem QI.esc {u : List UInt8} {m a : Nat} (h : QI u m a) (ha : 1 ≤ a) (hm : a < m) (hc : u[a]? = some 92) (hn : ∀ d ∈ u.take m, d ≠ 10) (hr : u.drop m = [] ∨ ∃ r, u.drop m = 10 :: r) : QI u m (a + 2) := by
  rcases h with ⟨_, h⟩ | ⟨h, _⟩
  · obtain ⟨hl, he⟩ := List.getElem?_eq_some_iff.mp hc
    rw [List.drop_eq_getElem_cons hl, he] at h
    by_cases h1 : a + 1 < m
    · cases hd : u[a + 1]? with
      | none =>
        rw [List.getElem?_eq_none_iff] at hd
        have : u.drop (a + 1) = [] := List.drop_eq_nil_of_le hd
        have : u.drop m = [] := List.drop_eq_nil_of_le (by omega)
        have h2 : qend (u.drop 1) = none := by
          rw [h, List.drop_eq_nil_of_le hd]
          rfl
        refine .inl ⟨by omega, ?_⟩
        rw [h2, List.drop_eq_nil_of_le (by omega)]
        rfl
      | some d =>
        obtain ⟨hl2, he2⟩ := List.getElem?_eq_some_iff.mp hd
        have hd10 : d ≠ 10 := hn d (by
          rw [← he2]
          exact List.mem_iff_getElem.mpr ⟨a + 1, by rw [List.length_take]; omega, by rw [List.getElem_take]⟩)
        rw [List.drop_eq_getElem_cons hl2, he2, qend_esc hd10, map_map_add] at h
        refine .inl ⟨by omega, ?_⟩
        rw [h, show 2 + (a - 1) = a + 2 - 1 by omega]
    · obtain rfl : m = a + 1 := by omega
      refine .inr ⟨rfl, ?_⟩
      rw [h]
      rcases hr with hr | ⟨r, hr⟩
      · rw [hr]; rfl
      · rw [hr]
        unfold qend
        rw [if_neg (by decide), if_neg (by decide), if_pos rfl]
        rfl
  · omega
theorem QI.hit {u : List UInt8} {m a : Nat} (h : QI u m a) (ha : 1 ≤ a) (hm : a < m) (hc : u[a]? = some 34) : qend (u.drop 1) = some (a - 1) := by
  rcases h with ⟨_, h⟩ | ⟨h, _⟩
  · obtain ⟨hl, he⟩ := List.getElem?_eq_some_iff.mp hc
    rw [h, List.drop_eq_getElem_cons hl, he]
    unfold qend
    rw [if_neg (by decide), if_pos rfl]
    show some (0 + (a - 1)) = _
    congr 1; omega
  · omega
theorem QI.stop {u : List UInt8} {m a : Nat} (h : QI u m a) (hm : ¬ a < m) (hr : u.drop m = [] ∨ ∃ r, u.drop m = 10 :: r) : qend (u.drop 1) = none := by
  rcases h with ⟨h1, h⟩ | ⟨_, h⟩
  · obtain rfl : a = m := by omega
    rw [h, qend_nil_nl hr]; rfl
  · exact h
theorem Laid.unquote (q : ByteArray) (hq : q.size < 70368744177664) (w : World) :
    Calls Tryd.prog 34 #[.string q] w fun e w' => e = .returned (.tuple #[.string (unqL q.data.toList).1, .int .i64 (unqL q.data.toList).2]) ∧ Below w.heap.size w w' :=
  quote_Unquote.calls q _ _ w (unqL_eq hq)
set_option maxHeartbeats 8000000 in
set_option maxRecDepth 100000 in
theorem str_any (t : ByteArray) (w : World) (hs : t.size ≤ 100000000) (h0 : t.data.toList.head? = some 34) :
    Calls Tryd.prog 23 #[.string t] w fun e w' => e = .returned (wdV (strW unqL t.data.toList)) ∧ Below w.heap.size w w' := by
  obtain ⟨m, hm1, hm2, hm3, hm4, hm5⟩ := cut_line t
  have hm0 : 1 ≤ m := by
    by_cases h : m = 0
    · subst h
      rw [List.drop_zero] at hm5
      rcases hm5 with h | ⟨r, h⟩
      · rw [h] at h0; cases h0
      · rw [h] at h0; cases h0
    · omega
  generalize hres : strW unqL t.data.toList = res
  unfold strW at hres
  have HRES := Aside0.mk hres
  have HQ := Aside0.mk (QI.start (u := t.data.toList) hm0)
  have HS := Aside0.mk hs
  have HC := Aside0.mk (fun w => cut_any t w (by omega))
  have HLD := Aside0.mk (show (cutF t).1.data.toList = t.data.toList.take m from by rw [hm1, ext0_data])
  generalize hline : (cutF t).1 = line at HC HLD hm2
  generalize (cutF t).2.1 = rest at HC
  generalize (cutF t).2.2 = more at HC
  have H4 := Aside0.mk hm4
  have H5 := Aside0.mk hm5
  have HM := Aside0.mk hm2
  have H3 := Aside0.mk hm3
  clear hm1 hm3 hm4 hm5 hres hs hline h0
  go_enter Tryd.func23, Tryd.ntmps23
  go_upto_region 1 with (fail)
  obtain ⟨w1, hw1⟩ : ∃ x, x = w.alloc (.cells #[.int .i64 0, .string ⟨#[]⟩, .int .i64 0, .int .i64 0] 34) := ⟨_, rfl⟩
  rw [← hw1]
  obtain ⟨P, hP⟩ : ∃ x, x = w.heap.size := ⟨_, rfl⟩
  rw [← hP]
  have HB := Aside0.mk (show BX w P w1 from by rw [hw1, hP]; exact BX.new w)
  clear hw1 hP
  go_wp2_with fail
  refine (HC.out _).mono ?_
  rintro e w2 ⟨rfl, hb⟩
  have HB1 := Aside0.mk (HB.out.below hb)
  clear hb HB
  have HB := HB1
  clear HB1
  go_wp2_with fail
  go_loopw [8] (fun v8 wr => ∃ a : Nat, v8 = .int .i64 a ∧ 1 ≤ a ∧ a ≤ m + 1 ∧ Aside0 (QI t.data.toList m a) ∧ Aside0 (BX w P wr)) (fun v8 _ => m + 2 - (intOf v8).toNat)
  case atStart => exact ⟨1, rfl, by omega, by omega, HQ, HB⟩
  case round =>
    clear HQ HB
    obtain ⟨a, rfl, ha1, ham, HQ, HB⟩ := hrel
    have hla : line.size = m := HM.out
    by_cases hlt : a < m
    · have hlb : decide ((a : Int) < (line.size : Int)) = true := decide_eq_true (by omega)
      have hli : (a : Int) < (line.size : Int) := by omega
      have hls : a < line.size := by omega
      have hw : wrap64 ((a : Int) + 1) = (a : Int) + 1 := IntWalk.wrap64_in _ ⟨by omega, by have := HS.out; have := H3.out; omega⟩
      have hw2 : wrap64 ((a : Int) + 1 + 1) = (a : Int) + 1 + 1 := IntWalk.wrap64_in _ ⟨by omega, by have := HS.out; have := H3.out; omega⟩
      have hg : t.data.toList[a]? = some (line[a]'hls) := by
        have h1 := get_data line a hls
        rw [HLD.out, List.getElem?_take_of_lt hlt] at h1
        exact h1
      generalize hc : line[a]'hls = c at hg
      have hcn : ((line[a]'hls).toNat : Int) = (c.toNat : Int) := by rw [hc]
      have hc10 : c ≠ 10 := H4.out c (by
        obtain ⟨hl, he⟩ := List.getElem?_eq_some_iff.mp hg
        rw [← he]
        exact List.mem_iff_getElem.mpr ⟨a, by rw [List.length_take]; omega, by rw [List.getElem_take]⟩)
      have HG := Aside0.mk hg
      clear hg hc
      by_cases h34 : c = 34
      · have hb34 : ((c.toNat : Int) == 34) = true := by rw [h34]; rfl
        have hh := HQ.out.hit ha1 hlt (by rw [HG.out, h34])
        have hr := HRES.out
        rw [hh] at hr
        dsimp only at hr
        rw [show a - 1 + 2 = a + 1 by omega] at hr
        have HU := Aside0.mk (fun w => Laid.unquote (line.extract 0 (a + 1)) (by rw [ByteArray.size_extract]; have := HS.out; have := H3.out; omega) w)
        have hld : (line.extract 0 (a + 1)).data.toList = t.data.toList.take (a + 1) := by rw [ext0_data, HLD.out, List.take_take, Nat.min_eq_left (by omega)]
        rw [hld] at HU
        generalize hq : unqL (t.data.toList.take (a + 1)) = q at hr HU
        obtain ⟨r1, r2⟩ := q
        dsimp only at hr HU
        have HR := Aside0.mk hr
        clear hr hh hq hld HRES
        have hle : (a : Int) + 1 ≤ (line.size : Int) := by omega
        go_wp2_with fail
        refine (HU.out _).mono ?_
        rintro e w3 ⟨rfl, hb⟩
        have HB1 := Aside0.mk (HB.out.below hb)
        clear hb HB
        have HB := HB1
        clear HB1
        by_cases hz : r2 = 0
        · have hzb : (r2 == 0) = true := beq_iff_eq.mpr hz
          have hzn : (r2 != 0) = false := bne_eq_false_iff_eq.mpr hz
          have hr := HR.out
          rw [if_pos hz] at hr
          have HR := Aside0.mk hr
          clear hr hz
          obtain ⟨⟨b0, b1, b2, b3⟩, d0, d1, d2, d3⟩ := HB.out.cells
          go_wp2_with fail
          exact bodyPost_ret (res41 Tryd.f23 rfl _ _ P _ _ _ _ _ _ rfl rfl rfl (HB.out.fin (.int .i64 3) (.string r1) (.int .i64 0) (.int .i64 0)).1) rfl ⟨by rw [← HR.out, hw]; rfl, (HB.out.fin _ _ _ _).2⟩
        · have hzb : (r2 == 0) = false := beq_eq_false_iff_ne.mpr hz
          have hzn : (r2 != 0) = true := bne_iff_ne.mpr hz
          have hr := HR.out
          rw [if_neg hz] at hr
          have hr2 : res = badW (if r2 = 4 then 14 else r2) := by
            rw [← hr]
            by_cases h4 : r2 = 4
            · rw [if_pos h4, if_pos h4]
            · rw [if_neg h4, if_neg h4]
          have HR := Aside0.mk hr2
          have HW := Aside0.mk (fun w => wrong_any r2 hz w)
          generalize (if r2 = 4 then (14 : Int) else r2) = ce at HR HW
          clear hr hr2 hz
          go_wp2_with fail
          refine (HW.out _).mono ?_
          rintro e w' ⟨rfl, rfl⟩
          obtain ⟨⟨b0, b1, b2, b3⟩, d0, d1, d2, d3⟩ := HB.out.cells
          go_wp2_with fail
          exact bodyPost_ret (res41 Tryd.f23 rfl _ _ P _ _ _ _ _ _ rfl rfl rfl (HB.out.fin (.int .i64 0) (.string ⟨#[]⟩) (.int .i64 0) (.int .i64 0)).1) rfl ⟨by rw [HR.out, wdV_bad]; rfl, (HB.out.fin _ _ _ _).2⟩
      · have hb34 : ((c.toNat : Int) == 34) = false := beq_eq_false_iff_ne.mpr (fun h => h34 (UInt8.toNat_inj.mp (by have e : (34 : UInt8).toNat = 34 := rfl; omega)))
        by_cases h92 : c = 92
        · have hb92 : ((c.toNat : Int) == 92) = true := by rw [h92]; rfl
          have HQ2 := Aside0.mk (HQ.out.esc ha1 hlt (by rw [HG.out, h92]) H4.out H5.out)
          clear HQ
          go_wp2_with fail
          go_roundw
          case rel => exact ⟨a + 2, by congr 1, by omega, by omega, HQ2, HB⟩
          case measure =>
            try rw [hw2]
            show m + 2 - ((a : Int) + 1 + 1).toNat < m + 2 - (a : Int).toNat
            omega
        · have hb92 : ((c.toNat : Int) == 92) = false := beq_eq_false_iff_ne.mpr (fun h => h92 (UInt8.toNat_inj.mp (by have e : (92 : UInt8).toNat = 92 := rfl; omega)))
          have HQ2 := Aside0.mk (HQ.out.plain ha1 hlt HG.out hc10 h34 h92)
          clear HQ
          go_wp2_with fail
          go_roundw
          case rel => exact ⟨a + 1, by congr 1, by omega, by omega, HQ2, HB⟩
          case measure =>
            try rw [hw]
            show m + 2 - ((a : Int) + 1).toNat < m + 2 - (a : Int).toNat
            omega
    · have hlb : decide ((a : Int) < (line.size : Int)) = false := decide_eq_false (by omega)
      have hli : ¬ (a : Int) < (line.size : Int) := by omega
      have hr := HRES.out
      rw [HQ.out.stop hlt H5.out] at hr
      have HR := Aside0.mk hr
      clear hr
      obtain ⟨⟨b0, b1, b2, b3⟩, d0, d1, d2, d3⟩ := HB.out.cells
      go_wp2_with fail
      exact bodyPost_ret (res41 Tryd.f23 rfl _ _ P _ _ _ _ _ _ rfl rfl rfl (HB.out.fin (.int .i64 0) (.string ⟨#[]⟩) (.int .i64 0) (.int .i64 0)).1) rfl ⟨by rw [← HR.out, wdV_bad, errV_14]; rfl, (HB.out.fin _ _ _ _).2⟩
end Go.Proofs.YtlbaejihlcfpeaaDoor.G
end
