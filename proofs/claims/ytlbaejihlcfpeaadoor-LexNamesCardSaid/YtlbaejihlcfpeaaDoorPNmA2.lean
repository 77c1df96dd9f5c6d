import Derived.LaidMore
import Derived.LaidHandle
import Derived.Stop.Joined
import Derived.Lib.IfaceEq
import Derived.Lib.IndexMore
import Derived.Shelf.Abstract
import Derived.LaidEql
import Derived.Stop.Asserts
import Derived.RowKitTokens
import Derived.Lib.LaidTab
import Derived.Lib.AppendIntMem
import Derived.Stop.LaidErr
import Derived.WalkKit
import Derived.Deep.RegionLaw
import Derived.Deep.Cut
import Derived.WalkSpells
import Derived.Maps.OwnOps
import Derived.Maps.OwnSet
import Derived.Maps.Views
import Derived.Maps.RangeWalk
import Derived.Maps.Own
import Derived.Test.YtlbaejihlcfpeaaDoorPNmA1
import Derived.Test.YtlbaejihlcfpeaaDoorPNmC
import Derived.Test.YtlbaejihlcfpeaaDoorPNmZB
import Derived.Test.YtlbaejihlcfpeaaDoorPNmPQ
import Derived.Lib.Hide
set_option linter.unusedVariables false
set_option linter.unusedSimpArgs false
section
namespace Go.Proofs.YtlbaejihlcfpeaaDoor.G
open Go.Proofs.YtlbaejihlcfpeaaDoor.G Go.Proofs.YtlbaejihlcfpeaaDoor.Z
open Go.Shelf Go.Extern.Stop Go.Stop Go.Extern Go.RowKit Go.Proofs.YtlbaejihlcfpeaaDoorW.PrintWords Go.Proofs.YtlbaejihlcfpeaaDoorW.PrintLast Go.Proofs.YtlbaejihlcfpeaaDoorW.PrintMore
set_option linter.unusedVariables false
set_option linter.unusedSimpArgs false
def wdV (w : Wd) : Value := .tuple #[.agg #[.int .i64 w.k, .string w.t, .int .i64 w.n, .int .i64 0], .int .i64 (w.z : Nat), errV w.e]
theorem wdV_bad (c : Int) : wdV (badW c) = .tuple #[.agg #[.int .i64 0, .string ⟨#[]⟩, .int .i64 0, .int .i64 0], .int .i64 0, errV c] := rfl
theorem errV_0 : errV 0 = .nilIface := if_pos rfl
theorem errV_14 : errV 14 = .iface 30 (.int .i64 14) := if_neg (by decide)
theorem errV_ne {c : Int} (h : c ≠ 0) : errV c = .iface 30 (.int .i64 c) := if_neg h
theorem res41 (f : Func) (hf : f.results = #[.cell 2 34, .tmp 3, .tmp 4]) (a : Array Value) (w : World) (P : Nat) (k t n l z e : Value) (h2 : a.getD 2 undef = .pointer (some ⟨P, 0, none⟩)) (h3 : a.getD 3 undef = z) (h4 : a.getD 4 undef = e) (hp : w.heap[P]? = some (.cells #[k, t, n, l] 34 (0, 0))) :
    (results f a).run Tryd.prog w = .ok (.tuple #[.agg #[k, t, n, l], z, e]) w := by
  have c0 : w.cell? ⟨P, 0, none⟩ = some k := (blk_cell hp 0).trans rfl
  have c1 : w.cell? ⟨P, 1, none⟩ = some t := (blk_cell hp 1).trans rfl
  have c2 : w.cell? ⟨P, 2, none⟩ = some n := (blk_cell hp 2).trans rfl
  have c3 : w.cell? ⟨P, 3, none⟩ = some l := (blk_cell hp 3).trans rfl
  have h2' : a[2]?.getD undef = .pointer (some ⟨P, 0, none⟩) := by simpa using h2
  have h3' : a[3]?.getD undef = z := by simpa using h3
  have h4' : a[4]?.getD undef = e := by simpa using h4
  simp [results, hf, h2', h3', h4', asAddr, go_sem, c0, c1, c2, c3]
structure BX (w : World) (P : Nat) (wr : World) : Prop where
  bel : Below w.heap.size w wr
  pp : wr.heap[P]? = some (.cells #[.int .i64 0, .string ⟨#[]⟩, .int .i64 0, .int .i64 0] 34 (0, 0))
  h1 : w.heap.size ≤ P
theorem BX.below {w wr w1 : World} {P : Nat} (h : BX w P wr) (hb : Below wr.heap.size wr w1) : BX w P w1 := ⟨below_step h.bel hb, blk_below h.pp hb, h.h1⟩
def set4 (wr : World) (P : Nat) (a b c d : Value) : World := (((wr.setCell ⟨P, 0, none⟩ a).setCell ⟨P, 1, none⟩ b).setCell ⟨P, 2, none⟩ c).setCell ⟨P, 3, none⟩ d
theorem BX.fin {w wr : World} {P : Nat} (h : BX w P wr) (a b c d : Value) : (set4 wr P a b c d).heap[P]? = some (.cells #[a, b, c, d] 34 (0, 0)) ∧ Below w.heap.size w (set4 wr P a b c d) :=
  ⟨blk_put (blk_put (blk_put (blk_put (cs' := #[a, .string ⟨#[]⟩, .int .i64 0, .int .i64 0]) h.pp 0 _ rfl) 1 (cs' := #[a, b, .int .i64 0, .int .i64 0]) _ rfl) 2 (cs' := #[a, b, c, .int .i64 0]) _ rfl) 3 _ rfl, below_set (below_set (below_set (below_set h.bel h.h1) h.h1) h.h1) h.h1⟩
theorem BX.cells {w wr : World} {P : Nat} (h : BX w P wr) : (wr.cell? ⟨P, 0, none⟩ = some (.int .i64 0) ∧ wr.cell? ⟨P, 1, none⟩ = some (.string ⟨#[]⟩) ∧ wr.cell? ⟨P, 2, none⟩ = some (.int .i64 0) ∧ wr.cell? ⟨P, 3, none⟩ = some (.int .i64 0)) ∧ wr.frozen? ⟨P, 0, none⟩ = false ∧ wr.frozen? ⟨P, 1, none⟩ = false ∧ wr.frozen? ⟨P, 2, none⟩ = false ∧ wr.frozen? ⟨P, 3, none⟩ = false :=
  ⟨⟨(blk_cell h.pp 0).trans rfl, (blk_cell h.pp 1).trans rfl, (blk_cell h.pp 2).trans rfl, (blk_cell h.pp 3).trans rfl⟩, blk_frozen h.pp 0, blk_frozen h.pp 1, blk_frozen h.pp 2, blk_frozen h.pp 3⟩
theorem BX.new (w : World) : BX w w.heap.size (w.alloc (.cells #[.int .i64 0, .string ⟨#[]⟩, .int .i64 0, .int .i64 0] 34)) := ⟨below_alloc (Below.refl _ _) _, blk_new _ _, Nat.le_refl _⟩
theorem ext0_data (t : ByteArray) (n : Nat) : (t.extract 0 n).data.toList = t.data.toList.take n := by
  rw [ByteArray.data_extract, Array.toList_extract, List.extract_eq_take_drop]; simp
theorem mk_ext (t : ByteArray) (n : Nat) : (⟨(t.data.toList.take n).toArray⟩ : ByteArray) = t.extract 0 n := data_inj (by rw [ext0_data])
theorem tw_take {p : UInt8 → Bool} : ∀ (u : List UInt8), u.take (u.takeWhile p).length = u.takeWhile p
  | [] => rfl
  | c :: u => by
    by_cases h : p c = true
    · rw [List.takeWhile_cons_of_pos h, List.length_cons, List.take_succ_cons, tw_take u]
    · rw [List.takeWhile_cons_of_neg h]; rfl
theorem dw_head {p : UInt8 → Bool} : ∀ (u : List UInt8), (u.dropWhile p).head? = u[(u.takeWhile p).length]?
  | [] => rfl
  | c :: u => by
    by_cases h : p c = true
    · rw [List.takeWhile_cons_of_pos h, List.length_cons, List.dropWhile_cons_of_pos h, dw_head u, List.getElem?_cons_succ]
    · rw [List.takeWhile_cons_of_neg h, List.dropWhile_cons_of_neg h]; rfl
theorem fun_dig : amF digB = isDig := funext am_dig
theorem fun_al : amF (letB ++ digB) = isAl := funext am_al
theorem Laid.parse {w wr : World} (hL : Laid w) (hb : Below w.heap.size w wr) (s : ByteArray) (hs : s.size ≤ 140737488353280) :
    Calls Tryd.prog 32 #[.string s] wr fun e w' => e = .returned (.tuple #[.int .i64 (readL s.data.toList).1, .int .i64 (readL s.data.toList).2]) ∧ Below wr.heap.size wr w' := by
  rw [← parseF_read]
  exact num_Parse.calls s _ _ wr (Laid.below hb hL) (by unfold num_Parse.f; rw [if_pos hs])
set_option maxHeartbeats 8000000 in
set_option maxRecDepth 100000 in
theorem number_any (t : ByteArray) (w : World) (hL : Laid w) (hs : t.size ≤ 100000000) :
    Calls Tryd.prog 22 #[.string t] w fun e w' => e = .returned (wdV (numW readL t.data.toList)) ∧ Below w.heap.size w w' := by
  have HL := Aside0.mk hL
  have HS := Aside0.mk hs
  have HN := Aside0.mk (fun w => long_any t ⟨#[48, 49, 50, 51, 52, 53, 54, 55, 56, 57]⟩ (by omega) w)
  have e1 : (⟨#[48, 49, 50, 51, 52, 53, 54, 55, 56, 57]⟩ : ByteArray).data.toList = digB := rfl
  rw [e1, fun_dig] at HN
  have hn := (List.takeWhile_sublist isDig (l := t.data.toList)).length_le
  rw [Array.length_toList] at hn
  have hns : (t.data.toList.takeWhile isDig).length ≤ t.size := hn
  generalize hres : numW readL t.data.toList = res
  unfold numW at hres
  rw [dw_head] at hres
  have hx := mk_ext t (t.data.toList.takeWhile isDig).length
  rw [tw_take] at hx
  have HX2 := Aside0.mk (show (t.extract 0 (t.data.toList.takeWhile isDig).length).data.toList = t.data.toList.takeWhile isDig from by rw [ext0_data, tw_take])
  generalize hn2 : (t.data.toList.takeWhile isDig).length = n at *
  rw [hx] at hres
  rw [← HX2.out] at hres
  have HRES := Aside0.mk hres
  have HG := Aside0.mk (fun h => get_data t n h)
  clear hL hs e1 hn hres hx hn2
  go_enter Tryd.func22, Tryd.ntmps22
  go_upto_region 1 with (fail)
  obtain ⟨w1, hw1⟩ : ∃ x, x = w.alloc (.cells #[.int .i64 0, .string ⟨#[]⟩, .int .i64 0, .int .i64 0] 34) := ⟨_, rfl⟩
  rw [← hw1]
  obtain ⟨P, hP⟩ : ∃ x, x = w.heap.size := ⟨_, rfl⟩
  rw [← hP]
  have HB := Aside0.mk (show BX w P w1 from by rw [hw1, hP]; exact BX.new w)
  clear hw1 hP
  have hle : (n : Int) ≤ (t.size : Int) := by omega
  go_wp2_with fail
  refine (HN.out _).mono ?_
  rintro e w' ⟨rfl, rfl⟩
  go_wp2_with fail
  refine (Laid.parse HL.out HB.out.bel (t.extract 0 n) (by rw [ByteArray.size_extract]; have := HS.out; omega)).mono ?_
  rintro e w1 ⟨rfl, hb⟩
  have HB1 := Aside0.mk (HB.out.below hb)
  clear hb HB
  have HB := HB1
  clear HB1
  have hr := HRES.out
  clear HRES
  generalize (readL (t.extract 0 n).data.toList).1 = v at hr ⊢
  generalize (readL (t.extract 0 n).data.toList).2 = e at hr ⊢
  by_cases h4 : e = 4
  · have h4b : (e == 4) = true := beq_iff_eq.mpr h4
    rw [if_pos (.inl h4)] at hr
    have HR := Aside0.mk hr
    clear hr
    obtain ⟨⟨b0, b1, b2, b3⟩, d0, d1, d2, d3⟩ := HB.out.cells
    go_wp2_with fail
    exact bodyPost_ret (res41 Tryd.f22 rfl _ _ P _ _ _ _ _ _ rfl rfl rfl (HB.out.fin (.int .i64 0) (.string ⟨#[]⟩) (.int .i64 0) (.int .i64 0)).1) rfl ⟨by rw [← HR.out, wdV_bad, errV_14]; rfl, (HB.out.fin _ _ _ _).2⟩
  · have h4b : (e == 4) = false := beq_eq_false_iff_ne.mpr h4
    by_cases hlt : n < t.size
    · have hlb : decide ((n : Int) < (t.size : Int)) = true := decide_eq_true (by omega)
      have hli : (n : Int) < (t.size : Int) := by omega
      rw [HG.out hlt] at hr
      have HA := Aside0.mk (among_any (t[n]'hlt) (⟨letB.toArray⟩ : ByteArray))
      rw [show (⟨letB.toArray⟩ : ByteArray).data.toList = letB from by simp, am_let] at HA
      rw [Option.map_some] at hr
      generalize isLet (t[n]'hlt) = il at hr HA
      cases il with
      | true =>
        rw [if_pos (.inr rfl)] at hr
        have HR := Aside0.mk hr
        clear hr h4
        go_wp2_with fail
        refine (HA.out _).mono ?_
        rintro e w' ⟨rfl, rfl⟩
        obtain ⟨⟨b0, b1, b2, b3⟩, d0, d1, d2, d3⟩ := HB.out.cells
        go_wp2_with fail
        exact bodyPost_ret (res41 Tryd.f22 rfl _ _ P _ _ _ _ _ _ rfl rfl rfl (HB.out.fin (.int .i64 0) (.string ⟨#[]⟩) (.int .i64 0) (.int .i64 0)).1) rfl ⟨by rw [← HR.out, wdV_bad, errV_14]; rfl, (HB.out.fin _ _ _ _).2⟩
      | false =>
        rw [if_neg (by rintro (h | h); exact h4 h; cases h)] at hr
        by_cases h0 : e = 0
        · have h0b : (e == 0) = true := beq_iff_eq.mpr h0
          have h0n : (e != 0) = false := bne_eq_false_iff_eq.mpr h0
          rw [if_neg (fun h => h h0)] at hr
          have HR := Aside0.mk hr
          clear hr h4 h0
          go_wp2_with fail
          refine (HA.out _).mono ?_
          rintro e w' ⟨rfl, rfl⟩
          obtain ⟨⟨b0, b1, b2, b3⟩, d0, d1, d2, d3⟩ := HB.out.cells
          go_wp2_with fail
          exact bodyPost_ret (res41 Tryd.f22 rfl _ _ P _ _ _ _ _ _ rfl rfl rfl (HB.out.fin (.int .i64 2) (.string (t.extract 0 n)) (.int .i64 v) (.int .i64 0)).1) rfl ⟨by rw [← HR.out]; rfl, (HB.out.fin _ _ _ _).2⟩
        · have h0b : (e == 0) = false := beq_eq_false_iff_ne.mpr h0
          have h0n : (e != 0) = true := bne_iff_ne.mpr h0
          rw [if_pos h0] at hr
          have HR := Aside0.mk hr
          have HE := Aside0.mk (errV_ne h0)
          clear hr h4 h0
          go_wp2_with fail
          refine (HA.out _).mono ?_
          rintro e w' ⟨rfl, rfl⟩
          obtain ⟨⟨b0, b1, b2, b3⟩, d0, d1, d2, d3⟩ := HB.out.cells
          go_wp2_with fail
          exact bodyPost_ret (res41 Tryd.f22 rfl _ _ P _ _ _ _ _ _ rfl rfl rfl (HB.out.fin (.int .i64 0) (.string ⟨#[]⟩) (.int .i64 0) (.int .i64 0)).1) rfl ⟨by rw [← HR.out, wdV_bad, HE.out]; rfl, (HB.out.fin _ _ _ _).2⟩
    · have hlb : decide ((n : Int) < (t.size : Int)) = false := decide_eq_false (by omega)
      have hli : ¬ (n : Int) < (t.size : Int) := by omega
      rw [List.getElem?_eq_none (by rw [Array.length_toList]; show t.size ≤ n; omega)] at hr
      rw [if_neg (by rintro (h | h); exact h4 h; cases h)] at hr
      by_cases h0 : e = 0
      · have h0b : (e == 0) = true := beq_iff_eq.mpr h0
        have h0n : (e != 0) = false := bne_eq_false_iff_eq.mpr h0
        rw [if_neg (fun h => h h0)] at hr
        have HR := Aside0.mk hr
        clear hr h4 h0
        obtain ⟨⟨b0, b1, b2, b3⟩, d0, d1, d2, d3⟩ := HB.out.cells
        go_wp2_with fail
        exact bodyPost_ret (res41 Tryd.f22 rfl _ _ P _ _ _ _ _ _ rfl rfl rfl (HB.out.fin (.int .i64 2) (.string (t.extract 0 n)) (.int .i64 v) (.int .i64 0)).1) rfl ⟨by rw [← HR.out]; rfl, (HB.out.fin _ _ _ _).2⟩
      · have h0b : (e == 0) = false := beq_eq_false_iff_ne.mpr h0
        have h0n : (e != 0) = true := bne_iff_ne.mpr h0
        rw [if_pos h0] at hr
        have HR := Aside0.mk hr
        have HE := Aside0.mk (errV_ne h0)
        clear hr h4 h0
        obtain ⟨⟨b0, b1, b2, b3⟩, d0, d1, d2, d3⟩ := HB.out.cells
        go_wp2_with fail
        exact bodyPost_ret (res41 Tryd.f22 rfl _ _ P _ _ _ _ _ _ rfl rfl rfl (HB.out.fin (.int .i64 0) (.string ⟨#[]⟩) (.int .i64 0) (.int .i64 0)).1) rfl ⟨by rw [← HR.out, wdV_bad, HE.out]; rfl, (HB.out.fin _ _ _ _).2⟩
end Go.Proofs.YtlbaejihlcfpeaaDoor.G
end
