import Derived.Lib.IfaceEq
import Derived.Lib.ItoaLen
import Derived.Shelf.Strings.MapGrows
import Derived.Shelf.Abstract
import Derived.LaidEql
import Derived.Stop.Asserts
import Derived.RowKitTokens
import Derived.Lib.LaidTab
import Derived.Lib.AppendIntMem
import Derived.Stop.LaidErr
import Derived.WalkKit
import Derived.Deep.RegionLaw
import Derived.Deep.Cut
import Derived.WalkSpells
import Derived.Test.YtnombbcgdfgadaaDoorPReS2
import Derived.Test.YtnombbcgdfgadaaDoorPReP
import Derived.Test.YtnombbcgdfgadaaDoorPReGxF22
import Derived.Lib.Hide
set_option linter.unusedVariables false
set_option linter.unusedSimpArgs false
section
namespace Go.Proofs.YtnombbcgdfgadaaDoor.G
open Go.Shelf Go.Extern.Stop Go.Stop Go.Extern Go.RowKit Go.Proofs.YtnombbcgdfgadaaDoorW.PrintWords Go.Proofs.YtnombbcgdfgadaaDoorW.PrintLast Go.Proofs.YtnombbcgdfgadaaDoorW.PrintMore
set_option linter.unusedVariables false
set_option linter.unusedSimpArgs false
theorem ba_ext {a b : ByteArray} (h : a.data.toList = b.data.toList) : a = b := by
  cases a; cases b
  congr 1
  exact Array.toList_inj.mp h
theorem ext_list (s : ByteArray) (a b : Nat) : (s.extract a b).data.toList = (s.data.toList.drop a).take (b - a) := by
  rw [ByteArray.data_extract, Array.toList_extract]
theorem indexByte_cons (c : UInt8) (l : List UInt8) : Lib.indexByte (c :: l) 10 = if c = 10 then 0 else if Lib.indexByte l 10 = -1 then -1 else Lib.indexByte l 10 + 1 := by
  show (if (c == 10) = true then (0 : Int) else if (Lib.indexByte l 10 == -1) = true then -1 else Lib.indexByte l 10 + 1) = _
  generalize Lib.indexByte l 10 = z
  by_cases h : c = 10
  · rw [if_pos h, if_pos (beq_iff_eq.mpr h)]
  · rw [if_neg h, if_neg (fun e => h (beq_iff_eq.mp e))]
    by_cases hz : z = -1
    · rw [if_pos hz, if_pos (beq_iff_eq.mpr hz)]
    · rw [if_neg hz, if_neg (fun e => hz (beq_iff_eq.mp e))]
def feedAt (l : List UInt8) (i : Nat) : Int := if Lib.indexByte (l.drop i) 10 = -1 then -1 else (i : Int) + Lib.indexByte (l.drop i) 10
theorem feed_ev (s : ByteArray) (hs : s.size ≤ 140737488351232) : ∀ (d i : Nat), i + d = s.size → Ev (fun k => tallowref33_feed.l0 k s (i : Int)) (feedAt s.data.toList i)
  | 0, i, h => by
    refine ⟨1, fun k hk => ?_⟩
    obtain ⟨g, rfl⟩ : ∃ g, k = g + 1 := ⟨k - 1, by omega⟩
    show tallowref33_feed.l0 (g + 1) s (i : Int) = _
    rw [tallowref33_feed.l0, if_neg (by omega)]
    unfold feedAt
    rw [List.drop_of_length_le (by rw [← size_list]; omega)]
    rfl
  | d + 1, i, h => by
    have ih := feed_ev s hs d (i + 1) (by omega)
    have hl : i < s.data.toList.length := by rw [← size_list]; omega
    have hw : wrap64 ((i : Int) + 1) = ((i + 1 : Nat) : Int) := by rw [w_id (by omega)]; rfl
    have hd := List.drop_eq_getElem_cons hl
    refine Ev.step (f := fun k => if (bt s (i : Int)) = 10 then some (i : Int) else tallowref33_feed.l0 k s ((i + 1 : Nat) : Int)) (fun k => ?_) ?_
    · rw [tallowref33_feed.l0, if_pos (by omega), if_pos (by omega), hw]
    · rw [bt_get s i hl]
      by_cases hc : s.data.toList[i]'hl = 10
      · refine Ev.eq (evPos (by rw [hc]; rfl) (Ev.now _)) ?_
        unfold feedAt
        rw [hd, indexByte_cons, if_pos hc, if_neg (by decide)]
        omega
      · refine Ev.eq (evNeg (fun e => hc (by rw [← UInt8.toNat_inj]; show _ = 10; omega)) ih) ?_
        unfold feedAt
        rw [hd, indexByte_cons, if_neg hc]
        have hge := indexByte_lt (s.data.toList.drop (i + 1)) 10
        by_cases hz : Lib.indexByte (s.data.toList.drop (i + 1)) 10 = -1
        · rw [if_pos hz, if_pos hz, if_pos rfl]
        · rw [if_neg hz, if_neg hz, if_neg (by omega)]
          omega
theorem cut_at (s : ByteArray) (i : Nat) (hi : i ≤ s.size) :
    (feedAt s.data.toList i = -1 ∧ cutF (s.extract i s.size) = (s.extract i s.size, ⟨#[]⟩, false)) ∨
    (∃ en : Int, feedAt s.data.toList i = en ∧ (i : Int) ≤ en ∧ en < (s.size : Int) ∧ cutF (s.extract i s.size) = (s.extract i en.toNat, s.extract (en + 1).toNat s.size, true)) := by
  have hl := ext_drop s i
  have hsz : (s.extract i s.size).size = s.size - i := by rw [ByteArray.size_extract]; omega
  have hlt := indexByte_lt (s.data.toList.drop i) 10
  rw [List.length_drop, ← size_list] at hlt
  unfold feedAt cutF
  rw [hl]
  rcases hlt with h | ⟨h0, h1⟩
  · left
    rw [if_pos h, if_neg (by omega)]
    exact ⟨rfl, rfl⟩
  · right
    obtain ⟨m, hm⟩ : ∃ m : Nat, Lib.indexByte (s.data.toList.drop i) 10 = m := ⟨_, (Int.toNat_of_nonneg h0).symm⟩
    rw [hm, if_neg (by omega), if_pos (by omega)]
    refine ⟨(i : Int) + m, rfl, by omega, by omega, ?_⟩
    have e1 : (s.extract i s.size).extract 0 m = s.extract i (i + m) := by
      apply ba_ext
      rw [ext_list, ext_list, ext_list, List.drop_zero, List.take_take]
      all_goals first | done | (congr 1 <;> omega)
    have e2 : (s.extract i s.size).extract (m + 1) (s.extract i s.size).size = s.extract (i + m + 1) s.size := by
      apply ba_ext
      rw [ext_drop, ext_drop, ext_drop, List.drop_drop]
      all_goals first | done | (congr 1 <;> omega)
    rw [Int.toNat_natCast, show ((m : Int) + 1).toNat = m + 1 by omega, e1, e2, show ((i : Int) + m).toNat = i + m by omega, show ((i : Int) + m + 1).toNat = i + m + 1 by omega]
structure RS (w : World) (vr vf vs : Nat) (X : Nat → Prop) (sv rv : Value) (xs : List S44) (wr : World) : Prop where
  bel : Below w.heap.size w wr
  pr : wr.heap[vr]? = some (.cells #[.string ⟨#[]⟩, .slice none 0 0] 24 (0, 0))
  pf : wr.heap[vf]? = some (.cells #[.int .i64 0, .int .i64 0] 31 (0, 0))
  ps : wr.heap[vs]? = some (.cells #[.string ⟨#[]⟩, sv] 24 (0, 0))
  rr : Kd.R k44 44 wr w.heap.size (fun k => vs < k ∧ ¬ X k) rv xs
  h1 : w.heap.size ≤ vr
  h2 : vr < vf
  h3 : vf < vs
section
variable {w wr w1 : World} {vr vf vs : Nat} {X : Nat → Prop} {sv rv : Value} {xs : List S44}
theorem RS.below (h : RS w vr vf vs X sv rv xs wr) (hb : Below wr.heap.size wr w1) : RS w vr vf vs X sv rv xs w1 :=
  ⟨below_step h.bel hb, blk_below h.pr hb, blk_below h.pf hb, blk_below h.ps hb, Kd.R_below h.rr hb, h.h1, h.h2, h.h3⟩
theorem RS.mark {gb : Nat} (h : RS w vr vf vs (fun _ => False) sv rv xs wr) (hgb : wr.heap.size ≤ gb) : RS w vr vf vs (fun k => k = gb) sv rv xs wr :=
  ⟨h.bel, h.pr, h.pf, h.ps, Kd.R_mono (Kd.R_bound h.rr) (fun k hk => ⟨hk.1.1, fun e => by have := hk.2.2.1; omega⟩), h.h1, h.h2, h.h3⟩
theorem RS.unmark (h : RS w vr vf vs X sv rv xs wr) : RS w vr vf vs (fun _ => False) sv rv xs wr :=
  ⟨h.bel, h.pr, h.pf, h.ps, Kd.R_mono h.rr (fun k hk => ⟨hk.1, fun e => e⟩), h.h1, h.h2, h.h3⟩
theorem RS.push {v1 : Value} {ys : List S44} (h : RS w vr vf vs X sv rv xs wr) (hn : Kd.R k44 44 w1 w.heap.size (fun k => vs < k ∧ ¬ X k) v1 ys) (hb : Below w.heap.size wr w1) (hg : wr.grownBy w1 rv.ownBlock) : RS w vr vf vs X sv v1 ys w1 :=
  ⟨h.bel.trans hb, blk_grown h.pr hg (Kd.R_away h.rr (fun k hk => by have := h.h2; have := h.h3; omega)), blk_grown h.pf hg (Kd.R_away h.rr (fun k hk => by have := h.h3; omega)), blk_grown h.ps hg (Kd.R_away h.rr (fun k hk => by omega)), hn, h.h1, h.h2, h.h3⟩
theorem RS.put (h : RS w vr vf vs X sv rv xs wr) (u : Value) : RS w vr vf vs X u rv xs (wr.setCell ⟨vs, 1, none⟩ u) :=
  ⟨below_set h.bel (by have := h.h1; have := h.h2; have := h.h3; omega), blk_far h.pr (by have := h.h2; have := h.h3; show vr ≠ vs; omega) _, blk_far h.pf (by have := h.h3; show vf ≠ vs; omega) _, blk_put h.ps 1 _ rfl,
    Kd.R_far h.rr (p := ⟨vs, 1, none⟩) (fun k hk => by show k ≠ vs; omega) _, h.h1, h.h2, h.h3⟩
theorem RS.end_fault (h : RS w vr vf vs X sv rv xs wr) (c a : Int) {w2 : World} (e : w2 = (((wr.setCell ⟨vr, 0, none⟩ (.string ⟨#[]⟩)).setCell ⟨vr, 1, none⟩ (.slice none 0 0)).setCell ⟨vf, 0, none⟩ (.int .i64 c)).setCell ⟨vf, 1, none⟩ (.int .i64 a)) :
    w2.heap[vr]? = some (.cells #[.string ⟨#[]⟩, .slice none 0 0] 24 (0, 0)) ∧ w2.heap[vf]? = some (.cells #[.int .i64 c, .int .i64 a] 31 (0, 0)) ∧ Below w.heap.size w w2 := by
  subst e
  have h1 := h.h1
  have h2 := h.h2
  have hn : vr ≠ vf := by omega
  have hn' : vf ≠ vr := by omega
  exact ⟨blk_far (p := ⟨vf, 1, none⟩) (blk_far (p := ⟨vf, 0, none⟩) (blk_put (blk_put (cs' := #[.string ⟨#[]⟩, .slice none 0 0]) h.pr 0 _ rfl) 1 _ rfl) hn _) hn _,
    blk_put (blk_put (cs' := #[.int .i64 c, .int .i64 0]) (blk_far (p := ⟨vr, 1, none⟩) (blk_far (p := ⟨vr, 0, none⟩) h.pf hn' _) hn' _) 0 _ rfl) 1 _ rfl, below_set (below_set (below_set (below_set h.bel h1) h1) (by omega)) (by omega)⟩
theorem RS.end_long (h : RS w vr vf vs X sv rv xs wr) (r : ByteArray) (c a : Int) {w2 : World} (e : w2 = ((((wr.setCell ⟨vs, 0, none⟩ (.string r)).setCell ⟨vr, 0, none⟩ (.string ⟨#[]⟩)).setCell ⟨vr, 1, none⟩ (.slice none 0 0)).setCell ⟨vf, 0, none⟩ (.int .i64 c)).setCell ⟨vf, 1, none⟩ (.int .i64 a)) :
    w2.heap[vr]? = some (.cells #[.string ⟨#[]⟩, .slice none 0 0] 24 (0, 0)) ∧ w2.heap[vf]? = some (.cells #[.int .i64 c, .int .i64 a] 31 (0, 0)) ∧ Below w.heap.size w w2 := by
  subst e
  have h1 := h.h1
  have h2 := h.h2
  have h3 := h.h3
  have hn : vr ≠ vf := by omega
  have hn' : vf ≠ vr := by omega
  exact ⟨blk_far (p := ⟨vf, 1, none⟩) (blk_far (p := ⟨vf, 0, none⟩) (blk_put (blk_put (cs' := #[.string ⟨#[]⟩, .slice none 0 0]) (blk_far (p := ⟨vs, 0, none⟩) h.pr (by show vr ≠ vs; omega) _) 0 _ rfl) 1 _ rfl) hn _) hn _,
    blk_put (blk_put (cs' := #[.int .i64 c, .int .i64 0]) (blk_far (p := ⟨vr, 1, none⟩) (blk_far (p := ⟨vr, 0, none⟩) (blk_far (p := ⟨vs, 0, none⟩) h.pf (by show vf ≠ vs; omega) _) hn' _) hn' _) 0 _ rfl) 1 _ rfl, below_set (below_set (below_set (below_set (below_set h.bel (by omega)) h1) h1) (by omega)) (by omega)⟩
theorem RS.end_ok (h : RS w vr vf vs X sv rv xs wr) (r : ByteArray) (v : Value) {w2 : World} (e : w2 = ((((wr.setCell ⟨vs, 0, none⟩ (.string r)).setCell ⟨vr, 0, none⟩ (.string r)).setCell ⟨vr, 1, none⟩ v).setCell ⟨vf, 0, none⟩ (.int .i64 0)).setCell ⟨vf, 1, none⟩ (.int .i64 0)) :
    w2.heap[vr]? = some (.cells #[.string r, v] 24 (0, 0)) ∧ w2.heap[vf]? = some (.cells #[.int .i64 0, .int .i64 0] 31 (0, 0)) ∧ Kd.R k44 44 w2 w.heap.size (fun k => w.heap.size ≤ k) rv xs ∧ Below w.heap.size w w2 := by
  subst e
  have h1 := h.h1
  have h2 := h.h2
  have h3 := h.h3
  have hn : vr ≠ vf := by omega
  have hn' : vf ≠ vr := by omega
  refine ⟨blk_far (p := ⟨vf, 1, none⟩) (blk_far (p := ⟨vf, 0, none⟩) (blk_put (blk_put (cs' := #[.string r, .slice none 0 0]) (blk_far (p := ⟨vs, 0, none⟩) h.pr (by show vr ≠ vs; omega) _) 0 _ rfl) 1 _ rfl) hn _) hn _,
    blk_put (blk_put (cs' := #[.int .i64 0, .int .i64 0]) (blk_far (p := ⟨vr, 1, none⟩) (blk_far (p := ⟨vr, 0, none⟩) (blk_far (p := ⟨vs, 0, none⟩) h.pf (by show vf ≠ vs; omega) _) hn' _) hn' _) 0 _ rfl) 1 _ rfl, ?_, below_set (below_set (below_set (below_set (below_set h.bel (by omega)) h1) h1) (by omega)) (by omega)⟩
  exact Kd.R_mono (Kd.R_far (p := ⟨vf, 1, none⟩) (Kd.R_far (p := ⟨vf, 0, none⟩) (Kd.R_far (p := ⟨vr, 1, none⟩) (Kd.R_far (p := ⟨vr, 0, none⟩) (Kd.R_far (p := ⟨vs, 0, none⟩) h.rr (fun k hk => by show k ≠ vs; omega) _) (fun k hk => by show k ≠ vr; omega) _) (fun k hk => by show k ≠ vr; omega) _) (fun k hk => by show k ≠ vf; omega) _) (fun k hk => by show k ≠ vf; omega) _) (fun k hk => by omega)
end
theorem f9_results (a : Array Value) (w : World) (P Q : Nat) (t v x y : Value) (h2 : a.getD 2 undef = .pointer (some ⟨P, 0, none⟩)) (h3 : a.getD 3 undef = .pointer (some ⟨Q, 0, none⟩)) (hp : w.heap[P]? = some (.cells #[t, v] 24 (0, 0))) (hq : w.heap[Q]? = some (.cells #[x, y] 31 (0, 0))) :
    (results Tryd.f9 a).run Tryd.prog w = .ok (.tuple #[.agg #[t, v], .agg #[x, y]]) w := by
  have c0 : w.cell? ⟨P, 0, none⟩ = some t := (blk_cell hp 0).trans rfl
  have c1 : w.cell? ⟨P, 1, none⟩ = some v := (blk_cell hp 1).trans rfl
  have d0 : w.cell? ⟨Q, 0, none⟩ = some x := (blk_cell hq 0).trans rfl
  have d1 : w.cell? ⟨Q, 1, none⟩ = some y := (blk_cell hq 1).trans rfl
  have h2' : a[2]?.getD undef = .pointer (some ⟨P, 0, none⟩) := by simpa using h2
  have h3' : a[3]?.getD undef = .pointer (some ⟨Q, 0, none⟩) := by simpa using h3
  simp [results, Tryd.results9, h2', h3', asAddr, go_sem, c0, c1, d0, d1]
set_option maxHeartbeats 4000000 in
set_option maxRecDepth 100000 in
theorem tallowref33_Parse_any (k : Nat) (text : ByteArray) (T : ByteArray) (zs : List S44) (c af : Int) (w : World) (h : script_Parse.f k text = some (T, zs, c, af)) :
    Calls Tryd.prog 9 #[.string text] w fun e w' => ∃ v : Value, e = .returned (.tuple #[.agg #[.string T, v], .agg #[.int .i64 c, .int .i64 af]]) ∧ Kd.R k44 44 w' w.heap.size (fun k => w.heap.size ≤ k) v zs ∧ Below w.heap.size w w' := by
  unfold script_Parse.f at h
  by_cases hs : text.size ≤ 140737488351232
  · rw [if_pos hs] at h
    have HS := Aside0.mk hs
    have HF := Aside0.mk (show runF k 0 [] (text.extract 0 text.size) = some (T, zs, c, af) from by
      rw [show text.extract 0 text.size = text from ba_ext (by rw [ext_drop, List.drop_zero])]; exact h)
    clear h hs
    go_enter Tryd.func9, Tryd.ntmps9
    go_upto_region 1 with (fail)
    have HP1 : ∃ vr vf w1, (w.alloc (.cells #[.string ⟨#[]⟩, .slice none 0 0] 24)).alloc (.cells #[.int .i64 0, .int .i64 0] 31) = w1 ∧ w.heap.size + 1 = vf ∧ w.heap.size = vr ∧ vr < vf ∧ w1.heap.size = vf + 1 ∧ Below w.heap.size w w1 ∧ w1.heap[vr]? = some (.cells #[.string ⟨#[]⟩, .slice none 0 0] 24 (0, 0)) ∧ w1.heap[vf]? = some (.cells #[.int .i64 0, .int .i64 0] 31 (0, 0)) :=
      ⟨_, _, _, rfl, rfl, rfl, Nat.lt_succ_self _, by simp, below_alloc (below_alloc (Below.refl _ _) _) _, blk_alloc (blk_new _ _) _, by simpa using blk_new (w.alloc (.cells #[.string ⟨#[]⟩, .slice none 0 0] 24)) (.cells #[.int .i64 0, .int .i64 0] 31 (0, 0))⟩
    obtain ⟨vr, vf, w1, e1, e2, e3, h1, h2, hb, h3, h4⟩ := HP1
    rw [e1, e2, e3]
    have HT := Aside0.mk (Nat.le_of_eq e3)
    clear e1 e2 e3
    have H1 := Aside0.mk h1
    have HB1 := Aside0.mk hb
    have HR1 := Aside0.mk h3
    have HF1 := Aside0.mk h4
    clear h1 h2 hb h3 h4
    go_upto_region 2 with (fail)
    obtain ⟨w2, hw2⟩ : ∃ x, x = w1.alloc (.cells #[.string ⟨#[]⟩, .slice none 0 0] 24) := ⟨_, rfl⟩
    rw [← hw2]
    obtain ⟨vs, hvs⟩ : ∃ x, x = w1.heap.size := ⟨_, rfl⟩
    rw [← hvs]
    have HR := Aside0.mk (show RS w vr vf vs (fun _ => False) (.slice none 0 0) (.slice none 0 0) [] w2 from by
      rw [hw2]
      exact ⟨below_alloc HB1.out _, blk_alloc HR1.out _, blk_alloc HF1.out _, by rw [hvs]; exact blk_new _ _, Kd.R_nil _ _ _ _ _, HT.out, H1.out, by rw [hvs]; exact blk_lt HF1.out⟩)
    clear hw2 hvs HB1 HR1 HF1 HT H1
    go_wp2_with fail
    go_loopg [5, 6] k (fun kq v5 v6 wr => ∃ (i : Nat) (a : Int) (sv : Value) (xs : List S44), v5 = .int .i64 i ∧ v6 = .int .i64 a ∧ i ≤ text.size ∧ Aside0 (runF kq a xs (text.extract i text.size) = some (T, zs, c, af)) ∧ Aside0 (RS w vr vf vs (fun _ => False) sv sv xs wr))
    case atStart => exact ⟨0, 0, .slice none 0 0, [], rfl, rfl, Nat.zero_le _, HF, HR⟩
    case round =>
      clear HR HF
      obtain ⟨i, a, sv, xs, rfl, rfl, hi, HA, HR⟩ := hrel
      obtain ⟨A, cc, rfl⟩ := Kd.R_slice HR.out.rr
      cases gk with
      | zero => exact absurd HA.out (by simp [runF])
      | succ k1 =>
        obtain ⟨kf, hkf⟩ := (feed_ev text HS.out (text.size - i) i (by omega)).rounds
        have hA := HA.out
        unfold runF at hA
        have hi1 : (i : Int) ≤ (text.size : Int) := by omega
        have HI := Aside0.mk hi
        rcases cut_at text i hi with ⟨hfe, hcut⟩ | ⟨en, hfe, hie, him, hcut⟩
        · rw [hcut] at hA
          rw [hfe] at hkf
          dsimp only at hA
          rw [if_neg (by rintro ⟨h, _⟩; cases h)] at hA
          have HZL := Aside0.mk (show (text.extract i text.size).size ≤ 140737488351232 from by have := HS.out; rw [ByteArray.size_extract]; omega)
          clear HA hcut hfe hi
          go_wp2_with fail
          refine (tallowref33_feed.calls kf text i (-1) _ hkf).mono ?_
          rintro e w4 ⟨rfl, ⟨nd, hnd⟩⟩
          have HR4 := Aside0.mk (HR.out.below (show Below wr.heap.size wr w4 from by rw [hnd]; exact pw_below_drewN (Below.refl _ _) _))
          clear hnd hkf HR
          go_wp2_with fail
          obtain ⟨ks, hks⟩ := (ref_step_ev (text.extract i text.size) HZL.out).rounds
          generalize stepF (text.extract i text.size) 5 0 = d at hA hks
          obtain ⟨dk, dn, dc⟩ := d
          dsimp only at hA
          refine (tallowref33_step.calls ks (text.extract i text.size) dk dn dc _ hks).mono ?_
          rintro e w5 ⟨rfl, hb⟩
          have HR5 := Aside0.mk (HR4.out.below hb)
          clear hb HR4 HZL hks
          go_upto_region 13 with (fail)
          obtain ⟨w6, hw6⟩ : ∃ x, x = w5.alloc (.cells #[.int .i64 dk, .int .i64 dn] 44) := ⟨_, rfl⟩
          rw [← hw6]
          obtain ⟨gb, hgb⟩ : ∃ x, x = w5.heap.size := ⟨_, rfl⟩
          rw [← hgb]
          have HR6 := Aside0.mk (show RS w vr vf vs (fun k => k = gb) (.slice A xs.length cc) (.slice A xs.length cc) xs w6 from by
            rw [hw6]
            exact (HR5.out.mark (gb := gb) (Nat.le_of_eq hgb.symm)).below (below_alloc (Below.refl _ _) _))
          have HXB := Aside0.mk (show w6.heap[gb]? = some (.cells #[.int .i64 dk, .int .i64 dn] 44 (0, 0)) from by rw [hw6, hgb]; exact blk_new _ _)
          clear hw6 hgb HR5
          by_cases hdc : dc = 0
          · rw [if_neg (fun h => h hdc)] at hA
            subst hdc
            have s1 : w6.cell? ⟨vs, 1, none⟩ = some (.slice A xs.length cc) := (blk_cell HR6.out.ps 1).trans rfl
            by_cases hlen : 4096 ≤ xs.length
            · rw [if_pos hlen] at hA
              have hlb : decide ((xs.length : Int) ≥ 4096) = true := decide_eq_true (by omega)
              have hlb' : decide ((4096 : Int) ≤ (xs.length : Int)) = true := decide_eq_true (by omega)
              clear hlen
              simp only [Option.some.injEq, Prod.mk.injEq] at hA
              obtain ⟨rfl, rfl, rfl, rfl⟩ := hA
              have r0 : w6.cell? ⟨vr, 0, none⟩ = some (.string ⟨#[]⟩) := (blk_cell HR6.out.pr 0).trans rfl
              have r1 : w6.cell? ⟨vr, 1, none⟩ = some (.slice none 0 0) := (blk_cell HR6.out.pr 1).trans rfl
              have fr0 := blk_frozen HR6.out.pr 0
              have fr1 := blk_frozen HR6.out.pr 1
              have l0 : w6.cell? ⟨vf, 0, none⟩ = some (.int .i64 0) := (blk_cell HR6.out.pf 0).trans rfl
              have l1 : w6.cell? ⟨vf, 1, none⟩ = some (.int .i64 0) := (blk_cell HR6.out.pf 1).trans rfl
              have fl0 := blk_frozen HR6.out.pf 0
              have fl1 := blk_frozen HR6.out.pf 1
              have nrf : vr ≠ vf := Nat.ne_of_lt HR6.out.h2
              have nfr : vf ≠ vr := Nat.ne_of_gt HR6.out.h2
              go_wp2_with fail
              have HE := HR6.out.end_fault 3 a rfl
              exact bodyPost_ret (f9_results _ _ vr vf _ _ _ _ rfl rfl HE.1 HE.2.1) rfl ⟨_, rfl, Kd.R_nil _ _ _ _ _, HE.2.2⟩
            · rw [if_neg hlen] at hA
              have hlb : decide ((xs.length : Int) ≥ 4096) = false := decide_eq_false (by omega)
              have hlb' : decide ((4096 : Int) ≤ (xs.length : Int)) = false := decide_eq_false (by omega)
              have LMq := Aside0.mk hlen
              clear hlen
              rw [if_pos trivial] at hA
              simp only [Option.some.injEq, Prod.mk.injEq] at hA
              obtain ⟨rfl, rfl, rfl, rfl⟩ := hA
              have r0 : w6.cell? ⟨vr, 0, none⟩ = some (.string ⟨#[]⟩) := (blk_cell HR6.out.pr 0).trans rfl
              have r1 : w6.cell? ⟨vr, 1, none⟩ = some (.slice none 0 0) := (blk_cell HR6.out.pr 1).trans rfl
              have fr0 := blk_frozen HR6.out.pr 0
              have fr1 := blk_frozen HR6.out.pr 1
              have l0 : w6.cell? ⟨vf, 0, none⟩ = some (.int .i64 0) := (blk_cell HR6.out.pf 0).trans rfl
              have l1 : w6.cell? ⟨vf, 1, none⟩ = some (.int .i64 0) := (blk_cell HR6.out.pf 1).trans rfl
              have fl0 := blk_frozen HR6.out.pf 0
              have fl1 := blk_frozen HR6.out.pf 1
              have nrf : vr ≠ vf := Nat.ne_of_lt HR6.out.h2
              have nfr : vf ≠ vr := Nat.ne_of_gt HR6.out.h2
              go_wp2_with fail
              have HE := HR6.out.end_fault 4 a rfl
              exact bodyPost_ret (f9_results _ _ vr vf _ _ _ _ rfl rfl HE.1 HE.2.1) rfl ⟨_, rfl, Kd.R_nil _ _ _ _ _, HE.2.2⟩
          · rw [if_pos hdc] at hA
            have hdb : (dc == 0) = false := beq_eq_false_iff_ne.mpr hdc
            have hdb' : (dc != 0) = true := by rw [bne, hdb]; rfl
            simp only [Option.some.injEq, Prod.mk.injEq] at hA
            obtain ⟨rfl, rfl, rfl, rfl⟩ := hA
            have r0 : w6.cell? ⟨vr, 0, none⟩ = some (.string ⟨#[]⟩) := (blk_cell HR6.out.pr 0).trans rfl
            have r1 : w6.cell? ⟨vr, 1, none⟩ = some (.slice none 0 0) := (blk_cell HR6.out.pr 1).trans rfl
            have fr0 := blk_frozen HR6.out.pr 0
            have fr1 := blk_frozen HR6.out.pr 1
            have l0 : w6.cell? ⟨vf, 0, none⟩ = some (.int .i64 0) := (blk_cell HR6.out.pf 0).trans rfl
            have l1 : w6.cell? ⟨vf, 1, none⟩ = some (.int .i64 0) := (blk_cell HR6.out.pf 1).trans rfl
            have fl0 := blk_frozen HR6.out.pf 0
            have fl1 := blk_frozen HR6.out.pf 1
            have nrf : vr ≠ vf := Nat.ne_of_lt HR6.out.h2
            have nfr : vf ≠ vr := Nat.ne_of_gt HR6.out.h2
            go_wp2_with fail
            have HE := HR6.out.end_fault dc a rfl
            exact bodyPost_ret (f9_results _ _ vr vf _ _ _ _ rfl rfl HE.1 HE.2.1) rfl ⟨_, rfl, Kd.R_nil _ _ _ _ _, HE.2.2⟩
        · rw [hcut] at hA
          rw [hfe] at hkf
          dsimp only at hA
          have HIM := Aside0.mk him
          have HIE := Aside0.mk hie
          have hle0 : 0 ≤ en := by omega
          have hle2 : en ≤ (text.size : Int) := by omega
          have hle3 : en + 1 ≤ (text.size : Int) := by omega
          have hle4 : 0 ≤ en + 1 := by omega
          have hge : decide (en ≥ 0) = true := decide_eq_true (by omega)
          have hge' : decide ((0 : Int) ≤ en) = true := decide_eq_true (by omega)
          have hlt0 : decide (en < 0) = false := decide_eq_false (by omega)
          have hwe : wrap64 (en + 1) = en + 1 := by have := HS.out; exact w_id (by omega)
          have HZL := Aside0.mk (show (text.extract i en.toNat).size ≤ 140737488351232 from by have := HS.out; rw [ByteArray.size_extract]; omega)
          clear HA hcut hfe hi him
          go_wp2_with fail
          refine (tallowref33_feed.calls kf text i en _ hkf).mono ?_
          rintro e w4 ⟨rfl, ⟨nd, hnd⟩⟩
          have HR4 := Aside0.mk (HR.out.below (show Below wr.heap.size wr w4 from by rw [hnd]; exact pw_below_drewN (Below.refl _ _) _))
          clear hnd hkf HR
          have hsr : srcB.toList = [115, 111, 117, 114, 99, 101] := ByteArray.toList_mk _
          by_cases hl : (text.extract i en.toNat).toList = srcB.toList
          · rw [if_pos ⟨trivial, hl⟩] at hA
            rw [hsr] at hl
            have hlb : ((text.extract i en.toNat).toList == [115, 111, 117, 114, 99, 101]) = true := beq_iff_eq.mpr hl
            have s0 : w4.cell? ⟨vs, 0, none⟩ = some (.string ⟨#[]⟩) := (blk_cell HR4.out.ps 0).trans rfl
            have s1 : w4.cell? ⟨vs, 1, none⟩ = some (.slice A xs.length cc) := (blk_cell HR4.out.ps 1).trans rfl
            have g0 := blk_frozen HR4.out.ps 0
            have g1 := blk_frozen HR4.out.ps 1
            have n1 : vs ≠ vr := Nat.ne_of_gt (Nat.lt_trans HR4.out.h2 HR4.out.h3)
            have n2 : vr ≠ vs := Nat.ne_of_lt (Nat.lt_trans HR4.out.h2 HR4.out.h3)
            have n3 : vs ≠ vf := Nat.ne_of_gt HR4.out.h3
            have n4 : vf ≠ vs := Nat.ne_of_lt HR4.out.h3
            clear hl hsr
            have hrs : (text.extract (en + 1).toNat text.size).size = text.size - (en + 1).toNat := by rw [ByteArray.size_extract]; omega
            by_cases hbig : (text.extract (en + 1).toNat text.size).size > 32768
            · rw [if_pos hbig] at hA
              have hbb : decide (((text.extract (en + 1).toNat text.size).size : Int) > 32768) = true := decide_eq_true (by omega)
              have hbb' : decide ((32768 : Int) < ((text.extract (en + 1).toNat text.size).size : Int)) = true := decide_eq_true (by omega)
              rw [hrs] at hbb hbb'
              clear hbig
              simp only [Option.some.injEq, Prod.mk.injEq] at hA
              obtain ⟨rfl, rfl, rfl, rfl⟩ := hA
              have r0 : w4.cell? ⟨vr, 0, none⟩ = some (.string ⟨#[]⟩) := (blk_cell HR4.out.pr 0).trans rfl
              have r1 : w4.cell? ⟨vr, 1, none⟩ = some (.slice none 0 0) := (blk_cell HR4.out.pr 1).trans rfl
              have fr0 := blk_frozen HR4.out.pr 0
              have fr1 := blk_frozen HR4.out.pr 1
              have l0 : w4.cell? ⟨vf, 0, none⟩ = some (.int .i64 0) := (blk_cell HR4.out.pf 0).trans rfl
              have l1 : w4.cell? ⟨vf, 1, none⟩ = some (.int .i64 0) := (blk_cell HR4.out.pf 1).trans rfl
              have fl0 := blk_frozen HR4.out.pf 0
              have fl1 := blk_frozen HR4.out.pf 1
              have nrf : vr ≠ vf := Nat.ne_of_lt HR4.out.h2
              have nfr : vf ≠ vr := Nat.ne_of_gt HR4.out.h2
              go_wp2_with fail
              have HE := HR4.out.end_long (text.extract (en + 1).toNat text.size) 3 a rfl
              exact bodyPost_ret (f9_results _ _ vr vf _ _ _ _ rfl rfl HE.1 HE.2.1) rfl ⟨_, rfl, Kd.R_nil _ _ _ _ _, HE.2.2⟩
            · rw [if_neg hbig] at hA
              have hbb : decide (((text.extract (en + 1).toNat text.size).size : Int) > 32768) = false := decide_eq_false (by omega)
              have hbb' : decide ((32768 : Int) < ((text.extract (en + 1).toNat text.size).size : Int)) = false := decide_eq_false (by omega)
              rw [hrs] at hbb hbb'
              clear hbig
              simp only [Option.some.injEq, Prod.mk.injEq] at hA
              obtain ⟨rfl, rfl, rfl, rfl⟩ := hA
              have r0 : w4.cell? ⟨vr, 0, none⟩ = some (.string ⟨#[]⟩) := (blk_cell HR4.out.pr 0).trans rfl
              have r1 : w4.cell? ⟨vr, 1, none⟩ = some (.slice none 0 0) := (blk_cell HR4.out.pr 1).trans rfl
              have fr0 := blk_frozen HR4.out.pr 0
              have fr1 := blk_frozen HR4.out.pr 1
              have l0 : w4.cell? ⟨vf, 0, none⟩ = some (.int .i64 0) := (blk_cell HR4.out.pf 0).trans rfl
              have l1 : w4.cell? ⟨vf, 1, none⟩ = some (.int .i64 0) := (blk_cell HR4.out.pf 1).trans rfl
              have fl0 := blk_frozen HR4.out.pf 0
              have fl1 := blk_frozen HR4.out.pf 1
              have nrf : vr ≠ vf := Nat.ne_of_lt HR4.out.h2
              have nfr : vf ≠ vr := Nat.ne_of_gt HR4.out.h2
              go_wp2_with fail
              have HE := HR4.out.end_ok (text.extract (en + 1).toNat text.size) (.slice A xs.length cc) rfl
              exact bodyPost_ret (f9_results _ _ vr vf _ _ _ _ rfl rfl HE.1 HE.2.1) rfl ⟨_, rfl, HE.2.2⟩
          · rw [if_neg (fun h => hl h.2)] at hA
            rw [hsr] at hl
            have hlb : ((text.extract i en.toNat).toList == [115, 111, 117, 114, 99, 101]) = false := beq_eq_false_iff_ne.mpr hl
            clear hl hsr
            go_wp2_with fail
            obtain ⟨ks, hks⟩ := (ref_step_ev (text.extract i en.toNat) HZL.out).rounds
            generalize stepF (text.extract i en.toNat) 5 0 = d at hA hks
            obtain ⟨dk, dn, dc⟩ := d
            dsimp only at hA
            refine (tallowref33_step.calls ks (text.extract i en.toNat) dk dn dc _ hks).mono ?_
            rintro e w5 ⟨rfl, hb⟩
            have HR5 := Aside0.mk (HR4.out.below hb)
            clear hb HR4 HZL hks
            go_upto_region 13 with (fail)
            obtain ⟨w6, hw6⟩ : ∃ x, x = w5.alloc (.cells #[.int .i64 dk, .int .i64 dn] 44) := ⟨_, rfl⟩
            rw [← hw6]
            obtain ⟨gb, hgb⟩ : ∃ x, x = w5.heap.size := ⟨_, rfl⟩
            rw [← hgb]
            have HR6 := Aside0.mk (show RS w vr vf vs (fun k => k = gb) (.slice A xs.length cc) (.slice A xs.length cc) xs w6 from by
              rw [hw6]
              exact (HR5.out.mark (gb := gb) (Nat.le_of_eq hgb.symm)).below (below_alloc (Below.refl _ _) _))
            have HXB := Aside0.mk (show w6.heap[gb]? = some (.cells #[.int .i64 dk, .int .i64 dn] 44 (0, 0)) from by rw [hw6, hgb]; exact blk_new _ _)
            clear hw6 hgb HR5
            by_cases hdc : dc = 0
            · rw [if_neg (fun h => h hdc)] at hA
              subst hdc
              have s1 : w6.cell? ⟨vs, 1, none⟩ = some (.slice A xs.length cc) := (blk_cell HR6.out.ps 1).trans rfl
              by_cases hlen : 4096 ≤ xs.length
              · rw [if_pos hlen] at hA
                have hlb : decide ((xs.length : Int) ≥ 4096) = true := decide_eq_true (by omega)
                have hlb' : decide ((4096 : Int) ≤ (xs.length : Int)) = true := decide_eq_true (by omega)
                clear hlen
                simp only [Option.some.injEq, Prod.mk.injEq] at hA
                obtain ⟨rfl, rfl, rfl, rfl⟩ := hA
                have r0 : w6.cell? ⟨vr, 0, none⟩ = some (.string ⟨#[]⟩) := (blk_cell HR6.out.pr 0).trans rfl
                have r1 : w6.cell? ⟨vr, 1, none⟩ = some (.slice none 0 0) := (blk_cell HR6.out.pr 1).trans rfl
                have fr0 := blk_frozen HR6.out.pr 0
                have fr1 := blk_frozen HR6.out.pr 1
                have l0 : w6.cell? ⟨vf, 0, none⟩ = some (.int .i64 0) := (blk_cell HR6.out.pf 0).trans rfl
                have l1 : w6.cell? ⟨vf, 1, none⟩ = some (.int .i64 0) := (blk_cell HR6.out.pf 1).trans rfl
                have fl0 := blk_frozen HR6.out.pf 0
                have fl1 := blk_frozen HR6.out.pf 1
                have nrf : vr ≠ vf := Nat.ne_of_lt HR6.out.h2
                have nfr : vf ≠ vr := Nat.ne_of_gt HR6.out.h2
                go_wp2_with fail
                have HE := HR6.out.end_fault 3 a rfl
                exact bodyPost_ret (f9_results _ _ vr vf _ _ _ _ rfl rfl HE.1 HE.2.1) rfl ⟨_, rfl, Kd.R_nil _ _ _ _ _, HE.2.2⟩
              · rw [if_neg hlen] at hA
                have hlb : decide ((xs.length : Int) ≥ 4096) = false := decide_eq_false (by omega)
                have hlb' : decide ((4096 : Int) ≤ (xs.length : Int)) = false := decide_eq_false (by omega)
                have LMq := Aside0.mk hlen
                clear hlen
                rw [if_neg (by decide)] at hA
                obtain ⟨yn, hyn⟩ : ∃ y_, y_ = xs ++ [(⟨dk, dn⟩ : S44)] := ⟨_, rfl⟩
                rw [← hyn] at hA
                have HY := Aside0.mk hyn
                have AL := Aside0.mk hA
                clear hyn hA
                have g1 := blk_frozen HR6.out.ps 1
                have cz0 : w6.cell? ⟨gb, 0, none⟩ = some (.int .i64 dk) := (blk_cell HXB.out 0).trans rfl
                have cz1 : w6.cell? ⟨gb, 1, none⟩ = some (.int .i64 dn) := (blk_cell HXB.out 1).trans rfl
                have HWL := Aside0.mk HR6.out.bel.size
                go_wp2_with (first | ((with_reducible refine gate_builtin (b := .append) (xs := #[.tmp 67, .tmp 69]) rfl ?_); at_builtin; (refine Kd.R_append k44 (w0 := w6) w.heap.size rfl (.tmp 67) (.tmp 69) 22 44 (.agg #[(.int .i64 0), (.int .i64 0)]) 16 rfl Tryd.underlying22 info44 rfl (by decide) (by decide) (.slice A xs.length cc) xs (⟨dk, dn⟩ : S44) [.int .i64 dk, .int .i64 dn] (fun k => vs < k ∧ ¬ k = gb) (fun _ => False) rfl ?aX ?aP (fun _ hk => hk.elim) ?aF HR6.out.rr (Below.refl _ _) HWL.out ?aL ?_); (case aX => first | rfl | (go_simp; done) | (go_simp; rfl)); (case aP => exact k44_mkM _ _ _ (⟨dk, dn⟩ : S44)); (case aF => exact (fun k hk => ⟨Nat.lt_of_lt_of_le (blk_lt HR6.out.ps) hk, fun e => by have := blk_lt HXB.out; omega⟩)); (case aL => have := LMq.out; omega); (intro v1 w10 hn hb hg hat; rw [← HY.out] at hn; have HR7 := Aside0.mk (HR6.out.push hn hb hg).unmark; obtain ⟨Ao, co, eo⟩ := Kd.R_slice hn; subst eo; clear hn hb hg hat; have cp4' : w10.cell? ⟨vs, 1, none⟩ = some (.slice A xs.length cc) := (blk_cell HR7.out.ps 1).trans rfl; have fp4 := blk_frozen HR7.out.ps 1)))
                go_roundg k1
                case measure => omega
                case rel => exact ⟨(en + 1).toNat, wrap64 (a + 1), _, yn, by rw [hwe, Int.toNat_of_nonneg hle4], rfl, by have := HIM.out; omega, AL, ⟨HR7.out.put _⟩⟩
            · rw [if_pos hdc] at hA
              have hdb : (dc == 0) = false := beq_eq_false_iff_ne.mpr hdc
              have hdb' : (dc != 0) = true := by rw [bne, hdb]; rfl
              simp only [Option.some.injEq, Prod.mk.injEq] at hA
              obtain ⟨rfl, rfl, rfl, rfl⟩ := hA
              have r0 : w6.cell? ⟨vr, 0, none⟩ = some (.string ⟨#[]⟩) := (blk_cell HR6.out.pr 0).trans rfl
              have r1 : w6.cell? ⟨vr, 1, none⟩ = some (.slice none 0 0) := (blk_cell HR6.out.pr 1).trans rfl
              have fr0 := blk_frozen HR6.out.pr 0
              have fr1 := blk_frozen HR6.out.pr 1
              have l0 : w6.cell? ⟨vf, 0, none⟩ = some (.int .i64 0) := (blk_cell HR6.out.pf 0).trans rfl
              have l1 : w6.cell? ⟨vf, 1, none⟩ = some (.int .i64 0) := (blk_cell HR6.out.pf 1).trans rfl
              have fl0 := blk_frozen HR6.out.pf 0
              have fl1 := blk_frozen HR6.out.pf 1
              have nrf : vr ≠ vf := Nat.ne_of_lt HR6.out.h2
              have nfr : vf ≠ vr := Nat.ne_of_gt HR6.out.h2
              go_wp2_with fail
              have HE := HR6.out.end_fault dc a rfl
              exact bodyPost_ret (f9_results _ _ vr vf _ _ _ _ rfl rfl HE.1 HE.2.1) rfl ⟨_, rfl, Kd.R_nil _ _ _ _ _, HE.2.2⟩
  · rw [if_neg hs] at h; cases h
end Go.Proofs.YtnombbcgdfgadaaDoor.G
end
