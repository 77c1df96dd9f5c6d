import Derived.LaidMore
import Derived.LaidHandle
import Derived.Stop.Joined
import Derived.Lib.IfaceEq
import Derived.Lib.IndexMore
import Derived.Shelf.Abstract
import Derived.LaidEql
import Derived.Stop.Asserts
import Derived.RowKitTokens
import Derived.Lib.LaidTab
import Derived.Lib.AppendIntMem
import Derived.Stop.LaidErr
import Derived.WalkKit
import Derived.Deep.RegionLaw
import Derived.Deep.Cut
import Derived.WalkSpells
import Derived.Maps.OwnOps
import Derived.Maps.OwnSet
import Derived.Maps.Views
import Derived.Maps.RangeWalk
import Derived.Maps.Own
import Derived.Test.YtlbaejihlcfpeaaDoorPNmA4
import Derived.Test.YtlbaejihlcfpeaaDoorPNmGW
import Derived.Test.YtlbaejihlcfpeaaDoorPNmAs
import Derived.Lib.Hide
set_option linter.unusedVariables false
set_option linter.unusedSimpArgs false
section
namespace Go.Proofs.YtlbaejihlcfpeaaDoor.G
open Go.Proofs.YtlbaejihlcfpeaaDoor.G Go.Proofs.YtlbaejihlcfpeaaDoor.Z
open Go.Shelf Go.Extern.Stop Go.Stop Go.Extern Go.RowKit Go.Proofs.YtlbaejihlcfpeaaDoorW.PrintWords Go.Proofs.YtlbaejihlcfpeaaDoorW.PrintLast Go.Proofs.YtlbaejihlcfpeaaDoorW.PrintMore
set_option linter.unusedVariables false
set_option linter.unusedSimpArgs false
def tkS (t : Tk) : S34 := ⟨t.k, t.t, t.n, t.l⟩
def FaultV (w w' : World) (ev : Value) (c a : Int) : Prop := (c = 0 ∧ ev = .nilIface) ∨ (c ≠ 0 ∧ ∃ p : Nat, ev = .iface 37 (.pointer (some ⟨p, 0, none⟩)) ∧ w.heap.size ≤ p ∧ w'.heap[p]? = some (.cells #[.int .i64 c, .int .i64 a] 32 (0, 0)))
def lexR (s : ByteArray) : List Tk × Int × Int := if s.size > 32768 then ([], 3, 0) else (tokW readL unqL (s.size + 1) s.data.toList 0 []).getD ([], 0, 0)
theorem lexR_tok {s : ByteArray} (h : ¬ s.size > 32768) : tokW readL unqL (s.size + 1) s.data.toList 0 [] = some (lexR s) := by
  obtain ⟨x, hx⟩ := tok_some (numF := readL) (unqF := unqL) (s.size + 1) s.data.toList 0 [] (by rw [Array.length_toList]; exact Nat.lt_succ_self _)
  unfold lexR
  rw [if_neg h, hx]
  rfl
theorem extn_data (t : ByteArray) (n : Nat) : (t.extract n t.size).data.toList = t.data.toList.drop n := by
  rw [ByteArray.data_extract, Array.toList_extract, List.extract_eq_take_drop]
  exact List.take_of_length_le (by rw [List.length_drop, Array.length_toList]; exact Nat.le_refl _)
theorem size_data (t : ByteArray) : t.data.toList.length = t.size := by rw [Array.length_toList]; rfl
theorem dw_nil : ∀ (l : List UInt8), (∀ d ∈ l, d ≠ 10) → l.dropWhile (fun x => x != 10) = []
  | [], _ => rfl
  | b :: l, h => by
    have d1 : (b :: l).dropWhile (fun x => x != 10) = l.dropWhile (fun x => x != 10) := List.dropWhile_cons_of_pos (bne_iff_ne.mpr (h b (List.mem_cons_self ..)))
    rw [d1]
    exact dw_nil l (fun d hd => h d (List.mem_cons_of_mem _ hd))
theorem dw_ib_none (l : List UInt8) (h : Lib.indexByte l 10 = -1) : l.dropWhile (fun x => x != 10) = [] := dw_nil l (ib_none l 10 h)
theorem dw_ib_some : ∀ (l : List UInt8) (i : Nat), Lib.indexByte l 10 = i → l.dropWhile (fun x => x != 10) = l.drop i
  | [], i, h => by cases h
  | b :: l, i, h => by
    unfold Lib.indexByte at h
    by_cases hb : b = 10
    · subst hb
      rw [beq_self_eq_true, if_pos rfl] at h
      obtain rfl : i = 0 := by omega
      rw [List.drop_zero, List.dropWhile_cons_of_neg (by decide)]
    · rw [beq_eq_false_iff_ne.mpr hb, if_neg (by decide)] at h
      have hg := Lib.indexByte_ge l 10
      by_cases h1 : Lib.indexByte l 10 = -1
      · rw [h1] at h
        have h : (-1 : Int) = i := h
        omega
      · rw [beq_eq_false_iff_ne.mpr h1, if_neg (by decide)] at h
        obtain ⟨j, rfl⟩ : ∃ j, i = j + 1 := ⟨i - 1, by omega⟩
        have d1 : (b :: l).dropWhile (fun x => x != 10) = l.dropWhile (fun x => x != 10) := List.dropWhile_cons_of_pos (bne_iff_ne.mpr hb)
        rw [d1, List.drop_succ_cons]
        exact dw_ib_some l j (by omega)
theorem pre45 (c : UInt8) (r : List UInt8) : Lib.hasPrefix (c :: r) [45, 45] = decide (c = 45 ∧ r.head? = some 45) := by
  unfold Lib.hasPrefix
  cases r with
  | nil =>
    rw [decide_eq_false (fun h => by cases h.2)]
    by_cases h1 : c = 45
    · subst h1; rfl
    · have e2 : ((45 : UInt8) == c) = false := beq_eq_false_iff_ne.mpr (fun h => h1 h.symm)
      rw [List.isPrefixOf, e2]; rfl
  | cons d r =>
    rw [List.head?_cons]
    by_cases h1 : c = 45
    · subst h1
      by_cases h2 : d = 45
      · subst h2; rfl
      · rw [decide_eq_false (fun h => h2 (Option.some.inj h.2))]
        have e2 : ((45 : UInt8) == d) = false := beq_eq_false_iff_ne.mpr (fun h => h2 h.symm)
        rw [List.isPrefixOf, List.isPrefixOf, e2]; rfl
    · rw [decide_eq_false (fun h => h1 h.1)]
      have e2 : ((45 : UInt8) == c) = false := beq_eq_false_iff_ne.mpr (fun h => h1 h.symm)
      rw [List.isPrefixOf, e2]; rfl
theorem hp_any (s p : ByteArray) (w : World) : Calls Tryd.prog 12 #[.string s, .string p] w fun e w' => e = .returned (.bool (Lib.hasPrefix s.data.toList p.data.toList)) ∧ w' = w := Tryd.strings_HasPrefix s p w
theorem am_bl (c : UInt8) : amF [32, 9, 13] c = decide (c = 32 ∨ c = 9 ∨ c = 13) := by
  rw [am_contains]
  by_cases h1 : c = 32
  · subst h1; rfl
  · by_cases h2 : c = 9
    · subst h2; rfl
    · by_cases h3 : c = 13
      · subst h3; rfl
      · rw [decide_eq_false (by rintro (h | h | h); exact h1 h; exact h2 h; exact h3 h)]
        cases hc : [32, 9, 13].contains c with
        | false => rfl
        | true =>
          have := List.contains_iff_mem.mp hc
          simp only [List.mem_cons, List.not_mem_nil, or_false] at this
          rcases this with h | h | h
          · exact absurd h h1
          · exact absurd h h2
          · exact absurd h h3
structure TS (w : World) (X : Nat → Prop) (rv : Value) (xs : List S34) (wr : World) : Prop where
  bel : Below w.heap.size w wr
  rr : Kd.R k34 34 wr w.heap.size (fun k => ¬ X k) rv xs
section
variable {w wr w1 : World} {X : Nat → Prop} {rv : Value} {xs : List S34}
theorem TS.below (h : TS w X rv xs wr) (hb : Below wr.heap.size wr w1) : TS w X rv xs w1 := ⟨below_step h.bel hb, Kd.R_below h.rr hb⟩
theorem TS.mark {gb : Nat} (h : TS w (fun _ => False) rv xs wr) (hgb : wr.heap.size ≤ gb) : TS w (fun k => k = gb) rv xs wr :=
  ⟨h.bel, Kd.R_mono (Kd.R_bound h.rr) (fun k hk => fun e => by have := hk.2.2.1; omega)⟩
theorem TS.unmark (h : TS w X rv xs wr) : TS w (fun _ => False) rv xs wr := ⟨h.bel, Kd.R_mono h.rr (fun k _ => fun e => e)⟩
theorem TS.setx {gb : Nat} (h : TS w X rv xs wr) (hx : X gb) (h0 : w.heap.size ≤ gb) (j : Nat) (u : Value) : TS w X rv xs (wr.setCell ⟨gb, j, none⟩ u) :=
  ⟨below_set h.bel h0, Kd.R_far h.rr (p := ⟨gb, j, none⟩) (fun k hk e => hk (by have : k = gb := e; rw [this]; exact hx)) _⟩
theorem TS.push {v1 : Value} {ys : List S34} (h : TS w X rv xs wr) (hn : Kd.R k34 34 w1 w.heap.size (fun k => ¬ X k) v1 ys) (hb : Below w.heap.size wr w1) : TS w X v1 ys w1 := ⟨h.bel.trans hb, hn⟩
end
set_option maxHeartbeats 16000000 in
set_option maxRecDepth 100000 in
theorem tokens_any (s : ByteArray) (w : World) (hL : Laid w) (hsz : s.size ≤ 140737488351232) :
    Calls Tryd.prog 8 #[.string s] w fun e w' => ∃ v ev, e = .returned (.tuple #[v, ev]) ∧ Kd.R k34 34 w' w.heap.size (fun k => w.heap.size ≤ k) v ((lexR s).1.map tkS) ∧ FaultV w w' ev (lexR s).2.1 (lexR s).2.2 ∧ Below w.heap.size w w' := by
  have HL := Aside0.mk hL
  clear hL
  by_cases hbig : s.size > 32768
  · have hb : decide ((s.size : Int) > 32768) = true := decide_eq_true (by omega)
    have hb' : (32768 : Int) < (s.size : Int) := by omega
    have hr : lexR s = ([], 3, 0) := by unfold lexR; rw [if_pos hbig]
    rw [hr]
    clear hr hsz
    go_enter Tryd.func8, Tryd.ntmps8
    go_wp2_with fail
    refine wp_scope_straight ?_
    go_wp2_with fail
    simp only [Exit.noGoto]
    go_ret2
    refine ⟨_, _, rfl, Kd.R_nil _ _ _ _ _, .inr ⟨by decide, w.heap.size, rfl, Nat.le_refl _, ?_⟩, ?_⟩
    · exact blk_new _ _
    · exact below_alloc (Below.refl _ _) _
  · have hb : decide ((s.size : Int) > 32768) = false := decide_eq_false (by omega)
    have hb' : ¬ (32768 : Int) < (s.size : Int) := by omega
    have HR := Aside0.mk (lexR_tok hbig)
    generalize lexR s = res at HR ⊢
    have HS := Aside0.mk hbig
    clear hsz
    go_enter Tryd.func8, Tryd.ntmps8
    go_wp2_with fail
    refine wp_scope_straight ?_
    go_wp2_with fail
    apply wp_label
    go_wp2_with fail
    go_loopg [0, 4, 5] (s.size + 1) (fun kq v0 v4 v5 wr => ∃ (t : ByteArray) (l : Int) (a : List Tk) (xs : List S34), v0 = .string t ∧ v5 = .int .i64 l ∧ tokW readL unqL kq t.data.toList l a = some res ∧ Aside0 (0 ≤ l ∧ l + t.size ≤ 32768 ∧ xs.length + t.size ≤ 32768) ∧ Aside0 (xs = a.map tkS) ∧ Aside0 (TS w (fun _ => False) v4 xs wr))
    case atStart => exact ⟨s, 0, [], [], rfl, rfl, HR.out, ⟨by have := HS.out; simp; omega⟩, ⟨rfl⟩, ⟨⟨Below.refl _ _, Kd.R_nil _ _ _ _ _⟩⟩⟩
    case round =>
      clear HR
      obtain ⟨t, l, a, xs, rfl, rfl, hk, HB, HXS, HT⟩ := hrel
      obtain ⟨gm, rfl⟩ : ∃ m, gk = m + 1 := by
        cases gk with
        | zero => cases hk
        | succ m => exact ⟨m, rfl⟩
      obtain ⟨A, cc, rfl⟩ := Kd.R_slice HT.out.rr
      by_cases h0 : t.size = 0
      · have hem : t.toList = [] := by
          rw [toList_data']
          exact List.eq_nil_of_length_eq_zero (by rw [size_data]; exact h0)
        have hem1 : (t.toList == ([] : List UInt8)) = true := by rw [hem]; rfl
        have hem2 : (t.toList != ([] : List UInt8)) = false := by rw [hem]; rfl
        have hk2 : some (a ++ [(⟨5, ⟨#[]⟩, 0, l⟩ : Tk)], (0 : Int), (0 : Int)) = some res := by
          rw [toList_data'] at hem
          rw [hem] at hk
          exact hk
        have HE := Aside0.mk (Option.some.inj hk2).symm
        clear hk hk2 h0
        have HWL := Aside0.mk HT.out.bel.size
        obtain ⟨wq, hwq⟩ : ∃ x, x = wr := ⟨wr, rfl⟩
        subst hwq
        go_wp2_with (first | ((with_reducible refine gate_builtin (b := .append) (xs := #[.tmp 68, .tmp 71]) rfl ?_); at_builtin; (refine Kd.R_append k34 (w0 := wq) w.heap.size rfl (.tmp 68) (.tmp 71) 24 34 (.agg #[(.int .i64 0), (.string ⟨#[]⟩), (.int .i64 0), (.int .i64 0)]) 40 rfl Tryd.underlying24 info34 rfl (by decide) (by decide) (.slice A xs.length cc) xs (⟨5, ⟨#[]⟩, 0, l⟩ : S34) [.int .i64 5, .string ⟨#[]⟩, .int .i64 0, .int .i64 l] (fun k => ¬ False) (fun _ => False) rfl ?aX ?aP (fun _ hk => hk.elim) ?aF HT.out.rr (Below.refl _ _) HWL.out ?aL ?_); (case aX => first | rfl | (go_simp; done) | (go_simp; rfl)); (case aP => exact k34_mkM _ _ _ (⟨5, ⟨#[]⟩, 0, l⟩ : S34)); (case aF => exact (fun _ _ h => h)); (case aL => have := HB.out; omega); (intro v1 w10 hn hb hg hat; have HN := Aside0.mk hn; have HBB := Aside0.mk hb; clear hn hb hg hat)))
        simp only [Exit.noGoto]
        go_ret2
        exact ⟨v1, .nilIface, rfl, by rw [HE.out]; rw [List.map_append, ← HXS.out]; exact Kd.R_mono (Kd.R_bound HN.out) (fun k hk => hk.2.1), .inl ⟨by rw [HE.out], rfl⟩, HT.out.bel.trans HBB.out⟩
      · have hp0 : 0 < t.size := by omega
        have hp0i : (0 : Int) < (t.size : Int) := by omega
        have hem : t.toList ≠ [] := fun h => by
          rw [toList_data'] at h
          have := size_data t
          rw [h] at this
          exact h0 this.symm
        have hem1 : (t.toList == ([] : List UInt8)) = false := beq_eq_false_iff_ne.mpr hem
        have hem2 : (t.toList != ([] : List UInt8)) = true := bne_iff_ne.mpr hem
        have h1i : (1 : Int) ≤ (t.size : Int) := by omega
        have hcons : t.data.toList = (t[0]'hp0) :: t.data.toList.drop 1 := by
          have := drop_head t 0 hp0
          simpa using this
        have HWA := Aside0.mk (fun w hL => word_any t w hL (by have := HB.out; omega) hp0)
        have HPR := Aside0.mk (hp_any t ⟨#[45, 45]⟩)
        have HIB := Aside0.mk (ib_any t 10)
        have HAM := Aside0.mk (among_any (t[0]'hp0) ⟨#[32, 9, 13]⟩)
        have HD1 := Aside0.mk (show (t.extract 1 t.size).data.toList = t.data.toList.drop 1 ∧ (t.extract 1 t.size).size = t.size - 1 from ⟨extn_data t 1, by rw [ByteArray.size_extract]; omega⟩)
        have HDN := Aside0.mk (fun n => extn_data t n)
        rw [show (⟨#[45, 45]⟩ : ByteArray).data.toList = [45, 45] from rfl] at HPR
        rw [show (⟨#[32, 9, 13]⟩ : ByteArray).data.toList = [32, 9, 13] from rfl, am_bl] at HAM
        rw [hcons] at hk HWA HPR
        rw [pre45] at HPR
        rw [tok_step] at hk
        generalize hc : t[0]'hp0 = c at hk HWA HPR HAM hcons
        generalize t.data.toList.drop 1 = r at hk HWA HPR hcons HD1
        have hcn : ((t[0]'hp0).toNat : Int) = (c.toNat : Int) := by rw [hc]
        have HCO := Aside0.mk hcons
        have HK := Aside0.mk hk
        clear hk hcons hc hem
        by_cases h10 : c = 10
        · have hb10 : ((c.toNat : Int) == 10) = true := by rw [h10]; rfl
          have hk := HK.out
          rw [if_pos h10] at hk
          have HK := Aside0.mk hk
          have hw : wrap64 (l + 1) = l + 1 := IntWalk.wrap64_in _ ⟨by have := HB.out; omega, by have := HB.out; omega⟩
          clear hk h10 HWA HPR HIB HAM
          go_wp2_with fail
          go_roundg gm
          case measure => omega
          case rel => exact ⟨t.extract 1 t.size, l + 1, a, xs, rfl, by first | rfl | rw [hw], by rw [HD1.out.1]; exact HK.out, ⟨by have := HB.out; have := HD1.out.2; omega⟩, HXS, HT⟩
        · have hb10 : ((c.toNat : Int) == 10) = false := beq_eq_false_iff_ne.mpr (fun h => h10 (UInt8.toNat_inj.mp (by have e : (10 : UInt8).toNat = 10 := rfl; omega)))
          have hk := HK.out
          rw [if_neg h10] at hk
          by_cases hbl : c = 32 ∨ c = 9 ∨ c = 13
          · rw [if_pos hbl] at hk
            rw [decide_eq_true hbl] at HAM
            have HK := Aside0.mk hk
            clear hk hbl h10 HWA HPR HIB
            go_wp2_with fail
            refine (HAM.out _).mono ?_
            rintro e w' ⟨rfl, rfl⟩
            go_wp2_with fail
            go_roundg gm
            case measure => omega
            case rel => exact ⟨t.extract 1 t.size, l, a, xs, rfl, rfl, by rw [HD1.out.1]; exact HK.out, ⟨by have := HB.out; have := HD1.out.2; omega⟩, HXS, HT⟩
          · rw [if_neg hbl] at hk
            rw [decide_eq_false hbl] at HAM
            by_cases hcm : c = 45 ∧ r.head? = some 45
            · rw [if_pos hcm] at hk
              rw [decide_eq_true hcm] at HPR
              have hdw : (c :: r).dropWhile (fun x => x != 10) = r.dropWhile (fun x => x != 10) := List.dropWhile_cons_of_pos (bne_iff_ne.mpr h10)
              rw [← hdw, ← HCO.out] at hk
              have hg := Lib.indexByte_ge t.data.toList 10
              have HIN := Aside0.mk (dw_ib_none t.data.toList)
              have HIS := Aside0.mk (dw_ib_some t.data.toList)
              have HII := Aside0.mk (fun i => ib_some t.data.toList 10 i)
              generalize Lib.indexByte t.data.toList 10 = ib at HIB hg HIN HIS HII
              have HK := Aside0.mk hk
              clear hk hcm hbl h10 HWA hdw
              by_cases hi : 0 ≤ ib
              · obtain ⟨i, rfl⟩ : ∃ i : Nat, ib = i := ⟨_, (Int.toNat_of_nonneg hi).symm⟩
                have hil : i < t.size := by
                  obtain ⟨h1, _⟩ := HII.out i rfl
                  have := (List.getElem?_eq_some_iff.mp h1).1
                  rw [size_data] at this
                  exact this
                have hib : decide ((i : Int) ≥ 0) = true := decide_eq_true hi
                have hii : (0 : Int) ≤ (i : Int) := hi
                have hile : (i : Int) ≤ (t.size : Int) := by omega
                have HKK := Aside0.mk (show tokW readL unqL gm (t.extract i t.size).data.toList l a = some res from by rw [HDN.out, ← HIS.out i rfl]; exact HK.out)
                go_wp2_with fail
                refine (HAM.out _).mono ?_
                rintro e w' ⟨rfl, rfl⟩
                go_wp2_with fail
                refine (HPR.out _).mono ?_
                rintro e w' ⟨rfl, rfl⟩
                go_wp2_with fail
                refine (HIB.out _).mono ?_
                rintro e w' ⟨rfl, rfl⟩
                go_wp2_with fail
                go_roundg gm
                case measure => omega
                case rel => exact ⟨t.extract i t.size, l, a, xs, rfl, rfl, HKK.out, ⟨by have := HB.out; rw [ByteArray.size_extract]; omega⟩, HXS, HT⟩
              · have hib : decide (ib ≥ 0) = false := decide_eq_false hi
                have hii : ¬ (0 : Int) ≤ ib := hi
                have hm1 : ib = -1 := by omega
                have hk := HK.out
                rw [HIN.out hm1] at hk
                have hk2 : some (a ++ [(⟨5, ⟨#[]⟩, 0, l⟩ : Tk)], (0 : Int), (0 : Int)) = some res := by
                  cases gm with
                  | zero => cases hk
                  | succ m => exact hk
                have HE := Aside0.mk (Option.some.inj hk2).symm
                have HWL := Aside0.mk HT.out.bel.size
                clear hk hk2 hm1 hi
                obtain ⟨wq, hwq⟩ : ∃ x, x = wr := ⟨wr, rfl⟩
                subst hwq
                go_wp2_with fail
                refine (HAM.out _).mono ?_
                rintro e w' ⟨rfl, rfl⟩
                go_wp2_with fail
                refine (HPR.out _).mono ?_
                rintro e w' ⟨rfl, rfl⟩
                go_wp2_with fail
                refine (HIB.out _).mono ?_
                rintro e wq ⟨rfl, rfl⟩
                go_wp2_with (first | ((with_reducible refine gate_builtin (b := .append) (xs := #[.tmp 68, .tmp 71]) rfl ?_); at_builtin; (refine Kd.R_append k34 (w0 := wq) w.heap.size rfl (.tmp 68) (.tmp 71) 24 34 (.agg #[(.int .i64 0), (.string ⟨#[]⟩), (.int .i64 0), (.int .i64 0)]) 40 rfl Tryd.underlying24 info34 rfl (by decide) (by decide) (.slice A xs.length cc) xs (⟨5, ⟨#[]⟩, 0, l⟩ : S34) [.int .i64 5, .string ⟨#[]⟩, .int .i64 0, .int .i64 l] (fun k => ¬ False) (fun _ => False) rfl ?aX ?aP (fun _ hk => hk.elim) ?aF HT.out.rr (Below.refl _ _) HWL.out ?aL ?_); (case aX => first | rfl | (go_simp; done) | (go_simp; rfl)); (case aP => exact k34_mkM _ _ _ (⟨5, ⟨#[]⟩, 0, l⟩ : S34)); (case aF => exact (fun _ _ h => h)); (case aL => have := HB.out; omega); (intro v1 w10 hn hb hg hat; have HN := Aside0.mk hn; have HBB := Aside0.mk hb; clear hn hb hg hat)))
                simp only [Exit.noGoto]
                go_ret2
                exact ⟨v1, .nilIface, rfl, by rw [HE.out]; rw [List.map_append, ← HXS.out]; exact Kd.R_mono (Kd.R_bound HN.out) (fun k hk => hk.2.1), .inl ⟨by rw [HE.out], rfl⟩, HT.out.bel.trans HBB.out⟩
            · rw [if_neg hcm] at hk
              rw [decide_eq_false hcm] at HPR
              have HCC := Aside0.mk hcm
              have HC4 := Aside0.mk (show c ≠ 10 ∧ c ≠ 32 ∧ c ≠ 9 ∧ c ≠ 13 from ⟨h10, fun h => hbl (.inl h), fun h => hbl (.inr (.inl h)), fun h => hbl (.inr (.inr h))⟩)
              have HZ := Aside0.mk (show (wordW readL unqL (c :: r)).e = 0 → 1 ≤ (wordW readL unqL (c :: r)).z ∧ (wordW readL unqL (c :: r)).z ≤ t.size from fun he => by
                obtain ⟨_, _, _, _, h4, _⟩ := word_same (numF := readL) quotesOk HC4.out HCC.out he (show isBl 32 = true from rfl) []
                rw [← HCO.out, size_data] at h4
                exact ⟨word_pos he, by rw [← HCO.out]; exact h4⟩)
              generalize wordW readL unqL (c :: r) = W at hk HWA HZ
              have HK := Aside0.mk hk
              clear hk hcm hbl h10 HIB
              go_wp2_with fail
              refine (HAM.out _).mono ?_
              rintro e w' ⟨rfl, rfl⟩
              go_wp2_with fail
              refine (HPR.out _).mono ?_
              rintro e w' ⟨rfl, rfl⟩
              go_wp2_with fail
              refine (HWA.out _ (Laid.below HT.out.bel HL.out)).mono ?_
              rintro e w1 ⟨rfl, hb⟩
              have HT1 := Aside0.mk (HT.out.below hb)
              clear hb HT
              unfold wdV
              generalize hev : errV W.e = ev
              have HEV := Aside0.mk hev
              clear hev
              go_upto_region 16 with ((with_reducible refine gate_dst (N := 7) rfl ?_); refine box_event ?hg (N := 7) ?hd (cs := #[.int .i64 0, .string ⟨#[]⟩, .int .i64 0, .int .i64 0]) (t := 34) ?hr ?_; (case hd => rfl); (case hg => rfl); (case hr => first | (go_simp; done) | (go_simp; rfl)); intro gb hgb wx hbox hbx; have HX := Aside0.mk hbox; have HBX := Aside0.mk hbx; have HGB := Aside0.mk hgb; clear hbox hbx hgb; have cz0 : wx.cell? ⟨gb, 0, none⟩ = some (.int .i64 0) := (blk_cell HX.out 0).trans rfl; have cz1 : wx.cell? ⟨gb, 1, none⟩ = some (.string ⟨#[]⟩) := (blk_cell HX.out 1).trans rfl; have cz2 : wx.cell? ⟨gb, 2, none⟩ = some (.int .i64 0) := (blk_cell HX.out 2).trans rfl; have cz3 : wx.cell? ⟨gb, 3, none⟩ = some (.int .i64 0) := (blk_cell HX.out 3).trans rfl; have fz0 := blk_frozen HX.out 0; have fz1 := blk_frozen HX.out 1; have fz2 := blk_frozen HX.out 2; have fz3 := blk_frozen HX.out 3)
              have HG0 := Aside0.mk (show w.heap.size ≤ gb from by rw [HGB.out]; exact HT1.out.bel.size)
              have HT2 := Aside0.mk ((((((HT1.out.mark (gb := gb) (Nat.le_of_eq HGB.out.symm)).below HBX.out).setx rfl HG0.out 0 (.int .i64 W.k)).setx rfl HG0.out 1 (.string W.t)).setx rfl HG0.out 2 (.int .i64 W.n)).setx rfl HG0.out 3 (.int .i64 0))
              have HXB := Aside0.mk (show ((((wx.setCell ⟨gb, 0, none⟩ (.int .i64 W.k)).setCell ⟨gb, 1, none⟩ (.string W.t)).setCell ⟨gb, 2, none⟩ (.int .i64 W.n)).setCell ⟨gb, 3, none⟩ (.int .i64 0)).heap[gb]? = some (.cells #[.int .i64 W.k, .string W.t, .int .i64 W.n, .int .i64 0] 34 (0, 0)) from blk_put (blk_put (blk_put (blk_put (cs' := #[.int .i64 W.k, .string ⟨#[]⟩, .int .i64 0, .int .i64 0]) HX.out 0 _ rfl) 1 (cs' := #[.int .i64 W.k, .string W.t, .int .i64 0, .int .i64 0]) _ rfl) 2 (cs' := #[.int .i64 W.k, .string W.t, .int .i64 W.n, .int .i64 0]) _ rfl) 3 _ rfl)
              generalize ((((wx.setCell ⟨gb, 0, none⟩ (.int .i64 W.k)).setCell ⟨gb, 1, none⟩ (.string W.t)).setCell ⟨gb, 2, none⟩ (.int .i64 W.n)).setCell ⟨gb, 3, none⟩ (.int .i64 0)) = wy at HT2 HXB ⊢
              clear HT1 HX HBX cz0 cz1 cz2 cz3 fz0 fz1 fz2 fz3
              by_cases he : W.e = 0
              · have hevn : ev = .nilIface := by rw [← HEV.out, he]; exact errV_0
                subst hevn
                have hk := HK.out
                rw [if_neg (fun h => h he)] at hk
                obtain ⟨hz1, hz2⟩ := HZ.out he
                have hzi : (W.z : Int) ≤ (t.size : Int) := by omega
                have hz0 : (0 : Int) ≤ (W.z : Int) := by omega
                have hkn : tokW readL unqL gm (t.extract W.z t.size).data.toList l (a ++ [⟨W.k, W.t, W.n, l⟩]) = some res := by rw [HDN.out, HCO.out]; exact hk
                have HK := Aside0.mk hkn
                have HZ1 := Aside0.mk hz1
                have HZ2 := Aside0.mk hz2
                clear hk hkn he hz1 hz2 HWA HZ HEV
                have cy3 : wy.cell? ⟨gb, 3, none⟩ = some (.int .i64 0) := (blk_cell HXB.out 3).trans rfl
                have fy3 := blk_frozen HXB.out 3
                go_upto_region 21 with (fail)
                have HT3 := Aside0.mk (HT2.out.setx (gb := gb) rfl HG0.out 3 (.int .i64 l))
                have HXC := Aside0.mk (show (wy.setCell ⟨gb, 3, none⟩ (.int .i64 l)).heap[gb]? = some (.cells #[.int .i64 W.k, .string W.t, .int .i64 W.n, .int .i64 l] 34 (0, 0)) from blk_put HXB.out 3 _ rfl)
                generalize wy.setCell ⟨gb, 3, none⟩ (.int .i64 l) = wq at HT3 HXC ⊢
                clear HT2 HXB cy3 fy3
                have d0 : wq.cell? ⟨gb, 0, none⟩ = some (.int .i64 W.k) := (blk_cell HXC.out 0).trans rfl
                have d1 : wq.cell? ⟨gb, 1, none⟩ = some (.string W.t) := (blk_cell HXC.out 1).trans rfl
                have d2 : wq.cell? ⟨gb, 2, none⟩ = some (.int .i64 W.n) := (blk_cell HXC.out 2).trans rfl
                have d3 : wq.cell? ⟨gb, 3, none⟩ = some (.int .i64 l) := (blk_cell HXC.out 3).trans rfl
                have HWL := Aside0.mk HT3.out.bel.size
                obtain ⟨yn, hyn⟩ : ∃ y_, y_ = xs ++ [(⟨W.k, W.t, W.n, l⟩ : S34)] := ⟨_, rfl⟩
                have HY := Aside0.mk hyn
                clear hyn
                go_wp2_with (first | ((with_reducible refine gate_builtin (b := .append) (xs := #[.tmp 61, .tmp 63]) rfl ?_); at_builtin; (refine Kd.R_append k34 (w0 := wq) w.heap.size rfl (.tmp 61) (.tmp 63) 24 34 (.agg #[(.int .i64 0), (.string ⟨#[]⟩), (.int .i64 0), (.int .i64 0)]) 40 rfl Tryd.underlying24 info34 rfl (by decide) (by decide) (.slice A xs.length cc) xs (⟨W.k, W.t, W.n, l⟩ : S34) [.int .i64 W.k, .string W.t, .int .i64 W.n, .int .i64 l] (fun k => ¬ k = gb) (fun _ => False) rfl ?aX ?aP (fun _ hk => hk.elim) ?aF HT3.out.rr (Below.refl _ _) HWL.out ?aL ?_); (case aX => first | rfl | (go_simp; done) | (go_simp; rfl)); (case aP => exact k34_mkM _ _ _ (⟨W.k, W.t, W.n, l⟩ : S34)); (case aF => exact (fun k hk e => by have := blk_lt HXC.out; omega)); (case aL => have := HB.out; omega); (intro v1 w10 hn hb hg hat; rw [← HY.out] at hn; have HT4 := Aside0.mk (HT3.out.push hn hb).unmark; obtain ⟨Ao, co, eo⟩ := Kd.R_slice hn; subst eo; clear hn hb hg hat)))
                go_roundg gm
                case measure => omega
                case rel => exact ⟨t.extract W.z t.size, l, a ++ [⟨W.k, W.t, W.n, l⟩], yn, rfl, rfl, HK.out, ⟨by have := HB.out; have := HZ1.out; have := HZ2.out; rw [ByteArray.size_extract, HY.out, List.length_append, List.length_cons, List.length_nil]; omega⟩, ⟨by rw [HY.out, HXS.out, List.map_append]; rfl⟩, HT4⟩
              · have hevi : ev = .iface 30 (.int .i64 W.e) := by rw [← HEV.out]; exact errV_ne he
                subst hevi
                have hk := HK.out
                rw [if_pos he] at hk
                have HE := Aside0.mk (Option.some.inj hk).symm
                have HNE := Aside0.mk he
                generalize W.e = c0 at HE HNE ⊢
                clear hk he HWA HZ HEV HK HXB
                go_upto_region 18 with (fail)
                obtain ⟨w2, hw2⟩ : ∃ x, x = wy.alloc (.cells #[.int .i64 0] 30) := ⟨_, rfl⟩
                rw [← hw2]
                obtain ⟨ve, hve⟩ : ∃ x, x = wy.heap.size := ⟨_, rfl⟩
                rw [← hve]
                have HB2 := Aside0.mk (show Below w.heap.size w w2 from by rw [hw2]; exact below_alloc HT2.out.bel _)
                have HE2 := Aside0.mk (show w2.heap[ve]? = some (.cells #[.int .i64 0] 30 (0, 0)) from by rw [hw2, hve]; exact blk_new _ _)
                have HVE := Aside0.mk (show w.heap.size ≤ ve from by rw [hve]; exact HT2.out.bel.size)
                clear hw2 hve HT2
                go_wp2_with fail
                refine (as_hit29 c0 ⟨ve, 0, none⟩ (.int .i64 0) w2 (Laid.cell0 (Laid.below HB2.out HL.out)) ((blk_cell HE2.out 0).trans rfl) (blk_frozen HE2.out 0)).mono ?_
                rintro e w' ⟨rfl, rfl⟩
                obtain ⟨w3, hw3⟩ : ∃ x, x = ((((w2.alloc (.cells #[.pointer (some ⟨ve, 0, none⟩)] 43)).alloc (.cells #[.pointer (some ⟨7, 43, none⟩), .pointer (some ⟨w2.heap.size, 0, none⟩), .int .u64 150] 51)).alloc (.cells #[.pointer (some ⟨7, 43, none⟩), .pointer (some ⟨w2.heap.size, 0, none⟩), .int .u64 150] 51)).alloc (.cells #[.int .i64 c0] 30)) := ⟨_, rfl⟩
                rw [← hw3]
                have HB3 := Aside0.mk (show Below w2.heap.size w2 w3 from by rw [hw3]; exact below_alloc (below_alloc (below_alloc (below_alloc (Below.refl _ _) _) _) _) _)
                clear hw3
                have HB4 := Aside0.mk (show Below w.heap.size w (w3.setCell ⟨ve, 0, none⟩ (.int .i64 c0)) from below_set (below_step HB2.out HB3.out) HVE.out)
                have HE4 := Aside0.mk (show (w3.setCell ⟨ve, 0, none⟩ (.int .i64 c0)).heap[ve]? = some (.cells #[.int .i64 c0] 30 (0, 0)) from blk_put (blk_below HE2.out HB3.out) 0 _ rfl)
                generalize w3.setCell ⟨ve, 0, none⟩ (.int .i64 c0) = w4 at HB4 HE4 ⊢
                clear HB2 HE2 HB3
                have ce : w4.cell? ⟨ve, 0, none⟩ = some (.int .i64 c0) := (blk_cell HE4.out 0).trans rfl
                have hl2 : ve < w4.heap.size := blk_lt HE4.out
                go_wp2_with fail
                go_region
                all_goals (try go_wp2)
                all_goals simp only [Exit.noGoto]
                all_goals go_ret2
                all_goals exact ⟨_, _, rfl, by rw [HE.out]; exact Kd.R_nil _ _ _ _ _, .inr ⟨by rw [HE.out]; exact HNE.out, w4.heap.size, rfl, HB4.out.size, by rw [HE.out]; exact blk_drew (by simpa using blk_new w4 (.cells #[.int .i64 c0, .int .i64 l] 32))⟩, below_drew (below_alloc HB4.out _)⟩
end Go.Proofs.YtlbaejihlcfpeaaDoor.G
end
