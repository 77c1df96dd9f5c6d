import Derived.LaidMore
import Derived.LaidHandle
import Derived.Stop.Joined
import Derived.Lib.IfaceEq
import Derived.Lib.ItoaLen
import Derived.Shelf.Strings.MapGrows
import Derived.Shelf.Abstract
import Derived.LaidEql
import Derived.Stop.Asserts
import Derived.RowKitTokens
import Derived.Lib.LaidTab
import Derived.Lib.AppendIntMem
import Derived.Stop.LaidErr
import Derived.WalkKit
import Derived.Deep.RegionLaw
import Derived.Deep.Cut
import Derived.WalkSpells
import Derived.Test.YtnombbcgdfgadaaDoorPKnS
import Derived.Test.YtnombbcgdfgadaaDoorPKnShelf2
import Derived.Test.YtnombbcgdfgadaaDoorPKnGxF27
import Derived.Lib.Hide
set_option linter.unusedVariables false
set_option linter.unusedSimpArgs false
section
namespace Go.Proofs.YtnombbcgdfgadaaDoor.G
open Go.Shelf Go.Extern.Stop Go.Stop Go.Extern Go.RowKit Go.Proofs.YtnombbcgdfgadaaDoorW.PrintWords Go.Proofs.YtnombbcgdfgadaaDoorW.PrintLast Go.Proofs.YtnombbcgdfgadaaDoorW.PrintMore
set_option linter.unusedVariables false
set_option linter.unusedSimpArgs false
def okD (d : S44) : Bool := decide (0 ≤ d.f0 ∧ d.f0 < 5 ∧ 0 ≤ d.f1 ∧ d.f1 ≤ 2147483647 ∧ (d.f0 = 3 → d.f1 = 0))
def lineB (d : S44) : List UInt8 := (nm d.f0.toNat).data.toList ++ ((if d.f0 = 3 then [] else 32 :: Lib.itoa d.f1) ++ [10])
def printF (T : ByteArray) (xs : List S44) : ByteArray × Int :=
  if xs.all okD = true then (if xs.length > 4096 then (⟨#[]⟩, 3) else if T.size > 32768 then (⟨#[]⟩, 3) else (⟨(xs.flatMap lineB ++ ([115, 111, 117, 114, 99, 101, 10] ++ T.data.toList)).toArray⟩, 0)) else (⟨#[]⟩, 2)
theorem okD_bad {k n : Int} (h : k < 0 ∨ 5 ≤ k ∨ n < 0 ∨ 2147483647 < n ∨ (k = 3 ∧ n ≠ 0)) : true = !okD ⟨k, n⟩ := by
  unfold okD
  rw [decide_eq_false (by rintro ⟨h1, h2, h3, h4, h5⟩; dsimp only at h1 h2 h3 h4 h5; omega)]
  rfl
theorem okD_good {k n : Int} (h : 0 ≤ k ∧ k < 5 ∧ 0 ≤ n ∧ n ≤ 2147483647 ∧ (k = 3 → n = 0)) : false = !okD ⟨k, n⟩ := by
  unfold okD
  rw [decide_eq_true (by simpa using h)]
  rfl
theorem take_snoc (xs : List S44) {i : Int} (h0 : 0 ≤ i) (h1 : i < xs.length) : xs.take (i + 1).toNat = xs.take i.toNat ++ [rd_T44 xs i] := by
  rw [show (i + 1).toNat = i.toNat + 1 by omega, List.take_add_one]
  have hlt : i.toNat < xs.length := by omega
  rw [List.getElem?_eq_getElem hlt]
  unfold rd_T44
  rw [List.getD_eq_getElem?_getD, List.getElem?_eq_getElem hlt]
  rfl
theorem rd_mem (xs : List S44) {i : Int} (h0 : 0 ≤ i) (h1 : i < xs.length) : rd_T44 xs i ∈ xs := by
  have hlt : i.toNat < xs.length := by omega
  unfold rd_T44
  rw [List.getD_eq_getElem?_getD, List.getElem?_eq_getElem hlt]
  exact List.getElem_mem hlt
structure QS (w : World) (b1 vl : Nat) (T : ByteArray) (A : Option Addr) (n c : Nat) (wr : World) : Prop where
  bel : Below w.heap.size w wr
  p1 : wr.heap[b1]? = some (.cells #[.string T, .slice A n c] 24 (0, 0))
  pl : wr.heap[vl]? = some (.cells #[.string (nm 0), .string (nm 1), .string (nm 2), .string (nm 3), .string (nm 4)] 63 (0, 0))
theorem QS.below {w : World} {b1 vl : Nat} {T : ByteArray} {A : Option Addr} {n c : Nat} {wr w1 : World} (h : QS w b1 vl T A n c wr) (hb : Below wr.heap.size wr w1) : QS w b1 vl T A n c w1 :=
  ⟨below_step h.bel hb, blk_below h.p1 hb, blk_below h.pl hb⟩
theorem QS.cell {w : World} {b1 vl : Nat} {T : ByteArray} {A : Option Addr} {n c : Nat} {wr : World} (h : QS w b1 vl T A n c wr) {k : Nat} (hk : k < 5) : wr.cell? ⟨vl, k, none⟩ = some (.string (nm k)) := by
  rw [blk_cell h.pl k]
  obtain rfl | rfl | rfl | rfl | rfl : k = 0 ∨ k = 1 ∨ k = 2 ∨ k = 3 ∨ k = 4 := by omega
  all_goals rfl
structure BS (w : World) (bb : Nat) (b1 vl : Nat) (T : ByteArray) (A : Option Addr) (n c : Nat) (acc : List UInt8) (wl : World) : Prop where
  bld : Lib.IsBuilderF 68 5 bb bb (Lib.byteCells acc) wl
  q : QS w b1 vl T A n c wl
  lt1 : b1 < bb
  lt2 : vl < bb
  size : bb ≤ wl.heap.size
  h0 : w.heap.size ≤ bb
theorem BS.below {w : World} {bb : Nat} {b1 vl : Nat} {T : ByteArray} {A : Option Addr} {n c : Nat} {acc : List UInt8} {wl w1 : World} (h : BS w bb b1 vl T A n c acc wl) (hb : Below wl.heap.size wl w1) : BS w bb b1 vl T A n c acc w1 :=
  ⟨h.bld.below hb, h.q.below hb, h.lt1, h.lt2, Nat.le_trans h.size hb.size, h.h0⟩
theorem BS.wstr {w : World} {bb : Nat} {b1 vl : Nat} {T : ByteArray} {A : Option Addr} {n c : Nat} {acc : List UInt8} {wl : World} (h : BS w bb b1 vl T A n c acc wl) (t : ByteArray) (hl : acc.length + t.size ≤ 140737488355328) :
    Calls Tryd.prog 26 #[.pointer (some ⟨bb, 0, none⟩), .string t] wl fun e w' => e = .returned (.tuple #[.int .i64 t.size, .nilIface]) ∧ BS w bb b1 vl T A n c (acc ++ t.data.toList) w' ∧ Lib.OthersKept 5 (some bb) wl w' := by
  refine (Tryd.WriteString_k bb bb _ t wl h.bld (by rw [Lib.byteCells_length]; exact hl) h.size).mono ?_
  rintro e w' ⟨rfl, h1, b1', k1⟩
  refine ⟨rfl, ⟨?_, ⟨below_weaken h.q.bel h.h0 b1', (b1'.block _ h.lt1).trans h.q.p1, (b1'.block _ h.lt2).trans h.q.pl⟩, h.lt1, h.lt2, Nat.le_trans h.size b1'.size, h.h0⟩, k1⟩
  rw [Lib.byteCells_append]
  exact Or.inr h1
theorem nm_size (k : Nat) : (nm k).size ≤ 7 := by
  unfold nm
  split <;> decide
theorem lineB_len {d : S44} (h : okD d = true) : (lineB d).length ≤ 30 := by
  unfold okD at h
  have h := of_decide_eq_true h
  have h1 := nm_size d.f0.toNat
  have h2 : (nm d.f0.toNat).data.toList.length ≤ 7 := by rw [Array.length_toList]; exact h1
  have h3 := Lib.itoa_length_le d.f1 (by omega) (by omega)
  unfold lineB
  rw [List.length_append, List.length_append]
  split
  · simp; omega
  · rw [List.length_cons]; simp; omega
theorem lines_len : ∀ (xs : List S44), xs.all okD = true → (xs.flatMap lineB).length ≤ 30 * xs.length
  | [], _ => by simp
  | d :: xs, h => by
    rw [List.all_cons, Bool.and_eq_true] at h
    have h1 := lineB_len h.1
    have h2 := lines_len xs h.2
    rw [List.flatMap_cons, List.length_append, List.length_cons]
    omega
set_option maxHeartbeats 4000000 in
set_option maxRecDepth 100000 in
theorem script_Print.calls (T : ByteArray) (A : Option Addr) (c : Nat) (xs : List S44) (r : ByteArray) (e : Int) (w : World) (hL : Laid w) (hr : Kd.C k44 w A xs.length xs) (hT : T.size ≤ 140737488351232) (hn : xs.length ≤ 140737488351232) (h : printF T xs = (r, e)) :
    Calls Tryd.prog 13 #[.agg #[.string T, .slice A xs.length c]] w fun ev w' => ev = .returned (.tuple #[.string r, .int .i64 e]) ∧ Below w.heap.size w w' := by
  have HL := Aside0.mk hL
  have HRR := Aside0.mk hr
  have HT := Aside0.mk hT
  have HN := Aside0.mk hn
  have HF := Aside0.mk h
  clear hL hr hT hn h
  go_enter Tryd.func13, Tryd.ntmps13
  go_upto_region 1 with (fail)
  obtain ⟨w1, hw1⟩ : ∃ x, x = w.alloc (.cells #[.string T, .slice A xs.length c] 24) := ⟨_, rfl⟩
  rw [← hw1]
  obtain ⟨b1, hb1⟩ : ∃ x, x = w.heap.size := ⟨_, rfl⟩
  rw [← hb1]
  have HB1 := Aside0.mk (show Below w.heap.size w w1 from by rw [hw1]; exact below_alloc (Below.refl _ _) _)
  have HP1 := Aside0.mk (show w1.heap[b1]? = some (.cells #[.string T, .slice A xs.length c] 24 (0, 0)) from by rw [hw1, hb1]; exact blk_new _ _)
  clear hw1 hb1
  go_wp2_with fail
  refine (names_any w1).mono ?_
  rintro ev w2 ⟨rfl, hb⟩
  have HB2 := Aside0.mk (below_step HB1.out hb)
  have HP2 := Aside0.mk (blk_below HP1.out hb)
  clear hb HB1 HP1
  unfold namesV
  go_upto_region 2 with (fail)
  obtain ⟨w3, hw3⟩ : ∃ x, x = w2.alloc (.cells #[.string (nm 0), .string (nm 1), .string (nm 2), .string (nm 3), .string (nm 4)] 63) := ⟨_, rfl⟩
  rw [← hw3]
  obtain ⟨vl, hvl⟩ : ∃ x, x = w2.heap.size := ⟨_, rfl⟩
  rw [← hvl]
  have HQ := Aside0.mk (show QS w b1 vl T A xs.length c w3 from by
    rw [hw3]
    exact ⟨below_alloc HB2.out _, blk_alloc HP2.out _, by rw [hvl]; exact blk_new _ _⟩)
  clear hw3 hvl HB2 HP2
  have cs1 : w3.cell? ⟨b1, 1, none⟩ = some (.slice A xs.length c) := (blk_cell HQ.out.p1 1).trans rfl
  go_wp2_with fail
  clear cs1
  go_loopg [14] (xs.length + 1) (fun kq v14 wr => ∃ i : Int, v14 = .int .i64 i ∧ 0 ≤ i ∧ i ≤ (xs.length : Int) ∧ Aside0 (kq + i.toNat = xs.length + 1) ∧ Aside0 ((xs.take i.toNat).all okD = true) ∧ Aside0 (QS w b1 vl T A xs.length c wr))
  case atStart => exact ⟨0, rfl, Int.le_refl _, by omega, ⟨rfl⟩, ⟨by simp⟩, HQ⟩
  case round =>
    clear HQ
    obtain ⟨i, rfl, hi0, hin, HK, HALL, HQ⟩ := hrel
    obtain ⟨gm, rfl⟩ : ∃ m, gk = m + 1 := ⟨gk - 1, by have := HK.out; omega⟩
    by_cases hi : i < (xs.length : Int)
    · have hlt : decide (i < (xs.length : Int)) = true := decide_eq_true hi
      obtain ⟨ad, rfl, hx0, hx1⟩ := at_T44 HRR.out i hi0 hi
      have HSN := Aside0.mk (take_snoc xs hi0 hi)
      have HMEM := Aside0.mk (rd_mem xs hi0 hi)
      generalize rd_T44 xs i = d at hx0 hx1 HSN HMEM
      obtain ⟨k0, n0⟩ := d
      dsimp only at hx0 hx1
      replace hx0 := (HQ.out.bel.cell (World.block_lt_of_cell? w _ hx0)).trans hx0
      replace hx1 := (HQ.out.bel.cell (World.block_lt_of_cell? w _ hx1)).trans hx1
      have hw : wrap64 (i + 1) = i + 1 := IntWalk.wrap64_in _ (by have := HN.out; omega)
      go_upto_region 5 with (fail)
      obtain ⟨w5, hw5⟩ : ∃ x, x = wr.alloc (.cells #[.int .i64 k0, .int .i64 n0] 44) := ⟨_, rfl⟩
      rw [← hw5]
      obtain ⟨gb, hgb⟩ : ∃ x, x = wr.heap.size := ⟨_, rfl⟩
      rw [← hgb]
      have HQ5 := Aside0.mk (show QS w b1 vl T (some ad) xs.length c w5 from by rw [hw5]; exact HQ.out.below (below_alloc (Below.refl _ _) _))
      have HD5 := (show w5.heap[gb]? = some (.cells #[.int .i64 k0, .int .i64 n0] 44 (0, 0)) from by rw [hw5, hgb]; exact blk_new _ _)
      have cz0 : w5.cell? ⟨gb, 0, none⟩ = some (.int .i64 k0) := (blk_cell HD5 0).trans rfl
      have cz1 : w5.cell? ⟨gb, 1, none⟩ = some (.int .i64 n0) := (blk_cell HD5 1).trans rfl
      clear hw5 hgb HD5 hx0 hx1 HQ
      go_cut [45] (fun v45 wc => ∃ x45 : Bool, v45 = .bool x45 ∧ Aside0 (x45 = !okD ⟨k0, n0⟩) ∧ wc = w5)
      case first =>
        clear hlt hw
        by_cases h0 : k0 < 0
        · have d0 : decide (k0 < 0) = true := decide_eq_true h0
          have ho := Aside0.mk (okD_bad (k := k0) (n := n0) (.inl h0))
          clear h0
          go_wp2
          go_meet
          case rel => exact ⟨_, rfl, ho, rfl⟩
        · have d0 : decide (k0 < 0) = false := decide_eq_false h0
          by_cases h1 : 5 ≤ k0
          · have d1 : decide (k0 ≥ 5) = true := decide_eq_true h1
            have d1' : decide (5 ≤ k0) = true := decide_eq_true h1
            have ho := Aside0.mk (okD_bad (k := k0) (n := n0) (.inr (.inl h1)))
            clear h0 h1
            go_wp2
            go_meet
            case rel => exact ⟨_, rfl, ho, rfl⟩
          · have d1 : decide (k0 ≥ 5) = false := decide_eq_false h1
            have d1' : decide (5 ≤ k0) = false := decide_eq_false h1
            by_cases h2 : n0 < 0
            · have d2 : decide (n0 < 0) = true := decide_eq_true h2
              have ho := Aside0.mk (okD_bad (k := k0) (n := n0) (.inr (.inr (.inl h2))))
              clear h0 h1 h2
              go_wp2
              go_meet
              case rel => exact ⟨_, rfl, ho, rfl⟩
            · have d2 : decide (n0 < 0) = false := decide_eq_false h2
              by_cases h3 : 2147483647 < n0
              · have d3 : decide (n0 > 2147483647) = true := decide_eq_true h3
                have d3' : decide (2147483647 < n0) = true := decide_eq_true h3
                have ho := Aside0.mk (okD_bad (k := k0) (n := n0) (.inr (.inr (.inr (.inl h3)))))
                clear h0 h1 h2 h3
                go_wp2
                go_meet
                case rel => exact ⟨_, rfl, ho, rfl⟩
              · have d3 : decide (n0 > 2147483647) = false := decide_eq_false h3
                have d3' : decide (2147483647 < n0) = false := decide_eq_false h3
                by_cases h4 : k0 = 3
                · have d4 : (k0 == 3) = true := beq_iff_eq.mpr h4
                  by_cases h5 : n0 = 0
                  · have d5 : (n0 == 0) = true := beq_iff_eq.mpr h5
                    have d5' : (n0 != 0) = false := by rw [bne, d5]; rfl
                    have ho := Aside0.mk (okD_good (k := k0) (n := n0) ⟨by omega, by omega, by omega, by omega, fun _ => h5⟩)
                    clear h0 h1 h2 h3 h4 h5
                    go_wp2
                    go_meet
                    case rel => exact ⟨_, rfl, ho, rfl⟩
                  · have d5 : (n0 == 0) = false := beq_eq_false_iff_ne.mpr h5
                    have d5' : (n0 != 0) = true := by rw [bne, d5]; rfl
                    have ho := Aside0.mk (okD_bad (k := k0) (n := n0) (.inr (.inr (.inr (.inr ⟨h4, h5⟩)))))
                    clear h0 h1 h2 h3 h4 h5
                    go_wp2
                    go_meet
                    case rel => exact ⟨_, rfl, ho, rfl⟩
                · have d4 : (k0 == 3) = false := beq_eq_false_iff_ne.mpr h4
                  have ho := Aside0.mk (okD_good (k := k0) (n := n0) ⟨by omega, by omega, by omega, by omega, fun h => absurd h h4⟩)
                  clear h0 h1 h2 h3 h4
                  go_wp2
                  go_meet
                  case rel => exact ⟨_, rfl, ho, rfl⟩
      case rest =>
        clear cz0 cz1
        obtain ⟨x45, rfl, HX, rfl⟩ := hcut
        cases x45 with
        | true =>
          have hok : okD ⟨k0, n0⟩ = false := by have := HX.out; simpa using this
          have hres : r = ⟨#[]⟩ ∧ e = 2 := by
            have h := HF.out
            unfold printF at h
            rw [if_neg (fun ha => by rw [List.all_eq_true.mp ha _ HMEM.out] at hok; cases hok)] at h
            simp only [Prod.mk.injEq] at h
            exact ⟨h.1.symm, h.2.symm⟩
          obtain ⟨rfl, rfl⟩ := hres
          clear hok HX HF
          go_wp2_with fail
          go_ret2
          exact ⟨rfl, HQ5.out.bel⟩
        | false =>
          have hok : okD ⟨k0, n0⟩ = true := by have := HX.out; simpa using this
          have HALL2 := Aside0.mk (show (xs.take (i + 1).toNat).all okD = true from by rw [HSN.out, List.all_append, HALL.out, Bool.true_and]; simp [hok])
          clear hok HX HALL HF HSN HMEM
          go_wp2_with fail
          go_roundg gm
          case measure => omega
          case rel => exact ⟨i + 1, by rw [hw], by omega, by omega, ⟨by have := HK.out; omega⟩, HALL2, HQ5⟩
    · have hlt : decide (i < (xs.length : Int)) = false := decide_eq_false hi
      have hii : i.toNat = xs.length := by omega
      have hall : xs.all okD = true := by have := HALL.out; rwa [hii, List.take_length] at this
      have hf := HF.out
      unfold printF at hf
      rw [if_pos hall] at hf
      have HALLX := Aside0.mk hall
      clear hall hii HALL HK HF
      have cs1 : wr.cell? ⟨b1, 1, none⟩ = some (.slice A xs.length c) := (blk_cell HQ.out.p1 1).trans rfl
      have cs0 : wr.cell? ⟨b1, 0, none⟩ = some (.string T) := (blk_cell HQ.out.p1 0).trans rfl
      by_cases hlen : xs.length > 4096
      · rw [if_pos hlen] at hf
        have hlb : decide ((xs.length : Int) > 4096) = true := decide_eq_true (by omega)
        have hlb' : decide ((4096 : Int) < (xs.length : Int)) = true := decide_eq_true (by omega)
        simp only [Prod.mk.injEq] at hf
        obtain ⟨rfl, rfl⟩ := hf
        clear hlen
        go_wp2_with fail
        go_ret2
        exact ⟨rfl, HQ.out.bel⟩
      · rw [if_neg hlen] at hf
        have hlb : decide ((xs.length : Int) > 4096) = false := decide_eq_false (by omega)
        have hlb' : decide ((4096 : Int) < (xs.length : Int)) = false := decide_eq_false (by omega)
        have HLEN := Aside0.mk hlen
        clear hlen
        by_cases hbig : T.size > 32768
        · rw [if_pos hbig] at hf
          have hbb : decide ((T.size : Int) > 32768) = true := decide_eq_true (by omega)
          have hbb' : decide ((32768 : Int) < (T.size : Int)) = true := decide_eq_true (by omega)
          simp only [Prod.mk.injEq] at hf
          obtain ⟨rfl, rfl⟩ := hf
          clear hbig
          go_wp2_with fail
          go_ret2
          exact ⟨rfl, HQ.out.bel⟩
        · rw [if_neg hbig] at hf
          have hbb : decide ((T.size : Int) > 32768) = false := decide_eq_false (by omega)
          have hbb' : decide ((32768 : Int) < (T.size : Int)) = false := decide_eq_false (by omega)
          have HBIG := Aside0.mk hbig
          simp only [Prod.mk.injEq] at hf
          obtain ⟨hrr, rfl⟩ := hf
          have HRES := Aside0.mk hrr
          clear hrr hbig
          go_upto_region 11 with (fail)
          obtain ⟨bb, hbb⟩ : ∃ x, x = wr.heap.size := ⟨_, rfl⟩
          rw [← hbb]
          have HB0 := Aside0.mk (show BS w bb b1 vl T A xs.length c [] (wr.alloc (.cells #[.pointer none, .slice none 0 0] 68)) from
            ⟨by rw [hbb]; exact Lib.IsBuilderF.of (Lib.fresh_isBuilder 68 5 wr), HQ.out.below (below_alloc (Below.refl _ _) _), by rw [hbb]; exact blk_lt HQ.out.p1, by rw [hbb]; exact blk_lt HQ.out.pl, by rw [hbb]; simp, by rw [hbb]; exact HQ.out.bel.size⟩)
          clear hbb
          generalize wr.alloc (.cells #[.pointer none, .slice none 0 0] 68) = wa at HB0 ⊢
          clear hlt hlb hlb' hbb hbb' cs0 cs1
          have cs1 : wa.cell? ⟨b1, 1, none⟩ = some (.slice A xs.length c) := (blk_cell HB0.out.q.p1 1).trans rfl
          go_wp2_with fail
          clear cs1
          go_loopg [60] (xs.length + 1) (fun kq v60 wl => ∃ i : Int, v60 = .int .i64 i ∧ 0 ≤ i ∧ i ≤ (xs.length : Int) ∧ Aside0 (kq + i.toNat = xs.length + 1) ∧ Aside0 (BS w bb b1 vl T A xs.length c ((xs.take i.toNat).flatMap lineB) wl))
          case atStart => exact ⟨0, rfl, Int.le_refl _, by omega, ⟨rfl⟩, HB0⟩
          case round =>
            clear HB0 HQ hi0 hin hi
            obtain ⟨i, rfl, hi0, hin, HK, HBS⟩ := hrel
            obtain ⟨gm, rfl⟩ : ∃ m, gk = m + 1 := ⟨gk - 1, by have := HK.out; omega⟩
            by_cases hi : i < (xs.length : Int)
            · have hlt : decide (i < (xs.length : Int)) = true := decide_eq_true hi
              obtain ⟨ad, rfl, hx0, hx1⟩ := at_T44 HRR.out i hi0 hi
              have HSN := Aside0.mk (take_snoc xs hi0 hi)
              have hmem := rd_mem xs hi0 hi
              generalize rd_T44 xs i = d at hx0 hx1 HSN hmem
              have hok := List.all_eq_true.mp HALLX.out _ hmem
              have HOK := Aside0.mk hok
              obtain ⟨k0, n0⟩ := d
              unfold okD at hok
              have hok2 := of_decide_eq_true hok
              obtain ⟨hk0, hk5, hn0, hn1, hk3⟩ := hok2
              dsimp only at hx0 hx1 hk0 hk5 hn0 hn1 hk3
              obtain ⟨m, rfl⟩ : ∃ m : Nat, k0 = m := ⟨k0.toNat, by omega⟩
              have hm5 : m < 5 := by omega
              replace hx0 := (HBS.out.q.bel.cell (World.block_lt_of_cell? w _ hx0)).trans hx0
              replace hx1 := (HBS.out.q.bel.cell (World.block_lt_of_cell? w _ hx1)).trans hx1
              have hw : wrap64 (i + 1) = i + 1 := IntWalk.wrap64_in _ (by have := HN.out; omega)
              have HLL := Aside0.mk (show ((xs.take i.toNat).flatMap lineB).length ≤ 30 * 4096 from by
                have h1 := lines_len (xs.take i.toNat) (by rw [List.all_eq_true]; intro x hx; exact List.all_eq_true.mp HALLX.out x (List.mem_of_mem_take hx))
                have h2 := HLEN.out
                rw [List.length_take] at h1
                omega)
              have HN0 := Aside0.mk hn0
              have HN1 := Aside0.mk hn1
              clear hok hmem hk0 hk5 hn0 hn1 hk3
              go_upto_region 14 with (fail)
              obtain ⟨w5, hw5⟩ : ∃ x, x = wr.alloc (.cells #[.int .i64 m, .int .i64 n0] 44) := ⟨_, rfl⟩
              rw [← hw5]
              obtain ⟨gb, hgb⟩ : ∃ x, x = wr.heap.size := ⟨_, rfl⟩
              rw [← hgb]
              have HB5 := Aside0.mk (show BS w bb b1 vl T (some ad) xs.length c ((xs.take i.toNat).flatMap lineB) w5 from by rw [hw5]; exact HBS.out.below (below_alloc (Below.refl _ _) _))
              have HD5 := Aside0.mk (show w5.heap[gb]? = some (.cells #[.int .i64 m, .int .i64 n0] 44 (0, 0)) from by rw [hw5, hgb]; exact blk_new _ _)
              have HNE := Aside0.mk (show some gb ≠ some bb from by
                intro e
                have hb : bb < wr.heap.size := by
                  rcases HBS.out.bld with h | h
                  · exact h.lt
                  · exact h.lt
                rw [Option.some.injEq] at e
                omega)
              have cz0 : w5.cell? ⟨gb, 0, none⟩ = some (.int .i64 m) := (blk_cell HD5.out 0).trans rfl
              have hnc := HB5.out.q.cell hm5
              clear hw5 hgb hx0 hx1 HBS
              go_wp2_with fail
              refine (HB5.out.wstr (nm m) (by have := HLL.out; have := nm_size m; omega)).mono ?_
              rintro ev w6 ⟨rfl, hb, hk⟩
              have HB6 := Aside0.mk hb
              have HD6 := Aside0.mk (hk gb _ HD5.out HNE.out (fun _ _ e => by cases e))
              clear hb hk HB5 HD5 cz0 hnc
              have cz0 : w6.cell? ⟨gb, 0, none⟩ = some (.int .i64 m) := (blk_cell HD6.out 0).trans rfl
              have cz1 : w6.cell? ⟨gb, 1, none⟩ = some (.int .i64 n0) := (blk_cell HD6.out 1).trans rfl
              by_cases hm3 : m = 3
              · subst hm3
                have hx : lineB ⟨((3 : Nat) : Int), n0⟩ = (nm 3).data.toList ++ [10] := rfl
                go_wp2_with fail
                refine (HB6.out.wstr ⟨#[10]⟩ (by have := HLL.out; have := nm_size 3; have h1 : (nm 3).data.toList.length = (nm 3).size := by rw [Array.length_toList]; rfl
                                                 have h2 : (⟨#[10]⟩ : ByteArray).size = 1 := rfl
                                                 rw [List.length_append]; omega)).mono ?_
                rintro ev w7 ⟨rfl, hb, hk⟩
                have HB7 := Aside0.mk (show BS w bb b1 vl T (some ad) xs.length c ((xs.take (i + 1).toNat).flatMap lineB) w7 from by
                  rw [HSN.out, List.flatMap_append, List.flatMap_cons, List.flatMap_nil, List.append_nil, hx, ← List.append_assoc]; exact hb)
                clear hb hk HB6 HD6 cz0 cz1 hx
                go_wp2_with fail
                go_roundg gm
                case measure => omega
                case rel => exact ⟨i + 1, by rw [hw], by omega, by omega, ⟨by have := HK.out; omega⟩, HB7⟩
              · have hm3b : ((m : Int) == 3) = false := beq_eq_false_iff_ne.mpr (by omega)
                have hm3c : ((m : Int) != 3) = true := by rw [bne, hm3b]; rfl
                go_wp2_with fail
                refine (num_Text.calls n0 _ w6 (Laid.below HB6.out.q.bel HL.out) (by unfold num_Text.f; rw [if_pos ⟨by have := HN0.out; omega, by have := HN1.out; omega⟩])).mono ?_
                rintro ev w7 ⟨rfl, hb⟩
                obtain ⟨t, ht⟩ : ∃ t, t = (⟨(Lib.itoa n0).toArray⟩ : ByteArray) := ⟨_, rfl⟩
                rw [← ht]
                have HTT := Aside0.mk ht
                have hts : t.size ≤ 21 := by
                  rw [ht]
                  show (Lib.itoa n0).toArray.size ≤ 21
                  rw [List.size_toArray]
                  exact Lib.itoa_length_le n0 (by have := HN0.out; omega) (by have := HN1.out; omega)
                have HB7 := Aside0.mk (HB6.out.below hb)
                clear hb ht HB6 HD6 cz0 cz1
                go_wp2_with fail
                have hcat : ((⟨#[32]⟩ : ByteArray) ++ t).data.toList = 32 :: t.data.toList := by rw [ByteArray.data_append, Array.toList_append]; rfl
                have hcs : ((⟨#[32]⟩ : ByteArray) ++ t).size = 1 + t.size := by rw [ByteArray.size_append]; rfl
                have hnl : (nm m).data.toList.length = (nm m).size := by rw [Array.length_toList]; rfl
                have hnz := nm_size m
                refine (HB7.out.wstr ((⟨#[32]⟩ : ByteArray) ++ t) (by have := HLL.out; rw [List.length_append, hcs]; omega)).mono ?_
                rintro ev w8 ⟨rfl, hb, hk⟩
                rw [hcat] at hb
                have HB8 := Aside0.mk hb
                clear hb hk HB7
                go_wp2_with fail
                refine (HB8.out.wstr ⟨#[10]⟩ (by have := HLL.out; have h1 : t.data.toList.length = t.size := by rw [Array.length_toList]; rfl
                                                 have h2 : (⟨#[10]⟩ : ByteArray).size = 1 := rfl
                                                 rw [List.length_append, List.length_append, List.length_cons]; omega)).mono ?_
                rintro ev w9 ⟨rfl, hb, hk⟩
                have HB9 := Aside0.mk (show BS w bb b1 vl T (some ad) xs.length c ((xs.take (i + 1).toNat).flatMap lineB) w9 from by
                  have hx : lineB ⟨(m : Int), n0⟩ = (nm m).data.toList ++ ((32 :: t.data.toList) ++ [10]) := by
                    unfold lineB
                    dsimp only
                    rw [if_neg (by omega), HTT.out]
                    rfl
                  rw [HSN.out, List.flatMap_append, List.flatMap_cons, List.flatMap_nil, List.append_nil, hx]
                  simp only [← List.append_assoc]
                  simp only [← List.append_assoc] at hb
                  exact hb)
                clear hb hk HB8 hcat hcs hnl hnz hts
                go_wp2_with fail
                go_roundg gm
                case measure => omega
                case rel => exact ⟨i + 1, by rw [hw], by omega, by omega, ⟨by have := HK.out; omega⟩, HB9⟩
            · have hlt : decide (i < (xs.length : Int)) = false := decide_eq_false hi
              have hii : i.toNat = xs.length := by omega
              have HBF := Aside0.mk (show BS w bb b1 vl T A xs.length c (xs.flatMap lineB) wr from by have := HBS.out; rwa [hii, List.take_length] at this)
              have HLL := Aside0.mk (show (xs.flatMap lineB).length ≤ 30 * 4096 from by
                have h1 := lines_len xs HALLX.out
                have h2 := HLEN.out
                omega)
              clear HBS hii
              have cs0 : wr.cell? ⟨b1, 0, none⟩ = some (.string T) := (blk_cell HBF.out.q.p1 0).trans rfl
              have hts := HT.out
              go_wp2_with fail
              have hcat : ((⟨#[115, 111, 117, 114, 99, 101, 10]⟩ : ByteArray) ++ T).data.toList = [115, 111, 117, 114, 99, 101, 10] ++ T.data.toList := by rw [ByteArray.data_append, Array.toList_append]
              have hcs : ((⟨#[115, 111, 117, 114, 99, 101, 10]⟩ : ByteArray) ++ T).size = 7 + T.size := by rw [ByteArray.size_append]; rfl
              refine (HBF.out.wstr ((⟨#[115, 111, 117, 114, 99, 101, 10]⟩ : ByteArray) ++ T) (by have := HLL.out; have := HBIG.out; rw [hcs]; omega)).mono ?_
              rintro ev w8 ⟨rfl, hb, hk⟩
              rw [hcat] at hb
              have HB8 := Aside0.mk hb
              clear hb hk HBF hcat hcs cs0
              go_wp2_with fail
              refine (Tryd.Builder_String_any_k bb bb _ w8 HB8.out.bld HB8.out.size).mono ?_
              rintro ev w9 ⟨rfl, h1, hb, hk⟩
              have HB9 := Aside0.mk (below_weaken HB8.out.q.bel HB8.out.h0 hb)
              clear h1 hb hk
              rw [HRES.out]
              go_wp2_with fail
              go_ret2
              exact ⟨rfl, HB9.out⟩
end Go.Proofs.YtnombbcgdfgadaaDoor.G
end
