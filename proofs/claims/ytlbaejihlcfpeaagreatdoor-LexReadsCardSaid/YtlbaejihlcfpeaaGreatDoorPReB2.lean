import Derived.LaidMore
import Derived.LaidHandle
import Derived.Stop.Joined
import Derived.Lib.IfaceEq
import Derived.Lib.IndexMore
import Derived.Shelf.Abstract
import Derived.LaidEql
import Derived.Stop.Asserts
import Derived.RowKitTokens
import Derived.Lib.LaidTab
import Derived.Lib.AppendIntMem
import Derived.Stop.LaidErr
import Derived.WalkKit
import Derived.Deep.RegionLaw
import Derived.Deep.Cut
import Derived.WalkSpells
import Derived.Maps.OwnOps
import Derived.Maps.OwnSet
import Derived.Maps.Views
import Derived.Maps.RangeWalk
import Derived.Maps.Own
import Derived.Test.YtlbaejihlcfpeaaGreatDoorPReB1
import Derived.Lib.Hide
set_option linter.unusedVariables false
set_option linter.unusedSimpArgs false
section
namespace Go.Proofs.YtlbaejihlcfpeaaGreatDoor.G
open Go.Proofs.YtlbaejihlcfpeaaGreatDoor.G Go.Proofs.YtlbaejihlcfpeaaGreatDoor.Z
open Go.Shelf Go.Extern.Stop Go.Stop Go.Extern Go.RowKit Go.Proofs.YtlbaejihlcfpeaaGreatDoorW.PrintWords Go.Proofs.YtlbaejihlcfpeaaGreatDoorW.PrintLast Go.Proofs.YtlbaejihlcfpeaaGreatDoorW.PrintMore
set_option linter.unusedVariables false
set_option linter.unusedSimpArgs false
structure TR (w : World) (g : Nat) (X : Nat → Prop) (rv : Value) (xs : List S41) (wr : World) : Prop where
  bel : Below w.heap.size w wr
  pg : wr.heap[g]? = some (.cells #[.int .i64 0, .int .i64 0] 29 (0, 0))
  rr : Kd.R k41 41 wr w.heap.size (fun k => g < k ∧ ¬ X k) rv xs
  h1 : w.heap.size ≤ g
section
variable {w wr w1 : World} {g : Nat} {X : Nat → Prop} {rv : Value} {xs : List S41}
theorem TR.below (h : TR w g X rv xs wr) (hb : Below wr.heap.size wr w1) : TR w g X rv xs w1 := ⟨below_step h.bel hb, blk_below h.pg hb, Kd.R_below h.rr hb, h.h1⟩
theorem TR.mark {gb : Nat} (h : TR w g (fun _ => False) rv xs wr) (hgb : wr.heap.size ≤ gb) : TR w g (fun k => k = gb) rv xs wr :=
  ⟨h.bel, h.pg, Kd.R_mono (Kd.R_bound h.rr) (fun k hk => ⟨hk.1.1, fun e => by have := hk.2.2.1; omega⟩), h.h1⟩
theorem TR.unmark (h : TR w g X rv xs wr) : TR w g (fun _ => False) rv xs wr := ⟨h.bel, h.pg, Kd.R_mono h.rr (fun k hk => ⟨hk.1, fun e => e⟩), h.h1⟩
theorem TR.setx {gb : Nat} (h : TR w g X rv xs wr) (hx : X gb) (h0 : g < gb) (j : Nat) (u : Value) : TR w g X rv xs (wr.setCell ⟨gb, j, none⟩ u) :=
  ⟨below_set h.bel (by have := h.h1; omega), blk_far h.pg (by show g ≠ gb; omega) _, Kd.R_far h.rr (p := ⟨gb, j, none⟩) (fun k hk e => hk.2 (by have : k = gb := e; rw [this]; exact hx)) _, h.h1⟩
theorem TR.push {v1 : Value} {ys : List S41} (h : TR w g X rv xs wr) (hn : Kd.R k41 41 w1 w.heap.size (fun k => g < k ∧ ¬ X k) v1 ys) (hb : Below w.heap.size wr w1) (hg : wr.grownBy w1 rv.ownBlock) : TR w g X v1 ys w1 :=
  ⟨h.bel.trans hb, blk_grown h.pg hg (Kd.R_away h.rr (fun k hk => by omega)), hn, h.h1⟩
theorem TR.fin (h : TR w g X rv xs wr) (c a : Int) : ((wr.setCell ⟨g, 0, none⟩ (.int .i64 c)).setCell ⟨g, 1, none⟩ (.int .i64 a)).heap[g]? = some (.cells #[.int .i64 c, .int .i64 a] 29 (0, 0)) ∧ Below w.heap.size w ((wr.setCell ⟨g, 0, none⟩ (.int .i64 c)).setCell ⟨g, 1, none⟩ (.int .i64 a)) ∧ Kd.R k41 41 ((wr.setCell ⟨g, 0, none⟩ (.int .i64 c)).setCell ⟨g, 1, none⟩ (.int .i64 a)) w.heap.size (fun k => w.heap.size ≤ k) rv xs :=
  ⟨blk_put (blk_put (cs' := #[.int .i64 c, .int .i64 0]) h.pg 0 _ rfl) 1 _ rfl, below_set (below_set h.bel h.h1) h.h1, Kd.R_mono (Kd.R_far (p := ⟨g, 1, none⟩) (Kd.R_far (p := ⟨g, 0, none⟩) h.rr (fun k hk => by show k ≠ g; omega) _) (fun k hk => by show k ≠ g; omega) _) (fun k hk => by have := h.h1; omega)⟩
theorem TR.cells (h : TR w g X rv xs wr) : wr.cell? ⟨g, 0, none⟩ = some (.int .i64 0) ∧ wr.cell? ⟨g, 1, none⟩ = some (.int .i64 0) ∧ wr.frozen? ⟨g, 0, none⟩ = false ∧ wr.frozen? ⟨g, 1, none⟩ = false :=
  ⟨(blk_cell h.pg 0).trans rfl, (blk_cell h.pg 1).trans rfl, blk_frozen h.pg 0, blk_frozen h.pg 1⟩
end
theorem f8_results (a : Array Value) (w : World) (P : Nat) (t v x : Value) (h2 : a.getD 3 undef = .pointer (some ⟨P, 0, none⟩)) (h3 : a.getD 2 undef = x) (hp : w.heap[P]? = some (.cells #[t, v] 29 (0, 0))) :
    (results Tryz.f8 a).run Tryz.prog w = .ok (.tuple #[x, .agg #[t, v]]) w := by
  have cp : w.cell? ⟨P, 0, none⟩ = some t := (blk_cell hp 0).trans rfl
  have cq : w.cell? ⟨P, 1, none⟩ = some v := (blk_cell hp 1).trans rfl
  have h2' : a[3]?.getD undef = .pointer (some ⟨P, 0, none⟩) := by simpa using h2
  have h3' : a[2]?.getD undef = x := by simpa using h3
  simp [results, Tryz.results8, h2', h3', asAddr, go_sem, cp, cq]
theorem u8n {c d : UInt8} (h : c ≠ d) : ((c.toNat : Int) == (d.toNat : Int)) = false := beq_eq_false_iff_ne.mpr (fun h2 => h (UInt8.toNat_inj.mp (by omega)))
theorem u8e {c d : UInt8} (h : c = d) : ((c.toNat : Int) == (d.toNat : Int)) = true := by rw [h]; exact beq_self_eq_true _
theorem drop_get {s : ByteArray} {i : Nat} (h : i < s.size) : s.data.toList.drop i = (s[i]'h) :: s.data.toList.drop (i + 1) := drop_head s i h
set_option maxHeartbeats 16000000 in
set_option maxRecDepth 100000 in
theorem refTok_any (s : ByteArray) (w : World) (hsz : s.size ≤ 140737488351232) :
    Calls Tryz.prog 8 #[.string s] w fun e w' => ∃ v, e = .returned (.tuple #[v, .agg #[.int .i64 (lexR s).2.1, .int .i64 (lexR s).2.2]]) ∧ Kd.R k41 41 w' w.heap.size (fun k => w.heap.size ≤ k) v ((lexR s).1.map tkS) ∧ Below w.heap.size w w' := by
  by_cases hbig : s.size > 32768
  · have hb : decide ((s.size : Int) > 32768) = true := decide_eq_true (by omega)
    have hb' : (32768 : Int) < (s.size : Int) := by omega
    have hr : lexR s = ([], 3, 0) := by unfold lexR; rw [if_pos hbig]
    rw [hr]
    clear hr hsz
    go_enter Tryz.func8, Tryz.ntmps8
    go_upto_region 1 with (fail)
    obtain ⟨w1, hw1⟩ : ∃ x, x = w.alloc (.cells #[.int .i64 0, .int .i64 0] 29) := ⟨_, rfl⟩
    rw [← hw1]
    obtain ⟨g, hg⟩ : ∃ x, x = w.heap.size := ⟨_, rfl⟩
    rw [← hg]
    have HT := Aside0.mk (show TR w g (fun _ => False) (.slice none 0 0) [] w1 from by rw [hw1, hg]; exact ⟨below_alloc (Below.refl _ _) _, blk_new _ _, Kd.R_nil _ _ _ _ _, Nat.le_refl _⟩)
    clear hw1 hg
    obtain ⟨c0, c1, f0, f1⟩ := HT.out.cells
    go_wp2_with fail
    exact bodyPost_ret (f8_results _ _ g _ _ _ rfl rfl (HT.out.fin 3 0).1) rfl ⟨_, rfl, (HT.out.fin 3 0).2.2, (HT.out.fin 3 0).2.1⟩
  · have hb : decide ((s.size : Int) > 32768) = false := decide_eq_false (by omega)
    have hb' : ¬ (32768 : Int) < (s.size : Int) := by omega
    have HR := Aside0.mk (lexR_tok hbig)
    generalize lexR s = res at HR ⊢
    have HS := Aside0.mk (show s.size ≤ 32768 by omega)
    clear hsz
    go_enter Tryz.func8, Tryz.ntmps8
    go_upto_region 1 with (fail)
    obtain ⟨w1, hw1⟩ : ∃ x, x = w.alloc (.cells #[.int .i64 0, .int .i64 0] 29) := ⟨_, rfl⟩
    rw [← hw1]
    obtain ⟨g, hg⟩ : ∃ x, x = w.heap.size := ⟨_, rfl⟩
    rw [← hg]
    have HT := Aside0.mk (show TR w g (fun _ => False) (.slice none 0 0) [] w1 from by rw [hw1, hg]; exact ⟨below_alloc (Below.refl _ _) _, blk_new _ _, Kd.R_nil _ _ _ _ _, Nat.le_refl _⟩)
    clear hw1 hg
    go_wp2_with fail
    go_loopg [4, 5, 6] (s.size + 1) (fun kq v4 v5 v6 wr => ∃ (i : Nat) (l : Int) (a : List Tk) (xs : List S41), v6 = .int .i64 i ∧ v5 = .int .i64 l ∧ tokW readL unqL kq (s.data.toList.drop i) l a = some res ∧ Aside0 (i ≤ s.size ∧ 0 ≤ l ∧ l ≤ i ∧ xs.length ≤ i) ∧ Aside0 (xs = a.map tkS) ∧ Aside0 (TR w g (fun _ => False) v4 xs wr))
    case atStart => exact ⟨0, 0, [], [], rfl, rfl, HR.out, ⟨by simp⟩, ⟨rfl⟩, HT⟩
    case round =>
      clear HR HT
      obtain ⟨i, l, a, xs, rfl, rfl, hk, HB, HXS, HT⟩ := hrel
      obtain ⟨gm, rfl⟩ : ∃ m, gk = m + 1 := by
        cases gk with
        | zero => cases hk
        | succ m => exact ⟨m, rfl⟩
      obtain ⟨A, cc, rfl⟩ := Kd.R_slice HT.out.rr
      by_cases hi : i < s.size
      · have hib : decide ((i : Int) < (s.size : Int)) = true := decide_eq_true (by omega)
        have hii : (i : Int) < (s.size : Int) := by omega
        have hw : wrap64 ((i : Int) + 1) = (i : Int) + 1 := IntWalk.wrap64_in _ ⟨by omega, by have := HS.out; omega⟩
        have hi0 : (0 : Int) ≤ (i : Int) := by omega
        rw [drop_get hi, tok_step] at hk
        have HWE := Aside0.mk (word_ev s i hi (by have := HS.out; omega))
        rw [drop_get hi] at HWE
        generalize hc : s[i]'hi = c at hk HWE
        have hcn : ((s[i]'hi).toNat : Int) = (c.toNat : Int) := by rw [hc]
        have HK := Aside0.mk hk
        have HI := Aside0.mk hi
        have HC := Aside0.mk hc
        clear hk hc
        by_cases h10 : c = 10
        · have b10 : ((c.toNat : Int) == 10) = true := u8e h10
          have b32 : ((c.toNat : Int) == 32) = false := u8n (d := 32) (by rw [h10]; decide)
          have b9 : ((c.toNat : Int) == 9) = false := u8n (d := 9) (by rw [h10]; decide)
          have b13 : ((c.toNat : Int) == 13) = false := u8n (d := 13) (by rw [h10]; decide)
          have hk := HK.out
          rw [if_pos h10] at hk
          have HK := Aside0.mk hk
          have hwl : wrap64 (l + 1) = l + 1 := IntWalk.wrap64_in _ ⟨by have := HB.out; omega, by have := HB.out; have := HS.out; omega⟩
          clear hk h10 HWE
          go_wp2_with fail
          go_roundg gm
          case measure => omega
          case rel => exact ⟨i + 1, l + 1, a, xs, by first | rfl | rw [hw]; rfl, by first | rfl | rw [hwl], HK.out, ⟨by have := HB.out; have := HI.out; omega⟩, HXS, HT⟩
        · have b10 : ((c.toNat : Int) == 10) = false := u8n (d := 10) h10
          have hk := HK.out
          rw [if_neg h10] at hk
          by_cases hbl : c = 32 ∨ c = 9 ∨ c = 13
          · rw [if_pos hbl] at hk
            have HK := Aside0.mk hk
            clear hk h10 HWE
            rcases hbl with h | h | h
            · have b32 : ((c.toNat : Int) == 32) = true := u8e h
              clear h
              go_wp2_with fail
              go_roundg gm
              case measure => omega
              case rel => exact ⟨i + 1, l, a, xs, by first | rfl | rw [hw]; rfl, rfl, HK.out, ⟨by have := HB.out; have := HI.out; omega⟩, HXS, HT⟩
            · have b32 : ((c.toNat : Int) == 32) = false := u8n (d := 32) (by rw [h]; decide)
              have b9 : ((c.toNat : Int) == 9) = true := u8e h
              clear h
              go_wp2_with fail
              go_roundg gm
              case measure => omega
              case rel => exact ⟨i + 1, l, a, xs, by first | rfl | rw [hw]; rfl, rfl, HK.out, ⟨by have := HB.out; have := HI.out; omega⟩, HXS, HT⟩
            · have b32 : ((c.toNat : Int) == 32) = false := u8n (d := 32) (by rw [h]; decide)
              have b9 : ((c.toNat : Int) == 9) = false := u8n (d := 9) (by rw [h]; decide)
              have b13 : ((c.toNat : Int) == 13) = true := u8e h
              clear h
              go_wp2_with fail
              go_roundg gm
              case measure => omega
              case rel => exact ⟨i + 1, l, a, xs, by first | rfl | rw [hw]; rfl, rfl, HK.out, ⟨by have := HB.out; have := HI.out; omega⟩, HXS, HT⟩
          · rw [if_neg hbl] at hk
            have b32 : ((c.toNat : Int) == 32) = false := u8n (d := 32) (fun h => hbl (.inl h))
            have b9 : ((c.toNat : Int) == 9) = false := u8n (d := 9) (fun h => hbl (.inr (.inl h)))
            have b13 : ((c.toNat : Int) == 13) = false := u8n (d := 13) (fun h => hbl (.inr (.inr h)))
            have HC4 := Aside0.mk (show c ≠ 10 ∧ c ≠ 32 ∧ c ≠ 9 ∧ c ≠ 13 from ⟨h10, fun h => hbl (.inl h), fun h => hbl (.inr (.inl h)), fun h => hbl (.inr (.inr h))⟩)
            have HH10 := Aside0.mk h10
            clear hbl h10
            by_cases h1 : i + 1 < s.size
            · have h1b : decide ((i : Int) + 1 < (s.size : Int)) = true := decide_eq_true (by omega)
              have h1i : (i : Int) + 1 < (s.size : Int) := by omega
              have hh : (List.drop (i + 1) s.data.toList).head? = some (s[i + 1]'h1) := by rw [drop_get h1, List.head?_cons]
              rw [hh] at hk
              have HHH := Aside0.mk hh
              clear hh
              generalize hd : s[i + 1]'h1 = d at hk HHH
              have hdn : ((s[i + 1]'h1).toNat : Int) = (d.toNat : Int) := by rw [hd]
              clear hd
              by_cases h45 : c = 45
              · have b45 : ((c.toNat : Int) == 45) = true := u8e h45
                by_cases d45 : d = 45
                · have e45 : ((d.toNat : Int) == 45) = true := u8e d45
                  rw [if_pos ⟨h45, by rw [d45]⟩] at hk
                  have hdw : (s.data.toList.drop i).dropWhile (fun x => x != 10) = (List.drop (i + 1) s.data.toList).dropWhile (fun x => x != 10) := by
                    rw [drop_get HI.out, HC.out]
                    exact List.dropWhile_cons_of_pos (bne_iff_ne.mpr HH10.out)
                  rw [← hdw] at hk
                  have HK := Aside0.mk hk
                  clear hk hdw h45 d45 HWE
                  go_wp2_with fail
                  go_loopw [6] (fun v6 w2 => ∃ j : Nat, v6 = .int .i64 j ∧ i ≤ j ∧ j ≤ s.size ∧ Aside0 ((s.data.toList.drop i).dropWhile (fun x => x != 10) = (s.data.toList.drop j).dropWhile (fun x => x != 10)) ∧ w2 = wr) (fun v6 _ => s.size - (intOf v6).toNat)
                  case atStart => exact ⟨i, rfl, Nat.le_refl _, Nat.le_of_lt HI.out, ⟨rfl⟩, by first | trivial | rfl⟩
                  case round =>
                    obtain ⟨j, rfl, hj1, hj2, HJ, rfl⟩ := hrel
                    by_cases hj : j < s.size
                    · have hjb : decide ((j : Int) < (s.size : Int)) = true := decide_eq_true (by omega)
                      have hji : (j : Int) < (s.size : Int) := by omega
                      have hj0 : (0 : Int) ≤ (j : Int) := by omega
                      have hwj : wrap64 ((j : Int) + 1) = (j : Int) + 1 := IntWalk.wrap64_in _ ⟨by omega, by have := HS.out; omega⟩
                      have hdj := drop_get hj
                      generalize hcj : s[j]'hj = cj at hdj
                      have hcjn : ((s[j]'hj).toNat : Int) = (cj.toNat : Int) := by rw [hcj]
                      have HDJ := Aside0.mk hdj
                      clear hdj hcj
                      by_cases hx : cj = 10
                      · have bx : ((cj.toNat : Int) == 10) = true := u8e hx
                        have bxn : ((cj.toNat : Int) != 10) = false := by rw [bne, bx]; rfl
                        have HKJ := Aside0.mk (show tokW readL unqL gm (s.data.toList.drop j) l a = some res from by
                          have := HK.out
                          rw [HJ.out, HDJ.out, hx] at this
                          have h2 : (10 :: List.drop (j + 1) s.data.toList).dropWhile (fun x => x != 10) = 10 :: List.drop (j + 1) s.data.toList := List.dropWhile_cons_of_neg (by decide)
                          rw [h2] at this
                          rw [HDJ.out, hx]
                          exact this)
                        clear hx
                        go_wp2_with fail
                        go_roundg gm
                        case measure => omega
                        case rel => exact ⟨j, l, a, xs, rfl, rfl, HKJ.out, ⟨by have := HB.out; omega⟩, HXS, HT⟩
                      · have bx : ((cj.toNat : Int) == 10) = false := u8n (d := 10) hx
                        have bxn : ((cj.toNat : Int) != 10) = true := by rw [bne, bx]; rfl
                        have HJ2 := Aside0.mk (show (s.data.toList.drop i).dropWhile (fun x => x != 10) = (s.data.toList.drop (j + 1)).dropWhile (fun x => x != 10) from by
                          rw [HJ.out, HDJ.out]
                          exact List.dropWhile_cons_of_pos (bne_iff_ne.mpr hx))
                        clear hx HJ
                        go_wp2_with fail
                        go_roundw
                        case rel => exact ⟨j + 1, by first | rfl | (rw [hwj]; rfl), by omega, by omega, HJ2, by first | trivial | rfl⟩
                        case measure =>
                          try rw [hwj]
                          show s.size - ((j : Int) + 1).toNat < s.size - (j : Int).toNat
                          omega
                    · have hjb : decide ((j : Int) < (s.size : Int)) = false := decide_eq_false (by omega)
                      have hji : ¬ (j : Int) < (s.size : Int) := by omega
                      have HKJ := Aside0.mk (show tokW readL unqL gm (s.data.toList.drop j) l a = some res from by
                        have := HK.out
                        rw [HJ.out, List.drop_eq_nil_of_le (by rw [size_data]; omega)] at this
                        rw [List.drop_eq_nil_of_le (by rw [size_data]; omega)]
                        exact this)
                      go_wp2_with fail
                      go_roundg gm
                      case measure => omega
                      case rel => exact ⟨j, l, a, xs, rfl, rfl, HKJ.out, ⟨by have := HB.out; omega⟩, HXS, HT⟩
                · have e45 : ((d.toNat : Int) == 45) = false := u8n (d := 45) d45
                  rw [if_neg (fun h => d45 (Option.some.inj h.2))] at hk
                  have HCC := Aside0.mk (show ¬ (c = 45 ∧ (List.drop (i + 1) s.data.toList).head? = some 45) from by rw [HHH.out]; exact fun h => d45 (Option.some.inj h.2))
                  have HKW := Aside0.mk hk
                  clear hk h45 d45 HK
                  have hk := HKW.out
                  obtain ⟨r, hev, href⟩ := HWE.out
                  obtain ⟨K, hK⟩ := hev.rounds
                  obtain ⟨t1, t2, t3, t4, t5, t6⟩ := r
                  have HZ := Aside0.mk (show (wordW readL unqL (c :: List.drop (i + 1) s.data.toList)).e = 0 → 1 ≤ (wordW readL unqL (c :: List.drop (i + 1) s.data.toList)).z ∧ i + (wordW readL unqL (c :: List.drop (i + 1) s.data.toList)).z ≤ s.size from fun he => by
                    obtain ⟨_, _, _, _, h4, _⟩ := word_same (numF := readL) quotesOk HC4.out HCC.out he (show isBl 32 = true from rfl) []
                    rw [List.length_cons, List.length_drop, size_data] at h4
                    have := HI.out
                    exact ⟨word_pos he, by omega⟩)
                  have HDZ := Aside0.mk (show ∀ z, (c :: List.drop (i + 1) s.data.toList).drop z = s.data.toList.drop (i + z) from fun z => by
                    rw [← HC.out, ← drop_get HI.out, List.drop_drop])
                  generalize wordW readL unqL (c :: List.drop (i + 1) s.data.toList) = W at hk href HZ
                  have HRF := Aside0.mk href
                  have HK := Aside0.mk hk
                  have HCL := Aside0.mk hK
                  clear hk hev href hK
                  go_wp2_with fail
                  refine (tallowref04_word.calls K s i t1 t2 t3 t4 t5 t6 _ HCL.out).mono ?_
                  rintro e w2 ⟨rfl, hb⟩
                  have HT1 := Aside0.mk (HT.out.below hb)
                  clear hb HT
                  go_upto_region 15 with ((with_reducible refine gate_dst (N := 7) rfl ?_); refine box_event ?hg (N := 7) ?hd (cs := #[.int .i64 0, .string ⟨#[]⟩, .int .i64 0, .int .i64 0]) (t := 41) ?hr ?_; (case hd => rfl); (case hg => rfl); (case hr => first | (go_simp; done) | (go_simp; rfl)); intro gb hgb wx hbox hbx; have HX := Aside0.mk hbox; have HBX := Aside0.mk hbx; have HGB := Aside0.mk hgb; clear hbox hbx hgb; have cz0 : wx.cell? ⟨gb, 0, none⟩ = some (.int .i64 0) := (blk_cell HX.out 0).trans rfl; have cz1 : wx.cell? ⟨gb, 1, none⟩ = some (.string ⟨#[]⟩) := (blk_cell HX.out 1).trans rfl; have cz2 : wx.cell? ⟨gb, 2, none⟩ = some (.int .i64 0) := (blk_cell HX.out 2).trans rfl; have cz3 : wx.cell? ⟨gb, 3, none⟩ = some (.int .i64 0) := (blk_cell HX.out 3).trans rfl; have fz0 := blk_frozen HX.out 0; have fz1 := blk_frozen HX.out 1; have fz2 := blk_frozen HX.out 2; have fz3 := blk_frozen HX.out 3)
                  have HG0 := Aside0.mk (show g < gb from by rw [HGB.out]; exact blk_lt HT1.out.pg)
                  have HT2 := Aside0.mk ((((((HT1.out.mark (gb := gb) (Nat.le_of_eq HGB.out.symm)).below HBX.out).setx rfl HG0.out 0 (.int .i64 t1)).setx rfl HG0.out 1 (.string t2)).setx rfl HG0.out 2 (.int .i64 t3)).setx rfl HG0.out 3 (.int .i64 t4))
                  have HXB := Aside0.mk (show ((((wx.setCell ⟨gb, 0, none⟩ (.int .i64 t1)).setCell ⟨gb, 1, none⟩ (.string t2)).setCell ⟨gb, 2, none⟩ (.int .i64 t3)).setCell ⟨gb, 3, none⟩ (.int .i64 t4)).heap[gb]? = some (.cells #[.int .i64 t1, .string t2, .int .i64 t3, .int .i64 t4] 41 (0, 0)) from blk_put (blk_put (blk_put (blk_put (cs' := #[.int .i64 t1, .string ⟨#[]⟩, .int .i64 0, .int .i64 0]) HX.out 0 _ rfl) 1 (cs' := #[.int .i64 t1, .string t2, .int .i64 0, .int .i64 0]) _ rfl) 2 (cs' := #[.int .i64 t1, .string t2, .int .i64 t3, .int .i64 0]) _ rfl) 3 _ rfl)
                  generalize ((((wx.setCell ⟨gb, 0, none⟩ (.int .i64 t1)).setCell ⟨gb, 1, none⟩ (.string t2)).setCell ⟨gb, 2, none⟩ (.int .i64 t3)).setCell ⟨gb, 3, none⟩ (.int .i64 t4)) = wy at HT2 HXB ⊢
                  clear HT1 HX HBX cz0 cz1 cz2 cz3 fz0 fz1 fz2 fz3
                  obtain ⟨hre0, hrs⟩ := HRF.out
                  have hre : t6 = W.e := hre0
                  clear hre0
                  by_cases he : W.e = 0
                  · have hr := hrs he
                    injection hr with e1 hr
                    injection hr with e2 hr
                    injection hr with e3 hr
                    injection hr with e4 hr
                    injection hr with e5 e6
                    subst e1 e2 e3 e4 e5 e6
                    have hk := HK.out
                    rw [if_neg (fun h => h he)] at hk
                    obtain ⟨hz1, hz2⟩ := HZ.out he
                    rw [HDZ.out] at hk
                    have HK := Aside0.mk hk
                    have HZ1 := Aside0.mk hz1
                    have HZ2 := Aside0.mk hz2
                    have hwz : wrap64 ((i : Int) + (W.z : Int)) = ((i + W.z : Nat) : Int) := by rw [IntWalk.wrap64_in _ ⟨by omega, by have := HS.out; omega⟩]; omega
                    clear hk hre hrs he hz1 hz2 HRF HZ HDZ HWE
                    have cy3 : wy.cell? ⟨gb, 3, none⟩ = some (.int .i64 0) := (blk_cell HXB.out 3).trans rfl
                    have fy3 := blk_frozen HXB.out 3
                    go_upto_region 18 with (fail)
                    have HT3 := Aside0.mk (HT2.out.setx (gb := gb) rfl HG0.out 3 (.int .i64 l))
                    have HXC := Aside0.mk (show (wy.setCell ⟨gb, 3, none⟩ (.int .i64 l)).heap[gb]? = some (.cells #[.int .i64 W.k, .string W.t, .int .i64 W.n, .int .i64 l] 41 (0, 0)) from blk_put HXB.out 3 _ rfl)
                    generalize wy.setCell ⟨gb, 3, none⟩ (.int .i64 l) = wq at HT3 HXC ⊢
                    clear HT2 HXB cy3 fy3
                    have d0 : wq.cell? ⟨gb, 0, none⟩ = some (.int .i64 W.k) := (blk_cell HXC.out 0).trans rfl
                    have d1 : wq.cell? ⟨gb, 1, none⟩ = some (.string W.t) := (blk_cell HXC.out 1).trans rfl
                    have d2 : wq.cell? ⟨gb, 2, none⟩ = some (.int .i64 W.n) := (blk_cell HXC.out 2).trans rfl
                    have d3 : wq.cell? ⟨gb, 3, none⟩ = some (.int .i64 l) := (blk_cell HXC.out 3).trans rfl
                    have HWL := Aside0.mk HT3.out.bel.size
                    obtain ⟨yn, hyn⟩ : ∃ y_, y_ = xs ++ [(⟨W.k, W.t, W.n, l⟩ : S41)] := ⟨_, rfl⟩
                    have HY := Aside0.mk hyn
                    clear hyn
                    go_wp2_with (first | ((with_reducible refine gate_builtin (b := .append) (xs := #[.tmp 92, .tmp 94]) rfl ?_); at_builtin; (refine Kd.R_append k41 (w0 := wq) w.heap.size rfl (.tmp 92) (.tmp 94) 22 41 (.agg #[(.int .i64 0), (.string ⟨#[]⟩), (.int .i64 0), (.int .i64 0)]) 40 rfl Tryz.underlying22 info41 rfl (by decide) (by decide) (.slice A xs.length cc) xs (⟨W.k, W.t, W.n, l⟩ : S41) [.int .i64 W.k, .string W.t, .int .i64 W.n, .int .i64 l] (fun k => g < k ∧ ¬ k = gb) (fun _ => False) rfl ?aX ?aP (fun _ hk => hk.elim) ?aF HT3.out.rr (Below.refl _ _) HWL.out ?aL ?_); (case aX => first | rfl | (go_simp; done) | (go_simp; rfl)); (case aP => exact k41_mkM _ _ _ (⟨W.k, W.t, W.n, l⟩ : S41)); (case aF => exact (fun k hk => ⟨Nat.lt_of_lt_of_le (blk_lt HT3.out.pg) hk, fun e => by have := blk_lt HXC.out; omega⟩)); (case aL => have := HB.out; have := HS.out; omega); (intro v1 w10 hn hb hg hat; rw [← HY.out] at hn; have HT4 := Aside0.mk (HT3.out.push hn hb hg).unmark; obtain ⟨Ao, co, eo⟩ := Kd.R_slice hn; subst eo; clear hn hb hg hat)))
                    go_roundg gm
                    case measure => omega
                    case rel => exact ⟨i + W.z, l, a ++ [⟨W.k, W.t, W.n, l⟩], yn, by first | rfl | rw [hwz], rfl, HK.out, ⟨by have := HB.out; have := HZ1.out; have := HZ2.out; rw [HY.out, List.length_append, List.length_cons, List.length_nil]; omega⟩, ⟨by rw [HY.out, HXS.out, List.map_append]; rfl⟩, HT4⟩
                  · have hk := HK.out
                    rw [if_pos he] at hk
                    have HE := Aside0.mk (Option.some.inj hk).symm
                    rw [← hre] at he HE
                    have h6b : (t6 == 0) = false := beq_eq_false_iff_ne.mpr he
                    have h6n : (t6 != 0) = true := bne_iff_ne.mpr he
                    clear hk he hre hrs HZ HRF HK HXB HWE
                    obtain ⟨c0, c1, f0, f1⟩ := HT2.out.cells
                    go_wp2_with fail
                    exact bodyPost_ret (f8_results _ _ g _ _ _ rfl rfl (HT2.out.fin t6 l).1) rfl ⟨_, by rw [HE.out], by rw [HE.out]; exact Kd.R_nil _ _ _ _ _, (HT2.out.fin t6 l).2.1⟩
              · have b45 : ((c.toNat : Int) == 45) = false := u8n (d := 45) h45
                rw [if_neg (fun h => h45 h.1)] at hk
                have HCC := Aside0.mk (show ¬ (c = 45 ∧ (List.drop (i + 1) s.data.toList).head? = some 45) from fun h => h45 h.1)
                have HKW := Aside0.mk hk
                clear hk h45 HK
                have hk := HKW.out
                obtain ⟨r, hev, href⟩ := HWE.out
                obtain ⟨K, hK⟩ := hev.rounds
                obtain ⟨t1, t2, t3, t4, t5, t6⟩ := r
                have HZ := Aside0.mk (show (wordW readL unqL (c :: List.drop (i + 1) s.data.toList)).e = 0 → 1 ≤ (wordW readL unqL (c :: List.drop (i + 1) s.data.toList)).z ∧ i + (wordW readL unqL (c :: List.drop (i + 1) s.data.toList)).z ≤ s.size from fun he => by
                  obtain ⟨_, _, _, _, h4, _⟩ := word_same (numF := readL) quotesOk HC4.out HCC.out he (show isBl 32 = true from rfl) []
                  rw [List.length_cons, List.length_drop, size_data] at h4
                  have := HI.out
                  exact ⟨word_pos he, by omega⟩)
                have HDZ := Aside0.mk (show ∀ z, (c :: List.drop (i + 1) s.data.toList).drop z = s.data.toList.drop (i + z) from fun z => by
                  rw [← HC.out, ← drop_get HI.out, List.drop_drop])
                generalize wordW readL unqL (c :: List.drop (i + 1) s.data.toList) = W at hk href HZ
                have HRF := Aside0.mk href
                have HK := Aside0.mk hk
                have HCL := Aside0.mk hK
                clear hk hev href hK
                go_wp2_with fail
                refine (tallowref04_word.calls K s i t1 t2 t3 t4 t5 t6 _ HCL.out).mono ?_
                rintro e w2 ⟨rfl, hb⟩
                have HT1 := Aside0.mk (HT.out.below hb)
                clear hb HT
                go_upto_region 15 with ((with_reducible refine gate_dst (N := 7) rfl ?_); refine box_event ?hg (N := 7) ?hd (cs := #[.int .i64 0, .string ⟨#[]⟩, .int .i64 0, .int .i64 0]) (t := 41) ?hr ?_; (case hd => rfl); (case hg => rfl); (case hr => first | (go_simp; done) | (go_simp; rfl)); intro gb hgb wx hbox hbx; have HX := Aside0.mk hbox; have HBX := Aside0.mk hbx; have HGB := Aside0.mk hgb; clear hbox hbx hgb; have cz0 : wx.cell? ⟨gb, 0, none⟩ = some (.int .i64 0) := (blk_cell HX.out 0).trans rfl; have cz1 : wx.cell? ⟨gb, 1, none⟩ = some (.string ⟨#[]⟩) := (blk_cell HX.out 1).trans rfl; have cz2 : wx.cell? ⟨gb, 2, none⟩ = some (.int .i64 0) := (blk_cell HX.out 2).trans rfl; have cz3 : wx.cell? ⟨gb, 3, none⟩ = some (.int .i64 0) := (blk_cell HX.out 3).trans rfl; have fz0 := blk_frozen HX.out 0; have fz1 := blk_frozen HX.out 1; have fz2 := blk_frozen HX.out 2; have fz3 := blk_frozen HX.out 3)
                have HG0 := Aside0.mk (show g < gb from by rw [HGB.out]; exact blk_lt HT1.out.pg)
                have HT2 := Aside0.mk ((((((HT1.out.mark (gb := gb) (Nat.le_of_eq HGB.out.symm)).below HBX.out).setx rfl HG0.out 0 (.int .i64 t1)).setx rfl HG0.out 1 (.string t2)).setx rfl HG0.out 2 (.int .i64 t3)).setx rfl HG0.out 3 (.int .i64 t4))
                have HXB := Aside0.mk (show ((((wx.setCell ⟨gb, 0, none⟩ (.int .i64 t1)).setCell ⟨gb, 1, none⟩ (.string t2)).setCell ⟨gb, 2, none⟩ (.int .i64 t3)).setCell ⟨gb, 3, none⟩ (.int .i64 t4)).heap[gb]? = some (.cells #[.int .i64 t1, .string t2, .int .i64 t3, .int .i64 t4] 41 (0, 0)) from blk_put (blk_put (blk_put (blk_put (cs' := #[.int .i64 t1, .string ⟨#[]⟩, .int .i64 0, .int .i64 0]) HX.out 0 _ rfl) 1 (cs' := #[.int .i64 t1, .string t2, .int .i64 0, .int .i64 0]) _ rfl) 2 (cs' := #[.int .i64 t1, .string t2, .int .i64 t3, .int .i64 0]) _ rfl) 3 _ rfl)
                generalize ((((wx.setCell ⟨gb, 0, none⟩ (.int .i64 t1)).setCell ⟨gb, 1, none⟩ (.string t2)).setCell ⟨gb, 2, none⟩ (.int .i64 t3)).setCell ⟨gb, 3, none⟩ (.int .i64 t4)) = wy at HT2 HXB ⊢
                clear HT1 HX HBX cz0 cz1 cz2 cz3 fz0 fz1 fz2 fz3
                obtain ⟨hre0, hrs⟩ := HRF.out
                have hre : t6 = W.e := hre0
                clear hre0
                by_cases he : W.e = 0
                · have hr := hrs he
                  injection hr with e1 hr
                  injection hr with e2 hr
                  injection hr with e3 hr
                  injection hr with e4 hr
                  injection hr with e5 e6
                  subst e1 e2 e3 e4 e5 e6
                  have hk := HK.out
                  rw [if_neg (fun h => h he)] at hk
                  obtain ⟨hz1, hz2⟩ := HZ.out he
                  rw [HDZ.out] at hk
                  have HK := Aside0.mk hk
                  have HZ1 := Aside0.mk hz1
                  have HZ2 := Aside0.mk hz2
                  have hwz : wrap64 ((i : Int) + (W.z : Int)) = ((i + W.z : Nat) : Int) := by rw [IntWalk.wrap64_in _ ⟨by omega, by have := HS.out; omega⟩]; omega
                  clear hk hre hrs he hz1 hz2 HRF HZ HDZ HWE
                  have cy3 : wy.cell? ⟨gb, 3, none⟩ = some (.int .i64 0) := (blk_cell HXB.out 3).trans rfl
                  have fy3 := blk_frozen HXB.out 3
                  go_upto_region 18 with (fail)
                  have HT3 := Aside0.mk (HT2.out.setx (gb := gb) rfl HG0.out 3 (.int .i64 l))
                  have HXC := Aside0.mk (show (wy.setCell ⟨gb, 3, none⟩ (.int .i64 l)).heap[gb]? = some (.cells #[.int .i64 W.k, .string W.t, .int .i64 W.n, .int .i64 l] 41 (0, 0)) from blk_put HXB.out 3 _ rfl)
                  generalize wy.setCell ⟨gb, 3, none⟩ (.int .i64 l) = wq at HT3 HXC ⊢
                  clear HT2 HXB cy3 fy3
                  have d0 : wq.cell? ⟨gb, 0, none⟩ = some (.int .i64 W.k) := (blk_cell HXC.out 0).trans rfl
                  have d1 : wq.cell? ⟨gb, 1, none⟩ = some (.string W.t) := (blk_cell HXC.out 1).trans rfl
                  have d2 : wq.cell? ⟨gb, 2, none⟩ = some (.int .i64 W.n) := (blk_cell HXC.out 2).trans rfl
                  have d3 : wq.cell? ⟨gb, 3, none⟩ = some (.int .i64 l) := (blk_cell HXC.out 3).trans rfl
                  have HWL := Aside0.mk HT3.out.bel.size
                  obtain ⟨yn, hyn⟩ : ∃ y_, y_ = xs ++ [(⟨W.k, W.t, W.n, l⟩ : S41)] := ⟨_, rfl⟩
                  have HY := Aside0.mk hyn
                  clear hyn
                  go_wp2_with (first | ((with_reducible refine gate_builtin (b := .append) (xs := #[.tmp 92, .tmp 94]) rfl ?_); at_builtin; (refine Kd.R_append k41 (w0 := wq) w.heap.size rfl (.tmp 92) (.tmp 94) 22 41 (.agg #[(.int .i64 0), (.string ⟨#[]⟩), (.int .i64 0), (.int .i64 0)]) 40 rfl Tryz.underlying22 info41 rfl (by decide) (by decide) (.slice A xs.length cc) xs (⟨W.k, W.t, W.n, l⟩ : S41) [.int .i64 W.k, .string W.t, .int .i64 W.n, .int .i64 l] (fun k => g < k ∧ ¬ k = gb) (fun _ => False) rfl ?aX ?aP (fun _ hk => hk.elim) ?aF HT3.out.rr (Below.refl _ _) HWL.out ?aL ?_); (case aX => first | rfl | (go_simp; done) | (go_simp; rfl)); (case aP => exact k41_mkM _ _ _ (⟨W.k, W.t, W.n, l⟩ : S41)); (case aF => exact (fun k hk => ⟨Nat.lt_of_lt_of_le (blk_lt HT3.out.pg) hk, fun e => by have := blk_lt HXC.out; omega⟩)); (case aL => have := HB.out; have := HS.out; omega); (intro v1 w10 hn hb hg hat; rw [← HY.out] at hn; have HT4 := Aside0.mk (HT3.out.push hn hb hg).unmark; obtain ⟨Ao, co, eo⟩ := Kd.R_slice hn; subst eo; clear hn hb hg hat)))
                  go_roundg gm
                  case measure => omega
                  case rel => exact ⟨i + W.z, l, a ++ [⟨W.k, W.t, W.n, l⟩], yn, by first | rfl | rw [hwz], rfl, HK.out, ⟨by have := HB.out; have := HZ1.out; have := HZ2.out; rw [HY.out, List.length_append, List.length_cons, List.length_nil]; omega⟩, ⟨by rw [HY.out, HXS.out, List.map_append]; rfl⟩, HT4⟩
                · have hk := HK.out
                  rw [if_pos he] at hk
                  have HE := Aside0.mk (Option.some.inj hk).symm
                  rw [← hre] at he HE
                  have h6b : (t6 == 0) = false := beq_eq_false_iff_ne.mpr he
                  have h6n : (t6 != 0) = true := bne_iff_ne.mpr he
                  clear hk he hre hrs HZ HRF HK HXB HWE
                  obtain ⟨c0, c1, f0, f1⟩ := HT2.out.cells
                  go_wp2_with fail
                  exact bodyPost_ret (f8_results _ _ g _ _ _ rfl rfl (HT2.out.fin t6 l).1) rfl ⟨_, by rw [HE.out], by rw [HE.out]; exact Kd.R_nil _ _ _ _ _, (HT2.out.fin t6 l).2.1⟩
            · have h1b : decide ((i : Int) + 1 < (s.size : Int)) = false := decide_eq_false (by omega)
              have h1i : ¬ (i : Int) + 1 < (s.size : Int) := by omega
              have hh : (List.drop (i + 1) s.data.toList).head? = none := by rw [List.drop_eq_nil_of_le (by rw [size_data]; omega)]; rfl
              rw [hh, if_neg (fun h => by cases h.2)] at hk
              have HCC := Aside0.mk (show ¬ (c = 45 ∧ (List.drop (i + 1) s.data.toList).head? = some 45) from by rw [hh]; exact fun h => by cases h.2)
              have HKW := Aside0.mk hk
              clear hk hh HK
              have hk := HKW.out
              obtain ⟨r, hev, href⟩ := HWE.out
              obtain ⟨K, hK⟩ := hev.rounds
              obtain ⟨t1, t2, t3, t4, t5, t6⟩ := r
              have HZ := Aside0.mk (show (wordW readL unqL (c :: List.drop (i + 1) s.data.toList)).e = 0 → 1 ≤ (wordW readL unqL (c :: List.drop (i + 1) s.data.toList)).z ∧ i + (wordW readL unqL (c :: List.drop (i + 1) s.data.toList)).z ≤ s.size from fun he => by
                obtain ⟨_, _, _, _, h4, _⟩ := word_same (numF := readL) quotesOk HC4.out HCC.out he (show isBl 32 = true from rfl) []
                rw [List.length_cons, List.length_drop, size_data] at h4
                have := HI.out
                exact ⟨word_pos he, by omega⟩)
              have HDZ := Aside0.mk (show ∀ z, (c :: List.drop (i + 1) s.data.toList).drop z = s.data.toList.drop (i + z) from fun z => by
                rw [← HC.out, ← drop_get HI.out, List.drop_drop])
              generalize wordW readL unqL (c :: List.drop (i + 1) s.data.toList) = W at hk href HZ
              have HRF := Aside0.mk href
              have HK := Aside0.mk hk
              have HCL := Aside0.mk hK
              clear hk hev href hK
              go_wp2_with fail
              refine (tallowref04_word.calls K s i t1 t2 t3 t4 t5 t6 _ HCL.out).mono ?_
              rintro e w2 ⟨rfl, hb⟩
              have HT1 := Aside0.mk (HT.out.below hb)
              clear hb HT
              go_upto_region 15 with ((with_reducible refine gate_dst (N := 7) rfl ?_); refine box_event ?hg (N := 7) ?hd (cs := #[.int .i64 0, .string ⟨#[]⟩, .int .i64 0, .int .i64 0]) (t := 41) ?hr ?_; (case hd => rfl); (case hg => rfl); (case hr => first | (go_simp; done) | (go_simp; rfl)); intro gb hgb wx hbox hbx; have HX := Aside0.mk hbox; have HBX := Aside0.mk hbx; have HGB := Aside0.mk hgb; clear hbox hbx hgb; have cz0 : wx.cell? ⟨gb, 0, none⟩ = some (.int .i64 0) := (blk_cell HX.out 0).trans rfl; have cz1 : wx.cell? ⟨gb, 1, none⟩ = some (.string ⟨#[]⟩) := (blk_cell HX.out 1).trans rfl; have cz2 : wx.cell? ⟨gb, 2, none⟩ = some (.int .i64 0) := (blk_cell HX.out 2).trans rfl; have cz3 : wx.cell? ⟨gb, 3, none⟩ = some (.int .i64 0) := (blk_cell HX.out 3).trans rfl; have fz0 := blk_frozen HX.out 0; have fz1 := blk_frozen HX.out 1; have fz2 := blk_frozen HX.out 2; have fz3 := blk_frozen HX.out 3)
              have HG0 := Aside0.mk (show g < gb from by rw [HGB.out]; exact blk_lt HT1.out.pg)
              have HT2 := Aside0.mk ((((((HT1.out.mark (gb := gb) (Nat.le_of_eq HGB.out.symm)).below HBX.out).setx rfl HG0.out 0 (.int .i64 t1)).setx rfl HG0.out 1 (.string t2)).setx rfl HG0.out 2 (.int .i64 t3)).setx rfl HG0.out 3 (.int .i64 t4))
              have HXB := Aside0.mk (show ((((wx.setCell ⟨gb, 0, none⟩ (.int .i64 t1)).setCell ⟨gb, 1, none⟩ (.string t2)).setCell ⟨gb, 2, none⟩ (.int .i64 t3)).setCell ⟨gb, 3, none⟩ (.int .i64 t4)).heap[gb]? = some (.cells #[.int .i64 t1, .string t2, .int .i64 t3, .int .i64 t4] 41 (0, 0)) from blk_put (blk_put (blk_put (blk_put (cs' := #[.int .i64 t1, .string ⟨#[]⟩, .int .i64 0, .int .i64 0]) HX.out 0 _ rfl) 1 (cs' := #[.int .i64 t1, .string t2, .int .i64 0, .int .i64 0]) _ rfl) 2 (cs' := #[.int .i64 t1, .string t2, .int .i64 t3, .int .i64 0]) _ rfl) 3 _ rfl)
              generalize ((((wx.setCell ⟨gb, 0, none⟩ (.int .i64 t1)).setCell ⟨gb, 1, none⟩ (.string t2)).setCell ⟨gb, 2, none⟩ (.int .i64 t3)).setCell ⟨gb, 3, none⟩ (.int .i64 t4)) = wy at HT2 HXB ⊢
              clear HT1 HX HBX cz0 cz1 cz2 cz3 fz0 fz1 fz2 fz3
              obtain ⟨hre0, hrs⟩ := HRF.out
              have hre : t6 = W.e := hre0
              clear hre0
              by_cases he : W.e = 0
              · have hr := hrs he
                injection hr with e1 hr
                injection hr with e2 hr
                injection hr with e3 hr
                injection hr with e4 hr
                injection hr with e5 e6
                subst e1 e2 e3 e4 e5 e6
                have hk := HK.out
                rw [if_neg (fun h => h he)] at hk
                obtain ⟨hz1, hz2⟩ := HZ.out he
                rw [HDZ.out] at hk
                have HK := Aside0.mk hk
                have HZ1 := Aside0.mk hz1
                have HZ2 := Aside0.mk hz2
                have hwz : wrap64 ((i : Int) + (W.z : Int)) = ((i + W.z : Nat) : Int) := by rw [IntWalk.wrap64_in _ ⟨by omega, by have := HS.out; omega⟩]; omega
                clear hk hre hrs he hz1 hz2 HRF HZ HDZ HWE
                have cy3 : wy.cell? ⟨gb, 3, none⟩ = some (.int .i64 0) := (blk_cell HXB.out 3).trans rfl
                have fy3 := blk_frozen HXB.out 3
                go_upto_region 18 with (fail)
                have HT3 := Aside0.mk (HT2.out.setx (gb := gb) rfl HG0.out 3 (.int .i64 l))
                have HXC := Aside0.mk (show (wy.setCell ⟨gb, 3, none⟩ (.int .i64 l)).heap[gb]? = some (.cells #[.int .i64 W.k, .string W.t, .int .i64 W.n, .int .i64 l] 41 (0, 0)) from blk_put HXB.out 3 _ rfl)
                generalize wy.setCell ⟨gb, 3, none⟩ (.int .i64 l) = wq at HT3 HXC ⊢
                clear HT2 HXB cy3 fy3
                have d0 : wq.cell? ⟨gb, 0, none⟩ = some (.int .i64 W.k) := (blk_cell HXC.out 0).trans rfl
                have d1 : wq.cell? ⟨gb, 1, none⟩ = some (.string W.t) := (blk_cell HXC.out 1).trans rfl
                have d2 : wq.cell? ⟨gb, 2, none⟩ = some (.int .i64 W.n) := (blk_cell HXC.out 2).trans rfl
                have d3 : wq.cell? ⟨gb, 3, none⟩ = some (.int .i64 l) := (blk_cell HXC.out 3).trans rfl
                have HWL := Aside0.mk HT3.out.bel.size
                obtain ⟨yn, hyn⟩ : ∃ y_, y_ = xs ++ [(⟨W.k, W.t, W.n, l⟩ : S41)] := ⟨_, rfl⟩
                have HY := Aside0.mk hyn
                clear hyn
                go_wp2_with (first | ((with_reducible refine gate_builtin (b := .append) (xs := #[.tmp 92, .tmp 94]) rfl ?_); at_builtin; (refine Kd.R_append k41 (w0 := wq) w.heap.size rfl (.tmp 92) (.tmp 94) 22 41 (.agg #[(.int .i64 0), (.string ⟨#[]⟩), (.int .i64 0), (.int .i64 0)]) 40 rfl Tryz.underlying22 info41 rfl (by decide) (by decide) (.slice A xs.length cc) xs (⟨W.k, W.t, W.n, l⟩ : S41) [.int .i64 W.k, .string W.t, .int .i64 W.n, .int .i64 l] (fun k => g < k ∧ ¬ k = gb) (fun _ => False) rfl ?aX ?aP (fun _ hk => hk.elim) ?aF HT3.out.rr (Below.refl _ _) HWL.out ?aL ?_); (case aX => first | rfl | (go_simp; done) | (go_simp; rfl)); (case aP => exact k41_mkM _ _ _ (⟨W.k, W.t, W.n, l⟩ : S41)); (case aF => exact (fun k hk => ⟨Nat.lt_of_lt_of_le (blk_lt HT3.out.pg) hk, fun e => by have := blk_lt HXC.out; omega⟩)); (case aL => have := HB.out; have := HS.out; omega); (intro v1 w10 hn hb hg hat; rw [← HY.out] at hn; have HT4 := Aside0.mk (HT3.out.push hn hb hg).unmark; obtain ⟨Ao, co, eo⟩ := Kd.R_slice hn; subst eo; clear hn hb hg hat)))
                go_roundg gm
                case measure => omega
                case rel => exact ⟨i + W.z, l, a ++ [⟨W.k, W.t, W.n, l⟩], yn, by first | rfl | rw [hwz], rfl, HK.out, ⟨by have := HB.out; have := HZ1.out; have := HZ2.out; rw [HY.out, List.length_append, List.length_cons, List.length_nil]; omega⟩, ⟨by rw [HY.out, HXS.out, List.map_append]; rfl⟩, HT4⟩
              · have hk := HK.out
                rw [if_pos he] at hk
                have HE := Aside0.mk (Option.some.inj hk).symm
                rw [← hre] at he HE
                have h6b : (t6 == 0) = false := beq_eq_false_iff_ne.mpr he
                have h6n : (t6 != 0) = true := bne_iff_ne.mpr he
                clear hk he hre hrs HZ HRF HK HXB HWE
                obtain ⟨c0, c1, f0, f1⟩ := HT2.out.cells
                go_wp2_with fail
                exact bodyPost_ret (f8_results _ _ g _ _ _ rfl rfl (HT2.out.fin t6 l).1) rfl ⟨_, by rw [HE.out], by rw [HE.out]; exact Kd.R_nil _ _ _ _ _, (HT2.out.fin t6 l).2.1⟩
      · have hib : decide ((i : Int) < (s.size : Int)) = false := decide_eq_false (by omega)
        have hii : ¬ (i : Int) < (s.size : Int) := by omega
        rw [List.drop_eq_nil_of_le (by rw [size_data]; omega)] at hk
        have hk2 : some (a ++ [(⟨5, ⟨#[]⟩, 0, l⟩ : Tk)], (0 : Int), (0 : Int)) = some res := hk
        have HE := Aside0.mk (Option.some.inj hk2).symm
        have HWL := Aside0.mk HT.out.bel.size
        clear hk hk2
        obtain ⟨wq, hwq⟩ : ∃ x, x = wr := ⟨wr, rfl⟩
        subst hwq
        go_wp2_with (first | ((with_reducible refine gate_builtin (b := .append) (xs := #[.tmp 99, .tmp 102]) rfl ?_); at_builtin; (refine Kd.R_append k41 (w0 := wq) w.heap.size rfl (.tmp 99) (.tmp 102) 22 41 (.agg #[(.int .i64 0), (.string ⟨#[]⟩), (.int .i64 0), (.int .i64 0)]) 40 rfl Tryz.underlying22 info41 rfl (by decide) (by decide) (.slice A xs.length cc) xs (⟨5, ⟨#[]⟩, 0, l⟩ : S41) [.int .i64 5, .string ⟨#[]⟩, .int .i64 0, .int .i64 l] (fun k => g < k ∧ ¬ False) (fun _ => False) rfl ?aX ?aP (fun _ hk => hk.elim) ?aF HT.out.rr (Below.refl _ _) HWL.out ?aL ?_); (case aX => first | rfl | (go_simp; done) | (go_simp; rfl)); (case aP => exact k41_mkM _ _ _ (⟨5, ⟨#[]⟩, 0, l⟩ : S41)); (case aF => exact (fun k hk => ⟨Nat.lt_of_lt_of_le (blk_lt HT.out.pg) hk, fun e => e⟩)); (case aL => have := HB.out; have := HS.out; omega); (intro v1 w10 hn hb hg hat; have HT4 := Aside0.mk (HT.out.push hn hb hg); clear hn hb hg hat; obtain ⟨c0, c1, f0, f1⟩ := HT4.out.cells)))
        exact bodyPost_ret (f8_results _ _ g _ _ _ rfl rfl (HT4.out.fin 0 0).1) rfl ⟨_, by rw [HE.out], by rw [HE.out, List.map_append, ← HXS.out]; exact (HT4.out.fin 0 0).2.2, (HT4.out.fin 0 0).2.1⟩
end Go.Proofs.YtlbaejihlcfpeaaGreatDoor.G
end
