import Derived.LaidMore
import Derived.LaidHandle
import Derived.Stop.Joined
import Derived.Lib.IfaceEq
import Derived.Lib.ItoaLen
import Derived.Shelf.Strings.MapGrows
import Derived.Shelf.Abstract
import Derived.LaidEql
import Derived.Stop.Asserts
import Derived.RowKitTokens
import Derived.Lib.LaidTab
import Derived.Lib.AppendIntMem
import Derived.Stop.LaidErr
import Derived.WalkKit
import Derived.Deep.RegionLaw
import Derived.Deep.Cut
import Derived.WalkSpells
import Derived.Test.YtnombbcgdfgadaaDoorPKnS
import Derived.Lib.Hide
set_option linter.unusedVariables false
set_option linter.unusedSimpArgs false
section
namespace Go.Proofs.YtnombbcgdfgadaaDoor.G
open Go.Shelf Go.Extern.Stop Go.Stop Go.Extern Go.RowKit Go.Proofs.YtnombbcgdfgadaaDoorW.PrintWords Go.Proofs.YtnombbcgdfgadaaDoorW.PrintLast Go.Proofs.YtnombbcgdfgadaaDoorW.PrintMore
set_option linter.unusedVariables false
set_option linter.unusedSimpArgs false
def srcB : ByteArray := ⟨#[115, 111, 117, 114, 99, 101]⟩
def runF : Nat → Int → List S44 → ByteArray → Option (ByteArray × List S44 × Int × Int)
  | 0, _, _, _ => none
  | k + 1, a, xs, t =>
    if (cutF t).2.2 = true ∧ (cutF t).1.toList = srcB.toList then (if (cutF t).2.1.size > 32768 then some (⟨#[]⟩, [], 3, a) else some ((cutF t).2.1, xs, 0, 0))
    else if (stepF (cutF t).1 5 0).2.2 ≠ 0 then some (⟨#[]⟩, [], (stepF (cutF t).1 5 0).2.2, a)
    else if 4096 ≤ xs.length then some (⟨#[]⟩, [], 3, a)
    else if (cutF t).2.2 = false then some (⟨#[]⟩, [], 4, a)
    else runF k (wrap64 (a + 1)) (xs ++ [⟨(stepF (cutF t).1 5 0).1, (stepF (cutF t).1 5 0).2.1⟩]) (cutF t).2.1
def FaultV (w w' : World) (ev : Value) (c a : Int) : Prop := (c = 0 ∧ ev = .nilIface) ∨ (c ≠ 0 ∧ ∃ p : Nat, ev = .iface 53 (.pointer (some ⟨p, 0, none⟩)) ∧ w.heap.size ≤ p ∧ w'.heap[p]? = some (.cells #[.int .i64 c, .int .i64 a] 31 (0, 0)))
def script_Parse.f (k : Nat) (text : ByteArray) : Option (ByteArray × List S44 × Int × Int) := if text.size ≤ 140737488353280 then runF k 0 [] text else none
structure PS (w : World) (vt vr vs va : Nat) (X : Nat → Prop) (t : ByteArray) (sv rv : Value) (xs : List S44) (a : Int) (wr : World) : Prop where
  bel : Below w.heap.size w wr
  pt : wr.heap[vt]? = some (.cells #[.string t] 9 (0, 0))
  pr : wr.heap[vr]? = some (.cells #[.string ⟨#[]⟩, .slice none 0 0] 24 (0, 0))
  ps : wr.heap[vs]? = some (.cells #[.string ⟨#[]⟩, sv] 24 (0, 0))
  pa : wr.heap[va]? = some (.cells #[.int .i64 a] 3 (0, 0))
  rr : Kd.R k44 44 wr w.heap.size (fun k => va < k ∧ ¬ X k) rv xs
  h1 : w.heap.size ≤ vt
  h2 : vt < vr
  h3 : vr < vs
  h4 : vs < va
section
variable {w wr w1 : World} {vt vr vs va : Nat} {X : Nat → Prop} {t : ByteArray} {sv rv : Value} {xs : List S44} {a : Int}
theorem PS.below (h : PS w vt vr vs va X t sv rv xs a wr) (hb : Below wr.heap.size wr w1) : PS w vt vr vs va X t sv rv xs a w1 :=
  ⟨below_step h.bel hb, blk_below h.pt hb, blk_below h.pr hb, blk_below h.ps hb, blk_below h.pa hb, Kd.R_below h.rr hb, h.h1, h.h2, h.h3, h.h4⟩
theorem PS.drew (h : PS w vt vr vs va X t sv rv xs a wr) : PS w vt vr vs va X t sv rv xs a wr.drew := h.below (below_drew (Below.refl _ _))
theorem PS.cut {t' : ByteArray} (h : PS w vt vr vs va X t sv rv xs a wr) (ht : w1.heap[vt]? = some (.cells #[.string t'] 9 (0, 0))) (hb : Below w.heap.size w w1) (hk : KeepBut wr w1 vt none) : PS w vt vr vs va X t' sv rv xs a w1 :=
  ⟨hb, ht, (hk.2 _ (blk_lt h.pr) (by have := h.h2; omega) (by simp)).trans h.pr, (hk.2 _ (blk_lt h.ps) (by have := h.h2; have := h.h3; omega) (by simp)).trans h.ps, (hk.2 _ (blk_lt h.pa) (by have := h.h2; have := h.h3; have := h.h4; omega) (by simp)).trans h.pa,
    Kd.R_keep h.rr hk (fun k hk => by have := h.h2; have := h.h3; have := h.h4; omega), h.h1, h.h2, h.h3, h.h4⟩
theorem PS.mark {gb : Nat} (h : PS w vt vr vs va (fun _ => False) t sv rv xs a wr) (hgb : wr.heap.size ≤ gb) : PS w vt vr vs va (fun k => k = gb) t sv rv xs a wr :=
  ⟨h.bel, h.pt, h.pr, h.ps, h.pa, Kd.R_mono (Kd.R_bound h.rr) (fun k hk => ⟨hk.1.1, fun e => by have := hk.2.2.1; omega⟩), h.h1, h.h2, h.h3, h.h4⟩
theorem PS.unmark (h : PS w vt vr vs va X t sv rv xs a wr) : PS w vt vr vs va (fun _ => False) t sv rv xs a wr :=
  ⟨h.bel, h.pt, h.pr, h.ps, h.pa, Kd.R_mono h.rr (fun k hk => ⟨hk.1, fun e => e⟩), h.h1, h.h2, h.h3, h.h4⟩
theorem PS.setx {gb : Nat} (h : PS w vt vr vs va X t sv rv xs a wr) (hx : X gb) (hgb : va < gb) (j : Nat) (u : Value) : PS w vt vr vs va X t sv rv xs a (wr.setCell ⟨gb, j, none⟩ u) :=
  ⟨below_set h.bel (by have := h.h1; have := h.h2; have := h.h3; have := h.h4; omega), blk_far h.pt (by have := h.h2; have := h.h3; have := h.h4; show vt ≠ gb; omega) _, blk_far h.pr (by have := h.h3; have := h.h4; show vr ≠ gb; omega) _, blk_far h.ps (by have := h.h4; show vs ≠ gb; omega) _, blk_far h.pa (by show va ≠ gb; omega) _,
    Kd.R_far h.rr (p := ⟨gb, j, none⟩) (fun k hk e => hk.2 (by have : k = gb := e; rw [this]; exact hx)) _, h.h1, h.h2, h.h3, h.h4⟩
theorem PS.push {v1 : Value} {ys : List S44} (h : PS w vt vr vs va X t sv rv xs a wr) (hn : Kd.R k44 44 w1 w.heap.size (fun k => va < k ∧ ¬ X k) v1 ys) (hb : Below w.heap.size wr w1) (hg : wr.grownBy w1 rv.ownBlock) : PS w vt vr vs va X t sv v1 ys a w1 :=
  ⟨h.bel.trans hb, blk_grown h.pt hg (Kd.R_away h.rr (fun k hk => by have := h.h2; have := h.h3; have := h.h4; omega)), blk_grown h.pr hg (Kd.R_away h.rr (fun k hk => by have := h.h3; have := h.h4; omega)), blk_grown h.ps hg (Kd.R_away h.rr (fun k hk => by have := h.h4; omega)), blk_grown h.pa hg (Kd.R_away h.rr (fun k hk => by omega)), hn, h.h1, h.h2, h.h3, h.h4⟩
theorem PS.put (h : PS w vt vr vs va X t sv rv xs a wr) (u : Value) : PS w vt vr vs va X t u rv xs a (wr.setCell ⟨vs, 1, none⟩ u) :=
  ⟨below_set h.bel (by have := h.h1; have := h.h2; have := h.h3; omega), blk_far h.pt (by have := h.h2; have := h.h3; show vt ≠ vs; omega) _, blk_far h.pr (by have := h.h3; show vr ≠ vs; omega) _, blk_put h.ps 1 _ rfl, blk_far h.pa (by have := h.h4; show va ≠ vs; omega) _,
    Kd.R_far h.rr (p := ⟨vs, 1, none⟩) (fun k hk => by have := h.h4; show k ≠ vs; omega) _, h.h1, h.h2, h.h3, h.h4⟩
theorem PS.step (h : PS w vt vr vs va X t sv rv xs a wr) (b : Int) : PS w vt vr vs va X t sv rv xs b (wr.setCell ⟨va, 0, none⟩ (.int .i64 b)) :=
  ⟨below_set h.bel (by have := h.h1; have := h.h2; have := h.h3; have := h.h4; omega), blk_far h.pt (by have := h.h2; have := h.h3; have := h.h4; show vt ≠ va; omega) _, blk_far h.pr (by have := h.h3; have := h.h4; show vr ≠ va; omega) _, blk_far h.ps (by have := h.h4; show vs ≠ va; omega) _, blk_put h.pa 0 _ rfl,
    Kd.R_far h.rr (p := ⟨va, 0, none⟩) (fun k hk => by show k ≠ va; omega) _, h.h1, h.h2, h.h3, h.h4⟩
end
theorem f8_results (a : Array Value) (w : World) (P : Nat) (t v x : Value) (h2 : a.getD 2 undef = .pointer (some ⟨P, 0, none⟩)) (h3 : a.getD 3 undef = x) (hp : w.heap[P]? = some (.cells #[t, v] 24 (0, 0))) :
    (results Tryd.f8 a).run Tryd.prog w = .ok (.tuple #[.agg #[t, v], x]) w := by
  have cp : w.cell? ⟨P, 0, none⟩ = some t := (blk_cell hp 0).trans rfl
  have cq : w.cell? ⟨P, 1, none⟩ = some v := (blk_cell hp 1).trans rfl
  have h2' : a[2]?.getD undef = .pointer (some ⟨P, 0, none⟩) := by simpa using h2
  have h3' : a[3]?.getD undef = x := by simpa using h3
  simp [results, Tryd.results8, h2', h3', asAddr, go_sem, cp, cq]
theorem cutF_size (s : ByteArray) : (cutF s).1.size ≤ s.size ∧ (cutF s).2.1.size ≤ s.size := by
  unfold cutF
  split
  · constructor
    · show (s.extract 0 _).size ≤ _
      rw [ByteArray.size_extract]; omega
    · show (s.extract _ s.size).size ≤ _
      rw [ByteArray.size_extract]; omega
  · exact ⟨Nat.le_refl _, Nat.zero_le _⟩
section
variable {w wr w1 : World} {vt vr vs va : Nat} {X : Nat → Prop} {t : ByteArray} {sv rv : Value} {xs : List S44} {a : Int}
theorem PS.end_fault (h : PS w vt vr vs va X t sv rv xs a wr) {p : Nat} {c : Int} (hb : Below wr.heap.size wr w1) (hp : wr.heap.size ≤ p) (hpp : w1.heap[p]? = some (.cells #[.int .i64 c, .int .i64 a] 31 (0, 0))) (hc : c ≠ 0) :
    ((w1.setCell ⟨vr, 0, none⟩ (.string ⟨#[]⟩)).setCell ⟨vr, 1, none⟩ (.slice none 0 0)).heap[vr]? = some (.cells #[.string ⟨#[]⟩, .slice none 0 0] 24 (0, 0)) ∧ Kd.R k44 44 ((w1.setCell ⟨vr, 0, none⟩ (.string ⟨#[]⟩)).setCell ⟨vr, 1, none⟩ (.slice none 0 0)) w.heap.size (fun k => w.heap.size ≤ k) (.slice none 0 0) [] ∧
      FaultV w ((w1.setCell ⟨vr, 0, none⟩ (.string ⟨#[]⟩)).setCell ⟨vr, 1, none⟩ (.slice none 0 0)) (.iface 53 (.pointer (some ⟨p, 0, none⟩))) c a ∧ Below w.heap.size w ((w1.setCell ⟨vr, 0, none⟩ (.string ⟨#[]⟩)).setCell ⟨vr, 1, none⟩ (.slice none 0 0)) := by
  have hlt := blk_lt h.pr
  have h1 := h.h1
  have h2 := h.h2
  have h0 := h.bel.size
  have hne : p ≠ vr := by omega
  refine ⟨blk_put (blk_put (cs' := #[.string ⟨#[]⟩, .slice none 0 0]) (blk_below h.pr hb) 0 _ rfl) 1 _ rfl, Kd.R_nil _ _ _ _ _, .inr ⟨hc, p, rfl, by omega, blk_far (p := ⟨vr, 1, none⟩) (blk_far (p := ⟨vr, 0, none⟩) hpp hne _) hne _⟩, below_set (below_set (below_step h.bel hb) (by omega)) (by omega)⟩
theorem PS.end_ok (h : PS w vt vr vs va X t sv rv xs a wr) (r : ByteArray) (v : Value) :
    ((((wr.setCell ⟨vs, 0, none⟩ (.string r)).setCell ⟨vr, 0, none⟩ (.string r)).setCell ⟨vr, 1, none⟩ v).heap[vr]? = some (.cells #[.string r, v] 24 (0, 0))) ∧ Kd.R k44 44 (((wr.setCell ⟨vs, 0, none⟩ (.string r)).setCell ⟨vr, 0, none⟩ (.string r)).setCell ⟨vr, 1, none⟩ v) w.heap.size (fun k => w.heap.size ≤ k) rv xs ∧ Below w.heap.size w (((wr.setCell ⟨vs, 0, none⟩ (.string r)).setCell ⟨vr, 0, none⟩ (.string r)).setCell ⟨vr, 1, none⟩ v) := by
  have h1 := h.h1
  have h2 := h.h2
  have h3 := h.h3
  have h4 := h.h4
  refine ⟨blk_put (blk_put (cs' := #[.string r, .slice none 0 0]) (blk_far h.pr (by show vr ≠ vs; omega) _) 0 _ rfl) 1 _ rfl, ?_, below_set (below_set (below_set h.bel (by omega)) (by omega)) (by omega)⟩
  exact Kd.R_mono (Kd.R_far (p := ⟨vr, 1, none⟩) (Kd.R_far (p := ⟨vr, 0, none⟩) (Kd.R_far (p := ⟨vs, 0, none⟩) h.rr (fun k hk => by show k ≠ vs; omega) _) (fun k hk => by show k ≠ vr; omega) _) (fun k hk => by show k ≠ vr; omega) _) (fun k hk => by omega)
end
set_option maxHeartbeats 4000000 in
set_option maxRecDepth 100000 in
theorem script_Parse.calls (k : Nat) (text : ByteArray) (T : ByteArray) (zs : List S44) (c af : Int) (w : World) (hL : Laid w) (h : script_Parse.f k text = some (T, zs, c, af)) :
    Calls Tryd.prog 8 #[.string text] w fun e w' => ∃ v ev : Value, e = .returned (.tuple #[.agg #[.string T, v], ev]) ∧ Kd.R k44 44 w' w.heap.size (fun k => w.heap.size ≤ k) v zs ∧ FaultV w w' ev c af ∧ Below w.heap.size w w' := by
  have HL := Aside0.mk hL
  clear hL
  unfold script_Parse.f at h
  by_cases hs : text.size ≤ 140737488353280
  · rw [if_pos hs] at h
    have HS := Aside0.mk hs
    have HF := Aside0.mk h
    clear h hs
    go_enter Tryd.func8, Tryd.ntmps8
    go_upto_region 1 with (fail)
    have HP1 : ∃ vt vr w1, (w.alloc (.cells #[.string text] 9)).alloc (.cells #[.string ⟨#[]⟩, .slice none 0 0] 24) = w1 ∧ w.heap.size + 1 = vr ∧ w.heap.size = vt ∧ vt < vr ∧ w1.heap.size = vr + 1 ∧ Below w.heap.size w w1 ∧ w1.heap[vt]? = some (.cells #[.string text] 9 (0, 0)) ∧ w1.heap[vr]? = some (.cells #[.string ⟨#[]⟩, .slice none 0 0] 24 (0, 0)) :=
      ⟨_, _, _, rfl, rfl, rfl, Nat.lt_succ_self _, by simp, below_alloc (below_alloc (Below.refl _ _) _) _, blk_alloc (blk_new _ _) _, by simpa using blk_new (w.alloc (.cells #[.string text] 9)) (.cells #[.string ⟨#[]⟩, .slice none 0 0] 24 (0, 0))⟩
    obtain ⟨vt, vr, w1, e1, e2, e3, h1, h2, hb, h3, h4⟩ := HP1
    rw [e1, e2, e3]
    have HT := Aside0.mk (Nat.le_of_eq e3)
    clear e1 e2 e3
    have H1 := Aside0.mk h1
    have HB1 := Aside0.mk hb
    have HT1 := Aside0.mk h3
    have HR1 := Aside0.mk h4
    clear h1 h2 hb h3 h4
    go_upto_region 2 with (fail)
    obtain ⟨w2, hw2⟩ : ∃ x, x = w1.alloc (.cells #[.string ⟨#[]⟩, .slice none 0 0] 24) := ⟨_, rfl⟩
    rw [← hw2]
    obtain ⟨vs, hvs⟩ : ∃ x, x = w1.heap.size := ⟨_, rfl⟩
    rw [← hvs]
    have HB2 := Aside0.mk (show Below w.heap.size w w2 from by rw [hw2]; exact below_alloc HB1.out _)
    have HT2 := Aside0.mk (show w2.heap[vt]? = some (.cells #[.string text] 9 (0, 0)) from by rw [hw2]; exact blk_alloc HT1.out _)
    have HR2 := Aside0.mk (show w2.heap[vr]? = some (.cells #[.string ⟨#[]⟩, .slice none 0 0] 24 (0, 0)) from by rw [hw2]; exact blk_alloc HR1.out _)
    have HS2 := Aside0.mk (show w2.heap[vs]? = some (.cells #[.string ⟨#[]⟩, .slice none 0 0] 24 (0, 0)) from by rw [hw2, hvs]; exact blk_new _ _)
    have HVS := Aside0.mk (show vr < vs from by rw [hvs]; exact blk_lt HR1.out)
    clear hw2 hvs HB1 HT1 HR1
    go_upto_region 3 with (fail)
    obtain ⟨w3, hw3⟩ : ∃ x, x = w2.alloc (.cells #[.int .i64 0] 3) := ⟨_, rfl⟩
    rw [← hw3]
    obtain ⟨va, hva⟩ : ∃ x, x = w2.heap.size := ⟨_, rfl⟩
    rw [← hva]
    have HP := Aside0.mk (show PS w vt vr vs va (fun _ => False) text (.slice none 0 0) (.slice none 0 0) [] 0 w3 from by
      rw [hw3]
      exact ⟨below_alloc HB2.out _, blk_alloc HT2.out _, blk_alloc HR2.out _, blk_alloc HS2.out _, by rw [hva]; exact blk_new _ _, Kd.R_nil _ _ _ _ _, HT.out, H1.out, HVS.out, by rw [hva]; exact blk_lt HS2.out⟩)
    clear hw3 hva HB2 HT2 HR2 HS2 HVS HT H1
    go_wp2_with fail
    go_loopg [8] k (fun kq v8 wr => ∃ (a : Int) (t : ByteArray) (sv : Value) (xs : List S44), Aside0 (runF kq a xs t = some (T, zs, c, af)) ∧ Aside0 (t.size ≤ 140737488353280) ∧ Aside0 (PS w vt vr vs va (fun _ => False) t sv sv xs a wr))
    case atStart => exact ⟨0, text, .slice none 0 0, [], HF, HS, HP⟩
    case round =>
      clear HP HF HS
      obtain ⟨a, t, sv, xs, HA, HT, HP⟩ := hrel
      obtain ⟨A, cc, rfl⟩ := Kd.R_slice HP.out.rr
      cases gk with
      | zero => exact absurd HA.out (by simp [runF])
      | succ k1 =>
        go_wp2_with fail
        refine (cutc_any vt t w wr (by have := HT.out; omega) HP.out.pt HP.out.bel HP.out.h1).mono ?_
        rintro e w4 ⟨rfl, ht, hb, hk⟩
        have HP4 := Aside0.mk (HP.out.cut ht hb hk)
        have hA := HA.out
        unfold runF at hA
        have hz := cutF_size t
        clear ht hb hk HP HA
        generalize cutF t = q at hA hz HP4 ⊢
        obtain ⟨line, rest, more⟩ := q
        dsimp only at hA hz HP4 ⊢
        have HZL := Aside0.mk (Nat.le_trans hz.1 HT.out)
        have HZR := Aside0.mk (Nat.le_trans hz.2 HT.out)
        clear hz HT
        have ct : w4.cell? ⟨vt, 0, none⟩ = some (.string rest) := (blk_cell HP4.out.pt 0).trans rfl
        go_upto_region 7 with (fail)
        go_cut [25] (fun v25 wc => ∃ x25 : Bool, v25 = .bool x25 ∧ Aside0 (x25 = (more && (line.toList == srcB.toList))) ∧ wc = w4)
        case first =>
          cases more with
          | false =>
            go_wp2
            go_meet
            case rel => exact ⟨false, rfl, ⟨rfl⟩, rfl⟩
          | true =>
            have hsr : srcB.toList = [115, 111, 117, 114, 99, 101] := ByteArray.toList_mk _
            go_wp2
            go_meet
            case rel => exact ⟨_, rfl, ⟨by rw [hsr]; rfl⟩, rfl⟩
        case rest =>
          clear ct
          obtain ⟨x25, rfl, HX, rfl⟩ := hcut
          have ct : wc.cell? ⟨vt, 0, none⟩ = some (.string rest) := (blk_cell HP4.out.pt 0).trans rfl
          cases x25 with
          | true =>
            have hx := HX.out
            obtain ⟨rfl, hl⟩ : more = true ∧ line.toList = srcB.toList := by
              have := hx.symm
              rw [Bool.and_eq_true] at this
              exact ⟨this.1, beq_iff_eq.mp this.2⟩
            rw [if_pos ⟨rfl, hl⟩] at hA
            clear hx HX hl
            by_cases hbig : rest.size > 32768
            · rw [if_pos hbig] at hA
              have hbb : decide ((rest.size : Int) > 32768) = true := decide_eq_true (by omega)
              have hbb' : decide ((32768 : Int) < (rest.size : Int)) = true := decide_eq_true (by omega)
              clear hbig
              simp only [Option.some.injEq, Prod.mk.injEq] at hA
              obtain ⟨rfl, rfl, rfl, rfl⟩ := hA
              go_wp2_with fail
              refine (fault_any 3 a va wc (Laid.below HP4.out.bel HL.out) HP4.out.pa).mono ?_
              rintro e wf ⟨p, rfl, hp, hpp, hb⟩
              have HE := Aside0.mk (HP4.out.end_fault hb hp hpp (by decide))
              have HVF := Aside0.mk (blk_below HP4.out.pr hb)
              clear hp hpp hb
              have p0 : wf.cell? ⟨vr, 0, none⟩ = some (.string ⟨#[]⟩) := (blk_cell HVF.out 0).trans rfl
              have p1 : wf.cell? ⟨vr, 1, none⟩ = some (.slice none 0 0) := (blk_cell HVF.out 1).trans rfl
              have f0 := blk_frozen HVF.out 0
              have f1 := blk_frozen HVF.out 1
              go_wp2_with fail
              exact bodyPost_ret (f8_results _ _ vr _ _ _ rfl rfl HE.out.1) rfl ⟨_, _, rfl, HE.out.2⟩
            · rw [if_neg hbig] at hA
              have hbb : decide ((rest.size : Int) > 32768) = false := decide_eq_false (by omega)
              have hbb' : decide ((32768 : Int) < (rest.size : Int)) = false := decide_eq_false (by omega)
              clear hbig
              simp only [Option.some.injEq, Prod.mk.injEq] at hA
              obtain ⟨rfl, rfl, rfl, rfl⟩ := hA
              have HE := Aside0.mk (HP4.out.end_ok rest (.slice A xs.length cc))
              have s0 : wc.cell? ⟨vs, 0, none⟩ = some (.string ⟨#[]⟩) := (blk_cell HP4.out.ps 0).trans rfl
              have s1 : wc.cell? ⟨vs, 1, none⟩ = some (.slice A xs.length cc) := (blk_cell HP4.out.ps 1).trans rfl
              have g0 := blk_frozen HP4.out.ps 0
              have g1 := blk_frozen HP4.out.ps 1
              have n1 : vs ≠ vr := Nat.ne_of_gt HP4.out.h3
              have n2 : vr ≠ vs := Nat.ne_of_lt HP4.out.h3
              have p0 : wc.cell? ⟨vr, 0, none⟩ = some (.string ⟨#[]⟩) := (blk_cell HP4.out.pr 0).trans rfl
              have p1 : wc.cell? ⟨vr, 1, none⟩ = some (.slice none 0 0) := (blk_cell HP4.out.pr 1).trans rfl
              have f0 := blk_frozen HP4.out.pr 0
              have f1 := blk_frozen HP4.out.pr 1
              go_wp2_with fail
              exact bodyPost_ret (f8_results _ _ vr _ _ _ rfl rfl HE.out.1) rfl ⟨_, _, rfl, HE.out.2.1, .inl ⟨rfl, rfl⟩, HE.out.2.2⟩
          | false =>
            have hx := HX.out
            rw [if_neg (by rintro ⟨rfl, hl⟩; rw [hl, beq_self_eq_true] at hx; cases hx)] at hA
            clear hx HX ct
            go_wp2_with fail
            refine (step_any line wc (Laid.below HP4.out.bel HL.out) HZL.out).mono ?_
            rintro e w5 ⟨rfl, hb⟩
            have HP5 := Aside0.mk (HP4.out.below hb)
            clear hb HP4 HZL
            generalize stepF line 5 0 = d at hA ⊢
            obtain ⟨dk, dn, dc⟩ := d
            dsimp only at hA ⊢
            go_upto_region 13 with ((with_reducible refine gate_dst (N := 10) rfl ?_); refine box_event ?hg (N := 10) ?hd (cs := #[.int .i64 0, .int .i64 0]) (t := 44) ?hr ?_; (case hd => rfl); (case hg => rfl); (case hr => first | (go_simp; done) | (go_simp; rfl)); intro gb hgb wx hbox hbx; have HX := Aside0.mk hbox; have HBX := Aside0.mk hbx; have HGB := Aside0.mk hgb; clear hbox hbx hgb; have cz0 : wx.cell? ⟨gb, 0, none⟩ = some (.int .i64 0) := (blk_cell HX.out 0).trans rfl; have cz1 : wx.cell? ⟨gb, 1, none⟩ = some (.int .i64 0) := (blk_cell HX.out 1).trans rfl; have fz0 := blk_frozen HX.out 0; have fz1 := blk_frozen HX.out 1)
            have HGQ := Aside0.mk (show va < gb from by have := blk_lt HP5.out.pa; have := HGB.out; omega)
            have HP6 := (HP5.out.mark (gb := gb) (Nat.le_of_eq HGB.out.symm)).below HBX.out
            have HP := Aside0.mk ((HP6.setx rfl HGQ.out 0 (.int .i64 dk)).setx rfl HGQ.out 1 (.int .i64 dn))
            have HXB := Aside0.mk (show ((wx.setCell ⟨gb, 0, none⟩ (.int .i64 dk)).setCell ⟨gb, 1, none⟩ (.int .i64 dn)).heap[gb]? = some (.cells #[.int .i64 dk, .int .i64 dn] 44 (0, 0)) from blk_put (blk_put (cs' := #[.int .i64 dk, .int .i64 0]) HX.out 0 _ rfl) 1 _ rfl)
            generalize ((wx.setCell ⟨gb, 0, none⟩ (.int .i64 dk)).setCell ⟨gb, 1, none⟩ (.int .i64 dn)) = wy at HP HXB ⊢
            clear HP5 HP6 HX HBX HGB cz0 cz1 fz0 fz1
            by_cases hdc : dc = 0
            · rw [if_neg (fun h => h hdc)] at hA
              subst hdc
              rw [errV_nil]
              have s1 : wy.cell? ⟨vs, 1, none⟩ = some (.slice A xs.length cc) := (blk_cell HP.out.ps 1).trans rfl
              by_cases hlen : 4096 ≤ xs.length
              · rw [if_pos hlen] at hA
                have hlb : decide ((xs.length : Int) ≥ 4096) = true := decide_eq_true (by omega)
                have hlb' : decide ((4096 : Int) ≤ (xs.length : Int)) = true := decide_eq_true (by omega)
                clear hlen
                simp only [Option.some.injEq, Prod.mk.injEq] at hA
                obtain ⟨rfl, rfl, rfl, rfl⟩ := hA
                go_wp2_with fail
                refine (fault_any 3 a va wy (Laid.below HP.out.bel HL.out) HP.out.pa).mono ?_
                rintro e wf ⟨p, rfl, hp, hpp, hb⟩
                have HE := Aside0.mk (HP.out.end_fault hb hp hpp (by decide))
                have HVF := Aside0.mk (blk_below HP.out.pr hb)
                clear hp hpp hb
                have p0 : wf.cell? ⟨vr, 0, none⟩ = some (.string ⟨#[]⟩) := (blk_cell HVF.out 0).trans rfl
                have p1 : wf.cell? ⟨vr, 1, none⟩ = some (.slice none 0 0) := (blk_cell HVF.out 1).trans rfl
                have f0 := blk_frozen HVF.out 0
                have f1 := blk_frozen HVF.out 1
                go_wp2_with fail
                exact bodyPost_ret (f8_results _ _ vr _ _ _ rfl rfl HE.out.1) rfl ⟨_, _, rfl, HE.out.2⟩
              · rw [if_neg hlen] at hA
                have hlb : decide ((xs.length : Int) ≥ 4096) = false := decide_eq_false (by omega)
                have hlb' : decide ((4096 : Int) ≤ (xs.length : Int)) = false := decide_eq_false (by omega)
                have LMq := Aside0.mk hlen
                clear hlen
                cases more with
                | false =>
                  rw [if_pos rfl] at hA
                  simp only [Option.some.injEq, Prod.mk.injEq] at hA
                  obtain ⟨rfl, rfl, rfl, rfl⟩ := hA
                  go_wp2_with fail
                  refine (fault_any 4 a va wy (Laid.below HP.out.bel HL.out) HP.out.pa).mono ?_
                  rintro e wf ⟨p, rfl, hp, hpp, hb⟩
                  have HE := Aside0.mk (HP.out.end_fault hb hp hpp (by decide))
                  have HVF := Aside0.mk (blk_below HP.out.pr hb)
                  clear hp hpp hb
                  have p0 : wf.cell? ⟨vr, 0, none⟩ = some (.string ⟨#[]⟩) := (blk_cell HVF.out 0).trans rfl
                  have p1 : wf.cell? ⟨vr, 1, none⟩ = some (.slice none 0 0) := (blk_cell HVF.out 1).trans rfl
                  have f0 := blk_frozen HVF.out 0
                  have f1 := blk_frozen HVF.out 1
                  go_wp2_with fail
                  exact bodyPost_ret (f8_results _ _ vr _ _ _ rfl rfl HE.out.1) rfl ⟨_, _, rfl, HE.out.2⟩
                | true =>
                  rw [if_neg (by decide)] at hA
                  obtain ⟨yn, hyn⟩ : ∃ y_, y_ = xs ++ [(⟨dk, dn⟩ : S44)] := ⟨_, rfl⟩
                  rw [← hyn] at hA
                  have HY := Aside0.mk hyn
                  have AL := Aside0.mk hA
                  clear hyn hA
                  have g1 := blk_frozen HP.out.ps 1
                  have cz0 : wy.cell? ⟨gb, 0, none⟩ = some (.int .i64 dk) := (blk_cell HXB.out 0).trans rfl
                  have cz1 : wy.cell? ⟨gb, 1, none⟩ = some (.int .i64 dn) := (blk_cell HXB.out 1).trans rfl
                  have HWL := Aside0.mk HP.out.bel.size
                  go_wp2_with (first | ((with_reducible refine gate_builtin (b := .append) (xs := #[.tmp 69, .tmp 71]) rfl ?_); at_builtin; (refine Kd.R_append k44 (w0 := wy) w.heap.size rfl (.tmp 69) (.tmp 71) 22 44 (.agg #[(.int .i64 0), (.int .i64 0)]) 16 rfl Tryd.underlying22 info44 rfl (by decide) (by decide) (.slice A xs.length cc) xs (⟨dk, dn⟩ : S44) [.int .i64 dk, .int .i64 dn] (fun k => va < k ∧ ¬ k = gb) (fun _ => False) rfl ?aX ?aP (fun _ hk => hk.elim) ?aF HP.out.rr (Below.refl _ _) HWL.out ?aL ?_); (case aX => first | rfl | (go_simp; done) | (go_simp; rfl)); (case aP => exact k44_mkM _ _ _ (⟨dk, dn⟩ : S44)); (case aF => exact (fun k hk => ⟨Nat.lt_of_lt_of_le (blk_lt HP.out.pa) hk, fun e => by have := blk_lt HXB.out; omega⟩)); (case aL => have := LMq.out; omega); (intro v1 w10 hn hb hg hat; rw [← HY.out] at hn; have HP7 := Aside0.mk (HP.out.push hn hb hg).unmark; obtain ⟨Ao, co, eo⟩ := Kd.R_slice hn; subst eo; clear hn hb hg hat; have cp4' : w10.cell? ⟨vs, 1, none⟩ = some (.slice A xs.length cc) := (blk_cell HP7.out.ps 1).trans rfl; have fp4 := blk_frozen HP7.out.ps 1; have ca4 : w10.cell? ⟨va, 0, none⟩ = some (.int .i64 a) := (blk_cell HP7.out.pa 0).trans rfl; have fa4 := blk_frozen HP7.out.pa 0; have nva : va ≠ vs := Nat.ne_of_gt HP7.out.h4; have nva' : vs ≠ va := Nat.ne_of_lt HP7.out.h4)))
                  go_roundg k1
                  case measure => omega
                  case rel => exact ⟨wrap64 (a + 1), rest, _, yn, AL, HZR, ⟨(HP7.out.put _).step _⟩⟩
            · rw [if_pos hdc] at hA
              have hev : errV dc = .iface 29 (.int .i64 dc) := if_neg hdc
              rw [hev]
              simp only [Option.some.injEq, Prod.mk.injEq] at hA
              obtain ⟨rfl, rfl, rfl, rfl⟩ := hA
              go_wp2_with fail
              refine (fault_any dc a va wy (Laid.below HP.out.bel HL.out) HP.out.pa).mono ?_
              rintro e wf ⟨p, rfl, hp, hpp, hb⟩
              have HE := Aside0.mk (HP.out.end_fault hb hp hpp hdc)
              have HVF := Aside0.mk (blk_below HP.out.pr hb)
              clear hp hpp hb
              have p0 : wf.cell? ⟨vr, 0, none⟩ = some (.string ⟨#[]⟩) := (blk_cell HVF.out 0).trans rfl
              have p1 : wf.cell? ⟨vr, 1, none⟩ = some (.slice none 0 0) := (blk_cell HVF.out 1).trans rfl
              have f0 := blk_frozen HVF.out 0
              have f1 := blk_frozen HVF.out 1
              go_wp2_with fail
              exact bodyPost_ret (f8_results _ _ vr _ _ _ rfl rfl HE.out.1) rfl ⟨_, _, rfl, HE.out.2⟩
  · rw [if_neg hs] at h; cases h
end Go.Proofs.YtnombbcgdfgadaaDoor.G
end
