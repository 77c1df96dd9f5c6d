import Derived.LaidMore
import Derived.LaidHandle
import Derived.Stop.Joined
import Derived.Lib.IfaceEq
import Derived.Lib.ItoaLen
import Derived.Shelf.Abstract
import Derived.LaidEql
import Derived.Stop.Asserts
import Derived.RowKitTokens
import Derived.Lib.LaidTab
import Derived.Lib.AppendIntMem
import Derived.Stop.LaidErr
import Derived.WalkKit
import Derived.Deep.RegionLaw
import Derived.Deep.Cut
import Derived.WalkSpells
import Derived.Test.YtnombbcgdfgadaaDoorPKnF
import Derived.Test.YtnombbcgdfgadaaDoorPKnGxF41
import Derived.Test.YtnombbcgdfgadaaDoorPKnShelf3
import Derived.Lib.Hide
set_option linter.unusedVariables false
set_option linter.unusedSimpArgs false
section
namespace Go.Proofs.YtnombbcgdfgadaaDoor.G
open Go.Shelf Go.Extern.Stop Go.Stop Go.Extern Go.RowKit Go.Proofs.YtnombbcgdfgadaaDoorW.PrintWords Go.Proofs.YtnombbcgdfgadaaDoorW.PrintLast Go.Proofs.YtnombbcgdfgadaaDoorW.PrintMore
set_option linter.unusedVariables false
set_option linter.unusedSimpArgs false
def errV (c : Int) : Value := if c = 0 then .nilIface else .iface 29 (.int .i64 c)
def hp (s p : ByteArray) : Bool := Lib.hasPrefix s.data.toList p.data.toList
def cp (s p : ByteArray) : ByteArray := ⟨(Lib.trimPrefix s.data.toList p.data.toList).toArray⟩
theorem cp_size (s p : ByteArray) : (cp s p).size ≤ s.size := by
  show (Lib.trimPrefix s.data.toList p.data.toList).toArray.size ≤ s.size
  rw [List.size_toArray]
  unfold Lib.trimPrefix
  have hl : s.data.toList.length = s.size := by rw [Array.length_toList]; rfl
  split
  · rw [List.length_drop]; omega
  · omega
def endF (k : Int) (rest : ByteArray) : Int × Int × Int :=
  if hp rest ⟨#[32]⟩ = false then (0, 0, 4) else if hp (cp rest ⟨#[32]⟩) ⟨#[45]⟩ = true then (0, 0, 4)
  else if (parseF (cp rest ⟨#[32]⟩) (trimD (cp rest ⟨#[32]⟩))).2 = 0 then (if (parseF (cp rest ⟨#[32]⟩) (trimD (cp rest ⟨#[32]⟩))).1 ≤ 2147483647 then (k, (parseF (cp rest ⟨#[32]⟩) (trimD (cp rest ⟨#[32]⟩))).1, 0) else (0, 0, 15))
  else if (parseF (cp rest ⟨#[32]⟩) (trimD (cp rest ⟨#[32]⟩))).2 = 4 then (0, 0, 4) else (0, 0, 15)
def stepF (line : ByteArray) : Nat → Nat → Int × Int × Int
  | 0, _ => (0, 0, 4)
  | r + 1, k => if hp line (nm k) = false then stepF line r (k + 1) else if k = 3 then (if (cp line (nm k)).toList = [] then (3, 0, 0) else stepF line r (k + 1))
    else (if (cp line (nm k)).toList = [] then stepF line r (k + 1) else endF k (cp line (nm k)))
structure St (w : World) (vr vl : Nat) (wr : World) : Prop where
  bel : Below w.heap.size w wr
  pr : wr.heap[vr]? = some (.cells #[.int .i64 0, .int .i64 0] 44 (0, 0))
  pl : wr.heap[vl]? = some (.cells #[.string (nm 0), .string (nm 1), .string (nm 2), .string (nm 3), .string (nm 4)] 63 (0, 0))
  h1 : w.heap.size ≤ vr
  h2 : vr < vl
theorem St.below {w : World} {vr vl : Nat} {wr w1 : World} (h : St w vr vl wr) (hb : Below wr.heap.size wr w1) : St w vr vl w1 :=
  ⟨below_step h.bel hb, blk_below h.pr hb, blk_below h.pl hb, h.h1, h.h2⟩
theorem St.cell {w : World} {vr vl : Nat} {wr : World} (h : St w vr vl wr) {k : Nat} (hk : k < 5) : wr.cell? ⟨vl, k, none⟩ = some (.string (nm k)) := by
  rw [blk_cell h.pl k]
  obtain rfl | rfl | rfl | rfl | rfl : k = 0 ∨ k = 1 ∨ k = 2 ∨ k = 3 ∨ k = 4 := by omega
  all_goals rfl
theorem f21_results (a : Array Value) (w : World) (P : Nat) (t v x : Value) (h2 : a.getD 2 undef = .pointer (some ⟨P, 0, none⟩)) (h3 : a.getD 3 undef = x) (hp : w.heap[P]? = some (.cells #[t, v] 44 (0, 0))) :
    (results Tryd.f21 a).run Tryd.prog w = .ok (.tuple #[.agg #[t, v], x]) w := by
  have cp : w.cell? ⟨P, 0, none⟩ = some t := (blk_cell hp 0).trans rfl
  have cq : w.cell? ⟨P, 1, none⟩ = some v := (blk_cell hp 1).trans rfl
  have h2' : a[2]?.getD undef = .pointer (some ⟨P, 0, none⟩) := by simpa using h2
  have h3' : a[3]?.getD undef = x := by simpa using h3
  simp [results, Tryd.results21, h2', h3', asAddr, go_sem, cp, cq]
theorem St.fin {w : World} {vr vl : Nat} {wr : World} (h : St w vr vl wr) (a b : Value) : ((wr.setCell ⟨vr, 0, none⟩ a).setCell ⟨vr, 1, none⟩ b).heap[vr]? = some (.cells #[a, b] 44 (0, 0)) ∧ Below w.heap.size w ((wr.setCell ⟨vr, 0, none⟩ a).setCell ⟨vr, 1, none⟩ b) :=
  ⟨blk_put (blk_put (cs' := #[a, .int .i64 0]) h.pr 0 _ rfl) 1 _ rfl, below_set (below_set h.bel h.h1) h.h1⟩
theorem errV_nil : errV 0 = .nilIface := if_pos rfl
theorem cp_any (s p : ByteArray) (w : World) : Calls Tryd.prog 40 #[.string s, .string p] w fun e w' => e = .returned (.tuple #[.string (cp s p), .bool (hp s p)]) ∧ w' = w := Tryd.strings_CutPrefix s p w
theorem hp_any (s p : ByteArray) (w : World) : Calls Tryd.prog 32 #[.string s, .string p] w fun e w' => e = .returned (.bool (hp s p)) ∧ w' = w := Tryd.strings_HasPrefix s p w
theorem Laid.parse {w wr : World} (hL : Laid w) (hb : Below w.heap.size w wr) (s : ByteArray) (hs : s.size ≤ 140737488353280) :
    Calls Tryd.prog 41 #[.string s] wr fun e w' => e = .returned (.tuple #[.int .i64 (parseF s (trimD s)).1, .int .i64 (parseF s (trimD s)).2]) ∧ Below wr.heap.size wr w' :=
  num_Parse.calls s _ _ wr (Laid.below hb hL) (by unfold num_Parse.f; rw [if_pos hs])
set_option maxHeartbeats 4000000 in
set_option maxRecDepth 100000 in
theorem step_any (line : ByteArray) (w : World) (hL : Laid w) (hs : line.size ≤ 140737488353280) :
    Calls Tryd.prog 21 #[.string line] w fun e w' => e = .returned (.tuple #[.agg #[.int .i64 (stepF line 5 0).1, .int .i64 (stepF line 5 0).2.1], errV (stepF line 5 0).2.2]) ∧ Below w.heap.size w w' := by
  have HL := Aside0.mk hL
  have HS := Aside0.mk hs
  clear hL hs
  generalize hres : stepF line 5 0 = res
  have HR := Aside0.mk hres
  clear hres
  go_enter Tryd.func21, Tryd.ntmps21
  go_upto_region 1 with (fail)
  obtain ⟨w1, hw1⟩ : ∃ x, x = w.alloc (.cells #[.int .i64 0, .int .i64 0] 44) := ⟨_, rfl⟩
  rw [← hw1]
  obtain ⟨vr, hvr⟩ : ∃ x, x = w.heap.size := ⟨_, rfl⟩
  rw [← hvr]
  have HB1 := Aside0.mk (show Below w.heap.size w w1 from by rw [hw1]; exact below_alloc (Below.refl _ _) _)
  have HV1 := Aside0.mk (show w1.heap[vr]? = some (.cells #[.int .i64 0, .int .i64 0] 44 (0, 0)) from by rw [hw1, hvr]; exact blk_new _ _)
  have HVR := Aside0.mk (Nat.le_of_eq hvr.symm)
  clear hw1 hvr
  go_wp2_with fail
  refine (names_any w1).mono ?_
  rintro e w2 ⟨rfl, hb⟩
  have HB2 := Aside0.mk (below_step HB1.out hb)
  have HV2 := Aside0.mk (blk_below HV1.out hb)
  clear hb HB1 HV1
  unfold namesV
  go_upto_region 2 with (fail)
  obtain ⟨w3, hw3⟩ : ∃ x, x = w2.alloc (.cells #[.string (nm 0), .string (nm 1), .string (nm 2), .string (nm 3), .string (nm 4)] 63) := ⟨_, rfl⟩
  rw [← hw3]
  obtain ⟨vl, hvl⟩ : ∃ x, x = w2.heap.size := ⟨_, rfl⟩
  rw [← hvl]
  have HS3 := Aside0.mk (show St w vr vl w3 from by
    rw [hw3]
    exact ⟨below_alloc HB2.out _, blk_alloc HV2.out _, by rw [hvl]; exact blk_new _ _, HVR.out, by rw [hvl]; exact blk_lt HV2.out⟩)
  clear hw3 hvl HB2 HV2 HVR
  go_wp2_with fail
  go_loopg [12] 6 (fun kq v12 wr => ∃ k : Nat, v12 = .int .i64 k ∧ k ≤ 5 ∧ Aside0 (kq + k = 6) ∧ Aside0 (stepF line (5 - k) k = res) ∧ Aside0 (St w vr vl wr))
  case atStart => exact ⟨0, rfl, by omega, ⟨rfl⟩, HR, HS3⟩
  case round =>
    clear HR HS3
    obtain ⟨k, rfl, hk, HKK, HR, HST⟩ := hrel
    obtain ⟨gm, rfl⟩ : ∃ m, gk = m + 1 := ⟨gk - 1, by have := HKK.out; omega⟩
    by_cases hk5 : k < 5
    · have hlt : decide ((k : Int) < 5) = true := decide_eq_true (by omega)
      have hk5i : (k : Int) < 5 := by omega
      have hcell := HST.out.cell hk5
      obtain ⟨r, hr⟩ : ∃ r, 5 - k = r + 1 := ⟨4 - k, by omega⟩
      have hR := HR.out
      rw [hr] at hR
      have HRR := Aside0.mk (show r = 5 - (k + 1) by omega)
      clear HR hr
      generalize hq : nm k = q at hcell
      unfold stepF at hR
      rw [hq] at hR
      clear hq
      go_wp2_with fail
      refine (cp_any line q _).mono ?_
      rintro e w' ⟨rfl, rfl⟩
      have hz := cp_size line q
      generalize cp line q = rest at hR hz ⊢
      have HZ := Aside0.mk (Nat.le_trans hz HS.out)
      clear hz hcell
      cases hq2 : hp line q with
      | false =>
        rw [hq2, if_pos rfl, HRR.out] at hR
        have HR := Aside0.mk hR
        clear hR hq2
        go_wp2_with fail
        go_roundg gm
        case measure => have := HKK.out; omega
        case rel => exact ⟨k + 1, by go_num, by omega, ⟨by have := HKK.out; omega⟩, HR, HST⟩
      | true =>
        rw [hq2, if_neg (by decide)] at hR
        clear hq2
        by_cases hk3 : k = 3
        · rw [if_pos hk3] at hR
          have hk3b : ((k : Int) == 3) = true := beq_iff_eq.mpr (by omega)
          by_cases hn : rest.toList = []
          · rw [if_pos hn] at hR
            have hn1 : (rest.toList == ([] : List UInt8)) = true := beq_iff_eq.mpr hn
            have hn2 : rest.toList.isEmpty = true := List.isEmpty_iff.mpr hn
            have HR := Aside0.mk hR
            clear hR hn
            have c0 : w'.cell? ⟨vr, 0, none⟩ = some (.int .i64 0) := (blk_cell HST.out.pr 0).trans rfl
            have c1 : w'.cell? ⟨vr, 1, none⟩ = some (.int .i64 0) := (blk_cell HST.out.pr 1).trans rfl
            have f0 := blk_frozen HST.out.pr 0
            have f1 := blk_frozen HST.out.pr 1
            go_wp2_with fail
            exact bodyPost_ret (f21_results _ _ vr _ _ _ rfl rfl (HST.out.fin _ _).1) rfl ⟨by rw [← HR.out]; simp [errV], (HST.out.fin _ _).2⟩
          · rw [if_neg hn, HRR.out] at hR
            have hn1 : (rest.toList == ([] : List UInt8)) = false := beq_eq_false_iff_ne.mpr hn
            have hn2 : rest.toList.isEmpty = false := List.isEmpty_eq_false_iff.mpr hn
            have HR := Aside0.mk hR
            clear hR
            go_wp2_with fail
            go_roundg gm
            case measure => have := HKK.out; omega
            case rel => exact ⟨k + 1, by go_num, by omega, ⟨by have := HKK.out; omega⟩, HR, HST⟩
        · rw [if_neg hk3] at hR
          have hk3b : ((k : Int) == 3) = false := beq_eq_false_iff_ne.mpr (by omega)
          by_cases hn : rest.toList = []
          · rw [if_pos hn, HRR.out] at hR
            have hn1 : (rest.toList == ([] : List UInt8)) = true := beq_iff_eq.mpr hn
            have hn2 : rest.toList.isEmpty = true := List.isEmpty_iff.mpr hn
            have HR := Aside0.mk hR
            clear hR hn
            go_wp2_with fail
            go_roundg gm
            case measure => have := HKK.out; omega
            case rel => exact ⟨k + 1, by go_num, by omega, ⟨by have := HKK.out; omega⟩, HR, HST⟩
          · rw [if_neg hn] at hR
            have hn1 : (rest.toList == ([] : List UInt8)) = false := beq_eq_false_iff_ne.mpr hn
            have hn2 : rest.toList.isEmpty = false := List.isEmpty_eq_false_iff.mpr hn
            unfold endF at hR
            go_wp2_with fail
            refine (cp_any rest ⟨#[32]⟩ _).mono ?_
            rintro e w4 ⟨rfl, rfl⟩
            have hz := cp_size rest ⟨#[32]⟩
            generalize cp rest ⟨#[32]⟩ = d at hR hz ⊢
            have HD := Aside0.mk (Nat.le_trans hz HZ.out)
            clear hz hn hn1 hn2
            have c0 : w4.cell? ⟨vr, 0, none⟩ = some (.int .i64 0) := (blk_cell HST.out.pr 0).trans rfl
            have c1 : w4.cell? ⟨vr, 1, none⟩ = some (.int .i64 0) := (blk_cell HST.out.pr 1).trans rfl
            have f0 := blk_frozen HST.out.pr 0
            have f1 := blk_frozen HST.out.pr 1
            cases hq3 : hp rest ⟨#[32]⟩ with
            | false =>
              rw [hq3, if_pos rfl] at hR
              have HR := Aside0.mk hR
              clear hR hq3
              go_wp2_with fail
              exact bodyPost_ret (f21_results _ _ vr _ _ _ rfl rfl (HST.out.fin _ _).1) rfl ⟨by rw [← HR.out]; simp [errV], (HST.out.fin _ _).2⟩
            | true =>
              rw [hq3, if_neg (by decide)] at hR
              clear hq3
              go_wp2_with fail
              refine (hp_any d ⟨#[45]⟩ _).mono ?_
              rintro e w5 ⟨rfl, rfl⟩
              cases hq4 : hp d ⟨#[45]⟩ with
              | true =>
                rw [hq4, if_pos rfl] at hR
                have HR := Aside0.mk hR
                clear hR hq4
                go_wp2_with fail
                exact bodyPost_ret (f21_results _ _ vr _ _ _ rfl rfl (HST.out.fin _ _).1) rfl ⟨by rw [← HR.out]; simp [errV], (HST.out.fin _ _).2⟩
              | false =>
                rw [hq4, if_neg (by decide)] at hR
                clear hq4
                go_wp2_with fail
                refine (HL.out.parse HST.out.bel d HD.out).mono ?_
                rintro e w6 ⟨rfl, hb⟩
                have HST6 := Aside0.mk (HST.out.below hb)
                clear hb HST c0 c1 f0 f1
                have HST := HST6
                clear HST6
                have c0 : w6.cell? ⟨vr, 0, none⟩ = some (.int .i64 0) := (blk_cell HST.out.pr 0).trans rfl
                have c1 : w6.cell? ⟨vr, 1, none⟩ = some (.int .i64 0) := (blk_cell HST.out.pr 1).trans rfl
                have f0 := blk_frozen HST.out.pr 0
                have f1 := blk_frozen HST.out.pr 1
                generalize parseF d (trimD d) = pe at hR ⊢
                obtain ⟨pn, pc⟩ := pe
                dsimp only at hR ⊢
                by_cases hc0 : pc = 0
                · rw [if_pos hc0] at hR
                  have hc0b : (pc == 0) = true := beq_iff_eq.mpr hc0
                  by_cases hle : pn ≤ 2147483647
                  · rw [if_pos hle] at hR
                    have hleb : decide (pn ≤ 2147483647) = true := decide_eq_true hle
                    have HR := Aside0.mk hR
                    clear hR hc0 hle
                    go_wp2_with fail
                    exact bodyPost_ret (f21_results _ _ vr _ _ _ rfl rfl (HST.out.fin _ _).1) rfl ⟨by rw [← HR.out]; simp [errV], (HST.out.fin _ _).2⟩
                  · rw [if_neg hle] at hR
                    have hleb : decide (pn ≤ 2147483647) = false := decide_eq_false hle
                    have hc4 : (pc == 4) = false := beq_eq_false_iff_ne.mpr (by omega)
                    have HR := Aside0.mk hR
                    clear hR hle
                    go_wp2_with fail
                    exact bodyPost_ret (f21_results _ _ vr _ _ _ rfl rfl (HST.out.fin _ _).1) rfl ⟨by rw [← HR.out]; simp [errV], (HST.out.fin _ _).2⟩
                · rw [if_neg hc0] at hR
                  have hc0b : (pc == 0) = false := beq_eq_false_iff_ne.mpr hc0
                  by_cases hc4 : pc = 4
                  · rw [if_pos hc4] at hR
                    have hc4b : (pc == 4) = true := beq_iff_eq.mpr hc4
                    have HR := Aside0.mk hR
                    clear hR hc0
                    go_wp2_with fail
                    exact bodyPost_ret (f21_results _ _ vr _ _ _ rfl rfl (HST.out.fin _ _).1) rfl ⟨by rw [← HR.out]; simp [errV], (HST.out.fin _ _).2⟩
                  · rw [if_neg hc4] at hR
                    have hc4b : (pc == 4) = false := beq_eq_false_iff_ne.mpr hc4
                    have HR := Aside0.mk hR
                    clear hR hc0 hc4
                    go_wp2_with fail
                    exact bodyPost_ret (f21_results _ _ vr _ _ _ rfl rfl (HST.out.fin _ _).1) rfl ⟨by rw [← HR.out]; simp [errV], (HST.out.fin _ _).2⟩
    · have hlt : decide ((k : Int) < 5) = false := decide_eq_false (by omega)
      have hk0 : 5 - k = 0 := by omega
      have hR := HR.out
      rw [hk0] at hR
      unfold stepF at hR
      clear HR
      have HR := Aside0.mk hR
      clear hR hk0
      have c0 : wr.cell? ⟨vr, 0, none⟩ = some (.int .i64 0) := (blk_cell HST.out.pr 0).trans rfl
      have c1 : wr.cell? ⟨vr, 1, none⟩ = some (.int .i64 0) := (blk_cell HST.out.pr 1).trans rfl
      have f0 := blk_frozen HST.out.pr 0
      have f1 := blk_frozen HST.out.pr 1
      go_wp2_with fail
      exact bodyPost_ret (f21_results _ _ vr _ _ _ rfl rfl (HST.out.fin _ _).1) rfl ⟨by rw [← HR.out]; simp [errV], (HST.out.fin _ _).2⟩
end Go.Proofs.YtnombbcgdfgadaaDoor.G
end
