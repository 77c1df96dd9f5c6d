import Derived.LaidMore
import Derived.LaidHandle
import Derived.Stop.Joined
import Derived.Lib.IfaceEq
import Derived.Lib.ItoaLen
import Derived.Shelf.Strings.MapGrows
import Derived.Shelf.Abstract
import Derived.LaidEql
import Derived.Stop.Asserts
import Derived.RowKitTokens
import Derived.Lib.LaidTab
import Derived.Lib.AppendIntMem
import Derived.Stop.LaidErr
import Derived.WalkKit
import Derived.Deep.RegionLaw
import Derived.Deep.Cut
import Derived.WalkSpells
import Derived.Test.YtnombbcgdfgadaaDoorPPrR
import Derived.Test.YtnombbcgdfgadaaDoorPPrOW
import Derived.Test.YtnombbcgdfgadaaDoorPPrGx0
import Derived.Test.YtnombbcgdfgadaaDoorPPrGxE44
import Derived.Lib.Hide
import Derived.Test.YtnombbcgdfgadaaDoorPPrGxF14
import Derived.Test.YtnombbcgdfgadaaDoorPPrGxF30
set_option linter.unusedVariables false
set_option linter.unusedSimpArgs false
section
namespace Go.Proofs.YtnombbcgdfgadaaDoor.G
open Go.Shelf Go.Extern.Stop Go.Stop Go.Extern Go.RowKit Go.Proofs.YtnombbcgdfgadaaDoorW.PrintWords Go.Proofs.YtnombbcgdfgadaaDoorW.PrintLast Go.Proofs.YtnombbcgdfgadaaDoorW.PrintMore
set_option linter.unusedVariables false
set_option linter.unusedSimpArgs false
theorem rd_get {xs : List S44} {i : Nat} (h : i < xs.length) : rd_T44 xs (i : Int) = xs[i] := by
  unfold rd_T44
  rw [Int.toNat_natCast, List.getD_eq_getElem?_getD, List.getElem?_eq_getElem h]
  rfl
theorem nameOf_empty (k : Int) : (nameOf k).toList = ([] : List UInt8) ↔ ¬ (0 ≤ k ∧ k < 5) := by
  unfold nameOf
  by_cases h0 : k < 0
  · rw [if_pos h0]
    exact ⟨fun _ h => by omega, fun _ => ByteArray.toList_mk _⟩
  · rw [if_neg h0]
    by_cases h5 : k < 5
    · constructor
      · intro h
        exfalso
        rw [toList_data] at h
        obtain h | h | h | h | h : k.toNat = 0 ∨ k.toNat = 1 ∨ k.toNat = 2 ∨ k.toNat = 3 ∨ k.toNat = 4 := by omega
        all_goals (rename_i h2; first | (rw [h] at h2; cases h2) | (rw [h2] at h; cases h))
      · intro h; exact absurd ⟨by omega, h5⟩ h
    · constructor
      · intro _ h; omega
      · intro _
        obtain ⟨m, hm⟩ : ∃ m : Nat, k.toNat = m + 5 := ⟨k.toNat - 5, by omega⟩
        rw [hm]
        exact ByteArray.toList_mk _
theorem okD_iff (d : S44) : okD d = true ↔ (0 ≤ d.f0 ∧ d.f0 < 5 ∧ 0 ≤ d.f1 ∧ d.f1 ≤ 2147483647 ∧ (d.f0 = 3 → d.f1 = 0)) := by
  unfold okD
  exact decide_eq_true_iff
def bi (l : List UInt8) : List Int := l.map fun c => (c.toNat : Int)
theorem bi_app (a b : List UInt8) : bi (a ++ b) = bi a ++ bi b := List.map_append
theorem bi_len (a : List UInt8) : (bi a).length = a.length := List.length_map _
theorem bytesOf_bi (b : ByteArray) : bytesOf b = bi b.data.toList := rfl
theorem strOf_bi (l : List UInt8) : strOfNums (bi l) = ⟨l.toArray⟩ := by
  apply ba_ext
  unfold strOfNums bi
  simp only [List.map_map]
  have : (List.map ((fun n : Int => UInt8.ofNat n.toNat) ∘ fun c : UInt8 => (c.toNat : Int)) l) = l := by
    conv => rhs; rw [← List.map_id l]
    apply List.map_congr_left
    intro c _
    simp
  simpa using this
theorem l1_ev (T : ByteArray) (xs : List S44) (hall : xs.all okD = true) (hlen : xs.length ≤ 4096) (hT : T.size ≤ 32768) : ∀ (d i : Nat), i + d = xs.length →
    Ev (fun k => tallowref33_Print.l1 k (bi ((xs.take i).flatMap lineB)) (i : Int) T xs) (⟨(xs.flatMap lineB ++ ([115, 111, 117, 114, 99, 101, 10] ++ T.data.toList)).toArray⟩, 0)
  | 0, i, h => by
    have hi : i = xs.length := by omega
    subst hi
    have hl := lines_len xs hall
    refine ⟨1, fun k hk => ?_⟩
    obtain ⟨g, rfl⟩ : ∃ g, k = g + 1 := ⟨k - 1, by omega⟩
    show tallowref33_Print.l1 (g + 1) _ _ T xs = _
    rw [tallowref33_Print.l1, if_neg (by omega), List.take_length, bi_len, if_pos (by omega), Option.bind_some, bytesOf_bi, ← bi_app, bi_len, List.length_append, if_pos (by rw [data_length]; show _ + 6 < _; omega), Option.bind_some]
    rw [show (bi (List.flatMap lineB xs ++ (⟨#[115, 111, 117, 114, 99, 101]⟩ : ByteArray).data.toList) ++ [10] : List Int) = bi (List.flatMap lineB xs ++ [115, 111, 117, 114, 99, 101, 10]) from by
      rw [show ([10] : List Int) = bi [10] from rfl, ← bi_app, List.append_assoc]; rfl]
    rw [bi_len, List.length_append, if_pos (by show _ + 7 + _ < _; omega), bytesOf_bi, ← bi_app, strOf_bi, List.append_assoc]
  | d + 1, i, h => by
    have hlt : i < xs.length := by omega
    have ih := l1_ev T xs hall hlen hT d (i + 1) (by omega)
    have hok := (okD_iff xs[i]).mp (List.all_eq_true.mp hall _ (List.getElem_mem hlt))
    obtain ⟨h0, h1, h2, h3, h4⟩ := hok
    have hll : ((xs.take i).flatMap lineB).length ≤ 30 * 4096 := by
      have h5 := lines_len (xs.take i) (by rw [List.all_eq_true]; intro x hx; exact List.all_eq_true.mp hall x (List.mem_of_mem_take hx))
      rw [List.length_take] at h5
      omega
    have htk : (xs.take (i + 1)).flatMap lineB = (xs.take i).flatMap lineB ++ lineB xs[i] := by
      rw [List.take_add_one, List.getElem?_eq_getElem hlt, List.flatMap_append]
      simp
    rw [htk] at ih
    have hw : wrap64 ((i : Int) + 1) = ((i + 1 : Nat) : Int) := by rw [w_id (by omega)]; rfl
    have hnm : nameOf xs[i].f0 = nm xs[i].f0.toNat := by unfold nameOf; rw [if_neg (by omega)]
    have hns := nm_size xs[i].f0.toNat
    have hnl : (nm xs[i].f0.toNat).data.toList.length = (nm xs[i].f0.toNat).size := data_length _
    by_cases hf : xs[i].f0 = 3
    · have hlb : lineB xs[i] = (nm xs[i].f0.toNat).data.toList ++ [10] := by unfold lineB; rw [if_pos hf]; rfl
      rw [hlb] at ih
      refine Ev.step (f := fun k => tallowref33_Print.l1 k (bi ((xs.take i).flatMap lineB ++ ((nm xs[i].f0.toNat).data.toList ++ [10]))) ((i + 1 : Nat) : Int) T xs) (fun k => ?_) ih
      rw [tallowref33_Print.l1, if_pos (by omega), if_pos (by omega), rd_get hlt]
      show ((some (nameOf xs[i].f0)).bind _) = _
      rw [Option.bind_some, hnm, bi_len, if_pos (by omega), Option.bind_some, if_pos hf, bytesOf_bi, ← bi_app, bi_len, List.length_append, if_pos (by omega), hw, show ([10] : List Int) = bi [10] from rfl, ← bi_app, List.append_assoc]
    · have hlb : lineB xs[i] = (nm xs[i].f0.toNat).data.toList ++ (32 :: Lib.itoa xs[i].f1 ++ [10]) := by unfold lineB; rw [if_neg hf]
      rw [hlb] at ih
      have htx := text_of (a := xs[i].f1) (by omega)
      have hil := Lib.itoa_length_le xs[i].f1 (by omega) (by omega)
      refine Ev.step (f := fun k => (tallowref01_Text.f k xs[i].f1).bind fun t152 => if (bi ((xs.take i).flatMap lineB ++ ((nm xs[i].f0.toNat).data.toList ++ [32]))).length + t152.size < 140737488355328 then ((some (bi ((xs.take i).flatMap lineB ++ ((nm xs[i].f0.toNat).data.toList ++ [32])) ++ bytesOf t152 : List Int)).bind fun y153 => (if y153.length < 140737488355328 then (tallowref33_Print.l1 k (y153 ++ [10]) ((i + 1 : Nat) : Int) T xs) else none)) else none) (fun k => ?_) ?_
      · rw [tallowref33_Print.l1, if_pos (by omega), if_pos (by omega), rd_get hlt]
        show ((some (nameOf xs[i].f0)).bind _) = _
        rw [Option.bind_some, hnm, bi_len, if_pos (by omega), Option.bind_some, if_neg hf, bytesOf_bi, ← bi_app, bi_len, List.length_append, if_pos (by omega), hw, Option.bind_some, show ([32] : List Int) = bi [32] from rfl, ← bi_app, List.append_assoc]
      · refine Ev.bind htx ?_
        have hts : (strL (Lib.itoa xs[i].f1)).size = (Lib.itoa xs[i].f1).length := strL_size _
        refine evPos (by rw [bi_len, hts, List.length_append, List.length_append]; simp only [List.length_cons, List.length_nil]; omega) ?_
        show Ev (fun k => if (bi _ ++ bytesOf (strL (Lib.itoa xs[i].f1))).length < 140737488355328 then tallowref33_Print.l1 k ((bi _ ++ bytesOf (strL (Lib.itoa xs[i].f1))) ++ [10]) ((i + 1 : Nat) : Int) T xs else none) _
        have hb : bytesOf (strL (Lib.itoa xs[i].f1)) = bi (Lib.itoa xs[i].f1) := rfl
        rw [hb, ← bi_app]
        refine evPos (by rw [bi_len, List.length_append, List.length_append, List.length_append]; simp only [List.length_cons, List.length_nil]; omega) ?_
        rw [show ([10] : List Int) = bi [10] from rfl, ← bi_app]
        have he : (xs.take i).flatMap lineB ++ ((nm xs[i].f0.toNat).data.toList ++ [32]) ++ Lib.itoa xs[i].f1 ++ [10] = (xs.take i).flatMap lineB ++ ((nm xs[i].f0.toNat).data.toList ++ (32 :: Lib.itoa xs[i].f1 ++ [10])) := by simp [List.append_assoc]
        rw [he]
        exact ih
theorem j1_evP (T : ByteArray) (xs : List S44) (hall : xs.all okD = true) (hlen : xs.length ≤ 4096) (b : Bool) (hb : b = decide ((T.size : Int) > 32768)) :
    Ev (fun k => tallowref33_Print.j1 k b T xs) (if T.size > 32768 then (⟨#[]⟩, 3) else (⟨(xs.flatMap lineB ++ ([115, 111, 117, 114, 99, 101, 10] ++ T.data.toList)).toArray⟩, 0)) := by
  by_cases hT : T.size > 32768
  · rw [if_pos hT]
    refine Ev.step (f := fun _ => some (⟨#[]⟩, 3)) (fun k => ?_) (Ev.now _)
    rw [tallowref33_Print.j1, if_pos (by rw [hb]; exact decide_eq_true (by omega))]
  · rw [if_neg hT]
    have := l1_ev T xs hall hlen (by omega) xs.length 0 (by omega)
    refine Ev.step (f := fun k => tallowref33_Print.l1 k [] 0 T xs) (fun k => ?_) this
    rw [tallowref33_Print.j1, if_neg (by rw [hb, decide_eq_false (by omega)]; decide)]
theorem refPrint_ev (T : ByteArray) (xs : List S44) (hx : xs.length ≤ 140737488351232) : Ev (fun k => tallowref33_Print.f k T xs) (printF T xs) := by
  unfold printF
  by_cases hall : xs.all okD = true
  · refine Ev.eq (loop_from (xs := xs) (ok := okD) (bad := ((⟨#[]⟩, 2) : ByteArray × Int)) (r := if xs.length > 4096 then (⟨#[]⟩, 3) else if T.size > 32768 then (⟨#[]⟩, 3) else (⟨(xs.flatMap lineB ++ ([115, 111, 117, 114, 99, 101, 10] ++ T.data.toList)).toArray⟩, 0)) (g := fun k i => tallowref33_Print.l0 k i T xs) (rest := fun k => if (xs.length : Int) > 4096 then tallowref33_Print.j1 k true T xs else tallowref33_Print.j1 k (decide ((T.size : Int) > 32768)) T xs) ?_ ?_ ?_ ?_) ?_
    · intro k i hi hok
      obtain ⟨h0, h1, h2, h3, h4⟩ := (okD_iff _).mp hok
      show tallowref33_Print.l0 (k + 1) (i : Int) T xs = tallowref33_Print.l0 k ((i + 1 : Nat) : Int) T xs
      rw [tallowref33_Print.l0, if_pos (by omega), if_pos (by omega), rd_get hi]
      show ((some (nameOf xs[i].f0)).bind _) = _
      rw [Option.bind_some, if_neg (fun e => (nameOf_empty _).mp e ⟨h0, h1⟩), if_neg (by omega), if_neg (by omega)]
      have hw : wrap64 ((i : Int) + 1) = ((i + 1 : Nat) : Int) := by rw [w_id (by omega)]; rfl
      by_cases hf : xs[i].f0 = 3
      · rw [if_pos hf, if_pos (h4 hf), hw]
      · rw [if_neg hf, hw]
    · intro k i hi hbad
      exact absurd (List.all_eq_true.mp hall _ (List.getElem_mem hi)) (by rw [hbad]; decide)
    · intro k
      show tallowref33_Print.l0 (k + 1) (xs.length : Int) T xs = _
      rw [tallowref33_Print.l0, if_neg (by omega)]
    · by_cases hl : xs.length > 4096
      · rw [if_pos hl]
        refine evPos (by omega) ?_
        refine Ev.step (f := fun _ => some (⟨#[]⟩, 3)) (fun k => ?_) (Ev.now _)
        rw [tallowref33_Print.j1, if_pos rfl]
      · rw [if_neg hl]
        exact evNeg (by omega) (j1_evP T xs hall (by omega) _ rfl)
    · (repeat rw [if_pos hall])
  · rw [if_neg hall]
    have hs := loop_stop (xs := xs) (ok := okD) (bad := ((⟨#[]⟩, 2) : ByteArray × Int)) (g := fun k i => tallowref33_Print.l0 k i T xs) ?_ ?_ xs.length 0 (by omega) (by rw [List.drop_zero]; exact Bool.eq_false_iff.mpr hall)
    · exact hs
    · intro k i hi hok
      obtain ⟨h0, h1, h2, h3, h4⟩ := (okD_iff _).mp hok
      show tallowref33_Print.l0 (k + 1) (i : Int) T xs = tallowref33_Print.l0 k ((i + 1 : Nat) : Int) T xs
      rw [tallowref33_Print.l0, if_pos (by omega), if_pos (by omega), rd_get hi]
      show ((some (nameOf xs[i].f0)).bind _) = _
      rw [Option.bind_some, if_neg (fun e => (nameOf_empty _).mp e ⟨h0, h1⟩), if_neg (by omega), if_neg (by omega)]
      have hw : wrap64 ((i : Int) + 1) = ((i + 1 : Nat) : Int) := by rw [w_id (by omega)]; rfl
      by_cases hf : xs[i].f0 = 3
      · rw [if_pos hf, if_pos (h4 hf), hw]
      · rw [if_neg hf, hw]
    · intro k i hi hbad
      have hb : ¬ (0 ≤ xs[i].f0 ∧ xs[i].f0 < 5 ∧ 0 ≤ xs[i].f1 ∧ xs[i].f1 ≤ 2147483647 ∧ (xs[i].f0 = 3 → xs[i].f1 = 0)) := fun hh => by rw [(okD_iff _).mpr hh] at hbad; cases hbad
      show tallowref33_Print.l0 (k + 1) (i : Int) T xs = some (⟨#[]⟩, 2)
      rw [tallowref33_Print.l0, if_pos (by omega), if_pos (by omega), rd_get hi]
      show ((some (nameOf xs[i].f0)).bind _) = _
      rw [Option.bind_some]
      by_cases hn : (nameOf xs[i].f0).toList = ([] : List UInt8)
      · rw [if_pos hn]
      · rw [if_neg hn]
        have hr : 0 ≤ xs[i].f0 ∧ xs[i].f0 < 5 := Classical.byContradiction fun hc => hn ((nameOf_empty _).mpr hc)
        by_cases h1 : xs[i].f1 < 0
        · rw [if_pos h1]
        · rw [if_neg h1]
          by_cases h2 : xs[i].f1 > 2147483647
          · rw [if_pos h2]
          · rw [if_neg h2]
            by_cases h3 : xs[i].f0 = 3
            · rw [if_pos h3, if_neg (fun h4 => hb ⟨hr.1, hr.2, by omega, by omega, fun _ => h4⟩)]
            · exact absurd ⟨hr.1, hr.2, by omega, by omega, fun e => absurd e h3⟩ hb
set_option maxHeartbeats 4000000 in
set_option maxRecDepth 100000 in
theorem prints_any (T : ByteArray) (A : Option Addr) (c : Nat) (xs : List S44) (w : World) (hL : Laid w) (hr : Kd.C k44 w A xs.length xs) (hc : xs.length ≤ c) (hT : T.size ≤ 140737488351232) (hn : xs.length ≤ 140737488351232) :
    Calls Tryd.prog 4 #[.agg #[.string T, .slice A xs.length c]] w fun e w' => e = .returned (.bool true) ∧ Below w.heap.size w w' := by
  have HL := Aside0.mk hL
  have HC := Aside0.mk hr
  have HT := Aside0.mk hT
  have HN := Aside0.mk hn
  have HCC := Aside0.mk hc
  obtain ⟨kp, hkp⟩ := (refPrint_ev T xs hn).rounds
  have HKP := Aside0.mk hkp
  clear hL hr hT hn hc hkp
  go_enter Tryd.func4, Tryd.ntmps4
  go_upto_region 1 with (fail)
  have h1 := below_alloc (Below.refl w.heap.size w) (.cells #[.string T, .slice A xs.length c] 24 (0, 0))
  have hx1 := blk_new w (.cells #[.string T, .slice A xs.length c] 24 (0, 0))
  have hc1 := Kd.C_below HC.out h1
  obtain ⟨w1, hw1⟩ : ∃ x, x = w.alloc (.cells #[.string T, .slice A xs.length c] 24) := ⟨_, rfl⟩
  rw [← hw1] at h1 hx1 hc1 ⊢
  obtain ⟨b1, hb1⟩ : ∃ x, x = w.heap.size := ⟨_, rfl⟩
  rw [← hb1] at hx1
  rw [← hb1]
  have HB1 := Aside0.mk (show Below w.heap.size w w1 from by rw [hw1]; exact below_alloc (Below.refl _ _) _)
  have HX1 := Aside0.mk hx1
  have HC1 := Aside0.mk hc1
  have x0 : w1.cell? ⟨b1, 0, none⟩ = some (.string T) := (blk_cell hx1 0).trans rfl
  have x1 : w1.cell? ⟨b1, 1, none⟩ = some (.slice A xs.length c) := (blk_cell hx1 1).trans rfl
  clear h1 hx1 hc1 hw1 hb1 HC
  obtain ⟨⟨r, e⟩, hre⟩ : ∃ q, q = printF T xs := ⟨_, rfl⟩
  rw [← hre] at HKP
  have HRE := Aside0.mk hre.symm
  clear hre
  go_wp2_with fail
  refine (script_Print.calls T A c xs r e w1 (Laid.below HB1.out HL.out) HC1.out (by have := HT.out; omega) (by have := HN.out; omega) HRE.out).mono ?_
  rintro ev w2 ⟨rfl, hb⟩
  have HB2 := Aside0.mk (below_step HB1.out hb)
  have HC2 := Aside0.mk (Kd.C_below HC1.out hb)
  have hx2 := blk_below HX1.out hb
  clear hb HB1 HC1 HX1 x0 x1
  have x0 : w2.cell? ⟨b1, 0, none⟩ = some (.string T) := (blk_cell hx2 0).trans rfl
  have x1 : w2.cell? ⟨b1, 1, none⟩ = some (.slice A xs.length c) := (blk_cell hx2 1).trans rfl
  clear hx2
  go_wp2_with fail
  refine (tallowref33_Print.calls kp T A c xs r e w2 HC2.out HCC.out HKP.out).mono ?_
  rintro ev w3 ⟨rfl, hb⟩
  have HB3 := Aside0.mk (below_step HB2.out hb)
  clear hb HB2 HC2 x0 x1
  have e1 : (r.toList == r.toList) = true := beq_self_eq_true _
  have e2 : (e == e) = true := beq_self_eq_true _
  go_wp2_with fail
  refine (works_any w3 (Laid.below HB3.out HL.out)).mono ?_
  rintro ev w4 ⟨rfl, hb⟩
  have HB4 := Aside0.mk (below_step HB3.out hb)
  clear hb HB3
  go_wp2_with fail
  go_ret
  exact ⟨rfl, HB4.out⟩
end Go.Proofs.YtnombbcgdfgadaaDoor.G
end
