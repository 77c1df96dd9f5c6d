import Derived.LaidMore
import Derived.LaidHandle
import Derived.Stop.Joined
import Derived.Lib.IfaceEq
import Derived.Lib.ItoaLen
import Derived.Shelf.Strings.MapGrows
import Derived.Shelf.Abstract
import Derived.LaidEql
import Derived.Stop.Asserts
import Derived.RowKitTokens
import Derived.Lib.LaidTab
import Derived.Lib.AppendIntMem
import Derived.Stop.LaidErr
import Derived.WalkKit
import Derived.Deep.RegionLaw
import Derived.Deep.Cut
import Derived.WalkSpells
import Derived.Test.YtnombbcgdfgadaaDoorPBaBB
import Derived.Test.YtnombbcgdfgadaaDoorPBaGxF15
import Derived.Lib.Hide
set_option linter.unusedVariables false
set_option linter.unusedSimpArgs false
section
namespace Go.Proofs.YtnombbcgdfgadaaDoor.G
open Go.Shelf Go.Extern.Stop Go.Stop Go.Extern Go.RowKit Go.Proofs.YtnombbcgdfgadaaDoorW.PrintWords Go.Proofs.YtnombbcgdfgadaaDoorW.PrintLast Go.Proofs.YtnombbcgdfgadaaDoorW.PrintMore
set_option linter.unusedVariables false
set_option linter.unusedSimpArgs false
theorem sameT_ev (a : ByteArray) (xs : List S44) (hx : xs.length ≤ 140737488353280) : ∃ k, tallowlaw33_same.f k a xs a xs = some true := by
  have h : Ev (fun k => tallowlaw33_same.l0 k 0 a xs a xs) true := by
    have := loop_from (xs := xs) (ok := fun _ => true) (bad := false) (r := true) (g := fun k i => tallowlaw33_same.l0 k i a xs a xs) (rest := fun _ => some true)
      (fun k i hi _ => by
        show tallowlaw33_same.l0 (k + 1) i a xs a xs = _
        rw [tallowlaw33_same.l0, if_pos (by omega), if_pos (by omega), if_pos (by omega), beq_self_eq_true, beq_self_eq_true, if_neg (by decide), w_id (by omega)]
        rfl)
      (fun k i hi h => by cases h)
      (fun k => by
        show tallowlaw33_same.l0 (k + 1) xs.length a xs a xs = _
        rw [tallowlaw33_same.l0, if_neg (by omega)])
      (Ev.now true)
    rwa [if_pos (by simp)] at this
  have h2 : Ev (fun k => tallowlaw33_same.j0 k false a xs a xs) true := Ev.step (f := fun k => tallowlaw33_same.l0 k 0 a xs a xs) (fun k => by rw [tallowlaw33_same.j0, if_neg Bool.false_ne_true]) h
  obtain ⟨k, hk⟩ := h2.rounds
  refine ⟨k, ?_⟩
  unfold tallowlaw33_same.f
  rw [if_pos rfl, bne_self_eq_false]
  exact hk
theorem print_bad {T r : ByteArray} {xs : List S44} {e : Int} (h : printF T xs = (r, e)) (he : e ≠ 0) : r = ⟨#[]⟩ := by
  unfold printF at h
  split at h
  · split at h
    · exact (Prod.mk.inj h).1.symm
    · split at h
      · exact (Prod.mk.inj h).1.symm
      · exact absurd (Prod.mk.inj h).2.symm he
  · exact (Prod.mk.inj h).1.symm
set_option maxHeartbeats 4000000 in
set_option maxRecDepth 100000 in
theorem back_any (T : ByteArray) (A : Option Addr) (c : Nat) (xs : List S44) (text : ByteArray) (w : World) (hL : Laid w) (hr : Kd.C k44 w A xs.length xs) (hc : xs.length ≤ c) (hT : T.size ≤ 140737488351232) (hn : xs.length ≤ 140737488351232) (ht : text.size ≤ 140737488351232) :
    Calls Tryd.prog 5 #[.agg #[.string T, .slice A xs.length c], .string text] w fun e w' => e = .returned (.bool true) ∧ Below w.heap.size w w' := by
  have HL := Aside0.mk hL
  have HC := Aside0.mk hr
  have HT := Aside0.mk hT
  have HN := Aside0.mk hn
  have HCC := Aside0.mk hc
  obtain ⟨T2, zs, c2, a2, hpt⟩ := parse_total text (by omega)
  have HPT0 := Aside0.mk hpt
  clear hL hr hT hn hc ht hpt
  go_enter Tryd.func5, Tryd.ntmps5
  go_upto_region 1 with (fail)
  have h1 := below_alloc (Below.refl w.heap.size w) (.cells #[.string T, .slice A xs.length c] 24 (0, 0))
  have hx1 := blk_new w (.cells #[.string T, .slice A xs.length c] 24 (0, 0))
  have hc1 := Kd.C_below HC.out h1
  obtain ⟨w1, hw1⟩ : ∃ x, x = w.alloc (.cells #[.string T, .slice A xs.length c] 24) := ⟨_, rfl⟩
  rw [← hw1] at h1 hx1 hc1 ⊢
  obtain ⟨b1, hb1⟩ : ∃ x, x = w.heap.size := ⟨_, rfl⟩
  rw [← hb1] at hx1
  rw [← hb1]
  have HB1 := Aside0.mk (show Below w.heap.size w w1 from by rw [hw1]; exact below_alloc (Below.refl _ _) _)
  have HX1 := Aside0.mk hx1
  have HC1 := Aside0.mk hc1
  clear h1 hx1 hc1 hw1 hb1 HC
  go_wp2_with fail
  refine (works_any w1 (Laid.below HB1.out HL.out)).mono ?_
  rintro e w2 ⟨rfl, hb⟩
  have HB2 := Aside0.mk (below_step HB1.out hb)
  have HC2 := Aside0.mk (Kd.C_below HC1.out hb)
  have hx2 := blk_below HX1.out hb
  have HX2 := Aside0.mk hx2
  clear hb HB1 HC1 HX1
  have x0 : w2.cell? ⟨b1, 0, none⟩ = some (.string T) := (blk_cell hx2 0).trans rfl
  have x1 : w2.cell? ⟨b1, 1, none⟩ = some (.slice A xs.length c) := (blk_cell hx2 1).trans rfl
  clear hx2
  obtain ⟨⟨r, e⟩, hre⟩ : ∃ q, q = printF T xs := ⟨_, rfl⟩
  have HRE := Aside0.mk hre.symm
  clear hre
  go_wp2_with fail
  refine (script_Print.calls T A c xs r e w2 (Laid.below HB2.out HL.out) HC2.out (by have := HT.out; omega) (by have := HN.out; omega) HRE.out).mono ?_
  rintro ev w3 ⟨rfl, hb⟩
  have HB3 := Aside0.mk (below_step HB2.out hb)
  have HC3 := Aside0.mk (Kd.C_below HC2.out hb)
  have hx3 := blk_below HX2.out hb
  have HX3 := Aside0.mk hx3
  clear hb HB2 HC2 HX2 x0 x1
  have x0 : w3.cell? ⟨b1, 0, none⟩ = some (.string T) := (blk_cell hx3 0).trans rfl
  have x1 : w3.cell? ⟨b1, 1, none⟩ = some (.slice A xs.length c) := (blk_cell hx3 1).trans rfl
  clear hx3
  by_cases he : e = 0
  · subst he
    obtain ⟨hp, hrs⟩ := parse_print HRE.out
    have HP := Aside0.mk hp
    obtain ⟨ks, hsame⟩ := sameT_ev T xs (by have := HN.out; omega)
    have HSM := Aside0.mk hsame
    clear hp hrs hsame
    go_wp2_with fail
    refine (script_Parse.calls 4097 r T xs 0 0 w3 (Laid.below HB3.out HL.out) HP.out).mono ?_
    rintro e w4 ⟨v, ev, rfl, hR, hF, hb⟩
    obtain rfl : ev = .nilIface := by
      rcases hF with ⟨_, h⟩ | ⟨h, _⟩
      · exact h
      · exact absurd rfl h
    obtain ⟨A5, cc5, rfl⟩ := Kd.R_slice hR
    have HD4 := Aside0.mk (Kd.R_reads' hR).2.2
    have HDC := Aside0.mk (Kd.R_reads' hR).2.1
    have HB4 := Aside0.mk (below_step HB3.out hb)
    have HC4 := Aside0.mk (Kd.C_below HC3.out hb)
    have HX4 := Aside0.mk (blk_below HX3.out hb)
    clear hR hF hb HB3 HC3 HX3 x0 x1
    go_upto_region 6 with (fail)
    have h4 := below_alloc (Below.refl w4.heap.size w4) (.cells #[.string T, .slice A5 xs.length cc5] 24 (0, 0))
    have hx5 := blk_new w4 (.cells #[.string T, .slice A5 xs.length cc5] 24 (0, 0))
    have hd5 := Kd.C_below HD4.out h4
    have hc5 := Kd.C_below HC4.out h4
    have hb5 := below_step HB4.out h4
    have hy5 := blk_below HX4.out h4
    generalize w4.alloc (.cells #[.string T, .slice A5 xs.length cc5] 24) = w5 at hx5 hd5 hc5 hb5 hy5 ⊢
    generalize w4.heap.size = b7 at hx5 ⊢
    have HB5 := Aside0.mk hb5
    have HC5 := Aside0.mk hc5
    have HD5 := Aside0.mk hd5
    have x0 : w5.cell? ⟨b1, 0, none⟩ = some (.string T) := (blk_cell hy5 0).trans rfl
    have x1 : w5.cell? ⟨b1, 1, none⟩ = some (.slice A xs.length c) := (blk_cell hy5 1).trans rfl
    have y0 : w5.cell? ⟨b7, 0, none⟩ = some (.string T) := (blk_cell hx5 0).trans rfl
    have y1 : w5.cell? ⟨b7, 1, none⟩ = some (.slice A5 xs.length cc5) := (blk_cell hx5 1).trans rfl
    clear hx5 hd5 hc5 hb5 hy5 h4 HB4 HC4 HD4 HX4
    go_wp2_with fail
    refine (tallowlaw33_same.calls ks T A c xs T A5 cc5 xs true w5 HC5.out HCC.out HD5.out HDC.out HSM.out).mono ?_
    rintro e w6 ⟨rfl, hb⟩
    have HB6 := Aside0.mk (below_step HB5.out hb)
    clear hb HB5 HC5 HD5 x0 x1 y0 y1 HSM HP HRE
    go_wp2_with fail
    have HPT := HPT0
    refine (script_Parse.calls 4097 text T2 zs c2 a2 w6 (Laid.below HB6.out HL.out) HPT.out).mono ?_
    rintro e wa ⟨v2, ev2, rfl, hR, hF, hb⟩
    obtain ⟨A2, cc2, rfl⟩ := Kd.R_slice hR
    have HBa := Aside0.mk (below_step HB6.out hb)
    have HCa := Aside0.mk (Kd.R_reads' hR).2.2
    clear hR hb
    rcases hF with ⟨hc2, hev⟩ | ⟨hc2, p, hev, hp0, hp1⟩
    · subst hc2
      subst hev
      have hpr := print_back HPT.out
      have hln := parse_len HPT.out
      have HLN := Aside0.mk hln
      have HPR := Aside0.mk hpr
      clear hpr hln
      go_upto_region 11 with (fail)
      have h4 := below_alloc (Below.refl wa.heap.size wa) (.cells #[.string T2, .slice A2 zs.length cc2] 24 (0, 0))
      have hx4 := blk_new wa (.cells #[.string T2, .slice A2 zs.length cc2] 24 (0, 0))
      have hc4 := Kd.C_below HCa.out h4
      have hb4 := below_step HBa.out h4
      generalize wa.alloc (.cells #[.string T2, .slice A2 zs.length cc2] 24) = wb at hx4 hc4 hb4 ⊢
      generalize wa.heap.size = b9 at hx4 ⊢
      have HCb := Aside0.mk hc4
      have HBb := Aside0.mk hb4
      have y0 : wb.cell? ⟨b9, 0, none⟩ = some (.string T2) := (blk_cell hx4 0).trans rfl
      have y1 : wb.cell? ⟨b9, 1, none⟩ = some (.slice A2 zs.length cc2) := (blk_cell hx4 1).trans rfl
      clear hx4 hc4 hb4 h4 HBa HCa
      go_wp2_with fail
      refine (script_Print.calls T2 A2 cc2 zs text 0 wb (Laid.below HBb.out HL.out) HCb.out (by have := HLN.out; omega) (by have := HLN.out; omega) HPR.out).mono ?_
      rintro e wc ⟨rfl, hb⟩
      have HBc := Aside0.mk (below_step HBb.out hb)
      clear hb HBb HCb y0 y1
      have e9 : (text.toList == text.toList) = true := beq_self_eq_true _
      go_wp2_with fail
      go_ret
      exact ⟨rfl, HBc.out⟩
    · subst hev
      obtain ⟨rfl, rfl⟩ := parse_fault HPT.out hc2
      have HC2 := Aside0.mk hc2
      clear hc2 hp0 hp1
      go_upto_region 11 with (fail)
      have h4 := below_alloc (Below.refl wa.heap.size wa) (.cells #[.string ⟨#[]⟩, .slice A2 ([] : List S44).length cc2] 24 (0, 0))
      have hx4 := blk_new wa (.cells #[.string ⟨#[]⟩, .slice A2 ([] : List S44).length cc2] 24 (0, 0))
      have hb4 := below_step HBa.out h4
      generalize wa.alloc (.cells #[.string ⟨#[]⟩, .slice A2 ([] : List S44).length cc2] 24) = wb at hx4 hb4 ⊢
      generalize wa.heap.size = b9 at hx4 ⊢
      have HBb := Aside0.mk hb4
      have y0 : wb.cell? ⟨b9, 0, none⟩ = some (.string ⟨#[]⟩) := (blk_cell hx4 0).trans rfl
      have y1 : wb.cell? ⟨b9, 1, none⟩ = some (.slice A2 0 cc2) := (blk_cell hx4 1).trans rfl
      clear hx4 hb4 h4 HBa HCa
      go_wp2_with fail
      go_ret
      exact ⟨rfl, HBb.out⟩
  · have hee : (e == 0) = false := by simpa using he
    have hrb := print_bad HRE.out he
    subst hrb
    clear x0 x1 HC3 HX3 HRE
    go_wp2_with fail
    have HPT := HPT0
    refine (script_Parse.calls 4097 text T2 zs c2 a2 w3 (Laid.below HB3.out HL.out) HPT.out).mono ?_
    rintro e wa ⟨v2, ev2, rfl, hR, hF, hb⟩
    obtain ⟨A2, cc2, rfl⟩ := Kd.R_slice hR
    have HBa := Aside0.mk (below_step HB3.out hb)
    have HCa := Aside0.mk (Kd.R_reads' hR).2.2
    clear hR hb
    rcases hF with ⟨hc2, hev⟩ | ⟨hc2, p, hev, hp0, hp1⟩
    · subst hc2
      subst hev
      have hpr := print_back HPT.out
      have hln := parse_len HPT.out
      have HLN := Aside0.mk hln
      have HPR := Aside0.mk hpr
      clear hpr hln
      go_upto_region 11 with (fail)
      have h4 := below_alloc (Below.refl wa.heap.size wa) (.cells #[.string T2, .slice A2 zs.length cc2] 24 (0, 0))
      have hx4 := blk_new wa (.cells #[.string T2, .slice A2 zs.length cc2] 24 (0, 0))
      have hc4 := Kd.C_below HCa.out h4
      have hb4 := below_step HBa.out h4
      generalize wa.alloc (.cells #[.string T2, .slice A2 zs.length cc2] 24) = wb at hx4 hc4 hb4 ⊢
      generalize wa.heap.size = b9 at hx4 ⊢
      have HCb := Aside0.mk hc4
      have HBb := Aside0.mk hb4
      have y0 : wb.cell? ⟨b9, 0, none⟩ = some (.string T2) := (blk_cell hx4 0).trans rfl
      have y1 : wb.cell? ⟨b9, 1, none⟩ = some (.slice A2 zs.length cc2) := (blk_cell hx4 1).trans rfl
      clear hx4 hc4 hb4 h4 HBa HCa
      go_wp2_with fail
      refine (script_Print.calls T2 A2 cc2 zs text 0 wb (Laid.below HBb.out HL.out) HCb.out (by have := HLN.out; omega) (by have := HLN.out; omega) HPR.out).mono ?_
      rintro e wc ⟨rfl, hb⟩
      have HBc := Aside0.mk (below_step HBb.out hb)
      clear hb HBb HCb y0 y1
      have e9 : (text.toList == text.toList) = true := beq_self_eq_true _
      go_wp2_with fail
      go_ret
      exact ⟨rfl, HBc.out⟩
    · subst hev
      obtain ⟨rfl, rfl⟩ := parse_fault HPT.out hc2
      have HC2 := Aside0.mk hc2
      clear hc2 hp0 hp1
      go_upto_region 11 with (fail)
      have h4 := below_alloc (Below.refl wa.heap.size wa) (.cells #[.string ⟨#[]⟩, .slice A2 ([] : List S44).length cc2] 24 (0, 0))
      have hx4 := blk_new wa (.cells #[.string ⟨#[]⟩, .slice A2 ([] : List S44).length cc2] 24 (0, 0))
      have hb4 := below_step HBa.out h4
      generalize wa.alloc (.cells #[.string ⟨#[]⟩, .slice A2 ([] : List S44).length cc2] 24) = wb at hx4 hb4 ⊢
      generalize wa.heap.size = b9 at hx4 ⊢
      have HBb := Aside0.mk hb4
      have y0 : wb.cell? ⟨b9, 0, none⟩ = some (.string ⟨#[]⟩) := (blk_cell hx4 0).trans rfl
      have y1 : wb.cell? ⟨b9, 1, none⟩ = some (.slice A2 0 cc2) := (blk_cell hx4 1).trans rfl
      clear hx4 hb4 h4 HBa HCa
      go_wp2_with fail
      go_ret
      exact ⟨rfl, HBb.out⟩
end Go.Proofs.YtnombbcgdfgadaaDoor.G
end
