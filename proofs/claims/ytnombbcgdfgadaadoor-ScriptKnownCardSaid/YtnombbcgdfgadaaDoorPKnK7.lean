import Derived.LaidMore
import Derived.LaidHandle
import Derived.Stop.Joined
import Derived.Lib.IfaceEq
import Derived.Lib.ItoaLen
import Derived.Shelf.Strings.MapGrows
import Derived.Shelf.Abstract
import Derived.LaidEql
import Derived.Stop.Asserts
import Derived.RowKitTokens
import Derived.Lib.LaidTab
import Derived.Lib.AppendIntMem
import Derived.Stop.LaidErr
import Derived.WalkKit
import Derived.Deep.RegionLaw
import Derived.Deep.Cut
import Derived.WalkSpells
import Derived.Test.YtnombbcgdfgadaaDoorPKnKF
import Derived.Lib.Hide
set_option linter.unusedVariables false
set_option linter.unusedSimpArgs false
section
namespace Go.Proofs.YtnombbcgdfgadaaDoor.G
open Go.Shelf Go.Extern.Stop Go.Stop Go.Extern Go.RowKit Go.Proofs.YtnombbcgdfgadaaDoorW.PrintWords Go.Proofs.YtnombbcgdfgadaaDoorW.PrintLast Go.Proofs.YtnombbcgdfgadaaDoorW.PrintMore
set_option linter.unusedVariables false
set_option linter.unusedSimpArgs false
attribute [local go_sem high] eqA44
set_option maxHeartbeats 20000000 in
set_option maxRecDepth 100000 in
theorem known_any (w : World) (hL : Laid w) : Calls Tryd.prog 7 #[] w fun e w' => e = .returned (.bool true) ∧ Below w.heap.size w w' := by
  have HL := Aside0.mk hL
  clear hL
  go_enter Tryd.func7, Tryd.ntmps7
  go_upto_region 1 with (fail)
  go_cut [1] from 209 (fun v1 wx => v1 = .slice (some ⟨w.heap.size, 0, none⟩) 16 16 ∧ Below w.heap.size w wx ∧ wx.heap[w.heap.size]? = some (.cells knC.toArray 9 (0, 0)))
  case first =>
    go_wp2_with fail
    go_meet
    case rel => exact ⟨rfl, below_alloc (Below.refl _ _) _, (blk_new _ _).trans (congrArg (fun x => some (Obj.cells x 9 (0, 0))) (by kernel_rfl))⟩
  obtain ⟨rfl, hb, hk⟩ := hcut
  have HB := Aside0.mk hb
  have HK := Aside0.mk hk
  clear hb hk
  go_upto_region 2 with (fail)
  go_cut [2] from 209 (fun v2 wx => ∃ g2, v2 = .slice (some ⟨g2, 0, none⟩) 16 16 ∧ Below w.heap.size w wx ∧ wx.heap[w.heap.size]? = some (.cells knC.toArray 9 (0, 0)) ∧ wx.heap[g2]? = some (.cells knD.toArray 3 (0, 0)))
  case first =>
    go_wp2_with fail
    go_meet
    case rel => exact ⟨_, rfl, below_alloc HB.out _, blk_alloc HK.out _, (blk_new _ _).trans (congrArg (fun x => some (Obj.cells x 3 (0, 0))) (by kernel_rfl))⟩
  clear HB HK
  obtain ⟨g2, rfl, hb, hk, hd⟩ := hcut
  have HB := Aside0.mk hb
  have HK := Aside0.mk hk
  have HD := Aside0.mk hd
  clear hb hk hd
  go_step
  go_step
  go_cut [0] from 209 (fun _ wx => Below w.heap.size w wx)
  case first =>
    go_wp2_with fail
    go_loopw [3] (fun v3 wr => ∃ i : Nat, v3 = .int .i64 i ∧ i ≤ 16 ∧ Aside0 (Below w.heap.size w wr) ∧ Aside0 (wr.heap[w.heap.size]? = some (.cells knC.toArray 9 (0, 0))) ∧ Aside0 (wr.heap[g2]? = some (.cells knD.toArray 3 (0, 0)))) (fun v3 _ => 16 - (intOf v3).toNat)
    case atStart => exact ⟨0, rfl, by omega, HB, HK, HD⟩
    case round =>
      clear HB HK HD
      obtain ⟨i, rfl, hi, HB, HK, HD⟩ := hrel
      by_cases hlt : i < 16
      · obtain ⟨T, zs, hrow⟩ := kn_row hlt
        have HR := Aside0.mk hrow
        clear hrow
        have y0 : wr.cell? ⟨w.heap.size, i, none⟩ = some (.string (knT.getD i ⟨#[]⟩)) := (blk_cell HK.out i).trans (by simpa using knC_at hlt)
        have hc16 : decide ((i : Int) < 16) = true := decide_eq_true (by omega)
        go_wp2_with fail
        refine (script_Parse.calls 4 _ T zs 4 (knL.getD i 0) wr (Laid.below HB.out HL.out) HR.out).mono ?_
        rintro e w1 ⟨v, ev, rfl, hR, hF, hb⟩
        obtain ⟨A, cc, rfl⟩ := Kd.R_slice hR
        have HF1 := Aside0.mk hF
        have HB1 := Aside0.mk (below_step HB.out hb)
        have HK1 := Aside0.mk (blk_below HK.out hb)
        have HD1 := Aside0.mk (blk_below HD.out hb)
        clear hR hF hb HB HK HD y0
        go_upto_region 7 with (fail)
        have h4 := below_alloc (Below.refl w1.heap.size w1) (.cells #[.string T, .slice A zs.length cc] 24 (0, 0))
        have HF2 := Aside0.mk (FaultV.below HF1.out h4)
        have HB2 := Aside0.mk (below_step HB1.out h4)
        have HK2 := Aside0.mk (blk_below HK1.out h4)
        have HD2 := Aside0.mk (blk_below HD1.out h4)
        clear h4 HF1 HB1 HK1 HD1
        generalize w1.alloc (.cells #[.string T, .slice A zs.length cc] 24) = w2 at HF2 HB2 HK2 HD2 ⊢
        have y1 : w2.cell? ⟨g2, i, none⟩ = some (.int .i64 (knL.getD i 0)) := (blk_cell HD2.out i).trans (by simpa using knD_at hlt)
        go_wp2_with fail
        refine (told_true ev 4 _ _ _ w2 (Laid.below HB2.out HL.out) HF2.out (fun _ => rfl)).mono ?_
        rintro e w3 ⟨rfl, hb⟩
        have HB3 := Aside0.mk (below_step HB2.out hb)
        have HK3 := Aside0.mk (blk_below HK2.out hb)
        have HD3 := Aside0.mk (blk_below HD2.out hb)
        clear hb HB2 HK2 HD2 HF2 y1
        go_wp2_with fail
        go_roundw
        case rel => exact ⟨i + 1, by simp, by omega, HB3, HK3, HD3⟩
        case measure => simp [intOf]; omega
      · obtain rfl : i = 16 := by omega
        go_wp2_with fail
        go_meet
        case rel => exact HB.out
  clear HB HK HD
  have HB := Aside0.mk hcut
  clear hcut
  go_upto_region 9 with (fail)
  go_cut [7] from 209 (fun v wx => ∃ eva wa, eva = v ∧ Below w.heap.size w wx ∧ FaultV wa wx eva 15 1)
  case first =>
    go_wp2_with fail
    refine (script_Parse.calls 4 ⟨#[115, 108, 105, 99, 101, 32, 49, 10, 114, 117, 110, 32, 50, 49, 52, 55, 52, 56, 51, 54, 52, 56, 10, 115, 111, 117, 114, 99, 101, 10]⟩ ⟨#[]⟩ [] 15 1 wc (Laid.below HB.out HL.out) kn_a).mono ?_
    rintro e w1 ⟨v, ev, rfl, hR, hF, hb⟩
    obtain ⟨A, cc, rfl⟩ := Kd.R_slice hR
    have HB1 := Aside0.mk (below_step HB.out hb)
    clear HB
    have HF1 := Aside0.mk hF
    have HC1 := Aside0.mk (Kd.R_reads' hR).2.2
    clear hR hF hb
    go_wp2_with fail
    have h4 := below_alloc (Below.refl w1.heap.size w1) (.cells #[.string ⟨#[]⟩, .slice A ([] : List S44).length cc] 24 (0, 0))
    have HB2 := Aside0.mk (below_step HB1.out h4)
    clear HB1
    go_meet
    case rel => exact ⟨_, _, rfl, HB2.out, FaultV.below HF1.out h4⟩
  clear HB
  obtain ⟨eva, wa, rfl, hHB, hHFa⟩ := hcut
  have HB := Aside0.mk hHB
  have HFa := Aside0.mk hHFa
  clear hHB hHFa
  go_upto_region 10 with (fail)
  go_cut [8, 9] from 209 (fun vs v wx => ∃ bb Ab cb, vs = .pointer (some ⟨bb, 0, none⟩) ∧ v = .nilIface ∧ Below w.heap.size w wx ∧ FaultV wa wx eva 15 1 ∧ wx.heap[bb]? = some (.cells #[.string ⟨#[]⟩, .slice Ab ([⟨4, 2147483647⟩, ⟨1, 0⟩] : List S44).length cb] 24 (0, 0)) ∧ Kd.C k44 wx Ab ([⟨4, 2147483647⟩, ⟨1, 0⟩] : List S44).length [⟨4, 2147483647⟩, ⟨1, 0⟩])
  case first =>
    go_wp2_with fail
    refine (script_Parse.calls 4 ⟨#[102, 105, 110, 32, 50, 49, 52, 55, 52, 56, 51, 54, 52, 55, 10, 114, 101, 108, 101, 97, 115, 101, 32, 48, 10, 115, 111, 117, 114, 99, 101, 10]⟩ ⟨#[]⟩ [⟨4, 2147483647⟩, ⟨1, 0⟩] 0 0 wc (Laid.below HB.out HL.out) kn_b).mono ?_
    rintro e w1 ⟨v, ev, rfl, hR, hF, hb⟩
    obtain ⟨A, cc, rfl⟩ := Kd.R_slice hR
    have HB1 := Aside0.mk (below_step HB.out hb)
    have HFa1 := Aside0.mk (FaultV.below HFa.out hb)
    clear HB HFa
    obtain rfl : ev = .nilIface := by
      rcases hF with ⟨_, h⟩ | ⟨h, _⟩
      · exact h
      · exact absurd rfl h
    have HC1 := Aside0.mk (Kd.R_reads' hR).2.2
    clear hR hF hb
    go_wp2_with fail
    have h4 := below_alloc (Below.refl w1.heap.size w1) (.cells #[.string ⟨#[]⟩, .slice A ([⟨4, 2147483647⟩, ⟨1, 0⟩] : List S44).length cc] 24 (0, 0))
    have HB2 := Aside0.mk (below_step HB1.out h4)
    have HFa2 := Aside0.mk (FaultV.below HFa1.out h4)
    clear HB1 HFa1
    go_meet
    case rel => exact ⟨_, _, _, rfl, rfl, HB2.out, HFa2.out, blk_new _ _, Kd.C_below HC1.out h4⟩
  clear HB HFa
  obtain ⟨bb, Ab, cb, rfl, rfl, hHB, hHFa, hHXb, hHCb⟩ := hcut
  have HB := Aside0.mk hHB
  have HFa := Aside0.mk hHFa
  have HXb := Aside0.mk hHXb
  have HCb := Aside0.mk hHCb
  clear hHB hHFa hHXb hHCb
  go_upto_region 11 with (fail)
  go_cut [11] from 209 (fun v wx => ∃ evd wd, evd = v ∧ Below w.heap.size w wx ∧ FaultV wa wx eva 15 1 ∧ wx.heap[bb]? = some (.cells #[.string ⟨#[]⟩, .slice Ab ([⟨4, 2147483647⟩, ⟨1, 0⟩] : List S44).length cb] 24 (0, 0)) ∧ Kd.C k44 wx Ab ([⟨4, 2147483647⟩, ⟨1, 0⟩] : List S44).length [⟨4, 2147483647⟩, ⟨1, 0⟩] ∧ FaultV wd wx evd 15 0)
  case first =>
    go_wp2_with fail
    refine (script_Parse.calls 4 ⟨#[114, 117, 110, 32, 57, 57, 57, 57, 57, 57, 57, 57, 57, 57, 57, 57, 57, 57, 57, 57, 57, 57, 57, 57, 57, 57, 57, 10, 115, 111, 117, 114, 99, 101, 10]⟩ ⟨#[]⟩ [] 15 0 wc (Laid.below HB.out HL.out) kn_d).mono ?_
    rintro e w1 ⟨v, ev, rfl, hR, hF, hb⟩
    obtain ⟨A, cc, rfl⟩ := Kd.R_slice hR
    have HB1 := Aside0.mk (below_step HB.out hb)
    have HFa1 := Aside0.mk (FaultV.below HFa.out hb)
    have HXb1 := Aside0.mk (blk_below HXb.out hb)
    have HCb1 := Aside0.mk (Kd.C_below HCb.out hb)
    clear HB HFa HXb HCb
    have HF1 := Aside0.mk hF
    have HC1 := Aside0.mk (Kd.R_reads' hR).2.2
    clear hR hF hb
    go_wp2_with fail
    have h4 := below_alloc (Below.refl w1.heap.size w1) (.cells #[.string ⟨#[]⟩, .slice A ([] : List S44).length cc] 24 (0, 0))
    have HB2 := Aside0.mk (below_step HB1.out h4)
    have HFa2 := Aside0.mk (FaultV.below HFa1.out h4)
    have HXb2 := Aside0.mk (blk_below HXb1.out h4)
    have HCb2 := Aside0.mk (Kd.C_below HCb1.out h4)
    clear HB1 HFa1 HXb1 HCb1
    go_meet
    case rel => exact ⟨_, _, rfl, HB2.out, HFa2.out, HXb2.out, HCb2.out, FaultV.below HF1.out h4⟩
  clear HB HFa HXb HCb
  obtain ⟨evd, wd, rfl, hHB, hHFa, hHXb, hHCb, hHFd⟩ := hcut
  have HB := Aside0.mk hHB
  have HFa := Aside0.mk hHFa
  have HXb := Aside0.mk hHXb
  have HCb := Aside0.mk hHCb
  have HFd := Aside0.mk hHFd
  clear hHB hHFa hHXb hHCb hHFd
  go_upto_region 12 with (fail)
  go_cut [13] from 209 (fun v wx => ∃ eve we, eve = v ∧ Below w.heap.size w wx ∧ FaultV wa wx eva 15 1 ∧ wx.heap[bb]? = some (.cells #[.string ⟨#[]⟩, .slice Ab ([⟨4, 2147483647⟩, ⟨1, 0⟩] : List S44).length cb] 24 (0, 0)) ∧ Kd.C k44 wx Ab ([⟨4, 2147483647⟩, ⟨1, 0⟩] : List S44).length [⟨4, 2147483647⟩, ⟨1, 0⟩] ∧ FaultV wd wx evd 15 0 ∧ FaultV we wx eve 3 4096)
  case first =>
    go_wp2_with fail
    refine (repeat_any ⟨#[99, 111, 108, 108, 101, 99, 116, 10]⟩ 4097 wc (by decide) (by decide)).mono ?_
    rintro e wp ⟨rfl, hb⟩
    have HBp := Aside0.mk (below_step HB.out hb)
    have HFap := Aside0.mk (FaultV.below HFa.out hb)
    have HXbp := Aside0.mk (blk_below HXb.out hb)
    have HCbp := Aside0.mk (Kd.C_below HCb.out hb)
    have HFdp := Aside0.mk (FaultV.below HFd.out hb)
    clear HB HFa HXb HCb HFd
    clear hb
    obtain ⟨rp, hrp⟩ : ∃ rp, rp = (⟨(Lib.repeatL (⟨#[99, 111, 108, 108, 101, 99, 116, 10]⟩ : ByteArray).data.toList 4097).toArray⟩ : ByteArray) := ⟨_, rfl⟩
    rw [← hrp]
    have hrs : rp.size = 32776 := by
      rw [hrp]
      show (Lib.repeatL _ _).toArray.size = _
      rw [List.size_toArray, Lib.repeatL_length]
      rfl
    have q1 : (9223372036854775807 < rp.size + 7) = False := eq_false (by omega)
    have hpp : script_Parse.f 4097 (rp ++ ⟨#[115, 111, 117, 114, 99, 101, 10]⟩) = some (⟨#[]⟩, [], 3, 4096) := by rw [hrp]; exact kn_e
    clear hrp hrs
    replace hpp := Aside0.mk hpp
    go_wp2_with fail
    refine (script_Parse.calls 4097 _ ⟨#[]⟩ [] 3 4096 wp (Laid.below HBp.out HL.out) hpp.out).mono ?_
    rintro e w1 ⟨v, ev, rfl, hR, hF, hb⟩
    obtain ⟨A, cc, rfl⟩ := Kd.R_slice hR
    have HB1 := Aside0.mk (below_step HBp.out hb)
    have HFa1 := Aside0.mk (FaultV.below HFap.out hb)
    have HXb1 := Aside0.mk (blk_below HXbp.out hb)
    have HCb1 := Aside0.mk (Kd.C_below HCbp.out hb)
    have HFd1 := Aside0.mk (FaultV.below HFdp.out hb)
    clear HBp HFap HXbp HCbp HFdp
    have HF1 := Aside0.mk hF
    have HC1 := Aside0.mk (Kd.R_reads' hR).2.2
    clear hR hF hb
    go_wp2_with fail
    have h4 := below_alloc (Below.refl w1.heap.size w1) (.cells #[.string ⟨#[]⟩, .slice A ([] : List S44).length cc] 24 (0, 0))
    have HB2 := Aside0.mk (below_step HB1.out h4)
    have HFa2 := Aside0.mk (FaultV.below HFa1.out h4)
    have HXb2 := Aside0.mk (blk_below HXb1.out h4)
    have HCb2 := Aside0.mk (Kd.C_below HCb1.out h4)
    have HFd2 := Aside0.mk (FaultV.below HFd1.out h4)
    clear HB1 HFa1 HXb1 HCb1 HFd1
    go_meet
    case rel => exact ⟨_, _, rfl, HB2.out, HFa2.out, HXb2.out, HCb2.out, HFd2.out, FaultV.below HF1.out h4⟩
  clear HB HFa HXb HCb HFd
  obtain ⟨eve, we, rfl, hHB, hHFa, hHXb, hHCb, hHFd, hHFe⟩ := hcut
  have HB := Aside0.mk hHB
  have HFa := Aside0.mk hHFa
  have HXb := Aside0.mk hHXb
  have HCb := Aside0.mk hHCb
  have HFd := Aside0.mk hHFd
  have HFe := Aside0.mk hHFe
  clear hHB hHFa hHXb hHCb hHFd hHFe
  go_upto_region 13 with (fail)
  go_cut [14, 15] from 209 (fun vs v wx => ∃ bf Af cf, vs = .pointer (some ⟨bf, 0, none⟩) ∧ v = .nilIface ∧ Below w.heap.size w wx ∧ FaultV wa wx eva 15 1 ∧ wx.heap[bb]? = some (.cells #[.string ⟨#[]⟩, .slice Ab ([⟨4, 2147483647⟩, ⟨1, 0⟩] : List S44).length cb] 24 (0, 0)) ∧ Kd.C k44 wx Ab ([⟨4, 2147483647⟩, ⟨1, 0⟩] : List S44).length [⟨4, 2147483647⟩, ⟨1, 0⟩] ∧ FaultV wd wx evd 15 0 ∧ FaultV we wx eve 3 4096 ∧ wx.heap[bf]? = some (.cells #[.string ⟨#[]⟩, .slice Af 4096 cf] 24 (0, 0)))
  case first =>
    go_wp2_with fail
    refine (repeat_any ⟨#[99, 111, 108, 108, 101, 99, 116, 10]⟩ 4096 wc (by decide) (by decide)).mono ?_
    rintro e wp ⟨rfl, hb⟩
    have HBp := Aside0.mk (below_step HB.out hb)
    have HFap := Aside0.mk (FaultV.below HFa.out hb)
    have HXbp := Aside0.mk (blk_below HXb.out hb)
    have HCbp := Aside0.mk (Kd.C_below HCb.out hb)
    have HFdp := Aside0.mk (FaultV.below HFd.out hb)
    have HFep := Aside0.mk (FaultV.below HFe.out hb)
    clear HB HFa HXb HCb HFd HFe
    clear hb
    obtain ⟨rp, hrp⟩ : ∃ rp, rp = (⟨(Lib.repeatL (⟨#[99, 111, 108, 108, 101, 99, 116, 10]⟩ : ByteArray).data.toList 4096).toArray⟩ : ByteArray) := ⟨_, rfl⟩
    rw [← hrp]
    have hrs : rp.size = 32768 := by
      rw [hrp]
      show (Lib.repeatL _ _).toArray.size = _
      rw [List.size_toArray, Lib.repeatL_length]
      rfl
    have q1 : (9223372036854775807 < rp.size + 7) = False := eq_false (by omega)
    have hpp : script_Parse.f 4097 (rp ++ ⟨#[115, 111, 117, 114, 99, 101, 10]⟩) = some (⟨#[]⟩, List.replicate 4096 ⟨3, 0⟩, 0, 0) := by rw [hrp]; exact kn_f
    clear hrp hrs
    replace hpp := Aside0.mk hpp
    go_wp2_with fail
    refine (script_Parse.calls 4097 _ ⟨#[]⟩ (List.replicate 4096 ⟨3, 0⟩) 0 0 wp (Laid.below HBp.out HL.out) hpp.out).mono ?_
    rintro e w1 ⟨v, ev, rfl, hR, hF, hb⟩
    obtain ⟨A, cc, rfl⟩ := Kd.R_slice hR
    have HB1 := Aside0.mk (below_step HBp.out hb)
    have HFa1 := Aside0.mk (FaultV.below HFap.out hb)
    have HXb1 := Aside0.mk (blk_below HXbp.out hb)
    have HCb1 := Aside0.mk (Kd.C_below HCbp.out hb)
    have HFd1 := Aside0.mk (FaultV.below HFdp.out hb)
    have HFe1 := Aside0.mk (FaultV.below HFep.out hb)
    clear HBp HFap HXbp HCbp HFdp HFep
    obtain rfl : ev = .nilIface := by
      rcases hF with ⟨_, h⟩ | ⟨h, _⟩
      · exact h
      · exact absurd rfl h
    have HC1 := Aside0.mk (Kd.R_reads' hR).2.2
    clear hR hF hb
    go_wp2_with fail
    rw [List.length_replicate] at HC1
    have h4 := below_alloc (Below.refl w1.heap.size w1) (.cells #[.string ⟨#[]⟩, .slice A 4096 cc] 24 (0, 0))
    have HB2 := Aside0.mk (below_step HB1.out h4)
    have HFa2 := Aside0.mk (FaultV.below HFa1.out h4)
    have HXb2 := Aside0.mk (blk_below HXb1.out h4)
    have HCb2 := Aside0.mk (Kd.C_below HCb1.out h4)
    have HFd2 := Aside0.mk (FaultV.below HFd1.out h4)
    have HFe2 := Aside0.mk (FaultV.below HFe1.out h4)
    clear HB1 HFa1 HXb1 HCb1 HFd1 HFe1
    go_meet
    case rel => exact ⟨_, _, _, rfl, rfl, HB2.out, HFa2.out, HXb2.out, HCb2.out, HFd2.out, HFe2.out, blk_new _ _⟩
  clear HB HFa HXb HCb HFd HFe
  obtain ⟨bf, Af, cf, rfl, rfl, hHB, hHFa, hHXb, hHCb, hHFd, hHFe, hHXf⟩ := hcut
  have HB := Aside0.mk hHB
  have HFa := Aside0.mk hHFa
  have HXb := Aside0.mk hHXb
  have HCb := Aside0.mk hHCb
  have HFd := Aside0.mk hHFd
  have HFe := Aside0.mk hHFe
  have HXf := Aside0.mk hHXf
  clear hHB hHFa hHXb hHCb hHFd hHFe hHXf
  go_upto_region 14 with (fail)
  go_cut [17] from 209 (fun v wx => ∃ evh wh, evh = v ∧ Below w.heap.size w wx ∧ FaultV wa wx eva 15 1 ∧ wx.heap[bb]? = some (.cells #[.string ⟨#[]⟩, .slice Ab ([⟨4, 2147483647⟩, ⟨1, 0⟩] : List S44).length cb] 24 (0, 0)) ∧ Kd.C k44 wx Ab ([⟨4, 2147483647⟩, ⟨1, 0⟩] : List S44).length [⟨4, 2147483647⟩, ⟨1, 0⟩] ∧ FaultV wd wx evd 15 0 ∧ FaultV we wx eve 3 4096 ∧ wx.heap[bf]? = some (.cells #[.string ⟨#[]⟩, .slice Af 4096 cf] 24 (0, 0)) ∧ FaultV wh wx evh 15 0)
  case first =>
    go_wp2_with fail
    refine (script_Parse.calls 4 ⟨#[114, 117, 110, 32, 50, 49, 52, 55, 52, 56, 51, 54, 52, 56]⟩ ⟨#[]⟩ [] 15 0 wc (Laid.below HB.out HL.out) kn_h).mono ?_
    rintro e w1 ⟨v, ev, rfl, hR, hF, hb⟩
    obtain ⟨A, cc, rfl⟩ := Kd.R_slice hR
    have HB1 := Aside0.mk (below_step HB.out hb)
    have HFa1 := Aside0.mk (FaultV.below HFa.out hb)
    have HXb1 := Aside0.mk (blk_below HXb.out hb)
    have HCb1 := Aside0.mk (Kd.C_below HCb.out hb)
    have HFd1 := Aside0.mk (FaultV.below HFd.out hb)
    have HFe1 := Aside0.mk (FaultV.below HFe.out hb)
    have HXf1 := Aside0.mk (blk_below HXf.out hb)
    clear HB HFa HXb HCb HFd HFe HXf
    have HF1 := Aside0.mk hF
    have HC1 := Aside0.mk (Kd.R_reads' hR).2.2
    clear hR hF hb
    go_wp2_with fail
    have h4 := below_alloc (Below.refl w1.heap.size w1) (.cells #[.string ⟨#[]⟩, .slice A ([] : List S44).length cc] 24 (0, 0))
    have HB2 := Aside0.mk (below_step HB1.out h4)
    have HFa2 := Aside0.mk (FaultV.below HFa1.out h4)
    have HXb2 := Aside0.mk (blk_below HXb1.out h4)
    have HCb2 := Aside0.mk (Kd.C_below HCb1.out h4)
    have HFd2 := Aside0.mk (FaultV.below HFd1.out h4)
    have HFe2 := Aside0.mk (FaultV.below HFe1.out h4)
    have HXf2 := Aside0.mk (blk_below HXf1.out h4)
    clear HB1 HFa1 HXb1 HCb1 HFd1 HFe1 HXf1
    go_meet
    case rel => exact ⟨_, _, rfl, HB2.out, HFa2.out, HXb2.out, HCb2.out, HFd2.out, HFe2.out, HXf2.out, FaultV.below HF1.out h4⟩
  clear HB HFa HXb HCb HFd HFe HXf
  obtain ⟨evh, wh, rfl, hHB, hHFa, hHXb, hHCb, hHFd, hHFe, hHXf, hHFh⟩ := hcut
  have HB := Aside0.mk hHB
  have HFa := Aside0.mk hHFa
  have HXb := Aside0.mk hHXb
  have HCb := Aside0.mk hHCb
  have HFd := Aside0.mk hHFd
  have HFe := Aside0.mk hHFe
  have HXf := Aside0.mk hHXf
  have HFh := Aside0.mk hHFh
  clear hHB hHFa hHXb hHCb hHFd hHFe hHXf hHFh
  go_upto_region 15 with (fail)
  go_cut [19] from 209 (fun v wx => v = .int .i64 2 ∧ Below w.heap.size w wx ∧ FaultV wa wx eva 15 1 ∧ wx.heap[bb]? = some (.cells #[.string ⟨#[]⟩, .slice Ab ([⟨4, 2147483647⟩, ⟨1, 0⟩] : List S44).length cb] 24 (0, 0)) ∧ Kd.C k44 wx Ab ([⟨4, 2147483647⟩, ⟨1, 0⟩] : List S44).length [⟨4, 2147483647⟩, ⟨1, 0⟩] ∧ FaultV wd wx evd 15 0 ∧ FaultV we wx eve 3 4096 ∧ wx.heap[bf]? = some (.cells #[.string ⟨#[]⟩, .slice Af 4096 cf] 24 (0, 0)) ∧ FaultV wh wx evh 15 0)
  case first =>
    go_wp2_with fail
    have hb := below_alloc (Below.refl wc.heap.size wc) (.cells #[.int .i64 3, .int .i64 1] 44 (0, 0))
    have HBq := Aside0.mk (below_step HB.out hb)
    have HFaq := Aside0.mk (FaultV.below HFa.out hb)
    have HXbq := Aside0.mk (blk_below HXb.out hb)
    have HCbq := Aside0.mk (Kd.C_below HCb.out hb)
    have HFdq := Aside0.mk (FaultV.below HFd.out hb)
    have HFeq := Aside0.mk (FaultV.below HFe.out hb)
    have HXfq := Aside0.mk (blk_below HXf.out hb)
    have HFhq := Aside0.mk (FaultV.below HFh.out hb)
    clear HB HFa HXb HCb HFd HFe HXf HFh
    have hC : Kd.C k44 _ _ ([⟨3, 1⟩] : List S44).length [⟨3, 1⟩] := C44b (blk_new wc (.cells #[.int .i64 3, .int .i64 1] 44 (0, 0))) rfl (by decide)
    clear hb
    refine (script_Print.calls ⟨#[]⟩ _ _ [⟨3, 1⟩] ⟨#[]⟩ 2 _ (Laid.below HBq.out HL.out) hC (by decide) (by first | decide | (rw [List.length_replicate]; decide)) kn_i).mono ?_
    rintro e w1 ⟨rfl, hb⟩
    have HB1 := Aside0.mk (below_step HBq.out hb)
    have HFa1 := Aside0.mk (FaultV.below HFaq.out hb)
    have HXb1 := Aside0.mk (blk_below HXbq.out hb)
    have HCb1 := Aside0.mk (Kd.C_below HCbq.out hb)
    have HFd1 := Aside0.mk (FaultV.below HFdq.out hb)
    have HFe1 := Aside0.mk (FaultV.below HFeq.out hb)
    have HXf1 := Aside0.mk (blk_below HXfq.out hb)
    have HFh1 := Aside0.mk (FaultV.below HFhq.out hb)
    clear HBq HFaq HXbq HCbq HFdq HFeq HXfq HFhq
    clear hb hC
    go_wp2_with fail
    go_meet
    case rel => exact ⟨rfl, HB1.out, HFa1.out, HXb1.out, HCb1.out, HFd1.out, HFe1.out, HXf1.out, HFh1.out⟩
  clear HB HFa HXb HCb HFd HFe HXf HFh
  obtain ⟨rfl, hHB, hHFa, hHXb, hHCb, hHFd, hHFe, hHXf, hHFh⟩ := hcut
  have HB := Aside0.mk hHB
  have HFa := Aside0.mk hHFa
  have HXb := Aside0.mk hHXb
  have HCb := Aside0.mk hHCb
  have HFd := Aside0.mk hHFd
  have HFe := Aside0.mk hHFe
  have HXf := Aside0.mk hHXf
  have HFh := Aside0.mk hHFh
  clear hHB hHFa hHXb hHCb hHFd hHFe hHXf hHFh
  go_upto_region 16 with (fail)
  go_cut [21] from 209 (fun v wx => v = .int .i64 2 ∧ Below w.heap.size w wx ∧ FaultV wa wx eva 15 1 ∧ wx.heap[bb]? = some (.cells #[.string ⟨#[]⟩, .slice Ab ([⟨4, 2147483647⟩, ⟨1, 0⟩] : List S44).length cb] 24 (0, 0)) ∧ Kd.C k44 wx Ab ([⟨4, 2147483647⟩, ⟨1, 0⟩] : List S44).length [⟨4, 2147483647⟩, ⟨1, 0⟩] ∧ FaultV wd wx evd 15 0 ∧ FaultV we wx eve 3 4096 ∧ wx.heap[bf]? = some (.cells #[.string ⟨#[]⟩, .slice Af 4096 cf] 24 (0, 0)) ∧ FaultV wh wx evh 15 0)
  case first =>
    go_wp2_with fail
    have hb := below_alloc (Below.refl wc.heap.size wc) (.cells #[.int .i64 5, .int .i64 0] 44 (0, 0))
    have HBq := Aside0.mk (below_step HB.out hb)
    have HFaq := Aside0.mk (FaultV.below HFa.out hb)
    have HXbq := Aside0.mk (blk_below HXb.out hb)
    have HCbq := Aside0.mk (Kd.C_below HCb.out hb)
    have HFdq := Aside0.mk (FaultV.below HFd.out hb)
    have HFeq := Aside0.mk (FaultV.below HFe.out hb)
    have HXfq := Aside0.mk (blk_below HXf.out hb)
    have HFhq := Aside0.mk (FaultV.below HFh.out hb)
    clear HB HFa HXb HCb HFd HFe HXf HFh
    have hC : Kd.C k44 _ _ ([⟨5, 0⟩] : List S44).length [⟨5, 0⟩] := C44b (blk_new wc (.cells #[.int .i64 5, .int .i64 0] 44 (0, 0))) rfl (by decide)
    clear hb
    refine (script_Print.calls ⟨#[]⟩ _ _ [⟨5, 0⟩] ⟨#[]⟩ 2 _ (Laid.below HBq.out HL.out) hC (by decide) (by first | decide | (rw [List.length_replicate]; decide)) kn_k).mono ?_
    rintro e w1 ⟨rfl, hb⟩
    have HB1 := Aside0.mk (below_step HBq.out hb)
    have HFa1 := Aside0.mk (FaultV.below HFaq.out hb)
    have HXb1 := Aside0.mk (blk_below HXbq.out hb)
    have HCb1 := Aside0.mk (Kd.C_below HCbq.out hb)
    have HFd1 := Aside0.mk (FaultV.below HFdq.out hb)
    have HFe1 := Aside0.mk (FaultV.below HFeq.out hb)
    have HXf1 := Aside0.mk (blk_below HXfq.out hb)
    have HFh1 := Aside0.mk (FaultV.below HFhq.out hb)
    clear HBq HFaq HXbq HCbq HFdq HFeq HXfq HFhq
    clear hb hC
    go_wp2_with fail
    go_meet
    case rel => exact ⟨rfl, HB1.out, HFa1.out, HXb1.out, HCb1.out, HFd1.out, HFe1.out, HXf1.out, HFh1.out⟩
  clear HB HFa HXb HCb HFd HFe HXf HFh
  obtain ⟨rfl, hHB, hHFa, hHXb, hHCb, hHFd, hHFe, hHXf, hHFh⟩ := hcut
  have HB := Aside0.mk hHB
  have HFa := Aside0.mk hHFa
  have HXb := Aside0.mk hHXb
  have HCb := Aside0.mk hHCb
  have HFd := Aside0.mk hHFd
  have HFe := Aside0.mk hHFe
  have HXf := Aside0.mk hHXf
  have HFh := Aside0.mk hHFh
  clear hHB hHFa hHXb hHCb hHFd hHFe hHXf hHFh
  go_upto_region 17 with (fail)
  go_cut [23] from 209 (fun v wx => v = .int .i64 2 ∧ Below w.heap.size w wx ∧ FaultV wa wx eva 15 1 ∧ wx.heap[bb]? = some (.cells #[.string ⟨#[]⟩, .slice Ab ([⟨4, 2147483647⟩, ⟨1, 0⟩] : List S44).length cb] 24 (0, 0)) ∧ Kd.C k44 wx Ab ([⟨4, 2147483647⟩, ⟨1, 0⟩] : List S44).length [⟨4, 2147483647⟩, ⟨1, 0⟩] ∧ FaultV wd wx evd 15 0 ∧ FaultV we wx eve 3 4096 ∧ wx.heap[bf]? = some (.cells #[.string ⟨#[]⟩, .slice Af 4096 cf] 24 (0, 0)) ∧ FaultV wh wx evh 15 0)
  case first =>
    go_wp2_with fail
    have hb := below_alloc (Below.refl wc.heap.size wc) (.cells #[.int .i64 0, .int .i64 (-1)] 44 (0, 0))
    have HBq := Aside0.mk (below_step HB.out hb)
    have HFaq := Aside0.mk (FaultV.below HFa.out hb)
    have HXbq := Aside0.mk (blk_below HXb.out hb)
    have HCbq := Aside0.mk (Kd.C_below HCb.out hb)
    have HFdq := Aside0.mk (FaultV.below HFd.out hb)
    have HFeq := Aside0.mk (FaultV.below HFe.out hb)
    have HXfq := Aside0.mk (blk_below HXf.out hb)
    have HFhq := Aside0.mk (FaultV.below HFh.out hb)
    clear HB HFa HXb HCb HFd HFe HXf HFh
    have hC : Kd.C k44 _ _ ([⟨0, -1⟩] : List S44).length [⟨0, -1⟩] := C44b (blk_new wc (.cells #[.int .i64 0, .int .i64 (-1)] 44 (0, 0))) rfl (by decide)
    clear hb
    refine (script_Print.calls ⟨#[]⟩ _ _ [⟨0, -1⟩] ⟨#[]⟩ 2 _ (Laid.below HBq.out HL.out) hC (by decide) (by first | decide | (rw [List.length_replicate]; decide)) kn_l).mono ?_
    rintro e w1 ⟨rfl, hb⟩
    have HB1 := Aside0.mk (below_step HBq.out hb)
    have HFa1 := Aside0.mk (FaultV.below HFaq.out hb)
    have HXb1 := Aside0.mk (blk_below HXbq.out hb)
    have HCb1 := Aside0.mk (Kd.C_below HCbq.out hb)
    have HFd1 := Aside0.mk (FaultV.below HFdq.out hb)
    have HFe1 := Aside0.mk (FaultV.below HFeq.out hb)
    have HXf1 := Aside0.mk (blk_below HXfq.out hb)
    have HFh1 := Aside0.mk (FaultV.below HFhq.out hb)
    clear HBq HFaq HXbq HCbq HFdq HFeq HXfq HFhq
    clear hb hC
    go_wp2_with fail
    go_meet
    case rel => exact ⟨rfl, HB1.out, HFa1.out, HXb1.out, HCb1.out, HFd1.out, HFe1.out, HXf1.out, HFh1.out⟩
  clear HB HFa HXb HCb HFd HFe HXf HFh
  obtain ⟨rfl, hHB, hHFa, hHXb, hHCb, hHFd, hHFe, hHXf, hHFh⟩ := hcut
  have HB := Aside0.mk hHB
  have HFa := Aside0.mk hHFa
  have HXb := Aside0.mk hHXb
  have HCb := Aside0.mk hHCb
  have HFd := Aside0.mk hHFd
  have HFe := Aside0.mk hHFe
  have HXf := Aside0.mk hHXf
  have HFh := Aside0.mk hHFh
  clear hHB hHFa hHXb hHCb hHFd hHFe hHXf hHFh
  go_upto_region 18 with (fail)
  go_cut [25] from 209 (fun v wx => v = .int .i64 2 ∧ Below w.heap.size w wx ∧ FaultV wa wx eva 15 1 ∧ wx.heap[bb]? = some (.cells #[.string ⟨#[]⟩, .slice Ab ([⟨4, 2147483647⟩, ⟨1, 0⟩] : List S44).length cb] 24 (0, 0)) ∧ Kd.C k44 wx Ab ([⟨4, 2147483647⟩, ⟨1, 0⟩] : List S44).length [⟨4, 2147483647⟩, ⟨1, 0⟩] ∧ FaultV wd wx evd 15 0 ∧ FaultV we wx eve 3 4096 ∧ wx.heap[bf]? = some (.cells #[.string ⟨#[]⟩, .slice Af 4096 cf] 24 (0, 0)) ∧ FaultV wh wx evh 15 0)
  case first =>
    go_wp2_with fail
    have hb := below_alloc (Below.refl wc.heap.size wc) (.cells #[.int .i64 0, .int .i64 2147483648] 44 (0, 0))
    have HBq := Aside0.mk (below_step HB.out hb)
    have HFaq := Aside0.mk (FaultV.below HFa.out hb)
    have HXbq := Aside0.mk (blk_below HXb.out hb)
    have HCbq := Aside0.mk (Kd.C_below HCb.out hb)
    have HFdq := Aside0.mk (FaultV.below HFd.out hb)
    have HFeq := Aside0.mk (FaultV.below HFe.out hb)
    have HXfq := Aside0.mk (blk_below HXf.out hb)
    have HFhq := Aside0.mk (FaultV.below HFh.out hb)
    clear HB HFa HXb HCb HFd HFe HXf HFh
    have hC : Kd.C k44 _ _ ([⟨0, 2147483648⟩] : List S44).length [⟨0, 2147483648⟩] := C44b (blk_new wc (.cells #[.int .i64 0, .int .i64 2147483648] 44 (0, 0))) rfl (by decide)
    clear hb
    refine (script_Print.calls ⟨#[]⟩ _ _ [⟨0, 2147483648⟩] ⟨#[]⟩ 2 _ (Laid.below HBq.out HL.out) hC (by decide) (by first | decide | (rw [List.length_replicate]; decide)) kn_m).mono ?_
    rintro e w1 ⟨rfl, hb⟩
    have HB1 := Aside0.mk (below_step HBq.out hb)
    have HFa1 := Aside0.mk (FaultV.below HFaq.out hb)
    have HXb1 := Aside0.mk (blk_below HXbq.out hb)
    have HCb1 := Aside0.mk (Kd.C_below HCbq.out hb)
    have HFd1 := Aside0.mk (FaultV.below HFdq.out hb)
    have HFe1 := Aside0.mk (FaultV.below HFeq.out hb)
    have HXf1 := Aside0.mk (blk_below HXfq.out hb)
    have HFh1 := Aside0.mk (FaultV.below HFhq.out hb)
    clear HBq HFaq HXbq HCbq HFdq HFeq HXfq HFhq
    clear hb hC
    go_wp2_with fail
    go_meet
    case rel => exact ⟨rfl, HB1.out, HFa1.out, HXb1.out, HCb1.out, HFd1.out, HFe1.out, HXf1.out, HFh1.out⟩
  clear HB HFa HXb HCb HFd HFe HXf HFh
  obtain ⟨rfl, hHB, hHFa, hHXb, hHCb, hHFd, hHFe, hHXf, hHFh⟩ := hcut
  have HB := Aside0.mk hHB
  have HFa := Aside0.mk hHFa
  have HXb := Aside0.mk hHXb
  have HCb := Aside0.mk hHCb
  have HFd := Aside0.mk hHFd
  have HFe := Aside0.mk hHFe
  have HXf := Aside0.mk hHXf
  have HFh := Aside0.mk hHFh
  clear hHB hHFa hHXb hHCb hHFd hHFe hHXf hHFh
  go_upto_region 19 with (fail)
  go_cut [27] from 209 (fun v wx => v = .int .i64 3 ∧ Below w.heap.size w wx ∧ FaultV wa wx eva 15 1 ∧ wx.heap[bb]? = some (.cells #[.string ⟨#[]⟩, .slice Ab ([⟨4, 2147483647⟩, ⟨1, 0⟩] : List S44).length cb] 24 (0, 0)) ∧ Kd.C k44 wx Ab ([⟨4, 2147483647⟩, ⟨1, 0⟩] : List S44).length [⟨4, 2147483647⟩, ⟨1, 0⟩] ∧ FaultV wd wx evd 15 0 ∧ FaultV we wx eve 3 4096 ∧ wx.heap[bf]? = some (.cells #[.string ⟨#[]⟩, .slice Af 4096 cf] 24 (0, 0)) ∧ FaultV wh wx evh 15 0)
  case first =>
    go_wp2_with ((with_reducible refine gate_dst (N := 113) rfl ?_); refine Kd.R_make k44 (w0 := wc) wc.heap.size 44 rfl (N := 113) rfl 22 (.const (.int .i64 4097)) (.const (.int .i64 4097)) rfl 4097 rfl rfl Tryd.underlying22 (.agg #[(.int .i64 0), (.int .i64 0)]) 16 info44 rfl ?aD ?aE ⟨0, 0⟩ (ok := fun _ => True) (okp := fun _ => False) ?aF (fun _ hk => hk.elim) trivial ?aG ?aH (Below.refl _ _) (Nat.le_refl _) ?_; (case aD => decide); (case aE => decide); (case aF => exact k44_mkM _ _ _ ⟨0, 0⟩); (case aG => decide); (case aH => decide); intro v1 wq hR1 hbq _ _; (obtain ⟨A1, cp1, rfl⟩ := Kd.R_slice hR1); (replace hR1 := Aside0.mk hR1); (replace hbq := Aside0.mk hbq))
    have hC : Kd.C k44 wq A1 (List.replicate 4097 (⟨0, 0⟩ : S44)).length (List.replicate 4097 (⟨0, 0⟩ : S44)) := (Kd.R_reads' hR1.out).2.2
    have HBq := Aside0.mk (below_step HB.out hbq.out)
    have HFaq := Aside0.mk (FaultV.below HFa.out hbq.out)
    have HXbq := Aside0.mk (blk_below HXb.out hbq.out)
    have HCbq := Aside0.mk (Kd.C_below HCb.out hbq.out)
    have HFdq := Aside0.mk (FaultV.below HFd.out hbq.out)
    have HFeq := Aside0.mk (FaultV.below HFe.out hbq.out)
    have HXfq := Aside0.mk (blk_below HXf.out hbq.out)
    have HFhq := Aside0.mk (FaultV.below HFh.out hbq.out)
    clear HB HFa HXb HCb HFd HFe HXf HFh
    refine (script_Print.calls ⟨#[]⟩ _ _ (List.replicate 4097 ⟨0, 0⟩) ⟨#[]⟩ 3 _ (Laid.below HBq.out HL.out) hC (by decide) (by first | decide | (rw [List.length_replicate]; decide)) kn_n).mono ?_
    rintro e w1 ⟨rfl, hb⟩
    have HB1 := Aside0.mk (below_step HBq.out hb)
    have HFa1 := Aside0.mk (FaultV.below HFaq.out hb)
    have HXb1 := Aside0.mk (blk_below HXbq.out hb)
    have HCb1 := Aside0.mk (Kd.C_below HCbq.out hb)
    have HFd1 := Aside0.mk (FaultV.below HFdq.out hb)
    have HFe1 := Aside0.mk (FaultV.below HFeq.out hb)
    have HXf1 := Aside0.mk (blk_below HXfq.out hb)
    have HFh1 := Aside0.mk (FaultV.below HFhq.out hb)
    clear HBq HFaq HXbq HCbq HFdq HFeq HXfq HFhq
    clear hb hC
    go_wp2_with fail
    go_meet
    case rel => exact ⟨rfl, HB1.out, HFa1.out, HXb1.out, HCb1.out, HFd1.out, HFe1.out, HXf1.out, HFh1.out⟩
  clear HB HFa HXb HCb HFd HFe HXf HFh
  obtain ⟨rfl, hHB, hHFa, hHXb, hHCb, hHFd, hHFe, hHXf, hHFh⟩ := hcut
  have HB := Aside0.mk hHB
  have HFa := Aside0.mk hHFa
  have HXb := Aside0.mk hHXb
  have HCb := Aside0.mk hHCb
  have HFd := Aside0.mk hHFd
  have HFe := Aside0.mk hHFe
  have HXf := Aside0.mk hHXf
  have HFh := Aside0.mk hHFh
  clear hHB hHFa hHXb hHCb hHFd hHFe hHXf hHFh
  go_upto_region 20 with (fail)
  go_cut [29] from 209 (fun v wx => v = .int .i64 3 ∧ Below w.heap.size w wx ∧ FaultV wa wx eva 15 1 ∧ wx.heap[bb]? = some (.cells #[.string ⟨#[]⟩, .slice Ab ([⟨4, 2147483647⟩, ⟨1, 0⟩] : List S44).length cb] 24 (0, 0)) ∧ Kd.C k44 wx Ab ([⟨4, 2147483647⟩, ⟨1, 0⟩] : List S44).length [⟨4, 2147483647⟩, ⟨1, 0⟩] ∧ FaultV wd wx evd 15 0 ∧ FaultV we wx eve 3 4096 ∧ wx.heap[bf]? = some (.cells #[.string ⟨#[]⟩, .slice Af 4096 cf] 24 (0, 0)) ∧ FaultV wh wx evh 15 0)
  case first =>
    go_wp2_with fail
    refine (repeat_any ⟨#[120]⟩ 32769 wc (by decide) (by decide)).mono ?_
    rintro e wp ⟨rfl, hb⟩
    have HBp := Aside0.mk (below_step HB.out hb)
    have HFap := Aside0.mk (FaultV.below HFa.out hb)
    have HXbp := Aside0.mk (blk_below HXb.out hb)
    have HCbp := Aside0.mk (Kd.C_below HCb.out hb)
    have HFdp := Aside0.mk (FaultV.below HFd.out hb)
    have HFep := Aside0.mk (FaultV.below HFe.out hb)
    have HXfp := Aside0.mk (blk_below HXf.out hb)
    have HFhp := Aside0.mk (FaultV.below HFh.out hb)
    clear HB HFa HXb HCb HFd HFe HXf HFh
    clear hb
    have hC : Kd.C k44 wp none ([] : List S44).length [] := Kd.C_nil _ _
    go_wp2_with fail
    have HBq := HBp
    have HFaq := HFap
    have HXbq := HXbp
    have HCbq := HCbp
    have HFdq := HFdp
    have HFeq := HFep
    have HXfq := HXfp
    have HFhq := HFhp
    refine (script_Print.calls xsB _ _ [] ⟨#[]⟩ 3 _ (Laid.below HBq.out HL.out) hC (by rw [xsB_size]; decide) (by first | decide | (rw [List.length_replicate]; decide)) kn_o).mono ?_
    rintro e w1 ⟨rfl, hb⟩
    have HB1 := Aside0.mk (below_step HBq.out hb)
    have HFa1 := Aside0.mk (FaultV.below HFaq.out hb)
    have HXb1 := Aside0.mk (blk_below HXbq.out hb)
    have HCb1 := Aside0.mk (Kd.C_below HCbq.out hb)
    have HFd1 := Aside0.mk (FaultV.below HFdq.out hb)
    have HFe1 := Aside0.mk (FaultV.below HFeq.out hb)
    have HXf1 := Aside0.mk (blk_below HXfq.out hb)
    have HFh1 := Aside0.mk (FaultV.below HFhq.out hb)
    clear HBq HFaq HXbq HCbq HFdq HFeq HXfq HFhq
    clear hb hC
    go_wp2_with fail
    go_meet
    case rel => exact ⟨rfl, HB1.out, HFa1.out, HXb1.out, HCb1.out, HFd1.out, HFe1.out, HXf1.out, HFh1.out⟩
  clear HB HFa HXb HCb HFd HFe HXf HFh
  obtain ⟨rfl, hHB, hHFa, hHXb, hHCb, hHFd, hHFe, hHXf, hHFh⟩ := hcut
  have HB := Aside0.mk hHB
  have HFa := Aside0.mk hHFa
  have HXb := Aside0.mk hHXb
  have HCb := Aside0.mk hHCb
  have HFd := Aside0.mk hHFd
  have HFe := Aside0.mk hHFe
  have HXf := Aside0.mk hHXf
  have HFh := Aside0.mk hHFh
  clear hHB hHFa hHXb hHCb hHFd hHFe hHXf hHFh
  go_wp2_with fail
  have hb := below_alloc (Below.refl wc.heap.size wc) (.cells #[.int .i64 1, .int .i64 2, .int .i64 4, .int .i64 2147483647] 44 (0, 0))
  have HBq := Aside0.mk (below_step HB.out hb)
  have HFaq := Aside0.mk (FaultV.below HFa.out hb)
  have HXbq := Aside0.mk (blk_below HXb.out hb)
  have HCbq := Aside0.mk (Kd.C_below HCb.out hb)
  have HFdq := Aside0.mk (FaultV.below HFd.out hb)
  have HFeq := Aside0.mk (FaultV.below HFe.out hb)
  have HXfq := Aside0.mk (blk_below HXf.out hb)
  have HFhq := Aside0.mk (FaultV.below HFh.out hb)
  clear HB HFa HXb HCb HFd HFe HXf HFh
  have hC : Kd.C k44 _ _ ([⟨1, 2⟩, ⟨4, 2147483647⟩] : List S44).length [⟨1, 2⟩, ⟨4, 2147483647⟩] := C44b (blk_new wc (.cells #[.int .i64 1, .int .i64 2, .int .i64 4, .int .i64 2147483647] 44 (0, 0))) rfl (by decide)
  clear hb
  refine (script_Print.calls _ _ _ [⟨1, 2⟩, ⟨4, 2147483647⟩] _ 0 _ (Laid.below HBq.out HL.out) hC (by decide) (by decide) kn_p).mono ?_
  rintro e wt1 ⟨rfl, hb⟩
  have HB1 := Aside0.mk (below_step HBq.out hb)
  have HFa1 := Aside0.mk (FaultV.below HFaq.out hb)
  have HXb1 := Aside0.mk (blk_below HXbq.out hb)
  have HCb1 := Aside0.mk (Kd.C_below HCbq.out hb)
  have HFd1 := Aside0.mk (FaultV.below HFdq.out hb)
  have HFe1 := Aside0.mk (FaultV.below HFeq.out hb)
  have HXf1 := Aside0.mk (blk_below HXfq.out hb)
  have HFh1 := Aside0.mk (FaultV.below HFhq.out hb)
  clear HBq HFaq HXbq HCbq HFdq HFeq HXfq HFhq
  clear hb hC
  go_wp2_with fail
  refine (works_any wt1 (Laid.below HB1.out HL.out)).mono ?_
  rintro e wt2 ⟨rfl, hb⟩
  have HB2 := Aside0.mk (below_step HB1.out hb)
  have HFa2 := Aside0.mk (FaultV.below HFa1.out hb)
  have HXb2 := Aside0.mk (blk_below HXb1.out hb)
  have HCb2 := Aside0.mk (Kd.C_below HCb1.out hb)
  have HFd2 := Aside0.mk (FaultV.below HFd1.out hb)
  have HFe2 := Aside0.mk (FaultV.below HFe1.out hb)
  have HXf2 := Aside0.mk (blk_below HXf1.out hb)
  have HFh2 := Aside0.mk (FaultV.below HFh1.out hb)
  clear HB1 HFa1 HXb1 HCb1 HFd1 HFe1 HXf1 HFh1
  clear hb
  go_wp2_with fail
  refine (told_true eva 15 _ _ _ _ (Laid.below HB2.out HL.out) HFa2.out (fun _ => rfl)).mono ?_
  rintro e wt3 ⟨rfl, hb⟩
  have HB3 := Aside0.mk (below_step HB2.out hb)
  have HFa3 := Aside0.mk (FaultV.below HFa2.out hb)
  have HXb3 := Aside0.mk (blk_below HXb2.out hb)
  have HCb3 := Aside0.mk (Kd.C_below HCb2.out hb)
  have HFd3 := Aside0.mk (FaultV.below HFd2.out hb)
  have HFe3 := Aside0.mk (FaultV.below HFe2.out hb)
  have HXf3 := Aside0.mk (blk_below HXf2.out hb)
  have HFh3 := Aside0.mk (FaultV.below HFh2.out hb)
  clear HB2 HFa2 HXb2 HCb2 HFd2 HFe2 HXf2 HFh2
  clear hb
  have x8 : wt3.cell? ⟨bb, 1, none⟩ = some (.slice Ab 2 cb) := (blk_cell HXb3.out 1).trans rfl
  obtain ⟨ad, had, c0, c1⟩ := at_T44 HCb3.out 0 (by decide) (by decide)
  subst had
  obtain ⟨p0, q0, t0⟩ := ad
  replace c1 : wt3.cell? ⟨p0, q0 + 1, none⟩ = some (.int .i64 2147483647) := c1
  have c2 : wt3.cell? ⟨p0, q0, t0⟩ = some (.int .i64 4) := by cases t0 <;> exact c0
  go_wp2_with fail
  refine (told_true evd 15 _ _ _ _ (Laid.below HB3.out HL.out) HFd3.out (fun _ => rfl)).mono ?_
  rintro e wt4 ⟨rfl, hb⟩
  have HB4 := Aside0.mk (below_step HB3.out hb)
  have HFa4 := Aside0.mk (FaultV.below HFa3.out hb)
  have HXb4 := Aside0.mk (blk_below HXb3.out hb)
  have HCb4 := Aside0.mk (Kd.C_below HCb3.out hb)
  have HFd4 := Aside0.mk (FaultV.below HFd3.out hb)
  have HFe4 := Aside0.mk (FaultV.below HFe3.out hb)
  have HXf4 := Aside0.mk (blk_below HXf3.out hb)
  have HFh4 := Aside0.mk (FaultV.below HFh3.out hb)
  clear HB3 HFa3 HXb3 HCb3 HFd3 HFe3 HXf3 HFh3
  clear hb
  clear x8 c0 c1 c2
  go_wp2_with fail
  refine (told_true eve 3 _ _ _ _ (Laid.below HB4.out HL.out) HFe4.out (fun _ => rfl)).mono ?_
  rintro e wt5 ⟨rfl, hb⟩
  have HB5 := Aside0.mk (below_step HB4.out hb)
  have HFa5 := Aside0.mk (FaultV.below HFa4.out hb)
  have HXb5 := Aside0.mk (blk_below HXb4.out hb)
  have HCb5 := Aside0.mk (Kd.C_below HCb4.out hb)
  have HFd5 := Aside0.mk (FaultV.below HFd4.out hb)
  have HFe5 := Aside0.mk (FaultV.below HFe4.out hb)
  have HXf5 := Aside0.mk (blk_below HXf4.out hb)
  have HFh5 := Aside0.mk (FaultV.below HFh4.out hb)
  clear HB4 HFa4 HXb4 HCb4 HFd4 HFe4 HXf4 HFh4
  clear hb
  have x14 : wt5.cell? ⟨bf, 1, none⟩ = some (.slice Af 4096 cf) := (blk_cell HXf5.out 1).trans rfl
  go_wp2_with fail
  refine (told_true evh 15 _ _ _ _ (Laid.below HB5.out HL.out) HFh5.out (fun _ => rfl)).mono ?_
  rintro e wt6 ⟨rfl, hb⟩
  have HB6 := Aside0.mk (below_step HB5.out hb)
  have HFa6 := Aside0.mk (FaultV.below HFa5.out hb)
  have HXb6 := Aside0.mk (blk_below HXb5.out hb)
  have HCb6 := Aside0.mk (Kd.C_below HCb5.out hb)
  have HFd6 := Aside0.mk (FaultV.below HFd5.out hb)
  have HFe6 := Aside0.mk (FaultV.below HFe5.out hb)
  have HXf6 := Aside0.mk (blk_below HXf5.out hb)
  have HFh6 := Aside0.mk (FaultV.below HFh5.out hb)
  clear HB5 HFa5 HXb5 HCb5 HFd5 HFe5 HXf5 HFh5
  clear hb
  clear x14
  go_wp2_with fail
  go_ret
  exact ⟨rfl, HB6.out⟩
end Go.Proofs.YtnombbcgdfgadaaDoor.G
end
