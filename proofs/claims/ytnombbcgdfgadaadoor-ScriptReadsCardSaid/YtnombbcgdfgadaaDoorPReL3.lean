import Derived.LaidMore
import Derived.LaidHandle
import Derived.Stop.Joined
import Derived.Lib.IfaceEq
import Derived.Lib.ItoaLen
import Derived.Shelf.Strings.MapGrows
import Derived.Shelf.Abstract
import Derived.LaidEql
import Derived.Stop.Asserts
import Derived.RowKitTokens
import Derived.Lib.LaidTab
import Derived.Lib.AppendIntMem
import Derived.Stop.LaidErr
import Derived.WalkKit
import Derived.Deep.RegionLaw
import Derived.Deep.Cut
import Derived.WalkSpells
import Derived.Test.YtnombbcgdfgadaaDoorPReR
import Derived.Test.YtnombbcgdfgadaaDoorPReOW
import Derived.Test.YtnombbcgdfgadaaDoorPReGxF11
import Derived.Lib.Hide
set_option linter.unusedVariables false
set_option linter.unusedSimpArgs false
section
namespace Go.Proofs.YtnombbcgdfgadaaDoor.G
open Go.Shelf Go.Extern.Stop Go.Stop Go.Extern Go.RowKit Go.Proofs.YtnombbcgdfgadaaDoorW.PrintWords Go.Proofs.YtnombbcgdfgadaaDoorW.PrintLast Go.Proofs.YtnombbcgdfgadaaDoorW.PrintMore
set_option linter.unusedVariables false
set_option linter.unusedSimpArgs false
theorem runF_some : ∀ (m : Nat) (a : Int) (xs : List S44) (t : ByteArray), 4096 ≤ xs.length + m → ∃ r, runF (m + 1) a xs t = some r
  | m, a, xs, t, h => by
    unfold runF
    split
    · split
      · exact ⟨_, rfl⟩
      · exact ⟨_, rfl⟩
    · split
      · exact ⟨_, rfl⟩
      · by_cases hl : 4096 ≤ xs.length
        · rw [if_pos hl]; exact ⟨_, rfl⟩
        · rw [if_neg hl]
          split
          · exact ⟨_, rfl⟩
          · cases m with
            | zero => omega
            | succ m => exact runF_some m _ _ _ (by rw [List.length_append]; simp; omega)
theorem parse_total (text : ByteArray) (hs : text.size ≤ 140737488351232) : ∃ T zs c a, script_Parse.f 4097 text = some (T, zs, c, a) := by
  obtain ⟨⟨T, zs, c, a⟩, h⟩ := runF_some 4096 0 [] text (by simp)
  exact ⟨T, zs, c, a, by unfold script_Parse.f; rw [if_pos hs]; exact h⟩
theorem same_ev (a : ByteArray) (xs : List S44) (hx : xs.length ≤ 140737488351232) : ∃ k, tallowref33_Same.f k a xs a xs = some true := by
  have h : Ev (fun k => tallowref33_Same.l0 k 0 a xs a xs) true := by
    have := loop_from (xs := xs) (ok := fun _ => true) (bad := false) (r := true) (g := fun k i => tallowref33_Same.l0 k i a xs a xs) (rest := fun _ => some true)
      (fun k i hi _ => by
        show tallowref33_Same.l0 (k + 1) i a xs a xs = _
        rw [tallowref33_Same.l0, if_pos (by omega), if_pos (by omega), if_pos (by omega), beq_self_eq_true, beq_self_eq_true, if_neg (by decide), w_id (by omega)]
        rfl)
      (fun k i hi h => by cases h)
      (fun k => by
        show tallowref33_Same.l0 (k + 1) xs.length a xs a xs = _
        rw [tallowref33_Same.l0, if_neg (by omega)])
      (Ev.now true)
    rwa [if_pos (by simp)] at this
  have h2 : Ev (fun k => tallowref33_Same.j0 k false a xs a xs) true := Ev.step (f := fun k => tallowref33_Same.l0 k 0 a xs a xs) (fun k => by rw [tallowref33_Same.j0, if_neg Bool.false_ne_true]) h
  obtain ⟨k, hk⟩ := h2.rounds
  refine ⟨k, ?_⟩
  unfold tallowref33_Same.f
  rw [if_pos rfl, bne_self_eq_false]
  exact hk
theorem runF_len : ∀ (m : Nat) (a : Int) (xs : List S44) (t : ByteArray) (T : ByteArray) (zs : List S44) (c af : Int), xs.length ≤ 4096 → runF m a xs t = some (T, zs, c, af) → zs.length ≤ 4096 ∧ T.size ≤ 32768
  | 0, _, _, _, _, _, _, _, _, h => by simp [runF] at h
  | m + 1, a, xs, t, T, zs, c, af, hx, h => by
    unfold runF at h
    split at h
    · split at h
      · simp only [Option.some.injEq, Prod.mk.injEq] at h
        obtain ⟨rfl, rfl, _⟩ := h
        exact ⟨by simp, by decide⟩
      · simp only [Option.some.injEq, Prod.mk.injEq] at h
        obtain ⟨rfl, rfl, _⟩ := h
        exact ⟨hx, by omega⟩
    · split at h
      · simp only [Option.some.injEq, Prod.mk.injEq] at h
        obtain ⟨rfl, rfl, _⟩ := h
        exact ⟨by simp, by decide⟩
      · split at h
        · simp only [Option.some.injEq, Prod.mk.injEq] at h
          obtain ⟨rfl, rfl, _⟩ := h
          exact ⟨by simp, by decide⟩
        · split at h
          · simp only [Option.some.injEq, Prod.mk.injEq] at h
            obtain ⟨rfl, rfl, _⟩ := h
            exact ⟨by simp, by decide⟩
          · exact runF_len m _ _ _ _ _ _ _ (by rw [List.length_append]; simp; omega) h
theorem parse_len {text T : ByteArray} {zs : List S44} {c af : Int} {k : Nat} (h : script_Parse.f k text = some (T, zs, c, af)) : zs.length ≤ 4096 ∧ T.size ≤ 32768 := by
  unfold script_Parse.f at h
  split at h
  · exact runF_len k 0 [] text T zs c af (by simp) h
  · cases h
set_option maxHeartbeats 4000000 in
set_option maxRecDepth 100000 in
theorem reads_any (text : ByteArray) (w : World) (hL : Laid w) (hs : text.size ≤ 140737488351232) : Calls Tryd.prog 3 #[.string text] w fun e w' => e = .returned (.bool true) ∧ Below w.heap.size w w' := by
  have HL := Aside0.mk hL
  obtain ⟨T, zs, c, a, hp⟩ := parse_total text hs
  obtain ⟨ks, hsame⟩ := same_ev T zs (by have := (parse_len hp).1; omega)
  have HP := Aside0.mk hp
  have HSM := Aside0.mk hsame
  clear hL hp hsame hs
  go_enter Tryd.func3, Tryd.ntmps3
  go_wp2_with fail
  refine (script_Parse.calls 4097 text T zs c a w HL.out HP.out).mono ?_
  rintro e w1 ⟨v, ev, rfl, hR, hF, hb⟩
  obtain ⟨A, cc, rfl⟩ := Kd.R_slice hR
  have HF1 := Aside0.mk hF
  have HB1 := Aside0.mk hb
  have HC1 := Aside0.mk (Kd.R_reads' hR).2.2
  have HCC := Aside0.mk (Kd.R_reads' hR).2.1
  clear hR hF hb
  go_upto_region 2 with (fail)
  have h4 := below_alloc (Below.refl w1.heap.size w1) (.cells #[.string T, .slice A zs.length cc] 24 (0, 0))
  have hb0 := blk_new w1 (.cells #[.string T, .slice A zs.length cc] 24 (0, 0))
  generalize w1.alloc (.cells #[.string T, .slice A zs.length cc] 24) = w2 at h4 hb0 ⊢
  generalize w1.heap.size = b3 at hb0 ⊢
  have HB2 := Aside0.mk (below_step HB1.out h4)
  have HF2 := Aside0.mk (FaultV.below HF1.out h4)
  have HC2 := Aside0.mk (Kd.C_below HC1.out h4)
  have HX2 := Aside0.mk hb0
  clear h4 hb0 HB1 HF1 HC1
  go_wp2_with fail
  refine (tallowref33_Parse_any 4097 text T zs c a w2 HP.out).mono ?_
  rintro e w3 ⟨v2, rfl, hR, hb⟩
  obtain ⟨A2, cc2, rfl⟩ := Kd.R_slice hR
  have HB3 := Aside0.mk (below_step HB2.out hb)
  have HF3 := Aside0.mk (FaultV.below HF2.out hb)
  have HC3 := Aside0.mk (Kd.C_below HC2.out hb)
  have HX3 := Aside0.mk (blk_below HX2.out hb)
  have HD3 := Aside0.mk (Kd.R_reads' hR).2.2
  have HDC := Aside0.mk (Kd.R_reads' hR).2.1
  clear hR hb HB2 HF2 HC2 HX2
  go_upto_region 3 with (fail)
  have HX : ∃ w4 b5 b6, ((w3.alloc (.cells #[.string T, .slice A2 zs.length cc2] 24)).alloc (.cells #[.int .i64 c, .int .i64 a] 31)) = w4 ∧ w3.heap.size + 1 = b6 ∧ w3.heap.size = b5 ∧ Below w3.heap.size w3 w4 ∧ w4.heap[b5]? = some (.cells #[.string T, .slice A2 zs.length cc2] 24 (0, 0)) ∧ w4.heap[b6]? = some (.cells #[.int .i64 c, .int .i64 a] 31 (0, 0)) :=
    ⟨_, _, _, rfl, rfl, rfl, below_alloc (below_alloc (Below.refl _ _) _) _, blk_alloc (blk_new _ _) _, by simpa using blk_new (w3.alloc (.cells #[.string T, .slice A2 zs.length cc2] 24)) (.cells #[.int .i64 c, .int .i64 a] 31 (0, 0))⟩
  obtain ⟨w4, b5, b6, e1, e2, e3, h5, h6, h7⟩ := HX
  rw [e1, e2, e3]
  clear e1 e2 e3
  have HB4 := Aside0.mk (below_step HB3.out h5)
  have HF4 := Aside0.mk (FaultV.below HF3.out h5)
  have HC4 := Aside0.mk (Kd.C_below HC3.out h5)
  have HD4 := Aside0.mk (Kd.C_below HD3.out h5)
  have HX4 := Aside0.mk (blk_below HX3.out h5)
  have HY4 := Aside0.mk h6
  have x0 : w4.cell? ⟨b6, 0, none⟩ = some (.int .i64 c) := (blk_cell h7 0).trans rfl
  have x1 : w4.cell? ⟨b6, 1, none⟩ = some (.int .i64 a) := (blk_cell h7 1).trans rfl
  clear h5 h6 h7 HB3 HF3 HC3 HD3 HX3
  go_wp2_with fail
  refine (told_true ev c a a _ w4 (Laid.below HB4.out HL.out) HF4.out (fun _ => rfl)).mono ?_
  rintro e w5 ⟨rfl, hb⟩
  have HB5 := Aside0.mk (below_step HB4.out hb)
  have HC5 := Aside0.mk (Kd.C_below HC4.out hb)
  have HD5 := Aside0.mk (Kd.C_below HD4.out hb)
  have hX5 := blk_below HX4.out hb
  have hY5 := blk_below HY4.out hb
  have y0 : w5.cell? ⟨b3, 0, none⟩ = some (.string T) := (blk_cell hX5 0).trans rfl
  have y1 : w5.cell? ⟨b3, 1, none⟩ = some (.slice A zs.length cc) := (blk_cell hX5 1).trans rfl
  have z0 : w5.cell? ⟨b5, 0, none⟩ = some (.string T) := (blk_cell hY5 0).trans rfl
  have z1 : w5.cell? ⟨b5, 1, none⟩ = some (.slice A2 zs.length cc2) := (blk_cell hY5 1).trans rfl
  clear hb hX5 hY5 x0 x1 HB4 HF4 HC4 HD4 HX4 HY4
  go_wp2_with fail
  refine (tallowref33_Same.calls ks T A cc zs T A2 cc2 zs true w5 HC5.out HCC.out HD5.out HDC.out HSM.out).mono ?_
  rintro e w6 ⟨rfl, hb⟩
  have HB6 := Aside0.mk (below_step HB5.out hb)
  clear hb HB5 HC5 HD5 y0 y1 z0 z1
  go_wp2_with fail
  refine (works_any w6 (Laid.below HB6.out HL.out)).mono ?_
  rintro e w7 ⟨rfl, hb⟩
  have HB7 := Aside0.mk (below_step HB6.out hb)
  clear hb HB6
  go_wp2_with fail
  go_ret
  exact ⟨rfl, HB7.out⟩
end Go.Proofs.YtnombbcgdfgadaaDoor.G
end
