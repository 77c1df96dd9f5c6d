import Derived.LaidMore
import Derived.LaidHandle
import Derived.Stop.Joined
import Derived.Lib.IfaceEq
import Derived.Lib.IndexMore
import Derived.Shelf.Abstract
import Derived.LaidEql
import Derived.Stop.Asserts
import Derived.RowKitTokens
import Derived.Lib.LaidTab
import Derived.Lib.AppendIntMem
import Derived.Stop.LaidErr
import Derived.WalkKit
import Derived.Deep.RegionLaw
import Derived.Deep.Cut
import Derived.WalkSpells
import Derived.Maps.OwnOps
import Derived.Maps.OwnSet
import Derived.Maps.Views
import Derived.Maps.RangeWalk
import Derived.Maps.Own
import Derived.Test.YtlbaejihlcfpeaaGreatDoorPReOW
import Derived.Test.YtlbaejihlcfpeaaGreatDoorPReGxF10
import Derived.Lib.Hide
set_option linter.unusedVariables false
set_option linter.unusedSimpArgs false
section
namespace Go.Proofs.YtlbaejihlcfpeaaGreatDoor.G
open Go.Proofs.YtlbaejihlcfpeaaGreatDoor.G Go.Proofs.YtlbaejihlcfpeaaGreatDoor.Z
open Go.Shelf Go.Extern.Stop Go.Stop Go.Extern Go.RowKit Go.Proofs.YtlbaejihlcfpeaaGreatDoorW.PrintWords Go.Proofs.YtlbaejihlcfpeaaGreatDoorW.PrintLast Go.Proofs.YtlbaejihlcfpeaaGreatDoorW.PrintMore
set_option linter.unusedVariables false
set_option linter.unusedSimpArgs false
theorem same_ev (xs : List S41) (hl : xs.length ≤ 1000000) : Ev (fun k => tallowref04_Same.f k xs xs) true := by
  have key : ∀ (d i : Nat), i + d = xs.length → Ev (fun k => tallowref04_Same.l0 k xs xs i) true := by
    intro d
    induction d with
    | zero =>
      intro i hi
      refine Ev.step (f := fun _ => some true) (fun k => ?_) (Ev.now _)
      rw [tallowref04_Same.l0, if_neg (by omega)]
    | succ d ih =>
      intro i hi
      refine Ev.step (f := fun k => tallowref04_Same.l0 k xs xs ((i + 1 : Nat) : Int)) (fun k => ?_) (ih (i + 1) (by omega))
      rw [tallowref04_Same.l0, if_pos (by omega), if_pos (by omega), if_pos (by omega), if_neg (by simp), w_id (by omega)]
      rfl
  refine Ev.congr (f := fun k => tallowref04_Same.l0 k xs xs ((0 : Nat) : Int)) (fun k => ?_) (key xs.length 0 (by omega))
  unfold tallowref04_Same.f
  rw [if_pos rfl]
  rfl
theorem tok_len : ∀ (k : Nat) (u : List UInt8) (l : Int) (a : List Tk) (x : List Tk × Int × Int), tokW readL unqL k u l a = some x → x.1.length ≤ a.length + u.length + 1
  | 0, u, l, a, x, h => by cases h
  | k + 1, [], l, a, x, h => by cases h; simp
  | k + 1, c :: r, l, a, x, h => by
    rw [tok_step] at h
    rw [List.length_cons]
    split at h
    · have := tok_len k _ _ _ _ h; omega
    · split at h
      · have := tok_len k _ _ _ _ h; omega
      · split at h
        · have h1 := tok_len k _ _ _ _ h
          have := dw_len (p := (· != 10)) r
          omega
        · split at h
          · cases h; simp
          · rename_i h4
            have h1 := tok_len k _ _ _ _ h
            have h2 := word_pos (numF := readL) (unqF := unqL) (c := c) (r := r) (Classical.byContradiction h4)
            rw [List.length_append, List.length_drop] at h1
            simp only [List.length_cons, List.length_nil] at h1
            omega
theorem lexR_len (s : ByteArray) : (lexR s).1.length ≤ 32769 := by
  by_cases h : s.size > 32768
  · unfold lexR; rw [if_pos h]; exact Nat.zero_le _
  · have := tok_len _ _ _ _ _ (lexR_tok h)
    rw [size_data] at this
    simp only [List.length_nil] at this
    omega
set_option maxHeartbeats 4000000 in
set_option maxRecDepth 100000 in
theorem reads_any (s : ByteArray) (w : World) (hL : Laid w) (hs : s.size ≤ 140737488351232) : Calls Tryz.prog 3 #[.string s] w fun e w' => e = .returned (.bool true) ∧ Below w.heap.size w w' := by
  have HL := Aside0.mk hL
  obtain ⟨ks, hsame⟩ := (same_ev ((lexR s).1.map tkS) (by rw [List.length_map]; have := lexR_len s; omega)).rounds
  have HA := Aside0.mk (fun w hL => tokens_any s w hL hs)
  have HRF := Aside0.mk (fun w => refTok_any s w hs)
  generalize hxs : (lexR s).1.map tkS = xs at hsame HA HRF
  generalize (lexR s).2.1 = c at HA HRF
  generalize (lexR s).2.2 = a at HA HRF
  have HSM := Aside0.mk hsame
  clear hL hsame hs hxs
  go_enter Tryz.func3, Tryz.ntmps3
  go_wp2_with fail
  refine (HA.out w HL.out).mono ?_
  rintro e w1 ⟨v, ev, rfl, hR, hF, hb⟩
  obtain ⟨A, cc, rfl⟩ := Kd.R_slice hR
  have HF1 := Aside0.mk hF
  have HB1 := Aside0.mk hb
  have HC1 := Aside0.mk (Kd.R_reads' hR).2.2
  have HCC := Aside0.mk (Kd.R_reads' hR).2.1
  clear hR hF hb
  go_wp2_with fail
  refine (HRF.out w1).mono ?_
  rintro e w2 ⟨v2, rfl, hR, hb⟩
  obtain ⟨A2, cc2, rfl⟩ := Kd.R_slice hR
  have HB2 := Aside0.mk (below_step HB1.out hb)
  have HF2 := Aside0.mk (FaultV.below HF1.out hb)
  have HC2 := Aside0.mk (Kd.C_below HC1.out hb)
  have HD2 := Aside0.mk (Kd.R_reads' hR).2.2
  have HDC := Aside0.mk (Kd.R_reads' hR).2.1
  clear hR hb HB1 HF1 HC1
  go_upto_region 3 with (fail)
  have h4 := below_alloc (Below.refl w2.heap.size w2) (.cells #[.int .i64 c, .int .i64 a] 29 (0, 0))
  have hb0 := blk_new w2 (.cells #[.int .i64 c, .int .i64 a] 29 (0, 0))
  generalize w2.alloc (.cells #[.int .i64 c, .int .i64 a] 29) = w4 at h4 hb0 ⊢
  generalize w2.heap.size = b3 at hb0 ⊢
  have HB4 := Aside0.mk (below_step HB2.out h4)
  have HF4 := Aside0.mk (FaultV.below HF2.out h4)
  have HC4 := Aside0.mk (Kd.C_below HC2.out h4)
  have HD4 := Aside0.mk (Kd.C_below HD2.out h4)
  have x0 : w4.cell? ⟨b3, 0, none⟩ = some (.int .i64 c) := (blk_cell hb0 0).trans rfl
  have x1 : w4.cell? ⟨b3, 1, none⟩ = some (.int .i64 a) := (blk_cell hb0 1).trans rfl
  clear h4 hb0 HB2 HF2 HC2 HD2
  go_wp2_with fail
  refine (told_true ev c a a _ w4 (Laid.below HB4.out HL.out) HF4.out (fun _ => rfl)).mono ?_
  rintro e w5 ⟨rfl, hb⟩
  have HB5 := Aside0.mk (below_step HB4.out hb)
  have HC5 := Aside0.mk (Kd.C_below HC4.out hb)
  have HD5 := Aside0.mk (Kd.C_below HD4.out hb)
  clear hb x0 x1 HB4 HF4 HC4 HD4
  go_wp2_with fail
  refine (tallowref04_Same.calls ks A cc xs A2 cc2 xs true w5 HC5.out HCC.out HD5.out HDC.out HSM.out).mono ?_
  rintro e w6 ⟨rfl, hd⟩
  have hb := hd.below
  have HB6 := Aside0.mk (below_step HB5.out hb)
  clear hb hd HB5 HC5 HD5
  go_wp2_with fail
  refine (works_any w6 (Laid.below HB6.out HL.out)).mono ?_
  rintro e w7 ⟨rfl, hb⟩
  have HB7 := Aside0.mk (below_step HB6.out hb)
  clear hb HB6
  go_wp2_with fail
  go_ret
  exact ⟨rfl, HB7.out⟩
end Go.Proofs.YtlbaejihlcfpeaaGreatDoor.G
end
