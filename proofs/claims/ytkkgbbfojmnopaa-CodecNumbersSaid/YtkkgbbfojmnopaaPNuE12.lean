import Derived.WalkKit
import Derived.WalkLawsBesides
import Derived.Deep.RegionLaw
import Derived.Deep.Cut
import Derived.WalkSpells
import Derived.Recover
import Derived.Laws.Bits64b
import Derived.Test.YtkkgbbfojmnopaaPNuE11
import Derived.Test.YtkkgbbfojmnopaaPNuGxF10
import Derived.Test.YtkkgbbfojmnopaaPNuGxF18
import Derived.Test.YtkkgbbfojmnopaaPNuGxF12
import Derived.Test.YtkkgbbfojmnopaaPNuPC
set_option linter.unusedVariables false
set_option linter.unusedSimpArgs false
section
namespace Go.Proofs.Ytkkgbbfojmnopaa.G
open Go.RowKit Go.Proofs.YtkkgbbfojmnopaaW.PrintWords Go.Proofs.YtkkgbbfojmnopaaW.PrintLast Go.Proofs.YtkkgbbfojmnopaaW.PrintMore
set_option linter.unusedVariables false
set_option linter.unusedSimpArgs false
set_option maxHeartbeats 8000000 in
set_option maxRecDepth 100000 in
theorem numbers_any (k : Nat) (a0 : Int) (t229 : ByteArray) (t226 : List S47) (L : Nat) (w : World) (h0 : -9223372036854775808 ≤ a0 ∧ a0 ≤ 9223372036854775807) (h2 : tallowlaw21_least.f [⟨3, a0, ⟨#[]⟩⟩] = some t226) (h3 : codec_Encode.f k t226 = some (t229, 0)) (h4 : codec_Decode.f k t229 = some (t226, 0))
    (h5 : tallowlaw21_works.f k = some true) (hL : L = sizeGo 9 (if 0 ≤ a0 then a0.toNat else (-1 - a0).toNat) 1) (hL10 : L ≤ 10) (hs : t229.size = 13 + L) :
    Calls Try.prog 7 #[.int .i64 a0] w fun e w' => e = .returned (.bool true) ∧ Below w.heap.size w w' := by
  have hu42 := Try.underlying42
  have hu24 := Try.underlying24
  have hu22 := Try.underlying22
  have hu47 := Try.underlying47
  have hu44 := Try.underlying44
  have HB := Aside0.mk (Below.refl w.heap.size w)
  obtain ⟨y223, hy223⟩ : ∃ y_ : List (S42), y_ = (([(⟨3, a0, (⟨#[]⟩ : ByteArray)⟩ : S42)] : List (S42))) := ⟨_, rfl⟩
  have Ny223 := Aside0.mk hy223
  have A2 := Aside0.mk (show tallowlaw21_least.f y223 = some t226 by rw [hy223]; exact h2)
  have HT := Aside0.mk (show t226 = [⟨0, 1, [], y223, [⟨0, 0, 0⟩, ⟨19, 0, 0⟩]⟩] by have := A2.out; unfold tallowlaw21_least.f at this; exact (Option.some.inj this).symm)
  have A3 := Aside0.mk h3
  have A4 := Aside0.mk h4
  have A5 := Aside0.mk h5
  have HLL := Aside0.mk hL
  have HLT := Aside0.mk hL10
  have HS := Aside0.mk hs
  have HW0 := Aside0.mk h0
  clear hy223 h2 h3 h4 h5 hL hL10 hs h0
  go_enter Try.func7, Try.ntmps7
  go_upto_region 3 with (first | ((with_reducible refine gate_dst (N := 12) rfl ?_); refine Kd.R_lit k42 _ 42 ?hg (N := 12) ?hd (xs := ([(⟨3, a0, (⟨#[]⟩ : ByteArray)⟩ : S42)] : List (S42))) (inner := [.int .i64 3, .int .i64 a0, .string (⟨#[]⟩ : ByteArray)]) (ok := fun _ => True) (okp := fun _ => True) ?hr ?hp (fun _ hk => hk) trivial (Below.refl _ _) (Nat.le_refl _) (by simp) ?_; (case hd => rfl); (case hg => rfl); (case hr => first | (go_simp; done) | (go_simp; rfl)); (case hp => exact (Reps.c3 (show Kd.M k42 _ _ _ (⟨3, a0, (⟨#[]⟩ : ByteArray)⟩ : S42) [.int .i64 3, .int .i64 a0, .string (⟨#[]⟩ : ByteArray)] from (k42_mkM _ _ _ (⟨3, a0, (⟨#[]⟩ : ByteArray)⟩ : S42) )) (Reps.none _ _))); intro v224 w5 ho6 hb hg_ hnew_; clear hg_ hnew_; (first | rw [← Ny223.out] at ho6 | (simp only [Int.reduceToNat] at ho6; rw [← Ny223.out] at ho6)); have n0_ := Aside0.mk (Kd.R_lower ho6 (below_size (by repeat (first | (with_reducible first | exact HB.out | apply below_alloc | apply pw_below_drewN | apply below_drew1) | exact HB.out)))); have n1_ := Aside0.mk (below_step (by repeat (first | (with_reducible first | exact HB.out | apply below_alloc | apply pw_below_drewN | apply below_drew1) | exact HB.out)) hb); clear HB; have HO225 := n0_; have HB := n1_; clear n0_ n1_; clear hb ho6; obtain ⟨Ao7, co7, eo7⟩ := Kd.R_slice HO225.out; subst eo7) | ((with_reducible refine gate_callee (f := 18) rfl ?_); refine goesL_ (some 13) rfl rfl Try.func18 (by kernel_rfl) rfl #[.slice Ao7 y223.length co7] rfl (by (try simp only [List.map_toArray, List.map_cons, List.map_nil]); first | done | rfl | (simp only [List.length_drop, List.length_take]; rfl)) ?_; (with_reducible refine (tallowlaw21_least.calls (fun k_ => some k_ = (.slice Ao7 y223.length co7 : Value).ownBlock) _ _ y223 t226 _ ?side1 A2.out).mono ?_); (case side1 => exact Kd.R_V (Kd.R_tight rfl (HO225.out))); rintro e w8 ⟨v227, rfl, ho0, hb⟩; refine ⟨_, rfl, ?_⟩; have n0_ := Aside0.mk (Kd.R_below (by (with_reducible repeat (first | apply Kd.R_alloc | apply Kd.R_drewN | apply Kd.R_drew)); exact HO225.out) hb); have n1_ := Aside0.mk (Kd.N_lower (Kd.N_mono (ok' := fun k_ => True) ho0 (fun k_ hk_ => trivial)) (below_size (by repeat (first | (with_reducible first | exact HB.out | apply below_alloc | apply pw_below_drewN | apply below_drew1) | exact HB.out)))); have n2_ := Aside0.mk (below_step (by repeat (first | (with_reducible first | exact HB.out | apply below_alloc | apply pw_below_drewN | apply below_drew1) | exact HB.out)) hb); clear HO225; clear HB; have HO225 := n0_; have HO228 := n1_; have HB := n2_; clear n0_ n1_ n2_; (try clear hb); (try clear hb2); (try clear hk); (try clear hi); (try clear ho0); obtain ⟨Ao9, co9, eo9⟩ := Kd.N_slice HO228.out; subst eo9) | ((with_reducible refine gate_callee (f := 10) rfl ?_); refine goesL_ (some 14) rfl rfl Try.func10 (by kernel_rfl) rfl #[.agg #[.slice Ao9 t226.length co9]] rfl (by (try simp only [List.map_toArray, List.map_cons, List.map_nil]); first | done | rfl | (simp only [List.length_drop, List.length_take]; rfl)) ?_; (with_reducible refine (codec_Encode.calls k _ _ t226 t229 0 _ ?side1 ?side2 A3.out).mono ?_); (case side1 => repeat (first | exact (Kd.N_reads' HO228.out).2.2 | (with_reducible refine Kd.C_alloc ?_ _) | (with_reducible refine Kd.C_drewN ?_ _) | (with_reducible refine Kd.C_drew ?_))); (case side2 => exact (Kd.N_reads' HO228.out).2.1); rintro e w10 ⟨rfl, hb⟩; refine ⟨_, rfl, ?_⟩; have n0_ := Aside0.mk (Kd.R_below (by (with_reducible repeat (first | apply Kd.R_alloc | apply Kd.R_drewN | apply Kd.R_drew)); exact HO225.out) hb); have n1_ := Aside0.mk (Kd.N_below (by (with_reducible repeat (first | apply Kd.N_alloc | apply Kd.N_drewN | apply Kd.N_drew)); exact HO228.out) hb); have n2_ := Aside0.mk (below_step (by repeat (first | (with_reducible first | exact HB.out | apply below_alloc | apply pw_below_drewN | apply below_drew1) | exact HB.out)) hb); clear HO225; clear HO228; clear HB; have HO225 := n0_; have HO228 := n1_; have HB := n2_; clear n0_ n1_ n2_; (try clear hb); (try clear hb2); (try clear hk); (try clear hi)) | ((with_reducible refine gate_callee (f := 13) rfl ?_); refine goesL_ (some 19) rfl rfl Try.func13 (by kernel_rfl) rfl #[.string t229] rfl (by (try simp only [List.map_toArray, List.map_cons, List.map_nil]); first | done | rfl | (simp only [List.length_drop, List.length_take]; rfl)) ?_; (with_reducible refine (codec_Decode.calls k t229 t226 0 _ A4.out).mono ?_); rintro e w11 ⟨v232, rfl, ho0, hb⟩; refine ⟨_, rfl, ?_⟩; have n0_ := Aside0.mk (Kd.R_below (by (with_reducible repeat (first | apply Kd.R_alloc | apply Kd.R_drewN | apply Kd.R_drew)); exact HO225.out) hb); have n1_ := Aside0.mk (Kd.N_elder' (by (with_reducible repeat (first | apply Kd.N_alloc | apply Kd.N_drewN | apply Kd.N_drew)); exact HO228.out) (Kd.N_base ho0) hb); have n2_ := Aside0.mk (Kd.N_lower (Kd.N_mono (ok' := fun k_ => some k_ ≠ (.slice Ao7 y223.length co7 : Value).ownBlock ∧ some k_ ≠ (.slice Ao9 t226.length co9 : Value).ownBlock) ho0 (fun k_ hk_ => ⟨(Kd.fresh' (Kd.R_lt (by (with_reducible repeat (first | apply Kd.R_alloc | apply Kd.R_drewN | apply Kd.R_drew)); exact HO225.out)) k_ hk_), (Kd.fresh' (Kd.N_lt (by (with_reducible repeat (first | apply Kd.N_alloc | apply Kd.N_drewN | apply Kd.N_drew)); exact HO228.out)) k_ hk_)⟩)) (below_size (by repeat (first | (with_reducible first | exact HB.out | apply below_alloc | apply pw_below_drewN | apply below_drew1) | exact HB.out)))); have n3_ := Aside0.mk (below_step (by repeat (first | (with_reducible first | exact HB.out | apply below_alloc | apply pw_below_drewN | apply below_drew1) | exact HB.out)) hb); clear HO225; clear HO228; clear HB; have HO225 := n0_; have HO228 := n1_; have HO233 := n2_; have HB := n3_; clear n0_ n1_ n2_ n3_; (try clear hb); (try clear hb2); (try clear hk); (try clear hi); (try clear ho0)) | ((with_reducible refine gate_dst (N := 5) rfl ?_); refine box_event ?hg (N := 5) ?hd (cs := #[.slice none 0 0]) (t := 24) ?hr ?_; (case hd => rfl); (case hg => rfl); (case hr => first | (go_simp; done) | (go_simp; rfl)); intro gb235 hg w12 hbox hb; have n0_ := Aside0.mk (Kd.R_below (by (with_reducible repeat (first | apply Kd.R_alloc | apply Kd.R_drewN | apply Kd.R_drew)); exact HO225.out) hb); have n1_ := Aside0.mk (Kd.N_below (Kd.N_elderB (by (with_reducible repeat (first | apply Kd.N_alloc | apply Kd.N_drewN | apply Kd.N_drew)); exact HO228.out) gb235 (Nat.le_of_eq hg.symm)) hb); have n2_ := Aside0.mk (Kd.N_below (Kd.N_elderB (by (with_reducible repeat (first | apply Kd.N_alloc | apply Kd.N_drewN | apply Kd.N_drew)); exact HO233.out) gb235 (Nat.le_of_eq hg.symm)) hb); have n3_ := Aside0.mk (below_step (by repeat (first | (with_reducible first | exact HB.out | apply below_alloc | apply pw_below_drewN | apply below_drew1) | exact HB.out)) hb); have n4_ := Aside0.mk (hbox); have n5_ := Aside0.mk ((by rw [hg]; exact (below_size (by repeat (first | (with_reducible first | exact HB.out | apply below_alloc | apply pw_below_drewN | apply below_drew1) | exact HB.out))) : w.heap.size ≤ gb235)); have n6_ := Aside0.mk ((by rw [hg]; exact (below_size (by repeat (first | (with_reducible first | exact HB.out | apply below_alloc | apply pw_below_drewN | apply below_drew1) | exact HB.out))) : w.heap.size ≤ gb235)); clear HO225; clear HO228; clear HO233; clear HB; have HO225 := n0_; have HO228 := n1_; have HO233 := n2_; have HB := n3_; have BK235 := n4_; have GW235 := n5_; have GE235 := n6_; clear n0_ n1_ n2_ n3_ n4_ n5_ n6_; clear hb hbox hg; obtain ⟨Ao13, co13, eo13⟩ := Kd.N_slice HO233.out; subst eo13; have hcz14_0 : w12.cell? ⟨gb235, 0, none⟩ = some (.slice none 0 0) := (blk_cell BK235.out 0).trans rfl; have hfz14_0 := blk_frozen BK235.out 0))
  obtain ⟨w13, hw13⟩ : ∃ x, x = w12.setCell ⟨gb235, 0, none⟩ (.slice Ao13 t226.length co13) := ⟨_, rfl⟩
  rw [← hw13]
  have BK13 := Aside0.mk (show w13.heap[gb235]? = some (.cells #[.slice Ao13 t226.length co13] 24 (0, 0)) from hw13 ▸ blk_put BK235.out 0 _ rfl)
  have HB13 := Aside0.mk (show Below w.heap.size w w13 from hw13 ▸ HB.out.setCell (p := ⟨gb235, 0, none⟩) GE235.out _)
  have HN13 := Kd.N_far HO233.out (p := ⟨gb235, 0, none⟩) (fun k hk => hk.2) (.slice Ao13 t226.length co13)
  rw [← hw13] at HN13
  clear hw13 hcz14_0 hfz14_0 HB BK235 HO225 HO228 HO233
  have hl : t226.length = 1 := by rw [HT.out]; rfl
  have hC := (Kd.N_reads' HN13).2.2
  clear HN13
  rw [hl] at hC ⊢
  have HBK := BK13.out
  rw [hl] at HBK
  obtain ⟨ad, c, rfl, hcl, hK, hcell⟩ := Kd.C_get hC (⟨0, 0, [], [], []⟩ : S47) 0 (by decide) (by decide)
  have hx : t226.getD (0 : Int).toNat ⟨0, 0, [], [], []⟩ = ⟨0, 1, [], y223, [⟨0, 0, 0⟩, ⟨19, 0, 0⟩]⟩ := by rw [HT.out]; rfl
  rw [hx] at hK
  obtain ⟨A2, c2, A3, c3, A4, c4, rfl, hC3⟩ := k47_open hK
  have hl3 : y223.length = 1 := by rw [Ny223.out]; rfl
  have hC4 := hC3.2.2.2.1
  have hC5 : k42.C w13 A3 1 y223 := by
    have hC6 : k42.C w13 A3 y223.length y223 := hC4
    rwa [hl3] at hC6
  obtain ⟨ad3, d, rfl, hdl, hK3, hcell3⟩ := Kd.C_get hC5 (⟨0, 0, ⟨#[]⟩⟩ : S42) 0 (by decide) (by decide)
  have hx3 : y223.getD (0 : Int).toNat ⟨0, 0, ⟨#[]⟩⟩ = ⟨3, a0, ⟨#[]⟩⟩ := by rw [Ny223.out]; rfl
  rw [hx3] at hK3
  obtain rfl := k42_open hK3
  have e1 : w13.cell? ⟨ad.block, ad.off + 3, none⟩ = some (.slice (some ad3) 1 c3) := by
    have h := hcell 3 (.slice (some ad3) y223.length c3) rfl
    rw [hl3] at h
    exact h
  have e2 : w13.cell? ⟨ad3.block, ad3.off + 1, none⟩ = some (.int .i64 a0) := hcell3 1 (.int .i64 a0) rfl
  have cg : w13.cell? ⟨gb235, 0, none⟩ = some (.slice (some ad) 1 co13) := (blk_cell HBK 0).trans rfl
  clear hcell hcell3 hx hx3 hK hK3 hC3 hC4 hC5 hC hcl hdl HBK hl3 hl BK13
  by_cases hneg : a0 < 0
  · have hnb : decide (a0 < 0) = true := decide_eq_true hneg
    go_wp2_with fail
    go_loopw [7, 8] (fun v7 v8 wr => ∃ (f s c : Nat), v7 = .int .i64 (s : Int) ∧ v8 = .int .i64 (c : Int) ∧ Aside0 (s < 64 * 128 ^ f ∧ sizeGo f s c = L ∧ s < 9223372036854775808 ∧ c + f ≤ 10) ∧ wr = w13) (fun v7 _ _ => (intOf v7).toNat)
    case atStart => exact ⟨9, (-1 - a0).toNat, 1, by have := HW0.out; congr 1; unfold wrap64; omega, rfl, ⟨⟨by have := HW0.out; have : (128 : Nat) ^ 9 = 9223372036854775808 := (by decide +kernel); omega, by rw [HLL.out, if_neg (by omega)], by have := HW0.out; omega, by decide⟩⟩, rfl⟩
    case round =>
      obtain ⟨f, s, c, rfl, rfl, HI, rfl⟩ := hrel
      by_cases hs : (64 : Int) ≤ (s : Int)
      · have hf : ∃ f', f = f' + 1 := by
          cases f with
          | zero => have := HI.out.1; simp at this; omega
          | succ f' => exact ⟨f', rfl⟩
        obtain ⟨f', rfl⟩ := hf
        have hsz := HI.out.2.1
        rw [sizeGo, if_pos (by omega)] at hsz
        have HI2 := Aside0.mk (show s / 128 < 64 * 128 ^ f' ∧ sizeGo f' (s / 128) (c + 1) = L ∧ s / 128 < 9223372036854775808 ∧ (c + 1) + f' ≤ 10 from ⟨by have h1 := HI.out.1; rw [Nat.pow_succ] at h1; omega, hsz, by have := HI.out.2.2.1; omega, by have := HI.out.2.2.2; omega⟩)
        have hsl := HI.out.2.2.1
        have hcl : c ≤ 10 := by have := HI.out.2.2.2; omega
        clear hsz
        go_wp2_with fail
        go_roundw
        case rel =>
          exact ⟨f', s / 128, c + 1, by first | rfl | (congr 1; omega) | (congr 1; unfold wrap64; omega), by first | rfl | (congr 1; omega) | (congr 1; unfold wrap64; omega), HI2, by first | trivial | rfl⟩
        case measure =>
          simp [intOf]
          omega
      · have hcL : c = L := by
          have := HI.out.2.1
          rw [← this]
          cases f with
          | zero => rfl
          | succ f' => rw [sizeGo, if_neg (by omega)]
        subst hcL
        have hcl := HLT.out
        have hq : (t229.size : Int) = 13 + (c : Int) := by have := HS.out; omega
        go_wp2_with fail
        refine (tallowlaw21_works.calls k true wr A5.out).mono ?_
        rintro e w' ⟨rfl, hb⟩
        go_wp2_with fail
        go_ret
        exact ⟨rfl, below_step HB13.out hb⟩
  · have hnb : decide (a0 < 0) = false := decide_eq_false hneg
    go_wp2_with fail
    go_loopw [7, 8] (fun v7 v8 wr => ∃ (f s c : Nat), v7 = .int .i64 (s : Int) ∧ v8 = .int .i64 (c : Int) ∧ Aside0 (s < 64 * 128 ^ f ∧ sizeGo f s c = L ∧ s < 9223372036854775808 ∧ c + f ≤ 10) ∧ wr = w13) (fun v7 _ _ => (intOf v7).toNat)
    case atStart => exact ⟨9, a0.toNat, 1, by congr 1; omega, rfl, ⟨⟨by have := HW0.out; have : (128 : Nat) ^ 9 = 9223372036854775808 := (by decide +kernel); omega, by rw [HLL.out, if_pos (by omega)], by have := HW0.out; omega, by decide⟩⟩, rfl⟩
    case round =>
      obtain ⟨f, s, c, rfl, rfl, HI, rfl⟩ := hrel
      by_cases hs : (64 : Int) ≤ (s : Int)
      · have hf : ∃ f', f = f' + 1 := by
          cases f with
          | zero => have := HI.out.1; simp at this; omega
          | succ f' => exact ⟨f', rfl⟩
        obtain ⟨f', rfl⟩ := hf
        have hsz := HI.out.2.1
        rw [sizeGo, if_pos (by omega)] at hsz
        have HI2 := Aside0.mk (show s / 128 < 64 * 128 ^ f' ∧ sizeGo f' (s / 128) (c + 1) = L ∧ s / 128 < 9223372036854775808 ∧ (c + 1) + f' ≤ 10 from ⟨by have h1 := HI.out.1; rw [Nat.pow_succ] at h1; omega, hsz, by have := HI.out.2.2.1; omega, by have := HI.out.2.2.2; omega⟩)
        have hsl := HI.out.2.2.1
        have hcl : c ≤ 10 := by have := HI.out.2.2.2; omega
        clear hsz
        go_wp2_with fail
        go_roundw
        case rel =>
          exact ⟨f', s / 128, c + 1, by first | rfl | (congr 1; omega) | (congr 1; unfold wrap64; omega), by first | rfl | (congr 1; omega) | (congr 1; unfold wrap64; omega), HI2, by first | trivial | rfl⟩
        case measure =>
          simp [intOf]
          omega
      · have hcL : c = L := by
          have := HI.out.2.1
          rw [← this]
          cases f with
          | zero => rfl
          | succ f' => rw [sizeGo, if_neg (by omega)]
        subst hcL
        have hcl := HLT.out
        have hq : (t229.size : Int) = 13 + (c : Int) := by have := HS.out; omega
        go_wp2_with fail
        refine (tallowlaw21_works.calls k true wr A5.out).mono ?_
        rintro e w' ⟨rfl, hb⟩
        go_wp2_with fail
        go_ret
        exact ⟨rfl, below_step HB13.out hb⟩
end Go.Proofs.Ytkkgbbfojmnopaa.G
end
