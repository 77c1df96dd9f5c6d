import Derived.LaidMore
import Derived.LaidHandle
import Derived.Stop.Joined
import Derived.Lib.IfaceEq
import Derived.Lib.ItoaLen
import Derived.Shelf.Strings.MapGrows
import Derived.Shelf.Abstract
import Derived.LaidEql
import Derived.Stop.Asserts
import Derived.RowKitTokens
import Derived.Lib.LaidTab
import Derived.Lib.AppendIntMem
import Derived.Stop.LaidErr
import Derived.WalkKit
import Derived.Deep.RegionLaw
import Derived.Deep.Cut
import Derived.WalkSpells
import Derived.Test.YtnombbcgdfgadaaDoorPSoR
import Derived.Test.YtnombbcgdfgadaaDoorPSoOW
import Derived.Test.YtnombbcgdfgadaaDoorPSoGx0
import Derived.Test.YtnombbcgdfgadaaDoorPSoGxE44
import Derived.Lib.Hide
set_option linter.unusedVariables false
set_option linter.unusedSimpArgs false
section
namespace Go.Proofs.YtnombbcgdfgadaaDoor.G
open Go.Shelf Go.Extern.Stop Go.Stop Go.Extern Go.RowKit Go.Proofs.YtnombbcgdfgadaaDoorW.PrintWords Go.Proofs.YtnombbcgdfgadaaDoorW.PrintLast Go.Proofs.YtnombbcgdfgadaaDoorW.PrintMore
set_option linter.unusedVariables false
set_option linter.unusedSimpArgs false
theorem repeat_any (s : ByteArray) (c : Nat) (w : World) (hc : c ≤ 9223372036854775807) (hlen : s.size * c ≤ 140737488355328) :
    Calls Tryd.prog 16 #[.string s, .int .i64 c] w fun e w' => e = .returned (.string ⟨(Lib.repeatL s.data.toList c).toArray⟩) ∧ Below w.heap.size w w' := Any.strings_Repeat Tryd.lays105 Tryd.Builder_Extra_105 s c w hc hlen
theorem indexByte_app : ∀ (l r : List UInt8), (∀ c ∈ l, c ≠ 10) → Lib.indexByte (l ++ 10 :: r) 10 = l.length
  | [], r, _ => by rw [List.nil_append, indexByte_cons, if_pos rfl]; rfl
  | c :: l, r, h => by
    rw [List.cons_append, indexByte_cons, if_neg (h c (List.mem_cons_self ..)), indexByte_app l r (fun d hd => h d (List.mem_cons_of_mem _ hd)), if_neg (by omega), List.length_cons]
    omega
theorem cut_line (t : ByteArray) (l r : List UInt8) (h : ∀ c ∈ l, c ≠ 10) (ht : t.data.toList = l ++ 10 :: r) : cutF t = (⟨l.toArray⟩, ⟨r.toArray⟩, true) := by
  unfold cutF
  rw [ht, indexByte_app l r h, if_pos (by omega)]
  have e1 : t.extract 0 ((l.length : Int)).toNat = ⟨l.toArray⟩ := by
    apply ba_ext
    rw [ext_list, List.drop_zero, ht, Int.toNat_natCast, Nat.sub_zero, List.take_left]
  have e2 : t.extract ((l.length : Int) + 1).toNat t.size = ⟨r.toArray⟩ := by
    apply ba_ext
    rw [ext_drop, ht, show ((l.length : Int) + 1).toNat = (l ++ [10]).length by rw [List.length_append]; simp, show l ++ 10 :: r = (l ++ [10]) ++ r by simp, List.drop_left]
  rw [e1, e2]
def slB : List UInt8 := [115, 108, 105, 99, 101, 32, 51]
theorem sl_step : stepF ⟨slB.toArray⟩ 5 0 = (2, 3, 0) := by kernel_rfl
theorem sl_no : ∀ c ∈ slB, c ≠ 10 := by decide
theorem src_no : ∀ c ∈ ([115, 111, 117, 114, 99, 101] : List UInt8), c ≠ 10 := by decide
def srcR (text : ByteArray) (xs : List S44) (a : Int) : ByteArray × List S44 × Int × Int := if text.size > 32768 then (⟨#[]⟩, [], 3, a) else (text, xs, 0, 0)
theorem run_rep (text : ByteArray) : ∀ (k m : Nat) (a : Nat) (xs : List S44) (t : ByteArray), t.data.toList = Lib.repeatL (slB ++ [10]) k ++ ([115, 111, 117, 114, 99, 101] ++ 10 :: text.data.toList) → xs.length + k ≤ 4096 → a + k ≤ 4096 →
    runF (m + k + 1) (a : Int) xs t = some (srcR text (xs ++ List.replicate k ⟨2, 3⟩) ((a + k : Nat) : Int))
  | 0, m, a, xs, t, ht, hx, ha => by
    rw [show Lib.repeatL (slB ++ [10]) 0 = [] from rfl, List.nil_append] at ht
    have hc := cut_line t _ _ src_no ht
    have h3 : (⟨text.data.toList.toArray⟩ : ByteArray) = text := ba_ext rfl
    rw [h3] at hc
    unfold runF srcR
    rw [hc]
    dsimp only
    have hsr : (⟨([115, 111, 117, 114, 99, 101] : List UInt8).toArray⟩ : ByteArray).toList = srcB.toList := by rw [toList_data]; exact (toList_data srcB).symm
    rw [if_pos ⟨rfl, hsr⟩]
    simp only [List.replicate_zero, List.append_nil, Nat.add_zero]
    split <;> rfl
  | k + 1, m, a, xs, t, ht, hx, ha => by
    have hl : Lib.repeatL (slB ++ [10]) (k + 1) = slB ++ 10 :: Lib.repeatL (slB ++ [10]) k := by
      show (slB ++ [10]) ++ Lib.repeatL (slB ++ [10]) k = _
      rw [List.append_assoc]
      rfl
    rw [hl, List.append_assoc, List.cons_append] at ht
    have hc := cut_line t _ _ sl_no ht
    have ih := run_rep text k m (a + 1) (xs ++ [⟨2, 3⟩]) ⟨(Lib.repeatL (slB ++ [10]) k ++ ([115, 111, 117, 114, 99, 101] ++ 10 :: text.data.toList)).toArray⟩ rfl (by rw [List.length_append]; simp; omega) (by omega)
    rw [show m + (k + 1) + 1 = (m + k + 1) + 1 by omega]
    unfold runF
    rw [hc]
    dsimp only
    rw [sl_step]
    dsimp only
    have hns : ¬ ((⟨slB.toArray⟩ : ByteArray).toList = srcB.toList) := by rw [toList_data, toList_data]; decide
    rw [if_neg (fun h => hns h.2), if_neg (by decide), if_neg (by omega), if_neg (by decide)]
    have hw : wrap64 ((a : Int) + 1) = ((a + 1 : Nat) : Int) := by rw [w_id (by omega)]; rfl
    rw [hw, ih, List.append_assoc, show a + 1 + k = a + (k + 1) by omega]
    rfl
def srcT (k : Nat) (text : ByteArray) : ByteArray := ((⟨(Lib.repeatL (⟨#[115, 108, 105, 99, 101, 32, 51, 10]⟩ : ByteArray).data.toList k).toArray⟩ : ByteArray) ++ (⟨#[115, 111, 117, 114, 99, 101, 10]⟩ : ByteArray)) ++ text
theorem srcT_list (k : Nat) (text : ByteArray) : (srcT k text).data.toList = Lib.repeatL (slB ++ [10]) k ++ ([115, 111, 117, 114, 99, 101] ++ 10 :: text.data.toList) := by
  unfold srcT
  rw [ByteArray.data_append, Array.toList_append, ByteArray.data_append, Array.toList_append, List.append_assoc]
  rfl
theorem srcT_size (k : Nat) (text : ByteArray) : (srcT k text).size = 8 * k + 7 + text.size := by
  unfold srcT
  rw [ByteArray.size_append, ByteArray.size_append]
  have : (⟨(Lib.repeatL (⟨#[115, 108, 105, 99, 101, 32, 51, 10]⟩ : ByteArray).data.toList k).toArray⟩ : ByteArray).size = 8 * k := by
    show (Lib.repeatL _ k).toArray.size = _
    rw [List.size_toArray, Lib.repeatL_length]
    show k * 8 = _
    omega
  rw [this]
  rfl
theorem rd_rep {k : Nat} {i : Int} (h0 : 0 ≤ i) (h1 : i < (k : Int)) : rd_T44 (List.replicate k (⟨2, 3⟩ : S44)) i = ⟨2, 3⟩ := by
  have := rd_mem (List.replicate k (⟨2, 3⟩ : S44)) h0 (by rw [List.length_replicate]; exact h1)
  exact List.eq_of_mem_replicate this
theorem parse_src (k : Nat) (text : ByteArray) (hk : k ≤ 100) (hs : text.size ≤ 140737488351232) : script_Parse.f (0 + k + 1) (srcT k text) = some (srcR text (List.replicate k ⟨2, 3⟩) (k : Int)) := by
  have h := run_rep text k 0 0 [] (srcT k text) (srcT_list k text) (by simp; omega) (by omega)
  rw [List.nil_append, show ((0 + k : Nat) : Int) = (k : Int) by rw [Nat.zero_add]] at h
  unfold script_Parse.f
  rw [if_pos (by rw [srcT_size]; omega)]
  exact h
theorem calls_src (k : Nat) (rp text : ByteArray) (hrp : rp = (⟨(Lib.repeatL (⟨#[115, 108, 105, 99, 101, 32, 51, 10]⟩ : ByteArray).data.toList k).toArray⟩ : ByteArray)) (T : ByteArray) (zs : List S44) (c a : Int) (w : World) (hL : Laid w) (h : script_Parse.f (0 + k + 1) (srcT k text) = some (T, zs, c, a)) :
    Calls Tryd.prog 8 #[.string ((rp ++ (⟨#[115, 111, 117, 114, 99, 101, 10]⟩ : ByteArray)) ++ text)] w fun e w' => ∃ v ev : Value, e = .returned (.tuple #[.agg #[.string T, v], ev]) ∧ Kd.R k44 44 w' w.heap.size (fun k => w.heap.size ≤ k) v zs ∧ FaultV w w' ev c a ∧ Below w.heap.size w w' := by
  subst hrp
  exact script_Parse.calls (0 + k + 1) (srcT k text) T zs c a w hL h
attribute [local go_sem high] eqA44
set_option maxHeartbeats 4000000 in
set_option maxRecDepth 100000 in
theorem source_any (text : ByteArray) (n : Int) (w : World) (hL : Laid w) (hs : text.size ≤ 140737488351232) (hn : 0 ≤ n ∧ n < 256) : Calls Tryd.prog 6 #[.string text, .int .u8 n] w fun e w' => e = .returned (.bool true) ∧ Below w.heap.size w w' := by
  have HL := Aside0.mk hL
  have HS := Aside0.mk hs
  obtain ⟨hn0, hn1⟩ := hn
  clear hL hs
  go_enter Tryd.func6, Tryd.ntmps6
  go_wp2_with fail
  refine (works_any w HL.out).mono ?_
  rintro e w1 ⟨rfl, hb⟩
  have HB1 := Aside0.mk hb
  clear hb
  go_wp2_with fail
  obtain ⟨k, hk⟩ : ∃ k : Nat, n % 100 = k := ⟨(n % 100).toNat, by omega⟩
  have hk1 : k ≤ 100 := by omega
  rw [hk]
  have HK1 := Aside0.mk hk1
  have hps := parse_src k text hk1 HS.out
  clear hk hn0 hn1 hk1
  refine (repeat_any _ k w1 (by have := HK1.out; omega) (by have := HK1.out; show 8 * k ≤ _; omega)).mono ?_
  rintro e w2 ⟨rfl, hb⟩
  have HB2 := Aside0.mk (below_step HB1.out hb)
  clear hb HB1
  obtain ⟨rp, hrp⟩ : ∃ rp, rp = (⟨(Lib.repeatL (⟨#[115, 108, 105, 99, 101, 32, 51, 10]⟩ : ByteArray).data.toList k).toArray⟩ : ByteArray) := ⟨_, rfl⟩
  rw [← hrp]
  have hrs : rp.size = 8 * k := by
    rw [hrp]
    show (Lib.repeatL _ k).toArray.size = _
    rw [List.size_toArray, Lib.repeatL_length]
    show k * 8 = _
    omega
  have q1 : (9223372036854775807 < rp.size + 7) = False := eq_false (by have := HK1.out; omega)
  have q2 : (9223372036854775807 < rp.size + 7 + text.size) = False := eq_false (by have := HK1.out; have := HS.out; omega)
  have HRP := Aside0.mk hrp
  clear hrp hrs
  go_wp2_with fail
  unfold srcR at hps
  by_cases hbig : text.size > 32768
  · rw [if_pos hbig] at hps
    have hbb : decide ((text.size : Int) > 32768) = true := decide_eq_true (by omega)
    have hbb' : decide ((32768 : Int) < (text.size : Int)) = true := decide_eq_true (by omega)
    refine (calls_src k rp text HRP.out _ _ _ _ w2 (Laid.below HB2.out HL.out) hps).mono ?_
    rintro e w3 ⟨v, ev, rfl, hR, hF, hb⟩
    obtain ⟨A, cc, rfl⟩ := Kd.R_slice hR
    have HB3 := Aside0.mk (below_step HB2.out hb)
    have HF3 := Aside0.mk hF
    clear hR hF hb HB2 hbig hps
    go_upto_region 5 with (fail)
    have h4 := below_alloc (Below.refl w3.heap.size w3) (.cells #[.string ⟨#[]⟩, .slice A 0 cc] 24 (0, 0))
    have hf4 := FaultV.below HF3.out h4
    have hb4 := below_step HB3.out h4
    generalize w3.alloc (.cells #[.string ⟨#[]⟩, .slice A 0 cc] 24) = w4 at hf4 hb4 ⊢
    have HF4 := Aside0.mk hf4
    have HB4 := Aside0.mk hb4
    clear hf4 hb4 h4 HF3 HB3
    go_wp2_with fail
    refine (told_true ev 3 k k _ w4 (Laid.below HB4.out HL.out) HF4.out (fun _ => rfl)).mono ?_
    rintro e w5 ⟨rfl, hb⟩
    have HB5 := Aside0.mk (below_step HB4.out hb)
    clear hb HB4 HF4
    go_wp2_with fail
    go_ret
    exact ⟨rfl, HB5.out⟩
  · rw [if_neg hbig] at hps
    have hbb : decide ((text.size : Int) > 32768) = false := decide_eq_false (by omega)
    have hbb' : decide ((32768 : Int) < (text.size : Int)) = false := decide_eq_false (by omega)
    refine (calls_src k rp text HRP.out _ _ _ _ w2 (Laid.below HB2.out HL.out) hps).mono ?_
    rintro e w3 ⟨v, ev, rfl, hR, hF, hb⟩
    obtain rfl : ev = .nilIface := by
      rcases hF with ⟨_, h⟩ | ⟨h, _⟩
      · exact h
      · exact absurd rfl h
    obtain ⟨A, cc, rfl⟩ := Kd.R_slice hR
    have HC3 := Aside0.mk (Kd.R_reads' hR).2.2
    have HB3 := Aside0.mk (below_step HB2.out hb)
    clear hR hF hb HB2 hbig hps
    rw [List.length_replicate] at HC3 ⊢
    go_upto_region 5 with (fail)
    have h4 := below_alloc (Below.refl w3.heap.size w3) (.cells #[.string text, .slice A k cc] 24 (0, 0))
    have hx4 := blk_new w3 (.cells #[.string text, .slice A k cc] 24 (0, 0))
    have hc4 := Kd.C_below HC3.out h4
    have hb4 := below_step HB3.out h4
    generalize w3.alloc (.cells #[.string text, .slice A k cc] 24) = w4 at hx4 hc4 hb4 ⊢
    generalize w3.heap.size = b6 at hx4 ⊢
    have HX4 := Aside0.mk hx4
    have HC4 := Aside0.mk hc4
    have HB4 := Aside0.mk hb4
    clear hx4 hc4 hb4 h4 HB3 HC3
    have x0 : w4.cell? ⟨b6, 0, none⟩ = some (.string text) := (blk_cell HX4.out 0).trans rfl
    have x1 : w4.cell? ⟨b6, 1, none⟩ = some (.slice A k cc) := (blk_cell HX4.out 1).trans rfl
    have e1 : (text.toList == text.toList) = true := beq_self_eq_true _
    have e2 : ((k : Int) == (k : Int)) = true := beq_self_eq_true _
    go_wp2_with fail
    clear x0 x1 e1 e2 hbb hbb' q1 q2
    go_loopg [8] (k + 1) (fun kq v8 wr => ∃ i : Int, v8 = .int .i64 i ∧ 0 ≤ i ∧ i ≤ (k : Int) ∧ Aside0 (kq + i.toNat = k + 1) ∧ Aside0 (Below w.heap.size w wr) ∧ Aside0 (wr.heap[b6]? = some (.cells #[.string text, .slice A k cc] 24 (0, 0))) ∧ Aside0 (Kd.C k44 wr A k (List.replicate k (⟨2, 3⟩ : S44))))
    case atStart => exact ⟨0, rfl, Int.le_refl _, by omega, ⟨rfl⟩, HB4, HX4, HC4⟩
    case round =>
      clear HB4 HX4 HC4
      obtain ⟨i, rfl, hi0, hik, HK, HBR, HXR, HCR⟩ := hrel
      obtain ⟨gm, rfl⟩ : ∃ m, gk = m + 1 := ⟨gk - 1, by have := HK.out; omega⟩
      by_cases hi : i < (k : Int)
      · have hlt : decide (i < (k : Int)) = true := decide_eq_true hi
        obtain ⟨ad, rfl, c0, c1⟩ := at_T44 HCR.out i hi0 hi
        rw [rd_rep hi0 hi] at c0 c1
        have x1 : wr.cell? ⟨b6, 1, none⟩ = some (.slice (some ad) k cc) := (blk_cell HXR.out 1).trans rfl
        have hw : wrap64 (i + 1) = i + 1 := IntWalk.wrap64_in _ (by have := HK1.out; omega)
        dsimp only at c0 c1
        go_wp2_with fail
        go_roundg gm
        case measure => omega
        case rel => exact ⟨i + 1, by rw [hw], by omega, by omega, ⟨by have := HK.out; omega⟩, HBR, HXR, HCR⟩
      · have hlt : decide (i < (k : Int)) = false := decide_eq_false hi
        go_wp2_with fail
        go_ret
        exact ⟨rfl, HBR.out⟩
end Go.Proofs.YtnombbcgdfgadaaDoor.G
end
