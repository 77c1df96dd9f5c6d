import Derived.LaidMore
import Derived.LaidHandle
import Derived.Stop.Joined
import Derived.Lib.IfaceEq
import Derived.Lib.IndexMore
import Derived.Shelf.Abstract
import Derived.LaidEql
import Derived.Stop.Asserts
import Derived.RowKitTokens
import Derived.Lib.LaidTab
import Derived.Lib.AppendIntMem
import Derived.Stop.LaidErr
import Derived.WalkKit
import Derived.Deep.RegionLaw
import Derived.Deep.Cut
import Derived.WalkSpells
import Derived.Maps.OwnOps
import Derived.Maps.OwnSet
import Derived.Maps.Views
import Derived.Maps.RangeWalk
import Derived.Maps.Own
import Derived.Test.YtlbaejihlcfpeaaGreatDoorPReRS
import Derived.Lib.Hide
set_option linter.unusedVariables false
set_option linter.unusedSimpArgs false
section
namespace Go.Proofs.YtlbaejihlcfpeaaGreatDoor.G
open Go.Shelf Go.Extern.Stop Go.Stop Go.Extern Go.RowKit Go.Proofs.YtlbaejihlcfpeaaGreatDoorW.PrintWords Go.Proofs.YtlbaejihlcfpeaaGreatDoorW.PrintLast Go.Proofs.YtlbaejihlcfpeaaGreatDoorW.PrintMore
set_option linter.unusedVariables false
set_option linter.unusedSimpArgs false
def pairA (k : Nat) : ByteArray := ⟨(pairW.getD k []).toArray⟩
def pairC : List Value := (List.range 7).map fun k => .string (pairA k)
theorem pairA_list (k : Nat) : (pairA k).toList = pairW.getD k [] := by rw [toList_data']; unfold pairA; simp
theorem pairC_at {k : Nat} (h : k < 7) : pairC.toArray[k]? = some (.string (pairA k)) := by
  unfold pairC
  rw [List.getElem?_toArray, List.getElem?_map, List.getElem?_range h]
  rfl
theorem pairC_len : pairC.length = 7 := by kernel_rfl
theorem pairC_one : ∀ q ∈ pairC, q.oneCell' = true := by
  intro q hq
  unfold pairC at hq
  rw [List.mem_map] at hq
  obtain ⟨x, _, rfl⟩ := hq
  rfl
def z111 : Array Value := (List.replicate 7 (Value.string ⟨#[]⟩)).toArray
theorem zero111 (w : World) : (zeroValue 111).run Tryz.prog w = .ok (.agg z111) w := by kernel_rfl
theorem z111_size : z111.size = 7 := by kernel_rfl
theorem pair_hit {u : List UInt8} {k : Nat} (hk : k < 7) (h : (pairA k).toList = u) : pairW.contains u = true := by
  rw [pairA_list] at h
  rw [← h, List.getD_eq_getElem?_getD, List.getElem?_eq_getElem (show k < pairW.length from Nat.lt_of_lt_of_le hk (by decide))]
  exact List.contains_iff_mem.mpr (List.getElem_mem _)
theorem pair_miss {u : List UInt8} (h : ∀ k, k < 7 → (pairA k).toList ≠ u) (h2 : u ≠ [46, 46]) : pairW.contains u = false := by
  cases hr : pairW.contains u with
  | false => rfl
  | true =>
    have hm := List.contains_iff_mem.mp hr
    obtain ⟨k, hk, he⟩ := List.mem_iff_getElem.mp hm
    have hk8 : k < 8 := hk
    by_cases h7 : k = 7
    · subst h7; exact absurd he.symm h2
    · refine absurd ?_ (h k (by omega))
      rw [pairA_list, List.getD_eq_getElem?_getD, List.getElem?_eq_getElem hk]
      exact he
theorem sub_two (s : ByteArray) (at_ : Nat) (h : at_ + 2 ≤ s.size) : (s.extract at_ (at_ + 2)).toList = (s.data.toList.drop at_).take 2 ∧ (s.data.toList.drop at_).take 2 ≠ [] := by
  have e : (s.extract at_ (at_ + 2)).toList = (s.data.toList.drop at_).take 2 := by
    rw [toList_data', ByteArray.data_extract, Array.toList_extract, List.extract_eq_take_drop]
    congr 1; omega
  refine ⟨e, fun h0 => ?_⟩
  have : ((s.data.toList.drop at_).take 2).length = 0 := by rw [h0]; rfl
  rw [List.length_take, List.length_drop, Array.length_toList] at this
  have : s.data.size = s.size := rfl
  omega
theorem pair_short {s : ByteArray} {at_ : Nat} (h : ¬ at_ + 2 ≤ s.size) : pairW.contains ((s.data.toList.drop at_).take 2) = false := by
  cases hr : pairW.contains ((s.data.toList.drop at_).take 2) with
  | false => rfl
  | true =>
    obtain ⟨a, b, hab, _⟩ := pair_two hr
    have : ((s.data.toList.drop at_).take 2).length = 2 := by rw [hab]; rfl
    rw [List.length_take, List.length_drop, Array.length_toList] at this
    have : s.data.size = s.size := rfl
    omega
theorem drop_head (s : ByteArray) (at_ : Nat) (h : at_ < s.size) : s.data.toList.drop at_ = (s[at_]'h) :: s.data.toList.drop (at_ + 1) := by
  rw [List.drop_eq_getElem_cons (by rw [Array.length_toList]; exact h)]
  rfl
theorem sign_one (s : ByteArray) (at_ : Nat) (h : at_ < s.size) (hp : pairW.contains ((s.data.toList.drop at_).take 2) = false) : signF (s.data.toList.drop at_) = if oneW.contains (s[at_]'h) = true then 1 else 0 := by
  unfold signF
  rw [hp, if_neg (by decide), drop_head s at_ h]
def oneB : ByteArray := ⟨oneW.toArray⟩
theorem oneB_at (k : Nat) (h : k < oneB.size) : oneB[k]'h = oneW[k]'(by simpa [oneB, ByteArray.size] using h) := by
  have h2 : k < oneW.toArray.size := h
  show oneW.toArray[k]'h2 = _
  exact List.getElem_toArray ..
theorem one_hit {c : UInt8} (k : Nat) (h : k < oneB.size) (he : (c.toNat : Int) = ((oneB[k]'h).toNat : Int)) : oneW.contains c = true := by
  have : c = oneB[k]'h := UInt8.toNat_inj.mp (by omega)
  rw [this, oneB_at]
  exact List.contains_iff_mem.mpr (List.getElem_mem _)
theorem one_miss {c : UInt8} (h : ∀ k (hk : k < oneB.size), (c.toNat : Int) ≠ ((oneB[k]'hk).toNat : Int)) : oneW.contains c = false := by
  cases hr : oneW.contains c with
  | false => rfl
  | true =>
    obtain ⟨k, hk, he⟩ := List.mem_iff_getElem.mp (List.contains_iff_mem.mp hr)
    have hk2 : k < oneB.size := by simpa [oneB, ByteArray.size] using hk
    refine absurd ?_ (h k hk2)
    rw [oneB_at, he]
theorem oneB_size : oneB.size = 19 := by kernel_rfl
set_option maxHeartbeats 8000000 in
set_option maxRecDepth 100000 in
theorem ref_sign_any (s : ByteArray) (at_ : Nat) (hat : at_ < s.size) (hs : s.size ≤ 140737488355328) (w : World) : Calls Tryz.prog 45 #[.string s, .int .i64 at_] w fun e w' => e = .returned (.int .i64 (signF (s.data.toList.drop at_))) ∧ Below w.heap.size w w' := by
  have hz := zero111
  have hzs := z111_size
  generalize z111 = Z at hz hzs
  generalize hres : signF (s.data.toList.drop at_) = res
  have HRES := Aside0.mk hres
  clear hres
  have HAT := Aside0.mk hat
  have HS := Aside0.mk hs
  have hw : wrap64 ((at_ : Int) + 2) = (at_ : Int) + 2 := IntWalk.wrap64_in _ ⟨by omega, by omega⟩
  have hati : (at_ : Int) < (s.size : Int) := by omega
  clear hs
  go_enter Tryz.func45, Tryz.ntmps45
  go_wp2_with (first | ((with_reducible refine gate_dst (N := 9) rfl ?_); refine Kd.event_run (w1 := w) (v := .agg pairC.toArray) rfl (by kernel_rfl) ?_) | ((with_reducible refine gate_dst (N := 5) rfl ?_); refine box_event ?hg (N := 5) ?hd (cs := Z) (t := 111) ?hr ?_; (case hd => rfl); (case hg => rfl); (case hr => first | (go_simp; done) | (go_simp; rfl)); intro gl hgl wA hboxA hbA; have BKA := Aside0.mk hboxA; have HBA := Aside0.mk hbA; have GLA := Aside0.mk hgl; clear hgl hboxA hbA; refine store_whole rfl rfl 111 5 (.tmp 9) rfl (g := gl) (u := .agg pairC.toArray) (seg := pairC) (cur := Z) (e := 111) rfl rfl (by simp [Value.cells]) (by kernel_rfl) BKA.out (by rw [hzs, pairC_len]) pairC_one ?_; intro w5 kTab bTab fTab zTab; have HB5 := Aside0.mk (HBA.out.trans (bTab.mono (by rw [GLA.out]; exact Nat.le_refl _))); have KTAB := Aside0.mk kTab; clear kTab bTab fTab zTab hz hzs))
  by_cases h2 : at_ + 2 ≤ s.size
  · obtain ⟨hsub, hne⟩ := sub_two s at_ h2
    have hd : decide ((at_ : Int) + 2 ≤ (s.size : Int)) = true := decide_eq_true (by omega)
    have hdi : (at_ : Int) + 2 ≤ (s.size : Int) := by omega
    go_loopw [6] (fun v6 wr => ∃ k : Nat, v6 = .int .i64 k ∧ k ≤ 7 ∧ Aside0 (∀ j, j < k → (pairA j).toList ≠ (s.data.toList.drop at_).take 2) ∧ Aside0 (wr.heap[gl]? = some (.cells pairC.toArray 111 (0, 0))) ∧ Aside0 (Below w.heap.size w wr)) (fun v6 _ => 7 - (intOf v6).toNat)
    case atStart => exact ⟨0, rfl, by omega, ⟨fun j h => by omega⟩, KTAB, HB5⟩
    case round =>
      clear KTAB HB5 HBA GLA BKA
      obtain ⟨k, rfl, hk, HN, KT, HB⟩ := hrel
      by_cases hk5 : k < 7
      · have hlt : decide ((k : Int) < 7) = true := decide_eq_true (by omega)
        have hk5i : (k : Int) < 7 := by omega
        have hcell : wr.cell? ⟨gl, k, none⟩ = some (.string (pairA k)) := (blk_cell KT.out k).trans (pairC_at hk5)
        generalize hq : pairA k = q at hcell
        have HQ := Aside0.mk hq
        clear hq
        by_cases he : (s.extract at_ (at_ + 2)).toList = q.toList
        · have hb : ((s.extract at_ (at_ + 2)).toList == q.toList) = true := beq_iff_eq.mpr he
          have hr : res = 2 := by
            rw [← HRES.out]; unfold signF
            rw [if_pos (pair_hit hk5 (by rw [HQ.out, ← he, hsub]))]
          have HR := Aside0.mk hr
          clear he hr hsub hne
          go_wp2_with fail
          go_region
          all_goals (try go_wp2)
          all_goals go_ret
          all_goals exact ⟨by rw [HR.out]; rfl, by repeat (first | exact HB.out | apply pw_below_drewN | apply below_drew1)⟩
        · have hb : ((s.extract at_ (at_ + 2)).toList == q.toList) = false := beq_eq_false_iff_ne.mpr he
          have HE := Aside0.mk he
          have HSUB := Aside0.mk hsub
          clear he hsub hne
          go_wp2_with fail
          go_region
          all_goals (try go_wp2)
          all_goals refine ⟨⟨k + 1, by go_num, by omega, ⟨fun j hj => ?_⟩, ⟨?_⟩, ⟨by repeat (first | exact HB.out | apply pw_below_drewN | apply below_drew1)⟩⟩, ?_⟩
          all_goals first
            | (simp [intOf]; omega)
            | (by_cases e : j = k
               · subst e; rw [HQ.out, ← HSUB.out]; exact fun h => HE.out h.symm
               · exact HN.out j (by omega))
            | exact KT.out
            | exact blk_drew KT.out
      · have hlt : decide ((k : Int) < 7) = false := decide_eq_false (by omega)
        have hk5i : ¬ (k : Int) < 7 := by omega
        by_cases he : (s.extract at_ (at_ + 2)).toList = [46, 46]
        · have hb : ((s.extract at_ (at_ + 2)).toList == ([46, 46] : List UInt8)) = true := beq_iff_eq.mpr he
          have hr : res = 2 := by
            rw [← HRES.out]; unfold signF
            rw [if_pos (by rw [← hsub, he]; decide)]
          have HR := Aside0.mk hr
          clear he hr hsub hne
          go_wp2_with fail
          try go_region
          all_goals (try go_wp2)
          all_goals go_ret
          all_goals exact ⟨by rw [HR.out]; rfl, by repeat (first | exact HB.out | apply pw_below_drewN | apply below_drew1)⟩
        · have hb : ((s.extract at_ (at_ + 2)).toList == ([46, 46] : List UInt8)) = false := beq_eq_false_iff_ne.mpr he
          have HP := Aside0.mk (pair_miss (u := (s.data.toList.drop at_).take 2) (fun j hj => HN.out j (by omega)) (by rw [← hsub]; exact he))
          clear he hsub hne HN KT
          go_wp2_with fail
          go_loopw [8] (fun v8 wr => ∃ k : Nat, v8 = .int .i64 k ∧ k ≤ 19 ∧ Aside0 (∀ j (hj : j < oneB.size), j < k → ((s[at_]'hat).toNat : Int) ≠ ((oneB[j]'hj).toNat : Int)) ∧ Aside0 (Below w.heap.size w wr)) (fun v8 _ => 19 - (intOf v8).toNat)
          case atStart => exact ⟨0, rfl, by omega, ⟨fun j hj h => by omega⟩, ⟨by repeat (first | exact HB.out | apply pw_below_drewN | apply below_drew1)⟩⟩
          case round =>
            clear HB
            obtain ⟨k, rfl, hk, HM, HB⟩ := hrel
            by_cases hk5 : k < 19
            · have hlt : decide ((k : Int) < 19) = true := decide_eq_true (by omega)
              have hk5i : (k : Int) < 19 := by omega
              have hko : k < oneB.size := by rw [oneB_size]; exact hk5
              have hkb : k < (⟨#[43, 45, 42, 37, 38, 124, 126, 60, 62, 61, 46, 44, 40, 41, 91, 93, 123, 125, 35]⟩ : ByteArray).size := hko
              have heb : (⟨#[43, 45, 42, 37, 38, 124, 126, 60, 62, 61, 46, 44, 40, 41, 91, 93, 123, 125, 35]⟩ : ByteArray)[k]'hkb = oneB[k]'hko := rfl
              by_cases he : ((s[at_]'hat).toNat : Int) = ((oneB[k]'hko).toNat : Int)
              · have hb : (((s[at_]'hat).toNat : Int) == ((oneB[k]'hko).toNat : Int)) = true := beq_iff_eq.mpr he
                rw [← heb] at hb
                have hr : res = 1 := by
                  rw [← HRES.out, sign_one s at_ hat HP.out, if_pos (one_hit k hko he)]
                have HR := Aside0.mk hr
                clear he hr heb
                go_wp2_with fail
                go_region
                all_goals (try go_wp2)
                all_goals go_ret
                all_goals exact ⟨by rw [HR.out]; rfl, by repeat (first | exact HB.out | apply pw_below_drewN | apply below_drew1)⟩
              · have hb : (((s[at_]'hat).toNat : Int) == ((oneB[k]'hko).toNat : Int)) = false := beq_eq_false_iff_ne.mpr he
                rw [← heb] at hb
                have HE := Aside0.mk he
                clear he heb
                go_wp2_with fail
                go_region
                all_goals (try go_wp2)
                all_goals refine ⟨⟨k + 1, by go_num, by omega, ⟨fun j hj hjk => ?_⟩, ⟨by repeat (first | exact HB.out | apply pw_below_drewN | apply below_drew1)⟩⟩, ?_⟩
                all_goals first
                  | (simp [intOf]; omega)
                  | (by_cases e : j = k
                     · subst e; exact HE.out
                     · exact HM.out j hj (by omega))
            · have hlt : decide ((k : Int) < 19) = false := decide_eq_false (by omega)
              have hk5i : ¬ (k : Int) < 19 := by omega
              have hr : res = 0 := by
                rw [← HRES.out, sign_one s at_ hat HP.out, if_neg (by rw [one_miss (fun j hj => HM.out j hj (by rw [oneB_size] at hj; omega))]; decide)]
              have HR := Aside0.mk hr
              clear hr
              go_wp2_with fail
              go_ret
              exact ⟨by rw [HR.out]; rfl, HB.out⟩
  · have hd : decide ((at_ : Int) + 2 ≤ (s.size : Int)) = false := decide_eq_false (by omega)
    have hdi : ¬ (at_ : Int) + 2 ≤ (s.size : Int) := by omega
    have HP := Aside0.mk (pair_short h2)
    go_loopw [6] (fun v6 wr => ∃ k : Nat, v6 = .int .i64 k ∧ k ≤ 7 ∧ Aside0 (Below w.heap.size w wr)) (fun v6 _ => 7 - (intOf v6).toNat)
    case atStart => exact ⟨0, rfl, by omega, HB5⟩
    case round =>
      clear KTAB HB5 HBA GLA BKA
      obtain ⟨k, rfl, hk, HB⟩ := hrel
      by_cases hk5 : k < 7
      · have hlt : decide ((k : Int) < 7) = true := decide_eq_true (by omega)
        have hk5i : (k : Int) < 7 := by omega
        go_wp2_with fail
        try go_region
        all_goals (try go_wp2)
        all_goals refine ⟨⟨k + 1, by go_num, by omega, ⟨by repeat (first | exact HB.out | apply pw_below_drewN | apply below_drew1)⟩⟩, ?_⟩
        all_goals (simp [intOf]; omega)
      · have hlt : decide ((k : Int) < 7) = false := decide_eq_false (by omega)
        have hk5i : ¬ (k : Int) < 7 := by omega
        go_wp2_with fail
        go_loopw [8] (fun v8 wr => ∃ k : Nat, v8 = .int .i64 k ∧ k ≤ 19 ∧ Aside0 (∀ j (hj : j < oneB.size), j < k → ((s[at_]'hat).toNat : Int) ≠ ((oneB[j]'hj).toNat : Int)) ∧ Aside0 (Below w.heap.size w wr)) (fun v8 _ => 19 - (intOf v8).toNat)
        case atStart => exact ⟨0, rfl, by omega, ⟨fun j hj h => by omega⟩, ⟨by repeat (first | exact HB.out | apply pw_below_drewN | apply below_drew1)⟩⟩
        case round =>
          clear HB
          obtain ⟨k, rfl, hk, HM, HB⟩ := hrel
          by_cases hk5 : k < 19
          · have hlt : decide ((k : Int) < 19) = true := decide_eq_true (by omega)
            have hk5i : (k : Int) < 19 := by omega
            have hko : k < oneB.size := by rw [oneB_size]; exact hk5
            have hkb : k < (⟨#[43, 45, 42, 37, 38, 124, 126, 60, 62, 61, 46, 44, 40, 41, 91, 93, 123, 125, 35]⟩ : ByteArray).size := hko
            have heb : (⟨#[43, 45, 42, 37, 38, 124, 126, 60, 62, 61, 46, 44, 40, 41, 91, 93, 123, 125, 35]⟩ : ByteArray)[k]'hkb = oneB[k]'hko := rfl
            by_cases he : ((s[at_]'hat).toNat : Int) = ((oneB[k]'hko).toNat : Int)
            · have hb : (((s[at_]'hat).toNat : Int) == ((oneB[k]'hko).toNat : Int)) = true := beq_iff_eq.mpr he
              rw [← heb] at hb
              have hr : res = 1 := by
                rw [← HRES.out, sign_one s at_ hat HP.out, if_pos (one_hit k hko he)]
              have HR := Aside0.mk hr
              clear he hr heb
              go_wp2_with fail
              go_region
              all_goals (try go_wp2)
              all_goals go_ret
              all_goals exact ⟨by rw [HR.out]; rfl, by repeat (first | exact HB.out | apply pw_below_drewN | apply below_drew1)⟩
            · have hb : (((s[at_]'hat).toNat : Int) == ((oneB[k]'hko).toNat : Int)) = false := beq_eq_false_iff_ne.mpr he
              rw [← heb] at hb
              have HE := Aside0.mk he
              clear he heb
              go_wp2_with fail
              go_region
              all_goals (try go_wp2)
              all_goals refine ⟨⟨k + 1, by go_num, by omega, ⟨fun j hj hjk => ?_⟩, ⟨by repeat (first | exact HB.out | apply pw_below_drewN | apply below_drew1)⟩⟩, ?_⟩
              all_goals first
                | (simp [intOf]; omega)
                | (by_cases e : j = k
                   · subst e; exact HE.out
                   · exact HM.out j hj (by omega))
          · have hlt : decide ((k : Int) < 19) = false := decide_eq_false (by omega)
            have hk5i : ¬ (k : Int) < 19 := by omega
            have hr : res = 0 := by
              rw [← HRES.out, sign_one s at_ hat HP.out, if_neg (by rw [one_miss (fun j hj => HM.out j hj (by rw [oneB_size] at hj; omega))]; decide)]
            have HR := Aside0.mk hr
            clear hr
            go_wp2_with fail
            go_ret
            exact ⟨by rw [HR.out]; rfl, HB.out⟩
end Go.Proofs.YtlbaejihlcfpeaaGreatDoor.G
end
