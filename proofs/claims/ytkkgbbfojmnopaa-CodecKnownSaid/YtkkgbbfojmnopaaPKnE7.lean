import Derived.WalkKit
import Derived.WalkLawsBesides
import Derived.Deep.RegionLaw
import Derived.Deep.Cut
import Derived.WalkSpells
import Derived.Recover
import Derived.Laws.Bits64b
import Derived.Test.YtkkgbbfojmnopaaPKnE6
set_option linter.unusedVariables false
set_option linter.unusedSimpArgs false
section
namespace Go.Proofs.Ytkkgbbfojmnopaa.G
open Go.RowKit Go.Proofs.YtkkgbbfojmnopaaW.PrintWords Go.Proofs.YtkkgbbfojmnopaaW.PrintLast Go.Proofs.YtkkgbbfojmnopaaW.PrintMore
set_option linter.unusedVariables false
set_option linter.unusedSimpArgs false
def codC : Cod S42 := (Cod.alt Cod.int (Cod.text 4096 (by decide))).iso (fun x => match x with | .inl n => ⟨3, n, ⟨#[]⟩⟩ | .inr t => ⟨5, 0, ⟨t.toArray⟩⟩) (fun c => if c.f0 = 3 then .inl c.f1 else .inr c.f2.data.toList) (fun a h => by
  cases a with
  | inl n => rfl
  | inr t => show (if (5 : Int) = 3 then _ else _) = _; rw [if_neg (by decide)])
namespace Cod
theorem alt_none {α β : Type} {c : Cod α} {d : Cod β} {l : List UInt8} (h : (nat 1).dec l = none) : (c.alt d).dec l = none := by
  show (match (nat 1).dec l with | some (n, r) => if n = 0 then (match c.dec r with | some (x, s) => some (Sum.inl x, s) | none => none) else (match d.dec r with | some (x, s) => some (Sum.inr x, s) | none => none) | none => none) = none
  rw [h]
theorem alt_l {α β : Type} {c : Cod α} {d : Cod β} {l r : List UInt8} (h : (nat 1).dec l = some (0, r)) : (c.alt d).dec l = match c.dec r with | some (x, s) => some (Sum.inl x, s) | none => none := by
  show (match (nat 1).dec l with | some (n, r) => if n = 0 then (match c.dec r with | some (x, s) => some (Sum.inl x, s) | none => none) else (match d.dec r with | some (x, s) => some (Sum.inr x, s) | none => none) | none => none) = _
  rw [h]; rfl
theorem alt_r {α β : Type} {c : Cod α} {d : Cod β} {l r : List UInt8} {n : Nat} (h : (nat 1).dec l = some (n, r)) (hn : n ≠ 0) : (c.alt d).dec l = match d.dec r with | some (x, s) => some (Sum.inr x, s) | none => none := by
  show (match (nat 1).dec l with | some (n, r) => if n = 0 then (match c.dec r with | some (x, s) => some (Sum.inl x, s) | none => none) else (match d.dec r with | some (x, s) => some (Sum.inr x, s) | none => none) | none => none) = _
  rw [h]
  simp only [if_neg hn]
theorem int_none {l : List UInt8} (h : number l = none) : int.dec l = none := iso_none h
theorem int_some {l r : List UInt8} {n : Nat} (h : number l = some (n, r)) : int.dec l = some (zag n, r) := iso_some h
theorem text_none {m : Nat} {hm : m < 2 ^ 64} {l : List UInt8} (h : (nat m).dec l = none) : (text m hm).dec l = none := by
  show (match (nat m).dec l with | some (n, r) => if n ≤ r.length then some (r.take n, r.drop n) else none | none => none) = none
  rw [h]
theorem text_some {m : Nat} {hm : m < 2 ^ 64} {l r : List UInt8} {n : Nat} (h : (nat m).dec l = some (n, r)) : (text m hm).dec l = if n ≤ r.length then some (r.take n, r.drop n) else none := by
  show (match (nat m).dec l with | some (n, r) => if n ≤ r.length then some (r.take n, r.drop n) else none | none => none) = _
  rw [h]
end Cod
theorem wrap_i64 (n : Int) : IntKind.i64.wrap n = (n + 9223372036854775808) % 18446744073709551616 - 9223372036854775808 := by simp [IntKind.wrap, IntKind.bits, IntKind.signed]; omega
theorem xor_zero (k : Nat) (h : k < 9223372036854775808) : bits .xor .i64 (k : Int) 0 = (k : Int) := by
  have h1 : (BitVec.ofInt 64 (k : Int)).toNat = k := by
    rw [BitVec.ofInt_natCast, BitVec.toNat_ofNat]; exact Nat.mod_eq_of_lt (by omega)
  show IntKind.i64.wrap ((BitVec.ofInt 64 (k : Int) ^^^ BitVec.ofInt 64 0).toNat : Int) = _
  rw [BitVec.toNat_xor, h1, show (BitVec.ofInt 64 0).toNat = 0 from rfl, Nat.xor_zero, wrap_i64]
  omega
theorem xor_ones (k : Nat) (h : k < 9223372036854775808) : bits .xor .i64 (k : Int) (-1) = -(k : Int) - 1 := by
  have h1 : (BitVec.ofInt 64 (k : Int)).toNat = k := by
    rw [BitVec.ofInt_natCast, BitVec.toNat_ofNat]; exact Nat.mod_eq_of_lt (by omega)
  show IntKind.i64.wrap ((BitVec.ofInt 64 (k : Int) ^^^ BitVec.ofInt 64 (-1)).toNat : Int) = _
  rw [show BitVec.ofInt 64 (-1) = BitVec.allOnes 64 from by decide, BitVec.xor_allOnes, BitVec.toNat_not, h1, wrap_i64]
  omega
theorem zag_bits (m : Nat) (h : m < 2 ^ 64) : bits .xor .i64 (wrap64 ((m : Int) / 2)) (wrap64 (-wrap64 (bits .and .u64 (m : Int) 1))) = Cod.zag m := by
  have h18 : m < 18446744073709551616 := h
  have ha : bits .and .u64 (m : Int) 1 = ((m % 2 : Nat) : Int) := by
    have := bits_and_u64_nat m 1 h18 (by decide)
    rw [Nat.and_one_is_mod] at this
    exact this
  rw [ha]
  have e1 : wrap64 ((m : Int) / 2) = ((m / 2 : Nat) : Int) := by unfold wrap64; omega
  rw [e1]
  unfold Cod.zag
  by_cases hm : m % 2 = 0
  · rw [hm, if_pos rfl, show wrap64 (-wrap64 ((0 : Nat) : Int)) = 0 from by unfold wrap64; omega, xor_zero _ (by omega)]
  · rw [show m % 2 = 1 by omega, if_neg (by decide), show wrap64 (-wrap64 ((1 : Nat) : Int)) = -1 from by unfold wrap64; omega, xor_ones _ (by omega)]
theorem extract_take {s : ByteArray} {l : List UInt8} (hs : s.data.toList = l) (k : Nat) : s.extract 0 k = ⟨(l.take k).toArray⟩ := by
  subst hs
  ext1
  simp
  apply Array.toList_inj.mp
  simp [List.extract]
set_option maxHeartbeats 1000000 in
theorem constant_any (p : Nat) (l : List UInt8) (w : World) (h : Rdr p l w) :
    Calls Try.prog 47 #[.pointer (some ⟨p, 0, none⟩)] w fun e w' => RdE p codC.dec (El k42) l w e w' := by
  have HR := Aside0.mk h
  have hlt : p < w.heap.size := h.lt
  clear h
  go_enter Try.func47, Try.ntmps47
  go_upto_region 1 with (fail)
  obtain ⟨w1, hw1⟩ : ∃ x, x = w.alloc (.cells #[.int .i64 0, .int .i64 0, .string ⟨#[]⟩] 42) := ⟨_, rfl⟩
  rw [← hw1]
  have HA1 := Aside0.mk (show Aft p w l w1 from hw1 ▸ HR.out.aft.alloc _)
  have HV1 := Aside0.mk (show w1.heap[w.heap.size]? = some (.cells #[.int .i64 0, .int .i64 0, .string ⟨#[]⟩] 42 (0, 0)) from hw1 ▸ blk_new _ _)
  clear hw1
  go_wp2_with fail
  refine (natural_rd p l 1 w1 (HA1.out.rdr HR.out.len) (by decide)).mono ?_
  intro e w2 h2
  rcases h2.elim with ⟨n, r, v, hd, rfl, rfl, ha⟩ | ⟨hd, rfl, hb, hk⟩
  · have HD := Aside0.mk hd
    have HA2 := Aside0.mk (HA1.out.trans ha)
    have HV2 := Aside0.mk (show w2.heap[w.heap.size]? = _ from (ha.keep.2 _ (blk_lt HV1.out) (by omega) (by simp)).trans HV1.out)
    have HL2 := Aside0.mk (show r.length ≤ 10000000 from Nat.le_trans (Cod.len _ hd) HR.out.len)
    clear hd ha h2
    by_cases hn0 : (n : Int) = 0
    · rw [hn0]
      have hD0 : (Cod.nat 1).dec l = some (0, r) := by rw [HD.out, show n = 0 by omega]
      have HD0 := Aside0.mk hD0
      clear hn0 hD0 HD
      obtain ⟨s2, hs2, hp2⟩ := HA2.out.blk
      have HS2 := Aside0.mk hs2
      have HP2 := Aside0.mk hp2
      clear hs2 hp2
      go_wp2_with fail
      refine (number_any p s2 r w2 HP2.out HS2.out HL2.out).mono ?_
      intro e w3 h3
      unfold NumR at h3
      cases hnum : number r with
      | none =>
        rw [hnum] at h3
        obtain ⟨rfl, rfl⟩ := h3
        have hz : codC.dec l = none := Cod.iso_none (by rw [Cod.alt_l HD0.out, Cod.int_none hnum])
        exact ⟨rfl, RdE.no hz HA2.out.bel HA2.out.keep⟩
      | some y =>
        obtain ⟨m, r3⟩ := y
        rw [hnum] at h3
        obtain ⟨s3, hs3, rfl, hw3⟩ := h3
        have hz : codC.dec l = some (⟨3, Cod.zag m, ⟨#[]⟩⟩, r3) := Cod.iso_some (x := Sum.inl (Cod.zag m)) (by rw [Cod.alt_l HD0.out, Cod.int_some hnum])
        have HZ := Aside0.mk hz
        have HM := Aside0.mk (show m < 2 ^ 64 from (Cod.num.un r m r3 hnum).1)
        have HA3 := Aside0.mk (HA2.out.trans (show Aft p w2 r3 w3 from hw3 ▸ ⟨(Below.refl p w2).setCell (p := ⟨p, 0, none⟩) (Nat.le_refl _) _, (KeepBut.refl w2 p none).set_ 0 _, s3, hs3, blk_set HP2.out 0 _⟩))
        have HV3 := Aside0.mk (show w3.heap[w.heap.size]? = _ from hw3 ▸ blk_far HV2.out (by show w.heap.size ≠ p; omega) _)
        clear hz hnum hw3 hs3
        have cv0 : w3.cell? ⟨w.heap.size, 0, none⟩ = some (.int .i64 0) := (blk_cell HV3.out 0).trans rfl
        have cv1 : w3.cell? ⟨w.heap.size, 1, none⟩ = some (.int .i64 0) := (blk_cell HV3.out 1).trans rfl
        have cv2 : w3.cell? ⟨w.heap.size, 2, none⟩ = some (.string ⟨#[]⟩) := (blk_cell HV3.out 2).trans rfl
        have fv0 : w3.frozen? ⟨w.heap.size, 0, none⟩ = false := blk_frozen HV3.out 0
        have fv1 : w3.frozen? ⟨w.heap.size, 1, none⟩ = false := blk_frozen HV3.out 1
        have fv2 : w3.frozen? ⟨w.heap.size, 2, none⟩ = false := blk_frozen HV3.out 2
        go_wp2_with fail
        rw [zag_bits m HM.out]
        refine bodyPost_ret (results_cell_row rfl _ _ w.heap.size 42 #[.int .i64 3, .int .i64 (Cod.zag m), .string ⟨#[]⟩] (0, 0) _ rfl (blk_put (blk_put (blk_put HV3.out 0 _ rfl) 1 _ rfl) 2 _ rfl) Try.underlying42 rfl (by kernel_rfl)) rfl ?_
        refine RdE.yes HZ.out ⟨_, rfl, ?_⟩ (Aft.far (Aft.far (Aft.far HA3.out (Nat.le_refl _) hlt _) (Nat.le_refl _) hlt _) (Nat.le_refl _) hlt _)
        exact k42_mkF _ _ (⟨3, Cod.zag m, ⟨#[]⟩⟩ : S42)
    · have hnb : ((n : Int) == 0) = false := beq_eq_false_iff_ne.mpr hn0
      go_wp2_with fail
      refine (natural_rd p r 4096 w2 (HA2.out.rdr HL2.out) (by decide)).mono ?_
      intro e w3 h3
      rcases h3.elim with ⟨m, r3, v, hd3, rfl, rfl, ha⟩ | ⟨hd3, rfl, hb, hk⟩
      · have HD3 := Aside0.mk hd3
        have HA3 := Aside0.mk (HA2.out.trans ha)
        have HV3 := Aside0.mk (show w3.heap[w.heap.size]? = _ from (ha.keep.2 _ (blk_lt HV2.out) (by omega) (by simp)).trans HV2.out)
        have hl3 : r3.length ≤ 10000000 := Nat.le_trans (Cod.len _ hd3) HL2.out
        have hm : m ≤ 4096 := Cod.nat_le hd3
        have HZ := Aside0.mk (show codC.dec l = if m ≤ r3.length then some (⟨5, 0, ⟨(r3.take m).toArray⟩⟩, r3.drop m) else none by
          by_cases hle : m ≤ r3.length
          · rw [if_pos hle]
            exact Cod.iso_some (x := Sum.inr (r3.take m)) (by rw [Cod.alt_r HD.out (by omega), Cod.text_some hd3, if_pos hle])
          · rw [if_neg hle]
            exact Cod.iso_none (by rw [Cod.alt_r HD.out (by omega), Cod.text_some hd3, if_neg hle]))
        obtain ⟨s3, hs3, hp3⟩ := HA3.out.blk
        have hsz : s3.size = r3.length := by rw [← hs3, Array.length_toList]; rfl
        have HS3 := Aside0.mk hs3
        have HP3 := Aside0.mk hp3
        clear hs3 hp3 hd3 ha h3
        have cp : w3.cell? ⟨p, 0, none⟩ = some (.string s3) := (blk_cell HP3.out 0).trans rfl
        go_wp2_with fail
        refine (need_any _ _).mono ?_
        rintro e w4 ⟨rfl, he⟩
        by_cases hle : m ≤ r3.length
        · rw [decide_eq_true hle, if_pos rfl] at he
          subst he
          go_upto_region 7 with (fail)
          obtain ⟨w5, hw5⟩ : ∃ x, x = w4.alloc (.cells #[.int .i64 5, .int .i64 0, .string (s3.extract 0 m)] 42) := ⟨_, rfl⟩
          rw [← hw5]
          have HU5 := Aside0.mk (show w5.heap[w4.heap.size]? = some (.cells #[.int .i64 5, .int .i64 0, .string (s3.extract 0 m)] 42 (0, 0)) from hw5 ▸ blk_new _ _)
          have hb5 : Below w4.heap.size w4 w5 := hw5 ▸ below_alloc (Below.refl _ _) _
          clear hw5 cp
          have HA5 := Aside0.mk (HA3.out.below hb5)
          have HV5 := Aside0.mk (blk_below HV3.out hb5)
          have HP5 := Aside0.mk (blk_below HP3.out hb5)
          have hvu : w.heap.size < w4.heap.size := blk_lt HV3.out
          generalize w4.heap.size = u at HU5 hvu ⊢
          clear hb5
          have cp : w5.cell? ⟨p, 0, none⟩ = some (.string s3) := (blk_cell HP5.out 0).trans rfl
          have fp : w5.frozen? ⟨p, 0, none⟩ = false := blk_frozen HP5.out 0
          have hle' : (m : Int) ≤ (s3.size : Int) := by omega
          go_upto_region 8 with (fail)
          obtain ⟨w6, hw6⟩ : ∃ x, x = w5.setCell ⟨p, 0, none⟩ (.string (s3.extract m r3.length)) := ⟨_, rfl⟩
          rw [← hw6]
          have HA6 := Aside0.mk (HA5.out.trans (show Aft p w5 (r3.drop m) w6 from hw6 ▸ ⟨(Below.refl p w5).setCell (p := ⟨p, 0, none⟩) (Nat.le_refl _) _, (KeepBut.refl w5 p none).set_ 0 _, _, extract_drop HS3.out m, blk_set HP5.out 0 _⟩))
          have HU6 := Aside0.mk (show w6.heap[u]? = _ from hw6 ▸ blk_far HU5.out (by show u ≠ p; omega) _)
          have HV6 := Aside0.mk (show w6.heap[w.heap.size]? = _ from hw6 ▸ blk_far HV5.out (by show w.heap.size ≠ p; omega) _)
          clear hw6 cp fp
          have c0 : w6.cell? ⟨u, 0, none⟩ = some (.int .i64 5) := (blk_cell HU6.out 0).trans rfl
          have c1 : w6.cell? ⟨u, 1, none⟩ = some (.int .i64 0) := (blk_cell HU6.out 1).trans rfl
          have c2 : w6.cell? ⟨u, 2, none⟩ = some (.string (s3.extract 0 m)) := (blk_cell HU6.out 2).trans rfl
          have cv0 : w6.cell? ⟨w.heap.size, 0, none⟩ = some (.int .i64 0) := (blk_cell HV6.out 0).trans rfl
          have cv1 : w6.cell? ⟨w.heap.size, 1, none⟩ = some (.int .i64 0) := (blk_cell HV6.out 1).trans rfl
          have cv2 : w6.cell? ⟨w.heap.size, 2, none⟩ = some (.string ⟨#[]⟩) := (blk_cell HV6.out 2).trans rfl
          have fv0 : w6.frozen? ⟨w.heap.size, 0, none⟩ = false := blk_frozen HV6.out 0
          have fv1 : w6.frozen? ⟨w.heap.size, 1, none⟩ = false := blk_frozen HV6.out 1
          have fv2 : w6.frozen? ⟨w.heap.size, 2, none⟩ = false := blk_frozen HV6.out 2
          go_wp2_with fail
          have hex : s3.extract 0 m = ⟨(r3.take m).toArray⟩ := extract_take HS3.out m
          rw [hex]
          refine bodyPost_ret (results_cell_row rfl _ _ w.heap.size 42 #[.int .i64 5, .int .i64 0, .string ⟨(r3.take m).toArray⟩] (0, 0) _ rfl (blk_put (blk_put (blk_put HV6.out 0 _ rfl) 1 _ rfl) 2 _ rfl) Try.underlying42 rfl (by kernel_rfl)) rfl ?_
          refine RdE.yes (by rw [HZ.out, if_pos hle]) ⟨_, rfl, ?_⟩ (Aft.far (Aft.far (Aft.far HA6.out (Nat.le_refl _) hlt _) (Nat.le_refl _) hlt _) (Nat.le_refl _) hlt _)
          exact k42_mkF _ _ (⟨5, 0, ⟨(r3.take m).toArray⟩⟩ : S42)
        · rw [decide_eq_false hle, if_neg (by decide)] at he
          subst he
          exact ⟨rfl, RdE.no (by rw [HZ.out, if_neg (by omega)]) HA3.out.bel HA3.out.keep⟩
      · exact ⟨rfl, RdE.no (Cod.iso_none (by rw [Cod.alt_r HD.out (by omega), Cod.text_none hd3])) (HA2.out.bel.trans hb) (HA2.out.keep.trans hk (.inl rfl))⟩
  · exact ⟨rfl, RdE.no (Cod.iso_none (Cod.alt_none hd)) (HA1.out.bel.trans hb) (HA1.out.keep.trans hk (.inl rfl))⟩
end Go.Proofs.Ytkkgbbfojmnopaa.G
end
