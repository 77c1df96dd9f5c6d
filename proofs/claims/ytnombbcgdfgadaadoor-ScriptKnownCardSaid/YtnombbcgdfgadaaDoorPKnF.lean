import Derived.LaidMore
import Derived.LaidHandle
import Derived.Stop.Joined
import Derived.Lib.IfaceEq
import Derived.Lib.ItoaLen
import Derived.Shelf.Abstract
import Derived.LaidEql
import Derived.Stop.Asserts
import Derived.RowKitTokens
import Derived.Lib.LaidTab
import Derived.Lib.AppendIntMem
import Derived.Stop.LaidErr
import Derived.WalkKit
import Derived.Deep.RegionLaw
import Derived.Deep.Cut
import Derived.WalkSpells
import Derived.Test.YtnombbcgdfgadaaDoorPKnC
import Derived.Test.YtnombbcgdfgadaaDoorPKnAs
import Derived.Lib.Hide
set_option linter.unusedVariables false
set_option linter.unusedSimpArgs false
section
namespace Go.Proofs.YtnombbcgdfgadaaDoor.G
open Go.Shelf Go.Extern.Stop Go.Stop Go.Extern Go.RowKit Go.Proofs.YtnombbcgdfgadaaDoorW.PrintWords Go.Proofs.YtnombbcgdfgadaaDoorW.PrintLast Go.Proofs.YtnombbcgdfgadaaDoorW.PrintMore
set_option linter.unusedVariables false
set_option linter.unusedSimpArgs false
theorem cutc_any (b : Nat) (s : ByteArray) (w0 w : World) (hs : s.size ≤ 140737488355328) (hb : w.heap[b]? = some (.cells #[.string s] 9 (0, 0))) (hB : Below w0.heap.size w0 w) (h0 : w0.heap.size ≤ b) :
    Calls Tryd.prog 17 #[.pointer (some ⟨b, 0, none⟩)] w fun e w' => e = .returned (.tuple #[.string (cutF s).1, .bool (cutF s).2.2]) ∧ w'.heap[b]? = some (.cells #[.string (cutF s).2.1] 9 (0, 0)) ∧ Below w0.heap.size w0 w' ∧ KeepBut w w' b none := by
  have HS := Aside0.mk hs
  have HBK := Aside0.mk hb
  have HB := Aside0.mk hB
  have H0 := Aside0.mk h0
  clear hs hb hB h0
  have hc : w.cell? ⟨b, 0, none⟩ = some (.string s) := (blk_cell HBK.out 0).trans rfl
  go_enter Tryd.func17, Tryd.ntmps17
  go_wp2_with fail
  refine (cut_any s _ HS.out).mono ?_
  rintro e w' ⟨rfl, hb⟩
  have HB2 := Aside0.mk hb
  have HBK2 := Aside0.mk (blk_below HBK.out hb)
  clear hb hc
  have hc : w'.cell? ⟨b, 0, none⟩ = some (.string s) := (blk_cell HBK2.out 0).trans rfl
  have hf := blk_frozen HBK2.out 0
  go_wp2_with fail
  go_ret2
  exact ⟨rfl, blk_put HBK2.out 0 _ rfl, below_set (below_step HB.out HB2.out) H0.out, (KeepBut.of_below HB2.out b none).set_ 0 _⟩
theorem f19_results (a : Array Value) (w : World) (P : Nat) (t : ByteArray) (v x : Value) (h2 : a.getD 3 undef = .pointer (some ⟨P, 0, none⟩)) (h3 : a.getD 4 undef = x) (hp : w.heap[P]? = some (.cells #[.string t, v] 24 (0, 0))) :
    (results Tryd.f19 a).run Tryd.prog w = .ok (.tuple #[.agg #[.string t, v], x]) w := by
  have cp : w.cell? ⟨P, 0, none⟩ = some (.string t) := (blk_cell hp 0).trans rfl
  have cq : w.cell? ⟨P, 1, none⟩ = some v := (blk_cell hp 1).trans rfl
  have h2' : a[3]?.getD undef = .pointer (some ⟨P, 0, none⟩) := by simpa using h2
  have h3' : a[4]?.getD undef = x := by simpa using h3
  simp [results, Tryd.results19, h2', h3', asAddr, go_sem, cp, cq]
set_option maxHeartbeats 4000000 in
set_option maxRecDepth 100000 in
theorem fault_any (c a : Int) (b : Nat) (w : World) (hL : Laid w) (hat : w.heap[b]? = some (.cells #[.int .i64 a] 3 (0, 0))) :
    Calls Tryd.prog 19 #[.iface 29 (.int .i64 c), .pointer (some ⟨b, 0, none⟩)] w fun e w' => ∃ p : Nat, e = .returned (.tuple #[.agg #[.string ⟨#[]⟩, .slice none 0 0], .iface 53 (.pointer (some ⟨p, 0, none⟩))]) ∧ w.heap.size ≤ p ∧ w'.heap[p]? = some (.cells #[.int .i64 c, .int .i64 a] 31 (0, 0)) ∧ Below w.heap.size w w' := by
  have HL := Aside0.mk hL
  have HAT := Aside0.mk hat
  clear hL hat
  go_enter Tryd.func19, Tryd.ntmps19
  go_upto_region 1 with (fail)
  obtain ⟨w1, hw1⟩ : ∃ x, x = w.alloc (.cells #[.string ⟨#[]⟩, .slice none 0 0] 24) := ⟨_, rfl⟩
  rw [← hw1]
  obtain ⟨vr, hvr⟩ : ∃ x, x = w.heap.size := ⟨_, rfl⟩
  rw [← hvr]
  have HB1 := Aside0.mk (show Below w.heap.size w w1 from by rw [hw1]; exact below_alloc (Below.refl _ _) _)
  have HV1 := Aside0.mk (show w1.heap[vr]? = some (.cells #[.string ⟨#[]⟩, .slice none 0 0] 24 (0, 0)) from by rw [hw1, hvr]; exact blk_new _ _)
  have HVR := Aside0.mk (Nat.le_of_eq hvr.symm)
  clear hw1 hvr
  go_upto_region 2 with (fail)
  obtain ⟨w2, hw2⟩ : ∃ x, x = w1.alloc (.cells #[.int .i64 0] 29) := ⟨_, rfl⟩
  rw [← hw2]
  obtain ⟨ve, hve⟩ : ∃ x, x = w1.heap.size := ⟨_, rfl⟩
  rw [← hve]
  have HB2 := Aside0.mk (show Below w.heap.size w w2 from by rw [hw2]; exact below_alloc HB1.out _)
  have HV2 := Aside0.mk (show w2.heap[vr]? = some (.cells #[.string ⟨#[]⟩, .slice none 0 0] 24 (0, 0)) from by rw [hw2]; exact blk_alloc HV1.out _)
  have HE2 := Aside0.mk (show w2.heap[ve]? = some (.cells #[.int .i64 0] 29 (0, 0)) from by rw [hw2, hve]; exact blk_new _ _)
  have HVE := Aside0.mk (show vr < ve from by rw [hve]; exact blk_lt HV1.out)
  clear hw2 hve HB1 HV1
  go_wp2_with fail
  refine (as_hit29 c ⟨ve, 0, none⟩ (.int .i64 0) w2 (Laid.cell0 (Laid.below HB2.out HL.out)) ((blk_cell HE2.out 0).trans rfl) (blk_frozen HE2.out 0)).mono ?_
  rintro e w' ⟨rfl, rfl⟩
  obtain ⟨w3, hw3⟩ : ∃ x, x = ((((w2.alloc (.cells #[.pointer (some ⟨ve, 0, none⟩)] 52)).alloc (.cells #[.pointer (some ⟨7, 52, none⟩), .pointer (some ⟨w2.heap.size, 0, none⟩), .int .u64 150] 83)).alloc (.cells #[.pointer (some ⟨7, 52, none⟩), .pointer (some ⟨w2.heap.size, 0, none⟩), .int .u64 150] 83)).alloc (.cells #[.int .i64 c] 29)) := ⟨_, rfl⟩
  rw [← hw3]
  have HB3 := Aside0.mk (show Below w2.heap.size w2 w3 from by rw [hw3]; exact below_alloc (below_alloc (below_alloc (below_alloc (Below.refl _ _) _) _) _) _)
  clear hw3
  have HB4 := Aside0.mk (show Below w.heap.size w (w3.setCell ⟨ve, 0, none⟩ (.int .i64 c)) from below_set (below_step HB2.out HB3.out) (by have := HVR.out; have := HVE.out; omega))
  have HE4 := Aside0.mk (show (w3.setCell ⟨ve, 0, none⟩ (.int .i64 c)).heap[ve]? = some (.cells #[.int .i64 c] 29 (0, 0)) from blk_put (blk_below HE2.out HB3.out) 0 _ rfl)
  have HV4 := Aside0.mk (show (w3.setCell ⟨ve, 0, none⟩ (.int .i64 c)).heap[vr]? = some (.cells #[.string ⟨#[]⟩, .slice none 0 0] 24 (0, 0)) from blk_far (blk_below HV2.out HB3.out) (by have := HVE.out; show vr ≠ ve; omega) _)
  generalize w3.setCell ⟨ve, 0, none⟩ (.int .i64 c) = w4 at HB4 HE4 HV4 ⊢
  clear HB2 HV2 HE2 HB3
  have HA4 := Aside0.mk (blk_below HAT.out HB4.out)
  have ca : w4.cell? ⟨b, 0, none⟩ = some (.int .i64 a) := (blk_cell HA4.out 0).trans rfl
  have ce : w4.cell? ⟨ve, 0, none⟩ = some (.int .i64 c) := (blk_cell HE4.out 0).trans rfl
  have cv0 : w4.cell? ⟨vr, 0, none⟩ = some (.string ⟨#[]⟩) := (blk_cell HV4.out 0).trans rfl
  have cv1 : w4.cell? ⟨vr, 1, none⟩ = some (.slice none 0 0) := (blk_cell HV4.out 1).trans rfl
  have fv0 := blk_frozen HV4.out 0
  have fv1 := blk_frozen HV4.out 1
  have hl1 : vr < w4.heap.size := blk_lt HV4.out
  have hl2 : ve < w4.heap.size := blk_lt HE4.out
  have hl3 : b < w4.heap.size := blk_lt HA4.out
  have hn1 : ve ≠ vr := Nat.ne_of_gt HVE.out
  have hn2 : vr ≠ ve := Nat.ne_of_lt HVE.out
  have hn3 : b ≠ vr := Nat.ne_of_lt (Nat.lt_of_lt_of_le (blk_lt HAT.out) HVR.out)
  have hn4 : vr ≠ b := Nat.ne_of_gt (Nat.lt_of_lt_of_le (blk_lt HAT.out) HVR.out)
  go_wp2_with fail
  go_region
  all_goals (try go_wp2)
  · refine bodyPost_ret (f19_results _ _ vr _ _ _ rfl rfl (blk_drew (blk_alloc (blk_put (blk_put (cs' := #[.string ⟨#[]⟩, .slice none 0 0]) HV4.out 0 _ rfl) 1 _ rfl) _))) rfl ?_
    exact ⟨w4.heap.size, rfl, HB4.out.size, blk_drew (by simpa using blk_new ((w4.setCell ⟨vr, 0, none⟩ (.string ⟨#[]⟩)).setCell ⟨vr, 1, none⟩ (.slice none 0 0)) (.cells #[.int .i64 c, .int .i64 a] 31 (0, 0))), below_drew (below_alloc (below_set (below_set HB4.out HVR.out) HVR.out) _)⟩
end Go.Proofs.YtnombbcgdfgadaaDoor.G
end
