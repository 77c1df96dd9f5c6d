import Derived.WalkKit
import Derived.WalkLawsBesides
import Derived.Deep.RegionLaw
import Derived.Deep.Cut
import Derived.WalkSpells
import Derived.Recover
import Derived.Laws.Bits64b
import Derived.Test.YtkkgbbfojmnopaaPKnE8
set_option linter.unusedVariables false
set_option linter.unusedSimpArgs false
section
namespace Go.Proofs.Ytkkgbbfojmnopaa.G
open Go.RowKit Go.Proofs.YtkkgbbfojmnopaaW.PrintWords Go.Proofs.YtkkgbbfojmnopaaW.PrintLast Go.Proofs.YtkkgbbfojmnopaaW.PrintMore
set_option linter.unusedVariables false
set_option linter.unusedSimpArgs false
def codP : Cod S47 := (Cod.seq (Cod.nat 20) (Cod.seq (Cod.nat 250) (Cod.seq (Cod.list 60 (by decide) codU) (Cod.seq (Cod.list 4096 (by decide) codC) (Cod.list 16384 (by decide) codI))))).iso (fun x => ⟨x.1, x.2.1, x.2.2.1, x.2.2.2.1, x.2.2.2.2⟩) (fun q => (q.f0.toNat, q.f1.toNat, q.f2, q.f3, q.f4)) (fun a _ => rfl)
structure PA (p : Nat) (w : World) (u vr : Nat) (r : List UInt8) (cs : Array Value) (w1 : World) : Prop where
  aft : Aft p w r w1
  len : r.length ≤ 10000000
  hp : p < w.heap.size
  hv : vr = w.heap.size + 1
  hu : w.heap.size + 1 < u
  rd : w1.heap[w.heap.size]? = some (.cells #[.pointer (some ⟨p, 0, none⟩)] 61 (0, 0))
  rv : w1.heap[vr]? = some (.cells #[.int .i64 0, .int .i64 0, .slice none 0 0, .slice none 0 0, .slice none 0 0] 47 (0, 0))
  pv : w1.heap[u]? = some (.cells cs 47 (0, 0))
theorem PA.keep {p : Nat} {w : World} {u vr : Nat} {r r2 : List UInt8} {cs : Array Value} {w1 w2 : World} (h : PA p w u vr r cs w1) (ha : Aft p w1 r2 w2) (hl : r2.length ≤ r.length) : PA p w u vr r2 cs w2 := by
  have h1 := h.hp
  have h2 := h.hu
  have h3 := h.hv
  exact ⟨h.aft.trans ha, Nat.le_trans hl h.len, h1, h3, h2, (ha.keep.2 _ (blk_lt h.rd) (by omega) (by simp)).trans h.rd, (ha.keep.2 _ (blk_lt h.rv) (by omega) (by simp)).trans h.rv, (ha.keep.2 _ (blk_lt h.pv) (by omega) (by simp)).trans h.pv⟩
theorem PA.put {p : Nat} {w : World} {u vr : Nat} {r : List UInt8} {cs cs' : Array Value} {w1 : World} (h : PA p w u vr r cs w1) (i : Nat) (v : Value) (e : cs.setIfInBounds i v = cs') : PA p w u vr r cs' (w1.setCell ⟨u, i, none⟩ v) := by
  have h1 := h.hp
  have h2 := h.hu
  have h3 := h.hv
  exact ⟨h.aft.far (show w.heap.size ≤ u by omega) h1 v, h.len, h1, h3, h2, blk_far h.rd (show w.heap.size ≠ u by omega) v, blk_far h.rv (show vr ≠ u by omega) v, blk_put h.pv i v e⟩
theorem PA.g {p : Nat} {w : World} {u vr : Nat} {r : List UInt8} {cs : Array Value} {w1 : World} (h : PA p w u vr r cs w1) : w1.cell? ⟨w.heap.size, 0, none⟩ = some (.pointer (some ⟨p, 0, none⟩)) := (blk_cell h.rd 0).trans rfl
theorem PA.rdr {p : Nat} {w : World} {u vr : Nat} {r : List UInt8} {cs : Array Value} {w1 : World} (h : PA p w u vr r cs w1) : Rdr p r w1 := h.aft.rdr h.len
theorem PA.N {α : Type} {d : Kd α} {e : Nat} {xs : List α} {v : Value} {p : Nat} {w : World} {u vr : Nat} {r : List UInt8} {cs : Array Value} {w1 w2 : World} (h : PA p w u vr r cs w1) (hn : Ls d e w1 w2 xs v) : Kd.N d e w2 w.heap.size (fun k => u < k) v xs := Kd.N_mono (Kd.N_lower hn h.aft.keep.1) (fun k hk => by have := blk_lt h.pv; omega)
theorem N_put {α : Type} {d : Kd α} {e b u i : Nat} {x : Value} {xs : List α} {v : Value} {w1 : World} (h : Kd.N d e w1 b (fun k => u < k) v xs) : Kd.N d e (w1.setCell ⟨u, i, none⟩ x) b (fun k => u < k) v xs := Kd.N_far h (fun k (hk : u < k) => show k ≠ u by omega) x
theorem N_aft {α : Type} {d : Kd α} {e b u p : Nat} {xs : List α} {v : Value} {w1 w2 : World} {r : List UInt8} (h : Kd.N d e w1 b (fun k => u < k) v xs) (ha : Aft p w1 r w2) (hp : p < u) : Kd.N d e w2 b (fun k => u < k) v xs := Kd.N_keep h ha.keep (fun k hk => by omega)
theorem N_putv {α : Type} {d : Kd α} {e b u i : Nat} {a : Nat} {x : Value} {xs : List α} {v : Value} {w1 : World} (h : Kd.N d e w1 b (fun k => u < k) v xs) (ha : a < u) : Kd.N d e (w1.setCell ⟨a, i, none⟩ x) b (fun k => u < k) v xs := Kd.N_far h (fun k (hk : u < k) => show k ≠ a by omega) x
set_option maxHeartbeats 16000000 in
theorem proto_any (p : Nat) (l : List UInt8) (w : World) (h : Rdr p l w) :
    Calls Try.prog 27 #[.pointer (some ⟨p, 0, none⟩)] w fun e w' => RdE p codP.dec (El k47) l w e w' := by
  have hmf : ∀ (fn : Fn) (first cap : Array Value) (w : World), (Instr.makeFunc fn first cap).run Try.prog w = .ok (.func fn first cap) w := fun _ _ _ _ => rfl
  have HR := Aside0.mk h
  have hlt : p < w.heap.size := h.lt
  clear h
  go_enter Try.func27, Try.ntmps27
  go_upto_region 1 with (fail)
  obtain ⟨w1, hw1⟩ : ∃ x, x = (w.alloc (.cells #[.pointer (some ⟨p, 0, none⟩)] 61)).alloc (.cells #[.int .i64 0, .int .i64 0, .slice none 0 0, .slice none 0 0, .slice none 0 0] 47) := ⟨_, rfl⟩
  obtain ⟨vr, hvr⟩ : ∃ x, x = w.heap.size + 1 := ⟨_, rfl⟩
  rw [← hw1, ← hvr]
  have HVR := Aside0.mk hvr
  have HA1 := Aside0.mk (show Aft p w l w1 from hw1 ▸ (HR.out.aft.alloc _).alloc _)
  have HG1 := Aside0.mk (show w1.heap[w.heap.size]? = some (.cells #[.pointer (some ⟨p, 0, none⟩)] 61 (0, 0)) from hw1 ▸ blk_alloc (blk_new _ _) _)
  have HV1 := Aside0.mk (show w1.heap[vr]? = some (.cells #[.int .i64 0, .int .i64 0, .slice none 0 0, .slice none 0 0, .slice none 0 0] 47 (0, 0)) from by
    have := blk_new (w.alloc (.cells #[.pointer (some ⟨p, 0, none⟩)] 61)) (.cells #[.int .i64 0, .int .i64 0, .slice none 0 0, .slice none 0 0, .slice none 0 0] 47)
    rw [hw1, hvr]
    simpa using this)
  clear hw1 hvr
  have hg1 : w1.cell? ⟨w.heap.size, 0, none⟩ = some (.pointer (some ⟨p, 0, none⟩)) := (blk_cell HG1.out 0).trans rfl
  go_wp2_with fail
  refine (natural_rd p l 20 w1 (HA1.out.rdr HR.out.len) (by decide)).mono ?_
  intro e w2 h2
  rcases h2.elim with ⟨n, r, v, hd, rfl, rfl, ha⟩ | ⟨hd, rfl, hb, hk⟩
  · have HD := Aside0.mk hd
    have HL2 := Aside0.mk (Nat.le_trans (Cod.len _ hd) HR.out.len)
    have HA2 := Aside0.mk (HA1.out.trans ha)
    have HG2 := Aside0.mk (show w2.heap[w.heap.size]? = _ from (ha.keep.2 _ (blk_lt HG1.out) (by omega) (by simp)).trans HG1.out)
    have HV2 := Aside0.mk (show w2.heap[vr]? = _ from (ha.keep.2 _ (blk_lt HV1.out) (by have := HVR.out; omega) (by simp)).trans HV1.out)
    clear hd ha h2 hg1 HG1 HV1 HA1
    go_upto_region 2 with (fail)
    obtain ⟨w3, hw3⟩ : ∃ x, x = w2.alloc (.cells #[.int .i64 (n : Int), .int .i64 0, .slice none 0 0, .slice none 0 0, .slice none 0 0] 47) := ⟨_, rfl⟩
    rw [← hw3]
    have hb3 : Below w2.heap.size w2 w3 := hw3 ▸ below_alloc (Below.refl _ _) _
    have HP3 := Aside0.mk (show PA p w w2.heap.size vr r #[.int .i64 (n : Int), .int .i64 0, .slice none 0 0, .slice none 0 0, .slice none 0 0] w3 from
      ⟨HA2.out.below hb3, HL2.out, hlt, HVR.out, by have := blk_lt HV2.out; have := HVR.out; omega, blk_below HG2.out hb3, blk_below HV2.out hb3, hw3 ▸ blk_new _ _⟩)
    clear hw3 hb3 HG2 HV2 HA2
    generalize w2.heap.size = u at HP3 ⊢
    have hg3 := HP3.out.g
    go_wp2_with fail
    refine (natural_rd p r 250 w3 HP3.out.rdr (by decide)).mono ?_
    intro e w4 h4
    rcases h4.elim with ⟨n2, r2, v, hd2, rfl, rfl, ha⟩ | ⟨hd2, rfl, hb, hk⟩
    · have HD2 := Aside0.mk hd2
      have HP4 := Aside0.mk (HP3.out.keep ha (Cod.len _ hd2))
      clear hd2 ha hg3 h4
      have cu1 : w4.cell? ⟨u, 1, none⟩ = some (.int .i64 0) := (blk_cell HP4.out.pv 1).trans rfl
      have fu1 : w4.frozen? ⟨u, 1, none⟩ = false := blk_frozen HP4.out.pv 1
      go_upto_region 3 with (fail)
      obtain ⟨w5, hw5⟩ : ∃ x, x = w4.setCell ⟨u, 1, none⟩ (.int .i64 (n2 : Int)) := ⟨_, rfl⟩
      rw [← hw5]
      have HP5 := Aside0.mk (show PA p w u vr r2 #[.int .i64 (n : Int), .int .i64 (n2 : Int), .slice none 0 0, .slice none 0 0, .slice none 0 0] w5 from hw5 ▸ HP4.out.put 1 _ rfl)
      clear hw5 cu1 fu1
      have hg5 := HP5.out.g
      go_wp2_with fail
      refine (list44_any p w.heap.size r2 w5 HP5.out.rdr HP5.out.rd (by omega)).mono ?_
      intro e w6 h6
      rcases h6.elim with ⟨xs2, r3, v2, hd3, rfl, hn2, ha⟩ | ⟨hd3, rfl, hb, hk⟩
      · obtain ⟨A2, c2, rfl⟩ := Kd.N_slice hn2
        have HD3 := Aside0.mk hd3
        have HP6 := Aside0.mk (HP5.out.keep ha (Cod.len _ hd3))
        have HN6 := Aside0.mk (HP5.out.N hn2)
        clear hd3 ha hg5 h6 hn2
        have cu2 : w6.cell? ⟨u, 2, none⟩ = some (.slice none 0 0) := (blk_cell HP6.out.pv 2).trans rfl
        have fu2 : w6.frozen? ⟨u, 2, none⟩ = false := blk_frozen HP6.out.pv 2
        go_upto_region 4 with (fail)
        obtain ⟨w7, hw7⟩ : ∃ x, x = w6.setCell ⟨u, 2, none⟩ (.slice A2 xs2.length c2) := ⟨_, rfl⟩
        rw [← hw7]
        have HP7 := Aside0.mk (show PA p w u vr r3 #[.int .i64 (n : Int), .int .i64 (n2 : Int), .slice A2 xs2.length c2, .slice none 0 0, .slice none 0 0] w7 from hw7 ▸ HP6.out.put 2 _ rfl)
        have HN7 := Aside0.mk (show Kd.N k50 50 w7 w.heap.size (fun k => u < k) (.slice A2 xs2.length c2) xs2 from hw7 ▸ N_put HN6.out)
        clear hw7 cu2 fu2
        have hg7 := HP7.out.g
        go_wp2_with fail
        refine (list46_any p r3 w7 HP7.out.rdr).mono ?_
        intro e w8 h8
        rcases h8.elim with ⟨xs3, r4, v3, hd4, rfl, hn3, ha⟩ | ⟨hd4, rfl, hb, hk⟩
        · obtain ⟨A3, c3, rfl⟩ := Kd.N_slice hn3
          have HD4 := Aside0.mk hd4
          have hpu : p < u := by have := HP7.out.hu; omega
          have HP8 := Aside0.mk (HP7.out.keep ha (Cod.len _ hd4))
          have HN8 := Aside0.mk (N_aft HN7.out ha hpu)
          have HM8 := Aside0.mk (HP7.out.N hn3)
          clear hd4 ha hg7 h8 hn3
          have cu3 : w8.cell? ⟨u, 3, none⟩ = some (.slice none 0 0) := (blk_cell HP8.out.pv 3).trans rfl
          have fu3 : w8.frozen? ⟨u, 3, none⟩ = false := blk_frozen HP8.out.pv 3
          go_upto_region 5 with (fail)
          obtain ⟨w9, hw9⟩ : ∃ x, x = w8.setCell ⟨u, 3, none⟩ (.slice A3 xs3.length c3) := ⟨_, rfl⟩
          rw [← hw9]
          have HP9 := Aside0.mk (show PA p w u vr r4 #[.int .i64 (n : Int), .int .i64 (n2 : Int), .slice A2 xs2.length c2, .slice A3 xs3.length c3, .slice none 0 0] w9 from hw9 ▸ HP8.out.put 3 _ rfl)
          have HN9 := Aside0.mk (show Kd.N k50 50 w9 w.heap.size (fun k => u < k) (.slice A2 xs2.length c2) xs2 from hw9 ▸ N_put HN8.out)
          have HM9 := Aside0.mk (show Kd.N k42 42 w9 w.heap.size (fun k => u < k) (.slice A3 xs3.length c3) xs3 from hw9 ▸ N_put HM8.out)
          clear hw9 cu3 fu3
          have hg9 := HP9.out.g
          go_wp2_with fail
          refine (list48_any p w.heap.size r4 w9 HP9.out.rdr HP9.out.rd (by omega)).mono ?_
          intro e wA hA
          rcases hA.elim with ⟨xs4, r5, v4, hd5, rfl, hn4, ha⟩ | ⟨hd5, rfl, hb, hk⟩
          · obtain ⟨A4, c4, rfl⟩ := Kd.N_slice hn4
            have HPA := Aside0.mk (HP9.out.keep ha (Cod.len _ hd5))
            have HNA := Aside0.mk (N_aft HN9.out ha hpu)
            have HMA := Aside0.mk (N_aft HM9.out ha hpu)
            have HOA := Aside0.mk (HP9.out.N hn4)
            have HZ := Aside0.mk (show codP.dec l = some (⟨n, n2, xs2, xs3, xs4⟩, r5) from Cod.iso_some (Cod.seq_some HD.out (Cod.seq_some HD2.out (Cod.seq_some HD3.out (Cod.seq_some HD4.out hd5)))))
            clear hd5 ha hg9 hA hn4 HD HD2 HD3 HD4
            have cu4 : wA.cell? ⟨u, 4, none⟩ = some (.slice none 0 0) := (blk_cell HPA.out.pv 4).trans rfl
            have fu4 : wA.frozen? ⟨u, 4, none⟩ = false := blk_frozen HPA.out.pv 4
            go_upto_region 6 with (fail)
            obtain ⟨wB, hwB⟩ : ∃ x, x = wA.setCell ⟨u, 4, none⟩ (.slice A4 xs4.length c4) := ⟨_, rfl⟩
            rw [← hwB]
            have HPB := Aside0.mk (show PA p w u vr r5 #[.int .i64 (n : Int), .int .i64 (n2 : Int), .slice A2 xs2.length c2, .slice A3 xs3.length c3, .slice A4 xs4.length c4] wB from hwB ▸ HPA.out.put 4 _ rfl)
            have HNB := Aside0.mk (show Kd.N k50 50 wB w.heap.size (fun k => u < k) (.slice A2 xs2.length c2) xs2 from hwB ▸ N_put HNA.out)
            have HMB := Aside0.mk (show Kd.N k42 42 wB w.heap.size (fun k => u < k) (.slice A3 xs3.length c3) xs3 from hwB ▸ N_put HMA.out)
            have HOB := Aside0.mk (show Kd.N k52 52 wB w.heap.size (fun k => u < k) (.slice A4 xs4.length c4) xs4 from hwB ▸ N_put HOA.out)
            clear hwB cu4 fu4 HPA HNA HMA HOA HN9 HM9 HP9 HN8 HM8 HP8 HN7 HP7 HN6 HP6 HP5 HP4 HP3
            have hu := HPB.out.hu
            have hvu : vr < u := by have := HVR.out; omega
            have c0 : wB.cell? ⟨u, 0, none⟩ = some (.int .i64 n) := (blk_cell HPB.out.pv 0).trans rfl
            have c1 : wB.cell? ⟨u, 1, none⟩ = some (.int .i64 n2) := (blk_cell HPB.out.pv 1).trans rfl
            have cc2 : wB.cell? ⟨u, 2, none⟩ = some (.slice A2 xs2.length c2) := (blk_cell HPB.out.pv 2).trans rfl
            have cc3 : wB.cell? ⟨u, 3, none⟩ = some (.slice A3 xs3.length c3) := (blk_cell HPB.out.pv 3).trans rfl
            have cc4 : wB.cell? ⟨u, 4, none⟩ = some (.slice A4 xs4.length c4) := (blk_cell HPB.out.pv 4).trans rfl
            have cv0 : wB.cell? ⟨vr, 0, none⟩ = some (.int .i64 0) := (blk_cell HPB.out.rv 0).trans rfl
            have cv1 : wB.cell? ⟨vr, 1, none⟩ = some (.int .i64 0) := (blk_cell HPB.out.rv 1).trans rfl
            have cv2 : wB.cell? ⟨vr, 2, none⟩ = some (.slice none 0 0) := (blk_cell HPB.out.rv 2).trans rfl
            have cv3 : wB.cell? ⟨vr, 3, none⟩ = some (.slice none 0 0) := (blk_cell HPB.out.rv 3).trans rfl
            have cv4 : wB.cell? ⟨vr, 4, none⟩ = some (.slice none 0 0) := (blk_cell HPB.out.rv 4).trans rfl
            have fv0 : wB.frozen? ⟨vr, 0, none⟩ = false := blk_frozen HPB.out.rv 0
            have fv1 : wB.frozen? ⟨vr, 1, none⟩ = false := blk_frozen HPB.out.rv 1
            have fv2 : wB.frozen? ⟨vr, 2, none⟩ = false := blk_frozen HPB.out.rv 2
            have fv3 : wB.frozen? ⟨vr, 3, none⟩ = false := blk_frozen HPB.out.rv 3
            have fv4 : wB.frozen? ⟨vr, 4, none⟩ = false := blk_frozen HPB.out.rv 4
            clear hu
            go_wp2_with fail
            clear c0 c1 cc2 cc3 cc4 cv0 cv1 cv2 cv3 cv4 fv0 fv1 fv2 fv3 fv4
            have hn2 := Kd.N_reads' (N_putv (i := 4) (x := .slice A4 xs4.length c4) (N_putv (i := 3) (x := .slice A3 xs3.length c3) (N_putv (i := 2) (x := .slice A2 xs2.length c2) (N_putv (i := 1) (x := .int .i64 n2) (N_putv (i := 0) (x := .int .i64 n) HNB.out hvu) hvu) hvu) hvu) hvu)
            have hf2 := Kd.N_F (N_putv (i := 4) (x := .slice A4 xs4.length c4) (N_putv (i := 3) (x := .slice A3 xs3.length c3) (N_putv (i := 2) (x := .slice A2 xs2.length c2) (N_putv (i := 1) (x := .int .i64 n2) (N_putv (i := 0) (x := .int .i64 n) HNB.out hvu) hvu) hvu) hvu) hvu)
            have hn3 := Kd.N_reads' HMB.out
            have hf3 := Kd.N_F (N_putv (i := 4) (x := .slice A4 xs4.length c4) (N_putv (i := 3) (x := .slice A3 xs3.length c3) (N_putv (i := 2) (x := .slice A2 xs2.length c2) (N_putv (i := 1) (x := .int .i64 n2) (N_putv (i := 0) (x := .int .i64 n) HMB.out hvu) hvu) hvu) hvu) hvu)
            have hn4 := Kd.N_reads' HOB.out
            have hf4 := Kd.N_F (N_putv (i := 4) (x := .slice A4 xs4.length c4) (N_putv (i := 3) (x := .slice A3 xs3.length c3) (N_putv (i := 2) (x := .slice A2 xs2.length c2) (N_putv (i := 1) (x := .int .i64 n2) (N_putv (i := 0) (x := .int .i64 n) HOB.out hvu) hvu) hvu) hvu) hvu)
            have hw : w.heap.size ≤ vr := by have := HVR.out; omega
            have hwu : ∀ k, u < k → w.heap.size ≤ k := fun k hk => by have := HPB.out.hu; omega
            refine bodyPost_ret (results_cell_row rfl _ _ vr 47 #[.int .i64 (n : Int), .int .i64 (n2 : Int), .slice A2 xs2.length c2, .slice A3 xs3.length c3, .slice A4 xs4.length c4] (0, 0) _ rfl (blk_put (blk_put (blk_put (blk_put (blk_put HPB.out.rv 0 _ rfl) 1 _ rfl) 2 _ rfl) 3 _ rfl) 4 _ rfl) Try.underlying47 rfl (by kernel_rfl)) rfl ?_
            refine RdE.yes HZ.out ⟨_, rfl, ?_⟩ (Aft.far (Aft.far (Aft.far (Aft.far (Aft.far HPB.out.aft hw hlt _) hw hlt _) hw hlt _) hw hlt _) hw hlt _)
            exact Kd.FK_mono (k47_mkF _ _ (⟨n, n2, xs2, xs3, xs4⟩ : S47) hn2.2.1 hf2 hn3.2.1 hf3 hn4.2.1 hf4) hwu
          · exact ⟨rfl, RdE.no (Cod.iso_none (Cod.seq_none2 HD.out (Cod.seq_none2 HD2.out (Cod.seq_none2 HD3.out (Cod.seq_none2 HD4.out hd5))))) (HP9.out.aft.bel.trans hb) (HP9.out.aft.keep.trans hk (.inl rfl))⟩
        · exact ⟨rfl, RdE.no (Cod.iso_none (Cod.seq_none2 HD.out (Cod.seq_none2 HD2.out (Cod.seq_none2 HD3.out (Cod.seq_none1 hd4))))) (HP7.out.aft.bel.trans hb) (HP7.out.aft.keep.trans hk (.inl rfl))⟩
      · exact ⟨rfl, RdE.no (Cod.iso_none (Cod.seq_none2 HD.out (Cod.seq_none2 HD2.out (Cod.seq_none1 hd3)))) (HP5.out.aft.bel.trans hb) (HP5.out.aft.keep.trans hk (.inl rfl))⟩
    · exact ⟨rfl, RdE.no (Cod.iso_none (Cod.seq_none2 HD.out (Cod.seq_none1 hd2))) (HP3.out.aft.bel.trans hb) (HP3.out.aft.keep.trans hk (.inl rfl))⟩
  · exact ⟨rfl, RdE.no (Cod.iso_none (Cod.seq_none1 hd)) (HA1.out.bel.trans hb) (HA1.out.keep.trans hk (.inl rfl))⟩
end Go.Proofs.Ytkkgbbfojmnopaa.G
end
