import Derived.WalkKit
import Derived.WalkLawsBesides
import Derived.Deep.RegionLaw
import Derived.Deep.Cut
import Derived.WalkSpells
import Derived.Recover
import Derived.Laws.Bits64b
import Derived.Test.YtkkgbbfojmnopaaPReE11
import Derived.Test.YtkkgbbfojmnopaaPReF29d
import Derived.Test.YtkkgbbfojmnopaaPReGxF21
import Derived.Test.YtkkgbbfojmnopaaPReE15b
set_option linter.unusedVariables false
set_option linter.unusedSimpArgs false
section
namespace Go.Proofs.Ytkkgbbfojmnopaa.G
open Go.RowKit Go.Proofs.YtkkgbbfojmnopaaW.PrintWords Go.Proofs.YtkkgbbfojmnopaaW.PrintLast Go.Proofs.YtkkgbbfojmnopaaW.PrintMore
def fQ10.l0 : Nat → Int → Int → ByteArray → Bool → List S47 → Option (List S47 × ByteArray × Bool)
 | 0, _, _, _, _, _ => none
 | k + 1, n, i, s, b, xs => if i < n then (if b = true then some (xs, s, b) else (fQ0.f k s b).bind fun q => if xs.length < 1000000 then fQ10.l0 k n (wrap64 (i + 1)) q.2.2.2.2.2.1 q.2.2.2.2.2.2 (xs ++ [⟨q.1, q.2.1, q.2.2.1, q.2.2.2.1, q.2.2.2.2.1⟩]) else none) else some (xs, s, b)
def fQ10.f (k : Nat) (s0 : ByteArray) : Option (List S47 × Int) :=
 if s0.size ≤ 262144 then (fQ3.f k s0 false 256).bind fun t => (fQ10.l0 k t.1 0 t.2.1 t.2.2 []).bind fun q =>
  if q.2.2 = true then some ([], 4) else if q.2.1.toList = [] then (fQ8.f k q.1).bind fun c => some (if c = 0 then (q.1, 0) else ([], 4)) else some ([], 4)
 else some ([], 4)
theorem dec14_results (a : Array Value) (w : World) (P : Nat) (v : Value) (x : Int) (h2 : a.getD 2 undef = .pointer (some ⟨P, 0, none⟩)) (h3 : a.getD 3 undef = .int .i64 x) (hp : w.heap[P]? = some (.cells #[v] 24 (0, 0))) :
  (results Try.f14 a).run Try.prog w = .ok (.tuple #[.agg #[v], .int .i64 x]) w := by
 have cp : w.cell? ⟨P, 0, none⟩ = some v := (q3q hp 0).trans rfl
 have h2' : a[2]?.getD undef = .pointer (some ⟨P, 0, none⟩) := by simpa using h2
 have h3' : a[3]?.getD undef = .int .i64 x := by simpa using h3
 simp [results, Try.results14, h2', h3', asAddr, go_sem, cp]
structure DS (w : World) (vp g vq : Nat) (s : ByteArray) (b : Bool) (v : Value) (xs : List S47) (wr : World) : Prop where
 bel : Below w.heap.size w wr
 pv : wr.heap[vp]? = some (.cells #[.slice none 0 0] 24 (0, 0))
 is : IsS68 w wr g s b
 pq : wr.heap[vq]? = some (.cells #[v] 24 (0, 0))
 nn : Kd.N k47 47 wr w.heap.size (fun k => vq < k) v xs
 h1 : w.heap.size ≤ vp
 h2 : vp < g
 h3 : g < vq
theorem DS.hq {w : World} {vp g vq : Nat} {s : ByteArray} {b : Bool} {v : Value} {xs : List S47} {wr : World} (h : DS w vp g vq s b v xs wr) : w.heap.size ≤ vq := by have := h.h1; have := h.h2; have := h.h3; omega
theorem DS.below {w : World} {vp g vq : Nat} {s : ByteArray} {b : Bool} {v : Value} {xs : List S47} {wr w1 : World} (h : DS w vp g vq s b v xs wr) (hb : Below wr.heap.size wr w1) : DS w vp g vq s b v xs w1 :=
 ⟨q10q h.bel hb, q13q h.pv hb, h.is.below hb, q13q h.pq hb, Kd.q31q h.nn hb, h.h1, h.h2, h.h3⟩
theorem DS.drew {w : World} {vp g vq : Nat} {s : ByteArray} {b : Bool} {v : Value} {xs : List S47} {wr : World} (h : DS w vp g vq s b v xs wr) : DS w vp g vq s b v xs wr.drew := h.below (below_drew (Below.refl _ _))
theorem DS.call {w : World} {vp g vq : Nat} {s s' : ByteArray} {b b' : Bool} {v : Value} {xs : List S47} {wr w1 : World} (h : DS w vp g vq s b v xs wr) (hi : IsS68 w w1 g s' b') (hb : Below w.heap.size w w1) (hk : KeepBut wr w1 g none) : DS w vp g vq s' b' v xs w1 :=
 ⟨hb, (hk.2 _ (q16q h.pv) (Nat.ne_of_lt h.h2) (by simp)).trans h.pv, hi, (hk.2 _ (q16q h.pq) (Nat.ne_of_gt h.h3) (by simp)).trans h.pq, Kd.N_keep h.nn hk (fun k hk => by have := h.h3; omega), h.h1, h.h2, h.h3⟩
theorem DS.vq_ne {w : World} {vp g vq : Nat} {s : ByteArray} {b : Bool} {v : Value} {xs : List S47} {wr : World} (h : DS w vp g vq s b v xs wr) {m : Nat} (hm : m ≤ vq) : some m ≠ v.ownBlock := fun e => by have := h.nn.1 m e.symm; omega
structure DP (w : World) (vp g vq : Nat) (s : ByteArray) (b : Bool) (v v1 : Value) (xs : List S47) (wr : World) : Prop where
 bel : Below w.heap.size w wr
 pv : wr.heap[vp]? = some (.cells #[.slice none 0 0] 24 (0, 0))
 is : IsS68 w wr g s b
 pq : wr.heap[vq]? = some (.cells #[v] 24 (0, 0))
 nn : Kd.N k47 47 wr w.heap.size (fun k => vq < k) v1 xs
 h1 : w.heap.size ≤ vp
 h2 : vp < g
 h3 : g < vq
theorem DS.push {w : World} {vp g vq : Nat} {s : ByteArray} {b : Bool} {v v1 : Value} {xs ys : List S47} {wr w1 : World} (h : DS w vp g vq s b v xs wr) (hn : Kd.N k47 47 w1 w.heap.size (fun k => vq < k) v1 ys) (hb : Below w.heap.size wr w1) (hg : wr.grownBy w1 v.ownBlock) : DP w vp g vq s b v v1 ys w1 :=
 ⟨h.bel.trans hb, blk_grown h.pv hg (h.vq_ne (by have := h.h2; have := h.h3; omega)), h.is.grown hg (h.vq_ne (by have := h.h3; omega)), blk_grown h.pq hg (h.vq_ne (Nat.le_refl _)), hn, h.h1, h.h2, h.h3⟩
theorem DP.put {w : World} {vp g vq : Nat} {s : ByteArray} {b : Bool} {v v1 : Value} {xs : List S47} {wr : World} (h : DP w vp g vq s b v v1 xs wr) : DS w vp g vq s b v1 xs (wr.setCell ⟨vq, 0, none⟩ v1) :=
 ⟨q5q h.bel (by have := h.h1; have := h.h2; have := h.h3; omega), q18q h.pv (by have := h.h2; have := h.h3; show vp ≠ vq; omega) _, h.is.far (by have := h.h3; show g ≠ vq; omega) _, q14q h.pq 0 _ rfl, Kd.N_far h.nn (fun k hk => by show k ≠ vq; omega) _, h.h1, h.h2, h.h3⟩
theorem FK47_of {w1 : World} {B : Nat} {q : S47} {v2 v3 v4 : Value} (h2 : Kd.R k50 50 w1 B (fun _ => True) v2 q.f2) (h3 : Kd.R k42 42 w1 B (fun _ => True) v3 q.f3) (h4 : Kd.R k52 52 w1 B (fun _ => True) v4 q.f4) : ∃ A2 c2 A3 c3 A4 c4, v2 = .slice A2 q.f2.length c2 ∧ v3 = .slice A3 q.f3.length c3 ∧ v4 = .slice A4 q.f4.length c4 ∧ Kd.FK k47 w1 (fun k => B ≤ k) q [.int .i64 q.f0, .int .i64 q.f1, .slice A2 q.f2.length c2, .slice A3 q.f3.length c3, .slice A4 q.f4.length c4] := by
 obtain ⟨A2, c2, rfl, l2, _⟩ := Kd.R_reads h2
 obtain ⟨A3, c3, rfl, l3, _⟩ := Kd.R_reads h3
 obtain ⟨A4, c4, rfl, l4, _⟩ := Kd.R_reads h4
 exact ⟨A2, c2, A3, c3, A4, c4, rfl, rfl, rfl, k47_mkF _ _ q l2 (Kd.F_mono (Kd.R_F (Kd.R_bound h2)) (fun k hk => hk.2.1)) l3 (Kd.F_mono (Kd.R_F (Kd.R_bound h3)) (fun k hk => hk.2.1)) l4 (Kd.F_mono (Kd.R_F (Kd.R_bound h4)) (fun k hk => hk.2.1))⟩
def dec14T9 : Bool × List (List Nat × List Nat) := (true, [([], []), ([0], [0]), ([], []), ([2], [2]), ([3], [3]), ([1, 4, 3], [1, 4]), ([0, 1, 2, 3, 4, 5], []), ([6, 5, 5, 0, 1, 2, 3, 4, 5], [5, 6])])
def dec14B9 : List Nat := [0, 1, 0, 4, 12, 31, 63, 127]
theorem dec14tab9 : rtab .any (opsOf Try.f14 9) = dec14T9 := by kernel_rfl
theorem dec14bits9 : waitsOk dec14T9.2 dec14B9 = true := by kernel_rfl
theorem bad14 {k : Nat} {xs : List S47} {se : ByteArray} {be : Bool} {r1 : List S47} {r2 : Int} (h : (if be = true then some (([] : List S47), (4 : Int)) else if se.toList = [] then (fQ8.f k xs).bind fun c => some (if c = 0 then (xs, 0) else ([], 4)) else some ([], 4)) = some (r1, r2)) (hb : be = true ∨ se.toList ≠ []) : r1 = [] ∧ r2 = 4 := by
 cases be with
 | true => rw [if_pos rfl] at h; simp only [Option.some.injEq, Prod.mk.injEq] at h; exact ⟨h.1.symm, h.2.symm⟩
 | false =>
  rcases hb with hb | hb
  ·cases hb
  ·rw [if_neg Bool.false_ne_true, if_neg hb] at h; simp only [Option.some.injEq, Prod.mk.injEq] at h; exact ⟨h.1.symm, h.2.symm⟩
set_option maxHeartbeats 4000000 in
set_option maxRecDepth 100000 in
theorem fQ10.calls (k : Nat) (s0 : ByteArray) (r1 : List S47) (r2 : Int) (w : World) (h : fQ10.f k s0 = some (r1, r2)) :
  Calls Try.prog 14 #[.string s0] w fun e w' => ∃ v0_ : Value, e = .returned (.tuple #[.agg #[v0_], .int .i64 r2]) ∧ Kd.N k47 47 w' w.heap.size (fun k_ => w.heap.size ≤ k_) v0_ r1 ∧ Below w.heap.size w w' := by
 have HF := Aq.mk h
 clear h
 go_enter Try.func14, Try.ntmps14
 go_upto_region 1 with (fail)
 obtain ⟨w1, hw1⟩ : ∃ x, x = w.alloc (.cells #[.slice none 0 0] 24) := ⟨_, rfl⟩
 rw [← hw1]
 obtain ⟨vp, hvp⟩ : ∃ x, x = w.heap.size := ⟨_, rfl⟩
 rw [← hvp]
 have HB1 := Aq.mk (show Below w.heap.size w w1 from hw1 ▸ q4q (Below.refl _ _) _)
 have HP1 := Aq.mk (show w1.heap[vp]? = some (.cells #[.slice none 0 0] 24 (0, 0)) from by rw [hw1, hvp]; exact blk_new _ _)
 have HV := Aq.mk (Nat.le_of_eq hvp.symm)
 clear hw1 hvp
 by_cases hsz : s0.size ≤ 262144
 case neg =>
  have hszb : decide ((s0.size : Int) > 262144) = true := decide_eq_true (by omega)
  have hz := HF.out
  unfold fQ10.f at hz
  rw [if_neg hsz] at hz
  obtain ⟨rfl, rfl⟩ : [] = r1 ∧ 4 = r2 := by simpa using hz
  have cp : w1.cell? ⟨vp, 0, none⟩ = some (.slice none 0 0) := (q3q HP1.out 0).trans rfl
  have fp := q1q HP1.out 0
  go_wp2_with fail
  exact bodyPost_ret (dec14_results _ _ vp _ 4 rfl rfl (q14q HP1.out 0 _ rfl)) rfl ⟨_, rfl, Kd.N_nil _ _ _ _ _, q5q HB1.out HV.out⟩
 have hszb : decide ((s0.size : Int) > 262144) = false := decide_eq_false (by omega)
 have H : ((fQ3.f k s0 false 256).bind fun t => (fQ10.l0 k t.1 0 t.2.1 t.2.2 []).bind fun q =>
  if q.2.2 = true then some ([], 4) else if q.2.1.toList = [] then (fQ8.f k q.1).bind fun c => some (if c = 0 then (q.1, 0) else ([], 4)) else some ([], 4)) = some (r1, r2) := by
  have := HF.out
  unfold fQ10.f at this
  rw [if_pos hsz] at this
  exact this
 clear HF
 replace H := Option.bind_eq_some_iff.mp H
 obtain ⟨⟨n, s, b⟩, A1, H⟩ := H
 replace H := Option.bind_eq_some_iff.mp H
 obtain ⟨⟨xs, se, be⟩, A2, H⟩ := H
 dsimp only at A2 H
 replace A1 := Aq.mk A1
 replace A2 := Aq.mk A2
 have HX := Aq.mk H
 clear H
 go_upto_region 4 with (fail)
 obtain ⟨w2, hw2⟩ : ∃ x, x = w1.alloc (.cells #[.string s0, .bool false] 68) := ⟨_, rfl⟩
 rw [← hw2]
 obtain ⟨g, hg⟩ : ∃ x, x = w1.heap.size := ⟨_, rfl⟩
 rw [← hg]
 have HI2 := Aq.mk (show IsS68 w w2 g s0 false from by rw [hw2, hg]; exact IsS68.new w w1 s0 false HB1.out)
 have HB2 := Aq.mk (show Below w.heap.size w w2 from hw2 ▸ q4q HB1.out _)
 have HP2 := Aq.mk (show w2.heap[vp]? = some (.cells #[.slice none 0 0] 24 (0, 0)) from hw2 ▸ q7q HP1.out _)
 have HG := Aq.mk (show vp < g from hg ▸ q16q HP1.out)
 clear hw2 hg HP1 HB1 hsz hszb
 go_wp2_with fail
 refine (fQ3.calls k g s0 false 256 n s b w w2 HI2.out HB2.out A1.out).mono ?_
 rintro e w3 ⟨rfl, hi, hb, hk⟩
 have HI3 := Aq.mk hi
 have HB3 := Aq.mk hb
 have HP3 := Aq.mk ((hk.2 _ (q16q HP2.out) (Nat.ne_of_lt HG.out) (by simp)).trans HP2.out)
 clear hi hb hk HI2 HB2 HP2
 go_upto_region 6 with (fail)
 obtain ⟨w4, hw4⟩ : ∃ x, x = w3.alloc (.cells #[.slice none 0 0] 24) := ⟨_, rfl⟩
 rw [← hw4]
 obtain ⟨vq, hvq⟩ : ∃ x, x = w3.heap.size := ⟨_, rfl⟩
 rw [← hvq]
 have HDS := Aq.mk (show DS w vp g vq s b (.slice none 0 0) [] w4 from by
  rw [hw4]
  exact ⟨q4q HB3.out _, q7q HP3.out _, HI3.out.alloc _, hvq ▸ blk_new _ _, Kd.N_nil _ _ _ _ _, HV.out, HG.out, hvq ▸ HI3.out.lt⟩)
 clear hw4 hvq HI3 HB3 HP3
 go_wp2_with fail
 go_loopg [7] k (fun kq v7 wr => ∃ (i : Int) (sr : ByteArray) (br : Bool) (v : Value) (ys : List S47), v7 = .int .i64 i ∧ Aq (fQ10.l0 kq n i sr br ys = some (xs, se, be)) ∧ Aq (kq ≤ k) ∧ Aq (DS w vp g vq sr br v ys wr))
 case atStart => exact ⟨0, s, b, .slice none 0 0, [], rfl, A2, ⟨Nat.le_refl _⟩, HDS⟩
 case round =>
  clear HDS
  obtain ⟨i, sr, br, v, ys, rfl, HA, HK1, HDS⟩ := hrel
  obtain ⟨A, c, rfl⟩ := Kd.q37q HDS.out.nn
  cases gk with
  | zero => exact absurd HA.out (by simp [fQ10.l0])
  | succ k1 =>
   go_upto_region 7 with (fail)
   go_cut [26] (fun v26 wc => ∃ x26 : Bool, v26 = .bool x26 ∧ Aq (x26 = (decide (i < n) && !br)) ∧ Aq (DS w vp g vq sr br (.slice A ys.length c) ys wc))
   case first =>
    have hcz0 := cellS68_0 HDS.out.is.1
    have hcz1 := cellS68_1 HDS.out.is.1
    have hfz0 := q1q HDS.out.is.1 0
    have hfz1 := q1q HDS.out.is.1 1
    by_cases hin : i < n
    ·have hinb : decide (i < n) = true := decide_eq_true hin
     go_wp2
     go_meet
     case rel => exact ⟨_, rfl, ⟨by simp [hinb]⟩, HDS⟩
    have hinb : decide (i < n) = false := decide_eq_false hin
    go_wp2
    go_meet
    case rel => exact ⟨_, rfl, ⟨by simp [hinb]⟩, HDS⟩
   case rest =>
    clear HDS
    obtain ⟨x26, rfl, HX26, HDS⟩ := hcut
    cases x26 with
    | true =>
     obtain ⟨hin, hbr⟩ : i < n ∧ br = false := by have := HX26.out; simpa using this.symm
     subst hbr
     have hA := HA.out
     rw [fQ10.l0, if_pos hin, if_neg Bool.false_ne_true] at hA
     obtain ⟨q, hq, hA⟩ := Option.bind_eq_some_iff.mp hA
     by_cases hly : ys.length < 1000000
     case neg =>
      rw [if_neg hly] at hA
      cases hA
     rw [if_pos hly] at hA
     obtain ⟨yn, hyn⟩ : ∃ y_, y_ = ys ++ [(⟨q.1, q.2.1, q.2.2.1, q.2.2.2.1, q.2.2.2.2.1⟩ : S47)] := ⟨_, rfl⟩
     rw [← hyn] at hA
     have HY := Aq.mk hyn
     clear hyn
     have AQ := Aq.mk hq
     have AL := Aq.mk hA
     have LMq := Aq.mk hly
     clear hq hA hly hin HA HX26 A2 HX
     try go_wp2
     have HD2 := Aq.mk HDS.out.drew
     clear HDS
     refine start_ (n := 8) (S := fun w' => w'.cell? ⟨vq, 0, none⟩ = some (.slice A ys.length c)) (ds := [7]) #[false, false, false, false, false, false, false, false] (by kernel_rfl) rfl rfl ((q3q HD2.out.pq 0).trans rfl) (fun hHeld => ?_); refine with_tabW dec14tab9 dec14bits9 (fun HT_ HW_ => ?_)
     generalize wc.drew = w8 at HD2 hHeld ⊢
     refine pure_ (i := 0) (N := some 29) (v := ?_) (a' := ?_) (bA 8 1) rfl rfl (q17q HT_.out (by kernel_rfl)) (fun _ _ _ h => h) (Or.inl ⟨by rfl, ?_⟩) ?_ ?_
     rotate_left
     ·intro w'
      go_simp
      with_reducible rfl
     rotate_left
     ·simp only [Act.put, sA_, sZ_, sS_, i64_w, i32_w]
      rfl
     refine pure_ (i := 2) (N := some 31) (v := ?_) (a' := ?_) (bA 8 5) rfl rfl (q17q HT_.out (by kernel_rfl)) (fun _ _ _ h => h) (Or.inl ⟨by rfl, ?_⟩) ?_ ?_
     rotate_left
     ·intro w'
      go_simp
      with_reducible rfl
     rotate_left
     ·simp only [Act.put, sA_, sZ_, sS_, i64_w, i32_w]
      rfl
     refine take_ (i := 1) (N := some 30) (v := ?_) (a' := ?_) (bA 8 7) rfl rfl (q32q HT_.out HW_.out (by kernel_rfl)) (fun _ _ _ h => h) (Or.inl ⟨by rfl, ?_⟩) hHeld ?_ ?_
     rotate_left
     ·rintro w' s0
      go_simp
      with_reducible rfl
     rotate_left
     ·simp only [Act.put, sA_, sZ_, sS_, i64_w, i32_w]
      rfl
     refine one_ (i := 3) (N := some 32) (bA 8 15) rfl rfl (q39q HT_.out (by kernel_rfl)) (by decide) (fun K hK => ?_)
     refine goes_ Try.func29 (by kernel_rfl) rfl #[.pointer (some ⟨g, 0, none⟩)] (by rfl) rfl rfl (by (try simp only [List.map_toArray, List.map_cons, List.map_nil]); first | done | rfl) ?_
     with_reducible refine (fQ0.calls k1 g sr false q.1 q.2.1 q.2.2.1 q.2.2.2.1 q.2.2.2.2.1 q.2.2.2.2.2.1 q.2.2.2.2.2.2 w _ HD2.out.is HD2.out.bel AQ.out).mono ?_
     rintro e w9 ⟨v2, v3, v4, rfl, hv2, hv3, hv4, hi, hb, hk⟩
     obtain ⟨A2, c2, A3, c3, A4, c4, rfl, rfl, rfl, hfk⟩ := FK47_of (q := ⟨q.1, q.2.1, q.2.2.1, q.2.2.2.1, q.2.2.2.2.1⟩) hv2 hv3 hv4
     refine ⟨_, rfl, ?_⟩
     have HD3 := Aq.mk (HD2.out.call hi hb hk)
     have HFK := Aq.mk hfk
     have HVQ := Aq.mk (q16q HD2.out.pq)
     have HW9 := Aq.mk hk.1
     have HN2 := Aq.mk (Kd.N_lt HD2.out.nn)
     clear HD2 hi hb hk hv2 hv3 hv4 hfk
     refine hK.out _ _ ((q3q HD3.out.pq 0).trans rfl) (fun hHeld => ?_)
     clear hK K
     refine norm_ (a' := ?_) ?_ ?_
     rotate_left
     ·show Act.put _ (some 32) _ = _
      simp only [Act.put, sA_, sZ_, sS_, i64_w, i32_w]
      rfl
     refine one_ (i := 4) (N := some 33) (bA 8 31) rfl rfl (q39q HT_.out (by kernel_rfl)) (by decide) (fun K hK => ?_)
     refine value_ (w1 := ?_) (v := ?_) (by rfl) rfl ?_ ?_
     rotate_left 2
     ·go_simp
      constructor
      ·rfl
      ·rfl
     refine hK.out _ _ ((q3q (q7q HD3.out.pq _) 0).trans rfl) (fun hHeld => ?_)
     clear hK K
     refine norm_ (a' := ?_) ?_ ?_
     rotate_left
     ·show Act.put _ (some 33) _ = _
      simp only [Act.put, sA_, sZ_, sS_, i64_w, i32_w]
      rfl
     refine one_ (i := 5) (N := some 34) (bA 8 63) rfl rfl (q39q HT_.out (by kernel_rfl)) (by decide) (fun K hK => ?_)
     refine Kd.N_append_step k47 (w0 := w9) w.heap.size (by rfl) (.tmp 30) (.tmp 33) 22 47 (.agg #[(.int .i64 0), (.int .i64 0), (.slice none 0 0), (.slice none 0 0), (.slice none 0 0)]) 88 rfl Try.underlying22 info47 rfl (by decide) (by decide) (.slice A ys.length c) ys (⟨q.1, q.2.1, q.2.2.1, q.2.2.2.1, q.2.2.2.2.1⟩ : S47) [.int .i64 q.1, .int .i64 q.2.1, .slice A2 q.2.2.1.length c2, .slice A3 q.2.2.2.1.length c3, .slice A4 q.2.2.2.2.1.length c4] (fun k => vq < k) (fun k => w8.heap.size ≤ k) rfl rfl HFK.out ?aK ?aF HD3.out.nn (Below.refl _ _) ?aB ?aL ?_
     (case aK => exact fun k hk => ⟨Nat.lt_of_lt_of_le HVQ.out hk, fun e => by have := HN2.out k e.symm; omega⟩)
     (case aF => exact fun k hk => Nat.lt_of_lt_of_le (Nat.lt_of_lt_of_le HVQ.out HW9.out) hk)
     (case aB => exact HD3.out.bel.size)
     (case aL => have := LMq.out; omega)
     intro v1 w10 hn hb hg hat
     rw [← HY.out] at hn
     have HP := Aq.mk (HD3.out.push hn hb hg)
     obtain ⟨Ao, co, eo⟩ := Kd.q37q hn
     subst eo
     clear HD3 hn hb hg hat
     refine hK.out _ _ ((q3q HP.out.pq 0).trans rfl) (fun hHeld => ?_)
     clear hK K
     refine norm_ (a' := ?_) ?_ ?_
     rotate_left
     ·show Act.put _ (some 34) _ = _
      simp only [Act.put, sA_, sZ_, sS_, i64_w, i32_w]
      rfl
     refine pure_ (i := 6) (N := some 35) (v := ?_) (a' := ?_) (bA 8 127) rfl rfl (q17q HT_.out (by kernel_rfl)) (fun _ _ _ h => h) (Or.inl ⟨by rfl, ?_⟩) ?_ ?_
     rotate_left
     ·intro w'
      go_simp
      with_reducible rfl
     rotate_left
     ·simp only [Act.put, sA_, sZ_, sS_, i64_w, i32_w]
      rfl
     refine last_ (i := 7) (N := none) #[true, true, true, true, true, true, true, true] rfl rfl (q39q HT_.out (by kernel_rfl)) (by decide) (fun K hK => ?_)
     have hs40 : w10.cell? ⟨vq, 0, none⟩ = some (.slice A ys.length c) := (q3q HP.out.pq 0).trans rfl
     have hfs40 := q1q HP.out.pq 0
     refine skip_ (w1 := ?_) (by rfl) rfl ?_ ?_
     rotate_left
     ·go_simp
      rfl
     refine hK.out _ _ ?_
     clear hK K
     refine done_ (done_of HT_.out (by kernel_rfl)) ?_
     try go_wp2
     go_roundg k1
     case measure => have := HK1.out; omega
     case rel => exact ⟨wrap64 (i + 1), _, _, _, _, rfl, AL, ⟨by have := HK1.out; omega⟩, ⟨HP.out.put⟩⟩
    | false =>
     have hA := HA.out
     have hx := HX26.out
     have hA2 : (ys, sr, br) = (xs, se, be) := by
      rw [fQ10.l0] at hA
      by_cases hin : i < n
      case neg =>
       rw [if_neg hin] at hA
       exact Option.some.inj hA
      have hbr : br = true := by simpa [hin] using hx.symm
      rw [if_pos hin, if_pos hbr] at hA
      exact Option.some.inj hA
     simp only [Prod.mk.injEq] at hA2
     obtain ⟨rfl, rfl, rfl⟩ := hA2
     clear hA hx HA HX26
     have hcz0 := cellS68_0 HDS.out.is.1
     have hcz1 := cellS68_1 HDS.out.is.1
     have hfz0 := q1q HDS.out.is.1 0
     have hfz1 := q1q HDS.out.is.1 1
     have cp : wc.cell? ⟨vp, 0, none⟩ = some (.slice none 0 0) := (q3q HDS.out.pv 0).trans rfl
     have fp := q1q HDS.out.pv 0
     have cq : wc.cell? ⟨vq, 0, none⟩ = some (.slice A ys.length c) := (q3q HDS.out.pq 0).trans rfl
     cases br with
     | true =>
      obtain ⟨rfl, rfl⟩ := bad14 HX.out (.inl rfl)
      go_wp2_with fail
      exact bodyPost_ret (dec14_results _ _ vp _ 4 rfl rfl (q14q HDS.out.pv 0 _ rfl)) rfl ⟨_, rfl, Kd.N_nil _ _ _ _ _, q5q HDS.out.bel HDS.out.h1⟩
     | false =>
      by_cases hs : sr.toList = ([] : List UInt8)
      case neg =>
       have hsb0 : (sr.toList == ([] : List UInt8)) = false := beq_eq_false_iff_ne.mpr hs
       have hsb1 : (sr.toList != ([] : List UInt8)) = true := by simp [bne, hsb0]
       obtain ⟨rfl, rfl⟩ := bad14 HX.out (.inr hs)
       go_wp2_with fail
       exact bodyPost_ret (dec14_results _ _ vp _ 4 rfl rfl (q14q HDS.out.pv 0 _ rfl)) rfl ⟨_, rfl, Kd.N_nil _ _ _ _ _, q5q HDS.out.bel HDS.out.h1⟩
      have hsb0 : (sr.toList == ([] : List UInt8)) = true := beq_iff_eq.mpr hs
      have hsb1 : (sr.toList != ([] : List UInt8)) = false := bne_eq_false_iff_eq.mpr hs
      have hx := HX.out
      rw [if_neg Bool.false_ne_true, if_pos hs] at hx
      obtain ⟨ck, hck, hx⟩ := Option.bind_eq_some_iff.mp hx
      have HCK := Aq.mk hck
      have HXX := Aq.mk hx
      clear hx hck hs HX
      go_wp2_with fail
      refine (fQ8.calls k A c ys ck wc (Kd.q25q HDS.out.nn).2.2 (Kd.q25q HDS.out.nn).2.1 HCK.out).mono ?_
      rintro e w5 ⟨rfl, hb5⟩
      have HD5 := Aq.mk (HDS.out.below hb5)
      clear hb5 HDS hcz0 hcz1 hfz0 hfz1 cp fp cq
      have cp : w5.cell? ⟨vp, 0, none⟩ = some (.slice none 0 0) := (q3q HD5.out.pv 0).trans rfl
      have fp := q1q HD5.out.pv 0
      have cq : w5.cell? ⟨vq, 0, none⟩ = some (.slice A ys.length c) := (q3q HD5.out.pq 0).trans rfl
      by_cases hc : ck = 0
      case neg =>
       have hcb0 : (ck == 0) = false := beq_eq_false_iff_ne.mpr hc
       have hcb1 : (ck != 0) = true := by simp [bne, hcb0]
       obtain ⟨rfl, rfl⟩ : [] = r1 ∧ 4 = r2 := by have := HXX.out; rw [if_neg hc] at this; simpa using this
       go_wp2_with fail
       exact bodyPost_ret (dec14_results _ _ vp _ 4 rfl rfl (q14q HD5.out.pv 0 _ rfl)) rfl ⟨_, rfl, Kd.N_nil _ _ _ _ _, q5q HD5.out.bel HD5.out.h1⟩
      subst hc
      obtain ⟨rfl, rfl⟩ : ys = r1 ∧ 0 = r2 := by have := HXX.out; simpa using this
      go_wp2_with fail
      exact bodyPost_ret (dec14_results _ _ vp _ 0 rfl rfl (q14q HD5.out.pv 0 _ rfl)) rfl ⟨_, rfl, Kd.q21q (Kd.N_far HD5.out.nn (p := ⟨vp, 0, none⟩) (fun k hk => by have := HD5.out.h2; have := HD5.out.h3; show k ≠ vp; omega) _) (fun k hk => by have := HD5.out.hq; omega), q5q HD5.out.bel HD5.out.h1⟩
end Go.Proofs.Ytkkgbbfojmnopaa.G
end
