import Derived.WalkKit
import Derived.WalkLawsBesides
import Derived.Deep.RegionLaw
import Derived.Deep.Cut
import Derived.WalkSpells
import Derived.Recover
import Derived.Laws.Bits64b
import Derived.Test.YtkkgbbfojmnopaaPReE10
import Derived.Test.YtkkgbbfojmnopaaPReGxF16
set_option linter.unusedVariables false
set_option linter.unusedSimpArgs false
section
namespace Go.Proofs.Ytkkgbbfojmnopaa.G
open Go.RowKit Go.Proofs.YtkkgbbfojmnopaaW.PrintWords Go.Proofs.YtkkgbbfojmnopaaW.PrintLast Go.Proofs.YtkkgbbfojmnopaaW.PrintMore
set_option maxRecDepth 100000 in
theorem dec_catch (p e : Nat) (A : Option Addr) (n c : Nat) (x : Int) (older : List PanicEntry) (w : World) (hc : w.heap[p]? = some (.cells #[.slice A n c] 24 (0, 0))) (he : w.heap[e]? = some (.cells #[.int .i64 x] 26 (0, 0))) (hne : p ≠ e) :
  CallsD Try.prog 24 #[.pointer (some ⟨p, 0, none⟩), .pointer (some ⟨e, 0, none⟩)] (.panicking ({ v := .iface 59 (.agg #[]), recovered := false } :: older)) w fun e' u' w' =>
   e' = .returned (.tuple #[]) ∧ u' = .panicking ({ v := .iface 59 (.agg #[]), recovered := true } :: older) ∧ w' = (w.setCell ⟨p, 0, none⟩ (.slice none 0 0)).setCell ⟨e, 0, none⟩ (.int .i64 4) := by
 have cp : w.cell? ⟨p, 0, none⟩ = some (.slice A n c) := (q3q hc 0).trans rfl
 have fp : w.frozen? ⟨p, 0, none⟩ = false := q1q hc 0
 have he' := q18q he (p := ⟨p, 0, none⟩) (Ne.symm hne) (.slice none 0 0)
 have ce : (w.setCell ⟨p, 0, none⟩ (.slice none 0 0)).cell? ⟨e, 0, none⟩ = some (.int .i64 x) := (q3q he' 0).trans rfl
 have fe : (w.setCell ⟨p, 0, none⟩ (.slice none 0 0)).frozen? ⟨e, 0, none⟩ = false := q1q he' 0
 refine callsD_of_wpS Try.func24 rfl fun c₀ cs hu => ?_
 apply wpS_seq
 apply wpS_region
 simp [wpOpsS, go_sem, recoverD, hu, Try.ntmps24, Exit.thenS]
 apply wpS_seq
 apply wpS_region
 simp [wpOpsS, go_sem, Exit.thenS]
 refine wpS_cond (t := true) (by simp [Act.eval, Array.replicate]) ?_
 simp only [if_true]
 apply wpS_seq
 apply wpS_region
 simp [wpOpsS, go_sem, Exit.thenS]
 apply wpS_region
 simp [wpOpsS, go_sem, cp, fp, ce, fe, bodyPostS, results, Try.results24]
theorem dec_idle (p e : Nat) (w : World) :
  CallsD Try.prog 24 #[.pointer (some ⟨p, 0, none⟩), .pointer (some ⟨e, 0, none⟩)] .returning w fun e' u' w' => e' = .returned (.tuple #[]) ∧ u' = .returning ∧ w' = w := by
 refine callsD_of_wpS Try.func24 rfl fun c₀ cs hu => ?_
 apply wpS_seq
 apply wpS_region
 simp [wpOpsS, go_sem, recoverD, hu, Try.ntmps24, Exit.thenS]
 refine wpS_of_wp ?_
 go_wp2
 cases c₀
 simp_all [bodyPostS, results, Try.results24]
theorem dec_results (a : Array Value) (w : World) (P E : Nat) (A : Option Addr) (n c : Nat) (x : Int) (h2 : a.getD 2 undef = .pointer (some ⟨P, 0, none⟩)) (h3 : a.getD 3 undef = .pointer (some ⟨E, 0, none⟩)) (hp : w.heap[P]? = some (.cells #[.slice A n c] 24 (0, 0))) (he : w.heap[E]? = some (.cells #[.int .i64 x] 26 (0, 0))) :
  (results Try.f13 a).run Try.prog w = .ok (.tuple #[.agg #[.slice A n c], .int .i64 x]) w := by
 have cp : w.cell? ⟨P, 0, none⟩ = some (.slice A n c) := (q3q hp 0).trans rfl
 have ce : w.cell? ⟨E, 0, none⟩ = some (.int .i64 x) := (q3q he 0).trans rfl
 have h2' : a[2]?.getD undef = .pointer (some ⟨P, 0, none⟩) := by simpa using h2
 have h3' : a[3]?.getD undef = .pointer (some ⟨E, 0, none⟩) := by simpa using h3
 simp [results, Try.results13, h2', h3', asAddr, go_sem, cp, ce]
theorem dec_fail (R : Ending → World → Prop) (a : Act) (w : World) (P E : Nat) (A : Option Addr) (n c : Nat) (x : Int) (hd : a.defers = [{ target := .fn (.func 24) #[.pointer (some ⟨P, 0, none⟩), .pointer (some ⟨E, 0, none⟩)], args := #[] }])
  (h2 : a.tmps.getD 2 undef = .pointer (some ⟨P, 0, none⟩)) (h3 : a.tmps.getD 3 undef = .pointer (some ⟨E, 0, none⟩)) (hp : w.heap[P]? = some (.cells #[.slice A n c] 24 (0, 0))) (he : w.heap[E]? = some (.cells #[.int .i64 x] 26 (0, 0))) (hne : P ≠ E)
  (hR : R (.returned (.tuple #[.agg #[.slice none 0 0], .int .i64 4])) ((w.setCell ⟨P, 0, none⟩ (.slice none 0 0)).setCell ⟨E, 0, none⟩ (.int .i64 4))) : bodyPostD Try.prog Try.f13 R (Exit.panic wrongP) a w := by
 show Leaves Try.prog Try.f13 a.tmps R a.defers (.panicking wrongP) w
 rw [hd]
 refine leaves_cons (f := 24) (args := #[.pointer (some ⟨P, 0, none⟩), .pointer (some ⟨E, 0, none⟩)]) (by simp) (by simp [go_sem]) ?_
 refine (dec_catch P E A n c x [] w hp he hne).mono ?_
 rintro e u' w'' ⟨rfl, rfl, rfl⟩
 have hp2 := q18q (q14q hp 0 (.slice none 0 0) rfl) (p := ⟨E, 0, none⟩) hne (.int .i64 4)
 have he2 := q14q (q18q he (p := ⟨P, 0, none⟩) (Ne.symm hne) (.slice none 0 0)) 0 (.int .i64 4) rfl
 exact ⟨_, dec_results _ _ P E _ _ _ _ h2 h3 hp2 he2, hR⟩
theorem dec_ends (R : Ending → World → Prop) (a : Act) (w : World) (P E : Nat) (A : Option Addr) (n c : Nat) (x : Int) (hd : a.defers = [{ target := .fn (.func 24) #[.pointer (some ⟨P, 0, none⟩), .pointer (some ⟨E, 0, none⟩)], args := #[] }])
  (h2 : a.tmps.getD 2 undef = .pointer (some ⟨P, 0, none⟩)) (h3 : a.tmps.getD 3 undef = .pointer (some ⟨E, 0, none⟩)) (hp : w.heap[P]? = some (.cells #[.slice A n c] 24 (0, 0))) (he : w.heap[E]? = some (.cells #[.int .i64 x] 26 (0, 0)))
  (hR : R (.returned (.tuple #[.agg #[.slice A n c], .int .i64 x])) w) : bodyPostD Try.prog Try.f13 R Exit.ret a w := by
 show Leaves Try.prog Try.f13 a.tmps R a.defers .returning w
 rw [hd]
 refine leaves_cons (f := 24) (args := #[.pointer (some ⟨P, 0, none⟩), .pointer (some ⟨E, 0, none⟩)]) (by simp) (by simp [go_sem]) ?_
 refine (dec_idle P E w).mono ?_
 rintro e u' w'' ⟨rfl, rfl, rfl⟩
 exact ⟨_, dec_results _ _ P E _ _ _ _ h2 h3 hp he, hR⟩
def fQ15.f (k : Nat) (s0 : ByteArray) : Option (List S47 × Int) :=
 if s0.size ≤ 262144 then match (Cod.list 256 (by decide) codP).dec s0.data.toList with
  | some (l, []) => (fQ16.f k l).bind fun c => some (if c = 0 then (l, 0) else ([], 4))
  | _ => some ([], 4)
 else some ([], 4)
theorem fQ15.calls (k : Nat) (s0 : ByteArray) (r1 : List S47) (r2 : Int) (w : World) (h : fQ15.f k s0 = some (r1, r2)) :
  Calls Try.prog 13 #[.string s0] w fun e w' => ∃ v0_ : Value, e = .returned (.tuple #[.agg #[v0_], .int .i64 r2]) ∧ Kd.N k47 47 w' w.heap.size (fun k_ => w.heap.size ≤ k_) v0_ r1 ∧ Below w.heap.size w w' := by
 have hmf : ∀ (fn : Fn) (first cap : Array Value) (w : World), (Instr.makeFunc fn first cap).run Try.prog w = .ok (.func fn first cap) w := fun _ _ _ _ => rfl
 go_enter_defers Try.func13, Try.ntmps13
 go_upto_region 1 with (fail)
 obtain ⟨w1, hw1⟩ : ∃ x, x = (w.alloc (.cells #[.slice none 0 0] 24)).alloc (.cells #[.int .i64 0] 26) := ⟨_, rfl⟩
 obtain ⟨vr, hvr⟩ : ∃ x, x = w.heap.size + 1 := ⟨_, rfl⟩
 obtain ⟨vp, hvp⟩ : ∃ x, x = w.heap.size := ⟨_, rfl⟩
 rw [← hw1, ← hvr, ← hvp]
 have HB1 := Aq.mk (show Below w.heap.size w w1 from hw1 ▸ q4q (q4q (Below.refl _ _) _) _)
 have HP1 := Aq.mk (show w1.heap[vp]? = some (.cells #[.slice none 0 0] 24 (0, 0)) from by rw [hw1, hvp]; exact q7q (blk_new _ _) _)
 have HE1 := Aq.mk (show w1.heap[vr]? = some (.cells #[.int .i64 0] 26 (0, 0)) from by
  have := blk_new (w.alloc (.cells #[.slice none 0 0] 24)) (.cells #[.int .i64 0] 26)
  rw [hw1, hvr]
  simpa using this)
 have HR4 := Aq.mk (fun (wx : World) (A : Option Addr) (n c : Nat) (x : Int) (hbx : Below w.heap.size w wx) (hpx : wx.heap[vp]? = some (.cells #[.slice A n c] 24 (0, 0))) (hex : wx.heap[vr]? = some (.cells #[.int .i64 x] 26 (0, 0))) => (hbx.setCell (p := ⟨vp, 0, none⟩) (show w.heap.size ≤ vp by omega) (.slice none 0 0)).setCell (p := ⟨vr, 0, none⟩) (show w.heap.size ≤ vr by omega) (.int .i64 4))
 have HNE := Aq.mk (show vp ≠ vr by omega)
 have HVP := Aq.mk hvp
 have HVR := Aq.mk hvr
 clear hw1 hvr hvp
 by_cases hsz : s0.size ≤ 262144
 case neg =>
  have hszb : decide ((s0.size : Int) ≤ 262144) = false := decide_eq_false (by omega)
  have hz : fQ15.f k s0 = some ([], 4) := by unfold fQ15.f; rw [if_neg hsz]
  rw [hz] at h
  obtain ⟨rfl, rfl⟩ : [] = r1 ∧ 4 = r2 := by simpa using h
  go_wp2_with fail
  refine (need_any _ _).mono ?_
  rintro e w' ⟨rfl, rfl⟩
  refine dec_fail _ _ _ vp vr none 0 0 0 rfl rfl rfl HP1.out HE1.out HNE.out ⟨_, rfl, Kd.N_nil _ _ _ _ _, HR4.out _ _ _ _ _ HB1.out HP1.out HE1.out⟩
 have hszb : decide ((s0.size : Int) ≤ 262144) = true := decide_eq_true (by omega)
 go_wp2_with fail
 refine (need_any _ _).mono ?_
 rintro e w' ⟨rfl, rfl⟩
 go_upto_region 4 with (fail)
 obtain ⟨w2, hw2⟩ : ∃ x, x = w'.alloc (.cells #[.string s0] 63) := ⟨_, rfl⟩
 rw [← hw2]
 obtain ⟨p, hp⟩ : ∃ x, x = w'.heap.size := ⟨_, rfl⟩
 rw [← hp]
 have hbw : Below w'.heap.size w' w2 := hw2 ▸ q4q (Below.refl _ _) _
 have HR2 := Aq.mk (show Rdr p s0.data.toList w2 from ⟨⟨s0, rfl, by rw [hw2, hp]; exact blk_new _ _⟩, by rw [Array.length_toList]; exact Nat.le_trans hsz (by decide)⟩)
 have HB2 := Aq.mk (show Below w.heap.size w w2 from q10q HB1.out hbw)
 have HP2 := Aq.mk (q13q HP1.out hbw)
 have HE2 := Aq.mk (q13q HE1.out hbw)
 have HQ := Aq.mk (show vp ≠ p ∧ vr ≠ p ∧ w.heap.size ≤ p from ⟨by have := q16q HP1.out; omega, by have := q16q HE1.out; omega, by rw [hp]; exact HB1.out.size⟩)
 have HZ := Aq.mk h
 have HSZ := Aq.mk hsz
 clear hw2 hp hbw HP1 HE1 HB1 h hsz hszb
 go_wp2_with fail
 refine (list26_any p s0.data.toList w2 HR2.out).mono ?_
 intro e w3 h3
 rcases h3.elim with ⟨xs, r, v, hd, rfl, hn, ha⟩ | ⟨hd, rfl, hb, hk⟩
 ·obtain ⟨A, c, rfl⟩ := Kd.q37q hn
  have HD := Aq.mk hd
  have HP3 := Aq.mk (show w3.heap[vp]? = _ from (ha.keep.2 _ (q16q HP2.out) HQ.out.1 (by simp)).trans HP2.out)
  have HE3 := Aq.mk (show w3.heap[vr]? = _ from (ha.keep.2 _ (q16q HE2.out) HQ.out.2.1 (by simp)).trans HE2.out)
  have HB3 := Aq.mk (show Below w.heap.size w w3 from HB2.out.trans (ha.bel.mono HQ.out.2.2))
  have HN3 := Aq.mk (show Kd.N k47 47 w3 w.heap.size (fun k => w2.heap.size ≤ k) (.slice A xs.length c) xs from Kd.N_lower hn HB2.out.size)
  have HV := Aq.mk (show vp < w2.heap.size ∧ vr < w2.heap.size from ⟨q16q HP2.out, q16q HE2.out⟩)
  obtain ⟨s3, hs3, hb3⟩ := ha.blk
  have HS3 := Aq.mk hs3
  have HK3 := Aq.mk hb3
  have cv : w3.cell? ⟨vp, 0, none⟩ = some (.slice none 0 0) := (q3q HP3.out 0).trans rfl
  have fv : w3.frozen? ⟨vp, 0, none⟩ = false := q1q HP3.out 0
  clear hd ha h3 hn hs3 hb3
  go_upto_region 5 with (fail)
  obtain ⟨w4, hw4⟩ : ∃ x, x = w3.setCell ⟨vp, 0, none⟩ (.slice A xs.length c) := ⟨_, rfl⟩
  rw [← hw4]
  have HP4 := Aq.mk (show w4.heap[vp]? = some (.cells #[.slice A xs.length c] 24 (0, 0)) from hw4 ▸ q14q HP3.out 0 _ rfl)
  have HE4 := Aq.mk (show w4.heap[vr]? = some (.cells #[.int .i64 0] 26 (0, 0)) from hw4 ▸ q18q HE3.out (Ne.symm HNE.out) _)
  have HK4 := Aq.mk (show w4.heap[p]? = some (.cells #[.string s3] 63 (0, 0)) from hw4 ▸ q18q HK3.out (Ne.symm HQ.out.1) _)
  have HB4 := Aq.mk (show Below w.heap.size w w4 from hw4 ▸ HB3.out.setCell (p := ⟨vp, 0, none⟩) (show w.heap.size ≤ vp from Nat.le_of_eq HVP.out.symm) _)
  have HN4 := Aq.mk (show Kd.N k47 47 w4 w.heap.size (fun k => w2.heap.size ≤ k) (.slice A xs.length c) xs from hw4 ▸ Kd.N_far HN3.out (fun k (hk : w2.heap.size ≤ k) => show k ≠ vp by have := HV.out; omega) _)
  clear hw4 cv fv HN3 HB3 HK3 HE3 HP3
  have cp : w4.cell? ⟨p, 0, none⟩ = some (.string s3) := (q3q HK4.out 0).trans rfl
  have cv : w4.cell? ⟨vp, 0, none⟩ = some (.slice A xs.length c) := (q3q HP4.out 0).trans rfl
  by_cases hr : r = []
  case neg =>
   have hnl : ¬ s3.toList = [] := fun e => hr (by rw [← HS3.out, ← ByteArray.toList_eq, e])
   go_wp2_with fail
   refine (need_any _ _).mono ?_
   rintro e w5 ⟨rfl, rfl⟩
   have hz : fQ15.f k s0 = some ([], 4) := by
    unfold fQ15.f
    rw [if_pos HSZ.out, HD.out]
    cases r with
    | nil => exact absurd rfl hr
    | cons a t => rfl
   have h := HZ.out
   rw [hz] at h
   obtain ⟨rfl, rfl⟩ : [] = r1 ∧ 4 = r2 := by simpa using h
   exact dec_fail _ _ _ vp vr A xs.length c 0 rfl rfl rfl HP4.out HE4.out HNE.out ⟨_, rfl, Kd.N_nil _ _ _ _ _, HR4.out _ _ _ _ _ HB4.out HP4.out HE4.out⟩
  subst hr
  have hs3 : s3 = ⟨#[]⟩ := by
   have := HS3.out
   ext1
   exact Array.toList_inj.mp (by simpa using this)
  subst hs3
  have hz : fQ15.f k s0 = (fQ16.f k xs).bind fun c => some (if c = 0 then (xs, 0) else ([], 4)) := by
   unfold fQ15.f
   rw [if_pos HSZ.out, HD.out]
  have h := HZ.out
  rw [hz] at h
  obtain ⟨q, hq, h⟩ := Option.bind_eq_some_iff.mp h
  have HH := Aq.mk h
  have HQQ := Aq.mk hq
  clear h hz hq
  go_wp2_with fail
  refine (fQ16.calls k A c xs q w4 (Kd.q25q HN4.out).2.2 (Kd.q25q HN4.out).2.1 HQQ.out).mono ?_
  rintro e w5 ⟨rfl, hb5⟩
  have HP5 := Aq.mk (q13q HP4.out hb5)
  have HE5 := Aq.mk (q13q HE4.out hb5)
  have HB5 := Aq.mk (q10q HB4.out hb5)
  have HN5 := Aq.mk (Kd.q31q HN4.out hb5)
  clear hb5 HP4 HE4 HB4 HN4 HK4 cp cv HS3
  by_cases hq : q = 0
  case neg =>
   have hqb : (q == 0) = false := beq_eq_false_iff_ne.mpr hq
   obtain ⟨rfl, rfl⟩ : [] = r1 ∧ 4 = r2 := by have := HH.out; rw [if_neg hq] at this; simpa using this
   go_wp2_with fail
   refine (need_any _ _).mono ?_
   rintro e w6 ⟨rfl, rfl⟩
   exact dec_fail _ _ _ vp vr A xs.length c 0 rfl rfl rfl HP5.out HE5.out HNE.out ⟨_, rfl, Kd.N_nil _ _ _ _ _, HR4.out _ _ _ _ _ HB5.out HP5.out HE5.out⟩
  subst hq
  obtain ⟨rfl, rfl⟩ : xs = r1 ∧ 0 = r2 := by have := HH.out; simpa using this
  go_wp2_with fail
  refine (need_any _ _).mono ?_
  rintro e w6 ⟨rfl, rfl⟩
  have cv : w6.cell? ⟨vp, 0, none⟩ = some (.slice A xs.length c) := (q3q HP5.out 0).trans rfl
  have fv : w6.frozen? ⟨vp, 0, none⟩ = false := q1q HP5.out 0
  have HE6 := q18q HE5.out (p := ⟨vp, 0, none⟩) (Ne.symm HNE.out) (.slice A xs.length c)
  have ce : (w6.setCell ⟨vp, 0, none⟩ (.slice A xs.length c)).cell? ⟨vr, 0, none⟩ = some (.int .i64 0) := (q3q HE6 0).trans rfl
  have fe : (w6.setCell ⟨vp, 0, none⟩ (.slice A xs.length c)).frozen? ⟨vr, 0, none⟩ = false := q1q HE6 0
  go_wp2_with fail
  have hwv : w.heap.size ≤ vp := Nat.le_of_eq HVP.out.symm
  have hwr : w.heap.size ≤ vr := by have := HVR.out; omega
  have hvw := HV.out
  have HN6 := Kd.N_far (Kd.N_far HN5.out (p := ⟨vp, 0, none⟩) (fun k (hk : w2.heap.size ≤ k) => show k ≠ vp by omega) (.slice A xs.length c)) (p := ⟨vr, 0, none⟩) (fun k (hk : w2.heap.size ≤ k) => show k ≠ vr by omega) (.int .i64 0)
  exact dec_ends _ _ _ vp vr A xs.length c 0 rfl rfl rfl (q18q (q14q HP5.out 0 _ rfl) (p := ⟨vr, 0, none⟩) HNE.out _) (q14q HE6 0 _ rfl) ⟨_, rfl, Kd.q21q HN6 (fun k hk => Nat.le_trans HB2.out.size hk), (HB5.out.setCell (p := ⟨vp, 0, none⟩) hwv _).setCell (p := ⟨vr, 0, none⟩) hwr _⟩
 ·have hz : fQ15.f k s0 = some ([], 4) := by unfold fQ15.f; rw [if_pos HSZ.out, hd]
  have h := HZ.out
  rw [hz] at h
  obtain ⟨rfl, rfl⟩ : [] = r1 ∧ 4 = r2 := by simpa using h
  have HP3 := (hk.2 _ (q16q HP2.out) HQ.out.1 (by simp)).trans HP2.out
  have HE3 := (hk.2 _ (q16q HE2.out) HQ.out.2.1 (by simp)).trans HE2.out
  have HB3 := HB2.out.trans (hb.mono HQ.out.2.2)
  exact dec_fail _ _ _ vp vr none 0 0 0 rfl rfl rfl HP3 HE3 HNE.out ⟨_, rfl, Kd.N_nil _ _ _ _ _, HR4.out _ _ _ _ _ HB3 HP3 HE3⟩
end Go.Proofs.Ytkkgbbfojmnopaa.G
end
