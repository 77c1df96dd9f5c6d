import Derived.Test.YtkkgbbfojmnopaaPCuPJ
import Derived.Test.YtkkgbbfojmnopaaPCuGxF6
set_option linter.unusedVariables false
set_option linter.unusedSimpArgs false
section
namespace Go.Proofs.Ytkkgbbfojmnopaa.Z
open Go.RowKit Go.Proofs.Ytkkgbbfojmnopaa.G Go.Proofs.YtkkgbbfojmnopaaW.PrintWords Go.Proofs.YtkkgbbfojmnopaaW.PrintLast Go.Proofs.YtkkgbbfojmnopaaW.PrintMore
set_option linter.unusedVariables false
set_option linter.unusedSimpArgs false
theorem eqZ_eq {α : Type} {n : α → α → Bool} (hn : ∀ a b, n a b = false → a = b) : ∀ (xs ys : List α), eqZ n xs ys = true → xs = ys
  | [], [], _ => rfl
  | [], y :: ys, h => by simp [eqZ] at h
  | x :: xs, [], h => by simp [eqZ] at h
  | x :: xs, y :: ys, h => by
    simp only [eqZ, List.zip_cons_cons, List.all_cons, Bool.and_eq_true, List.length_cons, decide_eq_true_eq, Bool.not_eq_true'] at h
    obtain ⟨h1, h2, h3⟩ := h
    rw [hn x y h2, eqZ_eq hn xs ys (by simp only [eqZ, Bool.and_eq_true, decide_eq_true_eq]; exact ⟨by omega, h3⟩)]
theorem n48_eq (a b : S50) (h : n48 a b = false) : a = b := by
  obtain ⟨a0, a1⟩ := a
  obtain ⟨b0, b1⟩ := b
  simp [n48] at h
  simp [h]
theorem n33_eq (a b : S52) (h : n33 a b = false) : a = b := by
  obtain ⟨a0, a1, a2⟩ := a
  obtain ⟨b0, b1, b2⟩ := b
  simp [n33] at h
  simp [h]
theorem bytes_eq {a b : ByteArray} (h : a.toList = b.toList) : a = b := by
  rw [ByteArray.toList_eq, ByteArray.toList_eq] at h
  ext1
  exact Array.toList_inj.mp h
theorem n46_eq (a b : S42) (h : n46 a b = false) : a = b := by
  obtain ⟨a0, a1, a2⟩ := a
  obtain ⟨b0, b1, b2⟩ := b
  simp only [n46, Bool.or_eq_false_iff, Bool.not_eq_false', beq_iff_eq] at h
  obtain ⟨rfl, rfl, h⟩ := h
  rw [bytes_eq h]
theorem sameP_eq (x y : S47) (h : sameP x y = true) : x = y := by
  obtain ⟨a0, a1, a2, a3, a4⟩ := x
  obtain ⟨b0, b1, b2, b3, b4⟩ := y
  simp only [sameP, Bool.and_eq_true, decide_eq_true_eq] at h
  obtain ⟨rfl, rfl, h2, h3, h4⟩ := h
  rw [eqZ_eq n48_eq _ _ h2, eqZ_eq n46_eq _ _ h3, eqZ_eq n33_eq _ _ h4]
theorem sameL_eq : ∀ (xs ys : List S47), sameL xs ys = true → xs = ys
  | [], [], _ => rfl
  | [], y :: ys, h => by simp [sameL] at h
  | x :: xs, [], h => by simp [sameL] at h
  | x :: xs, y :: ys, h => by
    simp only [sameL, List.zip_cons_cons, List.all_cons, Bool.and_eq_true, List.length_cons, decide_eq_true_eq] at h
    obtain ⟨h1, h2, h3⟩ := h
    rw [sameP_eq x y h2, sameL_eq xs ys (by simp only [sameL, Bool.and_eq_true, decide_eq_true_eq]; exact ⟨by omega, h3⟩)]
theorem listok {l : List S47} (h : checkS l = 0) (hi : inP l) : (Cod.list 256 (by decide) codP).ok l := by
  obtain ⟨hm, hf⟩ := fine_all h hi
  exact ⟨hm, fun q hq => codP_ok (hf q hq)⟩
theorem prog_cut {l m : List S47} {r t : List UInt8} (h : checkS l = 0) (hi : inP l) (h2 : checkS m = 0) (hi2 : inP m) (e : progE l ++ r = progE m ++ t) : l = m ∧ r = t :=
  (Cod.list 256 (by decide) codP).cut (listok h hi) (listok h2 hi2) e
theorem k_j1 (L : List S47) (s : ByteArray) (x9 b : Int) (hc : checkS L = 0) (hi : inP L) (hs : s.data.toList = progE L) (h0 : 0 ≤ x9) (h1 : x9 < (s.size : Int)) (hB : L.length ≤ 140737488351232 ∧ ∀ x ∈ L, inB x) :
    Ev (fun k => tallowlaw21_CodecCut.j1 k b s x9 false L) true := by
  generalize hy : strOfNums ((bytesOf s).set x9.toNat b) = s2
  have hw : Ev (fun k => (tallowlaw21_works.f k).bind fun t => some t) true := Ev.bind (f := fun _ t => some t) works_ok (Ev.now _)
  have hl : (bytesOf s).length = s.size := bytesOf_length s
  refine Ev.step (f := fun k => (codec_Decode.f k s2).bind fun bt => _) (fun k => by rw [tallowlaw21_CodecCut.j1]; simp only [Bool.false_eq_true, if_false, Option.bind_some]; rw [if_pos h0, if_pos (by rw [hl]; exact h1), hy]) ?_
  rcases dec_no (s := s2) with e | ⟨l, e, hz, he, hcl, hil⟩
  · refine Ev.bind (f := fun k t => _) (Ev.eq (dec_ok s2) e) ?_
    exact Ev.congr (f := fun k => (tallowlaw21_works.f k).bind fun t => some t) (fun k => rfl) hw
  · refine Ev.bind (f := fun k t => _) (Ev.eq (dec_ok s2) e) ?_
    have hq : (sameL L l == (s2.toList == s.toList)) = true := by
      rw [ByteArray.toList_eq, ByteArray.toList_eq, he, hs]
      by_cases hsm : sameL L l = true
      · rw [hsm, ← sameL_eq _ _ hsm]; simp
      · have : ¬ progE l = progE L := fun e2 => hsm (by
          have := (prog_cut hcl hil hc hi (r := []) (t := []) (by rw [e2])).1
          rw [this]; exact sameL_self L)
        rw [Bool.not_eq_true] at hsm
        rw [hsm]
        simp [this]
    refine Ev.congr (f := fun k => (code_Same.f k L l).bind fun t => if (t == (s2.toList == s.toList)) = true then (tallowlaw21_works.f k).bind fun t => some t else none) (fun k => rfl) ?_
    refine Ev.bind (f := fun k t => if (t == (s2.toList == s.toList)) = true then (tallowlaw21_works.f k).bind fun t => some t else none) (c_Same L l hB.1 hB.2) ?_
    exact Ev.congr (f := fun k => (tallowlaw21_works.f k).bind fun t => some t) (fun k => by rw [if_pos hq]) hw
theorem progE_pos (l : List S47) : 0 < (progE l).length := by
  unfold progE
  rw [List.length_append]
  have : 0 < (putN l.length).length := by
    show 0 < (putF 9 l.length).length
    rw [putF]
    split <;> simp
  omega
theorem dec_beg {L : List S47} {s : ByteArray} {n : Nat} (hc : checkS L = 0) (hi : inP L) (hs : s.data.toList = progE L) (hn : n < s.size) : decS (s.extract 0 n) = ([], 4) := by
  rcases dec_no (s := s.extract 0 n) with e | ⟨l, e, hz, he, hcl, hil⟩
  · exact e
  · have h1 : (s.extract 0 n).data.toList = (progE L).take n := by rw [extract_take hs n]
    have h2 := (prog_cut hcl hil hc hi (r := (progE L).drop n) (t := []) (by rw [List.append_nil, ← he, h1, List.take_append_drop])).2
    have h3 : (progE L).length = s.size := by rw [← hs, sz_data]
    have h4 := congrArg List.length h2
    rw [List.length_drop, List.length_nil] at h4
    omega
theorem dec_more {L : List S47} {s t : ByteArray} (hc : checkS L = 0) (hi : inP L) (hs : s.data.toList = progE L) (ht : t.data.toList ≠ []) : decS (s ++ t) = ([], 4) := by
  rcases dec_no (s := s ++ t) with e | ⟨l, e, hz, he, hcl, hil⟩
  · exact e
  · have h1 : (s ++ t).data.toList = progE L ++ t.data.toList := by rw [← hs]; simp
    have h2 := (prog_cut hc hi hcl hil (r := t.data.toList) (t := []) (by rw [List.append_nil, ← he, h1])).2
    exact absurd h2 ht
theorem k_j0 (L : List S47) (s : ByteArray) (a b : Int) (z : Bool) (ha : 0 ≤ a ∧ a < 65536) (hz : z = true ∨ (checkS L = 0 ∧ inP L ∧ s.data.toList = progE L ∧ s.size ≤ 262144)) (hB : L.length ≤ 140737488351232 ∧ ∀ x ∈ L, inB x) :
    Ev (fun k => tallowlaw21_CodecCut.j0 k a b s z L) true := by
  by_cases hzt : z = true
  · subst hzt
    exact Ev.step (f := fun k => (tallowlaw21_works.f k).bind fun t => some t) (fun k => by rw [tallowlaw21_CodecCut.j0, if_pos rfl]) (Ev.bind (f := fun _ t => some t) works_ok (Ev.now _))
  · obtain ⟨hc, hi, hs, h6⟩ := hz.resolve_left hzt
    have hp : 0 < s.size := by rw [← sz_data, hs]; exact progE_pos L
    have e1 : Int.tmod (wrap64 a) (s.size : Int) = ((a.toNat % s.size : Nat) : Int) := by
      have e0 : wrap64 a = ((a.toNat : Nat) : Int) := by unfold wrap64; omega
      rw [e0]
      exact Int.ofNat_tmod _ _
    have hlt : a.toNat % s.size < s.size := Nat.mod_lt _ hp
    generalize a.toNat % s.size = n at e1 hlt
    have ht : (strOfNums [b]).data.toList = [UInt8.ofNat b.toNat] := rfl
    have hsz : (strOfNums [b]).size = 1 := rfl
    refine Ev.step (f := fun k => (codec_Decode.f k (s.extract 0 n)).bind fun bt => (codec_Decode.f k (s ++ strOfNums [b])).bind fun bt2 => if bt.2 = 4 then tallowlaw21_CodecCut.j1 k b s (n : Int) (bt2.2 != 4) L else tallowlaw21_CodecCut.j1 k b s (n : Int) true L) (fun k => ?_) ?_
    · rw [tallowlaw21_CodecCut.j0, if_neg hzt, if_neg (by omega), e1, if_pos (by omega), if_pos (by omega), Int.toNat_natCast]
      simp only [Option.bind_some]
      rw [hsz]
      simp only [show s.size + 1 ≤ 9223372036854775807 from by omega, if_true]
    · refine Ev.bind (f := fun k t => _) (Ev.eq (dec_ok _) (dec_beg hc hi hs hlt)) ?_
      refine Ev.bind (f := fun k t => _) (Ev.eq (dec_ok _) (dec_more hc hi hs (by rw [ht]; simp))) ?_
      exact Ev.congr (f := fun k => tallowlaw21_CodecCut.j1 k b s (n : Int) false L) (fun k => rfl) (k_j1 L s n b hc hi hs (by omega) (by omega) hB)
theorem cut_ev (l : List S47) (a b : Int) (ha : 0 ≤ a ∧ a < 65536) (hi : inP l) : Ev (fun k => tallowlaw21_CodecCut.f k l a b) true := by
  have h1 := short_in (l := l)
  have h2 := short_inP hi
  generalize hL : shortL l = L at h1 h2
  have hB : L.length ≤ 140737488351232 ∧ ∀ x ∈ L, inB x := ⟨by omega, h1.1⟩
  unfold tallowlaw21_CodecCut.f
  refine Ev.bind (f := fun k t => _) (Ev.eq (short_ok l) hL) ?_
  refine Ev.bind (f := fun k t => _) (enc_ok L h2) ?_
  by_cases h0 : (encS L).2 = 0
  · refine Ev.congr (f := fun k => tallowlaw21_CodecCut.j0 k a b (encS L).1 ((encS L).1.toList == []) L) (fun k => by simp only [h0, if_true]) (k_j0 L _ a b _ ha (.inr ?_) hB)
    by_cases hc : checkS L = 0
    · unfold encS at h0 ⊢
      rw [if_pos hc] at h0 ⊢
      by_cases hg : (progE L).length > 262144
      · rw [if_pos hg] at h0; cases h0
      · rw [if_neg hg]
        exact ⟨hc, h2, rfl, by show (progE L).toArray.size ≤ _; rw [List.size_toArray]; omega⟩
    · unfold encS at h0
      rw [if_neg hc] at h0
      exact absurd h0 hc
  · exact Ev.congr (f := fun k => tallowlaw21_CodecCut.j0 k a b (encS L).1 true L) (fun k => by rw [if_neg h0]) (k_j0 L _ a b true ha (.inl rfl) hB)
theorem codecCut (l : List S47) (a b : Int) (h : OkL l) (ha : (Lit.int .u16 a).wf = true) {p : Prop} (_hp : p) : ∃ k, tallowlaw21_CodecCut.f k l a b = some true := by
  have h2 : 0 ≤ a ∧ a < 65536 := by
    simp [Lit.wf, IntKind.min, IntKind.max, IntKind.bits, IntKind.signed] at ha
    omega
  exact (cut_ev l a b h2 h.inP).rounds
end Go.Proofs.Ytkkgbbfojmnopaa.Z
end
