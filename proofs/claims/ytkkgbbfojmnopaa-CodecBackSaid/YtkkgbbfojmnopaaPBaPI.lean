import Derived.Test.YtkkgbbfojmnopaaPBaPH
set_option linter.unusedVariables false
set_option linter.unusedSimpArgs false
section
namespace Go.Proofs.Ytkkgbbfojmnopaa.Z
open Go.RowKit Go.Proofs.Ytkkgbbfojmnopaa.G Go.Proofs.YtkkgbbfojmnopaaW.PrintWords Go.Proofs.YtkkgbbfojmnopaaW.PrintLast Go.Proofs.YtkkgbbfojmnopaaW.PrintMore
set_option linter.unusedVariables false
set_option linter.unusedSimpArgs false
theorem check_not4 (l : List S47) : checkS l = 0 → encS l = (⟨(progE l).toArray⟩, 0) ∨ encS l = (⟨#[]⟩, 3) := by
  intro h
  unfold encS
  rw [if_pos h]
  split
  · exact .inr rfl
  · exact .inl rfl
theorem b_j1 (s : ByteArray) : Ev (fun k => tallowlaw21_CodecBack.j1 k s) true := by
  rcases dec_no (s := s) with h | ⟨l, h, hs, he, hc, hi⟩
  · refine Ev.step (f := fun k => (codec_Decode.f k s).bind fun bt451 => _) (fun k => by rw [tallowlaw21_CodecBack.j1]) ?_
    refine Ev.bind (f := fun k t => _) (Ev.eq (dec_ok s) h) ?_
    refine Ev.congr (f := fun k => (tallowlaw21_works.f k).bind fun t => some t) (fun k => rfl) (Ev.bind (f := fun _ t => some t) works_ok (Ev.now _))
  · have hE : encS l = (⟨(progE l).toArray⟩, 0) := by
      unfold encS
      rw [if_pos hc, ← he, if_neg (by rw [sz_data]; omega)]
    refine Ev.step (f := fun k => (codec_Decode.f k s).bind fun bt451 => _) (fun k => by rw [tallowlaw21_CodecBack.j1]) ?_
    refine Ev.bind (f := fun k t => _) (Ev.eq (dec_ok s) h) ?_
    refine Ev.congr (f := fun k => (codec_Encode.f k l).bind fun t => _) (fun k => rfl) ?_
    refine Ev.bind (f := fun k t => _) (Ev.eq (enc_ok l hi) hE) ?_
    have ht : (⟨(progE l).toArray⟩ : ByteArray).toList = s.toList := by rw [ByteArray.toList_eq, ByteArray.toList_eq, he]
    refine Ev.congr (f := fun k => (code_Check.f k l).bind fun t => if t = 0 then (tallowlaw21_works.f k).bind fun t => some t else some false) (fun k => ?_) ?_
    · simp only [if_true]
      rw [if_pos ht]
    refine Ev.bind (f := fun k t => if t = 0 then (tallowlaw21_works.f k).bind fun t => some t else some false) (Ev.eq (c_check l) hc) ?_
    exact Ev.congr (f := fun k => (tallowlaw21_works.f k).bind fun t => some t) (fun k => rfl) (Ev.bind (f := fun _ t => some t) works_ok (Ev.now _))
theorem b_j0 (s b : ByteArray) (l : List S47) (e : Int) (hb : ∀ x ∈ l, inB x) (hl : l.length ≤ 140737488351232) (h : e = 0 → decS b = (l, 0)) : Ev (fun k => tallowlaw21_CodecBack.j0 k s b e false l) true := by
  by_cases he : e = 0
  · subst he
    refine Ev.step (f := fun k => (codec_Decode.f k b).bind fun t => _) (fun k => by rw [tallowlaw21_CodecBack.j0]; rfl) ?_
    refine Ev.bind (f := fun k t => _) (Ev.eq (dec_ok b) (h rfl)) ?_
    refine Ev.congr (f := fun k => (code_Same.f k l l).bind fun t => if t = true then tallowlaw21_CodecBack.j1 k s else some false) (fun k => rfl) ?_
    refine Ev.bind (f := fun k t => if t = true then tallowlaw21_CodecBack.j1 k s else some false) (Ev.eq (c_Same l l hl hb) (sameL_self l)) ?_
    exact Ev.congr (f := fun k => tallowlaw21_CodecBack.j1 k s) (fun k => rfl) (b_j1 s)
  · exact Ev.step (f := fun k => tallowlaw21_CodecBack.j1 k s) (fun k => by rw [tallowlaw21_CodecBack.j0]; simp [he]) (b_j1 s)
theorem short_in {l : List S47} : (∀ x ∈ shortL l, inB x) ∧ (shortL l).length ≤ 12 := by
  constructor
  · intro x hx
    obtain ⟨q, _, rfl⟩ := List.mem_map.1 hx
    exact ⟨by show (q.f2.take 70).length ≤ _; rw [List.length_take]; omega, by show (q.f3.take 60).length ≤ _; rw [List.length_take]; omega, by show (q.f4.take 200).length ≤ _; rw [List.length_take]; omega⟩
  · show ((l.take 12).map cutP).length ≤ 12
    rw [List.length_map, List.length_take]; omega
theorem short_inP {l : List S47} (h : inP l) : inP (shortL l) := by
  intro q hq c hc
  obtain ⟨q0, h0, rfl⟩ := List.mem_map.1 hq
  exact h q0 (List.mem_of_mem_take h0) c (List.mem_of_mem_take hc)
theorem back_ev (l : List S47) (s : ByteArray) (hi : inP l) : Ev (fun k => tallowlaw21_CodecBack.f k l s) true := by
  have h1 := short_in (l := l)
  have h2 := short_inP hi
  generalize hL : shortL l = L at h1 h2
  have hm := mn_nat s.size 6000
  have hm' : mn (s.size : Int) 6000 = ((min s.size 6000 : Nat) : Int) := hm
  unfold tallowlaw21_CodecBack.f
  refine Ev.bind (f := fun k t => _) (Ev.eq (short_ok l) hL) ?_
  refine Ev.congr (f := fun k => (codec_Encode.f k L).bind fun t => (code_Check.f k L).bind fun t2 => _) (fun k => by rw [hm', if_pos (by omega), if_pos (by omega)]) ?_
  refine Ev.bind (f := fun k t => _) (enc_ok L h2) ?_
  refine Ev.bind (f := fun k t => _) (c_check L) ?_
  have hD : (encS L).2 = 0 → decS (encS L).1 = (L, 0) := by
    intro h
    by_cases hc : checkS L = 0
    · rcases check_not4 L hc with e | e
      · rw [e]
        refine dec_yes ?_ rfl hc h2
        have : ¬ (progE L).length > 262144 := fun hgt => by unfold encS at e; rw [if_pos hc, if_pos hgt] at e; injection e with _ e2; cases e2
        show (progE L).toArray.size ≤ 262144
        rw [List.size_toArray]; omega
      · rw [e] at h; cases h
    · unfold encS at h
      rw [if_neg hc] at h
      exact absurd h hc
  by_cases hq : (encS L).2 = checkS L
  · exact Ev.congr (f := fun k => tallowlaw21_CodecBack.j0 k (s.extract 0 ((min s.size 6000 : Nat) : Int).toNat) (encS L).1 (encS L).2 false L) (fun k => by simp only [hq, if_true]) (b_j0 _ _ L _ h1.1 (by omega) hD)
  · have h3 : (encS L).2 = 3 := by
      by_cases hc : checkS L = 0
      · rcases check_not4 L hc with e | e
        · exact absurd (by rw [e, hc]) hq
        · rw [e]
      · exact absurd (by unfold encS; rw [if_neg hc]) hq
    exact Ev.congr (f := fun k => tallowlaw21_CodecBack.j0 k (s.extract 0 ((min s.size 6000 : Nat) : Int).toNat) (encS L).1 (encS L).2 false L) (fun k => by rw [if_neg hq, h3]; rfl) (b_j0 _ _ L _ h1.1 (by omega) hD)
end Go.Proofs.Ytkkgbbfojmnopaa.Z
end
