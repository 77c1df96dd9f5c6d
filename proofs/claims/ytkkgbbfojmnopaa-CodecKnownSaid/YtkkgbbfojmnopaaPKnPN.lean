import Derived.Test.YtkkgbbfojmnopaaPKnPM
set_option linter.unusedVariables false
set_option linter.unusedSimpArgs false
section
namespace Go.Proofs.Ytkkgbbfojmnopaa.Z
open Go.RowKit Go.Proofs.Ytkkgbbfojmnopaa.G Go.Proofs.YtkkgbbfojmnopaaW.PrintWords Go.Proofs.YtkkgbbfojmnopaaW.PrintLast Go.Proofs.YtkkgbbfojmnopaaW.PrintMore
set_option linter.unusedVariables false
set_option linter.unusedSimpArgs false
theorem str_size (xs : List Int) : (strOfNums xs).size = xs.length := by
  show (xs.map fun n => UInt8.ofNat n.toNat).toArray.size = _
  simp
def c0K : S42 := ⟨5, 0, strOfNums (List.replicate 4096 0)⟩
def manyC (n : Nat) : List S42 := List.replicate n c0K
theorem many_check (n : Nat) (hn : n ≤ 100) : checkS (leastL (manyC n)) = 0 := by
  rw [checkS_zero]
  refine ⟨Nat.one_pos, show 1 ≤ 256 by decide, fun j hj => ?_⟩
  obtain rfl : j = 0 := by have : j < 1 := hj; omega
  show protoS 0 1 [] (manyC n) [⟨0, 0, 0⟩, ⟨19, 0, 0⟩] _ _ = 0
  rw [protoS_zero]
  refine ⟨by simp [manyC]; omega, rfl, ?_, ?_, by decide, rfl⟩
  · refine List.all_eq_true.2 fun c hc => ?_
    obtain rfl := List.eq_of_mem_replicate hc
    rw [okC_eq]
    rfl
  · refine List.all_eq_true.2 fun c hc => ?_
    obtain rfl := List.eq_of_mem_replicate hc
    unfold smC c0K
    rw [str_size, List.length_replicate]
    rfl
theorem many_in (n : Nat) : inP (leastL (manyC n)) := by
  intro q hq c hc
  simp only [leastL, List.mem_singleton] at hq
  subst hq
  obtain rfl := List.eq_of_mem_replicate hc
  exact ⟨by decide, by decide⟩
theorem c0_len : (codC.enc c0K).length = 4099 := by
  rw [codC_enc, if_neg (by decide)]
  have h : c0K.f2.data.toList.length = 4096 := by
    rw [sz_data]
    show (strOfNums (List.replicate 4096 0)).size = 4096
    rw [str_size, List.length_replicate]
  rw [List.length_append, List.length_append, h]
  rfl
theorem flat_rep (n : Nat) : ((manyC n).flatMap codC.enc).length = n * 4099 := by
  induction n with
  | zero => rfl
  | succ n ih =>
    show ((c0K :: manyC n).flatMap codC.enc).length = _
    rw [List.flatMap_cons, List.length_append, ih, c0_len, Nat.succ_mul]
    omega
theorem least_len (cs : List S42) : (progE (leastL cs)).length = 11 + (putN cs.length).length + (cs.flatMap codC.enc).length := by
  have e : progE (leastL cs) = [1, 0, 1, 0] ++ (putN cs.length ++ (cs.flatMap codC.enc ++ [2, 0, 0, 0, 19, 0, 0])) := by
    show putN 1 ++ ((leastL cs).flatMap codP.enc) = _
    rw [leastL, List.flatMap_singleton, codP_enc]
    simp only [List.flatMap_nil, List.append_assoc]
    rfl
  rw [e]
  simp only [List.length_append]
  show 4 + (_ + (_ + 7)) = _
  omega
theorem many_len (n : Nat) (hn : n < 128) : (progE (leastL (manyC n))).length = 12 + n * 4099 := by
  rw [least_len, flat_rep]
  have h1 : (manyC n).length = n := List.length_replicate
  have h2 : (putN (manyC n).length).length = 1 := by
    rw [h1]
    show (putF 9 n).length = 1
    rw [putF, if_pos hn]
    rfl
  rw [h2]
theorem many70 : encS (leastL (manyC 70)) = (⟨#[]⟩, 3) := by
  unfold encS
  rw [if_pos (many_check 70 (by decide)), many_len 70 (by decide), if_pos (by decide)]
theorem many63 : encS (leastL (manyC 63)) = (⟨(progE (leastL (manyC 63))).toArray⟩, 0) := by
  unfold encS
  rw [if_pos (many_check 63 (by decide)), many_len 63 (by decide), if_neg (by decide)]
theorem long_size : (⟨(progE (leastL (manyC 63))).toArray⟩ : ByteArray).size = 258249 := by
  show (progE (leastL (manyC 63))).toArray.size = _
  rw [List.size_toArray, many_len 63 (by decide)]
theorem long63 : decS ⟨(progE (leastL (manyC 63))).toArray⟩ = (leastL (manyC 63), 0) := dec_yes (by rw [long_size]; decide) rfl (many_check 63 (by decide)) (many_in 63)
theorem longer : decS (⟨(progE (leastL (manyC 63))).toArray⟩ ++ strOfNums (List.replicate 5000 0)) = ([], 4) := by
  unfold decS
  rw [if_neg]
  rw [ByteArray.size_append, long_size, str_size, List.length_replicate]
  decide
theorem kn_end (X70 X63 : List S42) (b63 z : ByteArray) (hlen : (X70.length : Int) = 70) (htake : X70.take 63 = X63) (h70 : Ev (fun k => codec_Encode.f k (leastL X70)) (⟨#[]⟩, 3)) (h63 : Ev (fun k => codec_Encode.f k (leastL X63)) (b63, 0))
    (hd : Ev (fun k => codec_Decode.f k b63) (leastL X63, 0)) (hz : strOfNums (List.replicate 5000 0) = z) (hsz : b63.size + z.size ≤ 9223372036854775807) (hm : Ev (fun k => codec_Decode.f k (b63 ++ z)) ([], 4)) : Ev (fun k => tallowlaw21_CodecKnown.l1 k 2 2 X70 70) true := by
  refine Ev.step (f := fun k => (tallowlaw21_least.f X70).bind fun t272 => _) (fun k => by rw [tallowlaw21_CodecKnown.l1, if_neg (by decide)]) ?_
  refine Ev.bind (f := fun k t => _) (a := leastL X70) (Ev.now _) ?_
  refine Ev.bind (f := fun k t => _) h70 ?_
  refine Ev.congr (f := fun k => (tallowlaw21_least.f X63).bind fun t282 => _) (fun k => by rw [if_pos (by rw [hlen]; decide), htake]) ?_
  refine Ev.bind (f := fun k t => _) (a := leastL X63) (Ev.now _) ?_
  refine Ev.bind (f := fun k t => _) h63 ?_
  refine Ev.bind (f := fun k t => _) hd ?_
  refine Ev.congr (f := fun k => (codec_Decode.f k (b63 ++ z)).bind fun bt => _) (fun k => by
    rw [if_pos (by decide), Option.bind_some, hz, if_pos hsz]) ?_
  refine Ev.bind (f := fun k t => _) hm ?_
  exact Ev.congr (f := fun k => (tallowlaw21_works.f k).bind fun t => some t) (fun k => rfl) (Ev.bind (f := fun _ t => some t) works_ok (Ev.now _))
theorem kn_step (i : Nat) (hi : i < 70) (k : Nat) : tallowlaw21_CodecKnown.l1 (k + 1) 2 2 (manyC i) (i : Int) = tallowlaw21_CodecKnown.l1 k 2 2 (manyC (i + 1)) ((i + 1 : Nat) : Int) := by
  have e : manyC i ++ [⟨5, 0, strOfNums (List.replicate 4096 0)⟩] = manyC (i + 1) := by
    show List.replicate i c0K ++ [c0K] = List.replicate (i + 1) c0K
    rw [List.replicate_succ']
  have hl : (manyC i).length = i := List.length_replicate
  rw [tallowlaw21_CodecKnown.l1, if_pos (by omega), if_pos (by decide), if_pos (by rw [hl]; omega), w_one (by omega), e]
theorem kn_l1 : ∀ (d i : Nat), i + d = 70 → Ev (fun k => tallowlaw21_CodecKnown.l1 k 2 2 (manyC i) (i : Int)) true
  | 0, i, hi => by
    obtain rfl : i = 70 := by omega
    refine kn_end (manyC 70) (manyC 63) ⟨(progE (leastL (manyC 63))).toArray⟩ _ (by rw [manyC, List.length_replicate]; rfl) (by rw [manyC, List.take_replicate]; rfl) (Ev.eq (enc_ok _ (many_in 70)) many70) (Ev.eq (enc_ok _ (many_in 63)) many63) (Ev.eq (dec_ok _) long63) rfl ?_ (Ev.eq (dec_ok _) longer)
    rw [long_size, str_size, List.length_replicate]
    decide
  | d + 1, i, hi => Ev.step (f := fun k => tallowlaw21_CodecKnown.l1 k 2 2 (manyC (i + 1)) ((i + 1 : Nat) : Int)) (fun k => kn_step i (by omega) k) (kn_l1 d (i + 1) (by omega))
theorem kn_l0 : ∀ (d i : Nat), i + d = 13 → Ev (fun k => tallowlaw21_CodecKnown.l0 k noneB (noneB.length : Int) (i : Int)) true
  | 0, i, hi => by
    obtain rfl : i = 13 := by omega
    refine Ev.step (f := fun k => (codec_Encode.f k []).bind fun bt256 => (tallowlaw21_least.f [⟨2, 0, ⟨#[]⟩⟩]).bind fun t261 => (codec_Encode.f k t261).bind fun bt264 => tallowlaw21_CodecKnown.l1 k bt256.2 bt264.2 [] 0) (fun k => by
      rw [tallowlaw21_CodecKnown.l0, if_neg (by decide)]) ?_
    have e1 : encS [] = (⟨#[]⟩, 2) := rfl
    have e2 : encS (leastL [⟨2, 0, ⟨#[]⟩⟩]) = (⟨#[]⟩, 2) := by
      have : checkS (leastL [⟨2, 0, ⟨#[]⟩⟩]) = 2 := by rw [check_two]; decide +kernel
      unfold encS
      rw [this, if_neg (by decide)]
    refine Ev.bind (f := fun k t => _) (Ev.eq (enc_ok [] (by intro q hq; cases hq)) e1) ?_
    refine Ev.bind (f := fun k t => _) (a := leastL [⟨2, 0, ⟨#[]⟩⟩]) (Ev.now _) ?_
    refine Ev.bind (f := fun k t => _) (Ev.eq (enc_ok _ (by intro q hq c hc; simp only [leastL, List.mem_singleton] at hq; subst hq; simp only [List.mem_singleton] at hc; subst hc; exact ⟨by decide, by decide⟩)) e2) ?_
    exact kn_l1 70 0 rfl
  | d + 1, i, hi => by
    have hl : noneB.length = 13 := rfl
    have hlt : i < noneB.length := by rw [hl]; omega
    have hr : rdOf ByteArray.empty noneB (i : Int) = noneB[i] := by simp [rdOf, List.getD, hlt]
    refine Ev.step (f := fun k => (codec_Decode.f k noneB[i]).bind fun bt251 => if bt251.2 = 4 then (if (bt251.1.length : Int) = 0 then tallowlaw21_CodecKnown.l0 k noneB (noneB.length : Int) ((i + 1 : Nat) : Int) else none) else none) (fun k => by
      rw [tallowlaw21_CodecKnown.l0, if_pos (by omega), if_pos (by omega), if_pos (by omega), hr, w_one (by omega)]) ?_
    refine Ev.bind (f := fun k t => if t.2 = 4 then (if (t.1.length : Int) = 0 then tallowlaw21_CodecKnown.l0 k noneB (noneB.length : Int) ((i + 1 : Nat) : Int) else none) else none) (Ev.eq (dec_ok _) (dec_4 (none_all _ (List.getElem_mem hlt)))) ?_
    exact Ev.congr (f := fun k => tallowlaw21_CodecKnown.l0 k noneB (noneB.length : Int) ((i + 1 : Nat) : Int)) (fun k => rfl) (kn_l0 d (i + 1) (by omega))
theorem kn_j0 : Ev (fun k => tallowlaw21_CodecKnown.j0 k false) true := by
  refine Ev.step (f := fun k => tallowlaw21_CodecKnown.l0 k noneB (noneB.length : Int) ((0 : Nat) : Int)) (fun k => ?_) (kn_l0 13 0 rfl)
  rw [tallowlaw21_CodecKnown.j0, if_neg Bool.false_ne_true, if_pos (by decide), if_pos (by decide), if_pos (by decide), Option.bind_some]
  rfl
theorem wholeS : Ev (fun k => code_Same.f k wholeL wholeL) true :=
  Ev.eq (c_Same _ _ (by decide) (by
    intro x hx
    simp only [wholeL, leastL, List.cons_append, List.nil_append, List.mem_cons, List.not_mem_nil, or_false] at hx
    rcases hx with rfl | rfl <;> exact ⟨by decide, by decide, by decide⟩)) (sameL_self _)
theorem codecKnown_ev : Ev (fun k => tallowlaw21_CodecKnown.f k) true := by
  unfold tallowlaw21_CodecKnown.f
  refine Ev.bind (f := fun k t => _) (a := leastL wholeC) (Ev.now _) ?_
  refine Ev.congr (f := fun k => (codec_Encode.f k wholeL).bind fun bt239 => (codec_Decode.f k bt239.1).bind fun bt241 => _) (fun k => by
    rw [if_pos (by decide), Option.bind_some]
    rfl) ?_
  refine Ev.bind (f := fun k t => _) (Ev.eq (enc_ok _ whole_in) wholeE) ?_
  refine Ev.bind (f := fun k t => _) (Ev.eq (dec_ok _) wholeD) ?_
  refine Ev.congr (f := fun k => (code_Same.f k wholeL wholeL).bind fun t => if t = true then tallowlaw21_CodecKnown.j0 k false else tallowlaw21_CodecKnown.j0 k true) (fun k => ?_) ?_
  · have hb : ((⟨wholeB.toArray⟩ : ByteArray).toList != [2, 0, 1, 0, 5, 0, 1, 0, 128, 1, 1, 1, 97, 0, 255, 255, 255, 255, 255, 255, 255, 255, 255, 1, 1, 0, 2, 0, 0, 0, 19, 0, 0, 1, 2, 2, 1, 0, 0, 5, 0, 1, 20, 0, 0]) = false := by
      rw [ByteArray.toList_eq]
      rfl
    simp only [if_true]
    rw [hb]
    rfl
  · refine Ev.bind (f := fun k t => if t = true then tallowlaw21_CodecKnown.j0 k false else tallowlaw21_CodecKnown.j0 k true) wholeS ?_
    exact Ev.congr (f := fun k => tallowlaw21_CodecKnown.j0 k false) (fun k => rfl) kn_j0
theorem codecKnown : tallowlaw21_CodecKnown.Pure := codecKnown_ev.rounds
end Go.Proofs.Ytkkgbbfojmnopaa.Z
end
