import Derived.Test.YtkkgbbfojmnopaaPLaPF
set_option linter.unusedVariables false
set_option linter.unusedSimpArgs false
section
namespace Go.Proofs.Ytkkgbbfojmnopaa.Z
open Go.RowKit Go.Proofs.Ytkkgbbfojmnopaa.G Go.Proofs.YtkkgbbfojmnopaaW.PrintWords Go.Proofs.YtkkgbbfojmnopaaW.PrintLast Go.Proofs.YtkkgbbfojmnopaaW.PrintMore
def progE (l : List S47) : List UInt8 := putN l.length ++ l.flatMap codP.enc
def finE (x : List Int) : ByteArray × Int := if (x.length : Int) > 262144 then (⟨#[]⟩, 3) else (strOfNums x, 0)
theorem str_nb (l : List UInt8) : strOfNums (nb l) = ⟨l.toArray⟩ := by
 have e : ((fun n : Int => UInt8.ofNat n.toNat) ∘ fun b : UInt8 => (b.toNat : Int)) = id := by
  funext b
  simp
 unfold strOfNums nb
 rw [List.map_map, e, List.map_id]
theorem e_go (l : List S47) (hf : ∀ q ∈ l, Fine q) (hm : l.length ≤ 256) : ∀ (d i : Nat) (acc : List Int), i + d = l.length → acc.length + 20000000 * d ≤ 100000000000 →
  Ev (fun k => codec_Encode.l0 k acc l (l.length : Int) (i : Int)) (finE (acc ++ nb ((l.drop i).flatMap codP.enc)))
 | 0, i, acc, hi, hl => by
  obtain rfl : i = l.length := by omega
  rw [List.drop_length]
  show Ev _ (finE (acc ++ []))
  rw [List.append_nil]
  refine Ev.step (f := fun _ => some (finE acc)) (fun k => ?_) (Ev.now _)
  rw [codec_Encode.l0, if_neg (by omega)]
  unfold finE
  split <;> rfl
 | d + 1, i, acc, hi, hl => by
  have hlt : i < l.length := by omega
  have hb := hf l[i] (List.getElem_mem hlt)
  refine Ev.step (f := fun k => (codec_proto.f k acc l[i].f0 l[i].f1 l[i].f2 l[i].f3 l[i].f4).bind fun t => codec_Encode.l0 k t l (l.length : Int) ((i + 1 : Nat) : Int)) (fun k => ?_) ?_
  ·rw [codec_Encode.l0, if_pos (by omega), if_pos (by omega), if_pos (by omega), rd41 _ _ hlt, w_one (by omega)]
  ·rw [List.drop_eq_getElem_cons hlt, List.flatMap_cons, nb_append, ← List.append_assoc]
   refine Ev.bind (f := fun k t => codec_Encode.l0 k t l (l.length : Int) ((i + 1 : Nat) : Int)) (proto_ok _ hb acc (by omega)) ?_
   have := codP_le hb
   exact e_go l hf hm d (i + 1) _ (by omega) (by rw [List.length_append, nb_len]; omega)
def encS (l : List S47) : ByteArray × Int := if checkS l = 0 then (if (progE l).length > 262144 then (⟨#[]⟩, 3) else (⟨(progE l).toArray⟩, 0)) else (⟨#[]⟩, checkS l)
def inP (l : List S47) : Prop := ∀ q ∈ l, ∀ c ∈ q.f3, inC c
theorem fine_all {l : List S47} (h : checkS l = 0) (hi : inP l) : l.length ≤ 256 ∧ ∀ q ∈ l, Fine q := by
 obtain ⟨_, h1, h2⟩ := (checkS_zero l).1 h
 refine ⟨h1, fun q hq => ?_⟩
 obtain ⟨j, hj, rfl⟩ := List.mem_iff_getElem.1 hq
 exact Fine.of (h2 j hj) h1 (hi _ hq)
theorem enc_ok (l : List S47) (hi : inP l) : Ev (fun k => codec_Encode.f k l) (encS l) := by
 refine Ev.congr (f := fun k => (code_Check.f k l).bind fun t => if t = 0 then (codec_ints.f k [] [(l.length : Int)]).bind fun t2 => codec_Encode.l0 k t2 l (l.length : Int) ((0 : Nat) : Int) else some (⟨#[]⟩, t)) (fun k => rfl) ?_
 refine Ev.bind (f := fun k t => if t = 0 then (codec_ints.f k [] [(l.length : Int)]).bind fun t2 => codec_Encode.l0 k t2 l (l.length : Int) ((0 : Nat) : Int) else some (⟨#[]⟩, t)) (c_check l) ?_
 unfold encS
 by_cases h : checkS l = 0
 case neg =>
  simp only [h, if_false]
  exact Ev.now _
 obtain ⟨hm, hf⟩ := fine_all h hi
 simp only [h, if_true]
 have hp := putN_le l.length
 refine Ev.bind (f := fun k t2 => codec_Encode.l0 k t2 l (l.length : Int) ((0 : Nat) : Int)) (a := nb (putN l.length)) (Ev.eq (ints_ok [(l.length : Int)] [] (by simp; omega) (by simp) (by simp)) (by simp)) ?_
 refine Ev.eq (e_go l hf hm l.length 0 _ (by omega) (by rw [nb_len]; omega)) ?_
 rw [List.drop_zero, ← nb_append]
 unfold finE
 rw [nb_len, str_nb]
 show (if ((progE l).length : Int) > 262144 then _ else _) = _
 by_cases hl : (progE l).length > 262144
 ·rw [if_pos hl, if_pos (by omega)]
 rw [if_neg hl, if_neg (by omega)]; rfl
def decS (s : ByteArray) : List S47 × Int := if s.size ≤ 262144 then match (Cod.list 256 (by decide) codP).dec s.data.toList with
  | some (l, []) => if checkS l = 0 then (l, 0) else ([], 4)
  | _ => ([], 4)
 else ([], 4)
theorem dec_ok (s : ByteArray) : Ev (fun k => codec_Decode.f k s) (decS s) := by
 unfold codec_Decode.f decS
 by_cases h : s.size ≤ 262144
 case neg =>
  simp only [if_neg h]
  exact Ev.now _
 simp only [if_pos h]
 cases hd : (Cod.list 256 (by decide) codP).dec s.data.toList with
 | none => exact Ev.now _
 | some y =>
  obtain ⟨l, r⟩ := y
  cases r with
  | cons a t => exact Ev.now _
  | nil =>
   refine Ev.bind (f := fun _ c => some (if c = 0 then (l, 0) else ([], 4))) (c_check l) ?_
   exact Ev.now _
theorem dec_yes {s : ByteArray} {l : List S47} (h0 : s.size ≤ 262144) (h1 : s.data.toList = progE l) (h2 : checkS l = 0) (hi : inP l) : decS s = (l, 0) := by
 obtain ⟨hm, hf⟩ := fine_all h2 hi
 have hr := (Cod.list 256 (by decide) codP).rt l [] ⟨hm, fun q hq => codP_ok (hf q hq)⟩
 rw [List.append_nil] at hr
 unfold decS
 rw [if_pos h0, h1]
 have e : (Cod.list 256 (by decide) codP).dec (progE l) = some (l, []) := hr
 rw [e]
 simp only [h2, if_true]
end Go.Proofs.Ytkkgbbfojmnopaa.Z
end
