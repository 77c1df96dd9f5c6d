import Derived.Test.YtkkgbbfojmnopaaPLaPE
set_option linter.unusedVariables false
set_option linter.unusedSimpArgs false
section
namespace Go.Proofs.Ytkkgbbfojmnopaa.Z
open Go.RowKit Go.Proofs.Ytkkgbbfojmnopaa.G Go.Proofs.YtkkgbbfojmnopaaW.PrintWords Go.Proofs.YtkkgbbfojmnopaaW.PrintLast Go.Proofs.YtkkgbbfojmnopaaW.PrintMore
theorem insK_in {g nu nc : Nat} {regs protos a b : Int} {cs : List S42} (h : insK g regs nu nc cs protos a b = true) (hr : 0 ≤ regs ∧ regs ≤ 250) (hnu : nu ≤ 60) (hnc : nc ≤ 16384) (hcs : cs.length ≤ 4096) (hp : protos ≤ 256) : 0 ≤ a ∧ a ≤ 250 ∧ 0 ≤ b ∧ b ≤ 16384 := by
 unfold insK at h
 simp only [w_sm (x := regs - 1) (by omega), w_sm (x := regs - 2) (by omega)] at h
 by_cases h0 : g = 0
 ·rw [if_pos h0] at h; simp at h; omega
 rw [if_neg h0] at h
 by_cases h1 : g = 1
 ·rw [if_pos h1] at h; simp at h; omega
 rw [if_neg h1] at h
 by_cases h2 : g = 2
 ·rw [if_pos h2] at h; simp at h; omega
 rw [if_neg h2] at h
 by_cases h3 : g = 3
 ·rw [if_pos h3] at h; simp at h; omega
 rw [if_neg h3] at h
 by_cases h4 : g = 4
 ·rw [if_pos h4] at h; simp at h; omega
 rw [if_neg h4] at h
 by_cases h5 : g = 5
 ·rw [if_pos h5] at h; simp at h; omega
 rw [if_neg h5] at h
 by_cases h6 : g = 6
 ·rw [if_pos h6] at h; simp at h; omega
 rw [if_neg h6] at h
 by_cases h7 : g = 7
 ·rw [if_pos h7] at h; simp at h; omega
 rw [if_neg h7] at h
 by_cases h8 : g = 8
 ·rw [if_pos h8] at h; simp at h; omega
 rw [if_neg h8] at h
 by_cases h9 : g = 9
 ·rw [if_pos h9] at h; simp at h; omega
 rw [if_neg h9] at h
 by_cases h10 : g = 10
 ·rw [if_pos h10] at h; simp at h; omega
 rw [if_neg h10] at h
 by_cases h11 : g = 11
 ·rw [if_pos h11] at h; simp at h; omega
 rw [if_neg h11] at h
 by_cases h12 : g = 12
 ·rw [if_pos h12] at h; simp at h; omega
 rw [if_neg h12] at h
 by_cases h13 : g = 13
 ·rw [if_pos h13] at h; simp at h; omega
 rw [if_neg h13] at h
 by_cases h14 : g = 14
 ·rw [if_pos h14] at h; simp at h; omega
 rw [if_neg h14] at h
 cases h
theorem grp_in {op : Int} (h : ¬ grpOf op = 99) : 0 ≤ op ∧ op ≤ 36 := by
 apply Classical.byContradiction
 intro hn
 apply h
 unfold grpOf
 repeat rw [if_neg (by omega)]
theorem okI_in {p1 protos : Int} {ups : List S50} {cs : List S42} {code : List S52} {x : S52} (h : okI p1 ups cs code protos x = true) (hr : 0 ≤ p1 ∧ p1 ≤ 250) (hnu : ups.length ≤ 60) (hnc : code.length ≤ 16384) (hcs : cs.length ≤ 4096) (hp : protos ≤ 256) :
  (0 ≤ x.f0 ∧ x.f0 ≤ 36) ∧ 0 ≤ x.f1 ∧ x.f1 ≤ 250 ∧ 0 ≤ x.f2 ∧ x.f2 ≤ 16384 := by
 unfold okI at h
 refine ⟨grp_in fun e => ?_, insK_in h hr hnu hnc hcs hp⟩
 rw [e] at h
 cases h
theorem nat_ok {m n : Nat} (h : n ≤ m) (hm : m < 2 ^ 64) : (Cod.nat m).ok n := ⟨Nat.lt_of_le_of_lt h hm, decide_eq_true h⟩
theorem codU_ok {u : S50} (h : okU u = true) : codU.ok u := by
 have h2 := of_decide_eq_true h
 obtain ⟨f0, f1⟩ := u
 simp only at h2
 refine ⟨⟨nat_ok (m := 1) ?_ (by decide), nat_ok (m := 250) ?_ (by decide)⟩, ?_⟩
 ·show (if f0 = true then 1 else 0) ≤ 1; split <;> omega
 ·show f1.toNat ≤ 250; split at h2 <;> omega
 ·show (⟨decide ((if f0 = true then 1 else 0) = 1), ((f1.toNat : Nat) : Int)⟩ : S50) = ⟨f0, f1⟩
  have e : ((f1.toNat : Nat) : Int) = f1 := by omega
  rw [e]
  cases f0 <;> rfl
theorem codI_ok {x : S52} (h : (0 ≤ x.f0 ∧ x.f0 ≤ 36) ∧ 0 ≤ x.f1 ∧ x.f1 ≤ 250 ∧ 0 ≤ x.f2 ∧ x.f2 ≤ 16384) : codI.ok x := by
 obtain ⟨f0, f1, f2⟩ := x
 simp only at h
 refine ⟨⟨nat_ok (m := 36) (show f0.toNat ≤ 36 by omega) (by decide), nat_ok (m := 250) (show f1.toNat ≤ 250 by omega) (by decide), nat_ok (m := 16384) (show f2.toNat ≤ 16384 by omega) (by decide)⟩, ?_⟩
 show (⟨((f0.toNat : Nat) : Int), ((f1.toNat : Nat) : Int), ((f2.toNat : Nat) : Int)⟩ : S52) = ⟨f0, f1, f2⟩
 rw [show ((f0.toNat : Nat) : Int) = f0 by omega, show ((f1.toNat : Nat) : Int) = f1 by omega, show ((f2.toNat : Nat) : Int) = f2 by omega]
theorem codC_ok {c : S42} (h : okC c = true) (hs : smC c = true) (hi : inC c) : codC.ok c := by
 have h1 : (c.f2.size : Int) ≤ 4096 := of_decide_eq_true hs
 obtain ⟨f0, f1, f2⟩ := c
 unfold okC at h
 simp only [Bool.or_eq_true, Bool.and_eq_true, decide_eq_true_eq] at h h1
 rcases h with ⟨rfl, h2⟩ | ⟨rfl, rfl⟩
 ·have e2 : f2 = ⟨#[]⟩ := by
   ext1
   rw [ByteArray.toList_eq] at h2
   exact Array.toList_inj.mp h2
  subst e2
  refine ⟨show Cod.int.ok f1 from ⟨zig_lt f1 hi.1 hi.2, Cod.zag_zig f1⟩, rfl⟩
 ·refine ⟨show f2.data.toList.length ≤ 4096 by rw [sz_data]; omega, ?_⟩
  show (⟨5, 0, ⟨f2.data.toList.toArray⟩⟩ : S42) = ⟨5, 0, f2⟩
  rw [Array.toArray_toList]
theorem mem_all {α : Type} {p : α → Bool} {l : List α} (h : l.all p = true) : ∀ x ∈ l, p x = true := fun x hx => List.all_eq_true.1 h x hx
structure Fine (q : S47) : Prop where
 p0 : 0 ≤ q.f0 ∧ q.f0 ≤ 20
 p1 : 0 ≤ q.f1 ∧ q.f1 ≤ 250
 ups : q.f2.length ≤ 60
 cs : q.f3.length ≤ 4096
 code : q.f4.length ≤ 16384
 okU : ∀ u ∈ q.f2, Z.okU u = true
 okC : ∀ c ∈ q.f3, Z.okC c = true ∧ smC c = true ∧ inC c
 okI : ∀ x ∈ q.f4, (0 ≤ x.f0 ∧ x.f0 ≤ 36) ∧ 0 ≤ x.f1 ∧ x.f1 ≤ 250 ∧ 0 ≤ x.f2 ∧ x.f2 ≤ 16384
theorem Fine.of {q : S47} {i n : Nat} (h : okAt q i n) (hn : n ≤ 256) (hi : ∀ c ∈ q.f3, inC c) : Fine q := by
 obtain ⟨h1, h2, h3, h4, h5, h6⟩ := (protoS_zero _ _ _ _ _ _ _).1 h
 exact ⟨by omega, by omega, by omega, by omega, by omega, mem_all h2, fun c hc => ⟨mem_all h3 c hc, mem_all h4 c hc, hi c hc⟩, fun x hx => okI_in (mem_all h6 x hx) (by omega) (by omega) (by omega) (by omega) (by omega)⟩
theorem codP_ok {q : S47} (h : Fine q) : codP.ok q := by
 have h0 := h.p0
 have h1 := h.p1
 refine ⟨⟨nat_ok (m := 20) (show q.f0.toNat ≤ 20 by omega) (by decide), nat_ok (m := 250) (show q.f1.toNat ≤ 250 by omega) (by decide), ⟨h.ups, fun u hu => codU_ok (h.okU u hu)⟩, ⟨h.cs, fun c hc => codC_ok (h.okC c hc).1 (h.okC c hc).2.1 (h.okC c hc).2.2⟩, ⟨h.code, fun x hx => codI_ok (h.okI x hx)⟩⟩, ?_⟩
 obtain ⟨f0, f1, f2, f3, f4⟩ := q
 show (⟨((f0.toNat : Nat) : Int), ((f1.toNat : Nat) : Int), f2, f3, f4⟩ : S47) = ⟨f0, f1, f2, f3, f4⟩
 rw [show ((f0.toNat : Nat) : Int) = f0 by simp only at h0; omega, show ((f1.toNat : Nat) : Int) = f1 by simp only at h1; omega]
theorem flat_len {α β : Type} {f : α → List β} {K : Nat} : ∀ (xs : List α), (∀ x ∈ xs, (f x).length ≤ K) → (xs.flatMap f).length ≤ xs.length * K
 | [], _ => by simp
 | x :: xs, h => by
  have h1 := flat_len xs fun y hy => h y (List.mem_cons_of_mem _ hy)
  have h2 := h x List.mem_cons_self
  rw [List.flatMap_cons, List.length_append, List.length_cons, Nat.succ_mul]
  omega
theorem codI_enc (x : S52) : codI.enc x = putN x.f0.toNat ++ (putN x.f1.toNat ++ putN x.f2.toNat) := rfl
theorem codU_enc (u : S50) : codU.enc u = putN (if u.f0 = true then 1 else 0) ++ putN u.f1.toNat := rfl
theorem codI_le (x : S52) : (codI.enc x).length ≤ 30 := by
 rw [codI_enc, List.length_append, List.length_append]
 have := putN_le x.f0.toNat
 have := putN_le x.f1.toNat
 have := putN_le x.f2.toNat
 omega
theorem codU_le (u : S50) : (codU.enc u).length ≤ 20 := by
 rw [codU_enc, List.length_append]
 have := putN_le (if u.f0 = true then 1 else 0)
 have := putN_le u.f1.toNat
 omega
theorem codP_enc (q : S47) : codP.enc q = putN q.f0.toNat ++ (putN q.f1.toNat ++ ((putN q.f2.length ++ q.f2.flatMap codU.enc) ++ ((putN q.f3.length ++ q.f3.flatMap codC.enc) ++ (putN q.f4.length ++ q.f4.flatMap codI.enc)))) := rfl
theorem codP_le {q : S47} (h : Fine q) : (codP.enc q).length ≤ 20000000 := by
 have a1 := flat_len (f := codU.enc) q.f2 fun u _ => codU_le u
 have a2 := flat_len (f := codC.enc) q.f3 fun c hc => codC_le c (h.okC c hc).2.1
 have a3 := flat_len (f := codI.enc) q.f4 fun x _ => codI_le x
 have b1 := h.ups
 have b2 := h.cs
 have b3 := h.code
 rw [codP_enc]
 simp only [List.length_append]
 have := putN_le q.f0.toNat
 have := putN_le q.f1.toNat
 have := putN_le q.f2.length
 have := putN_le q.f3.length
 have := putN_le q.f4.length
 omega
theorem p_l2 (code : List S52) (hc : ∀ x ∈ code, (0 ≤ x.f0 ∧ x.f0 ≤ 36) ∧ 0 ≤ x.f1 ∧ x.f1 ≤ 250 ∧ 0 ≤ x.f2 ∧ x.f2 ≤ 16384) (hm : code.length ≤ 16384) : ∀ (d i : Nat) (l : List Int), i + d = code.length → l.length + 30 * d ≤ 500000000000 →
  Ev (fun k => codec_proto.l2 k l code (code.length : Int) (i : Int)) (l ++ nb ((code.drop i).flatMap codI.enc))
 | 0, i, l, hi, hl => by
  obtain rfl : i = code.length := by omega
  rw [List.drop_length]
  show Ev _ (l ++ [])
  rw [List.append_nil]
  exact Ev.step (f := fun _ => some l) (fun k => by rw [codec_proto.l2, if_neg (by omega)]) (Ev.now _)
 | d + 1, i, l, hi, hl => by
  have hlt : i < code.length := by omega
  have hb := hc code[i] (List.getElem_mem hlt)
  refine Ev.step (f := fun k => (codec_ints.f k l [code[i].f0, code[i].f1, code[i].f2]).bind fun t => codec_proto.l2 k t code (code.length : Int) ((i + 1 : Nat) : Int)) (fun k => ?_) ?_
  ·rw [codec_proto.l2, if_pos (by omega), if_pos (by omega), if_pos (by omega), rd33 _ _ hlt, w_one (by omega)]
  ·rw [List.drop_eq_getElem_cons hlt, List.flatMap_cons, nb_append, ← List.append_assoc]
   refine Ev.bind (f := fun k t => codec_proto.l2 k t code (code.length : Int) ((i + 1 : Nat) : Int)) (a := l ++ nb (codI.enc code[i])) (Ev.eq (ints_ok _ l (by simp; omega) (by simp) (by omega)) (by simp [codI_enc])) ?_
   have := codI_le code[i]
   exact p_l2 code hc hm d (i + 1) _ (by omega) (by rw [List.length_append, nb_len]; omega)
theorem p_l1 (q : S47) (h : Fine q) : ∀ (d i : Nat) (l : List Int), i + d = q.f3.length → l.length + 4200 * d ≤ 400000000000 →
  Ev (fun k => codec_proto.l1 k l q.f3 (q.f3.length : Int) (i : Int) q.f0 q.f1 q.f2 q.f3 q.f4) (l ++ nb ((q.f3.drop i).flatMap codC.enc ++ (putN q.f4.length ++ q.f4.flatMap codI.enc)))
 | 0, i, l, hi, hl => by
  obtain rfl : i = q.f3.length := by omega
  have hm := h.code
  rw [List.drop_length, List.flatMap_nil, List.nil_append, nb_append, ← List.append_assoc]
  refine Ev.step (f := fun k => (codec_ints.f k l [(q.f4.length : Int)]).bind fun t => codec_proto.l2 k t q.f4 (q.f4.length : Int) ((0 : Nat) : Int)) (fun k => by rw [codec_proto.l1, if_neg (by omega)]; rfl) ?_
  refine Ev.bind (f := fun k t => codec_proto.l2 k t q.f4 (q.f4.length : Int) ((0 : Nat) : Int)) (a := l ++ nb (putN q.f4.length)) (Ev.eq (ints_ok _ l (by simp; omega) (by simp) (by omega)) (by simp)) ?_
  have := putN_le q.f4.length
  exact p_l2 q.f4 h.okI hm q.f4.length 0 _ (by omega) (by rw [List.length_append, nb_len]; omega)
 | d + 1, i, l, hi, hl => by
  have hlt : i < q.f3.length := by omega
  have hm := h.cs
  have hb := h.okC q.f3[i] (List.getElem_mem hlt)
  refine Ev.step (f := fun k => (codec_constant.f k l q.f3[i].f0 q.f3[i].f1 q.f3[i].f2).bind fun t => codec_proto.l1 k t q.f3 (q.f3.length : Int) ((i + 1 : Nat) : Int) q.f0 q.f1 q.f2 q.f3 q.f4) (fun k => ?_) ?_
  ·rw [codec_proto.l1, if_pos (by omega), if_pos (by omega), if_pos (by omega), rd46 _ _ hlt, w_one (by omega)]
  ·rw [List.drop_eq_getElem_cons hlt, List.flatMap_cons, List.append_assoc, nb_append, ← List.append_assoc]
   refine Ev.bind (f := fun k t => codec_proto.l1 k t q.f3 (q.f3.length : Int) ((i + 1 : Nat) : Int) q.f0 q.f1 q.f2 q.f3 q.f4) (const_ok _ l hb.2.2 hb.2.1 (by omega)) ?_
   have := codC_le q.f3[i] hb.2.1
   exact p_l1 q h d (i + 1) _ (by omega) (by rw [List.length_append, nb_len]; omega)
theorem p_l0 (q : S47) (h : Fine q) : ∀ (d i : Nat) (l : List Int), i + d = q.f2.length → l.length + 20 * d ≤ 300000000000 →
  Ev (fun k => codec_proto.l0 k l q.f2 (q.f2.length : Int) (i : Int) q.f0 q.f1 q.f2 q.f3 q.f4) (l ++ nb ((q.f2.drop i).flatMap codU.enc ++ ((putN q.f3.length ++ q.f3.flatMap codC.enc) ++ (putN q.f4.length ++ q.f4.flatMap codI.enc))))
 | 0, i, l, hi, hl => by
  obtain rfl : i = q.f2.length := by omega
  have hm := h.cs
  rw [List.drop_length, List.flatMap_nil, List.nil_append, List.append_assoc, nb_append, ← List.append_assoc]
  refine Ev.step (f := fun k => (codec_ints.f k l [(q.f3.length : Int)]).bind fun t => codec_proto.l1 k t q.f3 (q.f3.length : Int) ((0 : Nat) : Int) q.f0 q.f1 q.f2 q.f3 q.f4) (fun k => by rw [codec_proto.l0, if_neg (by omega)]; rfl) ?_
  refine Ev.bind (f := fun k t => codec_proto.l1 k t q.f3 (q.f3.length : Int) ((0 : Nat) : Int) q.f0 q.f1 q.f2 q.f3 q.f4) (a := l ++ nb (putN q.f3.length)) (Ev.eq (ints_ok _ l (by simp; omega) (by simp) (by omega)) (by simp)) ?_
  have := putN_le q.f3.length
  exact p_l1 q h q.f3.length 0 _ (by omega) (by rw [List.length_append, nb_len]; omega)
 | d + 1, i, l, hi, hl => by
  have hlt : i < q.f2.length := by omega
  have hm := h.ups
  have hb := of_decide_eq_true (h.okU q.f2[i] (List.getElem_mem hlt))
  have hb2 : 0 ≤ q.f2[i].f1 ∧ q.f2[i].f1 < 250 := by split at hb <;> omega
  have hx : (if q.f2[i].f0 = true then (1 : Int) else 0) = 0 ∨ (if q.f2[i].f0 = true then (1 : Int) else 0) = 1 := by split <;> simp
  refine Ev.step (f := fun k => (codec_ints.f k l [if q.f2[i].f0 = true then 1 else 0, q.f2[i].f1]).bind fun t => codec_proto.l0 k t q.f2 (q.f2.length : Int) ((i + 1 : Nat) : Int) q.f0 q.f1 q.f2 q.f3 q.f4) (fun k => ?_) ?_
  ·rw [codec_proto.l0, if_pos (by omega), if_pos (by omega), if_pos (by omega), rd48 _ _ hlt, w_one (by omega)]
   by_cases hf : q.f2[i].f0 = true
   ·rw [if_pos hf, if_pos hf]
   rw [if_neg hf, if_neg hf]
  ·rw [List.drop_eq_getElem_cons hlt, List.flatMap_cons, List.append_assoc, nb_append, ← List.append_assoc]
   refine Ev.bind (f := fun k t => codec_proto.l0 k t q.f2 (q.f2.length : Int) ((i + 1 : Nat) : Int) q.f0 q.f1 q.f2 q.f3 q.f4) (a := l ++ nb (codU.enc q.f2[i])) (Ev.eq (ints_ok _ l (by intro y hy; simp only [List.mem_cons, List.not_mem_nil, or_false] at hy; rcases hy with rfl | rfl <;> omega) (by simp) (by omega)) (by rw [codU_enc]; by_cases hf : q.f2[i].f0 = true <;> simp [hf])) ?_
   have := codU_le q.f2[i]
   exact p_l0 q h d (i + 1) _ (by omega) (by rw [List.length_append, nb_len]; omega)
theorem proto_ok (q : S47) (h : Fine q) (l : List Int) (hl : l.length ≤ 200000000000) : Ev (fun k => codec_proto.f k l q.f0 q.f1 q.f2 q.f3 q.f4) (l ++ nb (codP.enc q)) := by
 have h0 := h.p0
 have h1 := h.p1
 have h2 := h.ups
 refine Ev.congr (f := fun k => (codec_ints.f k l [q.f0, q.f1, (q.f2.length : Int)]).bind fun t => codec_proto.l0 k t q.f2 (q.f2.length : Int) ((0 : Nat) : Int) q.f0 q.f1 q.f2 q.f3 q.f4) (fun k => rfl) ?_
 have e : l ++ nb (codP.enc q) = (l ++ nb (putN q.f0.toNat ++ (putN q.f1.toNat ++ putN q.f2.length))) ++ nb (q.f2.flatMap codU.enc ++ ((putN q.f3.length ++ q.f3.flatMap codC.enc) ++ (putN q.f4.length ++ q.f4.flatMap codI.enc))) := by
  rw [codP_enc]
  simp only [nb_append, List.append_assoc]
 rw [e]
 refine Ev.bind (f := fun k t => codec_proto.l0 k t q.f2 (q.f2.length : Int) ((0 : Nat) : Int) q.f0 q.f1 q.f2 q.f3 q.f4) (a := l ++ nb (putN q.f0.toNat ++ (putN q.f1.toNat ++ putN q.f2.length))) (Ev.eq (ints_ok _ l (by simp; omega) (by simp) (by omega)) (by simp)) ?_
 have := putN_le q.f0.toNat
 have := putN_le q.f1.toNat
 have := putN_le q.f2.length
 exact p_l0 q h q.f2.length 0 _ (by omega) (by rw [List.length_append, nb_len, List.length_append, List.length_append]; omega)
end Go.Proofs.Ytkkgbbfojmnopaa.Z
end
