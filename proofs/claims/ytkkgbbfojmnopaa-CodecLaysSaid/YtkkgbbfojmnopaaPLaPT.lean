import Derived.Test.YtkkgbbfojmnopaaPLaPR
import Derived.Test.YtkkgbbfojmnopaaPLaPJ
import Derived.Test.YtkkgbbfojmnopaaPLaGxF3
set_option linter.unusedVariables false
set_option linter.unusedSimpArgs false
section
namespace Go.Proofs.Ytkkgbbfojmnopaa.Z
open Go.RowKit Go.Proofs.Ytkkgbbfojmnopaa.G Go.Proofs.YtkkgbbfojmnopaaW.PrintWords Go.Proofs.YtkkgbbfojmnopaaW.PrintLast Go.Proofs.YtkkgbbfojmnopaaW.PrintMore
def mk (l : List UInt8) : ByteArray := ⟨l.toArray⟩
theorem mk_app (a b : List UInt8) : mk a ++ mk b = mk (a ++ b) := by
 ext1
 apply Array.toList_inj.mp
 simp [mk]
theorem mk_size (a : List UInt8) : (mk a).size = a.length := by
 show a.toArray.size = _
 simp
theorem mk_data (s : ByteArray) : mk s.data.toList = s := by
 ext1
 simp [mk]
theorem num_ev : ∀ (f n : Nat), f ≤ 9 → n < 2 * 128 ^ f → n < 18446744073709551616 → Ev (fun k => tallowref21_Number.f k (n : Int)) (mk (putF f n))
 | 0, n, h9, h, hb => by
  refine Ev.step (f := fun _ => some (mk [UInt8.ofNat n])) (fun k => ?_) (Ev.now _)
  rw [tallowref21_Number.f, if_pos (by omega), show (n : Int) % 256 = n by omega]
  rfl
 | f + 1, n, h9, h, hb => by
  have hp : 128 ^ (f + 1) = 128 * 128 ^ f := by rw [Nat.pow_succ]; omega
  by_cases hn : n < 128
  ·refine Ev.step (f := fun _ => some (mk [UInt8.ofNat n])) (fun k => ?_) ?_
   ·rw [tallowref21_Number.f, if_pos (by omega), show (n : Int) % 256 = n by omega]
    rfl
   ·rw [putF, if_pos hn]
    exact Ev.now _
  have e1 : Int.tmod (n : Int) 128 = ((n % 128 : Nat) : Int) := Int.ofNat_tmod n 128
  have e3 : IntKind.u64.wrap (Int.tdiv (n : Int) 128) = ((n / 128 : Nat) : Int) := by
   rw [show Int.tdiv (n : Int) 128 = ((n / 128 : Nat) : Int) from Int.ofNat_tdiv n 128, wrap_u64]
   omega
  refine Ev.step (f := fun k => (tallowref21_Number.f k ((n / 128 : Nat) : Int)).bind fun t => if (mk [UInt8.ofNat (n % 128 + 128)]).size + t.size ≤ 9223372036854775807 then some (mk [UInt8.ofNat (n % 128 + 128)] ++ t) else none) (fun k => ?_) ?_
  ·rw [tallowref21_Number.f, if_neg (by omega), e1, e3, Option.bind_some, show (128 + ((n % 128 : Nat) : Int) % 256) % 256 = ((n % 128 + 128 : Nat) : Int) by omega]
   rfl
  ·refine Ev.bind (f := fun _ t => if (mk [UInt8.ofNat (n % 128 + 128)]).size + t.size ≤ 9223372036854775807 then some (mk [UInt8.ofNat (n % 128 + 128)] ++ t) else none) (num_ev f (n / 128) (by omega) (by omega) (by omega)) ?_
   refine Ev.congr (f := fun _ => some (mk (putF (f + 1) n))) (fun k => ?_) (Ev.now _)
   have := putF_le f (n / 128)
   rw [mk_size, mk_size, mk_app, show putF (f + 1) n = [UInt8.ofNat (n % 128 + 128)] ++ putF f (n / 128) by rw [putF, if_neg hn]; rfl, if_pos]
   simp only [List.length_cons, List.length_nil]
   omega
theorem num_ok (n : Nat) (h : n < 18446744073709551616) : Ev (fun k => tallowref21_Number.f k (n : Int)) (mk (putN n)) := num_ev 9 n (by decide) (by have := pow64; omega) h
theorem nat_ok' (y : Int) (h : 0 ≤ y ∧ y < 9223372036854775808) : Ev (fun k => tallowref21_natural.f k y) (mk (putN y.toNat)) := by
 unfold tallowref21_natural.f
 have e : IntKind.u64.wrap (mx y 0) = ((y.toNat : Nat) : Int) := by
  have : mx y 0 = y := by unfold mx; split <;> omega
  rw [this, wrap_u64]
  omega
 rw [e]
 exact Ev.bind (f := fun _ t => some t) (num_ok _ (by omega)) (Ev.now _)
theorem signed_ok (z : Int) (h : -9223372036854775808 ≤ z ∧ z ≤ 9223372036854775807) : tallowref21_signed.f z = some ((Cod.zig z : Nat) : Int) := by
 unfold tallowref21_signed.f Cod.zig
 simp only [wrap_u64]
 unfold wrap64
 by_cases h0 : z ≥ 0
 ·rw [if_pos h0, if_pos h0]
  congr 1
  omega
 rw [if_neg h0, if_neg h0]
 congr 1
 omega
theorem q_l2 (q : S47) (h : Fine q) : ∀ (d i : Nat) (l : List UInt8), i + d = q.f4.length → l.length + 30 * d ≤ 500000000000 →
  Ev (fun k => tallowref21_proto.l2 k (mk l) (i : Int) q.f0 q.f1 q.f2 q.f3 q.f4) (mk (l ++ (q.f4.drop i).flatMap codI.enc))
 | 0, i, l, hi, hl => by
  obtain rfl : i = q.f4.length := by omega
  rw [List.drop_length, List.flatMap_nil, List.append_nil]
  exact Ev.step (f := fun _ => some (mk l)) (fun k => by rw [tallowref21_proto.l2, if_neg (by omega)]) (Ev.now _)
 | d + 1, i, l, hi, hl => by
  have hlt : i < q.f4.length := by omega
  have hm := h.code
  have hb := h.okI q.f4[i] (List.getElem_mem hlt)
  generalize hx : q.f4[i] = x at hb
  have s0 := putN_le x.f0.toNat
  have s1 := putN_le x.f1.toNat
  have s2 := putN_le x.f2.toNat
  rw [List.drop_eq_getElem_cons hlt, List.flatMap_cons, hx, codI_enc]
  refine Ev.step (f := fun k => (tallowref21_natural.f k x.f0).bind fun t283 => _) (fun k => by rw [tallowref21_proto.l2, if_pos (by omega), if_pos (by omega), rd33 _ _ hlt, hx]) ?_
  refine Ev.bind (f := fun k t => _) (nat_ok' _ (by omega)) ?_
  refine Ev.congr (f := fun k => (tallowref21_natural.f k x.f1).bind fun t => _) (fun k => by rw [mk_size, mk_size, if_pos (by omega), mk_app]) ?_
  refine Ev.bind (f := fun k t => _) (nat_ok' _ (by omega)) ?_
  refine Ev.congr (f := fun k => (tallowref21_natural.f k x.f2).bind fun t => _) (fun k => by rw [mk_size, mk_size, if_pos (by rw [List.length_append]; omega), mk_app]) ?_
  refine Ev.bind (f := fun k t => _) (nat_ok' _ (by omega)) ?_
  refine Ev.congr (f := fun k => tallowref21_proto.l2 k (mk (l ++ (putN x.f0.toNat ++ (putN x.f1.toNat ++ putN x.f2.toNat)))) ((i + 1 : Nat) : Int) q.f0 q.f1 q.f2 q.f3 q.f4) (fun k => by
   rw [mk_size, mk_size, if_pos (by simp only [List.length_append]; omega), mk_app, w_one (by omega)]
   simp only [List.append_assoc]) ?_
  exact Ev.eq (q_l2 q h d (i + 1) (l ++ (putN x.f0.toNat ++ (putN x.f1.toNat ++ putN x.f2.toNat))) (by omega) (by simp only [List.length_append]; omega)) (by rw [List.append_assoc l])
theorem q_l1 (q : S47) (h : Fine q) : ∀ (d i : Nat) (l : List UInt8), i + d = q.f3.length → l.length + 4200 * d ≤ 400000000000 →
  Ev (fun k => tallowref21_proto.l1 k (mk l) (i : Int) q.f0 q.f1 q.f2 q.f3 q.f4) (mk (l ++ ((q.f3.drop i).flatMap codC.enc ++ (putN q.f4.length ++ q.f4.flatMap codI.enc))))
 | 0, i, l, hi, hl => by
  obtain rfl : i = q.f3.length := by omega
  have hm := h.code
  have s0 := putN_le q.f4.length
  rw [List.drop_length, List.flatMap_nil, List.nil_append, ← List.append_assoc]
  refine Ev.step (f := fun k => (tallowref21_natural.f k (q.f4.length : Int)).bind fun t => _) (fun k => by rw [tallowref21_proto.l1, if_neg (by omega)]) ?_
  refine Ev.bind (f := fun k t => _) (nat_ok' _ (by omega)) ?_
  rw [Int.toNat_natCast]
  refine Ev.congr (f := fun k => tallowref21_proto.l2 k (mk (l ++ putN q.f4.length)) ((0 : Nat) : Int) q.f0 q.f1 q.f2 q.f3 q.f4) (fun k => by rw [mk_size, mk_size, if_pos (by omega), mk_app]; rfl) ?_
  exact q_l2 q h q.f4.length 0 _ (by omega) (by rw [List.length_append]; omega)
 | d + 1, i, l, hi, hl => by
  have hlt : i < q.f3.length := by omega
  have hm := h.cs
  have hb := h.okC q.f3[i] (List.getElem_mem hlt)
  generalize hx : q.f3[i] = x at hb
  have hcl := codC_le x hb.2.1
  rw [List.drop_eq_getElem_cons hlt, List.flatMap_cons, hx, List.append_assoc, ← List.append_assoc l]
  have hstep : Ev (fun k => tallowref21_proto.l1 k (mk (l ++ codC.enc x)) ((i + 1 : Nat) : Int) q.f0 q.f1 q.f2 q.f3 q.f4) (mk ((l ++ codC.enc x) ++ ((q.f3.drop (i + 1)).flatMap codC.enc ++ (putN q.f4.length ++ q.f4.flatMap codI.enc)))) := q_l1 q h d (i + 1) _ (by omega) (by rw [List.length_append]; omega)
  have hce := codC_enc x
  by_cases h3 : x.f0 = 3
  ·rw [if_pos h3] at hce
   have s0 := putN_le 0
   have s1 := putN_le (Cod.zig x.f1)
   refine Ev.step (f := fun k => (tallowref21_natural.f k 0).bind fun t => _) (fun k => by rw [tallowref21_proto.l1, if_pos (by omega), if_pos (by omega), rd46 _ _ hlt, hx, if_pos h3]) ?_
   refine Ev.bind (f := fun k t => _) (nat_ok' 0 (by decide)) ?_
   refine Ev.congr (f := fun k => (tallowref21_Number.f k ((Cod.zig x.f1 : Nat) : Int)).bind fun t => _) (fun k => by
    rw [show (0 : Int).toNat = 0 from rfl, mk_size, mk_size, if_pos (by omega), mk_app, signed_ok _ hb.2.2, Option.bind_some]) ?_
   refine Ev.bind (f := fun k t => _) (num_ok _ (zig_lt _ hb.2.2.1 hb.2.2.2)) ?_
   refine Ev.congr (f := fun k => tallowref21_proto.l1 k (mk (l ++ codC.enc x)) ((i + 1 : Nat) : Int) q.f0 q.f1 q.f2 q.f3 q.f4) (fun k => by
    rw [mk_size, mk_size, if_pos (by rw [List.length_append]; omega), mk_app, w_one (by omega), hce, List.append_assoc]) hstep
  rw [if_neg h3] at hce
  have hsm : (x.f2.size : Int) ≤ 4096 := of_decide_eq_true hb.2.1
  have hsd := sz_data x.f2
  have hap : ∀ a : List UInt8, mk a ++ x.f2 = mk (a ++ x.f2.data.toList) := fun a => (congrArg (mk a ++ ·) (mk_data x.f2).symm).trans (mk_app a _)
  have s0 := putN_le 1
  have s1 := putN_le x.f2.size
  refine Ev.step (f := fun k => (tallowref21_natural.f k 1).bind fun t => _) (fun k => by rw [tallowref21_proto.l1, if_pos (by omega), if_pos (by omega), rd46 _ _ hlt, hx, if_neg h3]) ?_
  refine Ev.bind (f := fun k t => _) (nat_ok' 1 (by decide)) ?_
  refine Ev.congr (f := fun k => (tallowref21_natural.f k (x.f2.size : Int)).bind fun t => _) (fun k => by
   rw [show (1 : Int).toNat = 1 from rfl, mk_size, mk_size, if_pos (by omega), mk_app]) ?_
  refine Ev.bind (f := fun k t => _) (nat_ok' _ (by omega)) ?_
  rw [Int.toNat_natCast]
  refine Ev.congr (f := fun k => tallowref21_proto.l1 k (mk (l ++ codC.enc x)) ((i + 1 : Nat) : Int) q.f0 q.f1 q.f2 q.f3 q.f4) (fun k => by
   rw [mk_size, mk_size, if_pos (by rw [List.length_append]; omega), mk_app, mk_size, if_pos (by simp only [List.length_append]; omega), w_one (by omega), hce, hsd, hap]
   simp only [List.append_assoc]) hstep
theorem q_l0 (q : S47) (h : Fine q) : ∀ (d i : Nat) (l : List UInt8), i + d = q.f2.length → l.length + 20 * d ≤ 300000000000 →
  Ev (fun k => tallowref21_proto.l0 k (mk l) (i : Int) q.f0 q.f1 q.f2 q.f3 q.f4) (mk (l ++ ((q.f2.drop i).flatMap codU.enc ++ ((putN q.f3.length ++ q.f3.flatMap codC.enc) ++ (putN q.f4.length ++ q.f4.flatMap codI.enc)))))
 | 0, i, l, hi, hl => by
  obtain rfl : i = q.f2.length := by omega
  have hm := h.cs
  have s0 := putN_le q.f3.length
  rw [List.drop_length, List.flatMap_nil, List.nil_append, List.append_assoc, ← List.append_assoc]
  refine Ev.step (f := fun k => (tallowref21_natural.f k (q.f3.length : Int)).bind fun t => _) (fun k => by rw [tallowref21_proto.l0, if_neg (by omega)]) ?_
  refine Ev.bind (f := fun k t => _) (nat_ok' _ (by omega)) ?_
  rw [Int.toNat_natCast]
  refine Ev.congr (f := fun k => tallowref21_proto.l1 k (mk (l ++ putN q.f3.length)) ((0 : Nat) : Int) q.f0 q.f1 q.f2 q.f3 q.f4) (fun k => by rw [mk_size, mk_size, if_pos (by omega), mk_app]; rfl) ?_
  exact q_l1 q h q.f3.length 0 _ (by omega) (by rw [List.length_append]; omega)
 | d + 1, i, l, hi, hl => by
  have hlt : i < q.f2.length := by omega
  have hm := h.ups
  have hb := of_decide_eq_true (h.okU q.f2[i] (List.getElem_mem hlt))
  generalize hx : q.f2[i] = x at hb
  have hb2 : 0 ≤ x.f1 ∧ x.f1 < 250 := by split at hb <;> omega
  have hcl := codU_le x
  have hce := codU_enc x
  have s1 := putN_le x.f1.toNat
  rw [List.drop_eq_getElem_cons hlt, List.flatMap_cons, hx, List.append_assoc, ← List.append_assoc l]
  have hstep : Ev (fun k => tallowref21_proto.l0 k (mk (l ++ codU.enc x)) ((i + 1 : Nat) : Int) q.f0 q.f1 q.f2 q.f3 q.f4) (mk ((l ++ codU.enc x) ++ ((q.f2.drop (i + 1)).flatMap codU.enc ++ ((putN q.f3.length ++ q.f3.flatMap codC.enc) ++ (putN q.f4.length ++ q.f4.flatMap codI.enc))))) := q_l0 q h d (i + 1) _ (by omega) (by rw [List.length_append]; omega)
  by_cases hf : x.f0 = true
  case neg =>
   rw [if_neg hf] at hce
   have s0 := putN_le 0
   refine Ev.step (f := fun k => (tallowref21_natural.f k 0).bind fun t => _) (fun k => by rw [tallowref21_proto.l0, if_pos (by omega), if_pos (by omega), rd48 _ _ hlt, hx, if_neg hf]) ?_
   refine Ev.bind (f := fun k t => _) (nat_ok' 0 (by decide)) ?_
   refine Ev.congr (f := fun k => (tallowref21_natural.f k x.f1).bind fun t => _) (fun k => by
    rw [show (0 : Int).toNat = 0 from rfl, mk_size, mk_size, if_pos (by omega), mk_app]) ?_
   refine Ev.bind (f := fun k t => _) (nat_ok' _ (by omega)) ?_
   exact Ev.congr (f := fun k => tallowref21_proto.l0 k (mk (l ++ codU.enc x)) ((i + 1 : Nat) : Int) q.f0 q.f1 q.f2 q.f3 q.f4) (fun k => by
    rw [mk_size, mk_size, if_pos (by rw [List.length_append]; omega), mk_app, w_one (by omega), hce, List.append_assoc]) hstep
  rw [hf, if_pos rfl] at hce
  have s0 := putN_le 1
  refine Ev.step (f := fun k => (tallowref21_natural.f k 1).bind fun t => _) (fun k => by rw [tallowref21_proto.l0, if_pos (by omega), if_pos (by omega), rd48 _ _ hlt, hx, if_pos hf]) ?_
  refine Ev.bind (f := fun k t => _) (nat_ok' 1 (by decide)) ?_
  refine Ev.congr (f := fun k => (tallowref21_natural.f k x.f1).bind fun t => _) (fun k => by
   rw [show (1 : Int).toNat = 1 from rfl, mk_size, mk_size, if_pos (by omega), mk_app]) ?_
  refine Ev.bind (f := fun k t => _) (nat_ok' _ (by omega)) ?_
  exact Ev.congr (f := fun k => tallowref21_proto.l0 k (mk (l ++ codU.enc x)) ((i + 1 : Nat) : Int) q.f0 q.f1 q.f2 q.f3 q.f4) (fun k => by
   rw [mk_size, mk_size, if_pos (by rw [List.length_append]; omega), mk_app, w_one (by omega), hce, List.append_assoc]) hstep
theorem rproto_ok (q : S47) (h : Fine q) : Ev (fun k => tallowref21_proto.f k q.f0 q.f1 q.f2 q.f3 q.f4) (mk (codP.enc q)) := by
 have h0 := h.p0
 have h1 := h.p1
 have h2 := h.ups
 have s0 := putN_le q.f0.toNat
 have s1 := putN_le q.f1.toNat
 have s2 := putN_le q.f2.length
 unfold tallowref21_proto.f
 refine Ev.bind (f := fun k t => _) (nat_ok' _ (by omega)) ?_
 refine Ev.bind (f := fun k t => _) (nat_ok' _ (by omega)) ?_
 refine Ev.congr (f := fun k => (tallowref21_natural.f k (q.f2.length : Int)).bind fun t => _) (fun k => by rw [mk_size, mk_size, if_pos (by omega), mk_app]) ?_
 refine Ev.bind (f := fun k t => _) (nat_ok' _ (by omega)) ?_
 rw [Int.toNat_natCast]
 refine Ev.congr (f := fun k => tallowref21_proto.l0 k (mk ((putN q.f0.toNat ++ putN q.f1.toNat) ++ putN q.f2.length)) ((0 : Nat) : Int) q.f0 q.f1 q.f2 q.f3 q.f4) (fun k => by rw [mk_size, mk_size, if_pos (by rw [List.length_append]; omega), mk_app]; rfl) ?_
 have e : codP.enc q = ((putN q.f0.toNat ++ putN q.f1.toNat) ++ putN q.f2.length) ++ ((q.f2.drop 0).flatMap codU.enc ++ ((putN q.f3.length ++ q.f3.flatMap codC.enc) ++ (putN q.f4.length ++ q.f4.flatMap codI.enc))) := by
  rw [codP_enc, List.drop_zero]
  simp only [List.append_assoc]
 rw [e]
 exact q_l0 q h q.f2.length 0 ((putN q.f0.toNat ++ putN q.f1.toNat) ++ putN q.f2.length) (by omega) (by simp only [List.length_append]; omega)
theorem re_go (l : List S47) (hf : ∀ q ∈ l, Fine q) (hm : l.length ≤ 256) : ∀ (d i : Nat) (acc : List UInt8), i + d = l.length → acc.length + 20000000 * d ≤ 100000000000 →
  Ev (fun k => tallowref21_Encode.l0 k (mk acc) (i : Int) l) (if (acc ++ (l.drop i).flatMap codP.enc).length > 262144 then (⟨#[]⟩, 3) else (mk (acc ++ (l.drop i).flatMap codP.enc), 0))
 | 0, i, acc, hi, hl => by
  obtain rfl : i = l.length := by omega
  rw [List.drop_length, List.flatMap_nil, List.append_nil]
  refine Ev.step (f := fun _ => some (if acc.length > 262144 then (⟨#[]⟩, 3) else (mk acc, 0))) (fun k => ?_) (Ev.now _)
  rw [tallowref21_Encode.l0, if_neg (by omega), mk_size]
  by_cases hg : acc.length > 262144
  ·rw [if_pos hg, if_pos (by omega)]
  rw [if_neg hg, if_neg (by omega)]
 | d + 1, i, acc, hi, hl => by
  have hlt : i < l.length := by omega
  have hb := hf l[i] (List.getElem_mem hlt)
  have hcl := codP_le hb
  rw [List.drop_eq_getElem_cons hlt, List.flatMap_cons, ← List.append_assoc]
  refine Ev.step (f := fun k => (tallowref21_proto.f k l[i].f0 l[i].f1 l[i].f2 l[i].f3 l[i].f4).bind fun t => _) (fun k => by rw [tallowref21_Encode.l0, if_pos (by omega), if_pos (by omega), rd41 _ _ hlt]) ?_
  refine Ev.bind (f := fun k t => _) (rproto_ok _ hb) ?_
  refine Ev.congr (f := fun k => tallowref21_Encode.l0 k (mk (acc ++ codP.enc l[i])) ((i + 1 : Nat) : Int) l) (fun k => by rw [mk_size, mk_size, if_pos (by omega), mk_app, w_one (by omega)]) ?_
  exact re_go l hf hm d (i + 1) _ (by omega) (by rw [List.length_append]; omega)
theorem renc_ok (l : List S47) (hi : inP l) : Ev (fun k => tallowref21_Encode.f k l) (encS l) := by
 unfold tallowref21_Encode.f
 refine Ev.bind (f := fun k t => _) (r_check l) ?_
 unfold encS
 by_cases h : checkS l = 0
 case neg =>
  rw [if_neg h]
  exact Ev.congr (f := fun _ => some (⟨#[]⟩, checkS l)) (fun k => by rw [if_neg h]) (Ev.now _)
 obtain ⟨hm, hf⟩ := fine_all h hi
 have s0 := putN_le l.length
 rw [if_pos h]
 refine Ev.congr (f := fun k => (tallowref21_natural.f k (l.length : Int)).bind fun t => tallowref21_Encode.l0 k t ((0 : Nat) : Int) l) (fun k => by rw [if_pos h]; rfl) ?_
 refine Ev.bind (f := fun k t => tallowref21_Encode.l0 k t ((0 : Nat) : Int) l) (nat_ok' _ (by omega)) ?_
 rw [Int.toNat_natCast]
 exact re_go l hf hm l.length 0 _ (by omega) (by omega)
theorem lays_ev (l : List S47) (hi : inP l) : Ev (fun k => tallowlaw21_CodecLays.f k l) true := by
 have h2 := short_inP hi
 unfold tallowlaw21_CodecLays.f
 refine Ev.bind (f := fun k t => _) (short_ok l) ?_
 refine Ev.bind (f := fun k t => _) (enc_ok _ h2) ?_
 refine Ev.bind (f := fun k t => _) (renc_ok _ h2) ?_
 exact Ev.congr (f := fun k => (tallowlaw21_works.f k).bind fun t => some t) (fun k => by simp only [if_true]) (Ev.bind (f := fun _ t => some t) works_ok (Ev.now _))
theorem codecLays (l : List S47) (h : OkL l) : ∃ k, tallowlaw21_CodecLays.f k l = some true := (lays_ev l h.inP).rounds
end Go.Proofs.Ytkkgbbfojmnopaa.Z
end
