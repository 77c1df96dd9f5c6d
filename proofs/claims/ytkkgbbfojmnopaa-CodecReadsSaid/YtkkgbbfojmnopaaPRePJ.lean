import Derived.Test.YtkkgbbfojmnopaaPRePC
import Derived.Test.YtkkgbbfojmnopaaPReE11
import Derived.Test.YtkkgbbfojmnopaaPReGx0
import Derived.Test.YtkkgbbfojmnopaaPReGxF10
import Derived.Test.YtkkgbbfojmnopaaPReGxF12
import Derived.Test.YtkkgbbfojmnopaaPReGxF16
import Derived.Test.YtkkgbbfojmnopaaPReGxF17
set_option linter.unusedVariables false
set_option linter.unusedSimpArgs false
section
namespace Go.Proofs.Ytkkgbbfojmnopaa.Z
open Go.RowKit Go.Proofs.Ytkkgbbfojmnopaa.G Go.Proofs.YtkkgbbfojmnopaaW.PrintWords Go.Proofs.YtkkgbbfojmnopaaW.PrintLast Go.Proofs.YtkkgbbfojmnopaaW.PrintMore
def nb (l : List UInt8) : List Int := l.map fun b => (b.toNat : Int)
theorem nb_append (a b : List UInt8) : nb (a ++ b) = nb a ++ nb b := List.map_append
theorem nb_len (a : List UInt8) : (nb a).length = a.length := List.length_map _
theorem or128f : ∀ b : Fin 256, Go.bits .or .u8 (b.val : Int) 128 = ((b.val % 128 + 128 : Nat) : Int) := by decide +kernel
theorem or128 (n : Nat) : Go.bits .or .u8 ((n : Int) % 256) 128 = ((n % 128 + 128 : Nat) : Int) := by
 have h := or128f ⟨n % 256, Nat.mod_lt _ (by decide)⟩
 rw [show ((n : Int) % 256) = ((n % 256 : Nat) : Int) by omega]
 rw [h]
 show ((n % 256 % 128 + 128 : Nat) : Int) = _
 congr 1
 omega
theorem putF_le : ∀ (f n : Nat), (putF f n).length ≤ f + 1
 | 0, n => Nat.le_refl _
 | f + 1, n => by
  rw [putF]
  by_cases h : n < 128
  ·rw [if_pos h]; simp
  rw [if_neg h, List.length_cons]; have := putF_le f (n / 128); omega
theorem putN_le (n : Nat) : (putN n).length ≤ 10 := putF_le 9 n
theorem put_ev : ∀ (f n : Nat) (l : List Int), n < 2 * 128 ^ f → l.length + f < 140737488355328 → Ev (fun k => fQ21.l0 k l (n : Int)) (l ++ nb (putF f n))
 | 0, n, l, h, hl => by
  refine Ev.step (f := fun _ => some (l ++ [(n : Int)])) (fun k => ?_) ?_
  ·rw [fQ21.l0, if_neg (by omega), if_pos (by omega), show (n : Int) % 256 = n by omega]
  ·have e : nb (putF 0 n) = [(n : Int)] := by
    show [((UInt8.ofNat n).toNat : Int)] = _
    rw [u8_lit (by omega)]
   rw [e]
   exact Ev.now _
 | f + 1, n, l, h, hl => by
  have hp : 128 ^ (f + 1) = 128 * 128 ^ f := by rw [Nat.pow_succ]; omega
  by_cases hn : n < 128
  ·refine Ev.step (f := fun _ => some (l ++ [(n : Int)])) (fun k => ?_) ?_
   ·rw [fQ21.l0, if_neg (by omega), if_pos (by omega), show (n : Int) % 256 = n by omega]
   ·have e : nb (putF (f + 1) n) = [(n : Int)] := by
     rw [putF, if_pos hn]
     show [((UInt8.ofNat n).toNat : Int)] = _
     rw [u8_lit (by omega)]
    rw [e]
    exact Ev.now _
  refine Ev.step (f := fun k => fQ21.l0 k (l ++ [((n % 128 + 128 : Nat) : Int)]) ((n / 128 : Nat) : Int)) (fun k => ?_) ?_
  ·rw [fQ21.l0, if_pos (by omega), if_pos (by omega), or128, show (n : Int) / 128 = ((n / 128 : Nat) : Int) by omega]
  ·have e : nb (putF (f + 1) n) = [((n % 128 + 128 : Nat) : Int)] ++ nb (putF f (n / 128)) := by
    rw [putF, if_neg hn]
    show ((UInt8.ofNat (n % 128 + 128)).toNat : Int) :: nb (putF f (n / 128)) = _
    rw [u8_lit (by omega)]; rfl
   rw [e, ← List.append_assoc]
   exact put_ev f (n / 128) _ (by omega) (by rw [List.length_append]; simp; omega)
theorem put_ok (n : Nat) (l : List Int) (h : n < 2 ^ 64) (hl : l.length + 9 < 140737488355328) : Ev (fun k => fQ21.f k l (n : Int)) (l ++ nb (putN n)) := Ev.congr (fun k => rfl) (put_ev 9 n l (by rw [pow64]; exact h) hl)
theorem wrap_u64 (x : Int) : IntKind.u64.wrap x = x % 18446744073709551616 := by simp [IntKind.wrap, IntKind.bits, IntKind.signed]
theorem rd_at (l : List Int) (i : Nat) (h : i < l.length) : rd l (i : Int) = l[i] := by
 simp [rd, List.getD, h]
theorem ints_go (ys : List Int) (hy : ∀ y ∈ ys, 0 ≤ y ∧ y < 9223372036854775808) (hm : ys.length ≤ 100) : ∀ (d i : Nat) (l : List Int), i + d = ys.length → l.length + 10 * d ≤ 1000000000000 → Ev (fun k => fQ9.l0 k l ys (ys.length : Int) (i : Int)) (l ++ nb ((ys.drop i).flatMap fun y => putN y.toNat))
 | 0, i, l, hi, hl => by
  obtain rfl : i = ys.length := by omega
  rw [List.drop_length]
  show Ev _ (l ++ [])
  rw [List.append_nil]
  exact Ev.step (f := fun _ => some l) (fun k => by rw [fQ9.l0, if_neg (by omega)]) (Ev.now _)
 | d + 1, i, l, hi, hl => by
  have hlt : i < ys.length := by omega
  have hb := hy ys[i] (List.getElem_mem hlt)
  refine Ev.step (f := fun k => (fQ21.f k l ((ys[i].toNat : Nat) : Int)).bind fun t => fQ9.l0 k t ys (ys.length : Int) ((i + 1 : Nat) : Int)) (fun k => ?_) ?_
  ·rw [fQ9.l0, if_pos (by omega), if_pos (by omega), if_pos (by omega), rd_at _ _ hlt, w_one (by omega), wrap_u64, show ys[i] % 18446744073709551616 = ((ys[i].toNat : Nat) : Int) by omega]
  ·rw [List.drop_eq_getElem_cons hlt, List.flatMap_cons, nb_append, ← List.append_assoc]
   refine Ev.bind (f := fun k t => fQ9.l0 k t ys (ys.length : Int) ((i + 1 : Nat) : Int)) (put_ok _ l (by omega) (by omega)) ?_
   have := putN_le ys[i].toNat
   exact ints_go ys hy hm d (i + 1) _ (by omega) (by rw [List.length_append, nb_len]; omega)
theorem ints_ok (ys : List Int) (l : List Int) (hy : ∀ y ∈ ys, 0 ≤ y ∧ y < 9223372036854775808) (hm : ys.length ≤ 100) (hl : l.length ≤ 900000000000) : Ev (fun k => fQ9.f k l ys) (l ++ nb (ys.flatMap fun y => putN y.toNat)) := Ev.congr (fun k => rfl) (ints_go ys hy hm ys.length 0 l (by omega) (by omega))
theorem xor64_zero (k : Nat) (h : k < 2 ^ 64) : Go.bits .xor .u64 (k : Int) 0 = (k : Int) := by
 have h1 : (BitVec.ofInt 64 (k : Int)).toNat = k := by
  rw [BitVec.ofInt_natCast, BitVec.toNat_ofNat]; exact Nat.mod_eq_of_lt h
 show IntKind.u64.wrap ((BitVec.ofInt 64 (k : Int) ^^^ BitVec.ofInt 64 0).toNat : Int) = _
 rw [BitVec.toNat_xor, h1, show (BitVec.ofInt 64 0).toNat = 0 from rfl, Nat.xor_zero, wrap_u64]
 omega
theorem xor64_ones (k : Nat) (h : k < 2 ^ 64) : Go.bits .xor .u64 (k : Int) 18446744073709551615 = 18446744073709551615 - (k : Int) := by
 have h1 : (BitVec.ofInt 64 (k : Int)).toNat = k := by
  rw [BitVec.ofInt_natCast, BitVec.toNat_ofNat]; exact Nat.mod_eq_of_lt h
 show IntKind.u64.wrap ((BitVec.ofInt 64 (k : Int) ^^^ BitVec.ofInt 64 18446744073709551615).toNat : Int) = _
 rw [show BitVec.ofInt 64 18446744073709551615 = BitVec.allOnes 64 from by decide, BitVec.xor_allOnes, BitVec.toNat_not, h1, wrap_u64]
 omega
theorem zig_bits (z : Int) (h0 : -9223372036854775808 ≤ z) (h1 : z ≤ 9223372036854775807) : Go.bits .xor .u64 (IntKind.u64.wrap ((IntKind.u64.wrap z) * 2)) (IntKind.u64.wrap (z / 9223372036854775808)) = ((Cod.zig z : Nat) : Int) := by
 simp only [wrap_u64]
 unfold Cod.zig
 by_cases h : 0 ≤ z
 ·rw [if_pos h, show z / 9223372036854775808 % 18446744073709551616 = 0 by omega, show z % 18446744073709551616 * 2 % 18446744073709551616 = (((2 * z).toNat : Nat) : Int) by omega, xor64_zero _ (by omega)]
 rw [if_neg h, show z / 9223372036854775808 % 18446744073709551616 = 18446744073709551615 by omega, show z % 18446744073709551616 * 2 % 18446744073709551616 = (((2 * z + 18446744073709551616).toNat : Nat) : Int) by omega, xor64_ones _ (by omega)]
 omega
theorem zig_lt (z : Int) (h0 : -9223372036854775808 ≤ z) (h1 : z ≤ 9223372036854775807) : Cod.zig z < 2 ^ 64 := by unfold Cod.zig; split <;> omega
theorem bytes_nb (s : ByteArray) : bytesOf s = nb s.data.toList := by simp [bytesOf, nb]
def inC (c : S42) : Prop := -9223372036854775808 ≤ c.f1 ∧ c.f1 ≤ 9223372036854775807
theorem codC_enc (c : S42) : codC.enc c = if c.f0 = 3 then putN 0 ++ putN (Cod.zig c.f1) else putN 1 ++ (putN c.f2.data.toList.length ++ c.f2.data.toList) := by
 have e : codC.enc c = (Cod.alt Cod.int (Cod.text 4096 (by decide))).enc (if c.f0 = 3 then .inl c.f1 else .inr c.f2.data.toList) := rfl
 rw [e]
 by_cases h : c.f0 = 3
 ·rw [if_pos h, if_pos h]; rfl
 rw [if_neg h, if_neg h]; rfl
theorem sz_data (s : ByteArray) : s.data.toList.length = s.size := by rw [Array.length_toList]; rfl
theorem codC_le (c : S42) (h : smC c = true) : (codC.enc c).length ≤ 4200 := by
 have h1 : (c.f2.size : Int) ≤ 4096 := of_decide_eq_true h
 have h2 := sz_data c.f2
 rw [codC_enc]
 split
 ·rw [List.length_append]; have := putN_le 0; have := putN_le (Cod.zig c.f1); omega
 ·rw [List.length_append, List.length_append]; have := putN_le 1; have := putN_le c.f2.data.toList.length; omega
theorem const_ok (c : S42) (l : List Int) (hi : inC c) (hs : smC c = true) (hl : l.length ≤ 800000000000) : Ev (fun k => fQ12.f k l c.f0 c.f1 c.f2) (l ++ nb (codC.enc c)) := by
 have h1 : (c.f2.size : Int) ≤ 4096 := of_decide_eq_true hs
 rw [codC_enc]
 by_cases h : c.f0 = 3
 ·rw [if_pos h, nb_append, ← List.append_assoc]
  refine Ev.congr (f := fun k => (fQ9.f k l [0]).bind fun t => (fQ21.f k t ((Cod.zig c.f1 : Nat) : Int)).bind fun t2 => some t2) (fun k => by unfold fQ12.f; rw [if_pos h, zig_bits _ hi.1 hi.2]) ?_
  refine Ev.bind (f := fun k t => (fQ21.f k t ((Cod.zig c.f1 : Nat) : Int)).bind fun t2 => some t2) (a := l ++ nb (putN 0)) (Ev.eq (ints_ok [0] l (by simp) (by simp) (by omega)) (by simp)) ?_
  refine Ev.bind (f := fun _ t2 => some t2) (put_ok _ _ (zig_lt _ hi.1 hi.2) ?_) (Ev.now _)
  have := putN_le 0
  rw [List.length_append, nb_len]; omega
 rw [if_neg h, nb_append, nb_append, ← List.append_assoc, ← List.append_assoc]
 refine Ev.congr (f := fun k => (fQ9.f k l [1, (c.f2.size : Int)]).bind fun t => if t.length + c.f2.size < 140737488355328 then some (t ++ bytesOf c.f2) else none) (fun k => by unfold fQ12.f; rw [if_neg h]) ?_
 refine Ev.bind (f := fun _ t => if t.length + c.f2.size < 140737488355328 then some (t ++ bytesOf c.f2) else none) (a := l ++ nb (putN 1) ++ nb (putN c.f2.data.toList.length)) (Ev.eq (ints_ok [1, (c.f2.size : Int)] l (by simp; omega) (by simp) (by omega)) (by simp [nb_append, sz_data])) ?_
 have := putN_le 1
 have := putN_le c.f2.data.toList.length
 refine Ev.congr (f := fun _ => some (l ++ nb (putN 1) ++ nb (putN c.f2.data.toList.length) ++ nb c.f2.data.toList)) (fun k => ?_) (Ev.now _)
 rw [if_pos (by rw [List.length_append, List.length_append, nb_len, nb_len]; omega), bytes_nb]
theorem insK_in {g nu nc : Nat} {regs protos a b : Int} {cs : List S42} (h : insK g regs nu nc cs protos a b = true) (hr : 0 ≤ regs ∧ regs ≤ 250) (hnu : nu ≤ 60) (hnc : nc ≤ 16384) (hcs : cs.length ≤ 4096) (hp : protos ≤ 256) : 0 ≤ a ∧ a ≤ 250 ∧ 0 ≤ b ∧ b ≤ 16384 := by
 unfold insK at h
 simp only [w_sm (x := regs - 1) (by omega), w_sm (x := regs - 2) (by omega)] at h
 by_cases h0 : g = 0
 ·rw [if_pos h0] at h; simp at h; omega
 rw [if_neg h0] at h
 by_cases h1 : g = 1
 ·rw [if_pos h1] at h; simp at h; omega
 rw [if_neg h1] at h
 by_cases h2 : g = 2
 ·rw [if_pos h2] at h; simp at h; omega
 rw [if_neg h2] at h
 by_cases h3 : g = 3
 ·rw [if_pos h3] at h; simp at h; omega
 rw [if_neg h3] at h
 by_cases h4 : g = 4
 ·rw [if_pos h4] at h; simp at h; omega
 rw [if_neg h4] at h
 by_cases h5 : g = 5
 ·rw [if_pos h5] at h; simp at h; omega
 rw [if_neg h5] at h
 by_cases h6 : g = 6
 ·rw [if_pos h6] at h; simp at h; omega
 rw [if_neg h6] at h
 by_cases h7 : g = 7
 ·rw [if_pos h7] at h; simp at h; omega
 rw [if_neg h7] at h
 by_cases h8 : g = 8
 ·rw [if_pos h8] at h; simp at h; omega
 rw [if_neg h8] at h
 by_cases h9 : g = 9
 ·rw [if_pos h9] at h; simp at h; omega
 rw [if_neg h9] at h
 by_cases h10 : g = 10
 ·rw [if_pos h10] at h; simp at h; omega
 rw [if_neg h10] at h
 by_cases h11 : g = 11
 ·rw [if_pos h11] at h; simp at h; omega
 rw [if_neg h11] at h
 by_cases h12 : g = 12
 ·rw [if_pos h12] at h; simp at h; omega
 rw [if_neg h12] at h
 by_cases h13 : g = 13
 ·rw [if_pos h13] at h; simp at h; omega
 rw [if_neg h13] at h
 by_cases h14 : g = 14
 ·rw [if_pos h14] at h; simp at h; omega
 rw [if_neg h14] at h
 cases h
theorem grp_in {op : Int} (h : ¬ grpOf op = 99) : 0 ≤ op ∧ op ≤ 36 := by
 apply Classical.byContradiction
 intro hn
 apply h
 unfold grpOf
 repeat rw [if_neg (by omega)]
theorem okI_in {p1 protos : Int} {ups : List S50} {cs : List S42} {code : List S52} {x : S52} (h : okI p1 ups cs code protos x = true) (hr : 0 ≤ p1 ∧ p1 ≤ 250) (hnu : ups.length ≤ 60) (hnc : code.length ≤ 16384) (hcs : cs.length ≤ 4096) (hp : protos ≤ 256) :
  (0 ≤ x.f0 ∧ x.f0 ≤ 36) ∧ 0 ≤ x.f1 ∧ x.f1 ≤ 250 ∧ 0 ≤ x.f2 ∧ x.f2 ≤ 16384 := by
 unfold okI at h
 refine ⟨grp_in fun e => ?_, insK_in h hr hnu hnc hcs hp⟩
 rw [e] at h
 cases h
theorem nat_ok {m n : Nat} (h : n ≤ m) (hm : m < 2 ^ 64) : (Cod.nat m).ok n := ⟨Nat.lt_of_le_of_lt h hm, decide_eq_true h⟩
theorem codU_ok {u : S50} (h : okU u = true) : codU.ok u := by
 have h2 := of_decide_eq_true h
 obtain ⟨f0, f1⟩ := u
 simp only at h2
 refine ⟨⟨nat_ok (m := 1) ?_ (by decide), nat_ok (m := 250) ?_ (by decide)⟩, ?_⟩
 ·show (if f0 = true then 1 else 0) ≤ 1; split <;> omega
 ·show f1.toNat ≤ 250; split at h2 <;> omega
 ·show (⟨decide ((if f0 = true then 1 else 0) = 1), ((f1.toNat : Nat) : Int)⟩ : S50) = ⟨f0, f1⟩
  have e : ((f1.toNat : Nat) : Int) = f1 := by omega
  rw [e]
  cases f0 <;> rfl
theorem codI_ok {x : S52} (h : (0 ≤ x.f0 ∧ x.f0 ≤ 36) ∧ 0 ≤ x.f1 ∧ x.f1 ≤ 250 ∧ 0 ≤ x.f2 ∧ x.f2 ≤ 16384) : codI.ok x := by
 obtain ⟨f0, f1, f2⟩ := x
 simp only at h
 refine ⟨⟨nat_ok (m := 36) (show f0.toNat ≤ 36 by omega) (by decide), nat_ok (m := 250) (show f1.toNat ≤ 250 by omega) (by decide), nat_ok (m := 16384) (show f2.toNat ≤ 16384 by omega) (by decide)⟩, ?_⟩
 show (⟨((f0.toNat : Nat) : Int), ((f1.toNat : Nat) : Int), ((f2.toNat : Nat) : Int)⟩ : S52) = ⟨f0, f1, f2⟩
 rw [show ((f0.toNat : Nat) : Int) = f0 by omega, show ((f1.toNat : Nat) : Int) = f1 by omega, show ((f2.toNat : Nat) : Int) = f2 by omega]
theorem codC_ok {c : S42} (h : okC c = true) (hs : smC c = true) (hi : inC c) : codC.ok c := by
 have h1 : (c.f2.size : Int) ≤ 4096 := of_decide_eq_true hs
 obtain ⟨f0, f1, f2⟩ := c
 unfold okC at h
 simp only [Bool.or_eq_true, Bool.and_eq_true, decide_eq_true_eq] at h h1
 rcases h with ⟨rfl, h2⟩ | ⟨rfl, rfl⟩
 ·have e2 : f2 = ⟨#[]⟩ := by
   ext1
   rw [ByteArray.toList_eq] at h2
   exact Array.toList_inj.mp h2
  subst e2
  refine ⟨show Cod.int.ok f1 from ⟨zig_lt f1 hi.1 hi.2, Cod.zag_zig f1⟩, rfl⟩
 ·refine ⟨show f2.data.toList.length ≤ 4096 by rw [sz_data]; omega, ?_⟩
  show (⟨5, 0, ⟨f2.data.toList.toArray⟩⟩ : S42) = ⟨5, 0, f2⟩
  rw [Array.toArray_toList]
theorem mem_all {α : Type} {p : α → Bool} {l : List α} (h : l.all p = true) : ∀ x ∈ l, p x = true := fun x hx => List.all_eq_true.1 h x hx
structure Fine (q : S47) : Prop where
 p0 : 0 ≤ q.f0 ∧ q.f0 ≤ 20
 p1 : 0 ≤ q.f1 ∧ q.f1 ≤ 250
 ups : q.f2.length ≤ 60
 cs : q.f3.length ≤ 4096
 code : q.f4.length ≤ 16384
 okU : ∀ u ∈ q.f2, Z.okU u = true
 okC : ∀ c ∈ q.f3, Z.okC c = true ∧ smC c = true ∧ inC c
 okI : ∀ x ∈ q.f4, (0 ≤ x.f0 ∧ x.f0 ≤ 36) ∧ 0 ≤ x.f1 ∧ x.f1 ≤ 250 ∧ 0 ≤ x.f2 ∧ x.f2 ≤ 16384
theorem Fine.of {q : S47} {i n : Nat} (h : okAt q i n) (hn : n ≤ 256) (hi : ∀ c ∈ q.f3, inC c) : Fine q := by
 obtain ⟨h1, h2, h3, h4, h5, h6⟩ := (protoS_zero _ _ _ _ _ _ _).1 h
 exact ⟨by omega, by omega, by omega, by omega, by omega, mem_all h2, fun c hc => ⟨mem_all h3 c hc, mem_all h4 c hc, hi c hc⟩, fun x hx => okI_in (mem_all h6 x hx) (by omega) (by omega) (by omega) (by omega) (by omega)⟩
theorem codP_ok {q : S47} (h : Fine q) : codP.ok q := by
 have h0 := h.p0
 have h1 := h.p1
 refine ⟨⟨nat_ok (m := 20) (show q.f0.toNat ≤ 20 by omega) (by decide), nat_ok (m := 250) (show q.f1.toNat ≤ 250 by omega) (by decide), ⟨h.ups, fun u hu => codU_ok (h.okU u hu)⟩, ⟨h.cs, fun c hc => codC_ok (h.okC c hc).1 (h.okC c hc).2.1 (h.okC c hc).2.2⟩, ⟨h.code, fun x hx => codI_ok (h.okI x hx)⟩⟩, ?_⟩
 obtain ⟨f0, f1, f2, f3, f4⟩ := q
 show (⟨((f0.toNat : Nat) : Int), ((f1.toNat : Nat) : Int), f2, f3, f4⟩ : S47) = ⟨f0, f1, f2, f3, f4⟩
 rw [show ((f0.toNat : Nat) : Int) = f0 by simp only at h0; omega, show ((f1.toNat : Nat) : Int) = f1 by simp only at h1; omega]
theorem flat_len {α β : Type} {f : α → List β} {K : Nat} : ∀ (xs : List α), (∀ x ∈ xs, (f x).length ≤ K) → (xs.flatMap f).length ≤ xs.length * K
 | [], _ => by simp
 | x :: xs, h => by
  have h1 := flat_len xs fun y hy => h y (List.mem_cons_of_mem _ hy)
  have h2 := h x List.mem_cons_self
  rw [List.flatMap_cons, List.length_append, List.length_cons, Nat.succ_mul]
  omega
theorem codI_enc (x : S52) : codI.enc x = putN x.f0.toNat ++ (putN x.f1.toNat ++ putN x.f2.toNat) := rfl
theorem codU_enc (u : S50) : codU.enc u = putN (if u.f0 = true then 1 else 0) ++ putN u.f1.toNat := rfl
theorem codI_le (x : S52) : (codI.enc x).length ≤ 30 := by
 rw [codI_enc, List.length_append, List.length_append]
 have := putN_le x.f0.toNat
 have := putN_le x.f1.toNat
 have := putN_le x.f2.toNat
 omega
theorem codU_le (u : S50) : (codU.enc u).length ≤ 20 := by
 rw [codU_enc, List.length_append]
 have := putN_le (if u.f0 = true then 1 else 0)
 have := putN_le u.f1.toNat
 omega
theorem codP_enc (q : S47) : codP.enc q = putN q.f0.toNat ++ (putN q.f1.toNat ++ ((putN q.f2.length ++ q.f2.flatMap codU.enc) ++ ((putN q.f3.length ++ q.f3.flatMap codC.enc) ++ (putN q.f4.length ++ q.f4.flatMap codI.enc)))) := rfl
theorem codP_le {q : S47} (h : Fine q) : (codP.enc q).length ≤ 20000000 := by
 have a1 := flat_len (f := codU.enc) q.f2 fun u _ => codU_le u
 have a2 := flat_len (f := codC.enc) q.f3 fun c hc => codC_le c (h.okC c hc).2.1
 have a3 := flat_len (f := codI.enc) q.f4 fun x _ => codI_le x
 have b1 := h.ups
 have b2 := h.cs
 have b3 := h.code
 rw [codP_enc]
 simp only [List.length_append]
 have := putN_le q.f0.toNat
 have := putN_le q.f1.toNat
 have := putN_le q.f2.length
 have := putN_le q.f3.length
 have := putN_le q.f4.length
 omega
theorem p_l2 (code : List S52) (hc : ∀ x ∈ code, (0 ≤ x.f0 ∧ x.f0 ≤ 36) ∧ 0 ≤ x.f1 ∧ x.f1 ≤ 250 ∧ 0 ≤ x.f2 ∧ x.f2 ≤ 16384) (hm : code.length ≤ 16384) : ∀ (d i : Nat) (l : List Int), i + d = code.length → l.length + 30 * d ≤ 500000000000 →
  Ev (fun k => fQ6.l2 k l code (code.length : Int) (i : Int)) (l ++ nb ((code.drop i).flatMap codI.enc))
 | 0, i, l, hi, hl => by
  obtain rfl : i = code.length := by omega
  rw [List.drop_length]
  show Ev _ (l ++ [])
  rw [List.append_nil]
  exact Ev.step (f := fun _ => some l) (fun k => by rw [fQ6.l2, if_neg (by omega)]) (Ev.now _)
 | d + 1, i, l, hi, hl => by
  have hlt : i < code.length := by omega
  have hb := hc code[i] (List.getElem_mem hlt)
  refine Ev.step (f := fun k => (fQ9.f k l [code[i].f0, code[i].f1, code[i].f2]).bind fun t => fQ6.l2 k t code (code.length : Int) ((i + 1 : Nat) : Int)) (fun k => ?_) ?_
  ·rw [fQ6.l2, if_pos (by omega), if_pos (by omega), if_pos (by omega), rd33 _ _ hlt, w_one (by omega)]
  ·rw [List.drop_eq_getElem_cons hlt, List.flatMap_cons, nb_append, ← List.append_assoc]
   refine Ev.bind (f := fun k t => fQ6.l2 k t code (code.length : Int) ((i + 1 : Nat) : Int)) (a := l ++ nb (codI.enc code[i])) (Ev.eq (ints_ok _ l (by simp; omega) (by simp) (by omega)) (by simp [codI_enc])) ?_
   have := codI_le code[i]
   exact p_l2 code hc hm d (i + 1) _ (by omega) (by rw [List.length_append, nb_len]; omega)
theorem p_l1 (q : S47) (h : Fine q) : ∀ (d i : Nat) (l : List Int), i + d = q.f3.length → l.length + 4200 * d ≤ 400000000000 →
  Ev (fun k => fQ6.l1 k l q.f3 (q.f3.length : Int) (i : Int) q.f0 q.f1 q.f2 q.f3 q.f4) (l ++ nb ((q.f3.drop i).flatMap codC.enc ++ (putN q.f4.length ++ q.f4.flatMap codI.enc)))
 | 0, i, l, hi, hl => by
  obtain rfl : i = q.f3.length := by omega
  have hm := h.code
  rw [List.drop_length, List.flatMap_nil, List.nil_append, nb_append, ← List.append_assoc]
  refine Ev.step (f := fun k => (fQ9.f k l [(q.f4.length : Int)]).bind fun t => fQ6.l2 k t q.f4 (q.f4.length : Int) ((0 : Nat) : Int)) (fun k => by rw [fQ6.l1, if_neg (by omega)]; rfl) ?_
  refine Ev.bind (f := fun k t => fQ6.l2 k t q.f4 (q.f4.length : Int) ((0 : Nat) : Int)) (a := l ++ nb (putN q.f4.length)) (Ev.eq (ints_ok _ l (by simp; omega) (by simp) (by omega)) (by simp)) ?_
  have := putN_le q.f4.length
  exact p_l2 q.f4 h.okI hm q.f4.length 0 _ (by omega) (by rw [List.length_append, nb_len]; omega)
 | d + 1, i, l, hi, hl => by
  have hlt : i < q.f3.length := by omega
  have hm := h.cs
  have hb := h.okC q.f3[i] (List.getElem_mem hlt)
  refine Ev.step (f := fun k => (fQ12.f k l q.f3[i].f0 q.f3[i].f1 q.f3[i].f2).bind fun t => fQ6.l1 k t q.f3 (q.f3.length : Int) ((i + 1 : Nat) : Int) q.f0 q.f1 q.f2 q.f3 q.f4) (fun k => ?_) ?_
  ·rw [fQ6.l1, if_pos (by omega), if_pos (by omega), if_pos (by omega), rd46 _ _ hlt, w_one (by omega)]
  ·rw [List.drop_eq_getElem_cons hlt, List.flatMap_cons, List.append_assoc, nb_append, ← List.append_assoc]
   refine Ev.bind (f := fun k t => fQ6.l1 k t q.f3 (q.f3.length : Int) ((i + 1 : Nat) : Int) q.f0 q.f1 q.f2 q.f3 q.f4) (const_ok _ l hb.2.2 hb.2.1 (by omega)) ?_
   have := codC_le q.f3[i] hb.2.1
   exact p_l1 q h d (i + 1) _ (by omega) (by rw [List.length_append, nb_len]; omega)
theorem p_l0 (q : S47) (h : Fine q) : ∀ (d i : Nat) (l : List Int), i + d = q.f2.length → l.length + 20 * d ≤ 300000000000 →
  Ev (fun k => fQ6.l0 k l q.f2 (q.f2.length : Int) (i : Int) q.f0 q.f1 q.f2 q.f3 q.f4) (l ++ nb ((q.f2.drop i).flatMap codU.enc ++ ((putN q.f3.length ++ q.f3.flatMap codC.enc) ++ (putN q.f4.length ++ q.f4.flatMap codI.enc))))
 | 0, i, l, hi, hl => by
  obtain rfl : i = q.f2.length := by omega
  have hm := h.cs
  rw [List.drop_length, List.flatMap_nil, List.nil_append, List.append_assoc, nb_append, ← List.append_assoc]
  refine Ev.step (f := fun k => (fQ9.f k l [(q.f3.length : Int)]).bind fun t => fQ6.l1 k t q.f3 (q.f3.length : Int) ((0 : Nat) : Int) q.f0 q.f1 q.f2 q.f3 q.f4) (fun k => by rw [fQ6.l0, if_neg (by omega)]; rfl) ?_
  refine Ev.bind (f := fun k t => fQ6.l1 k t q.f3 (q.f3.length : Int) ((0 : Nat) : Int) q.f0 q.f1 q.f2 q.f3 q.f4) (a := l ++ nb (putN q.f3.length)) (Ev.eq (ints_ok _ l (by simp; omega) (by simp) (by omega)) (by simp)) ?_
  have := putN_le q.f3.length
  exact p_l1 q h q.f3.length 0 _ (by omega) (by rw [List.length_append, nb_len]; omega)
 | d + 1, i, l, hi, hl => by
  have hlt : i < q.f2.length := by omega
  have hm := h.ups
  have hb := of_decide_eq_true (h.okU q.f2[i] (List.getElem_mem hlt))
  have hb2 : 0 ≤ q.f2[i].f1 ∧ q.f2[i].f1 < 250 := by split at hb <;> omega
  have hx : (if q.f2[i].f0 = true then (1 : Int) else 0) = 0 ∨ (if q.f2[i].f0 = true then (1 : Int) else 0) = 1 := by split <;> simp
  refine Ev.step (f := fun k => (fQ9.f k l [if q.f2[i].f0 = true then 1 else 0, q.f2[i].f1]).bind fun t => fQ6.l0 k t q.f2 (q.f2.length : Int) ((i + 1 : Nat) : Int) q.f0 q.f1 q.f2 q.f3 q.f4) (fun k => ?_) ?_
  ·rw [fQ6.l0, if_pos (by omega), if_pos (by omega), if_pos (by omega), rd48 _ _ hlt, w_one (by omega)]
   by_cases hf : q.f2[i].f0 = true
   ·rw [if_pos hf, if_pos hf]
   rw [if_neg hf, if_neg hf]
  ·rw [List.drop_eq_getElem_cons hlt, List.flatMap_cons, List.append_assoc, nb_append, ← List.append_assoc]
   refine Ev.bind (f := fun k t => fQ6.l0 k t q.f2 (q.f2.length : Int) ((i + 1 : Nat) : Int) q.f0 q.f1 q.f2 q.f3 q.f4) (a := l ++ nb (codU.enc q.f2[i])) (Ev.eq (ints_ok _ l (by intro y hy; simp only [List.mem_cons, List.not_mem_nil, or_false] at hy; rcases hy with rfl | rfl <;> omega) (by simp) (by omega)) (by rw [codU_enc]; by_cases hf : q.f2[i].f0 = true <;> simp [hf])) ?_
   have := codU_le q.f2[i]
   exact p_l0 q h d (i + 1) _ (by omega) (by rw [List.length_append, nb_len]; omega)
theorem proto_ok (q : S47) (h : Fine q) (l : List Int) (hl : l.length ≤ 200000000000) : Ev (fun k => fQ6.f k l q.f0 q.f1 q.f2 q.f3 q.f4) (l ++ nb (codP.enc q)) := by
 have h0 := h.p0
 have h1 := h.p1
 have h2 := h.ups
 refine Ev.congr (f := fun k => (fQ9.f k l [q.f0, q.f1, (q.f2.length : Int)]).bind fun t => fQ6.l0 k t q.f2 (q.f2.length : Int) ((0 : Nat) : Int) q.f0 q.f1 q.f2 q.f3 q.f4) (fun k => rfl) ?_
 have e : l ++ nb (codP.enc q) = (l ++ nb (putN q.f0.toNat ++ (putN q.f1.toNat ++ putN q.f2.length))) ++ nb (q.f2.flatMap codU.enc ++ ((putN q.f3.length ++ q.f3.flatMap codC.enc) ++ (putN q.f4.length ++ q.f4.flatMap codI.enc))) := by
  rw [codP_enc]
  simp only [nb_append, List.append_assoc]
 rw [e]
 refine Ev.bind (f := fun k t => fQ6.l0 k t q.f2 (q.f2.length : Int) ((0 : Nat) : Int) q.f0 q.f1 q.f2 q.f3 q.f4) (a := l ++ nb (putN q.f0.toNat ++ (putN q.f1.toNat ++ putN q.f2.length))) (Ev.eq (ints_ok _ l (by simp; omega) (by simp) (by omega)) (by simp)) ?_
 have := putN_le q.f0.toNat
 have := putN_le q.f1.toNat
 have := putN_le q.f2.length
 exact p_l0 q h q.f2.length 0 _ (by omega) (by rw [List.length_append, nb_len, List.length_append, List.length_append]; omega)
def progE (l : List S47) : List UInt8 := putN l.length ++ l.flatMap codP.enc
def finE (x : List Int) : ByteArray × Int := if (x.length : Int) > 262144 then (⟨#[]⟩, 3) else (strOfNums x, 0)
theorem str_nb (l : List UInt8) : strOfNums (nb l) = ⟨l.toArray⟩ := by
 have e : ((fun n : Int => UInt8.ofNat n.toNat) ∘ fun b : UInt8 => (b.toNat : Int)) = id := by
  funext b
  simp
 unfold strOfNums nb
 rw [List.map_map, e, List.map_id]
theorem e_go (l : List S47) (hf : ∀ q ∈ l, Fine q) (hm : l.length ≤ 256) : ∀ (d i : Nat) (acc : List Int), i + d = l.length → acc.length + 20000000 * d ≤ 100000000000 →
  Ev (fun k => fQ13.l0 k acc l (l.length : Int) (i : Int)) (finE (acc ++ nb ((l.drop i).flatMap codP.enc)))
 | 0, i, acc, hi, hl => by
  obtain rfl : i = l.length := by omega
  rw [List.drop_length]
  show Ev _ (finE (acc ++ []))
  rw [List.append_nil]
  refine Ev.step (f := fun _ => some (finE acc)) (fun k => ?_) (Ev.now _)
  rw [fQ13.l0, if_neg (by omega)]
  unfold finE
  split <;> rfl
 | d + 1, i, acc, hi, hl => by
  have hlt : i < l.length := by omega
  have hb := hf l[i] (List.getElem_mem hlt)
  refine Ev.step (f := fun k => (fQ6.f k acc l[i].f0 l[i].f1 l[i].f2 l[i].f3 l[i].f4).bind fun t => fQ13.l0 k t l (l.length : Int) ((i + 1 : Nat) : Int)) (fun k => ?_) ?_
  ·rw [fQ13.l0, if_pos (by omega), if_pos (by omega), if_pos (by omega), rd41 _ _ hlt, w_one (by omega)]
  ·rw [List.drop_eq_getElem_cons hlt, List.flatMap_cons, nb_append, ← List.append_assoc]
   refine Ev.bind (f := fun k t => fQ13.l0 k t l (l.length : Int) ((i + 1 : Nat) : Int)) (proto_ok _ hb acc (by omega)) ?_
   have := codP_le hb
   exact e_go l hf hm d (i + 1) _ (by omega) (by rw [List.length_append, nb_len]; omega)
def encS (l : List S47) : ByteArray × Int := if checkS l = 0 then (if (progE l).length > 262144 then (⟨#[]⟩, 3) else (⟨(progE l).toArray⟩, 0)) else (⟨#[]⟩, checkS l)
def inP (l : List S47) : Prop := ∀ q ∈ l, ∀ c ∈ q.f3, inC c
theorem fine_all {l : List S47} (h : checkS l = 0) (hi : inP l) : l.length ≤ 256 ∧ ∀ q ∈ l, Fine q := by
 obtain ⟨_, h1, h2⟩ := (checkS_zero l).1 h
 refine ⟨h1, fun q hq => ?_⟩
 obtain ⟨j, hj, rfl⟩ := List.mem_iff_getElem.1 hq
 exact Fine.of (h2 j hj) h1 (hi _ hq)
theorem enc_ok (l : List S47) (hi : inP l) : Ev (fun k => fQ13.f k l) (encS l) := by
 refine Ev.congr (f := fun k => (fQ16.f k l).bind fun t => if t = 0 then (fQ9.f k [] [(l.length : Int)]).bind fun t2 => fQ13.l0 k t2 l (l.length : Int) ((0 : Nat) : Int) else some (⟨#[]⟩, t)) (fun k => rfl) ?_
 refine Ev.bind (f := fun k t => if t = 0 then (fQ9.f k [] [(l.length : Int)]).bind fun t2 => fQ13.l0 k t2 l (l.length : Int) ((0 : Nat) : Int) else some (⟨#[]⟩, t)) (c_check l) ?_
 unfold encS
 by_cases h : checkS l = 0
 case neg =>
  simp only [h, if_false]
  exact Ev.now _
 obtain ⟨hm, hf⟩ := fine_all h hi
 simp only [h, if_true]
 have hp := putN_le l.length
 refine Ev.bind (f := fun k t2 => fQ13.l0 k t2 l (l.length : Int) ((0 : Nat) : Int)) (a := nb (putN l.length)) (Ev.eq (ints_ok [(l.length : Int)] [] (by simp; omega) (by simp) (by simp)) (by simp)) ?_
 refine Ev.eq (e_go l hf hm l.length 0 _ (by omega) (by rw [nb_len]; omega)) ?_
 rw [List.drop_zero, ← nb_append]
 unfold finE
 rw [nb_len, str_nb]
 show (if ((progE l).length : Int) > 262144 then _ else _) = _
 by_cases hl : (progE l).length > 262144
 ·rw [if_pos hl, if_pos (by omega)]
 rw [if_neg hl, if_neg (by omega)]; rfl
def decS (s : ByteArray) : List S47 × Int := if s.size ≤ 262144 then match (Cod.list 256 (by decide) codP).dec s.data.toList with
  | some (l, []) => if checkS l = 0 then (l, 0) else ([], 4)
  | _ => ([], 4)
 else ([], 4)
theorem dec_ok (s : ByteArray) : Ev (fun k => fQ15.f k s) (decS s) := by
 unfold fQ15.f decS
 by_cases h : s.size ≤ 262144
 case neg =>
  simp only [if_neg h]
  exact Ev.now _
 simp only [if_pos h]
 cases hd : (Cod.list 256 (by decide) codP).dec s.data.toList with
 | none => exact Ev.now _
 | some y =>
  obtain ⟨l, r⟩ := y
  cases r with
  | cons a t => exact Ev.now _
  | nil =>
   refine Ev.bind (f := fun _ c => some (if c = 0 then (l, 0) else ([], 4))) (c_check l) ?_
   exact Ev.now _
theorem dec_yes {s : ByteArray} {l : List S47} (h0 : s.size ≤ 262144) (h1 : s.data.toList = progE l) (h2 : checkS l = 0) (hi : inP l) : decS s = (l, 0) := by
 obtain ⟨hm, hf⟩ := fine_all h2 hi
 have hr := (Cod.list 256 (by decide) codP).rt l [] ⟨hm, fun q hq => codP_ok (hf q hq)⟩
 rw [List.append_nil] at hr
 unfold decS
 rw [if_pos h0, h1]
 have e : (Cod.list 256 (by decide) codP).dec (progE l) = some (l, []) := hr
 rw [e]
 simp only [h2, if_true]
theorem codC_in {c : S42} (h : codC.ok c) : inC c := by
 obtain ⟨h1, h2⟩ := h
 by_cases h3 : c.f0 = 3
 case neg =>
  have h4 : (match (if c.f0 = 3 then (.inl c.f1 : Int ⊕ List UInt8) else .inr c.f2.data.toList) with | .inl n => (⟨3, n, ⟨#[]⟩⟩ : S42) | .inr t => ⟨5, 0, ⟨t.toArray⟩⟩) = c := h2
  rw [if_neg h3] at h4
  have h5 : c.f1 = 0 := by rw [← h4]
  unfold inC
  omega
 have h4 : Cod.int.ok c.f1 := by
  have : (Cod.alt Cod.int (Cod.text 4096 (by decide))).ok (if c.f0 = 3 then .inl c.f1 else .inr c.f2.data.toList) := h1
  rw [if_pos h3] at this
  exact this
 have h5 : Cod.zig c.f1 < 2 ^ 64 := h4.1
 unfold Cod.zig at h5
 unfold inC
 split at h5 <;> omega
theorem dec_no {s : ByteArray} : decS s = ([], 4) ∨ (∃ l, decS s = (l, 0) ∧ s.size ≤ 262144 ∧ s.data.toList = progE l ∧ checkS l = 0 ∧ inP l) := by
 unfold decS
 by_cases h : s.size ≤ 262144
 case neg =>
  rw [if_neg h]; exact .inl rfl
 rw [if_pos h]
 cases hd : (Cod.list 256 (by decide) codP).dec s.data.toList with
 | none => exact .inl rfl
 | some y =>
  obtain ⟨l, r⟩ := y
  cases r with
  | cons a t => exact .inl rfl
  | nil =>
   by_cases hc : checkS l = 0
   case neg =>
    left; simp only [hc, if_false]
   obtain ⟨h1, h2⟩ := (Cod.list 256 (by decide) codP).un _ _ _ hd
   rw [List.append_nil] at h2
   exact .inr ⟨l, by simp only [hc, if_true], h, h2, hc, fun q hq c hcc => codC_in ((h1.2 q hq).1.2.2.2.1.2 c hcc)⟩
def leastL (c : List S42) : List S47 := [⟨0, 1, [], c, [⟨0, 0, 0⟩, ⟨19, 0, 0⟩]⟩]
def leastB : List UInt8 := [1, 0, 1, 0, 0, 2, 0, 0, 0, 19, 0, 0]
theorem least_check : checkS (leastL []) = 0 := by decide +kernel
theorem least_enc : progE (leastL []) = leastB := by decide +kernel
theorem leastE : encS (leastL []) = (⟨leastB.toArray⟩, 0) := by
 unfold encS
 rw [least_check, if_pos rfl, least_enc, if_neg (by decide)]
theorem leastD : decS ⟨leastB.toArray⟩ = (leastL [], 0) := dec_yes (by decide +kernel) (by rw [least_enc]) least_check (by intro q hq c hc; simp only [leastL, List.mem_singleton] at hq; subst hq; cases hc)
theorem least_in : inP (leastL []) := by intro q hq c hc; simp only [leastL, List.mem_singleton] at hq; subst hq; cases hc
theorem least_same (c : List S42) (hc : c.length ≤ 140737488351232) : Ev (fun k => fQ25.f k (leastL c) (leastL c)) true :=
 Ev.eq (c_Same _ _ (by simp [leastL]) (by intro x hx; simp only [leastL, List.mem_singleton] at hx; subst hx; exact ⟨by simp, hc, by simp⟩)) (sameL_self _)
theorem works_ok : Ev (fun k => fQ11.f k) true := by
 unfold fQ11.f
 refine Ev.bind (f := fun k t => _) (a := leastL []) (Ev.now _) ?_
 refine Ev.bind (f := fun k t => _) (Ev.eq (enc_ok _ least_in) leastE) ?_
 refine Ev.bind (f := fun k t => _) (Ev.eq (dec_ok _) leastD) ?_
 refine Ev.congr (f := fun k => (fQ25.f k (leastL []) (leastL [])).bind fun t => some t) (fun k => ?_) (Ev.bind (f := fun _ t => some t) (least_same [] (by simp)) (Ev.now _))
 simp only [if_true]
 rw [if_pos (show (⟨leastB.toArray⟩ : ByteArray).toList = [1, 0, 1, 0, 0, 2, 0, 0, 0, 19, 0, 0] by rw [ByteArray.toList_eq]; rfl)]
 rfl
end Go.Proofs.Ytkkgbbfojmnopaa.Z
end
