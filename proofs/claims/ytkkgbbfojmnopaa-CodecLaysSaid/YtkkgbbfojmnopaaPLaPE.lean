import Derived.Test.YtkkgbbfojmnopaaPLaPC
import Derived.Test.YtkkgbbfojmnopaaPLaE11
import Derived.Test.YtkkgbbfojmnopaaPLaGx0
import Derived.Test.YtkkgbbfojmnopaaPLaGxF10
import Derived.Test.YtkkgbbfojmnopaaPLaGxF12
set_option linter.unusedVariables false
set_option linter.unusedSimpArgs false
section
namespace Go.Proofs.Ytkkgbbfojmnopaa.Z
open Go.RowKit Go.Proofs.Ytkkgbbfojmnopaa.G Go.Proofs.YtkkgbbfojmnopaaW.PrintWords Go.Proofs.YtkkgbbfojmnopaaW.PrintLast Go.Proofs.YtkkgbbfojmnopaaW.PrintMore
def nb (l : List UInt8) : List Int := l.map fun b => (b.toNat : Int)
theorem nb_append (a b : List UInt8) : nb (a ++ b) = nb a ++ nb b := List.map_append
theorem nb_len (a : List UInt8) : (nb a).length = a.length := List.length_map _
theorem or128f : ∀ b : Fin 256, Go.bits .or .u8 (b.val : Int) 128 = ((b.val % 128 + 128 : Nat) : Int) := by decide +kernel
theorem or128 (n : Nat) : Go.bits .or .u8 ((n : Int) % 256) 128 = ((n % 128 + 128 : Nat) : Int) := by
 have h := or128f ⟨n % 256, Nat.mod_lt _ (by decide)⟩
 rw [show ((n : Int) % 256) = ((n % 256 : Nat) : Int) by omega]
 rw [h]
 show ((n % 256 % 128 + 128 : Nat) : Int) = _
 congr 1
 omega
theorem putF_le : ∀ (f n : Nat), (putF f n).length ≤ f + 1
 | 0, n => Nat.le_refl _
 | f + 1, n => by
  rw [putF]
  by_cases h : n < 128
  ·rw [if_pos h]; simp
  rw [if_neg h, List.length_cons]; have := putF_le f (n / 128); omega
theorem putN_le (n : Nat) : (putN n).length ≤ 10 := putF_le 9 n
theorem put_ev : ∀ (f n : Nat) (l : List Int), n < 2 * 128 ^ f → l.length + f < 140737488355328 → Ev (fun k => codec_put.l0 k l (n : Int)) (l ++ nb (putF f n))
 | 0, n, l, h, hl => by
  refine Ev.step (f := fun _ => some (l ++ [(n : Int)])) (fun k => ?_) ?_
  ·rw [codec_put.l0, if_neg (by omega), if_pos (by omega), show (n : Int) % 256 = n by omega]
  ·have e : nb (putF 0 n) = [(n : Int)] := by
    show [((UInt8.ofNat n).toNat : Int)] = _
    rw [u8_lit (by omega)]
   rw [e]
   exact Ev.now _
 | f + 1, n, l, h, hl => by
  have hp : 128 ^ (f + 1) = 128 * 128 ^ f := by rw [Nat.pow_succ]; omega
  by_cases hn : n < 128
  ·refine Ev.step (f := fun _ => some (l ++ [(n : Int)])) (fun k => ?_) ?_
   ·rw [codec_put.l0, if_neg (by omega), if_pos (by omega), show (n : Int) % 256 = n by omega]
   ·have e : nb (putF (f + 1) n) = [(n : Int)] := by
     rw [putF, if_pos hn]
     show [((UInt8.ofNat n).toNat : Int)] = _
     rw [u8_lit (by omega)]
    rw [e]
    exact Ev.now _
  refine Ev.step (f := fun k => codec_put.l0 k (l ++ [((n % 128 + 128 : Nat) : Int)]) ((n / 128 : Nat) : Int)) (fun k => ?_) ?_
  ·rw [codec_put.l0, if_pos (by omega), if_pos (by omega), or128, show (n : Int) / 128 = ((n / 128 : Nat) : Int) by omega]
  ·have e : nb (putF (f + 1) n) = [((n % 128 + 128 : Nat) : Int)] ++ nb (putF f (n / 128)) := by
    rw [putF, if_neg hn]
    show ((UInt8.ofNat (n % 128 + 128)).toNat : Int) :: nb (putF f (n / 128)) = _
    rw [u8_lit (by omega)]; rfl
   rw [e, ← List.append_assoc]
   exact put_ev f (n / 128) _ (by omega) (by rw [List.length_append]; simp; omega)
theorem put_ok (n : Nat) (l : List Int) (h : n < 2 ^ 64) (hl : l.length + 9 < 140737488355328) : Ev (fun k => codec_put.f k l (n : Int)) (l ++ nb (putN n)) := Ev.congr (fun k => rfl) (put_ev 9 n l (by rw [pow64]; exact h) hl)
theorem wrap_u64 (x : Int) : IntKind.u64.wrap x = x % 18446744073709551616 := by simp [IntKind.wrap, IntKind.bits, IntKind.signed]
theorem rd_at (l : List Int) (i : Nat) (h : i < l.length) : rd l (i : Int) = l[i] := by
 simp [rd, List.getD, h]
theorem ints_go (ys : List Int) (hy : ∀ y ∈ ys, 0 ≤ y ∧ y < 9223372036854775808) (hm : ys.length ≤ 100) : ∀ (d i : Nat) (l : List Int), i + d = ys.length → l.length + 10 * d ≤ 1000000000000 → Ev (fun k => codec_ints.l0 k l ys (ys.length : Int) (i : Int)) (l ++ nb ((ys.drop i).flatMap fun y => putN y.toNat))
 | 0, i, l, hi, hl => by
  obtain rfl : i = ys.length := by omega
  rw [List.drop_length]
  show Ev _ (l ++ [])
  rw [List.append_nil]
  exact Ev.step (f := fun _ => some l) (fun k => by rw [codec_ints.l0, if_neg (by omega)]) (Ev.now _)
 | d + 1, i, l, hi, hl => by
  have hlt : i < ys.length := by omega
  have hb := hy ys[i] (List.getElem_mem hlt)
  refine Ev.step (f := fun k => (codec_put.f k l ((ys[i].toNat : Nat) : Int)).bind fun t => codec_ints.l0 k t ys (ys.length : Int) ((i + 1 : Nat) : Int)) (fun k => ?_) ?_
  ·rw [codec_ints.l0, if_pos (by omega), if_pos (by omega), if_pos (by omega), rd_at _ _ hlt, w_one (by omega), wrap_u64, show ys[i] % 18446744073709551616 = ((ys[i].toNat : Nat) : Int) by omega]
  ·rw [List.drop_eq_getElem_cons hlt, List.flatMap_cons, nb_append, ← List.append_assoc]
   refine Ev.bind (f := fun k t => codec_ints.l0 k t ys (ys.length : Int) ((i + 1 : Nat) : Int)) (put_ok _ l (by omega) (by omega)) ?_
   have := putN_le ys[i].toNat
   exact ints_go ys hy hm d (i + 1) _ (by omega) (by rw [List.length_append, nb_len]; omega)
theorem ints_ok (ys : List Int) (l : List Int) (hy : ∀ y ∈ ys, 0 ≤ y ∧ y < 9223372036854775808) (hm : ys.length ≤ 100) (hl : l.length ≤ 900000000000) : Ev (fun k => codec_ints.f k l ys) (l ++ nb (ys.flatMap fun y => putN y.toNat)) := Ev.congr (fun k => rfl) (ints_go ys hy hm ys.length 0 l (by omega) (by omega))
theorem xor64_zero (k : Nat) (h : k < 2 ^ 64) : Go.bits .xor .u64 (k : Int) 0 = (k : Int) := by
 have h1 : (BitVec.ofInt 64 (k : Int)).toNat = k := by
  rw [BitVec.ofInt_natCast, BitVec.toNat_ofNat]; exact Nat.mod_eq_of_lt h
 show IntKind.u64.wrap ((BitVec.ofInt 64 (k : Int) ^^^ BitVec.ofInt 64 0).toNat : Int) = _
 rw [BitVec.toNat_xor, h1, show (BitVec.ofInt 64 0).toNat = 0 from rfl, Nat.xor_zero, wrap_u64]
 omega
theorem xor64_ones (k : Nat) (h : k < 2 ^ 64) : Go.bits .xor .u64 (k : Int) 18446744073709551615 = 18446744073709551615 - (k : Int) := by
 have h1 : (BitVec.ofInt 64 (k : Int)).toNat = k := by
  rw [BitVec.ofInt_natCast, BitVec.toNat_ofNat]; exact Nat.mod_eq_of_lt h
 show IntKind.u64.wrap ((BitVec.ofInt 64 (k : Int) ^^^ BitVec.ofInt 64 18446744073709551615).toNat : Int) = _
 rw [show BitVec.ofInt 64 18446744073709551615 = BitVec.allOnes 64 from by decide, BitVec.xor_allOnes, BitVec.toNat_not, h1, wrap_u64]
 omega
theorem zig_bits (z : Int) (h0 : -9223372036854775808 ≤ z) (h1 : z ≤ 9223372036854775807) : Go.bits .xor .u64 (IntKind.u64.wrap ((IntKind.u64.wrap z) * 2)) (IntKind.u64.wrap (z / 9223372036854775808)) = ((Cod.zig z : Nat) : Int) := by
 simp only [wrap_u64]
 unfold Cod.zig
 by_cases h : 0 ≤ z
 ·rw [if_pos h, show z / 9223372036854775808 % 18446744073709551616 = 0 by omega, show z % 18446744073709551616 * 2 % 18446744073709551616 = (((2 * z).toNat : Nat) : Int) by omega, xor64_zero _ (by omega)]
 rw [if_neg h, show z / 9223372036854775808 % 18446744073709551616 = 18446744073709551615 by omega, show z % 18446744073709551616 * 2 % 18446744073709551616 = (((2 * z + 18446744073709551616).toNat : Nat) : Int) by omega, xor64_ones _ (by omega)]
 omega
theorem zig_lt (z : Int) (h0 : -9223372036854775808 ≤ z) (h1 : z ≤ 9223372036854775807) : Cod.zig z < 2 ^ 64 := by unfold Cod.zig; split <;> omega
theorem bytes_nb (s : ByteArray) : bytesOf s = nb s.data.toList := by simp [bytesOf, nb]
def inC (c : S42) : Prop := -9223372036854775808 ≤ c.f1 ∧ c.f1 ≤ 9223372036854775807
theorem codC_enc (c : S42) : codC.enc c = if c.f0 = 3 then putN 0 ++ putN (Cod.zig c.f1) else putN 1 ++ (putN c.f2.data.toList.length ++ c.f2.data.toList) := by
 have e : codC.enc c = (Cod.alt Cod.int (Cod.text 4096 (by decide))).enc (if c.f0 = 3 then .inl c.f1 else .inr c.f2.data.toList) := rfl
 rw [e]
 by_cases h : c.f0 = 3
 ·rw [if_pos h, if_pos h]; rfl
 rw [if_neg h, if_neg h]; rfl
theorem sz_data (s : ByteArray) : s.data.toList.length = s.size := by rw [Array.length_toList]; rfl
theorem codC_le (c : S42) (h : smC c = true) : (codC.enc c).length ≤ 4200 := by
 have h1 : (c.f2.size : Int) ≤ 4096 := of_decide_eq_true h
 have h2 := sz_data c.f2
 rw [codC_enc]
 split
 ·rw [List.length_append]; have := putN_le 0; have := putN_le (Cod.zig c.f1); omega
 ·rw [List.length_append, List.length_append]; have := putN_le 1; have := putN_le c.f2.data.toList.length; omega
theorem const_ok (c : S42) (l : List Int) (hi : inC c) (hs : smC c = true) (hl : l.length ≤ 800000000000) : Ev (fun k => codec_constant.f k l c.f0 c.f1 c.f2) (l ++ nb (codC.enc c)) := by
 have h1 : (c.f2.size : Int) ≤ 4096 := of_decide_eq_true hs
 rw [codC_enc]
 by_cases h : c.f0 = 3
 ·rw [if_pos h, nb_append, ← List.append_assoc]
  refine Ev.congr (f := fun k => (codec_ints.f k l [0]).bind fun t => (codec_put.f k t ((Cod.zig c.f1 : Nat) : Int)).bind fun t2 => some t2) (fun k => by unfold codec_constant.f; rw [if_pos h, zig_bits _ hi.1 hi.2]) ?_
  refine Ev.bind (f := fun k t => (codec_put.f k t ((Cod.zig c.f1 : Nat) : Int)).bind fun t2 => some t2) (a := l ++ nb (putN 0)) (Ev.eq (ints_ok [0] l (by simp) (by simp) (by omega)) (by simp)) ?_
  refine Ev.bind (f := fun _ t2 => some t2) (put_ok _ _ (zig_lt _ hi.1 hi.2) ?_) (Ev.now _)
  have := putN_le 0
  rw [List.length_append, nb_len]; omega
 rw [if_neg h, nb_append, nb_append, ← List.append_assoc, ← List.append_assoc]
 refine Ev.congr (f := fun k => (codec_ints.f k l [1, (c.f2.size : Int)]).bind fun t => if t.length + c.f2.size < 140737488355328 then some (t ++ bytesOf c.f2) else none) (fun k => by unfold codec_constant.f; rw [if_neg h]) ?_
 refine Ev.bind (f := fun _ t => if t.length + c.f2.size < 140737488355328 then some (t ++ bytesOf c.f2) else none) (a := l ++ nb (putN 1) ++ nb (putN c.f2.data.toList.length)) (Ev.eq (ints_ok [1, (c.f2.size : Int)] l (by simp; omega) (by simp) (by omega)) (by simp [nb_append, sz_data])) ?_
 have := putN_le 1
 have := putN_le c.f2.data.toList.length
 refine Ev.congr (f := fun _ => some (l ++ nb (putN 1) ++ nb (putN c.f2.data.toList.length) ++ nb c.f2.data.toList)) (fun k => ?_) (Ev.now _)
 rw [if_pos (by rw [List.length_append, List.length_append, nb_len, nb_len]; omega), bytes_nb]
end Go.Proofs.Ytkkgbbfojmnopaa.Z
end
