import Derived.Test.YtkkgbbfojmnopaaPRePT
import Derived.Test.YtkkgbbfojmnopaaPReGxF51
import Derived.Test.YtkkgbbfojmnopaaPReF29d
set_option linter.unusedVariables false
set_option linter.unusedSimpArgs false
section
namespace Go.Proofs.Ytkkgbbfojmnopaa.Z
open Go.RowKit Go.Proofs.Ytkkgbbfojmnopaa.G Go.Proofs.YtkkgbbfojmnopaaW.PrintWords Go.Proofs.YtkkgbbfojmnopaaW.PrintLast Go.Proofs.YtkkgbbfojmnopaaW.PrintMore
def Got {α : Type} (dec : List UInt8 → Option (α × List UInt8)) (l : List UInt8) (b : Bool) (x : α) (r : List UInt8) (b' : Bool) : Prop := (b = true → b' = true) ∧ (b = false → (b' = false ∧ dec l = some (x, r)) ∨ (b' = true ∧ dec l = none))
def Rds {α : Type} (dec : List UInt8 → Option (α × List UInt8)) (P : α → Prop) (f : Nat → Option (α × ByteArray × Bool)) (l : List UInt8) (b : Bool) : Prop := ∃ x r b', Ev f (x, mk r, b') ∧ P x ∧ r.length ≤ l.length ∧ Got dec l b x r b'
theorem bt_mk (l : List UInt8) (i : Nat) (c : UInt8) (t : List UInt8) (h : l.drop i = c :: t) : bt (mk l) (i : Int) = (c.toNat : Int) := by
 rw [← rd_bytesOf, bytes_nb]
 have hl : i < l.length := by
  rcases Nat.lt_or_ge i l.length with h1 | h1
  ·exact h1
  ·rw [List.drop_of_length_le h1] at h; cases h
 have hc : l[i] = c := by
  rw [List.drop_eq_getElem_cons hl] at h
  injection h
 show rd (nb l) (i : Int) = _
 have hn : i < (nb l).length := by rw [nb_len]; exact hl
 rw [rd_at _ _ hn]
 have e : (nb l)[i] = ((l[i]).toNat : Int) := List.getElem_map _
 rw [e, hc]
theorem shl_at (c : Nat) (i : Nat) (hc : c < 128) (hi : i ≤ 9) : shl .u64 (Int.tmod (c : Int) 128) (wrap64 (7 * (i : Int))) = (((c <<< (7 * i)) % 2 ^ 64 : Nat) : Int) := by
 have e1 : Int.tmod (c : Int) 128 = (c : Int) := by
  have : Int.tmod (c : Int) 128 = ((c % 128 : Nat) : Int) := Int.ofNat_tmod c 128
  rw [this, Nat.mod_eq_of_lt hc]
 have e2 : wrap64 (7 * (i : Int)) = ((7 * i : Nat) : Int) := by unfold wrap64; omega
 unfold shl
 rw [e1, e2, Int.toNat_natCast, show min (7 * i) (IntKind.u64.bits) = 7 * i from Nat.min_eq_left (by show 7 * i ≤ 64; omega)]
 rw [show (c : Int) * 2 ^ (7 * i) = ((c * 2 ^ (7 * i) : Nat) : Int) by push_cast; rfl, Go.Proofs.Ytkkgbbfojmnopaa.G.wrap_u64, Nat.shiftLeft_eq]
theorem or_at (acc c i : Nat) (hc : c < 128) (hi : i ≤ 9) (hc2 : c * 2 ^ (7 * i) < 2 ^ 64) (ha : acc < 2 ^ (7 * i)) : Go.bits .or .u64 (acc : Int) (shl .u64 (Int.tmod (c : Int) 128) (wrap64 (7 * (i : Int)))) = ((acc + c * 2 ^ (7 * i) : Nat) : Int) := by
 have h63 : acc < 2 ^ 63 := Nat.lt_of_lt_of_le ha (Nat.pow_le_pow_right (by decide) (by omega))
 have hm : (c <<< (7 * i)) % 2 ^ 64 < 2 ^ 64 := Nat.mod_lt _ (Nat.pow_pos (by decide))
 rw [shl_at c i hc hi, bits_or_u64_nat acc _ (Nat.lt_trans h63 (by decide)) hm, or_place ha hc2]
set_option maxRecDepth 4000 in
set_option maxHeartbeats 4000000 in
theorem num_go (l : List UInt8) (b : Bool) (hl : l.length ≤ 1000000) : ∀ (f i acc : Nat), i + f = 9 → acc < 2 ^ (7 * i) → Ev (fun k => fQ4.l0 k (acc : Int) (i : Int) (mk l) b) (match numGo f i acc (l.drop i) with | some (n, r) => ((n : Int), mk r, b) | none => (0, ⟨#[]⟩, true))
 | f, i, acc, hi, ha => by
  have hsz : (mk l).size = l.length := mk_size l
  replace ha := Aq.mk ha
  rcases Nat.lt_or_ge i l.length with hlt | hge
  ·obtain ⟨c, t, hd⟩ : ∃ c t, l.drop i = c :: t := ⟨_, _, List.drop_eq_getElem_cons hlt⟩
   have ht : t = l.drop (i + 1) := by
    rw [List.drop_eq_getElem_cons hlt] at hd
    injection hd with _ h2
    exact h2.symm
   have hbt := bt_mk l i c t hd
   have hc := c.toNat_lt
   have hw : IntKind.u64.wrap (c.toNat : Int) = (c.toNat : Int) := by rw [wrap_u64]; omega
   have hext : (mk l).extract ((wrap64 ((i : Int) + 1)) : Int).toNat (mk l).size = mk t := by
    rw [show (wrap64 ((i : Int) + 1)).toNat = i + 1 by unfold wrap64; omega, ht, hsz]
    have := extract_drop (s := mk l) (l := l) (by simp [mk]) (i + 1)
    rw [← mk_data ((mk l).extract (i + 1) l.length), this]
   have hw7 : wrap64 (7 * (i : Int)) = ((7 * i : Nat) : Int) := by unfold wrap64; omega
   have hw1 : wrap64 ((i : Int) + 1) = ((i + 1 : Nat) : Int) := by unfold wrap64; omega
   cases f with
   | zero =>
    obtain rfl : i = 9 := by omega
    rw [hd, numGo]
    by_cases h1 : c.toNat > 1
    ·rw [if_neg (by omega)]
     refine Ev.step (f := fun k => fQ4.j1 k (acc : Int) ((9 : Nat) : Int) (c.toNat : Int) true (mk l) b) (fun k => by rw [fQ4.l0, if_pos (by omega), if_pos (by omega), if_pos (show ((9 : Nat) : Int) = 9 from rfl), hbt, hw, if_pos (by omega)]) ?_
     exact Ev.step (f := fun _ => some (0, ⟨#[]⟩, true)) (fun k => by rw [fQ4.j1, if_pos rfl]) (Ev.now _)
    refine Ev.step (f := fun k => fQ4.j1 k (acc : Int) ((9 : Nat) : Int) (c.toNat : Int) false (mk l) b) (fun k => by rw [fQ4.l0, if_pos (by omega), if_pos (by omega), if_pos (show ((9 : Nat) : Int) = 9 from rfl), hbt, hw, if_neg (by omega)]; rfl) ?_
    by_cases h0 : c.toNat = 0
    ·rw [if_neg (by omega)]
     exact Ev.step (f := fun _ => some (0, ⟨#[]⟩, true)) (fun k => by rw [fQ4.j1, if_neg Bool.false_ne_true, hw7, if_pos (by omega), if_pos (by omega), if_pos (by omega), if_pos (by omega)]) (Ev.now _)
    rw [if_pos (by omega)]
    have hs : Aq (c.toNat * 2 ^ (7 * 9) < 2 ^ 64) := ⟨by
     have : c.toNat = 1 := by omega
     rw [this]; decide⟩
    refine Ev.step (f := fun _ => some (((acc + c.toNat * 2 ^ (7 * 9) : Nat) : Int), mk t, b)) (fun k => by rw [fQ4.j1, if_neg Bool.false_ne_true, hw7, if_pos (by omega), if_pos (by omega), if_pos (by omega), if_neg (by omega), hw1, if_pos (by omega), if_pos (by omega), ← hw1, ← hw7, or_at acc c.toNat 9 (by omega) (by omega) hs.out ha.out, hext]) (Ev.now _)
   | succ f =>
    have h9 : ¬ i = 9 := by omega
    rw [hd, numGo]
    refine Ev.step (f := fun k => fQ4.j1 k (acc : Int) (i : Int) (c.toNat : Int) false (mk l) b) (fun k => by rw [fQ4.l0, if_pos (by omega), if_pos (by omega), if_neg (by omega), hbt, hw, decide_eq_false (by omega)]) ?_
    by_cases h128 : c.toNat < 128
    ·rw [if_pos h128]
     have hs : Aq (c.toNat * 2 ^ (7 * i) < 2 ^ 64) := ⟨small_shift h128 (by omega)⟩
     by_cases h0 : 0 < c.toNat ∨ i = 0
     case neg =>
      rw [if_neg h0]
      exact Ev.step (f := fun _ => some (0, ⟨#[]⟩, true)) (fun k => by rw [fQ4.j1, if_neg Bool.false_ne_true, hw7, if_pos (by omega), if_pos (by omega), if_pos (by omega), if_pos (by omega)]) (Ev.now _)
     rw [if_pos h0]
     refine Ev.step (f := fun _ => some (((acc + c.toNat * 2 ^ (7 * i) : Nat) : Int), mk t, b)) (fun k => ?_) (Ev.now _)
     rw [fQ4.j1, if_neg Bool.false_ne_true, hw7, if_pos (by omega), if_pos (by omega)]
     by_cases hi0 : i = 0
     ·rw [if_neg (by omega), hw1, if_pos (by omega), if_pos (by omega), ← hw1, ← hw7, or_at acc c.toNat i h128 (by omega) hs.out ha.out, hext]
     rw [if_pos (by omega), if_neg (by omega), hw1, if_pos (by omega), if_pos (by omega), ← hw1, ← hw7, or_at acc c.toNat i h128 (by omega) hs.out ha.out, hext]
    rw [if_neg h128]
    have em : Int.tmod (c.toNat : Int) 128 = Int.tmod (((c.toNat - 128 : Nat)) : Int) 128 := by
     rw [show Int.tmod (c.toNat : Int) 128 = ((c.toNat % 128 : Nat) : Int) from Int.ofNat_tmod _ 128, show Int.tmod ((c.toNat - 128 : Nat) : Int) 128 = (((c.toNat - 128) % 128 : Nat) : Int) from Int.ofNat_tmod _ 128]
     congr 1
     omega
    have hs : Aq ((c.toNat - 128) * 2 ^ (7 * i) < 2 ^ 64) := ⟨small_shift (by omega) (by omega)⟩
    have hacc : Aq (acc + (c.toNat - 128) * 2 ^ (7 * i) < 2 ^ (7 * (i + 1))) := ⟨by
     rw [pow7]
     have h1 : (c.toNat - 128) * 2 ^ (7 * i) ≤ 127 * 2 ^ (7 * i) := Nat.mul_le_mul_right _ (by omega)
     have h2 := ha.out
     clear ha hs
     generalize 2 ^ (7 * i) = p at h1 h2 ⊢
     omega⟩
    refine Ev.step (f := fun k => fQ4.l0 k ((acc + (c.toNat - 128) * 2 ^ (7 * i) : Nat) : Int) ((i + 1 : Nat) : Int) (mk l) b) (fun k => by
     rw [fQ4.j1, if_neg Bool.false_ne_true, hw7, if_pos (by omega), if_neg (by omega), ← hw7, em, or_at acc (c.toNat - 128) i (by omega) (by omega) hs.out ha.out, hw1]) ?_
    rw [ht]
    exact num_go l b hl f (i + 1) _ (by omega) hacc.out
  ·rw [List.drop_of_length_le hge]
   have e : numGo f i acc [] = none := by cases f <;> rfl
   rw [e]
   exact Ev.step (f := fun _ => some (0, ⟨#[]⟩, true)) (fun k => by rw [fQ4.l0, if_neg (by omega)]) (Ev.now _)
termination_by f => f
def decN (l : List UInt8) : Option (Int × List UInt8) := match number l with | some (n, r) => some ((n : Int), r) | none => none
theorem number_rds (l : List UInt8) (b : Bool) (hl : l.length ≤ 1000000) : Rds decN (fun n => 0 ≤ n ∧ n < 18446744073709551616) (fun k => fQ4.f k (mk l) b) l b := by
 have h := num_go l b hl 9 0 0 rfl (by decide)
 rw [List.drop_zero] at h
 have h2 : Ev (fun k => fQ4.f k (mk l) b) (match number l with | some (n, r) => ((n : Int), mk r, b) | none => (0, ⟨#[]⟩, true)) := h
 cases hn : number l with
 | none =>
  rw [hn] at h2
  exact ⟨0, [], true, h2, by omega, Nat.zero_le _, fun _ => rfl, fun _ => .inr ⟨rfl, by unfold decN; rw [hn]⟩⟩
 | some y =>
  obtain ⟨n, r⟩ := y
  rw [hn] at h2
  have hu := Cod.num.un l n r hn
  have hb : n < 2 ^ 64 := hu.1
  have hr : r.length ≤ l.length := Cod.len Cod.num hn
  exact ⟨(n : Int), r, b, h2, by omega, hr, id, fun e => .inl ⟨e, by unfold decN; rw [hn]⟩⟩
def decNat (m : Nat) (l : List UInt8) : Option (Int × List UInt8) := match (Cod.nat m).dec l with | some (n, r) => some ((n : Int), r) | none => none
theorem nat_dec (m : Nat) (l : List UInt8) : (Cod.nat m).dec l = match number l with | some (x, r) => if decide (x ≤ m) = true then some (x, r) else none | none => none := by
 unfold Cod.nat Cod.only
 dsimp only
 have e : Cod.num.dec l = number l := rfl
 rw [e]
 cases number l with
 | none => rfl
 | some y => rfl
theorem natural_rds (m : Nat) (hm : m ≤ 100000) (l : List UInt8) (b : Bool) (hl : l.length ≤ 1000000) : Rds (decNat m) (fun n => 0 ≤ n ∧ n ≤ m) (fun k => fQ3.f k (mk l) b (m : Int)) l b := by
 obtain ⟨n, r, b', h1, h2, h3, h4⟩ := number_rds l b hl
 have hw : IntKind.u64.wrap (m : Int) = (m : Int) := by rw [wrap_u64]; omega
 have hdec : ∀ x, decN l = some (n, x) → decNat m l = if n ≤ m then some (n, x) else none := by
  intro x hx
  unfold decN at hx
  unfold decNat
  rw [nat_dec]
  cases hn : number l with
  | none => rw [hn] at hx; cases hx
  | some y =>
   obtain ⟨q, r2⟩ := y
   rw [hn] at hx
   injection hx with hx
   injection hx with e1 e2
   subst e1
   subst e2
   simp only [decide_eq_true_eq]
   by_cases hq : q ≤ m
   ·rw [if_pos hq, if_pos (by omega)]
   rw [if_neg hq, if_neg (by omega)]
 have hnone : decN l = none → decNat m l = none := by
  intro hx
  unfold decN at hx
  unfold decNat
  rw [nat_dec]
  cases hn : number l with
  | none => rfl
  | some y => rw [hn] at hx; cases hx
 by_cases hq : n ≤ m
 case neg =>
  refine ⟨0, r, true, ?_, ⟨by omega, by omega⟩, h3, fun _ => rfl, fun e => .inr ⟨rfl, ?_⟩⟩
  ·unfold fQ3.f
   refine Ev.bind (f := fun _ t => _) h1 ?_
   refine Ev.congr (f := fun _ => some (0, mk r, true)) (fun k => ?_) (Ev.now _)
   rw [hw, if_pos (by omega)]
  ·rcases h4.2 e with ⟨h5, h6⟩ | ⟨h5, h6⟩
   ·rw [hdec r h6, if_neg hq]
   ·exact hnone h6
 refine ⟨n, r, b', ?_, ⟨h2.1, hq⟩, h3, h4.1, fun e => ?_⟩
 ·unfold fQ3.f
  refine Ev.bind (f := fun _ t => _) h1 ?_
  refine Ev.congr (f := fun _ => some (n, mk r, b')) (fun k => ?_) (Ev.now _)
  rw [hw, if_neg (by omega), show wrap64 n = n by unfold wrap64; omega]
 ·rcases h4.2 e with ⟨h5, h6⟩ | ⟨h5, h6⟩
  ·exact .inl ⟨h5, by rw [hdec r h6, if_pos hq]⟩
  ·exact .inr ⟨h5, hnone h6⟩
theorem natural_got (m : Nat) (hm : m ≤ 100000) (l : List UInt8) (b : Bool) (hl : l.length ≤ 1000000) : ∃ (n : Nat) (r : List UInt8) (b' : Bool), Ev (fun k => fQ3.f k (mk l) b (m : Int)) ((n : Int), mk r, b') ∧ n ≤ m ∧ r.length ≤ l.length ∧ Got (Cod.nat m).dec l b n r b' := by
 obtain ⟨n, r, b', h1, h2, h3, h4, h5⟩ := natural_rds m hm l b hl
 obtain ⟨q, rfl⟩ : ∃ q : Nat, n = (q : Int) := ⟨n.toNat, by omega⟩
 refine ⟨q, r, b', h1, by omega, h3, h4, fun e => ?_⟩
 rcases h5 e with ⟨a, h⟩ | ⟨a, h⟩
 ·refine .inl ⟨a, ?_⟩
  unfold decNat at h
  cases hd : (Cod.nat m).dec l with
  | none => rw [hd] at h; cases h
  | some y =>
   obtain ⟨y1, y2⟩ := y
   rw [hd] at h
   simp only [Option.some.injEq, Prod.mk.injEq] at h
   obtain ⟨e1, e2⟩ := h
   have e3 : y1 = q := by omega
   rw [e3, e2]
 ·refine .inr ⟨a, ?_⟩
  unfold decNat at h
  cases hd : (Cod.nat m).dec l with
  | none => rfl
  | some y => rw [hd] at h; cases h
theorem number_got (l : List UInt8) (b : Bool) (hl : l.length ≤ 1000000) : ∃ (n : Nat) (r : List UInt8) (b' : Bool), Ev (fun k => fQ4.f k (mk l) b) ((n : Int), mk r, b') ∧ n < 18446744073709551616 ∧ r.length ≤ l.length ∧ Got number l b n r b' := by
 obtain ⟨n, r, b', h1, h2, h3, h4, h5⟩ := number_rds l b hl
 obtain ⟨q, rfl⟩ : ∃ q : Nat, n = (q : Int) := ⟨n.toNat, by omega⟩
 refine ⟨q, r, b', h1, by omega, h3, h4, fun e => ?_⟩
 rcases h5 e with ⟨a, h⟩ | ⟨a, h⟩
 ·refine .inl ⟨a, ?_⟩
  unfold decN at h
  cases hd : number l with
  | none => rw [hd] at h; cases h
  | some y =>
   obtain ⟨y1, y2⟩ := y
   rw [hd] at h
   simp only [Option.some.injEq, Prod.mk.injEq] at h
   obtain ⟨e1, e2⟩ := h
   have e3 : y1 = q := by omega
   rw [e3, e2]
 ·refine .inr ⟨a, ?_⟩
  unfold decN at h
  cases hd : number l with
  | none => rfl
  | some y => rw [hd] at h; cases h
theorem Got.seq {α β : Type} {c : Cod α} {d : Cod β} {l r s : List UInt8} {b b1 b2 : Bool} {x : α} {y : β} (h : Got c.dec l b x r b1) (k : Got d.dec r b1 y s b2) : Got (c.seq d).dec l b (x, y) s b2 :=
 ⟨fun e => k.1 (h.1 e), fun e => by
  rcases h.2 e with ⟨a, h⟩ | ⟨a, h⟩
  ·rcases k.2 a with ⟨a2, h2⟩ | ⟨a2, h2⟩
   ·exact .inl ⟨a2, Cod.seq_some h h2⟩
   ·exact .inr ⟨a2, Cod.seq_none2 h h2⟩
  ·exact .inr ⟨k.1 a, Cod.seq_none1 h⟩⟩
theorem Got.list {α : Type} {m : Nat} {hm : m < 2 ^ 64} {c : Cod α} {l r s : List UInt8} {b b1 b2 : Bool} {n : Nat} {xs : List α} (h : Got (Cod.nat m).dec l b n r b1) (k : Got (Cod.repDec c n) r b1 xs s b2) : Got (Cod.list m hm c).dec l b xs s b2 :=
 ⟨fun e => k.1 (h.1 e), fun e => by
  rcases h.2 e with ⟨a, h⟩ | ⟨a, h⟩
  ·rcases k.2 a with ⟨a2, h2⟩ | ⟨a2, h2⟩
   ·exact .inl ⟨a2, by rw [Cod.list_some h, h2]⟩
   ·exact .inr ⟨a2, by rw [Cod.list_some h, h2]⟩
  ·exact .inr ⟨k.1 a, Cod.list_none h⟩⟩
theorem Got.cons {α : Type} {c : Cod α} {l r s : List UInt8} {b b1 b2 : Bool} {n : Nat} {x : α} {xs : List α} (h : Got c.dec l b x r b1) (k : Got (Cod.repDec c n) r b1 xs s b2) : Got (Cod.repDec c (n + 1)) l b (x :: xs) s b2 :=
 ⟨fun e => k.1 (h.1 e), fun e => by
  rcases h.2 e with ⟨a, h⟩ | ⟨a, h⟩
  ·rcases k.2 a with ⟨a2, h2⟩ | ⟨a2, h2⟩
   ·exact .inl ⟨a2, by simp only [Cod.repDec, h, h2]⟩
   ·exact .inr ⟨a2, by simp only [Cod.repDec, h, h2]⟩
  ·exact .inr ⟨k.1 a, by simp only [Cod.repDec, h]⟩⟩
theorem Got.nil {α : Type} {c : Cod α} {l : List UInt8} {b : Bool} : Got (Cod.repDec c 0) l b [] l b := ⟨id, fun e => .inl ⟨e, rfl⟩⟩
theorem Got.stop {α : Type} {d : List UInt8 → Option (α × List UInt8)} {l s : List UInt8} {x : α} : Got d l true x s true := ⟨id, fun e => by cases e⟩
theorem Got.altl {α β : Type} {c : Cod α} {d : Cod β} {l r s : List UInt8} {b b1 b2 : Bool} {x : α} (h : Got (Cod.nat 1).dec l b 0 r b1) (k : Got c.dec r b1 x s b2) : Got (c.alt d).dec l b (.inl x) s b2 :=
 ⟨fun e => k.1 (h.1 e), fun e => by
  rcases h.2 e with ⟨a, h⟩ | ⟨a, h⟩
  ·rcases k.2 a with ⟨a2, h2⟩ | ⟨a2, h2⟩
   ·exact .inl ⟨a2, by rw [Cod.alt_l h, h2]⟩
   ·exact .inr ⟨a2, by rw [Cod.alt_l h, h2]⟩
  ·exact .inr ⟨k.1 a, Cod.alt_none h⟩⟩
theorem Got.altr {α β : Type} {c : Cod α} {d : Cod β} {l r s : List UInt8} {b b1 b2 : Bool} {n : Nat} {x : β} (hn : n ≠ 0) (h : Got (Cod.nat 1).dec l b n r b1) (k : Got d.dec r b1 x s b2) : Got (c.alt d).dec l b (.inr x) s b2 :=
 ⟨fun e => k.1 (h.1 e), fun e => by
  rcases h.2 e with ⟨a, h⟩ | ⟨a, h⟩
  ·rcases k.2 a with ⟨a2, h2⟩ | ⟨a2, h2⟩
   ·exact .inl ⟨a2, by rw [Cod.alt_r h hn, h2]⟩
   ·exact .inr ⟨a2, by rw [Cod.alt_r h hn, h2]⟩
  ·exact .inr ⟨k.1 a, Cod.alt_none h⟩⟩
theorem Got.text {m : Nat} {hm : m < 2 ^ 64} {l r : List UInt8} {b b1 : Bool} {n : Nat} (hn : n ≤ r.length) (h : Got (Cod.nat m).dec l b n r b1) : Got (Cod.text m hm).dec l b (r.take n) (r.drop n) b1 :=
 ⟨h.1, fun e => by
  rcases h.2 e with ⟨a, h⟩ | ⟨a, h⟩
  ·exact .inl ⟨a, by rw [Cod.text_some h, if_pos hn]⟩
  ·exact .inr ⟨a, Cod.text_none h⟩⟩
theorem Got.textbad {m : Nat} {hm : m < 2 ^ 64} {l r : List UInt8} {b b1 : Bool} {n : Nat} (hn : ¬ n ≤ r.length) (h : Got (Cod.nat m).dec l b n r b1) : Got (Cod.text m hm).dec l b [] r true :=
 ⟨fun _ => rfl, fun e => by
  rcases h.2 e with ⟨a, h⟩ | ⟨a, h⟩
  ·exact .inr ⟨rfl, by rw [Cod.text_some h, if_neg hn]⟩
  ·exact .inr ⟨rfl, Cod.text_none h⟩⟩
theorem Got.other {α : Type} {d : List UInt8 → Option (α × List UInt8)} {l s s2 : List UInt8} {b : Bool} {x y : α} (h : Got d l b x s true) : Got d l b y s2 true := ⟨fun _ => rfl, fun e => by
 rcases h.2 e with ⟨a, _⟩ | h
 ·cases a
 ·exact .inr h⟩
theorem Got.inti {l r : List UInt8} {b b' : Bool} {n : Nat} (h : Got number l b n r b') : Got Cod.int.dec l b (Cod.zag n) r b' :=
 ⟨h.1, fun e => by
  rcases h.2 e with ⟨a, h⟩ | ⟨a, h⟩
  ·exact .inl ⟨a, Cod.int_some h⟩
  ·exact .inr ⟨a, Cod.int_none h⟩⟩
theorem codC_l {l r : List UInt8} {b b' : Bool} {z : Int} (h : Got (Cod.alt Cod.int (Cod.text 4096 (by decide))).dec l b (Sum.inl z) r b') : Got codC.dec l b ⟨3, z, ⟨#[]⟩⟩ r b' :=
 ⟨h.1, fun e => by
  rcases h.2 e with ⟨a, h⟩ | ⟨a, h⟩
  ·refine .inl ⟨a, ?_⟩
   unfold codC
   rw [Cod.iso_some h]
  ·refine .inr ⟨a, ?_⟩
   unfold codC
   exact Cod.iso_none h⟩
theorem codC_r {l r : List UInt8} {b b' : Bool} {t : List UInt8} (h : Got (Cod.alt Cod.int (Cod.text 4096 (by decide))).dec l b (Sum.inr t) r b') : Got codC.dec l b ⟨5, 0, mk t⟩ r b' :=
 ⟨h.1, fun e => by
  rcases h.2 e with ⟨a, h⟩ | ⟨a, h⟩
  ·refine .inl ⟨a, ?_⟩
   unfold codC
   rw [Cod.iso_some h]
   rfl
  ·refine .inr ⟨a, ?_⟩
   unfold codC
   exact Cod.iso_none h⟩
theorem mk_take (r : List UInt8) (n : Nat) : (mk r).extract 0 n = mk (r.take n) := extract_take (s := mk r) (l := r) (by simp [mk]) n
theorem mk_drop (r : List UInt8) (n : Nat) : (mk r).extract n (mk r).size = mk (r.drop n) := by
 rw [mk_size]
 have := extract_drop (s := mk r) (l := r) (by simp [mk]) n
 rw [← mk_data ((mk r).extract n r.length), this]
theorem constant_got (l : List UInt8) (b : Bool) (hl : l.length ≤ 1000000) : ∃ (x : S42) (r : List UInt8) (b' : Bool), Ev (fun k => fQ18.f k (mk l) b) (x.f0, x.f1, x.f2, mk r, b') ∧ r.length ≤ l.length ∧ Got codC.dec l b x r b' := by
 obtain ⟨n, r, b1, e1, hn, hr, g1⟩ := natural_got 1 (by decide) l b hl
 by_cases h0 : n = 0
 ·subst h0
  obtain ⟨q, r2, b2, e2, hq, hr2, g2⟩ := number_got r b1 (by omega)
  refine ⟨⟨3, Cod.zag q, ⟨#[]⟩⟩, r2, b2, ?_, by omega, codC_l (Got.altl g1 (Got.inti g2))⟩
  unfold fQ18.f
  refine Ev.bind e1 ?_
  refine Ev.bind e2 ?_
  have ht : Int.tmod (q : Int) 2 = ((q % 2 : Nat) : Int) := Int.ofNat_tmod q 2
  have hv : wrap64 (IntKind.u64.wrap (Int.tdiv (q : Int) 2)) = ((q / 2 : Nat) : Int) := by
   rw [show Int.tdiv (q : Int) 2 = ((q / 2 : Nat) : Int) from Int.ofNat_tdiv q 2, wrap_u64]
   unfold wrap64; omega
  refine Ev.congr (f := fun _ => some (3, Cod.zag q, (⟨#[]⟩ : ByteArray), mk r2, b2)) (fun k => ?_) (Ev.now _)
  simp only [ht, hv]
  unfold Cod.zag
  by_cases h2 : q % 2 = 0
  ·rw [if_pos h2, if_pos (by omega)]
  rw [if_neg h2, if_neg (by omega)]
  have : wrap64 (wrap64 (-((q / 2 : Nat) : Int)) - 1) = -((q / 2 : Nat) : Int) - 1 := by unfold wrap64; omega
  rw [this]
 obtain ⟨q, r2, b2, e2, hq, hr2, g2⟩ := natural_got 4096 (by decide) r b1 (by omega)
 have hz : (mk r2).size = r2.length := mk_size r2
 by_cases hb : q ≤ r2.length
 case neg =>
  refine ⟨⟨0, 0, ⟨#[]⟩⟩, r2, true, ?_, by omega, Got.other (codC_r (Got.altr h0 g1 (Got.textbad hb g2)))⟩
  unfold fQ18.f
  refine Ev.bind e1 ?_
  simp only [show ((n : Int) = 0) = False from by simp [h0], if_false]
  refine Ev.bind e2 ?_
  refine Ev.congr (f := fun _ => some (0, 0, (⟨#[]⟩ : ByteArray), mk r2, true)) (fun k => ?_) (Ev.now _)
  dsimp only
  rw [if_pos (by omega)]
 refine ⟨⟨5, 0, mk (r2.take q)⟩, r2.drop q, b2, ?_, by rw [List.length_drop]; omega, codC_r (Got.altr h0 g1 (Got.text hb g2))⟩
 unfold fQ18.f
 refine Ev.bind e1 ?_
 simp only [show ((n : Int) = 0) = False from by simp [h0], if_false]
 refine Ev.bind e2 ?_
 refine Ev.congr (f := fun _ => some (5, 0, mk (r2.take q), mk (r2.drop q), b2)) (fun k => ?_) (Ev.now _)
 dsimp only
 rw [if_neg (by omega), if_pos (by omega), if_pos (by omega), Int.toNat_natCast, mk_take, mk_drop]
theorem codU_g {l r : List UInt8} {b b' : Bool} {x y : Nat} (h : Got (Cod.seq (Cod.nat 1) (Cod.nat 250)).dec l b (x, y) r b') : Got codU.dec l b ⟨((x : Int) == 1), (y : Int)⟩ r b' := by
 have e : decide (x = 1) = ((x : Int) == 1) := by
  by_cases hx : x = 1
  ·subst hx; rfl
  rw [decide_eq_false hx]; symm; simp; omega
 rw [← e]
 exact ⟨h.1, fun e => by
  rcases h.2 e with ⟨a, h⟩ | ⟨a, h⟩
  ·refine .inl ⟨a, ?_⟩
   unfold codU
   rw [Cod.iso_some h]
  ·refine .inr ⟨a, ?_⟩
   unfold codU
   exact Cod.iso_none h⟩
theorem codI_g {l r : List UInt8} {b b' : Bool} {x y z : Nat} (h : Got (Cod.seq (Cod.nat 36) (Cod.seq (Cod.nat 250) (Cod.nat 16384))).dec l b (x, y, z) r b') : Got codI.dec l b ⟨(x : Int), (y : Int), (z : Int)⟩ r b' :=
 ⟨h.1, fun e => by
  rcases h.2 e with ⟨a, h⟩ | ⟨a, h⟩
  ·refine .inl ⟨a, ?_⟩
   unfold codI
   rw [Cod.iso_some h]
  ·refine .inr ⟨a, ?_⟩
   unfold codI
   exact Cod.iso_none h⟩
theorem codP_g {l r : List UInt8} {b b' : Bool} {x y : Nat} {u : List S50} {c : List S42} {i : List S52} (h : Got (Cod.seq (Cod.nat 20) (Cod.seq (Cod.nat 250) (Cod.seq (Cod.list 60 (by decide) codU) (Cod.seq (Cod.list 4096 (by decide) codC) (Cod.list 16384 (by decide) codI))))).dec l b (x, y, u, c, i) r b') : Got codP.dec l b ⟨(x : Int), (y : Int), u, c, i⟩ r b' :=
 ⟨h.1, fun e => by
  rcases h.2 e with ⟨a, h⟩ | ⟨a, h⟩
  ·refine .inl ⟨a, ?_⟩
   unfold codP
   rw [Cod.iso_some h]
  ·refine .inr ⟨a, ?_⟩
   unfold codP
   exact Cod.iso_none h⟩
theorem ups_go (n : Nat) (p0 p1 : Int) (hn : n ≤ 60) : ∀ (d i : Nat) (acc : List S50) (l : List UInt8) (b : Bool), i + d = n → acc.length ≤ i → l.length ≤ 1000000 → ∃ (xs : List S50) (s : List UInt8) (b2 : Bool), Got (Cod.repDec codU d) l b xs s b2 ∧ s.length ≤ l.length ∧ ∀ R, Ev (fun k => (fQ3.f k (mk s) b2 4096).bind fun bt356 => (fQ0.l1 k bt356.1 0 bt356.2.1 bt356.2.2 p0 p1 (acc ++ xs) ([] : List (S42)))) R → Ev (fun k => fQ0.l0 k (n : Int) (i : Int) (mk l) b p0 p1 acc) R
 | d, i, acc, l, true, hi, ha, hl => by
  refine ⟨[], l, true, Got.stop, Nat.le_refl _, fun R h => ?_⟩
  rw [List.append_nil] at h
  refine Ev.step (f := fun k => fQ0.j1 k (n : Int) (i : Int) false (mk l) true p0 p1 acc) (fun k => by rw [fQ0.l0]; split <;> rfl) ?_
  exact Ev.step (fun k => by rw [fQ0.j1, if_neg Bool.false_ne_true]) h
 | 0, i, acc, l, false, hi, ha, hl => by
  refine ⟨[], l, false, Got.nil, Nat.le_refl _, fun R h => ?_⟩
  rw [List.append_nil] at h
  refine Ev.step (f := fun k => fQ0.j1 k (n : Int) (i : Int) false (mk l) false p0 p1 acc) (fun k => by rw [fQ0.l0, if_neg (by omega)]) ?_
  exact Ev.step (fun k => by rw [fQ0.j1, if_neg Bool.false_ne_true]) h
 | d + 1, i, acc, l, false, hi, ha, hl => by
  obtain ⟨n1, r1, b1, e1, hn1, hr1, g1⟩ := natural_got 1 (by decide) l false hl
  obtain ⟨n2, r2, b2, e2, hn2, hr2, g2⟩ := natural_got 250 (by decide) r1 b1 (by omega)
  obtain ⟨xs, s, b3, g, hs, hR⟩ := ups_go n p0 p1 hn d (i + 1) (acc ++ [⟨((n1 : Int) == 1), (n2 : Int)⟩]) r2 b2 (by omega) (by rw [List.length_append]; simp; omega) (by omega)
  refine ⟨⟨((n1 : Int) == 1), (n2 : Int)⟩ :: xs, s, b3, Got.cons (codU_g (Got.seq g1 g2)) g, by omega, fun R h => ?_⟩
  refine Ev.step (f := fun k => fQ0.j1 k (n : Int) (i : Int) true (mk l) false p0 p1 acc) (fun k => by rw [fQ0.l0, if_pos (by omega)]; rfl) ?_
  refine Ev.step (f := fun k => (fQ3.f k (mk l) false 1).bind fun bt347 => ((fQ3.f k bt347.2.1 bt347.2.2 250).bind fun bt350 => (if acc.length < 8796093022208 then (fQ0.l0 k (n : Int) (wrap64 ((i : Int) + 1)) bt350.2.1 bt350.2.2 p0 p1 (acc ++ [(⟨(bt347.1 == 1), bt350.1⟩ : S50)])) else (none)))) (fun k => by rw [fQ0.j1, if_pos rfl]) ?_
  refine Ev.bind e1 ?_
  refine Ev.bind e2 ?_
  refine Ev.congr (f := fun k => fQ0.l0 k (n : Int) ((i + 1 : Nat) : Int) (mk r2) b2 p0 p1 (acc ++ [⟨((n1 : Int) == 1), (n2 : Int)⟩])) (fun k => by dsimp only; rw [if_pos (by omega), w_one (by omega)]) (hR R ?_)
  rw [List.append_assoc]
  exact h
theorem consts_go (n : Nat) (p0 p1 : Int) (ups : List S50) (hn : n ≤ 4096) : ∀ (d i : Nat) (acc : List S42) (l : List UInt8) (b : Bool), i + d = n → acc.length ≤ i → l.length ≤ 1000000 → ∃ (xs : List S42) (s : List UInt8) (b2 : Bool), Got (Cod.repDec codC d) l b xs s b2 ∧ s.length ≤ l.length ∧ ∀ R, Ev (fun k => fQ0.j3 k (mk s) b2 p0 p1 ups (acc ++ xs)) R → Ev (fun k => fQ0.l1 k (n : Int) (i : Int) (mk l) b p0 p1 ups acc) R
 | d, i, acc, l, true, hi, ha, hl => by
  refine ⟨[], l, true, Got.stop, Nat.le_refl _, fun R h => ?_⟩
  rw [List.append_nil] at h
  exact Ev.step (f := fun k => fQ0.j3 k (mk l) true p0 p1 ups acc) (fun k => by rw [fQ0.l1]; simp only [if_true]; split <;> rfl) h
 | 0, i, acc, l, false, hi, ha, hl => by
  refine ⟨[], l, false, Got.nil, Nat.le_refl _, fun R h => ?_⟩
  rw [List.append_nil] at h
  exact Ev.step (f := fun k => fQ0.j3 k (mk l) false p0 p1 ups acc) (fun k => by rw [fQ0.l1, if_neg (by omega)]) h
 | d + 1, i, acc, l, false, hi, ha, hl => by
  obtain ⟨x, r1, b1, e1, hr1, g1⟩ := constant_got l false hl
  obtain ⟨xs, s, b3, g, hs, hR⟩ := consts_go n p0 p1 ups hn d (i + 1) (acc ++ [x]) r1 b1 (by omega) (by rw [List.length_append]; simp; omega) (by omega)
  refine ⟨x :: xs, s, b3, Got.cons g1 g, by omega, fun R h => ?_⟩
  refine Ev.step (f := fun k => (fQ18.f k (mk l) false).bind fun bt359 => (if acc.length < 4398046511104 then (fQ0.l1 k (n : Int) (wrap64 ((i : Int) + 1)) bt359.2.2.2.1 bt359.2.2.2.2 p0 p1 ups (acc ++ [(⟨bt359.1, bt359.2.1, bt359.2.2.1⟩ : S42)])) else (none))) (fun k => by rw [fQ0.l1, if_pos (by omega), if_neg Bool.false_ne_true]) ?_
  refine Ev.bind e1 ?_
  refine Ev.congr (f := fun k => fQ0.l1 k (n : Int) ((i + 1 : Nat) : Int) (mk r1) b1 p0 p1 ups (acc ++ [x])) (fun k => by dsimp only; rw [if_pos (by omega), w_one (by omega)]) (hR R ?_)
  rw [List.append_assoc]
  exact h
theorem code_go (n : Nat) (p0 p1 : Int) (ups : List S50) (cs : List S42) (hn : n ≤ 16384) : ∀ (d i : Nat) (acc : List S52) (l : List UInt8) (b : Bool), i + d = n → acc.length ≤ i → l.length ≤ 1000000 → ∃ (xs : List S52) (s : List UInt8) (b2 : Bool), Got (Cod.repDec codI d) l b xs s b2 ∧ s.length ≤ l.length ∧ Ev (fun k => fQ0.l2 k (n : Int) (i : Int) (mk l) b p0 p1 ups cs acc) (p0, p1, ups, cs, acc ++ xs, mk s, b2)
 | d, i, acc, l, true, hi, ha, hl => by
  refine ⟨[], l, true, Got.stop, Nat.le_refl _, ?_⟩
  rw [List.append_nil]
  refine Ev.step (f := fun k => fQ0.j5 k (n : Int) (i : Int) false (mk l) true p0 p1 ups cs acc) (fun k => by rw [fQ0.l2]; split <;> rfl) ?_
  exact Ev.step (f := fun _ => some (p0, p1, ups, cs, acc, mk l, true)) (fun k => by rw [fQ0.j5, if_neg Bool.false_ne_true]) (Ev.now _)
 | 0, i, acc, l, false, hi, ha, hl => by
  refine ⟨[], l, false, Got.nil, Nat.le_refl _, ?_⟩
  rw [List.append_nil]
  refine Ev.step (f := fun k => fQ0.j5 k (n : Int) (i : Int) false (mk l) false p0 p1 ups cs acc) (fun k => by rw [fQ0.l2, if_neg (by omega)]) ?_
  exact Ev.step (f := fun _ => some (p0, p1, ups, cs, acc, mk l, false)) (fun k => by rw [fQ0.j5, if_neg Bool.false_ne_true]) (Ev.now _)
 | d + 1, i, acc, l, false, hi, ha, hl => by
  obtain ⟨n1, r1, b1, e1, hn1, hr1, g1⟩ := natural_got 36 (by decide) l false hl
  obtain ⟨n2, r2, b2, e2, hn2, hr2, g2⟩ := natural_got 250 (by decide) r1 b1 (by omega)
  obtain ⟨n3, r3, b3, e3, hn3, hr3, g3⟩ := natural_got 16384 (by decide) r2 b2 (by omega)
  obtain ⟨xs, s, b4, g, hs, hR⟩ := code_go n p0 p1 ups cs hn d (i + 1) (acc ++ [⟨(n1 : Int), (n2 : Int), (n3 : Int)⟩]) r3 b3 (by omega) (by rw [List.length_append]; simp; omega) (by omega)
  refine ⟨⟨(n1 : Int), (n2 : Int), (n3 : Int)⟩ :: xs, s, b4, Got.cons (codI_g (Got.seq g1 (Got.seq g2 g3))) g, by omega, ?_⟩
  refine Ev.step (f := fun k => fQ0.j5 k (n : Int) (i : Int) true (mk l) false p0 p1 ups cs acc) (fun k => by rw [fQ0.l2, if_pos (by omega)]; rfl) ?_
  refine Ev.step (f := fun k => (fQ3.f k (mk l) false 36).bind fun bt370 => ((fQ3.f k bt370.2.1 bt370.2.2 250).bind fun bt374 => ((fQ3.f k bt374.2.1 bt374.2.2 16384).bind fun bt377 => (if acc.length < 5864062014805 then (fQ0.l2 k (n : Int) (wrap64 ((i : Int) + 1)) bt377.2.1 bt377.2.2 p0 p1 ups cs (acc ++ [(⟨bt370.1, bt374.1, bt377.1⟩ : S52)])) else (none))))) (fun k => by rw [fQ0.j5, if_pos rfl]) ?_
  refine Ev.bind e1 ?_
  refine Ev.bind e2 ?_
  refine Ev.bind e3 ?_
  refine Ev.congr (f := fun k => fQ0.l2 k (n : Int) ((i + 1 : Nat) : Int) (mk r3) b3 p0 p1 ups cs (acc ++ [⟨(n1 : Int), (n2 : Int), (n3 : Int)⟩])) (fun k => by dsimp only; rw [if_pos (by omega), w_one (by omega)]) ?_
  rw [List.append_assoc] at hR
  exact hR
theorem proto_got (l : List UInt8) (b : Bool) (hl : l.length ≤ 1000000) : ∃ (q : S47) (r : List UInt8) (b' : Bool), Ev (fun k => fQ0.f k (mk l) b) (q.f0, q.f1, q.f2, q.f3, q.f4, mk r, b') ∧ r.length ≤ l.length ∧ Got codP.dec l b q r b' := by
 obtain ⟨n1, r1, b1, e1, hn1, hr1, g1⟩ := natural_got 20 (by decide) l b hl
 obtain ⟨n2, r2, b2, e2, hn2, hr2, g2⟩ := natural_got 250 (by decide) r1 b1 (by omega)
 obtain ⟨n3, r3, b3, e3, hn3, hr3, g3⟩ := natural_got 60 (by decide) r2 b2 (by omega)
 obtain ⟨us, r4, b4, g4, hr4, h4⟩ := ups_go n3 (n1 : Int) (n2 : Int) hn3 n3 0 [] r3 b3 (by omega) (Nat.le_refl _) (by omega)
 obtain ⟨n5, r5, b5, e5, hn5, hr5, g5⟩ := natural_got 4096 (by decide) r4 b4 (by omega)
 obtain ⟨cs, r6, b6, g6, hr6, h6⟩ := consts_go n5 (n1 : Int) (n2 : Int) us hn5 n5 0 [] r5 b5 (by omega) (Nat.le_refl _) (by omega)
 obtain ⟨n7, r7, b7, e7, hn7, hr7, g7⟩ := natural_got 16384 (by decide) r6 b6 (by omega)
 obtain ⟨is, r8, b8, g8, hr8, h8⟩ := code_go n7 (n1 : Int) (n2 : Int) us cs hn7 n7 0 [] r7 b7 (by omega) (Nat.le_refl _) (by omega)
 refine ⟨⟨(n1 : Int), (n2 : Int), us, cs, is⟩, r8, b8, ?_, by omega, codP_g (Got.seq g1 (Got.seq g2 (Got.seq (Got.list g3 g4) (Got.seq (Got.list g5 g6) (Got.list g7 g8)))))⟩
 unfold fQ0.f
 refine Ev.bind e1 ?_
 refine Ev.bind e2 ?_
 refine Ev.bind e3 ?_
 refine h4 _ ?_
 refine Ev.bind e5 ?_
 refine h6 _ ?_
 refine Ev.step (f := fun k => (fQ3.f k (mk r6) b6 16384).bind fun bt367 => (fQ0.l2 k bt367.1 0 bt367.2.1 bt367.2.2 (n1 : Int) (n2 : Int) us cs ([] : List (S52)))) (fun k => by rw [fQ0.j3]; rfl) ?_
 refine Ev.bind e7 ?_
 exact h8
end Go.Proofs.Ytkkgbbfojmnopaa.Z
end
