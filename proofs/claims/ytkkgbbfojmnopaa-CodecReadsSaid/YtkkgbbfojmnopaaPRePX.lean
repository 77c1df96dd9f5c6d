import Derived.Test.YtkkgbbfojmnopaaPRePW
import Derived.Test.YtkkgbbfojmnopaaPReE14b
set_option linter.unusedVariables false
set_option linter.unusedSimpArgs false
section
namespace Go.Proofs.Ytkkgbbfojmnopaa.Z
open Go.RowKit Go.Proofs.Ytkkgbbfojmnopaa.G Go.Proofs.YtkkgbbfojmnopaaW.PrintWords Go.Proofs.YtkkgbbfojmnopaaW.PrintLast Go.Proofs.YtkkgbbfojmnopaaW.PrintMore
theorem decode_go (n : Nat) (hn : n ≤ 256) : ∀ (d i : Nat) (acc : List S47) (l : List UInt8) (b : Bool), i + d = n → acc.length ≤ i → l.length ≤ 1000000 → ∃ (xs : List S47) (s : List UInt8) (b2 : Bool), Got (Cod.repDec codP d) l b xs s b2 ∧ s.length ≤ l.length ∧ Ev (fun k => fQ10.l0 k (n : Int) (i : Int) (mk l) b acc) (acc ++ xs, mk s, b2)
 | d, i, acc, l, true, hi, ha, hl => by
  refine ⟨[], l, true, Got.stop, Nat.le_refl _, ?_⟩
  rw [List.append_nil]
  exact Ev.step (f := fun _ => some (acc, mk l, true)) (fun k => by rw [fQ10.l0]; simp only [if_true]; split <;> rfl) (Ev.now _)
 | 0, i, acc, l, false, hi, ha, hl => by
  refine ⟨[], l, false, Got.nil, Nat.le_refl _, ?_⟩
  rw [List.append_nil]
  exact Ev.step (f := fun _ => some (acc, mk l, false)) (fun k => by rw [fQ10.l0, if_neg (by omega)]) (Ev.now _)
 | d + 1, i, acc, l, false, hi, ha, hl => by
  obtain ⟨q, r1, b1, e1, hr1, g1⟩ := proto_got l false hl
  obtain ⟨xs, s, b2, g, hs, hR⟩ := decode_go n hn d (i + 1) (acc ++ [q]) r1 b1 (by omega) (by rw [List.length_append]; simp; omega) (by omega)
  refine ⟨q :: xs, s, b2, Got.cons g1 g, by omega, ?_⟩
  refine Ev.step (f := fun k => (fQ0.f k (mk l) false).bind fun q => if acc.length < 1000000 then fQ10.l0 k (n : Int) (wrap64 ((i : Int) + 1)) q.2.2.2.2.2.1 q.2.2.2.2.2.2 (acc ++ [⟨q.1, q.2.1, q.2.2.1, q.2.2.2.1, q.2.2.2.2.1⟩]) else none) (fun k => by rw [fQ10.l0, if_pos (by omega), if_neg Bool.false_ne_true]) ?_
  refine Ev.bind e1 ?_
  refine Ev.congr (f := fun k => fQ10.l0 k (n : Int) ((i + 1 : Nat) : Int) (mk r1) b1 (acc ++ [q])) (fun k => by dsimp only; rw [if_pos (by omega), w_one (by omega)]) ?_
  rw [List.append_assoc] at hR
  exact hR
theorem decode_ev (s0 : ByteArray) : Ev (fun k => fQ10.f k s0) (decS s0) := by
 unfold fQ10.f decS
 by_cases h : s0.size ≤ 262144
 case neg =>
  simp only [if_neg h]
  exact Ev.now _
 simp only [if_pos h]
 obtain ⟨l, hl⟩ : ∃ l, l = s0.data.toList := ⟨_, rfl⟩
 have hs : s0 = mk l := by rw [hl, mk_data]
 have hle : l.length ≤ 1000000 := by rw [hl, Array.length_toList]; exact Nat.le_trans h (by decide)
 rw [← hl]
 subst hs
 obtain ⟨n, r1, b1, e1, hn, hr1, g1⟩ := natural_got 256 (by decide) l false hle
 obtain ⟨xs, s, b2, g2, hs2, h2⟩ := decode_go n hn n 0 [] r1 b1 (by omega) (Nat.le_refl _) (by omega)
 have g := Got.list (hm := (by decide : 256 < 2 ^ 64)) g1 g2
 refine Ev.bind e1 ?_
 refine Ev.bind h2 ?_
 cases b2 with
 | true =>
  have hz : (Cod.list 256 (by decide) codP).dec l = none := by
   rcases g.2 rfl with ⟨a, _⟩ | ⟨_, a⟩
   ·cases a
   ·exact a
  rw [hz]
  exact Ev.congr (f := fun _ => some ([], 4)) (fun k => by dsimp only; rw [if_pos rfl]) (Ev.now _)
 | false =>
  have hz : (Cod.list 256 (by decide) codP).dec l = some (xs, s) := by
   rcases g.2 rfl with ⟨_, a⟩ | ⟨a, _⟩
   ·exact a
   ·cases a
  rw [hz]
  cases s with
  | nil =>
   refine Ev.congr (f := fun k => (fQ8.f k xs).bind fun c => some (if c = 0 then (xs, 0) else ([], 4))) (fun k => by
    dsimp only
    rw [if_neg Bool.false_ne_true, if_pos (by rw [ByteArray.toList_eq]; rfl), List.nil_append]) ?_
   refine Ev.bind (f := fun _ c => some (if c = 0 then (xs, 0) else ([], 4))) (r_check xs) ?_
   exact Ev.now _
  | cons a t =>
   refine Ev.congr (f := fun _ => some ([], 4)) (fun k => by
    dsimp only
    rw [if_neg Bool.false_ne_true, if_neg (by rw [ByteArray.toList_eq]; simp [mk])]) (Ev.now _)
end Go.Proofs.Ytkkgbbfojmnopaa.Z
end
