import Derived.Test.YtnombbcgdfgadaaDoorRows
import Derived.Test.YtnombbcgdfgadaaDoorPBaW0
import Derived.Deep.Slices
import Derived.WalkKit
import Derived.ProofKit
import Derived.OpenShut
import Derived.ShutString
import Derived.ChangeOld
import Derived.Below
import Derived.SizedLaws
import Derived.ChangeArms
set_option linter.unusedVariables false
set_option linter.unusedSimpArgs false
section
namespace Go.Proofs.YtnombbcgdfgadaaDoor.Ok
open Go.ChangeShapes Go.WideShapes Go.RowKit Go.Proofs.YtnombbcgdfgadaaDoorW.PrintWords
def Op {α : Type} (P : Program) (t : TypeId) (K : Kd α) (ok : α → Prop) (m : α → Nat) : Prop :=
  ∀ (H : Type) (enc : TypeId × Value → H) (w : World) (base : Nat) (spare : Nat → Bool) (held : Bool) (fuel : Nat) (cs : List Value) (x : DataW H × List MemPlace),
    DataW.trod enc P w base spare held fuel t cs = some x → (∀ n ∈ x.1.weights P t, n ≤ reachBytes) → ∃ v : α, K.K w v cs ∧ ok v ∧ m v ≤ Rows.uptoBulk x.1
theorem Op.int {P : Program} {t : TypeId} {k : IntKind} (hu : P.underlying t = some (.int k)) : Op P t (Kd.int k) (fun n => (Lit.int k n).wf = true) (fun _ => 1) := by
  intro H enc w base spare held fuel cs x hx _
  obtain ⟨n, rfl, rfl, hn⟩ := DataW.trod_int hu hx
  exact ⟨n, rfl, hn, by simp [Rows.uptoBulk]⟩
theorem Op.bool {P : Program} {t : TypeId} (hu : P.underlying t = some .bool) : Op P t Kd.bool (fun _ => True) (fun _ => 1) := by
  intro H enc w base spare held fuel cs x hx _
  obtain ⟨n, rfl, rfl⟩ := DataW.trod_bool hu hx
  exact ⟨n, rfl, trivial, by simp [Rows.uptoBulk]⟩
theorem Op.string {P : Program} {t : TypeId} (hu : P.underlying t = some .string) : Op P t Kd.string (fun s => s.size ≤ 140737488351232) (fun s => s.size + 1) := by
  intro H enc w base spare held fuel cs x hx hw
  obtain ⟨s, rfl, rfl, _⟩ := DataW.trod_string hu hx
  have h1 : s.data.toList.length ≤ reachBytes := hw _ (by simp [DataW.weights])
  have h2 : s.data.toList.length = s.size := by rw [Array.length_toList]; rfl
  have h3 : s.size ≤ 140737488351232 := h2 ▸ h1
  refine ⟨s, rfl, h3, ?_⟩
  simp only [Rows.uptoBulk, h2]; omega
theorem maxLen_le : maxLen ≤ 9223372036854775807 := by unfold maxLen; omega
theorem bulk_sum {α H : Type} {m : α → Nat} : ∀ (xs : List α) (ds : List (DataW H)), xs.length = ds.length → (∀ (i : Nat) (x : α) (d : DataW H), xs[i]? = some x → ds[i]? = some d → m x ≤ Rows.uptoBulk d) → (xs.map m).sum ≤ Rows.uptoBulkAll ds
  | [], [], _, _ => by simp [Rows.uptoBulkAll]
  | x :: xs, d :: ds, hl, h => by
    have h0 := h 0 x d rfl rfl
    have h1 := bulk_sum xs ds (by simpa using hl) (fun i y e hy he => h (i + 1) y e (by simpa using hy) (by simpa using he))
    simp only [List.map_cons, List.sum_cons, Rows.uptoBulkAll]; omega
theorem weights_all {H : Type} {P : Program} {e : TypeId} : ∀ {l : List (DataW H)} {d : DataW H}, d ∈ l → ∀ n ∈ d.weights P e, n ∈ DataW.weightsAll P e l
  | [], _, h, _, _ => by cases h
  | x :: l, d, h, n, hn => by
    simp only [DataW.weightsAll, List.mem_append]
    rcases List.mem_cons.1 h with rfl | h
    · exact .inl hn
    · exact .inr (weights_all h n hn)
theorem Op.slice {α : Type} {P : Program} {t e : TypeId} {B : Nat} {K : Kd α} {ok : α → Prop} {m : α → Nat} (hu : P.underlying t = some (.slice e)) (hc : P.cellsOf e = K.sz) (hB : P.bytesOf e = B) (h : Op P e K ok m) :
    Op P t (Kd.slice e K) (fun l => l.length * B ≤ 140737488351232 ∧ ∀ x ∈ l, ok x) (fun l => (l.map m).sum + 1) := by
  intro H enc w base spare held fuel cs x hx hw
  rcases Deep.open_slice hu hx with ⟨rfl, rfl⟩ | ⟨a, len, cap, mm, n, D, Pl, rfl, hb, hl, hmx, hmm, rfl, hi⟩
  · exact ⟨[], ⟨none, 0, rfl, Nat.le_refl _, Kd.C_nil _ _⟩, ⟨by simp, by simp⟩, by simp [Rows.uptoBulk]⟩
  have hlm : len ≤ mm := by rw [hmm]; split <;> omega
  simp only [DataW.weights, hu] at hw
  have h1 := hw _ (List.mem_cons_self ..)
  have hex : ∀ i : Fin len, ∃ v, (∃ cs', w.cells? base (a.add (i.val * P.cellsOf e)) (P.cellsOf e) = some cs' ∧ K.K w v cs') ∧ ok v ∧ m v ≤ Rows.uptoBulk (D i.val) := by
    intro i
    obtain ⟨cs', hc', ht'⟩ := hi i.val (Nat.lt_of_lt_of_le i.isLt hlm)
    have hmem : D i.val ∈ (List.range len).map D := List.mem_map.2 ⟨i.val, by simp, rfl⟩
    obtain ⟨v, hv, hok, hm⟩ := h H enc w base spare held n cs' _ ht' (fun q hq => hw q (List.mem_cons_of_mem _ (List.mem_append_left _ (weights_all hmem q hq))))
    exact ⟨v, ⟨cs', hc', hv⟩, hok, hm⟩
  obtain ⟨f, hf⟩ : ∃ f : Fin len → α, ∀ i, (∃ cs', w.cells? base (a.add (i.val * P.cellsOf e)) (P.cellsOf e) = some cs' ∧ K.K w (f i) cs') ∧ ok (f i) ∧ m (f i) ≤ Rows.uptoBulk (D i.val) :=
    ⟨fun i => Classical.choose (hex i), fun i => Classical.choose_spec (hex i)⟩
  have hlen : (List.ofFn f).length = len := by simp
  have hlen9 : (List.ofFn f).length ≤ 9223372036854775807 := by rw [hlen]; exact Nat.le_trans hl (Nat.le_trans hmx maxLen_le)
  have hget : ∀ j p, (List.ofFn f)[j]? = some p → ∃ hj : j < len, f ⟨j, hj⟩ = p := by
    intro j p hj
    have hlt : j < len := by
      rcases Nat.lt_or_ge j len with h' | h'
      · exact h'
      · rw [List.getElem?_eq_none (by simpa using h')] at hj; cases hj
    refine ⟨hlt, ?_⟩
    rw [List.getElem?_ofFn, dif_pos hlt] at hj
    exact Option.some.inj hj
  refine ⟨List.ofFn f, ⟨some a, cap, by rw [hlen], by rw [hlen]; exact hl, ⟨rfl, hlen9, fun _ => ⟨a, rfl, ?_⟩⟩⟩, ⟨?_, ?_⟩, ?_⟩
  · intro j p hj
    obtain ⟨hlt, rfl⟩ := hget j p hj
    obtain ⟨⟨cs', hc', hk⟩, _, _⟩ := hf ⟨j, hlt⟩
    obtain ⟨_, hcl, hat⟩ := World.cells?_some hc'
    refine ⟨cs', K.K_len hk, hk, fun i u hu' => ?_⟩
    have hil : i < P.cellsOf e := by
      rw [← hcl]
      rcases Nat.lt_or_ge i cs'.length with h' | h'
      · exact h'
      · rw [List.getElem?_eq_none h'] at hu'; cases hu'
    have h2 := hat i hil
    rw [Deep.add_add, hc, hu'] at h2
    exact h2
  · rw [hlen]
    simp only [List.length_map, List.length_range] at h1
    rw [hB] at h1
    have : len * B ≤ (len + (mm - len)) * B := Nat.mul_le_mul_right _ (by omega)
    exact Nat.le_trans this h1
  · intro x hx'
    obtain ⟨j, hj⟩ := List.getElem?_of_mem hx'
    obtain ⟨hlt, rfl⟩ := hget j x hj
    exact (hf ⟨j, hlt⟩).2.1
  · simp only [Rows.uptoBulk]
    have := bulk_sum (m := m) (List.ofFn f) ((List.range len).map D) (by simp) (by
      intro i y d hy hd
      obtain ⟨hlt, rfl⟩ := hget i y hy
      have : d = D i := by
        rw [List.getElem?_map, List.getElem?_range hlt] at hd
        exact (Option.some.inj hd).symm
      subst this
      exact (hf ⟨i, hlt⟩).2.2)
    omega
theorem weights_each {H : Type} {P : Program} {ts : List TypeId} {ds : List (DataW H)} {j : Nat} {t : TypeId} {d : DataW H} (ht : ts[j]? = some t) (hd : ds[j]? = some d) (h : ∀ n ∈ DataW.weightsEach P ts ds, n ≤ reachBytes) : ∀ n ∈ d.weights P t, n ≤ reachBytes :=
  fun n hn => h n (DataW.weights_mem_each ht hd n hn)
theorem sized_all {H : Type} {P : Program} {ts : List TypeId} {ds : List (DataW H)} (h : (DataW.weightsEach P ts ds).all (· ≤ reachBytes) = true) : ∀ n ∈ DataW.weightsEach P ts ds, n ≤ reachBytes :=
  fun n hn => by simpa using List.all_eq_true.1 h n hn
def OpF {α : Type} (P : Program) (fs : List Field) (o : Nat) (K : Kd α) (ok : α → Prop) (m : α → Nat) : Prop :=
  ∀ (H : Type) (enc : TypeId × Value → H) (w : World) (base : Nat) (spare : Nat → Bool) (held : Bool) (fuel : Nat) (cs : List Value) (xs : List (DataW H × List MemPlace)),
    xs.length = fs.length → (∀ (i : Nat) (f : Field), fs[i]? = some f → DataW.trod enc P w base spare held fuel f.type ((cs.drop f.offset).take (P.cellsOf f.type)) = xs[i]?) →
    (∀ n ∈ DataW.weightsEach P (fs.map (·.type)) (xs.map (·.1)), n ≤ reachBytes) → ∃ v : α, K.K w v ((cs.drop o).take K.sz) ∧ ok v ∧ m v ≤ Rows.uptoBulkAll (xs.map (·.1))
theorem OpF.one {α : Type} {P : Program} {f : Field} {o : Nat} {K : Kd α} {ok : α → Prop} {m : α → Nat} (ho : f.offset = o) (hc : P.cellsOf f.type = K.sz) (h : Op P f.type K ok m) : OpF P [f] o K ok m := by
  intro H enc w base spare held fuel cs xs hl hf hw
  obtain ⟨y, rfl⟩ : ∃ y, xs = [y] := List.length_eq_one_iff.1 hl
  have h0 := hf 0 f rfl
  rw [ho, hc] at h0
  obtain ⟨v, h1, h2, h3⟩ := h H enc w base spare held fuel _ y h0 (fun n hn => hw n (by simpa [DataW.weightsEach] using hn))
  exact ⟨v, h1, h2, by simpa [Rows.uptoBulkAll] using h3⟩
theorem OpF.cons {α β : Type} {P : Program} {f : Field} {fs : List Field} {o o' : Nat} {K : Kd α} {L : Kd β} {ok : α → Prop} {m : α → Nat} {ok' : β → Prop} {m' : β → Nat} (ho : f.offset = o) (hc : P.cellsOf f.type = K.sz) (ho' : o + K.sz = o') (h : Op P f.type K ok m) (h' : OpF P fs o' L ok' m') :
    OpF P (f :: fs) o (Kd.pair K L) (fun x => ok x.1 ∧ ok' x.2) (fun x => m x.1 + m' x.2) := by
  intro H enc w base spare held fuel cs xs hl hf hw
  obtain ⟨y, ys, rfl⟩ : ∃ y ys, xs = y :: ys := by
    cases xs with
    | nil => simp at hl
    | cons y ys => exact ⟨y, ys, rfl⟩
  have h0 := hf 0 f rfl
  rw [ho, hc] at h0
  have hw0 : ∀ n, (n ∈ y.1.weights P f.type ∨ n ∈ DataW.weightsEach P (fs.map (·.type)) (ys.map (·.1))) → n ≤ reachBytes := fun n hn => hw n (by simpa [DataW.weightsEach] using hn)
  obtain ⟨v, h1, h2, h3⟩ := h H enc w base spare held fuel _ y h0 (fun n hn => hw0 n (.inl hn))
  obtain ⟨u, g1, g2, g3⟩ := h' H enc w base spare held fuel cs ys (by simpa using hl) (fun i g hg => hf (i + 1) g (by simpa using hg)) (fun n hn => hw0 n (.inr hn))
  refine ⟨(v, u), ⟨_, _, ?_, h1, g1⟩, ⟨h2, g2⟩, by simp only [List.map_cons, Rows.uptoBulkAll]; omega⟩
  show (cs.drop o).take (K.sz + L.sz) = _
  rw [List.take_add, List.drop_drop, ho']
theorem Op.struct {α β : Type} {P : Program} {t : TypeId} {fs : Array Field} {K : Kd α} {f : β → α} {ok : α → Prop} {m : α → Nat} (g : α → β) (hu : P.underlying t = some (.struct fs)) (hc : P.cellsOf t = K.sz) (hfg : ∀ v, f (g v) = v) (h : OpF P fs.toList 0 K ok m) :
    Op P t (Kd.iso K f) (fun x => ok (f x)) (fun x => m (f x) + 1) := by
  intro H enc w base spare held fuel cs x hx hw
  obtain ⟨xs, n, rfl, rfl, hlen, hxl, hf⟩ := DataW.trod_struct hu hx
  simp only [DataW.weights, hu] at hw
  obtain ⟨v, h1, h2, h3⟩ := h H enc w base spare held n cs xs (by simpa using hxl) (fun i f hif => hf i f (by simpa using hif)) hw
  refine ⟨g v, ?_, ?_, ?_⟩
  · show K.K w (f (g v)) cs
    rw [hfg]
    rw [List.drop_zero, List.take_of_length_le (by omega)] at h1
    exact h1
  · show ok (f (g v))
    rw [hfg]; exact h2
  · show m (f (g v)) + 1 ≤ _
    rw [hfg]; simp only [Rows.uptoBulk]; omega
end Go.Proofs.YtnombbcgdfgadaaDoor.Ok
end
