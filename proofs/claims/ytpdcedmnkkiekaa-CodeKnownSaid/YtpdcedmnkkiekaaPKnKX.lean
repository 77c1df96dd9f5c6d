import Derived.Deep.RegionLaw
import Derived.WalkSpells
import Derived.Shelf.Abstract
import Derived.Test.YtpdcedmnkkiekaaPKnGxF6
import Derived.Test.YtpdcedmnkkiekaaPKnGxF7
import Derived.Lib.Hide
set_option linter.unusedVariables false
set_option linter.unusedSimpArgs false
section
namespace Go.Proofs.Ytpdcedmnkkiekaa.G
open Go.Shelf Go.RowKit Go.Proofs.YtpdcedmnkkiekaaW.PrintWords Go.Proofs.YtpdcedmnkkiekaaW.PrintLast Go.Proofs.YtpdcedmnkkiekaaW.PrintMore
set_option linter.unusedVariables false
set_option linter.unusedSimpArgs false
set_option maxHeartbeats 1000000 in
theorem one_exact (a0 : Int) (v : Value) (A1 : Option Addr) (n c : Nat) (hv : v = .slice A1 n c) (w : World) :
    Calls Try.prog 20 #[.int .i64 a0, v] w fun e w' => e = .returned (.agg #[.slice (some ⟨w.heap.size + 1, 0, none⟩) 1 1]) ∧ w' = (w.alloc (.cells #[.slice (some ⟨w.heap.size + 1, 0, none⟩) 1 1] 28)).alloc (.cells #[.int .i64 0, .int .i64 a0, .slice none 0 0, .slice none 0 0, v] 41) := by
  have hu28 := Try.underlying28
  have hu41 := Try.underlying41
  subst hv
  go_enter Try.func20, Try.ntmps20
  go_wp2_with fail
  exact bodyPost_ret (results_cell_row rfl _ _ w.heap.size 28 #[.slice (some ⟨w.heap.size + 1, 0, none⟩) 1 1] (0, 0) _ rfl (blk_alloc (blk_new _ _) _) Try.underlying28 rfl (by kernel_rfl)) rfl ⟨rfl, rfl⟩
theorem raw_FK (W : World) (ok : Nat → Prop) (cs : List Value) (h : cs.length = 5) (h1 : ∀ u ∈ cs, u.oneCell' = true) : Kd.FK (Kd.raw 5) W ok cs cs := fun _ _ => ⟨rfl, h, h1⟩
theorem C_of_raw {W : World} {A : Option Addr} {n : Nat} {css : List (List Value)} {xs : List S41} (h : Kd.C (Kd.raw 5) W A n css) (hl : css.length = xs.length) (hk : ∀ (j : Nat) (x : S41) (c : List Value), xs[j]? = some x → css[j]? = some c → k41.K W x c) : Kd.C k41 W A n xs := by
  obtain ⟨h1, h2, h3⟩ := h
  refine ⟨by omega, h2, fun hp => ?_⟩
  obtain ⟨ad, he, hc⟩ := h3 hp
  refine ⟨ad, he, fun j x hj => ?_⟩
  have hj2 : j < css.length := by have := (List.getElem?_eq_some_iff.1 hj).1; omega
  obtain ⟨c, hcl, hcr, hcc⟩ := hc j _ (List.getElem?_eq_getElem hj2)
  have e : c = css[j] := hcr.1
  subst e
  exact ⟨css[j], hcl, hk j x _ hj (List.getElem?_eq_getElem hj2), hcc⟩
theorem flat_get {α : Type} (f : α → List Value) (sz : Nat) (hf : ∀ x, (f x).length = sz) : ∀ (l : List α) (j t : Nat) (x : α) (u : Value), l[j]? = some x → (f x)[t]? = some u → (l.flatMap f)[j * sz + t]? = some u
  | [], j, t, x, u, h, _ => by simp at h
  | y :: l, 0, t, x, u, h, hu => by
    obtain rfl : y = x := by simpa using h
    have ht := (List.getElem?_eq_some_iff.1 hu).1
    rw [List.flatMap_cons, Nat.zero_mul, Nat.zero_add, List.getElem?_append_left ht]
    exact hu
  | y :: l, j + 1, t, x, u, h, hu => by
    have hj : l[j]? = some x := by simpa using h
    rw [List.flatMap_cons, List.getElem?_append_right (by rw [hf, Nat.add_mul]; omega), hf, show (j + 1) * sz + t - sz = j * sz + t by rw [Nat.add_mul]; omega]
    exact flat_get f sz hf l j t x u hj hu
theorem C_of_blk {α : Type} (d : Kd α) (f : α → List Value) {W : World} {b : Nat} {e : TypeId} {cs : Array Value} {l : List α} (h : W.heap[b]? = some (.cells cs e (0, 0))) (hcs : cs.toList = l.flatMap f) (hf : ∀ x, (f x).length = d.sz) (hk : ∀ x ∈ l, d.K W x (f x)) (hl : l.length ≤ 1000000) :
    Kd.C d W (some ⟨b, 0, none⟩) l.length l := by
  refine ⟨rfl, by omega, fun _ => ⟨_, rfl, fun j x hj => ⟨f x, hf x, hk x (List.mem_of_getElem? hj), fun t u hu => ?_⟩⟩⟩
  rw [add_at, Nat.zero_add, blk_cell h]
  have h2 := flat_get f d.sz hf l j t x u hj hu
  rw [← hcs] at h2
  simpa using h2
def e33 (x : S33) : List Value := [.int .i64 x.f0, .int .i64 x.f1, .int .i64 x.f2]
def e46 (x : S46) : List Value := [.int .i64 x.f0, .int .i64 x.f1, .string x.f2]
def e48 (x : S48) : List Value := [.bool x.f0, .int .i64 x.f1]
theorem C33b {W : World} {b : Nat} {cs : Array Value} {l : List S33} (h : W.heap[b]? = some (.cells cs 33 (0, 0))) (hcs : cs.toList = l.flatMap e33) (hl : l.length ≤ 1000000) : Kd.C k33 W (some ⟨b, 0, none⟩) l.length l := C_of_blk k33 e33 h hcs (fun _ => rfl) (fun x _ => k33_mk W x) hl
theorem C46b {W : World} {b : Nat} {cs : Array Value} {l : List S46} (h : W.heap[b]? = some (.cells cs 46 (0, 0))) (hcs : cs.toList = l.flatMap e46) (hl : l.length ≤ 1000000) : Kd.C k46 W (some ⟨b, 0, none⟩) l.length l := C_of_blk k46 e46 h hcs (fun _ => rfl) (fun x _ => k46_mk W x) hl
theorem C48b {W : World} {b : Nat} {cs : Array Value} {l : List S48} (h : W.heap[b]? = some (.cells cs 48 (0, 0))) (hcs : cs.toList = l.flatMap e48) (hl : l.length ≤ 1000000) : Kd.C k48 W (some ⟨b, 0, none⟩) l.length l := C_of_blk k48 e48 h hcs (fun _ => rfl) (fun x _ => k48_mk W x) hl
theorem C41b {W : World} {b : Nat} {cs : Array Value} {l : List S41} (f : S41 → List Value) (h : W.heap[b]? = some (.cells cs 41 (0, 0))) (hcs : cs.toList = l.flatMap f) (hf : ∀ x, (f x).length = 5) (hk : ∀ x ∈ l, k41.K W x (f x)) (hl : l.length ≤ 1000000) : Kd.C k41 W (some ⟨b, 0, none⟩) l.length l := C_of_blk k41 f h hcs hf hk hl
theorem nil48 (W : World) : Kd.C k48 W none ([] : List S48).length [] := Kd.C_nil _ _
theorem nil46 (W : World) : Kd.C k46 W none ([] : List S46).length [] := Kd.C_nil _ _
theorem nil33 (W : World) : Kd.C k33 W none ([] : List S33).length [] := Kd.C_nil _ _
theorem N_one {w : World} {base g : Nat} {ok : Nat → Prop} {cs : List Value} (h : w.heap[g]? = some (.cells cs.toArray 41 (0, 0))) (hl : cs.length = 5) (h1 : ∀ u ∈ cs, u.oneCell' = true) (hb : base ≤ g) (hok : ok g) : Kd.N (Kd.raw 5) 41 w base ok (.slice (some ⟨g, 0, none⟩) 1 1) [cs] := by
  have e5 : (Kd.raw 5).sz = 5 := rfl
  refine Kd.R_N ⟨fun k hk => by simp [Value.ownBlock] at hk; exact hk ▸ hok, cs, ⟨by rw [e5]; simpa using hl, .inr ⟨g, 1, cs.toArray, rfl, hb, h, Nat.le_refl _, by decide, by rw [e5]; simpa using hl, by rw [e5]; simp [← hl]⟩⟩, ⟨by rw [e5]; simpa using hl, fun j p hj => ?_⟩⟩
  rcases j with _ | j
  · obtain rfl : cs = p := by simpa using hj
    have e : (cs.drop (0 * (Kd.raw 5).sz)).take (Kd.raw 5).sz = cs := by rw [Nat.zero_mul, List.drop_zero, e5, List.take_of_length_le (by omega)]
    rw [e]
    exact ⟨rfl, hl, h1⟩
  · simp at hj
def okI : List S33 := [⟨0, 2, 0⟩, ⟨1, 2, 1⟩, ⟨2, 0, 1⟩, ⟨3, 2, 2⟩, ⟨4, 0, 2⟩, ⟨5, 2, 0⟩, ⟨8, 2, 0⟩, ⟨9, 1, 2⟩, ⟨10, 1, 2⟩, ⟨11, 0, 1⟩, ⟨12, 0, 1⟩, ⟨13, 2, 0⟩, ⟨14, 1, 0⟩, ⟨15, 0, 0⟩, ⟨16, 0, 0⟩, ⟨17, 2, 1⟩, ⟨18, 0, 2⟩, ⟨18, 2, 0⟩, ⟨19, 2, 0⟩, ⟨20, 0, 1⟩, ⟨21, 2, 1⟩, ⟨22, 2, 0⟩, ⟨23, 2, 0⟩, ⟨24, 2, 0⟩, ⟨25, 1, 9⟩, ⟨26, 1, 0⟩, ⟨27, 1, 0⟩, ⟨28, 1, 0⟩, ⟨29, 1, 0⟩, ⟨30, 2, 0⟩, ⟨31, 2, 0⟩, ⟨32, 2, 0⟩, ⟨33, 1, 1⟩, ⟨34, 1, 1⟩, ⟨35, 2, 1⟩, ⟨36, 0, 0⟩]
def badI : List S33 := [⟨37, 0, 0⟩, ⟨-1, 0, 0⟩, ⟨0, 3, 0⟩, ⟨0, -1, 0⟩, ⟨0, 0, 1⟩, ⟨1, 0, 2⟩, ⟨1, 0, -1⟩, ⟨2, 0, 2⟩, ⟨3, 0, 3⟩, ⟨4, 3, 0⟩, ⟨6, 0, 0⟩, ⟨7, 0, 0⟩, ⟨9, 0, -1⟩, ⟨11, 0, 0⟩, ⟨12, 0, 2⟩, ⟨14, 2, 0⟩, ⟨14, 0, 1⟩, ⟨15, 1, 0⟩, ⟨16, 1, 0⟩, ⟨17, 0, 0⟩, ⟨17, 0, 2⟩, ⟨18, 1, 2⟩, ⟨18, 0, -1⟩, ⟨18, 0, 21⟩, ⟨19, 0, 1⟩, ⟨20, 0, 2⟩, ⟨20, 1, 0⟩, ⟨21, 0, 2⟩, ⟨25, 0, 10⟩, ⟨25, 2, 0⟩, ⟨26, 2, 0⟩, ⟨27, 2, 0⟩, ⟨28, 2, 0⟩, ⟨29, 2, 0⟩, ⟨33, 2, 0⟩, ⟨34, 0, 2⟩, ⟨35, 0, 2⟩, ⟨36, 1, 0⟩, ⟨36, 0, 1⟩]
def knL (x : S33) : List S41 := [⟨0, 3, [], [⟨3, 5, ⟨#[]⟩⟩, ⟨5, 0, ⟨#[120]⟩⟩], [x, ⟨0, 0, 0⟩]⟩, ⟨0, 1, [], [], [⟨0, 0, 0⟩]⟩]
def knI (i : Nat) : S33 := if i < 36 then rd_T33 okI i else rd_T33 badI ((i : Int) - 36)
def knR (i : Nat) : Int := (code_Check.f 99 (knL (knI i))).getD 7
theorem knR_all : (List.range 75).all (fun i => (code_Check.f 99 (knL (knI i)) == some (knR i)) && ((knR i == 0) == decide (i < 36))) = true := by decide +kernel
theorem knR_f {i : Nat} (h : i < 75) : code_Check.f 99 (knL (knI i)) = some (knR i) ∧ (knR i == 0) = decide (i < 36) := by
  have h2 := List.all_eq_true.1 knR_all i (List.mem_range.2 h)
  simp only [Bool.and_eq_true, beq_iff_eq] at h2
  exact ⟨h2.1, h2.2⟩
end Go.Proofs.Ytpdcedmnkkiekaa.G
end
