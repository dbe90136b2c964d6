/- Words for memory: a slice that lies in memory as a list of cells, nil let in; what is kept of it. -/
import Derived.Test.YtmnfmgoolimlmaaDoorBase
namespace Go.Proofs.YtmnfmgoolimlmaaDoor
open Go.RowKit

theorem addr_add (b o j : Nat) : (⟨b, o, none⟩ : Addr).add j = ⟨b, o + j, none⟩ := by unfold Addr.add; split <;> simp_all

/-- The slice '.slice A n _', of elements of 'size' cells each, holds the cells xs. -/
def Lies (w : World) (A : Option Addr) (n size : Nat) (xs : List Value) : Prop :=
  xs.length = n * size ∧ (xs ≠ [] → ∃ b o, A = some ⟨b, o, none⟩ ∧ ∀ j u, xs[j]? = some u → w.cell? ⟨b, o + j, none⟩ = some u)

section
variable {w w' : World} {A : Option Addr} {n size : Nat} {xs : List Value}
theorem Lies.nil (w : World) (A : Option Addr) (size : Nat) : Lies w A 0 size [] := ⟨by simp, fun h => absurd rfl h⟩
theorem Lies.keep (h : Lies w A n size xs) (hk : ∀ p : Addr, p.block < w.heap.size → w'.cell? p = w.cell? p) : Lies w' A n size xs := by
  refine ⟨h.1, fun hn => ?_⟩
  obtain ⟨b, o, e, hc⟩ := h.2 hn
  refine ⟨b, o, e, fun j u hu => ?_⟩
  have := hc j u hu
  rw [hk _ (World.block_lt_of_cell? w _ this)]
  exact this
theorem Lies.below (h : Lies w A n size xs) (hb : Below w.heap.size w w') : Lies w' A n size xs := h.keep fun _ hp => hb.cell hp
theorem Lies.drew (h : Lies w A n size xs) : Lies w.drew A n size xs := h
theorem Lies.drewN (h : Lies w A n size xs) (k : Nat) : Lies (w.drewN k) A n size xs := h
theorem Lies.alloc (h : Lies w A n size xs) (o : Obj) : Lies (w.alloc o) A n size xs := h.keep fun p hp => World.cell?_alloc_lt w o p hp
theorem Lies.of_own {base : Nat} {e : TypeId} {v : Value} (h : w.ownsRow base e size v n xs) : ∃ A c, v = .slice A n c ∧ n ≤ c ∧ c ≤ maxLen ∧ Lies w A n size xs ∧ ∀ a, A = some a → base ≤ a.block := by
  rcases h.2 with ⟨rfl, rfl⟩ | ⟨g, cap, cur, rfl, hb, _, hn, hm, _⟩
  · have : xs = [] := List.eq_nil_of_length_eq_zero (by simpa using h.1)
    subst this
    exact ⟨none, 0, rfl, Nat.le_refl _, by decide, Lies.nil _ _ _, fun a h => by cases h⟩
  · exact ⟨_, cap, rfl, hn, hm, ⟨h.1, fun _ => ⟨g, 0, rfl, fun j u hu => by
      have := h.cells (g := g) rfl j u hu
      rw [addr_add] at this
      exact this⟩⟩, fun a ha => by cases ha; exact hb⟩
theorem Lies.far (h : Lies w A n size xs) {p : Addr} (hp : ∀ a, A = some a → a.block ≠ p.block) (u : Value) : Lies (w.setCell p u) A n size xs := by
  refine ⟨h.1, fun hn => ?_⟩
  obtain ⟨b, o, e, hc⟩ := h.2 hn
  exact ⟨b, o, e, fun j u' hu => (World.cell?_setCell_other w p _ u (fun e' => hp _ e (by rw [e']))).trans (hc j u' hu)⟩
end

/-! ### Slices of texts -/
def strs (l : List ByteArray) : List Value := l.map Value.string
theorem strs_length (l : List ByteArray) : (strs l).length = l.length := by simp [strs]
theorem strs_append (a b : List ByteArray) : strs (a ++ b) = strs a ++ strs b := by simp [strs]
theorem strs_one (l : List ByteArray) : ∀ u ∈ strs l, u.oneCell' = true := by
  intro u hu; simp only [strs, List.mem_map] at hu; obtain ⟨_, _, rfl⟩ := hu; rfl
/-- A slice of texts. -/
def Texts (w : World) (A : Option Addr) (l : List ByteArray) : Prop := Lies w A l.length 1 (strs l)
section
variable {w w' : World} {A : Option Addr} {l : List ByteArray}
theorem Texts.below (h : Texts w A l) (hb : Below w.heap.size w w') : Texts w' A l := Lies.below h hb
theorem Texts.at_ (h : Texts w A l) {k : Nat} (hk : k < l.length) : ∃ b o, A = some ⟨b, o, none⟩ ∧ w.cell? ⟨b, o + k, none⟩ = some (.string l[k]) := by
  obtain ⟨b, o, e, hc⟩ := h.2 (by intro h0; have := strs_length l; rw [h0] at this; simp at this; omega)
  exact ⟨b, o, e, hc k _ (by simp [strs, hk])⟩
end
/-- The block B holds these cells from its head on. -/
def Holds (w : World) (B : Nat) (vs : List Value) : Prop := ∀ i u, vs[i]? = some u → w.cell? ⟨B, i, none⟩ = some u
theorem Holds.below {w w' : World} {B : Nat} {vs : List Value} (h : Holds w B vs) (hb : Below w.heap.size w w') : Holds w' B vs := fun i u hu => by
  have := h i u hu
  rw [hb.cell (World.block_lt_of_cell? w _ this)]
  exact this
theorem Holds.new (w : World) (vs : List Value) (t : TypeId) (fr : Nat × Nat) : Holds (w.alloc (.cells vs.toArray t fr)) w.heap.size vs := fun i u hu => by
  have h : (w.alloc (.cells vs.toArray t fr)).heap[w.heap.size]? = some (.cells vs.toArray t fr) := by
    show (w.heap.push _)[w.heap.size]? = _
    simp
  unfold World.cell?
  simp only [h]
  simpa using hu
theorem Holds.alloc {w : World} {B : Nat} {vs : List Value} (h : Holds w B vs) (o : Obj) : Holds (w.alloc o) B vs := h.below ((Below.refl _ _).alloc (Nat.le_refl _) o)
theorem blk_cell {w : World} {g : Nat} {cs : List Value} {t : TypeId} (h : w.heap[g]? = some (.cells cs.toArray t (0, 0))) (i : Nat) : w.cell? ⟨g, i, none⟩ = cs[i]? := by
  unfold World.cell?
  simp [h]
theorem blk_free {w : World} {g : Nat} {cs : List Value} {t : TypeId} (h : w.heap[g]? = some (.cells cs.toArray t (0, 0))) (i : Nat) : w.frozen? ⟨g, i, none⟩ = false := by
  unfold World.frozen?
  simp [h]
theorem blk_new (w : World) (cs : List Value) (t : TypeId) : (w.alloc (.cells cs.toArray t)).heap[w.heap.size]? = some (.cells cs.toArray t (0, 0)) := heap_alloc_new w _
/-- Block g is just these cells, none frozen. -/
def Blk (w : World) (g : Nat) (vs : List Value) (t : TypeId) : Prop := w.heap[g]? = some (.cells vs.toArray t (0, 0))
section
variable {w w' : World} {g : Nat} {vs : List Value} {t : TypeId}
theorem Blk.lt (h : Blk w g vs t) : g < w.heap.size := (Array.getElem?_eq_some_iff.1 h).1
theorem Blk.below (h : Blk w g vs t) (hb : Below w.heap.size w w') : Blk w' g vs t := (hb.block g h.lt).trans h
theorem Blk.alloc (h : Blk w g vs t) (o : Obj) : Blk (w.alloc o) g vs t := (Below.heap_alloc w o g h.lt).trans h
theorem Blk.new (w : World) (vs : List Value) (t : TypeId) : Blk (w.alloc (.cells vs.toArray t)) w.heap.size vs t := heap_alloc_new w _
theorem Blk.cell (h : Blk w g vs t) (i : Nat) : w.cell? ⟨g, i, none⟩ = vs[i]? := blk_cell h i
theorem Blk.free (h : Blk w g vs t) (i : Nat) : w.frozen? ⟨g, i, none⟩ = false := blk_free h i
theorem Blk.holds (h : Blk w g vs t) : Holds w g vs := fun i u hu => by rw [h.cell]; exact hu
theorem Blk.set (h : Blk w g vs t) (i : Nat) (u : Value) : Blk (w.setCell ⟨g, i, none⟩ u) g (vs.set i u) t := by
  unfold Blk at h ⊢
  simp [World.setCell, Array.getElem?_modify, h]
theorem Blk.far (h : Blk w g vs t) {p : Addr} (hp : g ≠ p.block) (u : Value) : Blk (w.setCell p u) g vs t := (Below.heap_setCell w p u g hp).trans h
end
theorem below_alloc (w : World) (o : Obj) : Below w.heap.size w (w.alloc o) := (Below.refl _ _).alloc (Nat.le_refl _) o
theorem drop_cons_l {α : Type} (l : List α) (k : Nat) (h : k < l.length) : l.drop k = l[k] :: l.drop (k + 1) := List.drop_eq_getElem_cons h
end Go.Proofs.YtmnfmgoolimlmaaDoor
