/- Requests and replies as bytes, in plain Lean: what is taken from bytes. -/
import Derived.Test.YtiodfbbgbnbdpaaCrcB
namespace Go.Proofs.Ytiodfbbgbnbdpaa
open Go.RowKit
open Crc
set_option linter.unusedVariables false
/-- What is left of bytes; b: something was not there. -/
structure Lf where
  l : List UInt8
  b : Bool
def takeL (x : Lf) (n : Nat) : List UInt8 × Lf := if x.b = true ∨ x.l.length < n then ([], ⟨x.l, true⟩) else (x.l.take n, ⟨x.l.drop n, false⟩)
def byteL (x : Lf) : UInt8 × Lf := ((takeL x 1).1.headD 0, (takeL x 1).2)
def longL (x : Lf) : Nat × Lf := (gotN 8 (takeL x 8).1, (takeL x 8).2)
def textN (x : Lf) : Nat := gotN 4 (takeL x 4).1
def textL (x : Lf) : List UInt8 × Lf := takeL ⟨(takeL x 4).2.l, (takeL x 4).2.b || decide (2048 < textN x)⟩ (textN x)
theorem takeL_no {x : Lf} {n : Nat} (h : x.b = true ∨ x.l.length < n) : takeL x n = ([], ⟨x.l, true⟩) := if_pos h
theorem takeL_yes {x : Lf} {n : Nat} (h1 : x.b = false) (h2 : n ≤ x.l.length) : takeL x n = (x.l.take n, ⟨x.l.drop n, false⟩) := if_neg (by simp [h1]; omega)
theorem takeL_len (x : Lf) (n : Nat) : (takeL x n).1.length ≤ x.l.length ∧ (takeL x n).2.l.length ≤ x.l.length := by
  unfold takeL
  split <;> simp
  omega
theorem takeL_le (x : Lf) (n : Nat) : (takeL x n).1.length ≤ n := by
  unfold takeL
  split <;> simp
  omega
theorem gotN_lt {l : List UInt8} : gotN 4 l < 4294967296 := by
  unfold gotN
  split
  · rename_i h
    have := getL_lt l
    rw [h] at this
    exact this
  · decide
theorem gotN8_lt {l : List UInt8} : gotN 8 l < 18446744073709551616 := by
  unfold gotN
  split
  · rename_i h
    have := getL_lt l
    rw [h] at this
    exact this
  · decide
/-! ### The frame: but for block g, what was stands. -/
def Kp (g : Nat) (w w' : World) : Prop := (∀ k, k < w.heap.size → k ≠ g → w'.heap[k]? = w.heap[k]?) ∧ Below g w w'
/-- But for blocks g and A, what was stands. -/
def Kp2 (B g A : Nat) (w w' : World) : Prop := (∀ k, k < w.heap.size → k ≠ g → k ≠ A → w'.heap[k]? = w.heap[k]?) ∧ Below B w w'
section
variable {B g A : Nat} {w w' u : World}
theorem Kp.refl (g : Nat) (w : World) : Kp g w w := ⟨fun _ _ _ => rfl, Below.refl _ _⟩
theorem Kp.size (h : Kp g w w') : w.heap.size ≤ w'.heap.size := h.2.size
theorem Kp.trans (h : Kp g w w') (k : Kp g w' u) : Kp g w u := ⟨fun i hi hn => (k.1 i (Nat.lt_of_lt_of_le hi h.size) hn).trans (h.1 i hi hn), h.2.trans k.2⟩
theorem Kp.of (hb : Below w.heap.size w w') (hg : g ≤ w.heap.size) : Kp g w w' := ⟨fun k hk _ => hb.block k hk, hb.mono hg⟩
theorem Kp.alloc (h : Kp g w w') (hg : g ≤ w.heap.size) (o : Obj) : Kp g w (w'.alloc o) := h.trans (Kp.of (below_alloc _ _) (Nat.le_trans hg h.size))
theorem Kp.set (h : Kp g w w') (i : Nat) (v : Value) : Kp g w (w'.setCell ⟨g, i, none⟩ v) := ⟨fun k hk hn => (Below.heap_setCell _ _ _ _ hn).trans (h.1 k hk hn), h.2.setCell (p := ⟨g, i, none⟩) (Nat.le_refl _) v⟩
theorem Blk.kp {k : Nat} {vs : List Value} {t : TypeId} (h : Blk w k vs t) (hk : Kp g w w') (hne : k ≠ g) : Blk w' k vs t := (hk.1 k h.lt hne).trans h
theorem Kp2.refl (B g A : Nat) (w : World) : Kp2 B g A w w := ⟨fun _ _ _ _ => rfl, Below.refl _ _⟩
theorem Kp2.size (h : Kp2 B g A w w') : w.heap.size ≤ w'.heap.size := h.2.size
theorem Kp2.trans (h : Kp2 B g A w w') (k : Kp2 B g A w' u) : Kp2 B g A w u := ⟨fun i hi hn ha => (k.1 i (Nat.lt_of_lt_of_le hi h.size) hn ha).trans (h.1 i hi hn ha), h.2.trans k.2⟩
theorem Kp2.of (hb : Below w.heap.size w w') (hB : B ≤ w.heap.size) : Kp2 B g A w w' := ⟨fun k hk _ _ => hb.block k hk, hb.mono hB⟩
theorem Kp.two (h : Kp g w w') (hB : B ≤ g) : Kp2 B g A w w' := ⟨fun k hk hn _ => h.1 k hk hn, h.2.mono hB⟩
theorem Kp2.set (h : Kp2 B g A w w') (hA : B ≤ A) (i : Nat) (v : Value) : Kp2 B g A w (w'.setCell ⟨A, i, none⟩ v) := ⟨fun k hk hn ha => (Below.heap_setCell _ _ _ _ ha).trans (h.1 k hk hn ha), h.2.setCell (p := ⟨A, i, none⟩) hA v⟩
theorem Kp2.setg (h : Kp2 B g A w w') (hg : B ≤ g) (i : Nat) (v : Value) : Kp2 B g A w (w'.setCell ⟨g, i, none⟩ v) := ⟨fun k hk hn ha => (Below.heap_setCell _ _ _ _ hn).trans (h.1 k hk hn ha), h.2.setCell (p := ⟨g, i, none⟩) hg v⟩
theorem Kp2.drew (h : Kp2 B g A w w') : Kp2 B g A w w'.drew := ⟨h.1, Below.drew h.2⟩
theorem Blk.kp2 {k : Nat} {vs : List Value} {t : TypeId} (h : Blk w k vs t) (hk : Kp2 B g A w w') (hne : k ≠ g) (ha : k ≠ A) : Blk w' k vs t := (hk.1 k h.lt hne ha).trans h
end
end Go.Proofs.Ytiodfbbgbnbdpaa
