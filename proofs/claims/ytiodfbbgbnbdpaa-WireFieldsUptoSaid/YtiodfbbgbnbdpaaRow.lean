/- A whole block is stored by one operation: what holds behind it. -/
import Derived.Test.YtiodfbbgbnbdpaaB3
import Derived.Laws.Rows
namespace Go.Proofs.Ytiodfbbgbnbdpaa
set_option linter.unusedVariables false
open Go.RowKit
open Crc
theorem setRow_far (u : World) (k j : Nat) (cs : Array Value) (h : j ≠ k) : (u.setRow k cs).heap[j]? = u.heap[j]? := by
  simp only [World.setRow, Array.getElem?_modify]
  rw [if_neg (Ne.symm h)]
theorem setRow_size (u : World) (k : Nat) (cs : Array Value) : (u.setRow k cs).heap.size = u.heap.size := by simp [World.setRow]
section
variable {w u : World} {k g : Nat} {T t : TypeId} {zs vs : List Value}
theorem Blk.row (h : Blk u k zs T) (vs : List Value) : Blk (u.setRow k vs.toArray) k vs T := setRow_heap u k zs.toArray vs.toArray T (0, 0) h
theorem Blk.rowFar (h : Blk u g zs t) (hne : g ≠ k) (cs : Array Value) : Blk (u.setRow k cs) g zs t := (setRow_far u k g cs hne).trans h
theorem Bc.row {N : Nat} (h : Bc N T (.pointer (some ⟨k, 0, none⟩)) zs u) (vs : List Value) : Bc N T (.pointer (some ⟨k, 0, none⟩)) vs (u.setRow k vs.toArray) := fun j hj => by
  obtain rfl : k = j := by simpa using hj
  exact ⟨(h k rfl).1, (h k rfl).2.row vs⟩
theorem Bc.rowFar {N : Nat} {x : Value} (h : Bc N T x zs u) (hne : x ≠ .pointer (some ⟨k, 0, none⟩)) (cs : Array Value) : Bc N T x zs (u.setRow k cs) := fun j hj => by
  obtain ⟨a, b⟩ := h j hj
  exact ⟨a, b.rowFar (fun e => hne (by rw [hj]; exact e ▸ rfl)) cs⟩
end
section
variable {w u : World} {A : Nat} {T : TypeId} {al c1 c2 c3 : List Value} {x1 x2 x3 : Value}
theorem B3.row1 {k : Nat} (h : B3 w A T al c1 c2 c3 (.pointer (some ⟨k, 0, none⟩)) x2 x3 u) (hA : A < w.heap.size) (vs : List Value) : B3 w A T al vs c2 c3 (.pointer (some ⟨k, 0, none⟩)) x2 x3 (u.setRow k vs.toArray) := by
  obtain ⟨h1, h2, ⟨hc1, hc2, hc3⟩, ha12, ha13, ha23⟩ := h
  obtain ⟨a1, a2⟩ := hc1 k rfl
  exact ⟨h1.rowFar (by omega) _, below_setRow h2 a1 _, ⟨(hc1.row vs), (hc2.rowFar (ha12 k rfl) _), (hc3.rowFar (ha13 k rfl) _)⟩, ha12, ha13, ha23⟩
theorem B3.row2 {k : Nat} (h : B3 w A T al c1 c2 c3 x1 (.pointer (some ⟨k, 0, none⟩)) x3 u) (hA : A < w.heap.size) (vs : List Value) : B3 w A T al c1 vs c3 x1 (.pointer (some ⟨k, 0, none⟩)) x3 (u.setRow k vs.toArray) := by
  obtain ⟨h1, h2, ⟨hc1, hc2, hc3⟩, ha12, ha13, ha23⟩ := h
  obtain ⟨a1, a2⟩ := hc2 k rfl
  exact ⟨h1.rowFar (by omega) _, below_setRow h2 a1 _, ⟨(hc1.rowFar (fun e => ha12 k e rfl) _), (hc2.row vs), (hc3.rowFar (ha23 k rfl) _)⟩, ha12, ha13, ha23⟩
theorem B3.row3 {k : Nat} (h : B3 w A T al c1 c2 c3 x1 x2 (.pointer (some ⟨k, 0, none⟩)) u) (hA : A < w.heap.size) (vs : List Value) : B3 w A T al c1 c2 vs x1 x2 (.pointer (some ⟨k, 0, none⟩)) (u.setRow k vs.toArray) := by
  obtain ⟨h1, h2, ⟨hc1, hc2, hc3⟩, ha12, ha13, ha23⟩ := h
  obtain ⟨a1, a2⟩ := hc3 k rfl
  exact ⟨h1.rowFar (by omega) _, below_setRow h2 a1 _, ⟨(hc1.rowFar (fun e => ha13 k e rfl) _), (hc2.rowFar (fun e => ha23 k e rfl) _), (hc3.row vs)⟩, ha12, ha13, ha23⟩
end
end Go.Proofs.Ytiodfbbgbnbdpaa
