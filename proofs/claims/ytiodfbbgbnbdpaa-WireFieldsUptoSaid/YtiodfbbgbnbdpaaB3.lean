/- Three structs in variables of their own that are made in any order. -/
import Derived.Test.YtiodfbbgbnbdpaaK3
namespace Go.Proofs.Ytiodfbbgbnbdpaa
set_option linter.unusedVariables false
open Go.RowKit
open Crc
def Bc (N : Nat) (T : TypeId) (x : Value) (c : List Value) (u : World) : Prop := ∀ k, x = .pointer (some ⟨k, 0, none⟩) → N ≤ k ∧ Blk u k c T
def B3 (w : World) (A : Nat) (T : TypeId) (al c1 c2 c3 : List Value) (x1 x2 x3 : Value) (u : World) : Prop :=
  Blk u A al T ∧ Below w.heap.size w u ∧ (Bc w.heap.size T x1 c1 u ∧ Bc w.heap.size T x2 c2 u ∧ Bc w.heap.size T x3 c3 u) ∧ Ka x1 x2 ∧ Ka x1 x3 ∧ Ka x2 x3
section
variable {w u : World} {A N : Nat} {T : TypeId} {al c1 c2 c3 c l : List Value} {x1 x2 x3 x : Value}
theorem Bc.alloc (h : Bc N T x c u) (o : Obj) : Bc N T x c (u.alloc o) := fun k hk => ⟨(h k hk).1, (h k hk).2.alloc o⟩
theorem Bc.new (hw : N ≤ u.heap.size) : Bc N T (.pointer (some ⟨u.heap.size, 0, none⟩)) l (u.alloc (.cells l.toArray T)) := fun k hk => by
  obtain rfl : u.heap.size = k := by simpa using hk
  exact ⟨hw, Blk.new u _ _⟩
theorem Bc.new1 (h : Bc N T x c u) : Ka (.pointer (some ⟨u.heap.size, 0, none⟩)) x := fun k hk hx => by
  obtain rfl : u.heap.size = k := by simpa using hk
  exact Nat.lt_irrefl _ (h _ hx).2.lt
theorem Bc.new2 (h : Bc N T x c u) : Ka x (.pointer (some ⟨u.heap.size, 0, none⟩)) := fun k hx hk => by
  obtain rfl : u.heap.size = k := by simpa using hk
  exact Nat.lt_irrefl _ (h _ hx).2.lt
theorem Bc.far {k : Nat} (h : Bc N T x c u) (hne : x ≠ .pointer (some ⟨k, 0, none⟩)) (n : Nat) (v : Value) : Bc N T x c (u.setCell ⟨k, n, none⟩ v) := fun j hj => by
  obtain ⟨a, b⟩ := h j hj
  exact ⟨a, b.far (p := ⟨k, n, none⟩) (fun e => hne (by rw [hj]; exact e ▸ rfl)) v⟩
theorem Bc.set {k : Nat} (h : Bc N T (.pointer (some ⟨k, 0, none⟩)) l u) (n : Nat) (v : Value) : Bc N T (.pointer (some ⟨k, 0, none⟩)) (l.set n v) (u.setCell ⟨k, n, none⟩ v) := fun j hj => by
  obtain rfl : k = j := by simpa using hj
  obtain ⟨a, b⟩ := h k rfl
  exact ⟨a, b.set n v⟩
theorem B3.undef (h : Blk w A al T) : B3 w A T al c1 c2 c3 undef undef undef w.drew :=
  ⟨h, (Below.refl _ _).drew, ⟨fun k e => (by simp [Go.undef] at e), fun k e => (by simp [Go.undef] at e), fun k e => (by simp [Go.undef] at e)⟩, fun k e => (by simp [Go.undef] at e), fun k e => (by simp [Go.undef] at e), fun k e => (by simp [Go.undef] at e)⟩
theorem B3.alloc1 (h : B3 w A T al l c2 c3 x1 x2 x3 u) : B3 w A T al l c2 c3 (.pointer (some ⟨u.heap.size, 0, none⟩)) x2 x3 (u.alloc (.cells l.toArray T)) := by
  obtain ⟨h1, h2, ⟨hc1, hc2, hc3⟩, ha12, ha13, ha23⟩ := h
  exact ⟨h1.alloc _, bt h2 (below_alloc u _), ⟨Bc.new h2.size, hc2.alloc _, hc3.alloc _⟩, hc2.new1, hc3.new1, ha23⟩
theorem B3.alloc2 (h : B3 w A T al c1 l c3 x1 x2 x3 u) : B3 w A T al c1 l c3 x1 (.pointer (some ⟨u.heap.size, 0, none⟩)) x3 (u.alloc (.cells l.toArray T)) := by
  obtain ⟨h1, h2, ⟨hc1, hc2, hc3⟩, ha12, ha13, ha23⟩ := h
  exact ⟨h1.alloc _, bt h2 (below_alloc u _), ⟨hc1.alloc _, Bc.new h2.size, hc3.alloc _⟩, hc1.new2, ha13, hc3.new1⟩
theorem B3.alloc3 (h : B3 w A T al c1 c2 l x1 x2 x3 u) : B3 w A T al c1 c2 l x1 x2 (.pointer (some ⟨u.heap.size, 0, none⟩)) (u.alloc (.cells l.toArray T)) := by
  obtain ⟨h1, h2, ⟨hc1, hc2, hc3⟩, ha12, ha13, ha23⟩ := h
  exact ⟨h1.alloc _, bt h2 (below_alloc u _), ⟨hc1.alloc _, hc2.alloc _, Bc.new h2.size⟩, ha12, hc1.new2, hc2.new2⟩
theorem B3.set1 {k : Nat} (h : B3 w A T al l c2 c3 (.pointer (some ⟨k, 0, none⟩)) x2 x3 u) (hA : A < w.heap.size) (n : Nat) (v : Value) : B3 w A T al (l.set n v) c2 c3 (.pointer (some ⟨k, 0, none⟩)) x2 x3 (u.setCell ⟨k, n, none⟩ v) := by
  obtain ⟨h1, h2, ⟨hc1, hc2, hc3⟩, ha12, ha13, ha23⟩ := h
  obtain ⟨a1, a2⟩ := hc1 k rfl
  exact ⟨h1.far (p := ⟨k, n, none⟩) (by show A ≠ k; omega) v, h2.setCell (p := ⟨k, n, none⟩) a1 v, ⟨(hc1.set n v), (hc2.far (ha12 k rfl) n v), (hc3.far (ha13 k rfl) n v)⟩, ha12, ha13, ha23⟩
theorem B3.set2 {k : Nat} (h : B3 w A T al c1 l c3 x1 (.pointer (some ⟨k, 0, none⟩)) x3 u) (hA : A < w.heap.size) (n : Nat) (v : Value) : B3 w A T al c1 (l.set n v) c3 x1 (.pointer (some ⟨k, 0, none⟩)) x3 (u.setCell ⟨k, n, none⟩ v) := by
  obtain ⟨h1, h2, ⟨hc1, hc2, hc3⟩, ha12, ha13, ha23⟩ := h
  obtain ⟨a1, a2⟩ := hc2 k rfl
  exact ⟨h1.far (p := ⟨k, n, none⟩) (by show A ≠ k; omega) v, h2.setCell (p := ⟨k, n, none⟩) a1 v, ⟨(hc1.far (fun e => ha12 k e rfl) n v), (hc2.set n v), (hc3.far (ha23 k rfl) n v)⟩, ha12, ha13, ha23⟩
theorem B3.set3 {k : Nat} (h : B3 w A T al c1 c2 l x1 x2 (.pointer (some ⟨k, 0, none⟩)) u) (hA : A < w.heap.size) (n : Nat) (v : Value) : B3 w A T al c1 c2 (l.set n v) x1 x2 (.pointer (some ⟨k, 0, none⟩)) (u.setCell ⟨k, n, none⟩ v) := by
  obtain ⟨h1, h2, ⟨hc1, hc2, hc3⟩, ha12, ha13, ha23⟩ := h
  obtain ⟨a1, a2⟩ := hc3 k rfl
  exact ⟨h1.far (p := ⟨k, n, none⟩) (by show A ≠ k; omega) v, h2.setCell (p := ⟨k, n, none⟩) a1 v, ⟨(hc1.far (fun e => ha13 k e rfl) n v), (hc2.far (fun e => ha23 k e rfl) n v), (hc3.set n v)⟩, ha12, ha13, ha23⟩
theorem B3.put1 {k : Nat} {z0 z1 z2 z3 z4 z5 z6 z7 z8 z9 z10 z11 z12 z13 z14 : Value} (h : B3 w A T al [z0, z1, z2, z3, z4, z5, z6, z7, z8, z9, z10, z11, z12, z13, z14] c2 c3 (.pointer (some ⟨k, 0, none⟩)) x2 x3 u) (hA : A < w.heap.size) (v0 v1 v2 v3 v4 v5 v6 v7 v8 v9 v10 v11 v12 v13 v14 : Value) : B3 w A T al [v0, v1, v2, v3, v4, v5, v6, v7, v8, v9, v10, v11, v12, v13, v14] c2 c3 (.pointer (some ⟨k, 0, none⟩)) x2 x3 (((((((((((((((u.setCell ⟨k, 0, none⟩ v0).setCell ⟨k, 1, none⟩ v1).setCell ⟨k, 2, none⟩ v2).setCell ⟨k, 3, none⟩ v3).setCell ⟨k, 4, none⟩ v4).setCell ⟨k, 5, none⟩ v5).setCell ⟨k, 6, none⟩ v6).setCell ⟨k, 7, none⟩ v7).setCell ⟨k, 8, none⟩ v8).setCell ⟨k, 9, none⟩ v9).setCell ⟨k, 10, none⟩ v10).setCell ⟨k, 11, none⟩ v11).setCell ⟨k, 12, none⟩ v12).setCell ⟨k, 13, none⟩ v13).setCell ⟨k, 14, none⟩ v14) := (((((((((((((((h.set1 hA 0 v0).set1 hA 1 v1).set1 hA 2 v2).set1 hA 3 v3).set1 hA 4 v4).set1 hA 5 v5).set1 hA 6 v6).set1 hA 7 v7).set1 hA 8 v8).set1 hA 9 v9).set1 hA 10 v10).set1 hA 11 v11).set1 hA 12 v12).set1 hA 13 v13).set1 hA 14 v14)
theorem B3.put2 {k : Nat} {z0 z1 z2 z3 z4 z5 z6 z7 z8 z9 z10 z11 z12 z13 z14 : Value} (h : B3 w A T al c1 [z0, z1, z2, z3, z4, z5, z6, z7, z8, z9, z10, z11, z12, z13, z14] c3 x1 (.pointer (some ⟨k, 0, none⟩)) x3 u) (hA : A < w.heap.size) (v0 v1 v2 v3 v4 v5 v6 v7 v8 v9 v10 v11 v12 v13 v14 : Value) : B3 w A T al c1 [v0, v1, v2, v3, v4, v5, v6, v7, v8, v9, v10, v11, v12, v13, v14] c3 x1 (.pointer (some ⟨k, 0, none⟩)) x3 (((((((((((((((u.setCell ⟨k, 0, none⟩ v0).setCell ⟨k, 1, none⟩ v1).setCell ⟨k, 2, none⟩ v2).setCell ⟨k, 3, none⟩ v3).setCell ⟨k, 4, none⟩ v4).setCell ⟨k, 5, none⟩ v5).setCell ⟨k, 6, none⟩ v6).setCell ⟨k, 7, none⟩ v7).setCell ⟨k, 8, none⟩ v8).setCell ⟨k, 9, none⟩ v9).setCell ⟨k, 10, none⟩ v10).setCell ⟨k, 11, none⟩ v11).setCell ⟨k, 12, none⟩ v12).setCell ⟨k, 13, none⟩ v13).setCell ⟨k, 14, none⟩ v14) := (((((((((((((((h.set2 hA 0 v0).set2 hA 1 v1).set2 hA 2 v2).set2 hA 3 v3).set2 hA 4 v4).set2 hA 5 v5).set2 hA 6 v6).set2 hA 7 v7).set2 hA 8 v8).set2 hA 9 v9).set2 hA 10 v10).set2 hA 11 v11).set2 hA 12 v12).set2 hA 13 v13).set2 hA 14 v14)
theorem B3.put3 {k : Nat} {z0 z1 z2 z3 z4 z5 z6 z7 z8 z9 z10 z11 z12 z13 z14 : Value} (h : B3 w A T al c1 c2 [z0, z1, z2, z3, z4, z5, z6, z7, z8, z9, z10, z11, z12, z13, z14] x1 x2 (.pointer (some ⟨k, 0, none⟩)) u) (hA : A < w.heap.size) (v0 v1 v2 v3 v4 v5 v6 v7 v8 v9 v10 v11 v12 v13 v14 : Value) : B3 w A T al c1 c2 [v0, v1, v2, v3, v4, v5, v6, v7, v8, v9, v10, v11, v12, v13, v14] x1 x2 (.pointer (some ⟨k, 0, none⟩)) (((((((((((((((u.setCell ⟨k, 0, none⟩ v0).setCell ⟨k, 1, none⟩ v1).setCell ⟨k, 2, none⟩ v2).setCell ⟨k, 3, none⟩ v3).setCell ⟨k, 4, none⟩ v4).setCell ⟨k, 5, none⟩ v5).setCell ⟨k, 6, none⟩ v6).setCell ⟨k, 7, none⟩ v7).setCell ⟨k, 8, none⟩ v8).setCell ⟨k, 9, none⟩ v9).setCell ⟨k, 10, none⟩ v10).setCell ⟨k, 11, none⟩ v11).setCell ⟨k, 12, none⟩ v12).setCell ⟨k, 13, none⟩ v13).setCell ⟨k, 14, none⟩ v14) := (((((((((((((((h.set3 hA 0 v0).set3 hA 1 v1).set3 hA 2 v2).set3 hA 3 v3).set3 hA 4 v4).set3 hA 5 v5).set3 hA 6 v6).set3 hA 7 v7).set3 hA 8 v8).set3 hA 9 v9).set3 hA 10 v10).set3 hA 11 v11).set3 hA 12 v12).set3 hA 13 v13).set3 hA 14 v14)
end
end Go.Proofs.Ytiodfbbgbnbdpaa
