/- Several small texts of this proof, one behind the other. -/
import Derived.Test.YtiodfbbgbnbdpaaWTexts0
import Derived.Test.YtiodfbbgbnbdpaaGD
import Derived.Laws.Rows
section
/- Three bytes in variables of their own that are made in any order, beside a writer. -/
namespace Go.Proofs.Ytiodfbbgbnbdpaa
set_option linter.unusedVariables false
open Go.RowKit
open Crc
/-- A cell of a block that is protected is stored to. -/
theorem BuT.setP {T : TypeId} {ex : List Value} {B b k i : Nat} {P : Nat → Prop} {bs : List Value} {u : World} {v : Value} (h : BuT T ex B b P bs u) (hk : P k) (hs : Small (u.setCell ⟨k, i, none⟩ v) k) : BuT T ex B b P bs (u.setCell ⟨k, i, none⟩ v) := by
  obtain ⟨h1, p, v0, h2, h3, h4, h5, h6, h7⟩ := h
  have hkb := (h7 k hk).2.1
  have hrow := (h7 k hk).2.2.2
  have hne : ∀ j, j ≠ k → (u.setCell ⟨k, i, none⟩ v).heap[j]? = u.heap[j]? := fun j hj => Below.heap_setCell _ _ _ _ hj
  refine ⟨h1, p, v0, h2, (hne b (Ne.symm hkb)).trans h3, ⟨h4.1, ?_⟩, h5, h6, fun j hj => ?_⟩
  · rcases h4.2 with h' | ⟨g, cap, cur, hv, hg, hh, h'⟩
    · exact .inl h'
    · exact .inr ⟨g, cap, cur, hv, hg, (hne g (fun e => hrow (by rw [hv, ← e]; rfl))).trans hh, h'⟩
  · obtain ⟨a1, a2, a3, a4⟩ := h7 j hj
    refine ⟨by rw [World.size_setCell]; exact a1, a2, ?_, a4⟩
    by_cases hjk : j = k
    · subst hjk; exact hs
    · exact fun cs fz hc => a3 cs fz ((hne j hjk).symm.trans hc)
theorem small_blk1 {w : World} {k : Nat} {x : Value} {t : TypeId} (h : Blk w k [x] t) : Small w k := fun cs fz hc => by
  have h' : w.heap[k]? = some (.cells [x].toArray t (0, 0)) := h
  rw [h'] at hc
  injection hc with hc
  injection hc with e
  subst e
  simp
def Kc (w : World) (P' : Nat → Prop) (x c : Value) (u : World) : Prop := ∀ k, x = .pointer (some ⟨k, 0, none⟩) → P' k ∧ w.heap.size ≤ k ∧ Blk u k [c] 5
def Ka (x y : Value) : Prop := ∀ k, x = .pointer (some ⟨k, 0, none⟩) → y ≠ .pointer (some ⟨k, 0, none⟩)
def K3 (w : World) (B g : Nat) (bs : List UInt8) (bad : Bool) (P : Nat → Prop) (c1 c2 c3 x1 x2 x3 : Value) (u : World) : Prop :=
  ∃ P' : Nat → Prop, Wr B g P' bs bad u ∧ (∀ k, P k → P' k) ∧ KP B P w u ∧ (Kc w P' x1 c1 u ∧ Kc w P' x2 c2 u ∧ Kc w P' x3 c3 u) ∧ Ka x1 x2 ∧ Ka x1 x3 ∧ Ka x2 x3
section
variable {w u : World} {B g : Nat} {bs : List UInt8} {bad : Bool} {P P' : Nat → Prop} {c1 c2 c3 x1 x2 x3 x c y : Value}
theorem Kc.alloc (h : Kc w P' x c u) : Kc w (fun i => P' i ∨ i = u.heap.size) x c (u.alloc (.cells #[.int .u8 0] 5)) := fun k hk => by
  obtain ⟨a, b, d⟩ := h k hk
  exact ⟨.inl a, b, d.alloc _⟩
theorem Kc.new (hw : w.heap.size ≤ u.heap.size) : Kc w (fun i => P' i ∨ i = u.heap.size) (.pointer (some ⟨u.heap.size, 0, none⟩)) (.int .u8 0) (u.alloc (.cells #[.int .u8 0] 5)) := fun k hk => by
  obtain rfl : u.heap.size = k := by simpa using hk
  exact ⟨.inr rfl, hw, Blk.new u _ _⟩
theorem Kc.ne (h : Kc w P' x c u) : ∀ k, x = .pointer (some ⟨k, 0, none⟩) → k < u.heap.size := fun k hk => (h k hk).2.2.lt
theorem Ka.new1 (h : Kc w P' x c u) : Ka (.pointer (some ⟨u.heap.size, 0, none⟩)) x := fun k hk hx => by
  obtain rfl : u.heap.size = k := by simpa using hk
  exact Nat.lt_irrefl _ (h.ne _ hx)
theorem Ka.new2 (h : Kc w P' x c u) : Ka x (.pointer (some ⟨u.heap.size, 0, none⟩)) := fun k hx hk => by
  obtain rfl : u.heap.size = k := by simpa using hk
  exact Nat.lt_irrefl _ (h.ne _ hx)
theorem Kc.far {k : Nat} (h : Kc w P' x c u) (hne : x ≠ .pointer (some ⟨k, 0, none⟩)) (v : Value) : Kc w P' x c (u.setCell ⟨k, 0, none⟩ v) := fun j hj => by
  obtain ⟨a, b, d⟩ := h j hj
  exact ⟨a, b, d.far (p := ⟨k, 0, none⟩) (fun e => hne (by rw [hj, e])) v⟩
theorem Kc.set {k : Nat} (h : Kc w P' (.pointer (some ⟨k, 0, none⟩)) c u) (v : Value) : Kc w P' (.pointer (some ⟨k, 0, none⟩)) v (u.setCell ⟨k, 0, none⟩ v) := fun j hj => by
  obtain rfl : k = j := by simpa using hj
  obtain ⟨a, b, d⟩ := h k rfl
  exact ⟨a, b, d.set 0 v⟩
theorem K3.alloc1 (h : K3 w B g bs bad P (.int .u8 0) c2 c3 x1 x2 x3 u) : K3 w B g bs bad P (.int .u8 0) c2 c3 (.pointer (some ⟨u.heap.size, 0, none⟩)) x2 x3 (u.alloc (.cells #[.int .u8 0] 5)) := by
  obtain ⟨P', h1, h2, h3, ⟨hc1, hc2, hc3⟩, ha12, ha13, ha23⟩ := h
  have hw := h3.size
  have hB := h1.isP.2
  exact ⟨fun i => P' i ∨ i = u.heap.size, BuT.add h1 (below_alloc u _) (Nat.le_refl _) (by simp) (small_one u _), fun k hk => .inl (h2 k hk), h3.trans (KP.of (below_alloc u _) hB (fun k hk => h1.isP.1 k (h2 k hk))), ⟨Kc.new hw, (hc2).alloc, (hc3).alloc⟩, Ka.new1 hc2, Ka.new1 hc3, ha23⟩
theorem K3.store1 {k : Nat} (h : K3 w B g bs bad P c1 c2 c3 (.pointer (some ⟨k, 0, none⟩)) x2 x3 u) (hP : ∀ j, P j → j < w.heap.size) (hB : B ≤ w.heap.size) (y : Value) : K3 w B g bs bad P y c2 c3 (.pointer (some ⟨k, 0, none⟩)) x2 x3 (u.setCell ⟨k, 0, none⟩ y) := by
  obtain ⟨P', h1, h2, h3, ⟨hc1, hc2, hc3⟩, ha12, ha13, ha23⟩ := h
  obtain ⟨a1, a2, a3⟩ := hc1 k rfl
  exact ⟨P', BuT.setP h1 a1 (small_blk1 (a3.set 0 y)), h2, h3.set (by omega : B ≤ k) (fun j hj => by have := hP j hj; omega) 0 y, ⟨hc1.set y, hc2.far (ha12 k rfl) y, hc3.far (ha13 k rfl) y⟩, ha12, ha13, ha23⟩
theorem K3.alloc2 (h : K3 w B g bs bad P c1 (.int .u8 0) c3 x1 x2 x3 u) : K3 w B g bs bad P c1 (.int .u8 0) c3 x1 (.pointer (some ⟨u.heap.size, 0, none⟩)) x3 (u.alloc (.cells #[.int .u8 0] 5)) := by
  obtain ⟨P', h1, h2, h3, ⟨hc1, hc2, hc3⟩, ha12, ha13, ha23⟩ := h
  have hw := h3.size
  have hB := h1.isP.2
  exact ⟨fun i => P' i ∨ i = u.heap.size, BuT.add h1 (below_alloc u _) (Nat.le_refl _) (by simp) (small_one u _), fun k hk => .inl (h2 k hk), h3.trans (KP.of (below_alloc u _) hB (fun k hk => h1.isP.1 k (h2 k hk))), ⟨(hc1).alloc, Kc.new hw, (hc3).alloc⟩, Ka.new2 hc1, ha13, Ka.new1 hc3⟩
theorem K3.store2 {k : Nat} (h : K3 w B g bs bad P c1 c2 c3 x1 (.pointer (some ⟨k, 0, none⟩)) x3 u) (hP : ∀ j, P j → j < w.heap.size) (hB : B ≤ w.heap.size) (y : Value) : K3 w B g bs bad P c1 y c3 x1 (.pointer (some ⟨k, 0, none⟩)) x3 (u.setCell ⟨k, 0, none⟩ y) := by
  obtain ⟨P', h1, h2, h3, ⟨hc1, hc2, hc3⟩, ha12, ha13, ha23⟩ := h
  obtain ⟨a1, a2, a3⟩ := hc2 k rfl
  exact ⟨P', BuT.setP h1 a1 (small_blk1 (a3.set 0 y)), h2, h3.set (by omega : B ≤ k) (fun j hj => by have := hP j hj; omega) 0 y, ⟨hc1.far (fun e => ha12 k e rfl) y, hc2.set y, hc3.far (ha23 k rfl) y⟩, ha12, ha13, ha23⟩
theorem K3.alloc3 (h : K3 w B g bs bad P c1 c2 (.int .u8 0) x1 x2 x3 u) : K3 w B g bs bad P c1 c2 (.int .u8 0) x1 x2 (.pointer (some ⟨u.heap.size, 0, none⟩)) (u.alloc (.cells #[.int .u8 0] 5)) := by
  obtain ⟨P', h1, h2, h3, ⟨hc1, hc2, hc3⟩, ha12, ha13, ha23⟩ := h
  have hw := h3.size
  have hB := h1.isP.2
  exact ⟨fun i => P' i ∨ i = u.heap.size, BuT.add h1 (below_alloc u _) (Nat.le_refl _) (by simp) (small_one u _), fun k hk => .inl (h2 k hk), h3.trans (KP.of (below_alloc u _) hB (fun k hk => h1.isP.1 k (h2 k hk))), ⟨(hc1).alloc, (hc2).alloc, Kc.new hw⟩, ha12, Ka.new2 hc1, Ka.new2 hc2⟩
theorem K3.store3 {k : Nat} (h : K3 w B g bs bad P c1 c2 c3 x1 x2 (.pointer (some ⟨k, 0, none⟩)) u) (hP : ∀ j, P j → j < w.heap.size) (hB : B ≤ w.heap.size) (y : Value) : K3 w B g bs bad P c1 c2 y x1 x2 (.pointer (some ⟨k, 0, none⟩)) (u.setCell ⟨k, 0, none⟩ y) := by
  obtain ⟨P', h1, h2, h3, ⟨hc1, hc2, hc3⟩, ha12, ha13, ha23⟩ := h
  obtain ⟨a1, a2, a3⟩ := hc3 k rfl
  exact ⟨P', BuT.setP h1 a1 (small_blk1 (a3.set 0 y)), h2, h3.set (by omega : B ≤ k) (fun j hj => by have := hP j hj; omega) 0 y, ⟨hc1.far (fun e => ha13 k e rfl) y, hc2.far (fun e => ha23 k e rfl) y, hc3.set y⟩, ha12, ha13, ha23⟩
end
end Go.Proofs.Ytiodfbbgbnbdpaa
end
section
/- Three structs in variables of their own that are made in any order. -/
namespace Go.Proofs.Ytiodfbbgbnbdpaa
set_option linter.unusedVariables false
open Go.RowKit
open Crc
def Bc (N : Nat) (T : TypeId) (x : Value) (c : List Value) (u : World) : Prop := ∀ k, x = .pointer (some ⟨k, 0, none⟩) → N ≤ k ∧ Blk u k c T
def B3 (w : World) (A : Nat) (T : TypeId) (al c1 c2 c3 : List Value) (x1 x2 x3 : Value) (u : World) : Prop :=
  Blk u A al T ∧ Below w.heap.size w u ∧ (Bc w.heap.size T x1 c1 u ∧ Bc w.heap.size T x2 c2 u ∧ Bc w.heap.size T x3 c3 u) ∧ Ka x1 x2 ∧ Ka x1 x3 ∧ Ka x2 x3
section
variable {w u : World} {A N : Nat} {T : TypeId} {al c1 c2 c3 c l : List Value} {x1 x2 x3 x : Value}
theorem Bc.alloc (h : Bc N T x c u) (o : Obj) : Bc N T x c (u.alloc o) := fun k hk => ⟨(h k hk).1, (h k hk).2.alloc o⟩
theorem Bc.new (hw : N ≤ u.heap.size) : Bc N T (.pointer (some ⟨u.heap.size, 0, none⟩)) l (u.alloc (.cells l.toArray T)) := fun k hk => by
  obtain rfl : u.heap.size = k := by simpa using hk
  exact ⟨hw, Blk.new u _ _⟩
theorem Bc.new1 (h : Bc N T x c u) : Ka (.pointer (some ⟨u.heap.size, 0, none⟩)) x := fun k hk hx => by
  obtain rfl : u.heap.size = k := by simpa using hk
  exact Nat.lt_irrefl _ (h _ hx).2.lt
theorem Bc.new2 (h : Bc N T x c u) : Ka x (.pointer (some ⟨u.heap.size, 0, none⟩)) := fun k hx hk => by
  obtain rfl : u.heap.size = k := by simpa using hk
  exact Nat.lt_irrefl _ (h _ hx).2.lt
theorem Bc.far {k : Nat} (h : Bc N T x c u) (hne : x ≠ .pointer (some ⟨k, 0, none⟩)) (n : Nat) (v : Value) : Bc N T x c (u.setCell ⟨k, n, none⟩ v) := fun j hj => by
  obtain ⟨a, b⟩ := h j hj
  exact ⟨a, b.far (p := ⟨k, n, none⟩) (fun e => hne (by rw [hj]; exact e ▸ rfl)) v⟩
theorem Bc.set {k : Nat} (h : Bc N T (.pointer (some ⟨k, 0, none⟩)) l u) (n : Nat) (v : Value) : Bc N T (.pointer (some ⟨k, 0, none⟩)) (l.set n v) (u.setCell ⟨k, n, none⟩ v) := fun j hj => by
  obtain rfl : k = j := by simpa using hj
  obtain ⟨a, b⟩ := h k rfl
  exact ⟨a, b.set n v⟩
theorem B3.undef (h : Blk w A al T) : B3 w A T al c1 c2 c3 undef undef undef w.drew :=
  ⟨h, (Below.refl _ _).drew, ⟨fun k e => (by simp [Go.undef] at e), fun k e => (by simp [Go.undef] at e), fun k e => (by simp [Go.undef] at e)⟩, fun k e => (by simp [Go.undef] at e), fun k e => (by simp [Go.undef] at e), fun k e => (by simp [Go.undef] at e)⟩
theorem B3.alloc1 (h : B3 w A T al l c2 c3 x1 x2 x3 u) : B3 w A T al l c2 c3 (.pointer (some ⟨u.heap.size, 0, none⟩)) x2 x3 (u.alloc (.cells l.toArray T)) := by
  obtain ⟨h1, h2, ⟨hc1, hc2, hc3⟩, ha12, ha13, ha23⟩ := h
  exact ⟨h1.alloc _, bt h2 (below_alloc u _), ⟨Bc.new h2.size, hc2.alloc _, hc3.alloc _⟩, hc2.new1, hc3.new1, ha23⟩
theorem B3.alloc2 (h : B3 w A T al c1 l c3 x1 x2 x3 u) : B3 w A T al c1 l c3 x1 (.pointer (some ⟨u.heap.size, 0, none⟩)) x3 (u.alloc (.cells l.toArray T)) := by
  obtain ⟨h1, h2, ⟨hc1, hc2, hc3⟩, ha12, ha13, ha23⟩ := h
  exact ⟨h1.alloc _, bt h2 (below_alloc u _), ⟨hc1.alloc _, Bc.new h2.size, hc3.alloc _⟩, hc1.new2, ha13, hc3.new1⟩
theorem B3.alloc3 (h : B3 w A T al c1 c2 l x1 x2 x3 u) : B3 w A T al c1 c2 l x1 x2 (.pointer (some ⟨u.heap.size, 0, none⟩)) (u.alloc (.cells l.toArray T)) := by
  obtain ⟨h1, h2, ⟨hc1, hc2, hc3⟩, ha12, ha13, ha23⟩ := h
  exact ⟨h1.alloc _, bt h2 (below_alloc u _), ⟨hc1.alloc _, hc2.alloc _, Bc.new h2.size⟩, ha12, hc1.new2, hc2.new2⟩
theorem B3.set1 {k : Nat} (h : B3 w A T al l c2 c3 (.pointer (some ⟨k, 0, none⟩)) x2 x3 u) (hA : A < w.heap.size) (n : Nat) (v : Value) : B3 w A T al (l.set n v) c2 c3 (.pointer (some ⟨k, 0, none⟩)) x2 x3 (u.setCell ⟨k, n, none⟩ v) := by
  obtain ⟨h1, h2, ⟨hc1, hc2, hc3⟩, ha12, ha13, ha23⟩ := h
  obtain ⟨a1, a2⟩ := hc1 k rfl
  exact ⟨h1.far (p := ⟨k, n, none⟩) (by show A ≠ k; omega) v, h2.setCell (p := ⟨k, n, none⟩) a1 v, ⟨(hc1.set n v), (hc2.far (ha12 k rfl) n v), (hc3.far (ha13 k rfl) n v)⟩, ha12, ha13, ha23⟩
theorem B3.set2 {k : Nat} (h : B3 w A T al c1 l c3 x1 (.pointer (some ⟨k, 0, none⟩)) x3 u) (hA : A < w.heap.size) (n : Nat) (v : Value) : B3 w A T al c1 (l.set n v) c3 x1 (.pointer (some ⟨k, 0, none⟩)) x3 (u.setCell ⟨k, n, none⟩ v) := by
  obtain ⟨h1, h2, ⟨hc1, hc2, hc3⟩, ha12, ha13, ha23⟩ := h
  obtain ⟨a1, a2⟩ := hc2 k rfl
  exact ⟨h1.far (p := ⟨k, n, none⟩) (by show A ≠ k; omega) v, h2.setCell (p := ⟨k, n, none⟩) a1 v, ⟨(hc1.far (fun e => ha12 k e rfl) n v), (hc2.set n v), (hc3.far (ha23 k rfl) n v)⟩, ha12, ha13, ha23⟩
theorem B3.set3 {k : Nat} (h : B3 w A T al c1 c2 l x1 x2 (.pointer (some ⟨k, 0, none⟩)) u) (hA : A < w.heap.size) (n : Nat) (v : Value) : B3 w A T al c1 c2 (l.set n v) x1 x2 (.pointer (some ⟨k, 0, none⟩)) (u.setCell ⟨k, n, none⟩ v) := by
  obtain ⟨h1, h2, ⟨hc1, hc2, hc3⟩, ha12, ha13, ha23⟩ := h
  obtain ⟨a1, a2⟩ := hc3 k rfl
  exact ⟨h1.far (p := ⟨k, n, none⟩) (by show A ≠ k; omega) v, h2.setCell (p := ⟨k, n, none⟩) a1 v, ⟨(hc1.far (fun e => ha13 k e rfl) n v), (hc2.far (fun e => ha23 k e rfl) n v), (hc3.set n v)⟩, ha12, ha13, ha23⟩
theorem B3.put1 {k : Nat} {z0 z1 z2 z3 z4 z5 z6 z7 z8 z9 z10 z11 z12 z13 z14 : Value} (h : B3 w A T al [z0, z1, z2, z3, z4, z5, z6, z7, z8, z9, z10, z11, z12, z13, z14] c2 c3 (.pointer (some ⟨k, 0, none⟩)) x2 x3 u) (hA : A < w.heap.size) (v0 v1 v2 v3 v4 v5 v6 v7 v8 v9 v10 v11 v12 v13 v14 : Value) : B3 w A T al [v0, v1, v2, v3, v4, v5, v6, v7, v8, v9, v10, v11, v12, v13, v14] c2 c3 (.pointer (some ⟨k, 0, none⟩)) x2 x3 (((((((((((((((u.setCell ⟨k, 0, none⟩ v0).setCell ⟨k, 1, none⟩ v1).setCell ⟨k, 2, none⟩ v2).setCell ⟨k, 3, none⟩ v3).setCell ⟨k, 4, none⟩ v4).setCell ⟨k, 5, none⟩ v5).setCell ⟨k, 6, none⟩ v6).setCell ⟨k, 7, none⟩ v7).setCell ⟨k, 8, none⟩ v8).setCell ⟨k, 9, none⟩ v9).setCell ⟨k, 10, none⟩ v10).setCell ⟨k, 11, none⟩ v11).setCell ⟨k, 12, none⟩ v12).setCell ⟨k, 13, none⟩ v13).setCell ⟨k, 14, none⟩ v14) := (((((((((((((((h.set1 hA 0 v0).set1 hA 1 v1).set1 hA 2 v2).set1 hA 3 v3).set1 hA 4 v4).set1 hA 5 v5).set1 hA 6 v6).set1 hA 7 v7).set1 hA 8 v8).set1 hA 9 v9).set1 hA 10 v10).set1 hA 11 v11).set1 hA 12 v12).set1 hA 13 v13).set1 hA 14 v14)
theorem B3.put2 {k : Nat} {z0 z1 z2 z3 z4 z5 z6 z7 z8 z9 z10 z11 z12 z13 z14 : Value} (h : B3 w A T al c1 [z0, z1, z2, z3, z4, z5, z6, z7, z8, z9, z10, z11, z12, z13, z14] c3 x1 (.pointer (some ⟨k, 0, none⟩)) x3 u) (hA : A < w.heap.size) (v0 v1 v2 v3 v4 v5 v6 v7 v8 v9 v10 v11 v12 v13 v14 : Value) : B3 w A T al c1 [v0, v1, v2, v3, v4, v5, v6, v7, v8, v9, v10, v11, v12, v13, v14] c3 x1 (.pointer (some ⟨k, 0, none⟩)) x3 (((((((((((((((u.setCell ⟨k, 0, none⟩ v0).setCell ⟨k, 1, none⟩ v1).setCell ⟨k, 2, none⟩ v2).setCell ⟨k, 3, none⟩ v3).setCell ⟨k, 4, none⟩ v4).setCell ⟨k, 5, none⟩ v5).setCell ⟨k, 6, none⟩ v6).setCell ⟨k, 7, none⟩ v7).setCell ⟨k, 8, none⟩ v8).setCell ⟨k, 9, none⟩ v9).setCell ⟨k, 10, none⟩ v10).setCell ⟨k, 11, none⟩ v11).setCell ⟨k, 12, none⟩ v12).setCell ⟨k, 13, none⟩ v13).setCell ⟨k, 14, none⟩ v14) := (((((((((((((((h.set2 hA 0 v0).set2 hA 1 v1).set2 hA 2 v2).set2 hA 3 v3).set2 hA 4 v4).set2 hA 5 v5).set2 hA 6 v6).set2 hA 7 v7).set2 hA 8 v8).set2 hA 9 v9).set2 hA 10 v10).set2 hA 11 v11).set2 hA 12 v12).set2 hA 13 v13).set2 hA 14 v14)
theorem B3.put3 {k : Nat} {z0 z1 z2 z3 z4 z5 z6 z7 z8 z9 z10 z11 z12 z13 z14 : Value} (h : B3 w A T al c1 c2 [z0, z1, z2, z3, z4, z5, z6, z7, z8, z9, z10, z11, z12, z13, z14] x1 x2 (.pointer (some ⟨k, 0, none⟩)) u) (hA : A < w.heap.size) (v0 v1 v2 v3 v4 v5 v6 v7 v8 v9 v10 v11 v12 v13 v14 : Value) : B3 w A T al c1 c2 [v0, v1, v2, v3, v4, v5, v6, v7, v8, v9, v10, v11, v12, v13, v14] x1 x2 (.pointer (some ⟨k, 0, none⟩)) (((((((((((((((u.setCell ⟨k, 0, none⟩ v0).setCell ⟨k, 1, none⟩ v1).setCell ⟨k, 2, none⟩ v2).setCell ⟨k, 3, none⟩ v3).setCell ⟨k, 4, none⟩ v4).setCell ⟨k, 5, none⟩ v5).setCell ⟨k, 6, none⟩ v6).setCell ⟨k, 7, none⟩ v7).setCell ⟨k, 8, none⟩ v8).setCell ⟨k, 9, none⟩ v9).setCell ⟨k, 10, none⟩ v10).setCell ⟨k, 11, none⟩ v11).setCell ⟨k, 12, none⟩ v12).setCell ⟨k, 13, none⟩ v13).setCell ⟨k, 14, none⟩ v14) := (((((((((((((((h.set3 hA 0 v0).set3 hA 1 v1).set3 hA 2 v2).set3 hA 3 v3).set3 hA 4 v4).set3 hA 5 v5).set3 hA 6 v6).set3 hA 7 v7).set3 hA 8 v8).set3 hA 9 v9).set3 hA 10 v10).set3 hA 11 v11).set3 hA 12 v12).set3 hA 13 v13).set3 hA 14 v14)
end
end Go.Proofs.Ytiodfbbgbnbdpaa
end
section
/- A whole block is stored by one operation: what holds behind it. -/
namespace Go.Proofs.Ytiodfbbgbnbdpaa
set_option linter.unusedVariables false
open Go.RowKit
open Crc
theorem setRow_far (u : World) (k j : Nat) (cs : Array Value) (h : j ≠ k) : (u.setRow k cs).heap[j]? = u.heap[j]? := by
  simp only [World.setRow, Array.getElem?_modify]
  rw [if_neg (Ne.symm h)]
theorem setRow_size (u : World) (k : Nat) (cs : Array Value) : (u.setRow k cs).heap.size = u.heap.size := by simp [World.setRow]
section
variable {w u : World} {k g : Nat} {T t : TypeId} {zs vs : List Value}
theorem Blk.row (h : Blk u k zs T) (vs : List Value) : Blk (u.setRow k vs.toArray) k vs T := setRow_heap u k zs.toArray vs.toArray T (0, 0) h
theorem Blk.rowFar (h : Blk u g zs t) (hne : g ≠ k) (cs : Array Value) : Blk (u.setRow k cs) g zs t := (setRow_far u k g cs hne).trans h
theorem Bc.row {N : Nat} (h : Bc N T (.pointer (some ⟨k, 0, none⟩)) zs u) (vs : List Value) : Bc N T (.pointer (some ⟨k, 0, none⟩)) vs (u.setRow k vs.toArray) := fun j hj => by
  obtain rfl : k = j := by simpa using hj
  exact ⟨(h k rfl).1, (h k rfl).2.row vs⟩
theorem Bc.rowFar {N : Nat} {x : Value} (h : Bc N T x zs u) (hne : x ≠ .pointer (some ⟨k, 0, none⟩)) (cs : Array Value) : Bc N T x zs (u.setRow k cs) := fun j hj => by
  obtain ⟨a, b⟩ := h j hj
  exact ⟨a, b.rowFar (fun e => hne (by rw [hj]; exact e ▸ rfl)) cs⟩
end
section
variable {w u : World} {A : Nat} {T : TypeId} {al c1 c2 c3 : List Value} {x1 x2 x3 : Value}
theorem B3.row1 {k : Nat} (h : B3 w A T al c1 c2 c3 (.pointer (some ⟨k, 0, none⟩)) x2 x3 u) (hA : A < w.heap.size) (vs : List Value) : B3 w A T al vs c2 c3 (.pointer (some ⟨k, 0, none⟩)) x2 x3 (u.setRow k vs.toArray) := by
  obtain ⟨h1, h2, ⟨hc1, hc2, hc3⟩, ha12, ha13, ha23⟩ := h
  obtain ⟨a1, a2⟩ := hc1 k rfl
  exact ⟨h1.rowFar (by omega) _, below_setRow h2 a1 _, ⟨(hc1.row vs), (hc2.rowFar (ha12 k rfl) _), (hc3.rowFar (ha13 k rfl) _)⟩, ha12, ha13, ha23⟩
theorem B3.row2 {k : Nat} (h : B3 w A T al c1 c2 c3 x1 (.pointer (some ⟨k, 0, none⟩)) x3 u) (hA : A < w.heap.size) (vs : List Value) : B3 w A T al c1 vs c3 x1 (.pointer (some ⟨k, 0, none⟩)) x3 (u.setRow k vs.toArray) := by
  obtain ⟨h1, h2, ⟨hc1, hc2, hc3⟩, ha12, ha13, ha23⟩ := h
  obtain ⟨a1, a2⟩ := hc2 k rfl
  exact ⟨h1.rowFar (by omega) _, below_setRow h2 a1 _, ⟨(hc1.rowFar (fun e => ha12 k e rfl) _), (hc2.row vs), (hc3.rowFar (ha23 k rfl) _)⟩, ha12, ha13, ha23⟩
theorem B3.row3 {k : Nat} (h : B3 w A T al c1 c2 c3 x1 x2 (.pointer (some ⟨k, 0, none⟩)) u) (hA : A < w.heap.size) (vs : List Value) : B3 w A T al c1 c2 vs x1 x2 (.pointer (some ⟨k, 0, none⟩)) (u.setRow k vs.toArray) := by
  obtain ⟨h1, h2, ⟨hc1, hc2, hc3⟩, ha12, ha13, ha23⟩ := h
  obtain ⟨a1, a2⟩ := hc3 k rfl
  exact ⟨h1.rowFar (by omega) _, below_setRow h2 a1 _, ⟨(hc1.rowFar (fun e => ha13 k e rfl) _), (hc2.rowFar (fun e => ha23 k e rfl) _), (hc3.row vs)⟩, ha12, ha13, ha23⟩
end
end Go.Proofs.Ytiodfbbgbnbdpaa
end
section
/- Three variables that are made in any order, nothing else touched. -/
namespace Go.Proofs.Ytiodfbbgbnbdpaa
set_option linter.unusedVariables false
open Go.RowKit
open Crc
def U3 (w : World) (T : TypeId) (c1 c2 c3 : List Value) (x1 x2 x3 : Value) (u : World) : Prop :=
  Below w.heap.size w u ∧ (Bc w.heap.size T x1 c1 u ∧ Bc w.heap.size T x2 c2 u ∧ Bc w.heap.size T x3 c3 u) ∧ Ka x1 x2 ∧ Ka x1 x3 ∧ Ka x2 x3
theorem BuT.addQ {T : TypeId} {ex : List Value} {P Q : Nat → Prop} {B b : Nat} {bs : List Value} {w w' : World} (h : BuT T ex B b P bs w) (hb : Below w.heap.size w w') (hQ : ∀ k, Q k → w.heap.size ≤ k ∧ k < w'.heap.size ∧ Small w' k) : BuT T ex B b (fun i => P i ∨ Q i) bs w' := by
  obtain ⟨h1, p, v, h2, h3, h4⟩ := h
  have h5 := h4.keep (fun i hi _ => hb.block i hi) hb.size
  refine ⟨h1, p, v, h2, h3.below hb, h5.1, h5.2.1, h5.2.2.1, fun i hi => ?_⟩
  rcases hi with hi | hi
  · exact h5.2.2.2 i hi
  · obtain ⟨q1, q2, q3⟩ := hQ i hi
    refine ⟨q2, fun e => ?_, q3, fun e => ?_⟩
    · have := h3.lt; omega
    · have := (h4.1.lt i e).2; omega
section
variable {w u : World} {T : TypeId} {c1 c2 c3 l : List Value} {x1 x2 x3 : Value}
theorem U3.undef : U3 w T c1 c2 c3 undef undef undef w.drew :=
  ⟨(Below.refl _ _).drew, ⟨fun k e => (by simp [Go.undef] at e), fun k e => (by simp [Go.undef] at e), fun k e => (by simp [Go.undef] at e)⟩, fun k e => (by simp [Go.undef] at e), fun k e => (by simp [Go.undef] at e), fun k e => (by simp [Go.undef] at e)⟩
theorem U3.alloc1 (h : U3 w T l c2 c3 x1 x2 x3 u) : U3 w T l c2 c3 (.pointer (some ⟨u.heap.size, 0, none⟩)) x2 x3 (u.alloc (.cells l.toArray T)) := by
  obtain ⟨h2, ⟨hc1, hc2, hc3⟩, ha12, ha13, ha23⟩ := h
  exact ⟨bt h2 (below_alloc u _), ⟨Bc.new h2.size, hc2.alloc _, hc3.alloc _⟩, hc2.new1, hc3.new1, ha23⟩
theorem U3.alloc2 (h : U3 w T c1 l c3 x1 x2 x3 u) : U3 w T c1 l c3 x1 (.pointer (some ⟨u.heap.size, 0, none⟩)) x3 (u.alloc (.cells l.toArray T)) := by
  obtain ⟨h2, ⟨hc1, hc2, hc3⟩, ha12, ha13, ha23⟩ := h
  exact ⟨bt h2 (below_alloc u _), ⟨hc1.alloc _, Bc.new h2.size, hc3.alloc _⟩, hc1.new2, ha13, hc3.new1⟩
theorem U3.alloc3 (h : U3 w T c1 c2 l x1 x2 x3 u) : U3 w T c1 c2 l x1 x2 (.pointer (some ⟨u.heap.size, 0, none⟩)) (u.alloc (.cells l.toArray T)) := by
  obtain ⟨h2, ⟨hc1, hc2, hc3⟩, ha12, ha13, ha23⟩ := h
  exact ⟨bt h2 (below_alloc u _), ⟨hc1.alloc _, hc2.alloc _, Bc.new h2.size⟩, ha12, hc1.new2, hc2.new2⟩
theorem U3.set1 {k : Nat} (h : U3 w T l c2 c3 (.pointer (some ⟨k, 0, none⟩)) x2 x3 u) (n : Nat) (v : Value) : U3 w T (l.set n v) c2 c3 (.pointer (some ⟨k, 0, none⟩)) x2 x3 (u.setCell ⟨k, n, none⟩ v) := by
  obtain ⟨h2, ⟨hc1, hc2, hc3⟩, ha12, ha13, ha23⟩ := h
  obtain ⟨a1, a2⟩ := hc1 k rfl
  exact ⟨h2.setCell (p := ⟨k, n, none⟩) a1 v, ⟨(hc1.set n v), (hc2.far (ha12 k rfl) n v), (hc3.far (ha13 k rfl) n v)⟩, ha12, ha13, ha23⟩
theorem U3.set2 {k : Nat} (h : U3 w T c1 l c3 x1 (.pointer (some ⟨k, 0, none⟩)) x3 u) (n : Nat) (v : Value) : U3 w T c1 (l.set n v) c3 x1 (.pointer (some ⟨k, 0, none⟩)) x3 (u.setCell ⟨k, n, none⟩ v) := by
  obtain ⟨h2, ⟨hc1, hc2, hc3⟩, ha12, ha13, ha23⟩ := h
  obtain ⟨a1, a2⟩ := hc2 k rfl
  exact ⟨h2.setCell (p := ⟨k, n, none⟩) a1 v, ⟨(hc1.far (fun e => ha12 k e rfl) n v), (hc2.set n v), (hc3.far (ha23 k rfl) n v)⟩, ha12, ha13, ha23⟩
theorem U3.set3 {k : Nat} (h : U3 w T c1 c2 l x1 x2 (.pointer (some ⟨k, 0, none⟩)) u) (n : Nat) (v : Value) : U3 w T c1 c2 (l.set n v) x1 x2 (.pointer (some ⟨k, 0, none⟩)) (u.setCell ⟨k, n, none⟩ v) := by
  obtain ⟨h2, ⟨hc1, hc2, hc3⟩, ha12, ha13, ha23⟩ := h
  obtain ⟨a1, a2⟩ := hc3 k rfl
  exact ⟨h2.setCell (p := ⟨k, n, none⟩) a1 v, ⟨(hc1.far (fun e => ha13 k e rfl) n v), (hc2.far (fun e => ha23 k e rfl) n v), (hc3.set n v)⟩, ha12, ha13, ha23⟩
end
end Go.Proofs.Ytiodfbbgbnbdpaa
end
